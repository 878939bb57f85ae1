/- The machine's side of a law, function by function: a Lean function with the Go function's answers and the proof that the Go code comes to them. No condition. Written by this session's program over the kit's print, this session's own contracts set in. -/
import Derived.Test.YtlijlailbjjfbaaPFnExactStepIslandsx0
import Derived.Test.YtlijlailbjjfbaaPFnExactStepIslandsx7
import Derived.Test.YtlijlailbjjfbaaPFnExactStepIslandsx8
import Derived.Test.YtlijlailbjjfbaaPFnExactStepIslandsx10
import Derived.Test.YtlijlailbjjfbaaPFnExactStepIslandsx11
namespace Go.Proofs.Ytlijlailbjjfbaa.PFnExactStepIslands
open Go.RowKit Go.Proofs.YtlijlailbjjfbaaW.PrintWords Go.Proofs.YtlijlailbjjfbaaW.PrintLast Go.Proofs.YtlijlailbjjfbaaW.PrintMore
attribute [local go_sem] max2_int min2_int max_two min_two max_three min_three max_four min_four   -- for this text's walks alone
set_option linter.unusedVariables false
set_option linter.unusedSimpArgs false

/-! ### impl_PushLine: function 41 -/
mutual
def impl_PushLine.j0 : Nat → List (S31) → Int → Int → Bool → Option ((List (S31)) × Bool)
 | 0, _, _, _, _ => none
 | k + 1, x0, x1, x2, x22 => if x22 = true then (some (([] : List (S31)), false)) else ((impl_Body.f x0).bind fun t248 => (impl_PushLine.l0 k x1 t248 x2 0))
def impl_PushLine.l0 : Nat → Int → List (S31) → Int → Int → Option ((List (S31)) × Bool)
 | 0, _, _, _, _ => none
 | k + 1, x1, x8, x25, x26 => if x26 < x25 then (impl_PushLine.l1 k x1 x8 1 x25 x26) else (some (x8, true))
def impl_PushLine.l1 : Nat → Int → List (S31) → Int → Int → Int → Option ((List (S31)) × Bool)
 | 0, _, _, _, _, _ => none
 | k + 1, x1, x8, x9, x25, x26 => if x9 < (x8.length : Int) then (if 0 ≤ (wrap64 (x9 - 1)) then (if (wrap64 (x9 - 1)) < (x8.length : Int) then (if 0 ≤ x9 then ((impl_pushed.f k ((rd_T31 x8 (wrap64 (x9 - 1))).f0) ((rd_T31 x8 (wrap64 (x9 - 1))).f1) ((rd_T31 x8 (wrap64 (x9 - 1))).f2) ((rd_T31 x8 (wrap64 (x9 - 1))).f3) ((rd_T31 x8 x9).f0) ((rd_T31 x8 x9).f1) ((rd_T31 x8 x9).f2) ((rd_T31 x8 x9).f3) x1).bind fun bt253 => ((some ((x8.set ((wrap64 (x9 - 1)) : Int).toNat (⟨bt253.1, bt253.2.1, bt253.2.2.1, bt253.2.2.2.1⟩ : S31)).set (x9 : Int).toNat (⟨bt253.2.2.2.2.1, bt253.2.2.2.2.2.1, bt253.2.2.2.2.2.2.1, bt253.2.2.2.2.2.2.2⟩ : S31) : List (S31))).bind fun y262 => ((impl_isBody.f ((rd_T31 y262 (wrap64 (x9 - 1))).f0) ((rd_T31 y262 (wrap64 (x9 - 1))).f1) ((rd_T31 y262 (wrap64 (x9 - 1))).f2) ((rd_T31 y262 (wrap64 (x9 - 1))).f3)).bind fun t264 => (if t264 = true then ((impl_isBody.f ((rd_T31 y262 x9).f0) ((rd_T31 y262 x9).f1) ((rd_T31 y262 x9).f2) ((rd_T31 y262 x9).f3)).bind fun t266 => (if t266 = true then (impl_PushLine.l1 k x1 y262 (wrap64 (x9 + 1)) x25 x26) else (some (([] : List (S31)), false)))) else (some (([] : List (S31)), false)))))) else (none)) else (none)) else (none)) else (impl_PushLine.l0 k x1 x8 x25 (wrap64 (x26 + 1)))
end
def impl_PushLine.f (k : Nat) (l0 : List (S31)) (a1 : Int) (a2 : Int) : Option ((List (S31)) × Bool) := (impl_GoodLine.f k l0).bind fun t245 => (if t245 = true then ((impl_isBounce.f a1).bind fun t246 => (if t246 = true then ((impl_inRange.f a2 0 50).bind fun t247 => (impl_PushLine.j0 k l0 a1 a2 (!t247))) else (impl_PushLine.j0 k l0 a1 a2 true))) else (impl_PushLine.j0 k l0 a1 a2 true))
theorem impl_PushLine.mono_l : ∀ k, (∀ y0 y1 y2 y3, LeO (impl_PushLine.j0 k y0 y1 y2 y3) (impl_PushLine.j0 (k + 1) y0 y1 y2 y3)) ∧ (∀ y0 y1 y2 y3, LeO (impl_PushLine.l0 k y0 y1 y2 y3) (impl_PushLine.l0 (k + 1) y0 y1 y2 y3)) ∧ (∀ y0 y1 y2 y3 y4, LeO (impl_PushLine.l1 k y0 y1 y2 y3 y4) (impl_PushLine.l1 (k + 1) y0 y1 y2 y3 y4))
 | 0 => ⟨fun _ _ _ _ r h => by simp [impl_PushLine.j0] at h, fun _ _ _ _ r h => by simp [impl_PushLine.l0] at h, fun _ _ _ _ _ r h => by simp [impl_PushLine.l1] at h⟩
 | k + 1 => by
  obtain ⟨ih0, ih1, ih2⟩ := impl_PushLine.mono_l k
  refine ⟨?_, ?_, ?_⟩
  ·intro y0 y1 y2 y3
   unfold impl_PushLine.j0
   repeat' first
   | (with_reducible exact ih0 _ _ _ _)
   | (with_reducible exact ih1 _ _ _ _)
   | (with_reducible exact ih2 _ _ _ _ _)
   | (with_reducible exact impl_GoodLine.mono _ _)
   | (with_reducible exact impl_pushed.mono _ _ _ _ _ _ _ _ _ _)
   | (with_reducible exact LeO.refl _)
   | (with_reducible exact LeO.none _)
   | (with_reducible refine LeO.ite ?_ ?_)
   | (with_reducible refine LeO.bind ?_ (fun _ => ?_))
   | exact ih0 _ _ _ _
   | exact ih1 _ _ _ _
   | exact ih2 _ _ _ _ _
   | exact impl_GoodLine.mono _ _
   | exact impl_pushed.mono _ _ _ _ _ _ _ _ _ _
   | exact LeO.none _
   | refine LeO.ite ?_ ?_
   | refine LeO.bind ?_ (fun _ => ?_)
  ·intro y0 y1 y2 y3
   unfold impl_PushLine.l0
   repeat' first
   | (with_reducible exact ih0 _ _ _ _)
   | (with_reducible exact ih1 _ _ _ _)
   | (with_reducible exact ih2 _ _ _ _ _)
   | (with_reducible exact impl_GoodLine.mono _ _)
   | (with_reducible exact impl_pushed.mono _ _ _ _ _ _ _ _ _ _)
   | (with_reducible exact LeO.refl _)
   | (with_reducible exact LeO.none _)
   | (with_reducible refine LeO.ite ?_ ?_)
   | (with_reducible refine LeO.bind ?_ (fun _ => ?_))
   | exact ih0 _ _ _ _
   | exact ih1 _ _ _ _
   | exact ih2 _ _ _ _ _
   | exact impl_GoodLine.mono _ _
   | exact impl_pushed.mono _ _ _ _ _ _ _ _ _ _
   | exact LeO.none _
   | refine LeO.ite ?_ ?_
   | refine LeO.bind ?_ (fun _ => ?_)
  ·intro y0 y1 y2 y3 y4
   unfold impl_PushLine.l1
   repeat' first
   | (with_reducible exact ih0 _ _ _ _)
   | (with_reducible exact ih1 _ _ _ _)
   | (with_reducible exact ih2 _ _ _ _ _)
   | (with_reducible exact impl_GoodLine.mono _ _)
   | (with_reducible exact impl_pushed.mono _ _ _ _ _ _ _ _ _ _)
   | (with_reducible exact LeO.refl _)
   | (with_reducible exact LeO.none _)
   | (with_reducible refine LeO.ite ?_ ?_)
   | (with_reducible refine LeO.bind ?_ (fun _ => ?_))
   | exact ih0 _ _ _ _
   | exact ih1 _ _ _ _
   | exact ih2 _ _ _ _ _
   | exact impl_GoodLine.mono _ _
   | exact impl_pushed.mono _ _ _ _ _ _ _ _ _ _
   | exact LeO.none _
   | refine LeO.ite ?_ ?_
   | refine LeO.bind ?_ (fun _ => ?_)
theorem impl_PushLine.mono : ∀ a0 a1 a2 k, LeO (impl_PushLine.f k a0 a1 a2) (impl_PushLine.f (k + 1) a0 a1 a2) := by
 intro a0 a1 a2 k
 obtain ⟨ih0, ih1, ih2⟩ := impl_PushLine.mono_l k
 unfold impl_PushLine.f
 repeat' first
   | (with_reducible exact ih0 _ _ _ _)
   | (with_reducible exact ih1 _ _ _ _)
   | (with_reducible exact ih2 _ _ _ _ _)
   | (with_reducible exact impl_GoodLine.mono _ _)
   | (with_reducible exact impl_pushed.mono _ _ _ _ _ _ _ _ _ _)
   | (with_reducible exact LeO.refl _)
   | (with_reducible exact LeO.none _)
   | (with_reducible refine LeO.ite ?_ ?_)
   | (with_reducible refine LeO.bind ?_ (fun _ => ?_))
   | exact ih0 _ _ _ _
   | exact ih1 _ _ _ _
   | exact ih2 _ _ _ _ _
   | exact impl_GoodLine.mono _ _
   | exact impl_pushed.mono _ _ _ _ _ _ _ _ _ _
   | exact LeO.none _
   | refine LeO.ite ?_ ?_
   | refine LeO.bind ?_ (fun _ => ?_)
def impl_PushLine.T9 : Bool × List (List Nat × List Nat) := (true, [([], []), ([], []), ([1], [1]), ([], []), ([], []), ([], []), ([], []), ([6], [6]), ([5, 7], [5, 7]), ([8], [8]), ([], []), ([], []), ([10, 11], [10, 11]), ([12], [12]), ([], []), ([9, 13, 14], [9, 13, 14]), ([15], [15]), ([16], [16]), ([16], [16]), ([0, 2, 0, 1, 2, 5, 6, 7, 8, 9, 10, 11, 12, 13, 14, 15, 16, 17], [0, 2]), ([19, 17, 15, 0, 1, 2, 5, 6, 7, 8, 9, 10, 11, 12, 13, 14, 15, 16, 17], [17, 19]), ([3, 4, 0, 1, 2, 3, 4, 5, 6, 7, 8, 9, 10, 11, 12, 13, 14, 15, 16, 17, 18, 19, 20], [3, 4]), ([21, 18, 20, 0, 1, 2, 3, 4, 5, 6, 7, 8, 9, 10, 11, 12, 13, 14, 15, 16, 17, 18, 19, 20], [18, 21])])
def impl_PushLine.B9 : List Nat := [0, 0, 2, 0, 0, 0, 0, 64, 224, 480, 0, 0, 3072, 7168, 0, 32736, 65504, 131040, 131040, 262119, 786407, 2097151, 4194303]
theorem impl_PushLine.tab9 : rtab .any (opsOf Try.f41 9) = impl_PushLine.T9 := by kernel_rfl
theorem impl_PushLine.bits9 : waitsOk impl_PushLine.T9.2 impl_PushLine.B9 = true := by kernel_rfl
set_option maxHeartbeats 8000000 in
set_option maxRecDepth 100000 in
theorem impl_PushLine.calls (k : Nat) (A0 : Option Addr) (c0 : Nat) (l0 : List (S31)) (a1 : Int) (a2 : Int) (r1 : List (S31)) (r2 : Bool) (w : World) (hr0 : Kd.C k31 w A0 l0.length l0) (hc0 : l0.length ≤ c0) (h : impl_PushLine.f k l0 a1 a2 = some (r1, r2)) :
  Calls Try.prog 41 #[.slice A0 l0.length c0, .int .i64 a1, .int .i64 a2] w fun e w' => ∃ v0_ : Value, e = .returned (.tuple #[v0_, .bool r2]) ∧ Kd.R k31 31 w' w.heap.size (fun _ => True) v0_ r1 ∧ Below w.heap.size w w' := by
 have hu31 := Try.underlying31
 have HR0 := Aside0.mk hr0
 have HC0 := Aside0.mk hc0
 clear hr0 hc0
 have HB := Aside0.mk (Below.refl w.heap.size w)
 have H : ((impl_GoodLine.f k l0).bind fun t245 => (if t245 = true then ((impl_isBounce.f a1).bind fun t246 => (if t246 = true then ((impl_inRange.f a2 0 50).bind fun t247 => (impl_PushLine.j0 k l0 a1 a2 (!t247))) else (impl_PushLine.j0 k l0 a1 a2 true))) else (impl_PushLine.j0 k l0 a1 a2 true))) = some (r1, r2) := h
 clear h
 have HC4 := Aside0.mk H
 clear H
 go_enter Try.func41, Try.ntmps41
 go_upto_region 1 with (fail)
 go_cut [22] (fun v22 wc => ∃ (kq : Nat) (x22_3 : Bool), v22 = .bool x22_3 ∧ Aside0 (impl_PushLine.j0 kq l0 a1 a2 x22_3 = some (r1, r2)) ∧ Aside0 (kq ≤ k) ∧ Aside0 (Below w.heap.size w wc))
 case first =>
  have H := HC4.out
  clear HC4
  replace H := Option.bind_eq_some_iff.mp H
  obtain ⟨t245, A50, H⟩ := H
  replace H : (if t245 = true then ((impl_isBounce.f a1).bind fun t246 => (if t246 = true then ((impl_inRange.f a2 0 50).bind fun t247 => (impl_PushLine.j0 k l0 a1 a2 (!t247))) else (impl_PushLine.j0 k l0 a1 a2 true))) else (impl_PushLine.j0 k l0 a1 a2 true)) = some (r1, r2) := H
  have A5 := Aside0.mk A50
  clear A50
  by_cases c6 : t245 = true
  ·subst c6
   have H1 : ((impl_isBounce.f a1).bind fun t246 => (if t246 = true then ((impl_inRange.f a2 0 50).bind fun t247 => (impl_PushLine.j0 k l0 a1 a2 (!t247))) else (impl_PushLine.j0 k l0 a1 a2 true))) = some (r1, r2) := by rw [if_pos rfl] at H; exact H
   clear H
   have H := H1
   clear H1
   replace H := Option.bind_eq_some_iff.mp H
   obtain ⟨t246, A70, H⟩ := H
   replace H : (if t246 = true then ((impl_inRange.f a2 0 50).bind fun t247 => (impl_PushLine.j0 k l0 a1 a2 (!t247))) else (impl_PushLine.j0 k l0 a1 a2 true)) = some (r1, r2) := H
   have A7 := Aside0.mk A70
   clear A70
   by_cases c8 : t246 = true
   ·subst c8
    have H1 : ((impl_inRange.f a2 0 50).bind fun t247 => (impl_PushLine.j0 k l0 a1 a2 (!t247))) = some (r1, r2) := by rw [if_pos rfl] at H; exact H
    clear H
    have H := H1
    clear H1
    replace H := Option.bind_eq_some_iff.mp H
    obtain ⟨t247, A90, H⟩ := H
    replace H : (impl_PushLine.j0 k l0 a1 a2 (!t247)) = some (r1, r2) := H
    have A9 := Aside0.mk A90
    clear A90
    have H' := Aside0.mk H
    clear H
    go_wp2_with (first | ((with_reducible refine gate_callee (f := 18) rfl ?_); refine goesL_ (some 11) rfl rfl Try.func18 (by kernel_rfl) rfl #[.slice A0 l0.length c0] rfl (by (try simp only [List.map_toArray, List.map_cons, List.map_nil]); first | done | rfl | (simp only [List.length_drop, List.length_take]; rfl)) ?_; (with_reducible refine (impl_GoodLine.calls k _ _ l0 true _ ?side1 ?side2 A5.out).mono ?_); (case side1 => repeat (first | exact (Kd.C_below HR0.out HB.out) | (with_reducible refine Kd.C_alloc ?_ _) | (with_reducible refine Kd.C_drewN ?_ _) | (with_reducible refine Kd.C_drew ?_))); (case side2 => exact HC0.out); rintro e w10 ⟨rfl, hb⟩; refine ⟨_, rfl, ?_⟩; have n0_ := z_bs HB hb; clear HB; have HB := n0_; clear n0_; (try clear hb); (try clear hb2); (try clear hk); (try clear hi)) | (go_at_call 75; (with_reducible refine (impl_isBounce.calls a1 true _ A7.out).mono ?_); rintro e w' ⟨rfl, ⟨nd, rfl⟩⟩) | (go_at_call 81; (with_reducible refine (impl_inRange.calls a2 0 50 t247 _ A9.out).mono ?_); rintro e w' ⟨rfl, ⟨nd, rfl⟩⟩))
    go_meet
    case rel => exact ⟨_, (!t247), (by first | rfl | (simp; done) | (simp [*]; done)), H', ⟨by first | omega | exact Nat.le_refl _⟩, ⟨blw⟩⟩
   ·replace c8 := Bool.eq_false_iff.mpr c8
    subst c8
    have H1 : (impl_PushLine.j0 k l0 a1 a2 true) = some (r1, r2) := by rw [if_neg (show ¬ (false = true) by decide)] at H; exact H
    clear H
    have H := H1
    clear H1
    have H' := Aside0.mk H
    clear H
    go_wp2_with (first | ((with_reducible refine gate_callee (f := 18) rfl ?_); refine goesL_ (some 11) rfl rfl Try.func18 (by kernel_rfl) rfl #[.slice A0 l0.length c0] rfl (by (try simp only [List.map_toArray, List.map_cons, List.map_nil]); first | done | rfl | (simp only [List.length_drop, List.length_take]; rfl)) ?_; (with_reducible refine (impl_GoodLine.calls k _ _ l0 true _ ?side1 ?side2 A5.out).mono ?_); (case side1 => repeat (first | exact (Kd.C_below HR0.out HB.out) | (with_reducible refine Kd.C_alloc ?_ _) | (with_reducible refine Kd.C_drewN ?_ _) | (with_reducible refine Kd.C_drew ?_))); (case side2 => exact HC0.out); rintro e w11 ⟨rfl, hb⟩; refine ⟨_, rfl, ?_⟩; have n0_ := z_bs HB hb; clear HB; have HB := n0_; clear n0_; (try clear hb); (try clear hb2); (try clear hk); (try clear hi)) | (go_at_call 75; (with_reducible refine (impl_isBounce.calls a1 false _ A7.out).mono ?_); rintro e w' ⟨rfl, ⟨nd, rfl⟩⟩))
    go_meet
    case rel => exact ⟨_, (true), (by first | rfl | (simp; done) | (simp [*]; done)), H', ⟨by first | omega | exact Nat.le_refl _⟩, ⟨blw⟩⟩
  ·replace c6 := Bool.eq_false_iff.mpr c6
   subst c6
   have H1 : (impl_PushLine.j0 k l0 a1 a2 true) = some (r1, r2) := by rw [if_neg (show ¬ (false = true) by decide)] at H; exact H
   clear H
   have H := H1
   clear H1
   have H' := Aside0.mk H
   clear H
   go_wp2_with (first | ((with_reducible refine gate_callee (f := 18) rfl ?_); refine goesL_ (some 11) rfl rfl Try.func18 (by kernel_rfl) rfl #[.slice A0 l0.length c0] rfl (by (try simp only [List.map_toArray, List.map_cons, List.map_nil]); first | done | rfl | (simp only [List.length_drop, List.length_take]; rfl)) ?_; (with_reducible refine (impl_GoodLine.calls k _ _ l0 false _ ?side1 ?side2 A5.out).mono ?_); (case side1 => repeat (first | exact (Kd.C_below HR0.out HB.out) | (with_reducible refine Kd.C_alloc ?_ _) | (with_reducible refine Kd.C_drewN ?_ _) | (with_reducible refine Kd.C_drew ?_))); (case side2 => exact HC0.out); rintro e w12 ⟨rfl, hb⟩; refine ⟨_, rfl, ?_⟩; have n0_ := z_bs HB hb; clear HB; have HB := n0_; clear n0_; (try clear hb); (try clear hb2); (try clear hk); (try clear hi)))
   go_meet
   case rel => exact ⟨_, (true), (by first | rfl | (simp; done) | (simp [*]; done)), H', ⟨by first | omega | exact Nat.le_refl _⟩, ⟨blw⟩⟩
 case rest =>
  clear HC4
  try clear c1
  try clear p2
  try clear c4
  try clear c6
  try clear c8
  obtain ⟨kq, x22_3, rfl, HA, HJ3, HB⟩ := hcut
  cases kq with
  | zero => exact absurd HA.out (by simp [impl_PushLine.j0])
  | succ kj3 =>
   have H := HA.out
   clear HA
   simp only [impl_PushLine.j0] at H
   by_cases c13 : x22_3 = true
   ·subst c13
    have H1 : (some (([] : List (S31)), false)) = some (r1, r2) := by rw [if_pos rfl] at H; exact H
    clear H
    have H := H1
    clear H1
    simp only [Option.some.injEq, Prod.mk.injEq] at H
    obtain ⟨rfl, rfl⟩ := H
    go_wp2
    go_ret2
    exact ⟨_, by first | rfl | (simp [errW_none, errW_some] <;> rfl) | (simp [*, errW_none, errW_some] <;> rfl), by first | exact Kd.R_nil _ _ _ _ _ | exact Kd.N_nil _ _ _ _ _ | exact Kd.V_nil _ _ _ _ _ | exact Kd.Q_nil _ _ _ _ _ | exact Kd.S_nil _ _ _ _ _, blw⟩
   ·replace c13 := Bool.eq_false_iff.mpr c13
    subst c13
    have H1 : ((impl_Body.f l0).bind fun t248 => (impl_PushLine.l0 kj3 a1 t248 a2 0)) = some (r1, r2) := by rw [if_neg (show ¬ (false = true) by decide)] at H; exact H
    clear H
    have H := H1
    clear H1
    replace H := Option.bind_eq_some_iff.mp H
    obtain ⟨t248, A140, H⟩ := H
    replace H : (impl_PushLine.l0 kj3 a1 t248 a2 0) = some (r1, r2) := H
    have A14 := Aside0.mk A140
    clear A140
    have H' := Aside0.mk H
    clear H
    go_wp2_with (first | ((with_reducible refine gate_callee (f := 89) rfl ?_); refine goesL_ (some 24) rfl rfl Try.func89 (by kernel_rfl) rfl #[.slice A0 l0.length c0] rfl (by (try simp only [List.map_toArray, List.map_cons, List.map_nil]); first | done | rfl | (simp only [List.length_drop, List.length_take]; rfl)) ?_; (with_reducible refine (impl_Body.calls _ _ l0 t248 _ ?side1 ?side2 A14.out).mono ?_); (case side1 => repeat (first | exact (Kd.C_below HR0.out HB.out) | (with_reducible refine Kd.C_alloc ?_ _) | (with_reducible refine Kd.C_drewN ?_ _) | (with_reducible refine Kd.C_drew ?_))); (case side2 => exact HC0.out); rintro e w15 ⟨v249, rfl, ho0, hb⟩; refine ⟨_, rfl, ?_⟩; have n0_ := Aside0.mk (Kd.R_lower ho0 (below_size blw)); have n1_ := z_bs HB hb; clear HB; have HO250 := n0_; have HB := n1_; clear n0_ n1_; (try clear hb); (try clear hb2); (try clear hk); (try clear hi); (try clear ho0)))
    go_loopg [26] kj3 (fun kq v26 w' => ∃ (x8_2 : List (S31)) (x26_2 : Int), v26 = .int .i64 x26_2 ∧ Aside0 (impl_PushLine.l0 kq a1 x8_2 a2 x26_2 = some (r1, r2)) ∧ Aside0 (kq ≤ kj3) ∧ Aside0 (Kd.R k31 31 w' w.heap.size (fun _ => True) v249 x8_2) ∧ Aside0 (Below w.heap.size w w'))
    case atStart => exact ⟨(t248), (0), (by first | rfl | (simp; done) | (simp [*]; done)), H', ⟨Nat.le_refl _⟩, ⟨by (with_reducible repeat (first | apply Kd.R_alloc | apply Kd.R_drewN | apply Kd.R_drew)); exact HO250.out⟩, ⟨blw⟩⟩
    case round =>
     clear H'
     try clear c1
     try clear p2
     try clear c4
     try clear c6
     try clear c8
     try clear c13
     try clear p2
     obtain ⟨x8_2, x26_2, rfl, HA, HK2, HO_8, HB⟩ := hrel
     cases gk with
     | zero => exact absurd HA.out (by simp [impl_PushLine.l0])
     | succ k2 =>
      have H := HA.out
      clear HA
      simp only [impl_PushLine.l0] at H
      by_cases c16 : x26_2 < a2
      ·rw [if_pos c16] at H
       have c16b0 : decide (x26_2 < a2) = true := decide_eq_true c16
       clear c16
       have H' := Aside0.mk H
       clear H
       go_wp2
       go_loopg [9] k2 (fun kq v9 w' => ∃ (x8_3 : List (S31)) (x9_3 : Int), v9 = .int .i64 x9_3 ∧ Aside0 (impl_PushLine.l1 kq a1 x8_3 x9_3 a2 x26_2 = some (r1, r2)) ∧ Aside0 (kq ≤ k2) ∧ Aside0 (Kd.R k31 31 w' w.heap.size (fun _ => True) v249 x8_3) ∧ Aside0 (Below w.heap.size w w'))
       case atStart => exact ⟨(x8_2), (1), (by first | rfl | (simp; done) | (simp [*]; done)), H', ⟨Nat.le_refl _⟩, ⟨by (with_reducible repeat (first | apply Kd.R_alloc | apply Kd.R_drewN | apply Kd.R_drew)); exact HO_8.out⟩, ⟨blw⟩⟩
       case round =>
        clear H'
        try clear c1
        try clear p2
        try clear c4
        try clear c6
        try clear c8
        try clear c13
        try clear c16
        try clear c16b0
        try clear p2
        obtain ⟨x8_3, x9_3, rfl, HA, HK3, HO_8, HB⟩ := hrel
        cases gk with
        | zero => exact absurd HA.out (by simp [impl_PushLine.l1])
        | succ k3 =>
         have H := HA.out
         clear HA
         simp only [impl_PushLine.l1] at H
         by_cases c17 : x9_3 < (x8_3.length : Int)
         ·rw [if_pos c17] at H
          have c17b0 : decide (x9_3 < (x8_3.length : Int)) = true := decide_eq_true c17
          clear c17
          obtain ⟨ji18, hji18⟩ : ∃ j_ : Int, (wrap64 (x9_3 - 1)) = j_ := ⟨_, rfl⟩
          replace H : (if 0 ≤ (ji18) then (if (ji18) < (x8_3.length : Int) then (if 0 ≤ x9_3 then ((impl_pushed.f k3 ((rd_T31 x8_3 (ji18)).f0) ((rd_T31 x8_3 (ji18)).f1) ((rd_T31 x8_3 (ji18)).f2) ((rd_T31 x8_3 (ji18)).f3) ((rd_T31 x8_3 x9_3).f0) ((rd_T31 x8_3 x9_3).f1) ((rd_T31 x8_3 x9_3).f2) ((rd_T31 x8_3 x9_3).f3) a1).bind fun bt253 => ((some ((x8_3.set ((ji18) : Int).toNat (⟨bt253.1, bt253.2.1, bt253.2.2.1, bt253.2.2.2.1⟩ : S31)).set (x9_3 : Int).toNat (⟨bt253.2.2.2.2.1, bt253.2.2.2.2.2.1, bt253.2.2.2.2.2.2.1, bt253.2.2.2.2.2.2.2⟩ : S31) : List (S31))).bind fun y262 => ((impl_isBody.f ((rd_T31 y262 (ji18)).f0) ((rd_T31 y262 (ji18)).f1) ((rd_T31 y262 (ji18)).f2) ((rd_T31 y262 (ji18)).f3)).bind fun t264 => (if t264 = true then ((impl_isBody.f ((rd_T31 y262 x9_3).f0) ((rd_T31 y262 x9_3).f1) ((rd_T31 y262 x9_3).f2) ((rd_T31 y262 x9_3).f3)).bind fun t266 => (if t266 = true then (impl_PushLine.l1 k3 a1 y262 (wrap64 (x9_3 + 1)) a2 x26_2) else (some (([] : List (S31)), false)))) else (some (([] : List (S31)), false)))))) else (none)) else (none)) else (none)) = some (r1, r2) := by first | (rw [hji18] at H; exact H) | (simp only [hji18] at H ⊢; exact H)
          have hji18w : (IntKind.i64.wrap (x9_3 - 1)) = ji18 := (i64_w _).trans hji18
          by_cases c19 : 0 ≤ (ji18)
          ·rw [if_pos c19] at H
           have c19b0 : decide (0 ≤ (ji18)) = true := decide_eq_true c19
           clear c19
           by_cases c20 : (ji18) < (x8_3.length : Int)
           ·rw [if_pos c20] at H
            have c20b0 : decide ((ji18) < (x8_3.length : Int)) = true := decide_eq_true c20
            clear c20
            by_cases c21 : 0 ≤ x9_3
            ·rw [if_pos c21] at H
             have c21b0 : decide (0 ≤ x9_3) = true := decide_eq_true c21
             clear c21
             replace H := Option.bind_eq_some_iff.mp H
             obtain ⟨⟨t253, t254, t255, t256, t257, t258, t259, t260⟩, A220, H⟩ := H
             replace H : ((some ((x8_3.set ((ji18) : Int).toNat (⟨t253, t254, t255, t256⟩ : S31)).set (x9_3 : Int).toNat (⟨t257, t258, t259, t260⟩ : S31) : List (S31))).bind fun y262 => ((impl_isBody.f ((rd_T31 y262 (ji18)).f0) ((rd_T31 y262 (ji18)).f1) ((rd_T31 y262 (ji18)).f2) ((rd_T31 y262 (ji18)).f3)).bind fun t264 => (if t264 = true then ((impl_isBody.f ((rd_T31 y262 x9_3).f0) ((rd_T31 y262 x9_3).f1) ((rd_T31 y262 x9_3).f2) ((rd_T31 y262 x9_3).f3)).bind fun t266 => (if t266 = true then (impl_PushLine.l1 k3 a1 y262 (wrap64 (x9_3 + 1)) a2 x26_2) else (some (([] : List (S31)), false)))) else (some (([] : List (S31)), false))))) = some (r1, r2) := H
             have A22 := Aside0.mk A220
             clear A220
             obtain ⟨y261, hy261⟩ : ∃ y_ : List (S31), y_ = (x8_3.set ((ji18) : Int).toNat (⟨t253, t254, t255, t256⟩ : S31)) := ⟨_, rfl⟩
             replace H : ((some (y261.set (x9_3 : Int).toNat (⟨t257, t258, t259, t260⟩ : S31) : List (S31))).bind fun y262 => ((impl_isBody.f ((rd_T31 y262 (ji18)).f0) ((rd_T31 y262 (ji18)).f1) ((rd_T31 y262 (ji18)).f2) ((rd_T31 y262 (ji18)).f3)).bind fun t264 => (if t264 = true then ((impl_isBody.f ((rd_T31 y262 x9_3).f0) ((rd_T31 y262 x9_3).f1) ((rd_T31 y262 x9_3).f2) ((rd_T31 y262 x9_3).f3)).bind fun t266 => (if t266 = true then (impl_PushLine.l1 k3 a1 y262 (wrap64 (x9_3 + 1)) a2 x26_2) else (some (([] : List (S31)), false)))) else (some (([] : List (S31)), false))))) = some (r1, r2) := by first | (rw [hy261]; with_reducible exact H) | (have H2_ := (Option.bind_some _ _).symm.trans H; rw [hy261]; with_reducible exact H2_) | (have H2_ := (Option.bind_some _ _).symm.trans H; with_reducible exact H2_) | with_reducible exact H | (rw [hy261]; exact H) | exact H
             have Ny261 := Aside0.mk hy261
             clear hy261
             obtain ⟨y262, hy262⟩ : ∃ y_ : List (S31), y_ = (y261.set (x9_3 : Int).toNat (⟨t257, t258, t259, t260⟩ : S31)) := ⟨_, rfl⟩
             replace H : ((impl_isBody.f ((rd_T31 y262 (ji18)).f0) ((rd_T31 y262 (ji18)).f1) ((rd_T31 y262 (ji18)).f2) ((rd_T31 y262 (ji18)).f3)).bind fun t264 => (if t264 = true then ((impl_isBody.f ((rd_T31 y262 x9_3).f0) ((rd_T31 y262 x9_3).f1) ((rd_T31 y262 x9_3).f2) ((rd_T31 y262 x9_3).f3)).bind fun t266 => (if t266 = true then (impl_PushLine.l1 k3 a1 y262 (wrap64 (x9_3 + 1)) a2 x26_2) else (some (([] : List (S31)), false)))) else (some (([] : List (S31)), false)))) = some (r1, r2) := by first | (rw [hy262]; with_reducible exact H) | (have H2_ := (Option.bind_some _ _).symm.trans H; rw [hy262]; with_reducible exact H2_) | (have H2_ := (Option.bind_some _ _).symm.trans H; with_reducible exact H2_) | with_reducible exact H | (rw [hy262]; exact H) | exact H
             have Ny262 := Aside0.mk hy262
             clear hy262
             have hrd_ : rd_T31 y262 (ji18) = (⟨t253, t254, t255, t256⟩ : S31) := by
              have h1_ : 0 ≤ (x9_3 : Int) := odt
              have h2_ : 0 ≤ (ji18 : Int) := odt
              have h3_ : (ji18 : Int) < (x8_3.length : Int) := odt
              have e_ := hji18
              unfold wrap64 at e_
              have hne_ : ¬ (x9_3 : Int).toNat = (ji18 : Int).toNat := by omega
              have hlt_ : (ji18 : Int).toNat < x8_3.length := by omega
              rw [Ny262.out, Ny261.out]
              simp [rd_T31, List.getElem?_set, hne_, hlt_]
             simp only [hrd_] at H
             replace H := Option.bind_eq_some_iff.mp H
             obtain ⟨t264, A250, H⟩ := H
             replace H : (if t264 = true then ((impl_isBody.f ((rd_T31 y262 x9_3).f0) ((rd_T31 y262 x9_3).f1) ((rd_T31 y262 x9_3).f2) ((rd_T31 y262 x9_3).f3)).bind fun t266 => (if t266 = true then (impl_PushLine.l1 k3 a1 y262 (wrap64 (x9_3 + 1)) a2 x26_2) else (some (([] : List (S31)), false)))) else (some (([] : List (S31)), false))) = some (r1, r2) := H
             have A25 := Aside0.mk A250
             clear A250
             by_cases c26 : t264 = true
             ·subst c26
              have H1 : ((impl_isBody.f ((rd_T31 y262 x9_3).f0) ((rd_T31 y262 x9_3).f1) ((rd_T31 y262 x9_3).f2) ((rd_T31 y262 x9_3).f3)).bind fun t266 => (if t266 = true then (impl_PushLine.l1 k3 a1 y262 (wrap64 (x9_3 + 1)) a2 x26_2) else (some (([] : List (S31)), false)))) = some (r1, r2) := by rw [if_pos rfl] at H; exact H
              clear H
              have H := H1
              clear H1
              replace H := Option.bind_eq_some_iff.mp H
              obtain ⟨t266, A270, H⟩ := H
              replace H : (if t266 = true then (impl_PushLine.l1 k3 a1 y262 (wrap64 (x9_3 + 1)) a2 x26_2) else (some (([] : List (S31)), false))) = some (r1, r2) := H
              have A27 := Aside0.mk A270
              clear A270
              by_cases c28 : t266 = true
              ·subst c28
               have H1 : (impl_PushLine.l1 k3 a1 y262 (wrap64 (x9_3 + 1)) a2 x26_2) = some (r1, r2) := by rw [if_pos rfl] at H; exact H
               clear H
               have H := H1
               clear H1
               have H' := Aside0.mk H
               clear H
               obtain ⟨Ao29, co29, eo29⟩ := Kd.R_slice HO_8.out
               subst eo29
               try go_wp2
               have n0_ := Aside0.mk (Kd.R_drew HO_8.out)
               have n1_ := Aside0.mk (below_drew1 HB.out)
               clear HO_8
               clear HB
               have HO_8 := n0_
               have HB := n1_
               clear n0_ n1_
               have p251 : 0 ≤ ((ji18) : Int) := odt
               have q251 : (ji18) < (x8_3.length : Int) := odt
               obtain ⟨ad251, e251, hx251_0, hx251_1, hx251_2, hx251_3⟩ := at_T31 (Kd.R_reads' HO_8.out).2.2 (ji18) p251 q251
               cases e251
               replace p251 := eq_true p251
               replace q251 := eq_true q251
               have p252 : 0 ≤ (x9_3 : Int) := odt
               have q252 : x9_3 < (x8_3.length : Int) := odt
               obtain ⟨ad252, e252, hx252_0, hx252_1, hx252_2, hx252_3⟩ := at_T31 (Kd.R_reads' HO_8.out).2.2 x9_3 p252 q252
               obtain rfl : ad251 = ad252 := (by injection e252)
               replace p252 := eq_true p252
               replace q252 := eq_true q252
               refine start_ (n := 23) (S := fun w' => w'.cell? (ad251.add (((ji18)).toNat * 4)) = some (.int .i64 ((rd_T31 x8_3 (ji18)).f0)) ∧ w'.cell? ⟨(ad251.add (((ji18)).toNat * 4)).block, (ad251.add (((ji18)).toNat * 4)).off + 1, none⟩ = some (.int .i64 ((rd_T31 x8_3 (ji18)).f1)) ∧ w'.cell? ⟨(ad251.add (((ji18)).toNat * 4)).block, (ad251.add (((ji18)).toNat * 4)).off + 2, none⟩ = some (.int .i64 ((rd_T31 x8_3 (ji18)).f2)) ∧ w'.cell? ⟨(ad251.add (((ji18)).toNat * 4)).block, (ad251.add (((ji18)).toNat * 4)).off + 3, none⟩ = some (.int .i64 ((rd_T31 x8_3 (ji18)).f3)) ∧ w'.cell? (ad251.add ((x9_3).toNat * 4)) = some (.int .i64 ((rd_T31 x8_3 x9_3).f0)) ∧ w'.cell? ⟨(ad251.add ((x9_3).toNat * 4)).block, (ad251.add ((x9_3).toNat * 4)).off + 1, none⟩ = some (.int .i64 ((rd_T31 x8_3 x9_3).f1)) ∧ w'.cell? ⟨(ad251.add ((x9_3).toNat * 4)).block, (ad251.add ((x9_3).toNat * 4)).off + 2, none⟩ = some (.int .i64 ((rd_T31 x8_3 x9_3).f2)) ∧ w'.cell? ⟨(ad251.add ((x9_3).toNat * 4)).block, (ad251.add ((x9_3).toNat * 4)).off + 3, none⟩ = some (.int .i64 ((rd_T31 x8_3 x9_3).f3))) (ds := [20, 22]) #[false, false, false, false, false, false, false, false, false, false, false, false, false, false, false, false, false, false, false, false, false, false, false] (by kernel_rfl) rfl rfl ⟨hx251_0, hx251_1, hx251_2, hx251_3, hx252_0, hx252_1, hx252_2, hx252_3⟩ (fun hHeld => ?_); refine with_tabW impl_PushLine.tab9 impl_PushLine.bits9 (fun HT_ HW_ => ?_)
               generalize wr.drew = w30 at HO_8 HB hx251_0 hx251_1 hx251_2 hx251_3 hx252_0 hx252_1 hx252_2 hx252_3 hHeld ⊢
               refine pure_ (i := 0) (N := some 35) (v := ?_) (a' := ?_) #[true, false, false, false, false, false, false, false, false, false, false, false, false, false, false, false, false, false, false, false, false, false, false] rfl rfl (any_of HT_.out (by kernel_rfl)) (fun _ _ _ h => h) (Or.inl ⟨by rfl, ?_⟩) ?_ ?_
               rotate_left; (· (intro w'; go_simp; with_reducible rfl)); rotate_left; (· (simp only [Act.put, sp1, sp2, sp3, i64_w, i32_w]; rfl))
               refine pure_ (i := 1) (N := some 36) (v := ?_) (a' := ?_) #[true, true, false, false, false, false, false, false, false, false, false, false, false, false, false, false, false, false, false, false, false, false, false] rfl rfl (any_of HT_.out (by kernel_rfl)) (fun _ _ _ h => h) (Or.inl ⟨by rfl, ?_⟩) ?_ ?_
               rotate_left; (· (intro w'; go_simp; with_reducible rfl)); rotate_left; (· (simp only [Act.put, sp1, sp2, sp3, i64_w, i32_w]; rfl))
               refine pure_ (i := 2) (N := some 37) (v := ?_) (a' := ?_) #[true, true, true, false, false, false, false, false, false, false, false, false, false, false, false, false, false, false, false, false, false, false, false] rfl rfl (any_of HT_.out (by kernel_rfl)) (fun _ _ _ h => h) (Or.inl ⟨by rfl, ?_⟩) ?_ ?_
               rotate_left; (· (intro w'; go_simp; with_reducible rfl)); rotate_left; (· (simp only [Act.put, sp1, sp2, sp3, i64_w, i32_w]; rfl))
               refine pure_ (i := 3) (N := some 38) (v := ?_) (a' := ?_) #[true, true, true, true, false, false, false, false, false, false, false, false, false, false, false, false, false, false, false, false, false, false, false] rfl rfl (any_of HT_.out (by kernel_rfl)) (fun _ _ _ h => h) (Or.inl ⟨by rfl, ?_⟩) ?_ ?_
               rotate_left; (· (intro w'; go_simp; with_reducible rfl)); rotate_left; (· (simp only [Act.put, sp1, sp2, sp3, i64_w, i32_w]; rfl))
               refine pure_ (i := 4) (N := some 39) (v := ?_) (a' := ?_) #[true, true, true, true, true, false, false, false, false, false, false, false, false, false, false, false, false, false, false, false, false, false, false] rfl rfl (any_of HT_.out (by kernel_rfl)) (fun _ _ _ h => h) (Or.inl ⟨by rfl, ?_⟩) ?_ ?_
               rotate_left; (· (intro w'; go_simp; with_reducible rfl)); rotate_left; (· (simp only [Act.put, sp1, sp2, sp3, i64_w, i32_w]; rfl))
               refine pure_ (i := 5) (N := some 40) (v := ?_) (a' := ?_) #[true, true, true, true, true, true, false, false, false, false, false, false, false, false, false, false, false, false, false, false, false, false, false] rfl rfl (any_of HT_.out (by kernel_rfl)) (fun _ _ _ h => h) (Or.inl ⟨by rfl, ?_⟩) ?_ ?_
               rotate_left; (· (intro w'; go_simp; with_reducible rfl)); rotate_left; (· (simp only [Act.put, sp1, sp2, sp3, i64_w, i32_w]; rfl))
               refine pure_ (i := 6) (N := some 41) (v := ?_) (a' := ?_) #[true, true, true, true, true, true, true, false, false, false, false, false, false, false, false, false, false, false, false, false, false, false, false] rfl rfl (any_of HT_.out (by kernel_rfl)) (fun _ _ _ h => h) (Or.inl ⟨by rfl, ?_⟩) ?_ ?_
               rotate_left; (· (intro w'; go_simp; with_reducible rfl)); rotate_left; (· (simp only [Act.put, sp1, sp2, sp3, i64_w, i32_w]; rfl))
               refine pure_ (i := 7) (N := some 42) (v := ?_) (a' := ?_) #[true, true, true, true, true, true, true, true, false, false, false, false, false, false, false, false, false, false, false, false, false, false, false] rfl rfl (any_of HT_.out (by kernel_rfl)) (fun _ _ _ h => h) (Or.inl ⟨by rfl, ?_⟩) ?_ ?_
               rotate_left; (· (intro w'; go_simp; with_reducible rfl)); rotate_left; (· (simp only [Act.put, sp1, sp2, sp3, i64_w, i32_w]; rfl))
               refine pure_ (i := 8) (N := some 43) (v := ?_) (a' := ?_) #[true, true, true, true, true, true, true, true, true, false, false, false, false, false, false, false, false, false, false, false, false, false, false] rfl rfl (any_of HT_.out (by kernel_rfl)) (fun _ _ _ h => h) (Or.inl ⟨by rfl, ?_⟩) ?_ ?_
               rotate_left; (· (intro w'; go_simp; with_reducible rfl)); rotate_left; (· (simp only [Act.put, sp1, sp2, sp3, i64_w, i32_w]; rfl))
               refine pure_ (i := 10) (N := some 45) (v := ?_) (a' := ?_) #[true, true, true, true, true, true, true, true, true, false, true, false, false, false, false, false, false, false, false, false, false, false, false] rfl rfl (any_of HT_.out (by kernel_rfl)) (fun _ _ _ h => h) (Or.inl ⟨by rfl, ?_⟩) ?_ ?_
               rotate_left; (· (intro w'; go_simp; with_reducible rfl)); rotate_left; (· (simp only [Act.put, sp1, sp2, sp3, i64_w, i32_w]; rfl))
               refine pure_ (i := 11) (N := some 46) (v := ?_) (a' := ?_) #[true, true, true, true, true, true, true, true, true, false, true, true, false, false, false, false, false, false, false, false, false, false, false] rfl rfl (any_of HT_.out (by kernel_rfl)) (fun _ _ _ h => h) (Or.inl ⟨by rfl, ?_⟩) ?_ ?_
               rotate_left; (· (intro w'; go_simp; with_reducible rfl)); rotate_left; (· (simp only [Act.put, sp1, sp2, sp3, i64_w, i32_w]; rfl))
               refine pure_ (i := 12) (N := some 47) (v := ?_) (a' := ?_) #[true, true, true, true, true, true, true, true, true, false, true, true, true, false, false, false, false, false, false, false, false, false, false] rfl rfl (any_of HT_.out (by kernel_rfl)) (fun _ _ _ h => h) (Or.inl ⟨by rfl, ?_⟩) ?_ ?_
               rotate_left; (· (intro w'; go_simp; with_reducible rfl)); rotate_left; (· (simp only [Act.put, sp1, sp2, sp3, i64_w, i32_w]; rfl))
               refine pure_ (i := 14) (N := some 49) (v := ?_) (a' := ?_) #[true, true, true, true, true, true, true, true, true, false, true, true, true, false, true, false, false, false, false, false, false, false, false] rfl rfl (any_of HT_.out (by kernel_rfl)) (fun _ _ _ h => h) (Or.inl ⟨by rfl, ?_⟩) ?_ ?_
               rotate_left; (· (intro w'; go_simp; with_reducible rfl)); rotate_left; (· (simp only [Act.put, sp1, sp2, sp3, i64_w, i32_w]; rfl))
               refine take_ (i := 9) (N := some 44) (v := ?_) (a' := ?_) #[true, true, true, true, true, true, true, true, true, true, true, true, true, false, true, false, false, false, false, false, false, false, false] rfl rfl (take_ofW HT_.out HW_.out (by kernel_rfl)) (fun _ _ _ h => h) (Or.inl ⟨by rfl, ?_⟩) hHeld ?_ ?_
               rotate_left; (· (rintro w' ⟨s0, s1, s2, s3, s4, s5, s6, s7⟩; go_simp; with_reducible rfl)); rotate_left; (· (simp only [Act.put, sp1, sp2, sp3, i64_w, i32_w]; rfl))
               refine take_ (i := 13) (N := some 48) (v := ?_) (a' := ?_) #[true, true, true, true, true, true, true, true, true, true, true, true, true, true, true, false, false, false, false, false, false, false, false] rfl rfl (take_ofW HT_.out HW_.out (by kernel_rfl)) (fun _ _ _ h => h) (Or.inl ⟨by rfl, ?_⟩) hHeld ?_ ?_
               rotate_left; (· (rintro w' ⟨s0, s1, s2, s3, s4, s5, s6, s7⟩; go_simp; with_reducible rfl)); rotate_left; (· (simp only [Act.put, sp1, sp2, sp3, i64_w, i32_w]; rfl))
               refine one_ (i := 15) (N := some 50) #[true, true, true, true, true, true, true, true, true, true, true, true, true, true, true, true, false, false, false, false, false, false, false] rfl rfl (one_of HT_.out (by kernel_rfl)) (by decide) (fun K hK => ?_)
               refine goes_ Try.func76 (by kernel_rfl) rfl #[.agg #[.int .i64 ((rd_T31 x8_3 (ji18)).f0), .int .i64 ((rd_T31 x8_3 (ji18)).f1), .int .i64 ((rd_T31 x8_3 (ji18)).f2), .int .i64 ((rd_T31 x8_3 (ji18)).f3)], .agg #[.int .i64 ((rd_T31 x8_3 x9_3).f0), .int .i64 ((rd_T31 x8_3 x9_3).f1), .int .i64 ((rd_T31 x8_3 x9_3).f2), .int .i64 ((rd_T31 x8_3 x9_3).f3)], .int .i64 a1] (by rfl) rfl rfl (by (try simp only [List.map_toArray, List.map_cons, List.map_nil]); first | done | (simp only [hji18]; rfl) | rfl | (simp only [List.length_drop, List.length_take]; rfl)) ?_
               with_reducible refine (impl_pushed.calls k3 ((rd_T31 x8_3 (ji18)).f0) ((rd_T31 x8_3 (ji18)).f1) ((rd_T31 x8_3 (ji18)).f2) ((rd_T31 x8_3 (ji18)).f3) ((rd_T31 x8_3 x9_3).f0) ((rd_T31 x8_3 x9_3).f1) ((rd_T31 x8_3 x9_3).f2) ((rd_T31 x8_3 x9_3).f3) a1 t253 t254 t255 t256 t257 t258 t259 t260 _ A22.out).mono ?_
               rintro e w31 ⟨rfl, hb⟩
               have HS0_ := (hb.cell (World.block_lt_of_cell? _ _ (hHeld.1))).trans (hHeld.1)
               have HS1_ := (hb.cell (World.block_lt_of_cell? _ _ (hHeld.2.1))).trans (hHeld.2.1)
               have HS2_ := (hb.cell (World.block_lt_of_cell? _ _ (hHeld.2.2.1))).trans (hHeld.2.2.1)
               have HS3_ := (hb.cell (World.block_lt_of_cell? _ _ (hHeld.2.2.2.1))).trans (hHeld.2.2.2.1)
               have HS4_ := (hb.cell (World.block_lt_of_cell? _ _ (hHeld.2.2.2.2.1))).trans (hHeld.2.2.2.2.1)
               have HS5_ := (hb.cell (World.block_lt_of_cell? _ _ (hHeld.2.2.2.2.2.1))).trans (hHeld.2.2.2.2.2.1)
               have HS6_ := (hb.cell (World.block_lt_of_cell? _ _ (hHeld.2.2.2.2.2.2.1))).trans (hHeld.2.2.2.2.2.2.1)
               have HS7_ := (hb.cell (World.block_lt_of_cell? _ _ (hHeld.2.2.2.2.2.2.2))).trans (hHeld.2.2.2.2.2.2.2)
               refine ⟨_, rfl, ?_⟩
               have n0_ := Aside0.mk (Kd.R_below (by (with_reducible repeat (first | apply Kd.R_alloc | apply Kd.R_drewN | apply Kd.R_drew)); exact HO_8.out) hb)
               have n1_ := z_bs HB hb
               clear HO_8
               clear HB
               have HO_8 := n0_
               have HB := n1_
               clear n0_ n1_
               (try clear hb); (try clear hk)
               have p23 : 0 ≤ ((ji18) : Int) := odt
               have q23 : ((ji18) : Int) < ((x8_3.length : Int) : Int) := odt
               obtain ⟨go23, co23, eo23, gb23, gl23, cl23, HG23⟩ := Kd.R_form HO_8.out (by omega)
               (first | cases eo23 | (injection eo23 with ea_ en_ ec_; (first | subst ea_ | (injection ea_ with ea_; subst ea_)); subst ec_; clear en_))
               have GB23 := Aside0.mk gb23
               have GG23 := Aside0.mk HG23
               clear gb23 gl23 HG23
               (first | simp only [add_plain] at hx251_0 | skip)
               (first | simp only [add_plain] at hx251_1 | skip)
               (first | simp only [add_plain] at hx251_2 | skip)
               (first | simp only [add_plain] at hx251_3 | skip)
               (first | simp only [add_plain] at hx252_0 | skip)
               (first | simp only [add_plain] at hx252_1 | skip)
               (first | simp only [add_plain] at hx252_2 | skip)
               (first | simp only [add_plain] at hx252_3 | skip)
               obtain ⟨ce23, hcl23, hM23, hcc23, hfr23⟩ := Kd.R_elem HO_8.out z31 ((ji18) : Int) p23 q23
               obtain rfl := k31_openM hM23
               have hx23_0 : World.cell? _ ⟨go23, ((ji18) : Int).toNat * 4, none⟩ = some (.int .i64 ((rd_T31 x8_3 (ji18)).f0)) := hcc23 0 _ rfl
               have hx23_1 : World.cell? _ ⟨go23, ((ji18) : Int).toNat * 4 + 1, none⟩ = some (.int .i64 ((rd_T31 x8_3 (ji18)).f1)) := hcc23 1 _ rfl
               have hx23_2 : World.cell? _ ⟨go23, ((ji18) : Int).toNat * 4 + 2, none⟩ = some (.int .i64 ((rd_T31 x8_3 (ji18)).f2)) := hcc23 2 _ rfl
               have hx23_3 : World.cell? _ ⟨go23, ((ji18) : Int).toNat * 4 + 3, none⟩ = some (.int .i64 ((rd_T31 x8_3 (ji18)).f3)) := hcc23 3 _ rfl
               have hf23_0 : World.frozen? _ ⟨go23, ((ji18) : Int).toNat * 4, none⟩ = false := hfr23 0
               have hf23_1 : World.frozen? _ ⟨go23, ((ji18) : Int).toNat * 4 + 1, none⟩ = false := hfr23 1
               have hf23_2 : World.frozen? _ ⟨go23, ((ji18) : Int).toNat * 4 + 2, none⟩ = false := hfr23 2
               have hf23_3 : World.frozen? _ ⟨go23, ((ji18) : Int).toNat * 4 + 3, none⟩ = false := hfr23 3
               clear hcl23 hcc23 hfr23 hM23
               replace p23 := eq_true p23
               replace q23 := eq_true q23
               obtain ⟨ce32, hcl32, hM32, hcc32, hfr32⟩ := Kd.R_elem HO_8.out z31 ((ji18) : Int) odt (by have h_ : ((ji18) : Int) < ((x8_3.length : Int) : Int) := odt; first | exact h_ | (have e_ := (Kd.R_reads' HO_8.out).1; omega) | simpa using h_)
               obtain rfl := k31_openM hM32
               have HP32 := (Kd.R_seg HO_8.out ((ji18) : Int) odt (by have h_ : ((ji18) : Int) < ((x8_3.length : Int) : Int) := odt; first | exact h_ | (have e_ := (Kd.R_reads' HO_8.out).1; omega) | simpa using h_) (seg := [.int .i64 t253, .int .i64 t254, .int .i64 t255, .int .i64 t256]) (j := 0) hcl32 hcc32 (show 4 ≤ 4 from by decide) (x' := (⟨t253, t254, t255, t256⟩ : S31)) (k31_mkM _ _ _ (⟨t253, t254, t255, t256⟩ : S31) ) (fun _ hk => hk)).1
               rw [← Ny261.out] at HP32
               have HQ32 := Aside0.mk HP32
               clear hcl32 hcc32 hfr32 hM32 HP32
               have p24 : 0 ≤ (x9_3 : Int) := odt
               have q24 : (x9_3 : Int) < ((x8_3.length : Int) : Int) := odt
               obtain ⟨ce24, hcl24, hM24, hcc24, hfr24⟩ := Kd.R_elem HQ32.out z31 (x9_3 : Int) p24 q24
               obtain rfl := k31_openM hM24
               have hx24_0 : World.cell? _ ⟨go23, (x9_3 : Int).toNat * 4, none⟩ = some (.int .i64 ((rd_T31 y261 x9_3).f0)) := hcc24 0 _ rfl
               have hx24_1 : World.cell? _ ⟨go23, (x9_3 : Int).toNat * 4 + 1, none⟩ = some (.int .i64 ((rd_T31 y261 x9_3).f1)) := hcc24 1 _ rfl
               have hx24_2 : World.cell? _ ⟨go23, (x9_3 : Int).toNat * 4 + 2, none⟩ = some (.int .i64 ((rd_T31 y261 x9_3).f2)) := hcc24 2 _ rfl
               have hx24_3 : World.cell? _ ⟨go23, (x9_3 : Int).toNat * 4 + 3, none⟩ = some (.int .i64 ((rd_T31 y261 x9_3).f3)) := hcc24 3 _ rfl
               have hf24_0 : World.frozen? _ ⟨go23, (x9_3 : Int).toNat * 4, none⟩ = false := hfr24 0
               have hf24_1 : World.frozen? _ ⟨go23, (x9_3 : Int).toNat * 4 + 1, none⟩ = false := hfr24 1
               have hf24_2 : World.frozen? _ ⟨go23, (x9_3 : Int).toNat * 4 + 2, none⟩ = false := hfr24 2
               have hf24_3 : World.frozen? _ ⟨go23, (x9_3 : Int).toNat * 4 + 3, none⟩ = false := hfr24 3
               clear hcl24 hcc24 hfr24 hM24
               replace p24 := eq_true p24
               replace q24 := eq_true q24
               obtain ⟨ce33, hcl33, hM33, hcc33, hfr33⟩ := Kd.R_elem HQ32.out z31 (x9_3 : Int) odt (by have h_ : (x9_3 : Int) < ((x8_3.length : Int) : Int) := odt; first | exact h_ | (have e_ := (Kd.R_reads' HO_8.out).1; omega) | simpa using h_)
               obtain rfl := k31_openM hM33
               have HP33 := (Kd.R_seg HQ32.out (x9_3 : Int) odt (by have h_ : (x9_3 : Int) < ((x8_3.length : Int) : Int) := odt; first | exact h_ | (have e_ := (Kd.R_reads' HO_8.out).1; omega) | simpa using h_) (seg := [.int .i64 t257, .int .i64 t258, .int .i64 t259, .int .i64 t260]) (j := 0) hcl33 hcc33 (show 4 ≤ 4 from by decide) (x' := (⟨t257, t258, t259, t260⟩ : S31)) (k31_mkM _ _ _ (⟨t257, t258, t259, t260⟩ : S31) ) (fun _ hk => hk)).1
               rw [← Ny262.out] at HP33
               have HQ33 := Aside0.mk HP33
               clear hcl33 hcc33 hfr33 hM33 HP33
               refine hK.out _ _ ⟨HS0_, HS1_, HS2_, HS3_, HS4_, HS5_, HS6_, HS7_⟩ (fun hHeld => ?_)
               clear hK K
               refine norm_ (a' := ?_) ?_ ?_
               rotate_left
               ·show Act.put _ (some 50) _ = _
                simp only [Act.put, sp1, sp2, sp3, i64_w, i32_w]
                rfl
               refine pure_ (i := 16) (N := some 34) (v := ?_) (a' := ?_) #[true, true, true, true, true, true, true, true, true, true, true, true, true, true, true, true, true, false, false, false, false, false, false] rfl rfl (any_of HT_.out (by kernel_rfl)) (fun _ _ _ h => h) (Or.inl ⟨by rfl, ?_⟩) ?_ ?_
               rotate_left; (· (intro w'; go_simp; with_reducible rfl)); rotate_left; (· (simp only [Act.put, sp1, sp2, sp3, i64_w, i32_w]; rfl))
               refine pure_ (i := 17) (N := some 51) (v := ?_) (a' := ?_) #[true, true, true, true, true, true, true, true, true, true, true, true, true, true, true, true, true, true, false, false, false, false, false] rfl rfl (any_of HT_.out (by kernel_rfl)) (fun _ _ _ h => h) (Or.inl ⟨by rfl, ?_⟩) ?_ ?_
               rotate_left; (· (intro w'; go_simp; with_reducible rfl)); rotate_left; (· (simp only [Act.put, sp1, sp2, sp3, i64_w, i32_w]; rfl))
               refine pure_ (i := 18) (N := some 52) (v := ?_) (a' := ?_) #[true, true, true, true, true, true, true, true, true, true, true, true, true, true, true, true, true, true, true, false, false, false, false] rfl rfl (any_of HT_.out (by kernel_rfl)) (fun _ _ _ h => h) (Or.inl ⟨by rfl, ?_⟩) ?_ ?_
               rotate_left; (· (intro w'; go_simp; with_reducible rfl)); rotate_left; (· (simp only [Act.put, sp1, sp2, sp3, i64_w, i32_w]; rfl))
               refine pure_ (i := 19) (N := some 53) (v := ?_) (a' := ?_) #[true, true, true, true, true, true, true, true, true, true, true, true, true, true, true, true, true, true, true, true, false, false, false] rfl rfl (any_of HT_.out (by kernel_rfl)) (fun _ _ _ h => h) (Or.inl ⟨by rfl, ?_⟩) ?_ ?_
               rotate_left; (· (intro w'; go_simp; with_reducible rfl)); rotate_left; (· (simp only [Act.put, sp1, sp2, sp3, i64_w, i32_w]; rfl))
               refine last_ (i := 20) (N := none) #[true, true, true, true, true, true, true, true, true, true, true, true, true, true, true, true, true, true, true, true, true, false, false] rfl rfl (one_of HT_.out (by kernel_rfl)) (by decide) (fun K hK => ?_)
               refine skip_ (w1 := ?_) (by rfl) rfl ?_ ?_
               rotate_left
               ·go_simp
                rfl
               refine hK.out _ _ ?_
               clear hK K
               refine pure_ (i := 21) (N := some 54) (v := ?_) (a' := ?_) #[true, true, true, true, true, true, true, true, true, true, true, true, true, true, true, true, true, true, true, true, true, true, false] rfl rfl (any_of HT_.out (by kernel_rfl)) (fun _ _ _ h => h) (Or.inl ⟨by rfl, ?_⟩) ?_ ?_
               rotate_left; (· (intro w'; go_simp; with_reducible rfl)); rotate_left; (· (simp only [Act.put, sp1, sp2, sp3, i64_w, i32_w]; rfl))
               have hne_ : ¬ (ji18 : Int).toNat = (x9_3 : Int).toNat := by
                have h1_ : 0 ≤ (x9_3 : Int) := odt
                have h2_ : 0 ≤ (ji18 : Int) := odt
                have e_ := hji18
                unfold wrap64 at e_
                omega
               have hq0_ : ∀ (g_ : Nat) (w_ : World) (v_ : Value), (w_.setCell ⟨g_, (ji18 : Int).toNat * 4, none⟩ v_).cell? ⟨g_, (x9_3 : Int).toNat * 4, none⟩ = w_.cell? ⟨g_, (x9_3 : Int).toNat * 4, none⟩ := fun g_ w_ v_ => World.cell?_setCell_other w_ _ _ v_ (by intro h_; have h2_ : (ji18 : Int).toNat * 4 = (x9_3 : Int).toNat * 4 := congrArg Addr.off h_; omega)
               have hq1_ : ∀ (g_ : Nat) (w_ : World) (v_ : Value), (w_.setCell ⟨g_, (ji18 : Int).toNat * 4 + 1, none⟩ v_).cell? ⟨g_, (x9_3 : Int).toNat * 4 + 1, none⟩ = w_.cell? ⟨g_, (x9_3 : Int).toNat * 4 + 1, none⟩ := fun g_ w_ v_ => World.cell?_setCell_other w_ _ _ v_ (by intro h_; have h2_ : (ji18 : Int).toNat * 4 + 1 = (x9_3 : Int).toNat * 4 + 1 := congrArg Addr.off h_; omega)
               have hq2_ : ∀ (g_ : Nat) (w_ : World) (v_ : Value), (w_.setCell ⟨g_, (ji18 : Int).toNat * 4 + 2, none⟩ v_).cell? ⟨g_, (x9_3 : Int).toNat * 4 + 2, none⟩ = w_.cell? ⟨g_, (x9_3 : Int).toNat * 4 + 2, none⟩ := fun g_ w_ v_ => World.cell?_setCell_other w_ _ _ v_ (by intro h_; have h2_ : (ji18 : Int).toNat * 4 + 2 = (x9_3 : Int).toNat * 4 + 2 := congrArg Addr.off h_; omega)
               have hq3_ : ∀ (g_ : Nat) (w_ : World) (v_ : Value), (w_.setCell ⟨g_, (ji18 : Int).toNat * 4 + 3, none⟩ v_).cell? ⟨g_, (x9_3 : Int).toNat * 4 + 3, none⟩ = w_.cell? ⟨g_, (x9_3 : Int).toNat * 4 + 3, none⟩ := fun g_ w_ v_ => World.cell?_setCell_other w_ _ _ v_ (by intro h_; have h2_ : (ji18 : Int).toNat * 4 + 3 = (x9_3 : Int).toNat * 4 + 3 := congrArg Addr.off h_; omega)
               obtain ⟨ceq_, hclq_, hMq_, hccq_, hfrq_⟩ := Kd.R_elem HO_8.out z31 (x9_3 : Int) odt (by have h_ : (x9_3 : Int) < ((x8_3.length : Int) : Int) := odt; first | exact h_ | (have e_ := (Kd.R_reads' HO_8.out).1; omega) | simpa using h_)
               obtain rfl := k31_openM hMq_
               have hxq0_ : World.cell? _ ⟨_, (x9_3 : Int).toNat * 4, none⟩ = some (.int .i64 ((rd_T31 x8_3 x9_3).f0)) := hccq_ 0 _ rfl
               have hfq0_ : World.frozen? _ ⟨_, (x9_3 : Int).toNat * 4, none⟩ = false := hfrq_ 0
               have hxq1_ : World.cell? _ ⟨_, (x9_3 : Int).toNat * 4 + 1, none⟩ = some (.int .i64 ((rd_T31 x8_3 x9_3).f1)) := hccq_ 1 _ rfl
               have hfq1_ : World.frozen? _ ⟨_, (x9_3 : Int).toNat * 4 + 1, none⟩ = false := hfrq_ 1
               have hxq2_ : World.cell? _ ⟨_, (x9_3 : Int).toNat * 4 + 2, none⟩ = some (.int .i64 ((rd_T31 x8_3 x9_3).f2)) := hccq_ 2 _ rfl
               have hfq2_ : World.frozen? _ ⟨_, (x9_3 : Int).toNat * 4 + 2, none⟩ = false := hfrq_ 2
               have hxq3_ : World.cell? _ ⟨_, (x9_3 : Int).toNat * 4 + 3, none⟩ = some (.int .i64 ((rd_T31 x8_3 x9_3).f3)) := hccq_ 3 _ rfl
               have hfq3_ : World.frozen? _ ⟨_, (x9_3 : Int).toNat * 4 + 3, none⟩ = false := hfrq_ 3
               refine last_ (i := 22) (N := none) #[true, true, true, true, true, true, true, true, true, true, true, true, true, true, true, true, true, true, true, true, true, true, true] rfl rfl (one_of HT_.out (by kernel_rfl)) (by decide) (fun K hK => ?_)
               refine skip_ (w1 := ?_) (by rfl) rfl ?_ ?_
               rotate_left
               ·go_simp
                rfl
               refine hK.out _ _ ?_
               clear hK K
               refine done_ (done_of HT_.out (by kernel_rfl)) ?_
               have p263 : 0 ≤ ((ji18) : Int) := odt
               have q263 : (ji18) < (y262.length : Int) := (by have h_ : ((ji18) : Int) < ((x8_3.length : Int) : Int) := odt; first | (have e_ := (Kd.R_reads' HO_8.out).1; omega) | simpa only [Ny261.out, Ny262.out, List.length_set] using h_)
               have ql263 : (((ji18) : Int) < ((x8_3.length : Int) : Int)) = True := eq_true odt
               obtain ⟨ad263, e263, hx263_0, hx263_1, hx263_2, hx263_3⟩ := at_T31 (Kd.R_reads' HQ33.out).2.2 (ji18) p263 q263
               obtain rfl : (⟨go23, 0, none⟩ : Addr) = ad263 := (by injection e263)
               (first | simp only [add_plain] at hx263_0 | simp only [add_at] at hx263_0 | simp only [Addr.add, Nat.zero_add] at hx263_0 | skip)
               (first | simp only [add_plain] at hx263_1 | simp only [add_at] at hx263_1 | simp only [Addr.add, Nat.zero_add] at hx263_1 | skip)
               (first | simp only [add_plain] at hx263_2 | simp only [add_at] at hx263_2 | simp only [Addr.add, Nat.zero_add] at hx263_2 | skip)
               (first | simp only [add_plain] at hx263_3 | simp only [add_at] at hx263_3 | simp only [Addr.add, Nat.zero_add] at hx263_3 | skip)
               replace p263 := eq_true p263
               replace q263 := eq_true q263
               try go_wp2_with (first | ((with_reducible refine gate_callee (f := 71) rfl ?_); refine goesL_ (some 60) rfl rfl Try.func71 (by kernel_rfl) rfl #[.agg #[.int .i64 t253, .int .i64 t254, .int .i64 t255, .int .i64 t256]] rfl (by (try simp only [List.map_toArray, List.map_cons, List.map_nil]); first | done | (simp only [hji18]; rfl) | rfl | (simp only [List.length_drop, List.length_take]; rfl)) ?_; (with_reducible refine (impl_isBody.calls t253 t254 t255 t256 true _ A25.out).mono ?_); rintro e w34 ⟨rfl, hb⟩; refine ⟨_, rfl, ?_⟩; have n0_ := Aside0.mk (Kd.R_below (by (with_reducible repeat (first | apply Kd.R_alloc | apply Kd.R_drewN | apply Kd.R_drew)); exact HQ33.out) hb); have n1_ := z_bs HB hb; clear HO_8; clear HB; have HO_8 := n0_; have HB := n1_; clear n0_ n1_; (try clear hb); (try clear hb2); (try clear hk); (try clear hi); have p265 : 0 ≤ (x9_3 : Int) := odt; have q265 : x9_3 < (y262.length : Int) := (by have h_ : (x9_3 : Int) < ((x8_3.length : Int) : Int) := odt; first | (have e_ := (Kd.R_reads' HO_8.out).1; omega) | simpa only [Ny261.out, Ny262.out, List.length_set] using h_); have ql265 : ((x9_3 : Int) < ((x8_3.length : Int) : Int)) = True := eq_true odt; obtain ⟨ad265, e265, hx265_0, hx265_1, hx265_2, hx265_3⟩ := at_T31 (Kd.R_reads' HO_8.out).2.2 x9_3 p265 q265; obtain rfl : (⟨go23, 0, none⟩ : Addr) = ad265 := (by injection e265); (first | simp only [add_plain] at hx265_0 | simp only [add_at] at hx265_0 | simp only [Addr.add, Nat.zero_add] at hx265_0 | skip); (first | simp only [add_plain] at hx265_1 | simp only [add_at] at hx265_1 | simp only [Addr.add, Nat.zero_add] at hx265_1 | skip); (first | simp only [add_plain] at hx265_2 | simp only [add_at] at hx265_2 | simp only [Addr.add, Nat.zero_add] at hx265_2 | skip); (first | simp only [add_plain] at hx265_3 | simp only [add_at] at hx265_3 | simp only [Addr.add, Nat.zero_add] at hx265_3 | skip); replace p265 := eq_true p265; replace q265 := eq_true q265) | (go_at_call 71; (with_reducible refine (impl_isBody.calls ((rd_T31 y262 x9_3).f0) ((rd_T31 y262 x9_3).f1) ((rd_T31 y262 x9_3).f2) ((rd_T31 y262 x9_3).f3) true _ A27.out).mono ?_); rintro e w35 ⟨rfl, hb⟩; have n0_ := Aside0.mk (Kd.R_below (by (with_reducible repeat (first | apply Kd.R_alloc | apply Kd.R_drewN | apply Kd.R_drew)); exact HO_8.out) hb); have n1_ := z_bs HB hb; clear HO_8; clear HB; have HO_8 := n0_; have HB := n1_; clear n0_ n1_; (try clear hb); (try clear hb2); (try clear hk); (try clear hi)))
               go_roundg k3
               case measure => have := HJ3.out; have := HK2.out; have := HK3.out; omega
               case rel => exact ⟨(y262), (wrap64 (x9_3 + 1)), (by first | rfl | (simp; done) | (simp [*]; done)), H', ⟨by have := HJ3.out; have := HK2.out; have := HK3.out; omega⟩, ⟨by (with_reducible repeat (first | apply Kd.R_alloc | apply Kd.R_drewN | apply Kd.R_drew)); exact HO_8.out⟩, ⟨blw⟩⟩
              ·replace c28 := Bool.eq_false_iff.mpr c28
               subst c28
               have H1 : (some (([] : List (S31)), false)) = some (r1, r2) := by rw [if_neg (show ¬ (false = true) by decide)] at H; exact H
               clear H
               have H := H1
               clear H1
               simp only [Option.some.injEq, Prod.mk.injEq] at H
               obtain ⟨rfl, rfl⟩ := H
               obtain ⟨Ao36, co36, eo36⟩ := Kd.R_slice HO_8.out
               subst eo36
               try go_wp2
               have n0_ := Aside0.mk (Kd.R_drew HO_8.out)
               have n1_ := Aside0.mk (below_drew1 HB.out)
               clear HO_8
               clear HB
               have HO_8 := n0_
               have HB := n1_
               clear n0_ n1_
               have p251 : 0 ≤ ((ji18) : Int) := odt
               have q251 : (ji18) < (x8_3.length : Int) := odt
               obtain ⟨ad251, e251, hx251_0, hx251_1, hx251_2, hx251_3⟩ := at_T31 (Kd.R_reads' HO_8.out).2.2 (ji18) p251 q251
               cases e251
               replace p251 := eq_true p251
               replace q251 := eq_true q251
               have p252 : 0 ≤ (x9_3 : Int) := odt
               have q252 : x9_3 < (x8_3.length : Int) := odt
               obtain ⟨ad252, e252, hx252_0, hx252_1, hx252_2, hx252_3⟩ := at_T31 (Kd.R_reads' HO_8.out).2.2 x9_3 p252 q252
               obtain rfl : ad251 = ad252 := (by injection e252)
               replace p252 := eq_true p252
               replace q252 := eq_true q252
               refine start_ (n := 23) (S := fun w' => w'.cell? (ad251.add (((ji18)).toNat * 4)) = some (.int .i64 ((rd_T31 x8_3 (ji18)).f0)) ∧ w'.cell? ⟨(ad251.add (((ji18)).toNat * 4)).block, (ad251.add (((ji18)).toNat * 4)).off + 1, none⟩ = some (.int .i64 ((rd_T31 x8_3 (ji18)).f1)) ∧ w'.cell? ⟨(ad251.add (((ji18)).toNat * 4)).block, (ad251.add (((ji18)).toNat * 4)).off + 2, none⟩ = some (.int .i64 ((rd_T31 x8_3 (ji18)).f2)) ∧ w'.cell? ⟨(ad251.add (((ji18)).toNat * 4)).block, (ad251.add (((ji18)).toNat * 4)).off + 3, none⟩ = some (.int .i64 ((rd_T31 x8_3 (ji18)).f3)) ∧ w'.cell? (ad251.add ((x9_3).toNat * 4)) = some (.int .i64 ((rd_T31 x8_3 x9_3).f0)) ∧ w'.cell? ⟨(ad251.add ((x9_3).toNat * 4)).block, (ad251.add ((x9_3).toNat * 4)).off + 1, none⟩ = some (.int .i64 ((rd_T31 x8_3 x9_3).f1)) ∧ w'.cell? ⟨(ad251.add ((x9_3).toNat * 4)).block, (ad251.add ((x9_3).toNat * 4)).off + 2, none⟩ = some (.int .i64 ((rd_T31 x8_3 x9_3).f2)) ∧ w'.cell? ⟨(ad251.add ((x9_3).toNat * 4)).block, (ad251.add ((x9_3).toNat * 4)).off + 3, none⟩ = some (.int .i64 ((rd_T31 x8_3 x9_3).f3))) (ds := [20, 22]) #[false, false, false, false, false, false, false, false, false, false, false, false, false, false, false, false, false, false, false, false, false, false, false] (by kernel_rfl) rfl rfl ⟨hx251_0, hx251_1, hx251_2, hx251_3, hx252_0, hx252_1, hx252_2, hx252_3⟩ (fun hHeld => ?_); refine with_tabW impl_PushLine.tab9 impl_PushLine.bits9 (fun HT_ HW_ => ?_)
               generalize wr.drew = w37 at HO_8 HB hx251_0 hx251_1 hx251_2 hx251_3 hx252_0 hx252_1 hx252_2 hx252_3 hHeld ⊢
               refine pure_ (i := 0) (N := some 35) (v := ?_) (a' := ?_) #[true, false, false, false, false, false, false, false, false, false, false, false, false, false, false, false, false, false, false, false, false, false, false] rfl rfl (any_of HT_.out (by kernel_rfl)) (fun _ _ _ h => h) (Or.inl ⟨by rfl, ?_⟩) ?_ ?_
               rotate_left; (· (intro w'; go_simp; with_reducible rfl)); rotate_left; (· (simp only [Act.put, sp1, sp2, sp3, i64_w, i32_w]; rfl))
               refine pure_ (i := 1) (N := some 36) (v := ?_) (a' := ?_) #[true, true, false, false, false, false, false, false, false, false, false, false, false, false, false, false, false, false, false, false, false, false, false] rfl rfl (any_of HT_.out (by kernel_rfl)) (fun _ _ _ h => h) (Or.inl ⟨by rfl, ?_⟩) ?_ ?_
               rotate_left; (· (intro w'; go_simp; with_reducible rfl)); rotate_left; (· (simp only [Act.put, sp1, sp2, sp3, i64_w, i32_w]; rfl))
               refine pure_ (i := 2) (N := some 37) (v := ?_) (a' := ?_) #[true, true, true, false, false, false, false, false, false, false, false, false, false, false, false, false, false, false, false, false, false, false, false] rfl rfl (any_of HT_.out (by kernel_rfl)) (fun _ _ _ h => h) (Or.inl ⟨by rfl, ?_⟩) ?_ ?_
               rotate_left; (· (intro w'; go_simp; with_reducible rfl)); rotate_left; (· (simp only [Act.put, sp1, sp2, sp3, i64_w, i32_w]; rfl))
               refine pure_ (i := 3) (N := some 38) (v := ?_) (a' := ?_) #[true, true, true, true, false, false, false, false, false, false, false, false, false, false, false, false, false, false, false, false, false, false, false] rfl rfl (any_of HT_.out (by kernel_rfl)) (fun _ _ _ h => h) (Or.inl ⟨by rfl, ?_⟩) ?_ ?_
               rotate_left; (· (intro w'; go_simp; with_reducible rfl)); rotate_left; (· (simp only [Act.put, sp1, sp2, sp3, i64_w, i32_w]; rfl))
               refine pure_ (i := 4) (N := some 39) (v := ?_) (a' := ?_) #[true, true, true, true, true, false, false, false, false, false, false, false, false, false, false, false, false, false, false, false, false, false, false] rfl rfl (any_of HT_.out (by kernel_rfl)) (fun _ _ _ h => h) (Or.inl ⟨by rfl, ?_⟩) ?_ ?_
               rotate_left; (· (intro w'; go_simp; with_reducible rfl)); rotate_left; (· (simp only [Act.put, sp1, sp2, sp3, i64_w, i32_w]; rfl))
               refine pure_ (i := 5) (N := some 40) (v := ?_) (a' := ?_) #[true, true, true, true, true, true, false, false, false, false, false, false, false, false, false, false, false, false, false, false, false, false, false] rfl rfl (any_of HT_.out (by kernel_rfl)) (fun _ _ _ h => h) (Or.inl ⟨by rfl, ?_⟩) ?_ ?_
               rotate_left; (· (intro w'; go_simp; with_reducible rfl)); rotate_left; (· (simp only [Act.put, sp1, sp2, sp3, i64_w, i32_w]; rfl))
               refine pure_ (i := 6) (N := some 41) (v := ?_) (a' := ?_) #[true, true, true, true, true, true, true, false, false, false, false, false, false, false, false, false, false, false, false, false, false, false, false] rfl rfl (any_of HT_.out (by kernel_rfl)) (fun _ _ _ h => h) (Or.inl ⟨by rfl, ?_⟩) ?_ ?_
               rotate_left; (· (intro w'; go_simp; with_reducible rfl)); rotate_left; (· (simp only [Act.put, sp1, sp2, sp3, i64_w, i32_w]; rfl))
               refine pure_ (i := 7) (N := some 42) (v := ?_) (a' := ?_) #[true, true, true, true, true, true, true, true, false, false, false, false, false, false, false, false, false, false, false, false, false, false, false] rfl rfl (any_of HT_.out (by kernel_rfl)) (fun _ _ _ h => h) (Or.inl ⟨by rfl, ?_⟩) ?_ ?_
               rotate_left; (· (intro w'; go_simp; with_reducible rfl)); rotate_left; (· (simp only [Act.put, sp1, sp2, sp3, i64_w, i32_w]; rfl))
               refine pure_ (i := 8) (N := some 43) (v := ?_) (a' := ?_) #[true, true, true, true, true, true, true, true, true, false, false, false, false, false, false, false, false, false, false, false, false, false, false] rfl rfl (any_of HT_.out (by kernel_rfl)) (fun _ _ _ h => h) (Or.inl ⟨by rfl, ?_⟩) ?_ ?_
               rotate_left; (· (intro w'; go_simp; with_reducible rfl)); rotate_left; (· (simp only [Act.put, sp1, sp2, sp3, i64_w, i32_w]; rfl))
               refine pure_ (i := 10) (N := some 45) (v := ?_) (a' := ?_) #[true, true, true, true, true, true, true, true, true, false, true, false, false, false, false, false, false, false, false, false, false, false, false] rfl rfl (any_of HT_.out (by kernel_rfl)) (fun _ _ _ h => h) (Or.inl ⟨by rfl, ?_⟩) ?_ ?_
               rotate_left; (· (intro w'; go_simp; with_reducible rfl)); rotate_left; (· (simp only [Act.put, sp1, sp2, sp3, i64_w, i32_w]; rfl))
               refine pure_ (i := 11) (N := some 46) (v := ?_) (a' := ?_) #[true, true, true, true, true, true, true, true, true, false, true, true, false, false, false, false, false, false, false, false, false, false, false] rfl rfl (any_of HT_.out (by kernel_rfl)) (fun _ _ _ h => h) (Or.inl ⟨by rfl, ?_⟩) ?_ ?_
               rotate_left; (· (intro w'; go_simp; with_reducible rfl)); rotate_left; (· (simp only [Act.put, sp1, sp2, sp3, i64_w, i32_w]; rfl))
               refine pure_ (i := 12) (N := some 47) (v := ?_) (a' := ?_) #[true, true, true, true, true, true, true, true, true, false, true, true, true, false, false, false, false, false, false, false, false, false, false] rfl rfl (any_of HT_.out (by kernel_rfl)) (fun _ _ _ h => h) (Or.inl ⟨by rfl, ?_⟩) ?_ ?_
               rotate_left; (· (intro w'; go_simp; with_reducible rfl)); rotate_left; (· (simp only [Act.put, sp1, sp2, sp3, i64_w, i32_w]; rfl))
               refine pure_ (i := 14) (N := some 49) (v := ?_) (a' := ?_) #[true, true, true, true, true, true, true, true, true, false, true, true, true, false, true, false, false, false, false, false, false, false, false] rfl rfl (any_of HT_.out (by kernel_rfl)) (fun _ _ _ h => h) (Or.inl ⟨by rfl, ?_⟩) ?_ ?_
               rotate_left; (· (intro w'; go_simp; with_reducible rfl)); rotate_left; (· (simp only [Act.put, sp1, sp2, sp3, i64_w, i32_w]; rfl))
               refine take_ (i := 9) (N := some 44) (v := ?_) (a' := ?_) #[true, true, true, true, true, true, true, true, true, true, true, true, true, false, true, false, false, false, false, false, false, false, false] rfl rfl (take_ofW HT_.out HW_.out (by kernel_rfl)) (fun _ _ _ h => h) (Or.inl ⟨by rfl, ?_⟩) hHeld ?_ ?_
               rotate_left; (· (rintro w' ⟨s0, s1, s2, s3, s4, s5, s6, s7⟩; go_simp; with_reducible rfl)); rotate_left; (· (simp only [Act.put, sp1, sp2, sp3, i64_w, i32_w]; rfl))
               refine take_ (i := 13) (N := some 48) (v := ?_) (a' := ?_) #[true, true, true, true, true, true, true, true, true, true, true, true, true, true, true, false, false, false, false, false, false, false, false] rfl rfl (take_ofW HT_.out HW_.out (by kernel_rfl)) (fun _ _ _ h => h) (Or.inl ⟨by rfl, ?_⟩) hHeld ?_ ?_
               rotate_left; (· (rintro w' ⟨s0, s1, s2, s3, s4, s5, s6, s7⟩; go_simp; with_reducible rfl)); rotate_left; (· (simp only [Act.put, sp1, sp2, sp3, i64_w, i32_w]; rfl))
               refine one_ (i := 15) (N := some 50) #[true, true, true, true, true, true, true, true, true, true, true, true, true, true, true, true, false, false, false, false, false, false, false] rfl rfl (one_of HT_.out (by kernel_rfl)) (by decide) (fun K hK => ?_)
               refine goes_ Try.func76 (by kernel_rfl) rfl #[.agg #[.int .i64 ((rd_T31 x8_3 (ji18)).f0), .int .i64 ((rd_T31 x8_3 (ji18)).f1), .int .i64 ((rd_T31 x8_3 (ji18)).f2), .int .i64 ((rd_T31 x8_3 (ji18)).f3)], .agg #[.int .i64 ((rd_T31 x8_3 x9_3).f0), .int .i64 ((rd_T31 x8_3 x9_3).f1), .int .i64 ((rd_T31 x8_3 x9_3).f2), .int .i64 ((rd_T31 x8_3 x9_3).f3)], .int .i64 a1] (by rfl) rfl rfl (by (try simp only [List.map_toArray, List.map_cons, List.map_nil]); first | done | (simp only [hji18]; rfl) | rfl | (simp only [List.length_drop, List.length_take]; rfl)) ?_
               with_reducible refine (impl_pushed.calls k3 ((rd_T31 x8_3 (ji18)).f0) ((rd_T31 x8_3 (ji18)).f1) ((rd_T31 x8_3 (ji18)).f2) ((rd_T31 x8_3 (ji18)).f3) ((rd_T31 x8_3 x9_3).f0) ((rd_T31 x8_3 x9_3).f1) ((rd_T31 x8_3 x9_3).f2) ((rd_T31 x8_3 x9_3).f3) a1 t253 t254 t255 t256 t257 t258 t259 t260 _ A22.out).mono ?_
               rintro e w38 ⟨rfl, hb⟩
               have HS0_ := (hb.cell (World.block_lt_of_cell? _ _ (hHeld.1))).trans (hHeld.1)
               have HS1_ := (hb.cell (World.block_lt_of_cell? _ _ (hHeld.2.1))).trans (hHeld.2.1)
               have HS2_ := (hb.cell (World.block_lt_of_cell? _ _ (hHeld.2.2.1))).trans (hHeld.2.2.1)
               have HS3_ := (hb.cell (World.block_lt_of_cell? _ _ (hHeld.2.2.2.1))).trans (hHeld.2.2.2.1)
               have HS4_ := (hb.cell (World.block_lt_of_cell? _ _ (hHeld.2.2.2.2.1))).trans (hHeld.2.2.2.2.1)
               have HS5_ := (hb.cell (World.block_lt_of_cell? _ _ (hHeld.2.2.2.2.2.1))).trans (hHeld.2.2.2.2.2.1)
               have HS6_ := (hb.cell (World.block_lt_of_cell? _ _ (hHeld.2.2.2.2.2.2.1))).trans (hHeld.2.2.2.2.2.2.1)
               have HS7_ := (hb.cell (World.block_lt_of_cell? _ _ (hHeld.2.2.2.2.2.2.2))).trans (hHeld.2.2.2.2.2.2.2)
               refine ⟨_, rfl, ?_⟩
               have n0_ := Aside0.mk (Kd.R_below (by (with_reducible repeat (first | apply Kd.R_alloc | apply Kd.R_drewN | apply Kd.R_drew)); exact HO_8.out) hb)
               have n1_ := z_bs HB hb
               clear HO_8
               clear HB
               have HO_8 := n0_
               have HB := n1_
               clear n0_ n1_
               (try clear hb); (try clear hk)
               have p23 : 0 ≤ ((ji18) : Int) := odt
               have q23 : ((ji18) : Int) < ((x8_3.length : Int) : Int) := odt
               obtain ⟨go23, co23, eo23, gb23, gl23, cl23, HG23⟩ := Kd.R_form HO_8.out (by omega)
               (first | cases eo23 | (injection eo23 with ea_ en_ ec_; (first | subst ea_ | (injection ea_ with ea_; subst ea_)); subst ec_; clear en_))
               have GB23 := Aside0.mk gb23
               have GG23 := Aside0.mk HG23
               clear gb23 gl23 HG23
               (first | simp only [add_plain] at hx251_0 | skip)
               (first | simp only [add_plain] at hx251_1 | skip)
               (first | simp only [add_plain] at hx251_2 | skip)
               (first | simp only [add_plain] at hx251_3 | skip)
               (first | simp only [add_plain] at hx252_0 | skip)
               (first | simp only [add_plain] at hx252_1 | skip)
               (first | simp only [add_plain] at hx252_2 | skip)
               (first | simp only [add_plain] at hx252_3 | skip)
               obtain ⟨ce23, hcl23, hM23, hcc23, hfr23⟩ := Kd.R_elem HO_8.out z31 ((ji18) : Int) p23 q23
               obtain rfl := k31_openM hM23
               have hx23_0 : World.cell? _ ⟨go23, ((ji18) : Int).toNat * 4, none⟩ = some (.int .i64 ((rd_T31 x8_3 (ji18)).f0)) := hcc23 0 _ rfl
               have hx23_1 : World.cell? _ ⟨go23, ((ji18) : Int).toNat * 4 + 1, none⟩ = some (.int .i64 ((rd_T31 x8_3 (ji18)).f1)) := hcc23 1 _ rfl
               have hx23_2 : World.cell? _ ⟨go23, ((ji18) : Int).toNat * 4 + 2, none⟩ = some (.int .i64 ((rd_T31 x8_3 (ji18)).f2)) := hcc23 2 _ rfl
               have hx23_3 : World.cell? _ ⟨go23, ((ji18) : Int).toNat * 4 + 3, none⟩ = some (.int .i64 ((rd_T31 x8_3 (ji18)).f3)) := hcc23 3 _ rfl
               have hf23_0 : World.frozen? _ ⟨go23, ((ji18) : Int).toNat * 4, none⟩ = false := hfr23 0
               have hf23_1 : World.frozen? _ ⟨go23, ((ji18) : Int).toNat * 4 + 1, none⟩ = false := hfr23 1
               have hf23_2 : World.frozen? _ ⟨go23, ((ji18) : Int).toNat * 4 + 2, none⟩ = false := hfr23 2
               have hf23_3 : World.frozen? _ ⟨go23, ((ji18) : Int).toNat * 4 + 3, none⟩ = false := hfr23 3
               clear hcl23 hcc23 hfr23 hM23
               replace p23 := eq_true p23
               replace q23 := eq_true q23
               obtain ⟨ce39, hcl39, hM39, hcc39, hfr39⟩ := Kd.R_elem HO_8.out z31 ((ji18) : Int) odt (by have h_ : ((ji18) : Int) < ((x8_3.length : Int) : Int) := odt; first | exact h_ | (have e_ := (Kd.R_reads' HO_8.out).1; omega) | simpa using h_)
               obtain rfl := k31_openM hM39
               have HP39 := (Kd.R_seg HO_8.out ((ji18) : Int) odt (by have h_ : ((ji18) : Int) < ((x8_3.length : Int) : Int) := odt; first | exact h_ | (have e_ := (Kd.R_reads' HO_8.out).1; omega) | simpa using h_) (seg := [.int .i64 t253, .int .i64 t254, .int .i64 t255, .int .i64 t256]) (j := 0) hcl39 hcc39 (show 4 ≤ 4 from by decide) (x' := (⟨t253, t254, t255, t256⟩ : S31)) (k31_mkM _ _ _ (⟨t253, t254, t255, t256⟩ : S31) ) (fun _ hk => hk)).1
               rw [← Ny261.out] at HP39
               have HQ39 := Aside0.mk HP39
               clear hcl39 hcc39 hfr39 hM39 HP39
               have p24 : 0 ≤ (x9_3 : Int) := odt
               have q24 : (x9_3 : Int) < ((x8_3.length : Int) : Int) := odt
               obtain ⟨ce24, hcl24, hM24, hcc24, hfr24⟩ := Kd.R_elem HQ39.out z31 (x9_3 : Int) p24 q24
               obtain rfl := k31_openM hM24
               have hx24_0 : World.cell? _ ⟨go23, (x9_3 : Int).toNat * 4, none⟩ = some (.int .i64 ((rd_T31 y261 x9_3).f0)) := hcc24 0 _ rfl
               have hx24_1 : World.cell? _ ⟨go23, (x9_3 : Int).toNat * 4 + 1, none⟩ = some (.int .i64 ((rd_T31 y261 x9_3).f1)) := hcc24 1 _ rfl
               have hx24_2 : World.cell? _ ⟨go23, (x9_3 : Int).toNat * 4 + 2, none⟩ = some (.int .i64 ((rd_T31 y261 x9_3).f2)) := hcc24 2 _ rfl
               have hx24_3 : World.cell? _ ⟨go23, (x9_3 : Int).toNat * 4 + 3, none⟩ = some (.int .i64 ((rd_T31 y261 x9_3).f3)) := hcc24 3 _ rfl
               have hf24_0 : World.frozen? _ ⟨go23, (x9_3 : Int).toNat * 4, none⟩ = false := hfr24 0
               have hf24_1 : World.frozen? _ ⟨go23, (x9_3 : Int).toNat * 4 + 1, none⟩ = false := hfr24 1
               have hf24_2 : World.frozen? _ ⟨go23, (x9_3 : Int).toNat * 4 + 2, none⟩ = false := hfr24 2
               have hf24_3 : World.frozen? _ ⟨go23, (x9_3 : Int).toNat * 4 + 3, none⟩ = false := hfr24 3
               clear hcl24 hcc24 hfr24 hM24
               replace p24 := eq_true p24
               replace q24 := eq_true q24
               obtain ⟨ce40, hcl40, hM40, hcc40, hfr40⟩ := Kd.R_elem HQ39.out z31 (x9_3 : Int) odt (by have h_ : (x9_3 : Int) < ((x8_3.length : Int) : Int) := odt; first | exact h_ | (have e_ := (Kd.R_reads' HO_8.out).1; omega) | simpa using h_)
               obtain rfl := k31_openM hM40
               have HP40 := (Kd.R_seg HQ39.out (x9_3 : Int) odt (by have h_ : (x9_3 : Int) < ((x8_3.length : Int) : Int) := odt; first | exact h_ | (have e_ := (Kd.R_reads' HO_8.out).1; omega) | simpa using h_) (seg := [.int .i64 t257, .int .i64 t258, .int .i64 t259, .int .i64 t260]) (j := 0) hcl40 hcc40 (show 4 ≤ 4 from by decide) (x' := (⟨t257, t258, t259, t260⟩ : S31)) (k31_mkM _ _ _ (⟨t257, t258, t259, t260⟩ : S31) ) (fun _ hk => hk)).1
               rw [← Ny262.out] at HP40
               have HQ40 := Aside0.mk HP40
               clear hcl40 hcc40 hfr40 hM40 HP40
               refine hK.out _ _ ⟨HS0_, HS1_, HS2_, HS3_, HS4_, HS5_, HS6_, HS7_⟩ (fun hHeld => ?_)
               clear hK K
               refine norm_ (a' := ?_) ?_ ?_
               rotate_left
               ·show Act.put _ (some 50) _ = _
                simp only [Act.put, sp1, sp2, sp3, i64_w, i32_w]
                rfl
               refine pure_ (i := 16) (N := some 34) (v := ?_) (a' := ?_) #[true, true, true, true, true, true, true, true, true, true, true, true, true, true, true, true, true, false, false, false, false, false, false] rfl rfl (any_of HT_.out (by kernel_rfl)) (fun _ _ _ h => h) (Or.inl ⟨by rfl, ?_⟩) ?_ ?_
               rotate_left; (· (intro w'; go_simp; with_reducible rfl)); rotate_left; (· (simp only [Act.put, sp1, sp2, sp3, i64_w, i32_w]; rfl))
               refine pure_ (i := 17) (N := some 51) (v := ?_) (a' := ?_) #[true, true, true, true, true, true, true, true, true, true, true, true, true, true, true, true, true, true, false, false, false, false, false] rfl rfl (any_of HT_.out (by kernel_rfl)) (fun _ _ _ h => h) (Or.inl ⟨by rfl, ?_⟩) ?_ ?_
               rotate_left; (· (intro w'; go_simp; with_reducible rfl)); rotate_left; (· (simp only [Act.put, sp1, sp2, sp3, i64_w, i32_w]; rfl))
               refine pure_ (i := 18) (N := some 52) (v := ?_) (a' := ?_) #[true, true, true, true, true, true, true, true, true, true, true, true, true, true, true, true, true, true, true, false, false, false, false] rfl rfl (any_of HT_.out (by kernel_rfl)) (fun _ _ _ h => h) (Or.inl ⟨by rfl, ?_⟩) ?_ ?_
               rotate_left; (· (intro w'; go_simp; with_reducible rfl)); rotate_left; (· (simp only [Act.put, sp1, sp2, sp3, i64_w, i32_w]; rfl))
               refine pure_ (i := 19) (N := some 53) (v := ?_) (a' := ?_) #[true, true, true, true, true, true, true, true, true, true, true, true, true, true, true, true, true, true, true, true, false, false, false] rfl rfl (any_of HT_.out (by kernel_rfl)) (fun _ _ _ h => h) (Or.inl ⟨by rfl, ?_⟩) ?_ ?_
               rotate_left; (· (intro w'; go_simp; with_reducible rfl)); rotate_left; (· (simp only [Act.put, sp1, sp2, sp3, i64_w, i32_w]; rfl))
               refine last_ (i := 20) (N := none) #[true, true, true, true, true, true, true, true, true, true, true, true, true, true, true, true, true, true, true, true, true, false, false] rfl rfl (one_of HT_.out (by kernel_rfl)) (by decide) (fun K hK => ?_)
               refine skip_ (w1 := ?_) (by rfl) rfl ?_ ?_
               rotate_left
               ·go_simp
                rfl
               refine hK.out _ _ ?_
               clear hK K
               refine pure_ (i := 21) (N := some 54) (v := ?_) (a' := ?_) #[true, true, true, true, true, true, true, true, true, true, true, true, true, true, true, true, true, true, true, true, true, true, false] rfl rfl (any_of HT_.out (by kernel_rfl)) (fun _ _ _ h => h) (Or.inl ⟨by rfl, ?_⟩) ?_ ?_
               rotate_left; (· (intro w'; go_simp; with_reducible rfl)); rotate_left; (· (simp only [Act.put, sp1, sp2, sp3, i64_w, i32_w]; rfl))
               have hne_ : ¬ (ji18 : Int).toNat = (x9_3 : Int).toNat := by
                have h1_ : 0 ≤ (x9_3 : Int) := odt
                have h2_ : 0 ≤ (ji18 : Int) := odt
                have e_ := hji18
                unfold wrap64 at e_
                omega
               have hq0_ : ∀ (g_ : Nat) (w_ : World) (v_ : Value), (w_.setCell ⟨g_, (ji18 : Int).toNat * 4, none⟩ v_).cell? ⟨g_, (x9_3 : Int).toNat * 4, none⟩ = w_.cell? ⟨g_, (x9_3 : Int).toNat * 4, none⟩ := fun g_ w_ v_ => World.cell?_setCell_other w_ _ _ v_ (by intro h_; have h2_ : (ji18 : Int).toNat * 4 = (x9_3 : Int).toNat * 4 := congrArg Addr.off h_; omega)
               have hq1_ : ∀ (g_ : Nat) (w_ : World) (v_ : Value), (w_.setCell ⟨g_, (ji18 : Int).toNat * 4 + 1, none⟩ v_).cell? ⟨g_, (x9_3 : Int).toNat * 4 + 1, none⟩ = w_.cell? ⟨g_, (x9_3 : Int).toNat * 4 + 1, none⟩ := fun g_ w_ v_ => World.cell?_setCell_other w_ _ _ v_ (by intro h_; have h2_ : (ji18 : Int).toNat * 4 + 1 = (x9_3 : Int).toNat * 4 + 1 := congrArg Addr.off h_; omega)
               have hq2_ : ∀ (g_ : Nat) (w_ : World) (v_ : Value), (w_.setCell ⟨g_, (ji18 : Int).toNat * 4 + 2, none⟩ v_).cell? ⟨g_, (x9_3 : Int).toNat * 4 + 2, none⟩ = w_.cell? ⟨g_, (x9_3 : Int).toNat * 4 + 2, none⟩ := fun g_ w_ v_ => World.cell?_setCell_other w_ _ _ v_ (by intro h_; have h2_ : (ji18 : Int).toNat * 4 + 2 = (x9_3 : Int).toNat * 4 + 2 := congrArg Addr.off h_; omega)
               have hq3_ : ∀ (g_ : Nat) (w_ : World) (v_ : Value), (w_.setCell ⟨g_, (ji18 : Int).toNat * 4 + 3, none⟩ v_).cell? ⟨g_, (x9_3 : Int).toNat * 4 + 3, none⟩ = w_.cell? ⟨g_, (x9_3 : Int).toNat * 4 + 3, none⟩ := fun g_ w_ v_ => World.cell?_setCell_other w_ _ _ v_ (by intro h_; have h2_ : (ji18 : Int).toNat * 4 + 3 = (x9_3 : Int).toNat * 4 + 3 := congrArg Addr.off h_; omega)
               obtain ⟨ceq_, hclq_, hMq_, hccq_, hfrq_⟩ := Kd.R_elem HO_8.out z31 (x9_3 : Int) odt (by have h_ : (x9_3 : Int) < ((x8_3.length : Int) : Int) := odt; first | exact h_ | (have e_ := (Kd.R_reads' HO_8.out).1; omega) | simpa using h_)
               obtain rfl := k31_openM hMq_
               have hxq0_ : World.cell? _ ⟨_, (x9_3 : Int).toNat * 4, none⟩ = some (.int .i64 ((rd_T31 x8_3 x9_3).f0)) := hccq_ 0 _ rfl
               have hfq0_ : World.frozen? _ ⟨_, (x9_3 : Int).toNat * 4, none⟩ = false := hfrq_ 0
               have hxq1_ : World.cell? _ ⟨_, (x9_3 : Int).toNat * 4 + 1, none⟩ = some (.int .i64 ((rd_T31 x8_3 x9_3).f1)) := hccq_ 1 _ rfl
               have hfq1_ : World.frozen? _ ⟨_, (x9_3 : Int).toNat * 4 + 1, none⟩ = false := hfrq_ 1
               have hxq2_ : World.cell? _ ⟨_, (x9_3 : Int).toNat * 4 + 2, none⟩ = some (.int .i64 ((rd_T31 x8_3 x9_3).f2)) := hccq_ 2 _ rfl
               have hfq2_ : World.frozen? _ ⟨_, (x9_3 : Int).toNat * 4 + 2, none⟩ = false := hfrq_ 2
               have hxq3_ : World.cell? _ ⟨_, (x9_3 : Int).toNat * 4 + 3, none⟩ = some (.int .i64 ((rd_T31 x8_3 x9_3).f3)) := hccq_ 3 _ rfl
               have hfq3_ : World.frozen? _ ⟨_, (x9_3 : Int).toNat * 4 + 3, none⟩ = false := hfrq_ 3
               refine last_ (i := 22) (N := none) #[true, true, true, true, true, true, true, true, true, true, true, true, true, true, true, true, true, true, true, true, true, true, true] rfl rfl (one_of HT_.out (by kernel_rfl)) (by decide) (fun K hK => ?_)
               refine skip_ (w1 := ?_) (by rfl) rfl ?_ ?_
               rotate_left
               ·go_simp
                rfl
               refine hK.out _ _ ?_
               clear hK K
               refine done_ (done_of HT_.out (by kernel_rfl)) ?_
               have p263 : 0 ≤ ((ji18) : Int) := odt
               have q263 : (ji18) < (y262.length : Int) := (by have h_ : ((ji18) : Int) < ((x8_3.length : Int) : Int) := odt; first | (have e_ := (Kd.R_reads' HO_8.out).1; omega) | simpa only [Ny261.out, Ny262.out, List.length_set] using h_)
               have ql263 : (((ji18) : Int) < ((x8_3.length : Int) : Int)) = True := eq_true odt
               obtain ⟨ad263, e263, hx263_0, hx263_1, hx263_2, hx263_3⟩ := at_T31 (Kd.R_reads' HQ40.out).2.2 (ji18) p263 q263
               obtain rfl : (⟨go23, 0, none⟩ : Addr) = ad263 := (by injection e263)
               (first | simp only [add_plain] at hx263_0 | simp only [add_at] at hx263_0 | simp only [Addr.add, Nat.zero_add] at hx263_0 | skip)
               (first | simp only [add_plain] at hx263_1 | simp only [add_at] at hx263_1 | simp only [Addr.add, Nat.zero_add] at hx263_1 | skip)
               (first | simp only [add_plain] at hx263_2 | simp only [add_at] at hx263_2 | simp only [Addr.add, Nat.zero_add] at hx263_2 | skip)
               (first | simp only [add_plain] at hx263_3 | simp only [add_at] at hx263_3 | simp only [Addr.add, Nat.zero_add] at hx263_3 | skip)
               replace p263 := eq_true p263
               replace q263 := eq_true q263
               try go_wp2_with (first | ((with_reducible refine gate_callee (f := 71) rfl ?_); refine goesL_ (some 60) rfl rfl Try.func71 (by kernel_rfl) rfl #[.agg #[.int .i64 t253, .int .i64 t254, .int .i64 t255, .int .i64 t256]] rfl (by (try simp only [List.map_toArray, List.map_cons, List.map_nil]); first | done | (simp only [hji18]; rfl) | rfl | (simp only [List.length_drop, List.length_take]; rfl)) ?_; (with_reducible refine (impl_isBody.calls t253 t254 t255 t256 true _ A25.out).mono ?_); rintro e w41 ⟨rfl, hb⟩; refine ⟨_, rfl, ?_⟩; have n0_ := Aside0.mk (Kd.R_below (by (with_reducible repeat (first | apply Kd.R_alloc | apply Kd.R_drewN | apply Kd.R_drew)); exact HQ40.out) hb); have n1_ := z_bs HB hb; clear HO_8; clear HB; have HO_8 := n0_; have HB := n1_; clear n0_ n1_; (try clear hb); (try clear hb2); (try clear hk); (try clear hi); have p265 : 0 ≤ (x9_3 : Int) := odt; have q265 : x9_3 < (y262.length : Int) := (by have h_ : (x9_3 : Int) < ((x8_3.length : Int) : Int) := odt; first | (have e_ := (Kd.R_reads' HO_8.out).1; omega) | simpa only [Ny261.out, Ny262.out, List.length_set] using h_); have ql265 : ((x9_3 : Int) < ((x8_3.length : Int) : Int)) = True := eq_true odt; obtain ⟨ad265, e265, hx265_0, hx265_1, hx265_2, hx265_3⟩ := at_T31 (Kd.R_reads' HO_8.out).2.2 x9_3 p265 q265; obtain rfl : (⟨go23, 0, none⟩ : Addr) = ad265 := (by injection e265); (first | simp only [add_plain] at hx265_0 | simp only [add_at] at hx265_0 | simp only [Addr.add, Nat.zero_add] at hx265_0 | skip); (first | simp only [add_plain] at hx265_1 | simp only [add_at] at hx265_1 | simp only [Addr.add, Nat.zero_add] at hx265_1 | skip); (first | simp only [add_plain] at hx265_2 | simp only [add_at] at hx265_2 | simp only [Addr.add, Nat.zero_add] at hx265_2 | skip); (first | simp only [add_plain] at hx265_3 | simp only [add_at] at hx265_3 | simp only [Addr.add, Nat.zero_add] at hx265_3 | skip); replace p265 := eq_true p265; replace q265 := eq_true q265) | (go_at_call 71; (with_reducible refine (impl_isBody.calls ((rd_T31 y262 x9_3).f0) ((rd_T31 y262 x9_3).f1) ((rd_T31 y262 x9_3).f2) ((rd_T31 y262 x9_3).f3) false _ A27.out).mono ?_); rintro e w42 ⟨rfl, hb⟩; have n0_ := Aside0.mk (Kd.R_below (by (with_reducible repeat (first | apply Kd.R_alloc | apply Kd.R_drewN | apply Kd.R_drew)); exact HO_8.out) hb); have n1_ := z_bs HB hb; clear HO_8; clear HB; have HO_8 := n0_; have HB := n1_; clear n0_ n1_; (try clear hb); (try clear hb2); (try clear hk); (try clear hi)))
               go_ret2
               exact ⟨_, by first | rfl | (simp [errW_none, errW_some] <;> rfl) | (simp only [← hji18]; first | rfl | (simp [errW_none, errW_some] <;> rfl)) | (simp [*, errW_none, errW_some] <;> rfl), by first | exact Kd.R_nil _ _ _ _ _ | exact Kd.N_nil _ _ _ _ _ | exact Kd.V_nil _ _ _ _ _ | exact Kd.Q_nil _ _ _ _ _ | exact Kd.S_nil _ _ _ _ _, blw⟩
             ·replace c26 := Bool.eq_false_iff.mpr c26
              subst c26
              have H1 : (some (([] : List (S31)), false)) = some (r1, r2) := by rw [if_neg (show ¬ (false = true) by decide)] at H; exact H
              clear H
              have H := H1
              clear H1
              simp only [Option.some.injEq, Prod.mk.injEq] at H
              obtain ⟨rfl, rfl⟩ := H
              obtain ⟨Ao43, co43, eo43⟩ := Kd.R_slice HO_8.out
              subst eo43
              try go_wp2
              have n0_ := Aside0.mk (Kd.R_drew HO_8.out)
              have n1_ := Aside0.mk (below_drew1 HB.out)
              clear HO_8
              clear HB
              have HO_8 := n0_
              have HB := n1_
              clear n0_ n1_
              have p251 : 0 ≤ ((ji18) : Int) := odt
              have q251 : (ji18) < (x8_3.length : Int) := odt
              obtain ⟨ad251, e251, hx251_0, hx251_1, hx251_2, hx251_3⟩ := at_T31 (Kd.R_reads' HO_8.out).2.2 (ji18) p251 q251
              cases e251
              replace p251 := eq_true p251
              replace q251 := eq_true q251
              have p252 : 0 ≤ (x9_3 : Int) := odt
              have q252 : x9_3 < (x8_3.length : Int) := odt
              obtain ⟨ad252, e252, hx252_0, hx252_1, hx252_2, hx252_3⟩ := at_T31 (Kd.R_reads' HO_8.out).2.2 x9_3 p252 q252
              obtain rfl : ad251 = ad252 := (by injection e252)
              replace p252 := eq_true p252
              replace q252 := eq_true q252
              refine start_ (n := 23) (S := fun w' => w'.cell? (ad251.add (((ji18)).toNat * 4)) = some (.int .i64 ((rd_T31 x8_3 (ji18)).f0)) ∧ w'.cell? ⟨(ad251.add (((ji18)).toNat * 4)).block, (ad251.add (((ji18)).toNat * 4)).off + 1, none⟩ = some (.int .i64 ((rd_T31 x8_3 (ji18)).f1)) ∧ w'.cell? ⟨(ad251.add (((ji18)).toNat * 4)).block, (ad251.add (((ji18)).toNat * 4)).off + 2, none⟩ = some (.int .i64 ((rd_T31 x8_3 (ji18)).f2)) ∧ w'.cell? ⟨(ad251.add (((ji18)).toNat * 4)).block, (ad251.add (((ji18)).toNat * 4)).off + 3, none⟩ = some (.int .i64 ((rd_T31 x8_3 (ji18)).f3)) ∧ w'.cell? (ad251.add ((x9_3).toNat * 4)) = some (.int .i64 ((rd_T31 x8_3 x9_3).f0)) ∧ w'.cell? ⟨(ad251.add ((x9_3).toNat * 4)).block, (ad251.add ((x9_3).toNat * 4)).off + 1, none⟩ = some (.int .i64 ((rd_T31 x8_3 x9_3).f1)) ∧ w'.cell? ⟨(ad251.add ((x9_3).toNat * 4)).block, (ad251.add ((x9_3).toNat * 4)).off + 2, none⟩ = some (.int .i64 ((rd_T31 x8_3 x9_3).f2)) ∧ w'.cell? ⟨(ad251.add ((x9_3).toNat * 4)).block, (ad251.add ((x9_3).toNat * 4)).off + 3, none⟩ = some (.int .i64 ((rd_T31 x8_3 x9_3).f3))) (ds := [20, 22]) #[false, false, false, false, false, false, false, false, false, false, false, false, false, false, false, false, false, false, false, false, false, false, false] (by kernel_rfl) rfl rfl ⟨hx251_0, hx251_1, hx251_2, hx251_3, hx252_0, hx252_1, hx252_2, hx252_3⟩ (fun hHeld => ?_); refine with_tabW impl_PushLine.tab9 impl_PushLine.bits9 (fun HT_ HW_ => ?_)
              generalize wr.drew = w44 at HO_8 HB hx251_0 hx251_1 hx251_2 hx251_3 hx252_0 hx252_1 hx252_2 hx252_3 hHeld ⊢
              refine pure_ (i := 0) (N := some 35) (v := ?_) (a' := ?_) #[true, false, false, false, false, false, false, false, false, false, false, false, false, false, false, false, false, false, false, false, false, false, false] rfl rfl (any_of HT_.out (by kernel_rfl)) (fun _ _ _ h => h) (Or.inl ⟨by rfl, ?_⟩) ?_ ?_
              rotate_left; (· (intro w'; go_simp; with_reducible rfl)); rotate_left; (· (simp only [Act.put, sp1, sp2, sp3, i64_w, i32_w]; rfl))
              refine pure_ (i := 1) (N := some 36) (v := ?_) (a' := ?_) #[true, true, false, false, false, false, false, false, false, false, false, false, false, false, false, false, false, false, false, false, false, false, false] rfl rfl (any_of HT_.out (by kernel_rfl)) (fun _ _ _ h => h) (Or.inl ⟨by rfl, ?_⟩) ?_ ?_
              rotate_left; (· (intro w'; go_simp; with_reducible rfl)); rotate_left; (· (simp only [Act.put, sp1, sp2, sp3, i64_w, i32_w]; rfl))
              refine pure_ (i := 2) (N := some 37) (v := ?_) (a' := ?_) #[true, true, true, false, false, false, false, false, false, false, false, false, false, false, false, false, false, false, false, false, false, false, false] rfl rfl (any_of HT_.out (by kernel_rfl)) (fun _ _ _ h => h) (Or.inl ⟨by rfl, ?_⟩) ?_ ?_
              rotate_left; (· (intro w'; go_simp; with_reducible rfl)); rotate_left; (· (simp only [Act.put, sp1, sp2, sp3, i64_w, i32_w]; rfl))
              refine pure_ (i := 3) (N := some 38) (v := ?_) (a' := ?_) #[true, true, true, true, false, false, false, false, false, false, false, false, false, false, false, false, false, false, false, false, false, false, false] rfl rfl (any_of HT_.out (by kernel_rfl)) (fun _ _ _ h => h) (Or.inl ⟨by rfl, ?_⟩) ?_ ?_
              rotate_left; (· (intro w'; go_simp; with_reducible rfl)); rotate_left; (· (simp only [Act.put, sp1, sp2, sp3, i64_w, i32_w]; rfl))
              refine pure_ (i := 4) (N := some 39) (v := ?_) (a' := ?_) #[true, true, true, true, true, false, false, false, false, false, false, false, false, false, false, false, false, false, false, false, false, false, false] rfl rfl (any_of HT_.out (by kernel_rfl)) (fun _ _ _ h => h) (Or.inl ⟨by rfl, ?_⟩) ?_ ?_
              rotate_left; (· (intro w'; go_simp; with_reducible rfl)); rotate_left; (· (simp only [Act.put, sp1, sp2, sp3, i64_w, i32_w]; rfl))
              refine pure_ (i := 5) (N := some 40) (v := ?_) (a' := ?_) #[true, true, true, true, true, true, false, false, false, false, false, false, false, false, false, false, false, false, false, false, false, false, false] rfl rfl (any_of HT_.out (by kernel_rfl)) (fun _ _ _ h => h) (Or.inl ⟨by rfl, ?_⟩) ?_ ?_
              rotate_left; (· (intro w'; go_simp; with_reducible rfl)); rotate_left; (· (simp only [Act.put, sp1, sp2, sp3, i64_w, i32_w]; rfl))
              refine pure_ (i := 6) (N := some 41) (v := ?_) (a' := ?_) #[true, true, true, true, true, true, true, false, false, false, false, false, false, false, false, false, false, false, false, false, false, false, false] rfl rfl (any_of HT_.out (by kernel_rfl)) (fun _ _ _ h => h) (Or.inl ⟨by rfl, ?_⟩) ?_ ?_
              rotate_left; (· (intro w'; go_simp; with_reducible rfl)); rotate_left; (· (simp only [Act.put, sp1, sp2, sp3, i64_w, i32_w]; rfl))
              refine pure_ (i := 7) (N := some 42) (v := ?_) (a' := ?_) #[true, true, true, true, true, true, true, true, false, false, false, false, false, false, false, false, false, false, false, false, false, false, false] rfl rfl (any_of HT_.out (by kernel_rfl)) (fun _ _ _ h => h) (Or.inl ⟨by rfl, ?_⟩) ?_ ?_
              rotate_left; (· (intro w'; go_simp; with_reducible rfl)); rotate_left; (· (simp only [Act.put, sp1, sp2, sp3, i64_w, i32_w]; rfl))
              refine pure_ (i := 8) (N := some 43) (v := ?_) (a' := ?_) #[true, true, true, true, true, true, true, true, true, false, false, false, false, false, false, false, false, false, false, false, false, false, false] rfl rfl (any_of HT_.out (by kernel_rfl)) (fun _ _ _ h => h) (Or.inl ⟨by rfl, ?_⟩) ?_ ?_
              rotate_left; (· (intro w'; go_simp; with_reducible rfl)); rotate_left; (· (simp only [Act.put, sp1, sp2, sp3, i64_w, i32_w]; rfl))
              refine pure_ (i := 10) (N := some 45) (v := ?_) (a' := ?_) #[true, true, true, true, true, true, true, true, true, false, true, false, false, false, false, false, false, false, false, false, false, false, false] rfl rfl (any_of HT_.out (by kernel_rfl)) (fun _ _ _ h => h) (Or.inl ⟨by rfl, ?_⟩) ?_ ?_
              rotate_left; (· (intro w'; go_simp; with_reducible rfl)); rotate_left; (· (simp only [Act.put, sp1, sp2, sp3, i64_w, i32_w]; rfl))
              refine pure_ (i := 11) (N := some 46) (v := ?_) (a' := ?_) #[true, true, true, true, true, true, true, true, true, false, true, true, false, false, false, false, false, false, false, false, false, false, false] rfl rfl (any_of HT_.out (by kernel_rfl)) (fun _ _ _ h => h) (Or.inl ⟨by rfl, ?_⟩) ?_ ?_
              rotate_left; (· (intro w'; go_simp; with_reducible rfl)); rotate_left; (· (simp only [Act.put, sp1, sp2, sp3, i64_w, i32_w]; rfl))
              refine pure_ (i := 12) (N := some 47) (v := ?_) (a' := ?_) #[true, true, true, true, true, true, true, true, true, false, true, true, true, false, false, false, false, false, false, false, false, false, false] rfl rfl (any_of HT_.out (by kernel_rfl)) (fun _ _ _ h => h) (Or.inl ⟨by rfl, ?_⟩) ?_ ?_
              rotate_left; (· (intro w'; go_simp; with_reducible rfl)); rotate_left; (· (simp only [Act.put, sp1, sp2, sp3, i64_w, i32_w]; rfl))
              refine pure_ (i := 14) (N := some 49) (v := ?_) (a' := ?_) #[true, true, true, true, true, true, true, true, true, false, true, true, true, false, true, false, false, false, false, false, false, false, false] rfl rfl (any_of HT_.out (by kernel_rfl)) (fun _ _ _ h => h) (Or.inl ⟨by rfl, ?_⟩) ?_ ?_
              rotate_left; (· (intro w'; go_simp; with_reducible rfl)); rotate_left; (· (simp only [Act.put, sp1, sp2, sp3, i64_w, i32_w]; rfl))
              refine take_ (i := 9) (N := some 44) (v := ?_) (a' := ?_) #[true, true, true, true, true, true, true, true, true, true, true, true, true, false, true, false, false, false, false, false, false, false, false] rfl rfl (take_ofW HT_.out HW_.out (by kernel_rfl)) (fun _ _ _ h => h) (Or.inl ⟨by rfl, ?_⟩) hHeld ?_ ?_
              rotate_left; (· (rintro w' ⟨s0, s1, s2, s3, s4, s5, s6, s7⟩; go_simp; with_reducible rfl)); rotate_left; (· (simp only [Act.put, sp1, sp2, sp3, i64_w, i32_w]; rfl))
              refine take_ (i := 13) (N := some 48) (v := ?_) (a' := ?_) #[true, true, true, true, true, true, true, true, true, true, true, true, true, true, true, false, false, false, false, false, false, false, false] rfl rfl (take_ofW HT_.out HW_.out (by kernel_rfl)) (fun _ _ _ h => h) (Or.inl ⟨by rfl, ?_⟩) hHeld ?_ ?_
              rotate_left; (· (rintro w' ⟨s0, s1, s2, s3, s4, s5, s6, s7⟩; go_simp; with_reducible rfl)); rotate_left; (· (simp only [Act.put, sp1, sp2, sp3, i64_w, i32_w]; rfl))
              refine one_ (i := 15) (N := some 50) #[true, true, true, true, true, true, true, true, true, true, true, true, true, true, true, true, false, false, false, false, false, false, false] rfl rfl (one_of HT_.out (by kernel_rfl)) (by decide) (fun K hK => ?_)
              refine goes_ Try.func76 (by kernel_rfl) rfl #[.agg #[.int .i64 ((rd_T31 x8_3 (ji18)).f0), .int .i64 ((rd_T31 x8_3 (ji18)).f1), .int .i64 ((rd_T31 x8_3 (ji18)).f2), .int .i64 ((rd_T31 x8_3 (ji18)).f3)], .agg #[.int .i64 ((rd_T31 x8_3 x9_3).f0), .int .i64 ((rd_T31 x8_3 x9_3).f1), .int .i64 ((rd_T31 x8_3 x9_3).f2), .int .i64 ((rd_T31 x8_3 x9_3).f3)], .int .i64 a1] (by rfl) rfl rfl (by (try simp only [List.map_toArray, List.map_cons, List.map_nil]); first | done | (simp only [hji18]; rfl) | rfl | (simp only [List.length_drop, List.length_take]; rfl)) ?_
              with_reducible refine (impl_pushed.calls k3 ((rd_T31 x8_3 (ji18)).f0) ((rd_T31 x8_3 (ji18)).f1) ((rd_T31 x8_3 (ji18)).f2) ((rd_T31 x8_3 (ji18)).f3) ((rd_T31 x8_3 x9_3).f0) ((rd_T31 x8_3 x9_3).f1) ((rd_T31 x8_3 x9_3).f2) ((rd_T31 x8_3 x9_3).f3) a1 t253 t254 t255 t256 t257 t258 t259 t260 _ A22.out).mono ?_
              rintro e w45 ⟨rfl, hb⟩
              have HS0_ := (hb.cell (World.block_lt_of_cell? _ _ (hHeld.1))).trans (hHeld.1)
              have HS1_ := (hb.cell (World.block_lt_of_cell? _ _ (hHeld.2.1))).trans (hHeld.2.1)
              have HS2_ := (hb.cell (World.block_lt_of_cell? _ _ (hHeld.2.2.1))).trans (hHeld.2.2.1)
              have HS3_ := (hb.cell (World.block_lt_of_cell? _ _ (hHeld.2.2.2.1))).trans (hHeld.2.2.2.1)
              have HS4_ := (hb.cell (World.block_lt_of_cell? _ _ (hHeld.2.2.2.2.1))).trans (hHeld.2.2.2.2.1)
              have HS5_ := (hb.cell (World.block_lt_of_cell? _ _ (hHeld.2.2.2.2.2.1))).trans (hHeld.2.2.2.2.2.1)
              have HS6_ := (hb.cell (World.block_lt_of_cell? _ _ (hHeld.2.2.2.2.2.2.1))).trans (hHeld.2.2.2.2.2.2.1)
              have HS7_ := (hb.cell (World.block_lt_of_cell? _ _ (hHeld.2.2.2.2.2.2.2))).trans (hHeld.2.2.2.2.2.2.2)
              refine ⟨_, rfl, ?_⟩
              have n0_ := Aside0.mk (Kd.R_below (by (with_reducible repeat (first | apply Kd.R_alloc | apply Kd.R_drewN | apply Kd.R_drew)); exact HO_8.out) hb)
              have n1_ := z_bs HB hb
              clear HO_8
              clear HB
              have HO_8 := n0_
              have HB := n1_
              clear n0_ n1_
              (try clear hb); (try clear hk)
              have p23 : 0 ≤ ((ji18) : Int) := odt
              have q23 : ((ji18) : Int) < ((x8_3.length : Int) : Int) := odt
              obtain ⟨go23, co23, eo23, gb23, gl23, cl23, HG23⟩ := Kd.R_form HO_8.out (by omega)
              (first | cases eo23 | (injection eo23 with ea_ en_ ec_; (first | subst ea_ | (injection ea_ with ea_; subst ea_)); subst ec_; clear en_))
              have GB23 := Aside0.mk gb23
              have GG23 := Aside0.mk HG23
              clear gb23 gl23 HG23
              (first | simp only [add_plain] at hx251_0 | skip)
              (first | simp only [add_plain] at hx251_1 | skip)
              (first | simp only [add_plain] at hx251_2 | skip)
              (first | simp only [add_plain] at hx251_3 | skip)
              (first | simp only [add_plain] at hx252_0 | skip)
              (first | simp only [add_plain] at hx252_1 | skip)
              (first | simp only [add_plain] at hx252_2 | skip)
              (first | simp only [add_plain] at hx252_3 | skip)
              obtain ⟨ce23, hcl23, hM23, hcc23, hfr23⟩ := Kd.R_elem HO_8.out z31 ((ji18) : Int) p23 q23
              obtain rfl := k31_openM hM23
              have hx23_0 : World.cell? _ ⟨go23, ((ji18) : Int).toNat * 4, none⟩ = some (.int .i64 ((rd_T31 x8_3 (ji18)).f0)) := hcc23 0 _ rfl
              have hx23_1 : World.cell? _ ⟨go23, ((ji18) : Int).toNat * 4 + 1, none⟩ = some (.int .i64 ((rd_T31 x8_3 (ji18)).f1)) := hcc23 1 _ rfl
              have hx23_2 : World.cell? _ ⟨go23, ((ji18) : Int).toNat * 4 + 2, none⟩ = some (.int .i64 ((rd_T31 x8_3 (ji18)).f2)) := hcc23 2 _ rfl
              have hx23_3 : World.cell? _ ⟨go23, ((ji18) : Int).toNat * 4 + 3, none⟩ = some (.int .i64 ((rd_T31 x8_3 (ji18)).f3)) := hcc23 3 _ rfl
              have hf23_0 : World.frozen? _ ⟨go23, ((ji18) : Int).toNat * 4, none⟩ = false := hfr23 0
              have hf23_1 : World.frozen? _ ⟨go23, ((ji18) : Int).toNat * 4 + 1, none⟩ = false := hfr23 1
              have hf23_2 : World.frozen? _ ⟨go23, ((ji18) : Int).toNat * 4 + 2, none⟩ = false := hfr23 2
              have hf23_3 : World.frozen? _ ⟨go23, ((ji18) : Int).toNat * 4 + 3, none⟩ = false := hfr23 3
              clear hcl23 hcc23 hfr23 hM23
              replace p23 := eq_true p23
              replace q23 := eq_true q23
              obtain ⟨ce46, hcl46, hM46, hcc46, hfr46⟩ := Kd.R_elem HO_8.out z31 ((ji18) : Int) odt (by have h_ : ((ji18) : Int) < ((x8_3.length : Int) : Int) := odt; first | exact h_ | (have e_ := (Kd.R_reads' HO_8.out).1; omega) | simpa using h_)
              obtain rfl := k31_openM hM46
              have HP46 := (Kd.R_seg HO_8.out ((ji18) : Int) odt (by have h_ : ((ji18) : Int) < ((x8_3.length : Int) : Int) := odt; first | exact h_ | (have e_ := (Kd.R_reads' HO_8.out).1; omega) | simpa using h_) (seg := [.int .i64 t253, .int .i64 t254, .int .i64 t255, .int .i64 t256]) (j := 0) hcl46 hcc46 (show 4 ≤ 4 from by decide) (x' := (⟨t253, t254, t255, t256⟩ : S31)) (k31_mkM _ _ _ (⟨t253, t254, t255, t256⟩ : S31) ) (fun _ hk => hk)).1
              rw [← Ny261.out] at HP46
              have HQ46 := Aside0.mk HP46
              clear hcl46 hcc46 hfr46 hM46 HP46
              have p24 : 0 ≤ (x9_3 : Int) := odt
              have q24 : (x9_3 : Int) < ((x8_3.length : Int) : Int) := odt
              obtain ⟨ce24, hcl24, hM24, hcc24, hfr24⟩ := Kd.R_elem HQ46.out z31 (x9_3 : Int) p24 q24
              obtain rfl := k31_openM hM24
              have hx24_0 : World.cell? _ ⟨go23, (x9_3 : Int).toNat * 4, none⟩ = some (.int .i64 ((rd_T31 y261 x9_3).f0)) := hcc24 0 _ rfl
              have hx24_1 : World.cell? _ ⟨go23, (x9_3 : Int).toNat * 4 + 1, none⟩ = some (.int .i64 ((rd_T31 y261 x9_3).f1)) := hcc24 1 _ rfl
              have hx24_2 : World.cell? _ ⟨go23, (x9_3 : Int).toNat * 4 + 2, none⟩ = some (.int .i64 ((rd_T31 y261 x9_3).f2)) := hcc24 2 _ rfl
              have hx24_3 : World.cell? _ ⟨go23, (x9_3 : Int).toNat * 4 + 3, none⟩ = some (.int .i64 ((rd_T31 y261 x9_3).f3)) := hcc24 3 _ rfl
              have hf24_0 : World.frozen? _ ⟨go23, (x9_3 : Int).toNat * 4, none⟩ = false := hfr24 0
              have hf24_1 : World.frozen? _ ⟨go23, (x9_3 : Int).toNat * 4 + 1, none⟩ = false := hfr24 1
              have hf24_2 : World.frozen? _ ⟨go23, (x9_3 : Int).toNat * 4 + 2, none⟩ = false := hfr24 2
              have hf24_3 : World.frozen? _ ⟨go23, (x9_3 : Int).toNat * 4 + 3, none⟩ = false := hfr24 3
              clear hcl24 hcc24 hfr24 hM24
              replace p24 := eq_true p24
              replace q24 := eq_true q24
              obtain ⟨ce47, hcl47, hM47, hcc47, hfr47⟩ := Kd.R_elem HQ46.out z31 (x9_3 : Int) odt (by have h_ : (x9_3 : Int) < ((x8_3.length : Int) : Int) := odt; first | exact h_ | (have e_ := (Kd.R_reads' HO_8.out).1; omega) | simpa using h_)
              obtain rfl := k31_openM hM47
              have HP47 := (Kd.R_seg HQ46.out (x9_3 : Int) odt (by have h_ : (x9_3 : Int) < ((x8_3.length : Int) : Int) := odt; first | exact h_ | (have e_ := (Kd.R_reads' HO_8.out).1; omega) | simpa using h_) (seg := [.int .i64 t257, .int .i64 t258, .int .i64 t259, .int .i64 t260]) (j := 0) hcl47 hcc47 (show 4 ≤ 4 from by decide) (x' := (⟨t257, t258, t259, t260⟩ : S31)) (k31_mkM _ _ _ (⟨t257, t258, t259, t260⟩ : S31) ) (fun _ hk => hk)).1
              rw [← Ny262.out] at HP47
              have HQ47 := Aside0.mk HP47
              clear hcl47 hcc47 hfr47 hM47 HP47
              refine hK.out _ _ ⟨HS0_, HS1_, HS2_, HS3_, HS4_, HS5_, HS6_, HS7_⟩ (fun hHeld => ?_)
              clear hK K
              refine norm_ (a' := ?_) ?_ ?_
              rotate_left
              ·show Act.put _ (some 50) _ = _
               simp only [Act.put, sp1, sp2, sp3, i64_w, i32_w]
               rfl
              refine pure_ (i := 16) (N := some 34) (v := ?_) (a' := ?_) #[true, true, true, true, true, true, true, true, true, true, true, true, true, true, true, true, true, false, false, false, false, false, false] rfl rfl (any_of HT_.out (by kernel_rfl)) (fun _ _ _ h => h) (Or.inl ⟨by rfl, ?_⟩) ?_ ?_
              rotate_left; (· (intro w'; go_simp; with_reducible rfl)); rotate_left; (· (simp only [Act.put, sp1, sp2, sp3, i64_w, i32_w]; rfl))
              refine pure_ (i := 17) (N := some 51) (v := ?_) (a' := ?_) #[true, true, true, true, true, true, true, true, true, true, true, true, true, true, true, true, true, true, false, false, false, false, false] rfl rfl (any_of HT_.out (by kernel_rfl)) (fun _ _ _ h => h) (Or.inl ⟨by rfl, ?_⟩) ?_ ?_
              rotate_left; (· (intro w'; go_simp; with_reducible rfl)); rotate_left; (· (simp only [Act.put, sp1, sp2, sp3, i64_w, i32_w]; rfl))
              refine pure_ (i := 18) (N := some 52) (v := ?_) (a' := ?_) #[true, true, true, true, true, true, true, true, true, true, true, true, true, true, true, true, true, true, true, false, false, false, false] rfl rfl (any_of HT_.out (by kernel_rfl)) (fun _ _ _ h => h) (Or.inl ⟨by rfl, ?_⟩) ?_ ?_
              rotate_left; (· (intro w'; go_simp; with_reducible rfl)); rotate_left; (· (simp only [Act.put, sp1, sp2, sp3, i64_w, i32_w]; rfl))
              refine pure_ (i := 19) (N := some 53) (v := ?_) (a' := ?_) #[true, true, true, true, true, true, true, true, true, true, true, true, true, true, true, true, true, true, true, true, false, false, false] rfl rfl (any_of HT_.out (by kernel_rfl)) (fun _ _ _ h => h) (Or.inl ⟨by rfl, ?_⟩) ?_ ?_
              rotate_left; (· (intro w'; go_simp; with_reducible rfl)); rotate_left; (· (simp only [Act.put, sp1, sp2, sp3, i64_w, i32_w]; rfl))
              refine last_ (i := 20) (N := none) #[true, true, true, true, true, true, true, true, true, true, true, true, true, true, true, true, true, true, true, true, true, false, false] rfl rfl (one_of HT_.out (by kernel_rfl)) (by decide) (fun K hK => ?_)
              refine skip_ (w1 := ?_) (by rfl) rfl ?_ ?_
              rotate_left
              ·go_simp
               rfl
              refine hK.out _ _ ?_
              clear hK K
              refine pure_ (i := 21) (N := some 54) (v := ?_) (a' := ?_) #[true, true, true, true, true, true, true, true, true, true, true, true, true, true, true, true, true, true, true, true, true, true, false] rfl rfl (any_of HT_.out (by kernel_rfl)) (fun _ _ _ h => h) (Or.inl ⟨by rfl, ?_⟩) ?_ ?_
              rotate_left; (· (intro w'; go_simp; with_reducible rfl)); rotate_left; (· (simp only [Act.put, sp1, sp2, sp3, i64_w, i32_w]; rfl))
              have hne_ : ¬ (ji18 : Int).toNat = (x9_3 : Int).toNat := by
               have h1_ : 0 ≤ (x9_3 : Int) := odt
               have h2_ : 0 ≤ (ji18 : Int) := odt
               have e_ := hji18
               unfold wrap64 at e_
               omega
              have hq0_ : ∀ (g_ : Nat) (w_ : World) (v_ : Value), (w_.setCell ⟨g_, (ji18 : Int).toNat * 4, none⟩ v_).cell? ⟨g_, (x9_3 : Int).toNat * 4, none⟩ = w_.cell? ⟨g_, (x9_3 : Int).toNat * 4, none⟩ := fun g_ w_ v_ => World.cell?_setCell_other w_ _ _ v_ (by intro h_; have h2_ : (ji18 : Int).toNat * 4 = (x9_3 : Int).toNat * 4 := congrArg Addr.off h_; omega)
              have hq1_ : ∀ (g_ : Nat) (w_ : World) (v_ : Value), (w_.setCell ⟨g_, (ji18 : Int).toNat * 4 + 1, none⟩ v_).cell? ⟨g_, (x9_3 : Int).toNat * 4 + 1, none⟩ = w_.cell? ⟨g_, (x9_3 : Int).toNat * 4 + 1, none⟩ := fun g_ w_ v_ => World.cell?_setCell_other w_ _ _ v_ (by intro h_; have h2_ : (ji18 : Int).toNat * 4 + 1 = (x9_3 : Int).toNat * 4 + 1 := congrArg Addr.off h_; omega)
              have hq2_ : ∀ (g_ : Nat) (w_ : World) (v_ : Value), (w_.setCell ⟨g_, (ji18 : Int).toNat * 4 + 2, none⟩ v_).cell? ⟨g_, (x9_3 : Int).toNat * 4 + 2, none⟩ = w_.cell? ⟨g_, (x9_3 : Int).toNat * 4 + 2, none⟩ := fun g_ w_ v_ => World.cell?_setCell_other w_ _ _ v_ (by intro h_; have h2_ : (ji18 : Int).toNat * 4 + 2 = (x9_3 : Int).toNat * 4 + 2 := congrArg Addr.off h_; omega)
              have hq3_ : ∀ (g_ : Nat) (w_ : World) (v_ : Value), (w_.setCell ⟨g_, (ji18 : Int).toNat * 4 + 3, none⟩ v_).cell? ⟨g_, (x9_3 : Int).toNat * 4 + 3, none⟩ = w_.cell? ⟨g_, (x9_3 : Int).toNat * 4 + 3, none⟩ := fun g_ w_ v_ => World.cell?_setCell_other w_ _ _ v_ (by intro h_; have h2_ : (ji18 : Int).toNat * 4 + 3 = (x9_3 : Int).toNat * 4 + 3 := congrArg Addr.off h_; omega)
              obtain ⟨ceq_, hclq_, hMq_, hccq_, hfrq_⟩ := Kd.R_elem HO_8.out z31 (x9_3 : Int) odt (by have h_ : (x9_3 : Int) < ((x8_3.length : Int) : Int) := odt; first | exact h_ | (have e_ := (Kd.R_reads' HO_8.out).1; omega) | simpa using h_)
              obtain rfl := k31_openM hMq_
              have hxq0_ : World.cell? _ ⟨_, (x9_3 : Int).toNat * 4, none⟩ = some (.int .i64 ((rd_T31 x8_3 x9_3).f0)) := hccq_ 0 _ rfl
              have hfq0_ : World.frozen? _ ⟨_, (x9_3 : Int).toNat * 4, none⟩ = false := hfrq_ 0
              have hxq1_ : World.cell? _ ⟨_, (x9_3 : Int).toNat * 4 + 1, none⟩ = some (.int .i64 ((rd_T31 x8_3 x9_3).f1)) := hccq_ 1 _ rfl
              have hfq1_ : World.frozen? _ ⟨_, (x9_3 : Int).toNat * 4 + 1, none⟩ = false := hfrq_ 1
              have hxq2_ : World.cell? _ ⟨_, (x9_3 : Int).toNat * 4 + 2, none⟩ = some (.int .i64 ((rd_T31 x8_3 x9_3).f2)) := hccq_ 2 _ rfl
              have hfq2_ : World.frozen? _ ⟨_, (x9_3 : Int).toNat * 4 + 2, none⟩ = false := hfrq_ 2
              have hxq3_ : World.cell? _ ⟨_, (x9_3 : Int).toNat * 4 + 3, none⟩ = some (.int .i64 ((rd_T31 x8_3 x9_3).f3)) := hccq_ 3 _ rfl
              have hfq3_ : World.frozen? _ ⟨_, (x9_3 : Int).toNat * 4 + 3, none⟩ = false := hfrq_ 3
              refine last_ (i := 22) (N := none) #[true, true, true, true, true, true, true, true, true, true, true, true, true, true, true, true, true, true, true, true, true, true, true] rfl rfl (one_of HT_.out (by kernel_rfl)) (by decide) (fun K hK => ?_)
              refine skip_ (w1 := ?_) (by rfl) rfl ?_ ?_
              rotate_left
              ·go_simp
               rfl
              refine hK.out _ _ ?_
              clear hK K
              refine done_ (done_of HT_.out (by kernel_rfl)) ?_
              have p263 : 0 ≤ ((ji18) : Int) := odt
              have q263 : (ji18) < (y262.length : Int) := (by have h_ : ((ji18) : Int) < ((x8_3.length : Int) : Int) := odt; first | (have e_ := (Kd.R_reads' HO_8.out).1; omega) | simpa only [Ny261.out, Ny262.out, List.length_set] using h_)
              have ql263 : (((ji18) : Int) < ((x8_3.length : Int) : Int)) = True := eq_true odt
              obtain ⟨ad263, e263, hx263_0, hx263_1, hx263_2, hx263_3⟩ := at_T31 (Kd.R_reads' HQ47.out).2.2 (ji18) p263 q263
              obtain rfl : (⟨go23, 0, none⟩ : Addr) = ad263 := (by injection e263)
              (first | simp only [add_plain] at hx263_0 | simp only [add_at] at hx263_0 | simp only [Addr.add, Nat.zero_add] at hx263_0 | skip)
              (first | simp only [add_plain] at hx263_1 | simp only [add_at] at hx263_1 | simp only [Addr.add, Nat.zero_add] at hx263_1 | skip)
              (first | simp only [add_plain] at hx263_2 | simp only [add_at] at hx263_2 | simp only [Addr.add, Nat.zero_add] at hx263_2 | skip)
              (first | simp only [add_plain] at hx263_3 | simp only [add_at] at hx263_3 | simp only [Addr.add, Nat.zero_add] at hx263_3 | skip)
              replace p263 := eq_true p263
              replace q263 := eq_true q263
              try go_wp2_with (first | ((with_reducible refine gate_callee (f := 71) rfl ?_); refine goesL_ (some 60) rfl rfl Try.func71 (by kernel_rfl) rfl #[.agg #[.int .i64 t253, .int .i64 t254, .int .i64 t255, .int .i64 t256]] rfl (by (try simp only [List.map_toArray, List.map_cons, List.map_nil]); first | done | (simp only [hji18]; rfl) | rfl | (simp only [List.length_drop, List.length_take]; rfl)) ?_; (with_reducible refine (impl_isBody.calls t253 t254 t255 t256 false _ A25.out).mono ?_); rintro e w48 ⟨rfl, hb⟩; refine ⟨_, rfl, ?_⟩; have n0_ := Aside0.mk (Kd.R_below (by (with_reducible repeat (first | apply Kd.R_alloc | apply Kd.R_drewN | apply Kd.R_drew)); exact HQ47.out) hb); have n1_ := z_bs HB hb; clear HO_8; clear HB; have HO_8 := n0_; have HB := n1_; clear n0_ n1_; (try clear hb); (try clear hb2); (try clear hk); (try clear hi)))
              go_ret2
              exact ⟨_, by first | rfl | (simp [errW_none, errW_some] <;> rfl) | (simp only [← hji18]; first | rfl | (simp [errW_none, errW_some] <;> rfl)) | (simp [*, errW_none, errW_some] <;> rfl), by first | exact Kd.R_nil _ _ _ _ _ | exact Kd.N_nil _ _ _ _ _ | exact Kd.V_nil _ _ _ _ _ | exact Kd.Q_nil _ _ _ _ _ | exact Kd.S_nil _ _ _ _ _, blw⟩
            ·rw [if_neg c21] at H
             exact absurd H (by simp)
           ·rw [if_neg c20] at H
            exact absurd H (by simp)
          ·rw [if_neg c19] at H
           exact absurd H (by simp)
         ·rw [if_neg c17] at H
          have c17b0 : decide (x9_3 < (x8_3.length : Int)) = false := decide_eq_false c17
          clear c17
          have H' := Aside0.mk H
          clear H
          obtain ⟨Ao49, co49, eo49⟩ := Kd.R_slice HO_8.out
          subst eo49
          go_wp2
          go_roundg k3
          case measure => have := HJ3.out; have := HK2.out; have := HK3.out; omega
          case rel => exact ⟨(x8_3), (wrap64 (x26_2 + 1)), (by first | rfl | (simp; done) | (simp [*]; done)), H', ⟨by have := HJ3.out; have := HK2.out; have := HK3.out; omega⟩, ⟨by (with_reducible repeat (first | apply Kd.R_alloc | apply Kd.R_drewN | apply Kd.R_drew)); exact HO_8.out⟩, ⟨blw⟩⟩
      ·rw [if_neg c16] at H
       have c16b0 : decide (x26_2 < a2) = false := decide_eq_false c16
       clear c16
       simp only [Option.some.injEq, Prod.mk.injEq] at H
       obtain ⟨rfl, rfl⟩ := H
       go_wp2
       go_ret2
       exact ⟨_, by first | rfl | (simp [errW_none, errW_some] <;> rfl) | (simp [*, errW_none, errW_some] <;> rfl), by (with_reducible repeat (first | apply Kd.R_alloc | apply Kd.R_drewN | apply Kd.R_drew)); exact HO_8.out, blw⟩

end Go.Proofs.Ytlijlailbjjfbaa.PFnExactStepIslands
