/- The machine's side of a law, function by function: a Lean function with the Go function's answers and the proof that the Go code comes to them. No condition. Written by this session's program over the kit's print, this session's own contracts set in. -/
import Derived.Test.YtlijlailbjjfbaaPFnExactStepIslandsx0
import Derived.Test.YtlijlailbjjfbaaPFnExactStepIslandsx7
import Derived.Test.YtlijlailbjjfbaaPFnExactStepIslandsx8
namespace Go.Proofs.Ytlijlailbjjfbaa.PFnExactStepIslands
open Go.RowKit Go.Proofs.YtlijlailbjjfbaaW.PrintWords Go.Proofs.YtlijlailbjjfbaaW.PrintLast Go.Proofs.YtlijlailbjjfbaaW.PrintMore
attribute [local go_sem] max2_int min2_int max_two min_two max_three min_three max_four min_four   -- for this text's walks alone
set_option linter.unusedVariables false
set_option linter.unusedSimpArgs false

/-! ### impl_MoveLine: function 37 -/
mutual
def impl_MoveLine.j0 : Nat → List (S31) → Int → Bool → Option ((List (S31)) × Bool)
 | 0, _, _, _ => none
 | k + 1, x0, x1, x17 => if x17 = true then (some (([] : List (S31)), false)) else ((impl_Body.f x0).bind fun t222 => (impl_MoveLine.l0 k x1 t222 x0 (x0.length : Int) 0))
def impl_MoveLine.l0 : Nat → Int → List (S31) → List (S31) → Int → Int → Option ((List (S31)) × Bool)
 | 0, _, _, _, _, _ => none
 | k + 1, x1, x6, x20, x21, x22 => if x22 < x21 then (if 0 ≤ x22 then (if x22 < (x20.length : Int) then (if ((rd_T31 x20 x22).f2) = 0 then (impl_MoveLine.l0 k x1 x6 x20 x21 (wrap64 (x22 + 1))) else (if x22 < (x6.length : Int) then ((some (x6.set (x22 : Int).toNat (⟨wrap64 (((rd_T31 x6 x22).f0) + (wrap64 (Int.tdiv (wrap64 (((rd_T31 x20 x22).f1) * x1)) ((rd_T31 x20 x22).f2)))), (rd_T31 x6 x22).f1, (rd_T31 x6 x22).f2, (rd_T31 x6 x22).f3⟩ : S31) : List (S31))).bind fun y228 => (if x22 > 0 then (if 0 ≤ (wrap64 (x22 - 1)) then (if (wrap64 (x22 - 1)) < (x6.length : Int) then (impl_MoveLine.l0 k x1 (y228.set (x22 : Int).toNat (⟨mx ((rd_T31 y228 x22).f0) (wrap64 ((wrap64 (((rd_T31 y228 (wrap64 (x22 - 1))).f0) + ((rd_T31 y228 (wrap64 (x22 - 1))).f3))) + ((rd_T31 x20 x22).f3))), (rd_T31 y228 x22).f1, (rd_T31 y228 x22).f2, (rd_T31 y228 x22).f3⟩ : S31)) x20 x21 (wrap64 (x22 + 1))) else (none)) else (none)) else (impl_MoveLine.l0 k x1 y228 x20 x21 (wrap64 (x22 + 1))))) else (none))) else (none)) else (none)) else (impl_MoveLine.l1 k x6 (wrap64 ((x6.length : Int) - 2)))
def impl_MoveLine.l1 : Nat → List (S31) → Int → Option ((List (S31)) × Bool)
 | 0, _, _ => none
 | k + 1, x6, x9 => if x9 ≥ 0 then (if 0 ≤ x9 then (if x9 < (x6.length : Int) then (if ((rd_T31 x6 x9).f2) > 0 then (if 0 ≤ (wrap64 (x9 + 1)) then (if (wrap64 (x9 + 1)) < (x6.length : Int) then (impl_MoveLine.l1 k (x6.set (x9 : Int).toNat (⟨mn ((rd_T31 x6 x9).f0) (wrap64 ((wrap64 (((rd_T31 x6 (wrap64 (x9 + 1))).f0) - ((rd_T31 x6 (wrap64 (x9 + 1))).f3))) - ((rd_T31 x6 x9).f3))), (rd_T31 x6 x9).f1, (rd_T31 x6 x9).f2, (rd_T31 x6 x9).f3⟩ : S31)) (wrap64 (x9 - 1))) else (none)) else (none)) else (impl_MoveLine.l1 k x6 (wrap64 (x9 - 1)))) else (none)) else (none)) else ((impl_GoodLine.f k x6).bind fun t239 => (if t239 = true then (some (x6, true)) else (some (([] : List (S31)), false))))
end
def impl_MoveLine.f (k : Nat) (l0 : List (S31)) (a1 : Int) : Option ((List (S31)) × Bool) := (impl_GoodLine.f k l0).bind fun t220 => (if t220 = true then ((impl_inRange.f a1 0 1000).bind fun t221 => (impl_MoveLine.j0 k l0 a1 (!t221))) else (impl_MoveLine.j0 k l0 a1 true))
theorem impl_MoveLine.mono_l : ∀ k, (∀ y0 y1 y2, LeO (impl_MoveLine.j0 k y0 y1 y2) (impl_MoveLine.j0 (k + 1) y0 y1 y2)) ∧ (∀ y0 y1 y2 y3 y4, LeO (impl_MoveLine.l0 k y0 y1 y2 y3 y4) (impl_MoveLine.l0 (k + 1) y0 y1 y2 y3 y4)) ∧ (∀ y0 y1, LeO (impl_MoveLine.l1 k y0 y1) (impl_MoveLine.l1 (k + 1) y0 y1))
 | 0 => ⟨fun _ _ _ r h => by simp [impl_MoveLine.j0] at h, fun _ _ _ _ _ r h => by simp [impl_MoveLine.l0] at h, fun _ _ r h => by simp [impl_MoveLine.l1] at h⟩
 | k + 1 => by
  obtain ⟨ih0, ih1, ih2⟩ := impl_MoveLine.mono_l k
  refine ⟨?_, ?_, ?_⟩
  ·intro y0 y1 y2
   unfold impl_MoveLine.j0
   repeat' first
   | (with_reducible exact ih0 _ _ _)
   | (with_reducible exact ih1 _ _ _ _ _)
   | (with_reducible exact ih2 _ _)
   | (with_reducible exact impl_GoodLine.mono _ _)
   | (with_reducible exact LeO.refl _)
   | (with_reducible exact LeO.none _)
   | (with_reducible refine LeO.ite ?_ ?_)
   | (with_reducible refine LeO.bind ?_ (fun _ => ?_))
   | exact ih0 _ _ _
   | exact ih1 _ _ _ _ _
   | exact ih2 _ _
   | exact impl_GoodLine.mono _ _
   | exact LeO.none _
   | refine LeO.ite ?_ ?_
   | refine LeO.bind ?_ (fun _ => ?_)
  ·intro y0 y1 y2 y3 y4
   unfold impl_MoveLine.l0
   repeat' first
   | (with_reducible exact ih0 _ _ _)
   | (with_reducible exact ih1 _ _ _ _ _)
   | (with_reducible exact ih2 _ _)
   | (with_reducible exact impl_GoodLine.mono _ _)
   | (with_reducible exact LeO.refl _)
   | (with_reducible exact LeO.none _)
   | (with_reducible refine LeO.ite ?_ ?_)
   | (with_reducible refine LeO.bind ?_ (fun _ => ?_))
   | exact ih0 _ _ _
   | exact ih1 _ _ _ _ _
   | exact ih2 _ _
   | exact impl_GoodLine.mono _ _
   | exact LeO.none _
   | refine LeO.ite ?_ ?_
   | refine LeO.bind ?_ (fun _ => ?_)
  ·intro y0 y1
   unfold impl_MoveLine.l1
   repeat' first
   | (with_reducible exact ih0 _ _ _)
   | (with_reducible exact ih1 _ _ _ _ _)
   | (with_reducible exact ih2 _ _)
   | (with_reducible exact impl_GoodLine.mono _ _)
   | (with_reducible exact LeO.refl _)
   | (with_reducible exact LeO.none _)
   | (with_reducible refine LeO.ite ?_ ?_)
   | (with_reducible refine LeO.bind ?_ (fun _ => ?_))
   | exact ih0 _ _ _
   | exact ih1 _ _ _ _ _
   | exact ih2 _ _
   | exact impl_GoodLine.mono _ _
   | exact LeO.none _
   | refine LeO.ite ?_ ?_
   | refine LeO.bind ?_ (fun _ => ?_)
theorem impl_MoveLine.mono : ∀ a0 a1 k, LeO (impl_MoveLine.f k a0 a1) (impl_MoveLine.f (k + 1) a0 a1) := by
 intro a0 a1 k
 obtain ⟨ih0, ih1, ih2⟩ := impl_MoveLine.mono_l k
 unfold impl_MoveLine.f
 repeat' first
   | (with_reducible exact ih0 _ _ _)
   | (with_reducible exact ih1 _ _ _ _ _)
   | (with_reducible exact ih2 _ _)
   | (with_reducible exact impl_GoodLine.mono _ _)
   | (with_reducible exact LeO.refl _)
   | (with_reducible exact LeO.none _)
   | (with_reducible refine LeO.ite ?_ ?_)
   | (with_reducible refine LeO.bind ?_ (fun _ => ?_))
   | exact ih0 _ _ _
   | exact ih1 _ _ _ _ _
   | exact ih2 _ _
   | exact impl_GoodLine.mono _ _
   | exact LeO.none _
   | refine LeO.ite ?_ ?_
   | refine LeO.bind ?_ (fun _ => ?_)
def impl_MoveLine.T8 : Bool × List (List Nat × List Nat) := (true, [([], []), ([], []), ([0, 1], [0, 1]), ([2], [2]), ([3], [3]), ([], []), ([5], [5]), ([], []), ([6, 7], [6, 7]), ([], []), ([9], [9]), ([8, 10], [8, 10]), ([4, 11], [4, 11]), ([0, 1, 0, 1, 2, 3, 4, 5, 6, 7, 8, 9, 10, 11, 12], [0, 1]), ([13, 0, 1, 2, 3, 4, 5, 6, 7, 8, 9, 10, 11, 12], [13]), ([14, 12, 0, 1, 2, 3, 4, 5, 6, 7, 8, 9, 10, 11, 12], [12, 14])])
def impl_MoveLine.B8 : List Nat := [0, 0, 3, 7, 15, 0, 32, 0, 224, 0, 512, 2016, 4095, 8191, 16383, 32767]
theorem impl_MoveLine.tab8 : rtab .any (opsOf Try.f37 8) = impl_MoveLine.T8 := by kernel_rfl
theorem impl_MoveLine.bits8 : waitsOk impl_MoveLine.T8.2 impl_MoveLine.B8 = true := by kernel_rfl
def impl_MoveLine.T10 : Bool × List (List Nat × List Nat) := (true, [([], []), ([], []), ([], []), ([], []), ([2, 3], [2, 3]), ([4], [4]), ([5], [5]), ([], []), ([], []), ([8], [8]), ([7, 9], [7, 9]), ([10], [10]), ([11], [11]), ([], []), ([], []), ([14], [14]), ([13, 15], [13, 15]), ([16], [16]), ([17], [17]), ([12, 18], [12, 18]), ([], []), ([20], [20]), ([19, 21], [19, 21]), ([6, 22], [6, 22]), ([0, 1, 0, 1, 2, 3, 4, 5, 6, 7, 8, 9, 10, 11, 12, 13, 14, 15, 16, 17, 18, 19, 20, 21, 22, 23], [0, 1]), ([24, 0, 1, 2, 3, 4, 5, 6, 7, 8, 9, 10, 11, 12, 13, 14, 15, 16, 17, 18, 19, 20, 21, 22, 23], [24]), ([25, 23, 0, 1, 2, 3, 4, 5, 6, 7, 8, 9, 10, 11, 12, 13, 14, 15, 16, 17, 18, 19, 20, 21, 22, 23], [23, 25])])
def impl_MoveLine.B10 : List Nat := [0, 0, 0, 0, 12, 28, 60, 0, 0, 256, 896, 1920, 3968, 0, 0, 16384, 57344, 122880, 253952, 524160, 0, 1048576, 4194176, 8388604, 16777215, 33554431, 67108863]
theorem impl_MoveLine.tab10 : rtab .any (opsOf Try.f37 10) = impl_MoveLine.T10 := by kernel_rfl
theorem impl_MoveLine.bits10 : waitsOk impl_MoveLine.T10.2 impl_MoveLine.B10 = true := by kernel_rfl
def impl_MoveLine.T16 : Bool × List (List Nat × List Nat) := (true, [([], []), ([], []), ([], []), ([], []), ([2, 3], [2, 3]), ([4], [4]), ([5], [5]), ([], []), ([], []), ([8], [8]), ([7, 9], [7, 9]), ([10], [10]), ([11], [11]), ([], []), ([], []), ([14], [14]), ([13, 15], [13, 15]), ([16], [16]), ([17], [17]), ([12, 18], [12, 18]), ([], []), ([], []), ([20, 21], [20, 21]), ([22], [22]), ([23], [23]), ([19, 24], [19, 24]), ([6, 25], [6, 25]), ([0, 1, 0, 1, 2, 3, 4, 5, 6, 7, 8, 9, 10, 11, 12, 13, 14, 15, 16, 17, 18, 19, 20, 21, 22, 23, 24, 25, 26], [0, 1]), ([27, 0, 1, 2, 3, 4, 5, 6, 7, 8, 9, 10, 11, 12, 13, 14, 15, 16, 17, 18, 19, 20, 21, 22, 23, 24, 25, 26], [27]), ([28, 26, 0, 1, 2, 3, 4, 5, 6, 7, 8, 9, 10, 11, 12, 13, 14, 15, 16, 17, 18, 19, 20, 21, 22, 23, 24, 25, 26], [26, 28])])
def impl_MoveLine.B16 : List Nat := [0, 0, 0, 0, 12, 28, 60, 0, 0, 256, 896, 1920, 3968, 0, 0, 16384, 57344, 122880, 253952, 524160, 0, 0, 3145728, 7340032, 15728640, 33554304, 67108860, 134217727, 268435455, 536870911]
theorem impl_MoveLine.tab16 : rtab .any (opsOf Try.f37 16) = impl_MoveLine.T16 := by kernel_rfl
theorem impl_MoveLine.bits16 : waitsOk impl_MoveLine.T16.2 impl_MoveLine.B16 = true := by kernel_rfl
set_option maxHeartbeats 8000000 in
set_option maxRecDepth 100000 in
theorem impl_MoveLine.calls (k : Nat) (A0 : Option Addr) (c0 : Nat) (l0 : List (S31)) (a1 : Int) (r1 : List (S31)) (r2 : Bool) (w : World) (hr0 : Kd.C k31 w A0 l0.length l0) (hc0 : l0.length ≤ c0) (h : impl_MoveLine.f k l0 a1 = some (r1, r2)) :
  Calls Try.prog 37 #[.slice A0 l0.length c0, .int .i64 a1] w fun e w' => ∃ v0_ : Value, e = .returned (.tuple #[v0_, .bool r2]) ∧ Kd.R k31 31 w' w.heap.size (fun _ => True) v0_ r1 ∧ Below w.heap.size w w' := by
 have hu31 := Try.underlying31
 have HR0 := Aside0.mk hr0
 have HC0 := Aside0.mk hc0
 clear hr0 hc0
 have HB := Aside0.mk (Below.refl w.heap.size w)
 have H : ((impl_GoodLine.f k l0).bind fun t220 => (if t220 = true then ((impl_inRange.f a1 0 1000).bind fun t221 => (impl_MoveLine.j0 k l0 a1 (!t221))) else (impl_MoveLine.j0 k l0 a1 true))) = some (r1, r2) := h
 clear h
 have HC3 := Aside0.mk H
 clear H
 go_enter Try.func37, Try.ntmps37
 go_upto_region 1 with (fail)
 go_cut [17] (fun v17 wc => ∃ (kq : Nat) (x17_2 : Bool), v17 = .bool x17_2 ∧ Aside0 (impl_MoveLine.j0 kq l0 a1 x17_2 = some (r1, r2)) ∧ Aside0 (kq ≤ k) ∧ Aside0 (Below w.heap.size w wc))
 case first =>
  have H := HC3.out
  clear HC3
  replace H := Option.bind_eq_some_iff.mp H
  obtain ⟨t220, A40, H⟩ := H
  replace H : (if t220 = true then ((impl_inRange.f a1 0 1000).bind fun t221 => (impl_MoveLine.j0 k l0 a1 (!t221))) else (impl_MoveLine.j0 k l0 a1 true)) = some (r1, r2) := H
  have A4 := Aside0.mk A40
  clear A40
  by_cases c5 : t220 = true
  ·subst c5
   have H1 : ((impl_inRange.f a1 0 1000).bind fun t221 => (impl_MoveLine.j0 k l0 a1 (!t221))) = some (r1, r2) := by rw [if_pos rfl] at H; exact H
   clear H
   have H := H1
   clear H1
   replace H := Option.bind_eq_some_iff.mp H
   obtain ⟨t221, A60, H⟩ := H
   replace H : (impl_MoveLine.j0 k l0 a1 (!t221)) = some (r1, r2) := H
   have A6 := Aside0.mk A60
   clear A60
   have H' := Aside0.mk H
   clear H
   go_wp2_with (first | ((with_reducible refine gate_callee (f := 18) rfl ?_); refine goesL_ (some 11) rfl rfl Try.func18 (by kernel_rfl) rfl #[.slice A0 l0.length c0] rfl (by (try simp only [List.map_toArray, List.map_cons, List.map_nil]); first | done | rfl | (simp only [List.length_drop, List.length_take]; rfl)) ?_; (with_reducible refine (impl_GoodLine.calls k _ _ l0 true _ ?side1 ?side2 A4.out).mono ?_); (case side1 => repeat (first | exact (Kd.C_below HR0.out HB.out) | (with_reducible refine Kd.C_alloc ?_ _) | (with_reducible refine Kd.C_drewN ?_ _) | (with_reducible refine Kd.C_drew ?_))); (case side2 => exact HC0.out); rintro e w7 ⟨rfl, hb⟩; refine ⟨_, rfl, ?_⟩; have n0_ := z_bs HB hb; clear HB; have HB := n0_; clear n0_; (try clear hb); (try clear hb2); (try clear hk); (try clear hi)) | (go_at_call 81; (with_reducible refine (impl_inRange.calls a1 0 1000 t221 _ A6.out).mono ?_); rintro e w' ⟨rfl, ⟨nd, rfl⟩⟩))
   go_meet
   case rel => exact ⟨_, (!t221), (by first | rfl | (simp; done) | (simp [*]; done)), H', ⟨by first | omega | exact Nat.le_refl _⟩, ⟨blw⟩⟩
  ·replace c5 := Bool.eq_false_iff.mpr c5
   subst c5
   have H1 : (impl_MoveLine.j0 k l0 a1 true) = some (r1, r2) := by rw [if_neg (show ¬ (false = true) by decide)] at H; exact H
   clear H
   have H := H1
   clear H1
   have H' := Aside0.mk H
   clear H
   go_wp2_with (first | ((with_reducible refine gate_callee (f := 18) rfl ?_); refine goesL_ (some 11) rfl rfl Try.func18 (by kernel_rfl) rfl #[.slice A0 l0.length c0] rfl (by (try simp only [List.map_toArray, List.map_cons, List.map_nil]); first | done | rfl | (simp only [List.length_drop, List.length_take]; rfl)) ?_; (with_reducible refine (impl_GoodLine.calls k _ _ l0 false _ ?side1 ?side2 A4.out).mono ?_); (case side1 => repeat (first | exact (Kd.C_below HR0.out HB.out) | (with_reducible refine Kd.C_alloc ?_ _) | (with_reducible refine Kd.C_drewN ?_ _) | (with_reducible refine Kd.C_drew ?_))); (case side2 => exact HC0.out); rintro e w8 ⟨rfl, hb⟩; refine ⟨_, rfl, ?_⟩; have n0_ := z_bs HB hb; clear HB; have HB := n0_; clear n0_; (try clear hb); (try clear hb2); (try clear hk); (try clear hi)))
   go_meet
   case rel => exact ⟨_, (true), (by first | rfl | (simp; done) | (simp [*]; done)), H', ⟨by first | omega | exact Nat.le_refl _⟩, ⟨blw⟩⟩
 case rest =>
  clear HC3
  try clear c1
  try clear p2
  try clear c3
  try clear c5
  obtain ⟨kq, x17_2, rfl, HA, HJ2, HB⟩ := hcut
  cases kq with
  | zero => exact absurd HA.out (by simp [impl_MoveLine.j0])
  | succ kj2 =>
   have H := HA.out
   clear HA
   simp only [impl_MoveLine.j0] at H
   by_cases c9 : x17_2 = true
   ·subst c9
    have H1 : (some (([] : List (S31)), false)) = some (r1, r2) := by rw [if_pos rfl] at H; exact H
    clear H
    have H := H1
    clear H1
    simp only [Option.some.injEq, Prod.mk.injEq] at H
    obtain ⟨rfl, rfl⟩ := H
    go_wp2
    go_ret2
    exact ⟨_, by first | rfl | (simp [errW_none, errW_some] <;> rfl) | (simp [*, errW_none, errW_some] <;> rfl), by first | exact Kd.R_nil _ _ _ _ _ | exact Kd.N_nil _ _ _ _ _ | exact Kd.V_nil _ _ _ _ _ | exact Kd.Q_nil _ _ _ _ _ | exact Kd.S_nil _ _ _ _ _, blw⟩
   ·replace c9 := Bool.eq_false_iff.mpr c9
    subst c9
    have H1 : ((impl_Body.f l0).bind fun t222 => (impl_MoveLine.l0 kj2 a1 t222 l0 (l0.length : Int) 0)) = some (r1, r2) := by rw [if_neg (show ¬ (false = true) by decide)] at H; exact H
    clear H
    have H := H1
    clear H1
    replace H := Option.bind_eq_some_iff.mp H
    obtain ⟨t222, A100, H⟩ := H
    replace H : (impl_MoveLine.l0 kj2 a1 t222 l0 (l0.length : Int) 0) = some (r1, r2) := H
    have A10 := Aside0.mk A100
    clear A100
    have H' := Aside0.mk H
    clear H
    go_wp2_with (first | ((with_reducible refine gate_callee (f := 89) rfl ?_); refine goesL_ (some 19) rfl rfl Try.func89 (by kernel_rfl) rfl #[.slice A0 l0.length c0] rfl (by (try simp only [List.map_toArray, List.map_cons, List.map_nil]); first | done | rfl | (simp only [List.length_drop, List.length_take]; rfl)) ?_; (with_reducible refine (impl_Body.calls _ _ l0 t222 _ ?side1 ?side2 A10.out).mono ?_); (case side1 => repeat (first | exact (Kd.C_below HR0.out HB.out) | (with_reducible refine Kd.C_alloc ?_ _) | (with_reducible refine Kd.C_drewN ?_ _) | (with_reducible refine Kd.C_drew ?_))); (case side2 => exact HC0.out); rintro e w11 ⟨v223, rfl, ho0, hb⟩; refine ⟨_, rfl, ?_⟩; have n0_ := Aside0.mk (Kd.R_lower ho0 (below_size blw)); have n1_ := z_bs HB hb; clear HB; have HO224 := n0_; have HB := n1_; clear n0_ n1_; (try clear hb); (try clear hb2); (try clear hk); (try clear hi); (try clear ho0)))
    go_loopg [22] kj2 (fun kq v22 w' => ∃ (x6_2 : List (S31)) (x22_2 : Int), v22 = .int .i64 x22_2 ∧ Aside0 (impl_MoveLine.l0 kq a1 x6_2 l0 (l0.length : Int) x22_2 = some (r1, r2)) ∧ Aside0 (kq ≤ kj2) ∧ Aside0 (Kd.R k31 31 w' w.heap.size (fun _ => True) v223 x6_2) ∧ Aside0 (Below w.heap.size w w'))
    case atStart => exact ⟨(t222), (0), (by first | rfl | (simp; done) | (simp [*]; done)), H', ⟨Nat.le_refl _⟩, ⟨by (with_reducible repeat (first | apply Kd.R_alloc | apply Kd.R_drewN | apply Kd.R_drew)); exact HO224.out⟩, ⟨blw⟩⟩
    case round =>
     clear H'
     try clear c1
     try clear p2
     try clear c3
     try clear c5
     try clear c8
     try clear c9
     try clear p2
     obtain ⟨x6_2, x22_2, rfl, HA, HK2, HO_6, HB⟩ := hrel
     cases gk with
     | zero => exact absurd HA.out (by simp [impl_MoveLine.l0])
     | succ k2 =>
      have H := HA.out
      clear HA
      simp only [impl_MoveLine.l0] at H
      by_cases c12 : x22_2 < (l0.length : Int)
      ·rw [if_pos c12] at H
       have c12b0 : decide (x22_2 < (l0.length : Int)) = true := decide_eq_true c12
       clear c12
       by_cases c13 : 0 ≤ x22_2
       ·rw [if_pos c13] at H
        have c13b0 : decide (0 ≤ x22_2) = true := decide_eq_true c13
        clear c13
        by_cases c14 : x22_2 < (l0.length : Int)
        ·rw [if_pos c14] at H
         have c14b0 : decide (x22_2 < (l0.length : Int)) = true := decide_eq_true c14
         clear c14
         by_cases c15 : ((rd_T31 l0 x22_2).f2) = 0
         ·rw [if_pos c15] at H
          have c15b0 : (((rd_T31 l0 x22_2).f2) == 0) = true := beq_iff_eq.mpr c15
          have c15b1 : (((rd_T31 l0 x22_2).f2) != 0) = false := bne_eq_false_iff_eq.mpr c15
          clear c15
          have H' := Aside0.mk H
          clear H
          have p225 : 0 ≤ (x22_2 : Int) := odt
          have q225 : x22_2 < (l0.length : Int) := odt
          obtain ⟨ad225, e225, hx225_0, hx225_1, hx225_2, hx225_3⟩ := at_T31 HR0.out x22_2 p225 q225
          cases e225
          replace hx225_0 := (HB.out.cell (World.block_lt_of_cell? w _ hx225_0)).trans hx225_0
          replace hx225_1 := (HB.out.cell (World.block_lt_of_cell? w _ hx225_1)).trans hx225_1
          replace hx225_2 := (HB.out.cell (World.block_lt_of_cell? w _ hx225_2)).trans hx225_2
          replace hx225_3 := (HB.out.cell (World.block_lt_of_cell? w _ hx225_3)).trans hx225_3
          replace p225 := eq_true p225
          replace q225 := eq_true q225
          go_wp2_with (first | ((with_reducible refine gate_dst (N := 8) rfl ?_); refine box_event ?hg (N := 8) ?hd (cs := #[.int .i64 0, .int .i64 0, .int .i64 0, .int .i64 0]) (t := 31) ?hr ?_; (case hd => rfl); (case hg => rfl); (case hr => first | (go_simp; done) | (go_simp; rfl)); intro gb226 hg w16 hbox hb; have n0_ := Aside0.mk (Kd.R_below (Kd.R_elderB (by (with_reducible repeat (first | apply Kd.R_alloc | apply Kd.R_drewN | apply Kd.R_drew)); exact HO_6.out) gb226 (Nat.le_of_eq hg.symm)) hb); have n1_ := z_bs HB hb; have n2_ := Aside0.mk (hbox); have n3_ := z_gw HB hg; have n4_ := z_gw HB hg; clear HO_6; clear HB; have HO_6 := n0_; have HB := n1_; have BK226 := n2_; have GW226 := n3_; have GE226 := n4_; clear n0_ n1_ n2_ n3_ n4_; clear hb hbox hg; have hcz17_0 : w16.cell? ⟨gb226, 0, none⟩ = some (.int .i64 0) := z_c BK226 0; have hcz17_1 : w16.cell? ⟨gb226, 1, none⟩ = some (.int .i64 0) := z_c BK226 1; have hcz17_2 : w16.cell? ⟨gb226, 2, none⟩ = some (.int .i64 0) := z_c BK226 2; have hcz17_3 : w16.cell? ⟨gb226, 3, none⟩ = some (.int .i64 0) := z_c BK226 3; have hfz17_0 := blk_frozen BK226.out 0; have hfz17_1 := blk_frozen BK226.out 1; have hfz17_2 := blk_frozen BK226.out 2; have hfz17_3 := blk_frozen BK226.out 3))
          go_roundg k2
          case measure => have := HJ2.out; have := HK2.out; omega
          case rel => exact ⟨(x6_2), (wrap64 (x22_2 + 1)), (by first | rfl | (simp; done) | (simp [*]; done)), H', ⟨by have := HJ2.out; have := HK2.out; omega⟩, ⟨by (with_reducible repeat (first | apply Kd.R_alloc | apply Kd.R_drewN | apply Kd.R_drew)); exact Kd.R_mono (Kd.R_far (p := ⟨gb226, 3, none⟩) (Kd.R_far (p := ⟨gb226, 2, none⟩) (Kd.R_far (p := ⟨gb226, 1, none⟩) (Kd.R_far (p := ⟨gb226, 0, none⟩) (Kd.R_mono HO_6.out (fun k_ hk => (⟨hk, hk.2⟩ : _ ∧ k_ ≠ gb226))) (fun _ hk => hk.2) (.int .i64 ((rd_T31 l0 x22_2).f0))) (fun _ hk => hk.2) (.int .i64 ((rd_T31 l0 x22_2).f1))) (fun _ hk => hk.2) (.int .i64 ((rd_T31 l0 x22_2).f2))) (fun _ hk => hk.2) (.int .i64 ((rd_T31 l0 x22_2).f3))) (fun _ hk => trivial)⟩, ⟨blw⟩⟩
         ·rw [if_neg c15] at H
          have c15b0 : (((rd_T31 l0 x22_2).f2) == 0) = false := beq_eq_false_iff_ne.mpr c15
          have c15b1 : (((rd_T31 l0 x22_2).f2) != 0) = true := bne_iff_ne.mpr c15
          by_cases c18 : x22_2 < (x6_2.length : Int)
          ·rw [if_pos c18] at H
           have c18b0 : decide (x22_2 < (x6_2.length : Int)) = true := decide_eq_true c18
           clear c18
           obtain ⟨y228, hy228⟩ : ∃ y_ : List (S31), y_ = (x6_2.set (x22_2 : Int).toNat (⟨wrap64 (((rd_T31 x6_2 x22_2).f0) + (wrap64 (Int.tdiv (wrap64 (((rd_T31 l0 x22_2).f1) * a1)) ((rd_T31 l0 x22_2).f2)))), (rd_T31 x6_2 x22_2).f1, (rd_T31 x6_2 x22_2).f2, (rd_T31 x6_2 x22_2).f3⟩ : S31)) := ⟨_, rfl⟩
           replace H : (if x22_2 > 0 then (if 0 ≤ (wrap64 (x22_2 - 1)) then (if (wrap64 (x22_2 - 1)) < (x6_2.length : Int) then (impl_MoveLine.l0 k2 a1 (y228.set (x22_2 : Int).toNat (⟨mx ((rd_T31 y228 x22_2).f0) (wrap64 ((wrap64 (((rd_T31 y228 (wrap64 (x22_2 - 1))).f0) + ((rd_T31 y228 (wrap64 (x22_2 - 1))).f3))) + ((rd_T31 l0 x22_2).f3))), (rd_T31 y228 x22_2).f1, (rd_T31 y228 x22_2).f2, (rd_T31 y228 x22_2).f3⟩ : S31)) l0 (l0.length : Int) (wrap64 (x22_2 + 1))) else (none)) else (none)) else (impl_MoveLine.l0 k2 a1 y228 l0 (l0.length : Int) (wrap64 (x22_2 + 1)))) = some (r1, r2) := by first | (rw [hy228]; with_reducible exact H) | (have H2_ := (Option.bind_some _ _).symm.trans H; rw [hy228]; with_reducible exact H2_) | (have H2_ := (Option.bind_some _ _).symm.trans H; with_reducible exact H2_) | with_reducible exact H | (rw [hy228]; exact H) | exact H
           have Ny228 := Aside0.mk hy228
           clear hy228
           by_cases c20 : x22_2 > 0
           ·rw [if_pos c20] at H
            have c20b0 : decide (0 < x22_2) = true := decide_eq_true c20
            clear c20
            obtain ⟨ji21, hji21⟩ : ∃ j_ : Int, (wrap64 (x22_2 - 1)) = j_ := ⟨_, rfl⟩
            replace H : (if 0 ≤ (ji21) then (if (ji21) < (x6_2.length : Int) then (impl_MoveLine.l0 k2 a1 (y228.set (x22_2 : Int).toNat (⟨mx ((rd_T31 y228 x22_2).f0) (wrap64 ((wrap64 (((rd_T31 y228 (ji21)).f0) + ((rd_T31 y228 (ji21)).f3))) + ((rd_T31 l0 x22_2).f3))), (rd_T31 y228 x22_2).f1, (rd_T31 y228 x22_2).f2, (rd_T31 y228 x22_2).f3⟩ : S31)) l0 (l0.length : Int) (wrap64 (x22_2 + 1))) else (none)) else (none)) = some (r1, r2) := by first | (rw [hji21] at H; exact H) | (simp only [hji21] at H ⊢; exact H)
            have hji21w : (IntKind.i64.wrap (x22_2 - 1)) = ji21 := (i64_w _).trans hji21
            by_cases c22 : 0 ≤ (ji21)
            ·rw [if_pos c22] at H
             have c22b0 : decide (0 ≤ (ji21)) = true := decide_eq_true c22
             clear c22
             by_cases c23 : (ji21) < (x6_2.length : Int)
             ·rw [if_pos c23] at H
              have c23b0 : decide ((ji21) < (x6_2.length : Int)) = true := decide_eq_true c23
              clear c23
              obtain ⟨ji24, hji24⟩ : ∃ j_ : Int, (mx ((rd_T31 y228 x22_2).f0) (wrap64 ((wrap64 (((rd_T31 y228 (ji21)).f0) + ((rd_T31 y228 (ji21)).f3))) + ((rd_T31 l0 x22_2).f3)))) = j_ := ⟨_, rfl⟩
              replace H : (impl_MoveLine.l0 k2 a1 (y228.set (x22_2 : Int).toNat (⟨ji24, (rd_T31 y228 x22_2).f1, (rd_T31 y228 x22_2).f2, (rd_T31 y228 x22_2).f3⟩ : S31)) l0 (l0.length : Int) (wrap64 (x22_2 + 1))) = some (r1, r2) := by first | (rw [hji24] at H; exact H) | (simp only [hji24] at H ⊢; exact H)
              have hji24_ : (if ((rd_T31 y228 x22_2).f0) < (wrap64 ((wrap64 (((rd_T31 y228 (ji21)).f0) + ((rd_T31 y228 (ji21)).f3))) + ((rd_T31 l0 x22_2).f3))) then (wrap64 ((wrap64 (((rd_T31 y228 (ji21)).f0) + ((rd_T31 y228 (ji21)).f3))) + ((rd_T31 l0 x22_2).f3))) else ((rd_T31 y228 x22_2).f0)) = ji24 := hji24
              obtain ⟨y232, hy232⟩ : ∃ y_ : List (S31), y_ = (y228.set (x22_2 : Int).toNat (⟨ji24, (rd_T31 y228 x22_2).f1, (rd_T31 y228 x22_2).f2, (rd_T31 y228 x22_2).f3⟩ : S31)) := ⟨_, rfl⟩
              replace H : (impl_MoveLine.l0 k2 a1 y232 l0 (l0.length : Int) (wrap64 (x22_2 + 1))) = some (r1, r2) := by first | (rw [hy232]; with_reducible exact H) | (have H2_ := (Option.bind_some _ _).symm.trans H; rw [hy232]; with_reducible exact H2_) | (have H2_ := (Option.bind_some _ _).symm.trans H; with_reducible exact H2_) | with_reducible exact H | (rw [hy232]; exact H) | exact H
              have Ny232 := Aside0.mk hy232
              clear hy232
              have H' := Aside0.mk H
              clear H
              have p225 : 0 ≤ (x22_2 : Int) := odt
              have q225 : x22_2 < (l0.length : Int) := odt
              obtain ⟨ad225, e225, hx225_0, hx225_1, hx225_2, hx225_3⟩ := at_T31 HR0.out x22_2 p225 q225
              cases e225
              replace hx225_0 := (HB.out.cell (World.block_lt_of_cell? w _ hx225_0)).trans hx225_0
              replace hx225_1 := (HB.out.cell (World.block_lt_of_cell? w _ hx225_1)).trans hx225_1
              replace hx225_2 := (HB.out.cell (World.block_lt_of_cell? w _ hx225_2)).trans hx225_2
              replace hx225_3 := (HB.out.cell (World.block_lt_of_cell? w _ hx225_3)).trans hx225_3
              replace p225 := eq_true p225
              replace q225 := eq_true q225
              try go_wp2_with (first | ((with_reducible refine gate_dst (N := 8) rfl ?_); refine box_event ?hg (N := 8) ?hd (cs := #[.int .i64 0, .int .i64 0, .int .i64 0, .int .i64 0]) (t := 31) ?hr ?_; (case hd => rfl); (case hg => rfl); (case hr => first | (go_simp; done) | (go_simp; rfl)); intro gb226 hg w26 hbox hb; have n0_ := Aside0.mk (Kd.R_below (Kd.R_elderB (by (with_reducible repeat (first | apply Kd.R_alloc | apply Kd.R_drewN | apply Kd.R_drew)); exact HO_6.out) gb226 (Nat.le_of_eq hg.symm)) hb); have n1_ := z_bs HB hb; have n2_ := Aside0.mk (hbox); have n3_ := z_gw HB hg; have n4_ := z_gw HB hg; clear HO_6; clear HB; have HO_6 := n0_; have HB := n1_; have BK226 := n2_; have GW226 := n3_; have GE226 := n4_; clear n0_ n1_ n2_ n3_ n4_; clear hb hbox hg; have hcz27_0 : w26.cell? ⟨gb226, 0, none⟩ = some (.int .i64 0) := z_c BK226 0; have hcz27_1 : w26.cell? ⟨gb226, 1, none⟩ = some (.int .i64 0) := z_c BK226 1; have hcz27_2 : w26.cell? ⟨gb226, 2, none⟩ = some (.int .i64 0) := z_c BK226 2; have hcz27_3 : w26.cell? ⟨gb226, 3, none⟩ = some (.int .i64 0) := z_c BK226 3; have hfz27_0 := blk_frozen BK226.out 0; have hfz27_1 := blk_frozen BK226.out 1; have hfz27_2 := blk_frozen BK226.out 2; have hfz27_3 := blk_frozen BK226.out 3))
              have n0_ : Aside0 (Kd.R k31 31 ((((w26.setCell ⟨gb226, 0, none⟩ (.int .i64 ((rd_T31 l0 x22_2).f0))).setCell ⟨gb226, 1, none⟩ (.int .i64 ((rd_T31 l0 x22_2).f1))).setCell ⟨gb226, 2, none⟩ (.int .i64 ((rd_T31 l0 x22_2).f2))).setCell ⟨gb226, 3, none⟩ (.int .i64 ((rd_T31 l0 x22_2).f3))) w.heap.size (fun k_ => k_ ≠ gb226) v223 x6_2) := ⟨by (with_reducible repeat (first | apply Kd.R_alloc | apply Kd.R_drewN | apply Kd.R_drew)); exact Kd.R_mono (Kd.R_far (p := ⟨gb226, 3, none⟩) (Kd.R_far (p := ⟨gb226, 2, none⟩) (Kd.R_far (p := ⟨gb226, 1, none⟩) (Kd.R_far (p := ⟨gb226, 0, none⟩) (Kd.R_mono HO_6.out (fun k_ hk => (⟨hk, hk.2⟩ : _ ∧ k_ ≠ gb226))) (fun _ hk => hk.2) (.int .i64 ((rd_T31 l0 x22_2).f0))) (fun _ hk => hk.2) (.int .i64 ((rd_T31 l0 x22_2).f1))) (fun _ hk => hk.2) (.int .i64 ((rd_T31 l0 x22_2).f2))) (fun _ hk => hk.2) (.int .i64 ((rd_T31 l0 x22_2).f3))) (fun _ hk => hk.1.2)⟩
              have n1_ : Aside0 (((((w26.setCell ⟨gb226, 0, none⟩ (.int .i64 ((rd_T31 l0 x22_2).f0))).setCell ⟨gb226, 1, none⟩ (.int .i64 ((rd_T31 l0 x22_2).f1))).setCell ⟨gb226, 2, none⟩ (.int .i64 ((rd_T31 l0 x22_2).f2))).setCell ⟨gb226, 3, none⟩ (.int .i64 ((rd_T31 l0 x22_2).f3))).heap[gb226]? = some (.cells #[.int .i64 ((rd_T31 l0 x22_2).f0), .int .i64 ((rd_T31 l0 x22_2).f1), .int .i64 ((rd_T31 l0 x22_2).f2), .int .i64 ((rd_T31 l0 x22_2).f3)] 31 (0, 0))) := ⟨by (with_reducible repeat (first | refine blk_drewN ?_ _ | refine blk_drew ?_ | refine blk_alloc ?_ _)); refine blk_put (cs := #[.int .i64 ((rd_T31 l0 x22_2).f0), .int .i64 ((rd_T31 l0 x22_2).f1), .int .i64 ((rd_T31 l0 x22_2).f2), .int .i64 0]) ?_ 3 _ rfl; (with_reducible repeat (first | refine blk_drewN ?_ _ | refine blk_drew ?_ | refine blk_alloc ?_ _)); refine blk_put (cs := #[.int .i64 ((rd_T31 l0 x22_2).f0), .int .i64 ((rd_T31 l0 x22_2).f1), .int .i64 0, .int .i64 0]) ?_ 2 _ rfl; (with_reducible repeat (first | refine blk_drewN ?_ _ | refine blk_drew ?_ | refine blk_alloc ?_ _)); refine blk_put (cs := #[.int .i64 ((rd_T31 l0 x22_2).f0), .int .i64 0, .int .i64 0, .int .i64 0]) ?_ 1 _ rfl; (with_reducible repeat (first | refine blk_drewN ?_ _ | refine blk_drew ?_ | refine blk_alloc ?_ _)); refine blk_put (cs := #[.int .i64 0, .int .i64 0, .int .i64 0, .int .i64 0]) ?_ 0 _ rfl; (with_reducible repeat (first | refine blk_drewN ?_ _ | refine blk_drew ?_ | refine blk_alloc ?_ _)); exact BK226.out⟩
              have n2_ : Aside0 (Below w.heap.size w ((((w26.setCell ⟨gb226, 0, none⟩ (.int .i64 ((rd_T31 l0 x22_2).f0))).setCell ⟨gb226, 1, none⟩ (.int .i64 ((rd_T31 l0 x22_2).f1))).setCell ⟨gb226, 2, none⟩ (.int .i64 ((rd_T31 l0 x22_2).f2))).setCell ⟨gb226, 3, none⟩ (.int .i64 ((rd_T31 l0 x22_2).f3)))) := ⟨blw⟩
              (try clear HO_6)
              (try clear BK226)
              (try clear HB)
              generalize ((((w26.setCell ⟨gb226, 0, none⟩ (.int .i64 ((rd_T31 l0 x22_2).f0))).setCell ⟨gb226, 1, none⟩ (.int .i64 ((rd_T31 l0 x22_2).f1))).setCell ⟨gb226, 2, none⟩ (.int .i64 ((rd_T31 l0 x22_2).f2))).setCell ⟨gb226, 3, none⟩ (.int .i64 ((rd_T31 l0 x22_2).f3))) = w28 at n0_ n1_ n2_ ⊢
              have HO_6 := n0_
              have BK226 := n1_
              have HB := n2_
              clear n0_ n1_ n2_
              have n0_ := Aside0.mk (Kd.R_drew HO_6.out)
              have n1_ := Aside0.mk (blk_drew BK226.out)
              have n2_ := Aside0.mk (below_drew1 HB.out)
              clear HO_6
              clear BK226
              clear HB
              have HO_6 := n0_
              have BK226 := n1_
              have HB := n2_
              clear n0_ n1_ n2_
              obtain ⟨Ao30, co30, eo30⟩ := Kd.R_slice HO_6.out
              (first | subst eo30 | (injection eo30 with f1_ f2_ f3_; have f4_ := f1_.symm; have f5_ := f3_.symm; clear f1_ f2_ f3_; subst f4_; subst f5_))
              have p227 : 0 ≤ (x22_2 : Int) := odt
              have q227 : x22_2 < (x6_2.length : Int) := odt
              obtain ⟨ad227, e227, hx227_0, hx227_1, hx227_2, hx227_3⟩ := at_T31 (Kd.R_reads' HO_6.out).2.2 x22_2 p227 q227
              cases e227
              replace p227 := eq_true p227
              replace q227 := eq_true q227
              have p19 : 0 ≤ (x22_2 : Int) := odt
              have q19 : (x22_2 : Int) < ((x6_2.length : Int) : Int) := odt
              obtain ⟨go19, co19, eo19, gb19, gl19, cl19, HG19⟩ := Kd.R_form HO_6.out (by omega)
              (first | cases eo19 | (injection eo19 with ea_ en_ ec_; (first | subst ea_ | (injection ea_ with ea_; subst ea_)); subst ec_; clear en_))
              have GB19 := Aside0.mk gb19
              have GG19 := Aside0.mk HG19
              clear gb19 gl19 HG19
              (first | simp only [add_plain] at hx227_0 | skip)
              (first | simp only [add_plain] at hx227_1 | skip)
              (first | simp only [add_plain] at hx227_2 | skip)
              (first | simp only [add_plain] at hx227_3 | skip)
              obtain ⟨ce19, hcl19, hM19, hcc19, hfr19⟩ := Kd.R_elem HO_6.out z31 (x22_2 : Int) p19 q19
              obtain rfl := k31_openM hM19
              have hx19_0 : World.cell? _ ⟨go19, (x22_2 : Int).toNat * 4, none⟩ = some (.int .i64 ((rd_T31 x6_2 x22_2).f0)) := hcc19 0 _ rfl
              have hx19_1 : World.cell? _ ⟨go19, (x22_2 : Int).toNat * 4 + 1, none⟩ = some (.int .i64 ((rd_T31 x6_2 x22_2).f1)) := hcc19 1 _ rfl
              have hx19_2 : World.cell? _ ⟨go19, (x22_2 : Int).toNat * 4 + 2, none⟩ = some (.int .i64 ((rd_T31 x6_2 x22_2).f2)) := hcc19 2 _ rfl
              have hx19_3 : World.cell? _ ⟨go19, (x22_2 : Int).toNat * 4 + 3, none⟩ = some (.int .i64 ((rd_T31 x6_2 x22_2).f3)) := hcc19 3 _ rfl
              have hf19_0 : World.frozen? _ ⟨go19, (x22_2 : Int).toNat * 4, none⟩ = false := hfr19 0
              have hf19_1 : World.frozen? _ ⟨go19, (x22_2 : Int).toNat * 4 + 1, none⟩ = false := hfr19 1
              have hf19_2 : World.frozen? _ ⟨go19, (x22_2 : Int).toNat * 4 + 2, none⟩ = false := hfr19 2
              have hf19_3 : World.frozen? _ ⟨go19, (x22_2 : Int).toNat * 4 + 3, none⟩ = false := hfr19 3
              clear hcl19 hcc19 hfr19 hM19
              replace p19 := eq_true p19
              replace q19 := eq_true q19
              obtain ⟨ce31, hcl31, hM31, hcc31, hfr31⟩ := Kd.R_elem HO_6.out z31 (x22_2 : Int) odt (by have h_ : (x22_2 : Int) < ((x6_2.length : Int) : Int) := odt; first | exact h_ | (have e_ := (Kd.R_reads' HO_6.out).1; omega) | simpa using h_)
              obtain rfl := k31_openM hM31
              have HP31 := (Kd.R_seg HO_6.out (x22_2 : Int) odt (by have h_ : (x22_2 : Int) < ((x6_2.length : Int) : Int) := odt; first | exact h_ | (have e_ := (Kd.R_reads' HO_6.out).1; omega) | simpa using h_) (seg := [.int .i64 (wrap64 (((rd_T31 x6_2 x22_2).f0) + (wrap64 (Int.tdiv (wrap64 (((rd_T31 l0 x22_2).f1) * a1)) ((rd_T31 l0 x22_2).f2)))))]) (j := 0) hcl31 hcc31 (show 1 ≤ 4 from by decide) (x' := (⟨wrap64 (((rd_T31 x6_2 x22_2).f0) + (wrap64 (Int.tdiv (wrap64 (((rd_T31 l0 x22_2).f1) * a1)) ((rd_T31 l0 x22_2).f2)))), (rd_T31 x6_2 x22_2).f1, (rd_T31 x6_2 x22_2).f2, (rd_T31 x6_2 x22_2).f3⟩ : S31)) (k31_mkM _ _ _ (⟨wrap64 (((rd_T31 x6_2 x22_2).f0) + (wrap64 (Int.tdiv (wrap64 (((rd_T31 l0 x22_2).f1) * a1)) ((rd_T31 l0 x22_2).f2)))), (rd_T31 x6_2 x22_2).f1, (rd_T31 x6_2 x22_2).f2, (rd_T31 x6_2 x22_2).f3⟩ : S31) ) (fun _ hk => hk)).1
              rw [← Ny228.out] at HP31
              have HQ31 := Aside0.mk HP31
              clear hcl31 hcc31 hfr31 hM31 HP31
              refine start_ (n := 16) (S := fun w' => w'.cell? ⟨gb226, 0, none⟩ = some (.int .i64 ((rd_T31 l0 x22_2).f0)) ∧ w'.cell? ⟨gb226, 1, none⟩ = some (.int .i64 ((rd_T31 l0 x22_2).f1)) ∧ w'.cell? ⟨gb226, 2, none⟩ = some (.int .i64 ((rd_T31 l0 x22_2).f2)) ∧ w'.cell? ⟨gb226, 3, none⟩ = some (.int .i64 ((rd_T31 l0 x22_2).f3)) ∧ w'.cell? ⟨go19, ((x22_2).toNat * 4), none⟩ = some (.int .i64 ((rd_T31 x6_2 x22_2).f0)) ∧ w'.cell? ⟨go19, ((x22_2).toNat * 4) + 1, none⟩ = some (.int .i64 ((rd_T31 x6_2 x22_2).f1)) ∧ w'.cell? ⟨go19, ((x22_2).toNat * 4) + 2, none⟩ = some (.int .i64 ((rd_T31 x6_2 x22_2).f2)) ∧ w'.cell? ⟨go19, ((x22_2).toNat * 4) + 3, none⟩ = some (.int .i64 ((rd_T31 x6_2 x22_2).f3))) (ds := [15]) #[false, false, false, false, false, false, false, false, false, false, false, false, false, false, false, false] (by kernel_rfl) rfl rfl ⟨z_c BK226 0, z_c BK226 1, z_c BK226 2, z_c BK226 3, hx227_0, hx227_1, hx227_2, hx227_3⟩ (fun hHeld => ?_); refine with_tabW impl_MoveLine.tab8 impl_MoveLine.bits8 (fun HT_ HW_ => ?_)
              generalize w28.drew = w29 at HO_6 BK226 HB GG19 HQ31 hf19_0 hf19_1 hf19_2 hf19_3 hx19_0 hx19_1 hx19_2 hx19_3 hx227_0 hx227_1 hx227_2 hx227_3 hHeld ⊢
              refine pure_ (i := 0) (N := some 30) (v := ?_) (a' := ?_) #[true, false, false, false, false, false, false, false, false, false, false, false, false, false, false, false] rfl rfl (any_of HT_.out (by kernel_rfl)) (fun _ _ _ h => h) (Or.inl ⟨by rfl, ?_⟩) ?_ ?_
              rotate_left; (· (intro w'; go_simp; with_reducible rfl)); rotate_left; (· (simp only [Act.put, sp1, sp2, sp3, i64_w, i32_w]; rfl))
              refine pure_ (i := 1) (N := some 31) (v := ?_) (a' := ?_) #[true, true, false, false, false, false, false, false, false, false, false, false, false, false, false, false] rfl rfl (any_of HT_.out (by kernel_rfl)) (fun _ _ _ h => h) (Or.inl ⟨by rfl, ?_⟩) ?_ ?_
              rotate_left; (· (intro w'; go_simp; with_reducible rfl)); rotate_left; (· (simp only [Act.put, sp1, sp2, sp3, i64_w, i32_w]; rfl))
              refine pure_ (i := 2) (N := some 32) (v := ?_) (a' := ?_) #[true, true, true, false, false, false, false, false, false, false, false, false, false, false, false, false] rfl rfl (any_of HT_.out (by kernel_rfl)) (fun _ _ _ h => h) (Or.inl ⟨by rfl, ?_⟩) ?_ ?_
              rotate_left; (· (intro w'; go_simp; with_reducible rfl)); rotate_left; (· (simp only [Act.put, sp1, sp2, sp3, i64_w, i32_w]; rfl))
              refine pure_ (i := 3) (N := some 33) (v := ?_) (a' := ?_) #[true, true, true, true, false, false, false, false, false, false, false, false, false, false, false, false] rfl rfl (any_of HT_.out (by kernel_rfl)) (fun _ _ _ h => h) (Or.inl ⟨by rfl, ?_⟩) ?_ ?_
              rotate_left; (· (intro w'; go_simp; with_reducible rfl)); rotate_left; (· (simp only [Act.put, sp1, sp2, sp3, i64_w, i32_w]; rfl))
              refine pure_ (i := 5) (N := some 35) (v := ?_) (a' := ?_) #[true, true, true, true, false, true, false, false, false, false, false, false, false, false, false, false] rfl rfl (any_of HT_.out (by kernel_rfl)) (fun _ _ _ h => h) (Or.inl ⟨by rfl, ?_⟩) ?_ ?_
              rotate_left; (· (intro w'; go_simp; with_reducible rfl)); rotate_left; (· (simp only [Act.put, sp1, sp2, sp3, i64_w, i32_w]; rfl))
              refine pure_ (i := 7) (N := some 37) (v := ?_) (a' := ?_) #[true, true, true, true, false, true, false, true, false, false, false, false, false, false, false, false] rfl rfl (any_of HT_.out (by kernel_rfl)) (fun _ _ _ h => h) (Or.inl ⟨by rfl, ?_⟩) ?_ ?_
              rotate_left; (· (intro w'; go_simp; with_reducible rfl)); rotate_left; (· (simp only [Act.put, sp1, sp2, sp3, i64_w, i32_w]; rfl))
              refine pure_ (i := 9) (N := some 39) (v := ?_) (a' := ?_) #[true, true, true, true, false, true, false, true, false, true, false, false, false, false, false, false] rfl rfl (any_of HT_.out (by kernel_rfl)) (fun _ _ _ h => h) (Or.inl ⟨by rfl, ?_⟩) ?_ ?_
              rotate_left; (· (intro w'; go_simp; with_reducible rfl)); rotate_left; (· (simp only [Act.put, sp1, sp2, sp3, i64_w, i32_w]; rfl))
              refine take_ (i := 4) (N := some 34) (v := ?_) (a' := ?_) #[true, true, true, true, true, true, false, true, false, true, false, false, false, false, false, false] rfl rfl (take_ofW HT_.out HW_.out (by kernel_rfl)) (fun _ _ _ h => h) (Or.inl ⟨by rfl, ?_⟩) hHeld ?_ ?_
              rotate_left; (· (rintro w' ⟨s0, s1, s2, s3, s4, s5, s6, s7⟩; go_simp; with_reducible rfl)); rotate_left; (· (simp only [Act.put, sp1, sp2, sp3, i64_w, i32_w]; rfl))
              refine take_ (i := 6) (N := some 36) (v := ?_) (a' := ?_) #[true, true, true, true, true, true, true, true, false, true, false, false, false, false, false, false] rfl rfl (take_ofW HT_.out HW_.out (by kernel_rfl)) (fun _ _ _ h => h) (Or.inl ⟨by rfl, ?_⟩) hHeld ?_ ?_
              rotate_left; (· (rintro w' ⟨s0, s1, s2, s3, s4, s5, s6, s7⟩; go_simp; with_reducible rfl)); rotate_left; (· (simp only [Act.put, sp1, sp2, sp3, i64_w, i32_w]; rfl))
              refine pure_ (i := 8) (N := some 38) (v := ?_) (a' := ?_) #[true, true, true, true, true, true, true, true, true, true, false, false, false, false, false, false] rfl rfl (any_of HT_.out (by kernel_rfl)) (fun _ _ _ h => h) (Or.inl ⟨by rfl, ?_⟩) ?_ ?_
              rotate_left; (· (intro w'; go_simp; with_reducible rfl)); rotate_left; (· (simp only [Act.put, sp1, sp2, sp3, i64_w, i32_w]; rfl))
              refine take_ (i := 10) (N := some 40) (v := ?_) (a' := ?_) #[true, true, true, true, true, true, true, true, true, true, true, false, false, false, false, false] rfl rfl (take_ofW HT_.out HW_.out (by kernel_rfl)) (fun _ _ _ h => h) (Or.inl ⟨by rfl, ?_⟩) hHeld ?_ ?_
              rotate_left; (· (rintro w' ⟨s0, s1, s2, s3, s4, s5, s6, s7⟩; go_simp; with_reducible rfl)); rotate_left; (· (simp only [Act.put, sp1, sp2, sp3, i64_w, i32_w]; rfl))
              refine pure_ (i := 11) (N := some 41) (v := ?_) (a' := ?_) #[true, true, true, true, true, true, true, true, true, true, true, true, false, false, false, false] rfl rfl (any_of HT_.out (by kernel_rfl)) (fun _ _ _ h => h) (Or.inl ⟨by rfl, ?_⟩) ?_ ?_
              rotate_left; (· (intro w'; go_simp; with_reducible rfl)); rotate_left; (· (simp only [Act.put, sp1, sp2, sp3, i64_w, i32_w]; rfl))
              refine pure_ (i := 12) (N := some 42) (v := ?_) (a' := ?_) #[true, true, true, true, true, true, true, true, true, true, true, true, true, false, false, false] rfl rfl (any_of HT_.out (by kernel_rfl)) (fun _ _ _ h => h) (Or.inl ⟨by rfl, ?_⟩) ?_ ?_
              rotate_left; (· (intro w'; go_simp; with_reducible rfl)); rotate_left; (· (simp only [Act.put, sp1, sp2, sp3, i64_w, i32_w]; rfl))
              refine pure_ (i := 13) (N := some 43) (v := ?_) (a' := ?_) #[true, true, true, true, true, true, true, true, true, true, true, true, true, true, false, false] rfl rfl (any_of HT_.out (by kernel_rfl)) (fun _ _ _ h => h) (Or.inl ⟨by rfl, ?_⟩) ?_ ?_
              rotate_left; (· (intro w'; go_simp; with_reducible rfl)); rotate_left; (· (simp only [Act.put, sp1, sp2, sp3, i64_w, i32_w]; rfl))
              refine pure_ (i := 14) (N := some 44) (v := ?_) (a' := ?_) #[true, true, true, true, true, true, true, true, true, true, true, true, true, true, true, false] rfl rfl (any_of HT_.out (by kernel_rfl)) (fun _ _ _ h => h) (Or.inl ⟨by rfl, ?_⟩) ?_ ?_
              rotate_left; (· (intro w'; go_simp; with_reducible rfl)); rotate_left; (· (simp only [Act.put, sp1, sp2, sp3, i64_w, i32_w]; rfl))
              refine last_ (i := 15) (N := none) #[true, true, true, true, true, true, true, true, true, true, true, true, true, true, true, true] rfl rfl (one_of HT_.out (by kernel_rfl)) (by decide) (fun K hK => ?_)
              refine skip_ (w1 := ?_) (by rfl) rfl ?_ ?_
              rotate_left
              ·go_simp
               rfl
              refine hK.out _ _ ?_
              clear hK K
              refine done_ (done_of HT_.out (by kernel_rfl)) ?_
              try go_wp2
              have n0_ : Aside0 (Kd.R k31 31 (w29.setCell ⟨go19, (x22_2 : Int).toNat * 4, none⟩ (.int .i64 (wrap64 (((rd_T31 x6_2 x22_2).f0) + (wrap64 (Int.tdiv (wrap64 (((rd_T31 l0 x22_2).f1) * a1)) ((rd_T31 l0 x22_2).f2))))))) w.heap.size (fun k_ => k_ ≠ gb226) (.slice (some ⟨go19, 0, none⟩) x6_2.length co30) y228) := ⟨by (with_reducible repeat (first | apply Kd.R_alloc | apply Kd.R_drewN | apply Kd.R_drew)); exact HQ31.out⟩
              have n1_ : Aside0 ((w29.setCell ⟨go19, (x22_2 : Int).toNat * 4, none⟩ (.int .i64 (wrap64 (((rd_T31 x6_2 x22_2).f0) + (wrap64 (Int.tdiv (wrap64 (((rd_T31 l0 x22_2).f1) * a1)) ((rd_T31 l0 x22_2).f2))))))).heap[gb226]? = some (.cells #[.int .i64 ((rd_T31 l0 x22_2).f0), .int .i64 ((rd_T31 l0 x22_2).f1), .int .i64 ((rd_T31 l0 x22_2).f2), .int .i64 ((rd_T31 l0 x22_2).f3)] 31 (0, 0))) := ⟨by (with_reducible repeat (first | refine blk_drewN ?_ _ | refine blk_drew ?_ | refine blk_alloc ?_ _)); refine blk_far ?_ (by have h_ := Kd.R_away HO_6.out (fun _ hk => hk); intro e_; exact h_ (by rw [e_]; rfl)) _; (with_reducible repeat (first | refine blk_drewN ?_ _ | refine blk_drew ?_ | refine blk_alloc ?_ _)); exact BK226.out⟩
              have n2_ : Aside0 (Below w.heap.size w (w29.setCell ⟨go19, (x22_2 : Int).toNat * 4, none⟩ (.int .i64 (wrap64 (((rd_T31 x6_2 x22_2).f0) + (wrap64 (Int.tdiv (wrap64 (((rd_T31 l0 x22_2).f1) * a1)) ((rd_T31 l0 x22_2).f2)))))))) := ⟨blw⟩
              (try clear HO_6)
              (try clear BK226)
              (try clear HB)
              generalize (w29.setCell ⟨go19, (x22_2 : Int).toNat * 4, none⟩ (.int .i64 (wrap64 (((rd_T31 x6_2 x22_2).f0) + (wrap64 (Int.tdiv (wrap64 (((rd_T31 l0 x22_2).f1) * a1)) ((rd_T31 l0 x22_2).f2))))))) = w32 at n0_ n1_ n2_ ⊢
              have HO_6 := n0_
              have BK226 := n1_
              have HB := n2_
              clear n0_ n1_ n2_
              have n0_ := Aside0.mk (Kd.R_drew HO_6.out)
              have n1_ := Aside0.mk (blk_drew BK226.out)
              have n2_ := Aside0.mk (below_drew1 HB.out)
              clear HO_6
              clear BK226
              clear HB
              have HO_6 := n0_
              have BK226 := n1_
              have HB := n2_
              clear n0_ n1_ n2_
              have p229 : 0 ≤ (x22_2 : Int) := odt
              have q229 : x22_2 < (y228.length : Int) := (by have h_ : (x22_2 : Int) < ((x6_2.length : Int) : Int) := odt; first | (have e_ := (Kd.R_reads' HO_6.out).1; omega) | simpa only [Ny228.out, List.length_set] using h_)
              have ql229 : ((x22_2 : Int) < ((x6_2.length : Int) : Int)) = True := eq_true odt
              obtain ⟨ad229, e229, hx229_0, hx229_1, hx229_2, hx229_3⟩ := at_T31 (Kd.R_reads' HO_6.out).2.2 x22_2 p229 q229
              obtain rfl : (⟨go19, 0, none⟩ : Addr) = ad229 := (by injection e229)
              (first | simp only [add_plain] at hx229_0 | simp only [add_at] at hx229_0 | simp only [Addr.add, Nat.zero_add] at hx229_0 | skip)
              (first | simp only [add_plain] at hx229_1 | simp only [add_at] at hx229_1 | simp only [Addr.add, Nat.zero_add] at hx229_1 | skip)
              (first | simp only [add_plain] at hx229_2 | simp only [add_at] at hx229_2 | simp only [Addr.add, Nat.zero_add] at hx229_2 | skip)
              (first | simp only [add_plain] at hx229_3 | simp only [add_at] at hx229_3 | simp only [Addr.add, Nat.zero_add] at hx229_3 | skip)
              replace p229 := eq_true p229
              replace q229 := eq_true q229
              have p230 : 0 ≤ ((ji21) : Int) := odt
              have q230 : (ji21) < (y228.length : Int) := (by have h_ : ((ji21) : Int) < ((x6_2.length : Int) : Int) := odt; first | (have e_ := (Kd.R_reads' HO_6.out).1; omega) | simpa only [Ny228.out, List.length_set] using h_)
              have ql230 : (((ji21) : Int) < ((x6_2.length : Int) : Int)) = True := eq_true odt
              obtain ⟨ad230, e230, hx230_0, hx230_1, hx230_2, hx230_3⟩ := at_T31 (Kd.R_reads' HO_6.out).2.2 (ji21) p230 q230
              obtain rfl : (⟨go19, 0, none⟩ : Addr) = ad230 := (by injection e230)
              (first | simp only [add_plain] at hx230_0 | simp only [add_at] at hx230_0 | simp only [Addr.add, Nat.zero_add] at hx230_0 | skip)
              (first | simp only [add_plain] at hx230_1 | simp only [add_at] at hx230_1 | simp only [Addr.add, Nat.zero_add] at hx230_1 | skip)
              (first | simp only [add_plain] at hx230_2 | simp only [add_at] at hx230_2 | simp only [Addr.add, Nat.zero_add] at hx230_2 | skip)
              (first | simp only [add_plain] at hx230_3 | simp only [add_at] at hx230_3 | simp only [Addr.add, Nat.zero_add] at hx230_3 | skip)
              replace p230 := eq_true p230
              replace q230 := eq_true q230
              have p231 : 0 ≤ ((ji21) : Int) := odt
              have q231 : (ji21) < (y228.length : Int) := (by have h_ : ((ji21) : Int) < ((x6_2.length : Int) : Int) := odt; first | (have e_ := (Kd.R_reads' HO_6.out).1; omega) | simpa only [Ny228.out, List.length_set] using h_)
              have ql231 : (((ji21) : Int) < ((x6_2.length : Int) : Int)) = True := eq_true odt
              obtain ⟨ad231, e231, hx231_0, hx231_1, hx231_2, hx231_3⟩ := at_T31 (Kd.R_reads' HO_6.out).2.2 (ji21) p231 q231
              obtain rfl : (⟨go19, 0, none⟩ : Addr) = ad231 := (by injection e231)
              (first | simp only [add_plain] at hx231_0 | simp only [add_at] at hx231_0 | simp only [Addr.add, Nat.zero_add] at hx231_0 | skip)
              (first | simp only [add_plain] at hx231_1 | simp only [add_at] at hx231_1 | simp only [Addr.add, Nat.zero_add] at hx231_1 | skip)
              (first | simp only [add_plain] at hx231_2 | simp only [add_at] at hx231_2 | simp only [Addr.add, Nat.zero_add] at hx231_2 | skip)
              (first | simp only [add_plain] at hx231_3 | simp only [add_at] at hx231_3 | simp only [Addr.add, Nat.zero_add] at hx231_3 | skip)
              replace p231 := eq_true p231
              replace q231 := eq_true q231
              have p25 : 0 ≤ (x22_2 : Int) := odt
              have q25 : (x22_2 : Int) < ((x6_2.length : Int) : Int) := odt
              obtain ⟨ce25, hcl25, hM25, hcc25, hfr25⟩ := Kd.R_elem HO_6.out z31 (x22_2 : Int) p25 q25
              obtain rfl := k31_openM hM25
              have hx25_0 : World.cell? _ ⟨go19, (x22_2 : Int).toNat * 4, none⟩ = some (.int .i64 ((rd_T31 y228 x22_2).f0)) := hcc25 0 _ rfl
              have hx25_1 : World.cell? _ ⟨go19, (x22_2 : Int).toNat * 4 + 1, none⟩ = some (.int .i64 ((rd_T31 y228 x22_2).f1)) := hcc25 1 _ rfl
              have hx25_2 : World.cell? _ ⟨go19, (x22_2 : Int).toNat * 4 + 2, none⟩ = some (.int .i64 ((rd_T31 y228 x22_2).f2)) := hcc25 2 _ rfl
              have hx25_3 : World.cell? _ ⟨go19, (x22_2 : Int).toNat * 4 + 3, none⟩ = some (.int .i64 ((rd_T31 y228 x22_2).f3)) := hcc25 3 _ rfl
              have hf25_0 : World.frozen? _ ⟨go19, (x22_2 : Int).toNat * 4, none⟩ = false := hfr25 0
              have hf25_1 : World.frozen? _ ⟨go19, (x22_2 : Int).toNat * 4 + 1, none⟩ = false := hfr25 1
              have hf25_2 : World.frozen? _ ⟨go19, (x22_2 : Int).toNat * 4 + 2, none⟩ = false := hfr25 2
              have hf25_3 : World.frozen? _ ⟨go19, (x22_2 : Int).toNat * 4 + 3, none⟩ = false := hfr25 3
              clear hcl25 hcc25 hfr25 hM25
              replace p25 := eq_true p25
              replace q25 := eq_true q25
              obtain ⟨ce34, hcl34, hM34, hcc34, hfr34⟩ := Kd.R_elem HO_6.out z31 (x22_2 : Int) odt (by have h_ : (x22_2 : Int) < ((x6_2.length : Int) : Int) := odt; first | exact h_ | (have e_ := (Kd.R_reads' HO_6.out).1; omega) | simpa using h_)
              obtain rfl := k31_openM hM34
              have HP34 := (Kd.R_seg HO_6.out (x22_2 : Int) odt (by have h_ : (x22_2 : Int) < ((x6_2.length : Int) : Int) := odt; first | exact h_ | (have e_ := (Kd.R_reads' HO_6.out).1; omega) | simpa using h_) (seg := [.int .i64 ji24]) (j := 0) hcl34 hcc34 (show 1 ≤ 4 from by decide) (x' := (⟨ji24, (rd_T31 y228 x22_2).f1, (rd_T31 y228 x22_2).f2, (rd_T31 y228 x22_2).f3⟩ : S31)) (k31_mkM _ _ _ (⟨ji24, (rd_T31 y228 x22_2).f1, (rd_T31 y228 x22_2).f2, (rd_T31 y228 x22_2).f3⟩ : S31) ) (fun _ hk => hk)).1
              rw [← Ny232.out] at HP34
              have HQ34 := Aside0.mk HP34
              clear hcl34 hcc34 hfr34 hM34 HP34
              refine start_ (n := 27) (S := fun w' => w'.cell? ⟨gb226, 0, none⟩ = some (.int .i64 ((rd_T31 l0 x22_2).f0)) ∧ w'.cell? ⟨gb226, 1, none⟩ = some (.int .i64 ((rd_T31 l0 x22_2).f1)) ∧ w'.cell? ⟨gb226, 2, none⟩ = some (.int .i64 ((rd_T31 l0 x22_2).f2)) ∧ w'.cell? ⟨gb226, 3, none⟩ = some (.int .i64 ((rd_T31 l0 x22_2).f3)) ∧ w'.cell? ⟨go19, (x22_2).toNat * 4, none⟩ = some (.int .i64 ((rd_T31 y228 x22_2).f0)) ∧ w'.cell? ⟨go19, (x22_2).toNat * 4 + 1, none⟩ = some (.int .i64 ((rd_T31 y228 x22_2).f1)) ∧ w'.cell? ⟨go19, (x22_2).toNat * 4 + 2, none⟩ = some (.int .i64 ((rd_T31 y228 x22_2).f2)) ∧ w'.cell? ⟨go19, (x22_2).toNat * 4 + 3, none⟩ = some (.int .i64 ((rd_T31 y228 x22_2).f3)) ∧ w'.cell? ⟨go19, ((ji21)).toNat * 4, none⟩ = some (.int .i64 ((rd_T31 y228 (ji21)).f0)) ∧ w'.cell? ⟨go19, ((ji21)).toNat * 4 + 1, none⟩ = some (.int .i64 ((rd_T31 y228 (ji21)).f1)) ∧ w'.cell? ⟨go19, ((ji21)).toNat * 4 + 2, none⟩ = some (.int .i64 ((rd_T31 y228 (ji21)).f2)) ∧ w'.cell? ⟨go19, ((ji21)).toNat * 4 + 3, none⟩ = some (.int .i64 ((rd_T31 y228 (ji21)).f3)) ∧ w'.cell? ⟨go19, ((ji21)).toNat * 4, none⟩ = some (.int .i64 ((rd_T31 y228 (ji21)).f0)) ∧ w'.cell? ⟨go19, ((ji21)).toNat * 4 + 1, none⟩ = some (.int .i64 ((rd_T31 y228 (ji21)).f1)) ∧ w'.cell? ⟨go19, ((ji21)).toNat * 4 + 2, none⟩ = some (.int .i64 ((rd_T31 y228 (ji21)).f2)) ∧ w'.cell? ⟨go19, ((ji21)).toNat * 4 + 3, none⟩ = some (.int .i64 ((rd_T31 y228 (ji21)).f3))) (ds := [26]) #[false, false, false, false, false, false, false, false, false, false, false, false, false, false, false, false, false, false, false, false, false, false, false, false, false, false, false] (by kernel_rfl) rfl rfl ⟨z_c BK226 0, z_c BK226 1, z_c BK226 2, z_c BK226 3, hx229_0, hx229_1, hx229_2, hx229_3, hx230_0, hx230_1, hx230_2, hx230_3, hx231_0, hx231_1, hx231_2, hx231_3⟩ (fun hHeld => ?_); refine with_tabW impl_MoveLine.tab10 impl_MoveLine.bits10 (fun HT_ HW_ => ?_)
              generalize w32.drew = w33 at HO_6 BK226 HB HQ31 HQ34 hf25_0 hf25_1 hf25_2 hf25_3 hx229_0 hx229_1 hx229_2 hx229_3 hx230_0 hx230_1 hx230_2 hx230_3 hx231_0 hx231_1 hx231_2 hx231_3 hx25_0 hx25_1 hx25_2 hx25_3 hHeld ⊢
              refine pure_ (i := 0) (N := some 47) (v := ?_) (a' := ?_) #[true, false, false, false, false, false, false, false, false, false, false, false, false, false, false, false, false, false, false, false, false, false, false, false, false, false, false] rfl rfl (any_of HT_.out (by kernel_rfl)) (fun _ _ _ h => h) (Or.inl ⟨by rfl, ?_⟩) ?_ ?_
              rotate_left; (· (intro w'; go_simp; with_reducible rfl)); rotate_left; (· (simp only [Act.put, sp1, sp2, sp3, i64_w, i32_w]; rfl))
              refine pure_ (i := 1) (N := some 48) (v := ?_) (a' := ?_) #[true, true, false, false, false, false, false, false, false, false, false, false, false, false, false, false, false, false, false, false, false, false, false, false, false, false, false] rfl rfl (any_of HT_.out (by kernel_rfl)) (fun _ _ _ h => h) (Or.inl ⟨by rfl, ?_⟩) ?_ ?_
              rotate_left; (· (intro w'; go_simp; with_reducible rfl)); rotate_left; (· (simp only [Act.put, sp1, sp2, sp3, i64_w, i32_w]; rfl))
              refine pure_ (i := 2) (N := some 49) (v := ?_) (a' := ?_) #[true, true, true, false, false, false, false, false, false, false, false, false, false, false, false, false, false, false, false, false, false, false, false, false, false, false, false] rfl rfl (any_of HT_.out (by kernel_rfl)) (fun _ _ _ h => h) (Or.inl ⟨by rfl, ?_⟩) ?_ ?_
              rotate_left; (· (intro w'; go_simp; with_reducible rfl)); rotate_left; (· (simp only [Act.put, sp1, sp2, sp3, i64_w, i32_w]; rfl))
              refine pure_ (i := 3) (N := some 50) (v := ?_) (a' := ?_) #[true, true, true, true, false, false, false, false, false, false, false, false, false, false, false, false, false, false, false, false, false, false, false, false, false, false, false] rfl rfl (any_of HT_.out (by kernel_rfl)) (fun _ _ _ h => h) (Or.inl ⟨by rfl, ?_⟩) ?_ ?_
              rotate_left; (· (intro w'; go_simp; with_reducible rfl)); rotate_left; (· (simp only [Act.put, sp1, sp2, sp3, i64_w, i32_w]; rfl))
              refine pure_ (i := 4) (N := some 51) (v := ?_) (a' := ?_) #[true, true, true, true, true, false, false, false, false, false, false, false, false, false, false, false, false, false, false, false, false, false, false, false, false, false, false] rfl rfl (any_of HT_.out (by kernel_rfl)) (fun _ _ _ h => h) (Or.inl ⟨by rfl, ?_⟩) ?_ ?_
              rotate_left; (· (intro w'; go_simp; with_reducible rfl)); rotate_left; (· (simp only [Act.put, sp1, sp2, sp3, i64_w, i32_w]; rfl))
              refine pure_ (i := 5) (N := some 52) (v := ?_) (a' := ?_) #[true, true, true, true, true, true, false, false, false, false, false, false, false, false, false, false, false, false, false, false, false, false, false, false, false, false, false] rfl rfl (any_of HT_.out (by kernel_rfl)) (fun _ _ _ h => h) (Or.inl ⟨by rfl, ?_⟩) ?_ ?_
              rotate_left; (· (intro w'; go_simp; with_reducible rfl)); rotate_left; (· (simp only [Act.put, sp1, sp2, sp3, i64_w, i32_w]; rfl))
              refine pure_ (i := 7) (N := some 54) (v := ?_) (a' := ?_) #[true, true, true, true, true, true, false, true, false, false, false, false, false, false, false, false, false, false, false, false, false, false, false, false, false, false, false] rfl rfl (any_of HT_.out (by kernel_rfl)) (fun _ _ _ h => h) (Or.inl ⟨by rfl, ?_⟩) ?_ ?_
              rotate_left; (· (intro w'; go_simp; with_reducible rfl)); rotate_left; (· (simp only [Act.put, sp1, sp2, sp3, i64_w, i32_w]; rfl))
              refine pure_ (i := 8) (N := some 55) (v := ?_) (a' := ?_) #[true, true, true, true, true, true, false, true, true, false, false, false, false, false, false, false, false, false, false, false, false, false, false, false, false, false, false] rfl rfl (any_of HT_.out (by kernel_rfl)) (fun _ _ _ h => h) (Or.inl ⟨by rfl, ?_⟩) ?_ ?_
              rotate_left; (· (intro w'; go_simp; with_reducible rfl)); rotate_left; (· (simp only [Act.put, sp1, sp2, sp3, i64_w, i32_w]; rfl))
              refine pure_ (i := 9) (N := some 56) (v := ?_) (a' := ?_) #[true, true, true, true, true, true, false, true, true, true, false, false, false, false, false, false, false, false, false, false, false, false, false, false, false, false, false] rfl rfl (any_of HT_.out (by kernel_rfl)) (fun _ _ _ h => h) (Or.inl ⟨by rfl, ?_⟩) ?_ ?_
              rotate_left; (· (intro w'; go_simp; with_reducible rfl)); rotate_left; (· (simp only [Act.put, sp1, sp2, sp3, i64_w, i32_w]; rfl))
              refine pure_ (i := 10) (N := some 57) (v := ?_) (a' := ?_) #[true, true, true, true, true, true, false, true, true, true, true, false, false, false, false, false, false, false, false, false, false, false, false, false, false, false, false] rfl rfl (any_of HT_.out (by kernel_rfl)) (fun _ _ _ h => h) (Or.inl ⟨by rfl, ?_⟩) ?_ ?_
              rotate_left; (· (intro w'; go_simp; with_reducible rfl)); rotate_left; (· (simp only [Act.put, sp1, sp2, sp3, i64_w, i32_w]; rfl))
              refine pure_ (i := 11) (N := some 58) (v := ?_) (a' := ?_) #[true, true, true, true, true, true, false, true, true, true, true, true, false, false, false, false, false, false, false, false, false, false, false, false, false, false, false] rfl rfl (any_of HT_.out (by kernel_rfl)) (fun _ _ _ h => h) (Or.inl ⟨by rfl, ?_⟩) ?_ ?_
              rotate_left; (· (intro w'; go_simp; with_reducible rfl)); rotate_left; (· (simp only [Act.put, sp1, sp2, sp3, i64_w, i32_w]; rfl))
              refine pure_ (i := 13) (N := some 60) (v := ?_) (a' := ?_) #[true, true, true, true, true, true, false, true, true, true, true, true, false, true, false, false, false, false, false, false, false, false, false, false, false, false, false] rfl rfl (any_of HT_.out (by kernel_rfl)) (fun _ _ _ h => h) (Or.inl ⟨by rfl, ?_⟩) ?_ ?_
              rotate_left; (· (intro w'; go_simp; with_reducible rfl)); rotate_left; (· (simp only [Act.put, sp1, sp2, sp3, i64_w, i32_w]; rfl))
              refine pure_ (i := 14) (N := some 61) (v := ?_) (a' := ?_) #[true, true, true, true, true, true, false, true, true, true, true, true, false, true, true, false, false, false, false, false, false, false, false, false, false, false, false] rfl rfl (any_of HT_.out (by kernel_rfl)) (fun _ _ _ h => h) (Or.inl ⟨by rfl, ?_⟩) ?_ ?_
              rotate_left; (· (intro w'; go_simp; with_reducible rfl)); rotate_left; (· (simp only [Act.put, sp1, sp2, sp3, i64_w, i32_w]; rfl))
              refine pure_ (i := 15) (N := some 62) (v := ?_) (a' := ?_) #[true, true, true, true, true, true, false, true, true, true, true, true, false, true, true, true, false, false, false, false, false, false, false, false, false, false, false] rfl rfl (any_of HT_.out (by kernel_rfl)) (fun _ _ _ h => h) (Or.inl ⟨by rfl, ?_⟩) ?_ ?_
              rotate_left; (· (intro w'; go_simp; with_reducible rfl)); rotate_left; (· (simp only [Act.put, sp1, sp2, sp3, i64_w, i32_w]; rfl))
              refine pure_ (i := 16) (N := some 63) (v := ?_) (a' := ?_) #[true, true, true, true, true, true, false, true, true, true, true, true, false, true, true, true, true, false, false, false, false, false, false, false, false, false, false] rfl rfl (any_of HT_.out (by kernel_rfl)) (fun _ _ _ h => h) (Or.inl ⟨by rfl, ?_⟩) ?_ ?_
              rotate_left; (· (intro w'; go_simp; with_reducible rfl)); rotate_left; (· (simp only [Act.put, sp1, sp2, sp3, i64_w, i32_w]; rfl))
              refine pure_ (i := 17) (N := some 64) (v := ?_) (a' := ?_) #[true, true, true, true, true, true, false, true, true, true, true, true, false, true, true, true, true, true, false, false, false, false, false, false, false, false, false] rfl rfl (any_of HT_.out (by kernel_rfl)) (fun _ _ _ h => h) (Or.inl ⟨by rfl, ?_⟩) ?_ ?_
              rotate_left; (· (intro w'; go_simp; with_reducible rfl)); rotate_left; (· (simp only [Act.put, sp1, sp2, sp3, i64_w, i32_w]; rfl))
              refine pure_ (i := 20) (N := some 67) (v := ?_) (a' := ?_) #[true, true, true, true, true, true, false, true, true, true, true, true, false, true, true, true, true, true, false, false, true, false, false, false, false, false, false] rfl rfl (any_of HT_.out (by kernel_rfl)) (fun _ _ _ h => h) (Or.inl ⟨by rfl, ?_⟩) ?_ ?_
              rotate_left; (· (intro w'; go_simp; with_reducible rfl)); rotate_left; (· (simp only [Act.put, sp1, sp2, sp3, i64_w, i32_w]; rfl))
              refine take_ (i := 6) (N := some 53) (v := ?_) (a' := ?_) #[true, true, true, true, true, true, true, true, true, true, true, true, false, true, true, true, true, true, false, false, true, false, false, false, false, false, false] rfl rfl (take_ofW HT_.out HW_.out (by kernel_rfl)) (fun _ _ _ h => h) (Or.inl ⟨by rfl, ?_⟩) hHeld ?_ ?_
              rotate_left; (· (rintro w' ⟨s0, s1, s2, s3, s4, s5, s6, s7, s8, s9, s10, s11, s12, s13, s14, s15⟩; go_simp; with_reducible rfl)); rotate_left; (· (simp only [Act.put, sp1, sp2, sp3, i64_w, i32_w]; rfl))
              refine take_ (i := 12) (N := some 59) (v := ?_) (a' := ?_) #[true, true, true, true, true, true, true, true, true, true, true, true, true, true, true, true, true, true, false, false, true, false, false, false, false, false, false] rfl rfl (take_ofW HT_.out HW_.out (by kernel_rfl)) (fun _ _ _ h => h) (Or.inl ⟨by rfl, ?_⟩) hHeld ?_ ?_
              rotate_left; (· (rintro w' ⟨s0, s1, s2, s3, s4, s5, s6, s7, s8, s9, s10, s11, s12, s13, s14, s15⟩; go_simp; with_reducible rfl)); rotate_left; (· (simp only [Act.put, sp1, sp2, sp3, i64_w, i32_w]; rfl))
              refine take_ (i := 18) (N := some 65) (v := ?_) (a' := ?_) #[true, true, true, true, true, true, true, true, true, true, true, true, true, true, true, true, true, true, true, false, true, false, false, false, false, false, false] rfl rfl (take_ofW HT_.out HW_.out (by kernel_rfl)) (fun _ _ _ h => h) (Or.inl ⟨by rfl, ?_⟩) hHeld ?_ ?_
              rotate_left; (· (rintro w' ⟨s0, s1, s2, s3, s4, s5, s6, s7, s8, s9, s10, s11, s12, s13, s14, s15⟩; go_simp; with_reducible rfl)); rotate_left; (· (simp only [Act.put, sp1, sp2, sp3, i64_w, i32_w]; rfl))
              refine pure_ (i := 19) (N := some 66) (v := ?_) (a' := ?_) #[true, true, true, true, true, true, true, true, true, true, true, true, true, true, true, true, true, true, true, true, true, false, false, false, false, false, false] rfl rfl (any_of HT_.out (by kernel_rfl)) (fun _ _ _ h => h) (Or.inl ⟨by rfl, ?_⟩) ?_ ?_
              rotate_left; (· (intro w'; go_simp; with_reducible rfl)); rotate_left; (· (simp only [Act.put, sp1, sp2, sp3, i64_w, i32_w]; rfl))
              refine take_ (i := 21) (N := some 68) (v := ?_) (a' := ?_) #[true, true, true, true, true, true, true, true, true, true, true, true, true, true, true, true, true, true, true, true, true, true, false, false, false, false, false] rfl rfl (take_ofW HT_.out HW_.out (by kernel_rfl)) (fun _ _ _ h => h) (Or.inl ⟨by rfl, ?_⟩) hHeld ?_ ?_
              rotate_left; (· (rintro w' ⟨s0, s1, s2, s3, s4, s5, s6, s7, s8, s9, s10, s11, s12, s13, s14, s15⟩; go_simp; with_reducible rfl)); rotate_left; (· (simp only [Act.put, sp1, sp2, sp3, i64_w, i32_w]; rfl))
              refine pure_ (i := 22) (N := some 69) (v := ?_) (a' := ?_) #[true, true, true, true, true, true, true, true, true, true, true, true, true, true, true, true, true, true, true, true, true, true, true, false, false, false, false] rfl rfl (any_of HT_.out (by kernel_rfl)) (fun _ _ _ h => h) (Or.inl ⟨by rfl, ?_⟩) ?_ ?_
              rotate_left; (· (intro w'; go_simp; with_reducible rfl)); rotate_left; (· (simp only [Act.put, sp1, sp2, sp3, i64_w, i32_w]; rfl))
              refine pure_ (i := 23) (N := some 70) (v := ?_) (a' := ?_) #[true, true, true, true, true, true, true, true, true, true, true, true, true, true, true, true, true, true, true, true, true, true, true, true, false, false, false] rfl rfl (any_of HT_.out (by kernel_rfl)) (fun _ _ _ h => h) (Or.inl ⟨by rfl, ?_⟩) ?_ ?_
              rotate_left; (· (intro w'; go_simp; with_reducible rfl)); rotate_left; (· (simp only [Act.put, sp1, sp2, sp3, i64_w, i32_w]; rfl))
              refine pure_ (i := 24) (N := some 71) (v := ?_) (a' := ?_) #[true, true, true, true, true, true, true, true, true, true, true, true, true, true, true, true, true, true, true, true, true, true, true, true, true, false, false] rfl rfl (any_of HT_.out (by kernel_rfl)) (fun _ _ _ h => h) (Or.inl ⟨by rfl, ?_⟩) ?_ ?_
              rotate_left; (· (intro w'; go_simp; with_reducible rfl)); rotate_left; (· (simp only [Act.put, sp1, sp2, sp3, i64_w, i32_w]; rfl))
              refine pure_ (i := 25) (N := some 72) (v := ?_) (a' := ?_) #[true, true, true, true, true, true, true, true, true, true, true, true, true, true, true, true, true, true, true, true, true, true, true, true, true, true, false] rfl rfl (any_of HT_.out (by kernel_rfl)) (fun _ _ _ h => h) (Or.inl ⟨by rfl, ?_⟩) ?_ ?_
              rotate_left; (· (intro w'; go_simp; with_reducible rfl)); rotate_left; (· (simp only [Act.put, sp1, sp2, sp3, i64_w, i32_w]; rfl))
              refine last_ (i := 26) (N := none) #[true, true, true, true, true, true, true, true, true, true, true, true, true, true, true, true, true, true, true, true, true, true, true, true, true, true, true] rfl rfl (one_of HT_.out (by kernel_rfl)) (by decide) (fun K hK => ?_)
              refine skip_ (w1 := ?_) (by rfl) rfl ?_ ?_
              rotate_left
              ·go_simp
               rfl
              refine hK.out _ _ ?_
              clear hK K
              refine done_ (done_of HT_.out (by kernel_rfl)) ?_
              try go_wp2
              go_roundg k2
              case measure => have := HJ2.out; have := HK2.out; omega
              case rel => exact ⟨(y232), (wrap64 (x22_2 + 1)), (by first | rfl | (simp; done) | (simp [*]; done)), H', ⟨by have := HJ2.out; have := HK2.out; omega⟩, ⟨by (with_reducible repeat (first | apply Kd.R_alloc | apply Kd.R_drewN | apply Kd.R_drew)); exact Kd.R_mono HQ34.out (fun _ hk => trivial)⟩, ⟨blw⟩⟩
             ·rw [if_neg c23] at H
              exact absurd H (by simp)
            ·rw [if_neg c22] at H
             exact absurd H (by simp)
           ·rw [if_neg c20] at H
            have c20b0 : decide (0 < x22_2) = false := decide_eq_false c20
            clear c20
            have H' := Aside0.mk H
            clear H
            have p225 : 0 ≤ (x22_2 : Int) := odt
            have q225 : x22_2 < (l0.length : Int) := odt
            obtain ⟨ad225, e225, hx225_0, hx225_1, hx225_2, hx225_3⟩ := at_T31 HR0.out x22_2 p225 q225
            cases e225
            replace hx225_0 := (HB.out.cell (World.block_lt_of_cell? w _ hx225_0)).trans hx225_0
            replace hx225_1 := (HB.out.cell (World.block_lt_of_cell? w _ hx225_1)).trans hx225_1
            replace hx225_2 := (HB.out.cell (World.block_lt_of_cell? w _ hx225_2)).trans hx225_2
            replace hx225_3 := (HB.out.cell (World.block_lt_of_cell? w _ hx225_3)).trans hx225_3
            replace p225 := eq_true p225
            replace q225 := eq_true q225
            try go_wp2_with (first | ((with_reducible refine gate_dst (N := 8) rfl ?_); refine box_event ?hg (N := 8) ?hd (cs := #[.int .i64 0, .int .i64 0, .int .i64 0, .int .i64 0]) (t := 31) ?hr ?_; (case hd => rfl); (case hg => rfl); (case hr => first | (go_simp; done) | (go_simp; rfl)); intro gb226 hg w35 hbox hb; have n0_ := Aside0.mk (Kd.R_below (Kd.R_elderB (by (with_reducible repeat (first | apply Kd.R_alloc | apply Kd.R_drewN | apply Kd.R_drew)); exact HO_6.out) gb226 (Nat.le_of_eq hg.symm)) hb); have n1_ := z_bs HB hb; have n2_ := Aside0.mk (hbox); have n3_ := z_gw HB hg; have n4_ := z_gw HB hg; clear HO_6; clear HB; have HO_6 := n0_; have HB := n1_; have BK226 := n2_; have GW226 := n3_; have GE226 := n4_; clear n0_ n1_ n2_ n3_ n4_; clear hb hbox hg; have hcz36_0 : w35.cell? ⟨gb226, 0, none⟩ = some (.int .i64 0) := z_c BK226 0; have hcz36_1 : w35.cell? ⟨gb226, 1, none⟩ = some (.int .i64 0) := z_c BK226 1; have hcz36_2 : w35.cell? ⟨gb226, 2, none⟩ = some (.int .i64 0) := z_c BK226 2; have hcz36_3 : w35.cell? ⟨gb226, 3, none⟩ = some (.int .i64 0) := z_c BK226 3; have hfz36_0 := blk_frozen BK226.out 0; have hfz36_1 := blk_frozen BK226.out 1; have hfz36_2 := blk_frozen BK226.out 2; have hfz36_3 := blk_frozen BK226.out 3))
            have n0_ : Aside0 (Kd.R k31 31 ((((w35.setCell ⟨gb226, 0, none⟩ (.int .i64 ((rd_T31 l0 x22_2).f0))).setCell ⟨gb226, 1, none⟩ (.int .i64 ((rd_T31 l0 x22_2).f1))).setCell ⟨gb226, 2, none⟩ (.int .i64 ((rd_T31 l0 x22_2).f2))).setCell ⟨gb226, 3, none⟩ (.int .i64 ((rd_T31 l0 x22_2).f3))) w.heap.size (fun k_ => k_ ≠ gb226) v223 x6_2) := ⟨by (with_reducible repeat (first | apply Kd.R_alloc | apply Kd.R_drewN | apply Kd.R_drew)); exact Kd.R_mono (Kd.R_far (p := ⟨gb226, 3, none⟩) (Kd.R_far (p := ⟨gb226, 2, none⟩) (Kd.R_far (p := ⟨gb226, 1, none⟩) (Kd.R_far (p := ⟨gb226, 0, none⟩) (Kd.R_mono HO_6.out (fun k_ hk => (⟨hk, hk.2⟩ : _ ∧ k_ ≠ gb226))) (fun _ hk => hk.2) (.int .i64 ((rd_T31 l0 x22_2).f0))) (fun _ hk => hk.2) (.int .i64 ((rd_T31 l0 x22_2).f1))) (fun _ hk => hk.2) (.int .i64 ((rd_T31 l0 x22_2).f2))) (fun _ hk => hk.2) (.int .i64 ((rd_T31 l0 x22_2).f3))) (fun _ hk => hk.1.2)⟩
            have n1_ : Aside0 (((((w35.setCell ⟨gb226, 0, none⟩ (.int .i64 ((rd_T31 l0 x22_2).f0))).setCell ⟨gb226, 1, none⟩ (.int .i64 ((rd_T31 l0 x22_2).f1))).setCell ⟨gb226, 2, none⟩ (.int .i64 ((rd_T31 l0 x22_2).f2))).setCell ⟨gb226, 3, none⟩ (.int .i64 ((rd_T31 l0 x22_2).f3))).heap[gb226]? = some (.cells #[.int .i64 ((rd_T31 l0 x22_2).f0), .int .i64 ((rd_T31 l0 x22_2).f1), .int .i64 ((rd_T31 l0 x22_2).f2), .int .i64 ((rd_T31 l0 x22_2).f3)] 31 (0, 0))) := ⟨by (with_reducible repeat (first | refine blk_drewN ?_ _ | refine blk_drew ?_ | refine blk_alloc ?_ _)); refine blk_put (cs := #[.int .i64 ((rd_T31 l0 x22_2).f0), .int .i64 ((rd_T31 l0 x22_2).f1), .int .i64 ((rd_T31 l0 x22_2).f2), .int .i64 0]) ?_ 3 _ rfl; (with_reducible repeat (first | refine blk_drewN ?_ _ | refine blk_drew ?_ | refine blk_alloc ?_ _)); refine blk_put (cs := #[.int .i64 ((rd_T31 l0 x22_2).f0), .int .i64 ((rd_T31 l0 x22_2).f1), .int .i64 0, .int .i64 0]) ?_ 2 _ rfl; (with_reducible repeat (first | refine blk_drewN ?_ _ | refine blk_drew ?_ | refine blk_alloc ?_ _)); refine blk_put (cs := #[.int .i64 ((rd_T31 l0 x22_2).f0), .int .i64 0, .int .i64 0, .int .i64 0]) ?_ 1 _ rfl; (with_reducible repeat (first | refine blk_drewN ?_ _ | refine blk_drew ?_ | refine blk_alloc ?_ _)); refine blk_put (cs := #[.int .i64 0, .int .i64 0, .int .i64 0, .int .i64 0]) ?_ 0 _ rfl; (with_reducible repeat (first | refine blk_drewN ?_ _ | refine blk_drew ?_ | refine blk_alloc ?_ _)); exact BK226.out⟩
            have n2_ : Aside0 (Below w.heap.size w ((((w35.setCell ⟨gb226, 0, none⟩ (.int .i64 ((rd_T31 l0 x22_2).f0))).setCell ⟨gb226, 1, none⟩ (.int .i64 ((rd_T31 l0 x22_2).f1))).setCell ⟨gb226, 2, none⟩ (.int .i64 ((rd_T31 l0 x22_2).f2))).setCell ⟨gb226, 3, none⟩ (.int .i64 ((rd_T31 l0 x22_2).f3)))) := ⟨blw⟩
            (try clear HO_6)
            (try clear BK226)
            (try clear HB)
            generalize ((((w35.setCell ⟨gb226, 0, none⟩ (.int .i64 ((rd_T31 l0 x22_2).f0))).setCell ⟨gb226, 1, none⟩ (.int .i64 ((rd_T31 l0 x22_2).f1))).setCell ⟨gb226, 2, none⟩ (.int .i64 ((rd_T31 l0 x22_2).f2))).setCell ⟨gb226, 3, none⟩ (.int .i64 ((rd_T31 l0 x22_2).f3))) = w37 at n0_ n1_ n2_ ⊢
            have HO_6 := n0_
            have BK226 := n1_
            have HB := n2_
            clear n0_ n1_ n2_
            have n0_ := Aside0.mk (Kd.R_drew HO_6.out)
            have n1_ := Aside0.mk (blk_drew BK226.out)
            have n2_ := Aside0.mk (below_drew1 HB.out)
            clear HO_6
            clear BK226
            clear HB
            have HO_6 := n0_
            have BK226 := n1_
            have HB := n2_
            clear n0_ n1_ n2_
            obtain ⟨Ao39, co39, eo39⟩ := Kd.R_slice HO_6.out
            (first | subst eo39 | (injection eo39 with f1_ f2_ f3_; have f4_ := f1_.symm; have f5_ := f3_.symm; clear f1_ f2_ f3_; subst f4_; subst f5_))
            have p227 : 0 ≤ (x22_2 : Int) := odt
            have q227 : x22_2 < (x6_2.length : Int) := odt
            obtain ⟨ad227, e227, hx227_0, hx227_1, hx227_2, hx227_3⟩ := at_T31 (Kd.R_reads' HO_6.out).2.2 x22_2 p227 q227
            cases e227
            replace p227 := eq_true p227
            replace q227 := eq_true q227
            have p19 : 0 ≤ (x22_2 : Int) := odt
            have q19 : (x22_2 : Int) < ((x6_2.length : Int) : Int) := odt
            obtain ⟨go19, co19, eo19, gb19, gl19, cl19, HG19⟩ := Kd.R_form HO_6.out (by omega)
            (first | cases eo19 | (injection eo19 with ea_ en_ ec_; (first | subst ea_ | (injection ea_ with ea_; subst ea_)); subst ec_; clear en_))
            have GB19 := Aside0.mk gb19
            have GG19 := Aside0.mk HG19
            clear gb19 gl19 HG19
            (first | simp only [add_plain] at hx227_0 | skip)
            (first | simp only [add_plain] at hx227_1 | skip)
            (first | simp only [add_plain] at hx227_2 | skip)
            (first | simp only [add_plain] at hx227_3 | skip)
            obtain ⟨ce19, hcl19, hM19, hcc19, hfr19⟩ := Kd.R_elem HO_6.out z31 (x22_2 : Int) p19 q19
            obtain rfl := k31_openM hM19
            have hx19_0 : World.cell? _ ⟨go19, (x22_2 : Int).toNat * 4, none⟩ = some (.int .i64 ((rd_T31 x6_2 x22_2).f0)) := hcc19 0 _ rfl
            have hx19_1 : World.cell? _ ⟨go19, (x22_2 : Int).toNat * 4 + 1, none⟩ = some (.int .i64 ((rd_T31 x6_2 x22_2).f1)) := hcc19 1 _ rfl
            have hx19_2 : World.cell? _ ⟨go19, (x22_2 : Int).toNat * 4 + 2, none⟩ = some (.int .i64 ((rd_T31 x6_2 x22_2).f2)) := hcc19 2 _ rfl
            have hx19_3 : World.cell? _ ⟨go19, (x22_2 : Int).toNat * 4 + 3, none⟩ = some (.int .i64 ((rd_T31 x6_2 x22_2).f3)) := hcc19 3 _ rfl
            have hf19_0 : World.frozen? _ ⟨go19, (x22_2 : Int).toNat * 4, none⟩ = false := hfr19 0
            have hf19_1 : World.frozen? _ ⟨go19, (x22_2 : Int).toNat * 4 + 1, none⟩ = false := hfr19 1
            have hf19_2 : World.frozen? _ ⟨go19, (x22_2 : Int).toNat * 4 + 2, none⟩ = false := hfr19 2
            have hf19_3 : World.frozen? _ ⟨go19, (x22_2 : Int).toNat * 4 + 3, none⟩ = false := hfr19 3
            clear hcl19 hcc19 hfr19 hM19
            replace p19 := eq_true p19
            replace q19 := eq_true q19
            obtain ⟨ce40, hcl40, hM40, hcc40, hfr40⟩ := Kd.R_elem HO_6.out z31 (x22_2 : Int) odt (by have h_ : (x22_2 : Int) < ((x6_2.length : Int) : Int) := odt; first | exact h_ | (have e_ := (Kd.R_reads' HO_6.out).1; omega) | simpa using h_)
            obtain rfl := k31_openM hM40
            have HP40 := (Kd.R_seg HO_6.out (x22_2 : Int) odt (by have h_ : (x22_2 : Int) < ((x6_2.length : Int) : Int) := odt; first | exact h_ | (have e_ := (Kd.R_reads' HO_6.out).1; omega) | simpa using h_) (seg := [.int .i64 (wrap64 (((rd_T31 x6_2 x22_2).f0) + (wrap64 (Int.tdiv (wrap64 (((rd_T31 l0 x22_2).f1) * a1)) ((rd_T31 l0 x22_2).f2)))))]) (j := 0) hcl40 hcc40 (show 1 ≤ 4 from by decide) (x' := (⟨wrap64 (((rd_T31 x6_2 x22_2).f0) + (wrap64 (Int.tdiv (wrap64 (((rd_T31 l0 x22_2).f1) * a1)) ((rd_T31 l0 x22_2).f2)))), (rd_T31 x6_2 x22_2).f1, (rd_T31 x6_2 x22_2).f2, (rd_T31 x6_2 x22_2).f3⟩ : S31)) (k31_mkM _ _ _ (⟨wrap64 (((rd_T31 x6_2 x22_2).f0) + (wrap64 (Int.tdiv (wrap64 (((rd_T31 l0 x22_2).f1) * a1)) ((rd_T31 l0 x22_2).f2)))), (rd_T31 x6_2 x22_2).f1, (rd_T31 x6_2 x22_2).f2, (rd_T31 x6_2 x22_2).f3⟩ : S31) ) (fun _ hk => hk)).1
            rw [← Ny228.out] at HP40
            have HQ40 := Aside0.mk HP40
            clear hcl40 hcc40 hfr40 hM40 HP40
            refine start_ (n := 16) (S := fun w' => w'.cell? ⟨gb226, 0, none⟩ = some (.int .i64 ((rd_T31 l0 x22_2).f0)) ∧ w'.cell? ⟨gb226, 1, none⟩ = some (.int .i64 ((rd_T31 l0 x22_2).f1)) ∧ w'.cell? ⟨gb226, 2, none⟩ = some (.int .i64 ((rd_T31 l0 x22_2).f2)) ∧ w'.cell? ⟨gb226, 3, none⟩ = some (.int .i64 ((rd_T31 l0 x22_2).f3)) ∧ w'.cell? ⟨go19, ((x22_2).toNat * 4), none⟩ = some (.int .i64 ((rd_T31 x6_2 x22_2).f0)) ∧ w'.cell? ⟨go19, ((x22_2).toNat * 4) + 1, none⟩ = some (.int .i64 ((rd_T31 x6_2 x22_2).f1)) ∧ w'.cell? ⟨go19, ((x22_2).toNat * 4) + 2, none⟩ = some (.int .i64 ((rd_T31 x6_2 x22_2).f2)) ∧ w'.cell? ⟨go19, ((x22_2).toNat * 4) + 3, none⟩ = some (.int .i64 ((rd_T31 x6_2 x22_2).f3))) (ds := [15]) #[false, false, false, false, false, false, false, false, false, false, false, false, false, false, false, false] (by kernel_rfl) rfl rfl ⟨z_c BK226 0, z_c BK226 1, z_c BK226 2, z_c BK226 3, hx227_0, hx227_1, hx227_2, hx227_3⟩ (fun hHeld => ?_); refine with_tabW impl_MoveLine.tab8 impl_MoveLine.bits8 (fun HT_ HW_ => ?_)
            generalize w37.drew = w38 at HO_6 BK226 HB GG19 HQ40 hf19_0 hf19_1 hf19_2 hf19_3 hx19_0 hx19_1 hx19_2 hx19_3 hx227_0 hx227_1 hx227_2 hx227_3 hHeld ⊢
            refine pure_ (i := 0) (N := some 30) (v := ?_) (a' := ?_) #[true, false, false, false, false, false, false, false, false, false, false, false, false, false, false, false] rfl rfl (any_of HT_.out (by kernel_rfl)) (fun _ _ _ h => h) (Or.inl ⟨by rfl, ?_⟩) ?_ ?_
            rotate_left; (· (intro w'; go_simp; with_reducible rfl)); rotate_left; (· (simp only [Act.put, sp1, sp2, sp3, i64_w, i32_w]; rfl))
            refine pure_ (i := 1) (N := some 31) (v := ?_) (a' := ?_) #[true, true, false, false, false, false, false, false, false, false, false, false, false, false, false, false] rfl rfl (any_of HT_.out (by kernel_rfl)) (fun _ _ _ h => h) (Or.inl ⟨by rfl, ?_⟩) ?_ ?_
            rotate_left; (· (intro w'; go_simp; with_reducible rfl)); rotate_left; (· (simp only [Act.put, sp1, sp2, sp3, i64_w, i32_w]; rfl))
            refine pure_ (i := 2) (N := some 32) (v := ?_) (a' := ?_) #[true, true, true, false, false, false, false, false, false, false, false, false, false, false, false, false] rfl rfl (any_of HT_.out (by kernel_rfl)) (fun _ _ _ h => h) (Or.inl ⟨by rfl, ?_⟩) ?_ ?_
            rotate_left; (· (intro w'; go_simp; with_reducible rfl)); rotate_left; (· (simp only [Act.put, sp1, sp2, sp3, i64_w, i32_w]; rfl))
            refine pure_ (i := 3) (N := some 33) (v := ?_) (a' := ?_) #[true, true, true, true, false, false, false, false, false, false, false, false, false, false, false, false] rfl rfl (any_of HT_.out (by kernel_rfl)) (fun _ _ _ h => h) (Or.inl ⟨by rfl, ?_⟩) ?_ ?_
            rotate_left; (· (intro w'; go_simp; with_reducible rfl)); rotate_left; (· (simp only [Act.put, sp1, sp2, sp3, i64_w, i32_w]; rfl))
            refine pure_ (i := 5) (N := some 35) (v := ?_) (a' := ?_) #[true, true, true, true, false, true, false, false, false, false, false, false, false, false, false, false] rfl rfl (any_of HT_.out (by kernel_rfl)) (fun _ _ _ h => h) (Or.inl ⟨by rfl, ?_⟩) ?_ ?_
            rotate_left; (· (intro w'; go_simp; with_reducible rfl)); rotate_left; (· (simp only [Act.put, sp1, sp2, sp3, i64_w, i32_w]; rfl))
            refine pure_ (i := 7) (N := some 37) (v := ?_) (a' := ?_) #[true, true, true, true, false, true, false, true, false, false, false, false, false, false, false, false] rfl rfl (any_of HT_.out (by kernel_rfl)) (fun _ _ _ h => h) (Or.inl ⟨by rfl, ?_⟩) ?_ ?_
            rotate_left; (· (intro w'; go_simp; with_reducible rfl)); rotate_left; (· (simp only [Act.put, sp1, sp2, sp3, i64_w, i32_w]; rfl))
            refine pure_ (i := 9) (N := some 39) (v := ?_) (a' := ?_) #[true, true, true, true, false, true, false, true, false, true, false, false, false, false, false, false] rfl rfl (any_of HT_.out (by kernel_rfl)) (fun _ _ _ h => h) (Or.inl ⟨by rfl, ?_⟩) ?_ ?_
            rotate_left; (· (intro w'; go_simp; with_reducible rfl)); rotate_left; (· (simp only [Act.put, sp1, sp2, sp3, i64_w, i32_w]; rfl))
            refine take_ (i := 4) (N := some 34) (v := ?_) (a' := ?_) #[true, true, true, true, true, true, false, true, false, true, false, false, false, false, false, false] rfl rfl (take_ofW HT_.out HW_.out (by kernel_rfl)) (fun _ _ _ h => h) (Or.inl ⟨by rfl, ?_⟩) hHeld ?_ ?_
            rotate_left; (· (rintro w' ⟨s0, s1, s2, s3, s4, s5, s6, s7⟩; go_simp; with_reducible rfl)); rotate_left; (· (simp only [Act.put, sp1, sp2, sp3, i64_w, i32_w]; rfl))
            refine take_ (i := 6) (N := some 36) (v := ?_) (a' := ?_) #[true, true, true, true, true, true, true, true, false, true, false, false, false, false, false, false] rfl rfl (take_ofW HT_.out HW_.out (by kernel_rfl)) (fun _ _ _ h => h) (Or.inl ⟨by rfl, ?_⟩) hHeld ?_ ?_
            rotate_left; (· (rintro w' ⟨s0, s1, s2, s3, s4, s5, s6, s7⟩; go_simp; with_reducible rfl)); rotate_left; (· (simp only [Act.put, sp1, sp2, sp3, i64_w, i32_w]; rfl))
            refine pure_ (i := 8) (N := some 38) (v := ?_) (a' := ?_) #[true, true, true, true, true, true, true, true, true, true, false, false, false, false, false, false] rfl rfl (any_of HT_.out (by kernel_rfl)) (fun _ _ _ h => h) (Or.inl ⟨by rfl, ?_⟩) ?_ ?_
            rotate_left; (· (intro w'; go_simp; with_reducible rfl)); rotate_left; (· (simp only [Act.put, sp1, sp2, sp3, i64_w, i32_w]; rfl))
            refine take_ (i := 10) (N := some 40) (v := ?_) (a' := ?_) #[true, true, true, true, true, true, true, true, true, true, true, false, false, false, false, false] rfl rfl (take_ofW HT_.out HW_.out (by kernel_rfl)) (fun _ _ _ h => h) (Or.inl ⟨by rfl, ?_⟩) hHeld ?_ ?_
            rotate_left; (· (rintro w' ⟨s0, s1, s2, s3, s4, s5, s6, s7⟩; go_simp; with_reducible rfl)); rotate_left; (· (simp only [Act.put, sp1, sp2, sp3, i64_w, i32_w]; rfl))
            refine pure_ (i := 11) (N := some 41) (v := ?_) (a' := ?_) #[true, true, true, true, true, true, true, true, true, true, true, true, false, false, false, false] rfl rfl (any_of HT_.out (by kernel_rfl)) (fun _ _ _ h => h) (Or.inl ⟨by rfl, ?_⟩) ?_ ?_
            rotate_left; (· (intro w'; go_simp; with_reducible rfl)); rotate_left; (· (simp only [Act.put, sp1, sp2, sp3, i64_w, i32_w]; rfl))
            refine pure_ (i := 12) (N := some 42) (v := ?_) (a' := ?_) #[true, true, true, true, true, true, true, true, true, true, true, true, true, false, false, false] rfl rfl (any_of HT_.out (by kernel_rfl)) (fun _ _ _ h => h) (Or.inl ⟨by rfl, ?_⟩) ?_ ?_
            rotate_left; (· (intro w'; go_simp; with_reducible rfl)); rotate_left; (· (simp only [Act.put, sp1, sp2, sp3, i64_w, i32_w]; rfl))
            refine pure_ (i := 13) (N := some 43) (v := ?_) (a' := ?_) #[true, true, true, true, true, true, true, true, true, true, true, true, true, true, false, false] rfl rfl (any_of HT_.out (by kernel_rfl)) (fun _ _ _ h => h) (Or.inl ⟨by rfl, ?_⟩) ?_ ?_
            rotate_left; (· (intro w'; go_simp; with_reducible rfl)); rotate_left; (· (simp only [Act.put, sp1, sp2, sp3, i64_w, i32_w]; rfl))
            refine pure_ (i := 14) (N := some 44) (v := ?_) (a' := ?_) #[true, true, true, true, true, true, true, true, true, true, true, true, true, true, true, false] rfl rfl (any_of HT_.out (by kernel_rfl)) (fun _ _ _ h => h) (Or.inl ⟨by rfl, ?_⟩) ?_ ?_
            rotate_left; (· (intro w'; go_simp; with_reducible rfl)); rotate_left; (· (simp only [Act.put, sp1, sp2, sp3, i64_w, i32_w]; rfl))
            refine last_ (i := 15) (N := none) #[true, true, true, true, true, true, true, true, true, true, true, true, true, true, true, true] rfl rfl (one_of HT_.out (by kernel_rfl)) (by decide) (fun K hK => ?_)
            refine skip_ (w1 := ?_) (by rfl) rfl ?_ ?_
            rotate_left
            ·go_simp
             rfl
            refine hK.out _ _ ?_
            clear hK K
            refine done_ (done_of HT_.out (by kernel_rfl)) ?_
            try go_wp2
            go_roundg k2
            case measure => have := HJ2.out; have := HK2.out; omega
            case rel => exact ⟨(y228), (wrap64 (x22_2 + 1)), (by first | rfl | (simp; done) | (simp [*]; done)), H', ⟨by have := HJ2.out; have := HK2.out; omega⟩, ⟨by (with_reducible repeat (first | apply Kd.R_alloc | apply Kd.R_drewN | apply Kd.R_drew)); exact Kd.R_mono HQ40.out (fun _ hk => trivial)⟩, ⟨blw⟩⟩
          ·rw [if_neg c18] at H
           exact absurd H (by simp)
        ·rw [if_neg c14] at H
         exact absurd H (by simp)
       ·rw [if_neg c13] at H
        exact absurd H (by simp)
      ·rw [if_neg c12] at H
       have c12b0 : decide (x22_2 < (l0.length : Int)) = false := decide_eq_false c12
       clear c12
       have H' := Aside0.mk H
       clear H
       obtain ⟨Ao41, co41, eo41⟩ := Kd.R_slice HO_6.out
       subst eo41
       go_wp2
       go_loopg [9] k2 (fun kq v9 w' => ∃ (x6_3 : List (S31)) (x9_3 : Int), v9 = .int .i64 x9_3 ∧ Aside0 (impl_MoveLine.l1 kq x6_3 x9_3 = some (r1, r2)) ∧ Aside0 (kq ≤ k2) ∧ Aside0 (Kd.R k31 31 w' w.heap.size (fun _ => True) (.slice Ao41 x6_2.length co41) x6_3) ∧ Aside0 (Below w.heap.size w w'))
       case atStart => exact ⟨(x6_2), (wrap64 ((x6_2.length : Int) - 2)), (by first | rfl | (simp; done) | (simp [*]; done)), H', ⟨Nat.le_refl _⟩, ⟨by (with_reducible repeat (first | apply Kd.R_alloc | apply Kd.R_drewN | apply Kd.R_drew)); exact HO_6.out⟩, ⟨blw⟩⟩
       case round =>
        clear H'
        try clear c1
        try clear p1
        try clear q1
        try clear hx1
        try clear c2
        try clear p2
        try clear q2
        try clear hx2
        try clear hf2
        try clear c3
        try clear c4
        try clear p6
        try clear c12
        try clear c12b0
        try clear c13
        try clear c14
        try clear c18
        try clear c19
        try clear p19
        try clear q19
        try clear hx19
        try clear hf19
        try clear c20
        try clear c20b0
        try clear c22
        try clear p22
        try clear q22
        try clear hx22
        try clear c23
        try clear p23
        try clear q23
        try clear hx23
        try clear c25
        try clear p25
        try clear q25
        try clear hx25
        try clear hf25
        try clear c34
        try clear c40
        try clear hcz36_0
        try clear hcz36_1
        try clear hcz36_2
        try clear hcz36_3
        try clear hfz36_0
        try clear hfz36_1
        try clear hfz36_2
        try clear hfz36_3
        try clear hx19_0
        try clear hx19_1
        try clear hx19_2
        try clear hx19_3
        try clear hx225_0
        try clear hx225_1
        try clear hx225_2
        try clear hx225_3
        try clear hx227_0
        try clear hx227_1
        try clear hx227_2
        try clear hx227_3
        try clear hx229_0
        try clear hx229_1
        try clear hx229_2
        try clear hx229_3
        try clear hx230_0
        try clear hx230_1
        try clear hx230_2
        try clear hx230_3
        try clear hx231_0
        try clear hx231_1
        try clear hx231_2
        try clear hx231_3
        try clear hx25_0
        try clear hx25_1
        try clear hx25_2
        try clear hx25_3
        try clear p19
        try clear p225
        try clear p227
        try clear p229
        try clear p230
        try clear p231
        try clear p25
        try clear q19
        try clear q225
        try clear q227
        try clear q229
        try clear q230
        try clear q231
        try clear q25
        obtain ⟨x6_3, x9_3, rfl, HA, HK3, HO_6, HB⟩ := hrel
        have hl6_3 := (Kd.R_reads' HO_6.out).1
        rw [hl6_3] at HO_6
        (try simp only [hl6_3])
        cases gk with
        | zero => exact absurd HA.out (by simp [impl_MoveLine.l1])
        | succ k3 =>
         have H := HA.out
         clear HA
         simp only [impl_MoveLine.l1] at H
         by_cases c42 : x9_3 ≥ 0
         ·rw [if_pos c42] at H
          have c42b0 : decide (0 ≤ x9_3) = true := decide_eq_true c42
          clear c42
          by_cases c43 : 0 ≤ x9_3
          ·rw [if_pos c43] at H
           have c43b0 : decide (0 ≤ x9_3) = true := decide_eq_true c43
           clear c43
           by_cases c44 : x9_3 < (x6_3.length : Int)
           ·rw [if_pos c44] at H
            have c44b0 : decide (x9_3 < (x6_3.length : Int)) = true := decide_eq_true c44
            clear c44
            by_cases c45 : ((rd_T31 x6_3 x9_3).f2) > 0
            ·rw [if_pos c45] at H
             have c45b0 : decide (0 < ((rd_T31 x6_3 x9_3).f2)) = true := decide_eq_true c45
             clear c45
             obtain ⟨ji46, hji46⟩ : ∃ j_ : Int, (wrap64 (x9_3 + 1)) = j_ := ⟨_, rfl⟩
             replace H : (if 0 ≤ (ji46) then (if (ji46) < (x6_3.length : Int) then (impl_MoveLine.l1 k3 (x6_3.set (x9_3 : Int).toNat (⟨mn ((rd_T31 x6_3 x9_3).f0) (wrap64 ((wrap64 (((rd_T31 x6_3 (ji46)).f0) - ((rd_T31 x6_3 (ji46)).f3))) - ((rd_T31 x6_3 x9_3).f3))), (rd_T31 x6_3 x9_3).f1, (rd_T31 x6_3 x9_3).f2, (rd_T31 x6_3 x9_3).f3⟩ : S31)) (wrap64 (x9_3 - 1))) else (none)) else (none)) = some (r1, r2) := by first | (rw [hji46] at H; exact H) | (simp only [hji46] at H ⊢; exact H)
             have hji46w : (IntKind.i64.wrap (x9_3 + 1)) = ji46 := (i64_w _).trans hji46
             by_cases c47 : 0 ≤ (ji46)
             ·rw [if_pos c47] at H
              have c47b0 : decide (0 ≤ (ji46)) = true := decide_eq_true c47
              clear c47
              by_cases c48 : (ji46) < (x6_3.length : Int)
              ·rw [if_pos c48] at H
               have c48b0 : decide ((ji46) < (x6_3.length : Int)) = true := decide_eq_true c48
               clear c48
               obtain ⟨ji49, hji49⟩ : ∃ j_ : Int, (mn ((rd_T31 x6_3 x9_3).f0) (wrap64 ((wrap64 (((rd_T31 x6_3 (ji46)).f0) - ((rd_T31 x6_3 (ji46)).f3))) - ((rd_T31 x6_3 x9_3).f3)))) = j_ := ⟨_, rfl⟩
               replace H : (impl_MoveLine.l1 k3 (x6_3.set (x9_3 : Int).toNat (⟨ji49, (rd_T31 x6_3 x9_3).f1, (rd_T31 x6_3 x9_3).f2, (rd_T31 x6_3 x9_3).f3⟩ : S31)) (wrap64 (x9_3 - 1))) = some (r1, r2) := by first | (rw [hji49] at H; exact H) | (simp only [hji49] at H ⊢; exact H)
               have hji49_ : (if (wrap64 ((wrap64 (((rd_T31 x6_3 (ji46)).f0) - ((rd_T31 x6_3 (ji46)).f3))) - ((rd_T31 x6_3 x9_3).f3))) < ((rd_T31 x6_3 x9_3).f0) then (wrap64 ((wrap64 (((rd_T31 x6_3 (ji46)).f0) - ((rd_T31 x6_3 (ji46)).f3))) - ((rd_T31 x6_3 x9_3).f3))) else ((rd_T31 x6_3 x9_3).f0)) = ji49 := hji49
               obtain ⟨y238, hy238⟩ : ∃ y_ : List (S31), y_ = (x6_3.set (x9_3 : Int).toNat (⟨ji49, (rd_T31 x6_3 x9_3).f1, (rd_T31 x6_3 x9_3).f2, (rd_T31 x6_3 x9_3).f3⟩ : S31)) := ⟨_, rfl⟩
               replace H : (impl_MoveLine.l1 k3 y238 (wrap64 (x9_3 - 1))) = some (r1, r2) := by first | (rw [hy238]; with_reducible exact H) | (have H2_ := (Option.bind_some _ _).symm.trans H; rw [hy238]; with_reducible exact H2_) | (have H2_ := (Option.bind_some _ _).symm.trans H; with_reducible exact H2_) | with_reducible exact H | (rw [hy238]; exact H) | exact H
               have Ny238 := Aside0.mk hy238
               clear hy238
               have H' := Aside0.mk H
               clear H
               have p233 : 0 ≤ (x9_3 : Int) := odt
               have q233 : x9_3 < (x6_3.length : Int) := odt
               obtain ⟨ad233, e233, hx233_0, hx233_1, hx233_2, hx233_3⟩ := at_T31 (Kd.R_reads' HO_6.out).2.2 x9_3 p233 q233
               cases e233
               replace p233 := eq_true p233
               replace q233 := eq_true q233
               try go_wp2
               have n0_ := Aside0.mk (Kd.R_drew HO_6.out)
               have n1_ := Aside0.mk (below_drew1 HB.out)
               clear HO_6
               clear HB
               have HO_6 := n0_
               have HB := n1_
               clear n0_ n1_
               have p234 : 0 ≤ (x9_3 : Int) := odt
               have q234 : x9_3 < (x6_3.length : Int) := odt
               obtain ⟨ad234, e234, hx234_0, hx234_1, hx234_2, hx234_3⟩ := at_T31 (Kd.R_reads' HO_6.out).2.2 x9_3 p234 q234
               obtain rfl : ad233 = ad234 := (by injection e234)
               replace p234 := eq_true p234
               replace q234 := eq_true q234
               have p235 : 0 ≤ ((ji46) : Int) := odt
               have q235 : (ji46) < (x6_3.length : Int) := odt
               obtain ⟨ad235, e235, hx235_0, hx235_1, hx235_2, hx235_3⟩ := at_T31 (Kd.R_reads' HO_6.out).2.2 (ji46) p235 q235
               obtain rfl : ad233 = ad235 := (by injection e235)
               replace p235 := eq_true p235
               replace q235 := eq_true q235
               have p236 : 0 ≤ ((ji46) : Int) := odt
               have q236 : (ji46) < (x6_3.length : Int) := odt
               obtain ⟨ad236, e236, hx236_0, hx236_1, hx236_2, hx236_3⟩ := at_T31 (Kd.R_reads' HO_6.out).2.2 (ji46) p236 q236
               obtain rfl : ad233 = ad236 := (by injection e236)
               replace p236 := eq_true p236
               replace q236 := eq_true q236
               have p237 : 0 ≤ (x9_3 : Int) := odt
               have q237 : x9_3 < (x6_3.length : Int) := odt
               obtain ⟨ad237, e237, hx237_0, hx237_1, hx237_2, hx237_3⟩ := at_T31 (Kd.R_reads' HO_6.out).2.2 x9_3 p237 q237
               obtain rfl : ad233 = ad237 := (by injection e237)
               replace p237 := eq_true p237
               replace q237 := eq_true q237
               have p50 : 0 ≤ (x9_3 : Int) := odt
               have q50 : (x9_3 : Int) < ((x6_3.length : Int) : Int) := odt
               obtain ⟨go50, co50, eo50, gb50, gl50, cl50, HG50⟩ := Kd.R_form HO_6.out (by omega)
               (first | cases eo50 | (injection eo50 with ea_ en_ ec_; (first | subst ea_ | (injection ea_ with ea_; subst ea_)); subst ec_; clear en_))
               have GB50 := Aside0.mk gb50
               have GG50 := Aside0.mk HG50
               clear gb50 gl50 HG50
               (first | simp only [add_plain] at hx233_0 | skip)
               (first | simp only [add_plain] at hx233_1 | skip)
               (first | simp only [add_plain] at hx233_2 | skip)
               (first | simp only [add_plain] at hx233_3 | skip)
               (first | simp only [add_plain] at hx234_0 | skip)
               (first | simp only [add_plain] at hx234_1 | skip)
               (first | simp only [add_plain] at hx234_2 | skip)
               (first | simp only [add_plain] at hx234_3 | skip)
               (first | simp only [add_plain] at hx235_0 | skip)
               (first | simp only [add_plain] at hx235_1 | skip)
               (first | simp only [add_plain] at hx235_2 | skip)
               (first | simp only [add_plain] at hx235_3 | skip)
               (first | simp only [add_plain] at hx236_0 | skip)
               (first | simp only [add_plain] at hx236_1 | skip)
               (first | simp only [add_plain] at hx236_2 | skip)
               (first | simp only [add_plain] at hx236_3 | skip)
               (first | simp only [add_plain] at hx237_0 | skip)
               (first | simp only [add_plain] at hx237_1 | skip)
               (first | simp only [add_plain] at hx237_2 | skip)
               (first | simp only [add_plain] at hx237_3 | skip)
               obtain ⟨ce50, hcl50, hM50, hcc50, hfr50⟩ := Kd.R_elem HO_6.out z31 (x9_3 : Int) p50 q50
               obtain rfl := k31_openM hM50
               have hx50_0 : World.cell? _ ⟨go50, (x9_3 : Int).toNat * 4, none⟩ = some (.int .i64 ((rd_T31 x6_3 x9_3).f0)) := hcc50 0 _ rfl
               have hx50_1 : World.cell? _ ⟨go50, (x9_3 : Int).toNat * 4 + 1, none⟩ = some (.int .i64 ((rd_T31 x6_3 x9_3).f1)) := hcc50 1 _ rfl
               have hx50_2 : World.cell? _ ⟨go50, (x9_3 : Int).toNat * 4 + 2, none⟩ = some (.int .i64 ((rd_T31 x6_3 x9_3).f2)) := hcc50 2 _ rfl
               have hx50_3 : World.cell? _ ⟨go50, (x9_3 : Int).toNat * 4 + 3, none⟩ = some (.int .i64 ((rd_T31 x6_3 x9_3).f3)) := hcc50 3 _ rfl
               have hf50_0 : World.frozen? _ ⟨go50, (x9_3 : Int).toNat * 4, none⟩ = false := hfr50 0
               have hf50_1 : World.frozen? _ ⟨go50, (x9_3 : Int).toNat * 4 + 1, none⟩ = false := hfr50 1
               have hf50_2 : World.frozen? _ ⟨go50, (x9_3 : Int).toNat * 4 + 2, none⟩ = false := hfr50 2
               have hf50_3 : World.frozen? _ ⟨go50, (x9_3 : Int).toNat * 4 + 3, none⟩ = false := hfr50 3
               clear hcl50 hcc50 hfr50 hM50
               replace p50 := eq_true p50
               replace q50 := eq_true q50
               obtain ⟨ce52, hcl52, hM52, hcc52, hfr52⟩ := Kd.R_elem HO_6.out z31 (x9_3 : Int) odt (by have h_ : (x9_3 : Int) < ((x6_3.length : Int) : Int) := odt; first | exact h_ | (have e_ := (Kd.R_reads' HO_6.out).1; omega) | simpa using h_)
               obtain rfl := k31_openM hM52
               have HP52 := (Kd.R_seg HO_6.out (x9_3 : Int) odt (by have h_ : (x9_3 : Int) < ((x6_3.length : Int) : Int) := odt; first | exact h_ | (have e_ := (Kd.R_reads' HO_6.out).1; omega) | simpa using h_) (seg := [.int .i64 ji49]) (j := 0) hcl52 hcc52 (show 1 ≤ 4 from by decide) (x' := (⟨ji49, (rd_T31 x6_3 x9_3).f1, (rd_T31 x6_3 x9_3).f2, (rd_T31 x6_3 x9_3).f3⟩ : S31)) (k31_mkM _ _ _ (⟨ji49, (rd_T31 x6_3 x9_3).f1, (rd_T31 x6_3 x9_3).f2, (rd_T31 x6_3 x9_3).f3⟩ : S31) ) (fun _ hk => hk)).1
               rw [← Ny238.out] at HP52
               have HQ52 := Aside0.mk HP52
               clear hcl52 hcc52 hfr52 hM52 HP52
               refine start_ (n := 30) (S := fun w' => w'.cell? ⟨go50, ((x9_3).toNat * 4), none⟩ = some (.int .i64 ((rd_T31 x6_3 x9_3).f0)) ∧ w'.cell? ⟨go50, ((x9_3).toNat * 4) + 1, none⟩ = some (.int .i64 ((rd_T31 x6_3 x9_3).f1)) ∧ w'.cell? ⟨go50, ((x9_3).toNat * 4) + 2, none⟩ = some (.int .i64 ((rd_T31 x6_3 x9_3).f2)) ∧ w'.cell? ⟨go50, ((x9_3).toNat * 4) + 3, none⟩ = some (.int .i64 ((rd_T31 x6_3 x9_3).f3)) ∧ w'.cell? ⟨go50, (((ji46)).toNat * 4), none⟩ = some (.int .i64 ((rd_T31 x6_3 (ji46)).f0)) ∧ w'.cell? ⟨go50, (((ji46)).toNat * 4) + 1, none⟩ = some (.int .i64 ((rd_T31 x6_3 (ji46)).f1)) ∧ w'.cell? ⟨go50, (((ji46)).toNat * 4) + 2, none⟩ = some (.int .i64 ((rd_T31 x6_3 (ji46)).f2)) ∧ w'.cell? ⟨go50, (((ji46)).toNat * 4) + 3, none⟩ = some (.int .i64 ((rd_T31 x6_3 (ji46)).f3)) ∧ w'.cell? ⟨go50, (((ji46)).toNat * 4), none⟩ = some (.int .i64 ((rd_T31 x6_3 (ji46)).f0)) ∧ w'.cell? ⟨go50, (((ji46)).toNat * 4) + 1, none⟩ = some (.int .i64 ((rd_T31 x6_3 (ji46)).f1)) ∧ w'.cell? ⟨go50, (((ji46)).toNat * 4) + 2, none⟩ = some (.int .i64 ((rd_T31 x6_3 (ji46)).f2)) ∧ w'.cell? ⟨go50, (((ji46)).toNat * 4) + 3, none⟩ = some (.int .i64 ((rd_T31 x6_3 (ji46)).f3)) ∧ w'.cell? ⟨go50, ((x9_3).toNat * 4), none⟩ = some (.int .i64 ((rd_T31 x6_3 x9_3).f0)) ∧ w'.cell? ⟨go50, ((x9_3).toNat * 4) + 1, none⟩ = some (.int .i64 ((rd_T31 x6_3 x9_3).f1)) ∧ w'.cell? ⟨go50, ((x9_3).toNat * 4) + 2, none⟩ = some (.int .i64 ((rd_T31 x6_3 x9_3).f2)) ∧ w'.cell? ⟨go50, ((x9_3).toNat * 4) + 3, none⟩ = some (.int .i64 ((rd_T31 x6_3 x9_3).f3))) (ds := [29]) #[false, false, false, false, false, false, false, false, false, false, false, false, false, false, false, false, false, false, false, false, false, false, false, false, false, false, false, false, false, false] (by kernel_rfl) rfl rfl ⟨hx234_0, hx234_1, hx234_2, hx234_3, hx235_0, hx235_1, hx235_2, hx235_3, hx236_0, hx236_1, hx236_2, hx236_3, hx237_0, hx237_1, hx237_2, hx237_3⟩ (fun hHeld => ?_); refine with_tabW impl_MoveLine.tab16 impl_MoveLine.bits16 (fun HT_ HW_ => ?_)
               generalize wr.drew = w51 at HO_6 HB GG50 HQ52 hf50_0 hf50_1 hf50_2 hf50_3 hx233_0 hx233_1 hx233_2 hx233_3 hx234_0 hx234_1 hx234_2 hx234_3 hx235_0 hx235_1 hx235_2 hx235_3 hx236_0 hx236_1 hx236_2 hx236_3 hx237_0 hx237_1 hx237_2 hx237_3 hx50_0 hx50_1 hx50_2 hx50_3 hHeld ⊢
               refine pure_ (i := 0) (N := some 87) (v := ?_) (a' := ?_) #[true, false, false, false, false, false, false, false, false, false, false, false, false, false, false, false, false, false, false, false, false, false, false, false, false, false, false, false, false, false] rfl rfl (any_of HT_.out (by kernel_rfl)) (fun _ _ _ h => h) (Or.inl ⟨by rfl, ?_⟩) ?_ ?_
               rotate_left; (· (intro w'; go_simp; with_reducible rfl)); rotate_left; (· (simp only [Act.put, sp1, sp2, sp3, i64_w, i32_w]; rfl))
               refine pure_ (i := 1) (N := some 88) (v := ?_) (a' := ?_) #[true, true, false, false, false, false, false, false, false, false, false, false, false, false, false, false, false, false, false, false, false, false, false, false, false, false, false, false, false, false] rfl rfl (any_of HT_.out (by kernel_rfl)) (fun _ _ _ h => h) (Or.inl ⟨by rfl, ?_⟩) ?_ ?_
               rotate_left; (· (intro w'; go_simp; with_reducible rfl)); rotate_left; (· (simp only [Act.put, sp1, sp2, sp3, i64_w, i32_w]; rfl))
               refine pure_ (i := 2) (N := some 89) (v := ?_) (a' := ?_) #[true, true, true, false, false, false, false, false, false, false, false, false, false, false, false, false, false, false, false, false, false, false, false, false, false, false, false, false, false, false] rfl rfl (any_of HT_.out (by kernel_rfl)) (fun _ _ _ h => h) (Or.inl ⟨by rfl, ?_⟩) ?_ ?_
               rotate_left; (· (intro w'; go_simp; with_reducible rfl)); rotate_left; (· (simp only [Act.put, sp1, sp2, sp3, i64_w, i32_w]; rfl))
               refine pure_ (i := 3) (N := some 90) (v := ?_) (a' := ?_) #[true, true, true, true, false, false, false, false, false, false, false, false, false, false, false, false, false, false, false, false, false, false, false, false, false, false, false, false, false, false] rfl rfl (any_of HT_.out (by kernel_rfl)) (fun _ _ _ h => h) (Or.inl ⟨by rfl, ?_⟩) ?_ ?_
               rotate_left; (· (intro w'; go_simp; with_reducible rfl)); rotate_left; (· (simp only [Act.put, sp1, sp2, sp3, i64_w, i32_w]; rfl))
               refine pure_ (i := 4) (N := some 91) (v := ?_) (a' := ?_) #[true, true, true, true, true, false, false, false, false, false, false, false, false, false, false, false, false, false, false, false, false, false, false, false, false, false, false, false, false, false] rfl rfl (any_of HT_.out (by kernel_rfl)) (fun _ _ _ h => h) (Or.inl ⟨by rfl, ?_⟩) ?_ ?_
               rotate_left; (· (intro w'; go_simp; with_reducible rfl)); rotate_left; (· (simp only [Act.put, sp1, sp2, sp3, i64_w, i32_w]; rfl))
               refine pure_ (i := 5) (N := some 92) (v := ?_) (a' := ?_) #[true, true, true, true, true, true, false, false, false, false, false, false, false, false, false, false, false, false, false, false, false, false, false, false, false, false, false, false, false, false] rfl rfl (any_of HT_.out (by kernel_rfl)) (fun _ _ _ h => h) (Or.inl ⟨by rfl, ?_⟩) ?_ ?_
               rotate_left; (· (intro w'; go_simp; with_reducible rfl)); rotate_left; (· (simp only [Act.put, sp1, sp2, sp3, i64_w, i32_w]; rfl))
               refine pure_ (i := 7) (N := some 94) (v := ?_) (a' := ?_) #[true, true, true, true, true, true, false, true, false, false, false, false, false, false, false, false, false, false, false, false, false, false, false, false, false, false, false, false, false, false] rfl rfl (any_of HT_.out (by kernel_rfl)) (fun _ _ _ h => h) (Or.inl ⟨by rfl, ?_⟩) ?_ ?_
               rotate_left; (· (intro w'; go_simp; with_reducible rfl)); rotate_left; (· (simp only [Act.put, sp1, sp2, sp3, i64_w, i32_w]; rfl))
               refine pure_ (i := 8) (N := some 95) (v := ?_) (a' := ?_) #[true, true, true, true, true, true, false, true, true, false, false, false, false, false, false, false, false, false, false, false, false, false, false, false, false, false, false, false, false, false] rfl rfl (any_of HT_.out (by kernel_rfl)) (fun _ _ _ h => h) (Or.inl ⟨by rfl, ?_⟩) ?_ ?_
               rotate_left; (· (intro w'; go_simp; with_reducible rfl)); rotate_left; (· (simp only [Act.put, sp1, sp2, sp3, i64_w, i32_w]; rfl))
               refine pure_ (i := 9) (N := some 96) (v := ?_) (a' := ?_) #[true, true, true, true, true, true, false, true, true, true, false, false, false, false, false, false, false, false, false, false, false, false, false, false, false, false, false, false, false, false] rfl rfl (any_of HT_.out (by kernel_rfl)) (fun _ _ _ h => h) (Or.inl ⟨by rfl, ?_⟩) ?_ ?_
               rotate_left; (· (intro w'; go_simp; with_reducible rfl)); rotate_left; (· (simp only [Act.put, sp1, sp2, sp3, i64_w, i32_w]; rfl))
               refine pure_ (i := 10) (N := some 97) (v := ?_) (a' := ?_) #[true, true, true, true, true, true, false, true, true, true, true, false, false, false, false, false, false, false, false, false, false, false, false, false, false, false, false, false, false, false] rfl rfl (any_of HT_.out (by kernel_rfl)) (fun _ _ _ h => h) (Or.inl ⟨by rfl, ?_⟩) ?_ ?_
               rotate_left; (· (intro w'; go_simp; with_reducible rfl)); rotate_left; (· (simp only [Act.put, sp1, sp2, sp3, i64_w, i32_w]; rfl))
               refine pure_ (i := 11) (N := some 98) (v := ?_) (a' := ?_) #[true, true, true, true, true, true, false, true, true, true, true, true, false, false, false, false, false, false, false, false, false, false, false, false, false, false, false, false, false, false] rfl rfl (any_of HT_.out (by kernel_rfl)) (fun _ _ _ h => h) (Or.inl ⟨by rfl, ?_⟩) ?_ ?_
               rotate_left; (· (intro w'; go_simp; with_reducible rfl)); rotate_left; (· (simp only [Act.put, sp1, sp2, sp3, i64_w, i32_w]; rfl))
               refine pure_ (i := 13) (N := some 100) (v := ?_) (a' := ?_) #[true, true, true, true, true, true, false, true, true, true, true, true, false, true, false, false, false, false, false, false, false, false, false, false, false, false, false, false, false, false] rfl rfl (any_of HT_.out (by kernel_rfl)) (fun _ _ _ h => h) (Or.inl ⟨by rfl, ?_⟩) ?_ ?_
               rotate_left; (· (intro w'; go_simp; with_reducible rfl)); rotate_left; (· (simp only [Act.put, sp1, sp2, sp3, i64_w, i32_w]; rfl))
               refine pure_ (i := 14) (N := some 101) (v := ?_) (a' := ?_) #[true, true, true, true, true, true, false, true, true, true, true, true, false, true, true, false, false, false, false, false, false, false, false, false, false, false, false, false, false, false] rfl rfl (any_of HT_.out (by kernel_rfl)) (fun _ _ _ h => h) (Or.inl ⟨by rfl, ?_⟩) ?_ ?_
               rotate_left; (· (intro w'; go_simp; with_reducible rfl)); rotate_left; (· (simp only [Act.put, sp1, sp2, sp3, i64_w, i32_w]; rfl))
               refine pure_ (i := 15) (N := some 102) (v := ?_) (a' := ?_) #[true, true, true, true, true, true, false, true, true, true, true, true, false, true, true, true, false, false, false, false, false, false, false, false, false, false, false, false, false, false] rfl rfl (any_of HT_.out (by kernel_rfl)) (fun _ _ _ h => h) (Or.inl ⟨by rfl, ?_⟩) ?_ ?_
               rotate_left; (· (intro w'; go_simp; with_reducible rfl)); rotate_left; (· (simp only [Act.put, sp1, sp2, sp3, i64_w, i32_w]; rfl))
               refine pure_ (i := 16) (N := some 103) (v := ?_) (a' := ?_) #[true, true, true, true, true, true, false, true, true, true, true, true, false, true, true, true, true, false, false, false, false, false, false, false, false, false, false, false, false, false] rfl rfl (any_of HT_.out (by kernel_rfl)) (fun _ _ _ h => h) (Or.inl ⟨by rfl, ?_⟩) ?_ ?_
               rotate_left; (· (intro w'; go_simp; with_reducible rfl)); rotate_left; (· (simp only [Act.put, sp1, sp2, sp3, i64_w, i32_w]; rfl))
               refine pure_ (i := 17) (N := some 104) (v := ?_) (a' := ?_) #[true, true, true, true, true, true, false, true, true, true, true, true, false, true, true, true, true, true, false, false, false, false, false, false, false, false, false, false, false, false] rfl rfl (any_of HT_.out (by kernel_rfl)) (fun _ _ _ h => h) (Or.inl ⟨by rfl, ?_⟩) ?_ ?_
               rotate_left; (· (intro w'; go_simp; with_reducible rfl)); rotate_left; (· (simp only [Act.put, sp1, sp2, sp3, i64_w, i32_w]; rfl))
               refine pure_ (i := 20) (N := some 107) (v := ?_) (a' := ?_) #[true, true, true, true, true, true, false, true, true, true, true, true, false, true, true, true, true, true, false, false, true, false, false, false, false, false, false, false, false, false] rfl rfl (any_of HT_.out (by kernel_rfl)) (fun _ _ _ h => h) (Or.inl ⟨by rfl, ?_⟩) ?_ ?_
               rotate_left; (· (intro w'; go_simp; with_reducible rfl)); rotate_left; (· (simp only [Act.put, sp1, sp2, sp3, i64_w, i32_w]; rfl))
               refine pure_ (i := 21) (N := some 108) (v := ?_) (a' := ?_) #[true, true, true, true, true, true, false, true, true, true, true, true, false, true, true, true, true, true, false, false, true, true, false, false, false, false, false, false, false, false] rfl rfl (any_of HT_.out (by kernel_rfl)) (fun _ _ _ h => h) (Or.inl ⟨by rfl, ?_⟩) ?_ ?_
               rotate_left; (· (intro w'; go_simp; with_reducible rfl)); rotate_left; (· (simp only [Act.put, sp1, sp2, sp3, i64_w, i32_w]; rfl))
               refine pure_ (i := 22) (N := some 109) (v := ?_) (a' := ?_) #[true, true, true, true, true, true, false, true, true, true, true, true, false, true, true, true, true, true, false, false, true, true, true, false, false, false, false, false, false, false] rfl rfl (any_of HT_.out (by kernel_rfl)) (fun _ _ _ h => h) (Or.inl ⟨by rfl, ?_⟩) ?_ ?_
               rotate_left; (· (intro w'; go_simp; with_reducible rfl)); rotate_left; (· (simp only [Act.put, sp1, sp2, sp3, i64_w, i32_w]; rfl))
               refine pure_ (i := 23) (N := some 110) (v := ?_) (a' := ?_) #[true, true, true, true, true, true, false, true, true, true, true, true, false, true, true, true, true, true, false, false, true, true, true, true, false, false, false, false, false, false] rfl rfl (any_of HT_.out (by kernel_rfl)) (fun _ _ _ h => h) (Or.inl ⟨by rfl, ?_⟩) ?_ ?_
               rotate_left; (· (intro w'; go_simp; with_reducible rfl)); rotate_left; (· (simp only [Act.put, sp1, sp2, sp3, i64_w, i32_w]; rfl))
               refine take_ (i := 6) (N := some 93) (v := ?_) (a' := ?_) #[true, true, true, true, true, true, true, true, true, true, true, true, false, true, true, true, true, true, false, false, true, true, true, true, false, false, false, false, false, false] rfl rfl (take_ofW HT_.out HW_.out (by kernel_rfl)) (fun _ _ _ h => h) (Or.inl ⟨by rfl, ?_⟩) hHeld ?_ ?_
               rotate_left; (· (rintro w' ⟨s0, s1, s2, s3, s4, s5, s6, s7, s8, s9, s10, s11, s12, s13, s14, s15⟩; go_simp; with_reducible rfl)); rotate_left; (· (simp only [Act.put, sp1, sp2, sp3, i64_w, i32_w]; rfl))
               refine take_ (i := 12) (N := some 99) (v := ?_) (a' := ?_) #[true, true, true, true, true, true, true, true, true, true, true, true, true, true, true, true, true, true, false, false, true, true, true, true, false, false, false, false, false, false] rfl rfl (take_ofW HT_.out HW_.out (by kernel_rfl)) (fun _ _ _ h => h) (Or.inl ⟨by rfl, ?_⟩) hHeld ?_ ?_
               rotate_left; (· (rintro w' ⟨s0, s1, s2, s3, s4, s5, s6, s7, s8, s9, s10, s11, s12, s13, s14, s15⟩; go_simp; with_reducible rfl)); rotate_left; (· (simp only [Act.put, sp1, sp2, sp3, i64_w, i32_w]; rfl))
               refine take_ (i := 18) (N := some 105) (v := ?_) (a' := ?_) #[true, true, true, true, true, true, true, true, true, true, true, true, true, true, true, true, true, true, true, false, true, true, true, true, false, false, false, false, false, false] rfl rfl (take_ofW HT_.out HW_.out (by kernel_rfl)) (fun _ _ _ h => h) (Or.inl ⟨by rfl, ?_⟩) hHeld ?_ ?_
               rotate_left; (· (rintro w' ⟨s0, s1, s2, s3, s4, s5, s6, s7, s8, s9, s10, s11, s12, s13, s14, s15⟩; go_simp; with_reducible rfl)); rotate_left; (· (simp only [Act.put, sp1, sp2, sp3, i64_w, i32_w]; rfl))
               refine pure_ (i := 19) (N := some 106) (v := ?_) (a' := ?_) #[true, true, true, true, true, true, true, true, true, true, true, true, true, true, true, true, true, true, true, true, true, true, true, true, false, false, false, false, false, false] rfl rfl (any_of HT_.out (by kernel_rfl)) (fun _ _ _ h => h) (Or.inl ⟨by rfl, ?_⟩) ?_ ?_
               rotate_left; (· (intro w'; go_simp; with_reducible rfl)); rotate_left; (· (simp only [Act.put, sp1, sp2, sp3, i64_w, i32_w]; rfl))
               refine take_ (i := 24) (N := some 111) (v := ?_) (a' := ?_) #[true, true, true, true, true, true, true, true, true, true, true, true, true, true, true, true, true, true, true, true, true, true, true, true, true, false, false, false, false, false] rfl rfl (take_ofW HT_.out HW_.out (by kernel_rfl)) (fun _ _ _ h => h) (Or.inl ⟨by rfl, ?_⟩) hHeld ?_ ?_
               rotate_left; (· (rintro w' ⟨s0, s1, s2, s3, s4, s5, s6, s7, s8, s9, s10, s11, s12, s13, s14, s15⟩; go_simp; with_reducible rfl)); rotate_left; (· (simp only [Act.put, sp1, sp2, sp3, i64_w, i32_w]; rfl))
               refine pure_ (i := 25) (N := some 112) (v := ?_) (a' := ?_) #[true, true, true, true, true, true, true, true, true, true, true, true, true, true, true, true, true, true, true, true, true, true, true, true, true, true, false, false, false, false] rfl rfl (any_of HT_.out (by kernel_rfl)) (fun _ _ _ h => h) (Or.inl ⟨by rfl, ?_⟩) ?_ ?_
               rotate_left; (· (intro w'; go_simp; with_reducible rfl)); rotate_left; (· (simp only [Act.put, sp1, sp2, sp3, i64_w, i32_w]; rfl))
               refine pure_ (i := 26) (N := some 113) (v := ?_) (a' := ?_) #[true, true, true, true, true, true, true, true, true, true, true, true, true, true, true, true, true, true, true, true, true, true, true, true, true, true, true, false, false, false] rfl rfl (any_of HT_.out (by kernel_rfl)) (fun _ _ _ h => h) (Or.inl ⟨by rfl, ?_⟩) ?_ ?_
               rotate_left; (· (intro w'; go_simp; with_reducible rfl)); rotate_left; (· (simp only [Act.put, sp1, sp2, sp3, i64_w, i32_w]; rfl))
               refine pure_ (i := 27) (N := some 114) (v := ?_) (a' := ?_) #[true, true, true, true, true, true, true, true, true, true, true, true, true, true, true, true, true, true, true, true, true, true, true, true, true, true, true, true, false, false] rfl rfl (any_of HT_.out (by kernel_rfl)) (fun _ _ _ h => h) (Or.inl ⟨by rfl, ?_⟩) ?_ ?_
               rotate_left; (· (intro w'; go_simp; with_reducible rfl)); rotate_left; (· (simp only [Act.put, sp1, sp2, sp3, i64_w, i32_w]; rfl))
               refine pure_ (i := 28) (N := some 115) (v := ?_) (a' := ?_) #[true, true, true, true, true, true, true, true, true, true, true, true, true, true, true, true, true, true, true, true, true, true, true, true, true, true, true, true, true, false] rfl rfl (any_of HT_.out (by kernel_rfl)) (fun _ _ _ h => h) (Or.inl ⟨by rfl, ?_⟩) ?_ ?_
               rotate_left; (· (intro w'; go_simp; with_reducible rfl)); rotate_left; (· (simp only [Act.put, sp1, sp2, sp3, i64_w, i32_w]; rfl))
               refine last_ (i := 29) (N := none) #[true, true, true, true, true, true, true, true, true, true, true, true, true, true, true, true, true, true, true, true, true, true, true, true, true, true, true, true, true, true] rfl rfl (one_of HT_.out (by kernel_rfl)) (by decide) (fun K hK => ?_)
               refine skip_ (w1 := ?_) (by rfl) rfl ?_ ?_
               rotate_left
               ·go_simp
                rfl
               refine hK.out _ _ ?_
               clear hK K
               refine done_ (done_of HT_.out (by kernel_rfl)) ?_
               try go_wp2
               (try simp only [← hl6_3])
               go_roundg k3
               case measure => have := HJ2.out; have := HK2.out; have := HK3.out; omega
               case rel => exact ⟨(y238), (wrap64 (x9_3 - 1)), (by first | rfl | (simp; done) | (simp [*]; done)), H', ⟨by have := HJ2.out; have := HK2.out; have := HK3.out; omega⟩, ⟨by (try simp only [hl6_3]); (with_reducible repeat (first | apply Kd.R_alloc | apply Kd.R_drewN | apply Kd.R_drew)); exact HQ52.out⟩, ⟨blw⟩⟩
              ·rw [if_neg c48] at H
               exact absurd H (by simp)
             ·rw [if_neg c47] at H
              exact absurd H (by simp)
            ·rw [if_neg c45] at H
             have c45b0 : decide (0 < ((rd_T31 x6_3 x9_3).f2)) = false := decide_eq_false c45
             clear c45
             have H' := Aside0.mk H
             clear H
             have p233 : 0 ≤ (x9_3 : Int) := odt
             have q233 : x9_3 < (x6_3.length : Int) := odt
             obtain ⟨ad233, e233, hx233_0, hx233_1, hx233_2, hx233_3⟩ := at_T31 (Kd.R_reads' HO_6.out).2.2 x9_3 p233 q233
             cases e233
             replace p233 := eq_true p233
             replace q233 := eq_true q233
             go_wp2
             (try simp only [← hl6_3])
             go_roundg k3
             case measure => have := HJ2.out; have := HK2.out; have := HK3.out; omega
             case rel => exact ⟨(x6_3), (wrap64 (x9_3 - 1)), (by first | rfl | (simp; done) | (simp [*]; done)), H', ⟨by have := HJ2.out; have := HK2.out; have := HK3.out; omega⟩, ⟨by (try simp only [hl6_3]); (with_reducible repeat (first | apply Kd.R_alloc | apply Kd.R_drewN | apply Kd.R_drew)); exact HO_6.out⟩, ⟨blw⟩⟩
           ·rw [if_neg c44] at H
            exact absurd H (by simp)
          ·rw [if_neg c43] at H
           exact absurd H (by simp)
         ·rw [if_neg c42] at H
          have c42b0 : decide (0 ≤ x9_3) = false := decide_eq_false c42
          clear c42
          replace H := Option.bind_eq_some_iff.mp H
          obtain ⟨t239, A530, H⟩ := H
          replace H : (if t239 = true then (some (x6_3, true)) else (some (([] : List (S31)), false))) = some (r1, r2) := H
          have A53 := Aside0.mk A530
          clear A530
          by_cases c54 : t239 = true
          ·subst c54
           have H1 : (some (x6_3, true)) = some (r1, r2) := by rw [if_pos rfl] at H; exact H
           clear H
           have H := H1
           clear H1
           simp only [Option.some.injEq, Prod.mk.injEq] at H
           obtain ⟨rfl, rfl⟩ := H
           go_wp2_with (first | ((with_reducible refine gate_callee (f := 18) rfl ?_); refine goesL_ (some 117) rfl rfl Try.func18 (by kernel_rfl) rfl #[.slice Ao41 x6_3.length co41] rfl (by (try simp only [List.map_toArray, List.map_cons, List.map_nil]); first | done | rfl | (simp only [List.length_drop, List.length_take]; rfl)) ?_; (with_reducible refine (impl_GoodLine.calls k3 _ _ x6_3 true _ ?side1 ?side2 A53.out).mono ?_); (case side1 => repeat (first | exact (Kd.R_reads' HO_6.out).2.2 | (with_reducible refine Kd.C_alloc ?_ _) | (with_reducible refine Kd.C_drewN ?_ _) | (with_reducible refine Kd.C_drew ?_))); (case side2 => exact (Kd.R_reads' HO_6.out).2.1); rintro e w55 ⟨rfl, hb⟩; refine ⟨_, rfl, ?_⟩; have n0_ := Aside0.mk (Kd.R_below (by (with_reducible repeat (first | apply Kd.R_alloc | apply Kd.R_drewN | apply Kd.R_drew)); exact HO_6.out) hb); have n1_ := z_bs HB hb; clear HO_6; clear HB; have HO_6 := n0_; have HB := n1_; clear n0_ n1_; (try clear hb); (try clear hb2); (try clear hk); (try clear hi)))
           go_ret2
           exact ⟨_, by first | rfl | (simp [errW_none, errW_some] <;> rfl) | (simp [*, errW_none, errW_some] <;> rfl), by (with_reducible repeat (first | apply Kd.R_alloc | apply Kd.R_drewN | apply Kd.R_drew)); exact HO_6.out, blw⟩
          ·replace c54 := Bool.eq_false_iff.mpr c54
           subst c54
           have H1 : (some (([] : List (S31)), false)) = some (r1, r2) := by rw [if_neg (show ¬ (false = true) by decide)] at H; exact H
           clear H
           have H := H1
           clear H1
           simp only [Option.some.injEq, Prod.mk.injEq] at H
           obtain ⟨rfl, rfl⟩ := H
           go_wp2_with (first | ((with_reducible refine gate_callee (f := 18) rfl ?_); refine goesL_ (some 117) rfl rfl Try.func18 (by kernel_rfl) rfl #[.slice Ao41 x6_3.length co41] rfl (by (try simp only [List.map_toArray, List.map_cons, List.map_nil]); first | done | rfl | (simp only [List.length_drop, List.length_take]; rfl)) ?_; (with_reducible refine (impl_GoodLine.calls k3 _ _ x6_3 false _ ?side1 ?side2 A53.out).mono ?_); (case side1 => repeat (first | exact (Kd.R_reads' HO_6.out).2.2 | (with_reducible refine Kd.C_alloc ?_ _) | (with_reducible refine Kd.C_drewN ?_ _) | (with_reducible refine Kd.C_drew ?_))); (case side2 => exact (Kd.R_reads' HO_6.out).2.1); rintro e w56 ⟨rfl, hb⟩; refine ⟨_, rfl, ?_⟩; have n0_ := Aside0.mk (Kd.R_below (by (with_reducible repeat (first | apply Kd.R_alloc | apply Kd.R_drewN | apply Kd.R_drew)); exact HO_6.out) hb); have n1_ := z_bs HB hb; clear HO_6; clear HB; have HO_6 := n0_; have HB := n1_; clear n0_ n1_; (try clear hb); (try clear hb2); (try clear hk); (try clear hi)))
           go_ret2
           exact ⟨_, by first | rfl | (simp [errW_none, errW_some] <;> rfl) | (simp [*, errW_none, errW_some] <;> rfl), by first | exact Kd.R_nil _ _ _ _ _ | exact Kd.N_nil _ _ _ _ _ | exact Kd.V_nil _ _ _ _ _ | exact Kd.Q_nil _ _ _ _ _ | exact Kd.S_nil _ _ _ _ _, blw⟩

end Go.Proofs.Ytlijlailbjjfbaa.PFnExactStepIslands
