/- The machine's side of a law, function by function: a Lean function with the Go function's answers and the proof that the Go code comes to them. No condition. Written by this session's program over the kit's print, this session's own contracts set in. -/
import Derived.Test.YtlijlailbjjfbaaPFnExactStepIslandsx0
import Derived.Test.YtlijlailbjjfbaaPFnExactStepIslandsx1
import Derived.Test.YtlijlailbjjfbaaPFnExactStepIslandsx2
namespace Go.Proofs.Ytlijlailbjjfbaa.PFnExactStepIslands
open Go.RowKit Go.Proofs.YtlijlailbjjfbaaW.PrintWords Go.Proofs.YtlijlailbjjfbaaW.PrintLast Go.Proofs.YtlijlailbjjfbaaW.PrintMore
attribute [local go_sem] max2_int min2_int max_two min_two max_three min_three max_four min_four   -- for this text's walks alone
set_option linter.unusedVariables false
set_option linter.unusedSimpArgs false

/-! ### spec_l10Move: function 88 -/
mutual
def spec_l10Move.j0 : Nat → List (S31) → Int → Bool → Option ((List (S31)) × Bool)
 | 0, _, _, _ => none
 | k + 1, x0, x1, x18 => if x18 = true then (some (([] : List (S31)), false)) else ((some (([] : List (S31)) : List (S31))).bind fun y116 => (if y116.length + x0.length < 4398046511104 then ((some (y116 ++ x0 : List (S31))).bind fun y119 => (spec_l10Move.l0 k x1 y119 (y119.length : Int) 0)) else (none)))
def spec_l10Move.l0 : Nat → Int → List (S31) → Int → Int → Option ((List (S31)) × Bool)
 | 0, _, _, _, _ => none
 | k + 1, x1, x6, x23, x24 => if x24 < x23 then (if 0 ≤ x24 then (if x24 < (x6.length : Int) then (if ((rd_T31 x6 x24).f2) > 0 then (if ((rd_T31 x6 x24).f2) = 0 then (none) else ((some (x6.set (x24 : Int).toNat (⟨wrap64 (((rd_T31 x6 x24).f0) + (wrap64 (Int.tdiv (wrap64 (((rd_T31 x6 x24).f1) * x1)) ((rd_T31 x6 x24).f2)))), (rd_T31 x6 x24).f1, (rd_T31 x6 x24).f2, (rd_T31 x6 x24).f3⟩ : S31) : List (S31))).bind fun y126 => (if x24 > 0 then (if 0 ≤ (wrap64 (x24 - 1)) then (if (wrap64 (x24 - 1)) < (x6.length : Int) then (if ((rd_T31 y126 x24).f0) < (wrap64 ((wrap64 (((rd_T31 y126 (wrap64 (x24 - 1))).f0) + ((rd_T31 y126 (wrap64 (x24 - 1))).f3))) + ((rd_T31 y126 x24).f3))) then (spec_l10Move.l0 k x1 (y126.set (x24 : Int).toNat (⟨wrap64 ((wrap64 (((rd_T31 y126 (wrap64 (x24 - 1))).f0) + ((rd_T31 y126 (wrap64 (x24 - 1))).f3))) + ((rd_T31 y126 x24).f3)), (rd_T31 y126 x24).f1, (rd_T31 y126 x24).f2, (rd_T31 y126 x24).f3⟩ : S31)) x23 (wrap64 (x24 + 1))) else (spec_l10Move.l0 k x1 y126 x23 (wrap64 (x24 + 1)))) else (none)) else (none)) else (spec_l10Move.l0 k x1 y126 x23 (wrap64 (x24 + 1)))))) else (spec_l10Move.l0 k x1 x6 x23 (wrap64 (x24 + 1)))) else (none)) else (none)) else (spec_l10Move.l1 k x6 (wrap64 ((x6.length : Int) - 2)))
def spec_l10Move.l1 : Nat → List (S31) → Int → Option ((List (S31)) × Bool)
 | 0, _, _ => none
 | k + 1, x6, x9 => if x9 ≥ 0 then (if 0 ≤ (wrap64 (x9 + 1)) then (if (wrap64 (x9 + 1)) < (x6.length : Int) then (if 0 ≤ x9 then (if x9 < (x6.length : Int) then (if ((rd_T31 x6 x9).f2) > 0 then (if ((rd_T31 x6 x9).f0) > (wrap64 ((wrap64 (((rd_T31 x6 (wrap64 (x9 + 1))).f0) - ((rd_T31 x6 (wrap64 (x9 + 1))).f3))) - ((rd_T31 x6 x9).f3))) then (spec_l10Move.l1 k (x6.set (x9 : Int).toNat (⟨wrap64 ((wrap64 (((rd_T31 x6 (wrap64 (x9 + 1))).f0) - ((rd_T31 x6 (wrap64 (x9 + 1))).f3))) - ((rd_T31 x6 x9).f3)), (rd_T31 x6 x9).f1, (rd_T31 x6 x9).f2, (rd_T31 x6 x9).f3⟩ : S31)) (wrap64 (x9 - 1))) else (spec_l10Move.l1 k x6 (wrap64 (x9 - 1)))) else (spec_l10Move.l1 k x6 (wrap64 (x9 - 1)))) else (none)) else (none)) else (none)) else (none)) else ((spec_GoodLine.f k x6).bind fun t138 => (if t138 = true then (some (x6, true)) else (some (([] : List (S31)), false))))
end
def spec_l10Move.f (k : Nat) (l0 : List (S31)) (a1 : Int) : Option ((List (S31)) × Bool) := (spec_GoodLine.f k l0).bind fun t114 => (if t114 = true then ((spec_l1In.f a1 0 1000).bind fun t115 => (spec_l10Move.j0 k l0 a1 (!t115))) else (spec_l10Move.j0 k l0 a1 true))
theorem spec_l10Move.mono_l : ∀ k, (∀ y0 y1 y2, LeO (spec_l10Move.j0 k y0 y1 y2) (spec_l10Move.j0 (k + 1) y0 y1 y2)) ∧ (∀ y0 y1 y2 y3, LeO (spec_l10Move.l0 k y0 y1 y2 y3) (spec_l10Move.l0 (k + 1) y0 y1 y2 y3)) ∧ (∀ y0 y1, LeO (spec_l10Move.l1 k y0 y1) (spec_l10Move.l1 (k + 1) y0 y1))
 | 0 => ⟨fun _ _ _ r h => by simp [spec_l10Move.j0] at h, fun _ _ _ _ r h => by simp [spec_l10Move.l0] at h, fun _ _ r h => by simp [spec_l10Move.l1] at h⟩
 | k + 1 => by
  obtain ⟨ih0, ih1, ih2⟩ := spec_l10Move.mono_l k
  refine ⟨?_, ?_, ?_⟩
  ·intro y0 y1 y2
   unfold spec_l10Move.j0
   repeat' first
   | (with_reducible exact ih0 _ _ _)
   | (with_reducible exact ih1 _ _ _ _)
   | (with_reducible exact ih2 _ _)
   | (with_reducible exact spec_GoodLine.mono _ _)
   | (with_reducible exact LeO.refl _)
   | (with_reducible exact LeO.none _)
   | (with_reducible refine LeO.ite ?_ ?_)
   | (with_reducible refine LeO.bind ?_ (fun _ => ?_))
   | exact ih0 _ _ _
   | exact ih1 _ _ _ _
   | exact ih2 _ _
   | exact spec_GoodLine.mono _ _
   | exact LeO.none _
   | refine LeO.ite ?_ ?_
   | refine LeO.bind ?_ (fun _ => ?_)
  ·intro y0 y1 y2 y3
   unfold spec_l10Move.l0
   repeat' first
   | (with_reducible exact ih0 _ _ _)
   | (with_reducible exact ih1 _ _ _ _)
   | (with_reducible exact ih2 _ _)
   | (with_reducible exact spec_GoodLine.mono _ _)
   | (with_reducible exact LeO.refl _)
   | (with_reducible exact LeO.none _)
   | (with_reducible refine LeO.ite ?_ ?_)
   | (with_reducible refine LeO.bind ?_ (fun _ => ?_))
   | exact ih0 _ _ _
   | exact ih1 _ _ _ _
   | exact ih2 _ _
   | exact spec_GoodLine.mono _ _
   | exact LeO.none _
   | refine LeO.ite ?_ ?_
   | refine LeO.bind ?_ (fun _ => ?_)
  ·intro y0 y1
   unfold spec_l10Move.l1
   repeat' first
   | (with_reducible exact ih0 _ _ _)
   | (with_reducible exact ih1 _ _ _ _)
   | (with_reducible exact ih2 _ _)
   | (with_reducible exact spec_GoodLine.mono _ _)
   | (with_reducible exact LeO.refl _)
   | (with_reducible exact LeO.none _)
   | (with_reducible refine LeO.ite ?_ ?_)
   | (with_reducible refine LeO.bind ?_ (fun _ => ?_))
   | exact ih0 _ _ _
   | exact ih1 _ _ _ _
   | exact ih2 _ _
   | exact spec_GoodLine.mono _ _
   | exact LeO.none _
   | refine LeO.ite ?_ ?_
   | refine LeO.bind ?_ (fun _ => ?_)
theorem spec_l10Move.mono : ∀ a0 a1 k, LeO (spec_l10Move.f k a0 a1) (spec_l10Move.f (k + 1) a0 a1) := by
 intro a0 a1 k
 obtain ⟨ih0, ih1, ih2⟩ := spec_l10Move.mono_l k
 unfold spec_l10Move.f
 repeat' first
   | (with_reducible exact ih0 _ _ _)
   | (with_reducible exact ih1 _ _ _ _)
   | (with_reducible exact ih2 _ _)
   | (with_reducible exact spec_GoodLine.mono _ _)
   | (with_reducible exact LeO.refl _)
   | (with_reducible exact LeO.none _)
   | (with_reducible refine LeO.ite ?_ ?_)
   | (with_reducible refine LeO.bind ?_ (fun _ => ?_))
   | exact ih0 _ _ _
   | exact ih1 _ _ _ _
   | exact ih2 _ _
   | exact spec_GoodLine.mono _ _
   | exact LeO.none _
   | refine LeO.ite ?_ ?_
   | refine LeO.bind ?_ (fun _ => ?_)
def spec_l10Move.T8 : Bool × List (List Nat × List Nat) := (true, [([], []), ([], []), ([0, 1], [0, 1]), ([2], [2]), ([3], [3]), ([], []), ([], []), ([5, 6], [5, 6]), ([7], [7]), ([8], [8]), ([], []), ([9, 10], [9, 10]), ([], []), ([], []), ([12, 13], [12, 13]), ([14], [14]), ([15], [15]), ([11, 16], [11, 16]), ([4, 17], [4, 17]), ([0, 1, 0, 1, 2, 3, 4, 5, 6, 7, 8, 9, 10, 11, 12, 13, 14, 15, 16, 17, 18], [0, 1]), ([19, 0, 1, 2, 3, 4, 5, 6, 7, 8, 9, 10, 11, 12, 13, 14, 15, 16, 17, 18], [19]), ([20, 18, 0, 1, 2, 3, 4, 5, 6, 7, 8, 9, 10, 11, 12, 13, 14, 15, 16, 17, 18], [18, 20])])
def spec_l10Move.B8 : List Nat := [0, 0, 3, 7, 15, 0, 0, 96, 224, 480, 0, 2016, 0, 0, 12288, 28672, 61440, 131040, 262143, 524287, 1048575, 2097151]
theorem spec_l10Move.tab8 : rtab .any (opsOf Try.f88 8) = spec_l10Move.T8 := by kernel_rfl
theorem spec_l10Move.bits8 : waitsOk spec_l10Move.T8.2 spec_l10Move.B8 = true := by kernel_rfl
def spec_l10Move.T10 : Bool × List (List Nat × List Nat) := (true, [([], []), ([], []), ([1], [1]), ([0, 2], [0, 2]), ([3], [3]), ([4], [4]), ([], []), ([], []), ([7], [7]), ([6, 8], [6, 8]), ([9], [9]), ([10], [10]), ([5, 11], [5, 11]), ([], []), ([], []), ([13, 14], [13, 14]), ([15], [15]), ([16], [16]), ([12, 17], [12, 17]), ([18, 0, 1, 2, 3, 4, 5, 6, 7, 8, 9, 10, 11, 12, 13, 14, 15, 16, 17, 18], [18])])
def spec_l10Move.B10 : List Nat := [0, 0, 2, 7, 15, 31, 0, 0, 128, 448, 960, 1984, 4095, 0, 0, 24576, 57344, 122880, 262143, 524287]
theorem spec_l10Move.tab10 : rtab .any (opsOf Try.f88 10) = spec_l10Move.T10 := by kernel_rfl
theorem spec_l10Move.bits10 : waitsOk spec_l10Move.T10.2 spec_l10Move.B10 = true := by kernel_rfl
def spec_l10Move.T17 : Bool × List (List Nat × List Nat) := (true, [([], []), ([], []), ([1], [1]), ([0, 2], [0, 2]), ([3], [3]), ([4], [4]), ([], []), ([], []), ([7], [7]), ([6, 8], [6, 8]), ([9], [9]), ([10], [10]), ([5, 11], [5, 11]), ([], []), ([], []), ([13, 14], [13, 14]), ([15], [15]), ([16], [16]), ([12, 17], [12, 17]), ([18, 0, 1, 2, 3, 4, 5, 6, 7, 8, 9, 10, 11, 12, 13, 14, 15, 16, 17, 18], [18])])
def spec_l10Move.B17 : List Nat := [0, 0, 2, 7, 15, 31, 0, 0, 128, 448, 960, 1984, 4095, 0, 0, 24576, 57344, 122880, 262143, 524287]
theorem spec_l10Move.tab17 : rtab .any (opsOf Try.f88 17) = spec_l10Move.T17 := by kernel_rfl
theorem spec_l10Move.bits17 : waitsOk spec_l10Move.T17.2 spec_l10Move.B17 = true := by kernel_rfl
set_option maxHeartbeats 8000000 in
set_option maxRecDepth 100000 in
theorem spec_l10Move.calls (k : Nat) (A0 : Option Addr) (c0 : Nat) (l0 : List (S31)) (a1 : Int) (r1 : List (S31)) (r2 : Bool) (w : World) (hr0 : Kd.C k31 w A0 l0.length l0) (hc0 : l0.length ≤ c0) (h : spec_l10Move.f k l0 a1 = some (r1, r2)) :
  Calls Try.prog 88 #[.slice A0 l0.length c0, .int .i64 a1] w fun e w' => ∃ v0_ : Value, e = .returned (.tuple #[v0_, .bool r2]) ∧ Kd.R k31 31 w' w.heap.size (fun _ => True) v0_ r1 ∧ Below w.heap.size w w' := by
 have HR0 := Aside0.mk hr0
 have HC0 := Aside0.mk hc0
 clear hr0 hc0
 have HB := Aside0.mk (Below.refl w.heap.size w)
 have H : ((spec_GoodLine.f k l0).bind fun t114 => (if t114 = true then ((spec_l1In.f a1 0 1000).bind fun t115 => (spec_l10Move.j0 k l0 a1 (!t115))) else (spec_l10Move.j0 k l0 a1 true))) = some (r1, r2) := h
 clear h
 have HC3 := Aside0.mk H
 clear H
 go_enter Try.func88, Try.ntmps88
 go_upto_region 1 with (fail)
 go_cut [18] (fun v18 wc => ∃ (kq : Nat) (x18_2 : Bool), v18 = .bool x18_2 ∧ Aside0 (spec_l10Move.j0 kq l0 a1 x18_2 = some (r1, r2)) ∧ Aside0 (kq ≤ k) ∧ Aside0 (Below w.heap.size w wc))
 case first =>
  have H := HC3.out
  clear HC3
  replace H := Option.bind_eq_some_iff.mp H
  obtain ⟨t114, A40, H⟩ := H
  replace H : (if t114 = true then ((spec_l1In.f a1 0 1000).bind fun t115 => (spec_l10Move.j0 k l0 a1 (!t115))) else (spec_l10Move.j0 k l0 a1 true)) = some (r1, r2) := H
  have A4 := Aside0.mk A40
  clear A40
  by_cases c5 : t114 = true
  ·subst c5
   have H1 : ((spec_l1In.f a1 0 1000).bind fun t115 => (spec_l10Move.j0 k l0 a1 (!t115))) = some (r1, r2) := by rw [if_pos rfl] at H; exact H
   clear H
   have H := H1
   clear H1
   replace H := Option.bind_eq_some_iff.mp H
   obtain ⟨t115, A60, H⟩ := H
   replace H : (spec_l10Move.j0 k l0 a1 (!t115)) = some (r1, r2) := H
   have A6 := Aside0.mk A60
   clear A60
   have H' := Aside0.mk H
   clear H
   go_wp2_with (first | ((with_reducible refine gate_callee (f := 16) rfl ?_); refine goesL_ (some 12) rfl rfl Try.func16 (by kernel_rfl) rfl #[.slice A0 l0.length c0] rfl (by (try simp only [List.map_toArray, List.map_cons, List.map_nil]); first | done | rfl | (simp only [List.length_drop, List.length_take]; rfl)) ?_; (with_reducible refine (spec_GoodLine.calls k _ _ l0 true _ ?side1 ?side2 A4.out).mono ?_); (case side1 => repeat (first | exact (Kd.C_below HR0.out HB.out) | (with_reducible refine Kd.C_alloc ?_ _) | (with_reducible refine Kd.C_drewN ?_ _) | (with_reducible refine Kd.C_drew ?_))); (case side2 => exact HC0.out); rintro e w7 ⟨rfl, hb⟩; refine ⟨_, rfl, ?_⟩; have n0_ := z_bs HB hb; clear HB; have HB := n0_; clear n0_; (try clear hb); (try clear hb2); (try clear hk); (try clear hi)) | (go_at_call 79; (with_reducible refine (spec_l1In.calls a1 0 1000 t115 _ A6.out).mono ?_); rintro e w' ⟨rfl, ⟨nd, rfl⟩⟩))
   go_meet
   case rel => exact ⟨_, (!t115), (by first | rfl | (simp; done) | (simp [*]; done)), H', ⟨by first | omega | exact Nat.le_refl _⟩, ⟨blw⟩⟩
  ·replace c5 := Bool.eq_false_iff.mpr c5
   subst c5
   have H1 : (spec_l10Move.j0 k l0 a1 true) = some (r1, r2) := by rw [if_neg (show ¬ (false = true) by decide)] at H; exact H
   clear H
   have H := H1
   clear H1
   have H' := Aside0.mk H
   clear H
   go_wp2_with (first | ((with_reducible refine gate_callee (f := 16) rfl ?_); refine goesL_ (some 12) rfl rfl Try.func16 (by kernel_rfl) rfl #[.slice A0 l0.length c0] rfl (by (try simp only [List.map_toArray, List.map_cons, List.map_nil]); first | done | rfl | (simp only [List.length_drop, List.length_take]; rfl)) ?_; (with_reducible refine (spec_GoodLine.calls k _ _ l0 false _ ?side1 ?side2 A4.out).mono ?_); (case side1 => repeat (first | exact (Kd.C_below HR0.out HB.out) | (with_reducible refine Kd.C_alloc ?_ _) | (with_reducible refine Kd.C_drewN ?_ _) | (with_reducible refine Kd.C_drew ?_))); (case side2 => exact HC0.out); rintro e w8 ⟨rfl, hb⟩; refine ⟨_, rfl, ?_⟩; have n0_ := z_bs HB hb; clear HB; have HB := n0_; clear n0_; (try clear hb); (try clear hb2); (try clear hk); (try clear hi)))
   go_meet
   case rel => exact ⟨_, (true), (by first | rfl | (simp; done) | (simp [*]; done)), H', ⟨by first | omega | exact Nat.le_refl _⟩, ⟨blw⟩⟩
 case rest =>
  clear HC3
  try clear c1
  try clear p2
  try clear c5
  try clear c8
  obtain ⟨kq, x18_2, rfl, HA, HJ2, HB⟩ := hcut
  cases kq with
  | zero => exact absurd HA.out (by simp [spec_l10Move.j0])
  | succ kj2 =>
   have H := HA.out
   clear HA
   simp only [spec_l10Move.j0] at H
   by_cases c9 : x18_2 = true
   ·subst c9
    have H1 : (some (([] : List (S31)), false)) = some (r1, r2) := by rw [if_pos rfl] at H; exact H
    clear H
    have H := H1
    clear H1
    simp only [Option.some.injEq, Prod.mk.injEq] at H
    obtain ⟨rfl, rfl⟩ := H
    go_wp2
    go_ret2
    exact ⟨_, by first | rfl | (simp [errW_none, errW_some] <;> rfl) | (simp [*, errW_none, errW_some] <;> rfl), by first | exact Kd.R_nil _ _ _ _ _ | exact Kd.N_nil _ _ _ _ _ | exact Kd.V_nil _ _ _ _ _ | exact Kd.Q_nil _ _ _ _ _ | exact Kd.S_nil _ _ _ _ _, blw⟩
   ·replace c9 := Bool.eq_false_iff.mpr c9
    subst c9
    have H1 : ((some (([] : List (S31)) : List (S31))).bind fun y116 => (if y116.length + l0.length < 4398046511104 then ((some (y116 ++ l0 : List (S31))).bind fun y119 => (spec_l10Move.l0 kj2 a1 y119 (y119.length : Int) 0)) else (none))) = some (r1, r2) := by rw [if_neg (show ¬ (false = true) by decide)] at H; exact H
    clear H
    have H := H1
    clear H1
    obtain ⟨y116, hy116⟩ : ∃ y_ : List (S31), y_ = (([] : List (S31))) := ⟨_, rfl⟩
    replace H : (if y116.length + l0.length < 4398046511104 then ((some (y116 ++ l0 : List (S31))).bind fun y119 => (spec_l10Move.l0 kj2 a1 y119 (y119.length : Int) 0)) else (none)) = some (r1, r2) := by first | (rw [hy116]; with_reducible exact H) | (have H2_ := (Option.bind_some _ _).symm.trans H; rw [hy116]; with_reducible exact H2_) | (have H2_ := (Option.bind_some _ _).symm.trans H; with_reducible exact H2_) | with_reducible exact H | (rw [hy116]; exact H) | exact H
    have Ny116 := Aside0.mk hy116
    clear hy116
    by_cases c10 : y116.length + l0.length < 4398046511104
    ·rw [if_pos c10] at H
     have LMc10 := Aside0.mk c10
     clear c10
     obtain ⟨y119, hy119⟩ : ∃ y_ : List (S31), y_ = (y116 ++ l0) := ⟨_, rfl⟩
     replace H : (spec_l10Move.l0 kj2 a1 y119 (y119.length : Int) 0) = some (r1, r2) := by first | (rw [hy119]; with_reducible exact H) | (have H2_ := (Option.bind_some _ _).symm.trans H; rw [hy119]; with_reducible exact H2_) | (have H2_ := (Option.bind_some _ _).symm.trans H; with_reducible exact H2_) | with_reducible exact H | (rw [hy119]; exact H) | exact H
     have Ny119 := Aside0.mk hy119
     clear hy119
     have H' := Aside0.mk H
     clear H
     go_wp2_with (first | ((with_reducible refine gate_dst (N := 19) rfl ?_); refine Kd.R_lit k31 _ 31 ?hg (N := 19) ?hd (xs := ([] : List (S31))) (inner := []) (ok := fun _ => True) (okp := fun _ => True) ?hr ?hp (fun _ hk => hk) trivial (Below.refl _ _) (Nat.le_refl _) (by simp) ?_; (case hd => rfl); (case hg => rfl); (case hr => first | (go_simp; done) | (go_simp; rfl)); (case hp => exact (Reps.none _ _)); intro v117 w11 ho12 hb hg_ hnew_; clear hg_ hnew_; (first | rw [← Ny116.out] at ho12 | (simp only [Int.reduceToNat] at ho12; rw [← Ny116.out] at ho12)); have n0_ := Aside0.mk (Kd.R_lower ho12 (below_size blw)); have n1_ := z_bs HB hb; clear HB; have HO118 := n0_; have HB := n1_; clear n0_ n1_; clear hb ho12) | ((with_reducible refine gate_builtin (b := .append) (xs := #[.tmp 19, .tmp 20]) rfl ?_); at_builtin; refine Kd.R_append_rows k31 (w0 := w) w.heap.size rfl (.tmp 19) (.tmp 20) 25 31 (.agg #[(.int .i64 0), (.int .i64 0), (.int .i64 0), (.int .i64 0)]) 32 rfl Try.underlying25 info31 rfl (by decide) (by omega) v117 y116 l0 _ _ _ (fun _ => True) (fun _ => False) rfl rfl ?aO ?aR (fun _ _ h => h) (fun _ h => h.elim) ?aF ?aB ?aS ?aL ?_; (case aR => repeat (first | exact (Kd.C_below HR0.out HB.out) | (with_reducible refine Kd.C_alloc ?_ _) | (with_reducible refine Kd.C_drewN ?_ _) | (with_reducible refine Kd.C_drew ?_))); (case aB => exact blw); (case aF => exact (fun _ _ => trivial)); (case aO => exact (by (with_reducible repeat (first | apply Kd.R_alloc | apply Kd.R_drewN | apply Kd.R_drew)); exact HO118.out)); (case aS => exact (below_size blw)); (case aL => have := LMc10.out; omega); intro v120 w13 ho hb hg hat; rw [← Ny119.out] at ho; have n0_ := Aside0.mk (hb); have n1_ := Aside0.mk (ho); clear HB; clear HO118; have HB := n0_; have HO121 := n1_; clear n0_ n1_; clear ho hb hg hat; obtain ⟨Ao14, co14, eo14⟩ := Kd.R_slice HO121.out; subst eo14))
     go_loopg [24] kj2 (fun kq v24 w' => ∃ (x6_2 : List (S31)) (x24_2 : Int), v24 = .int .i64 x24_2 ∧ Aside0 (spec_l10Move.l0 kq a1 x6_2 (y119.length : Int) x24_2 = some (r1, r2)) ∧ Aside0 (kq ≤ kj2) ∧ Aside0 (Kd.R k31 31 w' w.heap.size (fun _ => True) (.slice Ao14 y119.length co14) x6_2) ∧ Aside0 (Below w.heap.size w w'))
     case atStart => exact ⟨(y119), (0), (by first | rfl | (simp; done) | (simp [*]; done)), H', ⟨Nat.le_refl _⟩, ⟨by (with_reducible repeat (first | apply Kd.R_alloc | apply Kd.R_drewN | apply Kd.R_drew)); exact HO121.out⟩, ⟨blw⟩⟩
     case round =>
      clear H'
      try clear c1
      try clear p2
      try clear c5
      try clear c8
      try clear c9
      try clear c10
      try clear p2
      obtain ⟨x6_2, x24_2, rfl, HA, HK2, HO_6, HB⟩ := hrel
      have hl6_2 := (Kd.R_reads' HO_6.out).1
      rw [hl6_2] at HO_6
      (try simp only [hl6_2])
      cases gk with
      | zero => exact absurd HA.out (by simp [spec_l10Move.l0])
      | succ k2 =>
       have H := HA.out
       clear HA
       simp only [spec_l10Move.l0] at H
       by_cases c15 : x24_2 < (y119.length : Int)
       ·rw [if_pos c15] at H
        have c15b0 : decide (x24_2 < (y119.length : Int)) = true := decide_eq_true c15
        clear c15
        by_cases c16 : 0 ≤ x24_2
        ·rw [if_pos c16] at H
         have c16b0 : decide (0 ≤ x24_2) = true := decide_eq_true c16
         clear c16
         by_cases c17 : x24_2 < (x6_2.length : Int)
         ·rw [if_pos c17] at H
          have c17b0 : decide (x24_2 < (x6_2.length : Int)) = true := decide_eq_true c17
          clear c17
          by_cases c18 : ((rd_T31 x6_2 x24_2).f2) > 0
          ·rw [if_pos c18] at H
           have c18b0 : decide (0 < ((rd_T31 x6_2 x24_2).f2)) = true := decide_eq_true c18
           clear c18
           by_cases c19 : ((rd_T31 x6_2 x24_2).f2) = 0
           ·rw [if_pos c19] at H
            exact absurd H (by simp)
           ·rw [if_neg c19] at H
            have c19b0 : (((rd_T31 x6_2 x24_2).f2) == 0) = false := beq_eq_false_iff_ne.mpr c19
            have c19b1 : (((rd_T31 x6_2 x24_2).f2) != 0) = true := bne_iff_ne.mpr c19
            obtain ⟨y126, hy126⟩ : ∃ y_ : List (S31), y_ = (x6_2.set (x24_2 : Int).toNat (⟨wrap64 (((rd_T31 x6_2 x24_2).f0) + (wrap64 (Int.tdiv (wrap64 (((rd_T31 x6_2 x24_2).f1) * a1)) ((rd_T31 x6_2 x24_2).f2)))), (rd_T31 x6_2 x24_2).f1, (rd_T31 x6_2 x24_2).f2, (rd_T31 x6_2 x24_2).f3⟩ : S31)) := ⟨_, rfl⟩
            replace H : (if x24_2 > 0 then (if 0 ≤ (wrap64 (x24_2 - 1)) then (if (wrap64 (x24_2 - 1)) < (x6_2.length : Int) then (if ((rd_T31 y126 x24_2).f0) < (wrap64 ((wrap64 (((rd_T31 y126 (wrap64 (x24_2 - 1))).f0) + ((rd_T31 y126 (wrap64 (x24_2 - 1))).f3))) + ((rd_T31 y126 x24_2).f3))) then (spec_l10Move.l0 k2 a1 (y126.set (x24_2 : Int).toNat (⟨wrap64 ((wrap64 (((rd_T31 y126 (wrap64 (x24_2 - 1))).f0) + ((rd_T31 y126 (wrap64 (x24_2 - 1))).f3))) + ((rd_T31 y126 x24_2).f3)), (rd_T31 y126 x24_2).f1, (rd_T31 y126 x24_2).f2, (rd_T31 y126 x24_2).f3⟩ : S31)) (y119.length : Int) (wrap64 (x24_2 + 1))) else (spec_l10Move.l0 k2 a1 y126 (y119.length : Int) (wrap64 (x24_2 + 1)))) else (none)) else (none)) else (spec_l10Move.l0 k2 a1 y126 (y119.length : Int) (wrap64 (x24_2 + 1)))) = some (r1, r2) := by first | (rw [hy126]; with_reducible exact H) | (have H2_ := (Option.bind_some _ _).symm.trans H; rw [hy126]; with_reducible exact H2_) | (have H2_ := (Option.bind_some _ _).symm.trans H; with_reducible exact H2_) | with_reducible exact H | (rw [hy126]; exact H) | exact H
            have Ny126 := Aside0.mk hy126
            clear hy126
            by_cases c21 : x24_2 > 0
            ·rw [if_pos c21] at H
             have c21b0 : decide (0 < x24_2) = true := decide_eq_true c21
             clear c21
             obtain ⟨ji22, hji22⟩ : ∃ j_ : Int, (wrap64 (x24_2 - 1)) = j_ := ⟨_, rfl⟩
             replace H : (if 0 ≤ (ji22) then (if (ji22) < (x6_2.length : Int) then (if ((rd_T31 y126 x24_2).f0) < (wrap64 ((wrap64 (((rd_T31 y126 (ji22)).f0) + ((rd_T31 y126 (ji22)).f3))) + ((rd_T31 y126 x24_2).f3))) then (spec_l10Move.l0 k2 a1 (y126.set (x24_2 : Int).toNat (⟨wrap64 ((wrap64 (((rd_T31 y126 (ji22)).f0) + ((rd_T31 y126 (ji22)).f3))) + ((rd_T31 y126 x24_2).f3)), (rd_T31 y126 x24_2).f1, (rd_T31 y126 x24_2).f2, (rd_T31 y126 x24_2).f3⟩ : S31)) (y119.length : Int) (wrap64 (x24_2 + 1))) else (spec_l10Move.l0 k2 a1 y126 (y119.length : Int) (wrap64 (x24_2 + 1)))) else (none)) else (none)) = some (r1, r2) := by first | (rw [hji22] at H; exact H) | (simp only [hji22] at H ⊢; exact H)
             have hji22w : (IntKind.i64.wrap (x24_2 - 1)) = ji22 := (i64_w _).trans hji22
             by_cases c23 : 0 ≤ (ji22)
             ·rw [if_pos c23] at H
              have c23b0 : decide (0 ≤ (ji22)) = true := decide_eq_true c23
              clear c23
              by_cases c24 : (ji22) < (x6_2.length : Int)
              ·rw [if_pos c24] at H
               have c24b0 : decide ((ji22) < (x6_2.length : Int)) = true := decide_eq_true c24
               clear c24
               by_cases c25 : ((rd_T31 y126 x24_2).f0) < (wrap64 ((wrap64 (((rd_T31 y126 (ji22)).f0) + ((rd_T31 y126 (ji22)).f3))) + ((rd_T31 y126 x24_2).f3)))
               ·rw [if_pos c25] at H
                have c25b0 : decide (((rd_T31 y126 x24_2).f0) < (wrap64 ((wrap64 (((rd_T31 y126 (ji22)).f0) + ((rd_T31 y126 (ji22)).f3))) + ((rd_T31 y126 x24_2).f3)))) = true := decide_eq_true c25
                clear c25
                obtain ⟨y131, hy131⟩ : ∃ y_ : List (S31), y_ = (y126.set (x24_2 : Int).toNat (⟨wrap64 ((wrap64 (((rd_T31 y126 (ji22)).f0) + ((rd_T31 y126 (ji22)).f3))) + ((rd_T31 y126 x24_2).f3)), (rd_T31 y126 x24_2).f1, (rd_T31 y126 x24_2).f2, (rd_T31 y126 x24_2).f3⟩ : S31)) := ⟨_, rfl⟩
                replace H : (spec_l10Move.l0 k2 a1 y131 (y119.length : Int) (wrap64 (x24_2 + 1))) = some (r1, r2) := by first | (rw [hy131]; with_reducible exact H) | (have H2_ := (Option.bind_some _ _).symm.trans H; rw [hy131]; with_reducible exact H2_) | (have H2_ := (Option.bind_some _ _).symm.trans H; with_reducible exact H2_) | with_reducible exact H | (rw [hy131]; exact H) | exact H
                have Ny131 := Aside0.mk hy131
                clear hy131
                have H' := Aside0.mk H
                clear H
                have p122 : 0 ≤ (x24_2 : Int) := odt
                have q122 : x24_2 < (x6_2.length : Int) := odt
                obtain ⟨ad122, e122, hx122_0, hx122_1, hx122_2, hx122_3⟩ := at_T31 (Kd.R_reads' HO_6.out).2.2 x24_2 p122 q122
                cases e122
                replace p122 := eq_true p122
                replace q122 := eq_true q122
                try go_wp2
                have n0_ := Aside0.mk (Kd.R_drew HO_6.out)
                have n1_ := Aside0.mk (below_drew1 HB.out)
                clear HO_6
                clear HB
                have HO_6 := n0_
                have HB := n1_
                clear n0_ n1_
                have p123 : 0 ≤ (x24_2 : Int) := odt
                have q123 : x24_2 < (x6_2.length : Int) := odt
                obtain ⟨ad123, e123, hx123_0, hx123_1, hx123_2, hx123_3⟩ := at_T31 (Kd.R_reads' HO_6.out).2.2 x24_2 p123 q123
                obtain rfl : ad122 = ad123 := (by injection e123)
                replace p123 := eq_true p123
                replace q123 := eq_true q123
                have p124 : 0 ≤ (x24_2 : Int) := odt
                have q124 : x24_2 < (x6_2.length : Int) := odt
                obtain ⟨ad124, e124, hx124_0, hx124_1, hx124_2, hx124_3⟩ := at_T31 (Kd.R_reads' HO_6.out).2.2 x24_2 p124 q124
                obtain rfl : ad122 = ad124 := (by injection e124)
                replace p124 := eq_true p124
                replace q124 := eq_true q124
                have p125 : 0 ≤ (x24_2 : Int) := odt
                have q125 : x24_2 < (x6_2.length : Int) := odt
                obtain ⟨ad125, e125, hx125_0, hx125_1, hx125_2, hx125_3⟩ := at_T31 (Kd.R_reads' HO_6.out).2.2 x24_2 p125 q125
                obtain rfl : ad122 = ad125 := (by injection e125)
                replace p125 := eq_true p125
                replace q125 := eq_true q125
                have p20 : 0 ≤ (x24_2 : Int) := odt
                have q20 : (x24_2 : Int) < ((x6_2.length : Int) : Int) := odt
                obtain ⟨go20, co20, eo20, gb20, gl20, cl20, HG20⟩ := Kd.R_form HO_6.out (by omega)
                (first | cases eo20 | (injection eo20 with ea_ en_ ec_; (first | subst ea_ | (injection ea_ with ea_; subst ea_)); subst ec_; clear en_))
                have GB20 := Aside0.mk gb20
                have GG20 := Aside0.mk HG20
                clear gb20 gl20 HG20
                (first | simp only [add_plain] at hx122_0 | skip)
                (first | simp only [add_plain] at hx122_1 | skip)
                (first | simp only [add_plain] at hx122_2 | skip)
                (first | simp only [add_plain] at hx122_3 | skip)
                (first | simp only [add_plain] at hx123_0 | skip)
                (first | simp only [add_plain] at hx123_1 | skip)
                (first | simp only [add_plain] at hx123_2 | skip)
                (first | simp only [add_plain] at hx123_3 | skip)
                (first | simp only [add_plain] at hx124_0 | skip)
                (first | simp only [add_plain] at hx124_1 | skip)
                (first | simp only [add_plain] at hx124_2 | skip)
                (first | simp only [add_plain] at hx124_3 | skip)
                (first | simp only [add_plain] at hx125_0 | skip)
                (first | simp only [add_plain] at hx125_1 | skip)
                (first | simp only [add_plain] at hx125_2 | skip)
                (first | simp only [add_plain] at hx125_3 | skip)
                obtain ⟨ce20, hcl20, hM20, hcc20, hfr20⟩ := Kd.R_elem HO_6.out z31 (x24_2 : Int) p20 q20
                obtain rfl := k31_openM hM20
                have hx20_0 : World.cell? _ ⟨go20, (x24_2 : Int).toNat * 4, none⟩ = some (.int .i64 ((rd_T31 x6_2 x24_2).f0)) := hcc20 0 _ rfl
                have hx20_1 : World.cell? _ ⟨go20, (x24_2 : Int).toNat * 4 + 1, none⟩ = some (.int .i64 ((rd_T31 x6_2 x24_2).f1)) := hcc20 1 _ rfl
                have hx20_2 : World.cell? _ ⟨go20, (x24_2 : Int).toNat * 4 + 2, none⟩ = some (.int .i64 ((rd_T31 x6_2 x24_2).f2)) := hcc20 2 _ rfl
                have hx20_3 : World.cell? _ ⟨go20, (x24_2 : Int).toNat * 4 + 3, none⟩ = some (.int .i64 ((rd_T31 x6_2 x24_2).f3)) := hcc20 3 _ rfl
                have hf20_0 : World.frozen? _ ⟨go20, (x24_2 : Int).toNat * 4, none⟩ = false := hfr20 0
                have hf20_1 : World.frozen? _ ⟨go20, (x24_2 : Int).toNat * 4 + 1, none⟩ = false := hfr20 1
                have hf20_2 : World.frozen? _ ⟨go20, (x24_2 : Int).toNat * 4 + 2, none⟩ = false := hfr20 2
                have hf20_3 : World.frozen? _ ⟨go20, (x24_2 : Int).toNat * 4 + 3, none⟩ = false := hfr20 3
                clear hcl20 hcc20 hfr20 hM20
                replace p20 := eq_true p20
                replace q20 := eq_true q20
                obtain ⟨ce28, hcl28, hM28, hcc28, hfr28⟩ := Kd.R_elem HO_6.out z31 (x24_2 : Int) odt (by have h_ : (x24_2 : Int) < ((x6_2.length : Int) : Int) := odt; first | exact h_ | (have e_ := (Kd.R_reads' HO_6.out).1; omega) | simpa using h_)
                obtain rfl := k31_openM hM28
                have HP28 := (Kd.R_seg HO_6.out (x24_2 : Int) odt (by have h_ : (x24_2 : Int) < ((x6_2.length : Int) : Int) := odt; first | exact h_ | (have e_ := (Kd.R_reads' HO_6.out).1; omega) | simpa using h_) (seg := [.int .i64 (wrap64 (((rd_T31 x6_2 x24_2).f0) + (wrap64 (Int.tdiv (wrap64 (((rd_T31 x6_2 x24_2).f1) * a1)) ((rd_T31 x6_2 x24_2).f2)))))]) (j := 0) hcl28 hcc28 (show 1 ≤ 4 from by decide) (x' := (⟨wrap64 (((rd_T31 x6_2 x24_2).f0) + (wrap64 (Int.tdiv (wrap64 (((rd_T31 x6_2 x24_2).f1) * a1)) ((rd_T31 x6_2 x24_2).f2)))), (rd_T31 x6_2 x24_2).f1, (rd_T31 x6_2 x24_2).f2, (rd_T31 x6_2 x24_2).f3⟩ : S31)) (k31_mkM _ _ _ (⟨wrap64 (((rd_T31 x6_2 x24_2).f0) + (wrap64 (Int.tdiv (wrap64 (((rd_T31 x6_2 x24_2).f1) * a1)) ((rd_T31 x6_2 x24_2).f2)))), (rd_T31 x6_2 x24_2).f1, (rd_T31 x6_2 x24_2).f2, (rd_T31 x6_2 x24_2).f3⟩ : S31) ) (fun _ hk => hk)).1
                rw [← Ny126.out] at HP28
                have HQ28 := Aside0.mk HP28
                clear hcl28 hcc28 hfr28 hM28 HP28
                refine start_ (n := 22) (S := fun w' => w'.cell? ⟨go20, ((x24_2).toNat * 4), none⟩ = some (.int .i64 ((rd_T31 x6_2 x24_2).f0)) ∧ w'.cell? ⟨go20, ((x24_2).toNat * 4) + 1, none⟩ = some (.int .i64 ((rd_T31 x6_2 x24_2).f1)) ∧ w'.cell? ⟨go20, ((x24_2).toNat * 4) + 2, none⟩ = some (.int .i64 ((rd_T31 x6_2 x24_2).f2)) ∧ w'.cell? ⟨go20, ((x24_2).toNat * 4) + 3, none⟩ = some (.int .i64 ((rd_T31 x6_2 x24_2).f3)) ∧ w'.cell? ⟨go20, ((x24_2).toNat * 4), none⟩ = some (.int .i64 ((rd_T31 x6_2 x24_2).f0)) ∧ w'.cell? ⟨go20, ((x24_2).toNat * 4) + 1, none⟩ = some (.int .i64 ((rd_T31 x6_2 x24_2).f1)) ∧ w'.cell? ⟨go20, ((x24_2).toNat * 4) + 2, none⟩ = some (.int .i64 ((rd_T31 x6_2 x24_2).f2)) ∧ w'.cell? ⟨go20, ((x24_2).toNat * 4) + 3, none⟩ = some (.int .i64 ((rd_T31 x6_2 x24_2).f3)) ∧ w'.cell? ⟨go20, ((x24_2).toNat * 4), none⟩ = some (.int .i64 ((rd_T31 x6_2 x24_2).f0)) ∧ w'.cell? ⟨go20, ((x24_2).toNat * 4) + 1, none⟩ = some (.int .i64 ((rd_T31 x6_2 x24_2).f1)) ∧ w'.cell? ⟨go20, ((x24_2).toNat * 4) + 2, none⟩ = some (.int .i64 ((rd_T31 x6_2 x24_2).f2)) ∧ w'.cell? ⟨go20, ((x24_2).toNat * 4) + 3, none⟩ = some (.int .i64 ((rd_T31 x6_2 x24_2).f3))) (ds := [21]) #[false, false, false, false, false, false, false, false, false, false, false, false, false, false, false, false, false, false, false, false, false, false] (by kernel_rfl) rfl rfl ⟨hx123_0, hx123_1, hx123_2, hx123_3, hx124_0, hx124_1, hx124_2, hx124_3, hx125_0, hx125_1, hx125_2, hx125_3⟩ (fun hHeld => ?_); refine with_tabW spec_l10Move.tab8 spec_l10Move.bits8 (fun HT_ HW_ => ?_)
                generalize wr.drew = w27 at HO_6 HB GG20 HQ28 hf20_0 hf20_1 hf20_2 hf20_3 hx122_0 hx122_1 hx122_2 hx122_3 hx123_0 hx123_1 hx123_2 hx123_3 hx124_0 hx124_1 hx124_2 hx124_3 hx125_0 hx125_1 hx125_2 hx125_3 hx20_0 hx20_1 hx20_2 hx20_3 hHeld ⊢
                refine pure_ (i := 0) (N := some 33) (v := ?_) (a' := ?_) #[true, false, false, false, false, false, false, false, false, false, false, false, false, false, false, false, false, false, false, false, false, false] rfl rfl (any_of HT_.out (by kernel_rfl)) (fun _ _ _ h => h) (Or.inl ⟨by rfl, ?_⟩) ?_ ?_
                rotate_left; (· (intro w'; go_simp; with_reducible rfl)); rotate_left; (· (simp only [Act.put, sp1, sp2, sp3, i64_w, i32_w]; rfl))
                refine pure_ (i := 1) (N := some 34) (v := ?_) (a' := ?_) #[true, true, false, false, false, false, false, false, false, false, false, false, false, false, false, false, false, false, false, false, false, false] rfl rfl (any_of HT_.out (by kernel_rfl)) (fun _ _ _ h => h) (Or.inl ⟨by rfl, ?_⟩) ?_ ?_
                rotate_left; (· (intro w'; go_simp; with_reducible rfl)); rotate_left; (· (simp only [Act.put, sp1, sp2, sp3, i64_w, i32_w]; rfl))
                refine pure_ (i := 2) (N := some 35) (v := ?_) (a' := ?_) #[true, true, true, false, false, false, false, false, false, false, false, false, false, false, false, false, false, false, false, false, false, false] rfl rfl (any_of HT_.out (by kernel_rfl)) (fun _ _ _ h => h) (Or.inl ⟨by rfl, ?_⟩) ?_ ?_
                rotate_left; (· (intro w'; go_simp; with_reducible rfl)); rotate_left; (· (simp only [Act.put, sp1, sp2, sp3, i64_w, i32_w]; rfl))
                refine pure_ (i := 3) (N := some 36) (v := ?_) (a' := ?_) #[true, true, true, true, false, false, false, false, false, false, false, false, false, false, false, false, false, false, false, false, false, false] rfl rfl (any_of HT_.out (by kernel_rfl)) (fun _ _ _ h => h) (Or.inl ⟨by rfl, ?_⟩) ?_ ?_
                rotate_left; (· (intro w'; go_simp; with_reducible rfl)); rotate_left; (· (simp only [Act.put, sp1, sp2, sp3, i64_w, i32_w]; rfl))
                refine pure_ (i := 5) (N := some 38) (v := ?_) (a' := ?_) #[true, true, true, true, false, true, false, false, false, false, false, false, false, false, false, false, false, false, false, false, false, false] rfl rfl (any_of HT_.out (by kernel_rfl)) (fun _ _ _ h => h) (Or.inl ⟨by rfl, ?_⟩) ?_ ?_
                rotate_left; (· (intro w'; go_simp; with_reducible rfl)); rotate_left; (· (simp only [Act.put, sp1, sp2, sp3, i64_w, i32_w]; rfl))
                refine pure_ (i := 6) (N := some 39) (v := ?_) (a' := ?_) #[true, true, true, true, false, true, true, false, false, false, false, false, false, false, false, false, false, false, false, false, false, false] rfl rfl (any_of HT_.out (by kernel_rfl)) (fun _ _ _ h => h) (Or.inl ⟨by rfl, ?_⟩) ?_ ?_
                rotate_left; (· (intro w'; go_simp; with_reducible rfl)); rotate_left; (· (simp only [Act.put, sp1, sp2, sp3, i64_w, i32_w]; rfl))
                refine pure_ (i := 7) (N := some 40) (v := ?_) (a' := ?_) #[true, true, true, true, false, true, true, true, false, false, false, false, false, false, false, false, false, false, false, false, false, false] rfl rfl (any_of HT_.out (by kernel_rfl)) (fun _ _ _ h => h) (Or.inl ⟨by rfl, ?_⟩) ?_ ?_
                rotate_left; (· (intro w'; go_simp; with_reducible rfl)); rotate_left; (· (simp only [Act.put, sp1, sp2, sp3, i64_w, i32_w]; rfl))
                refine pure_ (i := 8) (N := some 41) (v := ?_) (a' := ?_) #[true, true, true, true, false, true, true, true, true, false, false, false, false, false, false, false, false, false, false, false, false, false] rfl rfl (any_of HT_.out (by kernel_rfl)) (fun _ _ _ h => h) (Or.inl ⟨by rfl, ?_⟩) ?_ ?_
                rotate_left; (· (intro w'; go_simp; with_reducible rfl)); rotate_left; (· (simp only [Act.put, sp1, sp2, sp3, i64_w, i32_w]; rfl))
                refine pure_ (i := 10) (N := some 43) (v := ?_) (a' := ?_) #[true, true, true, true, false, true, true, true, true, false, true, false, false, false, false, false, false, false, false, false, false, false] rfl rfl (any_of HT_.out (by kernel_rfl)) (fun _ _ _ h => h) (Or.inl ⟨by rfl, ?_⟩) ?_ ?_
                rotate_left; (· (intro w'; go_simp; with_reducible rfl)); rotate_left; (· (simp only [Act.put, sp1, sp2, sp3, i64_w, i32_w]; rfl))
                refine pure_ (i := 12) (N := some 45) (v := ?_) (a' := ?_) #[true, true, true, true, false, true, true, true, true, false, true, false, true, false, false, false, false, false, false, false, false, false] rfl rfl (any_of HT_.out (by kernel_rfl)) (fun _ _ _ h => h) (Or.inl ⟨by rfl, ?_⟩) ?_ ?_
                rotate_left; (· (intro w'; go_simp; with_reducible rfl)); rotate_left; (· (simp only [Act.put, sp1, sp2, sp3, i64_w, i32_w]; rfl))
                refine pure_ (i := 13) (N := some 46) (v := ?_) (a' := ?_) #[true, true, true, true, false, true, true, true, true, false, true, false, true, true, false, false, false, false, false, false, false, false] rfl rfl (any_of HT_.out (by kernel_rfl)) (fun _ _ _ h => h) (Or.inl ⟨by rfl, ?_⟩) ?_ ?_
                rotate_left; (· (intro w'; go_simp; with_reducible rfl)); rotate_left; (· (simp only [Act.put, sp1, sp2, sp3, i64_w, i32_w]; rfl))
                refine pure_ (i := 14) (N := some 47) (v := ?_) (a' := ?_) #[true, true, true, true, false, true, true, true, true, false, true, false, true, true, true, false, false, false, false, false, false, false] rfl rfl (any_of HT_.out (by kernel_rfl)) (fun _ _ _ h => h) (Or.inl ⟨by rfl, ?_⟩) ?_ ?_
                rotate_left; (· (intro w'; go_simp; with_reducible rfl)); rotate_left; (· (simp only [Act.put, sp1, sp2, sp3, i64_w, i32_w]; rfl))
                refine pure_ (i := 15) (N := some 48) (v := ?_) (a' := ?_) #[true, true, true, true, false, true, true, true, true, false, true, false, true, true, true, true, false, false, false, false, false, false] rfl rfl (any_of HT_.out (by kernel_rfl)) (fun _ _ _ h => h) (Or.inl ⟨by rfl, ?_⟩) ?_ ?_
                rotate_left; (· (intro w'; go_simp; with_reducible rfl)); rotate_left; (· (simp only [Act.put, sp1, sp2, sp3, i64_w, i32_w]; rfl))
                refine take_ (i := 4) (N := some 37) (v := ?_) (a' := ?_) #[true, true, true, true, true, true, true, true, true, false, true, false, true, true, true, true, false, false, false, false, false, false] rfl rfl (take_ofW HT_.out HW_.out (by kernel_rfl)) (fun _ _ _ h => h) (Or.inl ⟨by rfl, ?_⟩) hHeld ?_ ?_
                rotate_left; (· (rintro w' ⟨s0, s1, s2, s3, s4, s5, s6, s7, s8, s9, s10, s11⟩; go_simp; with_reducible rfl)); rotate_left; (· (simp only [Act.put, sp1, sp2, sp3, i64_w, i32_w]; rfl))
                refine take_ (i := 9) (N := some 42) (v := ?_) (a' := ?_) #[true, true, true, true, true, true, true, true, true, true, true, false, true, true, true, true, false, false, false, false, false, false] rfl rfl (take_ofW HT_.out HW_.out (by kernel_rfl)) (fun _ _ _ h => h) (Or.inl ⟨by rfl, ?_⟩) hHeld ?_ ?_
                rotate_left; (· (rintro w' ⟨s0, s1, s2, s3, s4, s5, s6, s7, s8, s9, s10, s11⟩; go_simp; with_reducible rfl)); rotate_left; (· (simp only [Act.put, sp1, sp2, sp3, i64_w, i32_w]; rfl))
                refine pure_ (i := 11) (N := some 44) (v := ?_) (a' := ?_) #[true, true, true, true, true, true, true, true, true, true, true, true, true, true, true, true, false, false, false, false, false, false] rfl rfl (any_of HT_.out (by kernel_rfl)) (fun _ _ _ h => h) (Or.inl ⟨by rfl, ?_⟩) ?_ ?_
                rotate_left; (· (intro w'; go_simp; with_reducible rfl)); rotate_left; (· (simp only [Act.put, sp1, sp2, sp3, i64_w, i32_w]; rfl))
                refine take_ (i := 16) (N := some 49) (v := ?_) (a' := ?_) #[true, true, true, true, true, true, true, true, true, true, true, true, true, true, true, true, true, false, false, false, false, false] rfl rfl (take_ofW HT_.out HW_.out (by kernel_rfl)) (fun _ _ _ h => h) (Or.inl ⟨by rfl, ?_⟩) hHeld ?_ ?_
                rotate_left; (· (rintro w' ⟨s0, s1, s2, s3, s4, s5, s6, s7, s8, s9, s10, s11⟩; go_simp; with_reducible rfl)); rotate_left; (· (simp only [Act.put, sp1, sp2, sp3, i64_w, i32_w]; rfl))
                refine pure_ (i := 17) (N := some 50) (v := ?_) (a' := ?_) #[true, true, true, true, true, true, true, true, true, true, true, true, true, true, true, true, true, true, false, false, false, false] rfl rfl (any_of HT_.out (by kernel_rfl)) (fun _ _ _ h => h) (Or.inl ⟨by rfl, ?_⟩) ?_ ?_
                rotate_left; (· (intro w'; go_simp; with_reducible rfl)); rotate_left; (· (simp only [Act.put, sp1, sp2, sp3, i64_w, i32_w]; rfl))
                refine pure_ (i := 18) (N := some 51) (v := ?_) (a' := ?_) #[true, true, true, true, true, true, true, true, true, true, true, true, true, true, true, true, true, true, true, false, false, false] rfl rfl (any_of HT_.out (by kernel_rfl)) (fun _ _ _ h => h) (Or.inl ⟨by rfl, ?_⟩) ?_ ?_
                rotate_left; (· (intro w'; go_simp; with_reducible rfl)); rotate_left; (· (simp only [Act.put, sp1, sp2, sp3, i64_w, i32_w]; rfl))
                refine pure_ (i := 19) (N := some 52) (v := ?_) (a' := ?_) #[true, true, true, true, true, true, true, true, true, true, true, true, true, true, true, true, true, true, true, true, false, false] rfl rfl (any_of HT_.out (by kernel_rfl)) (fun _ _ _ h => h) (Or.inl ⟨by rfl, ?_⟩) ?_ ?_
                rotate_left; (· (intro w'; go_simp; with_reducible rfl)); rotate_left; (· (simp only [Act.put, sp1, sp2, sp3, i64_w, i32_w]; rfl))
                refine pure_ (i := 20) (N := some 53) (v := ?_) (a' := ?_) #[true, true, true, true, true, true, true, true, true, true, true, true, true, true, true, true, true, true, true, true, true, false] rfl rfl (any_of HT_.out (by kernel_rfl)) (fun _ _ _ h => h) (Or.inl ⟨by rfl, ?_⟩) ?_ ?_
                rotate_left; (· (intro w'; go_simp; with_reducible rfl)); rotate_left; (· (simp only [Act.put, sp1, sp2, sp3, i64_w, i32_w]; rfl))
                refine last_ (i := 21) (N := none) #[true, true, true, true, true, true, true, true, true, true, true, true, true, true, true, true, true, true, true, true, true, true] rfl rfl (one_of HT_.out (by kernel_rfl)) (by decide) (fun K hK => ?_)
                refine skip_ (w1 := ?_) (by rfl) rfl ?_ ?_
                rotate_left
                ·go_simp
                 rfl
                refine hK.out _ _ ?_
                clear hK K
                refine done_ (done_of HT_.out (by kernel_rfl)) ?_
                try go_wp2
                have n0_ : Aside0 (Kd.R k31 31 (w27.setCell ⟨go20, (x24_2 : Int).toNat * 4, none⟩ (.int .i64 (wrap64 (((rd_T31 x6_2 x24_2).f0) + (wrap64 (Int.tdiv (wrap64 (((rd_T31 x6_2 x24_2).f1) * a1)) ((rd_T31 x6_2 x24_2).f2))))))) w.heap.size (fun _ => True) (.slice (some ⟨go20, 0, none⟩) x6_2.length co14) y126) := ⟨by (with_reducible repeat (first | apply Kd.R_alloc | apply Kd.R_drewN | apply Kd.R_drew)); exact HQ28.out⟩
                have n1_ : Aside0 (Below w.heap.size w (w27.setCell ⟨go20, (x24_2 : Int).toNat * 4, none⟩ (.int .i64 (wrap64 (((rd_T31 x6_2 x24_2).f0) + (wrap64 (Int.tdiv (wrap64 (((rd_T31 x6_2 x24_2).f1) * a1)) ((rd_T31 x6_2 x24_2).f2)))))))) := ⟨blw⟩
                (try clear HO_6)
                (try clear HB)
                generalize (w27.setCell ⟨go20, (x24_2 : Int).toNat * 4, none⟩ (.int .i64 (wrap64 (((rd_T31 x6_2 x24_2).f0) + (wrap64 (Int.tdiv (wrap64 (((rd_T31 x6_2 x24_2).f1) * a1)) ((rd_T31 x6_2 x24_2).f2))))))) = w29 at n0_ n1_ ⊢
                have HO_6 := n0_
                have HB := n1_
                clear n0_ n1_
                have n0_ := Aside0.mk (Kd.R_drew HO_6.out)
                have n1_ := Aside0.mk (below_drew1 HB.out)
                clear HO_6
                clear HB
                have HO_6 := n0_
                have HB := n1_
                clear n0_ n1_
                have p127 : 0 ≤ ((ji22) : Int) := odt
                have q127 : (ji22) < (y126.length : Int) := (by have h_ : ((ji22) : Int) < ((x6_2.length : Int) : Int) := odt; first | (have e_ := (Kd.R_reads' HO_6.out).1; omega) | simpa only [Ny126.out, List.length_set] using h_)
                have ql127 : (((ji22) : Int) < ((x6_2.length : Int) : Int)) = True := eq_true odt
                obtain ⟨ad127, e127, hx127_0, hx127_1, hx127_2, hx127_3⟩ := at_T31 (Kd.R_reads' HO_6.out).2.2 (ji22) p127 q127
                obtain rfl : (⟨go20, 0, none⟩ : Addr) = ad127 := (by injection e127)
                (first | simp only [add_plain] at hx127_0 | simp only [add_at] at hx127_0 | simp only [Addr.add, Nat.zero_add] at hx127_0 | skip)
                (first | simp only [add_plain] at hx127_1 | simp only [add_at] at hx127_1 | simp only [Addr.add, Nat.zero_add] at hx127_1 | skip)
                (first | simp only [add_plain] at hx127_2 | simp only [add_at] at hx127_2 | simp only [Addr.add, Nat.zero_add] at hx127_2 | skip)
                (first | simp only [add_plain] at hx127_3 | simp only [add_at] at hx127_3 | simp only [Addr.add, Nat.zero_add] at hx127_3 | skip)
                replace p127 := eq_true p127
                replace q127 := eq_true q127
                have p128 : 0 ≤ ((ji22) : Int) := odt
                have q128 : (ji22) < (y126.length : Int) := (by have h_ : ((ji22) : Int) < ((x6_2.length : Int) : Int) := odt; first | (have e_ := (Kd.R_reads' HO_6.out).1; omega) | simpa only [Ny126.out, List.length_set] using h_)
                have ql128 : (((ji22) : Int) < ((x6_2.length : Int) : Int)) = True := eq_true odt
                obtain ⟨ad128, e128, hx128_0, hx128_1, hx128_2, hx128_3⟩ := at_T31 (Kd.R_reads' HO_6.out).2.2 (ji22) p128 q128
                obtain rfl : (⟨go20, 0, none⟩ : Addr) = ad128 := (by injection e128)
                (first | simp only [add_plain] at hx128_0 | simp only [add_at] at hx128_0 | simp only [Addr.add, Nat.zero_add] at hx128_0 | skip)
                (first | simp only [add_plain] at hx128_1 | simp only [add_at] at hx128_1 | simp only [Addr.add, Nat.zero_add] at hx128_1 | skip)
                (first | simp only [add_plain] at hx128_2 | simp only [add_at] at hx128_2 | simp only [Addr.add, Nat.zero_add] at hx128_2 | skip)
                (first | simp only [add_plain] at hx128_3 | simp only [add_at] at hx128_3 | simp only [Addr.add, Nat.zero_add] at hx128_3 | skip)
                replace p128 := eq_true p128
                replace q128 := eq_true q128
                have p129 : 0 ≤ (x24_2 : Int) := odt
                have q129 : x24_2 < (y126.length : Int) := (by have h_ : (x24_2 : Int) < ((x6_2.length : Int) : Int) := odt; first | (have e_ := (Kd.R_reads' HO_6.out).1; omega) | simpa only [Ny126.out, List.length_set] using h_)
                have ql129 : ((x24_2 : Int) < ((x6_2.length : Int) : Int)) = True := eq_true odt
                obtain ⟨ad129, e129, hx129_0, hx129_1, hx129_2, hx129_3⟩ := at_T31 (Kd.R_reads' HO_6.out).2.2 x24_2 p129 q129
                obtain rfl : (⟨go20, 0, none⟩ : Addr) = ad129 := (by injection e129)
                (first | simp only [add_plain] at hx129_0 | simp only [add_at] at hx129_0 | simp only [Addr.add, Nat.zero_add] at hx129_0 | skip)
                (first | simp only [add_plain] at hx129_1 | simp only [add_at] at hx129_1 | simp only [Addr.add, Nat.zero_add] at hx129_1 | skip)
                (first | simp only [add_plain] at hx129_2 | simp only [add_at] at hx129_2 | simp only [Addr.add, Nat.zero_add] at hx129_2 | skip)
                (first | simp only [add_plain] at hx129_3 | simp only [add_at] at hx129_3 | simp only [Addr.add, Nat.zero_add] at hx129_3 | skip)
                replace p129 := eq_true p129
                replace q129 := eq_true q129
                refine start_ (n := 20) (S := fun w' => w'.cell? ⟨go20, ((ji22)).toNat * 4, none⟩ = some (.int .i64 ((rd_T31 y126 (ji22)).f0)) ∧ w'.cell? ⟨go20, ((ji22)).toNat * 4 + 1, none⟩ = some (.int .i64 ((rd_T31 y126 (ji22)).f1)) ∧ w'.cell? ⟨go20, ((ji22)).toNat * 4 + 2, none⟩ = some (.int .i64 ((rd_T31 y126 (ji22)).f2)) ∧ w'.cell? ⟨go20, ((ji22)).toNat * 4 + 3, none⟩ = some (.int .i64 ((rd_T31 y126 (ji22)).f3)) ∧ w'.cell? ⟨go20, ((ji22)).toNat * 4, none⟩ = some (.int .i64 ((rd_T31 y126 (ji22)).f0)) ∧ w'.cell? ⟨go20, ((ji22)).toNat * 4 + 1, none⟩ = some (.int .i64 ((rd_T31 y126 (ji22)).f1)) ∧ w'.cell? ⟨go20, ((ji22)).toNat * 4 + 2, none⟩ = some (.int .i64 ((rd_T31 y126 (ji22)).f2)) ∧ w'.cell? ⟨go20, ((ji22)).toNat * 4 + 3, none⟩ = some (.int .i64 ((rd_T31 y126 (ji22)).f3)) ∧ w'.cell? ⟨go20, (x24_2).toNat * 4, none⟩ = some (.int .i64 ((rd_T31 y126 x24_2).f0)) ∧ w'.cell? ⟨go20, (x24_2).toNat * 4 + 1, none⟩ = some (.int .i64 ((rd_T31 y126 x24_2).f1)) ∧ w'.cell? ⟨go20, (x24_2).toNat * 4 + 2, none⟩ = some (.int .i64 ((rd_T31 y126 x24_2).f2)) ∧ w'.cell? ⟨go20, (x24_2).toNat * 4 + 3, none⟩ = some (.int .i64 ((rd_T31 y126 x24_2).f3))) (ds := []) #[false, false, false, false, false, false, false, false, false, false, false, false, false, false, false, false, false, false, false, false] (by kernel_rfl) rfl rfl ⟨hx127_0, hx127_1, hx127_2, hx127_3, hx128_0, hx128_1, hx128_2, hx128_3, hx129_0, hx129_1, hx129_2, hx129_3⟩ (fun hHeld => ?_); refine with_tabW spec_l10Move.tab10 spec_l10Move.bits10 (fun HT_ HW_ => ?_)
                generalize w29.drew = w30 at HO_6 HB HQ28 hx127_0 hx127_1 hx127_2 hx127_3 hx128_0 hx128_1 hx128_2 hx128_3 hx129_0 hx129_1 hx129_2 hx129_3 hHeld ⊢
                refine pure_ (i := 0) (N := some 56) (v := ?_) (a' := ?_) #[true, false, false, false, false, false, false, false, false, false, false, false, false, false, false, false, false, false, false, false] rfl rfl (any_of HT_.out (by kernel_rfl)) (fun _ _ _ h => h) (Or.inl ⟨by rfl, ?_⟩) ?_ ?_
                rotate_left; (· (intro w'; go_simp; with_reducible rfl)); rotate_left; (· (simp only [Act.put, sp1, sp2, sp3, i64_w, i32_w]; rfl))
                refine pure_ (i := 1) (N := some 57) (v := ?_) (a' := ?_) #[true, true, false, false, false, false, false, false, false, false, false, false, false, false, false, false, false, false, false, false] rfl rfl (any_of HT_.out (by kernel_rfl)) (fun _ _ _ h => h) (Or.inl ⟨by rfl, ?_⟩) ?_ ?_
                rotate_left; (· (intro w'; go_simp; with_reducible rfl)); rotate_left; (· (simp only [Act.put, sp1, sp2, sp3, i64_w, i32_w]; rfl))
                refine pure_ (i := 2) (N := some 58) (v := ?_) (a' := ?_) #[true, true, true, false, false, false, false, false, false, false, false, false, false, false, false, false, false, false, false, false] rfl rfl (any_of HT_.out (by kernel_rfl)) (fun _ _ _ h => h) (Or.inl ⟨by rfl, ?_⟩) ?_ ?_
                rotate_left; (· (intro w'; go_simp; with_reducible rfl)); rotate_left; (· (simp only [Act.put, sp1, sp2, sp3, i64_w, i32_w]; rfl))
                refine pure_ (i := 3) (N := some 59) (v := ?_) (a' := ?_) #[true, true, true, true, false, false, false, false, false, false, false, false, false, false, false, false, false, false, false, false] rfl rfl (any_of HT_.out (by kernel_rfl)) (fun _ _ _ h => h) (Or.inl ⟨by rfl, ?_⟩) ?_ ?_
                rotate_left; (· (intro w'; go_simp; with_reducible rfl)); rotate_left; (· (simp only [Act.put, sp1, sp2, sp3, i64_w, i32_w]; rfl))
                refine pure_ (i := 4) (N := some 60) (v := ?_) (a' := ?_) #[true, true, true, true, true, false, false, false, false, false, false, false, false, false, false, false, false, false, false, false] rfl rfl (any_of HT_.out (by kernel_rfl)) (fun _ _ _ h => h) (Or.inl ⟨by rfl, ?_⟩) ?_ ?_
                rotate_left; (· (intro w'; go_simp; with_reducible rfl)); rotate_left; (· (simp only [Act.put, sp1, sp2, sp3, i64_w, i32_w]; rfl))
                refine pure_ (i := 6) (N := some 62) (v := ?_) (a' := ?_) #[true, true, true, true, true, false, true, false, false, false, false, false, false, false, false, false, false, false, false, false] rfl rfl (any_of HT_.out (by kernel_rfl)) (fun _ _ _ h => h) (Or.inl ⟨by rfl, ?_⟩) ?_ ?_
                rotate_left; (· (intro w'; go_simp; with_reducible rfl)); rotate_left; (· (simp only [Act.put, sp1, sp2, sp3, i64_w, i32_w]; rfl))
                refine pure_ (i := 7) (N := some 63) (v := ?_) (a' := ?_) #[true, true, true, true, true, false, true, true, false, false, false, false, false, false, false, false, false, false, false, false] rfl rfl (any_of HT_.out (by kernel_rfl)) (fun _ _ _ h => h) (Or.inl ⟨by rfl, ?_⟩) ?_ ?_
                rotate_left; (· (intro w'; go_simp; with_reducible rfl)); rotate_left; (· (simp only [Act.put, sp1, sp2, sp3, i64_w, i32_w]; rfl))
                refine pure_ (i := 8) (N := some 64) (v := ?_) (a' := ?_) #[true, true, true, true, true, false, true, true, true, false, false, false, false, false, false, false, false, false, false, false] rfl rfl (any_of HT_.out (by kernel_rfl)) (fun _ _ _ h => h) (Or.inl ⟨by rfl, ?_⟩) ?_ ?_
                rotate_left; (· (intro w'; go_simp; with_reducible rfl)); rotate_left; (· (simp only [Act.put, sp1, sp2, sp3, i64_w, i32_w]; rfl))
                refine pure_ (i := 9) (N := some 65) (v := ?_) (a' := ?_) #[true, true, true, true, true, false, true, true, true, true, false, false, false, false, false, false, false, false, false, false] rfl rfl (any_of HT_.out (by kernel_rfl)) (fun _ _ _ h => h) (Or.inl ⟨by rfl, ?_⟩) ?_ ?_
                rotate_left; (· (intro w'; go_simp; with_reducible rfl)); rotate_left; (· (simp only [Act.put, sp1, sp2, sp3, i64_w, i32_w]; rfl))
                refine pure_ (i := 10) (N := some 66) (v := ?_) (a' := ?_) #[true, true, true, true, true, false, true, true, true, true, true, false, false, false, false, false, false, false, false, false] rfl rfl (any_of HT_.out (by kernel_rfl)) (fun _ _ _ h => h) (Or.inl ⟨by rfl, ?_⟩) ?_ ?_
                rotate_left; (· (intro w'; go_simp; with_reducible rfl)); rotate_left; (· (simp only [Act.put, sp1, sp2, sp3, i64_w, i32_w]; rfl))
                refine pure_ (i := 13) (N := some 69) (v := ?_) (a' := ?_) #[true, true, true, true, true, false, true, true, true, true, true, false, false, true, false, false, false, false, false, false] rfl rfl (any_of HT_.out (by kernel_rfl)) (fun _ _ _ h => h) (Or.inl ⟨by rfl, ?_⟩) ?_ ?_
                rotate_left; (· (intro w'; go_simp; with_reducible rfl)); rotate_left; (· (simp only [Act.put, sp1, sp2, sp3, i64_w, i32_w]; rfl))
                refine pure_ (i := 14) (N := some 70) (v := ?_) (a' := ?_) #[true, true, true, true, true, false, true, true, true, true, true, false, false, true, true, false, false, false, false, false] rfl rfl (any_of HT_.out (by kernel_rfl)) (fun _ _ _ h => h) (Or.inl ⟨by rfl, ?_⟩) ?_ ?_
                rotate_left; (· (intro w'; go_simp; with_reducible rfl)); rotate_left; (· (simp only [Act.put, sp1, sp2, sp3, i64_w, i32_w]; rfl))
                refine pure_ (i := 15) (N := some 71) (v := ?_) (a' := ?_) #[true, true, true, true, true, false, true, true, true, true, true, false, false, true, true, true, false, false, false, false] rfl rfl (any_of HT_.out (by kernel_rfl)) (fun _ _ _ h => h) (Or.inl ⟨by rfl, ?_⟩) ?_ ?_
                rotate_left; (· (intro w'; go_simp; with_reducible rfl)); rotate_left; (· (simp only [Act.put, sp1, sp2, sp3, i64_w, i32_w]; rfl))
                refine pure_ (i := 16) (N := some 72) (v := ?_) (a' := ?_) #[true, true, true, true, true, false, true, true, true, true, true, false, false, true, true, true, true, false, false, false] rfl rfl (any_of HT_.out (by kernel_rfl)) (fun _ _ _ h => h) (Or.inl ⟨by rfl, ?_⟩) ?_ ?_
                rotate_left; (· (intro w'; go_simp; with_reducible rfl)); rotate_left; (· (simp only [Act.put, sp1, sp2, sp3, i64_w, i32_w]; rfl))
                refine take_ (i := 5) (N := some 61) (v := ?_) (a' := ?_) #[true, true, true, true, true, true, true, true, true, true, true, false, false, true, true, true, true, false, false, false] rfl rfl (take_ofW HT_.out HW_.out (by kernel_rfl)) (fun _ _ _ h => h) (Or.inl ⟨by rfl, ?_⟩) hHeld ?_ ?_
                rotate_left; (· (rintro w' ⟨s0, s1, s2, s3, s4, s5, s6, s7, s8, s9, s10, s11⟩; go_simp; with_reducible rfl)); rotate_left; (· (simp only [Act.put, sp1, sp2, sp3, i64_w, i32_w]; rfl))
                refine take_ (i := 11) (N := some 67) (v := ?_) (a' := ?_) #[true, true, true, true, true, true, true, true, true, true, true, true, false, true, true, true, true, false, false, false] rfl rfl (take_ofW HT_.out HW_.out (by kernel_rfl)) (fun _ _ _ h => h) (Or.inl ⟨by rfl, ?_⟩) hHeld ?_ ?_
                rotate_left; (· (rintro w' ⟨s0, s1, s2, s3, s4, s5, s6, s7, s8, s9, s10, s11⟩; go_simp; with_reducible rfl)); rotate_left; (· (simp only [Act.put, sp1, sp2, sp3, i64_w, i32_w]; rfl))
                refine pure_ (i := 12) (N := some 68) (v := ?_) (a' := ?_) #[true, true, true, true, true, true, true, true, true, true, true, true, true, true, true, true, true, false, false, false] rfl rfl (any_of HT_.out (by kernel_rfl)) (fun _ _ _ h => h) (Or.inl ⟨by rfl, ?_⟩) ?_ ?_
                rotate_left; (· (intro w'; go_simp; with_reducible rfl)); rotate_left; (· (simp only [Act.put, sp1, sp2, sp3, i64_w, i32_w]; rfl))
                refine take_ (i := 17) (N := some 73) (v := ?_) (a' := ?_) #[true, true, true, true, true, true, true, true, true, true, true, true, true, true, true, true, true, true, false, false] rfl rfl (take_ofW HT_.out HW_.out (by kernel_rfl)) (fun _ _ _ h => h) (Or.inl ⟨by rfl, ?_⟩) hHeld ?_ ?_
                rotate_left; (· (rintro w' ⟨s0, s1, s2, s3, s4, s5, s6, s7, s8, s9, s10, s11⟩; go_simp; with_reducible rfl)); rotate_left; (· (simp only [Act.put, sp1, sp2, sp3, i64_w, i32_w]; rfl))
                refine pure_ (i := 18) (N := some 74) (v := ?_) (a' := ?_) #[true, true, true, true, true, true, true, true, true, true, true, true, true, true, true, true, true, true, true, false] rfl rfl (any_of HT_.out (by kernel_rfl)) (fun _ _ _ h => h) (Or.inl ⟨by rfl, ?_⟩) ?_ ?_
                rotate_left; (· (intro w'; go_simp; with_reducible rfl)); rotate_left; (· (simp only [Act.put, sp1, sp2, sp3, i64_w, i32_w]; rfl))
                refine pure_ (i := 19) (N := some 8) (v := ?_) (a' := ?_) #[true, true, true, true, true, true, true, true, true, true, true, true, true, true, true, true, true, true, true, true] rfl rfl (any_of HT_.out (by kernel_rfl)) (fun _ _ _ h => h) (Or.inl ⟨by rfl, ?_⟩) ?_ ?_
                rotate_left; (· (intro w'; go_simp; with_reducible rfl)); rotate_left; (· (simp only [Act.put, sp1, sp2, sp3, i64_w, i32_w]; rfl))
                refine done_ (done_of HT_.out (by kernel_rfl)) ?_
                have p130 : 0 ≤ (x24_2 : Int) := odt
                have q130 : x24_2 < (y126.length : Int) := (by have h_ : (x24_2 : Int) < ((x6_2.length : Int) : Int) := odt; first | (have e_ := (Kd.R_reads' HO_6.out).1; omega) | simpa only [Ny126.out, List.length_set] using h_)
                have ql130 : ((x24_2 : Int) < ((x6_2.length : Int) : Int)) = True := eq_true odt
                obtain ⟨ad130, e130, hx130_0, hx130_1, hx130_2, hx130_3⟩ := at_T31 (Kd.R_reads' HO_6.out).2.2 x24_2 p130 q130
                obtain rfl : (⟨go20, 0, none⟩ : Addr) = ad130 := (by injection e130)
                (first | simp only [add_plain] at hx130_0 | simp only [add_at] at hx130_0 | simp only [Addr.add, Nat.zero_add] at hx130_0 | skip)
                (first | simp only [add_plain] at hx130_1 | simp only [add_at] at hx130_1 | simp only [Addr.add, Nat.zero_add] at hx130_1 | skip)
                (first | simp only [add_plain] at hx130_2 | simp only [add_at] at hx130_2 | simp only [Addr.add, Nat.zero_add] at hx130_2 | skip)
                (first | simp only [add_plain] at hx130_3 | simp only [add_at] at hx130_3 | simp only [Addr.add, Nat.zero_add] at hx130_3 | skip)
                replace p130 := eq_true p130
                replace q130 := eq_true q130
                have p26 : 0 ≤ (x24_2 : Int) := odt
                have q26 : (x24_2 : Int) < ((x6_2.length : Int) : Int) := odt
                obtain ⟨ce26, hcl26, hM26, hcc26, hfr26⟩ := Kd.R_elem HO_6.out z31 (x24_2 : Int) p26 q26
                obtain rfl := k31_openM hM26
                have hx26_0 : w30.cell? ⟨go20, (x24_2 : Int).toNat * 4, none⟩ = some (.int .i64 ((rd_T31 y126 x24_2).f0)) := hcc26 0 _ rfl
                have hx26_1 : w30.cell? ⟨go20, (x24_2 : Int).toNat * 4 + 1, none⟩ = some (.int .i64 ((rd_T31 y126 x24_2).f1)) := hcc26 1 _ rfl
                have hx26_2 : w30.cell? ⟨go20, (x24_2 : Int).toNat * 4 + 2, none⟩ = some (.int .i64 ((rd_T31 y126 x24_2).f2)) := hcc26 2 _ rfl
                have hx26_3 : w30.cell? ⟨go20, (x24_2 : Int).toNat * 4 + 3, none⟩ = some (.int .i64 ((rd_T31 y126 x24_2).f3)) := hcc26 3 _ rfl
                have hf26_0 : w30.frozen? ⟨go20, (x24_2 : Int).toNat * 4, none⟩ = false := hfr26 0
                have hf26_1 : w30.frozen? ⟨go20, (x24_2 : Int).toNat * 4 + 1, none⟩ = false := hfr26 1
                have hf26_2 : w30.frozen? ⟨go20, (x24_2 : Int).toNat * 4 + 2, none⟩ = false := hfr26 2
                have hf26_3 : w30.frozen? ⟨go20, (x24_2 : Int).toNat * 4 + 3, none⟩ = false := hfr26 3
                clear hcl26 hcc26 hfr26 hM26
                replace p26 := eq_true p26
                replace q26 := eq_true q26
                have HX31 := Aside0.mk (show Kd.R k31 31 w30 w.heap.size (fun _ => True) (.slice (some ⟨go20, 0, none⟩) x6_2.length co14) y126 from (by (with_reducible repeat (first | apply Kd.R_alloc | apply Kd.R_drewN | apply Kd.R_drew)); exact HO_6.out))
                obtain ⟨ce31, hcl31, hM31, hcc31, hfr31⟩ := Kd.R_elem HX31.out z31 (x24_2 : Int) odt (by have h_ : (x24_2 : Int) < ((x6_2.length : Int) : Int) := odt; first | exact h_ | (have e_ := (Kd.R_reads' HO_6.out).1; omega) | simpa using h_)
                obtain rfl := k31_openM hM31
                have HP31 := Kd.R_seg HX31.out (x24_2 : Int) odt (by have h_ : (x24_2 : Int) < ((x6_2.length : Int) : Int) := odt; first | exact h_ | (have e_ := (Kd.R_reads' HO_6.out).1; omega) | simpa using h_) (seg := [.int .i64 (wrap64 ((wrap64 (((rd_T31 y126 (ji22)).f0) + ((rd_T31 y126 (ji22)).f3))) + ((rd_T31 y126 x24_2).f3)))]) (j := 0) hcl31 hcc31 (show 1 ≤ 4 from by decide) (x' := (⟨wrap64 ((wrap64 (((rd_T31 y126 (ji22)).f0) + ((rd_T31 y126 (ji22)).f3))) + ((rd_T31 y126 x24_2).f3)), (rd_T31 y126 x24_2).f1, (rd_T31 y126 x24_2).f2, (rd_T31 y126 x24_2).f3⟩ : S31)) (k31_mkM _ _ _ (⟨wrap64 ((wrap64 (((rd_T31 y126 (ji22)).f0) + ((rd_T31 y126 (ji22)).f3))) + ((rd_T31 y126 x24_2).f3)), (rd_T31 y126 x24_2).f1, (rd_T31 y126 x24_2).f2, (rd_T31 y126 x24_2).f3⟩ : S31) ) (fun _ hk => hk)
                have hx31_0 := hcc31 0 _ rfl
                (try simp only [show (k31).sz = 4 from rfl, Nat.mul_one, Nat.add_zero] at hx31_0)
                have hf31_0 := hfr31 0
                (try simp only [show (k31).sz = 4 from rfl, Nat.mul_one, Nat.add_zero] at hf31_0)
                clear hcl31 hcc31 hfr31 hM31
                try go_wp2_with (first | ((with_reducible refine gate_store (t := 3) (p := 86) rfl ?_); refine store_event (t := 3) (p := 86) (v := ?vo_w32) (w1 := (w30.setCell ⟨go20, (x24_2 : Int).toNat * 4, none⟩ (.int .i64 (wrap64 ((wrap64 (((rd_T31 y126 (ji22)).f0) + ((rd_T31 y126 (ji22)).f3))) + ((rd_T31 y126 x24_2).f3)))))) ?hg ?ho ?hn ?hr ?_; (case ho => rfl); (case hg => rfl); (case hn => rfl); (case hr => first | (go_simp; done) | (go_simp; rfl)); intro w32 hw; have hg : w30.grownBy w32 (some go20) := (by rw [hw]; exact HP31.2); have hp_ : Kd.R k31 31 w32 w.heap.size (fun _ => True) (.slice (some ⟨go20, 0, none⟩) x6_2.length co14) y131 := (by rw [hw, Ny131.out]; exact HP31.1); clear HP31; have n0_ := Aside0.mk (hp_); have n1_ := Aside0.mk ((by rw [hw]; exact below_set (HB.out) GB20.out : Below w.heap.size w w32)); clear HO_6; clear HB; have HO_6 := n0_; have HB := n1_; clear n0_ n1_; clear hg hw hp_))
                (try simp only [← hl6_2])
                go_roundg k2
                case measure => have := HJ2.out; have := HK2.out; omega
                case rel => exact ⟨(y131), (wrap64 (x24_2 + 1)), (by first | rfl | (simp; done) | (simp [*]; done)), H', ⟨by have := HJ2.out; have := HK2.out; omega⟩, ⟨by (try simp only [hl6_2]); (with_reducible repeat (first | apply Kd.R_alloc | apply Kd.R_drewN | apply Kd.R_drew)); exact HO_6.out⟩, ⟨blw⟩⟩
               ·rw [if_neg c25] at H
                have c25b0 : decide (((rd_T31 y126 x24_2).f0) < (wrap64 ((wrap64 (((rd_T31 y126 (ji22)).f0) + ((rd_T31 y126 (ji22)).f3))) + ((rd_T31 y126 x24_2).f3)))) = false := decide_eq_false c25
                clear c25
                have H' := Aside0.mk H
                clear H
                have p122 : 0 ≤ (x24_2 : Int) := odt
                have q122 : x24_2 < (x6_2.length : Int) := odt
                obtain ⟨ad122, e122, hx122_0, hx122_1, hx122_2, hx122_3⟩ := at_T31 (Kd.R_reads' HO_6.out).2.2 x24_2 p122 q122
                cases e122
                replace p122 := eq_true p122
                replace q122 := eq_true q122
                try go_wp2
                have n0_ := Aside0.mk (Kd.R_drew HO_6.out)
                have n1_ := Aside0.mk (below_drew1 HB.out)
                clear HO_6
                clear HB
                have HO_6 := n0_
                have HB := n1_
                clear n0_ n1_
                have p123 : 0 ≤ (x24_2 : Int) := odt
                have q123 : x24_2 < (x6_2.length : Int) := odt
                obtain ⟨ad123, e123, hx123_0, hx123_1, hx123_2, hx123_3⟩ := at_T31 (Kd.R_reads' HO_6.out).2.2 x24_2 p123 q123
                obtain rfl : ad122 = ad123 := (by injection e123)
                replace p123 := eq_true p123
                replace q123 := eq_true q123
                have p124 : 0 ≤ (x24_2 : Int) := odt
                have q124 : x24_2 < (x6_2.length : Int) := odt
                obtain ⟨ad124, e124, hx124_0, hx124_1, hx124_2, hx124_3⟩ := at_T31 (Kd.R_reads' HO_6.out).2.2 x24_2 p124 q124
                obtain rfl : ad122 = ad124 := (by injection e124)
                replace p124 := eq_true p124
                replace q124 := eq_true q124
                have p125 : 0 ≤ (x24_2 : Int) := odt
                have q125 : x24_2 < (x6_2.length : Int) := odt
                obtain ⟨ad125, e125, hx125_0, hx125_1, hx125_2, hx125_3⟩ := at_T31 (Kd.R_reads' HO_6.out).2.2 x24_2 p125 q125
                obtain rfl : ad122 = ad125 := (by injection e125)
                replace p125 := eq_true p125
                replace q125 := eq_true q125
                have p20 : 0 ≤ (x24_2 : Int) := odt
                have q20 : (x24_2 : Int) < ((x6_2.length : Int) : Int) := odt
                obtain ⟨go20, co20, eo20, gb20, gl20, cl20, HG20⟩ := Kd.R_form HO_6.out (by omega)
                (first | cases eo20 | (injection eo20 with ea_ en_ ec_; (first | subst ea_ | (injection ea_ with ea_; subst ea_)); subst ec_; clear en_))
                have GB20 := Aside0.mk gb20
                have GG20 := Aside0.mk HG20
                clear gb20 gl20 HG20
                (first | simp only [add_plain] at hx122_0 | skip)
                (first | simp only [add_plain] at hx122_1 | skip)
                (first | simp only [add_plain] at hx122_2 | skip)
                (first | simp only [add_plain] at hx122_3 | skip)
                (first | simp only [add_plain] at hx123_0 | skip)
                (first | simp only [add_plain] at hx123_1 | skip)
                (first | simp only [add_plain] at hx123_2 | skip)
                (first | simp only [add_plain] at hx123_3 | skip)
                (first | simp only [add_plain] at hx124_0 | skip)
                (first | simp only [add_plain] at hx124_1 | skip)
                (first | simp only [add_plain] at hx124_2 | skip)
                (first | simp only [add_plain] at hx124_3 | skip)
                (first | simp only [add_plain] at hx125_0 | skip)
                (first | simp only [add_plain] at hx125_1 | skip)
                (first | simp only [add_plain] at hx125_2 | skip)
                (first | simp only [add_plain] at hx125_3 | skip)
                obtain ⟨ce20, hcl20, hM20, hcc20, hfr20⟩ := Kd.R_elem HO_6.out z31 (x24_2 : Int) p20 q20
                obtain rfl := k31_openM hM20
                have hx20_0 : World.cell? _ ⟨go20, (x24_2 : Int).toNat * 4, none⟩ = some (.int .i64 ((rd_T31 x6_2 x24_2).f0)) := hcc20 0 _ rfl
                have hx20_1 : World.cell? _ ⟨go20, (x24_2 : Int).toNat * 4 + 1, none⟩ = some (.int .i64 ((rd_T31 x6_2 x24_2).f1)) := hcc20 1 _ rfl
                have hx20_2 : World.cell? _ ⟨go20, (x24_2 : Int).toNat * 4 + 2, none⟩ = some (.int .i64 ((rd_T31 x6_2 x24_2).f2)) := hcc20 2 _ rfl
                have hx20_3 : World.cell? _ ⟨go20, (x24_2 : Int).toNat * 4 + 3, none⟩ = some (.int .i64 ((rd_T31 x6_2 x24_2).f3)) := hcc20 3 _ rfl
                have hf20_0 : World.frozen? _ ⟨go20, (x24_2 : Int).toNat * 4, none⟩ = false := hfr20 0
                have hf20_1 : World.frozen? _ ⟨go20, (x24_2 : Int).toNat * 4 + 1, none⟩ = false := hfr20 1
                have hf20_2 : World.frozen? _ ⟨go20, (x24_2 : Int).toNat * 4 + 2, none⟩ = false := hfr20 2
                have hf20_3 : World.frozen? _ ⟨go20, (x24_2 : Int).toNat * 4 + 3, none⟩ = false := hfr20 3
                clear hcl20 hcc20 hfr20 hM20
                replace p20 := eq_true p20
                replace q20 := eq_true q20
                obtain ⟨ce34, hcl34, hM34, hcc34, hfr34⟩ := Kd.R_elem HO_6.out z31 (x24_2 : Int) odt (by have h_ : (x24_2 : Int) < ((x6_2.length : Int) : Int) := odt; first | exact h_ | (have e_ := (Kd.R_reads' HO_6.out).1; omega) | simpa using h_)
                obtain rfl := k31_openM hM34
                have HP34 := (Kd.R_seg HO_6.out (x24_2 : Int) odt (by have h_ : (x24_2 : Int) < ((x6_2.length : Int) : Int) := odt; first | exact h_ | (have e_ := (Kd.R_reads' HO_6.out).1; omega) | simpa using h_) (seg := [.int .i64 (wrap64 (((rd_T31 x6_2 x24_2).f0) + (wrap64 (Int.tdiv (wrap64 (((rd_T31 x6_2 x24_2).f1) * a1)) ((rd_T31 x6_2 x24_2).f2)))))]) (j := 0) hcl34 hcc34 (show 1 ≤ 4 from by decide) (x' := (⟨wrap64 (((rd_T31 x6_2 x24_2).f0) + (wrap64 (Int.tdiv (wrap64 (((rd_T31 x6_2 x24_2).f1) * a1)) ((rd_T31 x6_2 x24_2).f2)))), (rd_T31 x6_2 x24_2).f1, (rd_T31 x6_2 x24_2).f2, (rd_T31 x6_2 x24_2).f3⟩ : S31)) (k31_mkM _ _ _ (⟨wrap64 (((rd_T31 x6_2 x24_2).f0) + (wrap64 (Int.tdiv (wrap64 (((rd_T31 x6_2 x24_2).f1) * a1)) ((rd_T31 x6_2 x24_2).f2)))), (rd_T31 x6_2 x24_2).f1, (rd_T31 x6_2 x24_2).f2, (rd_T31 x6_2 x24_2).f3⟩ : S31) ) (fun _ hk => hk)).1
                rw [← Ny126.out] at HP34
                have HQ34 := Aside0.mk HP34
                clear hcl34 hcc34 hfr34 hM34 HP34
                refine start_ (n := 22) (S := fun w' => w'.cell? ⟨go20, ((x24_2).toNat * 4), none⟩ = some (.int .i64 ((rd_T31 x6_2 x24_2).f0)) ∧ w'.cell? ⟨go20, ((x24_2).toNat * 4) + 1, none⟩ = some (.int .i64 ((rd_T31 x6_2 x24_2).f1)) ∧ w'.cell? ⟨go20, ((x24_2).toNat * 4) + 2, none⟩ = some (.int .i64 ((rd_T31 x6_2 x24_2).f2)) ∧ w'.cell? ⟨go20, ((x24_2).toNat * 4) + 3, none⟩ = some (.int .i64 ((rd_T31 x6_2 x24_2).f3)) ∧ w'.cell? ⟨go20, ((x24_2).toNat * 4), none⟩ = some (.int .i64 ((rd_T31 x6_2 x24_2).f0)) ∧ w'.cell? ⟨go20, ((x24_2).toNat * 4) + 1, none⟩ = some (.int .i64 ((rd_T31 x6_2 x24_2).f1)) ∧ w'.cell? ⟨go20, ((x24_2).toNat * 4) + 2, none⟩ = some (.int .i64 ((rd_T31 x6_2 x24_2).f2)) ∧ w'.cell? ⟨go20, ((x24_2).toNat * 4) + 3, none⟩ = some (.int .i64 ((rd_T31 x6_2 x24_2).f3)) ∧ w'.cell? ⟨go20, ((x24_2).toNat * 4), none⟩ = some (.int .i64 ((rd_T31 x6_2 x24_2).f0)) ∧ w'.cell? ⟨go20, ((x24_2).toNat * 4) + 1, none⟩ = some (.int .i64 ((rd_T31 x6_2 x24_2).f1)) ∧ w'.cell? ⟨go20, ((x24_2).toNat * 4) + 2, none⟩ = some (.int .i64 ((rd_T31 x6_2 x24_2).f2)) ∧ w'.cell? ⟨go20, ((x24_2).toNat * 4) + 3, none⟩ = some (.int .i64 ((rd_T31 x6_2 x24_2).f3))) (ds := [21]) #[false, false, false, false, false, false, false, false, false, false, false, false, false, false, false, false, false, false, false, false, false, false] (by kernel_rfl) rfl rfl ⟨hx123_0, hx123_1, hx123_2, hx123_3, hx124_0, hx124_1, hx124_2, hx124_3, hx125_0, hx125_1, hx125_2, hx125_3⟩ (fun hHeld => ?_); refine with_tabW spec_l10Move.tab8 spec_l10Move.bits8 (fun HT_ HW_ => ?_)
                generalize wr.drew = w33 at HO_6 HB GG20 HQ34 hf20_0 hf20_1 hf20_2 hf20_3 hx122_0 hx122_1 hx122_2 hx122_3 hx123_0 hx123_1 hx123_2 hx123_3 hx124_0 hx124_1 hx124_2 hx124_3 hx125_0 hx125_1 hx125_2 hx125_3 hx20_0 hx20_1 hx20_2 hx20_3 hHeld ⊢
                refine pure_ (i := 0) (N := some 33) (v := ?_) (a' := ?_) #[true, false, false, false, false, false, false, false, false, false, false, false, false, false, false, false, false, false, false, false, false, false] rfl rfl (any_of HT_.out (by kernel_rfl)) (fun _ _ _ h => h) (Or.inl ⟨by rfl, ?_⟩) ?_ ?_
                rotate_left; (· (intro w'; go_simp; with_reducible rfl)); rotate_left; (· (simp only [Act.put, sp1, sp2, sp3, i64_w, i32_w]; rfl))
                refine pure_ (i := 1) (N := some 34) (v := ?_) (a' := ?_) #[true, true, false, false, false, false, false, false, false, false, false, false, false, false, false, false, false, false, false, false, false, false] rfl rfl (any_of HT_.out (by kernel_rfl)) (fun _ _ _ h => h) (Or.inl ⟨by rfl, ?_⟩) ?_ ?_
                rotate_left; (· (intro w'; go_simp; with_reducible rfl)); rotate_left; (· (simp only [Act.put, sp1, sp2, sp3, i64_w, i32_w]; rfl))
                refine pure_ (i := 2) (N := some 35) (v := ?_) (a' := ?_) #[true, true, true, false, false, false, false, false, false, false, false, false, false, false, false, false, false, false, false, false, false, false] rfl rfl (any_of HT_.out (by kernel_rfl)) (fun _ _ _ h => h) (Or.inl ⟨by rfl, ?_⟩) ?_ ?_
                rotate_left; (· (intro w'; go_simp; with_reducible rfl)); rotate_left; (· (simp only [Act.put, sp1, sp2, sp3, i64_w, i32_w]; rfl))
                refine pure_ (i := 3) (N := some 36) (v := ?_) (a' := ?_) #[true, true, true, true, false, false, false, false, false, false, false, false, false, false, false, false, false, false, false, false, false, false] rfl rfl (any_of HT_.out (by kernel_rfl)) (fun _ _ _ h => h) (Or.inl ⟨by rfl, ?_⟩) ?_ ?_
                rotate_left; (· (intro w'; go_simp; with_reducible rfl)); rotate_left; (· (simp only [Act.put, sp1, sp2, sp3, i64_w, i32_w]; rfl))
                refine pure_ (i := 5) (N := some 38) (v := ?_) (a' := ?_) #[true, true, true, true, false, true, false, false, false, false, false, false, false, false, false, false, false, false, false, false, false, false] rfl rfl (any_of HT_.out (by kernel_rfl)) (fun _ _ _ h => h) (Or.inl ⟨by rfl, ?_⟩) ?_ ?_
                rotate_left; (· (intro w'; go_simp; with_reducible rfl)); rotate_left; (· (simp only [Act.put, sp1, sp2, sp3, i64_w, i32_w]; rfl))
                refine pure_ (i := 6) (N := some 39) (v := ?_) (a' := ?_) #[true, true, true, true, false, true, true, false, false, false, false, false, false, false, false, false, false, false, false, false, false, false] rfl rfl (any_of HT_.out (by kernel_rfl)) (fun _ _ _ h => h) (Or.inl ⟨by rfl, ?_⟩) ?_ ?_
                rotate_left; (· (intro w'; go_simp; with_reducible rfl)); rotate_left; (· (simp only [Act.put, sp1, sp2, sp3, i64_w, i32_w]; rfl))
                refine pure_ (i := 7) (N := some 40) (v := ?_) (a' := ?_) #[true, true, true, true, false, true, true, true, false, false, false, false, false, false, false, false, false, false, false, false, false, false] rfl rfl (any_of HT_.out (by kernel_rfl)) (fun _ _ _ h => h) (Or.inl ⟨by rfl, ?_⟩) ?_ ?_
                rotate_left; (· (intro w'; go_simp; with_reducible rfl)); rotate_left; (· (simp only [Act.put, sp1, sp2, sp3, i64_w, i32_w]; rfl))
                refine pure_ (i := 8) (N := some 41) (v := ?_) (a' := ?_) #[true, true, true, true, false, true, true, true, true, false, false, false, false, false, false, false, false, false, false, false, false, false] rfl rfl (any_of HT_.out (by kernel_rfl)) (fun _ _ _ h => h) (Or.inl ⟨by rfl, ?_⟩) ?_ ?_
                rotate_left; (· (intro w'; go_simp; with_reducible rfl)); rotate_left; (· (simp only [Act.put, sp1, sp2, sp3, i64_w, i32_w]; rfl))
                refine pure_ (i := 10) (N := some 43) (v := ?_) (a' := ?_) #[true, true, true, true, false, true, true, true, true, false, true, false, false, false, false, false, false, false, false, false, false, false] rfl rfl (any_of HT_.out (by kernel_rfl)) (fun _ _ _ h => h) (Or.inl ⟨by rfl, ?_⟩) ?_ ?_
                rotate_left; (· (intro w'; go_simp; with_reducible rfl)); rotate_left; (· (simp only [Act.put, sp1, sp2, sp3, i64_w, i32_w]; rfl))
                refine pure_ (i := 12) (N := some 45) (v := ?_) (a' := ?_) #[true, true, true, true, false, true, true, true, true, false, true, false, true, false, false, false, false, false, false, false, false, false] rfl rfl (any_of HT_.out (by kernel_rfl)) (fun _ _ _ h => h) (Or.inl ⟨by rfl, ?_⟩) ?_ ?_
                rotate_left; (· (intro w'; go_simp; with_reducible rfl)); rotate_left; (· (simp only [Act.put, sp1, sp2, sp3, i64_w, i32_w]; rfl))
                refine pure_ (i := 13) (N := some 46) (v := ?_) (a' := ?_) #[true, true, true, true, false, true, true, true, true, false, true, false, true, true, false, false, false, false, false, false, false, false] rfl rfl (any_of HT_.out (by kernel_rfl)) (fun _ _ _ h => h) (Or.inl ⟨by rfl, ?_⟩) ?_ ?_
                rotate_left; (· (intro w'; go_simp; with_reducible rfl)); rotate_left; (· (simp only [Act.put, sp1, sp2, sp3, i64_w, i32_w]; rfl))
                refine pure_ (i := 14) (N := some 47) (v := ?_) (a' := ?_) #[true, true, true, true, false, true, true, true, true, false, true, false, true, true, true, false, false, false, false, false, false, false] rfl rfl (any_of HT_.out (by kernel_rfl)) (fun _ _ _ h => h) (Or.inl ⟨by rfl, ?_⟩) ?_ ?_
                rotate_left; (· (intro w'; go_simp; with_reducible rfl)); rotate_left; (· (simp only [Act.put, sp1, sp2, sp3, i64_w, i32_w]; rfl))
                refine pure_ (i := 15) (N := some 48) (v := ?_) (a' := ?_) #[true, true, true, true, false, true, true, true, true, false, true, false, true, true, true, true, false, false, false, false, false, false] rfl rfl (any_of HT_.out (by kernel_rfl)) (fun _ _ _ h => h) (Or.inl ⟨by rfl, ?_⟩) ?_ ?_
                rotate_left; (· (intro w'; go_simp; with_reducible rfl)); rotate_left; (· (simp only [Act.put, sp1, sp2, sp3, i64_w, i32_w]; rfl))
                refine take_ (i := 4) (N := some 37) (v := ?_) (a' := ?_) #[true, true, true, true, true, true, true, true, true, false, true, false, true, true, true, true, false, false, false, false, false, false] rfl rfl (take_ofW HT_.out HW_.out (by kernel_rfl)) (fun _ _ _ h => h) (Or.inl ⟨by rfl, ?_⟩) hHeld ?_ ?_
                rotate_left; (· (rintro w' ⟨s0, s1, s2, s3, s4, s5, s6, s7, s8, s9, s10, s11⟩; go_simp; with_reducible rfl)); rotate_left; (· (simp only [Act.put, sp1, sp2, sp3, i64_w, i32_w]; rfl))
                refine take_ (i := 9) (N := some 42) (v := ?_) (a' := ?_) #[true, true, true, true, true, true, true, true, true, true, true, false, true, true, true, true, false, false, false, false, false, false] rfl rfl (take_ofW HT_.out HW_.out (by kernel_rfl)) (fun _ _ _ h => h) (Or.inl ⟨by rfl, ?_⟩) hHeld ?_ ?_
                rotate_left; (· (rintro w' ⟨s0, s1, s2, s3, s4, s5, s6, s7, s8, s9, s10, s11⟩; go_simp; with_reducible rfl)); rotate_left; (· (simp only [Act.put, sp1, sp2, sp3, i64_w, i32_w]; rfl))
                refine pure_ (i := 11) (N := some 44) (v := ?_) (a' := ?_) #[true, true, true, true, true, true, true, true, true, true, true, true, true, true, true, true, false, false, false, false, false, false] rfl rfl (any_of HT_.out (by kernel_rfl)) (fun _ _ _ h => h) (Or.inl ⟨by rfl, ?_⟩) ?_ ?_
                rotate_left; (· (intro w'; go_simp; with_reducible rfl)); rotate_left; (· (simp only [Act.put, sp1, sp2, sp3, i64_w, i32_w]; rfl))
                refine take_ (i := 16) (N := some 49) (v := ?_) (a' := ?_) #[true, true, true, true, true, true, true, true, true, true, true, true, true, true, true, true, true, false, false, false, false, false] rfl rfl (take_ofW HT_.out HW_.out (by kernel_rfl)) (fun _ _ _ h => h) (Or.inl ⟨by rfl, ?_⟩) hHeld ?_ ?_
                rotate_left; (· (rintro w' ⟨s0, s1, s2, s3, s4, s5, s6, s7, s8, s9, s10, s11⟩; go_simp; with_reducible rfl)); rotate_left; (· (simp only [Act.put, sp1, sp2, sp3, i64_w, i32_w]; rfl))
                refine pure_ (i := 17) (N := some 50) (v := ?_) (a' := ?_) #[true, true, true, true, true, true, true, true, true, true, true, true, true, true, true, true, true, true, false, false, false, false] rfl rfl (any_of HT_.out (by kernel_rfl)) (fun _ _ _ h => h) (Or.inl ⟨by rfl, ?_⟩) ?_ ?_
                rotate_left; (· (intro w'; go_simp; with_reducible rfl)); rotate_left; (· (simp only [Act.put, sp1, sp2, sp3, i64_w, i32_w]; rfl))
                refine pure_ (i := 18) (N := some 51) (v := ?_) (a' := ?_) #[true, true, true, true, true, true, true, true, true, true, true, true, true, true, true, true, true, true, true, false, false, false] rfl rfl (any_of HT_.out (by kernel_rfl)) (fun _ _ _ h => h) (Or.inl ⟨by rfl, ?_⟩) ?_ ?_
                rotate_left; (· (intro w'; go_simp; with_reducible rfl)); rotate_left; (· (simp only [Act.put, sp1, sp2, sp3, i64_w, i32_w]; rfl))
                refine pure_ (i := 19) (N := some 52) (v := ?_) (a' := ?_) #[true, true, true, true, true, true, true, true, true, true, true, true, true, true, true, true, true, true, true, true, false, false] rfl rfl (any_of HT_.out (by kernel_rfl)) (fun _ _ _ h => h) (Or.inl ⟨by rfl, ?_⟩) ?_ ?_
                rotate_left; (· (intro w'; go_simp; with_reducible rfl)); rotate_left; (· (simp only [Act.put, sp1, sp2, sp3, i64_w, i32_w]; rfl))
                refine pure_ (i := 20) (N := some 53) (v := ?_) (a' := ?_) #[true, true, true, true, true, true, true, true, true, true, true, true, true, true, true, true, true, true, true, true, true, false] rfl rfl (any_of HT_.out (by kernel_rfl)) (fun _ _ _ h => h) (Or.inl ⟨by rfl, ?_⟩) ?_ ?_
                rotate_left; (· (intro w'; go_simp; with_reducible rfl)); rotate_left; (· (simp only [Act.put, sp1, sp2, sp3, i64_w, i32_w]; rfl))
                refine last_ (i := 21) (N := none) #[true, true, true, true, true, true, true, true, true, true, true, true, true, true, true, true, true, true, true, true, true, true] rfl rfl (one_of HT_.out (by kernel_rfl)) (by decide) (fun K hK => ?_)
                refine skip_ (w1 := ?_) (by rfl) rfl ?_ ?_
                rotate_left
                ·go_simp
                 rfl
                refine hK.out _ _ ?_
                clear hK K
                refine done_ (done_of HT_.out (by kernel_rfl)) ?_
                try go_wp2
                have n0_ : Aside0 (Kd.R k31 31 (w33.setCell ⟨go20, (x24_2 : Int).toNat * 4, none⟩ (.int .i64 (wrap64 (((rd_T31 x6_2 x24_2).f0) + (wrap64 (Int.tdiv (wrap64 (((rd_T31 x6_2 x24_2).f1) * a1)) ((rd_T31 x6_2 x24_2).f2))))))) w.heap.size (fun _ => True) (.slice (some ⟨go20, 0, none⟩) x6_2.length co14) y126) := ⟨by (with_reducible repeat (first | apply Kd.R_alloc | apply Kd.R_drewN | apply Kd.R_drew)); exact HQ34.out⟩
                have n1_ : Aside0 (Below w.heap.size w (w33.setCell ⟨go20, (x24_2 : Int).toNat * 4, none⟩ (.int .i64 (wrap64 (((rd_T31 x6_2 x24_2).f0) + (wrap64 (Int.tdiv (wrap64 (((rd_T31 x6_2 x24_2).f1) * a1)) ((rd_T31 x6_2 x24_2).f2)))))))) := ⟨blw⟩
                (try clear HO_6)
                (try clear HB)
                generalize (w33.setCell ⟨go20, (x24_2 : Int).toNat * 4, none⟩ (.int .i64 (wrap64 (((rd_T31 x6_2 x24_2).f0) + (wrap64 (Int.tdiv (wrap64 (((rd_T31 x6_2 x24_2).f1) * a1)) ((rd_T31 x6_2 x24_2).f2))))))) = w35 at n0_ n1_ ⊢
                have HO_6 := n0_
                have HB := n1_
                clear n0_ n1_
                have n0_ := Aside0.mk (Kd.R_drew HO_6.out)
                have n1_ := Aside0.mk (below_drew1 HB.out)
                clear HO_6
                clear HB
                have HO_6 := n0_
                have HB := n1_
                clear n0_ n1_
                have p127 : 0 ≤ ((ji22) : Int) := odt
                have q127 : (ji22) < (y126.length : Int) := (by have h_ : ((ji22) : Int) < ((x6_2.length : Int) : Int) := odt; first | (have e_ := (Kd.R_reads' HO_6.out).1; omega) | simpa only [Ny126.out, List.length_set] using h_)
                have ql127 : (((ji22) : Int) < ((x6_2.length : Int) : Int)) = True := eq_true odt
                obtain ⟨ad127, e127, hx127_0, hx127_1, hx127_2, hx127_3⟩ := at_T31 (Kd.R_reads' HO_6.out).2.2 (ji22) p127 q127
                obtain rfl : (⟨go20, 0, none⟩ : Addr) = ad127 := (by injection e127)
                (first | simp only [add_plain] at hx127_0 | simp only [add_at] at hx127_0 | simp only [Addr.add, Nat.zero_add] at hx127_0 | skip)
                (first | simp only [add_plain] at hx127_1 | simp only [add_at] at hx127_1 | simp only [Addr.add, Nat.zero_add] at hx127_1 | skip)
                (first | simp only [add_plain] at hx127_2 | simp only [add_at] at hx127_2 | simp only [Addr.add, Nat.zero_add] at hx127_2 | skip)
                (first | simp only [add_plain] at hx127_3 | simp only [add_at] at hx127_3 | simp only [Addr.add, Nat.zero_add] at hx127_3 | skip)
                replace p127 := eq_true p127
                replace q127 := eq_true q127
                have p128 : 0 ≤ ((ji22) : Int) := odt
                have q128 : (ji22) < (y126.length : Int) := (by have h_ : ((ji22) : Int) < ((x6_2.length : Int) : Int) := odt; first | (have e_ := (Kd.R_reads' HO_6.out).1; omega) | simpa only [Ny126.out, List.length_set] using h_)
                have ql128 : (((ji22) : Int) < ((x6_2.length : Int) : Int)) = True := eq_true odt
                obtain ⟨ad128, e128, hx128_0, hx128_1, hx128_2, hx128_3⟩ := at_T31 (Kd.R_reads' HO_6.out).2.2 (ji22) p128 q128
                obtain rfl : (⟨go20, 0, none⟩ : Addr) = ad128 := (by injection e128)
                (first | simp only [add_plain] at hx128_0 | simp only [add_at] at hx128_0 | simp only [Addr.add, Nat.zero_add] at hx128_0 | skip)
                (first | simp only [add_plain] at hx128_1 | simp only [add_at] at hx128_1 | simp only [Addr.add, Nat.zero_add] at hx128_1 | skip)
                (first | simp only [add_plain] at hx128_2 | simp only [add_at] at hx128_2 | simp only [Addr.add, Nat.zero_add] at hx128_2 | skip)
                (first | simp only [add_plain] at hx128_3 | simp only [add_at] at hx128_3 | simp only [Addr.add, Nat.zero_add] at hx128_3 | skip)
                replace p128 := eq_true p128
                replace q128 := eq_true q128
                have p129 : 0 ≤ (x24_2 : Int) := odt
                have q129 : x24_2 < (y126.length : Int) := (by have h_ : (x24_2 : Int) < ((x6_2.length : Int) : Int) := odt; first | (have e_ := (Kd.R_reads' HO_6.out).1; omega) | simpa only [Ny126.out, List.length_set] using h_)
                have ql129 : ((x24_2 : Int) < ((x6_2.length : Int) : Int)) = True := eq_true odt
                obtain ⟨ad129, e129, hx129_0, hx129_1, hx129_2, hx129_3⟩ := at_T31 (Kd.R_reads' HO_6.out).2.2 x24_2 p129 q129
                obtain rfl : (⟨go20, 0, none⟩ : Addr) = ad129 := (by injection e129)
                (first | simp only [add_plain] at hx129_0 | simp only [add_at] at hx129_0 | simp only [Addr.add, Nat.zero_add] at hx129_0 | skip)
                (first | simp only [add_plain] at hx129_1 | simp only [add_at] at hx129_1 | simp only [Addr.add, Nat.zero_add] at hx129_1 | skip)
                (first | simp only [add_plain] at hx129_2 | simp only [add_at] at hx129_2 | simp only [Addr.add, Nat.zero_add] at hx129_2 | skip)
                (first | simp only [add_plain] at hx129_3 | simp only [add_at] at hx129_3 | simp only [Addr.add, Nat.zero_add] at hx129_3 | skip)
                replace p129 := eq_true p129
                replace q129 := eq_true q129
                refine start_ (n := 20) (S := fun w' => w'.cell? ⟨go20, ((ji22)).toNat * 4, none⟩ = some (.int .i64 ((rd_T31 y126 (ji22)).f0)) ∧ w'.cell? ⟨go20, ((ji22)).toNat * 4 + 1, none⟩ = some (.int .i64 ((rd_T31 y126 (ji22)).f1)) ∧ w'.cell? ⟨go20, ((ji22)).toNat * 4 + 2, none⟩ = some (.int .i64 ((rd_T31 y126 (ji22)).f2)) ∧ w'.cell? ⟨go20, ((ji22)).toNat * 4 + 3, none⟩ = some (.int .i64 ((rd_T31 y126 (ji22)).f3)) ∧ w'.cell? ⟨go20, ((ji22)).toNat * 4, none⟩ = some (.int .i64 ((rd_T31 y126 (ji22)).f0)) ∧ w'.cell? ⟨go20, ((ji22)).toNat * 4 + 1, none⟩ = some (.int .i64 ((rd_T31 y126 (ji22)).f1)) ∧ w'.cell? ⟨go20, ((ji22)).toNat * 4 + 2, none⟩ = some (.int .i64 ((rd_T31 y126 (ji22)).f2)) ∧ w'.cell? ⟨go20, ((ji22)).toNat * 4 + 3, none⟩ = some (.int .i64 ((rd_T31 y126 (ji22)).f3)) ∧ w'.cell? ⟨go20, (x24_2).toNat * 4, none⟩ = some (.int .i64 ((rd_T31 y126 x24_2).f0)) ∧ w'.cell? ⟨go20, (x24_2).toNat * 4 + 1, none⟩ = some (.int .i64 ((rd_T31 y126 x24_2).f1)) ∧ w'.cell? ⟨go20, (x24_2).toNat * 4 + 2, none⟩ = some (.int .i64 ((rd_T31 y126 x24_2).f2)) ∧ w'.cell? ⟨go20, (x24_2).toNat * 4 + 3, none⟩ = some (.int .i64 ((rd_T31 y126 x24_2).f3))) (ds := []) #[false, false, false, false, false, false, false, false, false, false, false, false, false, false, false, false, false, false, false, false] (by kernel_rfl) rfl rfl ⟨hx127_0, hx127_1, hx127_2, hx127_3, hx128_0, hx128_1, hx128_2, hx128_3, hx129_0, hx129_1, hx129_2, hx129_3⟩ (fun hHeld => ?_); refine with_tabW spec_l10Move.tab10 spec_l10Move.bits10 (fun HT_ HW_ => ?_)
                generalize w35.drew = w36 at HO_6 HB HQ34 hx127_0 hx127_1 hx127_2 hx127_3 hx128_0 hx128_1 hx128_2 hx128_3 hx129_0 hx129_1 hx129_2 hx129_3 hHeld ⊢
                refine pure_ (i := 0) (N := some 56) (v := ?_) (a' := ?_) #[true, false, false, false, false, false, false, false, false, false, false, false, false, false, false, false, false, false, false, false] rfl rfl (any_of HT_.out (by kernel_rfl)) (fun _ _ _ h => h) (Or.inl ⟨by rfl, ?_⟩) ?_ ?_
                rotate_left; (· (intro w'; go_simp; with_reducible rfl)); rotate_left; (· (simp only [Act.put, sp1, sp2, sp3, i64_w, i32_w]; rfl))
                refine pure_ (i := 1) (N := some 57) (v := ?_) (a' := ?_) #[true, true, false, false, false, false, false, false, false, false, false, false, false, false, false, false, false, false, false, false] rfl rfl (any_of HT_.out (by kernel_rfl)) (fun _ _ _ h => h) (Or.inl ⟨by rfl, ?_⟩) ?_ ?_
                rotate_left; (· (intro w'; go_simp; with_reducible rfl)); rotate_left; (· (simp only [Act.put, sp1, sp2, sp3, i64_w, i32_w]; rfl))
                refine pure_ (i := 2) (N := some 58) (v := ?_) (a' := ?_) #[true, true, true, false, false, false, false, false, false, false, false, false, false, false, false, false, false, false, false, false] rfl rfl (any_of HT_.out (by kernel_rfl)) (fun _ _ _ h => h) (Or.inl ⟨by rfl, ?_⟩) ?_ ?_
                rotate_left; (· (intro w'; go_simp; with_reducible rfl)); rotate_left; (· (simp only [Act.put, sp1, sp2, sp3, i64_w, i32_w]; rfl))
                refine pure_ (i := 3) (N := some 59) (v := ?_) (a' := ?_) #[true, true, true, true, false, false, false, false, false, false, false, false, false, false, false, false, false, false, false, false] rfl rfl (any_of HT_.out (by kernel_rfl)) (fun _ _ _ h => h) (Or.inl ⟨by rfl, ?_⟩) ?_ ?_
                rotate_left; (· (intro w'; go_simp; with_reducible rfl)); rotate_left; (· (simp only [Act.put, sp1, sp2, sp3, i64_w, i32_w]; rfl))
                refine pure_ (i := 4) (N := some 60) (v := ?_) (a' := ?_) #[true, true, true, true, true, false, false, false, false, false, false, false, false, false, false, false, false, false, false, false] rfl rfl (any_of HT_.out (by kernel_rfl)) (fun _ _ _ h => h) (Or.inl ⟨by rfl, ?_⟩) ?_ ?_
                rotate_left; (· (intro w'; go_simp; with_reducible rfl)); rotate_left; (· (simp only [Act.put, sp1, sp2, sp3, i64_w, i32_w]; rfl))
                refine pure_ (i := 6) (N := some 62) (v := ?_) (a' := ?_) #[true, true, true, true, true, false, true, false, false, false, false, false, false, false, false, false, false, false, false, false] rfl rfl (any_of HT_.out (by kernel_rfl)) (fun _ _ _ h => h) (Or.inl ⟨by rfl, ?_⟩) ?_ ?_
                rotate_left; (· (intro w'; go_simp; with_reducible rfl)); rotate_left; (· (simp only [Act.put, sp1, sp2, sp3, i64_w, i32_w]; rfl))
                refine pure_ (i := 7) (N := some 63) (v := ?_) (a' := ?_) #[true, true, true, true, true, false, true, true, false, false, false, false, false, false, false, false, false, false, false, false] rfl rfl (any_of HT_.out (by kernel_rfl)) (fun _ _ _ h => h) (Or.inl ⟨by rfl, ?_⟩) ?_ ?_
                rotate_left; (· (intro w'; go_simp; with_reducible rfl)); rotate_left; (· (simp only [Act.put, sp1, sp2, sp3, i64_w, i32_w]; rfl))
                refine pure_ (i := 8) (N := some 64) (v := ?_) (a' := ?_) #[true, true, true, true, true, false, true, true, true, false, false, false, false, false, false, false, false, false, false, false] rfl rfl (any_of HT_.out (by kernel_rfl)) (fun _ _ _ h => h) (Or.inl ⟨by rfl, ?_⟩) ?_ ?_
                rotate_left; (· (intro w'; go_simp; with_reducible rfl)); rotate_left; (· (simp only [Act.put, sp1, sp2, sp3, i64_w, i32_w]; rfl))
                refine pure_ (i := 9) (N := some 65) (v := ?_) (a' := ?_) #[true, true, true, true, true, false, true, true, true, true, false, false, false, false, false, false, false, false, false, false] rfl rfl (any_of HT_.out (by kernel_rfl)) (fun _ _ _ h => h) (Or.inl ⟨by rfl, ?_⟩) ?_ ?_
                rotate_left; (· (intro w'; go_simp; with_reducible rfl)); rotate_left; (· (simp only [Act.put, sp1, sp2, sp3, i64_w, i32_w]; rfl))
                refine pure_ (i := 10) (N := some 66) (v := ?_) (a' := ?_) #[true, true, true, true, true, false, true, true, true, true, true, false, false, false, false, false, false, false, false, false] rfl rfl (any_of HT_.out (by kernel_rfl)) (fun _ _ _ h => h) (Or.inl ⟨by rfl, ?_⟩) ?_ ?_
                rotate_left; (· (intro w'; go_simp; with_reducible rfl)); rotate_left; (· (simp only [Act.put, sp1, sp2, sp3, i64_w, i32_w]; rfl))
                refine pure_ (i := 13) (N := some 69) (v := ?_) (a' := ?_) #[true, true, true, true, true, false, true, true, true, true, true, false, false, true, false, false, false, false, false, false] rfl rfl (any_of HT_.out (by kernel_rfl)) (fun _ _ _ h => h) (Or.inl ⟨by rfl, ?_⟩) ?_ ?_
                rotate_left; (· (intro w'; go_simp; with_reducible rfl)); rotate_left; (· (simp only [Act.put, sp1, sp2, sp3, i64_w, i32_w]; rfl))
                refine pure_ (i := 14) (N := some 70) (v := ?_) (a' := ?_) #[true, true, true, true, true, false, true, true, true, true, true, false, false, true, true, false, false, false, false, false] rfl rfl (any_of HT_.out (by kernel_rfl)) (fun _ _ _ h => h) (Or.inl ⟨by rfl, ?_⟩) ?_ ?_
                rotate_left; (· (intro w'; go_simp; with_reducible rfl)); rotate_left; (· (simp only [Act.put, sp1, sp2, sp3, i64_w, i32_w]; rfl))
                refine pure_ (i := 15) (N := some 71) (v := ?_) (a' := ?_) #[true, true, true, true, true, false, true, true, true, true, true, false, false, true, true, true, false, false, false, false] rfl rfl (any_of HT_.out (by kernel_rfl)) (fun _ _ _ h => h) (Or.inl ⟨by rfl, ?_⟩) ?_ ?_
                rotate_left; (· (intro w'; go_simp; with_reducible rfl)); rotate_left; (· (simp only [Act.put, sp1, sp2, sp3, i64_w, i32_w]; rfl))
                refine pure_ (i := 16) (N := some 72) (v := ?_) (a' := ?_) #[true, true, true, true, true, false, true, true, true, true, true, false, false, true, true, true, true, false, false, false] rfl rfl (any_of HT_.out (by kernel_rfl)) (fun _ _ _ h => h) (Or.inl ⟨by rfl, ?_⟩) ?_ ?_
                rotate_left; (· (intro w'; go_simp; with_reducible rfl)); rotate_left; (· (simp only [Act.put, sp1, sp2, sp3, i64_w, i32_w]; rfl))
                refine take_ (i := 5) (N := some 61) (v := ?_) (a' := ?_) #[true, true, true, true, true, true, true, true, true, true, true, false, false, true, true, true, true, false, false, false] rfl rfl (take_ofW HT_.out HW_.out (by kernel_rfl)) (fun _ _ _ h => h) (Or.inl ⟨by rfl, ?_⟩) hHeld ?_ ?_
                rotate_left; (· (rintro w' ⟨s0, s1, s2, s3, s4, s5, s6, s7, s8, s9, s10, s11⟩; go_simp; with_reducible rfl)); rotate_left; (· (simp only [Act.put, sp1, sp2, sp3, i64_w, i32_w]; rfl))
                refine take_ (i := 11) (N := some 67) (v := ?_) (a' := ?_) #[true, true, true, true, true, true, true, true, true, true, true, true, false, true, true, true, true, false, false, false] rfl rfl (take_ofW HT_.out HW_.out (by kernel_rfl)) (fun _ _ _ h => h) (Or.inl ⟨by rfl, ?_⟩) hHeld ?_ ?_
                rotate_left; (· (rintro w' ⟨s0, s1, s2, s3, s4, s5, s6, s7, s8, s9, s10, s11⟩; go_simp; with_reducible rfl)); rotate_left; (· (simp only [Act.put, sp1, sp2, sp3, i64_w, i32_w]; rfl))
                refine pure_ (i := 12) (N := some 68) (v := ?_) (a' := ?_) #[true, true, true, true, true, true, true, true, true, true, true, true, true, true, true, true, true, false, false, false] rfl rfl (any_of HT_.out (by kernel_rfl)) (fun _ _ _ h => h) (Or.inl ⟨by rfl, ?_⟩) ?_ ?_
                rotate_left; (· (intro w'; go_simp; with_reducible rfl)); rotate_left; (· (simp only [Act.put, sp1, sp2, sp3, i64_w, i32_w]; rfl))
                refine take_ (i := 17) (N := some 73) (v := ?_) (a' := ?_) #[true, true, true, true, true, true, true, true, true, true, true, true, true, true, true, true, true, true, false, false] rfl rfl (take_ofW HT_.out HW_.out (by kernel_rfl)) (fun _ _ _ h => h) (Or.inl ⟨by rfl, ?_⟩) hHeld ?_ ?_
                rotate_left; (· (rintro w' ⟨s0, s1, s2, s3, s4, s5, s6, s7, s8, s9, s10, s11⟩; go_simp; with_reducible rfl)); rotate_left; (· (simp only [Act.put, sp1, sp2, sp3, i64_w, i32_w]; rfl))
                refine pure_ (i := 18) (N := some 74) (v := ?_) (a' := ?_) #[true, true, true, true, true, true, true, true, true, true, true, true, true, true, true, true, true, true, true, false] rfl rfl (any_of HT_.out (by kernel_rfl)) (fun _ _ _ h => h) (Or.inl ⟨by rfl, ?_⟩) ?_ ?_
                rotate_left; (· (intro w'; go_simp; with_reducible rfl)); rotate_left; (· (simp only [Act.put, sp1, sp2, sp3, i64_w, i32_w]; rfl))
                refine pure_ (i := 19) (N := some 8) (v := ?_) (a' := ?_) #[true, true, true, true, true, true, true, true, true, true, true, true, true, true, true, true, true, true, true, true] rfl rfl (any_of HT_.out (by kernel_rfl)) (fun _ _ _ h => h) (Or.inl ⟨by rfl, ?_⟩) ?_ ?_
                rotate_left; (· (intro w'; go_simp; with_reducible rfl)); rotate_left; (· (simp only [Act.put, sp1, sp2, sp3, i64_w, i32_w]; rfl))
                refine done_ (done_of HT_.out (by kernel_rfl)) ?_
                have p130 : 0 ≤ (x24_2 : Int) := odt
                have q130 : x24_2 < (y126.length : Int) := (by have h_ : (x24_2 : Int) < ((x6_2.length : Int) : Int) := odt; first | (have e_ := (Kd.R_reads' HO_6.out).1; omega) | simpa only [Ny126.out, List.length_set] using h_)
                have ql130 : ((x24_2 : Int) < ((x6_2.length : Int) : Int)) = True := eq_true odt
                obtain ⟨ad130, e130, hx130_0, hx130_1, hx130_2, hx130_3⟩ := at_T31 (Kd.R_reads' HO_6.out).2.2 x24_2 p130 q130
                obtain rfl : (⟨go20, 0, none⟩ : Addr) = ad130 := (by injection e130)
                (first | simp only [add_plain] at hx130_0 | simp only [add_at] at hx130_0 | simp only [Addr.add, Nat.zero_add] at hx130_0 | skip)
                (first | simp only [add_plain] at hx130_1 | simp only [add_at] at hx130_1 | simp only [Addr.add, Nat.zero_add] at hx130_1 | skip)
                (first | simp only [add_plain] at hx130_2 | simp only [add_at] at hx130_2 | simp only [Addr.add, Nat.zero_add] at hx130_2 | skip)
                (first | simp only [add_plain] at hx130_3 | simp only [add_at] at hx130_3 | simp only [Addr.add, Nat.zero_add] at hx130_3 | skip)
                replace p130 := eq_true p130
                replace q130 := eq_true q130
                try go_wp2
                (try simp only [← hl6_2])
                go_roundg k2
                case measure => have := HJ2.out; have := HK2.out; omega
                case rel => exact ⟨(y126), (wrap64 (x24_2 + 1)), (by first | rfl | (simp; done) | (simp [*]; done)), H', ⟨by have := HJ2.out; have := HK2.out; omega⟩, ⟨by (try simp only [hl6_2]); (with_reducible repeat (first | apply Kd.R_alloc | apply Kd.R_drewN | apply Kd.R_drew)); exact HO_6.out⟩, ⟨blw⟩⟩
              ·rw [if_neg c24] at H
               exact absurd H (by simp)
             ·rw [if_neg c23] at H
              exact absurd H (by simp)
            ·rw [if_neg c21] at H
             have c21b0 : decide (0 < x24_2) = false := decide_eq_false c21
             clear c21
             have H' := Aside0.mk H
             clear H
             have p122 : 0 ≤ (x24_2 : Int) := odt
             have q122 : x24_2 < (x6_2.length : Int) := odt
             obtain ⟨ad122, e122, hx122_0, hx122_1, hx122_2, hx122_3⟩ := at_T31 (Kd.R_reads' HO_6.out).2.2 x24_2 p122 q122
             cases e122
             replace p122 := eq_true p122
             replace q122 := eq_true q122
             try go_wp2
             have n0_ := Aside0.mk (Kd.R_drew HO_6.out)
             have n1_ := Aside0.mk (below_drew1 HB.out)
             clear HO_6
             clear HB
             have HO_6 := n0_
             have HB := n1_
             clear n0_ n1_
             have p123 : 0 ≤ (x24_2 : Int) := odt
             have q123 : x24_2 < (x6_2.length : Int) := odt
             obtain ⟨ad123, e123, hx123_0, hx123_1, hx123_2, hx123_3⟩ := at_T31 (Kd.R_reads' HO_6.out).2.2 x24_2 p123 q123
             obtain rfl : ad122 = ad123 := (by injection e123)
             replace p123 := eq_true p123
             replace q123 := eq_true q123
             have p124 : 0 ≤ (x24_2 : Int) := odt
             have q124 : x24_2 < (x6_2.length : Int) := odt
             obtain ⟨ad124, e124, hx124_0, hx124_1, hx124_2, hx124_3⟩ := at_T31 (Kd.R_reads' HO_6.out).2.2 x24_2 p124 q124
             obtain rfl : ad122 = ad124 := (by injection e124)
             replace p124 := eq_true p124
             replace q124 := eq_true q124
             have p125 : 0 ≤ (x24_2 : Int) := odt
             have q125 : x24_2 < (x6_2.length : Int) := odt
             obtain ⟨ad125, e125, hx125_0, hx125_1, hx125_2, hx125_3⟩ := at_T31 (Kd.R_reads' HO_6.out).2.2 x24_2 p125 q125
             obtain rfl : ad122 = ad125 := (by injection e125)
             replace p125 := eq_true p125
             replace q125 := eq_true q125
             have p20 : 0 ≤ (x24_2 : Int) := odt
             have q20 : (x24_2 : Int) < ((x6_2.length : Int) : Int) := odt
             obtain ⟨go20, co20, eo20, gb20, gl20, cl20, HG20⟩ := Kd.R_form HO_6.out (by omega)
             (first | cases eo20 | (injection eo20 with ea_ en_ ec_; (first | subst ea_ | (injection ea_ with ea_; subst ea_)); subst ec_; clear en_))
             have GB20 := Aside0.mk gb20
             have GG20 := Aside0.mk HG20
             clear gb20 gl20 HG20
             (first | simp only [add_plain] at hx122_0 | skip)
             (first | simp only [add_plain] at hx122_1 | skip)
             (first | simp only [add_plain] at hx122_2 | skip)
             (first | simp only [add_plain] at hx122_3 | skip)
             (first | simp only [add_plain] at hx123_0 | skip)
             (first | simp only [add_plain] at hx123_1 | skip)
             (first | simp only [add_plain] at hx123_2 | skip)
             (first | simp only [add_plain] at hx123_3 | skip)
             (first | simp only [add_plain] at hx124_0 | skip)
             (first | simp only [add_plain] at hx124_1 | skip)
             (first | simp only [add_plain] at hx124_2 | skip)
             (first | simp only [add_plain] at hx124_3 | skip)
             (first | simp only [add_plain] at hx125_0 | skip)
             (first | simp only [add_plain] at hx125_1 | skip)
             (first | simp only [add_plain] at hx125_2 | skip)
             (first | simp only [add_plain] at hx125_3 | skip)
             obtain ⟨ce20, hcl20, hM20, hcc20, hfr20⟩ := Kd.R_elem HO_6.out z31 (x24_2 : Int) p20 q20
             obtain rfl := k31_openM hM20
             have hx20_0 : World.cell? _ ⟨go20, (x24_2 : Int).toNat * 4, none⟩ = some (.int .i64 ((rd_T31 x6_2 x24_2).f0)) := hcc20 0 _ rfl
             have hx20_1 : World.cell? _ ⟨go20, (x24_2 : Int).toNat * 4 + 1, none⟩ = some (.int .i64 ((rd_T31 x6_2 x24_2).f1)) := hcc20 1 _ rfl
             have hx20_2 : World.cell? _ ⟨go20, (x24_2 : Int).toNat * 4 + 2, none⟩ = some (.int .i64 ((rd_T31 x6_2 x24_2).f2)) := hcc20 2 _ rfl
             have hx20_3 : World.cell? _ ⟨go20, (x24_2 : Int).toNat * 4 + 3, none⟩ = some (.int .i64 ((rd_T31 x6_2 x24_2).f3)) := hcc20 3 _ rfl
             have hf20_0 : World.frozen? _ ⟨go20, (x24_2 : Int).toNat * 4, none⟩ = false := hfr20 0
             have hf20_1 : World.frozen? _ ⟨go20, (x24_2 : Int).toNat * 4 + 1, none⟩ = false := hfr20 1
             have hf20_2 : World.frozen? _ ⟨go20, (x24_2 : Int).toNat * 4 + 2, none⟩ = false := hfr20 2
             have hf20_3 : World.frozen? _ ⟨go20, (x24_2 : Int).toNat * 4 + 3, none⟩ = false := hfr20 3
             clear hcl20 hcc20 hfr20 hM20
             replace p20 := eq_true p20
             replace q20 := eq_true q20
             obtain ⟨ce38, hcl38, hM38, hcc38, hfr38⟩ := Kd.R_elem HO_6.out z31 (x24_2 : Int) odt (by have h_ : (x24_2 : Int) < ((x6_2.length : Int) : Int) := odt; first | exact h_ | (have e_ := (Kd.R_reads' HO_6.out).1; omega) | simpa using h_)
             obtain rfl := k31_openM hM38
             have HP38 := (Kd.R_seg HO_6.out (x24_2 : Int) odt (by have h_ : (x24_2 : Int) < ((x6_2.length : Int) : Int) := odt; first | exact h_ | (have e_ := (Kd.R_reads' HO_6.out).1; omega) | simpa using h_) (seg := [.int .i64 (wrap64 (((rd_T31 x6_2 x24_2).f0) + (wrap64 (Int.tdiv (wrap64 (((rd_T31 x6_2 x24_2).f1) * a1)) ((rd_T31 x6_2 x24_2).f2)))))]) (j := 0) hcl38 hcc38 (show 1 ≤ 4 from by decide) (x' := (⟨wrap64 (((rd_T31 x6_2 x24_2).f0) + (wrap64 (Int.tdiv (wrap64 (((rd_T31 x6_2 x24_2).f1) * a1)) ((rd_T31 x6_2 x24_2).f2)))), (rd_T31 x6_2 x24_2).f1, (rd_T31 x6_2 x24_2).f2, (rd_T31 x6_2 x24_2).f3⟩ : S31)) (k31_mkM _ _ _ (⟨wrap64 (((rd_T31 x6_2 x24_2).f0) + (wrap64 (Int.tdiv (wrap64 (((rd_T31 x6_2 x24_2).f1) * a1)) ((rd_T31 x6_2 x24_2).f2)))), (rd_T31 x6_2 x24_2).f1, (rd_T31 x6_2 x24_2).f2, (rd_T31 x6_2 x24_2).f3⟩ : S31) ) (fun _ hk => hk)).1
             rw [← Ny126.out] at HP38
             have HQ38 := Aside0.mk HP38
             clear hcl38 hcc38 hfr38 hM38 HP38
             refine start_ (n := 22) (S := fun w' => w'.cell? ⟨go20, ((x24_2).toNat * 4), none⟩ = some (.int .i64 ((rd_T31 x6_2 x24_2).f0)) ∧ w'.cell? ⟨go20, ((x24_2).toNat * 4) + 1, none⟩ = some (.int .i64 ((rd_T31 x6_2 x24_2).f1)) ∧ w'.cell? ⟨go20, ((x24_2).toNat * 4) + 2, none⟩ = some (.int .i64 ((rd_T31 x6_2 x24_2).f2)) ∧ w'.cell? ⟨go20, ((x24_2).toNat * 4) + 3, none⟩ = some (.int .i64 ((rd_T31 x6_2 x24_2).f3)) ∧ w'.cell? ⟨go20, ((x24_2).toNat * 4), none⟩ = some (.int .i64 ((rd_T31 x6_2 x24_2).f0)) ∧ w'.cell? ⟨go20, ((x24_2).toNat * 4) + 1, none⟩ = some (.int .i64 ((rd_T31 x6_2 x24_2).f1)) ∧ w'.cell? ⟨go20, ((x24_2).toNat * 4) + 2, none⟩ = some (.int .i64 ((rd_T31 x6_2 x24_2).f2)) ∧ w'.cell? ⟨go20, ((x24_2).toNat * 4) + 3, none⟩ = some (.int .i64 ((rd_T31 x6_2 x24_2).f3)) ∧ w'.cell? ⟨go20, ((x24_2).toNat * 4), none⟩ = some (.int .i64 ((rd_T31 x6_2 x24_2).f0)) ∧ w'.cell? ⟨go20, ((x24_2).toNat * 4) + 1, none⟩ = some (.int .i64 ((rd_T31 x6_2 x24_2).f1)) ∧ w'.cell? ⟨go20, ((x24_2).toNat * 4) + 2, none⟩ = some (.int .i64 ((rd_T31 x6_2 x24_2).f2)) ∧ w'.cell? ⟨go20, ((x24_2).toNat * 4) + 3, none⟩ = some (.int .i64 ((rd_T31 x6_2 x24_2).f3))) (ds := [21]) #[false, false, false, false, false, false, false, false, false, false, false, false, false, false, false, false, false, false, false, false, false, false] (by kernel_rfl) rfl rfl ⟨hx123_0, hx123_1, hx123_2, hx123_3, hx124_0, hx124_1, hx124_2, hx124_3, hx125_0, hx125_1, hx125_2, hx125_3⟩ (fun hHeld => ?_); refine with_tabW spec_l10Move.tab8 spec_l10Move.bits8 (fun HT_ HW_ => ?_)
             generalize wr.drew = w37 at HO_6 HB GG20 HQ38 hf20_0 hf20_1 hf20_2 hf20_3 hx122_0 hx122_1 hx122_2 hx122_3 hx123_0 hx123_1 hx123_2 hx123_3 hx124_0 hx124_1 hx124_2 hx124_3 hx125_0 hx125_1 hx125_2 hx125_3 hx20_0 hx20_1 hx20_2 hx20_3 hHeld ⊢
             refine pure_ (i := 0) (N := some 33) (v := ?_) (a' := ?_) #[true, false, false, false, false, false, false, false, false, false, false, false, false, false, false, false, false, false, false, false, false, false] rfl rfl (any_of HT_.out (by kernel_rfl)) (fun _ _ _ h => h) (Or.inl ⟨by rfl, ?_⟩) ?_ ?_
             rotate_left; (· (intro w'; go_simp; with_reducible rfl)); rotate_left; (· (simp only [Act.put, sp1, sp2, sp3, i64_w, i32_w]; rfl))
             refine pure_ (i := 1) (N := some 34) (v := ?_) (a' := ?_) #[true, true, false, false, false, false, false, false, false, false, false, false, false, false, false, false, false, false, false, false, false, false] rfl rfl (any_of HT_.out (by kernel_rfl)) (fun _ _ _ h => h) (Or.inl ⟨by rfl, ?_⟩) ?_ ?_
             rotate_left; (· (intro w'; go_simp; with_reducible rfl)); rotate_left; (· (simp only [Act.put, sp1, sp2, sp3, i64_w, i32_w]; rfl))
             refine pure_ (i := 2) (N := some 35) (v := ?_) (a' := ?_) #[true, true, true, false, false, false, false, false, false, false, false, false, false, false, false, false, false, false, false, false, false, false] rfl rfl (any_of HT_.out (by kernel_rfl)) (fun _ _ _ h => h) (Or.inl ⟨by rfl, ?_⟩) ?_ ?_
             rotate_left; (· (intro w'; go_simp; with_reducible rfl)); rotate_left; (· (simp only [Act.put, sp1, sp2, sp3, i64_w, i32_w]; rfl))
             refine pure_ (i := 3) (N := some 36) (v := ?_) (a' := ?_) #[true, true, true, true, false, false, false, false, false, false, false, false, false, false, false, false, false, false, false, false, false, false] rfl rfl (any_of HT_.out (by kernel_rfl)) (fun _ _ _ h => h) (Or.inl ⟨by rfl, ?_⟩) ?_ ?_
             rotate_left; (· (intro w'; go_simp; with_reducible rfl)); rotate_left; (· (simp only [Act.put, sp1, sp2, sp3, i64_w, i32_w]; rfl))
             refine pure_ (i := 5) (N := some 38) (v := ?_) (a' := ?_) #[true, true, true, true, false, true, false, false, false, false, false, false, false, false, false, false, false, false, false, false, false, false] rfl rfl (any_of HT_.out (by kernel_rfl)) (fun _ _ _ h => h) (Or.inl ⟨by rfl, ?_⟩) ?_ ?_
             rotate_left; (· (intro w'; go_simp; with_reducible rfl)); rotate_left; (· (simp only [Act.put, sp1, sp2, sp3, i64_w, i32_w]; rfl))
             refine pure_ (i := 6) (N := some 39) (v := ?_) (a' := ?_) #[true, true, true, true, false, true, true, false, false, false, false, false, false, false, false, false, false, false, false, false, false, false] rfl rfl (any_of HT_.out (by kernel_rfl)) (fun _ _ _ h => h) (Or.inl ⟨by rfl, ?_⟩) ?_ ?_
             rotate_left; (· (intro w'; go_simp; with_reducible rfl)); rotate_left; (· (simp only [Act.put, sp1, sp2, sp3, i64_w, i32_w]; rfl))
             refine pure_ (i := 7) (N := some 40) (v := ?_) (a' := ?_) #[true, true, true, true, false, true, true, true, false, false, false, false, false, false, false, false, false, false, false, false, false, false] rfl rfl (any_of HT_.out (by kernel_rfl)) (fun _ _ _ h => h) (Or.inl ⟨by rfl, ?_⟩) ?_ ?_
             rotate_left; (· (intro w'; go_simp; with_reducible rfl)); rotate_left; (· (simp only [Act.put, sp1, sp2, sp3, i64_w, i32_w]; rfl))
             refine pure_ (i := 8) (N := some 41) (v := ?_) (a' := ?_) #[true, true, true, true, false, true, true, true, true, false, false, false, false, false, false, false, false, false, false, false, false, false] rfl rfl (any_of HT_.out (by kernel_rfl)) (fun _ _ _ h => h) (Or.inl ⟨by rfl, ?_⟩) ?_ ?_
             rotate_left; (· (intro w'; go_simp; with_reducible rfl)); rotate_left; (· (simp only [Act.put, sp1, sp2, sp3, i64_w, i32_w]; rfl))
             refine pure_ (i := 10) (N := some 43) (v := ?_) (a' := ?_) #[true, true, true, true, false, true, true, true, true, false, true, false, false, false, false, false, false, false, false, false, false, false] rfl rfl (any_of HT_.out (by kernel_rfl)) (fun _ _ _ h => h) (Or.inl ⟨by rfl, ?_⟩) ?_ ?_
             rotate_left; (· (intro w'; go_simp; with_reducible rfl)); rotate_left; (· (simp only [Act.put, sp1, sp2, sp3, i64_w, i32_w]; rfl))
             refine pure_ (i := 12) (N := some 45) (v := ?_) (a' := ?_) #[true, true, true, true, false, true, true, true, true, false, true, false, true, false, false, false, false, false, false, false, false, false] rfl rfl (any_of HT_.out (by kernel_rfl)) (fun _ _ _ h => h) (Or.inl ⟨by rfl, ?_⟩) ?_ ?_
             rotate_left; (· (intro w'; go_simp; with_reducible rfl)); rotate_left; (· (simp only [Act.put, sp1, sp2, sp3, i64_w, i32_w]; rfl))
             refine pure_ (i := 13) (N := some 46) (v := ?_) (a' := ?_) #[true, true, true, true, false, true, true, true, true, false, true, false, true, true, false, false, false, false, false, false, false, false] rfl rfl (any_of HT_.out (by kernel_rfl)) (fun _ _ _ h => h) (Or.inl ⟨by rfl, ?_⟩) ?_ ?_
             rotate_left; (· (intro w'; go_simp; with_reducible rfl)); rotate_left; (· (simp only [Act.put, sp1, sp2, sp3, i64_w, i32_w]; rfl))
             refine pure_ (i := 14) (N := some 47) (v := ?_) (a' := ?_) #[true, true, true, true, false, true, true, true, true, false, true, false, true, true, true, false, false, false, false, false, false, false] rfl rfl (any_of HT_.out (by kernel_rfl)) (fun _ _ _ h => h) (Or.inl ⟨by rfl, ?_⟩) ?_ ?_
             rotate_left; (· (intro w'; go_simp; with_reducible rfl)); rotate_left; (· (simp only [Act.put, sp1, sp2, sp3, i64_w, i32_w]; rfl))
             refine pure_ (i := 15) (N := some 48) (v := ?_) (a' := ?_) #[true, true, true, true, false, true, true, true, true, false, true, false, true, true, true, true, false, false, false, false, false, false] rfl rfl (any_of HT_.out (by kernel_rfl)) (fun _ _ _ h => h) (Or.inl ⟨by rfl, ?_⟩) ?_ ?_
             rotate_left; (· (intro w'; go_simp; with_reducible rfl)); rotate_left; (· (simp only [Act.put, sp1, sp2, sp3, i64_w, i32_w]; rfl))
             refine take_ (i := 4) (N := some 37) (v := ?_) (a' := ?_) #[true, true, true, true, true, true, true, true, true, false, true, false, true, true, true, true, false, false, false, false, false, false] rfl rfl (take_ofW HT_.out HW_.out (by kernel_rfl)) (fun _ _ _ h => h) (Or.inl ⟨by rfl, ?_⟩) hHeld ?_ ?_
             rotate_left; (· (rintro w' ⟨s0, s1, s2, s3, s4, s5, s6, s7, s8, s9, s10, s11⟩; go_simp; with_reducible rfl)); rotate_left; (· (simp only [Act.put, sp1, sp2, sp3, i64_w, i32_w]; rfl))
             refine take_ (i := 9) (N := some 42) (v := ?_) (a' := ?_) #[true, true, true, true, true, true, true, true, true, true, true, false, true, true, true, true, false, false, false, false, false, false] rfl rfl (take_ofW HT_.out HW_.out (by kernel_rfl)) (fun _ _ _ h => h) (Or.inl ⟨by rfl, ?_⟩) hHeld ?_ ?_
             rotate_left; (· (rintro w' ⟨s0, s1, s2, s3, s4, s5, s6, s7, s8, s9, s10, s11⟩; go_simp; with_reducible rfl)); rotate_left; (· (simp only [Act.put, sp1, sp2, sp3, i64_w, i32_w]; rfl))
             refine pure_ (i := 11) (N := some 44) (v := ?_) (a' := ?_) #[true, true, true, true, true, true, true, true, true, true, true, true, true, true, true, true, false, false, false, false, false, false] rfl rfl (any_of HT_.out (by kernel_rfl)) (fun _ _ _ h => h) (Or.inl ⟨by rfl, ?_⟩) ?_ ?_
             rotate_left; (· (intro w'; go_simp; with_reducible rfl)); rotate_left; (· (simp only [Act.put, sp1, sp2, sp3, i64_w, i32_w]; rfl))
             refine take_ (i := 16) (N := some 49) (v := ?_) (a' := ?_) #[true, true, true, true, true, true, true, true, true, true, true, true, true, true, true, true, true, false, false, false, false, false] rfl rfl (take_ofW HT_.out HW_.out (by kernel_rfl)) (fun _ _ _ h => h) (Or.inl ⟨by rfl, ?_⟩) hHeld ?_ ?_
             rotate_left; (· (rintro w' ⟨s0, s1, s2, s3, s4, s5, s6, s7, s8, s9, s10, s11⟩; go_simp; with_reducible rfl)); rotate_left; (· (simp only [Act.put, sp1, sp2, sp3, i64_w, i32_w]; rfl))
             refine pure_ (i := 17) (N := some 50) (v := ?_) (a' := ?_) #[true, true, true, true, true, true, true, true, true, true, true, true, true, true, true, true, true, true, false, false, false, false] rfl rfl (any_of HT_.out (by kernel_rfl)) (fun _ _ _ h => h) (Or.inl ⟨by rfl, ?_⟩) ?_ ?_
             rotate_left; (· (intro w'; go_simp; with_reducible rfl)); rotate_left; (· (simp only [Act.put, sp1, sp2, sp3, i64_w, i32_w]; rfl))
             refine pure_ (i := 18) (N := some 51) (v := ?_) (a' := ?_) #[true, true, true, true, true, true, true, true, true, true, true, true, true, true, true, true, true, true, true, false, false, false] rfl rfl (any_of HT_.out (by kernel_rfl)) (fun _ _ _ h => h) (Or.inl ⟨by rfl, ?_⟩) ?_ ?_
             rotate_left; (· (intro w'; go_simp; with_reducible rfl)); rotate_left; (· (simp only [Act.put, sp1, sp2, sp3, i64_w, i32_w]; rfl))
             refine pure_ (i := 19) (N := some 52) (v := ?_) (a' := ?_) #[true, true, true, true, true, true, true, true, true, true, true, true, true, true, true, true, true, true, true, true, false, false] rfl rfl (any_of HT_.out (by kernel_rfl)) (fun _ _ _ h => h) (Or.inl ⟨by rfl, ?_⟩) ?_ ?_
             rotate_left; (· (intro w'; go_simp; with_reducible rfl)); rotate_left; (· (simp only [Act.put, sp1, sp2, sp3, i64_w, i32_w]; rfl))
             refine pure_ (i := 20) (N := some 53) (v := ?_) (a' := ?_) #[true, true, true, true, true, true, true, true, true, true, true, true, true, true, true, true, true, true, true, true, true, false] rfl rfl (any_of HT_.out (by kernel_rfl)) (fun _ _ _ h => h) (Or.inl ⟨by rfl, ?_⟩) ?_ ?_
             rotate_left; (· (intro w'; go_simp; with_reducible rfl)); rotate_left; (· (simp only [Act.put, sp1, sp2, sp3, i64_w, i32_w]; rfl))
             refine last_ (i := 21) (N := none) #[true, true, true, true, true, true, true, true, true, true, true, true, true, true, true, true, true, true, true, true, true, true] rfl rfl (one_of HT_.out (by kernel_rfl)) (by decide) (fun K hK => ?_)
             refine skip_ (w1 := ?_) (by rfl) rfl ?_ ?_
             rotate_left
             ·go_simp
              rfl
             refine hK.out _ _ ?_
             clear hK K
             refine done_ (done_of HT_.out (by kernel_rfl)) ?_
             try go_wp2
             (try simp only [← hl6_2])
             go_roundg k2
             case measure => have := HJ2.out; have := HK2.out; omega
             case rel => exact ⟨(y126), (wrap64 (x24_2 + 1)), (by first | rfl | (simp; done) | (simp [*]; done)), H', ⟨by have := HJ2.out; have := HK2.out; omega⟩, ⟨by (try simp only [hl6_2]); (with_reducible repeat (first | apply Kd.R_alloc | apply Kd.R_drewN | apply Kd.R_drew)); exact HQ38.out⟩, ⟨blw⟩⟩
          ·rw [if_neg c18] at H
           have c18b0 : decide (0 < ((rd_T31 x6_2 x24_2).f2)) = false := decide_eq_false c18
           clear c18
           have H' := Aside0.mk H
           clear H
           have p122 : 0 ≤ (x24_2 : Int) := odt
           have q122 : x24_2 < (x6_2.length : Int) := odt
           obtain ⟨ad122, e122, hx122_0, hx122_1, hx122_2, hx122_3⟩ := at_T31 (Kd.R_reads' HO_6.out).2.2 x24_2 p122 q122
           cases e122
           replace p122 := eq_true p122
           replace q122 := eq_true q122
           go_wp2
           (try simp only [← hl6_2])
           go_roundg k2
           case measure => have := HJ2.out; have := HK2.out; omega
           case rel => exact ⟨(x6_2), (wrap64 (x24_2 + 1)), (by first | rfl | (simp; done) | (simp [*]; done)), H', ⟨by have := HJ2.out; have := HK2.out; omega⟩, ⟨by (try simp only [hl6_2]); (with_reducible repeat (first | apply Kd.R_alloc | apply Kd.R_drewN | apply Kd.R_drew)); exact HO_6.out⟩, ⟨blw⟩⟩
         ·rw [if_neg c17] at H
          exact absurd H (by simp)
        ·rw [if_neg c16] at H
         exact absurd H (by simp)
       ·rw [if_neg c15] at H
        have c15b0 : decide (x24_2 < (y119.length : Int)) = false := decide_eq_false c15; (try (have c15bx := c15b0; rw [show y119.length = _ from ‹_›] at c15bx))
        clear c15
        have H' := Aside0.mk H
        clear H
        go_wp2
        go_loopg [9] k2 (fun kq v9 w' => ∃ (x6_3 : List (S31)) (x9_3 : Int), v9 = .int .i64 x9_3 ∧ Aside0 (spec_l10Move.l1 kq x6_3 x9_3 = some (r1, r2)) ∧ Aside0 (kq ≤ k2) ∧ Aside0 (Kd.R k31 31 w' w.heap.size (fun _ => True) (.slice Ao14 x6_2.length co14) x6_3) ∧ Aside0 (Below w.heap.size w w'))
        case atStart => exact ⟨(x6_2), (wrap64 ((x6_2.length : Int) - 2)), (by first | rfl | (simp; done) | (simp [*]; done)), H', ⟨Nat.le_refl _⟩, ⟨by (try simp only [hl6_2]); (with_reducible repeat (first | apply Kd.R_alloc | apply Kd.R_drewN | apply Kd.R_drew)); exact HO_6.out⟩, ⟨blw⟩⟩
        case round =>
         clear H'
         try clear c1
         try clear p1
         try clear q1
         try clear hx1
         try clear c2
         try clear p2
         try clear q2
         try clear hx2
         try clear hf2
         try clear c3
         try clear p6
         try clear p12
         try clear q12
         try clear hx12
         try clear p13
         try clear q13
         try clear hx13
         try clear c15
         try clear c15b0
         try clear c16
         try clear c17
         try clear c18
         try clear c18b0
         try clear c20
         try clear p20
         try clear q20
         try clear hx20
         try clear hf20
         try clear c21
         try clear c21b0
         try clear c23
         try clear c24
         try clear c38
         try clear hx122_0
         try clear hx122_1
         try clear hx122_2
         try clear hx122_3
         try clear hx123_0
         try clear hx123_1
         try clear hx123_2
         try clear hx123_3
         try clear hx124_0
         try clear hx124_1
         try clear hx124_2
         try clear hx124_3
         try clear hx125_0
         try clear hx125_1
         try clear hx125_2
         try clear hx125_3
         try clear hx127_0
         try clear hx127_1
         try clear hx127_2
         try clear hx127_3
         try clear hx128_0
         try clear hx128_1
         try clear hx128_2
         try clear hx128_3
         try clear hx129_0
         try clear hx129_1
         try clear hx129_2
         try clear hx129_3
         try clear hx130_0
         try clear hx130_1
         try clear hx130_2
         try clear hx130_3
         try clear hx20_0
         try clear hx20_1
         try clear hx20_2
         try clear hx20_3
         try clear p122
         try clear p123
         try clear p124
         try clear p125
         try clear p127
         try clear p128
         try clear p129
         try clear p130
         try clear p20
         try clear q122
         try clear q123
         try clear q124
         try clear q125
         try clear q127
         try clear q128
         try clear q129
         try clear q130
         try clear q20
         obtain ⟨x6_3, x9_3, rfl, HA, HK3, HO_6, HB⟩ := hrel
         have hl6_3 := (Kd.R_reads' HO_6.out).1
         rw [hl6_3] at HO_6
         (try simp only [hl6_3])
         cases gk with
         | zero => exact absurd HA.out (by simp [spec_l10Move.l1])
         | succ k3 =>
          have H := HA.out
          clear HA
          simp only [spec_l10Move.l1] at H
          by_cases c39 : x9_3 ≥ 0
          ·rw [if_pos c39] at H
           have c39b0 : decide (0 ≤ x9_3) = true := decide_eq_true c39
           clear c39
           obtain ⟨ji40, hji40⟩ : ∃ j_ : Int, (wrap64 (x9_3 + 1)) = j_ := ⟨_, rfl⟩
           replace H : (if 0 ≤ (ji40) then (if (ji40) < (x6_3.length : Int) then (if 0 ≤ x9_3 then (if x9_3 < (x6_3.length : Int) then (if ((rd_T31 x6_3 x9_3).f2) > 0 then (if ((rd_T31 x6_3 x9_3).f0) > (wrap64 ((wrap64 (((rd_T31 x6_3 (ji40)).f0) - ((rd_T31 x6_3 (ji40)).f3))) - ((rd_T31 x6_3 x9_3).f3))) then (spec_l10Move.l1 k3 (x6_3.set (x9_3 : Int).toNat (⟨wrap64 ((wrap64 (((rd_T31 x6_3 (ji40)).f0) - ((rd_T31 x6_3 (ji40)).f3))) - ((rd_T31 x6_3 x9_3).f3)), (rd_T31 x6_3 x9_3).f1, (rd_T31 x6_3 x9_3).f2, (rd_T31 x6_3 x9_3).f3⟩ : S31)) (wrap64 (x9_3 - 1))) else (spec_l10Move.l1 k3 x6_3 (wrap64 (x9_3 - 1)))) else (spec_l10Move.l1 k3 x6_3 (wrap64 (x9_3 - 1)))) else (none)) else (none)) else (none)) else (none)) = some (r1, r2) := by first | (rw [hji40] at H; exact H) | (simp only [hji40] at H ⊢; exact H)
           have hji40w : (IntKind.i64.wrap (x9_3 + 1)) = ji40 := (i64_w _).trans hji40
           by_cases c41 : 0 ≤ (ji40)
           ·rw [if_pos c41] at H
            have c41b0 : decide (0 ≤ (ji40)) = true := decide_eq_true c41
            clear c41
            by_cases c42 : (ji40) < (x6_3.length : Int)
            ·rw [if_pos c42] at H
             have c42b0 : decide ((ji40) < (x6_3.length : Int)) = true := decide_eq_true c42
             clear c42
             by_cases c43 : 0 ≤ x9_3
             ·rw [if_pos c43] at H
              have c43b0 : decide (0 ≤ x9_3) = true := decide_eq_true c43
              clear c43
              by_cases c44 : x9_3 < (x6_3.length : Int)
              ·rw [if_pos c44] at H
               have c44b0 : decide (x9_3 < (x6_3.length : Int)) = true := decide_eq_true c44
               clear c44
               by_cases c45 : ((rd_T31 x6_3 x9_3).f2) > 0
               ·rw [if_pos c45] at H
                have c45b0 : decide (0 < ((rd_T31 x6_3 x9_3).f2)) = true := decide_eq_true c45
                clear c45
                by_cases c46 : ((rd_T31 x6_3 x9_3).f0) > (wrap64 ((wrap64 (((rd_T31 x6_3 (ji40)).f0) - ((rd_T31 x6_3 (ji40)).f3))) - ((rd_T31 x6_3 x9_3).f3)))
                ·rw [if_pos c46] at H
                 have c46b0 : decide ((wrap64 ((wrap64 (((rd_T31 x6_3 (ji40)).f0) - ((rd_T31 x6_3 (ji40)).f3))) - ((rd_T31 x6_3 x9_3).f3))) < ((rd_T31 x6_3 x9_3).f0)) = true := decide_eq_true c46
                 clear c46
                 obtain ⟨y137, hy137⟩ : ∃ y_ : List (S31), y_ = (x6_3.set (x9_3 : Int).toNat (⟨wrap64 ((wrap64 (((rd_T31 x6_3 (ji40)).f0) - ((rd_T31 x6_3 (ji40)).f3))) - ((rd_T31 x6_3 x9_3).f3)), (rd_T31 x6_3 x9_3).f1, (rd_T31 x6_3 x9_3).f2, (rd_T31 x6_3 x9_3).f3⟩ : S31)) := ⟨_, rfl⟩
                 replace H : (spec_l10Move.l1 k3 y137 (wrap64 (x9_3 - 1))) = some (r1, r2) := by first | (rw [hy137]; with_reducible exact H) | (have H2_ := (Option.bind_some _ _).symm.trans H; rw [hy137]; with_reducible exact H2_) | (have H2_ := (Option.bind_some _ _).symm.trans H; with_reducible exact H2_) | with_reducible exact H | (rw [hy137]; exact H) | exact H
                 have Ny137 := Aside0.mk hy137
                 clear hy137
                 have H' := Aside0.mk H
                 clear H
                 try go_wp2
                 have n0_ := Aside0.mk (Kd.R_drew HO_6.out)
                 have n1_ := Aside0.mk (below_drew1 HB.out)
                 clear HO_6
                 clear HB
                 have HO_6 := n0_
                 have HB := n1_
                 clear n0_ n1_
                 have p132 : 0 ≤ ((ji40) : Int) := odt
                 have q132 : (ji40) < (x6_3.length : Int) := odt
                 obtain ⟨ad132, e132, hx132_0, hx132_1, hx132_2, hx132_3⟩ := at_T31 (Kd.R_reads' HO_6.out).2.2 (ji40) p132 q132
                 cases e132
                 replace p132 := eq_true p132
                 replace q132 := eq_true q132
                 have p133 : 0 ≤ ((ji40) : Int) := odt
                 have q133 : (ji40) < (x6_3.length : Int) := odt
                 obtain ⟨ad133, e133, hx133_0, hx133_1, hx133_2, hx133_3⟩ := at_T31 (Kd.R_reads' HO_6.out).2.2 (ji40) p133 q133
                 obtain rfl : ad132 = ad133 := (by injection e133)
                 replace p133 := eq_true p133
                 replace q133 := eq_true q133
                 have p134 : 0 ≤ (x9_3 : Int) := odt
                 have q134 : x9_3 < (x6_3.length : Int) := odt
                 obtain ⟨ad134, e134, hx134_0, hx134_1, hx134_2, hx134_3⟩ := at_T31 (Kd.R_reads' HO_6.out).2.2 x9_3 p134 q134
                 obtain rfl : ad132 = ad134 := (by injection e134)
                 replace p134 := eq_true p134
                 replace q134 := eq_true q134
                 refine start_ (n := 20) (S := fun w' => w'.cell? (ad132.add (((ji40)).toNat * 4)) = some (.int .i64 ((rd_T31 x6_3 (ji40)).f0)) ∧ w'.cell? ⟨(ad132.add (((ji40)).toNat * 4)).block, (ad132.add (((ji40)).toNat * 4)).off + 1, none⟩ = some (.int .i64 ((rd_T31 x6_3 (ji40)).f1)) ∧ w'.cell? ⟨(ad132.add (((ji40)).toNat * 4)).block, (ad132.add (((ji40)).toNat * 4)).off + 2, none⟩ = some (.int .i64 ((rd_T31 x6_3 (ji40)).f2)) ∧ w'.cell? ⟨(ad132.add (((ji40)).toNat * 4)).block, (ad132.add (((ji40)).toNat * 4)).off + 3, none⟩ = some (.int .i64 ((rd_T31 x6_3 (ji40)).f3)) ∧ w'.cell? (ad132.add (((ji40)).toNat * 4)) = some (.int .i64 ((rd_T31 x6_3 (ji40)).f0)) ∧ w'.cell? ⟨(ad132.add (((ji40)).toNat * 4)).block, (ad132.add (((ji40)).toNat * 4)).off + 1, none⟩ = some (.int .i64 ((rd_T31 x6_3 (ji40)).f1)) ∧ w'.cell? ⟨(ad132.add (((ji40)).toNat * 4)).block, (ad132.add (((ji40)).toNat * 4)).off + 2, none⟩ = some (.int .i64 ((rd_T31 x6_3 (ji40)).f2)) ∧ w'.cell? ⟨(ad132.add (((ji40)).toNat * 4)).block, (ad132.add (((ji40)).toNat * 4)).off + 3, none⟩ = some (.int .i64 ((rd_T31 x6_3 (ji40)).f3)) ∧ w'.cell? (ad132.add ((x9_3).toNat * 4)) = some (.int .i64 ((rd_T31 x6_3 x9_3).f0)) ∧ w'.cell? ⟨(ad132.add ((x9_3).toNat * 4)).block, (ad132.add ((x9_3).toNat * 4)).off + 1, none⟩ = some (.int .i64 ((rd_T31 x6_3 x9_3).f1)) ∧ w'.cell? ⟨(ad132.add ((x9_3).toNat * 4)).block, (ad132.add ((x9_3).toNat * 4)).off + 2, none⟩ = some (.int .i64 ((rd_T31 x6_3 x9_3).f2)) ∧ w'.cell? ⟨(ad132.add ((x9_3).toNat * 4)).block, (ad132.add ((x9_3).toNat * 4)).off + 3, none⟩ = some (.int .i64 ((rd_T31 x6_3 x9_3).f3))) (ds := []) #[false, false, false, false, false, false, false, false, false, false, false, false, false, false, false, false, false, false, false, false] (by kernel_rfl) rfl rfl ⟨hx132_0, hx132_1, hx132_2, hx132_3, hx133_0, hx133_1, hx133_2, hx133_3, hx134_0, hx134_1, hx134_2, hx134_3⟩ (fun hHeld => ?_); refine with_tabW spec_l10Move.tab17 spec_l10Move.bits17 (fun HT_ HW_ => ?_)
                 generalize wr.drew = w48 at HO_6 HB hx132_0 hx132_1 hx132_2 hx132_3 hx133_0 hx133_1 hx133_2 hx133_3 hx134_0 hx134_1 hx134_2 hx134_3 hHeld ⊢
                 refine pure_ (i := 0) (N := some 95) (v := ?_) (a' := ?_) #[true, false, false, false, false, false, false, false, false, false, false, false, false, false, false, false, false, false, false, false] rfl rfl (any_of HT_.out (by kernel_rfl)) (fun _ _ _ h => h) (Or.inl ⟨by rfl, ?_⟩) ?_ ?_
                 rotate_left; (· (intro w'; go_simp; with_reducible rfl)); rotate_left; (· (simp only [Act.put, sp1, sp2, sp3, i64_w, i32_w]; rfl))
                 refine pure_ (i := 1) (N := some 96) (v := ?_) (a' := ?_) #[true, true, false, false, false, false, false, false, false, false, false, false, false, false, false, false, false, false, false, false] rfl rfl (any_of HT_.out (by kernel_rfl)) (fun _ _ _ h => h) (Or.inl ⟨by rfl, ?_⟩) ?_ ?_
                 rotate_left; (· (intro w'; go_simp; with_reducible rfl)); rotate_left; (· (simp only [Act.put, sp1, sp2, sp3, i64_w, i32_w]; rfl))
                 refine pure_ (i := 2) (N := some 97) (v := ?_) (a' := ?_) #[true, true, true, false, false, false, false, false, false, false, false, false, false, false, false, false, false, false, false, false] rfl rfl (any_of HT_.out (by kernel_rfl)) (fun _ _ _ h => h) (Or.inl ⟨by rfl, ?_⟩) ?_ ?_
                 rotate_left; (· (intro w'; go_simp; with_reducible rfl)); rotate_left; (· (simp only [Act.put, sp1, sp2, sp3, i64_w, i32_w]; rfl))
                 refine pure_ (i := 3) (N := some 98) (v := ?_) (a' := ?_) #[true, true, true, true, false, false, false, false, false, false, false, false, false, false, false, false, false, false, false, false] rfl rfl (any_of HT_.out (by kernel_rfl)) (fun _ _ _ h => h) (Or.inl ⟨by rfl, ?_⟩) ?_ ?_
                 rotate_left; (· (intro w'; go_simp; with_reducible rfl)); rotate_left; (· (simp only [Act.put, sp1, sp2, sp3, i64_w, i32_w]; rfl))
                 refine pure_ (i := 4) (N := some 99) (v := ?_) (a' := ?_) #[true, true, true, true, true, false, false, false, false, false, false, false, false, false, false, false, false, false, false, false] rfl rfl (any_of HT_.out (by kernel_rfl)) (fun _ _ _ h => h) (Or.inl ⟨by rfl, ?_⟩) ?_ ?_
                 rotate_left; (· (intro w'; go_simp; with_reducible rfl)); rotate_left; (· (simp only [Act.put, sp1, sp2, sp3, i64_w, i32_w]; rfl))
                 refine pure_ (i := 6) (N := some 101) (v := ?_) (a' := ?_) #[true, true, true, true, true, false, true, false, false, false, false, false, false, false, false, false, false, false, false, false] rfl rfl (any_of HT_.out (by kernel_rfl)) (fun _ _ _ h => h) (Or.inl ⟨by rfl, ?_⟩) ?_ ?_
                 rotate_left; (· (intro w'; go_simp; with_reducible rfl)); rotate_left; (· (simp only [Act.put, sp1, sp2, sp3, i64_w, i32_w]; rfl))
                 refine pure_ (i := 7) (N := some 102) (v := ?_) (a' := ?_) #[true, true, true, true, true, false, true, true, false, false, false, false, false, false, false, false, false, false, false, false] rfl rfl (any_of HT_.out (by kernel_rfl)) (fun _ _ _ h => h) (Or.inl ⟨by rfl, ?_⟩) ?_ ?_
                 rotate_left; (· (intro w'; go_simp; with_reducible rfl)); rotate_left; (· (simp only [Act.put, sp1, sp2, sp3, i64_w, i32_w]; rfl))
                 refine pure_ (i := 8) (N := some 103) (v := ?_) (a' := ?_) #[true, true, true, true, true, false, true, true, true, false, false, false, false, false, false, false, false, false, false, false] rfl rfl (any_of HT_.out (by kernel_rfl)) (fun _ _ _ h => h) (Or.inl ⟨by rfl, ?_⟩) ?_ ?_
                 rotate_left; (· (intro w'; go_simp; with_reducible rfl)); rotate_left; (· (simp only [Act.put, sp1, sp2, sp3, i64_w, i32_w]; rfl))
                 refine pure_ (i := 9) (N := some 104) (v := ?_) (a' := ?_) #[true, true, true, true, true, false, true, true, true, true, false, false, false, false, false, false, false, false, false, false] rfl rfl (any_of HT_.out (by kernel_rfl)) (fun _ _ _ h => h) (Or.inl ⟨by rfl, ?_⟩) ?_ ?_
                 rotate_left; (· (intro w'; go_simp; with_reducible rfl)); rotate_left; (· (simp only [Act.put, sp1, sp2, sp3, i64_w, i32_w]; rfl))
                 refine pure_ (i := 10) (N := some 105) (v := ?_) (a' := ?_) #[true, true, true, true, true, false, true, true, true, true, true, false, false, false, false, false, false, false, false, false] rfl rfl (any_of HT_.out (by kernel_rfl)) (fun _ _ _ h => h) (Or.inl ⟨by rfl, ?_⟩) ?_ ?_
                 rotate_left; (· (intro w'; go_simp; with_reducible rfl)); rotate_left; (· (simp only [Act.put, sp1, sp2, sp3, i64_w, i32_w]; rfl))
                 refine pure_ (i := 13) (N := some 108) (v := ?_) (a' := ?_) #[true, true, true, true, true, false, true, true, true, true, true, false, false, true, false, false, false, false, false, false] rfl rfl (any_of HT_.out (by kernel_rfl)) (fun _ _ _ h => h) (Or.inl ⟨by rfl, ?_⟩) ?_ ?_
                 rotate_left; (· (intro w'; go_simp; with_reducible rfl)); rotate_left; (· (simp only [Act.put, sp1, sp2, sp3, i64_w, i32_w]; rfl))
                 refine pure_ (i := 14) (N := some 109) (v := ?_) (a' := ?_) #[true, true, true, true, true, false, true, true, true, true, true, false, false, true, true, false, false, false, false, false] rfl rfl (any_of HT_.out (by kernel_rfl)) (fun _ _ _ h => h) (Or.inl ⟨by rfl, ?_⟩) ?_ ?_
                 rotate_left; (· (intro w'; go_simp; with_reducible rfl)); rotate_left; (· (simp only [Act.put, sp1, sp2, sp3, i64_w, i32_w]; rfl))
                 refine pure_ (i := 15) (N := some 110) (v := ?_) (a' := ?_) #[true, true, true, true, true, false, true, true, true, true, true, false, false, true, true, true, false, false, false, false] rfl rfl (any_of HT_.out (by kernel_rfl)) (fun _ _ _ h => h) (Or.inl ⟨by rfl, ?_⟩) ?_ ?_
                 rotate_left; (· (intro w'; go_simp; with_reducible rfl)); rotate_left; (· (simp only [Act.put, sp1, sp2, sp3, i64_w, i32_w]; rfl))
                 refine pure_ (i := 16) (N := some 111) (v := ?_) (a' := ?_) #[true, true, true, true, true, false, true, true, true, true, true, false, false, true, true, true, true, false, false, false] rfl rfl (any_of HT_.out (by kernel_rfl)) (fun _ _ _ h => h) (Or.inl ⟨by rfl, ?_⟩) ?_ ?_
                 rotate_left; (· (intro w'; go_simp; with_reducible rfl)); rotate_left; (· (simp only [Act.put, sp1, sp2, sp3, i64_w, i32_w]; rfl))
                 refine take_ (i := 5) (N := some 100) (v := ?_) (a' := ?_) #[true, true, true, true, true, true, true, true, true, true, true, false, false, true, true, true, true, false, false, false] rfl rfl (take_ofW HT_.out HW_.out (by kernel_rfl)) (fun _ _ _ h => h) (Or.inl ⟨by rfl, ?_⟩) hHeld ?_ ?_
                 rotate_left; (· (rintro w' ⟨s0, s1, s2, s3, s4, s5, s6, s7, s8, s9, s10, s11⟩; go_simp; with_reducible rfl)); rotate_left; (· (simp only [Act.put, sp1, sp2, sp3, i64_w, i32_w]; rfl))
                 refine take_ (i := 11) (N := some 106) (v := ?_) (a' := ?_) #[true, true, true, true, true, true, true, true, true, true, true, true, false, true, true, true, true, false, false, false] rfl rfl (take_ofW HT_.out HW_.out (by kernel_rfl)) (fun _ _ _ h => h) (Or.inl ⟨by rfl, ?_⟩) hHeld ?_ ?_
                 rotate_left; (· (rintro w' ⟨s0, s1, s2, s3, s4, s5, s6, s7, s8, s9, s10, s11⟩; go_simp; with_reducible rfl)); rotate_left; (· (simp only [Act.put, sp1, sp2, sp3, i64_w, i32_w]; rfl))
                 refine pure_ (i := 12) (N := some 107) (v := ?_) (a' := ?_) #[true, true, true, true, true, true, true, true, true, true, true, true, true, true, true, true, true, false, false, false] rfl rfl (any_of HT_.out (by kernel_rfl)) (fun _ _ _ h => h) (Or.inl ⟨by rfl, ?_⟩) ?_ ?_
                 rotate_left; (· (intro w'; go_simp; with_reducible rfl)); rotate_left; (· (simp only [Act.put, sp1, sp2, sp3, i64_w, i32_w]; rfl))
                 refine take_ (i := 17) (N := some 112) (v := ?_) (a' := ?_) #[true, true, true, true, true, true, true, true, true, true, true, true, true, true, true, true, true, true, false, false] rfl rfl (take_ofW HT_.out HW_.out (by kernel_rfl)) (fun _ _ _ h => h) (Or.inl ⟨by rfl, ?_⟩) hHeld ?_ ?_
                 rotate_left; (· (rintro w' ⟨s0, s1, s2, s3, s4, s5, s6, s7, s8, s9, s10, s11⟩; go_simp; with_reducible rfl)); rotate_left; (· (simp only [Act.put, sp1, sp2, sp3, i64_w, i32_w]; rfl))
                 refine pure_ (i := 18) (N := some 113) (v := ?_) (a' := ?_) #[true, true, true, true, true, true, true, true, true, true, true, true, true, true, true, true, true, true, true, false] rfl rfl (any_of HT_.out (by kernel_rfl)) (fun _ _ _ h => h) (Or.inl ⟨by rfl, ?_⟩) ?_ ?_
                 rotate_left; (· (intro w'; go_simp; with_reducible rfl)); rotate_left; (· (simp only [Act.put, sp1, sp2, sp3, i64_w, i32_w]; rfl))
                 refine pure_ (i := 19) (N := some 10) (v := ?_) (a' := ?_) #[true, true, true, true, true, true, true, true, true, true, true, true, true, true, true, true, true, true, true, true] rfl rfl (any_of HT_.out (by kernel_rfl)) (fun _ _ _ h => h) (Or.inl ⟨by rfl, ?_⟩) ?_ ?_
                 rotate_left; (· (intro w'; go_simp; with_reducible rfl)); rotate_left; (· (simp only [Act.put, sp1, sp2, sp3, i64_w, i32_w]; rfl))
                 refine done_ (done_of HT_.out (by kernel_rfl)) ?_
                 have p135 : 0 ≤ (x9_3 : Int) := odt
                 have q135 : x9_3 < (x6_3.length : Int) := odt
                 obtain ⟨ad135, e135, hx135_0, hx135_1, hx135_2, hx135_3⟩ := at_T31 (Kd.R_reads' HO_6.out).2.2 x9_3 p135 q135
                 obtain rfl : ad132 = ad135 := (by injection e135)
                 replace p135 := eq_true p135
                 replace q135 := eq_true q135
                 have p136 : 0 ≤ (x9_3 : Int) := odt
                 have q136 : x9_3 < (x6_3.length : Int) := odt
                 obtain ⟨ad136, e136, hx136_0, hx136_1, hx136_2, hx136_3⟩ := at_T31 (Kd.R_reads' HO_6.out).2.2 x9_3 p136 q136
                 obtain rfl : ad132 = ad136 := (by injection e136)
                 replace p136 := eq_true p136
                 replace q136 := eq_true q136
                 have p47 : 0 ≤ (x9_3 : Int) := odt
                 have q47 : (x9_3 : Int) < ((x6_3.length : Int) : Int) := odt
                 obtain ⟨go47, co47, eo47, gb47, gl47, cl47, HG47⟩ := Kd.R_form HO_6.out (by omega)
                 (first | cases eo47 | (injection eo47 with ea_ en_ ec_; (first | subst ea_ | (injection ea_ with ea_; subst ea_)); subst ec_; clear en_))
                 have GB47 := Aside0.mk gb47
                 have GG47 := Aside0.mk HG47
                 clear gb47 gl47 HG47
                 (first | simp only [add_plain] at hx132_0 | skip)
                 (first | simp only [add_plain] at hx132_1 | skip)
                 (first | simp only [add_plain] at hx132_2 | skip)
                 (first | simp only [add_plain] at hx132_3 | skip)
                 (first | simp only [add_plain] at hx133_0 | skip)
                 (first | simp only [add_plain] at hx133_1 | skip)
                 (first | simp only [add_plain] at hx133_2 | skip)
                 (first | simp only [add_plain] at hx133_3 | skip)
                 (first | simp only [add_plain] at hx134_0 | skip)
                 (first | simp only [add_plain] at hx134_1 | skip)
                 (first | simp only [add_plain] at hx134_2 | skip)
                 (first | simp only [add_plain] at hx134_3 | skip)
                 (first | simp only [add_plain] at hx135_0 | skip)
                 (first | simp only [add_plain] at hx135_1 | skip)
                 (first | simp only [add_plain] at hx135_2 | skip)
                 (first | simp only [add_plain] at hx135_3 | skip)
                 (first | simp only [add_plain] at hx136_0 | skip)
                 (first | simp only [add_plain] at hx136_1 | skip)
                 (first | simp only [add_plain] at hx136_2 | skip)
                 (first | simp only [add_plain] at hx136_3 | skip)
                 obtain ⟨ce47, hcl47, hM47, hcc47, hfr47⟩ := Kd.R_elem HO_6.out z31 (x9_3 : Int) p47 q47
                 obtain rfl := k31_openM hM47
                 have hx47_0 : w48.cell? ⟨go47, (x9_3 : Int).toNat * 4, none⟩ = some (.int .i64 ((rd_T31 x6_3 x9_3).f0)) := hcc47 0 _ rfl
                 have hx47_1 : w48.cell? ⟨go47, (x9_3 : Int).toNat * 4 + 1, none⟩ = some (.int .i64 ((rd_T31 x6_3 x9_3).f1)) := hcc47 1 _ rfl
                 have hx47_2 : w48.cell? ⟨go47, (x9_3 : Int).toNat * 4 + 2, none⟩ = some (.int .i64 ((rd_T31 x6_3 x9_3).f2)) := hcc47 2 _ rfl
                 have hx47_3 : w48.cell? ⟨go47, (x9_3 : Int).toNat * 4 + 3, none⟩ = some (.int .i64 ((rd_T31 x6_3 x9_3).f3)) := hcc47 3 _ rfl
                 have hf47_0 : w48.frozen? ⟨go47, (x9_3 : Int).toNat * 4, none⟩ = false := hfr47 0
                 have hf47_1 : w48.frozen? ⟨go47, (x9_3 : Int).toNat * 4 + 1, none⟩ = false := hfr47 1
                 have hf47_2 : w48.frozen? ⟨go47, (x9_3 : Int).toNat * 4 + 2, none⟩ = false := hfr47 2
                 have hf47_3 : w48.frozen? ⟨go47, (x9_3 : Int).toNat * 4 + 3, none⟩ = false := hfr47 3
                 clear hcl47 hcc47 hfr47 hM47
                 replace p47 := eq_true p47
                 replace q47 := eq_true q47
                 have HX49 := Aside0.mk (show Kd.R k31 31 w48 w.heap.size (fun _ => True) (.slice (some ⟨go47, 0, none⟩) x6_3.length co14) x6_3 from (by (with_reducible repeat (first | apply Kd.R_alloc | apply Kd.R_drewN | apply Kd.R_drew)); exact HO_6.out))
                 obtain ⟨ce49, hcl49, hM49, hcc49, hfr49⟩ := Kd.R_elem HX49.out z31 (x9_3 : Int) odt (by have h_ : (x9_3 : Int) < ((x6_3.length : Int) : Int) := odt; first | exact h_ | (have e_ := (Kd.R_reads' HO_6.out).1; omega) | simpa using h_)
                 obtain rfl := k31_openM hM49
                 have HP49 := Kd.R_seg HX49.out (x9_3 : Int) odt (by have h_ : (x9_3 : Int) < ((x6_3.length : Int) : Int) := odt; first | exact h_ | (have e_ := (Kd.R_reads' HO_6.out).1; omega) | simpa using h_) (seg := [.int .i64 (wrap64 ((wrap64 (((rd_T31 x6_3 (ji40)).f0) - ((rd_T31 x6_3 (ji40)).f3))) - ((rd_T31 x6_3 x9_3).f3)))]) (j := 0) hcl49 hcc49 (show 1 ≤ 4 from by decide) (x' := (⟨wrap64 ((wrap64 (((rd_T31 x6_3 (ji40)).f0) - ((rd_T31 x6_3 (ji40)).f3))) - ((rd_T31 x6_3 x9_3).f3)), (rd_T31 x6_3 x9_3).f1, (rd_T31 x6_3 x9_3).f2, (rd_T31 x6_3 x9_3).f3⟩ : S31)) (k31_mkM _ _ _ (⟨wrap64 ((wrap64 (((rd_T31 x6_3 (ji40)).f0) - ((rd_T31 x6_3 (ji40)).f3))) - ((rd_T31 x6_3 x9_3).f3)), (rd_T31 x6_3 x9_3).f1, (rd_T31 x6_3 x9_3).f2, (rd_T31 x6_3 x9_3).f3⟩ : S31) ) (fun _ hk => hk)
                 have hx49_0 := hcc49 0 _ rfl
                 (try simp only [show (k31).sz = 4 from rfl, Nat.mul_one, Nat.add_zero] at hx49_0)
                 have hf49_0 := hfr49 0
                 (try simp only [show (k31).sz = 4 from rfl, Nat.mul_one, Nat.add_zero] at hf49_0)
                 clear hcl49 hcc49 hfr49 hM49
                 try go_wp2_with (first | ((with_reducible refine gate_store (t := 3) (p := 133) rfl ?_); refine store_event (t := 3) (p := 133) (v := ?vo_w50) (w1 := (w48.setCell ⟨go47, (x9_3 : Int).toNat * 4, none⟩ (.int .i64 (wrap64 ((wrap64 (((rd_T31 x6_3 (ji40)).f0) - ((rd_T31 x6_3 (ji40)).f3))) - ((rd_T31 x6_3 x9_3).f3)))))) ?hg ?ho ?hn ?hr ?_; (case ho => rfl); (case hg => rfl); (case hn => rfl); (case hr => first | (go_simp; done) | (go_simp; rfl)); intro w50 hw; have hg : w48.grownBy w50 (some go47) := (by rw [hw]; exact HP49.2); have hp_ : Kd.R k31 31 w50 w.heap.size (fun _ => True) (.slice (some ⟨go47, 0, none⟩) x6_3.length co14) y137 := (by rw [hw, Ny137.out]; exact HP49.1); clear HP49; have n0_ := Aside0.mk (hp_); have n1_ := Aside0.mk ((by rw [hw]; exact below_set (HB.out) GB47.out : Below w.heap.size w w50)); clear HO_6; clear HB; have HO_6 := n0_; have HB := n1_; clear n0_ n1_; clear hg hw hp_))
                 (try simp only [← hl6_3])
                 go_roundg k3
                 case measure => have := HJ2.out; have := HK2.out; have := HK3.out; omega
                 case rel => exact ⟨(y137), (wrap64 (x9_3 - 1)), (by first | rfl | (simp; done) | (simp [*]; done)), H', ⟨by have := HJ2.out; have := HK2.out; have := HK3.out; omega⟩, ⟨by (try simp only [hl6_2]); (try simp only [hl6_3]); (with_reducible repeat (first | apply Kd.R_alloc | apply Kd.R_drewN | apply Kd.R_drew)); exact HO_6.out⟩, ⟨blw⟩⟩
                ·rw [if_neg c46] at H
                 have c46b0 : decide ((wrap64 ((wrap64 (((rd_T31 x6_3 (ji40)).f0) - ((rd_T31 x6_3 (ji40)).f3))) - ((rd_T31 x6_3 x9_3).f3))) < ((rd_T31 x6_3 x9_3).f0)) = false := decide_eq_false c46
                 clear c46
                 have H' := Aside0.mk H
                 clear H
                 try go_wp2
                 have n0_ := Aside0.mk (Kd.R_drew HO_6.out)
                 have n1_ := Aside0.mk (below_drew1 HB.out)
                 clear HO_6
                 clear HB
                 have HO_6 := n0_
                 have HB := n1_
                 clear n0_ n1_
                 have p132 : 0 ≤ ((ji40) : Int) := odt
                 have q132 : (ji40) < (x6_3.length : Int) := odt
                 obtain ⟨ad132, e132, hx132_0, hx132_1, hx132_2, hx132_3⟩ := at_T31 (Kd.R_reads' HO_6.out).2.2 (ji40) p132 q132
                 cases e132
                 replace p132 := eq_true p132
                 replace q132 := eq_true q132
                 have p133 : 0 ≤ ((ji40) : Int) := odt
                 have q133 : (ji40) < (x6_3.length : Int) := odt
                 obtain ⟨ad133, e133, hx133_0, hx133_1, hx133_2, hx133_3⟩ := at_T31 (Kd.R_reads' HO_6.out).2.2 (ji40) p133 q133
                 obtain rfl : ad132 = ad133 := (by injection e133)
                 replace p133 := eq_true p133
                 replace q133 := eq_true q133
                 have p134 : 0 ≤ (x9_3 : Int) := odt
                 have q134 : x9_3 < (x6_3.length : Int) := odt
                 obtain ⟨ad134, e134, hx134_0, hx134_1, hx134_2, hx134_3⟩ := at_T31 (Kd.R_reads' HO_6.out).2.2 x9_3 p134 q134
                 obtain rfl : ad132 = ad134 := (by injection e134)
                 replace p134 := eq_true p134
                 replace q134 := eq_true q134
                 refine start_ (n := 20) (S := fun w' => w'.cell? (ad132.add (((ji40)).toNat * 4)) = some (.int .i64 ((rd_T31 x6_3 (ji40)).f0)) ∧ w'.cell? ⟨(ad132.add (((ji40)).toNat * 4)).block, (ad132.add (((ji40)).toNat * 4)).off + 1, none⟩ = some (.int .i64 ((rd_T31 x6_3 (ji40)).f1)) ∧ w'.cell? ⟨(ad132.add (((ji40)).toNat * 4)).block, (ad132.add (((ji40)).toNat * 4)).off + 2, none⟩ = some (.int .i64 ((rd_T31 x6_3 (ji40)).f2)) ∧ w'.cell? ⟨(ad132.add (((ji40)).toNat * 4)).block, (ad132.add (((ji40)).toNat * 4)).off + 3, none⟩ = some (.int .i64 ((rd_T31 x6_3 (ji40)).f3)) ∧ w'.cell? (ad132.add (((ji40)).toNat * 4)) = some (.int .i64 ((rd_T31 x6_3 (ji40)).f0)) ∧ w'.cell? ⟨(ad132.add (((ji40)).toNat * 4)).block, (ad132.add (((ji40)).toNat * 4)).off + 1, none⟩ = some (.int .i64 ((rd_T31 x6_3 (ji40)).f1)) ∧ w'.cell? ⟨(ad132.add (((ji40)).toNat * 4)).block, (ad132.add (((ji40)).toNat * 4)).off + 2, none⟩ = some (.int .i64 ((rd_T31 x6_3 (ji40)).f2)) ∧ w'.cell? ⟨(ad132.add (((ji40)).toNat * 4)).block, (ad132.add (((ji40)).toNat * 4)).off + 3, none⟩ = some (.int .i64 ((rd_T31 x6_3 (ji40)).f3)) ∧ w'.cell? (ad132.add ((x9_3).toNat * 4)) = some (.int .i64 ((rd_T31 x6_3 x9_3).f0)) ∧ w'.cell? ⟨(ad132.add ((x9_3).toNat * 4)).block, (ad132.add ((x9_3).toNat * 4)).off + 1, none⟩ = some (.int .i64 ((rd_T31 x6_3 x9_3).f1)) ∧ w'.cell? ⟨(ad132.add ((x9_3).toNat * 4)).block, (ad132.add ((x9_3).toNat * 4)).off + 2, none⟩ = some (.int .i64 ((rd_T31 x6_3 x9_3).f2)) ∧ w'.cell? ⟨(ad132.add ((x9_3).toNat * 4)).block, (ad132.add ((x9_3).toNat * 4)).off + 3, none⟩ = some (.int .i64 ((rd_T31 x6_3 x9_3).f3))) (ds := []) #[false, false, false, false, false, false, false, false, false, false, false, false, false, false, false, false, false, false, false, false] (by kernel_rfl) rfl rfl ⟨hx132_0, hx132_1, hx132_2, hx132_3, hx133_0, hx133_1, hx133_2, hx133_3, hx134_0, hx134_1, hx134_2, hx134_3⟩ (fun hHeld => ?_); refine with_tabW spec_l10Move.tab17 spec_l10Move.bits17 (fun HT_ HW_ => ?_)
                 generalize wr.drew = w51 at HO_6 HB hx132_0 hx132_1 hx132_2 hx132_3 hx133_0 hx133_1 hx133_2 hx133_3 hx134_0 hx134_1 hx134_2 hx134_3 hHeld ⊢
                 refine pure_ (i := 0) (N := some 95) (v := ?_) (a' := ?_) #[true, false, false, false, false, false, false, false, false, false, false, false, false, false, false, false, false, false, false, false] rfl rfl (any_of HT_.out (by kernel_rfl)) (fun _ _ _ h => h) (Or.inl ⟨by rfl, ?_⟩) ?_ ?_
                 rotate_left; (· (intro w'; go_simp; with_reducible rfl)); rotate_left; (· (simp only [Act.put, sp1, sp2, sp3, i64_w, i32_w]; rfl))
                 refine pure_ (i := 1) (N := some 96) (v := ?_) (a' := ?_) #[true, true, false, false, false, false, false, false, false, false, false, false, false, false, false, false, false, false, false, false] rfl rfl (any_of HT_.out (by kernel_rfl)) (fun _ _ _ h => h) (Or.inl ⟨by rfl, ?_⟩) ?_ ?_
                 rotate_left; (· (intro w'; go_simp; with_reducible rfl)); rotate_left; (· (simp only [Act.put, sp1, sp2, sp3, i64_w, i32_w]; rfl))
                 refine pure_ (i := 2) (N := some 97) (v := ?_) (a' := ?_) #[true, true, true, false, false, false, false, false, false, false, false, false, false, false, false, false, false, false, false, false] rfl rfl (any_of HT_.out (by kernel_rfl)) (fun _ _ _ h => h) (Or.inl ⟨by rfl, ?_⟩) ?_ ?_
                 rotate_left; (· (intro w'; go_simp; with_reducible rfl)); rotate_left; (· (simp only [Act.put, sp1, sp2, sp3, i64_w, i32_w]; rfl))
                 refine pure_ (i := 3) (N := some 98) (v := ?_) (a' := ?_) #[true, true, true, true, false, false, false, false, false, false, false, false, false, false, false, false, false, false, false, false] rfl rfl (any_of HT_.out (by kernel_rfl)) (fun _ _ _ h => h) (Or.inl ⟨by rfl, ?_⟩) ?_ ?_
                 rotate_left; (· (intro w'; go_simp; with_reducible rfl)); rotate_left; (· (simp only [Act.put, sp1, sp2, sp3, i64_w, i32_w]; rfl))
                 refine pure_ (i := 4) (N := some 99) (v := ?_) (a' := ?_) #[true, true, true, true, true, false, false, false, false, false, false, false, false, false, false, false, false, false, false, false] rfl rfl (any_of HT_.out (by kernel_rfl)) (fun _ _ _ h => h) (Or.inl ⟨by rfl, ?_⟩) ?_ ?_
                 rotate_left; (· (intro w'; go_simp; with_reducible rfl)); rotate_left; (· (simp only [Act.put, sp1, sp2, sp3, i64_w, i32_w]; rfl))
                 refine pure_ (i := 6) (N := some 101) (v := ?_) (a' := ?_) #[true, true, true, true, true, false, true, false, false, false, false, false, false, false, false, false, false, false, false, false] rfl rfl (any_of HT_.out (by kernel_rfl)) (fun _ _ _ h => h) (Or.inl ⟨by rfl, ?_⟩) ?_ ?_
                 rotate_left; (· (intro w'; go_simp; with_reducible rfl)); rotate_left; (· (simp only [Act.put, sp1, sp2, sp3, i64_w, i32_w]; rfl))
                 refine pure_ (i := 7) (N := some 102) (v := ?_) (a' := ?_) #[true, true, true, true, true, false, true, true, false, false, false, false, false, false, false, false, false, false, false, false] rfl rfl (any_of HT_.out (by kernel_rfl)) (fun _ _ _ h => h) (Or.inl ⟨by rfl, ?_⟩) ?_ ?_
                 rotate_left; (· (intro w'; go_simp; with_reducible rfl)); rotate_left; (· (simp only [Act.put, sp1, sp2, sp3, i64_w, i32_w]; rfl))
                 refine pure_ (i := 8) (N := some 103) (v := ?_) (a' := ?_) #[true, true, true, true, true, false, true, true, true, false, false, false, false, false, false, false, false, false, false, false] rfl rfl (any_of HT_.out (by kernel_rfl)) (fun _ _ _ h => h) (Or.inl ⟨by rfl, ?_⟩) ?_ ?_
                 rotate_left; (· (intro w'; go_simp; with_reducible rfl)); rotate_left; (· (simp only [Act.put, sp1, sp2, sp3, i64_w, i32_w]; rfl))
                 refine pure_ (i := 9) (N := some 104) (v := ?_) (a' := ?_) #[true, true, true, true, true, false, true, true, true, true, false, false, false, false, false, false, false, false, false, false] rfl rfl (any_of HT_.out (by kernel_rfl)) (fun _ _ _ h => h) (Or.inl ⟨by rfl, ?_⟩) ?_ ?_
                 rotate_left; (· (intro w'; go_simp; with_reducible rfl)); rotate_left; (· (simp only [Act.put, sp1, sp2, sp3, i64_w, i32_w]; rfl))
                 refine pure_ (i := 10) (N := some 105) (v := ?_) (a' := ?_) #[true, true, true, true, true, false, true, true, true, true, true, false, false, false, false, false, false, false, false, false] rfl rfl (any_of HT_.out (by kernel_rfl)) (fun _ _ _ h => h) (Or.inl ⟨by rfl, ?_⟩) ?_ ?_
                 rotate_left; (· (intro w'; go_simp; with_reducible rfl)); rotate_left; (· (simp only [Act.put, sp1, sp2, sp3, i64_w, i32_w]; rfl))
                 refine pure_ (i := 13) (N := some 108) (v := ?_) (a' := ?_) #[true, true, true, true, true, false, true, true, true, true, true, false, false, true, false, false, false, false, false, false] rfl rfl (any_of HT_.out (by kernel_rfl)) (fun _ _ _ h => h) (Or.inl ⟨by rfl, ?_⟩) ?_ ?_
                 rotate_left; (· (intro w'; go_simp; with_reducible rfl)); rotate_left; (· (simp only [Act.put, sp1, sp2, sp3, i64_w, i32_w]; rfl))
                 refine pure_ (i := 14) (N := some 109) (v := ?_) (a' := ?_) #[true, true, true, true, true, false, true, true, true, true, true, false, false, true, true, false, false, false, false, false] rfl rfl (any_of HT_.out (by kernel_rfl)) (fun _ _ _ h => h) (Or.inl ⟨by rfl, ?_⟩) ?_ ?_
                 rotate_left; (· (intro w'; go_simp; with_reducible rfl)); rotate_left; (· (simp only [Act.put, sp1, sp2, sp3, i64_w, i32_w]; rfl))
                 refine pure_ (i := 15) (N := some 110) (v := ?_) (a' := ?_) #[true, true, true, true, true, false, true, true, true, true, true, false, false, true, true, true, false, false, false, false] rfl rfl (any_of HT_.out (by kernel_rfl)) (fun _ _ _ h => h) (Or.inl ⟨by rfl, ?_⟩) ?_ ?_
                 rotate_left; (· (intro w'; go_simp; with_reducible rfl)); rotate_left; (· (simp only [Act.put, sp1, sp2, sp3, i64_w, i32_w]; rfl))
                 refine pure_ (i := 16) (N := some 111) (v := ?_) (a' := ?_) #[true, true, true, true, true, false, true, true, true, true, true, false, false, true, true, true, true, false, false, false] rfl rfl (any_of HT_.out (by kernel_rfl)) (fun _ _ _ h => h) (Or.inl ⟨by rfl, ?_⟩) ?_ ?_
                 rotate_left; (· (intro w'; go_simp; with_reducible rfl)); rotate_left; (· (simp only [Act.put, sp1, sp2, sp3, i64_w, i32_w]; rfl))
                 refine take_ (i := 5) (N := some 100) (v := ?_) (a' := ?_) #[true, true, true, true, true, true, true, true, true, true, true, false, false, true, true, true, true, false, false, false] rfl rfl (take_ofW HT_.out HW_.out (by kernel_rfl)) (fun _ _ _ h => h) (Or.inl ⟨by rfl, ?_⟩) hHeld ?_ ?_
                 rotate_left; (· (rintro w' ⟨s0, s1, s2, s3, s4, s5, s6, s7, s8, s9, s10, s11⟩; go_simp; with_reducible rfl)); rotate_left; (· (simp only [Act.put, sp1, sp2, sp3, i64_w, i32_w]; rfl))
                 refine take_ (i := 11) (N := some 106) (v := ?_) (a' := ?_) #[true, true, true, true, true, true, true, true, true, true, true, true, false, true, true, true, true, false, false, false] rfl rfl (take_ofW HT_.out HW_.out (by kernel_rfl)) (fun _ _ _ h => h) (Or.inl ⟨by rfl, ?_⟩) hHeld ?_ ?_
                 rotate_left; (· (rintro w' ⟨s0, s1, s2, s3, s4, s5, s6, s7, s8, s9, s10, s11⟩; go_simp; with_reducible rfl)); rotate_left; (· (simp only [Act.put, sp1, sp2, sp3, i64_w, i32_w]; rfl))
                 refine pure_ (i := 12) (N := some 107) (v := ?_) (a' := ?_) #[true, true, true, true, true, true, true, true, true, true, true, true, true, true, true, true, true, false, false, false] rfl rfl (any_of HT_.out (by kernel_rfl)) (fun _ _ _ h => h) (Or.inl ⟨by rfl, ?_⟩) ?_ ?_
                 rotate_left; (· (intro w'; go_simp; with_reducible rfl)); rotate_left; (· (simp only [Act.put, sp1, sp2, sp3, i64_w, i32_w]; rfl))
                 refine take_ (i := 17) (N := some 112) (v := ?_) (a' := ?_) #[true, true, true, true, true, true, true, true, true, true, true, true, true, true, true, true, true, true, false, false] rfl rfl (take_ofW HT_.out HW_.out (by kernel_rfl)) (fun _ _ _ h => h) (Or.inl ⟨by rfl, ?_⟩) hHeld ?_ ?_
                 rotate_left; (· (rintro w' ⟨s0, s1, s2, s3, s4, s5, s6, s7, s8, s9, s10, s11⟩; go_simp; with_reducible rfl)); rotate_left; (· (simp only [Act.put, sp1, sp2, sp3, i64_w, i32_w]; rfl))
                 refine pure_ (i := 18) (N := some 113) (v := ?_) (a' := ?_) #[true, true, true, true, true, true, true, true, true, true, true, true, true, true, true, true, true, true, true, false] rfl rfl (any_of HT_.out (by kernel_rfl)) (fun _ _ _ h => h) (Or.inl ⟨by rfl, ?_⟩) ?_ ?_
                 rotate_left; (· (intro w'; go_simp; with_reducible rfl)); rotate_left; (· (simp only [Act.put, sp1, sp2, sp3, i64_w, i32_w]; rfl))
                 refine pure_ (i := 19) (N := some 10) (v := ?_) (a' := ?_) #[true, true, true, true, true, true, true, true, true, true, true, true, true, true, true, true, true, true, true, true] rfl rfl (any_of HT_.out (by kernel_rfl)) (fun _ _ _ h => h) (Or.inl ⟨by rfl, ?_⟩) ?_ ?_
                 rotate_left; (· (intro w'; go_simp; with_reducible rfl)); rotate_left; (· (simp only [Act.put, sp1, sp2, sp3, i64_w, i32_w]; rfl))
                 refine done_ (done_of HT_.out (by kernel_rfl)) ?_
                 have p135 : 0 ≤ (x9_3 : Int) := odt
                 have q135 : x9_3 < (x6_3.length : Int) := odt
                 obtain ⟨ad135, e135, hx135_0, hx135_1, hx135_2, hx135_3⟩ := at_T31 (Kd.R_reads' HO_6.out).2.2 x9_3 p135 q135
                 obtain rfl : ad132 = ad135 := (by injection e135)
                 replace p135 := eq_true p135
                 replace q135 := eq_true q135
                 have p136 : 0 ≤ (x9_3 : Int) := odt
                 have q136 : x9_3 < (x6_3.length : Int) := odt
                 obtain ⟨ad136, e136, hx136_0, hx136_1, hx136_2, hx136_3⟩ := at_T31 (Kd.R_reads' HO_6.out).2.2 x9_3 p136 q136
                 obtain rfl : ad132 = ad136 := (by injection e136)
                 replace p136 := eq_true p136
                 replace q136 := eq_true q136
                 try go_wp2
                 (try simp only [← hl6_3])
                 go_roundg k3
                 case measure => have := HJ2.out; have := HK2.out; have := HK3.out; omega
                 case rel => exact ⟨(x6_3), (wrap64 (x9_3 - 1)), (by first | rfl | (simp; done) | (simp [*]; done)), H', ⟨by have := HJ2.out; have := HK2.out; have := HK3.out; omega⟩, ⟨by (try simp only [hl6_2]); (try simp only [hl6_3]); (with_reducible repeat (first | apply Kd.R_alloc | apply Kd.R_drewN | apply Kd.R_drew)); exact HO_6.out⟩, ⟨blw⟩⟩
               ·rw [if_neg c45] at H
                have c45b0 : decide (0 < ((rd_T31 x6_3 x9_3).f2)) = false := decide_eq_false c45
                clear c45
                have H' := Aside0.mk H
                clear H
                try go_wp2
                have n0_ := Aside0.mk (Kd.R_drew HO_6.out)
                have n1_ := Aside0.mk (below_drew1 HB.out)
                clear HO_6
                clear HB
                have HO_6 := n0_
                have HB := n1_
                clear n0_ n1_
                have p132 : 0 ≤ ((ji40) : Int) := odt
                have q132 : (ji40) < (x6_3.length : Int) := odt
                obtain ⟨ad132, e132, hx132_0, hx132_1, hx132_2, hx132_3⟩ := at_T31 (Kd.R_reads' HO_6.out).2.2 (ji40) p132 q132
                cases e132
                replace p132 := eq_true p132
                replace q132 := eq_true q132
                have p133 : 0 ≤ ((ji40) : Int) := odt
                have q133 : (ji40) < (x6_3.length : Int) := odt
                obtain ⟨ad133, e133, hx133_0, hx133_1, hx133_2, hx133_3⟩ := at_T31 (Kd.R_reads' HO_6.out).2.2 (ji40) p133 q133
                obtain rfl : ad132 = ad133 := (by injection e133)
                replace p133 := eq_true p133
                replace q133 := eq_true q133
                have p134 : 0 ≤ (x9_3 : Int) := odt
                have q134 : x9_3 < (x6_3.length : Int) := odt
                obtain ⟨ad134, e134, hx134_0, hx134_1, hx134_2, hx134_3⟩ := at_T31 (Kd.R_reads' HO_6.out).2.2 x9_3 p134 q134
                obtain rfl : ad132 = ad134 := (by injection e134)
                replace p134 := eq_true p134
                replace q134 := eq_true q134
                refine start_ (n := 20) (S := fun w' => w'.cell? (ad132.add (((ji40)).toNat * 4)) = some (.int .i64 ((rd_T31 x6_3 (ji40)).f0)) ∧ w'.cell? ⟨(ad132.add (((ji40)).toNat * 4)).block, (ad132.add (((ji40)).toNat * 4)).off + 1, none⟩ = some (.int .i64 ((rd_T31 x6_3 (ji40)).f1)) ∧ w'.cell? ⟨(ad132.add (((ji40)).toNat * 4)).block, (ad132.add (((ji40)).toNat * 4)).off + 2, none⟩ = some (.int .i64 ((rd_T31 x6_3 (ji40)).f2)) ∧ w'.cell? ⟨(ad132.add (((ji40)).toNat * 4)).block, (ad132.add (((ji40)).toNat * 4)).off + 3, none⟩ = some (.int .i64 ((rd_T31 x6_3 (ji40)).f3)) ∧ w'.cell? (ad132.add (((ji40)).toNat * 4)) = some (.int .i64 ((rd_T31 x6_3 (ji40)).f0)) ∧ w'.cell? ⟨(ad132.add (((ji40)).toNat * 4)).block, (ad132.add (((ji40)).toNat * 4)).off + 1, none⟩ = some (.int .i64 ((rd_T31 x6_3 (ji40)).f1)) ∧ w'.cell? ⟨(ad132.add (((ji40)).toNat * 4)).block, (ad132.add (((ji40)).toNat * 4)).off + 2, none⟩ = some (.int .i64 ((rd_T31 x6_3 (ji40)).f2)) ∧ w'.cell? ⟨(ad132.add (((ji40)).toNat * 4)).block, (ad132.add (((ji40)).toNat * 4)).off + 3, none⟩ = some (.int .i64 ((rd_T31 x6_3 (ji40)).f3)) ∧ w'.cell? (ad132.add ((x9_3).toNat * 4)) = some (.int .i64 ((rd_T31 x6_3 x9_3).f0)) ∧ w'.cell? ⟨(ad132.add ((x9_3).toNat * 4)).block, (ad132.add ((x9_3).toNat * 4)).off + 1, none⟩ = some (.int .i64 ((rd_T31 x6_3 x9_3).f1)) ∧ w'.cell? ⟨(ad132.add ((x9_3).toNat * 4)).block, (ad132.add ((x9_3).toNat * 4)).off + 2, none⟩ = some (.int .i64 ((rd_T31 x6_3 x9_3).f2)) ∧ w'.cell? ⟨(ad132.add ((x9_3).toNat * 4)).block, (ad132.add ((x9_3).toNat * 4)).off + 3, none⟩ = some (.int .i64 ((rd_T31 x6_3 x9_3).f3))) (ds := []) #[false, false, false, false, false, false, false, false, false, false, false, false, false, false, false, false, false, false, false, false] (by kernel_rfl) rfl rfl ⟨hx132_0, hx132_1, hx132_2, hx132_3, hx133_0, hx133_1, hx133_2, hx133_3, hx134_0, hx134_1, hx134_2, hx134_3⟩ (fun hHeld => ?_); refine with_tabW spec_l10Move.tab17 spec_l10Move.bits17 (fun HT_ HW_ => ?_)
                generalize wr.drew = w52 at HO_6 HB hx132_0 hx132_1 hx132_2 hx132_3 hx133_0 hx133_1 hx133_2 hx133_3 hx134_0 hx134_1 hx134_2 hx134_3 hHeld ⊢
                refine pure_ (i := 0) (N := some 95) (v := ?_) (a' := ?_) #[true, false, false, false, false, false, false, false, false, false, false, false, false, false, false, false, false, false, false, false] rfl rfl (any_of HT_.out (by kernel_rfl)) (fun _ _ _ h => h) (Or.inl ⟨by rfl, ?_⟩) ?_ ?_
                rotate_left; (· (intro w'; go_simp; with_reducible rfl)); rotate_left; (· (simp only [Act.put, sp1, sp2, sp3, i64_w, i32_w]; rfl))
                refine pure_ (i := 1) (N := some 96) (v := ?_) (a' := ?_) #[true, true, false, false, false, false, false, false, false, false, false, false, false, false, false, false, false, false, false, false] rfl rfl (any_of HT_.out (by kernel_rfl)) (fun _ _ _ h => h) (Or.inl ⟨by rfl, ?_⟩) ?_ ?_
                rotate_left; (· (intro w'; go_simp; with_reducible rfl)); rotate_left; (· (simp only [Act.put, sp1, sp2, sp3, i64_w, i32_w]; rfl))
                refine pure_ (i := 2) (N := some 97) (v := ?_) (a' := ?_) #[true, true, true, false, false, false, false, false, false, false, false, false, false, false, false, false, false, false, false, false] rfl rfl (any_of HT_.out (by kernel_rfl)) (fun _ _ _ h => h) (Or.inl ⟨by rfl, ?_⟩) ?_ ?_
                rotate_left; (· (intro w'; go_simp; with_reducible rfl)); rotate_left; (· (simp only [Act.put, sp1, sp2, sp3, i64_w, i32_w]; rfl))
                refine pure_ (i := 3) (N := some 98) (v := ?_) (a' := ?_) #[true, true, true, true, false, false, false, false, false, false, false, false, false, false, false, false, false, false, false, false] rfl rfl (any_of HT_.out (by kernel_rfl)) (fun _ _ _ h => h) (Or.inl ⟨by rfl, ?_⟩) ?_ ?_
                rotate_left; (· (intro w'; go_simp; with_reducible rfl)); rotate_left; (· (simp only [Act.put, sp1, sp2, sp3, i64_w, i32_w]; rfl))
                refine pure_ (i := 4) (N := some 99) (v := ?_) (a' := ?_) #[true, true, true, true, true, false, false, false, false, false, false, false, false, false, false, false, false, false, false, false] rfl rfl (any_of HT_.out (by kernel_rfl)) (fun _ _ _ h => h) (Or.inl ⟨by rfl, ?_⟩) ?_ ?_
                rotate_left; (· (intro w'; go_simp; with_reducible rfl)); rotate_left; (· (simp only [Act.put, sp1, sp2, sp3, i64_w, i32_w]; rfl))
                refine pure_ (i := 6) (N := some 101) (v := ?_) (a' := ?_) #[true, true, true, true, true, false, true, false, false, false, false, false, false, false, false, false, false, false, false, false] rfl rfl (any_of HT_.out (by kernel_rfl)) (fun _ _ _ h => h) (Or.inl ⟨by rfl, ?_⟩) ?_ ?_
                rotate_left; (· (intro w'; go_simp; with_reducible rfl)); rotate_left; (· (simp only [Act.put, sp1, sp2, sp3, i64_w, i32_w]; rfl))
                refine pure_ (i := 7) (N := some 102) (v := ?_) (a' := ?_) #[true, true, true, true, true, false, true, true, false, false, false, false, false, false, false, false, false, false, false, false] rfl rfl (any_of HT_.out (by kernel_rfl)) (fun _ _ _ h => h) (Or.inl ⟨by rfl, ?_⟩) ?_ ?_
                rotate_left; (· (intro w'; go_simp; with_reducible rfl)); rotate_left; (· (simp only [Act.put, sp1, sp2, sp3, i64_w, i32_w]; rfl))
                refine pure_ (i := 8) (N := some 103) (v := ?_) (a' := ?_) #[true, true, true, true, true, false, true, true, true, false, false, false, false, false, false, false, false, false, false, false] rfl rfl (any_of HT_.out (by kernel_rfl)) (fun _ _ _ h => h) (Or.inl ⟨by rfl, ?_⟩) ?_ ?_
                rotate_left; (· (intro w'; go_simp; with_reducible rfl)); rotate_left; (· (simp only [Act.put, sp1, sp2, sp3, i64_w, i32_w]; rfl))
                refine pure_ (i := 9) (N := some 104) (v := ?_) (a' := ?_) #[true, true, true, true, true, false, true, true, true, true, false, false, false, false, false, false, false, false, false, false] rfl rfl (any_of HT_.out (by kernel_rfl)) (fun _ _ _ h => h) (Or.inl ⟨by rfl, ?_⟩) ?_ ?_
                rotate_left; (· (intro w'; go_simp; with_reducible rfl)); rotate_left; (· (simp only [Act.put, sp1, sp2, sp3, i64_w, i32_w]; rfl))
                refine pure_ (i := 10) (N := some 105) (v := ?_) (a' := ?_) #[true, true, true, true, true, false, true, true, true, true, true, false, false, false, false, false, false, false, false, false] rfl rfl (any_of HT_.out (by kernel_rfl)) (fun _ _ _ h => h) (Or.inl ⟨by rfl, ?_⟩) ?_ ?_
                rotate_left; (· (intro w'; go_simp; with_reducible rfl)); rotate_left; (· (simp only [Act.put, sp1, sp2, sp3, i64_w, i32_w]; rfl))
                refine pure_ (i := 13) (N := some 108) (v := ?_) (a' := ?_) #[true, true, true, true, true, false, true, true, true, true, true, false, false, true, false, false, false, false, false, false] rfl rfl (any_of HT_.out (by kernel_rfl)) (fun _ _ _ h => h) (Or.inl ⟨by rfl, ?_⟩) ?_ ?_
                rotate_left; (· (intro w'; go_simp; with_reducible rfl)); rotate_left; (· (simp only [Act.put, sp1, sp2, sp3, i64_w, i32_w]; rfl))
                refine pure_ (i := 14) (N := some 109) (v := ?_) (a' := ?_) #[true, true, true, true, true, false, true, true, true, true, true, false, false, true, true, false, false, false, false, false] rfl rfl (any_of HT_.out (by kernel_rfl)) (fun _ _ _ h => h) (Or.inl ⟨by rfl, ?_⟩) ?_ ?_
                rotate_left; (· (intro w'; go_simp; with_reducible rfl)); rotate_left; (· (simp only [Act.put, sp1, sp2, sp3, i64_w, i32_w]; rfl))
                refine pure_ (i := 15) (N := some 110) (v := ?_) (a' := ?_) #[true, true, true, true, true, false, true, true, true, true, true, false, false, true, true, true, false, false, false, false] rfl rfl (any_of HT_.out (by kernel_rfl)) (fun _ _ _ h => h) (Or.inl ⟨by rfl, ?_⟩) ?_ ?_
                rotate_left; (· (intro w'; go_simp; with_reducible rfl)); rotate_left; (· (simp only [Act.put, sp1, sp2, sp3, i64_w, i32_w]; rfl))
                refine pure_ (i := 16) (N := some 111) (v := ?_) (a' := ?_) #[true, true, true, true, true, false, true, true, true, true, true, false, false, true, true, true, true, false, false, false] rfl rfl (any_of HT_.out (by kernel_rfl)) (fun _ _ _ h => h) (Or.inl ⟨by rfl, ?_⟩) ?_ ?_
                rotate_left; (· (intro w'; go_simp; with_reducible rfl)); rotate_left; (· (simp only [Act.put, sp1, sp2, sp3, i64_w, i32_w]; rfl))
                refine take_ (i := 5) (N := some 100) (v := ?_) (a' := ?_) #[true, true, true, true, true, true, true, true, true, true, true, false, false, true, true, true, true, false, false, false] rfl rfl (take_ofW HT_.out HW_.out (by kernel_rfl)) (fun _ _ _ h => h) (Or.inl ⟨by rfl, ?_⟩) hHeld ?_ ?_
                rotate_left; (· (rintro w' ⟨s0, s1, s2, s3, s4, s5, s6, s7, s8, s9, s10, s11⟩; go_simp; with_reducible rfl)); rotate_left; (· (simp only [Act.put, sp1, sp2, sp3, i64_w, i32_w]; rfl))
                refine take_ (i := 11) (N := some 106) (v := ?_) (a' := ?_) #[true, true, true, true, true, true, true, true, true, true, true, true, false, true, true, true, true, false, false, false] rfl rfl (take_ofW HT_.out HW_.out (by kernel_rfl)) (fun _ _ _ h => h) (Or.inl ⟨by rfl, ?_⟩) hHeld ?_ ?_
                rotate_left; (· (rintro w' ⟨s0, s1, s2, s3, s4, s5, s6, s7, s8, s9, s10, s11⟩; go_simp; with_reducible rfl)); rotate_left; (· (simp only [Act.put, sp1, sp2, sp3, i64_w, i32_w]; rfl))
                refine pure_ (i := 12) (N := some 107) (v := ?_) (a' := ?_) #[true, true, true, true, true, true, true, true, true, true, true, true, true, true, true, true, true, false, false, false] rfl rfl (any_of HT_.out (by kernel_rfl)) (fun _ _ _ h => h) (Or.inl ⟨by rfl, ?_⟩) ?_ ?_
                rotate_left; (· (intro w'; go_simp; with_reducible rfl)); rotate_left; (· (simp only [Act.put, sp1, sp2, sp3, i64_w, i32_w]; rfl))
                refine take_ (i := 17) (N := some 112) (v := ?_) (a' := ?_) #[true, true, true, true, true, true, true, true, true, true, true, true, true, true, true, true, true, true, false, false] rfl rfl (take_ofW HT_.out HW_.out (by kernel_rfl)) (fun _ _ _ h => h) (Or.inl ⟨by rfl, ?_⟩) hHeld ?_ ?_
                rotate_left; (· (rintro w' ⟨s0, s1, s2, s3, s4, s5, s6, s7, s8, s9, s10, s11⟩; go_simp; with_reducible rfl)); rotate_left; (· (simp only [Act.put, sp1, sp2, sp3, i64_w, i32_w]; rfl))
                refine pure_ (i := 18) (N := some 113) (v := ?_) (a' := ?_) #[true, true, true, true, true, true, true, true, true, true, true, true, true, true, true, true, true, true, true, false] rfl rfl (any_of HT_.out (by kernel_rfl)) (fun _ _ _ h => h) (Or.inl ⟨by rfl, ?_⟩) ?_ ?_
                rotate_left; (· (intro w'; go_simp; with_reducible rfl)); rotate_left; (· (simp only [Act.put, sp1, sp2, sp3, i64_w, i32_w]; rfl))
                refine pure_ (i := 19) (N := some 10) (v := ?_) (a' := ?_) #[true, true, true, true, true, true, true, true, true, true, true, true, true, true, true, true, true, true, true, true] rfl rfl (any_of HT_.out (by kernel_rfl)) (fun _ _ _ h => h) (Or.inl ⟨by rfl, ?_⟩) ?_ ?_
                rotate_left; (· (intro w'; go_simp; with_reducible rfl)); rotate_left; (· (simp only [Act.put, sp1, sp2, sp3, i64_w, i32_w]; rfl))
                refine done_ (done_of HT_.out (by kernel_rfl)) ?_
                have p135 : 0 ≤ (x9_3 : Int) := odt
                have q135 : x9_3 < (x6_3.length : Int) := odt
                obtain ⟨ad135, e135, hx135_0, hx135_1, hx135_2, hx135_3⟩ := at_T31 (Kd.R_reads' HO_6.out).2.2 x9_3 p135 q135
                obtain rfl : ad132 = ad135 := (by injection e135)
                replace p135 := eq_true p135
                replace q135 := eq_true q135
                try go_wp2
                (try simp only [← hl6_3])
                go_roundg k3
                case measure => have := HJ2.out; have := HK2.out; have := HK3.out; omega
                case rel => exact ⟨(x6_3), (wrap64 (x9_3 - 1)), (by first | rfl | (simp; done) | (simp [*]; done)), H', ⟨by have := HJ2.out; have := HK2.out; have := HK3.out; omega⟩, ⟨by (try simp only [hl6_2]); (try simp only [hl6_3]); (with_reducible repeat (first | apply Kd.R_alloc | apply Kd.R_drewN | apply Kd.R_drew)); exact HO_6.out⟩, ⟨blw⟩⟩
              ·rw [if_neg c44] at H
               exact absurd H (by simp)
             ·rw [if_neg c43] at H
              exact absurd H (by simp)
            ·rw [if_neg c42] at H
             exact absurd H (by simp)
           ·rw [if_neg c41] at H
            exact absurd H (by simp)
          ·rw [if_neg c39] at H
           have c39b0 : decide (0 ≤ x9_3) = false := decide_eq_false c39
           clear c39
           replace H := Option.bind_eq_some_iff.mp H
           obtain ⟨t138, A530, H⟩ := H
           replace H : (if t138 = true then (some (x6_3, true)) else (some (([] : List (S31)), false))) = some (r1, r2) := H
           have A53 := Aside0.mk A530
           clear A530
           by_cases c54 : t138 = true
           ·subst c54
            have H1 : (some (x6_3, true)) = some (r1, r2) := by rw [if_pos rfl] at H; exact H
            clear H
            have H := H1
            clear H1
            simp only [Option.some.injEq, Prod.mk.injEq] at H
            obtain ⟨rfl, rfl⟩ := H
            go_wp2_with (first | ((with_reducible refine gate_callee (f := 16) rfl ?_); refine goesL_ (some 135) rfl rfl Try.func16 (by kernel_rfl) rfl #[.slice Ao14 x6_3.length co14] rfl (by (try simp only [List.map_toArray, List.map_cons, List.map_nil]); first | done | rfl | (simp only [List.length_drop, List.length_take]; rfl)) ?_; (with_reducible refine (spec_GoodLine.calls k3 _ _ x6_3 true _ ?side1 ?side2 A53.out).mono ?_); (case side1 => repeat (first | exact (Kd.R_reads' HO_6.out).2.2 | (with_reducible refine Kd.C_alloc ?_ _) | (with_reducible refine Kd.C_drewN ?_ _) | (with_reducible refine Kd.C_drew ?_))); (case side2 => exact (Kd.R_reads' HO_6.out).2.1); rintro e w55 ⟨rfl, hb⟩; refine ⟨_, rfl, ?_⟩; have n0_ := Aside0.mk (Kd.R_below (by (with_reducible repeat (first | apply Kd.R_alloc | apply Kd.R_drewN | apply Kd.R_drew)); exact HO_6.out) hb); have n1_ := z_bs HB hb; clear HO_6; clear HB; have HO_6 := n0_; have HB := n1_; clear n0_ n1_; (try clear hb); (try clear hb2); (try clear hk); (try clear hi)))
            go_ret2
            exact ⟨_, by first | rfl | (simp [errW_none, errW_some] <;> rfl) | (simp [*, errW_none, errW_some] <;> rfl), by (with_reducible repeat (first | apply Kd.R_alloc | apply Kd.R_drewN | apply Kd.R_drew)); exact HO_6.out, blw⟩
           ·replace c54 := Bool.eq_false_iff.mpr c54
            subst c54
            have H1 : (some (([] : List (S31)), false)) = some (r1, r2) := by rw [if_neg (show ¬ (false = true) by decide)] at H; exact H
            clear H
            have H := H1
            clear H1
            simp only [Option.some.injEq, Prod.mk.injEq] at H
            obtain ⟨rfl, rfl⟩ := H
            go_wp2_with (first | ((with_reducible refine gate_callee (f := 16) rfl ?_); refine goesL_ (some 135) rfl rfl Try.func16 (by kernel_rfl) rfl #[.slice Ao14 x6_3.length co14] rfl (by (try simp only [List.map_toArray, List.map_cons, List.map_nil]); first | done | rfl | (simp only [List.length_drop, List.length_take]; rfl)) ?_; (with_reducible refine (spec_GoodLine.calls k3 _ _ x6_3 false _ ?side1 ?side2 A53.out).mono ?_); (case side1 => repeat (first | exact (Kd.R_reads' HO_6.out).2.2 | (with_reducible refine Kd.C_alloc ?_ _) | (with_reducible refine Kd.C_drewN ?_ _) | (with_reducible refine Kd.C_drew ?_))); (case side2 => exact (Kd.R_reads' HO_6.out).2.1); rintro e w56 ⟨rfl, hb⟩; refine ⟨_, rfl, ?_⟩; have n0_ := Aside0.mk (Kd.R_below (by (with_reducible repeat (first | apply Kd.R_alloc | apply Kd.R_drewN | apply Kd.R_drew)); exact HO_6.out) hb); have n1_ := z_bs HB hb; clear HO_6; clear HB; have HO_6 := n0_; have HB := n1_; clear n0_ n1_; (try clear hb); (try clear hb2); (try clear hk); (try clear hi)))
            go_ret2
            exact ⟨_, by first | rfl | (simp [errW_none, errW_some] <;> rfl) | (simp [*, errW_none, errW_some] <;> rfl), by first | exact Kd.R_nil _ _ _ _ _ | exact Kd.N_nil _ _ _ _ _ | exact Kd.V_nil _ _ _ _ _ | exact Kd.Q_nil _ _ _ _ _ | exact Kd.S_nil _ _ _ _ _, blw⟩
    ·rw [if_neg c10] at H
     exact absurd H (by simp)

end Go.Proofs.Ytlijlailbjjfbaa.PFnExactStepIslands
