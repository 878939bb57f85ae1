/- The machine's side of a law, function by function: a Lean function with the Go function's answers and the proof that the Go code comes to them. No condition. Written by this session's program over the kit's print, this session's own contracts set in. -/
import Derived.Test.YtnfcpbajngccoaaPFnExactDoorsOfx0
import Derived.Test.YtnfcpbajngccoaaPFnExactDoorsOfx9
import Derived.Test.YtnfcpbajngccoaaPFnExactDoorsOfx10
import Derived.Test.YtnfcpbajngccoaaPFnExactDoorsOfx11
import Derived.Test.YtnfcpbajngccoaaPFnExactDoorsOfx12
namespace Go.Proofs.Ytnfcpbajngccoaa.PFnExactDoorsOf
open Go.RowKit Go.Proofs.YtnfcpbajngccoaaW.PrintWords Go.Proofs.YtnfcpbajngccoaaW.PrintLast Go.Proofs.YtnfcpbajngccoaaW.PrintMore
attribute [local go_sem] max2_int min2_int max_two min_two max_three min_three max_four min_four   -- for this text's walks alone
set_option linter.unusedVariables false
set_option linter.unusedSimpArgs false

/-! ### impl_GoodGround: function 12 -/
mutual
def impl_GoodGround.j0 : Nat → Bool → List (S54) → List (List Int) → Option (Bool)
 | 0, _, _, _ => none
 | k + 1, x17, x255000, x255001 => if x17 = true then (some false) else (impl_GoodGround.l0 k x255000 (x255000.length : Int) 0 x255000 x255001)
def impl_GoodGround.l0 : Nat → List (S54) → Int → Int → List (S54) → List (List Int) → Option (Bool)
 | 0, _, _, _, _, _ => none
 | k + 1, x19, x20, x21, x255000, x255001 => if x21 < x20 then (if 0 ≤ x21 then (if x21 < (x19.length : Int) then ((impl_isOnGround.f ((rd_T54 x19 x21).f0) ((rd_T54 x19 x21).f1)).bind fun t258 => (if t258 = true then (if x21 ≤ (x255000.length : Int) then ((impl_Spot2_45.f k (x255000.take (x21 : Int).toNat) ((rd_T54 x19 x21).f0) ((rd_T54 x19 x21).f1)).bind fun t263 => (if t263 = true then (some false) else (impl_GoodGround.l0 k x19 x20 (wrap64 (x21 + 1)) x255000 x255001))) else (none)) else (some false))) else (none)) else (none)) else (impl_GoodGround.l1 k x255001 (x255001.length : Int) 0 x255000 x255001)
def impl_GoodGround.l1 : Nat → List (List Int) → Int → Int → List (S54) → List (List Int) → Option (Bool)
 | 0, _, _, _, _, _ => none
 | k + 1, x42, x43, x44, x255000, x255001 => if x44 < x43 then (if 0 ≤ x44 then (if x44 < (x42.length : Int) then ((impl_Ground_isFace.f k x255000 x255001 (rd_L2 x42 x44)).bind fun t265 => (if t265 = true then (if x44 ≤ (x255001.length : Int) then ((slices_ContainsFunc_int_int.f k (x255001.take (x44 : Int).toNat) (rd_L2 x42 x44)).bind fun t270 => (if t270 = true then (some false) else (impl_GoodGround.l1 k x42 x43 (wrap64 (x44 + 1)) x255000 x255001))) else (none)) else (some false))) else (none)) else (none)) else (some true)
end
def impl_GoodGround.f (k : Nat) (l0_0 : List (S54)) (l0_1 : List (List Int)) : Option (Bool) := if (l0_0.length : Int) > 40 then (impl_GoodGround.j0 k true l0_0 l0_1) else ((impl_inRange.f (l0_1.length : Int) 1 20).bind fun t255 => (impl_GoodGround.j0 k (!t255) l0_0 l0_1))
theorem impl_GoodGround.mono_l : ∀ k, (∀ y0 y1 y2, LeO (impl_GoodGround.j0 k y0 y1 y2) (impl_GoodGround.j0 (k + 1) y0 y1 y2)) ∧ (∀ y0 y1 y2 y3 y4, LeO (impl_GoodGround.l0 k y0 y1 y2 y3 y4) (impl_GoodGround.l0 (k + 1) y0 y1 y2 y3 y4)) ∧ (∀ y0 y1 y2 y3 y4, LeO (impl_GoodGround.l1 k y0 y1 y2 y3 y4) (impl_GoodGround.l1 (k + 1) y0 y1 y2 y3 y4))
 | 0 => ⟨fun _ _ _ r h => by simp [impl_GoodGround.j0] at h, fun _ _ _ _ _ r h => by simp [impl_GoodGround.l0] at h, fun _ _ _ _ _ r h => by simp [impl_GoodGround.l1] at h⟩
 | k + 1 => by
  obtain ⟨ih0, ih1, ih2⟩ := impl_GoodGround.mono_l k
  refine ⟨?_, ?_, ?_⟩
  ·intro y0 y1 y2
   unfold impl_GoodGround.j0
   repeat' first
   | (with_reducible exact ih0 _ _ _)
   | (with_reducible exact ih1 _ _ _ _ _)
   | (with_reducible exact ih2 _ _ _ _ _)
   | (with_reducible exact impl_Ground_isFace.mono _ _ _ _)
   | (with_reducible exact impl_Spot2_45.mono _ _ _ _)
   | (with_reducible exact slices_ContainsFunc_int_int.mono _ _ _)
   | (with_reducible exact LeO.refl _)
   | (with_reducible exact LeO.none _)
   | (with_reducible refine LeO.ite ?_ ?_)
   | (with_reducible refine LeO.bind ?_ (fun _ => ?_))
   | exact ih0 _ _ _
   | exact ih1 _ _ _ _ _
   | exact ih2 _ _ _ _ _
   | exact impl_Ground_isFace.mono _ _ _ _
   | exact impl_Spot2_45.mono _ _ _ _
   | exact slices_ContainsFunc_int_int.mono _ _ _
   | exact LeO.none _
   | refine LeO.ite ?_ ?_
   | refine LeO.bind ?_ (fun _ => ?_)
  ·intro y0 y1 y2 y3 y4
   unfold impl_GoodGround.l0
   repeat' first
   | (with_reducible exact ih0 _ _ _)
   | (with_reducible exact ih1 _ _ _ _ _)
   | (with_reducible exact ih2 _ _ _ _ _)
   | (with_reducible exact impl_Ground_isFace.mono _ _ _ _)
   | (with_reducible exact impl_Spot2_45.mono _ _ _ _)
   | (with_reducible exact slices_ContainsFunc_int_int.mono _ _ _)
   | (with_reducible exact LeO.refl _)
   | (with_reducible exact LeO.none _)
   | (with_reducible refine LeO.ite ?_ ?_)
   | (with_reducible refine LeO.bind ?_ (fun _ => ?_))
   | exact ih0 _ _ _
   | exact ih1 _ _ _ _ _
   | exact ih2 _ _ _ _ _
   | exact impl_Ground_isFace.mono _ _ _ _
   | exact impl_Spot2_45.mono _ _ _ _
   | exact slices_ContainsFunc_int_int.mono _ _ _
   | exact LeO.none _
   | refine LeO.ite ?_ ?_
   | refine LeO.bind ?_ (fun _ => ?_)
  ·intro y0 y1 y2 y3 y4
   unfold impl_GoodGround.l1
   repeat' first
   | (with_reducible exact ih0 _ _ _)
   | (with_reducible exact ih1 _ _ _ _ _)
   | (with_reducible exact ih2 _ _ _ _ _)
   | (with_reducible exact impl_Ground_isFace.mono _ _ _ _)
   | (with_reducible exact impl_Spot2_45.mono _ _ _ _)
   | (with_reducible exact slices_ContainsFunc_int_int.mono _ _ _)
   | (with_reducible exact LeO.refl _)
   | (with_reducible exact LeO.none _)
   | (with_reducible refine LeO.ite ?_ ?_)
   | (with_reducible refine LeO.bind ?_ (fun _ => ?_))
   | exact ih0 _ _ _
   | exact ih1 _ _ _ _ _
   | exact ih2 _ _ _ _ _
   | exact impl_Ground_isFace.mono _ _ _ _
   | exact impl_Spot2_45.mono _ _ _ _
   | exact slices_ContainsFunc_int_int.mono _ _ _
   | exact LeO.none _
   | refine LeO.ite ?_ ?_
   | refine LeO.bind ?_ (fun _ => ?_)
theorem impl_GoodGround.mono : ∀ a0 a1 k, LeO (impl_GoodGround.f k a0 a1) (impl_GoodGround.f (k + 1) a0 a1) := by
 intro a0 a1 k
 obtain ⟨ih0, ih1, ih2⟩ := impl_GoodGround.mono_l k
 unfold impl_GoodGround.f
 repeat' first
   | (with_reducible exact ih0 _ _ _)
   | (with_reducible exact ih1 _ _ _ _ _)
   | (with_reducible exact ih2 _ _ _ _ _)
   | (with_reducible exact impl_Ground_isFace.mono _ _ _ _)
   | (with_reducible exact impl_Spot2_45.mono _ _ _ _)
   | (with_reducible exact slices_ContainsFunc_int_int.mono _ _ _)
   | (with_reducible exact LeO.refl _)
   | (with_reducible exact LeO.none _)
   | (with_reducible refine LeO.ite ?_ ?_)
   | (with_reducible refine LeO.bind ?_ (fun _ => ?_))
   | exact ih0 _ _ _
   | exact ih1 _ _ _ _ _
   | exact ih2 _ _ _ _ _
   | exact impl_Ground_isFace.mono _ _ _ _
   | exact impl_Spot2_45.mono _ _ _ _
   | exact slices_ContainsFunc_int_int.mono _ _ _
   | exact LeO.none _
   | refine LeO.ite ?_ ?_
   | refine LeO.bind ?_ (fun _ => ?_)
def impl_GoodGround.T6 : Bool × List (List Nat × List Nat) := (true, [([], []), ([0], [0]), ([], []), ([2], [2]), ([1, 3], [1, 3]), ([4], [4]), ([5, 4], [5]), ([6], [6]), ([7, 6], [6, 7]), ([6], [6]), ([8, 9, 6], [6, 8, 9]), ([6], [6]), ([10, 11, 6, 6], [6, 10, 11]), ([6, 12], [6, 12])])
def impl_GoodGround.B6 : List Nat := [0, 1, 0, 4, 15, 31, 63, 127, 255, 127, 1023, 127, 4095, 8191]
theorem impl_GoodGround.tab6 : rtab .any (opsOf Try.f12 6) = impl_GoodGround.T6 := by kernel_rfl
theorem impl_GoodGround.bits6 : waitsOk impl_GoodGround.T6.2 impl_GoodGround.B6 = true := by kernel_rfl
set_option maxHeartbeats 8000000 in
set_option maxRecDepth 100000 in
theorem impl_GoodGround.calls (k : Nat) (A0_0 : Option Addr) (c0_0 : Nat) (l0_0 : List (S54)) (A0_1 : Option Addr) (c0_1 : Nat) (l0_1 : List (List Int)) (r : Bool) (w : World) (hr0_0 : Kd.C k54 w A0_0 l0_0.length l0_0) (hc0_0 : l0_0.length ≤ c0_0) (hr0_1 : Kd.C (Kd.slice 3 (Kd.int .i64)) w A0_1 l0_1.length l0_1) (hc0_1 : l0_1.length ≤ c0_1) (h : impl_GoodGround.f k l0_0 l0_1 = some r) :
  Calls Try.prog 12 #[.agg #[.slice A0_0 l0_0.length c0_0, .slice A0_1 l0_1.length c0_1]] w fun e w' => e = .returned (.bool r) ∧ Below w.heap.size w w' := by
 have hu30 := Try.underlying30
 have hu54 := Try.underlying54
 have HR0_0 := Aside0.mk hr0_0
 have HC0_0 := Aside0.mk hc0_0
 clear hr0_0 hc0_0
 have HR0_1 := Aside0.mk hr0_1
 have HC0_1 := Aside0.mk hc0_1
 clear hr0_1 hc0_1
 have HB := Aside0.mk (Below.refl w.heap.size w)
 have H : (if (l0_0.length : Int) > 40 then (impl_GoodGround.j0 k true l0_0 l0_1) else ((impl_inRange.f (l0_1.length : Int) 1 20).bind fun t255 => (impl_GoodGround.j0 k (!t255) l0_0 l0_1))) = some r := h
 clear h
 have HC2 := Aside0.mk H
 clear H
 go_enter Try.func12, Try.ntmps12
 go_upto_region 1 with (first | ((with_reducible refine gate_dst (N := 1) rfl ?_); (try (refine gate_guard (by rfl) ?_; dsimp only)); refine box_event ?hg (N := 1) ?hd (cs := #[.slice A0_0 l0_0.length c0_0, .slice A0_1 l0_1.length c0_1]) (t := 30) ?hr ?_; (case hd => rfl); (case hg => rfl); (case hr => first | (go_simp; done) | (go_simp; rfl)); intro gb254 hg w3 hbox hb; have n0_ := Aside0.mk (below_step blw hb); have n1_ := Aside0.mk (hbox); have n2_ := Aside0.mk ((by rw [hg]; exact (below_size blw) : w.heap.size ≤ gb254)); have n3_ := Aside0.mk ((by rw [hg]; exact (below_size blw) : w.heap.size ≤ gb254)); clear HB; have HB := n0_; have BK254 := n1_; have GW254 := n2_; have GE254 := n3_; clear n0_ n1_ n2_ n3_; clear hb hbox hg))
 (try simp only [Act.put, List.setIfInBounds_toArray, List.set_cons_zero, List.set_cons_succ])
 go_cut [17] (fun v17 wc => ∃ (kq : Nat) (x17_1 : Bool), v17 = .bool x17_1 ∧ Aside0 (impl_GoodGround.j0 kq x17_1 l0_0 l0_1 = some r) ∧ Aside0 (kq ≤ k) ∧ Aside0 (wc.heap[gb254]? = some (.cells #[(.slice A0_0 l0_0.length c0_0), (.slice A0_1 l0_1.length c0_1)] 30 (0, 0))) ∧ Aside0 (Below w.heap.size w wc))
 case first =>
  have H := HC2.out
  clear HC2
  by_cases c4 : (l0_0.length : Int) > 40
  ·rw [if_pos c4] at H
   have c4b0 : decide (40 < (l0_0.length : Int)) = true := decide_eq_true c4
   have c4b1 : decide (40 < l0_0.length) = true := decide_eq_true (by omega)
   clear c4
   (first | rw [c4b0] | (simp only [i64_w, i32_w]; rw [c4b0]) | skip)
   have H' := Aside0.mk H
   clear H
   have hcz5_0 : w3.cell? ⟨gb254, 0, none⟩ = some (.slice A0_0 l0_0.length c0_0) := (blk_cell BK254.out 0).trans rfl
   have hcz5_1 : w3.cell? ⟨gb254, 1, none⟩ = some (.slice A0_1 l0_1.length c0_1) := (blk_cell BK254.out 1).trans rfl
   have hfz5_0 := blk_frozen BK254.out 0
   have hfz5_1 := blk_frozen BK254.out 1
   go_wp2
   go_meet
   case rel => exact ⟨_, (true), (by first | rfl | (simp; done) | (simp [*]; done)), H', ⟨by first | omega | exact Nat.le_refl _⟩, ⟨by (with_reducible repeat (first | refine blk_drewN ?_ _ | refine blk_drew ?_ | refine blk_alloc ?_ _)); exact BK254.out⟩, ⟨blw⟩⟩
  ·rw [if_neg c4] at H
   have c4b0 : decide (40 < (l0_0.length : Int)) = false := decide_eq_false c4
   have c4b1 : decide (40 < l0_0.length) = false := decide_eq_false (by omega)
   clear c4
   (first | rw [c4b0] | (simp only [i64_w, i32_w]; rw [c4b0]) | skip)
   replace H := Option.bind_eq_some_iff.mp H
   obtain ⟨t255, A60, H⟩ := H
   replace H : (impl_GoodGround.j0 k (!t255) l0_0 l0_1) = some r := H
   have A6 := Aside0.mk A60
   clear A60
   have H' := Aside0.mk H
   clear H
   have hcz7_0 : w3.cell? ⟨gb254, 0, none⟩ = some (.slice A0_0 l0_0.length c0_0) := (blk_cell BK254.out 0).trans rfl
   have hcz7_1 : w3.cell? ⟨gb254, 1, none⟩ = some (.slice A0_1 l0_1.length c0_1) := (blk_cell BK254.out 1).trans rfl
   have hfz7_0 := blk_frozen BK254.out 0
   have hfz7_1 := blk_frozen BK254.out 1
   go_wp2_with (first | (go_at_call 43; (with_reducible refine (impl_inRange.calls (l0_1.length : Int) 1 20 t255 _ A6.out).mono ?_); rintro e w' ⟨rfl, ⟨nd, rfl⟩⟩))
   go_meet
   case rel => exact ⟨_, (!t255), (by first | rfl | (simp; done) | (simp [*]; done)), H', ⟨by first | omega | exact Nat.le_refl _⟩, ⟨by (with_reducible repeat (first | refine blk_drewN ?_ _ | refine blk_drew ?_ | refine blk_alloc ?_ _)); exact BK254.out⟩, ⟨blw⟩⟩
 case rest =>
  clear HC2
  try clear c1
  try clear p2
  try clear c4
  try clear c4b0
  try clear c4b1
  try clear hcz5_0
  try clear hcz5_1
  try clear hcz7_0
  try clear hcz7_1
  try clear hfz5_0
  try clear hfz5_1
  try clear hfz7_0
  try clear hfz7_1
  obtain ⟨kq, x17_1, rfl, HA, HJ1, BK254, HB⟩ := hcut
  cases kq with
  | zero => exact absurd HA.out (by simp [impl_GoodGround.j0])
  | succ kj1 =>
   have H := HA.out
   clear HA
   simp only [impl_GoodGround.j0] at H
   by_cases c8 : x17_1 = true
   ·subst c8
    have H1 : (some false) = some r := by rw [if_pos rfl] at H; exact H
    clear H
    have H := H1
    clear H1
    obtain rfl := Option.some.inj H
    go_wp2
    go_ret
    exact ⟨by first | rfl | (simp [errW_none, errW_some] <;> rfl) | (simp [*, errW_none, errW_some] <;> rfl), blw⟩
   ·replace c8 := Bool.eq_false_iff.mpr c8
    subst c8
    have H1 : (impl_GoodGround.l0 kj1 l0_0 (l0_0.length : Int) 0 l0_0 l0_1) = some r := by rw [if_neg (show ¬ (false = true) by decide)] at H; exact H
    clear H
    have H := H1
    clear H1
    have H' := Aside0.mk H
    clear H
    have hcz9_0 : wc.cell? ⟨gb254, 0, none⟩ = some (.slice A0_0 l0_0.length c0_0) := (blk_cell BK254.out 0).trans rfl
    have hcz9_1 : wc.cell? ⟨gb254, 1, none⟩ = some (.slice A0_1 l0_1.length c0_1) := (blk_cell BK254.out 1).trans rfl
    have hfz9_0 := blk_frozen BK254.out 0
    have hfz9_1 := blk_frozen BK254.out 1
    go_wp2
    go_loopg [21] kj1 (fun kq v21 w' => ∃ (x21_2 : Int), v21 = .int .i64 x21_2 ∧ Aside0 (impl_GoodGround.l0 kq l0_0 (l0_0.length : Int) x21_2 l0_0 l0_1 = some r) ∧ Aside0 (kq ≤ kj1) ∧ Aside0 (w'.heap[gb254]? = some (.cells #[(.slice A0_0 l0_0.length c0_0), (.slice A0_1 l0_1.length c0_1)] 30 (0, 0))) ∧ Aside0 (Below w.heap.size w w'))
    case atStart => exact ⟨(0), (by first | rfl | (simp; done) | (simp [*]; done)), H', ⟨Nat.le_refl _⟩, ⟨by (with_reducible repeat (first | refine blk_drewN ?_ _ | refine blk_drew ?_ | refine blk_alloc ?_ _)); exact BK254.out⟩, ⟨blw⟩⟩
    case round =>
     clear H'
     try clear c1
     try clear p2
     try clear c4
     try clear c4b0
     try clear c4b1
     try clear c8
     try clear hcz5_0
     try clear hcz5_1
     try clear hcz7_0
     try clear hcz7_1
     try clear hcz9_0
     try clear hcz9_1
     try clear hfz5_0
     try clear hfz5_1
     try clear hfz7_0
     try clear hfz7_1
     try clear hfz9_0
     try clear hfz9_1
     try clear p2
     obtain ⟨x21_2, rfl, HA, HK2, BK254, HB⟩ := hrel
     cases gk with
     | zero => exact absurd HA.out (by simp [impl_GoodGround.l0])
     | succ k2 =>
      have H := HA.out
      clear HA
      simp only [impl_GoodGround.l0] at H
      by_cases c10 : x21_2 < (l0_0.length : Int)
      ·rw [if_pos c10] at H
       have c10b0 : decide (x21_2 < (l0_0.length : Int)) = true := decide_eq_true c10
       clear c10
       by_cases c11 : 0 ≤ x21_2
       ·rw [if_pos c11] at H
        have c11b0 : decide (0 ≤ x21_2) = true := decide_eq_true c11
        clear c11
        by_cases c12 : x21_2 < (l0_0.length : Int)
        ·rw [if_pos c12] at H
         have c12b0 : decide (x21_2 < (l0_0.length : Int)) = true := decide_eq_true c12
         clear c12
         replace H := Option.bind_eq_some_iff.mp H
         obtain ⟨t258, A130, H⟩ := H
         replace H : (if t258 = true then (if x21_2 ≤ (l0_0.length : Int) then ((impl_Spot2_45.f k2 (l0_0.take (x21_2 : Int).toNat) ((rd_T54 l0_0 x21_2).f0) ((rd_T54 l0_0 x21_2).f1)).bind fun t263 => (if t263 = true then (some false) else (impl_GoodGround.l0 k2 l0_0 (l0_0.length : Int) (wrap64 (x21_2 + 1)) l0_0 l0_1))) else (none)) else (some false)) = some r := H
         have A13 := Aside0.mk A130
         clear A130
         by_cases c14 : t258 = true
         ·subst c14
          have H1 : (if x21_2 ≤ (l0_0.length : Int) then ((impl_Spot2_45.f k2 (l0_0.take (x21_2 : Int).toNat) ((rd_T54 l0_0 x21_2).f0) ((rd_T54 l0_0 x21_2).f1)).bind fun t263 => (if t263 = true then (some false) else (impl_GoodGround.l0 k2 l0_0 (l0_0.length : Int) (wrap64 (x21_2 + 1)) l0_0 l0_1))) else (none)) = some r := by rw [if_pos rfl] at H; exact H
          clear H
          have H := H1
          clear H1
          have c15b0 := eq_true (odt : 0 ≤ x21_2)
          by_cases c16 : x21_2 ≤ (l0_0.length : Int)
          ·rw [if_pos c16] at H
           have c16b0 := eq_true c16
           have c16b1 : decide (x21_2 ≤ (l0_0.length : Int)) = true := decide_eq_true c16
           clear c16
           obtain ⟨y259, hy259⟩ : ∃ y_ : List (S54), y_ = (l0_0.take (x21_2 : Int).toNat) := ⟨_, rfl⟩
           replace H : ((impl_Spot2_45.f k2 y259 ((rd_T54 l0_0 x21_2).f0) ((rd_T54 l0_0 x21_2).f1)).bind fun t263 => (if t263 = true then (some false) else (impl_GoodGround.l0 k2 l0_0 (l0_0.length : Int) (wrap64 (x21_2 + 1)) l0_0 l0_1))) = some r := by first | (rw [hy259]; with_reducible exact H) | (have H2_ := (Option.bind_some _ _).symm.trans H; rw [hy259]; with_reducible exact H2_) | (have H2_ := (Option.bind_some _ _).symm.trans H; with_reducible exact H2_) | with_reducible exact H | (rw [hy259]; exact H) | exact H
           have Ny259 := Aside0.mk hy259
           clear hy259
           replace H := Option.bind_eq_some_iff.mp H
           obtain ⟨t263, A170, H⟩ := H
           replace H : (if t263 = true then (some false) else (impl_GoodGround.l0 k2 l0_0 (l0_0.length : Int) (wrap64 (x21_2 + 1)) l0_0 l0_1)) = some r := H
           have A17 := Aside0.mk A170
           clear A170
           by_cases c18 : t263 = true
           ·subst c18
            have H1 : (some false) = some r := by rw [if_pos rfl] at H; exact H
            clear H
            have H := H1
            clear H1
            obtain rfl := Option.some.inj H
            have p256 : 0 ≤ (x21_2 : Int) := odt
            have q256 : x21_2 < (l0_0.length : Int) := odt
            obtain ⟨ad256, e256, hx256_0, hx256_1⟩ := at_T54 HR0_0.out x21_2 p256 q256
            cases e256
            replace hx256_0 := (HB.out.cell (World.block_lt_of_cell? w _ hx256_0)).trans hx256_0
            replace hx256_1 := (HB.out.cell (World.block_lt_of_cell? w _ hx256_1)).trans hx256_1
            replace p256 := eq_true p256
            replace q256 := eq_true q256
            try go_wp2_with (first | ((with_reducible refine gate_dst (N := 4) rfl ?_); (try (refine gate_guard (by rfl) ?_; dsimp only)); refine box_event ?hg (N := 4) ?hd (cs := #[.int .i64 0, .int .i64 0]) (t := 54) ?hr ?_; (case hd => rfl); (case hg => rfl); (case hr => first | (go_simp; done) | (go_simp; rfl)); intro gb257 hg w19 hbox hb; have n0_ := Aside0.mk (blk_below (g := gb254) (o := .cells #[.slice (some ad256) l0_0.length c0_0, .slice A0_1 l0_1.length c0_1] 30 (0, 0)) bkw hb); have n1_ := Aside0.mk (below_step blw hb); have n2_ := Aside0.mk (hbox); have n3_ := Aside0.mk ((by rw [hg]; exact (below_size blw) : w.heap.size ≤ gb257)); have n4_ := Aside0.mk ((by rw [hg]; exact (below_size blw) : w.heap.size ≤ gb257)); have n5_ := Aside0.mk ((by rw [hg]; exact Nat.ne_of_lt (blk_lt (g := gb254) (o := .cells #[.slice (some ad256) l0_0.length c0_0, .slice A0_1 l0_1.length c0_1] 30 (0, 0)) bkw) : gb254 ≠ gb257)); have n6_ := Aside0.mk ((by rw [hg]; exact Nat.ne_of_gt (blk_lt (g := gb254) (o := .cells #[.slice (some ad256) l0_0.length c0_0, .slice A0_1 l0_1.length c0_1] 30 (0, 0)) bkw) : gb257 ≠ gb254)); clear BK254; clear HB; have BK254 := n0_; have HB := n1_; have BK257 := n2_; have GW257 := n3_; have GE257 := n4_; have NB254_257 := n5_; have NB257_254 := n6_; clear n0_ n1_ n2_ n3_ n4_ n5_ n6_; clear hb hbox hg; have hnb20 := NB257_254.out; have hnc20 := NB254_257.out; have hcz21_0 : w19.cell? ⟨gb257, 0, none⟩ = some (.int .i64 0) := (blk_cell BK257.out 0).trans rfl; have hcz21_1 : w19.cell? ⟨gb257, 1, none⟩ = some (.int .i64 0) := (blk_cell BK257.out 1).trans rfl; have hfz21_0 := blk_frozen BK257.out 0; have hfz21_1 := blk_frozen BK257.out 1))
            have n0_ : Aside0 (((w19.setCell ⟨gb257, 0, none⟩ (.int .i64 ((rd_T54 l0_0 x21_2).f0))).setCell ⟨gb257, 1, none⟩ (.int .i64 ((rd_T54 l0_0 x21_2).f1))).heap[gb254]? = some (.cells #[.slice (some ad256) l0_0.length c0_0, .slice A0_1 l0_1.length c0_1] 30 (0, 0))) := ⟨by (with_reducible repeat (first | refine blk_drewN ?_ _ | refine blk_drew ?_ | refine blk_alloc ?_ _)); refine blk_far ?_ NB254_257.out _; (with_reducible repeat (first | refine blk_drewN ?_ _ | refine blk_drew ?_ | refine blk_alloc ?_ _)); refine blk_far ?_ NB254_257.out _; (with_reducible repeat (first | refine blk_drewN ?_ _ | refine blk_drew ?_ | refine blk_alloc ?_ _)); exact BK254.out⟩
            have n1_ : Aside0 (((w19.setCell ⟨gb257, 0, none⟩ (.int .i64 ((rd_T54 l0_0 x21_2).f0))).setCell ⟨gb257, 1, none⟩ (.int .i64 ((rd_T54 l0_0 x21_2).f1))).heap[gb257]? = some (.cells #[.int .i64 ((rd_T54 l0_0 x21_2).f0), .int .i64 ((rd_T54 l0_0 x21_2).f1)] 54 (0, 0))) := ⟨by (with_reducible repeat (first | refine blk_drewN ?_ _ | refine blk_drew ?_ | refine blk_alloc ?_ _)); refine blk_put (cs := #[.int .i64 ((rd_T54 l0_0 x21_2).f0), .int .i64 0]) ?_ 1 _ rfl; (with_reducible repeat (first | refine blk_drewN ?_ _ | refine blk_drew ?_ | refine blk_alloc ?_ _)); refine blk_put (cs := #[.int .i64 0, .int .i64 0]) ?_ 0 _ rfl; (with_reducible repeat (first | refine blk_drewN ?_ _ | refine blk_drew ?_ | refine blk_alloc ?_ _)); exact BK257.out⟩
            have n2_ : Aside0 (Below w.heap.size w ((w19.setCell ⟨gb257, 0, none⟩ (.int .i64 ((rd_T54 l0_0 x21_2).f0))).setCell ⟨gb257, 1, none⟩ (.int .i64 ((rd_T54 l0_0 x21_2).f1)))) := ⟨blw⟩
            (try clear BK254)
            (try clear BK257)
            (try clear HB)
            generalize ((w19.setCell ⟨gb257, 0, none⟩ (.int .i64 ((rd_T54 l0_0 x21_2).f0))).setCell ⟨gb257, 1, none⟩ (.int .i64 ((rd_T54 l0_0 x21_2).f1))) = w22 at n0_ n1_ n2_ ⊢
            have BK254 := n0_
            have BK257 := n1_
            have HB := n2_
            clear n0_ n1_ n2_
            have n0_ := Aside0.mk (blk_drew BK254.out)
            have n1_ := Aside0.mk (blk_drew BK257.out)
            have n2_ := Aside0.mk (below_drew1 HB.out)
            clear BK254
            clear BK257
            clear HB
            have BK254 := n0_
            have BK257 := n1_
            have HB := n2_
            clear n0_ n1_ n2_
            refine start_ (n := 14) (S := fun w' => w'.cell? ⟨gb257, 0, none⟩ = some (.int .i64 ((rd_T54 l0_0 x21_2).f0)) ∧ w'.cell? ⟨gb257, 1, none⟩ = some (.int .i64 ((rd_T54 l0_0 x21_2).f1)) ∧ w'.cell? ⟨gb254, 0, none⟩ = some (.slice (some ad256) l0_0.length c0_0) ∧ w'.cell? ⟨gb254, 1, none⟩ = some (.slice A0_1 l0_1.length c0_1)) (ds := []) #[false, false, false, false, false, false, false, false, false, false, false, false, false, false] (by kernel_rfl) rfl rfl ⟨(blk_cell BK257.out 0).trans rfl, (blk_cell BK257.out 1).trans rfl, (blk_cell BK254.out 0).trans rfl, (blk_cell BK254.out 1).trans rfl⟩ (fun hHeld => ?_); refine with_tabW impl_GoodGround.tab6 impl_GoodGround.bits6 (fun HT_ HW_ => ?_)
            generalize w22.drew = w23 at BK254 BK257 HB hHeld ⊢
            refine pure_ (i := 0) (N := some 26) (v := ?_) (a' := ?_) #[true, false, false, false, false, false, false, false, false, false, false, false, false, false] rfl rfl (any_of HT_.out (by kernel_rfl)) (fun _ _ _ h => h) (Or.inl ⟨by rfl, ?_⟩) ?_ ?_
            rotate_left
            ·intro w'
             go_simp
             with_reducible rfl
            rotate_left
            ·simp only [Act.put, sp1, sp2, sp3, i64_w, i32_w]
             rfl
            refine pure_ (i := 2) (N := some 28) (v := ?_) (a' := ?_) #[true, false, true, false, false, false, false, false, false, false, false, false, false, false] rfl rfl (any_of HT_.out (by kernel_rfl)) (fun _ _ _ h => h) (Or.inl ⟨by rfl, ?_⟩) ?_ ?_
            rotate_left
            ·intro w'
             go_simp
             with_reducible rfl
            rotate_left
            ·simp only [Act.put, sp1, sp2, sp3, i64_w, i32_w]
             rfl
            refine take_ (i := 1) (N := some 27) (v := ?_) (a' := ?_) #[true, true, true, false, false, false, false, false, false, false, false, false, false, false] rfl rfl (take_ofW HT_.out HW_.out (by kernel_rfl)) (fun _ _ _ h => h) (Or.inl ⟨by rfl, ?_⟩) hHeld ?_ ?_
            rotate_left
            ·rintro w' ⟨s0, s1, s2, s3⟩
             go_simp
             with_reducible rfl
            rotate_left
            ·simp only [Act.put, sp1, sp2, sp3, i64_w, i32_w]
             rfl
            refine take_ (i := 3) (N := some 29) (v := ?_) (a' := ?_) #[true, true, true, true, false, false, false, false, false, false, false, false, false, false] rfl rfl (take_ofW HT_.out HW_.out (by kernel_rfl)) (fun _ _ _ h => h) (Or.inl ⟨by rfl, ?_⟩) hHeld ?_ ?_
            rotate_left
            ·rintro w' ⟨s0, s1, s2, s3⟩
             go_simp
             with_reducible rfl
            rotate_left
            ·simp only [Act.put, sp1, sp2, sp3, i64_w, i32_w]
             rfl
            refine one_ (i := 4) (N := some 30) #[true, true, true, true, true, false, false, false, false, false, false, false, false, false] rfl rfl (one_of HT_.out (by kernel_rfl)) (by decide) (fun K hK => ?_)
            refine goes_ Try.func44 (by kernel_rfl) rfl #[.int .i64 ((rd_T54 l0_0 x21_2).f0), .int .i64 ((rd_T54 l0_0 x21_2).f1)] (by rfl) rfl rfl (by (try simp only [List.map_toArray, List.map_cons, List.map_nil]); first | done | rfl | (simp only [List.length_drop, List.length_take]; rfl)) ?_
            with_reducible refine (impl_isOnGround.calls ((rd_T54 l0_0 x21_2).f0) ((rd_T54 l0_0 x21_2).f1) true _ A13.out).mono ?_
            rintro e w' ⟨rfl, ⟨nd, rfl⟩⟩
            refine ⟨_, rfl, ?_⟩
            have q24 : (x21_2 : Int) ≤ ((l0_0.length : Int) : Int) := odt
            obtain ⟨i024, hi024, _, hsz24, _⟩ := info_parts info54
            have hroom24 : l0_0.length ≤ c0_0 := HC0_0.out
            have hC24 : Kd.C k54 _ (some ad256) l0_0.length l0_0 := HR0_0.out
            have hcut24 := cut_to (P := Try.prog) 28 54 .i64 Try.underlying28 hi024 (some ad256) l0_0.length c0_0 x21_2 odt q24 hroom24
            have hr24 := Kd.C_take (m := (x21_2 : Int).toNat) hC24 (by omega)
            have hy24 : y259.length = (x21_2 : Int).toNat := (by rw [Ny259.out, List.length_take]; omega)
            rw [← Ny259.out] at hr24
            rw [← hy24] at hcut24
            have HR262 := Aside0.mk hr24
            have HC262 := Aside0.mk (show y259.length ≤ c0_0 from by omega)
            clear hr24 hC24 hroom24 hi024 hsz24
            have KY24 := Aside0.mk hy24
            clear hy24
            replace q24 := eq_true q24
            refine hK.out _ _ ⟨(blk_cell BK257.out 0).trans rfl, (blk_cell BK257.out 1).trans rfl, (blk_cell BK254.out 0).trans rfl, (blk_cell BK254.out 1).trans rfl⟩ (fun hHeld => ?_)
            clear hK K
            refine norm_ (a' := ?_) ?_ ?_
            rotate_left
            ·show Act.put _ (some 30) _ = _
             simp only [Act.put, sp1, sp2, sp3, i64_w, i32_w]
             rfl
            refine pure_ (i := 5) (N := some 31) (v := ?_) (a' := ?_) #[true, true, true, true, true, true, false, false, false, false, false, false, false, false] rfl rfl (any_of HT_.out (by kernel_rfl)) (fun _ _ _ h => h) (Or.inl ⟨by rfl, ?_⟩) ?_ ?_
            rotate_left
            ·intro w'
             go_simp
             with_reducible rfl
            rotate_left
            ·simp only [Act.put, sp1, sp2, sp3, i64_w, i32_w]
             rfl
            refine pure_ (i := 6) (N := some 32) (v := ?_) (a' := ?_) #[true, true, true, true, true, true, true, false, false, false, false, false, false, false] rfl rfl (any_of HT_.out (by kernel_rfl)) (fun _ _ _ h => h) (Or.inl ⟨by rfl, ?_⟩) ?_ ?_
            rotate_left
            ·intro w'
             go_simp
             with_reducible rfl
            rotate_left
            ·simp only [Act.put, sp1, sp2, sp3, i64_w, i32_w]
             rfl
            refine pure_ (i := 7) (N := some 33) (v := ?_) (a' := ?_) #[true, true, true, true, true, true, true, true, false, false, false, false, false, false] rfl rfl (any_of HT_.out (by kernel_rfl)) (fun _ _ _ h => h) (Or.inl ⟨by rfl, ?_⟩) ?_ ?_
            rotate_left
            ·intro w'
             go_simp
             with_reducible rfl
            rotate_left
            ·simp only [Act.put, sp1, sp2, sp3, i64_w, i32_w]
             rfl
            refine pure_ (i := 9) (N := some 35) (v := ?_) (a' := ?_) #[true, true, true, true, true, true, true, true, false, true, false, false, false, false] rfl rfl (any_of HT_.out (by kernel_rfl)) (fun _ _ _ h => h) (Or.inl ⟨by rfl, ?_⟩) ?_ ?_
            rotate_left
            ·intro w'
             go_simp
             with_reducible rfl
            rotate_left
            ·simp only [Act.put, sp1, sp2, sp3, i64_w, i32_w]
             rfl
            refine take_ (i := 8) (N := some 34) (v := ?_) (a' := ?_) #[true, true, true, true, true, true, true, true, true, true, false, false, false, false] rfl rfl (take_ofW HT_.out HW_.out (by kernel_rfl)) (fun _ _ _ h => h) (Or.inl ⟨by rfl, ?_⟩) hHeld ?_ ?_
            rotate_left
            ·rintro w' ⟨s0, s1, s2, s3⟩
             go_simp
             with_reducible rfl
            rotate_left
            ·simp only [Act.put, sp1, sp2, sp3, i64_w, i32_w]
             rfl
            refine pure_ (i := 10) (N := some 36) (v := ?_) (a' := ?_) #[true, true, true, true, true, true, true, true, true, true, true, false, false, false] rfl rfl (any_of HT_.out (by kernel_rfl)) (fun _ _ _ h => h) (Or.inl ⟨by rfl, ?_⟩) ?_ ?_
            rotate_left
            ·intro w'
             go_simp
             with_reducible rfl
            rotate_left
            ·simp only [Act.put, sp1, sp2, sp3, i64_w, i32_w]
             rfl
            refine take_ (i := 11) (N := some 37) (v := ?_) (a' := ?_) #[true, true, true, true, true, true, true, true, true, true, true, true, false, false] rfl rfl (take_ofW HT_.out HW_.out (by kernel_rfl)) (fun _ _ _ h => h) (Or.inl ⟨by rfl, ?_⟩) hHeld ?_ ?_
            rotate_left
            ·rintro w' ⟨s0, s1, s2, s3⟩
             go_simp
             with_reducible rfl
            rotate_left
            ·simp only [Act.put, sp1, sp2, sp3, i64_w, i32_w]
             rfl
            refine one_ (i := 12) (N := some 38) #[true, true, true, true, true, true, true, true, true, true, true, true, true, false] rfl rfl (one_of HT_.out (by kernel_rfl)) (by decide) (fun K hK => ?_)
            refine goes_ Try.func45 (by kernel_rfl) rfl #[.slice (some ad256) y259.length c0_0, .agg #[.int .i64 ((rd_T54 l0_0 x21_2).f0), .int .i64 ((rd_T54 l0_0 x21_2).f1)]] (by rfl) rfl rfl (by (try simp only [List.map_toArray, List.map_cons, List.map_nil]); first | done | rfl | (simp only [List.length_drop, List.length_take]; rfl)) ?_
            with_reducible refine (impl_Spot2_45.calls k2 _ _ y259 ((rd_T54 l0_0 x21_2).f0) ((rd_T54 l0_0 x21_2).f1) true _ ?side1 ?side2 A17.out).mono ?_
            (case side1 => repeat (first | exact (Kd.C_below HR262.out blw) | (with_reducible refine Kd.C_alloc ?_ _) | (with_reducible refine Kd.C_drewN ?_ _) | (with_reducible refine Kd.C_drew ?_)))
            (case side2 => exact HC262.out)
            rintro e w25 ⟨rfl, hb⟩
            refine ⟨_, rfl, ?_⟩
            have n0_ := Aside0.mk (blk_below (g := gb254) (o := .cells #[.slice (some ad256) l0_0.length c0_0, .slice A0_1 l0_1.length c0_1] 30 (0, 0)) bkw hb)
            have n1_ := Aside0.mk (blk_below (g := gb257) (o := .cells #[.int .i64 ((rd_T54 l0_0 x21_2).f0), .int .i64 ((rd_T54 l0_0 x21_2).f1)] 54 (0, 0)) bkw hb)
            have n2_ := Aside0.mk (below_step blw hb)
            clear BK254
            clear BK257
            clear HB
            have BK254 := n0_
            have BK257 := n1_
            have HB := n2_
            clear n0_ n1_ n2_
            (try clear hb)
            (try clear hb2)
            (try clear hk)
            (try clear hi)
            refine hK.out _ _ ⟨(blk_cell BK257.out 0).trans rfl, (blk_cell BK257.out 1).trans rfl, (blk_cell BK254.out 0).trans rfl, (blk_cell BK254.out 1).trans rfl⟩ (fun hHeld => ?_)
            clear hK K
            refine norm_ (a' := ?_) ?_ ?_
            rotate_left
            ·show Act.put _ (some 38) _ = _
             simp only [Act.put, sp1, sp2, sp3, i64_w, i32_w]
             rfl
            refine pure_ (i := 13) (N := some 39) (v := ?_) (a' := ?_) #[true, true, true, true, true, true, true, true, true, true, true, true, true, true] rfl rfl (any_of HT_.out (by kernel_rfl)) (fun _ _ _ h => h) (Or.inl ⟨by rfl, ?_⟩) ?_ ?_
            rotate_left
            ·intro w'
             go_simp
             with_reducible rfl
            rotate_left
            ·simp only [Act.put, sp1, sp2, sp3, i64_w, i32_w]
             rfl
            refine done_ (done_of HT_.out (by kernel_rfl)) ?_
            try go_wp2
            go_ret
            exact ⟨by first | rfl | (simp [errW_none, errW_some] <;> rfl) | (simp [*, errW_none, errW_some] <;> rfl), blw⟩
           ·replace c18 := Bool.eq_false_iff.mpr c18
            subst c18
            have H1 : (impl_GoodGround.l0 k2 l0_0 (l0_0.length : Int) (wrap64 (x21_2 + 1)) l0_0 l0_1) = some r := by rw [if_neg (show ¬ (false = true) by decide)] at H; exact H
            clear H
            have H := H1
            clear H1
            have H' := Aside0.mk H
            clear H
            have p256 : 0 ≤ (x21_2 : Int) := odt
            have q256 : x21_2 < (l0_0.length : Int) := odt
            obtain ⟨ad256, e256, hx256_0, hx256_1⟩ := at_T54 HR0_0.out x21_2 p256 q256
            cases e256
            replace hx256_0 := (HB.out.cell (World.block_lt_of_cell? w _ hx256_0)).trans hx256_0
            replace hx256_1 := (HB.out.cell (World.block_lt_of_cell? w _ hx256_1)).trans hx256_1
            replace p256 := eq_true p256
            replace q256 := eq_true q256
            try go_wp2_with (first | ((with_reducible refine gate_dst (N := 4) rfl ?_); (try (refine gate_guard (by rfl) ?_; dsimp only)); refine box_event ?hg (N := 4) ?hd (cs := #[.int .i64 0, .int .i64 0]) (t := 54) ?hr ?_; (case hd => rfl); (case hg => rfl); (case hr => first | (go_simp; done) | (go_simp; rfl)); intro gb257 hg w26 hbox hb; have n0_ := Aside0.mk (blk_below (g := gb254) (o := .cells #[.slice (some ad256) l0_0.length c0_0, .slice A0_1 l0_1.length c0_1] 30 (0, 0)) bkw hb); have n1_ := Aside0.mk (below_step blw hb); have n2_ := Aside0.mk (hbox); have n3_ := Aside0.mk ((by rw [hg]; exact (below_size blw) : w.heap.size ≤ gb257)); have n4_ := Aside0.mk ((by rw [hg]; exact (below_size blw) : w.heap.size ≤ gb257)); have n5_ := Aside0.mk ((by rw [hg]; exact Nat.ne_of_lt (blk_lt (g := gb254) (o := .cells #[.slice (some ad256) l0_0.length c0_0, .slice A0_1 l0_1.length c0_1] 30 (0, 0)) bkw) : gb254 ≠ gb257)); have n6_ := Aside0.mk ((by rw [hg]; exact Nat.ne_of_gt (blk_lt (g := gb254) (o := .cells #[.slice (some ad256) l0_0.length c0_0, .slice A0_1 l0_1.length c0_1] 30 (0, 0)) bkw) : gb257 ≠ gb254)); clear BK254; clear HB; have BK254 := n0_; have HB := n1_; have BK257 := n2_; have GW257 := n3_; have GE257 := n4_; have NB254_257 := n5_; have NB257_254 := n6_; clear n0_ n1_ n2_ n3_ n4_ n5_ n6_; clear hb hbox hg; have hnb27 := NB257_254.out; have hnc27 := NB254_257.out; have hcz28_0 : w26.cell? ⟨gb257, 0, none⟩ = some (.int .i64 0) := (blk_cell BK257.out 0).trans rfl; have hcz28_1 : w26.cell? ⟨gb257, 1, none⟩ = some (.int .i64 0) := (blk_cell BK257.out 1).trans rfl; have hfz28_0 := blk_frozen BK257.out 0; have hfz28_1 := blk_frozen BK257.out 1))
            have n0_ : Aside0 (((w26.setCell ⟨gb257, 0, none⟩ (.int .i64 ((rd_T54 l0_0 x21_2).f0))).setCell ⟨gb257, 1, none⟩ (.int .i64 ((rd_T54 l0_0 x21_2).f1))).heap[gb254]? = some (.cells #[.slice (some ad256) l0_0.length c0_0, .slice A0_1 l0_1.length c0_1] 30 (0, 0))) := ⟨by (with_reducible repeat (first | refine blk_drewN ?_ _ | refine blk_drew ?_ | refine blk_alloc ?_ _)); refine blk_far ?_ NB254_257.out _; (with_reducible repeat (first | refine blk_drewN ?_ _ | refine blk_drew ?_ | refine blk_alloc ?_ _)); refine blk_far ?_ NB254_257.out _; (with_reducible repeat (first | refine blk_drewN ?_ _ | refine blk_drew ?_ | refine blk_alloc ?_ _)); exact BK254.out⟩
            have n1_ : Aside0 (((w26.setCell ⟨gb257, 0, none⟩ (.int .i64 ((rd_T54 l0_0 x21_2).f0))).setCell ⟨gb257, 1, none⟩ (.int .i64 ((rd_T54 l0_0 x21_2).f1))).heap[gb257]? = some (.cells #[.int .i64 ((rd_T54 l0_0 x21_2).f0), .int .i64 ((rd_T54 l0_0 x21_2).f1)] 54 (0, 0))) := ⟨by (with_reducible repeat (first | refine blk_drewN ?_ _ | refine blk_drew ?_ | refine blk_alloc ?_ _)); refine blk_put (cs := #[.int .i64 ((rd_T54 l0_0 x21_2).f0), .int .i64 0]) ?_ 1 _ rfl; (with_reducible repeat (first | refine blk_drewN ?_ _ | refine blk_drew ?_ | refine blk_alloc ?_ _)); refine blk_put (cs := #[.int .i64 0, .int .i64 0]) ?_ 0 _ rfl; (with_reducible repeat (first | refine blk_drewN ?_ _ | refine blk_drew ?_ | refine blk_alloc ?_ _)); exact BK257.out⟩
            have n2_ : Aside0 (Below w.heap.size w ((w26.setCell ⟨gb257, 0, none⟩ (.int .i64 ((rd_T54 l0_0 x21_2).f0))).setCell ⟨gb257, 1, none⟩ (.int .i64 ((rd_T54 l0_0 x21_2).f1)))) := ⟨blw⟩
            (try clear BK254)
            (try clear BK257)
            (try clear HB)
            generalize ((w26.setCell ⟨gb257, 0, none⟩ (.int .i64 ((rd_T54 l0_0 x21_2).f0))).setCell ⟨gb257, 1, none⟩ (.int .i64 ((rd_T54 l0_0 x21_2).f1))) = w29 at n0_ n1_ n2_ ⊢
            have BK254 := n0_
            have BK257 := n1_
            have HB := n2_
            clear n0_ n1_ n2_
            have n0_ := Aside0.mk (blk_drew BK254.out)
            have n1_ := Aside0.mk (blk_drew BK257.out)
            have n2_ := Aside0.mk (below_drew1 HB.out)
            clear BK254
            clear BK257
            clear HB
            have BK254 := n0_
            have BK257 := n1_
            have HB := n2_
            clear n0_ n1_ n2_
            refine start_ (n := 14) (S := fun w' => w'.cell? ⟨gb257, 0, none⟩ = some (.int .i64 ((rd_T54 l0_0 x21_2).f0)) ∧ w'.cell? ⟨gb257, 1, none⟩ = some (.int .i64 ((rd_T54 l0_0 x21_2).f1)) ∧ w'.cell? ⟨gb254, 0, none⟩ = some (.slice (some ad256) l0_0.length c0_0) ∧ w'.cell? ⟨gb254, 1, none⟩ = some (.slice A0_1 l0_1.length c0_1)) (ds := []) #[false, false, false, false, false, false, false, false, false, false, false, false, false, false] (by kernel_rfl) rfl rfl ⟨(blk_cell BK257.out 0).trans rfl, (blk_cell BK257.out 1).trans rfl, (blk_cell BK254.out 0).trans rfl, (blk_cell BK254.out 1).trans rfl⟩ (fun hHeld => ?_); refine with_tabW impl_GoodGround.tab6 impl_GoodGround.bits6 (fun HT_ HW_ => ?_)
            generalize w29.drew = w30 at BK254 BK257 HB hHeld ⊢
            refine pure_ (i := 0) (N := some 26) (v := ?_) (a' := ?_) #[true, false, false, false, false, false, false, false, false, false, false, false, false, false] rfl rfl (any_of HT_.out (by kernel_rfl)) (fun _ _ _ h => h) (Or.inl ⟨by rfl, ?_⟩) ?_ ?_
            rotate_left
            ·intro w'
             go_simp
             with_reducible rfl
            rotate_left
            ·simp only [Act.put, sp1, sp2, sp3, i64_w, i32_w]
             rfl
            refine pure_ (i := 2) (N := some 28) (v := ?_) (a' := ?_) #[true, false, true, false, false, false, false, false, false, false, false, false, false, false] rfl rfl (any_of HT_.out (by kernel_rfl)) (fun _ _ _ h => h) (Or.inl ⟨by rfl, ?_⟩) ?_ ?_
            rotate_left
            ·intro w'
             go_simp
             with_reducible rfl
            rotate_left
            ·simp only [Act.put, sp1, sp2, sp3, i64_w, i32_w]
             rfl
            refine take_ (i := 1) (N := some 27) (v := ?_) (a' := ?_) #[true, true, true, false, false, false, false, false, false, false, false, false, false, false] rfl rfl (take_ofW HT_.out HW_.out (by kernel_rfl)) (fun _ _ _ h => h) (Or.inl ⟨by rfl, ?_⟩) hHeld ?_ ?_
            rotate_left
            ·rintro w' ⟨s0, s1, s2, s3⟩
             go_simp
             with_reducible rfl
            rotate_left
            ·simp only [Act.put, sp1, sp2, sp3, i64_w, i32_w]
             rfl
            refine take_ (i := 3) (N := some 29) (v := ?_) (a' := ?_) #[true, true, true, true, false, false, false, false, false, false, false, false, false, false] rfl rfl (take_ofW HT_.out HW_.out (by kernel_rfl)) (fun _ _ _ h => h) (Or.inl ⟨by rfl, ?_⟩) hHeld ?_ ?_
            rotate_left
            ·rintro w' ⟨s0, s1, s2, s3⟩
             go_simp
             with_reducible rfl
            rotate_left
            ·simp only [Act.put, sp1, sp2, sp3, i64_w, i32_w]
             rfl
            refine one_ (i := 4) (N := some 30) #[true, true, true, true, true, false, false, false, false, false, false, false, false, false] rfl rfl (one_of HT_.out (by kernel_rfl)) (by decide) (fun K hK => ?_)
            refine goes_ Try.func44 (by kernel_rfl) rfl #[.int .i64 ((rd_T54 l0_0 x21_2).f0), .int .i64 ((rd_T54 l0_0 x21_2).f1)] (by rfl) rfl rfl (by (try simp only [List.map_toArray, List.map_cons, List.map_nil]); first | done | rfl | (simp only [List.length_drop, List.length_take]; rfl)) ?_
            with_reducible refine (impl_isOnGround.calls ((rd_T54 l0_0 x21_2).f0) ((rd_T54 l0_0 x21_2).f1) true _ A13.out).mono ?_
            rintro e w' ⟨rfl, ⟨nd, rfl⟩⟩
            refine ⟨_, rfl, ?_⟩
            have q31 : (x21_2 : Int) ≤ ((l0_0.length : Int) : Int) := odt
            obtain ⟨i031, hi031, _, hsz31, _⟩ := info_parts info54
            have hroom31 : l0_0.length ≤ c0_0 := HC0_0.out
            have hC31 : Kd.C k54 _ (some ad256) l0_0.length l0_0 := HR0_0.out
            have hcut31 := cut_to (P := Try.prog) 28 54 .i64 Try.underlying28 hi031 (some ad256) l0_0.length c0_0 x21_2 odt q31 hroom31
            have hr31 := Kd.C_take (m := (x21_2 : Int).toNat) hC31 (by omega)
            have hy31 : y259.length = (x21_2 : Int).toNat := (by rw [Ny259.out, List.length_take]; omega)
            rw [← Ny259.out] at hr31
            rw [← hy31] at hcut31
            have HR262 := Aside0.mk hr31
            have HC262 := Aside0.mk (show y259.length ≤ c0_0 from by omega)
            clear hr31 hC31 hroom31 hi031 hsz31
            have KY31 := Aside0.mk hy31
            clear hy31
            replace q31 := eq_true q31
            refine hK.out _ _ ⟨(blk_cell BK257.out 0).trans rfl, (blk_cell BK257.out 1).trans rfl, (blk_cell BK254.out 0).trans rfl, (blk_cell BK254.out 1).trans rfl⟩ (fun hHeld => ?_)
            clear hK K
            refine norm_ (a' := ?_) ?_ ?_
            rotate_left
            ·show Act.put _ (some 30) _ = _
             simp only [Act.put, sp1, sp2, sp3, i64_w, i32_w]
             rfl
            refine pure_ (i := 5) (N := some 31) (v := ?_) (a' := ?_) #[true, true, true, true, true, true, false, false, false, false, false, false, false, false] rfl rfl (any_of HT_.out (by kernel_rfl)) (fun _ _ _ h => h) (Or.inl ⟨by rfl, ?_⟩) ?_ ?_
            rotate_left
            ·intro w'
             go_simp
             with_reducible rfl
            rotate_left
            ·simp only [Act.put, sp1, sp2, sp3, i64_w, i32_w]
             rfl
            refine pure_ (i := 6) (N := some 32) (v := ?_) (a' := ?_) #[true, true, true, true, true, true, true, false, false, false, false, false, false, false] rfl rfl (any_of HT_.out (by kernel_rfl)) (fun _ _ _ h => h) (Or.inl ⟨by rfl, ?_⟩) ?_ ?_
            rotate_left
            ·intro w'
             go_simp
             with_reducible rfl
            rotate_left
            ·simp only [Act.put, sp1, sp2, sp3, i64_w, i32_w]
             rfl
            refine pure_ (i := 7) (N := some 33) (v := ?_) (a' := ?_) #[true, true, true, true, true, true, true, true, false, false, false, false, false, false] rfl rfl (any_of HT_.out (by kernel_rfl)) (fun _ _ _ h => h) (Or.inl ⟨by rfl, ?_⟩) ?_ ?_
            rotate_left
            ·intro w'
             go_simp
             with_reducible rfl
            rotate_left
            ·simp only [Act.put, sp1, sp2, sp3, i64_w, i32_w]
             rfl
            refine pure_ (i := 9) (N := some 35) (v := ?_) (a' := ?_) #[true, true, true, true, true, true, true, true, false, true, false, false, false, false] rfl rfl (any_of HT_.out (by kernel_rfl)) (fun _ _ _ h => h) (Or.inl ⟨by rfl, ?_⟩) ?_ ?_
            rotate_left
            ·intro w'
             go_simp
             with_reducible rfl
            rotate_left
            ·simp only [Act.put, sp1, sp2, sp3, i64_w, i32_w]
             rfl
            refine take_ (i := 8) (N := some 34) (v := ?_) (a' := ?_) #[true, true, true, true, true, true, true, true, true, true, false, false, false, false] rfl rfl (take_ofW HT_.out HW_.out (by kernel_rfl)) (fun _ _ _ h => h) (Or.inl ⟨by rfl, ?_⟩) hHeld ?_ ?_
            rotate_left
            ·rintro w' ⟨s0, s1, s2, s3⟩
             go_simp
             with_reducible rfl
            rotate_left
            ·simp only [Act.put, sp1, sp2, sp3, i64_w, i32_w]
             rfl
            refine pure_ (i := 10) (N := some 36) (v := ?_) (a' := ?_) #[true, true, true, true, true, true, true, true, true, true, true, false, false, false] rfl rfl (any_of HT_.out (by kernel_rfl)) (fun _ _ _ h => h) (Or.inl ⟨by rfl, ?_⟩) ?_ ?_
            rotate_left
            ·intro w'
             go_simp
             with_reducible rfl
            rotate_left
            ·simp only [Act.put, sp1, sp2, sp3, i64_w, i32_w]
             rfl
            refine take_ (i := 11) (N := some 37) (v := ?_) (a' := ?_) #[true, true, true, true, true, true, true, true, true, true, true, true, false, false] rfl rfl (take_ofW HT_.out HW_.out (by kernel_rfl)) (fun _ _ _ h => h) (Or.inl ⟨by rfl, ?_⟩) hHeld ?_ ?_
            rotate_left
            ·rintro w' ⟨s0, s1, s2, s3⟩
             go_simp
             with_reducible rfl
            rotate_left
            ·simp only [Act.put, sp1, sp2, sp3, i64_w, i32_w]
             rfl
            refine one_ (i := 12) (N := some 38) #[true, true, true, true, true, true, true, true, true, true, true, true, true, false] rfl rfl (one_of HT_.out (by kernel_rfl)) (by decide) (fun K hK => ?_)
            refine goes_ Try.func45 (by kernel_rfl) rfl #[.slice (some ad256) y259.length c0_0, .agg #[.int .i64 ((rd_T54 l0_0 x21_2).f0), .int .i64 ((rd_T54 l0_0 x21_2).f1)]] (by rfl) rfl rfl (by (try simp only [List.map_toArray, List.map_cons, List.map_nil]); first | done | rfl | (simp only [List.length_drop, List.length_take]; rfl)) ?_
            with_reducible refine (impl_Spot2_45.calls k2 _ _ y259 ((rd_T54 l0_0 x21_2).f0) ((rd_T54 l0_0 x21_2).f1) false _ ?side1 ?side2 A17.out).mono ?_
            (case side1 => repeat (first | exact (Kd.C_below HR262.out blw) | (with_reducible refine Kd.C_alloc ?_ _) | (with_reducible refine Kd.C_drewN ?_ _) | (with_reducible refine Kd.C_drew ?_)))
            (case side2 => exact HC262.out)
            rintro e w32 ⟨rfl, hb⟩
            refine ⟨_, rfl, ?_⟩
            have n0_ := Aside0.mk (blk_below (g := gb254) (o := .cells #[.slice (some ad256) l0_0.length c0_0, .slice A0_1 l0_1.length c0_1] 30 (0, 0)) bkw hb)
            have n1_ := Aside0.mk (blk_below (g := gb257) (o := .cells #[.int .i64 ((rd_T54 l0_0 x21_2).f0), .int .i64 ((rd_T54 l0_0 x21_2).f1)] 54 (0, 0)) bkw hb)
            have n2_ := Aside0.mk (below_step blw hb)
            clear BK254
            clear BK257
            clear HB
            have BK254 := n0_
            have BK257 := n1_
            have HB := n2_
            clear n0_ n1_ n2_
            (try clear hb)
            (try clear hb2)
            (try clear hk)
            (try clear hi)
            refine hK.out _ _ ⟨(blk_cell BK257.out 0).trans rfl, (blk_cell BK257.out 1).trans rfl, (blk_cell BK254.out 0).trans rfl, (blk_cell BK254.out 1).trans rfl⟩ (fun hHeld => ?_)
            clear hK K
            refine norm_ (a' := ?_) ?_ ?_
            rotate_left
            ·show Act.put _ (some 38) _ = _
             simp only [Act.put, sp1, sp2, sp3, i64_w, i32_w]
             rfl
            refine pure_ (i := 13) (N := some 39) (v := ?_) (a' := ?_) #[true, true, true, true, true, true, true, true, true, true, true, true, true, true] rfl rfl (any_of HT_.out (by kernel_rfl)) (fun _ _ _ h => h) (Or.inl ⟨by rfl, ?_⟩) ?_ ?_
            rotate_left
            ·intro w'
             go_simp
             with_reducible rfl
            rotate_left
            ·simp only [Act.put, sp1, sp2, sp3, i64_w, i32_w]
             rfl
            refine done_ (done_of HT_.out (by kernel_rfl)) ?_
            try go_wp2
            go_roundg k2
            case measure => have := HJ1.out; have := HK2.out; omega
            case rel => exact ⟨(wrap64 (x21_2 + 1)), (by first | rfl | (simp; done) | (simp [*]; done)), H', ⟨by have := HJ1.out; have := HK2.out; omega⟩, ⟨by (with_reducible repeat (first | refine blk_drewN ?_ _ | refine blk_drew ?_ | refine blk_alloc ?_ _)); exact BK254.out⟩, ⟨blw⟩⟩
          ·rw [if_neg c16] at H
           exact absurd H (by simp)
         ·replace c14 := Bool.eq_false_iff.mpr c14
          subst c14
          have H1 : (some false) = some r := by rw [if_neg (show ¬ (false = true) by decide)] at H; exact H
          clear H
          have H := H1
          clear H1
          obtain rfl := Option.some.inj H
          have p256 : 0 ≤ (x21_2 : Int) := odt
          have q256 : x21_2 < (l0_0.length : Int) := odt
          obtain ⟨ad256, e256, hx256_0, hx256_1⟩ := at_T54 HR0_0.out x21_2 p256 q256
          cases e256
          replace hx256_0 := (HB.out.cell (World.block_lt_of_cell? w _ hx256_0)).trans hx256_0
          replace hx256_1 := (HB.out.cell (World.block_lt_of_cell? w _ hx256_1)).trans hx256_1
          replace p256 := eq_true p256
          replace q256 := eq_true q256
          try go_wp2_with (first | ((with_reducible refine gate_dst (N := 4) rfl ?_); (try (refine gate_guard (by rfl) ?_; dsimp only)); refine box_event ?hg (N := 4) ?hd (cs := #[.int .i64 0, .int .i64 0]) (t := 54) ?hr ?_; (case hd => rfl); (case hg => rfl); (case hr => first | (go_simp; done) | (go_simp; rfl)); intro gb257 hg w33 hbox hb; have n0_ := Aside0.mk (blk_below (g := gb254) (o := .cells #[.slice (some ad256) l0_0.length c0_0, .slice A0_1 l0_1.length c0_1] 30 (0, 0)) bkw hb); have n1_ := Aside0.mk (below_step blw hb); have n2_ := Aside0.mk (hbox); have n3_ := Aside0.mk ((by rw [hg]; exact (below_size blw) : w.heap.size ≤ gb257)); have n4_ := Aside0.mk ((by rw [hg]; exact (below_size blw) : w.heap.size ≤ gb257)); have n5_ := Aside0.mk ((by rw [hg]; exact Nat.ne_of_lt (blk_lt (g := gb254) (o := .cells #[.slice (some ad256) l0_0.length c0_0, .slice A0_1 l0_1.length c0_1] 30 (0, 0)) bkw) : gb254 ≠ gb257)); have n6_ := Aside0.mk ((by rw [hg]; exact Nat.ne_of_gt (blk_lt (g := gb254) (o := .cells #[.slice (some ad256) l0_0.length c0_0, .slice A0_1 l0_1.length c0_1] 30 (0, 0)) bkw) : gb257 ≠ gb254)); clear BK254; clear HB; have BK254 := n0_; have HB := n1_; have BK257 := n2_; have GW257 := n3_; have GE257 := n4_; have NB254_257 := n5_; have NB257_254 := n6_; clear n0_ n1_ n2_ n3_ n4_ n5_ n6_; clear hb hbox hg; have hnb34 := NB257_254.out; have hnc34 := NB254_257.out; have hcz35_0 : w33.cell? ⟨gb257, 0, none⟩ = some (.int .i64 0) := (blk_cell BK257.out 0).trans rfl; have hcz35_1 : w33.cell? ⟨gb257, 1, none⟩ = some (.int .i64 0) := (blk_cell BK257.out 1).trans rfl; have hfz35_0 := blk_frozen BK257.out 0; have hfz35_1 := blk_frozen BK257.out 1))
          have n0_ : Aside0 (((w33.setCell ⟨gb257, 0, none⟩ (.int .i64 ((rd_T54 l0_0 x21_2).f0))).setCell ⟨gb257, 1, none⟩ (.int .i64 ((rd_T54 l0_0 x21_2).f1))).heap[gb254]? = some (.cells #[.slice (some ad256) l0_0.length c0_0, .slice A0_1 l0_1.length c0_1] 30 (0, 0))) := ⟨by (with_reducible repeat (first | refine blk_drewN ?_ _ | refine blk_drew ?_ | refine blk_alloc ?_ _)); refine blk_far ?_ NB254_257.out _; (with_reducible repeat (first | refine blk_drewN ?_ _ | refine blk_drew ?_ | refine blk_alloc ?_ _)); refine blk_far ?_ NB254_257.out _; (with_reducible repeat (first | refine blk_drewN ?_ _ | refine blk_drew ?_ | refine blk_alloc ?_ _)); exact BK254.out⟩
          have n1_ : Aside0 (((w33.setCell ⟨gb257, 0, none⟩ (.int .i64 ((rd_T54 l0_0 x21_2).f0))).setCell ⟨gb257, 1, none⟩ (.int .i64 ((rd_T54 l0_0 x21_2).f1))).heap[gb257]? = some (.cells #[.int .i64 ((rd_T54 l0_0 x21_2).f0), .int .i64 ((rd_T54 l0_0 x21_2).f1)] 54 (0, 0))) := ⟨by (with_reducible repeat (first | refine blk_drewN ?_ _ | refine blk_drew ?_ | refine blk_alloc ?_ _)); refine blk_put (cs := #[.int .i64 ((rd_T54 l0_0 x21_2).f0), .int .i64 0]) ?_ 1 _ rfl; (with_reducible repeat (first | refine blk_drewN ?_ _ | refine blk_drew ?_ | refine blk_alloc ?_ _)); refine blk_put (cs := #[.int .i64 0, .int .i64 0]) ?_ 0 _ rfl; (with_reducible repeat (first | refine blk_drewN ?_ _ | refine blk_drew ?_ | refine blk_alloc ?_ _)); exact BK257.out⟩
          have n2_ : Aside0 (Below w.heap.size w ((w33.setCell ⟨gb257, 0, none⟩ (.int .i64 ((rd_T54 l0_0 x21_2).f0))).setCell ⟨gb257, 1, none⟩ (.int .i64 ((rd_T54 l0_0 x21_2).f1)))) := ⟨blw⟩
          (try clear BK254)
          (try clear BK257)
          (try clear HB)
          generalize ((w33.setCell ⟨gb257, 0, none⟩ (.int .i64 ((rd_T54 l0_0 x21_2).f0))).setCell ⟨gb257, 1, none⟩ (.int .i64 ((rd_T54 l0_0 x21_2).f1))) = w36 at n0_ n1_ n2_ ⊢
          have BK254 := n0_
          have BK257 := n1_
          have HB := n2_
          clear n0_ n1_ n2_
          have n0_ := Aside0.mk (blk_drew BK254.out)
          have n1_ := Aside0.mk (blk_drew BK257.out)
          have n2_ := Aside0.mk (below_drew1 HB.out)
          clear BK254
          clear BK257
          clear HB
          have BK254 := n0_
          have BK257 := n1_
          have HB := n2_
          clear n0_ n1_ n2_
          refine start_ (n := 14) (S := fun w' => w'.cell? ⟨gb257, 0, none⟩ = some (.int .i64 ((rd_T54 l0_0 x21_2).f0)) ∧ w'.cell? ⟨gb257, 1, none⟩ = some (.int .i64 ((rd_T54 l0_0 x21_2).f1))) (ds := []) #[false, false, false, false, false, false, false, false, false, false, false, false, false, false] (by kernel_rfl) rfl rfl ⟨(blk_cell BK257.out 0).trans rfl, (blk_cell BK257.out 1).trans rfl⟩ (fun hHeld => ?_); refine with_tabW impl_GoodGround.tab6 impl_GoodGround.bits6 (fun HT_ HW_ => ?_)
          generalize w36.drew = w37 at BK254 BK257 HB hHeld ⊢
          refine pure_ (i := 0) (N := some 26) (v := ?_) (a' := ?_) #[true, false, false, false, false, false, false, false, false, false, false, false, false, false] rfl rfl (any_of HT_.out (by kernel_rfl)) (fun _ _ _ h => h) (Or.inl ⟨by rfl, ?_⟩) ?_ ?_
          rotate_left
          ·intro w'
           go_simp
           with_reducible rfl
          rotate_left
          ·simp only [Act.put, sp1, sp2, sp3, i64_w, i32_w]
           rfl
          refine pure_ (i := 2) (N := some 28) (v := ?_) (a' := ?_) #[true, false, true, false, false, false, false, false, false, false, false, false, false, false] rfl rfl (any_of HT_.out (by kernel_rfl)) (fun _ _ _ h => h) (Or.inl ⟨by rfl, ?_⟩) ?_ ?_
          rotate_left
          ·intro w'
           go_simp
           with_reducible rfl
          rotate_left
          ·simp only [Act.put, sp1, sp2, sp3, i64_w, i32_w]
           rfl
          refine take_ (i := 1) (N := some 27) (v := ?_) (a' := ?_) #[true, true, true, false, false, false, false, false, false, false, false, false, false, false] rfl rfl (take_ofW HT_.out HW_.out (by kernel_rfl)) (fun _ _ _ h => h) (Or.inl ⟨by rfl, ?_⟩) hHeld ?_ ?_
          rotate_left
          ·rintro w' ⟨s0, s1⟩
           go_simp
           with_reducible rfl
          rotate_left
          ·simp only [Act.put, sp1, sp2, sp3, i64_w, i32_w]
           rfl
          refine take_ (i := 3) (N := some 29) (v := ?_) (a' := ?_) #[true, true, true, true, false, false, false, false, false, false, false, false, false, false] rfl rfl (take_ofW HT_.out HW_.out (by kernel_rfl)) (fun _ _ _ h => h) (Or.inl ⟨by rfl, ?_⟩) hHeld ?_ ?_
          rotate_left
          ·rintro w' ⟨s0, s1⟩
           go_simp
           with_reducible rfl
          rotate_left
          ·simp only [Act.put, sp1, sp2, sp3, i64_w, i32_w]
           rfl
          refine one_ (i := 4) (N := some 30) #[true, true, true, true, true, false, false, false, false, false, false, false, false, false] rfl rfl (one_of HT_.out (by kernel_rfl)) (by decide) (fun K hK => ?_)
          refine goes_ Try.func44 (by kernel_rfl) rfl #[.int .i64 ((rd_T54 l0_0 x21_2).f0), .int .i64 ((rd_T54 l0_0 x21_2).f1)] (by rfl) rfl rfl (by (try simp only [List.map_toArray, List.map_cons, List.map_nil]); first | done | rfl | (simp only [List.length_drop, List.length_take]; rfl)) ?_
          with_reducible refine (impl_isOnGround.calls ((rd_T54 l0_0 x21_2).f0) ((rd_T54 l0_0 x21_2).f1) false _ A13.out).mono ?_
          rintro e w' ⟨rfl, ⟨nd, rfl⟩⟩
          refine ⟨_, rfl, ?_⟩
          refine hK.out _ _ ⟨(blk_cell BK257.out 0).trans rfl, (blk_cell BK257.out 1).trans rfl⟩ (fun hHeld => ?_)
          clear hK K
          refine norm_ (a' := ?_) ?_ ?_
          rotate_left
          ·show Act.put _ (some 30) _ = _
           simp only [Act.put, sp1, sp2, sp3, i64_w, i32_w]
           rfl
          refine pure_ (i := 5) (N := some 31) (v := ?_) (a' := ?_) #[true, true, true, true, true, true, false, false, false, false, false, false, false, false] rfl rfl (any_of HT_.out (by kernel_rfl)) (fun _ _ _ h => h) (Or.inl ⟨by rfl, ?_⟩) ?_ ?_
          rotate_left
          ·intro w'
           go_simp
           with_reducible rfl
          rotate_left
          ·simp only [Act.put, sp1, sp2, sp3, i64_w, i32_w]
           rfl
          refine pure_ (i := 6) (N := some 32) (v := ?_) (a' := ?_) #[true, true, true, true, true, true, true, false, false, false, false, false, false, false] rfl rfl (any_of HT_.out (by kernel_rfl)) (fun _ _ _ h => h) (Or.inl ⟨by rfl, ?_⟩) ?_ ?_
          rotate_left
          ·intro w'
           go_simp
           with_reducible rfl
          rotate_left
          ·simp only [Act.put, sp1, sp2, sp3, i64_w, i32_w]
           rfl
          refine pure_ (i := 7) (N := some 33) (v := undef) (a' := ?_) #[true, true, true, true, true, true, true, true, false, false, false, false, false, false] rfl rfl (any_of HT_.out (by kernel_rfl)) (fun _ _ _ h => h) (Or.inr ⟨by rfl, rfl⟩) ?_ ?_
          rotate_left
          ·simp only [Act.put, sp1, sp2, sp3, i64_w, i32_w]
           rfl
          refine pure_ (i := 8) (N := some 34) (v := undef) (a' := ?_) #[true, true, true, true, true, true, true, true, true, false, false, false, false, false] rfl rfl (any_of HT_.out (by kernel_rfl)) (fun _ _ _ h => h) (Or.inr ⟨by rfl, rfl⟩) ?_ ?_
          rotate_left
          ·simp only [Act.put, sp1, sp2, sp3, i64_w, i32_w]
           rfl
          refine pure_ (i := 9) (N := some 35) (v := undef) (a' := ?_) #[true, true, true, true, true, true, true, true, true, true, false, false, false, false] rfl rfl (any_of HT_.out (by kernel_rfl)) (fun _ _ _ h => h) (Or.inr ⟨by rfl, rfl⟩) ?_ ?_
          rotate_left
          ·simp only [Act.put, sp1, sp2, sp3, i64_w, i32_w]
           rfl
          refine pure_ (i := 10) (N := some 36) (v := undef) (a' := ?_) #[true, true, true, true, true, true, true, true, true, true, true, false, false, false] rfl rfl (any_of HT_.out (by kernel_rfl)) (fun _ _ _ h => h) (Or.inr ⟨by rfl, rfl⟩) ?_ ?_
          rotate_left
          ·simp only [Act.put, sp1, sp2, sp3, i64_w, i32_w]
           rfl
          refine pure_ (i := 11) (N := some 37) (v := undef) (a' := ?_) #[true, true, true, true, true, true, true, true, true, true, true, true, false, false] rfl rfl (any_of HT_.out (by kernel_rfl)) (fun _ _ _ h => h) (Or.inr ⟨by rfl, rfl⟩) ?_ ?_
          rotate_left
          ·simp only [Act.put, sp1, sp2, sp3, i64_w, i32_w]
           rfl
          refine pure_ (i := 12) (N := some 38) (v := undef) (a' := ?_) #[true, true, true, true, true, true, true, true, true, true, true, true, true, false] rfl rfl (any_of HT_.out (by kernel_rfl)) (fun _ _ _ h => h) (Or.inr ⟨by rfl, rfl⟩) ?_ ?_
          rotate_left
          ·simp only [Act.put, sp1, sp2, sp3, i64_w, i32_w]
           rfl
          refine pure_ (i := 13) (N := some 39) (v := ?_) (a' := ?_) #[true, true, true, true, true, true, true, true, true, true, true, true, true, true] rfl rfl (any_of HT_.out (by kernel_rfl)) (fun _ _ _ h => h) (Or.inl ⟨by rfl, ?_⟩) ?_ ?_
          rotate_left
          ·intro w'
           go_simp
           with_reducible rfl
          rotate_left
          ·simp only [Act.put, sp1, sp2, sp3, i64_w, i32_w]
           rfl
          refine done_ (done_of HT_.out (by kernel_rfl)) ?_
          try go_wp2
          go_ret
          exact ⟨by first | rfl | (simp [errW_none, errW_some] <;> rfl) | (simp [*, errW_none, errW_some] <;> rfl), blw⟩
        ·rw [if_neg c12] at H
         exact absurd H (by simp)
       ·rw [if_neg c11] at H
        exact absurd H (by simp)
      ·rw [if_neg c10] at H
       have c10b0 : decide (x21_2 < (l0_0.length : Int)) = false := decide_eq_false c10
       clear c10
       have H' := Aside0.mk H
       clear H
       have hcz38_0 : wr.cell? ⟨gb254, 0, none⟩ = some (.slice A0_0 l0_0.length c0_0) := (blk_cell BK254.out 0).trans rfl
       have hcz38_1 : wr.cell? ⟨gb254, 1, none⟩ = some (.slice A0_1 l0_1.length c0_1) := (blk_cell BK254.out 1).trans rfl
       have hfz38_0 := blk_frozen BK254.out 0
       have hfz38_1 := blk_frozen BK254.out 1
       go_wp2
       go_loopg [44] k2 (fun kq v44 w' => ∃ (x44_3 : Int), v44 = .int .i64 x44_3 ∧ Aside0 (impl_GoodGround.l1 kq l0_1 (l0_1.length : Int) x44_3 l0_0 l0_1 = some r) ∧ Aside0 (kq ≤ k2) ∧ Aside0 (w'.heap[gb254]? = some (.cells #[(.slice A0_0 l0_0.length c0_0), (.slice A0_1 l0_1.length c0_1)] 30 (0, 0))) ∧ Aside0 (Below w.heap.size w w'))
       case atStart => exact ⟨(0), (by first | rfl | (simp; done) | (simp [*]; done)), H', ⟨Nat.le_refl _⟩, ⟨by (with_reducible repeat (first | refine blk_drewN ?_ _ | refine blk_drew ?_ | refine blk_alloc ?_ _)); exact BK254.out⟩, ⟨blw⟩⟩
       case round =>
        clear H'
        try clear c1
        try clear c2
        try clear p2
        try clear q2
        try clear hx2
        try clear c3
        try clear q3
        try clear c4
        try clear p6
        try clear c10
        try clear c10b0
        try clear c11
        try clear c11b0
        try clear c12
        try clear c12b0
        try clear c14
        try clear c15
        try clear c15b0
        try clear c16
        try clear c16b0
        try clear c16b1
        try clear c18
        try clear c20
        try clear q24
        try clear p25
        try clear q25
        try clear hx25
        try clear c27
        try clear q31
        try clear c34
        try clear hcz21_0
        try clear hcz21_1
        try clear hcz28_0
        try clear hcz28_1
        try clear hcz35_0
        try clear hcz35_1
        try clear hcz38_0
        try clear hcz38_1
        try clear hcz7_1
        try clear hcz9_0
        try clear hcz9_1
        try clear hfz21_0
        try clear hfz21_1
        try clear hfz28_0
        try clear hfz28_1
        try clear hfz35_0
        try clear hfz35_1
        try clear hfz38_0
        try clear hfz38_1
        try clear hfz5_0
        try clear hfz5_1
        try clear hfz7_0
        try clear hfz7_1
        try clear hfz9_0
        try clear hfz9_1
        try clear hx256_0
        try clear hx256_1
        try clear p2
        try clear p256
        try clear q24
        try clear q256
        try clear q31
        obtain ⟨x44_3, rfl, HA, HK3, BK254, HB⟩ := hrel
        cases gk with
        | zero => exact absurd HA.out (by simp [impl_GoodGround.l1])
        | succ k3 =>
         have H := HA.out
         clear HA
         simp only [impl_GoodGround.l1] at H
         by_cases c39 : x44_3 < (l0_1.length : Int)
         ·rw [if_pos c39] at H
          have c39b0 : decide (x44_3 < (l0_1.length : Int)) = true := decide_eq_true c39
          clear c39
          by_cases c40 : 0 ≤ x44_3
          ·rw [if_pos c40] at H
           have c40b0 : decide (0 ≤ x44_3) = true := decide_eq_true c40
           clear c40
           by_cases c41 : x44_3 < (l0_1.length : Int)
           ·rw [if_pos c41] at H
            have c41b0 : decide (x44_3 < (l0_1.length : Int)) = true := decide_eq_true c41
            clear c41
            replace H := Option.bind_eq_some_iff.mp H
            obtain ⟨t265, A420, H⟩ := H
            replace H : (if t265 = true then (if x44_3 ≤ (l0_1.length : Int) then ((slices_ContainsFunc_int_int.f k3 (l0_1.take (x44_3 : Int).toNat) (rd_L2 l0_1 x44_3)).bind fun t270 => (if t270 = true then (some false) else (impl_GoodGround.l1 k3 l0_1 (l0_1.length : Int) (wrap64 (x44_3 + 1)) l0_0 l0_1))) else (none)) else (some false)) = some r := H
            have A42 := Aside0.mk A420
            clear A420
            by_cases c43 : t265 = true
            ·subst c43
             have H1 : (if x44_3 ≤ (l0_1.length : Int) then ((slices_ContainsFunc_int_int.f k3 (l0_1.take (x44_3 : Int).toNat) (rd_L2 l0_1 x44_3)).bind fun t270 => (if t270 = true then (some false) else (impl_GoodGround.l1 k3 l0_1 (l0_1.length : Int) (wrap64 (x44_3 + 1)) l0_0 l0_1))) else (none)) = some r := by rw [if_pos rfl] at H; exact H
             clear H
             have H := H1
             clear H1
             have c44b0 := eq_true (odt : 0 ≤ x44_3)
             by_cases c45 : x44_3 ≤ (l0_1.length : Int)
             ·rw [if_pos c45] at H
              have c45b0 := eq_true c45
              have c45b1 : decide (x44_3 ≤ (l0_1.length : Int)) = true := decide_eq_true c45
              clear c45
              obtain ⟨y266, hy266⟩ : ∃ y_ : List (List Int), y_ = (l0_1.take (x44_3 : Int).toNat) := ⟨_, rfl⟩
              replace H : ((slices_ContainsFunc_int_int.f k3 y266 (rd_L2 l0_1 x44_3)).bind fun t270 => (if t270 = true then (some false) else (impl_GoodGround.l1 k3 l0_1 (l0_1.length : Int) (wrap64 (x44_3 + 1)) l0_0 l0_1))) = some r := by first | (rw [hy266]; with_reducible exact H) | (have H2_ := (Option.bind_some _ _).symm.trans H; rw [hy266]; with_reducible exact H2_) | (have H2_ := (Option.bind_some _ _).symm.trans H; with_reducible exact H2_) | with_reducible exact H | (rw [hy266]; exact H) | exact H
              have Ny266 := Aside0.mk hy266
              clear hy266
              replace H := Option.bind_eq_some_iff.mp H
              obtain ⟨t270, A460, H⟩ := H
              replace H : (if t270 = true then (some false) else (impl_GoodGround.l1 k3 l0_1 (l0_1.length : Int) (wrap64 (x44_3 + 1)) l0_0 l0_1)) = some r := H
              have A46 := Aside0.mk A460
              clear A460
              by_cases c47 : t270 = true
              ·subst c47
               have H1 : (some false) = some r := by rw [if_pos rfl] at H; exact H
               clear H
               have H := H1
               clear H1
               obtain rfl := Option.some.inj H
               have p264 : 0 ≤ (x44_3 : Int) := odt
               have q264 : x44_3 < (l0_1.length : Int) := odt
               obtain ⟨ad264, A264_0, c264_0, e264, hx264_0, hl264_0, hi264_0⟩ := at_L2 HR0_1.out x44_3 p264 q264
               cases e264
               replace hx264_0 := (HB.out.cell (World.block_lt_of_cell? w _ hx264_0)).trans hx264_0
               have HR264_0 := Aside0.mk hi264_0
               have HC264_0 := Aside0.mk hl264_0
               clear hi264_0 hl264_0
               replace p264 := eq_true p264
               replace q264 := eq_true q264
               have hcz48_0 : wr.cell? ⟨gb254, 0, none⟩ = some (.slice A0_0 l0_0.length c0_0) := (blk_cell BK254.out 0).trans rfl
               have hcz48_1 : wr.cell? ⟨gb254, 1, none⟩ = some (.slice (some ad264) l0_1.length c0_1) := (blk_cell BK254.out 1).trans rfl
               have hfz48_0 := blk_frozen BK254.out 0
               have hfz48_1 := blk_frozen BK254.out 1
               go_upto_region 12 with (first | ((with_reducible refine gate_dst (N := 6) rfl ?_); (try (refine gate_guard (by rfl) ?_; dsimp only)); refine box_event ?hg (N := 6) ?hd (cs := #[.slice none 0 0]) (t := 36) ?hr ?_; (case hd => rfl); (case hg => rfl); (case hr => first | (go_simp; done) | (go_simp; rfl)); intro gbF hg wF hbox hb; have n0_ := Aside0.mk (blk_below (g := gb254) (o := .cells #[.slice A0_0 l0_0.length c0_0, .slice (some ad264) l0_1.length c0_1] 30 (0, 0)) bkw hb); have n1_ := Aside0.mk (below_step blw hb); have n2_ := Aside0.mk (hbox); have n3_ := Aside0.mk ((by rw [hg]; exact (below_size blw)) : w.heap.size ≤ gbF); have n5_ := Aside0.mk ((by rw [hg]; exact Nat.ne_of_lt (blk_lt (g := gb254) (o := .cells #[.slice A0_0 l0_0.length c0_0, .slice (some ad264) l0_1.length c0_1] 30 (0, 0)) bkw)) : gb254 ≠ gbF); have n6_ := Aside0.mk ((by rw [hg]; exact Nat.ne_of_gt (blk_lt (g := gb254) (o := .cells #[.slice A0_0 l0_0.length c0_0, .slice (some ad264) l0_1.length c0_1] 30 (0, 0)) bkw)) : gbF ≠ gb254); clear BK254; clear HB; have BK254 := n0_; have HB := n1_; have BKF := n2_; have GEF := n3_; have NF1 := n5_; have NF2 := n6_; clear n0_ n1_ n2_ n3_ n5_ n6_; clear hb hbox hg; have hczE : wF.cell? ⟨gbF, 0, none⟩ = some (.slice none 0 0) := (blk_cell BKF.out 0).trans rfl; have hfzE := blk_frozen BKF.out 0))
               have n0_ : Aside0 ((wF.setCell ⟨gbF, 0, none⟩ (.slice A264_0 (rd_L2 l0_1 x44_3).length c264_0)).heap[gb254]? = some (.cells #[.slice A0_0 l0_0.length c0_0, .slice (some ad264) l0_1.length c0_1] 30 (0, 0))) := ⟨by (with_reducible repeat (first | refine blk_drewN ?_ _ | refine blk_drew ?_ | refine blk_alloc ?_ _)); refine blk_far ?_ NF1.out _; (with_reducible repeat (first | refine blk_drewN ?_ _ | refine blk_drew ?_ | refine blk_alloc ?_ _)); exact BK254.out⟩
               have n1_ : Aside0 ((wF.setCell ⟨gbF, 0, none⟩ (.slice A264_0 (rd_L2 l0_1 x44_3).length c264_0)).heap[gbF]? = some (.cells #[.slice A264_0 (rd_L2 l0_1 x44_3).length c264_0] 36 (0, 0))) := ⟨by (with_reducible repeat (first | refine blk_drewN ?_ _ | refine blk_drew ?_ | refine blk_alloc ?_ _)); refine blk_put (cs := #[.slice none 0 0]) ?_ 0 _ rfl; (with_reducible repeat (first | refine blk_drewN ?_ _ | refine blk_drew ?_ | refine blk_alloc ?_ _)); exact BKF.out⟩
               have n2_ : Aside0 (Below w.heap.size w (wF.setCell ⟨gbF, 0, none⟩ (.slice A264_0 (rd_L2 l0_1 x44_3).length c264_0))) := ⟨blw⟩
               clear BK254 BKF HB hczE hfzE
               generalize (wF.setCell ⟨gbF, 0, none⟩ (.slice A264_0 (rd_L2 l0_1 x44_3).length c264_0)) = wG at n0_ n1_ n2_ ⊢
               have BK254 := n0_
               have BKF := n1_
               have HB := n2_
               clear n0_ n1_ n2_
               have hczG_0 : wG.cell? ⟨gb254, 0, none⟩ = some (.slice A0_0 l0_0.length c0_0) := (blk_cell BK254.out 0).trans rfl
               have hczG_1 : wG.cell? ⟨gb254, 1, none⟩ = some (.slice (some ad264) l0_1.length c0_1) := (blk_cell BK254.out 1).trans rfl
               have hczF : wG.cell? ⟨gbF, 0, none⟩ = some (.slice A264_0 (rd_L2 l0_1 x44_3).length c264_0) := (blk_cell BKF.out 0).trans rfl
               go_wp2_with (first | ((with_reducible refine gate_callee (f := 46) rfl ?_); refine goesL_ (some 51) rfl rfl Try.func46 (by kernel_rfl) rfl #[.agg #[.slice A0_0 l0_0.length c0_0, .slice (some ad264) l0_1.length c0_1], .slice A264_0 (rd_L2 l0_1 x44_3).length c264_0] rfl (by (try simp only [List.map_toArray, List.map_cons, List.map_nil]); first | done | rfl | (simp only [List.length_drop, List.length_take]; rfl)) ?_; (with_reducible refine (impl_Ground_isFace.calls k3 _ _ l0_0 _ _ l0_1 _ _ (rd_L2 l0_1 x44_3) true _ ?side1 ?side2 ?side3 ?side4 ?side5 ?side6 A42.out).mono ?_); (case side1 => repeat (first | exact (Kd.C_below HR0_0.out HB.out) | (with_reducible refine Kd.C_alloc ?_ _) | (with_reducible refine Kd.C_drewN ?_ _) | (with_reducible refine Kd.C_drew ?_))); (case side2 => exact HC0_0.out); (case side3 => repeat (first | exact (Kd.C_below HR0_1.out HB.out) | (with_reducible refine Kd.C_alloc ?_ _) | (with_reducible refine Kd.C_drewN ?_ _) | (with_reducible refine Kd.C_drew ?_))); (case side4 => exact HC0_1.out); (case side5 => repeat (first | exact (Kd.C_below HR264_0.out HB.out) | (with_reducible refine Kd.C_alloc ?_ _) | (with_reducible refine Kd.C_drewN ?_ _) | (with_reducible refine Kd.C_drew ?_))); (case side6 => exact HC264_0.out); rintro e w49 ⟨rfl, hb⟩; refine ⟨_, rfl, ?_⟩; have m0_ := Aside0.mk (blk_below (g := gbF) (o := .cells #[.slice A264_0 (rd_L2 l0_1 x44_3).length c264_0] 36 (0, 0)) (by (with_reducible repeat (first | refine blk_drewN ?_ _ | refine blk_drew ?_ | refine blk_alloc ?_ _)); exact BKF.out) hb); clear BKF; have BKF := m0_; clear m0_; have hczH : w49.cell? ⟨gbF, 0, none⟩ = some (.slice A264_0 (rd_L2 l0_1 x44_3).length c264_0) := (blk_cell BKF.out 0).trans rfl; have n0_ := Aside0.mk (blk_below (g := gb254) (o := .cells #[.slice A0_0 l0_0.length c0_0, .slice (some ad264) l0_1.length c0_1] 30 (0, 0)) bkw hb); have n1_ := Aside0.mk (below_step blw hb); clear BK254; clear HB; have BK254 := n0_; have HB := n1_; clear n0_ n1_; (try clear hb); (try clear hb2); (try clear hk); (try clear hi); have hcz50_0 : w49.cell? ⟨gb254, 0, none⟩ = some (.slice A0_0 l0_0.length c0_0) := (blk_cell BK254.out 0).trans rfl; have hcz50_1 : w49.cell? ⟨gb254, 1, none⟩ = some (.slice (some ad264) l0_1.length c0_1) := (blk_cell BK254.out 1).trans rfl; have hfz50_0 := blk_frozen BK254.out 0; have hfz50_1 := blk_frozen BK254.out 1; have q51 : (x44_3 : Int) ≤ ((l0_1.length : Int) : Int) := odt; obtain ⟨i051, hi051, _, hsz51, _⟩ := info_parts info36; have hroom51 : l0_1.length ≤ c0_1 := HC0_1.out; have hC51 : Kd.C (Kd.slice 3 (Kd.int .i64)) _ (some ad264) l0_1.length l0_1 := HR0_1.out; have hcut51 := cut_to (P := Try.prog) 23 36 .i64 Try.underlying23 hi051 (some ad264) l0_1.length c0_1 x44_3 odt q51 hroom51; have hr51 := Kd.C_take (m := (x44_3 : Int).toNat) hC51 (by omega); have hy51 : y266.length = (x44_3 : Int).toNat := (by rw [Ny266.out, List.length_take]; omega); rw [← Ny266.out] at hr51; rw [← hy51] at hcut51; have HR269 := Aside0.mk hr51; have HC269 := Aside0.mk (show y266.length ≤ c0_1 from by omega); clear hr51 hC51 hroom51 hi051 hsz51; have KY51 := Aside0.mk hy51; clear hy51; replace q51 := eq_true q51) | (go_at_call 47; (with_reducible refine (slices_ContainsFunc_int_int.calls k3 _ _ y266 gbF A264_0 c264_0 (rd_L2 l0_1 x44_3) true _ ?side1 ?side2 ?side3 ?side4 ?side5 A46.out).mono ?_); (case side5 => (with_reducible repeat (first | refine blk_drewN ?_ _ | refine blk_drew ?_ | refine blk_alloc ?_ _)); exact BKF.out); (case side1 => repeat (first | exact (Kd.C_below HR269.out HB.out) | (with_reducible refine Kd.C_alloc ?_ _) | (with_reducible refine Kd.C_drewN ?_ _) | (with_reducible refine Kd.C_drew ?_))); (case side2 => exact HC269.out); (case side3 => repeat (first | exact (Kd.C_below HR264_0.out HB.out) | (with_reducible refine Kd.C_alloc ?_ _) | (with_reducible refine Kd.C_drewN ?_ _) | (with_reducible refine Kd.C_drew ?_))); (case side4 => exact HC264_0.out); rintro e w52 ⟨rfl, hb⟩; have n0_ := Aside0.mk (blk_below (g := gb254) (o := .cells #[.slice A0_0 l0_0.length c0_0, .slice (some ad264) l0_1.length c0_1] 30 (0, 0)) bkw hb); have n1_ := Aside0.mk (below_step blw hb); clear BK254; clear HB; have BK254 := n0_; have HB := n1_; clear n0_ n1_; (try clear hb); (try clear hb2); (try clear hk); (try clear hi)))
               go_ret
               exact ⟨by first | rfl | (simp [errW_none, errW_some] <;> rfl) | (simp [*, errW_none, errW_some] <;> rfl), blw⟩
              ·replace c47 := Bool.eq_false_iff.mpr c47
               subst c47
               have H1 : (impl_GoodGround.l1 k3 l0_1 (l0_1.length : Int) (wrap64 (x44_3 + 1)) l0_0 l0_1) = some r := by rw [if_neg (show ¬ (false = true) by decide)] at H; exact H
               clear H
               have H := H1
               clear H1
               have H' := Aside0.mk H
               clear H
               have p264 : 0 ≤ (x44_3 : Int) := odt
               have q264 : x44_3 < (l0_1.length : Int) := odt
               obtain ⟨ad264, A264_0, c264_0, e264, hx264_0, hl264_0, hi264_0⟩ := at_L2 HR0_1.out x44_3 p264 q264
               cases e264
               replace hx264_0 := (HB.out.cell (World.block_lt_of_cell? w _ hx264_0)).trans hx264_0
               have HR264_0 := Aside0.mk hi264_0
               have HC264_0 := Aside0.mk hl264_0
               clear hi264_0 hl264_0
               replace p264 := eq_true p264
               replace q264 := eq_true q264
               have hcz53_0 : wr.cell? ⟨gb254, 0, none⟩ = some (.slice A0_0 l0_0.length c0_0) := (blk_cell BK254.out 0).trans rfl
               have hcz53_1 : wr.cell? ⟨gb254, 1, none⟩ = some (.slice (some ad264) l0_1.length c0_1) := (blk_cell BK254.out 1).trans rfl
               have hfz53_0 := blk_frozen BK254.out 0
               have hfz53_1 := blk_frozen BK254.out 1
               go_upto_region 12 with (first | ((with_reducible refine gate_dst (N := 6) rfl ?_); (try (refine gate_guard (by rfl) ?_; dsimp only)); refine box_event ?hg (N := 6) ?hd (cs := #[.slice none 0 0]) (t := 36) ?hr ?_; (case hd => rfl); (case hg => rfl); (case hr => first | (go_simp; done) | (go_simp; rfl)); intro gbF hg wF hbox hb; have n0_ := Aside0.mk (blk_below (g := gb254) (o := .cells #[.slice A0_0 l0_0.length c0_0, .slice (some ad264) l0_1.length c0_1] 30 (0, 0)) bkw hb); have n1_ := Aside0.mk (below_step blw hb); have n2_ := Aside0.mk (hbox); have n3_ := Aside0.mk ((by rw [hg]; exact (below_size blw)) : w.heap.size ≤ gbF); have n5_ := Aside0.mk ((by rw [hg]; exact Nat.ne_of_lt (blk_lt (g := gb254) (o := .cells #[.slice A0_0 l0_0.length c0_0, .slice (some ad264) l0_1.length c0_1] 30 (0, 0)) bkw)) : gb254 ≠ gbF); have n6_ := Aside0.mk ((by rw [hg]; exact Nat.ne_of_gt (blk_lt (g := gb254) (o := .cells #[.slice A0_0 l0_0.length c0_0, .slice (some ad264) l0_1.length c0_1] 30 (0, 0)) bkw)) : gbF ≠ gb254); clear BK254; clear HB; have BK254 := n0_; have HB := n1_; have BKF := n2_; have GEF := n3_; have NF1 := n5_; have NF2 := n6_; clear n0_ n1_ n2_ n3_ n5_ n6_; clear hb hbox hg; have hczE : wF.cell? ⟨gbF, 0, none⟩ = some (.slice none 0 0) := (blk_cell BKF.out 0).trans rfl; have hfzE := blk_frozen BKF.out 0))
               have n0_ : Aside0 ((wF.setCell ⟨gbF, 0, none⟩ (.slice A264_0 (rd_L2 l0_1 x44_3).length c264_0)).heap[gb254]? = some (.cells #[.slice A0_0 l0_0.length c0_0, .slice (some ad264) l0_1.length c0_1] 30 (0, 0))) := ⟨by (with_reducible repeat (first | refine blk_drewN ?_ _ | refine blk_drew ?_ | refine blk_alloc ?_ _)); refine blk_far ?_ NF1.out _; (with_reducible repeat (first | refine blk_drewN ?_ _ | refine blk_drew ?_ | refine blk_alloc ?_ _)); exact BK254.out⟩
               have n1_ : Aside0 ((wF.setCell ⟨gbF, 0, none⟩ (.slice A264_0 (rd_L2 l0_1 x44_3).length c264_0)).heap[gbF]? = some (.cells #[.slice A264_0 (rd_L2 l0_1 x44_3).length c264_0] 36 (0, 0))) := ⟨by (with_reducible repeat (first | refine blk_drewN ?_ _ | refine blk_drew ?_ | refine blk_alloc ?_ _)); refine blk_put (cs := #[.slice none 0 0]) ?_ 0 _ rfl; (with_reducible repeat (first | refine blk_drewN ?_ _ | refine blk_drew ?_ | refine blk_alloc ?_ _)); exact BKF.out⟩
               have n2_ : Aside0 (Below w.heap.size w (wF.setCell ⟨gbF, 0, none⟩ (.slice A264_0 (rd_L2 l0_1 x44_3).length c264_0))) := ⟨blw⟩
               clear BK254 BKF HB hczE hfzE
               generalize (wF.setCell ⟨gbF, 0, none⟩ (.slice A264_0 (rd_L2 l0_1 x44_3).length c264_0)) = wG at n0_ n1_ n2_ ⊢
               have BK254 := n0_
               have BKF := n1_
               have HB := n2_
               clear n0_ n1_ n2_
               have hczG_0 : wG.cell? ⟨gb254, 0, none⟩ = some (.slice A0_0 l0_0.length c0_0) := (blk_cell BK254.out 0).trans rfl
               have hczG_1 : wG.cell? ⟨gb254, 1, none⟩ = some (.slice (some ad264) l0_1.length c0_1) := (blk_cell BK254.out 1).trans rfl
               have hczF : wG.cell? ⟨gbF, 0, none⟩ = some (.slice A264_0 (rd_L2 l0_1 x44_3).length c264_0) := (blk_cell BKF.out 0).trans rfl
               go_wp2_with (first | ((with_reducible refine gate_callee (f := 46) rfl ?_); refine goesL_ (some 51) rfl rfl Try.func46 (by kernel_rfl) rfl #[.agg #[.slice A0_0 l0_0.length c0_0, .slice (some ad264) l0_1.length c0_1], .slice A264_0 (rd_L2 l0_1 x44_3).length c264_0] rfl (by (try simp only [List.map_toArray, List.map_cons, List.map_nil]); first | done | rfl | (simp only [List.length_drop, List.length_take]; rfl)) ?_; (with_reducible refine (impl_Ground_isFace.calls k3 _ _ l0_0 _ _ l0_1 _ _ (rd_L2 l0_1 x44_3) true _ ?side1 ?side2 ?side3 ?side4 ?side5 ?side6 A42.out).mono ?_); (case side1 => repeat (first | exact (Kd.C_below HR0_0.out HB.out) | (with_reducible refine Kd.C_alloc ?_ _) | (with_reducible refine Kd.C_drewN ?_ _) | (with_reducible refine Kd.C_drew ?_))); (case side2 => exact HC0_0.out); (case side3 => repeat (first | exact (Kd.C_below HR0_1.out HB.out) | (with_reducible refine Kd.C_alloc ?_ _) | (with_reducible refine Kd.C_drewN ?_ _) | (with_reducible refine Kd.C_drew ?_))); (case side4 => exact HC0_1.out); (case side5 => repeat (first | exact (Kd.C_below HR264_0.out HB.out) | (with_reducible refine Kd.C_alloc ?_ _) | (with_reducible refine Kd.C_drewN ?_ _) | (with_reducible refine Kd.C_drew ?_))); (case side6 => exact HC264_0.out); rintro e w54 ⟨rfl, hb⟩; refine ⟨_, rfl, ?_⟩; have m0_ := Aside0.mk (blk_below (g := gbF) (o := .cells #[.slice A264_0 (rd_L2 l0_1 x44_3).length c264_0] 36 (0, 0)) (by (with_reducible repeat (first | refine blk_drewN ?_ _ | refine blk_drew ?_ | refine blk_alloc ?_ _)); exact BKF.out) hb); clear BKF; have BKF := m0_; clear m0_; have hczH : w54.cell? ⟨gbF, 0, none⟩ = some (.slice A264_0 (rd_L2 l0_1 x44_3).length c264_0) := (blk_cell BKF.out 0).trans rfl; have n0_ := Aside0.mk (blk_below (g := gb254) (o := .cells #[.slice A0_0 l0_0.length c0_0, .slice (some ad264) l0_1.length c0_1] 30 (0, 0)) bkw hb); have n1_ := Aside0.mk (below_step blw hb); clear BK254; clear HB; have BK254 := n0_; have HB := n1_; clear n0_ n1_; (try clear hb); (try clear hb2); (try clear hk); (try clear hi); have hcz55_0 : w54.cell? ⟨gb254, 0, none⟩ = some (.slice A0_0 l0_0.length c0_0) := (blk_cell BK254.out 0).trans rfl; have hcz55_1 : w54.cell? ⟨gb254, 1, none⟩ = some (.slice (some ad264) l0_1.length c0_1) := (blk_cell BK254.out 1).trans rfl; have hfz55_0 := blk_frozen BK254.out 0; have hfz55_1 := blk_frozen BK254.out 1; have q56 : (x44_3 : Int) ≤ ((l0_1.length : Int) : Int) := odt; obtain ⟨i056, hi056, _, hsz56, _⟩ := info_parts info36; have hroom56 : l0_1.length ≤ c0_1 := HC0_1.out; have hC56 : Kd.C (Kd.slice 3 (Kd.int .i64)) _ (some ad264) l0_1.length l0_1 := HR0_1.out; have hcut56 := cut_to (P := Try.prog) 23 36 .i64 Try.underlying23 hi056 (some ad264) l0_1.length c0_1 x44_3 odt q56 hroom56; have hr56 := Kd.C_take (m := (x44_3 : Int).toNat) hC56 (by omega); have hy56 : y266.length = (x44_3 : Int).toNat := (by rw [Ny266.out, List.length_take]; omega); rw [← Ny266.out] at hr56; rw [← hy56] at hcut56; have HR269 := Aside0.mk hr56; have HC269 := Aside0.mk (show y266.length ≤ c0_1 from by omega); clear hr56 hC56 hroom56 hi056 hsz56; have KY56 := Aside0.mk hy56; clear hy56; replace q56 := eq_true q56) | (go_at_call 47; (with_reducible refine (slices_ContainsFunc_int_int.calls k3 _ _ y266 gbF A264_0 c264_0 (rd_L2 l0_1 x44_3) false _ ?side1 ?side2 ?side3 ?side4 ?side5 A46.out).mono ?_); (case side5 => (with_reducible repeat (first | refine blk_drewN ?_ _ | refine blk_drew ?_ | refine blk_alloc ?_ _)); exact BKF.out); (case side1 => repeat (first | exact (Kd.C_below HR269.out HB.out) | (with_reducible refine Kd.C_alloc ?_ _) | (with_reducible refine Kd.C_drewN ?_ _) | (with_reducible refine Kd.C_drew ?_))); (case side2 => exact HC269.out); (case side3 => repeat (first | exact (Kd.C_below HR264_0.out HB.out) | (with_reducible refine Kd.C_alloc ?_ _) | (with_reducible refine Kd.C_drewN ?_ _) | (with_reducible refine Kd.C_drew ?_))); (case side4 => exact HC264_0.out); rintro e w57 ⟨rfl, hb⟩; have n0_ := Aside0.mk (blk_below (g := gb254) (o := .cells #[.slice A0_0 l0_0.length c0_0, .slice (some ad264) l0_1.length c0_1] 30 (0, 0)) bkw hb); have n1_ := Aside0.mk (below_step blw hb); clear BK254; clear HB; have BK254 := n0_; have HB := n1_; clear n0_ n1_; (try clear hb); (try clear hb2); (try clear hk); (try clear hi)))
               go_roundg k3
               case measure => have := HJ1.out; have := HK2.out; have := HK3.out; omega
               case rel => exact ⟨(wrap64 (x44_3 + 1)), (by first | rfl | (simp; done) | (simp [*]; done)), H', ⟨by have := HJ1.out; have := HK2.out; have := HK3.out; omega⟩, ⟨by (with_reducible repeat (first | refine blk_drewN ?_ _ | refine blk_drew ?_ | refine blk_alloc ?_ _)); exact BK254.out⟩, ⟨blw⟩⟩
             ·rw [if_neg c45] at H
              exact absurd H (by simp)
            ·replace c43 := Bool.eq_false_iff.mpr c43
             subst c43
             have H1 : (some false) = some r := by rw [if_neg (show ¬ (false = true) by decide)] at H; exact H
             clear H
             have H := H1
             clear H1
             obtain rfl := Option.some.inj H
             have p264 : 0 ≤ (x44_3 : Int) := odt
             have q264 : x44_3 < (l0_1.length : Int) := odt
             obtain ⟨ad264, A264_0, c264_0, e264, hx264_0, hl264_0, hi264_0⟩ := at_L2 HR0_1.out x44_3 p264 q264
             cases e264
             replace hx264_0 := (HB.out.cell (World.block_lt_of_cell? w _ hx264_0)).trans hx264_0
             have HR264_0 := Aside0.mk hi264_0
             have HC264_0 := Aside0.mk hl264_0
             clear hi264_0 hl264_0
             replace p264 := eq_true p264
             replace q264 := eq_true q264
             have hcz58_0 : wr.cell? ⟨gb254, 0, none⟩ = some (.slice A0_0 l0_0.length c0_0) := (blk_cell BK254.out 0).trans rfl
             have hcz58_1 : wr.cell? ⟨gb254, 1, none⟩ = some (.slice (some ad264) l0_1.length c0_1) := (blk_cell BK254.out 1).trans rfl
             have hfz58_0 := blk_frozen BK254.out 0
             have hfz58_1 := blk_frozen BK254.out 1
             go_upto_region 12 with (first | ((with_reducible refine gate_dst (N := 6) rfl ?_); (try (refine gate_guard (by rfl) ?_; dsimp only)); refine box_event ?hg (N := 6) ?hd (cs := #[.slice none 0 0]) (t := 36) ?hr ?_; (case hd => rfl); (case hg => rfl); (case hr => first | (go_simp; done) | (go_simp; rfl)); intro gbF hg wF hbox hb; have n0_ := Aside0.mk (blk_below (g := gb254) (o := .cells #[.slice A0_0 l0_0.length c0_0, .slice (some ad264) l0_1.length c0_1] 30 (0, 0)) bkw hb); have n1_ := Aside0.mk (below_step blw hb); have n2_ := Aside0.mk (hbox); have n3_ := Aside0.mk ((by rw [hg]; exact (below_size blw)) : w.heap.size ≤ gbF); have n5_ := Aside0.mk ((by rw [hg]; exact Nat.ne_of_lt (blk_lt (g := gb254) (o := .cells #[.slice A0_0 l0_0.length c0_0, .slice (some ad264) l0_1.length c0_1] 30 (0, 0)) bkw)) : gb254 ≠ gbF); have n6_ := Aside0.mk ((by rw [hg]; exact Nat.ne_of_gt (blk_lt (g := gb254) (o := .cells #[.slice A0_0 l0_0.length c0_0, .slice (some ad264) l0_1.length c0_1] 30 (0, 0)) bkw)) : gbF ≠ gb254); clear BK254; clear HB; have BK254 := n0_; have HB := n1_; have BKF := n2_; have GEF := n3_; have NF1 := n5_; have NF2 := n6_; clear n0_ n1_ n2_ n3_ n5_ n6_; clear hb hbox hg; have hczE : wF.cell? ⟨gbF, 0, none⟩ = some (.slice none 0 0) := (blk_cell BKF.out 0).trans rfl; have hfzE := blk_frozen BKF.out 0))
             have n0_ : Aside0 ((wF.setCell ⟨gbF, 0, none⟩ (.slice A264_0 (rd_L2 l0_1 x44_3).length c264_0)).heap[gb254]? = some (.cells #[.slice A0_0 l0_0.length c0_0, .slice (some ad264) l0_1.length c0_1] 30 (0, 0))) := ⟨by (with_reducible repeat (first | refine blk_drewN ?_ _ | refine blk_drew ?_ | refine blk_alloc ?_ _)); refine blk_far ?_ NF1.out _; (with_reducible repeat (first | refine blk_drewN ?_ _ | refine blk_drew ?_ | refine blk_alloc ?_ _)); exact BK254.out⟩
             have n1_ : Aside0 ((wF.setCell ⟨gbF, 0, none⟩ (.slice A264_0 (rd_L2 l0_1 x44_3).length c264_0)).heap[gbF]? = some (.cells #[.slice A264_0 (rd_L2 l0_1 x44_3).length c264_0] 36 (0, 0))) := ⟨by (with_reducible repeat (first | refine blk_drewN ?_ _ | refine blk_drew ?_ | refine blk_alloc ?_ _)); refine blk_put (cs := #[.slice none 0 0]) ?_ 0 _ rfl; (with_reducible repeat (first | refine blk_drewN ?_ _ | refine blk_drew ?_ | refine blk_alloc ?_ _)); exact BKF.out⟩
             have n2_ : Aside0 (Below w.heap.size w (wF.setCell ⟨gbF, 0, none⟩ (.slice A264_0 (rd_L2 l0_1 x44_3).length c264_0))) := ⟨blw⟩
             clear BK254 BKF HB hczE hfzE
             generalize (wF.setCell ⟨gbF, 0, none⟩ (.slice A264_0 (rd_L2 l0_1 x44_3).length c264_0)) = wG at n0_ n1_ n2_ ⊢
             have BK254 := n0_
             have BKF := n1_
             have HB := n2_
             clear n0_ n1_ n2_
             have hczG_0 : wG.cell? ⟨gb254, 0, none⟩ = some (.slice A0_0 l0_0.length c0_0) := (blk_cell BK254.out 0).trans rfl
             have hczG_1 : wG.cell? ⟨gb254, 1, none⟩ = some (.slice (some ad264) l0_1.length c0_1) := (blk_cell BK254.out 1).trans rfl
             have hczF : wG.cell? ⟨gbF, 0, none⟩ = some (.slice A264_0 (rd_L2 l0_1 x44_3).length c264_0) := (blk_cell BKF.out 0).trans rfl
             go_wp2_with (first | ((with_reducible refine gate_callee (f := 46) rfl ?_); refine goesL_ (some 51) rfl rfl Try.func46 (by kernel_rfl) rfl #[.agg #[.slice A0_0 l0_0.length c0_0, .slice (some ad264) l0_1.length c0_1], .slice A264_0 (rd_L2 l0_1 x44_3).length c264_0] rfl (by (try simp only [List.map_toArray, List.map_cons, List.map_nil]); first | done | rfl | (simp only [List.length_drop, List.length_take]; rfl)) ?_; (with_reducible refine (impl_Ground_isFace.calls k3 _ _ l0_0 _ _ l0_1 _ _ (rd_L2 l0_1 x44_3) false _ ?side1 ?side2 ?side3 ?side4 ?side5 ?side6 A42.out).mono ?_); (case side1 => repeat (first | exact (Kd.C_below HR0_0.out HB.out) | (with_reducible refine Kd.C_alloc ?_ _) | (with_reducible refine Kd.C_drewN ?_ _) | (with_reducible refine Kd.C_drew ?_))); (case side2 => exact HC0_0.out); (case side3 => repeat (first | exact (Kd.C_below HR0_1.out HB.out) | (with_reducible refine Kd.C_alloc ?_ _) | (with_reducible refine Kd.C_drewN ?_ _) | (with_reducible refine Kd.C_drew ?_))); (case side4 => exact HC0_1.out); (case side5 => repeat (first | exact (Kd.C_below HR264_0.out HB.out) | (with_reducible refine Kd.C_alloc ?_ _) | (with_reducible refine Kd.C_drewN ?_ _) | (with_reducible refine Kd.C_drew ?_))); (case side6 => exact HC264_0.out); rintro e w59 ⟨rfl, hb⟩; refine ⟨_, rfl, ?_⟩; have m0_ := Aside0.mk (blk_below (g := gbF) (o := .cells #[.slice A264_0 (rd_L2 l0_1 x44_3).length c264_0] 36 (0, 0)) (by (with_reducible repeat (first | refine blk_drewN ?_ _ | refine blk_drew ?_ | refine blk_alloc ?_ _)); exact BKF.out) hb); clear BKF; have BKF := m0_; clear m0_; have hczH : w59.cell? ⟨gbF, 0, none⟩ = some (.slice A264_0 (rd_L2 l0_1 x44_3).length c264_0) := (blk_cell BKF.out 0).trans rfl; have n0_ := Aside0.mk (blk_below (g := gb254) (o := .cells #[.slice A0_0 l0_0.length c0_0, .slice (some ad264) l0_1.length c0_1] 30 (0, 0)) bkw hb); have n1_ := Aside0.mk (below_step blw hb); clear BK254; clear HB; have BK254 := n0_; have HB := n1_; clear n0_ n1_; (try clear hb); (try clear hb2); (try clear hk); (try clear hi)))
             go_ret
             exact ⟨by first | rfl | (simp [errW_none, errW_some] <;> rfl) | (simp [*, errW_none, errW_some] <;> rfl), blw⟩
           ·rw [if_neg c41] at H
            exact absurd H (by simp)
          ·rw [if_neg c40] at H
           exact absurd H (by simp)
         ·rw [if_neg c39] at H
          have c39b0 : decide (x44_3 < (l0_1.length : Int)) = false := decide_eq_false c39
          clear c39
          obtain rfl := Option.some.inj H
          go_wp2
          go_ret
          exact ⟨by first | rfl | (simp [errW_none, errW_some] <;> rfl) | (simp [*, errW_none, errW_some] <;> rfl), blw⟩

end Go.Proofs.Ytnfcpbajngccoaa.PFnExactDoorsOf
