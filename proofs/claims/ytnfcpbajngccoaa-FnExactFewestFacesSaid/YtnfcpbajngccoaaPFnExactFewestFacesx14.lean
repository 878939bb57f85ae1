/- The machine's side of a law, function by function: a Lean function with the Go function's answers and the proof that the Go code comes to them. No condition. Written by this session's program over the kit's print, this session's own contracts set in. -/
import Derived.Test.YtnfcpbajngccoaaPFnExactFewestFacesx0
import Derived.Test.YtnfcpbajngccoaaPFnExactFewestFacesx10
import Derived.Test.YtnfcpbajngccoaaPFnExactFewestFacesx12
import Derived.Test.YtnfcpbajngccoaaPFnExactFewestFacesx13
namespace Go.Proofs.Ytnfcpbajngccoaa.PFnExactFewestFaces
open Go.RowKit Go.Proofs.YtnfcpbajngccoaaW.PrintWords Go.Proofs.YtnfcpbajngccoaaW.PrintLast Go.Proofs.YtnfcpbajngccoaaW.PrintMore
attribute [local go_sem] max2_int min2_int max_two min_two max_three min_three max_four min_four   -- for this text's walks alone
set_option linter.unusedVariables false
set_option linter.unusedSimpArgs false

/-! ### impl_isFaceOf: function 54 -/
def impl_isFaceOf.f (k : Nat) (l0_0 : List (S54)) (l0_1 : List (List Int)) (a1 : Int) : Option (Bool) := (impl_GoodGround.f k l0_0 l0_1).bind fun t304 => (if t304 = true then ((impl_inRange.f a1 0 (wrap64 ((l0_1.length : Int) - 1))).bind fun t305 => (some t305)) else (some false))
theorem impl_isFaceOf.mono : ∀ a0 a1 a2 k, LeO (impl_isFaceOf.f k a0 a1 a2) (impl_isFaceOf.f (k + 1) a0 a1 a2) := by
 intro a0 a1 a2 k
 unfold impl_isFaceOf.f
 repeat' first
   | (with_reducible exact impl_GoodGround.mono _ _ _)
   | (with_reducible exact LeO.refl _)
   | (with_reducible exact LeO.none _)
   | (with_reducible refine LeO.ite ?_ ?_)
   | (with_reducible refine LeO.bind ?_ (fun _ => ?_))
   | exact impl_GoodGround.mono _ _ _
   | exact LeO.none _
   | refine LeO.ite ?_ ?_
   | refine LeO.bind ?_ (fun _ => ?_)
set_option maxHeartbeats 8000000 in
set_option maxRecDepth 100000 in
theorem impl_isFaceOf.calls (k : Nat) (A0_0 : Option Addr) (c0_0 : Nat) (l0_0 : List (S54)) (A0_1 : Option Addr) (c0_1 : Nat) (l0_1 : List (List Int)) (a1 : Int) (r : Bool) (w : World) (hr0_0 : Kd.C k54 w A0_0 l0_0.length l0_0) (hc0_0 : l0_0.length ≤ c0_0) (hr0_1 : Kd.C (Kd.slice 3 (Kd.int .i64)) w A0_1 l0_1.length l0_1) (hc0_1 : l0_1.length ≤ c0_1) (h : impl_isFaceOf.f k l0_0 l0_1 a1 = some r) :
  Calls Try.prog 54 #[.agg #[.slice A0_0 l0_0.length c0_0, .slice A0_1 l0_1.length c0_1], .int .i64 a1] w fun e w' => e = .returned (.bool r) ∧ Below w.heap.size w w' := by
 have hu30 := Try.underlying30
 have HR0_0 := Aside0.mk hr0_0
 have HC0_0 := Aside0.mk hc0_0
 clear hr0_0 hc0_0
 have HR0_1 := Aside0.mk hr0_1
 have HC0_1 := Aside0.mk hc0_1
 clear hr0_1 hc0_1
 have HB := Aside0.mk (Below.refl w.heap.size w)
 have H : ((impl_GoodGround.f k l0_0 l0_1).bind fun t304 => (if t304 = true then ((impl_inRange.f a1 0 (wrap64 ((l0_1.length : Int) - 1))).bind fun t305 => (some t305)) else (some false))) = some r := h
 clear h
 replace H := Option.bind_eq_some_iff.mp H
 obtain ⟨t304, A30, H⟩ := H
 replace H : (if t304 = true then ((impl_inRange.f a1 0 (wrap64 ((l0_1.length : Int) - 1))).bind fun t305 => (some t305)) else (some false)) = some r := H
 have A3 := Aside0.mk A30
 clear A30
 by_cases c4 : t304 = true
 ·subst c4
  have H1 : ((impl_inRange.f a1 0 (wrap64 ((l0_1.length : Int) - 1))).bind fun t305 => (some t305)) = some r := by rw [if_pos rfl] at H; exact H
  clear H
  have H := H1
  clear H1
  replace H := Option.bind_eq_some_iff.mp H
  obtain ⟨t305, A50, H⟩ := H
  replace H : (some t305) = some r := H
  have A5 := Aside0.mk A50
  clear A50
  obtain rfl := Option.some.inj H
  go_enter Try.func54, Try.ntmps54
  go_wp2_with (first | ((with_reducible refine gate_dst (N := 2) rfl ?_); (try (refine gate_guard (by rfl) ?_; dsimp only)); refine box_event ?hg (N := 2) ?hd (cs := #[.slice A0_0 l0_0.length c0_0, .slice A0_1 l0_1.length c0_1]) (t := 30) ?hr ?_; (case hd => rfl); (case hg => rfl); (case hr => first | (go_simp; done) | (go_simp; rfl)); intro gb303 hg w6 hbox hb; have n0_ := Aside0.mk (below_step blw hb); have n1_ := Aside0.mk (hbox); have n2_ := Aside0.mk ((by rw [hg]; exact (below_size blw) : w.heap.size ≤ gb303)); have n3_ := Aside0.mk ((by rw [hg]; exact (below_size blw) : w.heap.size ≤ gb303)); clear HB; have HB := n0_; have BK303 := n1_; have GW303 := n2_; have GE303 := n3_; clear n0_ n1_ n2_ n3_; clear hb hbox hg; have hcz7_0 : w6.cell? ⟨gb303, 0, none⟩ = some (.slice A0_0 l0_0.length c0_0) := (blk_cell BK303.out 0).trans rfl; have hcz7_1 : w6.cell? ⟨gb303, 1, none⟩ = some (.slice A0_1 l0_1.length c0_1) := (blk_cell BK303.out 1).trans rfl; have hfz7_0 := blk_frozen BK303.out 0; have hfz7_1 := blk_frozen BK303.out 1) | ((with_reducible refine gate_callee (f := 12) rfl ?_); refine goesL_ (some 6) rfl rfl Try.func12 (by kernel_rfl) rfl #[.agg #[.slice A0_0 l0_0.length c0_0, .slice A0_1 l0_1.length c0_1]] rfl (by (try simp only [List.map_toArray, List.map_cons, List.map_nil]); first | done | rfl | (simp only [List.length_drop, List.length_take]; rfl)) ?_; (with_reducible refine (impl_GoodGround.calls k _ _ l0_0 _ _ l0_1 true _ ?side1 ?side2 ?side3 ?side4 A3.out).mono ?_); (case side1 => repeat (first | exact (Kd.C_below HR0_0.out HB.out) | (with_reducible refine Kd.C_alloc ?_ _) | (with_reducible refine Kd.C_drewN ?_ _) | (with_reducible refine Kd.C_drew ?_))); (case side2 => exact HC0_0.out); (case side3 => repeat (first | exact (Kd.C_below HR0_1.out HB.out) | (with_reducible refine Kd.C_alloc ?_ _) | (with_reducible refine Kd.C_drewN ?_ _) | (with_reducible refine Kd.C_drew ?_))); (case side4 => exact HC0_1.out); rintro e w8 ⟨rfl, hb⟩; refine ⟨_, rfl, ?_⟩; have n0_ := Aside0.mk (blk_below (g := gb303) (o := .cells #[.slice A0_0 l0_0.length c0_0, .slice A0_1 l0_1.length c0_1] 30 (0, 0)) bkw hb); have n1_ := Aside0.mk (below_step blw hb); clear BK303; clear HB; have BK303 := n0_; have HB := n1_; clear n0_ n1_; (try clear hb); (try clear hb2); (try clear hk); (try clear hi); have hcz9_0 : w8.cell? ⟨gb303, 0, none⟩ = some (.slice A0_0 l0_0.length c0_0) := (blk_cell BK303.out 0).trans rfl; have hcz9_1 : w8.cell? ⟨gb303, 1, none⟩ = some (.slice A0_1 l0_1.length c0_1) := (blk_cell BK303.out 1).trans rfl; have hfz9_0 := blk_frozen BK303.out 0; have hfz9_1 := blk_frozen BK303.out 1) | (go_at_call 43; (with_reducible refine (impl_inRange.calls a1 0 (wrap64 ((l0_1.length : Int) - 1)) t305 _ A5.out).mono ?_); rintro e w' ⟨rfl, ⟨nd, rfl⟩⟩))
  go_ret
  exact ⟨by first | rfl | (simp [errW_none, errW_some] <;> rfl) | (simp [*, errW_none, errW_some] <;> rfl), blw⟩
 ·replace c4 := Bool.eq_false_iff.mpr c4
  subst c4
  have H1 : (some false) = some r := by rw [if_neg (show ¬ (false = true) by decide)] at H; exact H
  clear H
  have H := H1
  clear H1
  obtain rfl := Option.some.inj H
  go_enter Try.func54, Try.ntmps54
  go_wp2_with (first | ((with_reducible refine gate_dst (N := 2) rfl ?_); (try (refine gate_guard (by rfl) ?_; dsimp only)); refine box_event ?hg (N := 2) ?hd (cs := #[.slice A0_0 l0_0.length c0_0, .slice A0_1 l0_1.length c0_1]) (t := 30) ?hr ?_; (case hd => rfl); (case hg => rfl); (case hr => first | (go_simp; done) | (go_simp; rfl)); intro gb303 hg w10 hbox hb; have n0_ := Aside0.mk (below_step blw hb); have n1_ := Aside0.mk (hbox); have n2_ := Aside0.mk ((by rw [hg]; exact (below_size blw) : w.heap.size ≤ gb303)); have n3_ := Aside0.mk ((by rw [hg]; exact (below_size blw) : w.heap.size ≤ gb303)); clear HB; have HB := n0_; have BK303 := n1_; have GW303 := n2_; have GE303 := n3_; clear n0_ n1_ n2_ n3_; clear hb hbox hg; have hcz11_0 : w10.cell? ⟨gb303, 0, none⟩ = some (.slice A0_0 l0_0.length c0_0) := (blk_cell BK303.out 0).trans rfl; have hcz11_1 : w10.cell? ⟨gb303, 1, none⟩ = some (.slice A0_1 l0_1.length c0_1) := (blk_cell BK303.out 1).trans rfl; have hfz11_0 := blk_frozen BK303.out 0; have hfz11_1 := blk_frozen BK303.out 1) | ((with_reducible refine gate_callee (f := 12) rfl ?_); refine goesL_ (some 6) rfl rfl Try.func12 (by kernel_rfl) rfl #[.agg #[.slice A0_0 l0_0.length c0_0, .slice A0_1 l0_1.length c0_1]] rfl (by (try simp only [List.map_toArray, List.map_cons, List.map_nil]); first | done | rfl | (simp only [List.length_drop, List.length_take]; rfl)) ?_; (with_reducible refine (impl_GoodGround.calls k _ _ l0_0 _ _ l0_1 false _ ?side1 ?side2 ?side3 ?side4 A3.out).mono ?_); (case side1 => repeat (first | exact (Kd.C_below HR0_0.out HB.out) | (with_reducible refine Kd.C_alloc ?_ _) | (with_reducible refine Kd.C_drewN ?_ _) | (with_reducible refine Kd.C_drew ?_))); (case side2 => exact HC0_0.out); (case side3 => repeat (first | exact (Kd.C_below HR0_1.out HB.out) | (with_reducible refine Kd.C_alloc ?_ _) | (with_reducible refine Kd.C_drewN ?_ _) | (with_reducible refine Kd.C_drew ?_))); (case side4 => exact HC0_1.out); rintro e w12 ⟨rfl, hb⟩; refine ⟨_, rfl, ?_⟩; have n0_ := Aside0.mk (blk_below (g := gb303) (o := .cells #[.slice A0_0 l0_0.length c0_0, .slice A0_1 l0_1.length c0_1] 30 (0, 0)) bkw hb); have n1_ := Aside0.mk (below_step blw hb); clear BK303; clear HB; have BK303 := n0_; have HB := n1_; clear n0_ n1_; (try clear hb); (try clear hb2); (try clear hk); (try clear hi)))
  go_ret
  exact ⟨by first | rfl | (simp [errW_none, errW_some] <;> rfl) | (simp [*, errW_none, errW_some] <;> rfl), blw⟩

/-! ### impl_doors: function 76 -/
def impl_doors.l0 : Nat → List Int → List Int → List (List Int) → Int → Int → Option ((List (List Int)))
 | 0, _, _, _, _, _ => none
 | k + 1, x0, x1, x5, x11, x12 => if x12 < x11 then ((impl_edgeOf.f x0 x12).bind fun bt309 => ((impl_goes.f k x1 bt309.2 bt309.1).bind fun t311 => (if t311 = true then (if x5.length < 5864062014805 then (impl_doors.l0 k x0 x1 (x5 ++ [(([bt309.1, bt309.2] : List Int))]) x11 (wrap64 (x12 + 1))) else (none)) else (impl_doors.l0 k x0 x1 x5 x11 (wrap64 (x12 + 1)))))) else (some x5)
def impl_doors.f (k : Nat) (l0 : List Int) (l1 : List Int) : Option ((List (List Int))) := impl_doors.l0 k l0 l1 (([] : List (List Int))) (l0.length : Int) 0
theorem impl_doors.mono_l : ∀ k, (∀ y0 y1 y2 y3 y4, LeO (impl_doors.l0 k y0 y1 y2 y3 y4) (impl_doors.l0 (k + 1) y0 y1 y2 y3 y4))
 | 0 => fun _ _ _ _ _ r h => by simp [impl_doors.l0] at h
 | k + 1 => by
  have ih0 := impl_doors.mono_l k
  ·intro y0 y1 y2 y3 y4
   unfold impl_doors.l0
   repeat' first
   | (with_reducible exact ih0 _ _ _ _ _)
   | (with_reducible exact impl_goes.mono _ _ _ _)
   | (with_reducible exact LeO.refl _)
   | (with_reducible exact LeO.none _)
   | (with_reducible refine LeO.ite ?_ ?_)
   | (with_reducible refine LeO.bind ?_ (fun _ => ?_))
   | exact ih0 _ _ _ _ _
   | exact impl_goes.mono _ _ _ _
   | exact LeO.none _
   | refine LeO.ite ?_ ?_
   | refine LeO.bind ?_ (fun _ => ?_)
theorem impl_doors.mono : ∀ a0 a1 k, LeO (impl_doors.f k a0 a1) (impl_doors.f (k + 1) a0 a1) := by
 intro a0 a1 k
 have ih0 := impl_doors.mono_l k
 unfold impl_doors.f
 repeat' first
   | (with_reducible exact ih0 _ _ _ _ _)
   | (with_reducible exact impl_goes.mono _ _ _ _)
   | (with_reducible exact LeO.refl _)
   | (with_reducible exact LeO.none _)
   | (with_reducible refine LeO.ite ?_ ?_)
   | (with_reducible refine LeO.bind ?_ (fun _ => ?_))
   | exact ih0 _ _ _ _ _
   | exact impl_goes.mono _ _ _ _
   | exact LeO.none _
   | refine LeO.ite ?_ ?_
   | refine LeO.bind ?_ (fun _ => ?_)
set_option maxHeartbeats 8000000 in
set_option maxRecDepth 100000 in
theorem impl_doors.calls (k : Nat) (A0 : Option Addr) (c0 : Nat) (l0 : List Int) (A1 : Option Addr) (c1 : Nat) (l1 : List Int) (r : List (List Int)) (w : World) (hr0 : Kd.C (Kd.int .i64) w A0 l0.length l0) (hc0 : l0.length ≤ c0) (hr1 : Kd.C (Kd.int .i64) w A1 l1.length l1) (hc1 : l1.length ≤ c1) (h : impl_doors.f k l0 l1 = some r) :
  Calls Try.prog 76 #[.slice A0 l0.length c0, .slice A1 l1.length c1] w fun e w' => ∃ v0_ : Value, e = .returned (v0_) ∧ Kd.S (Kd.slice 3 (Kd.int .i64)) 36 w' w.heap.size (fun _ => True) v0_ r ∧ Below w.heap.size w w' := by
 have HR0 := Aside0.mk hr0
 have HC0 := Aside0.mk hc0
 clear hr0 hc0
 have HR1 := Aside0.mk hr1
 have HC1 := Aside0.mk hc1
 clear hr1 hc1
 have HB := Aside0.mk (Below.refl w.heap.size w)
 have H : (impl_doors.l0 k l0 l1 (([] : List (List Int))) (l0.length : Int) 0) = some r := h
 clear h
 obtain ⟨y306, hy306⟩ : ∃ y_ : List (List Int), y_ = (([] : List (List Int))) := ⟨_, rfl⟩
 replace H : (impl_doors.l0 k l0 l1 y306 (l0.length : Int) 0) = some r := by first | (rw [hy306]; with_reducible exact H) | (have H2_ := (Option.bind_some _ _).symm.trans H; rw [hy306]; with_reducible exact H2_) | (have H2_ := (Option.bind_some _ _).symm.trans H; with_reducible exact H2_) | with_reducible exact H | (rw [hy306]; exact H) | exact H
 have Ny306 := Aside0.mk hy306
 clear hy306
 have H' := Aside0.mk H
 clear H
 go_enter Try.func76, Try.ntmps76
 go_wp2_with (first | ((with_reducible refine gate_dst (N := 9) rfl ?_); refine Kd.S_lit (Kd.slice 3 (Kd.int .i64)) _ 36 ?hg (N := 9) ?hd (xs := ([] : List (List Int))) (inner := []) (ok := fun _ => True) (okp := fun _ => True) ?hr ?hp (fun _ hk => hk) trivial (Below.refl _ _) (Nat.le_refl _) (by simp) ?_; (case hd => rfl); (case hg => rfl); (case hr => first | (go_simp; done) | (go_simp; rfl)); (case hp => exact (Reps.none _ _)); intro v307 w3 ho4 hb hg_ hnew_; clear hg_ hnew_; (first | rw [← Ny306.out] at ho4 | (simp only [Int.reduceToNat] at ho4; rw [← Ny306.out] at ho4)); have n0_ := Aside0.mk (Kd.S_lower ho4 (below_size blw)); have n1_ := Aside0.mk (below_step blw hb); clear HB; have HO308 := n0_; have HB := n1_; clear n0_ n1_; clear hb ho4))
 go_loopg [5, 12] k (fun kq v5 v12 w' => ∃ (x5_1 : List (List Int)) (x12_1 : Int), v12 = .int .i64 x12_1 ∧ Aside0 (impl_doors.l0 kq l0 l1 x5_1 (l0.length : Int) x12_1 = some r) ∧ Aside0 (kq ≤ k) ∧ Aside0 (Kd.S (Kd.slice 3 (Kd.int .i64)) 36 w' w.heap.size (fun _ => True) v5 x5_1) ∧ Aside0 (Below w.heap.size w w'))
 case atStart => exact ⟨(y306), (0), (by first | rfl | (simp; done) | (simp [*]; done)), H', ⟨Nat.le_refl _⟩, ⟨by (with_reducible repeat (first | apply Kd.S_alloc | apply Kd.S_drewN | apply Kd.S_drew)); exact HO308.out⟩, ⟨blw⟩⟩
 case round =>
  clear H'
  try clear c1
  try clear p2
  obtain ⟨x5_1, x12_1, rfl, HA, HK1, HO_5, HB⟩ := hrel
  cases gk with
  | zero => exact absurd HA.out (by simp [impl_doors.l0])
  | succ k1 =>
   have H := HA.out
   clear HA
   simp only [impl_doors.l0] at H
   by_cases c5 : x12_1 < (l0.length : Int)
   ·rw [if_pos c5] at H
    have c5b0 : decide (x12_1 < (l0.length : Int)) = true := decide_eq_true c5
    clear c5
    replace H := Option.bind_eq_some_iff.mp H
    obtain ⟨⟨t309, t310⟩, A60, H⟩ := H
    replace H : ((impl_goes.f k1 l1 t310 t309).bind fun t311 => (if t311 = true then (if x5_1.length < 5864062014805 then (impl_doors.l0 k1 l0 l1 (x5_1 ++ [(([t309, t310] : List Int))]) (l0.length : Int) (wrap64 (x12_1 + 1))) else (none)) else (impl_doors.l0 k1 l0 l1 x5_1 (l0.length : Int) (wrap64 (x12_1 + 1))))) = some r := H
    have A6 := Aside0.mk A60
    clear A60
    replace H := Option.bind_eq_some_iff.mp H
    obtain ⟨t311, A70, H⟩ := H
    replace H : (if t311 = true then (if x5_1.length < 5864062014805 then (impl_doors.l0 k1 l0 l1 (x5_1 ++ [(([t309, t310] : List Int))]) (l0.length : Int) (wrap64 (x12_1 + 1))) else (none)) else (impl_doors.l0 k1 l0 l1 x5_1 (l0.length : Int) (wrap64 (x12_1 + 1)))) = some r := H
    have A7 := Aside0.mk A70
    clear A70
    by_cases c8 : t311 = true
    ·subst c8
     have H1 : (if x5_1.length < 5864062014805 then (impl_doors.l0 k1 l0 l1 (x5_1 ++ [(([t309, t310] : List Int))]) (l0.length : Int) (wrap64 (x12_1 + 1))) else (none)) = some r := by rw [if_pos rfl] at H; exact H
     clear H
     have H := H1
     clear H1
     obtain ⟨y312, hy312⟩ : ∃ y_ : List Int, y_ = (([t309, t310] : List Int)) := ⟨_, rfl⟩
     replace H : (if x5_1.length < 5864062014805 then (impl_doors.l0 k1 l0 l1 (x5_1 ++ [y312]) (l0.length : Int) (wrap64 (x12_1 + 1))) else (none)) = some r := by first | (rw [hy312]; with_reducible exact H) | (have H2_ := (Option.bind_some _ _).symm.trans H; rw [hy312]; with_reducible exact H2_) | (have H2_ := (Option.bind_some _ _).symm.trans H; with_reducible exact H2_) | with_reducible exact H | (rw [hy312]; exact H) | exact H
     have Ny312 := Aside0.mk hy312
     clear hy312
     by_cases c9 : x5_1.length < 5864062014805
     ·rw [if_pos c9] at H
      have LMc9 := Aside0.mk c9
      clear c9
      obtain ⟨y315, hy315⟩ : ∃ y_ : List (List Int), y_ = (x5_1 ++ [y312]) := ⟨_, rfl⟩
      replace H : (impl_doors.l0 k1 l0 l1 y315 (l0.length : Int) (wrap64 (x12_1 + 1))) = some r := by first | (rw [hy315]; with_reducible exact H) | (have H2_ := (Option.bind_some _ _).symm.trans H; rw [hy315]; with_reducible exact H2_) | (have H2_ := (Option.bind_some _ _).symm.trans H; with_reducible exact H2_) | with_reducible exact H | (rw [hy315]; exact H) | exact H
      have Ny315 := Aside0.mk hy315
      clear hy315
      have H' := Aside0.mk H
      clear H
      go_wp2_with (first | ((with_reducible refine gate_callee (f := 71) rfl ?_); refine goesL_ (some 18) rfl rfl Try.func71 (by kernel_rfl) rfl #[.slice A0 l0.length c0, .int .i64 x12_1] rfl (by (try simp only [List.map_toArray, List.map_cons, List.map_nil]); first | done | rfl | (simp only [List.length_drop, List.length_take]; rfl)) ?_; (with_reducible refine (impl_edgeOf.calls _ _ l0 x12_1 t309 t310 _ ?side1 ?side2 A6.out).mono ?_); (case side1 => repeat (first | exact (Kd.C_below HR0.out HB.out) | (with_reducible refine Kd.C_alloc ?_ _) | (with_reducible refine Kd.C_drewN ?_ _) | (with_reducible refine Kd.C_drew ?_))); (case side2 => exact HC0.out); rintro e w' ⟨rfl, ⟨nd, rfl⟩⟩; refine ⟨_, rfl, ?_⟩) | ((with_reducible refine gate_callee (f := 74) rfl ?_); refine goesL_ (some 24) rfl rfl Try.func74 (by kernel_rfl) rfl #[.slice A1 l1.length c1, .int .i64 t310, .int .i64 t309] rfl (by (try simp only [List.map_toArray, List.map_cons, List.map_nil]); first | done | rfl | (simp only [List.length_drop, List.length_take]; rfl)) ?_; (with_reducible refine (impl_goes.calls k1 _ _ l1 t310 t309 true _ ?side1 ?side2 A7.out).mono ?_); (case side1 => repeat (first | exact (Kd.C_below HR1.out blw) | (with_reducible refine Kd.C_alloc ?_ _) | (with_reducible refine Kd.C_drewN ?_ _) | (with_reducible refine Kd.C_drew ?_))); (case side2 => exact HC1.out); rintro e w' ⟨rfl, ⟨nd, rfl⟩⟩; refine ⟨_, rfl, ?_⟩) | ((with_reducible refine gate_dst (N := 28) rfl ?_); refine Kd.R_lit (Kd.int .i64) _ 3 ?hg (N := 28) ?hd (xs := ([t309, t310] : List Int)) (inner := [.int .i64 t309, .int .i64 t310]) (ok := fun _ => True) (okp := fun _ => True) ?hr ?hp (fun _ hk => hk) trivial (Below.refl _ _) (Nat.le_refl _) (by simp) ?_; (case hd => rfl); (case hg => rfl); (case hr => first | (go_simp; done) | (go_simp; rfl)); (case hp => exact (Reps.one (show Kd.M (Kd.int .i64) _ _ _ t309 [.int .i64 t309] from rfl) (Reps.one (show Kd.M (Kd.int .i64) _ _ _ t310 [.int .i64 t310] from rfl) (Reps.none _ _)))); intro v313 w10 ho11 hb hg_ hnew_; clear hg_ hnew_; (first | rw [← Ny312.out] at ho11 | (simp only [Int.reduceToNat] at ho11; rw [← Ny312.out] at ho11)); have n0_ := Aside0.mk (Kd.S_elder' (by (with_reducible repeat (first | apply Kd.S_alloc | apply Kd.S_drewN | apply Kd.S_drew)); exact HO_5.out) (Kd.R_base ho11) hb); have n1_ := Aside0.mk (Kd.R_lower ho11 (below_size blw)); have n2_ := Aside0.mk (below_step blw hb); clear HO_5; clear HB; have HO_5 := n0_; have HO314 := n1_; have HB := n2_; clear n0_ n1_ n2_; clear hb ho11; obtain ⟨Ao13, co13, eo13⟩ := Kd.R_slice HO314.out; subst eo13) | ((with_reducible refine gate_builtin (b := .append) (xs := #[.tmp 25, .tmp 29]) rfl ?_); at_builtin; refine Kd.S_append (Kd.slice 3 (Kd.int .i64)) (w0 := w) w.heap.size rfl (.tmp 25) (.tmp 29) 23 36 (.slice none 0 0) 24 rfl Try.underlying23 info36 rfl (by decide) (by omega) u5 x5_1 y312 [.slice Ao13 y312.length co13] (fun _ => True) (fun k_ => some k_ = (.slice Ao13 y312.length co13 : Value).ownBlock) rfl rfl ?aP (fun k_ hk_ => ((Kd.R_mono (ok' := fun k_ => ((fun _ => True)) k_ ∧ some k_ ≠ (u5 : Value).ownBlock) (Kd.R_apart' (HO314.out) (Kd.S_typed HO_5.out) (by decide)) (fun k_ hk => ⟨trivial, hk.2⟩))).1 k_ hk_.symm) ?aF ?aO ?aB ?aS ?aL ?_; (case aP => exact Kd.M_row (Kd.R_mono (Kd.R_tight rfl (Kd.R_mono (ok' := fun k_ => ((fun _ => True)) k_ ∧ some k_ ≠ (u5 : Value).ownBlock) (Kd.R_apart' (HO314.out) (Kd.S_typed HO_5.out) (by decide)) (fun k_ hk => ⟨trivial, hk.2⟩))) (fun _ h_ => h_))); (case aB => exact blw); (case aF => exact (fun _ _ => trivial)); (case aO => exact (by (with_reducible repeat (first | apply Kd.S_alloc | apply Kd.S_drewN | apply Kd.S_drew)); exact Kd.S_mono HO_5.out (fun k_ hk => ⟨trivial, fun e_ => hk.2 e_⟩))); (case aS => exact (below_size blw)); (case aL => have := LMc9.out; omega); intro v316 w12 ho hb hg hat; rw [← Ny315.out] at ho; have n0_ := Aside0.mk (hb); have n1_ := Aside0.mk (ho); clear HB; clear HO_5; clear HO314; have HB := n0_; have HO317 := n1_; clear n0_ n1_; clear ho hb hg hat))
      go_roundg k1
      case measure => have := HK1.out; omega
      case rel => exact ⟨(y315), (wrap64 (x12_1 + 1)), (by first | rfl | (simp; done) | (simp [*]; done)), H', ⟨by have := HK1.out; omega⟩, ⟨by (with_reducible repeat (first | apply Kd.S_alloc | apply Kd.S_drewN | apply Kd.S_drew)); exact HO317.out⟩, ⟨blw⟩⟩
     ·rw [if_neg c9] at H
      exact absurd H (by simp)
    ·replace c8 := Bool.eq_false_iff.mpr c8
     subst c8
     have H1 : (impl_doors.l0 k1 l0 l1 x5_1 (l0.length : Int) (wrap64 (x12_1 + 1))) = some r := by rw [if_neg (show ¬ (false = true) by decide)] at H; exact H
     clear H
     have H := H1
     clear H1
     have H' := Aside0.mk H
     clear H
     go_wp2_with (first | ((with_reducible refine gate_callee (f := 71) rfl ?_); refine goesL_ (some 18) rfl rfl Try.func71 (by kernel_rfl) rfl #[.slice A0 l0.length c0, .int .i64 x12_1] rfl (by (try simp only [List.map_toArray, List.map_cons, List.map_nil]); first | done | rfl | (simp only [List.length_drop, List.length_take]; rfl)) ?_; (with_reducible refine (impl_edgeOf.calls _ _ l0 x12_1 t309 t310 _ ?side1 ?side2 A6.out).mono ?_); (case side1 => repeat (first | exact (Kd.C_below HR0.out HB.out) | (with_reducible refine Kd.C_alloc ?_ _) | (with_reducible refine Kd.C_drewN ?_ _) | (with_reducible refine Kd.C_drew ?_))); (case side2 => exact HC0.out); rintro e w' ⟨rfl, ⟨nd, rfl⟩⟩; refine ⟨_, rfl, ?_⟩) | ((with_reducible refine gate_callee (f := 74) rfl ?_); refine goesL_ (some 24) rfl rfl Try.func74 (by kernel_rfl) rfl #[.slice A1 l1.length c1, .int .i64 t310, .int .i64 t309] rfl (by (try simp only [List.map_toArray, List.map_cons, List.map_nil]); first | done | rfl | (simp only [List.length_drop, List.length_take]; rfl)) ?_; (with_reducible refine (impl_goes.calls k1 _ _ l1 t310 t309 false _ ?side1 ?side2 A7.out).mono ?_); (case side1 => repeat (first | exact (Kd.C_below HR1.out blw) | (with_reducible refine Kd.C_alloc ?_ _) | (with_reducible refine Kd.C_drewN ?_ _) | (with_reducible refine Kd.C_drew ?_))); (case side2 => exact HC1.out); rintro e w' ⟨rfl, ⟨nd, rfl⟩⟩; refine ⟨_, rfl, ?_⟩))
     go_roundg k1
     case measure => have := HK1.out; omega
     case rel => exact ⟨(x5_1), (wrap64 (x12_1 + 1)), (by first | rfl | (simp; done) | (simp [*]; done)), H', ⟨by have := HK1.out; omega⟩, ⟨by (with_reducible repeat (first | apply Kd.S_alloc | apply Kd.S_drewN | apply Kd.S_drew)); exact HO_5.out⟩, ⟨blw⟩⟩
   ·rw [if_neg c5] at H
    have c5b0 : decide (x12_1 < (l0.length : Int)) = false := decide_eq_false c5
    clear c5
    obtain rfl := Option.some.inj H
    go_wp2
    go_ret
    exact ⟨_, by first | rfl | (simp [errW_none, errW_some] <;> rfl) | (simp [*, errW_none, errW_some] <;> rfl), by (with_reducible repeat (first | apply Kd.S_alloc | apply Kd.S_drewN | apply Kd.S_drew)); exact HO_5.out, blw⟩

/-! ### impl_Ground_beside: function 55 -/
def impl_Ground_beside.l0 : Nat → Int → List Int → List (List Int) → Int → Int → List (S54) → List (List Int) → Option (List Int)
 | 0, _, _, _, _, _, _, _ => none
 | k + 1, x1, x5, x10, x11, x12, x319000, x319001 => if x12 < x11 then (if 0 ≤ x12 then (if x12 < (x10.length : Int) then (if x12 = x1 then (impl_Ground_beside.l0 k x1 x5 x10 x11 (wrap64 (x12 + 1)) x319000 x319001) else (if 0 ≤ x1 then (if x1 < (x319001.length : Int) then ((impl_doors.f k (rd_L2 x319001 x1) (rd_L2 x10 x12)).bind fun t324 => (if (t324.length : Int) > 0 then (if x5.length < 17592186044416 then (impl_Ground_beside.l0 k x1 (x5 ++ [x12]) x10 x11 (wrap64 (x12 + 1)) x319000 x319001) else (none)) else (impl_Ground_beside.l0 k x1 x5 x10 x11 (wrap64 (x12 + 1)) x319000 x319001))) else (none)) else (none))) else (none)) else (none)) else (some x5)
def impl_Ground_beside.f (k : Nat) (l0_0 : List (S54)) (l0_1 : List (List Int)) (a1 : Int) : Option (List Int) := impl_Ground_beside.l0 k a1 (([] : List Int)) l0_1 (l0_1.length : Int) 0 l0_0 l0_1
theorem impl_Ground_beside.mono_l : ∀ k, (∀ y0 y1 y2 y3 y4 y5 y6, LeO (impl_Ground_beside.l0 k y0 y1 y2 y3 y4 y5 y6) (impl_Ground_beside.l0 (k + 1) y0 y1 y2 y3 y4 y5 y6))
 | 0 => fun _ _ _ _ _ _ _ r h => by simp [impl_Ground_beside.l0] at h
 | k + 1 => by
  have ih0 := impl_Ground_beside.mono_l k
  ·intro y0 y1 y2 y3 y4 y5 y6
   unfold impl_Ground_beside.l0
   repeat' first
   | (with_reducible exact ih0 _ _ _ _ _ _ _)
   | (with_reducible exact impl_doors.mono _ _ _)
   | (with_reducible exact LeO.refl _)
   | (with_reducible exact LeO.none _)
   | (with_reducible refine LeO.ite ?_ ?_)
   | (with_reducible refine LeO.bind ?_ (fun _ => ?_))
   | exact ih0 _ _ _ _ _ _ _
   | exact impl_doors.mono _ _ _
   | exact LeO.none _
   | refine LeO.ite ?_ ?_
   | refine LeO.bind ?_ (fun _ => ?_)
theorem impl_Ground_beside.mono : ∀ a0 a1 a2 k, LeO (impl_Ground_beside.f k a0 a1 a2) (impl_Ground_beside.f (k + 1) a0 a1 a2) := by
 intro a0 a1 a2 k
 have ih0 := impl_Ground_beside.mono_l k
 unfold impl_Ground_beside.f
 repeat' first
   | (with_reducible exact ih0 _ _ _ _ _ _ _)
   | (with_reducible exact impl_doors.mono _ _ _)
   | (with_reducible exact LeO.refl _)
   | (with_reducible exact LeO.none _)
   | (with_reducible refine LeO.ite ?_ ?_)
   | (with_reducible refine LeO.bind ?_ (fun _ => ?_))
   | exact ih0 _ _ _ _ _ _ _
   | exact impl_doors.mono _ _ _
   | exact LeO.none _
   | refine LeO.ite ?_ ?_
   | refine LeO.bind ?_ (fun _ => ?_)
set_option maxHeartbeats 8000000 in
set_option maxRecDepth 100000 in
theorem impl_Ground_beside.calls (k : Nat) (A0_0 : Option Addr) (c0_0 : Nat) (l0_0 : List (S54)) (A0_1 : Option Addr) (c0_1 : Nat) (l0_1 : List (List Int)) (a1 : Int) (r : List Int) (w : World) (hr0_0 : Kd.C k54 w A0_0 l0_0.length l0_0) (hc0_0 : l0_0.length ≤ c0_0) (hr0_1 : Kd.C (Kd.slice 3 (Kd.int .i64)) w A0_1 l0_1.length l0_1) (hc0_1 : l0_1.length ≤ c0_1) (h : impl_Ground_beside.f k l0_0 l0_1 a1 = some r) :
  Calls Try.prog 55 #[.agg #[.slice A0_0 l0_0.length c0_0, .slice A0_1 l0_1.length c0_1], .int .i64 a1] w fun e w' => ∃ v0_ : Value, e = .returned (v0_) ∧ Kd.R (Kd.int .i64) 3 w' w.heap.size (fun _ => True) v0_ r ∧ Below w.heap.size w w' := by
 have hu30 := Try.underlying30
 have HR0_0 := Aside0.mk hr0_0
 have HC0_0 := Aside0.mk hc0_0
 clear hr0_0 hc0_0
 have HR0_1 := Aside0.mk hr0_1
 have HC0_1 := Aside0.mk hc0_1
 clear hr0_1 hc0_1
 have HB := Aside0.mk (Below.refl w.heap.size w)
 have H : (impl_Ground_beside.l0 k a1 (([] : List Int)) l0_1 (l0_1.length : Int) 0 l0_0 l0_1) = some r := h
 clear h
 obtain ⟨y319, hy319⟩ : ∃ y_ : List Int, y_ = (([] : List Int)) := ⟨_, rfl⟩
 replace H : (impl_Ground_beside.l0 k a1 y319 l0_1 (l0_1.length : Int) 0 l0_0 l0_1) = some r := by first | (rw [hy319]; with_reducible exact H) | (have H2_ := (Option.bind_some _ _).symm.trans H; rw [hy319]; with_reducible exact H2_) | (have H2_ := (Option.bind_some _ _).symm.trans H; with_reducible exact H2_) | with_reducible exact H | (rw [hy319]; exact H) | exact H
 have Ny319 := Aside0.mk hy319
 clear hy319
 have H' := Aside0.mk H
 clear H
 go_enter Try.func55, Try.ntmps55
 go_wp2_with (first | ((with_reducible refine gate_dst (N := 2) rfl ?_); (try (refine gate_guard (by rfl) ?_; dsimp only)); refine box_event ?hg (N := 2) ?hd (cs := #[.slice A0_0 l0_0.length c0_0, .slice A0_1 l0_1.length c0_1]) (t := 30) ?hr ?_; (case hd => rfl); (case hg => rfl); (case hr => first | (go_simp; done) | (go_simp; rfl)); intro gb318 hg w3 hbox hb; have n0_ := Aside0.mk (below_step blw hb); have n1_ := Aside0.mk (hbox); have n2_ := Aside0.mk ((by rw [hg]; exact (below_size blw) : w.heap.size ≤ gb318)); have n3_ := Aside0.mk ((by rw [hg]; exact (below_size blw) : w.heap.size ≤ gb318)); clear HB; have HB := n0_; have BK318 := n1_; have GW318 := n2_; have GE318 := n3_; clear n0_ n1_ n2_ n3_; clear hb hbox hg) | ((with_reducible refine gate_dst (N := 8) rfl ?_); (try (refine gate_guard (by rfl) ?_; dsimp only)); refine Kd.R_lit (Kd.int .i64) _ 3 ?hg (N := 8) ?hd (xs := ([] : List Int)) (inner := []) (ok := fun _ => True) (okp := fun _ => True) ?hr ?hp (fun _ hk => hk) trivial (Below.refl _ _) (Nat.le_refl _) (by simp) ?_; (case hd => rfl); (case hg => rfl); (case hr => first | (go_simp; done) | (go_simp; rfl)); (case hp => exact (Reps.none _ _)); intro v320 w4 ho5 hb hg_ hnew_; clear hg_ hnew_; (first | rw [← Ny319.out] at ho5 | (simp only [Int.reduceToNat] at ho5; rw [← Ny319.out] at ho5)); have n0_ := Aside0.mk (Kd.R_lower ho5 (below_size blw)); have n1_ := Aside0.mk (blk_below (g := gb318) (o := .cells #[.slice A0_0 l0_0.length c0_0, .slice A0_1 l0_1.length c0_1] 30 (0, 0)) bkw hb); have n2_ := Aside0.mk (below_step blw hb); clear BK318; clear HB; have HO321 := n0_; have BK318 := n1_; have HB := n2_; clear n0_ n1_ n2_; clear hb ho5; have hcz6_0 : w4.cell? ⟨gb318, 0, none⟩ = some (.slice A0_0 l0_0.length c0_0) := (blk_cell BK318.out 0).trans rfl; have hcz6_1 : w4.cell? ⟨gb318, 1, none⟩ = some (.slice A0_1 l0_1.length c0_1) := (blk_cell BK318.out 1).trans rfl; have hfz6_0 := blk_frozen BK318.out 0; have hfz6_1 := blk_frozen BK318.out 1))
 go_loopg [5, 12] k (fun kq v5 v12 w' => ∃ (x5_1 : List Int) (x12_1 : Int), v12 = .int .i64 x12_1 ∧ Aside0 (impl_Ground_beside.l0 kq a1 x5_1 l0_1 (l0_1.length : Int) x12_1 l0_0 l0_1 = some r) ∧ Aside0 (kq ≤ k) ∧ Aside0 (Kd.R (Kd.int .i64) 3 w' w.heap.size (fun _ => True) v5 x5_1) ∧ Aside0 (w'.heap[gb318]? = some (.cells #[(.slice A0_0 l0_0.length c0_0), (.slice A0_1 l0_1.length c0_1)] 30 (0, 0))) ∧ Aside0 (Below w.heap.size w w'))
 case atStart => exact ⟨(y319), (0), (by first | rfl | (simp; done) | (simp [*]; done)), H', ⟨Nat.le_refl _⟩, ⟨by (with_reducible repeat (first | apply Kd.R_alloc | apply Kd.R_drewN | apply Kd.R_drew)); exact HO321.out⟩, ⟨by (with_reducible repeat (first | refine blk_drewN ?_ _ | refine blk_drew ?_ | refine blk_alloc ?_ _)); exact BK318.out⟩, ⟨blw⟩⟩
 case round =>
  clear H'
  try clear p2
  try clear c5
  try clear hcz6_0
  try clear hcz6_1
  try clear hfz6_0
  try clear hfz6_1
  obtain ⟨x5_1, x12_1, rfl, HA, HK1, HO_5, BK318, HB⟩ := hrel
  cases gk with
  | zero => exact absurd HA.out (by simp [impl_Ground_beside.l0])
  | succ k1 =>
   have H := HA.out
   clear HA
   simp only [impl_Ground_beside.l0] at H
   by_cases c7 : x12_1 < (l0_1.length : Int)
   ·rw [if_pos c7] at H
    have c7b0 : decide (x12_1 < (l0_1.length : Int)) = true := decide_eq_true c7
    clear c7
    by_cases c8 : 0 ≤ x12_1
    ·rw [if_pos c8] at H
     have c8b0 : decide (0 ≤ x12_1) = true := decide_eq_true c8
     clear c8
     by_cases c9 : x12_1 < (l0_1.length : Int)
     ·rw [if_pos c9] at H
      have c9b0 : decide (x12_1 < (l0_1.length : Int)) = true := decide_eq_true c9
      clear c9
      by_cases c10 : x12_1 = a1
      ·rw [if_pos c10] at H
       have c10b0 : (x12_1 == a1) = true := beq_iff_eq.mpr c10
       have c10b1 : (x12_1 != a1) = false := bne_eq_false_iff_eq.mpr c10
       clear c10
       have H' := Aside0.mk H
       clear H
       have p322 : 0 ≤ (x12_1 : Int) := odt
       have q322 : x12_1 < (l0_1.length : Int) := odt
       obtain ⟨ad322, A322_0, c322_0, e322, hx322_0, hl322_0, hi322_0⟩ := at_L2 HR0_1.out x12_1 p322 q322
       cases e322
       replace hx322_0 := (HB.out.cell (World.block_lt_of_cell? w _ hx322_0)).trans hx322_0
       have HR322_0 := Aside0.mk hi322_0
       have HC322_0 := Aside0.mk hl322_0
       clear hi322_0 hl322_0
       replace p322 := eq_true p322
       replace q322 := eq_true q322
       go_wp2
       go_roundg k1
       case measure => have := HK1.out; omega
       case rel => exact ⟨(x5_1), (wrap64 (x12_1 + 1)), (by first | rfl | (simp; done) | (simp [*]; done)), H', ⟨by have := HK1.out; omega⟩, ⟨by (with_reducible repeat (first | apply Kd.R_alloc | apply Kd.R_drewN | apply Kd.R_drew)); exact HO_5.out⟩, ⟨by (with_reducible repeat (first | refine blk_drewN ?_ _ | refine blk_drew ?_ | refine blk_alloc ?_ _)); exact BK318.out⟩, ⟨blw⟩⟩
      ·rw [if_neg c10] at H
       have c10b0 : (x12_1 == a1) = false := beq_eq_false_iff_ne.mpr c10
       have c10b1 : (x12_1 != a1) = true := bne_iff_ne.mpr c10
       by_cases c11 : 0 ≤ a1
       ·rw [if_pos c11] at H
        have c11b0 : decide (0 ≤ a1) = true := decide_eq_true c11
        clear c11
        by_cases c12 : a1 < (l0_1.length : Int)
        ·rw [if_pos c12] at H
         have c12b0 : decide (a1 < (l0_1.length : Int)) = true := decide_eq_true c12
         clear c12
         replace H := Option.bind_eq_some_iff.mp H
         obtain ⟨t324, A130, H⟩ := H
         replace H : (if (t324.length : Int) > 0 then (if x5_1.length < 17592186044416 then (impl_Ground_beside.l0 k1 a1 (x5_1 ++ [x12_1]) l0_1 (l0_1.length : Int) (wrap64 (x12_1 + 1)) l0_0 l0_1) else (none)) else (impl_Ground_beside.l0 k1 a1 x5_1 l0_1 (l0_1.length : Int) (wrap64 (x12_1 + 1)) l0_0 l0_1)) = some r := H
         have A13 := Aside0.mk A130
         clear A130
         by_cases c14 : (t324.length : Int) > 0
         ·rw [if_pos c14] at H
          have c14b0 : decide (0 < (t324.length : Int)) = true := decide_eq_true c14
          have c14b1 : decide (0 < t324.length) = true := decide_eq_true (by omega)
          clear c14
          by_cases c15 : x5_1.length < 17592186044416
          ·rw [if_pos c15] at H
           have LMc15 := Aside0.mk c15
           clear c15
           obtain ⟨y327, hy327⟩ : ∃ y_ : List Int, y_ = (x5_1 ++ [x12_1]) := ⟨_, rfl⟩
           replace H : (impl_Ground_beside.l0 k1 a1 y327 l0_1 (l0_1.length : Int) (wrap64 (x12_1 + 1)) l0_0 l0_1) = some r := by first | (rw [hy327]; with_reducible exact H) | (have H2_ := (Option.bind_some _ _).symm.trans H; rw [hy327]; with_reducible exact H2_) | (have H2_ := (Option.bind_some _ _).symm.trans H; with_reducible exact H2_) | with_reducible exact H | (rw [hy327]; exact H) | exact H
           have Ny327 := Aside0.mk hy327
           clear hy327
           have H' := Aside0.mk H
           clear H
           have p322 : 0 ≤ (x12_1 : Int) := odt
           have q322 : x12_1 < (l0_1.length : Int) := odt
           obtain ⟨ad322, A322_0, c322_0, e322, hx322_0, hl322_0, hi322_0⟩ := at_L2 HR0_1.out x12_1 p322 q322
           cases e322
           replace hx322_0 := (HB.out.cell (World.block_lt_of_cell? w _ hx322_0)).trans hx322_0
           have HR322_0 := Aside0.mk hi322_0
           have HC322_0 := Aside0.mk hl322_0
           clear hi322_0 hl322_0
           replace p322 := eq_true p322
           replace q322 := eq_true q322
           have hcz16_0 : wr.cell? ⟨gb318, 0, none⟩ = some (.slice A0_0 l0_0.length c0_0) := (blk_cell BK318.out 0).trans rfl
           have hcz16_1 : wr.cell? ⟨gb318, 1, none⟩ = some (.slice (some ad322) l0_1.length c0_1) := (blk_cell BK318.out 1).trans rfl
           have hfz16_0 := blk_frozen BK318.out 0
           have hfz16_1 := blk_frozen BK318.out 1
           have p323 : 0 ≤ (a1 : Int) := odt
           have q323 : a1 < (l0_1.length : Int) := odt
           obtain ⟨ad323, A323_0, c323_0, e323, hx323_0, hl323_0, hi323_0⟩ := at_L2 HR0_1.out a1 p323 q323
           obtain rfl : ad322 = ad323 := (by injection e323)
           replace hx323_0 := (HB.out.cell (World.block_lt_of_cell? w _ hx323_0)).trans hx323_0
           have HR323_0 := Aside0.mk hi323_0
           have HC323_0 := Aside0.mk hl323_0
           clear hi323_0 hl323_0
           replace p323 := eq_true p323
           replace q323 := eq_true q323
           go_wp2_with (first | (go_at_call 76; (with_reducible refine (impl_doors.calls k1 _ _ (rd_L2 l0_1 a1) _ _ (rd_L2 l0_1 x12_1) t324 _ ?side1 ?side2 ?side3 ?side4 A13.out).mono ?_); (case side1 => repeat (first | exact (Kd.C_below HR323_0.out HB.out) | (with_reducible refine Kd.C_alloc ?_ _) | (with_reducible refine Kd.C_drewN ?_ _) | (with_reducible refine Kd.C_drew ?_))); (case side2 => exact HC323_0.out); (case side3 => repeat (first | exact (Kd.C_below HR322_0.out HB.out) | (with_reducible refine Kd.C_alloc ?_ _) | (with_reducible refine Kd.C_drewN ?_ _) | (with_reducible refine Kd.C_drew ?_))); (case side4 => exact HC322_0.out); rintro e w17 ⟨v325, rfl, ho0, hb⟩; have n0_ := Aside0.mk (Kd.R_below (by (with_reducible repeat (first | apply Kd.R_alloc | apply Kd.R_drewN | apply Kd.R_drew)); exact HO_5.out) hb); have n1_ := Aside0.mk (Kd.S_lower (Kd.S_new' ho0 (Kd.R_lt (by (with_reducible repeat (first | apply Kd.R_alloc | apply Kd.R_drewN | apply Kd.R_drew)); exact HO_5.out))) (below_size blw)); have n2_ := Aside0.mk (blk_below (g := gb318) (o := .cells #[.slice A0_0 l0_0.length c0_0, .slice (some ad322) l0_1.length c0_1] 30 (0, 0)) bkw hb); have n3_ := Aside0.mk (below_step blw hb); clear HO_5; clear BK318; clear HB; have HO_5 := n0_; have HO326 := n1_; have BK318 := n2_; have HB := n3_; clear n0_ n1_ n2_ n3_; (try clear hb); (try clear hb2); (try clear hk); (try clear hi); (try clear ho0); obtain ⟨Ao18, co18, eo18⟩ := Kd.S_slice HO326.out; subst eo18) | ((with_reducible refine gate_builtin (b := .append) (xs := #[.tmp 31, .tmp 33]) rfl ?_); (try (refine gate_guard (by rfl) ?_; dsimp only)); at_builtin; refine Kd.R_append (Kd.int .i64) (w0 := w) w.heap.size rfl (.tmp 31) (.tmp 33) 36 3 (.int .i64 0) 8 rfl Try.underlying36 info3 rfl (by decide) (by omega) u5 x5_1 x12_1 [.int .i64 x12_1] (fun _ => True) (fun _ => False) rfl rfl ?aP (fun _ hk => hk.elim) ?aF ?aO ?aB ?aS ?aL ?_; (case aP => exact rfl); (case aB => exact blw); (case aF => exact (fun _ _ => trivial)); (case aO => exact (by (with_reducible repeat (first | apply Kd.R_alloc | apply Kd.R_drewN | apply Kd.R_drew)); exact HO_5.out)); (case aS => exact (below_size blw)); (case aL => have := LMc15.out; omega); intro v328 w19 ho hb hg hat; rw [← Ny327.out] at ho; have n0_ := Aside0.mk (blk_grown (g := gb318) (o := .cells #[.slice A0_0 l0_0.length c0_0, .slice (some ad322) l0_1.length c0_1] 30 (0, 0)) bkw hg (Kd.R_ne HO_5.out BK318.out (by decide))); have n1_ := Aside0.mk (Kd.S_after (ok := (fun _ => True)) (by (with_reducible repeat (first | apply Kd.S_alloc | apply Kd.S_drewN | apply Kd.S_drew)); exact HO326.out) hg hat); have n2_ := Aside0.mk (hb); have n3_ := Aside0.mk (ho); clear BK318; clear HO326; clear HB; clear HO_5; have BK318 := n0_; have HO326 := n1_; have HB := n2_; have HO329 := n3_; clear n0_ n1_ n2_ n3_; clear ho hb hg hat))
           go_roundg k1
           case measure => have := HK1.out; omega
           case rel => exact ⟨(y327), (wrap64 (x12_1 + 1)), (by first | rfl | (simp; done) | (simp [*]; done)), H', ⟨by have := HK1.out; omega⟩, ⟨by (with_reducible repeat (first | apply Kd.R_alloc | apply Kd.R_drewN | apply Kd.R_drew)); exact HO329.out⟩, ⟨by (with_reducible repeat (first | refine blk_drewN ?_ _ | refine blk_drew ?_ | refine blk_alloc ?_ _)); exact BK318.out⟩, ⟨blw⟩⟩
          ·rw [if_neg c15] at H
           exact absurd H (by simp)
         ·rw [if_neg c14] at H
          have c14b0 : decide (0 < (t324.length : Int)) = false := decide_eq_false c14
          have c14b1 : decide (0 < t324.length) = false := decide_eq_false (by omega)
          clear c14
          have H' := Aside0.mk H
          clear H
          have p322 : 0 ≤ (x12_1 : Int) := odt
          have q322 : x12_1 < (l0_1.length : Int) := odt
          obtain ⟨ad322, A322_0, c322_0, e322, hx322_0, hl322_0, hi322_0⟩ := at_L2 HR0_1.out x12_1 p322 q322
          cases e322
          replace hx322_0 := (HB.out.cell (World.block_lt_of_cell? w _ hx322_0)).trans hx322_0
          have HR322_0 := Aside0.mk hi322_0
          have HC322_0 := Aside0.mk hl322_0
          clear hi322_0 hl322_0
          replace p322 := eq_true p322
          replace q322 := eq_true q322
          have hcz20_0 : wr.cell? ⟨gb318, 0, none⟩ = some (.slice A0_0 l0_0.length c0_0) := (blk_cell BK318.out 0).trans rfl
          have hcz20_1 : wr.cell? ⟨gb318, 1, none⟩ = some (.slice (some ad322) l0_1.length c0_1) := (blk_cell BK318.out 1).trans rfl
          have hfz20_0 := blk_frozen BK318.out 0
          have hfz20_1 := blk_frozen BK318.out 1
          have p323 : 0 ≤ (a1 : Int) := odt
          have q323 : a1 < (l0_1.length : Int) := odt
          obtain ⟨ad323, A323_0, c323_0, e323, hx323_0, hl323_0, hi323_0⟩ := at_L2 HR0_1.out a1 p323 q323
          obtain rfl : ad322 = ad323 := (by injection e323)
          replace hx323_0 := (HB.out.cell (World.block_lt_of_cell? w _ hx323_0)).trans hx323_0
          have HR323_0 := Aside0.mk hi323_0
          have HC323_0 := Aside0.mk hl323_0
          clear hi323_0 hl323_0
          replace p323 := eq_true p323
          replace q323 := eq_true q323
          go_wp2_with (first | (go_at_call 76; (with_reducible refine (impl_doors.calls k1 _ _ (rd_L2 l0_1 a1) _ _ (rd_L2 l0_1 x12_1) t324 _ ?side1 ?side2 ?side3 ?side4 A13.out).mono ?_); (case side1 => repeat (first | exact (Kd.C_below HR323_0.out HB.out) | (with_reducible refine Kd.C_alloc ?_ _) | (with_reducible refine Kd.C_drewN ?_ _) | (with_reducible refine Kd.C_drew ?_))); (case side2 => exact HC323_0.out); (case side3 => repeat (first | exact (Kd.C_below HR322_0.out HB.out) | (with_reducible refine Kd.C_alloc ?_ _) | (with_reducible refine Kd.C_drewN ?_ _) | (with_reducible refine Kd.C_drew ?_))); (case side4 => exact HC322_0.out); rintro e w21 ⟨v325, rfl, ho0, hb⟩; have n0_ := Aside0.mk (Kd.R_below (by (with_reducible repeat (first | apply Kd.R_alloc | apply Kd.R_drewN | apply Kd.R_drew)); exact HO_5.out) hb); have n1_ := Aside0.mk (Kd.S_lower (Kd.S_new' ho0 (Kd.R_lt (by (with_reducible repeat (first | apply Kd.R_alloc | apply Kd.R_drewN | apply Kd.R_drew)); exact HO_5.out))) (below_size blw)); have n2_ := Aside0.mk (blk_below (g := gb318) (o := .cells #[.slice A0_0 l0_0.length c0_0, .slice (some ad322) l0_1.length c0_1] 30 (0, 0)) bkw hb); have n3_ := Aside0.mk (below_step blw hb); clear HO_5; clear BK318; clear HB; have HO_5 := n0_; have HO326 := n1_; have BK318 := n2_; have HB := n3_; clear n0_ n1_ n2_ n3_; (try clear hb); (try clear hb2); (try clear hk); (try clear hi); (try clear ho0); obtain ⟨Ao22, co22, eo22⟩ := Kd.S_slice HO326.out; subst eo22))
          go_roundg k1
          case measure => have := HK1.out; omega
          case rel => exact ⟨(x5_1), (wrap64 (x12_1 + 1)), (by first | rfl | (simp; done) | (simp [*]; done)), H', ⟨by have := HK1.out; omega⟩, ⟨by (with_reducible repeat (first | apply Kd.R_alloc | apply Kd.R_drewN | apply Kd.R_drew)); exact HO_5.out⟩, ⟨by (with_reducible repeat (first | refine blk_drewN ?_ _ | refine blk_drew ?_ | refine blk_alloc ?_ _)); exact BK318.out⟩, ⟨blw⟩⟩
        ·rw [if_neg c12] at H
         exact absurd H (by simp)
       ·rw [if_neg c11] at H
        exact absurd H (by simp)
     ·rw [if_neg c9] at H
      exact absurd H (by simp)
    ·rw [if_neg c8] at H
     exact absurd H (by simp)
   ·rw [if_neg c7] at H
    have c7b0 : decide (x12_1 < (l0_1.length : Int)) = false := decide_eq_false c7
    clear c7
    obtain rfl := Option.some.inj H
    go_wp2
    go_ret
    exact ⟨_, by first | rfl | (simp [errW_none, errW_some] <;> rfl) | (simp [*, errW_none, errW_some] <;> rfl), by (with_reducible repeat (first | apply Kd.R_alloc | apply Kd.R_drewN | apply Kd.R_drew)); exact HO_5.out, blw⟩

/-! ### bits_Mul32: function 82 -/
def bits_Mul32.f (a0 : Int) (a1 : Int) : Option (Int × Int) := some (((IntKind.u64.wrap ((IntKind.u64.wrap (a0)) * (IntKind.u64.wrap (a1)))) / 4294967296) % 4294967296, (IntKind.u64.wrap ((IntKind.u64.wrap (a0)) * (IntKind.u64.wrap (a1)))) % 4294967296)
set_option maxHeartbeats 8000000 in
set_option maxRecDepth 100000 in
theorem bits_Mul32.calls (a0 : Int) (a1 : Int) (r1 : Int) (r2 : Int) (w : World) (h : bits_Mul32.f a0 a1 = some (r1, r2)) :
  Calls Try.prog 82 #[.int .u32 a0, .int .u32 a1] w fun e w' => e = .returned (.tuple #[.int .u32 r1, .int .u32 r2]) ∧ Drawn0 w w' := by
 have H : (some (((IntKind.u64.wrap ((IntKind.u64.wrap (a0)) * (IntKind.u64.wrap (a1)))) / 4294967296) % 4294967296, (IntKind.u64.wrap ((IntKind.u64.wrap (a0)) * (IntKind.u64.wrap (a1)))) % 4294967296)) = some (r1, r2) := h
 clear h
 simp only [Option.some.injEq, Prod.mk.injEq] at H
 obtain ⟨rfl, rfl⟩ := H
 go_enter Try.func82, Try.ntmps82
 go_wp2
 go_ret2
 exact ⟨by first | rfl | (simp; done) | (simp [*]; done), by repeat (first | exact Drawn0.refl _ | apply Drawn0.step)⟩

/-! ### bits_Mul64: function 83 -/
def bits_Mul64.f (a0 : Int) (a1 : Int) : Option (Int × Int) := some (IntKind.u64.wrap ((IntKind.u64.wrap ((IntKind.u64.wrap ((a0 / 4294967296) * (a1 / 4294967296))) + ((IntKind.u64.wrap ((IntKind.u64.wrap ((a0 / 4294967296) * (Go.bits .and .u64 a1 4294967295))) + ((IntKind.u64.wrap ((Go.bits .and .u64 a0 4294967295) * (Go.bits .and .u64 a1 4294967295))) / 4294967296))) / 4294967296))) + ((IntKind.u64.wrap ((Go.bits .and .u64 (IntKind.u64.wrap ((IntKind.u64.wrap ((a0 / 4294967296) * (Go.bits .and .u64 a1 4294967295))) + ((IntKind.u64.wrap ((Go.bits .and .u64 a0 4294967295) * (Go.bits .and .u64 a1 4294967295))) / 4294967296))) 4294967295) + (IntKind.u64.wrap ((Go.bits .and .u64 a0 4294967295) * (a1 / 4294967296))))) / 4294967296)), IntKind.u64.wrap (a0 * a1))
set_option maxHeartbeats 8000000 in
set_option maxRecDepth 100000 in
theorem bits_Mul64.calls (a0 : Int) (a1 : Int) (r1 : Int) (r2 : Int) (w : World) (h : bits_Mul64.f a0 a1 = some (r1, r2)) :
  Calls Try.prog 83 #[.int .u64 a0, .int .u64 a1] w fun e w' => e = .returned (.tuple #[.int .u64 r1, .int .u64 r2]) ∧ Drawn0 w w' := by
 have H : (some (IntKind.u64.wrap ((IntKind.u64.wrap ((IntKind.u64.wrap ((a0 / 4294967296) * (a1 / 4294967296))) + ((IntKind.u64.wrap ((IntKind.u64.wrap ((a0 / 4294967296) * (Go.bits .and .u64 a1 4294967295))) + ((IntKind.u64.wrap ((Go.bits .and .u64 a0 4294967295) * (Go.bits .and .u64 a1 4294967295))) / 4294967296))) / 4294967296))) + ((IntKind.u64.wrap ((Go.bits .and .u64 (IntKind.u64.wrap ((IntKind.u64.wrap ((a0 / 4294967296) * (Go.bits .and .u64 a1 4294967295))) + ((IntKind.u64.wrap ((Go.bits .and .u64 a0 4294967295) * (Go.bits .and .u64 a1 4294967295))) / 4294967296))) 4294967295) + (IntKind.u64.wrap ((Go.bits .and .u64 a0 4294967295) * (a1 / 4294967296))))) / 4294967296)), IntKind.u64.wrap (a0 * a1))) = some (r1, r2) := h
 clear h
 simp only [Option.some.injEq, Prod.mk.injEq] at H
 obtain ⟨rfl, rfl⟩ := H
 go_enter Try.func83, Try.ntmps83
 go_wp2
 go_ret2
 exact ⟨by first | rfl | (simp; done) | (simp [*]; done), by repeat (first | exact Drawn0.refl _ | apply Drawn0.step)⟩

/-! ### bits_Mul: function 77 -/
def bits_Mul.f (a0 : Int) (a1 : Int) : Option (Int × Int) := (bits_Mul64.f a0 a1).bind fun bt330 => (some (bt330.1, bt330.2))
set_option maxHeartbeats 8000000 in
set_option maxRecDepth 100000 in
theorem bits_Mul.calls (a0 : Int) (a1 : Int) (r1 : Int) (r2 : Int) (w : World) (h : bits_Mul.f a0 a1 = some (r1, r2)) :
  Calls Try.prog 77 #[.int .u64 a0, .int .u64 a1] w fun e w' => e = .returned (.tuple #[.int .u64 r1, .int .u64 r2]) ∧ Drawn0 w w' := by
 have H : ((bits_Mul64.f a0 a1).bind fun bt330 => (some (bt330.1, bt330.2))) = some (r1, r2) := h
 clear h
 replace H := Option.bind_eq_some_iff.mp H
 obtain ⟨⟨t330, t331⟩, A30, H⟩ := H
 replace H : (some (t330, t331)) = some (r1, r2) := H
 have A3 := Aside0.mk A30
 clear A30
 simp only [Option.some.injEq, Prod.mk.injEq] at H
 obtain ⟨rfl, rfl⟩ := H
 go_enter Try.func77, Try.ntmps77
 go_wp2_with (first | ((with_reducible refine gate_callee (f := 83) rfl ?_); refine goesL_ (some 25) rfl rfl Try.func83 (by kernel_rfl) rfl #[.int .u64 a0, .int .u64 a1] rfl (by (try simp only [List.map_toArray, List.map_cons, List.map_nil]); first | done | rfl | (simp only [List.length_drop, List.length_take]; rfl)) ?_; (with_reducible refine (bits_Mul64.calls a0 a1 t330 t331 _ A3.out).mono ?_); rintro e w' ⟨rfl, ⟨nd, rfl⟩⟩; refine ⟨_, rfl, ?_⟩))
 go_ret2
 exact ⟨by first | rfl | (simp; done) | (simp [*]; done), by repeat (first | exact Drawn0.refl _ | apply Drawn0.step)⟩


/-! ### slices_Repeat_int_int: function 59 -/
theorem slices_Repeat_int_int.mul (n : Int) (h0 : 0 ≤ n) (h1 : n ≤ 1048576) : bits_Mul.f 1 n = some (0, n) := by
 have wu : ∀ n, IntKind.u64.wrap n = n % 18446744073709551616 := fun n => by simp [IntKind.wrap, IntKind.bits, IntKind.signed]
 have msk : ∀ n : Int, 0 ≤ n → n < 18446744073709551616 → Go.bits .and .u64 n 4294967295 = n % 4294967296 := fun n h0 h1 => Go.bits_mask .u64 64 (by decide) (fun n a b => by rw [wu]; omega) 32 (by decide) n h0 (by omega)
 unfold bits_Mul.f bits_Mul64.f
 simp only [Option.bind_some, Option.some.injEq, Prod.mk.injEq, msk n h0 (by omega), msk 1 (by decide) (by decide), wu]
 have e1 : (1 : Int) / 4294967296 = 0 := by decide
 have e2 : (1 : Int) % 4294967296 = 1 := by decide
 have e3 : n % 4294967296 = n := by omega
 have e4 : n / 4294967296 = 0 := by omega
 simp only [e1, e2, e3, e4, Int.zero_mul, Int.mul_zero, Int.one_mul, Int.zero_add, Int.add_zero]
 rw [msk _ (by omega) (by omega)]
 constructor <;> omega
def slices_Repeat_int_int.f (l0 : List Int) (a1 : Int) : Option (List Int) := match l0 with
 | [x] => if 0 ≤ a1 ∧ a1 ≤ 1048576 then some (List.replicate a1.toNat x) else none
 | _ => none
theorem slices_Repeat_int_int.get {n j : Nat} {x v : Value} (h : (List.replicate n x)[j]? = some v) : j < n ∧ x = v := by
 rw [List.getElem?_replicate] at h
 split at h
 ·exact ⟨by assumption, Option.some.inj h⟩
 ·cases h
theorem slices_Repeat_int_int.cell {w : World} {g n k : Nat} {x z : Value} {t : TypeId} (h : w.heap[g]? = some (.cells (List.replicate n x ++ List.replicate k z).toArray t (0, 0))) (j : Nat) (hj : j < n) : w.cell? ((⟨g, 0, none⟩ : Addr).add j) = some x := by
 rw [show ((⟨g, 0, none⟩ : Addr).add j) = ⟨g, j, none⟩ from (by unfold Addr.add; split <;> simp_all)]
 refine (blk_cell h j).trans ?_
 rw [List.getElem?_toArray, List.getElem?_append_left (by rw [List.length_replicate]; exact hj), List.getElem?_replicate, if_pos hj]
theorem slices_Repeat_int_int.own {w : World} {base g C : Nat} {x : Int} (hg : base ≤ g) (hh : w.heap[g]? = some (.cells (List.replicate C (Value.int .i64 x)).toArray 3 (0, 0))) (hC : C ≤ 1048576) : Kd.R (Kd.int .i64) 3 w base (fun _ => True) (.slice (some ⟨g, 0, none⟩) C C) (List.replicate C x) := by
 refine Kd.R_of_own (enc := Value.int .i64) (h1 := fun _ => rfl) ⟨?_, .inr ⟨g, C, _, ?_, hg, hh, by rw [List.length_replicate]; exact Nat.le_refl _, by unfold maxLen; omega, ?_, ?_⟩⟩ (fun _ _ => trivial)
 ·rw [encs_length, Nat.mul_one]
 ·rw [List.length_replicate]
 ·simp
 ·simp [encs]
theorem slices_Repeat_int_int.w64 (n m : Nat) (h : n + m ≤ 1048576) : IntKind.i64.wrap ((n : Int) + (m : Int)) = ((n + m : Nat) : Int) := by
 rw [show ((n : Int) + (m : Int)) = ((n + m : Nat) : Int) by omega]
 generalize n + m = q at h
 unfold IntKind.wrap
 simp [IntKind.bits, IntKind.signed]
 omega
theorem slices_Repeat_int_int.filled (C n m : Nat) (hn : n + m ≤ C) (x z : Value) : splice (List.replicate n x ++ List.replicate (C - n) z) n (List.replicate m x) = List.replicate (n + m) x ++ List.replicate (C - (n + m)) z := by
 unfold splice
 rw [List.take_left' (by simp), List.length_replicate, List.drop_append, List.drop_replicate, List.drop_replicate, List.length_replicate, ← List.append_assoc, List.replicate_append_replicate, show n - (n + m) = 0 by omega, List.replicate_zero, List.nil_append, show C - n - (n + m - n) = C - (n + m) by omega]
theorem slices_Repeat_int_int.make {P : Program} {w0 w : World} {ops : Array Oper} {rest : List Oper} {o : Oper} {a : Act} {Q : Exit → Act → World → Prop}
  (hg : o.guard = none) (l c : Operand) (t : TypeId) (hop : o.op = Op.makeSlice t l c) (e : TypeId) (z : Value) (bytes : Nat) (hz : z.cells = #[z]) (h1 : P.underlying t = some (.slice e))
  (hinfo : (P.info? e).map (fun i => (i.zero, i.size, i.bytes)) = some (some z, 1, bytes)) (n : Nat) (hl : a.eval l = .int .i64 (n : Int)) (hc : a.eval c = .int .i64 (n : Int)) (b2 : bytes * n ≤ 281474976710656) (b3 : n ≤ maxLen) (hB : Below w0.heap.size w0 w)
  (hK : ∀ g w', w.heap.size ≤ g → Aside0 (w0.heap.size ≤ g) → Aside0 (w'.heap[g]? = some (.cells (List.replicate n z).toArray e (0, 0))) → Aside0 (Below w0.heap.size w0 w') → wpList P ops Q rest (a.put o.dst (.slice (some ⟨g, 0, none⟩) n n)) w') :
  wpList P ops Q (o :: rest) a w := by
 obtain ⟨i0, hi, hz0, hz1, hz2⟩ := info_parts hinfo
 have hs : w0.heap.size ≤ w.heap.size := hB.size
 refine wpList_make_full w hg l c t hop w0.heap.size e i0 z 1 h1 hi hz0 hz1 .i64 .i64 (n : Int) (n : Int) n hl hc rfl rfl (by rw [hz2]; exact b2) b3 hs ?_
 intro w' hown hgrow
 obtain ⟨_, h | ⟨g, cap, cur, hv, hbg, hh, hnc, hcm, hcs, ht⟩⟩ := hown
 ·cases h.1
 ·have hge : g = w.heap.size ∧ cap = n := by
   injection hv with h1 h2 h3
   injection h1 with h1
   injection h1 with h1
   exact ⟨h1.symm, h3.symm⟩
  obtain ⟨rfl, rfl⟩ := hge
  refine hK _ w' (Nat.le_refl _) ⟨hs⟩ ⟨?_⟩ ⟨hB.grown hgrow hs (fun j hj => by cases hj)⟩
  rw [hh]
  have hcur : cur.toList = (madeCells z.cells (cap * 1)).toList := by rw [← ht, List.take_of_length_le (by rw [Array.length_toList, hcs]; omega)]
  have : (madeCells z.cells (cap * 1)).toList = List.replicate cap z := by
   apply List.ext_getElem
   ·simp [madeCells, hz]
   ·intro i h1 h2
    simp [madeCells, hz, Nat.mod_one]
  rw [this] at hcur
  rw [← hcur]
set_option maxHeartbeats 8000000 in
set_option maxRecDepth 100000 in
theorem slices_Repeat_int_int.one (ad : Addr) (c0 : Nat) (x : Int) (C : Nat) (w : World) (hx : w.cell? ad = some (.int .i64 x)) (hC : C ≤ 1048576) :
  Calls Try.prog 59 #[.slice (some ad) 1 c0, .int .i64 (C : Int)] w fun e w' => ∃ g, e = .returned (.slice (some ⟨g, 0, none⟩) C C) ∧ w.heap.size ≤ g ∧ w'.heap[g]? = some (.cells (List.replicate C (Value.int .i64 x)).toArray 3 (0, 0)) ∧ Below w.heap.size w w' := by
 have hm := Aside0.mk (slices_Repeat_int_int.mul (C : Int) (by omega) (by omega))
 have hB := Aside0.mk (Below.refl w.heap.size w)
 have hC0 : (0 : Int) ≤ (C : Int) := by omega
 have hC1 : (C : Int) ≤ 1048576 := by omega
 obtain ⟨m0, hm0⟩ : ∃ m : Nat, m = min 1 C := ⟨_, rfl⟩
 have hz0 := Aside0.mk hm0
 have hz1 : m0 ≤ C := by omega
 have hz2 : m0 ≤ 1 := by omega
 clear hm0
 have hsz : (Try.prog.info? 3).map (·.size) = some 1 := by
  obtain ⟨i0, hi, h1, h2, h3⟩ := info_parts info3
  rw [hi, Option.map_some, h2]
 have hS := Aside0.mk hsz
 have hX := Aside0.mk hx
 clear hsz
 go_enter Try.func59, Try.ntmps59
 go_wp2_with (first | (go_at_call 77; (with_reducible refine (bits_Mul.calls 1 (C : Int) 0 (C : Int) _ hm.out).mono ?_); rintro e w1 ⟨rfl, ⟨nd, rfl⟩⟩) | ((with_reducible refine gate_dst (N := 30) rfl ?_); refine slices_Repeat_int_int.make (w0 := w) rfl _ _ 36 rfl 3 (.int .i64 0) 8 rfl Try.underlying36 info3 C rfl rfl (by omega) (by unfold maxLen; omega) (by repeat (first | exact Below.refl _ _ | apply pw_below_drewN)) ?_; intro g w2 _ hgs hg2 hB2) | ((with_reducible refine gate_builtin (b := .copy) (xs := #[.tmp 31, .tmp 32]) rfl ?_); refine wpList_copy_splice rfl (.tmp 31) (.tmp 32) 36 36 rfl 3 Try.underlying36 hS.out (some ⟨g, 0, none⟩) (some ad) C C 1 c0 rfl rfl g 0 (List.replicate C (.int .i64 0)) 3 hg2.out (List.replicate m0 (.int .i64 x)) ?cn ?cp ?cf ?c1 w.heap.size w hB2.out hgs.out ?_; (case cn => exact List.length_replicate.trans hz0.out); (case cp => exact fun _ => ⟨rfl, ad, rfl, fun j v hj => by obtain ⟨hj1, rfl⟩ := slices_Repeat_int_int.get hj; obtain rfl : j = 0 := (by omega); exact (hB2.out.cell (World.block_lt_of_cell? w _ hX.out)).trans hX.out⟩); (case cf => rw [List.length_replicate, List.length_replicate]; omega); (case c1 => intro v hv; rw [List.eq_of_mem_replicate hv]; rfl); rw [List.length_replicate]; intro w3 hg3 hB3))
 have hg4 := Aside0.mk (hg3.out.trans (by rw [show splice (List.replicate C (Value.int .i64 0)) 0 (List.replicate m0 (Value.int .i64 x)) = _ from slices_Repeat_int_int.filled C 0 m0 (by omega) (.int .i64 x) (.int .i64 0), Nat.zero_add]))
 have hB4 := Aside0.mk hB3
 clear hg3 hB3 hB2
 go_loopg [8] C (fun gg s8 wr => ∃ n : Nat, n ≤ C ∧ (0 < C → 0 < n) ∧ C - n ≤ gg ∧ s8 = .int .i64 (n : Int) ∧ Aside0 (wr.heap[g]? = some (.cells (List.replicate n (Value.int .i64 x) ++ List.replicate (C - n) (Value.int .i64 0)).toArray 3 (0, 0))) ∧ Aside0 (Below w.heap.size w wr))
 case atStart => exact ⟨m0, hz1, (fun h => by have := hz0.out; omega), by omega, rfl, hg4, hB4⟩
 case round =>
  obtain ⟨n, hn, hp, hgg, rfl, HG, HB⟩ := hrel
  by_cases hlt : n < C
  ·have hltz : (n : Int) < (C : Int) := by omega
   obtain ⟨m, hm⟩ : ∃ m : Nat, m = min n (C - n) := ⟨_, rfl⟩
   have hm0 : n + m ≤ C := by omega
   have hm1 : 0 < m := by omega
   have hne : ¬ C = n := by omega
   have hm2 := Aside0.mk hm
   have HF := Aside0.mk (slices_Repeat_int_int.filled C n m hm0 (.int .i64 x) (.int .i64 0))
   clear hm
   go_wp2
   go_region_law (refine step_copy_splice rfl (.tmp 41) (.tmp 44) 36 36 rfl 3 Try.underlying36 hS.out (if C = n then some ⟨g, 0, none⟩ else some ⟨g, n, none⟩) (some ⟨g, 0, none⟩) (C - n) (C - n) n C ?hd ?hs g n (List.replicate n (Value.int .i64 x) ++ List.replicate (C - n) (Value.int .i64 0)) 3 HG.out (List.replicate m (Value.int .i64 x)) (List.length_replicate.trans hm2.out) ?hpos ?hfit ?h1 w.heap.size w ?hb hgs.out ?_; (case hd => (first | (go_simp; done) | (go_simp; rfl))); (case hs => (first | (go_simp; done) | (go_simp; rfl))); (case hpos => exact fun _ => ⟨if_neg hne, ⟨g, 0, none⟩, rfl, fun j v hj => by obtain ⟨hj1, rfl⟩ := slices_Repeat_int_int.get hj; exact slices_Repeat_int_int.cell (w := wr.drew) HG.out j (by have := hm2.out; omega)⟩); (case hfit => simp only [List.length_append, List.length_replicate]; omega); (case h1 => exact fun v hv => by rw [List.eq_of_mem_replicate hv]; rfl); (case hb => first | exact HB.out | exact below_drew1 HB.out); rw [List.length_replicate]; intro w4 hg5 hB5)
   have hg6 := Aside0.mk (hg5.out.trans (by rw [HF.out]))
   have hB6 := Aside0.mk hB5
   clear hg5 hB5 HB HG
   go_wp2
   go_roundg (C - (n + m))
   case measure => omega
   case rel => exact ⟨n + m, hm0, fun _ => by omega, by omega, by rw [slices_Repeat_int_int.w64 n m (by omega)], hg6, hB6⟩
  ·have hltz : ¬ (n : Int) < (C : Int) := by omega
   go_wp2
   go_ret
   obtain rfl : n = C := by omega
   exact ⟨g, rfl, hgs.out, by have := HG.out; rw [Nat.sub_self, List.replicate_zero, List.append_nil] at this; simpa using this, HB.out⟩
set_option maxHeartbeats 8000000 in
theorem slices_Repeat_int_int.calls (A0 : Option Addr) (c0 : Nat) (l0 : List Int) (a1 : Int) (r : List Int) (w : World) (hr0 : Kd.C (Kd.int .i64) w A0 l0.length l0) (hc0 : l0.length ≤ c0) (h : slices_Repeat_int_int.f l0 a1 = some r) :
  Calls Try.prog 59 #[.slice A0 l0.length c0, .int .i64 a1] w fun e w' => ∃ v0_ : Value, e = .returned (v0_) ∧ Kd.R (Kd.int .i64) 3 w' w.heap.size (fun _ => True) v0_ r ∧ Below w.heap.size w w' := by
 match l0 with
 | [] => cases h
 | x :: y :: l => cases h
 | [x] =>
  unfold slices_Repeat_int_int.f at h
  simp only at h
  split at h
  ·rename_i hc
   obtain ⟨C, rfl⟩ := Int.eq_ofNat_of_zero_le hc.1
   obtain rfl := Option.some.inj h
   obtain ⟨ad, rfl, h1⟩ := Kd.at_int hr0 0 (by decide) (by simp)
   have hx : w.cell? ad = some (.int .i64 x) := by
    have e : ad.add (0 : Int).toNat = ad := by show ad.add 0 = ad; unfold Addr.add; rw [if_pos rfl]
    rw [e] at h1; exact h1
   refine (slices_Repeat_int_int.one ad c0 x C w hx (by omega)).mono ?_
   rintro e w' ⟨g, rfl, hg, hh, hB⟩
   exact ⟨_, rfl, slices_Repeat_int_int.own hg hh (by omega), hB⟩
  ·cases h

end Go.Proofs.Ytnfcpbajngccoaa.PFnExactFewestFaces
