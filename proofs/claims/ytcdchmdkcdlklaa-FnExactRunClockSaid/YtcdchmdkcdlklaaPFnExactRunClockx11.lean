/- The machine's side of a law, function by function: a Lean function with the Go function's answers and the proof that the Go code comes to them. No condition. Written by this session's program over the kit's print, this session's own contracts set in. -/
import Derived.Test.YtcdchmdkcdlklaaPFnExactRunClockx0
import Derived.Test.YtcdchmdkcdlklaaPFnExactRunClockx1
import Derived.Test.YtcdchmdkcdlklaaPFnExactRunClockx3
import Derived.Test.YtcdchmdkcdlklaaPFnExactRunClockx4
import Derived.Test.YtcdchmdkcdlklaaPFnExactRunClockx7
import Derived.Test.YtcdchmdkcdlklaaPFnExactRunClockx8
import Derived.Test.YtcdchmdkcdlklaaPFnExactRunClockx9
import Derived.Test.YtcdchmdkcdlklaaPFnExactRunClockx10
namespace Go.Proofs.Ytcdchmdkcdlklaa.PFnExactRunClock
open Go.RowKit Go.Proofs.YtcdchmdkcdlklaaW.PrintWords Go.Proofs.YtcdchmdkcdlklaaW.PrintLast Go.Proofs.YtcdchmdkcdlklaaW.PrintMore
attribute [local go_sem] max2_int min2_int max_two min_two max_three min_three max_four min_four   -- for this text's walks alone
set_option linter.unusedVariables false
set_option linter.unusedSimpArgs false

/-! ### laws_FnExactRunClock: function 4 -/
mutual
def laws_FnExactRunClock.j0 : Nat → Int → List (S56) → Bool → List (S56) → Bool → Bool → Int → List (S76) → Int → List (S54) → Int → List (S54) → Int → List (S54) → Option (Bool)
 | 0, _, _, _, _, _, _, _, _, _, _, _, _, _, _ => none
 | k + 1, x1, x7, x8, x11, x12, x55, x271000, x271001, x285000, x285001, x290000, x290001, x299000, x299001 => if x55 = true then (some false) else ((laws_toClock.f k x271000 x271001).bind fun bt301 => ((laws_eqClock.f k x290000 x290001 bt301.1 bt301.2).bind fun t305 => (if t305 = true then ((laws_markClock.f k x290000 x290001 1).bind fun bt306 => (if bt306.1 < 0 then (laws_FnExactRunClock.j1 k x1 x7 x8 x11 true x271000 x271001 x285000 x285001 x299000 x299001) else ((laws_eqClock.f k x299000 x299001 x285000 x285001).bind fun t308 => (if t308 = true then ((laws_eqFiredS.f k x11 x7).bind fun t309 => (if t309 = true then (laws_FnExactRunClock.j1 k x1 x7 x8 x11 (x12 != x8) x271000 x271001 x285000 x285001 x299000 x299001) else (laws_FnExactRunClock.j1 k x1 x7 x8 x11 true x271000 x271001 x285000 x285001 x299000 x299001))) else (laws_FnExactRunClock.j1 k x1 x7 x8 x11 true x271000 x271001 x285000 x285001 x299000 x299001))))) else (some false))))
def laws_FnExactRunClock.j1 : Nat → Int → List (S56) → Bool → List (S56) → Bool → Int → List (S76) → Int → List (S54) → Int → List (S54) → Option (Bool)
 | 0, _, _, _, _, _, _, _, _, _, _, _ => none
 | k + 1, x1, x7, x8, x11, x82, x271000, x271001, x285000, x285001, x299000, x299001 => if x82 = true then (some false) else ((laws_markClock.f k x299000 x299001 1).bind fun bt310 => ((laws_markFiredS.f k x11 bt310.1).bind fun bt312 => ((laws_heldClock.f k x299000 bt310.2 1).bind fun t314 => (if t314 < 0 then (some false) else ((laws_heldFiredS.f k bt312.2 t314).bind fun t315 => (if t315 < 0 then (some false) else (if t315 = bt312.1 then ((laws_toClock.f k x271000 x271001).bind fun bt316 => ((impl_RunClock.f k bt316.1 bt316.2 x1).bind fun bt320 => ((laws_eqClock.f k bt320.1 bt320.2.1 x285000 x285001).bind fun t329 => (if t329 = true then ((laws_eqFiredS.f k bt320.2.2.1 x7).bind fun t330 => (if t330 = true then (laws_FnExactRunClock.j2 k bt312.2 bt312.1 (bt320.2.2.2 != x8) x299000 bt310.2) else (laws_FnExactRunClock.j2 k bt312.2 bt312.1 true x299000 bt310.2))) else (laws_FnExactRunClock.j2 k bt312.2 bt312.1 true x299000 bt310.2))))) else (some false))))))))
def laws_FnExactRunClock.j2 : Nat → List (S56) → Int → Bool → Int → List (S54) → Option (Bool)
 | 0, _, _, _, _, _ => none
 | k + 1, x11, x14, x124, x299000, x299001 => if x124 = true then (some false) else ((laws_heldClock.f k x299000 x299001 1).bind fun t331 => (if t331 < 0 then (some false) else ((laws_heldFiredS.f k x11 t331).bind fun t332 => (if t332 < 0 then (some false) else (if t332 = x14 then (some true) else (some false))))))
end
def laws_FnExactRunClock.f (k : Nat) (a0_0 : Int) (l0_1 : List (S76)) (a1 : Int) : Option (Bool) := (laws_szClock.f a0_0 l0_1 1048576).bind fun t271 => (if t271 < 0 then (some true) else ((laws_toClock.f k a0_0 l0_1).bind fun bt272 => ((spec_RunClock.f k bt272.1 bt272.2 a1).bind fun bt276 => ((laws_toClock.f k a0_0 l0_1).bind fun bt285 => ((impl_RunClock.f k bt285.1 bt285.2 a1).bind fun bt290 => ((laws_eqClock.f k bt290.1 bt290.2.1 bt276.1 bt276.2.1).bind fun t299 => (if t299 = true then ((laws_eqFiredS.f k bt290.2.2.1 bt276.2.2.1).bind fun t300 => (if t300 = true then (laws_FnExactRunClock.j0 k a1 bt276.2.2.1 bt276.2.2.2 bt290.2.2.1 bt290.2.2.2 (bt290.2.2.2 != bt276.2.2.2) a0_0 l0_1 bt276.1 bt276.2.1 bt285.1 bt285.2 bt290.1 bt290.2.1) else (laws_FnExactRunClock.j0 k a1 bt276.2.2.1 bt276.2.2.2 bt290.2.2.1 bt290.2.2.2 true a0_0 l0_1 bt276.1 bt276.2.1 bt285.1 bt285.2 bt290.1 bt290.2.1))) else (laws_FnExactRunClock.j0 k a1 bt276.2.2.1 bt276.2.2.2 bt290.2.2.1 bt290.2.2.2 true a0_0 l0_1 bt276.1 bt276.2.1 bt285.1 bt285.2 bt290.1 bt290.2.1))))))))
theorem laws_FnExactRunClock.mono_l : ∀ k, (∀ y0 y1 y2 y3 y4 y5 y6 y7 y8 y9 y10 y11 y12 y13, LeO (laws_FnExactRunClock.j0 k y0 y1 y2 y3 y4 y5 y6 y7 y8 y9 y10 y11 y12 y13) (laws_FnExactRunClock.j0 (k + 1) y0 y1 y2 y3 y4 y5 y6 y7 y8 y9 y10 y11 y12 y13)) ∧ (∀ y0 y1 y2 y3 y4 y5 y6 y7 y8 y9 y10, LeO (laws_FnExactRunClock.j1 k y0 y1 y2 y3 y4 y5 y6 y7 y8 y9 y10) (laws_FnExactRunClock.j1 (k + 1) y0 y1 y2 y3 y4 y5 y6 y7 y8 y9 y10)) ∧ (∀ y0 y1 y2 y3 y4, LeO (laws_FnExactRunClock.j2 k y0 y1 y2 y3 y4) (laws_FnExactRunClock.j2 (k + 1) y0 y1 y2 y3 y4))
 | 0 => ⟨fun _ _ _ _ _ _ _ _ _ _ _ _ _ _ r h => by simp [laws_FnExactRunClock.j0] at h, fun _ _ _ _ _ _ _ _ _ _ _ r h => by simp [laws_FnExactRunClock.j1] at h, fun _ _ _ _ _ r h => by simp [laws_FnExactRunClock.j2] at h⟩
 | k + 1 => by
  obtain ⟨ih0, ih1, ih2⟩ := laws_FnExactRunClock.mono_l k
  refine ⟨?_, ?_, ?_⟩
  ·intro y0 y1 y2 y3 y4 y5 y6 y7 y8 y9 y10 y11 y12 y13
   unfold laws_FnExactRunClock.j0
   repeat' first
   | (with_reducible exact ih0 _ _ _ _ _ _ _ _ _ _ _ _ _ _)
   | (with_reducible exact ih1 _ _ _ _ _ _ _ _ _ _ _)
   | (with_reducible exact ih2 _ _ _ _ _)
   | (with_reducible exact impl_RunClock.mono _ _ _ _)
   | (with_reducible exact laws_eqClock.mono _ _ _ _ _)
   | (with_reducible exact laws_eqFiredS.mono _ _ _)
   | (with_reducible exact laws_heldClock.mono _ _ _ _)
   | (with_reducible exact laws_heldFiredS.mono _ _ _)
   | (with_reducible exact laws_markClock.mono _ _ _ _)
   | (with_reducible exact laws_markFiredS.mono _ _ _)
   | (with_reducible exact laws_toClock.mono _ _ _)
   | (with_reducible exact spec_RunClock.mono _ _ _ _)
   | (with_reducible exact LeO.refl _)
   | (with_reducible exact LeO.none _)
   | (with_reducible refine LeO.ite ?_ ?_)
   | (with_reducible refine LeO.bind ?_ (fun _ => ?_))
   | exact ih0 _ _ _ _ _ _ _ _ _ _ _ _ _ _
   | exact ih1 _ _ _ _ _ _ _ _ _ _ _
   | exact ih2 _ _ _ _ _
   | exact impl_RunClock.mono _ _ _ _
   | exact laws_eqClock.mono _ _ _ _ _
   | exact laws_eqFiredS.mono _ _ _
   | exact laws_heldClock.mono _ _ _ _
   | exact laws_heldFiredS.mono _ _ _
   | exact laws_markClock.mono _ _ _ _
   | exact laws_markFiredS.mono _ _ _
   | exact laws_toClock.mono _ _ _
   | exact spec_RunClock.mono _ _ _ _
   | exact LeO.none _
   | refine LeO.ite ?_ ?_
   | refine LeO.bind ?_ (fun _ => ?_)
  ·intro y0 y1 y2 y3 y4 y5 y6 y7 y8 y9 y10
   unfold laws_FnExactRunClock.j1
   repeat' first
   | (with_reducible exact ih0 _ _ _ _ _ _ _ _ _ _ _ _ _ _)
   | (with_reducible exact ih1 _ _ _ _ _ _ _ _ _ _ _)
   | (with_reducible exact ih2 _ _ _ _ _)
   | (with_reducible exact impl_RunClock.mono _ _ _ _)
   | (with_reducible exact laws_eqClock.mono _ _ _ _ _)
   | (with_reducible exact laws_eqFiredS.mono _ _ _)
   | (with_reducible exact laws_heldClock.mono _ _ _ _)
   | (with_reducible exact laws_heldFiredS.mono _ _ _)
   | (with_reducible exact laws_markClock.mono _ _ _ _)
   | (with_reducible exact laws_markFiredS.mono _ _ _)
   | (with_reducible exact laws_toClock.mono _ _ _)
   | (with_reducible exact spec_RunClock.mono _ _ _ _)
   | (with_reducible exact LeO.refl _)
   | (with_reducible exact LeO.none _)
   | (with_reducible refine LeO.ite ?_ ?_)
   | (with_reducible refine LeO.bind ?_ (fun _ => ?_))
   | exact ih0 _ _ _ _ _ _ _ _ _ _ _ _ _ _
   | exact ih1 _ _ _ _ _ _ _ _ _ _ _
   | exact ih2 _ _ _ _ _
   | exact impl_RunClock.mono _ _ _ _
   | exact laws_eqClock.mono _ _ _ _ _
   | exact laws_eqFiredS.mono _ _ _
   | exact laws_heldClock.mono _ _ _ _
   | exact laws_heldFiredS.mono _ _ _
   | exact laws_markClock.mono _ _ _ _
   | exact laws_markFiredS.mono _ _ _
   | exact laws_toClock.mono _ _ _
   | exact spec_RunClock.mono _ _ _ _
   | exact LeO.none _
   | refine LeO.ite ?_ ?_
   | refine LeO.bind ?_ (fun _ => ?_)
  ·intro y0 y1 y2 y3 y4
   unfold laws_FnExactRunClock.j2
   repeat' first
   | (with_reducible exact ih0 _ _ _ _ _ _ _ _ _ _ _ _ _ _)
   | (with_reducible exact ih1 _ _ _ _ _ _ _ _ _ _ _)
   | (with_reducible exact ih2 _ _ _ _ _)
   | (with_reducible exact impl_RunClock.mono _ _ _ _)
   | (with_reducible exact laws_eqClock.mono _ _ _ _ _)
   | (with_reducible exact laws_eqFiredS.mono _ _ _)
   | (with_reducible exact laws_heldClock.mono _ _ _ _)
   | (with_reducible exact laws_heldFiredS.mono _ _ _)
   | (with_reducible exact laws_markClock.mono _ _ _ _)
   | (with_reducible exact laws_markFiredS.mono _ _ _)
   | (with_reducible exact laws_toClock.mono _ _ _)
   | (with_reducible exact spec_RunClock.mono _ _ _ _)
   | (with_reducible exact LeO.refl _)
   | (with_reducible exact LeO.none _)
   | (with_reducible refine LeO.ite ?_ ?_)
   | (with_reducible refine LeO.bind ?_ (fun _ => ?_))
   | exact ih0 _ _ _ _ _ _ _ _ _ _ _ _ _ _
   | exact ih1 _ _ _ _ _ _ _ _ _ _ _
   | exact ih2 _ _ _ _ _
   | exact impl_RunClock.mono _ _ _ _
   | exact laws_eqClock.mono _ _ _ _ _
   | exact laws_eqFiredS.mono _ _ _
   | exact laws_heldClock.mono _ _ _ _
   | exact laws_heldFiredS.mono _ _ _
   | exact laws_markClock.mono _ _ _ _
   | exact laws_markFiredS.mono _ _ _
   | exact laws_toClock.mono _ _ _
   | exact spec_RunClock.mono _ _ _ _
   | exact LeO.none _
   | refine LeO.ite ?_ ?_
   | refine LeO.bind ?_ (fun _ => ?_)
theorem laws_FnExactRunClock.mono : ∀ a0 a1 a2 k, LeO (laws_FnExactRunClock.f k a0 a1 a2) (laws_FnExactRunClock.f (k + 1) a0 a1 a2) := by
 intro a0 a1 a2 k
 obtain ⟨ih0, ih1, ih2⟩ := laws_FnExactRunClock.mono_l k
 unfold laws_FnExactRunClock.f
 repeat' first
   | (with_reducible exact ih0 _ _ _ _ _ _ _ _ _ _ _ _ _ _)
   | (with_reducible exact ih1 _ _ _ _ _ _ _ _ _ _ _)
   | (with_reducible exact ih2 _ _ _ _ _)
   | (with_reducible exact impl_RunClock.mono _ _ _ _)
   | (with_reducible exact laws_eqClock.mono _ _ _ _ _)
   | (with_reducible exact laws_eqFiredS.mono _ _ _)
   | (with_reducible exact laws_heldClock.mono _ _ _ _)
   | (with_reducible exact laws_heldFiredS.mono _ _ _)
   | (with_reducible exact laws_markClock.mono _ _ _ _)
   | (with_reducible exact laws_markFiredS.mono _ _ _)
   | (with_reducible exact laws_toClock.mono _ _ _)
   | (with_reducible exact spec_RunClock.mono _ _ _ _)
   | (with_reducible exact LeO.refl _)
   | (with_reducible exact LeO.none _)
   | (with_reducible refine LeO.ite ?_ ?_)
   | (with_reducible refine LeO.bind ?_ (fun _ => ?_))
   | exact ih0 _ _ _ _ _ _ _ _ _ _ _ _ _ _
   | exact ih1 _ _ _ _ _ _ _ _ _ _ _
   | exact ih2 _ _ _ _ _
   | exact impl_RunClock.mono _ _ _ _
   | exact laws_eqClock.mono _ _ _ _ _
   | exact laws_eqFiredS.mono _ _ _
   | exact laws_heldClock.mono _ _ _ _
   | exact laws_heldFiredS.mono _ _ _
   | exact laws_markClock.mono _ _ _ _
   | exact laws_markFiredS.mono _ _ _
   | exact laws_toClock.mono _ _ _
   | exact spec_RunClock.mono _ _ _ _
   | exact LeO.none _
   | refine LeO.ite ?_ ?_
   | refine LeO.bind ?_ (fun _ => ?_)
set_option maxHeartbeats 8000000 in
set_option maxRecDepth 100000 in
theorem laws_FnExactRunClock.calls (k : Nat) (a0_0 : Int) (A0_1 : Option Addr) (c0_1 : Nat) (l0_1 : List (S76)) (a1 : Int) (r : Bool) (w : World) (hr0_1 : Kd.C k76 w A0_1 l0_1.length l0_1) (hc0_1 : l0_1.length ≤ c0_1) (hr_ : r = true) (h : laws_FnExactRunClock.f k a0_0 l0_1 a1 = some r) :
  Calls Try.prog 4 #[.agg #[.int .i64 a0_0, .slice A0_1 l0_1.length c0_1], .int .i64 a1] w fun e w' => e = .returned (.bool r) ∧ Below w.heap.size w w' := by
 have hu27 := Try.underlying27
 have hu31 := Try.underlying31
 have HR0_1 := Aside0.mk hr0_1
 have HC0_1 := Aside0.mk hc0_1
 clear hr0_1 hc0_1
 have HB := Aside0.mk (Below.refl w.heap.size w)
 have H : ((laws_szClock.f a0_0 l0_1 1048576).bind fun t271 => (if t271 < 0 then (some true) else ((laws_toClock.f k a0_0 l0_1).bind fun bt272 => ((spec_RunClock.f k bt272.1 bt272.2 a1).bind fun bt276 => ((laws_toClock.f k a0_0 l0_1).bind fun bt285 => ((impl_RunClock.f k bt285.1 bt285.2 a1).bind fun bt290 => ((laws_eqClock.f k bt290.1 bt290.2.1 bt276.1 bt276.2.1).bind fun t299 => (if t299 = true then ((laws_eqFiredS.f k bt290.2.2.1 bt276.2.2.1).bind fun t300 => (if t300 = true then (laws_FnExactRunClock.j0 k a1 bt276.2.2.1 bt276.2.2.2 bt290.2.2.1 bt290.2.2.2 (bt290.2.2.2 != bt276.2.2.2) a0_0 l0_1 bt276.1 bt276.2.1 bt285.1 bt285.2 bt290.1 bt290.2.1) else (laws_FnExactRunClock.j0 k a1 bt276.2.2.1 bt276.2.2.2 bt290.2.2.1 bt290.2.2.2 true a0_0 l0_1 bt276.1 bt276.2.1 bt285.1 bt285.2 bt290.1 bt290.2.1))) else (laws_FnExactRunClock.j0 k a1 bt276.2.2.1 bt276.2.2.2 bt290.2.2.1 bt290.2.2.2 true a0_0 l0_1 bt276.1 bt276.2.1 bt285.1 bt285.2 bt290.1 bt290.2.1))))))))) = some r := h
 clear h
 replace H := Option.bind_eq_some_iff.mp H
 obtain ⟨t271, A30, H⟩ := H
 replace H : (if t271 < 0 then (some true) else ((laws_toClock.f k a0_0 l0_1).bind fun bt272 => ((spec_RunClock.f k bt272.1 bt272.2 a1).bind fun bt276 => ((laws_toClock.f k a0_0 l0_1).bind fun bt285 => ((impl_RunClock.f k bt285.1 bt285.2 a1).bind fun bt290 => ((laws_eqClock.f k bt290.1 bt290.2.1 bt276.1 bt276.2.1).bind fun t299 => (if t299 = true then ((laws_eqFiredS.f k bt290.2.2.1 bt276.2.2.1).bind fun t300 => (if t300 = true then (laws_FnExactRunClock.j0 k a1 bt276.2.2.1 bt276.2.2.2 bt290.2.2.1 bt290.2.2.2 (bt290.2.2.2 != bt276.2.2.2) a0_0 l0_1 bt276.1 bt276.2.1 bt285.1 bt285.2 bt290.1 bt290.2.1) else (laws_FnExactRunClock.j0 k a1 bt276.2.2.1 bt276.2.2.2 bt290.2.2.1 bt290.2.2.2 true a0_0 l0_1 bt276.1 bt276.2.1 bt285.1 bt285.2 bt290.1 bt290.2.1))) else (laws_FnExactRunClock.j0 k a1 bt276.2.2.1 bt276.2.2.2 bt290.2.2.1 bt290.2.2.2 true a0_0 l0_1 bt276.1 bt276.2.1 bt285.1 bt285.2 bt290.1 bt290.2.1)))))))) = some r := H
 have A3 := Aside0.mk A30
 clear A30
 by_cases c4 : t271 < 0
 ·rw [if_pos c4] at H
  have c4b0 : decide (t271 < 0) = true := decide_eq_true c4
  clear c4
  obtain rfl := Option.some.inj H
  go_enter Try.func4, Try.ntmps4
  go_wp2_with (first | ((with_reducible refine gate_dst (N := 2) rfl ?_); refine box_event ?hg (N := 2) ?hd (cs := #[.int .i64 a0_0, .slice A0_1 l0_1.length c0_1]) (t := 27) ?hr ?_; (case hd => rfl); (case hg => rfl); (case hr => first | (go_simp; done) | (go_simp; rfl)); intro gb270 hg w5 hbox hb; have n0_ := Aside0.mk (below_step blw hb); have n1_ := Aside0.mk (hbox); have n2_ := Aside0.mk ((by rw [hg]; exact (below_size blw) : w.heap.size ≤ gb270)); have n3_ := Aside0.mk ((by rw [hg]; exact (below_size blw) : w.heap.size ≤ gb270)); clear HB; have HB := n0_; have BK270 := n1_; have GW270 := n2_; have GE270 := n3_; clear n0_ n1_ n2_ n3_; clear hb hbox hg; have hcz6_0 : w5.cell? ⟨gb270, 0, none⟩ = some (.int .i64 a0_0) := (blk_cell BK270.out 0).trans rfl; have hcz6_1 : w5.cell? ⟨gb270, 1, none⟩ = some (.slice A0_1 l0_1.length c0_1) := (blk_cell BK270.out 1).trans rfl; have hfz6_0 := blk_frozen BK270.out 0; have hfz6_1 := blk_frozen BK270.out 1) | ((with_reducible refine gate_callee (f := 7) rfl ?_); refine goesL_ (some 21) rfl rfl Try.func7 (by kernel_rfl) rfl #[.agg #[.int .i64 a0_0, .slice A0_1 l0_1.length c0_1], .int .i64 1048576] rfl (by (try simp only [List.map_toArray, List.map_cons, List.map_nil]); first | done | rfl | (simp only [List.length_drop, List.length_take]; rfl)) ?_; (with_reducible refine (laws_szClock.calls a0_0 _ _ l0_1 1048576 t271 _ ?side1 ?side2 A3.out).mono ?_); (case side1 => repeat (first | exact (Kd.C_below HR0_1.out HB.out) | (with_reducible refine Kd.C_alloc ?_ _) | (with_reducible refine Kd.C_drewN ?_ _) | (with_reducible refine Kd.C_drew ?_))); (case side2 => exact HC0_1.out); rintro e w7 ⟨rfl, hb⟩; refine ⟨_, rfl, ?_⟩; have n0_ := Aside0.mk (blk_below (g := gb270) (o := .cells #[.int .i64 a0_0, .slice A0_1 l0_1.length c0_1] 27 (0, 0)) bkw hb); have n1_ := Aside0.mk (below_step blw hb); clear BK270; clear HB; have BK270 := n0_; have HB := n1_; clear n0_ n1_; (try clear hb); (try clear hb2); (try clear hk); (try clear hi)))
  go_ret
  exact ⟨by first | rfl | (simp [errW_none, errW_some] <;> rfl) | (simp [*, errW_none, errW_some] <;> rfl), blw⟩
 ·rw [if_neg c4] at H
  have c4b0 : decide (t271 < 0) = false := decide_eq_false c4
  clear c4
  replace H := Option.bind_eq_some_iff.mp H
  obtain ⟨⟨t272, t273⟩, A80, H⟩ := H
  replace H : ((spec_RunClock.f k t272 t273 a1).bind fun bt276 => ((laws_toClock.f k a0_0 l0_1).bind fun bt285 => ((impl_RunClock.f k bt285.1 bt285.2 a1).bind fun bt290 => ((laws_eqClock.f k bt290.1 bt290.2.1 bt276.1 bt276.2.1).bind fun t299 => (if t299 = true then ((laws_eqFiredS.f k bt290.2.2.1 bt276.2.2.1).bind fun t300 => (if t300 = true then (laws_FnExactRunClock.j0 k a1 bt276.2.2.1 bt276.2.2.2 bt290.2.2.1 bt290.2.2.2 (bt290.2.2.2 != bt276.2.2.2) a0_0 l0_1 bt276.1 bt276.2.1 bt285.1 bt285.2 bt290.1 bt290.2.1) else (laws_FnExactRunClock.j0 k a1 bt276.2.2.1 bt276.2.2.2 bt290.2.2.1 bt290.2.2.2 true a0_0 l0_1 bt276.1 bt276.2.1 bt285.1 bt285.2 bt290.1 bt290.2.1))) else (laws_FnExactRunClock.j0 k a1 bt276.2.2.1 bt276.2.2.2 bt290.2.2.1 bt290.2.2.2 true a0_0 l0_1 bt276.1 bt276.2.1 bt285.1 bt285.2 bt290.1 bt290.2.1)))))) = some r := H
  have A8 := Aside0.mk A80
  clear A80
  replace H := Option.bind_eq_some_iff.mp H
  obtain ⟨⟨t276, t277, t280, t283⟩, A90, H⟩ := H
  replace H : ((laws_toClock.f k a0_0 l0_1).bind fun bt285 => ((impl_RunClock.f k bt285.1 bt285.2 a1).bind fun bt290 => ((laws_eqClock.f k bt290.1 bt290.2.1 t276 t277).bind fun t299 => (if t299 = true then ((laws_eqFiredS.f k bt290.2.2.1 t280).bind fun t300 => (if t300 = true then (laws_FnExactRunClock.j0 k a1 t280 t283 bt290.2.2.1 bt290.2.2.2 (bt290.2.2.2 != t283) a0_0 l0_1 t276 t277 bt285.1 bt285.2 bt290.1 bt290.2.1) else (laws_FnExactRunClock.j0 k a1 t280 t283 bt290.2.2.1 bt290.2.2.2 true a0_0 l0_1 t276 t277 bt285.1 bt285.2 bt290.1 bt290.2.1))) else (laws_FnExactRunClock.j0 k a1 t280 t283 bt290.2.2.1 bt290.2.2.2 true a0_0 l0_1 t276 t277 bt285.1 bt285.2 bt290.1 bt290.2.1))))) = some r := H
  have A9 := Aside0.mk A90
  clear A90
  replace H := Option.bind_eq_some_iff.mp H
  obtain ⟨⟨t285, t286⟩, A100, H⟩ := H
  replace H : ((impl_RunClock.f k t285 t286 a1).bind fun bt290 => ((laws_eqClock.f k bt290.1 bt290.2.1 t276 t277).bind fun t299 => (if t299 = true then ((laws_eqFiredS.f k bt290.2.2.1 t280).bind fun t300 => (if t300 = true then (laws_FnExactRunClock.j0 k a1 t280 t283 bt290.2.2.1 bt290.2.2.2 (bt290.2.2.2 != t283) a0_0 l0_1 t276 t277 t285 t286 bt290.1 bt290.2.1) else (laws_FnExactRunClock.j0 k a1 t280 t283 bt290.2.2.1 bt290.2.2.2 true a0_0 l0_1 t276 t277 t285 t286 bt290.1 bt290.2.1))) else (laws_FnExactRunClock.j0 k a1 t280 t283 bt290.2.2.1 bt290.2.2.2 true a0_0 l0_1 t276 t277 t285 t286 bt290.1 bt290.2.1)))) = some r := H
  have A10 := Aside0.mk A100
  clear A100
  replace H := Option.bind_eq_some_iff.mp H
  obtain ⟨⟨t290, t291, t294, t297⟩, A110, H⟩ := H
  replace H : ((laws_eqClock.f k t290 t291 t276 t277).bind fun t299 => (if t299 = true then ((laws_eqFiredS.f k t294 t280).bind fun t300 => (if t300 = true then (laws_FnExactRunClock.j0 k a1 t280 t283 t294 t297 (t297 != t283) a0_0 l0_1 t276 t277 t285 t286 t290 t291) else (laws_FnExactRunClock.j0 k a1 t280 t283 t294 t297 true a0_0 l0_1 t276 t277 t285 t286 t290 t291))) else (laws_FnExactRunClock.j0 k a1 t280 t283 t294 t297 true a0_0 l0_1 t276 t277 t285 t286 t290 t291))) = some r := H
  have A11 := Aside0.mk A110
  clear A110
  have HC12 := Aside0.mk H
  clear H
  go_enter Try.func4, Try.ntmps4
  go_upto_region 8 with (first | ((with_reducible refine gate_dst (N := 2) rfl ?_); refine box_event ?hg (N := 2) ?hd (cs := #[.int .i64 a0_0, .slice A0_1 l0_1.length c0_1]) (t := 27) ?hr ?_; (case hd => rfl); (case hg => rfl); (case hr => first | (go_simp; done) | (go_simp; rfl)); intro gb270 hg w13 hbox hb; have n0_ := Aside0.mk (below_step blw hb); have n1_ := Aside0.mk (hbox); have n2_ := Aside0.mk ((by rw [hg]; exact (below_size blw) : w.heap.size ≤ gb270)); have n3_ := Aside0.mk ((by rw [hg]; exact (below_size blw) : w.heap.size ≤ gb270)); clear HB; have HB := n0_; have BK270 := n1_; have GW270 := n2_; have GE270 := n3_; clear n0_ n1_ n2_ n3_; clear hb hbox hg; have hcz14_0 : w13.cell? ⟨gb270, 0, none⟩ = some (.int .i64 a0_0) := (blk_cell BK270.out 0).trans rfl; have hcz14_1 : w13.cell? ⟨gb270, 1, none⟩ = some (.slice A0_1 l0_1.length c0_1) := (blk_cell BK270.out 1).trans rfl; have hfz14_0 := blk_frozen BK270.out 0; have hfz14_1 := blk_frozen BK270.out 1) | ((with_reducible refine gate_callee (f := 7) rfl ?_); refine goesL_ (some 21) rfl rfl Try.func7 (by kernel_rfl) rfl #[.agg #[.int .i64 a0_0, .slice A0_1 l0_1.length c0_1], .int .i64 1048576] rfl (by (try simp only [List.map_toArray, List.map_cons, List.map_nil]); first | done | rfl | (simp only [List.length_drop, List.length_take]; rfl)) ?_; (with_reducible refine (laws_szClock.calls a0_0 _ _ l0_1 1048576 t271 _ ?side1 ?side2 A3.out).mono ?_); (case side1 => repeat (first | exact (Kd.C_below HR0_1.out HB.out) | (with_reducible refine Kd.C_alloc ?_ _) | (with_reducible refine Kd.C_drewN ?_ _) | (with_reducible refine Kd.C_drew ?_))); (case side2 => exact HC0_1.out); rintro e w15 ⟨rfl, hb⟩; refine ⟨_, rfl, ?_⟩; have n0_ := Aside0.mk (blk_below (g := gb270) (o := .cells #[.int .i64 a0_0, .slice A0_1 l0_1.length c0_1] 27 (0, 0)) bkw hb); have n1_ := Aside0.mk (below_step blw hb); clear BK270; clear HB; have BK270 := n0_; have HB := n1_; clear n0_ n1_; (try clear hb); (try clear hb2); (try clear hk); (try clear hi); have hcz16_0 : w15.cell? ⟨gb270, 0, none⟩ = some (.int .i64 a0_0) := (blk_cell BK270.out 0).trans rfl; have hcz16_1 : w15.cell? ⟨gb270, 1, none⟩ = some (.slice A0_1 l0_1.length c0_1) := (blk_cell BK270.out 1).trans rfl; have hfz16_0 := blk_frozen BK270.out 0; have hfz16_1 := blk_frozen BK270.out 1) | ((with_reducible refine gate_callee (f := 9) rfl ?_); refine goesL_ (some 26) rfl rfl Try.func9 (by kernel_rfl) rfl #[.agg #[.int .i64 a0_0, .slice A0_1 l0_1.length c0_1]] rfl (by (try simp only [List.map_toArray, List.map_cons, List.map_nil]); first | done | rfl | (simp only [List.length_drop, List.length_take]; rfl)) ?_; (with_reducible refine (laws_toClock.calls k a0_0 _ _ l0_1 t272 t273 _ ?side1 ?side2 A8.out).mono ?_); (case side1 => repeat (first | exact (Kd.C_below HR0_1.out HB.out) | (with_reducible refine Kd.C_alloc ?_ _) | (with_reducible refine Kd.C_drewN ?_ _) | (with_reducible refine Kd.C_drew ?_))); (case side2 => exact HC0_1.out); rintro e w17 ⟨v274, rfl, ho0, hb⟩; refine ⟨_, rfl, ?_⟩; have n0_ := Aside0.mk (Kd.R_lower ho0 (below_size blw)); have n1_ := Aside0.mk (blk_below (g := gb270) (o := .cells #[.int .i64 a0_0, .slice A0_1 l0_1.length c0_1] 27 (0, 0)) bkw hb); have n2_ := Aside0.mk (below_step blw hb); clear BK270; clear HB; have HO275 := n0_; have BK270 := n1_; have HB := n2_; clear n0_ n1_ n2_; (try clear hb); (try clear hb2); (try clear hk); (try clear hi); (try clear ho0); obtain ⟨Ao18, co18, eo18⟩ := Kd.R_slice HO275.out; subst eo18) | ((with_reducible refine gate_callee (f := 8) rfl ?_); refine goesL_ (some 28) rfl rfl Try.func8 (by kernel_rfl) rfl #[.agg #[.int .i64 t272, .slice Ao18 t273.length co18], .int .i64 a1] rfl (by (try simp only [List.map_toArray, List.map_cons, List.map_nil]); first | done | rfl | (simp only [List.length_drop, List.length_take]; rfl)) ?_; (with_reducible refine (spec_RunClock.calls k t272 _ _ t273 a1 t276 t277 t280 t283 _ ?side1 ?side2 A9.out).mono ?_); (case side1 => repeat (first | exact (Kd.R_reads' HO275.out).2.2 | (with_reducible refine Kd.C_alloc ?_ _) | (with_reducible refine Kd.C_drewN ?_ _) | (with_reducible refine Kd.C_drew ?_))); (case side2 => exact (Kd.R_reads' HO275.out).2.1); rintro e w19 ⟨v278, v281, rfl, ho0, ho1, hb⟩; refine ⟨_, rfl, ?_⟩; have n0_ := Aside0.mk (Kd.R_elder' (by (with_reducible repeat (first | apply Kd.R_alloc | apply Kd.R_drewN | apply Kd.R_drew)); exact HO275.out) (Kd.R_base ho0) hb); have n1_ := Aside0.mk (Kd.R_lower (Kd.R_new' ho0 (Kd.R_lt (by (with_reducible repeat (first | apply Kd.R_alloc | apply Kd.R_drewN | apply Kd.R_drew)); exact HO275.out))) (below_size blw)); have n2_ := Aside0.mk (Kd.R_lower ho1 (below_size blw)); have n3_ := Aside0.mk (blk_below (g := gb270) (o := .cells #[.int .i64 a0_0, .slice A0_1 l0_1.length c0_1] 27 (0, 0)) bkw hb); have n4_ := Aside0.mk (below_step blw hb); clear HO275; clear BK270; clear HB; have HO275 := n0_; have HO279 := n1_; have HO282 := n2_; have BK270 := n3_; have HB := n4_; clear n0_ n1_ n2_ n3_ n4_; (try clear hb); (try clear hb2); (try clear hk); (try clear hi); (try clear ho0); (try clear ho1)) | ((with_reducible refine gate_dst (N := 6) rfl ?_); refine box_event ?hg (N := 6) ?hd (cs := #[.int .i64 0, .slice none 0 0]) (t := 31) ?hr ?_; (case hd => rfl); (case hg => rfl); (case hr => first | (go_simp; done) | (go_simp; rfl)); intro gb284 hg w20 hbox hb; have n0_ := Aside0.mk (Kd.R_below (by (with_reducible repeat (first | apply Kd.R_alloc | apply Kd.R_drewN | apply Kd.R_drew)); exact HO275.out) hb); have n1_ := Aside0.mk (Kd.R_below (by (with_reducible repeat (first | apply Kd.R_alloc | apply Kd.R_drewN | apply Kd.R_drew)); exact HO279.out) hb); have n2_ := Aside0.mk (Kd.R_below (by (with_reducible repeat (first | apply Kd.R_alloc | apply Kd.R_drewN | apply Kd.R_drew)); exact HO282.out) hb); have n3_ := Aside0.mk (blk_below (g := gb270) (o := .cells #[.int .i64 a0_0, .slice A0_1 l0_1.length c0_1] 27 (0, 0)) bkw hb); have n4_ := Aside0.mk (below_step blw hb); have n5_ := Aside0.mk (hbox); have n6_ := Aside0.mk ((by rw [hg]; exact (below_size blw) : w.heap.size ≤ gb284)); have n7_ := Aside0.mk ((by rw [hg]; exact (below_size blw) : w.heap.size ≤ gb284)); have n8_ := Aside0.mk ((by rw [hg]; exact Nat.ne_of_lt (blk_lt (g := gb270) (o := .cells #[.int .i64 a0_0, .slice A0_1 l0_1.length c0_1] 27 (0, 0)) bkw) : gb270 ≠ gb284)); have n9_ := Aside0.mk ((by rw [hg]; exact Nat.ne_of_gt (blk_lt (g := gb270) (o := .cells #[.int .i64 a0_0, .slice A0_1 l0_1.length c0_1] 27 (0, 0)) bkw) : gb284 ≠ gb270)); clear HO275; clear HO279; clear HO282; clear BK270; clear HB; have HO275 := n0_; have HO279 := n1_; have HO282 := n2_; have BK270 := n3_; have HB := n4_; have BK284 := n5_; have GW284 := n6_; have GE284 := n7_; have NB270_284 := n8_; have NB284_270 := n9_; clear n0_ n1_ n2_ n3_ n4_ n5_ n6_ n7_ n8_ n9_; clear hb hbox hg; have hnb21 := NB284_270.out; have hnc21 := NB270_284.out; have hcz22_0 : w20.cell? ⟨gb284, 0, none⟩ = some (.int .i64 0) := (blk_cell BK284.out 0).trans rfl; have hcz22_1 : w20.cell? ⟨gb284, 1, none⟩ = some (.slice none 0 0) := (blk_cell BK284.out 1).trans rfl; have hfz22_0 := blk_frozen BK284.out 0; have hfz22_1 := blk_frozen BK284.out 1; obtain ⟨Ao23, co23, eo23⟩ := Kd.R_slice HO279.out; subst eo23; have hcz24_0 : w20.cell? ⟨gb270, 0, none⟩ = some (.int .i64 a0_0) := (blk_cell BK270.out 0).trans rfl; have hcz24_1 : w20.cell? ⟨gb270, 1, none⟩ = some (.slice A0_1 l0_1.length c0_1) := (blk_cell BK270.out 1).trans rfl; have hfz24_0 := blk_frozen BK270.out 0; have hfz24_1 := blk_frozen BK270.out 1) | ((with_reducible refine gate_callee (f := 9) rfl ?_); refine goesL_ (some 33) rfl rfl Try.func9 (by kernel_rfl) rfl #[.agg #[.int .i64 a0_0, .slice A0_1 l0_1.length c0_1]] rfl (by (try simp only [List.map_toArray, List.map_cons, List.map_nil]); first | done | rfl | (simp only [List.length_drop, List.length_take]; rfl)) ?_; (with_reducible refine (laws_toClock.calls k a0_0 _ _ l0_1 t285 t286 _ ?side1 ?side2 A10.out).mono ?_); (case side1 => exact Kd.C_below HR0_1.out blw); (case side2 => exact HC0_1.out); rintro e w25 ⟨v287, rfl, ho0, hb⟩; refine ⟨_, rfl, ?_⟩; have n0_ := Aside0.mk (Kd.R_elder' (by (with_reducible repeat (first | apply Kd.R_alloc | apply Kd.R_drewN | apply Kd.R_drew)); exact (Kd.R_mono (Kd.R_far (p := ⟨gb284, 1, none⟩) (Kd.R_far (p := ⟨gb284, 0, none⟩) (Kd.R_types HO275.out BK284.out (by decide)) (fun _ hk => hk.2) (.int .i64 t276)) (fun _ hk => hk.2) (.slice Ao23 t277.length co23)) (fun _ h_ => h_.1))) (Kd.R_base ho0) hb); have n1_ := Aside0.mk (Kd.R_elder' (by (with_reducible repeat (first | apply Kd.R_alloc | apply Kd.R_drewN | apply Kd.R_drew)); exact (Kd.R_mono (Kd.R_far (p := ⟨gb284, 1, none⟩) (Kd.R_far (p := ⟨gb284, 0, none⟩) (Kd.R_types HO279.out BK284.out (by decide)) (fun _ hk => hk.2) (.int .i64 t276)) (fun _ hk => hk.2) (.slice Ao23 t277.length co23)) (fun _ h_ => h_.1))) (Kd.R_base ho0) hb); have n2_ := Aside0.mk (Kd.R_below (by (with_reducible repeat (first | apply Kd.R_alloc | apply Kd.R_drewN | apply Kd.R_drew)); exact (Kd.R_mono (Kd.R_far (p := ⟨gb284, 1, none⟩) (Kd.R_far (p := ⟨gb284, 0, none⟩) (Kd.R_types HO282.out BK284.out (by decide)) (fun _ hk => hk.2) (.int .i64 t276)) (fun _ hk => hk.2) (.slice Ao23 t277.length co23)) (fun _ h_ => h_.1))) hb); have n3_ := Aside0.mk (Kd.R_lower (Kd.R_new' (Kd.R_new' ho0 (Kd.R_lt (by (with_reducible repeat (first | apply Kd.R_alloc | apply Kd.R_drewN | apply Kd.R_drew)); exact (Kd.R_mono (Kd.R_far (p := ⟨gb284, 1, none⟩) (Kd.R_far (p := ⟨gb284, 0, none⟩) (Kd.R_types HO275.out BK284.out (by decide)) (fun _ hk => hk.2) (.int .i64 t276)) (fun _ hk => hk.2) (.slice Ao23 t277.length co23)) (fun _ h_ => h_.1))))) (Kd.R_lt (by (with_reducible repeat (first | apply Kd.R_alloc | apply Kd.R_drewN | apply Kd.R_drew)); exact (Kd.R_mono (Kd.R_far (p := ⟨gb284, 1, none⟩) (Kd.R_far (p := ⟨gb284, 0, none⟩) (Kd.R_types HO279.out BK284.out (by decide)) (fun _ hk => hk.2) (.int .i64 t276)) (fun _ hk => hk.2) (.slice Ao23 t277.length co23)) (fun _ h_ => h_.1))))) (below_size blw)); have n4_ := Aside0.mk (blk_below (g := gb270) (o := .cells #[.int .i64 a0_0, .slice A0_1 l0_1.length c0_1] 27 (0, 0)) (by (with_reducible repeat (first | refine blk_drewN ?_ _ | refine blk_drew ?_ | refine blk_alloc ?_ _)); refine blk_far ?_ NB270_284.out _; (with_reducible repeat (first | refine blk_drewN ?_ _ | refine blk_drew ?_ | refine blk_alloc ?_ _)); refine blk_far ?_ NB270_284.out _; (with_reducible repeat (first | refine blk_drewN ?_ _ | refine blk_drew ?_ | refine blk_alloc ?_ _)); exact BK270.out) hb); have n5_ := Aside0.mk (blk_below (g := gb284) (o := .cells #[.int .i64 t276, .slice Ao23 t277.length co23] 31 (0, 0)) (by (with_reducible repeat (first | refine blk_drewN ?_ _ | refine blk_drew ?_ | refine blk_alloc ?_ _)); refine blk_put (cs := #[.int .i64 t276, .slice none 0 0]) ?_ 1 _ rfl; (with_reducible repeat (first | refine blk_drewN ?_ _ | refine blk_drew ?_ | refine blk_alloc ?_ _)); refine blk_put (cs := #[.int .i64 0, .slice none 0 0]) ?_ 0 _ rfl; (with_reducible repeat (first | refine blk_drewN ?_ _ | refine blk_drew ?_ | refine blk_alloc ?_ _)); exact BK284.out) hb); have n6_ := Aside0.mk (below_step blw hb); clear HO275; clear HO279; clear HO282; clear BK270; clear BK284; clear HB; have HO275 := n0_; have HO279 := n1_; have HO282 := n2_; have HO288 := n3_; have BK270 := n4_; have BK284 := n5_; have HB := n6_; clear n0_ n1_ n2_ n3_ n4_ n5_ n6_; (try clear hb); (try clear hb2); (try clear hk); (try clear hi); (try clear ho0)) | ((with_reducible refine gate_dst (N := 9) rfl ?_); refine box_event ?hg (N := 9) ?hd (cs := #[.int .i64 0, .slice none 0 0]) (t := 31) ?hr ?_; (case hd => rfl); (case hg => rfl); (case hr => first | (go_simp; done) | (go_simp; rfl)); intro gb289 hg w26 hbox hb; have n0_ := Aside0.mk (Kd.R_below (by (with_reducible repeat (first | apply Kd.R_alloc | apply Kd.R_drewN | apply Kd.R_drew)); exact HO275.out) hb); have n1_ := Aside0.mk (Kd.R_below (by (with_reducible repeat (first | apply Kd.R_alloc | apply Kd.R_drewN | apply Kd.R_drew)); exact HO279.out) hb); have n2_ := Aside0.mk (Kd.R_below (by (with_reducible repeat (first | apply Kd.R_alloc | apply Kd.R_drewN | apply Kd.R_drew)); exact HO282.out) hb); have n3_ := Aside0.mk (Kd.R_below (by (with_reducible repeat (first | apply Kd.R_alloc | apply Kd.R_drewN | apply Kd.R_drew)); exact HO288.out) hb); have n4_ := Aside0.mk (blk_below (g := gb270) (o := .cells #[.int .i64 a0_0, .slice A0_1 l0_1.length c0_1] 27 (0, 0)) bkw hb); have n5_ := Aside0.mk (blk_below (g := gb284) (o := .cells #[.int .i64 t276, .slice Ao23 t277.length co23] 31 (0, 0)) bkw hb); have n6_ := Aside0.mk (below_step blw hb); have n7_ := Aside0.mk (hbox); have n8_ := Aside0.mk ((by rw [hg]; exact (below_size blw) : w.heap.size ≤ gb289)); have n9_ := Aside0.mk ((by rw [hg]; exact (below_size blw) : w.heap.size ≤ gb289)); have n10_ := Aside0.mk ((by rw [hg]; exact Nat.ne_of_lt (blk_lt (g := gb270) (o := .cells #[.int .i64 a0_0, .slice A0_1 l0_1.length c0_1] 27 (0, 0)) bkw) : gb270 ≠ gb289)); have n11_ := Aside0.mk ((by rw [hg]; exact Nat.ne_of_gt (blk_lt (g := gb270) (o := .cells #[.int .i64 a0_0, .slice A0_1 l0_1.length c0_1] 27 (0, 0)) bkw) : gb289 ≠ gb270)); have n12_ := Aside0.mk ((by rw [hg]; exact Nat.ne_of_lt (blk_lt (g := gb284) (o := .cells #[.int .i64 t276, .slice Ao23 t277.length co23] 31 (0, 0)) bkw) : gb284 ≠ gb289)); have n13_ := Aside0.mk ((by rw [hg]; exact Nat.ne_of_gt (blk_lt (g := gb284) (o := .cells #[.int .i64 t276, .slice Ao23 t277.length co23] 31 (0, 0)) bkw) : gb289 ≠ gb284)); clear HO275; clear HO279; clear HO282; clear HO288; clear BK270; clear BK284; clear HB; have HO275 := n0_; have HO279 := n1_; have HO282 := n2_; have HO288 := n3_; have BK270 := n4_; have BK284 := n5_; have HB := n6_; have BK289 := n7_; have GW289 := n8_; have GE289 := n9_; have NB270_289 := n10_; have NB289_270 := n11_; have NB284_289 := n12_; have NB289_284 := n13_; clear n0_ n1_ n2_ n3_ n4_ n5_ n6_ n7_ n8_ n9_ n10_ n11_ n12_ n13_; clear hb hbox hg; have hnb27 := NB289_270.out; have hnc27 := NB270_289.out; have hnb28 := NB289_284.out; have hnc28 := NB284_289.out; have hcz29_0 : w26.cell? ⟨gb289, 0, none⟩ = some (.int .i64 0) := (blk_cell BK289.out 0).trans rfl; have hcz29_1 : w26.cell? ⟨gb289, 1, none⟩ = some (.slice none 0 0) := (blk_cell BK289.out 1).trans rfl; have hfz29_0 := blk_frozen BK289.out 0; have hfz29_1 := blk_frozen BK289.out 1; obtain ⟨Ao30, co30, eo30⟩ := Kd.R_slice HO288.out; subst eo30) | ((with_reducible refine gate_callee (f := 10) rfl ?_); refine goesL_ (some 37) rfl rfl Try.func10 (by kernel_rfl) rfl #[.agg #[.int .i64 t285, .slice Ao30 t286.length co30], .int .i64 a1] rfl (by (try simp only [List.map_toArray, List.map_cons, List.map_nil]); first | done | rfl | (simp only [List.length_drop, List.length_take]; rfl)) ?_; (with_reducible refine (impl_RunClock.calls k t285 _ _ t286 a1 t290 t291 t294 t297 _ ?side1 ?side2 A11.out).mono ?_); (case side1 => refine (Kd.R_reads' (e := 54) (base := w.heap.size) (ok := fun k_ => ((True ∧ some k_ ≠ (.slice Ao18 t273.length co18 : Value).ownBlock) ∧ some k_ ≠ (.slice Ao23 t277.length co23 : Value).ownBlock)) (n := t286.length) (c := co30) ?_).2.2; exact (by (with_reducible repeat (first | apply Kd.R_alloc | apply Kd.R_drewN | apply Kd.R_drew)); exact (Kd.R_mono (Kd.R_far (p := ⟨gb289, 1, none⟩) (Kd.R_far (p := ⟨gb289, 0, none⟩) (Kd.R_types HO288.out BK289.out (by decide)) (fun _ hk => hk.2) (.int .i64 t285)) (fun _ hk => hk.2) (.slice Ao30 t286.length co30)) (fun _ h_ => h_.1)))); (case side2 => exact (Kd.R_reads' HO288.out).2.1); rintro e w31 ⟨v292, v295, rfl, ho0, ho1, hb⟩; refine ⟨_, rfl, ?_⟩; have n0_ := Aside0.mk (Kd.R_elder' (by (with_reducible repeat (first | apply Kd.R_alloc | apply Kd.R_drewN | apply Kd.R_drew)); exact (Kd.R_mono (Kd.R_far (p := ⟨gb289, 1, none⟩) (Kd.R_far (p := ⟨gb289, 0, none⟩) (Kd.R_types HO275.out BK289.out (by decide)) (fun _ hk => hk.2) (.int .i64 t285)) (fun _ hk => hk.2) (.slice Ao30 t286.length co30)) (fun _ h_ => h_.1))) (Kd.R_base ho0) hb); have n1_ := Aside0.mk (Kd.R_elder' (by (with_reducible repeat (first | apply Kd.R_alloc | apply Kd.R_drewN | apply Kd.R_drew)); exact (Kd.R_mono (Kd.R_far (p := ⟨gb289, 1, none⟩) (Kd.R_far (p := ⟨gb289, 0, none⟩) (Kd.R_types HO279.out BK289.out (by decide)) (fun _ hk => hk.2) (.int .i64 t285)) (fun _ hk => hk.2) (.slice Ao30 t286.length co30)) (fun _ h_ => h_.1))) (Kd.R_base ho0) hb); have n2_ := Aside0.mk (Kd.R_elder' (by (with_reducible repeat (first | apply Kd.R_alloc | apply Kd.R_drewN | apply Kd.R_drew)); exact (Kd.R_mono (Kd.R_far (p := ⟨gb289, 1, none⟩) (Kd.R_far (p := ⟨gb289, 0, none⟩) (Kd.R_types HO282.out BK289.out (by decide)) (fun _ hk => hk.2) (.int .i64 t285)) (fun _ hk => hk.2) (.slice Ao30 t286.length co30)) (fun _ h_ => h_.1))) (Kd.R_base ho1) hb); have n3_ := Aside0.mk (Kd.R_elder' (by (with_reducible repeat (first | apply Kd.R_alloc | apply Kd.R_drewN | apply Kd.R_drew)); exact (Kd.R_mono (Kd.R_far (p := ⟨gb289, 1, none⟩) (Kd.R_far (p := ⟨gb289, 0, none⟩) (Kd.R_types HO288.out BK289.out (by decide)) (fun _ hk => hk.2) (.int .i64 t285)) (fun _ hk => hk.2) (.slice Ao30 t286.length co30)) (fun _ h_ => h_.1))) (Kd.R_base ho0) hb); have n4_ := Aside0.mk (Kd.R_lower (Kd.R_new' (Kd.R_new' (Kd.R_new' ho0 (Kd.R_lt (by (with_reducible repeat (first | apply Kd.R_alloc | apply Kd.R_drewN | apply Kd.R_drew)); exact (Kd.R_mono (Kd.R_far (p := ⟨gb289, 1, none⟩) (Kd.R_far (p := ⟨gb289, 0, none⟩) (Kd.R_types HO275.out BK289.out (by decide)) (fun _ hk => hk.2) (.int .i64 t285)) (fun _ hk => hk.2) (.slice Ao30 t286.length co30)) (fun _ h_ => h_.1))))) (Kd.R_lt (by (with_reducible repeat (first | apply Kd.R_alloc | apply Kd.R_drewN | apply Kd.R_drew)); exact (Kd.R_mono (Kd.R_far (p := ⟨gb289, 1, none⟩) (Kd.R_far (p := ⟨gb289, 0, none⟩) (Kd.R_types HO279.out BK289.out (by decide)) (fun _ hk => hk.2) (.int .i64 t285)) (fun _ hk => hk.2) (.slice Ao30 t286.length co30)) (fun _ h_ => h_.1))))) (Kd.R_lt (by (with_reducible repeat (first | apply Kd.R_alloc | apply Kd.R_drewN | apply Kd.R_drew)); exact (Kd.R_mono (Kd.R_far (p := ⟨gb289, 1, none⟩) (Kd.R_far (p := ⟨gb289, 0, none⟩) (Kd.R_types HO288.out BK289.out (by decide)) (fun _ hk => hk.2) (.int .i64 t285)) (fun _ hk => hk.2) (.slice Ao30 t286.length co30)) (fun _ h_ => h_.1))))) (below_size blw)); have n5_ := Aside0.mk (Kd.R_lower (Kd.R_new' ho1 (Kd.R_lt (by (with_reducible repeat (first | apply Kd.R_alloc | apply Kd.R_drewN | apply Kd.R_drew)); exact (Kd.R_mono (Kd.R_far (p := ⟨gb289, 1, none⟩) (Kd.R_far (p := ⟨gb289, 0, none⟩) (Kd.R_types HO282.out BK289.out (by decide)) (fun _ hk => hk.2) (.int .i64 t285)) (fun _ hk => hk.2) (.slice Ao30 t286.length co30)) (fun _ h_ => h_.1))))) (below_size blw)); have n6_ := Aside0.mk (blk_below (g := gb270) (o := .cells #[.int .i64 a0_0, .slice A0_1 l0_1.length c0_1] 27 (0, 0)) (by (with_reducible repeat (first | refine blk_drewN ?_ _ | refine blk_drew ?_ | refine blk_alloc ?_ _)); refine blk_far ?_ NB270_289.out _; (with_reducible repeat (first | refine blk_drewN ?_ _ | refine blk_drew ?_ | refine blk_alloc ?_ _)); refine blk_far ?_ NB270_289.out _; (with_reducible repeat (first | refine blk_drewN ?_ _ | refine blk_drew ?_ | refine blk_alloc ?_ _)); exact BK270.out) hb); have n7_ := Aside0.mk (blk_below (g := gb284) (o := .cells #[.int .i64 t276, .slice Ao23 t277.length co23] 31 (0, 0)) (by (with_reducible repeat (first | refine blk_drewN ?_ _ | refine blk_drew ?_ | refine blk_alloc ?_ _)); refine blk_far ?_ NB284_289.out _; (with_reducible repeat (first | refine blk_drewN ?_ _ | refine blk_drew ?_ | refine blk_alloc ?_ _)); refine blk_far ?_ NB284_289.out _; (with_reducible repeat (first | refine blk_drewN ?_ _ | refine blk_drew ?_ | refine blk_alloc ?_ _)); exact BK284.out) hb); have n8_ := Aside0.mk (blk_below (g := gb289) (o := .cells #[.int .i64 t285, .slice Ao30 t286.length co30] 31 (0, 0)) (by (with_reducible repeat (first | refine blk_drewN ?_ _ | refine blk_drew ?_ | refine blk_alloc ?_ _)); refine blk_put (cs := #[.int .i64 t285, .slice none 0 0]) ?_ 1 _ rfl; (with_reducible repeat (first | refine blk_drewN ?_ _ | refine blk_drew ?_ | refine blk_alloc ?_ _)); refine blk_put (cs := #[.int .i64 0, .slice none 0 0]) ?_ 0 _ rfl; (with_reducible repeat (first | refine blk_drewN ?_ _ | refine blk_drew ?_ | refine blk_alloc ?_ _)); exact BK289.out) hb); have n9_ := Aside0.mk (below_step blw hb); clear HO275; clear HO279; clear HO282; clear HO288; clear BK270; clear BK284; clear BK289; clear HB; have HO275 := n0_; have HO279 := n1_; have HO282 := n2_; have HO288 := n3_; have HO293 := n4_; have HO296 := n5_; have BK270 := n6_; have BK284 := n7_; have BK289 := n8_; have HB := n9_; clear n0_ n1_ n2_ n3_ n4_ n5_ n6_ n7_ n8_ n9_; (try clear hb); (try clear hb2); (try clear hk); (try clear hi); (try clear ho0); (try clear ho1)) | ((with_reducible refine gate_dst (N := 10) rfl ?_); refine box_event ?hg (N := 10) ?hd (cs := #[.int .i64 0, .slice none 0 0]) (t := 31) ?hr ?_; (case hd => rfl); (case hg => rfl); (case hr => first | (go_simp; done) | (go_simp; rfl)); intro gb298 hg w32 hbox hb; have n0_ := Aside0.mk (Kd.R_below (by (with_reducible repeat (first | apply Kd.R_alloc | apply Kd.R_drewN | apply Kd.R_drew)); exact HO275.out) hb); have n1_ := Aside0.mk (Kd.R_below (by (with_reducible repeat (first | apply Kd.R_alloc | apply Kd.R_drewN | apply Kd.R_drew)); exact HO279.out) hb); have n2_ := Aside0.mk (Kd.R_below (by (with_reducible repeat (first | apply Kd.R_alloc | apply Kd.R_drewN | apply Kd.R_drew)); exact HO282.out) hb); have n3_ := Aside0.mk (Kd.R_below (by (with_reducible repeat (first | apply Kd.R_alloc | apply Kd.R_drewN | apply Kd.R_drew)); exact HO288.out) hb); have n4_ := Aside0.mk (Kd.R_below (by (with_reducible repeat (first | apply Kd.R_alloc | apply Kd.R_drewN | apply Kd.R_drew)); exact HO293.out) hb); have n5_ := Aside0.mk (Kd.R_below (by (with_reducible repeat (first | apply Kd.R_alloc | apply Kd.R_drewN | apply Kd.R_drew)); exact HO296.out) hb); have n6_ := Aside0.mk (blk_below (g := gb270) (o := .cells #[.int .i64 a0_0, .slice A0_1 l0_1.length c0_1] 27 (0, 0)) bkw hb); have n7_ := Aside0.mk (blk_below (g := gb284) (o := .cells #[.int .i64 t276, .slice Ao23 t277.length co23] 31 (0, 0)) bkw hb); have n8_ := Aside0.mk (blk_below (g := gb289) (o := .cells #[.int .i64 t285, .slice Ao30 t286.length co30] 31 (0, 0)) bkw hb); have n9_ := Aside0.mk (below_step blw hb); have n10_ := Aside0.mk (hbox); have n11_ := Aside0.mk ((by rw [hg]; exact (below_size blw) : w.heap.size ≤ gb298)); have n12_ := Aside0.mk ((by rw [hg]; exact (below_size blw) : w.heap.size ≤ gb298)); have n13_ := Aside0.mk ((by rw [hg]; exact Nat.ne_of_lt (blk_lt (g := gb270) (o := .cells #[.int .i64 a0_0, .slice A0_1 l0_1.length c0_1] 27 (0, 0)) bkw) : gb270 ≠ gb298)); have n14_ := Aside0.mk ((by rw [hg]; exact Nat.ne_of_gt (blk_lt (g := gb270) (o := .cells #[.int .i64 a0_0, .slice A0_1 l0_1.length c0_1] 27 (0, 0)) bkw) : gb298 ≠ gb270)); have n15_ := Aside0.mk ((by rw [hg]; exact Nat.ne_of_lt (blk_lt (g := gb284) (o := .cells #[.int .i64 t276, .slice Ao23 t277.length co23] 31 (0, 0)) bkw) : gb284 ≠ gb298)); have n16_ := Aside0.mk ((by rw [hg]; exact Nat.ne_of_gt (blk_lt (g := gb284) (o := .cells #[.int .i64 t276, .slice Ao23 t277.length co23] 31 (0, 0)) bkw) : gb298 ≠ gb284)); have n17_ := Aside0.mk ((by rw [hg]; exact Nat.ne_of_lt (blk_lt (g := gb289) (o := .cells #[.int .i64 t285, .slice Ao30 t286.length co30] 31 (0, 0)) bkw) : gb289 ≠ gb298)); have n18_ := Aside0.mk ((by rw [hg]; exact Nat.ne_of_gt (blk_lt (g := gb289) (o := .cells #[.int .i64 t285, .slice Ao30 t286.length co30] 31 (0, 0)) bkw) : gb298 ≠ gb289)); clear HO275; clear HO279; clear HO282; clear HO288; clear HO293; clear HO296; clear BK270; clear BK284; clear BK289; clear HB; have HO275 := n0_; have HO279 := n1_; have HO282 := n2_; have HO288 := n3_; have HO293 := n4_; have HO296 := n5_; have BK270 := n6_; have BK284 := n7_; have BK289 := n8_; have HB := n9_; have BK298 := n10_; have GW298 := n11_; have GE298 := n12_; have NB270_298 := n13_; have NB298_270 := n14_; have NB284_298 := n15_; have NB298_284 := n16_; have NB289_298 := n17_; have NB298_289 := n18_; clear n0_ n1_ n2_ n3_ n4_ n5_ n6_ n7_ n8_ n9_ n10_ n11_ n12_ n13_ n14_ n15_ n16_ n17_ n18_; clear hb hbox hg; have hnb33 := NB298_270.out; have hnc33 := NB270_298.out; have hnb34 := NB298_284.out; have hnc34 := NB284_298.out; have hnb35 := NB298_289.out; have hnc35 := NB289_298.out; have hcz36_0 : w32.cell? ⟨gb298, 0, none⟩ = some (.int .i64 0) := (blk_cell BK298.out 0).trans rfl; have hcz36_1 : w32.cell? ⟨gb298, 1, none⟩ = some (.slice none 0 0) := (blk_cell BK298.out 1).trans rfl; have hfz36_0 := blk_frozen BK298.out 0; have hfz36_1 := blk_frozen BK298.out 1; obtain ⟨Ao37, co37, eo37⟩ := Kd.R_slice HO293.out; subst eo37))
  (try simp only [Act.put, List.setIfInBounds_toArray, List.set_cons_zero, List.set_cons_succ])
  go_cut [55] (fun v55 wc => ∃ (kq : Nat) (x55_11 : Bool), v55 = .bool x55_11 ∧ Aside0 (laws_FnExactRunClock.j0 kq a1 t280 t283 t294 t297 x55_11 a0_0 l0_1 t276 t277 t285 t286 t290 t291 = some r) ∧ Aside0 (kq ≤ k) ∧ Aside0 (Kd.R k56 56 wc w.heap.size (fun k_ => some k_ ≠ (v295 : Value).ownBlock) v281 t280) ∧ Aside0 (Kd.R k56 56 wc w.heap.size (fun k_ => some k_ ≠ (v281 : Value).ownBlock) v295 t294) ∧ Aside0 (Kd.R k54 54 wc w.heap.size (fun k_ => some k_ ≠ ((.slice Ao30 t286.length co30) : Value).ownBlock ∧ some k_ ≠ ((.slice Ao37 t291.length co37) : Value).ownBlock) (.slice Ao23 t277.length co23) t277) ∧ Aside0 (Kd.R k54 54 wc w.heap.size (fun k_ => some k_ ≠ ((.slice Ao23 t277.length co23) : Value).ownBlock ∧ some k_ ≠ ((.slice Ao37 t291.length co37) : Value).ownBlock) (.slice Ao30 t286.length co30) t286) ∧ Aside0 (Kd.R k54 54 wc w.heap.size (fun k_ => some k_ ≠ ((.slice Ao23 t277.length co23) : Value).ownBlock ∧ some k_ ≠ ((.slice Ao30 t286.length co30) : Value).ownBlock) (.slice Ao37 t291.length co37) t291) ∧ Aside0 (wc.heap[gb270]? = some (.cells #[.int .i64 a0_0, (.slice A0_1 l0_1.length c0_1)] 27 (0, 0))) ∧ Aside0 (wc.heap[gb284]? = some (.cells #[.int .i64 t276, (.slice Ao23 t277.length co23)] 31 (0, 0))) ∧ Aside0 (wc.heap[gb289]? = some (.cells #[.int .i64 t285, (.slice Ao30 t286.length co30)] 31 (0, 0))) ∧ Aside0 (wc.heap[gb298]? = some (.cells #[.int .i64 t290, (.slice Ao37 t291.length co37)] 31 (0, 0))) ∧ Aside0 (Below w.heap.size w wc))
  case first =>
   have H := HC12.out
   clear HC12
   replace H := Option.bind_eq_some_iff.mp H
   obtain ⟨t299, A380, H⟩ := H
   replace H : (if t299 = true then ((laws_eqFiredS.f k t294 t280).bind fun t300 => (if t300 = true then (laws_FnExactRunClock.j0 k a1 t280 t283 t294 t297 (t297 != t283) a0_0 l0_1 t276 t277 t285 t286 t290 t291) else (laws_FnExactRunClock.j0 k a1 t280 t283 t294 t297 true a0_0 l0_1 t276 t277 t285 t286 t290 t291))) else (laws_FnExactRunClock.j0 k a1 t280 t283 t294 t297 true a0_0 l0_1 t276 t277 t285 t286 t290 t291)) = some r := H
   have A38 := Aside0.mk A380
   clear A380
   by_cases c39 : t299 = true
   ·subst c39
    have H1 : ((laws_eqFiredS.f k t294 t280).bind fun t300 => (if t300 = true then (laws_FnExactRunClock.j0 k a1 t280 t283 t294 t297 (t297 != t283) a0_0 l0_1 t276 t277 t285 t286 t290 t291) else (laws_FnExactRunClock.j0 k a1 t280 t283 t294 t297 true a0_0 l0_1 t276 t277 t285 t286 t290 t291))) = some r := by rw [if_pos rfl] at H; exact H
    clear H
    have H := H1
    clear H1
    replace H := Option.bind_eq_some_iff.mp H
    obtain ⟨t300, A400, H⟩ := H
    replace H : (if t300 = true then (laws_FnExactRunClock.j0 k a1 t280 t283 t294 t297 (t297 != t283) a0_0 l0_1 t276 t277 t285 t286 t290 t291) else (laws_FnExactRunClock.j0 k a1 t280 t283 t294 t297 true a0_0 l0_1 t276 t277 t285 t286 t290 t291)) = some r := H
    have A40 := Aside0.mk A400
    clear A400
    by_cases c41 : t300 = true
    ·subst c41
     have H1 : (laws_FnExactRunClock.j0 k a1 t280 t283 t294 t297 (t297 != t283) a0_0 l0_1 t276 t277 t285 t286 t290 t291) = some r := by rw [if_pos rfl] at H; exact H
     clear H
     have H := H1
     clear H1
     have H' := Aside0.mk H
     clear H
     have hnb42 := NB298_270.out
     have hnc42 := NB270_298.out
     have hnb43 := NB298_284.out
     have hnc43 := NB284_298.out
     have hnb44 := NB298_289.out
     have hnc44 := NB289_298.out
     have hcz45_0 : w32.cell? ⟨gb298, 0, none⟩ = some (.int .i64 0) := (blk_cell BK298.out 0).trans rfl
     have hcz45_1 : w32.cell? ⟨gb298, 1, none⟩ = some (.slice none 0 0) := (blk_cell BK298.out 1).trans rfl
     have hfz45_0 := blk_frozen BK298.out 0
     have hfz45_1 := blk_frozen BK298.out 1
     have hnb46 := NB284_270.out
     have hnc46 := NB270_284.out
     have hnb47 := NB284_289.out
     have hnc47 := NB289_284.out
     have hcz48_0 : w32.cell? ⟨gb284, 0, none⟩ = some (.int .i64 t276) := (blk_cell BK284.out 0).trans rfl
     have hcz48_1 : w32.cell? ⟨gb284, 1, none⟩ = some (.slice Ao23 t277.length co23) := (blk_cell BK284.out 1).trans rfl
     have hfz48_0 := blk_frozen BK284.out 0
     have hfz48_1 := blk_frozen BK284.out 1
     go_wp2_with (first | ((with_reducible refine gate_callee (f := 11) rfl ?_); refine goesL_ (some 43) rfl rfl Try.func11 (by kernel_rfl) rfl #[.agg #[.int .i64 t290, .slice Ao37 t291.length co37], .agg #[.int .i64 t276, .slice Ao23 t277.length co23]] rfl (by (try simp only [List.map_toArray, List.map_cons, List.map_nil]); first | done | rfl | (simp only [List.length_drop, List.length_take]; rfl)) ?_; (with_reducible refine (laws_eqClock.calls k t290 _ _ t291 t276 _ _ t277 true _ ?side1 ?side2 ?side3 ?side4 A38.out).mono ?_); (case side1 => refine (Kd.R_reads' (e := 54) (base := w.heap.size) (ok := fun k_ => (((True ∧ some k_ ≠ (.slice Ao18 t273.length co18 : Value).ownBlock) ∧ some k_ ≠ (.slice Ao23 t277.length co23 : Value).ownBlock) ∧ some k_ ≠ (.slice Ao30 t286.length co30 : Value).ownBlock)) (n := t291.length) (c := co37) ?_).2.2; exact (by (with_reducible repeat (first | apply Kd.R_alloc | apply Kd.R_drewN | apply Kd.R_drew)); exact (Kd.R_mono (Kd.R_far (p := ⟨gb298, 1, none⟩) (Kd.R_far (p := ⟨gb298, 0, none⟩) (Kd.R_types HO293.out BK298.out (by decide)) (fun _ hk => hk.2) (.int .i64 t290)) (fun _ hk => hk.2) (.slice Ao37 t291.length co37)) (fun _ h_ => h_.1)))); (case side2 => exact (Kd.R_reads' HO293.out).2.1); (case side3 => refine (Kd.R_reads' (e := 54) (base := w.heap.size) (ok := fun k_ => (((True ∧ some k_ ≠ (.slice Ao18 t273.length co18 : Value).ownBlock) ∧ some k_ ≠ (.slice Ao30 t286.length co30 : Value).ownBlock) ∧ some k_ ≠ (.slice Ao37 t291.length co37 : Value).ownBlock)) (n := t277.length) (c := co23) ?_).2.2; exact (by (with_reducible repeat (first | apply Kd.R_alloc | apply Kd.R_drewN | apply Kd.R_drew)); exact (Kd.R_mono (Kd.R_far (p := ⟨gb298, 1, none⟩) (Kd.R_far (p := ⟨gb298, 0, none⟩) (Kd.R_types HO279.out BK298.out (by decide)) (fun _ hk => hk.2) (.int .i64 t290)) (fun _ hk => hk.2) (.slice Ao37 t291.length co37)) (fun _ h_ => h_.1)))); (case side4 => exact (Kd.R_reads' HO279.out).2.1); rintro e w49 ⟨rfl, hb⟩; refine ⟨_, rfl, ?_⟩; have n0_ := Aside0.mk (Kd.R_below (by (with_reducible repeat (first | apply Kd.R_alloc | apply Kd.R_drewN | apply Kd.R_drew)); exact (Kd.R_mono (Kd.R_far (p := ⟨gb298, 1, none⟩) (Kd.R_far (p := ⟨gb298, 0, none⟩) (Kd.R_types HO275.out BK298.out (by decide)) (fun _ hk => hk.2) (.int .i64 t290)) (fun _ hk => hk.2) (.slice Ao37 t291.length co37)) (fun _ h_ => h_.1))) hb); have n1_ := Aside0.mk (Kd.R_below (by (with_reducible repeat (first | apply Kd.R_alloc | apply Kd.R_drewN | apply Kd.R_drew)); exact (Kd.R_mono (Kd.R_far (p := ⟨gb298, 1, none⟩) (Kd.R_far (p := ⟨gb298, 0, none⟩) (Kd.R_types HO279.out BK298.out (by decide)) (fun _ hk => hk.2) (.int .i64 t290)) (fun _ hk => hk.2) (.slice Ao37 t291.length co37)) (fun _ h_ => h_.1))) hb); have n2_ := Aside0.mk (Kd.R_below (by (with_reducible repeat (first | apply Kd.R_alloc | apply Kd.R_drewN | apply Kd.R_drew)); exact (Kd.R_mono (Kd.R_far (p := ⟨gb298, 1, none⟩) (Kd.R_far (p := ⟨gb298, 0, none⟩) (Kd.R_types HO282.out BK298.out (by decide)) (fun _ hk => hk.2) (.int .i64 t290)) (fun _ hk => hk.2) (.slice Ao37 t291.length co37)) (fun _ h_ => h_.1))) hb); have n3_ := Aside0.mk (Kd.R_below (by (with_reducible repeat (first | apply Kd.R_alloc | apply Kd.R_drewN | apply Kd.R_drew)); exact (Kd.R_mono (Kd.R_far (p := ⟨gb298, 1, none⟩) (Kd.R_far (p := ⟨gb298, 0, none⟩) (Kd.R_types HO288.out BK298.out (by decide)) (fun _ hk => hk.2) (.int .i64 t290)) (fun _ hk => hk.2) (.slice Ao37 t291.length co37)) (fun _ h_ => h_.1))) hb); have n4_ := Aside0.mk (Kd.R_below (by (with_reducible repeat (first | apply Kd.R_alloc | apply Kd.R_drewN | apply Kd.R_drew)); exact (Kd.R_mono (Kd.R_far (p := ⟨gb298, 1, none⟩) (Kd.R_far (p := ⟨gb298, 0, none⟩) (Kd.R_types HO293.out BK298.out (by decide)) (fun _ hk => hk.2) (.int .i64 t290)) (fun _ hk => hk.2) (.slice Ao37 t291.length co37)) (fun _ h_ => h_.1))) hb); have n5_ := Aside0.mk (Kd.R_below (by (with_reducible repeat (first | apply Kd.R_alloc | apply Kd.R_drewN | apply Kd.R_drew)); exact (Kd.R_mono (Kd.R_far (p := ⟨gb298, 1, none⟩) (Kd.R_far (p := ⟨gb298, 0, none⟩) (Kd.R_types HO296.out BK298.out (by decide)) (fun _ hk => hk.2) (.int .i64 t290)) (fun _ hk => hk.2) (.slice Ao37 t291.length co37)) (fun _ h_ => h_.1))) hb); have n6_ := Aside0.mk (blk_below (g := gb270) (o := .cells #[.int .i64 a0_0, .slice A0_1 l0_1.length c0_1] 27 (0, 0)) (by (with_reducible repeat (first | refine blk_drewN ?_ _ | refine blk_drew ?_ | refine blk_alloc ?_ _)); refine blk_far ?_ NB270_298.out _; (with_reducible repeat (first | refine blk_drewN ?_ _ | refine blk_drew ?_ | refine blk_alloc ?_ _)); refine blk_far ?_ NB270_298.out _; (with_reducible repeat (first | refine blk_drewN ?_ _ | refine blk_drew ?_ | refine blk_alloc ?_ _)); exact BK270.out) hb); have n7_ := Aside0.mk (blk_below (g := gb284) (o := .cells #[.int .i64 t276, .slice Ao23 t277.length co23] 31 (0, 0)) (by (with_reducible repeat (first | refine blk_drewN ?_ _ | refine blk_drew ?_ | refine blk_alloc ?_ _)); refine blk_far ?_ NB284_298.out _; (with_reducible repeat (first | refine blk_drewN ?_ _ | refine blk_drew ?_ | refine blk_alloc ?_ _)); refine blk_far ?_ NB284_298.out _; (with_reducible repeat (first | refine blk_drewN ?_ _ | refine blk_drew ?_ | refine blk_alloc ?_ _)); exact BK284.out) hb); have n8_ := Aside0.mk (blk_below (g := gb289) (o := .cells #[.int .i64 t285, .slice Ao30 t286.length co30] 31 (0, 0)) (by (with_reducible repeat (first | refine blk_drewN ?_ _ | refine blk_drew ?_ | refine blk_alloc ?_ _)); refine blk_far ?_ NB289_298.out _; (with_reducible repeat (first | refine blk_drewN ?_ _ | refine blk_drew ?_ | refine blk_alloc ?_ _)); refine blk_far ?_ NB289_298.out _; (with_reducible repeat (first | refine blk_drewN ?_ _ | refine blk_drew ?_ | refine blk_alloc ?_ _)); exact BK289.out) hb); have n9_ := Aside0.mk (blk_below (g := gb298) (o := .cells #[.int .i64 t290, .slice Ao37 t291.length co37] 31 (0, 0)) (by (with_reducible repeat (first | refine blk_drewN ?_ _ | refine blk_drew ?_ | refine blk_alloc ?_ _)); refine blk_put (cs := #[.int .i64 t290, .slice none 0 0]) ?_ 1 _ rfl; (with_reducible repeat (first | refine blk_drewN ?_ _ | refine blk_drew ?_ | refine blk_alloc ?_ _)); refine blk_put (cs := #[.int .i64 0, .slice none 0 0]) ?_ 0 _ rfl; (with_reducible repeat (first | refine blk_drewN ?_ _ | refine blk_drew ?_ | refine blk_alloc ?_ _)); exact BK298.out) hb); have n10_ := Aside0.mk (below_step blw hb); clear HO275; clear HO279; clear HO282; clear HO288; clear HO293; clear HO296; clear BK270; clear BK284; clear BK289; clear BK298; clear HB; have HO275 := n0_; have HO279 := n1_; have HO282 := n2_; have HO288 := n3_; have HO293 := n4_; have HO296 := n5_; have BK270 := n6_; have BK284 := n7_; have BK289 := n8_; have BK298 := n9_; have HB := n10_; clear n0_ n1_ n2_ n3_ n4_ n5_ n6_ n7_ n8_ n9_ n10_; (try clear hb); (try clear hb2); (try clear hk); (try clear hi); obtain ⟨Ao50, co50, eo50⟩ := Kd.R_slice HO296.out; subst eo50; obtain ⟨Ao51, co51, eo51⟩ := Kd.R_slice HO282.out; subst eo51) | (go_at_call 12; (with_reducible refine (laws_eqFiredS.calls k _ _ t294 _ _ t280 true _ ?side1 ?side2 ?side3 ?side4 A40.out).mono ?_); (case side1 => repeat (first | exact (Kd.R_reads' HO296.out).2.2 | (with_reducible refine Kd.C_alloc ?_ _) | (with_reducible refine Kd.C_drewN ?_ _) | (with_reducible refine Kd.C_drew ?_))); (case side2 => exact (Kd.R_reads' HO296.out).2.1); (case side3 => repeat (first | exact (Kd.R_reads' HO282.out).2.2 | (with_reducible refine Kd.C_alloc ?_ _) | (with_reducible refine Kd.C_drewN ?_ _) | (with_reducible refine Kd.C_drew ?_))); (case side4 => exact (Kd.R_reads' HO282.out).2.1); rintro e w52 ⟨rfl, hb⟩; have n0_ := Aside0.mk (Kd.R_below (by (with_reducible repeat (first | apply Kd.R_alloc | apply Kd.R_drewN | apply Kd.R_drew)); exact HO275.out) hb); have n1_ := Aside0.mk (Kd.R_below (by (with_reducible repeat (first | apply Kd.R_alloc | apply Kd.R_drewN | apply Kd.R_drew)); exact HO279.out) hb); have n2_ := Aside0.mk (Kd.R_below (by (with_reducible repeat (first | apply Kd.R_alloc | apply Kd.R_drewN | apply Kd.R_drew)); exact HO282.out) hb); have n3_ := Aside0.mk (Kd.R_below (by (with_reducible repeat (first | apply Kd.R_alloc | apply Kd.R_drewN | apply Kd.R_drew)); exact HO288.out) hb); have n4_ := Aside0.mk (Kd.R_below (by (with_reducible repeat (first | apply Kd.R_alloc | apply Kd.R_drewN | apply Kd.R_drew)); exact HO293.out) hb); have n5_ := Aside0.mk (Kd.R_below (by (with_reducible repeat (first | apply Kd.R_alloc | apply Kd.R_drewN | apply Kd.R_drew)); exact HO296.out) hb); have n6_ := Aside0.mk (blk_below (g := gb270) (o := .cells #[.int .i64 a0_0, .slice A0_1 l0_1.length c0_1] 27 (0, 0)) bkw hb); have n7_ := Aside0.mk (blk_below (g := gb284) (o := .cells #[.int .i64 t276, .slice Ao23 t277.length co23] 31 (0, 0)) bkw hb); have n8_ := Aside0.mk (blk_below (g := gb289) (o := .cells #[.int .i64 t285, .slice Ao30 t286.length co30] 31 (0, 0)) bkw hb); have n9_ := Aside0.mk (blk_below (g := gb298) (o := .cells #[.int .i64 t290, .slice Ao37 t291.length co37] 31 (0, 0)) bkw hb); have n10_ := Aside0.mk (below_step blw hb); clear HO275; clear HO279; clear HO282; clear HO288; clear HO293; clear HO296; clear BK270; clear BK284; clear BK289; clear BK298; clear HB; have HO275 := n0_; have HO279 := n1_; have HO282 := n2_; have HO288 := n3_; have HO293 := n4_; have HO296 := n5_; have BK270 := n6_; have BK284 := n7_; have BK289 := n8_; have BK298 := n9_; have HB := n10_; clear n0_ n1_ n2_ n3_ n4_ n5_ n6_ n7_ n8_ n9_ n10_; (try clear hb); (try clear hb2); (try clear hk); (try clear hi)))
     go_meet
     case rel => exact ⟨_, ((t297 != t283)), (by first | rfl | (simp; done) | (simp [*]; done)), H', ⟨by first | omega | exact Nat.le_refl _⟩, ⟨by (with_reducible repeat (first | apply Kd.R_alloc | apply Kd.R_drewN | apply Kd.R_drew)); exact Kd.R_mono HO282.out (fun _ hk => hk.2)⟩, ⟨by (with_reducible repeat (first | apply Kd.R_alloc | apply Kd.R_drewN | apply Kd.R_drew)); exact Kd.R_mono HO296.out (fun _ hk => hk.2)⟩, ⟨by (with_reducible repeat (first | apply Kd.R_alloc | apply Kd.R_drewN | apply Kd.R_drew)); exact Kd.R_mono HO279.out (fun _ hk => ⟨hk.1.2, hk.2⟩)⟩, ⟨by (with_reducible repeat (first | apply Kd.R_alloc | apply Kd.R_drewN | apply Kd.R_drew)); exact Kd.R_mono HO288.out (fun _ hk => ⟨hk.1.2, hk.2⟩)⟩, ⟨by (with_reducible repeat (first | apply Kd.R_alloc | apply Kd.R_drewN | apply Kd.R_drew)); exact Kd.R_mono HO293.out (fun _ hk => ⟨hk.1.2, hk.2⟩)⟩, ⟨by (with_reducible repeat (first | refine blk_drewN ?_ _ | refine blk_drew ?_ | refine blk_alloc ?_ _)); exact BK270.out⟩, ⟨by (with_reducible repeat (first | refine blk_drewN ?_ _ | refine blk_drew ?_ | refine blk_alloc ?_ _)); exact BK284.out⟩, ⟨by (with_reducible repeat (first | refine blk_drewN ?_ _ | refine blk_drew ?_ | refine blk_alloc ?_ _)); exact BK289.out⟩, ⟨by (with_reducible repeat (first | refine blk_drewN ?_ _ | refine blk_drew ?_ | refine blk_alloc ?_ _)); exact BK298.out⟩, ⟨blw⟩⟩
    ·replace c41 := Bool.eq_false_iff.mpr c41
     subst c41
     have H1 : (laws_FnExactRunClock.j0 k a1 t280 t283 t294 t297 true a0_0 l0_1 t276 t277 t285 t286 t290 t291) = some r := by rw [if_neg (show ¬ (false = true) by decide)] at H; exact H
     clear H
     have H := H1
     clear H1
     have H' := Aside0.mk H
     clear H
     have hnb53 := NB298_270.out
     have hnc53 := NB270_298.out
     have hnb54 := NB298_284.out
     have hnc54 := NB284_298.out
     have hnb55 := NB298_289.out
     have hnc55 := NB289_298.out
     have hcz56_0 : w32.cell? ⟨gb298, 0, none⟩ = some (.int .i64 0) := (blk_cell BK298.out 0).trans rfl
     have hcz56_1 : w32.cell? ⟨gb298, 1, none⟩ = some (.slice none 0 0) := (blk_cell BK298.out 1).trans rfl
     have hfz56_0 := blk_frozen BK298.out 0
     have hfz56_1 := blk_frozen BK298.out 1
     have hnb57 := NB284_270.out
     have hnc57 := NB270_284.out
     have hnb58 := NB284_289.out
     have hnc58 := NB289_284.out
     have hcz59_0 : w32.cell? ⟨gb284, 0, none⟩ = some (.int .i64 t276) := (blk_cell BK284.out 0).trans rfl
     have hcz59_1 : w32.cell? ⟨gb284, 1, none⟩ = some (.slice Ao23 t277.length co23) := (blk_cell BK284.out 1).trans rfl
     have hfz59_0 := blk_frozen BK284.out 0
     have hfz59_1 := blk_frozen BK284.out 1
     go_wp2_with (first | ((with_reducible refine gate_callee (f := 11) rfl ?_); refine goesL_ (some 43) rfl rfl Try.func11 (by kernel_rfl) rfl #[.agg #[.int .i64 t290, .slice Ao37 t291.length co37], .agg #[.int .i64 t276, .slice Ao23 t277.length co23]] rfl (by (try simp only [List.map_toArray, List.map_cons, List.map_nil]); first | done | rfl | (simp only [List.length_drop, List.length_take]; rfl)) ?_; (with_reducible refine (laws_eqClock.calls k t290 _ _ t291 t276 _ _ t277 true _ ?side1 ?side2 ?side3 ?side4 A38.out).mono ?_); (case side1 => refine (Kd.R_reads' (e := 54) (base := w.heap.size) (ok := fun k_ => (((True ∧ some k_ ≠ (.slice Ao18 t273.length co18 : Value).ownBlock) ∧ some k_ ≠ (.slice Ao23 t277.length co23 : Value).ownBlock) ∧ some k_ ≠ (.slice Ao30 t286.length co30 : Value).ownBlock)) (n := t291.length) (c := co37) ?_).2.2; exact (by (with_reducible repeat (first | apply Kd.R_alloc | apply Kd.R_drewN | apply Kd.R_drew)); exact (Kd.R_mono (Kd.R_far (p := ⟨gb298, 1, none⟩) (Kd.R_far (p := ⟨gb298, 0, none⟩) (Kd.R_types HO293.out BK298.out (by decide)) (fun _ hk => hk.2) (.int .i64 t290)) (fun _ hk => hk.2) (.slice Ao37 t291.length co37)) (fun _ h_ => h_.1)))); (case side2 => exact (Kd.R_reads' HO293.out).2.1); (case side3 => refine (Kd.R_reads' (e := 54) (base := w.heap.size) (ok := fun k_ => (((True ∧ some k_ ≠ (.slice Ao18 t273.length co18 : Value).ownBlock) ∧ some k_ ≠ (.slice Ao30 t286.length co30 : Value).ownBlock) ∧ some k_ ≠ (.slice Ao37 t291.length co37 : Value).ownBlock)) (n := t277.length) (c := co23) ?_).2.2; exact (by (with_reducible repeat (first | apply Kd.R_alloc | apply Kd.R_drewN | apply Kd.R_drew)); exact (Kd.R_mono (Kd.R_far (p := ⟨gb298, 1, none⟩) (Kd.R_far (p := ⟨gb298, 0, none⟩) (Kd.R_types HO279.out BK298.out (by decide)) (fun _ hk => hk.2) (.int .i64 t290)) (fun _ hk => hk.2) (.slice Ao37 t291.length co37)) (fun _ h_ => h_.1)))); (case side4 => exact (Kd.R_reads' HO279.out).2.1); rintro e w60 ⟨rfl, hb⟩; refine ⟨_, rfl, ?_⟩; have n0_ := Aside0.mk (Kd.R_below (by (with_reducible repeat (first | apply Kd.R_alloc | apply Kd.R_drewN | apply Kd.R_drew)); exact (Kd.R_mono (Kd.R_far (p := ⟨gb298, 1, none⟩) (Kd.R_far (p := ⟨gb298, 0, none⟩) (Kd.R_types HO275.out BK298.out (by decide)) (fun _ hk => hk.2) (.int .i64 t290)) (fun _ hk => hk.2) (.slice Ao37 t291.length co37)) (fun _ h_ => h_.1))) hb); have n1_ := Aside0.mk (Kd.R_below (by (with_reducible repeat (first | apply Kd.R_alloc | apply Kd.R_drewN | apply Kd.R_drew)); exact (Kd.R_mono (Kd.R_far (p := ⟨gb298, 1, none⟩) (Kd.R_far (p := ⟨gb298, 0, none⟩) (Kd.R_types HO279.out BK298.out (by decide)) (fun _ hk => hk.2) (.int .i64 t290)) (fun _ hk => hk.2) (.slice Ao37 t291.length co37)) (fun _ h_ => h_.1))) hb); have n2_ := Aside0.mk (Kd.R_below (by (with_reducible repeat (first | apply Kd.R_alloc | apply Kd.R_drewN | apply Kd.R_drew)); exact (Kd.R_mono (Kd.R_far (p := ⟨gb298, 1, none⟩) (Kd.R_far (p := ⟨gb298, 0, none⟩) (Kd.R_types HO282.out BK298.out (by decide)) (fun _ hk => hk.2) (.int .i64 t290)) (fun _ hk => hk.2) (.slice Ao37 t291.length co37)) (fun _ h_ => h_.1))) hb); have n3_ := Aside0.mk (Kd.R_below (by (with_reducible repeat (first | apply Kd.R_alloc | apply Kd.R_drewN | apply Kd.R_drew)); exact (Kd.R_mono (Kd.R_far (p := ⟨gb298, 1, none⟩) (Kd.R_far (p := ⟨gb298, 0, none⟩) (Kd.R_types HO288.out BK298.out (by decide)) (fun _ hk => hk.2) (.int .i64 t290)) (fun _ hk => hk.2) (.slice Ao37 t291.length co37)) (fun _ h_ => h_.1))) hb); have n4_ := Aside0.mk (Kd.R_below (by (with_reducible repeat (first | apply Kd.R_alloc | apply Kd.R_drewN | apply Kd.R_drew)); exact (Kd.R_mono (Kd.R_far (p := ⟨gb298, 1, none⟩) (Kd.R_far (p := ⟨gb298, 0, none⟩) (Kd.R_types HO293.out BK298.out (by decide)) (fun _ hk => hk.2) (.int .i64 t290)) (fun _ hk => hk.2) (.slice Ao37 t291.length co37)) (fun _ h_ => h_.1))) hb); have n5_ := Aside0.mk (Kd.R_below (by (with_reducible repeat (first | apply Kd.R_alloc | apply Kd.R_drewN | apply Kd.R_drew)); exact (Kd.R_mono (Kd.R_far (p := ⟨gb298, 1, none⟩) (Kd.R_far (p := ⟨gb298, 0, none⟩) (Kd.R_types HO296.out BK298.out (by decide)) (fun _ hk => hk.2) (.int .i64 t290)) (fun _ hk => hk.2) (.slice Ao37 t291.length co37)) (fun _ h_ => h_.1))) hb); have n6_ := Aside0.mk (blk_below (g := gb270) (o := .cells #[.int .i64 a0_0, .slice A0_1 l0_1.length c0_1] 27 (0, 0)) (by (with_reducible repeat (first | refine blk_drewN ?_ _ | refine blk_drew ?_ | refine blk_alloc ?_ _)); refine blk_far ?_ NB270_298.out _; (with_reducible repeat (first | refine blk_drewN ?_ _ | refine blk_drew ?_ | refine blk_alloc ?_ _)); refine blk_far ?_ NB270_298.out _; (with_reducible repeat (first | refine blk_drewN ?_ _ | refine blk_drew ?_ | refine blk_alloc ?_ _)); exact BK270.out) hb); have n7_ := Aside0.mk (blk_below (g := gb284) (o := .cells #[.int .i64 t276, .slice Ao23 t277.length co23] 31 (0, 0)) (by (with_reducible repeat (first | refine blk_drewN ?_ _ | refine blk_drew ?_ | refine blk_alloc ?_ _)); refine blk_far ?_ NB284_298.out _; (with_reducible repeat (first | refine blk_drewN ?_ _ | refine blk_drew ?_ | refine blk_alloc ?_ _)); refine blk_far ?_ NB284_298.out _; (with_reducible repeat (first | refine blk_drewN ?_ _ | refine blk_drew ?_ | refine blk_alloc ?_ _)); exact BK284.out) hb); have n8_ := Aside0.mk (blk_below (g := gb289) (o := .cells #[.int .i64 t285, .slice Ao30 t286.length co30] 31 (0, 0)) (by (with_reducible repeat (first | refine blk_drewN ?_ _ | refine blk_drew ?_ | refine blk_alloc ?_ _)); refine blk_far ?_ NB289_298.out _; (with_reducible repeat (first | refine blk_drewN ?_ _ | refine blk_drew ?_ | refine blk_alloc ?_ _)); refine blk_far ?_ NB289_298.out _; (with_reducible repeat (first | refine blk_drewN ?_ _ | refine blk_drew ?_ | refine blk_alloc ?_ _)); exact BK289.out) hb); have n9_ := Aside0.mk (blk_below (g := gb298) (o := .cells #[.int .i64 t290, .slice Ao37 t291.length co37] 31 (0, 0)) (by (with_reducible repeat (first | refine blk_drewN ?_ _ | refine blk_drew ?_ | refine blk_alloc ?_ _)); refine blk_put (cs := #[.int .i64 t290, .slice none 0 0]) ?_ 1 _ rfl; (with_reducible repeat (first | refine blk_drewN ?_ _ | refine blk_drew ?_ | refine blk_alloc ?_ _)); refine blk_put (cs := #[.int .i64 0, .slice none 0 0]) ?_ 0 _ rfl; (with_reducible repeat (first | refine blk_drewN ?_ _ | refine blk_drew ?_ | refine blk_alloc ?_ _)); exact BK298.out) hb); have n10_ := Aside0.mk (below_step blw hb); clear HO275; clear HO279; clear HO282; clear HO288; clear HO293; clear HO296; clear BK270; clear BK284; clear BK289; clear BK298; clear HB; have HO275 := n0_; have HO279 := n1_; have HO282 := n2_; have HO288 := n3_; have HO293 := n4_; have HO296 := n5_; have BK270 := n6_; have BK284 := n7_; have BK289 := n8_; have BK298 := n9_; have HB := n10_; clear n0_ n1_ n2_ n3_ n4_ n5_ n6_ n7_ n8_ n9_ n10_; (try clear hb); (try clear hb2); (try clear hk); (try clear hi); obtain ⟨Ao61, co61, eo61⟩ := Kd.R_slice HO296.out; subst eo61; obtain ⟨Ao62, co62, eo62⟩ := Kd.R_slice HO282.out; subst eo62) | (go_at_call 12; (with_reducible refine (laws_eqFiredS.calls k _ _ t294 _ _ t280 false _ ?side1 ?side2 ?side3 ?side4 A40.out).mono ?_); (case side1 => repeat (first | exact (Kd.R_reads' HO296.out).2.2 | (with_reducible refine Kd.C_alloc ?_ _) | (with_reducible refine Kd.C_drewN ?_ _) | (with_reducible refine Kd.C_drew ?_))); (case side2 => exact (Kd.R_reads' HO296.out).2.1); (case side3 => repeat (first | exact (Kd.R_reads' HO282.out).2.2 | (with_reducible refine Kd.C_alloc ?_ _) | (with_reducible refine Kd.C_drewN ?_ _) | (with_reducible refine Kd.C_drew ?_))); (case side4 => exact (Kd.R_reads' HO282.out).2.1); rintro e w63 ⟨rfl, hb⟩; have n0_ := Aside0.mk (Kd.R_below (by (with_reducible repeat (first | apply Kd.R_alloc | apply Kd.R_drewN | apply Kd.R_drew)); exact HO275.out) hb); have n1_ := Aside0.mk (Kd.R_below (by (with_reducible repeat (first | apply Kd.R_alloc | apply Kd.R_drewN | apply Kd.R_drew)); exact HO279.out) hb); have n2_ := Aside0.mk (Kd.R_below (by (with_reducible repeat (first | apply Kd.R_alloc | apply Kd.R_drewN | apply Kd.R_drew)); exact HO282.out) hb); have n3_ := Aside0.mk (Kd.R_below (by (with_reducible repeat (first | apply Kd.R_alloc | apply Kd.R_drewN | apply Kd.R_drew)); exact HO288.out) hb); have n4_ := Aside0.mk (Kd.R_below (by (with_reducible repeat (first | apply Kd.R_alloc | apply Kd.R_drewN | apply Kd.R_drew)); exact HO293.out) hb); have n5_ := Aside0.mk (Kd.R_below (by (with_reducible repeat (first | apply Kd.R_alloc | apply Kd.R_drewN | apply Kd.R_drew)); exact HO296.out) hb); have n6_ := Aside0.mk (blk_below (g := gb270) (o := .cells #[.int .i64 a0_0, .slice A0_1 l0_1.length c0_1] 27 (0, 0)) bkw hb); have n7_ := Aside0.mk (blk_below (g := gb284) (o := .cells #[.int .i64 t276, .slice Ao23 t277.length co23] 31 (0, 0)) bkw hb); have n8_ := Aside0.mk (blk_below (g := gb289) (o := .cells #[.int .i64 t285, .slice Ao30 t286.length co30] 31 (0, 0)) bkw hb); have n9_ := Aside0.mk (blk_below (g := gb298) (o := .cells #[.int .i64 t290, .slice Ao37 t291.length co37] 31 (0, 0)) bkw hb); have n10_ := Aside0.mk (below_step blw hb); clear HO275; clear HO279; clear HO282; clear HO288; clear HO293; clear HO296; clear BK270; clear BK284; clear BK289; clear BK298; clear HB; have HO275 := n0_; have HO279 := n1_; have HO282 := n2_; have HO288 := n3_; have HO293 := n4_; have HO296 := n5_; have BK270 := n6_; have BK284 := n7_; have BK289 := n8_; have BK298 := n9_; have HB := n10_; clear n0_ n1_ n2_ n3_ n4_ n5_ n6_ n7_ n8_ n9_ n10_; (try clear hb); (try clear hb2); (try clear hk); (try clear hi)))
     go_meet
     case rel => exact ⟨_, (true), (by first | rfl | (simp; done) | (simp [*]; done)), H', ⟨by first | omega | exact Nat.le_refl _⟩, ⟨by (with_reducible repeat (first | apply Kd.R_alloc | apply Kd.R_drewN | apply Kd.R_drew)); exact Kd.R_mono HO282.out (fun _ hk => hk.2)⟩, ⟨by (with_reducible repeat (first | apply Kd.R_alloc | apply Kd.R_drewN | apply Kd.R_drew)); exact Kd.R_mono HO296.out (fun _ hk => hk.2)⟩, ⟨by (with_reducible repeat (first | apply Kd.R_alloc | apply Kd.R_drewN | apply Kd.R_drew)); exact Kd.R_mono HO279.out (fun _ hk => ⟨hk.1.2, hk.2⟩)⟩, ⟨by (with_reducible repeat (first | apply Kd.R_alloc | apply Kd.R_drewN | apply Kd.R_drew)); exact Kd.R_mono HO288.out (fun _ hk => ⟨hk.1.2, hk.2⟩)⟩, ⟨by (with_reducible repeat (first | apply Kd.R_alloc | apply Kd.R_drewN | apply Kd.R_drew)); exact Kd.R_mono HO293.out (fun _ hk => ⟨hk.1.2, hk.2⟩)⟩, ⟨by (with_reducible repeat (first | refine blk_drewN ?_ _ | refine blk_drew ?_ | refine blk_alloc ?_ _)); exact BK270.out⟩, ⟨by (with_reducible repeat (first | refine blk_drewN ?_ _ | refine blk_drew ?_ | refine blk_alloc ?_ _)); exact BK284.out⟩, ⟨by (with_reducible repeat (first | refine blk_drewN ?_ _ | refine blk_drew ?_ | refine blk_alloc ?_ _)); exact BK289.out⟩, ⟨by (with_reducible repeat (first | refine blk_drewN ?_ _ | refine blk_drew ?_ | refine blk_alloc ?_ _)); exact BK298.out⟩, ⟨blw⟩⟩
   ·replace c39 := Bool.eq_false_iff.mpr c39
    subst c39
    have H1 : (laws_FnExactRunClock.j0 k a1 t280 t283 t294 t297 true a0_0 l0_1 t276 t277 t285 t286 t290 t291) = some r := by rw [if_neg (show ¬ (false = true) by decide)] at H; exact H
    clear H
    have H := H1
    clear H1
    have H' := Aside0.mk H
    clear H
    have hnb64 := NB298_270.out
    have hnc64 := NB270_298.out
    have hnb65 := NB298_284.out
    have hnc65 := NB284_298.out
    have hnb66 := NB298_289.out
    have hnc66 := NB289_298.out
    have hcz67_0 : w32.cell? ⟨gb298, 0, none⟩ = some (.int .i64 0) := (blk_cell BK298.out 0).trans rfl
    have hcz67_1 : w32.cell? ⟨gb298, 1, none⟩ = some (.slice none 0 0) := (blk_cell BK298.out 1).trans rfl
    have hfz67_0 := blk_frozen BK298.out 0
    have hfz67_1 := blk_frozen BK298.out 1
    have hnb68 := NB284_270.out
    have hnc68 := NB270_284.out
    have hnb69 := NB284_289.out
    have hnc69 := NB289_284.out
    have hcz70_0 : w32.cell? ⟨gb284, 0, none⟩ = some (.int .i64 t276) := (blk_cell BK284.out 0).trans rfl
    have hcz70_1 : w32.cell? ⟨gb284, 1, none⟩ = some (.slice Ao23 t277.length co23) := (blk_cell BK284.out 1).trans rfl
    have hfz70_0 := blk_frozen BK284.out 0
    have hfz70_1 := blk_frozen BK284.out 1
    go_wp2_with (first | ((with_reducible refine gate_callee (f := 11) rfl ?_); refine goesL_ (some 43) rfl rfl Try.func11 (by kernel_rfl) rfl #[.agg #[.int .i64 t290, .slice Ao37 t291.length co37], .agg #[.int .i64 t276, .slice Ao23 t277.length co23]] rfl (by (try simp only [List.map_toArray, List.map_cons, List.map_nil]); first | done | rfl | (simp only [List.length_drop, List.length_take]; rfl)) ?_; (with_reducible refine (laws_eqClock.calls k t290 _ _ t291 t276 _ _ t277 false _ ?side1 ?side2 ?side3 ?side4 A38.out).mono ?_); (case side1 => refine (Kd.R_reads' (e := 54) (base := w.heap.size) (ok := fun k_ => (((True ∧ some k_ ≠ (.slice Ao18 t273.length co18 : Value).ownBlock) ∧ some k_ ≠ (.slice Ao23 t277.length co23 : Value).ownBlock) ∧ some k_ ≠ (.slice Ao30 t286.length co30 : Value).ownBlock)) (n := t291.length) (c := co37) ?_).2.2; exact (by (with_reducible repeat (first | apply Kd.R_alloc | apply Kd.R_drewN | apply Kd.R_drew)); exact (Kd.R_mono (Kd.R_far (p := ⟨gb298, 1, none⟩) (Kd.R_far (p := ⟨gb298, 0, none⟩) (Kd.R_types HO293.out BK298.out (by decide)) (fun _ hk => hk.2) (.int .i64 t290)) (fun _ hk => hk.2) (.slice Ao37 t291.length co37)) (fun _ h_ => h_.1)))); (case side2 => exact (Kd.R_reads' HO293.out).2.1); (case side3 => refine (Kd.R_reads' (e := 54) (base := w.heap.size) (ok := fun k_ => (((True ∧ some k_ ≠ (.slice Ao18 t273.length co18 : Value).ownBlock) ∧ some k_ ≠ (.slice Ao30 t286.length co30 : Value).ownBlock) ∧ some k_ ≠ (.slice Ao37 t291.length co37 : Value).ownBlock)) (n := t277.length) (c := co23) ?_).2.2; exact (by (with_reducible repeat (first | apply Kd.R_alloc | apply Kd.R_drewN | apply Kd.R_drew)); exact (Kd.R_mono (Kd.R_far (p := ⟨gb298, 1, none⟩) (Kd.R_far (p := ⟨gb298, 0, none⟩) (Kd.R_types HO279.out BK298.out (by decide)) (fun _ hk => hk.2) (.int .i64 t290)) (fun _ hk => hk.2) (.slice Ao37 t291.length co37)) (fun _ h_ => h_.1)))); (case side4 => exact (Kd.R_reads' HO279.out).2.1); rintro e w71 ⟨rfl, hb⟩; refine ⟨_, rfl, ?_⟩; have n0_ := Aside0.mk (Kd.R_below (by (with_reducible repeat (first | apply Kd.R_alloc | apply Kd.R_drewN | apply Kd.R_drew)); exact (Kd.R_mono (Kd.R_far (p := ⟨gb298, 1, none⟩) (Kd.R_far (p := ⟨gb298, 0, none⟩) (Kd.R_types HO275.out BK298.out (by decide)) (fun _ hk => hk.2) (.int .i64 t290)) (fun _ hk => hk.2) (.slice Ao37 t291.length co37)) (fun _ h_ => h_.1))) hb); have n1_ := Aside0.mk (Kd.R_below (by (with_reducible repeat (first | apply Kd.R_alloc | apply Kd.R_drewN | apply Kd.R_drew)); exact (Kd.R_mono (Kd.R_far (p := ⟨gb298, 1, none⟩) (Kd.R_far (p := ⟨gb298, 0, none⟩) (Kd.R_types HO279.out BK298.out (by decide)) (fun _ hk => hk.2) (.int .i64 t290)) (fun _ hk => hk.2) (.slice Ao37 t291.length co37)) (fun _ h_ => h_.1))) hb); have n2_ := Aside0.mk (Kd.R_below (by (with_reducible repeat (first | apply Kd.R_alloc | apply Kd.R_drewN | apply Kd.R_drew)); exact (Kd.R_mono (Kd.R_far (p := ⟨gb298, 1, none⟩) (Kd.R_far (p := ⟨gb298, 0, none⟩) (Kd.R_types HO282.out BK298.out (by decide)) (fun _ hk => hk.2) (.int .i64 t290)) (fun _ hk => hk.2) (.slice Ao37 t291.length co37)) (fun _ h_ => h_.1))) hb); have n3_ := Aside0.mk (Kd.R_below (by (with_reducible repeat (first | apply Kd.R_alloc | apply Kd.R_drewN | apply Kd.R_drew)); exact (Kd.R_mono (Kd.R_far (p := ⟨gb298, 1, none⟩) (Kd.R_far (p := ⟨gb298, 0, none⟩) (Kd.R_types HO288.out BK298.out (by decide)) (fun _ hk => hk.2) (.int .i64 t290)) (fun _ hk => hk.2) (.slice Ao37 t291.length co37)) (fun _ h_ => h_.1))) hb); have n4_ := Aside0.mk (Kd.R_below (by (with_reducible repeat (first | apply Kd.R_alloc | apply Kd.R_drewN | apply Kd.R_drew)); exact (Kd.R_mono (Kd.R_far (p := ⟨gb298, 1, none⟩) (Kd.R_far (p := ⟨gb298, 0, none⟩) (Kd.R_types HO293.out BK298.out (by decide)) (fun _ hk => hk.2) (.int .i64 t290)) (fun _ hk => hk.2) (.slice Ao37 t291.length co37)) (fun _ h_ => h_.1))) hb); have n5_ := Aside0.mk (Kd.R_below (by (with_reducible repeat (first | apply Kd.R_alloc | apply Kd.R_drewN | apply Kd.R_drew)); exact (Kd.R_mono (Kd.R_far (p := ⟨gb298, 1, none⟩) (Kd.R_far (p := ⟨gb298, 0, none⟩) (Kd.R_types HO296.out BK298.out (by decide)) (fun _ hk => hk.2) (.int .i64 t290)) (fun _ hk => hk.2) (.slice Ao37 t291.length co37)) (fun _ h_ => h_.1))) hb); have n6_ := Aside0.mk (blk_below (g := gb270) (o := .cells #[.int .i64 a0_0, .slice A0_1 l0_1.length c0_1] 27 (0, 0)) (by (with_reducible repeat (first | refine blk_drewN ?_ _ | refine blk_drew ?_ | refine blk_alloc ?_ _)); refine blk_far ?_ NB270_298.out _; (with_reducible repeat (first | refine blk_drewN ?_ _ | refine blk_drew ?_ | refine blk_alloc ?_ _)); refine blk_far ?_ NB270_298.out _; (with_reducible repeat (first | refine blk_drewN ?_ _ | refine blk_drew ?_ | refine blk_alloc ?_ _)); exact BK270.out) hb); have n7_ := Aside0.mk (blk_below (g := gb284) (o := .cells #[.int .i64 t276, .slice Ao23 t277.length co23] 31 (0, 0)) (by (with_reducible repeat (first | refine blk_drewN ?_ _ | refine blk_drew ?_ | refine blk_alloc ?_ _)); refine blk_far ?_ NB284_298.out _; (with_reducible repeat (first | refine blk_drewN ?_ _ | refine blk_drew ?_ | refine blk_alloc ?_ _)); refine blk_far ?_ NB284_298.out _; (with_reducible repeat (first | refine blk_drewN ?_ _ | refine blk_drew ?_ | refine blk_alloc ?_ _)); exact BK284.out) hb); have n8_ := Aside0.mk (blk_below (g := gb289) (o := .cells #[.int .i64 t285, .slice Ao30 t286.length co30] 31 (0, 0)) (by (with_reducible repeat (first | refine blk_drewN ?_ _ | refine blk_drew ?_ | refine blk_alloc ?_ _)); refine blk_far ?_ NB289_298.out _; (with_reducible repeat (first | refine blk_drewN ?_ _ | refine blk_drew ?_ | refine blk_alloc ?_ _)); refine blk_far ?_ NB289_298.out _; (with_reducible repeat (first | refine blk_drewN ?_ _ | refine blk_drew ?_ | refine blk_alloc ?_ _)); exact BK289.out) hb); have n9_ := Aside0.mk (blk_below (g := gb298) (o := .cells #[.int .i64 t290, .slice Ao37 t291.length co37] 31 (0, 0)) (by (with_reducible repeat (first | refine blk_drewN ?_ _ | refine blk_drew ?_ | refine blk_alloc ?_ _)); refine blk_put (cs := #[.int .i64 t290, .slice none 0 0]) ?_ 1 _ rfl; (with_reducible repeat (first | refine blk_drewN ?_ _ | refine blk_drew ?_ | refine blk_alloc ?_ _)); refine blk_put (cs := #[.int .i64 0, .slice none 0 0]) ?_ 0 _ rfl; (with_reducible repeat (first | refine blk_drewN ?_ _ | refine blk_drew ?_ | refine blk_alloc ?_ _)); exact BK298.out) hb); have n10_ := Aside0.mk (below_step blw hb); clear HO275; clear HO279; clear HO282; clear HO288; clear HO293; clear HO296; clear BK270; clear BK284; clear BK289; clear BK298; clear HB; have HO275 := n0_; have HO279 := n1_; have HO282 := n2_; have HO288 := n3_; have HO293 := n4_; have HO296 := n5_; have BK270 := n6_; have BK284 := n7_; have BK289 := n8_; have BK298 := n9_; have HB := n10_; clear n0_ n1_ n2_ n3_ n4_ n5_ n6_ n7_ n8_ n9_ n10_; (try clear hb); (try clear hb2); (try clear hk); (try clear hi)))
    go_meet
    case rel => exact ⟨_, (true), (by first | rfl | (simp; done) | (simp [*]; done)), H', ⟨by first | omega | exact Nat.le_refl _⟩, ⟨by (with_reducible repeat (first | apply Kd.R_alloc | apply Kd.R_drewN | apply Kd.R_drew)); exact Kd.R_mono HO282.out (fun _ hk => hk.2)⟩, ⟨by (with_reducible repeat (first | apply Kd.R_alloc | apply Kd.R_drewN | apply Kd.R_drew)); exact Kd.R_mono HO296.out (fun _ hk => hk.2)⟩, ⟨by (with_reducible repeat (first | apply Kd.R_alloc | apply Kd.R_drewN | apply Kd.R_drew)); exact Kd.R_mono HO279.out (fun _ hk => ⟨hk.1.2, hk.2⟩)⟩, ⟨by (with_reducible repeat (first | apply Kd.R_alloc | apply Kd.R_drewN | apply Kd.R_drew)); exact Kd.R_mono HO288.out (fun _ hk => ⟨hk.1.2, hk.2⟩)⟩, ⟨by (with_reducible repeat (first | apply Kd.R_alloc | apply Kd.R_drewN | apply Kd.R_drew)); exact Kd.R_mono HO293.out (fun _ hk => ⟨hk.1.2, hk.2⟩)⟩, ⟨by (with_reducible repeat (first | refine blk_drewN ?_ _ | refine blk_drew ?_ | refine blk_alloc ?_ _)); exact BK270.out⟩, ⟨by (with_reducible repeat (first | refine blk_drewN ?_ _ | refine blk_drew ?_ | refine blk_alloc ?_ _)); exact BK284.out⟩, ⟨by (with_reducible repeat (first | refine blk_drewN ?_ _ | refine blk_drew ?_ | refine blk_alloc ?_ _)); exact BK289.out⟩, ⟨by (with_reducible repeat (first | refine blk_drewN ?_ _ | refine blk_drew ?_ | refine blk_alloc ?_ _)); exact BK298.out⟩, ⟨blw⟩⟩
  case rest =>
   clear HC12
   try clear c1
   try clear c2
   try clear p2
   try clear c3
   try clear c4
   try clear c4b0
   try clear c5
   try clear c6
   try clear c7
   try clear c8
   try clear c9
   try clear c10
   try clear c11
   try clear c21
   try clear c27
   try clear c28
   try clear c33
   try clear c34
   try clear c35
   try clear c39
   try clear c41
   try clear c42
   try clear c43
   try clear c44
   try clear c46
   try clear c47
   try clear c53
   try clear c54
   try clear c55
   try clear c57
   try clear c58
   try clear c64
   try clear c65
   try clear c66
   try clear c68
   try clear c69
   try clear hcz14_0
   try clear hcz14_1
   try clear hcz16_0
   try clear hcz16_1
   try clear hcz22_0
   try clear hcz22_1
   try clear hcz24_0
   try clear hcz24_1
   try clear hcz29_0
   try clear hcz29_1
   try clear hcz36_0
   try clear hcz36_1
   try clear hcz45_0
   try clear hcz45_1
   try clear hcz48_0
   try clear hcz48_1
   try clear hcz56_0
   try clear hcz56_1
   try clear hcz59_0
   try clear hcz59_1
   try clear hcz67_0
   try clear hcz67_1
   try clear hcz6_0
   try clear hcz6_1
   try clear hcz70_0
   try clear hcz70_1
   try clear hfz14_0
   try clear hfz14_1
   try clear hfz16_0
   try clear hfz16_1
   try clear hfz22_0
   try clear hfz22_1
   try clear hfz24_0
   try clear hfz24_1
   try clear hfz29_0
   try clear hfz29_1
   try clear hfz36_0
   try clear hfz36_1
   try clear hfz45_0
   try clear hfz45_1
   try clear hfz48_0
   try clear hfz48_1
   try clear hfz56_0
   try clear hfz56_1
   try clear hfz59_0
   try clear hfz59_1
   try clear hfz67_0
   try clear hfz67_1
   try clear hfz6_0
   try clear hfz6_1
   try clear hfz70_0
   try clear hfz70_1
   obtain ⟨kq, x55_11, rfl, HA, HJ11, HO_7, HO_11, HO_285001, HO_290001, HO_299001, BK270, BK284, BK289, BK298, HB⟩ := hcut
   cases kq with
   | zero => exact absurd HA.out (by simp [laws_FnExactRunClock.j0])
   | succ kj11 =>
    have H := HA.out
    clear HA
    simp only [laws_FnExactRunClock.j0] at H
    by_cases c72 : x55_11 = true
    ·subst c72
     have H1 : (some false) = some r := by rw [if_pos rfl] at H; exact H
     subst hr_; cases H1
    ·replace c72 := Bool.eq_false_iff.mpr c72
     subst c72
     have H1 : ((laws_toClock.f kj11 a0_0 l0_1).bind fun bt301 => ((laws_eqClock.f kj11 t285 t286 bt301.1 bt301.2).bind fun t305 => (if t305 = true then ((laws_markClock.f kj11 t285 t286 1).bind fun bt306 => (if bt306.1 < 0 then (laws_FnExactRunClock.j1 kj11 a1 t280 t283 t294 true a0_0 l0_1 t276 t277 t290 t291) else ((laws_eqClock.f kj11 t290 t291 t276 t277).bind fun t308 => (if t308 = true then ((laws_eqFiredS.f kj11 t294 t280).bind fun t309 => (if t309 = true then (laws_FnExactRunClock.j1 kj11 a1 t280 t283 t294 (t297 != t283) a0_0 l0_1 t276 t277 t290 t291) else (laws_FnExactRunClock.j1 kj11 a1 t280 t283 t294 true a0_0 l0_1 t276 t277 t290 t291))) else (laws_FnExactRunClock.j1 kj11 a1 t280 t283 t294 true a0_0 l0_1 t276 t277 t290 t291))))) else (some false)))) = some r := by rw [if_neg (show ¬ (false = true) by decide)] at H; exact H
     clear H
     have H := H1
     clear H1
     replace H := Option.bind_eq_some_iff.mp H
     obtain ⟨⟨t301, t302⟩, A730, H⟩ := H
     replace H : ((laws_eqClock.f kj11 t285 t286 t301 t302).bind fun t305 => (if t305 = true then ((laws_markClock.f kj11 t285 t286 1).bind fun bt306 => (if bt306.1 < 0 then (laws_FnExactRunClock.j1 kj11 a1 t280 t283 t294 true a0_0 l0_1 t276 t277 t290 t291) else ((laws_eqClock.f kj11 t290 t291 t276 t277).bind fun t308 => (if t308 = true then ((laws_eqFiredS.f kj11 t294 t280).bind fun t309 => (if t309 = true then (laws_FnExactRunClock.j1 kj11 a1 t280 t283 t294 (t297 != t283) a0_0 l0_1 t276 t277 t290 t291) else (laws_FnExactRunClock.j1 kj11 a1 t280 t283 t294 true a0_0 l0_1 t276 t277 t290 t291))) else (laws_FnExactRunClock.j1 kj11 a1 t280 t283 t294 true a0_0 l0_1 t276 t277 t290 t291))))) else (some false))) = some r := H
     have A73 := Aside0.mk A730
     clear A730
     replace H := Option.bind_eq_some_iff.mp H
     obtain ⟨t305, A740, H⟩ := H
     replace H : (if t305 = true then ((laws_markClock.f kj11 t285 t286 1).bind fun bt306 => (if bt306.1 < 0 then (laws_FnExactRunClock.j1 kj11 a1 t280 t283 t294 true a0_0 l0_1 t276 t277 t290 t291) else ((laws_eqClock.f kj11 t290 t291 t276 t277).bind fun t308 => (if t308 = true then ((laws_eqFiredS.f kj11 t294 t280).bind fun t309 => (if t309 = true then (laws_FnExactRunClock.j1 kj11 a1 t280 t283 t294 (t297 != t283) a0_0 l0_1 t276 t277 t290 t291) else (laws_FnExactRunClock.j1 kj11 a1 t280 t283 t294 true a0_0 l0_1 t276 t277 t290 t291))) else (laws_FnExactRunClock.j1 kj11 a1 t280 t283 t294 true a0_0 l0_1 t276 t277 t290 t291))))) else (some false)) = some r := H
     have A74 := Aside0.mk A740
     clear A740
     by_cases c75 : t305 = true
     ·subst c75
      have H1 : ((laws_markClock.f kj11 t285 t286 1).bind fun bt306 => (if bt306.1 < 0 then (laws_FnExactRunClock.j1 kj11 a1 t280 t283 t294 true a0_0 l0_1 t276 t277 t290 t291) else ((laws_eqClock.f kj11 t290 t291 t276 t277).bind fun t308 => (if t308 = true then ((laws_eqFiredS.f kj11 t294 t280).bind fun t309 => (if t309 = true then (laws_FnExactRunClock.j1 kj11 a1 t280 t283 t294 (t297 != t283) a0_0 l0_1 t276 t277 t290 t291) else (laws_FnExactRunClock.j1 kj11 a1 t280 t283 t294 true a0_0 l0_1 t276 t277 t290 t291))) else (laws_FnExactRunClock.j1 kj11 a1 t280 t283 t294 true a0_0 l0_1 t276 t277 t290 t291))))) = some r := by rw [if_pos rfl] at H; exact H
      clear H
      have H := H1
      clear H1
      replace H := Option.bind_eq_some_iff.mp H
      obtain ⟨⟨t306, t307⟩, A760, H⟩ := H
      replace H : (if t306 < 0 then (laws_FnExactRunClock.j1 kj11 a1 t280 t283 t294 true a0_0 l0_1 t276 t277 t290 t291) else ((laws_eqClock.f kj11 t290 t291 t276 t277).bind fun t308 => (if t308 = true then ((laws_eqFiredS.f kj11 t294 t280).bind fun t309 => (if t309 = true then (laws_FnExactRunClock.j1 kj11 a1 t280 t283 t294 (t297 != t283) a0_0 l0_1 t276 t277 t290 t291) else (laws_FnExactRunClock.j1 kj11 a1 t280 t283 t294 true a0_0 l0_1 t276 t277 t290 t291))) else (laws_FnExactRunClock.j1 kj11 a1 t280 t283 t294 true a0_0 l0_1 t276 t277 t290 t291)))) = some r := H
      have A76 := Aside0.mk A760
      clear A760
      have HC77 := Aside0.mk H
      clear H
      try go_wp2
      have n0_ := Aside0.mk (Kd.R_drew HO_7.out)
      have n1_ := Aside0.mk (Kd.R_drew HO_11.out)
      have n2_ := Aside0.mk (Kd.R_drew HO_285001.out)
      have n3_ := Aside0.mk (Kd.R_drew HO_290001.out)
      have n4_ := Aside0.mk (Kd.R_drew HO_299001.out)
      have n5_ := Aside0.mk (blk_drew BK270.out)
      have n6_ := Aside0.mk (blk_drew BK284.out)
      have n7_ := Aside0.mk (blk_drew BK289.out)
      have n8_ := Aside0.mk (blk_drew BK298.out)
      have n9_ := Aside0.mk (below_drew1 HB.out)
      clear HO_7
      clear HO_11
      clear HO_285001
      clear HO_290001
      clear HO_299001
      clear BK270
      clear BK284
      clear BK289
      clear BK298
      clear HB
      have HO_7 := n0_
      have HO_11 := n1_
      have HO_285001 := n2_
      have HO_290001 := n3_
      have HO_299001 := n4_
      have BK270 := n5_
      have BK284 := n6_
      have BK289 := n7_
      have BK298 := n8_
      have HB := n9_
      clear n0_ n1_ n2_ n3_ n4_ n5_ n6_ n7_ n8_ n9_
      refine start_ (n := 5) (S := fun w' => w'.cell? ⟨gb289, 0, none⟩ = some (.int .i64 t285) ∧ w'.cell? ⟨gb289, 1, none⟩ = some (.slice Ao30 t286.length co30) ∧ w'.cell? ⟨gb270, 0, none⟩ = some (.int .i64 a0_0) ∧ w'.cell? ⟨gb270, 1, none⟩ = some (.slice A0_1 l0_1.length c0_1)) (ds := []) #[false, false, false, false, false] (by kernel_rfl) rfl rfl ⟨(blk_cell BK289.out 0).trans rfl, (blk_cell BK289.out 1).trans rfl, (blk_cell BK270.out 0).trans rfl, (blk_cell BK270.out 1).trans rfl⟩ (fun hHeld => ?_)
      generalize wc.drew = w78 at HO_7 HO_11 HO_285001 HO_290001 HO_299001 BK270 BK284 BK289 BK298 HB hHeld ⊢
      refine take_ (i := 0) (N := some 56) (v := ?_) (a' := ?_) #[true, false, false, false, false] rfl rfl (by kernel_rfl) (fun _ _ _ h => h) (Or.inl ⟨by rfl, ?_⟩) hHeld ?_ ?_
      rotate_left; (· (rintro w' ⟨s0, s1, s2, s3⟩; go_simp; with_reducible rfl)); rotate_left; (· (simp only [Act.put, sp1, sp2, sp3, i64_w, i32_w]; rfl))
      refine take_ (i := 1) (N := some 57) (v := ?_) (a' := ?_) #[true, true, false, false, false] rfl rfl (by kernel_rfl) (fun _ _ _ h => h) (Or.inl ⟨by rfl, ?_⟩) hHeld ?_ ?_
      rotate_left; (· (rintro w' ⟨s0, s1, s2, s3⟩; go_simp; with_reducible rfl)); rotate_left; (· (simp only [Act.put, sp1, sp2, sp3, i64_w, i32_w]; rfl))
      refine one_ (i := 2) (N := some 58) #[true, true, true, false, false] rfl rfl (by kernel_rfl) (by decide) (fun K hK => ?_)
      refine goes_ Try.func9 (by kernel_rfl) rfl #[.agg #[.int .i64 a0_0, .slice A0_1 l0_1.length c0_1]] (by rfl) rfl rfl (by (try simp only [List.map_toArray, List.map_cons, List.map_nil]); first | done | rfl | (simp only [List.length_drop, List.length_take]; rfl)) ?_
      with_reducible refine (laws_toClock.calls kj11 a0_0 _ _ l0_1 t301 t302 _ ?side1 ?side2 A73.out).mono ?_
      (case side1 => repeat (first | exact (Kd.C_below HR0_1.out HB.out) | (with_reducible refine Kd.C_alloc ?_ _) | (with_reducible refine Kd.C_drewN ?_ _) | (with_reducible refine Kd.C_drew ?_)))
      (case side2 => exact HC0_1.out)
      rintro e w79 ⟨v303, rfl, ho0, hb⟩
      refine ⟨_, rfl, ?_⟩
      have n0_ := Aside0.mk (Kd.R_below (by (with_reducible repeat (first | apply Kd.R_alloc | apply Kd.R_drewN | apply Kd.R_drew)); exact HO_7.out) hb)
      have n1_ := Aside0.mk (Kd.R_below (by (with_reducible repeat (first | apply Kd.R_alloc | apply Kd.R_drewN | apply Kd.R_drew)); exact HO_11.out) hb)
      have n2_ := Aside0.mk (Kd.R_elder' (by (with_reducible repeat (first | apply Kd.R_alloc | apply Kd.R_drewN | apply Kd.R_drew)); exact HO_285001.out) (Kd.R_base ho0) hb)
      have n3_ := Aside0.mk (Kd.R_elder' (by (with_reducible repeat (first | apply Kd.R_alloc | apply Kd.R_drewN | apply Kd.R_drew)); exact HO_290001.out) (Kd.R_base ho0) hb)
      have n4_ := Aside0.mk (Kd.R_elder' (by (with_reducible repeat (first | apply Kd.R_alloc | apply Kd.R_drewN | apply Kd.R_drew)); exact HO_299001.out) (Kd.R_base ho0) hb)
      have n5_ := Aside0.mk (Kd.R_lower (Kd.R_new' (Kd.R_new' (Kd.R_new' ho0 (Kd.R_lt (by (with_reducible repeat (first | apply Kd.R_alloc | apply Kd.R_drewN | apply Kd.R_drew)); exact HO_285001.out))) (Kd.R_lt (by (with_reducible repeat (first | apply Kd.R_alloc | apply Kd.R_drewN | apply Kd.R_drew)); exact HO_290001.out))) (Kd.R_lt (by (with_reducible repeat (first | apply Kd.R_alloc | apply Kd.R_drewN | apply Kd.R_drew)); exact HO_299001.out))) (below_size blw))
      have n6_ := Aside0.mk (blk_below (g := gb270) (o := .cells #[.int .i64 a0_0, .slice A0_1 l0_1.length c0_1] 27 (0, 0)) bkw hb)
      have n7_ := Aside0.mk (blk_below (g := gb284) (o := .cells #[.int .i64 t276, .slice Ao23 t277.length co23] 31 (0, 0)) bkw hb)
      have n8_ := Aside0.mk (blk_below (g := gb289) (o := .cells #[.int .i64 t285, .slice Ao30 t286.length co30] 31 (0, 0)) bkw hb)
      have n9_ := Aside0.mk (blk_below (g := gb298) (o := .cells #[.int .i64 t290, .slice Ao37 t291.length co37] 31 (0, 0)) bkw hb)
      have n10_ := Aside0.mk (below_step blw hb)
      clear HO_7
      clear HO_11
      clear HO_285001
      clear HO_290001
      clear HO_299001
      clear BK270
      clear BK284
      clear BK289
      clear BK298
      clear HB
      have HO_7 := n0_
      have HO_11 := n1_
      have HO_285001 := n2_
      have HO_290001 := n3_
      have HO_299001 := n4_
      have HO304 := n5_
      have BK270 := n6_
      have BK284 := n7_
      have BK289 := n8_
      have BK298 := n9_
      have HB := n10_
      clear n0_ n1_ n2_ n3_ n4_ n5_ n6_ n7_ n8_ n9_ n10_
      (try clear hb)
      (try clear hb2)
      (try clear hk)
      (try clear hi)
      (try clear ho0)
      obtain ⟨Ao80, co80, eo80⟩ := Kd.R_slice HO304.out
      (first | subst eo80 | (injection eo80 with f1_ f2_ f3_; have f4_ := f1_.symm; have f5_ := f3_.symm; clear f1_ f2_ f3_; subst f4_; subst f5_))
      refine hK.out _ _ ⟨(blk_cell BK289.out 0).trans rfl, (blk_cell BK289.out 1).trans rfl, (blk_cell BK270.out 0).trans rfl, (blk_cell BK270.out 1).trans rfl⟩ (fun hHeld => ?_)
      clear hK K
      refine norm_ (a' := ?_) ?_ ?_
      rotate_left
      ·show Act.put _ (some 58) _ = _
       simp only [Act.put, sp1, sp2, sp3, i64_w, i32_w]
       rfl
      refine one_ (i := 3) (N := some 59) #[true, true, true, true, false] rfl rfl (by kernel_rfl) (by decide) (fun K hK => ?_)
      refine goes_ Try.func11 (by kernel_rfl) rfl #[.agg #[.int .i64 t285, .slice Ao30 t286.length co30], .agg #[.int .i64 t301, .slice Ao80 t302.length co80]] (by rfl) rfl rfl (by (try simp only [List.map_toArray, List.map_cons, List.map_nil]); first | done | rfl | (simp only [List.length_drop, List.length_take]; rfl)) ?_
      with_reducible refine (laws_eqClock.calls kj11 t285 _ _ t286 t301 _ _ t302 true _ ?side1 ?side2 ?side3 ?side4 A74.out).mono ?_
      (case side1 => repeat (first | exact (Kd.R_reads' HO_290001.out).2.2 | (with_reducible refine Kd.C_alloc ?_ _) | (with_reducible refine Kd.C_drewN ?_ _) | (with_reducible refine Kd.C_drew ?_)))
      (case side2 => exact (Kd.R_reads' HO_290001.out).2.1)
      (case side3 => repeat (first | exact (Kd.R_reads' HO304.out).2.2 | (with_reducible refine Kd.C_alloc ?_ _) | (with_reducible refine Kd.C_drewN ?_ _) | (with_reducible refine Kd.C_drew ?_)))
      (case side4 => exact (Kd.R_reads' HO304.out).2.1)
      rintro e w81 ⟨rfl, hb⟩
      refine ⟨_, rfl, ?_⟩
      have n0_ := Aside0.mk (Kd.R_below (by (with_reducible repeat (first | apply Kd.R_alloc | apply Kd.R_drewN | apply Kd.R_drew)); exact HO_7.out) hb)
      have n1_ := Aside0.mk (Kd.R_below (by (with_reducible repeat (first | apply Kd.R_alloc | apply Kd.R_drewN | apply Kd.R_drew)); exact HO_11.out) hb)
      have n2_ := Aside0.mk (Kd.R_below (by (with_reducible repeat (first | apply Kd.R_alloc | apply Kd.R_drewN | apply Kd.R_drew)); exact HO_285001.out) hb)
      have n3_ := Aside0.mk (Kd.R_below (by (with_reducible repeat (first | apply Kd.R_alloc | apply Kd.R_drewN | apply Kd.R_drew)); exact HO_290001.out) hb)
      have n4_ := Aside0.mk (Kd.R_below (by (with_reducible repeat (first | apply Kd.R_alloc | apply Kd.R_drewN | apply Kd.R_drew)); exact HO_299001.out) hb)
      have n5_ := Aside0.mk (Kd.R_below (by (with_reducible repeat (first | apply Kd.R_alloc | apply Kd.R_drewN | apply Kd.R_drew)); exact HO304.out) hb)
      have n6_ := Aside0.mk (blk_below (g := gb270) (o := .cells #[.int .i64 a0_0, .slice A0_1 l0_1.length c0_1] 27 (0, 0)) bkw hb)
      have n7_ := Aside0.mk (blk_below (g := gb284) (o := .cells #[.int .i64 t276, .slice Ao23 t277.length co23] 31 (0, 0)) bkw hb)
      have n8_ := Aside0.mk (blk_below (g := gb289) (o := .cells #[.int .i64 t285, .slice Ao30 t286.length co30] 31 (0, 0)) bkw hb)
      have n9_ := Aside0.mk (blk_below (g := gb298) (o := .cells #[.int .i64 t290, .slice Ao37 t291.length co37] 31 (0, 0)) bkw hb)
      have n10_ := Aside0.mk (below_step blw hb)
      clear HO_7
      clear HO_11
      clear HO_285001
      clear HO_290001
      clear HO_299001
      clear HO304
      clear BK270
      clear BK284
      clear BK289
      clear BK298
      clear HB
      have HO_7 := n0_
      have HO_11 := n1_
      have HO_285001 := n2_
      have HO_290001 := n3_
      have HO_299001 := n4_
      have HO304 := n5_
      have BK270 := n6_
      have BK284 := n7_
      have BK289 := n8_
      have BK298 := n9_
      have HB := n10_
      clear n0_ n1_ n2_ n3_ n4_ n5_ n6_ n7_ n8_ n9_ n10_
      (try clear hb)
      (try clear hb2)
      (try clear hk)
      (try clear hi)
      refine hK.out _ _ ⟨(blk_cell BK289.out 0).trans rfl, (blk_cell BK289.out 1).trans rfl, (blk_cell BK270.out 0).trans rfl, (blk_cell BK270.out 1).trans rfl⟩ (fun hHeld => ?_)
      clear hK K
      refine norm_ (a' := ?_) ?_ ?_
      rotate_left
      ·show Act.put _ (some 59) _ = _
       simp only [Act.put, sp1, sp2, sp3, i64_w, i32_w]
       rfl
      refine pure_ (i := 4) (N := some 60) (v := ?_) (a' := ?_) #[true, true, true, true, true] rfl rfl (by kernel_rfl) (fun _ _ _ h => h) (Or.inl ⟨by rfl, ?_⟩) ?_ ?_
      rotate_left; (· (intro w'; go_simp; with_reducible rfl)); rotate_left; (· (simp only [Act.put, sp1, sp2, sp3, i64_w, i32_w]; rfl))
      refine done_ (by kernel_rfl) ?_
      have hnb82 := NB289_270.out
      have hnc82 := NB270_289.out
      have hnb83 := NB289_284.out
      have hnc83 := NB284_289.out
      have hnb84 := NB289_298.out
      have hnc84 := NB298_289.out
      have hcz85_0 : w81.cell? ⟨gb289, 0, none⟩ = some (.int .i64 t285) := (blk_cell BK289.out 0).trans rfl
      have hcz85_1 : w81.cell? ⟨gb289, 1, none⟩ = some (.slice Ao30 t286.length co30) := (blk_cell BK289.out 1).trans rfl
      have hfz85_0 := blk_frozen BK289.out 0
      have hfz85_1 := blk_frozen BK289.out 1
      go_upto_region 14 with (first | ((with_reducible refine gate_callee (f := 13) rfl ?_); refine goesL_ (some 63) rfl rfl Try.func13 (by kernel_rfl) rfl #[.agg #[.int .i64 t285, .slice Ao30 t286.length co30], .int .i64 1] rfl (by (try simp only [List.map_toArray, List.map_cons, List.map_nil]); first | done | rfl | (simp only [List.length_drop, List.length_take]; rfl)) ?_; (with_reducible refine (laws_markClock.calls kj11 t285 (fun k_ => some k_ = (.slice Ao30 t286.length co30 : Value).ownBlock) (.slice Ao30 t286.length co30) t286 1 t306 t307 w _ ?side1 ?side2 A76.out).mono ?_); (case side1 => repeat (first | (with_reducible first | exact HB.out | apply below_alloc | apply pw_below_drewN | apply below_drew1 | refine below_set ?_ GE270.out | refine below_set ?_ GE284.out | refine below_set ?_ GE289.out | refine below_set ?_ GE298.out) | exact HB.out)); (case side2 => exact Kd.R_tight rfl HO_290001.out); rintro e w86 ⟨rfl, hy0, hb, hkp⟩; refine ⟨_, rfl, ?_⟩; have n0_ := Aside0.mk (Kd.R_mono (ok' := fun k_ => some k_ ≠ (v295 : Value).ownBlock) (Kd.R_keptB ((Kd.R_apart' HO_7.out (Kd.R_typed HO_290001.out) (by decide))) hkp (fun k_ hk_ hs_ => (hk_.2) hs_)) (fun k_ hk_ => hk_.1.1)); have n1_ := Aside0.mk (Kd.R_mono (ok' := fun k_ => some k_ ≠ (v281 : Value).ownBlock) (Kd.R_keptB ((Kd.R_apart' HO_11.out (Kd.R_typed HO_290001.out) (by decide))) hkp (fun k_ hk_ hs_ => (hk_.2) hs_)) (fun k_ hk_ => hk_.1.1)); have n2_ := Aside0.mk (Kd.R_mono (ok' := fun k_ => some k_ ≠ (.slice Ao30 t286.length co30 : Value).ownBlock ∧ some k_ ≠ (.slice Ao37 t291.length co37 : Value).ownBlock ∧ some k_ ≠ (.slice Ao80 t302.length co80 : Value).ownBlock) (Kd.R_keptB (HO_285001.out) hkp (fun k_ hk_ hs_ => (hk_.1.1) hs_)) (fun k_ hk_ => ⟨hk_.1.1.1, hk_.1.1.2, hk_.1.2⟩)); have n3_ := Aside0.mk (Kd.R_reok rfl hy0 (fun k_ e_ => HO_290001.out.1 k_ e_)); have n4_ := Aside0.mk (Kd.R_mono (ok' := fun k_ => some k_ ≠ (.slice Ao23 t277.length co23 : Value).ownBlock ∧ some k_ ≠ (.slice Ao30 t286.length co30 : Value).ownBlock ∧ some k_ ≠ (.slice Ao80 t302.length co80 : Value).ownBlock) (Kd.R_keptB (HO_299001.out) hkp (fun k_ hk_ hs_ => (hk_.1.2) hs_)) (fun k_ hk_ => ⟨hk_.1.1.1, hk_.1.1.2, hk_.1.2⟩)); have n5_ := Aside0.mk (blk_kept bkw hkp (fun hs_ => (fun e_ => (Kd.R_ne HO_290001.out BK270.out (by decide)) e_) hs_)); have n6_ := Aside0.mk (blk_kept bkw hkp (fun hs_ => (fun e_ => (Kd.R_ne HO_290001.out BK284.out (by decide)) e_) hs_)); have n7_ := Aside0.mk (blk_kept bkw hkp (fun hs_ => (fun e_ => (Kd.R_ne HO_290001.out BK289.out (by decide)) e_) hs_)); have n8_ := Aside0.mk (blk_kept bkw hkp (fun hs_ => (fun e_ => (Kd.R_ne HO_290001.out BK298.out (by decide)) e_) hs_)); have n9_ := Aside0.mk (Kd.R_mono (ok' := fun k_ => some k_ ≠ (.slice Ao23 t277.length co23 : Value).ownBlock ∧ some k_ ≠ (.slice Ao30 t286.length co30 : Value).ownBlock ∧ some k_ ≠ (.slice Ao37 t291.length co37 : Value).ownBlock) (Kd.R_keptB (HO304.out) hkp (fun k_ hk_ hs_ => (hk_.1.2) hs_)) (fun k_ hk_ => ⟨hk_.1.1.1.2, hk_.1.1.2, hk_.1.2⟩)); have n10_ := Aside0.mk (hb); clear HO_7; clear HO_11; clear HO_285001; clear HO_290001; clear HO_299001; clear BK270; clear BK284; clear BK289; clear BK298; clear HO304; clear HB; have HO_7 := n0_; have HO_11 := n1_; have HO_285001 := n2_; have HO_290001 := n3_; have HO_299001 := n4_; have BK270 := n5_; have BK284 := n6_; have BK289 := n7_; have BK298 := n8_; have HO304 := n9_; have HB := n10_; clear n0_ n1_ n2_ n3_ n4_ n5_ n6_ n7_ n8_ n9_ n10_; (try clear hb); (try clear hkp); (try clear hy0)))
      (try simp only [Act.put, List.setIfInBounds_toArray, List.set_cons_zero, List.set_cons_succ])
      go_cut [82] (fun v82 wc => ∃ (kq : Nat) (x82_76 : Bool), v82 = .bool x82_76 ∧ Aside0 (laws_FnExactRunClock.j1 kq a1 t280 t283 t294 x82_76 a0_0 l0_1 t276 t277 t290 t291 = some r) ∧ Aside0 (kq ≤ kj11) ∧ Aside0 (Kd.R k56 56 wc w.heap.size (fun k_ => some k_ ≠ (v295 : Value).ownBlock) v281 t280) ∧ Aside0 (Kd.R k56 56 wc w.heap.size (fun k_ => some k_ ≠ (v281 : Value).ownBlock) v295 t294) ∧ Aside0 (Kd.R k54 54 wc w.heap.size (fun k_ => some k_ ≠ ((.slice Ao30 t286.length co30) : Value).ownBlock ∧ some k_ ≠ ((.slice Ao37 t291.length co37) : Value).ownBlock) (.slice Ao23 t277.length co23) t277) ∧ Aside0 (Kd.R k54 54 wc w.heap.size (fun k_ => some k_ ≠ ((.slice Ao23 t277.length co23) : Value).ownBlock ∧ some k_ ≠ ((.slice Ao37 t291.length co37) : Value).ownBlock) (.slice Ao30 t286.length co30) t307) ∧ Aside0 (Kd.R k54 54 wc w.heap.size (fun k_ => some k_ ≠ ((.slice Ao23 t277.length co23) : Value).ownBlock ∧ some k_ ≠ ((.slice Ao30 t286.length co30) : Value).ownBlock) (.slice Ao37 t291.length co37) t291) ∧ Aside0 (wc.heap[gb270]? = some (.cells #[.int .i64 a0_0, (.slice A0_1 l0_1.length c0_1)] 27 (0, 0))) ∧ Aside0 (wc.heap[gb284]? = some (.cells #[.int .i64 t276, (.slice Ao23 t277.length co23)] 31 (0, 0))) ∧ Aside0 (wc.heap[gb289]? = some (.cells #[.int .i64 t285, (.slice Ao30 t286.length co30)] 31 (0, 0))) ∧ Aside0 (wc.heap[gb298]? = some (.cells #[.int .i64 t290, (.slice Ao37 t291.length co37)] 31 (0, 0))) ∧ Aside0 (Below w.heap.size w wc))
      case first =>
       have H := HC77.out
       clear HC77
       by_cases c87 : t306 < 0
       ·rw [if_pos c87] at H
        have c87b0 : decide (t306 < 0) = true := decide_eq_true c87
        clear c87
        (first | rw [c87b0] | (simp only [i64_w, i32_w]; rw [c87b0]) | skip)
        have H' := Aside0.mk H
        clear H
        go_wp2
        go_meet
        case rel => exact ⟨_, (true), (by first | rfl | (simp; done) | (simp [*]; done)), H', ⟨by have := HJ11.out; first | omega | exact Nat.le_refl _⟩, ⟨by (with_reducible repeat (first | apply Kd.R_alloc | apply Kd.R_drewN | apply Kd.R_drew)); exact HO_7.out⟩, ⟨by (with_reducible repeat (first | apply Kd.R_alloc | apply Kd.R_drewN | apply Kd.R_drew)); exact HO_11.out⟩, ⟨by (with_reducible repeat (first | apply Kd.R_alloc | apply Kd.R_drewN | apply Kd.R_drew)); exact Kd.R_mono HO_285001.out (fun _ hk => ⟨hk.1, hk.2.1⟩)⟩, ⟨by (with_reducible repeat (first | apply Kd.R_alloc | apply Kd.R_drewN | apply Kd.R_drew)); exact Kd.R_mono HO_290001.out (fun _ hk => ⟨hk.1.1, hk.1.2⟩)⟩, ⟨by (with_reducible repeat (first | apply Kd.R_alloc | apply Kd.R_drewN | apply Kd.R_drew)); exact Kd.R_mono HO_299001.out (fun _ hk => ⟨hk.1, hk.2.1⟩)⟩, ⟨by (with_reducible repeat (first | refine blk_drewN ?_ _ | refine blk_drew ?_ | refine blk_alloc ?_ _)); exact BK270.out⟩, ⟨by (with_reducible repeat (first | refine blk_drewN ?_ _ | refine blk_drew ?_ | refine blk_alloc ?_ _)); exact BK284.out⟩, ⟨by (with_reducible repeat (first | refine blk_drewN ?_ _ | refine blk_drew ?_ | refine blk_alloc ?_ _)); exact BK289.out⟩, ⟨by (with_reducible repeat (first | refine blk_drewN ?_ _ | refine blk_drew ?_ | refine blk_alloc ?_ _)); exact BK298.out⟩, ⟨blw⟩⟩
       ·rw [if_neg c87] at H
        have c87b0 : decide (t306 < 0) = false := decide_eq_false c87
        clear c87
        (first | rw [c87b0] | (simp only [i64_w, i32_w]; rw [c87b0]) | skip)
        replace H := Option.bind_eq_some_iff.mp H
        obtain ⟨t308, A880, H⟩ := H
        replace H : (if t308 = true then ((laws_eqFiredS.f kj11 t294 t280).bind fun t309 => (if t309 = true then (laws_FnExactRunClock.j1 kj11 a1 t280 t283 t294 (t297 != t283) a0_0 l0_1 t276 t277 t290 t291) else (laws_FnExactRunClock.j1 kj11 a1 t280 t283 t294 true a0_0 l0_1 t276 t277 t290 t291))) else (laws_FnExactRunClock.j1 kj11 a1 t280 t283 t294 true a0_0 l0_1 t276 t277 t290 t291)) = some r := H
        have A88 := Aside0.mk A880
        clear A880
        by_cases c89 : t308 = true
        ·subst c89
         have H1 : ((laws_eqFiredS.f kj11 t294 t280).bind fun t309 => (if t309 = true then (laws_FnExactRunClock.j1 kj11 a1 t280 t283 t294 (t297 != t283) a0_0 l0_1 t276 t277 t290 t291) else (laws_FnExactRunClock.j1 kj11 a1 t280 t283 t294 true a0_0 l0_1 t276 t277 t290 t291))) = some r := by rw [if_pos rfl] at H; exact H
         clear H
         have H := H1
         clear H1
         replace H := Option.bind_eq_some_iff.mp H
         obtain ⟨t309, A900, H⟩ := H
         replace H : (if t309 = true then (laws_FnExactRunClock.j1 kj11 a1 t280 t283 t294 (t297 != t283) a0_0 l0_1 t276 t277 t290 t291) else (laws_FnExactRunClock.j1 kj11 a1 t280 t283 t294 true a0_0 l0_1 t276 t277 t290 t291)) = some r := H
         have A90 := Aside0.mk A900
         clear A900
         by_cases c91 : t309 = true
         ·subst c91
          have H1 : (laws_FnExactRunClock.j1 kj11 a1 t280 t283 t294 (t297 != t283) a0_0 l0_1 t276 t277 t290 t291) = some r := by rw [if_pos rfl] at H; exact H
          clear H
          have H := H1
          clear H1
          have H' := Aside0.mk H
          clear H
          have hnb92 := NB298_270.out
          have hnc92 := NB270_298.out
          have hnb93 := NB298_284.out
          have hnc93 := NB284_298.out
          have hnb94 := NB298_289.out
          have hnc94 := NB289_298.out
          have hcz95_0 : w86.cell? ⟨gb298, 0, none⟩ = some (.int .i64 t290) := (blk_cell BK298.out 0).trans rfl
          have hcz95_1 : w86.cell? ⟨gb298, 1, none⟩ = some (.slice Ao37 t291.length co37) := (blk_cell BK298.out 1).trans rfl
          have hfz95_0 := blk_frozen BK298.out 0
          have hfz95_1 := blk_frozen BK298.out 1
          have hnb96 := NB284_270.out
          have hnc96 := NB270_284.out
          have hnb97 := NB284_289.out
          have hnc97 := NB289_284.out
          have hcz98_0 : w86.cell? ⟨gb284, 0, none⟩ = some (.int .i64 t276) := (blk_cell BK284.out 0).trans rfl
          have hcz98_1 : w86.cell? ⟨gb284, 1, none⟩ = some (.slice Ao23 t277.length co23) := (blk_cell BK284.out 1).trans rfl
          have hfz98_0 := blk_frozen BK284.out 0
          have hfz98_1 := blk_frozen BK284.out 1
          go_wp2_with (first | (go_at_call 11; (with_reducible refine (laws_eqClock.calls kj11 t290 _ _ t291 t276 _ _ t277 true _ ?side1 ?side2 ?side3 ?side4 A88.out).mono ?_); (case side1 => repeat (first | exact (Kd.R_reads' HO_299001.out).2.2 | (with_reducible refine Kd.C_alloc ?_ _) | (with_reducible refine Kd.C_drewN ?_ _) | (with_reducible refine Kd.C_drew ?_))); (case side2 => exact (Kd.R_reads' HO_299001.out).2.1); (case side3 => repeat (first | exact (Kd.R_reads' HO_285001.out).2.2 | (with_reducible refine Kd.C_alloc ?_ _) | (with_reducible refine Kd.C_drewN ?_ _) | (with_reducible refine Kd.C_drew ?_))); (case side4 => exact (Kd.R_reads' HO_285001.out).2.1); rintro e w99 ⟨rfl, hb⟩; have n0_ := Aside0.mk (Kd.R_below (by (with_reducible repeat (first | apply Kd.R_alloc | apply Kd.R_drewN | apply Kd.R_drew)); exact HO_7.out) hb); have n1_ := Aside0.mk (Kd.R_below (by (with_reducible repeat (first | apply Kd.R_alloc | apply Kd.R_drewN | apply Kd.R_drew)); exact HO_11.out) hb); have n2_ := Aside0.mk (Kd.R_below (by (with_reducible repeat (first | apply Kd.R_alloc | apply Kd.R_drewN | apply Kd.R_drew)); exact HO_285001.out) hb); have n3_ := Aside0.mk (Kd.R_below (by (with_reducible repeat (first | apply Kd.R_alloc | apply Kd.R_drewN | apply Kd.R_drew)); exact HO_290001.out) hb); have n4_ := Aside0.mk (Kd.R_below (by (with_reducible repeat (first | apply Kd.R_alloc | apply Kd.R_drewN | apply Kd.R_drew)); exact HO_299001.out) hb); have n5_ := Aside0.mk (Kd.R_below (by (with_reducible repeat (first | apply Kd.R_alloc | apply Kd.R_drewN | apply Kd.R_drew)); exact HO304.out) hb); have n6_ := Aside0.mk (blk_below (g := gb270) (o := .cells #[.int .i64 a0_0, .slice A0_1 l0_1.length c0_1] 27 (0, 0)) bkw hb); have n7_ := Aside0.mk (blk_below (g := gb284) (o := .cells #[.int .i64 t276, .slice Ao23 t277.length co23] 31 (0, 0)) bkw hb); have n8_ := Aside0.mk (blk_below (g := gb289) (o := .cells #[.int .i64 t285, .slice Ao30 t286.length co30] 31 (0, 0)) bkw hb); have n9_ := Aside0.mk (blk_below (g := gb298) (o := .cells #[.int .i64 t290, .slice Ao37 t291.length co37] 31 (0, 0)) bkw hb); have n10_ := Aside0.mk (below_step blw hb); clear HO_7; clear HO_11; clear HO_285001; clear HO_290001; clear HO_299001; clear HO304; clear BK270; clear BK284; clear BK289; clear BK298; clear HB; have HO_7 := n0_; have HO_11 := n1_; have HO_285001 := n2_; have HO_290001 := n3_; have HO_299001 := n4_; have HO304 := n5_; have BK270 := n6_; have BK284 := n7_; have BK289 := n8_; have BK298 := n9_; have HB := n10_; clear n0_ n1_ n2_ n3_ n4_ n5_ n6_ n7_ n8_ n9_ n10_; (try clear hb); (try clear hb2); (try clear hk); (try clear hi); obtain ⟨Ao100, co100, eo100⟩ := Kd.R_slice HO_11.out; subst eo100; obtain ⟨Ao101, co101, eo101⟩ := Kd.R_slice HO_7.out; subst eo101) | (go_at_call 12; (with_reducible refine (laws_eqFiredS.calls kj11 _ _ t294 _ _ t280 true _ ?side1 ?side2 ?side3 ?side4 A90.out).mono ?_); (case side1 => repeat (first | exact (Kd.R_reads' HO_11.out).2.2 | (with_reducible refine Kd.C_alloc ?_ _) | (with_reducible refine Kd.C_drewN ?_ _) | (with_reducible refine Kd.C_drew ?_))); (case side2 => exact (Kd.R_reads' HO_11.out).2.1); (case side3 => repeat (first | exact (Kd.R_reads' HO_7.out).2.2 | (with_reducible refine Kd.C_alloc ?_ _) | (with_reducible refine Kd.C_drewN ?_ _) | (with_reducible refine Kd.C_drew ?_))); (case side4 => exact (Kd.R_reads' HO_7.out).2.1); rintro e w102 ⟨rfl, hb⟩; have n0_ := Aside0.mk (Kd.R_below (by (with_reducible repeat (first | apply Kd.R_alloc | apply Kd.R_drewN | apply Kd.R_drew)); exact HO_7.out) hb); have n1_ := Aside0.mk (Kd.R_below (by (with_reducible repeat (first | apply Kd.R_alloc | apply Kd.R_drewN | apply Kd.R_drew)); exact HO_11.out) hb); have n2_ := Aside0.mk (Kd.R_below (by (with_reducible repeat (first | apply Kd.R_alloc | apply Kd.R_drewN | apply Kd.R_drew)); exact HO_285001.out) hb); have n3_ := Aside0.mk (Kd.R_below (by (with_reducible repeat (first | apply Kd.R_alloc | apply Kd.R_drewN | apply Kd.R_drew)); exact HO_290001.out) hb); have n4_ := Aside0.mk (Kd.R_below (by (with_reducible repeat (first | apply Kd.R_alloc | apply Kd.R_drewN | apply Kd.R_drew)); exact HO_299001.out) hb); have n5_ := Aside0.mk (Kd.R_below (by (with_reducible repeat (first | apply Kd.R_alloc | apply Kd.R_drewN | apply Kd.R_drew)); exact HO304.out) hb); have n6_ := Aside0.mk (blk_below (g := gb270) (o := .cells #[.int .i64 a0_0, .slice A0_1 l0_1.length c0_1] 27 (0, 0)) bkw hb); have n7_ := Aside0.mk (blk_below (g := gb284) (o := .cells #[.int .i64 t276, .slice Ao23 t277.length co23] 31 (0, 0)) bkw hb); have n8_ := Aside0.mk (blk_below (g := gb289) (o := .cells #[.int .i64 t285, .slice Ao30 t286.length co30] 31 (0, 0)) bkw hb); have n9_ := Aside0.mk (blk_below (g := gb298) (o := .cells #[.int .i64 t290, .slice Ao37 t291.length co37] 31 (0, 0)) bkw hb); have n10_ := Aside0.mk (below_step blw hb); clear HO_7; clear HO_11; clear HO_285001; clear HO_290001; clear HO_299001; clear HO304; clear BK270; clear BK284; clear BK289; clear BK298; clear HB; have HO_7 := n0_; have HO_11 := n1_; have HO_285001 := n2_; have HO_290001 := n3_; have HO_299001 := n4_; have HO304 := n5_; have BK270 := n6_; have BK284 := n7_; have BK289 := n8_; have BK298 := n9_; have HB := n10_; clear n0_ n1_ n2_ n3_ n4_ n5_ n6_ n7_ n8_ n9_ n10_; (try clear hb); (try clear hb2); (try clear hk); (try clear hi)))
          go_meet
          case rel => exact ⟨_, ((t297 != t283)), (by first | rfl | (simp; done) | (simp [*]; done)), H', ⟨by have := HJ11.out; first | omega | exact Nat.le_refl _⟩, ⟨by (with_reducible repeat (first | apply Kd.R_alloc | apply Kd.R_drewN | apply Kd.R_drew)); exact HO_7.out⟩, ⟨by (with_reducible repeat (first | apply Kd.R_alloc | apply Kd.R_drewN | apply Kd.R_drew)); exact HO_11.out⟩, ⟨by (with_reducible repeat (first | apply Kd.R_alloc | apply Kd.R_drewN | apply Kd.R_drew)); exact Kd.R_mono HO_285001.out (fun _ hk => ⟨hk.1, hk.2.1⟩)⟩, ⟨by (with_reducible repeat (first | apply Kd.R_alloc | apply Kd.R_drewN | apply Kd.R_drew)); exact Kd.R_mono HO_290001.out (fun _ hk => ⟨hk.1.1, hk.1.2⟩)⟩, ⟨by (with_reducible repeat (first | apply Kd.R_alloc | apply Kd.R_drewN | apply Kd.R_drew)); exact Kd.R_mono HO_299001.out (fun _ hk => ⟨hk.1, hk.2.1⟩)⟩, ⟨by (with_reducible repeat (first | refine blk_drewN ?_ _ | refine blk_drew ?_ | refine blk_alloc ?_ _)); exact BK270.out⟩, ⟨by (with_reducible repeat (first | refine blk_drewN ?_ _ | refine blk_drew ?_ | refine blk_alloc ?_ _)); exact BK284.out⟩, ⟨by (with_reducible repeat (first | refine blk_drewN ?_ _ | refine blk_drew ?_ | refine blk_alloc ?_ _)); exact BK289.out⟩, ⟨by (with_reducible repeat (first | refine blk_drewN ?_ _ | refine blk_drew ?_ | refine blk_alloc ?_ _)); exact BK298.out⟩, ⟨blw⟩⟩
         ·replace c91 := Bool.eq_false_iff.mpr c91
          subst c91
          have H1 : (laws_FnExactRunClock.j1 kj11 a1 t280 t283 t294 true a0_0 l0_1 t276 t277 t290 t291) = some r := by rw [if_neg (show ¬ (false = true) by decide)] at H; exact H
          clear H
          have H := H1
          clear H1
          have H' := Aside0.mk H
          clear H
          have hnb103 := NB298_270.out
          have hnc103 := NB270_298.out
          have hnb104 := NB298_284.out
          have hnc104 := NB284_298.out
          have hnb105 := NB298_289.out
          have hnc105 := NB289_298.out
          have hcz106_0 : w86.cell? ⟨gb298, 0, none⟩ = some (.int .i64 t290) := (blk_cell BK298.out 0).trans rfl
          have hcz106_1 : w86.cell? ⟨gb298, 1, none⟩ = some (.slice Ao37 t291.length co37) := (blk_cell BK298.out 1).trans rfl
          have hfz106_0 := blk_frozen BK298.out 0
          have hfz106_1 := blk_frozen BK298.out 1
          have hnb107 := NB284_270.out
          have hnc107 := NB270_284.out
          have hnb108 := NB284_289.out
          have hnc108 := NB289_284.out
          have hcz109_0 : w86.cell? ⟨gb284, 0, none⟩ = some (.int .i64 t276) := (blk_cell BK284.out 0).trans rfl
          have hcz109_1 : w86.cell? ⟨gb284, 1, none⟩ = some (.slice Ao23 t277.length co23) := (blk_cell BK284.out 1).trans rfl
          have hfz109_0 := blk_frozen BK284.out 0
          have hfz109_1 := blk_frozen BK284.out 1
          go_wp2_with (first | (go_at_call 11; (with_reducible refine (laws_eqClock.calls kj11 t290 _ _ t291 t276 _ _ t277 true _ ?side1 ?side2 ?side3 ?side4 A88.out).mono ?_); (case side1 => repeat (first | exact (Kd.R_reads' HO_299001.out).2.2 | (with_reducible refine Kd.C_alloc ?_ _) | (with_reducible refine Kd.C_drewN ?_ _) | (with_reducible refine Kd.C_drew ?_))); (case side2 => exact (Kd.R_reads' HO_299001.out).2.1); (case side3 => repeat (first | exact (Kd.R_reads' HO_285001.out).2.2 | (with_reducible refine Kd.C_alloc ?_ _) | (with_reducible refine Kd.C_drewN ?_ _) | (with_reducible refine Kd.C_drew ?_))); (case side4 => exact (Kd.R_reads' HO_285001.out).2.1); rintro e w110 ⟨rfl, hb⟩; have n0_ := Aside0.mk (Kd.R_below (by (with_reducible repeat (first | apply Kd.R_alloc | apply Kd.R_drewN | apply Kd.R_drew)); exact HO_7.out) hb); have n1_ := Aside0.mk (Kd.R_below (by (with_reducible repeat (first | apply Kd.R_alloc | apply Kd.R_drewN | apply Kd.R_drew)); exact HO_11.out) hb); have n2_ := Aside0.mk (Kd.R_below (by (with_reducible repeat (first | apply Kd.R_alloc | apply Kd.R_drewN | apply Kd.R_drew)); exact HO_285001.out) hb); have n3_ := Aside0.mk (Kd.R_below (by (with_reducible repeat (first | apply Kd.R_alloc | apply Kd.R_drewN | apply Kd.R_drew)); exact HO_290001.out) hb); have n4_ := Aside0.mk (Kd.R_below (by (with_reducible repeat (first | apply Kd.R_alloc | apply Kd.R_drewN | apply Kd.R_drew)); exact HO_299001.out) hb); have n5_ := Aside0.mk (Kd.R_below (by (with_reducible repeat (first | apply Kd.R_alloc | apply Kd.R_drewN | apply Kd.R_drew)); exact HO304.out) hb); have n6_ := Aside0.mk (blk_below (g := gb270) (o := .cells #[.int .i64 a0_0, .slice A0_1 l0_1.length c0_1] 27 (0, 0)) bkw hb); have n7_ := Aside0.mk (blk_below (g := gb284) (o := .cells #[.int .i64 t276, .slice Ao23 t277.length co23] 31 (0, 0)) bkw hb); have n8_ := Aside0.mk (blk_below (g := gb289) (o := .cells #[.int .i64 t285, .slice Ao30 t286.length co30] 31 (0, 0)) bkw hb); have n9_ := Aside0.mk (blk_below (g := gb298) (o := .cells #[.int .i64 t290, .slice Ao37 t291.length co37] 31 (0, 0)) bkw hb); have n10_ := Aside0.mk (below_step blw hb); clear HO_7; clear HO_11; clear HO_285001; clear HO_290001; clear HO_299001; clear HO304; clear BK270; clear BK284; clear BK289; clear BK298; clear HB; have HO_7 := n0_; have HO_11 := n1_; have HO_285001 := n2_; have HO_290001 := n3_; have HO_299001 := n4_; have HO304 := n5_; have BK270 := n6_; have BK284 := n7_; have BK289 := n8_; have BK298 := n9_; have HB := n10_; clear n0_ n1_ n2_ n3_ n4_ n5_ n6_ n7_ n8_ n9_ n10_; (try clear hb); (try clear hb2); (try clear hk); (try clear hi); obtain ⟨Ao111, co111, eo111⟩ := Kd.R_slice HO_11.out; subst eo111; obtain ⟨Ao112, co112, eo112⟩ := Kd.R_slice HO_7.out; subst eo112) | (go_at_call 12; (with_reducible refine (laws_eqFiredS.calls kj11 _ _ t294 _ _ t280 false _ ?side1 ?side2 ?side3 ?side4 A90.out).mono ?_); (case side1 => repeat (first | exact (Kd.R_reads' HO_11.out).2.2 | (with_reducible refine Kd.C_alloc ?_ _) | (with_reducible refine Kd.C_drewN ?_ _) | (with_reducible refine Kd.C_drew ?_))); (case side2 => exact (Kd.R_reads' HO_11.out).2.1); (case side3 => repeat (first | exact (Kd.R_reads' HO_7.out).2.2 | (with_reducible refine Kd.C_alloc ?_ _) | (with_reducible refine Kd.C_drewN ?_ _) | (with_reducible refine Kd.C_drew ?_))); (case side4 => exact (Kd.R_reads' HO_7.out).2.1); rintro e w113 ⟨rfl, hb⟩; have n0_ := Aside0.mk (Kd.R_below (by (with_reducible repeat (first | apply Kd.R_alloc | apply Kd.R_drewN | apply Kd.R_drew)); exact HO_7.out) hb); have n1_ := Aside0.mk (Kd.R_below (by (with_reducible repeat (first | apply Kd.R_alloc | apply Kd.R_drewN | apply Kd.R_drew)); exact HO_11.out) hb); have n2_ := Aside0.mk (Kd.R_below (by (with_reducible repeat (first | apply Kd.R_alloc | apply Kd.R_drewN | apply Kd.R_drew)); exact HO_285001.out) hb); have n3_ := Aside0.mk (Kd.R_below (by (with_reducible repeat (first | apply Kd.R_alloc | apply Kd.R_drewN | apply Kd.R_drew)); exact HO_290001.out) hb); have n4_ := Aside0.mk (Kd.R_below (by (with_reducible repeat (first | apply Kd.R_alloc | apply Kd.R_drewN | apply Kd.R_drew)); exact HO_299001.out) hb); have n5_ := Aside0.mk (Kd.R_below (by (with_reducible repeat (first | apply Kd.R_alloc | apply Kd.R_drewN | apply Kd.R_drew)); exact HO304.out) hb); have n6_ := Aside0.mk (blk_below (g := gb270) (o := .cells #[.int .i64 a0_0, .slice A0_1 l0_1.length c0_1] 27 (0, 0)) bkw hb); have n7_ := Aside0.mk (blk_below (g := gb284) (o := .cells #[.int .i64 t276, .slice Ao23 t277.length co23] 31 (0, 0)) bkw hb); have n8_ := Aside0.mk (blk_below (g := gb289) (o := .cells #[.int .i64 t285, .slice Ao30 t286.length co30] 31 (0, 0)) bkw hb); have n9_ := Aside0.mk (blk_below (g := gb298) (o := .cells #[.int .i64 t290, .slice Ao37 t291.length co37] 31 (0, 0)) bkw hb); have n10_ := Aside0.mk (below_step blw hb); clear HO_7; clear HO_11; clear HO_285001; clear HO_290001; clear HO_299001; clear HO304; clear BK270; clear BK284; clear BK289; clear BK298; clear HB; have HO_7 := n0_; have HO_11 := n1_; have HO_285001 := n2_; have HO_290001 := n3_; have HO_299001 := n4_; have HO304 := n5_; have BK270 := n6_; have BK284 := n7_; have BK289 := n8_; have BK298 := n9_; have HB := n10_; clear n0_ n1_ n2_ n3_ n4_ n5_ n6_ n7_ n8_ n9_ n10_; (try clear hb); (try clear hb2); (try clear hk); (try clear hi)))
          go_meet
          case rel => exact ⟨_, (true), (by first | rfl | (simp; done) | (simp [*]; done)), H', ⟨by have := HJ11.out; first | omega | exact Nat.le_refl _⟩, ⟨by (with_reducible repeat (first | apply Kd.R_alloc | apply Kd.R_drewN | apply Kd.R_drew)); exact HO_7.out⟩, ⟨by (with_reducible repeat (first | apply Kd.R_alloc | apply Kd.R_drewN | apply Kd.R_drew)); exact HO_11.out⟩, ⟨by (with_reducible repeat (first | apply Kd.R_alloc | apply Kd.R_drewN | apply Kd.R_drew)); exact Kd.R_mono HO_285001.out (fun _ hk => ⟨hk.1, hk.2.1⟩)⟩, ⟨by (with_reducible repeat (first | apply Kd.R_alloc | apply Kd.R_drewN | apply Kd.R_drew)); exact Kd.R_mono HO_290001.out (fun _ hk => ⟨hk.1.1, hk.1.2⟩)⟩, ⟨by (with_reducible repeat (first | apply Kd.R_alloc | apply Kd.R_drewN | apply Kd.R_drew)); exact Kd.R_mono HO_299001.out (fun _ hk => ⟨hk.1, hk.2.1⟩)⟩, ⟨by (with_reducible repeat (first | refine blk_drewN ?_ _ | refine blk_drew ?_ | refine blk_alloc ?_ _)); exact BK270.out⟩, ⟨by (with_reducible repeat (first | refine blk_drewN ?_ _ | refine blk_drew ?_ | refine blk_alloc ?_ _)); exact BK284.out⟩, ⟨by (with_reducible repeat (first | refine blk_drewN ?_ _ | refine blk_drew ?_ | refine blk_alloc ?_ _)); exact BK289.out⟩, ⟨by (with_reducible repeat (first | refine blk_drewN ?_ _ | refine blk_drew ?_ | refine blk_alloc ?_ _)); exact BK298.out⟩, ⟨blw⟩⟩
        ·replace c89 := Bool.eq_false_iff.mpr c89
         subst c89
         have H1 : (laws_FnExactRunClock.j1 kj11 a1 t280 t283 t294 true a0_0 l0_1 t276 t277 t290 t291) = some r := by rw [if_neg (show ¬ (false = true) by decide)] at H; exact H
         clear H
         have H := H1
         clear H1
         have H' := Aside0.mk H
         clear H
         have hnb114 := NB298_270.out
         have hnc114 := NB270_298.out
         have hnb115 := NB298_284.out
         have hnc115 := NB284_298.out
         have hnb116 := NB298_289.out
         have hnc116 := NB289_298.out
         have hcz117_0 : w86.cell? ⟨gb298, 0, none⟩ = some (.int .i64 t290) := (blk_cell BK298.out 0).trans rfl
         have hcz117_1 : w86.cell? ⟨gb298, 1, none⟩ = some (.slice Ao37 t291.length co37) := (blk_cell BK298.out 1).trans rfl
         have hfz117_0 := blk_frozen BK298.out 0
         have hfz117_1 := blk_frozen BK298.out 1
         have hnb118 := NB284_270.out
         have hnc118 := NB270_284.out
         have hnb119 := NB284_289.out
         have hnc119 := NB289_284.out
         have hcz120_0 : w86.cell? ⟨gb284, 0, none⟩ = some (.int .i64 t276) := (blk_cell BK284.out 0).trans rfl
         have hcz120_1 : w86.cell? ⟨gb284, 1, none⟩ = some (.slice Ao23 t277.length co23) := (blk_cell BK284.out 1).trans rfl
         have hfz120_0 := blk_frozen BK284.out 0
         have hfz120_1 := blk_frozen BK284.out 1
         go_wp2_with (first | (go_at_call 11; (with_reducible refine (laws_eqClock.calls kj11 t290 _ _ t291 t276 _ _ t277 false _ ?side1 ?side2 ?side3 ?side4 A88.out).mono ?_); (case side1 => repeat (first | exact (Kd.R_reads' HO_299001.out).2.2 | (with_reducible refine Kd.C_alloc ?_ _) | (with_reducible refine Kd.C_drewN ?_ _) | (with_reducible refine Kd.C_drew ?_))); (case side2 => exact (Kd.R_reads' HO_299001.out).2.1); (case side3 => repeat (first | exact (Kd.R_reads' HO_285001.out).2.2 | (with_reducible refine Kd.C_alloc ?_ _) | (with_reducible refine Kd.C_drewN ?_ _) | (with_reducible refine Kd.C_drew ?_))); (case side4 => exact (Kd.R_reads' HO_285001.out).2.1); rintro e w121 ⟨rfl, hb⟩; have n0_ := Aside0.mk (Kd.R_below (by (with_reducible repeat (first | apply Kd.R_alloc | apply Kd.R_drewN | apply Kd.R_drew)); exact HO_7.out) hb); have n1_ := Aside0.mk (Kd.R_below (by (with_reducible repeat (first | apply Kd.R_alloc | apply Kd.R_drewN | apply Kd.R_drew)); exact HO_11.out) hb); have n2_ := Aside0.mk (Kd.R_below (by (with_reducible repeat (first | apply Kd.R_alloc | apply Kd.R_drewN | apply Kd.R_drew)); exact HO_285001.out) hb); have n3_ := Aside0.mk (Kd.R_below (by (with_reducible repeat (first | apply Kd.R_alloc | apply Kd.R_drewN | apply Kd.R_drew)); exact HO_290001.out) hb); have n4_ := Aside0.mk (Kd.R_below (by (with_reducible repeat (first | apply Kd.R_alloc | apply Kd.R_drewN | apply Kd.R_drew)); exact HO_299001.out) hb); have n5_ := Aside0.mk (Kd.R_below (by (with_reducible repeat (first | apply Kd.R_alloc | apply Kd.R_drewN | apply Kd.R_drew)); exact HO304.out) hb); have n6_ := Aside0.mk (blk_below (g := gb270) (o := .cells #[.int .i64 a0_0, .slice A0_1 l0_1.length c0_1] 27 (0, 0)) bkw hb); have n7_ := Aside0.mk (blk_below (g := gb284) (o := .cells #[.int .i64 t276, .slice Ao23 t277.length co23] 31 (0, 0)) bkw hb); have n8_ := Aside0.mk (blk_below (g := gb289) (o := .cells #[.int .i64 t285, .slice Ao30 t286.length co30] 31 (0, 0)) bkw hb); have n9_ := Aside0.mk (blk_below (g := gb298) (o := .cells #[.int .i64 t290, .slice Ao37 t291.length co37] 31 (0, 0)) bkw hb); have n10_ := Aside0.mk (below_step blw hb); clear HO_7; clear HO_11; clear HO_285001; clear HO_290001; clear HO_299001; clear HO304; clear BK270; clear BK284; clear BK289; clear BK298; clear HB; have HO_7 := n0_; have HO_11 := n1_; have HO_285001 := n2_; have HO_290001 := n3_; have HO_299001 := n4_; have HO304 := n5_; have BK270 := n6_; have BK284 := n7_; have BK289 := n8_; have BK298 := n9_; have HB := n10_; clear n0_ n1_ n2_ n3_ n4_ n5_ n6_ n7_ n8_ n9_ n10_; (try clear hb); (try clear hb2); (try clear hk); (try clear hi)))
         go_meet
         case rel => exact ⟨_, (true), (by first | rfl | (simp; done) | (simp [*]; done)), H', ⟨by have := HJ11.out; first | omega | exact Nat.le_refl _⟩, ⟨by (with_reducible repeat (first | apply Kd.R_alloc | apply Kd.R_drewN | apply Kd.R_drew)); exact HO_7.out⟩, ⟨by (with_reducible repeat (first | apply Kd.R_alloc | apply Kd.R_drewN | apply Kd.R_drew)); exact HO_11.out⟩, ⟨by (with_reducible repeat (first | apply Kd.R_alloc | apply Kd.R_drewN | apply Kd.R_drew)); exact Kd.R_mono HO_285001.out (fun _ hk => ⟨hk.1, hk.2.1⟩)⟩, ⟨by (with_reducible repeat (first | apply Kd.R_alloc | apply Kd.R_drewN | apply Kd.R_drew)); exact Kd.R_mono HO_290001.out (fun _ hk => ⟨hk.1.1, hk.1.2⟩)⟩, ⟨by (with_reducible repeat (first | apply Kd.R_alloc | apply Kd.R_drewN | apply Kd.R_drew)); exact Kd.R_mono HO_299001.out (fun _ hk => ⟨hk.1, hk.2.1⟩)⟩, ⟨by (with_reducible repeat (first | refine blk_drewN ?_ _ | refine blk_drew ?_ | refine blk_alloc ?_ _)); exact BK270.out⟩, ⟨by (with_reducible repeat (first | refine blk_drewN ?_ _ | refine blk_drew ?_ | refine blk_alloc ?_ _)); exact BK284.out⟩, ⟨by (with_reducible repeat (first | refine blk_drewN ?_ _ | refine blk_drew ?_ | refine blk_alloc ?_ _)); exact BK289.out⟩, ⟨by (with_reducible repeat (first | refine blk_drewN ?_ _ | refine blk_drew ?_ | refine blk_alloc ?_ _)); exact BK298.out⟩, ⟨blw⟩⟩
      case rest =>
       clear HC77
       try clear c1
       try clear c2
       try clear p2
       try clear c3
       try clear c4
       try clear c4b0
       try clear c5
       try clear c6
       try clear c7
       try clear c8
       try clear c9
       try clear c10
       try clear c11
       try clear c13
       try clear c21
       try clear c27
       try clear c28
       try clear c33
       try clear c34
       try clear c35
       try clear c39
       try clear c41
       try clear c42
       try clear c43
       try clear c44
       try clear c46
       try clear c47
       try clear c53
       try clear c54
       try clear c55
       try clear c57
       try clear c58
       try clear c64
       try clear c65
       try clear c66
       try clear c68
       try clear c69
       try clear c72
       try clear c75
       try clear c82
       try clear c83
       try clear c84
       try clear c87
       try clear c87b0
       try clear c89
       try clear c91
       try clear c92
       try clear c93
       try clear c94
       try clear c96
       try clear c97
       try clear c103
       try clear c104
       try clear c105
       try clear c107
       try clear c108
       try clear c114
       try clear c115
       try clear c116
       try clear c118
       try clear c119
       try clear hcz106_0
       try clear hcz106_1
       try clear hcz109_0
       try clear hcz109_1
       try clear hcz117_0
       try clear hcz117_1
       try clear hcz120_0
       try clear hcz120_1
       try clear hcz14_0
       try clear hcz14_1
       try clear hcz16_0
       try clear hcz16_1
       try clear hcz22_0
       try clear hcz22_1
       try clear hcz24_0
       try clear hcz24_1
       try clear hcz29_0
       try clear hcz29_1
       try clear hcz36_0
       try clear hcz36_1
       try clear hcz45_0
       try clear hcz45_1
       try clear hcz48_0
       try clear hcz48_1
       try clear hcz56_0
       try clear hcz56_1
       try clear hcz59_0
       try clear hcz59_1
       try clear hcz67_0
       try clear hcz67_1
       try clear hcz6_0
       try clear hcz6_1
       try clear hcz70_0
       try clear hcz70_1
       try clear hcz85_0
       try clear hcz85_1
       try clear hcz95_0
       try clear hcz95_1
       try clear hcz98_0
       try clear hcz98_1
       try clear hfz106_0
       try clear hfz106_1
       try clear hfz109_0
       try clear hfz109_1
       try clear hfz117_0
       try clear hfz117_1
       try clear hfz120_0
       try clear hfz120_1
       try clear hfz14_0
       try clear hfz14_1
       try clear hfz16_0
       try clear hfz16_1
       try clear hfz22_0
       try clear hfz22_1
       try clear hfz24_0
       try clear hfz24_1
       try clear hfz29_0
       try clear hfz29_1
       try clear hfz36_0
       try clear hfz36_1
       try clear hfz45_0
       try clear hfz45_1
       try clear hfz48_0
       try clear hfz48_1
       try clear hfz56_0
       try clear hfz56_1
       try clear hfz59_0
       try clear hfz59_1
       try clear hfz67_0
       try clear hfz67_1
       try clear hfz6_0
       try clear hfz6_1
       try clear hfz70_0
       try clear hfz70_1
       try clear hfz85_0
       try clear hfz85_1
       try clear hfz95_0
       try clear hfz95_1
       try clear hfz98_0
       try clear hfz98_1
       try clear p2
       obtain ⟨kq, x82_76, rfl, HA, HJ76, HO_7, HO_11, HO_285001, HO_290001, HO_299001, BK270, BK284, BK289, BK298, HB⟩ := hcut
       have hl290001_76 := (Kd.R_reads' HO_290001.out).1
       rw [hl290001_76] at HO_290001
       (try simp only [hl290001_76])
       (try simp only [hl290001_76] at BK270)
       (try simp only [hl290001_76] at BK284)
       (try simp only [hl290001_76] at BK289)
       (try simp only [hl290001_76] at BK298)
       (try simp only [hl290001_76] at HO_7)
       (try simp only [hl290001_76] at HO_11)
       (try simp only [hl290001_76] at HO_285001)
       (try simp only [hl290001_76] at HO_299001)
       cases kq with
       | zero => exact absurd HA.out (by simp [laws_FnExactRunClock.j1])
       | succ kj76 =>
        have H := HA.out
        clear HA
        simp only [laws_FnExactRunClock.j1] at H
        by_cases c122 : x82_76 = true
        ·subst c122
         have H1 : (some false) = some r := by rw [if_pos rfl] at H; exact H
         subst hr_; cases H1
        ·replace c122 := Bool.eq_false_iff.mpr c122
         subst c122
         have H1 : ((laws_markClock.f kj76 t290 t291 1).bind fun bt310 => ((laws_markFiredS.f kj76 t294 bt310.1).bind fun bt312 => ((laws_heldClock.f kj76 t290 bt310.2 1).bind fun t314 => (if t314 < 0 then (some false) else ((laws_heldFiredS.f kj76 bt312.2 t314).bind fun t315 => (if t315 < 0 then (some false) else (if t315 = bt312.1 then ((laws_toClock.f kj76 a0_0 l0_1).bind fun bt316 => ((impl_RunClock.f kj76 bt316.1 bt316.2 a1).bind fun bt320 => ((laws_eqClock.f kj76 bt320.1 bt320.2.1 t276 t277).bind fun t329 => (if t329 = true then ((laws_eqFiredS.f kj76 bt320.2.2.1 t280).bind fun t330 => (if t330 = true then (laws_FnExactRunClock.j2 kj76 bt312.2 bt312.1 (bt320.2.2.2 != t283) t290 bt310.2) else (laws_FnExactRunClock.j2 kj76 bt312.2 bt312.1 true t290 bt310.2))) else (laws_FnExactRunClock.j2 kj76 bt312.2 bt312.1 true t290 bt310.2))))) else (some false)))))))) = some r := by rw [if_neg (show ¬ (false = true) by decide)] at H; exact H
         clear H
         have H := H1
         clear H1
         replace H := Option.bind_eq_some_iff.mp H
         obtain ⟨⟨t310, t311⟩, A1230, H⟩ := H
         replace H : ((laws_markFiredS.f kj76 t294 t310).bind fun bt312 => ((laws_heldClock.f kj76 t290 t311 1).bind fun t314 => (if t314 < 0 then (some false) else ((laws_heldFiredS.f kj76 bt312.2 t314).bind fun t315 => (if t315 < 0 then (some false) else (if t315 = bt312.1 then ((laws_toClock.f kj76 a0_0 l0_1).bind fun bt316 => ((impl_RunClock.f kj76 bt316.1 bt316.2 a1).bind fun bt320 => ((laws_eqClock.f kj76 bt320.1 bt320.2.1 t276 t277).bind fun t329 => (if t329 = true then ((laws_eqFiredS.f kj76 bt320.2.2.1 t280).bind fun t330 => (if t330 = true then (laws_FnExactRunClock.j2 kj76 bt312.2 bt312.1 (bt320.2.2.2 != t283) t290 t311) else (laws_FnExactRunClock.j2 kj76 bt312.2 bt312.1 true t290 t311))) else (laws_FnExactRunClock.j2 kj76 bt312.2 bt312.1 true t290 t311))))) else (some false))))))) = some r := H
         have A123 := Aside0.mk A1230
         clear A1230
         replace H := Option.bind_eq_some_iff.mp H
         obtain ⟨⟨t312, t313⟩, A1240, H⟩ := H
         replace H : ((laws_heldClock.f kj76 t290 t311 1).bind fun t314 => (if t314 < 0 then (some false) else ((laws_heldFiredS.f kj76 t313 t314).bind fun t315 => (if t315 < 0 then (some false) else (if t315 = t312 then ((laws_toClock.f kj76 a0_0 l0_1).bind fun bt316 => ((impl_RunClock.f kj76 bt316.1 bt316.2 a1).bind fun bt320 => ((laws_eqClock.f kj76 bt320.1 bt320.2.1 t276 t277).bind fun t329 => (if t329 = true then ((laws_eqFiredS.f kj76 bt320.2.2.1 t280).bind fun t330 => (if t330 = true then (laws_FnExactRunClock.j2 kj76 t313 t312 (bt320.2.2.2 != t283) t290 t311) else (laws_FnExactRunClock.j2 kj76 t313 t312 true t290 t311))) else (laws_FnExactRunClock.j2 kj76 t313 t312 true t290 t311))))) else (some false)))))) = some r := H
         have A124 := Aside0.mk A1240
         clear A1240
         replace H := Option.bind_eq_some_iff.mp H
         obtain ⟨t314, A1250, H⟩ := H
         replace H : (if t314 < 0 then (some false) else ((laws_heldFiredS.f kj76 t313 t314).bind fun t315 => (if t315 < 0 then (some false) else (if t315 = t312 then ((laws_toClock.f kj76 a0_0 l0_1).bind fun bt316 => ((impl_RunClock.f kj76 bt316.1 bt316.2 a1).bind fun bt320 => ((laws_eqClock.f kj76 bt320.1 bt320.2.1 t276 t277).bind fun t329 => (if t329 = true then ((laws_eqFiredS.f kj76 bt320.2.2.1 t280).bind fun t330 => (if t330 = true then (laws_FnExactRunClock.j2 kj76 t313 t312 (bt320.2.2.2 != t283) t290 t311) else (laws_FnExactRunClock.j2 kj76 t313 t312 true t290 t311))) else (laws_FnExactRunClock.j2 kj76 t313 t312 true t290 t311))))) else (some false))))) = some r := H
         have A125 := Aside0.mk A1250
         clear A1250
         by_cases c126 : t314 < 0
         ·rw [if_pos c126] at H
          subst hr_; cases H
         ·rw [if_neg c126] at H
          have c126b0 : decide (t314 < 0) = false := decide_eq_false c126
          clear c126
          replace H := Option.bind_eq_some_iff.mp H
          obtain ⟨t315, A1360, H⟩ := H
          replace H : (if t315 < 0 then (some false) else (if t315 = t312 then ((laws_toClock.f kj76 a0_0 l0_1).bind fun bt316 => ((impl_RunClock.f kj76 bt316.1 bt316.2 a1).bind fun bt320 => ((laws_eqClock.f kj76 bt320.1 bt320.2.1 t276 t277).bind fun t329 => (if t329 = true then ((laws_eqFiredS.f kj76 bt320.2.2.1 t280).bind fun t330 => (if t330 = true then (laws_FnExactRunClock.j2 kj76 t313 t312 (bt320.2.2.2 != t283) t290 t311) else (laws_FnExactRunClock.j2 kj76 t313 t312 true t290 t311))) else (laws_FnExactRunClock.j2 kj76 t313 t312 true t290 t311))))) else (some false))) = some r := H
          have A136 := Aside0.mk A1360
          clear A1360
          by_cases c137 : t315 < 0
          ·rw [if_pos c137] at H
           subst hr_; cases H
          ·rw [if_neg c137] at H
           have c137b0 : decide (t315 < 0) = false := decide_eq_false c137
           clear c137
           by_cases c147 : t315 = t312
           ·rw [if_pos c147] at H
            have c147b0 : (t315 == t312) = true := beq_iff_eq.mpr c147
            have c147b1 : (t315 != t312) = false := bne_eq_false_iff_eq.mpr c147
            clear c147
            replace H := Option.bind_eq_some_iff.mp H
            obtain ⟨⟨t316, t317⟩, A1480, H⟩ := H
            replace H : ((impl_RunClock.f kj76 t316 t317 a1).bind fun bt320 => ((laws_eqClock.f kj76 bt320.1 bt320.2.1 t276 t277).bind fun t329 => (if t329 = true then ((laws_eqFiredS.f kj76 bt320.2.2.1 t280).bind fun t330 => (if t330 = true then (laws_FnExactRunClock.j2 kj76 t313 t312 (bt320.2.2.2 != t283) t290 t311) else (laws_FnExactRunClock.j2 kj76 t313 t312 true t290 t311))) else (laws_FnExactRunClock.j2 kj76 t313 t312 true t290 t311)))) = some r := H
            have A148 := Aside0.mk A1480
            clear A1480
            replace H := Option.bind_eq_some_iff.mp H
            obtain ⟨⟨t320, t321, t324, t327⟩, A1490, H⟩ := H
            replace H : ((laws_eqClock.f kj76 t320 t321 t276 t277).bind fun t329 => (if t329 = true then ((laws_eqFiredS.f kj76 t324 t280).bind fun t330 => (if t330 = true then (laws_FnExactRunClock.j2 kj76 t313 t312 (t327 != t283) t290 t311) else (laws_FnExactRunClock.j2 kj76 t313 t312 true t290 t311))) else (laws_FnExactRunClock.j2 kj76 t313 t312 true t290 t311))) = some r := H
            have A149 := Aside0.mk A1490
            clear A1490
            have HC150 := Aside0.mk H
            clear H
            have hnb151 := NB298_270.out
            have hnc151 := NB270_298.out
            have hnb152 := NB298_284.out
            have hnc152 := NB284_298.out
            have hnb153 := NB298_289.out
            have hnc153 := NB289_298.out
            have hcz154_0 : wc.cell? ⟨gb298, 0, none⟩ = some (.int .i64 t290) := (blk_cell BK298.out 0).trans rfl
            have hcz154_1 : wc.cell? ⟨gb298, 1, none⟩ = some (.slice Ao37 t291.length co37) := (blk_cell BK298.out 1).trans rfl
            have hfz154_0 := blk_frozen BK298.out 0
            have hfz154_1 := blk_frozen BK298.out 1
            go_upto_region 29 with (first | ((with_reducible refine gate_callee (f := 13) rfl ?_); refine goesL_ (some 85) rfl rfl Try.func13 (by kernel_rfl) rfl #[.agg #[.int .i64 t290, .slice Ao37 t291.length co37], .int .i64 1] rfl (by (try simp only [List.map_toArray, List.map_cons, List.map_nil]); first | done | rfl | (simp only [List.length_drop, List.length_take]; rfl)) ?_; (with_reducible refine (laws_markClock.calls kj76 t290 (fun k_ => some k_ = (.slice Ao37 t291.length co37 : Value).ownBlock) (.slice Ao37 t291.length co37) t291 1 t310 t311 w _ ?side1 ?side2 A123.out).mono ?_); (case side1 => repeat (first | (with_reducible first | exact HB.out | apply below_alloc | apply pw_below_drewN | apply below_drew1 | refine below_set ?_ GE270.out | refine below_set ?_ GE284.out | refine below_set ?_ GE289.out | refine below_set ?_ GE298.out) | exact HB.out)); (case side2 => exact Kd.R_tight rfl HO_299001.out); rintro e w155 ⟨rfl, hy0, hb, hkp⟩; refine ⟨_, rfl, ?_⟩; have n0_ := Aside0.mk (Kd.R_mono (ok' := fun k_ => some k_ ≠ (v295 : Value).ownBlock) (Kd.R_keptB ((Kd.R_apart' HO_7.out (Kd.R_typed HO_299001.out) (by decide))) hkp (fun k_ hk_ hs_ => (hk_.2) hs_)) (fun k_ hk_ => hk_.1.1)); have n1_ := Aside0.mk (Kd.R_mono (ok' := fun k_ => some k_ ≠ (v281 : Value).ownBlock) (Kd.R_keptB ((Kd.R_apart' HO_11.out (Kd.R_typed HO_299001.out) (by decide))) hkp (fun k_ hk_ hs_ => (hk_.2) hs_)) (fun k_ hk_ => hk_.1.1)); have n2_ := Aside0.mk (Kd.R_mono (ok' := fun k_ => some k_ ≠ (.slice Ao30 t307.length co30 : Value).ownBlock ∧ some k_ ≠ (.slice Ao37 t291.length co37 : Value).ownBlock) (Kd.R_keptB (HO_285001.out) hkp (fun k_ hk_ hs_ => (hk_.2) hs_)) (fun k_ hk_ => ⟨hk_.1.1, hk_.1.2⟩)); have n3_ := Aside0.mk (Kd.R_mono (ok' := fun k_ => some k_ ≠ (.slice Ao23 t277.length co23 : Value).ownBlock ∧ some k_ ≠ (.slice Ao37 t291.length co37 : Value).ownBlock) (Kd.R_keptB (HO_290001.out) hkp (fun k_ hk_ hs_ => (hk_.2) hs_)) (fun k_ hk_ => ⟨hk_.1.1, hk_.1.2⟩)); have n4_ := Aside0.mk (Kd.R_reok rfl hy0 (fun k_ e_ => HO_299001.out.1 k_ e_)); have n5_ := Aside0.mk (blk_kept bkw hkp (fun hs_ => (fun e_ => (Kd.R_ne HO_299001.out BK270.out (by decide)) e_) hs_)); have n6_ := Aside0.mk (blk_kept bkw hkp (fun hs_ => (fun e_ => (Kd.R_ne HO_299001.out BK284.out (by decide)) e_) hs_)); have n7_ := Aside0.mk (blk_kept bkw hkp (fun hs_ => (fun e_ => (Kd.R_ne HO_299001.out BK289.out (by decide)) e_) hs_)); have n8_ := Aside0.mk (blk_kept bkw hkp (fun hs_ => (fun e_ => (Kd.R_ne HO_299001.out BK298.out (by decide)) e_) hs_)); have n9_ := Aside0.mk (hb); clear HO_7; clear HO_11; clear HO_285001; clear HO_290001; clear HO_299001; clear BK270; clear BK284; clear BK289; clear BK298; clear HB; have HO_7 := n0_; have HO_11 := n1_; have HO_285001 := n2_; have HO_290001 := n3_; have HO_299001 := n4_; have BK270 := n5_; have BK284 := n6_; have BK289 := n7_; have BK298 := n8_; have HB := n9_; clear n0_ n1_ n2_ n3_ n4_ n5_ n6_ n7_ n8_ n9_; (try clear hb); (try clear hkp); (try clear hy0); obtain ⟨Ao156, co156, eo156⟩ := Kd.R_slice HO_11.out; subst eo156) | ((with_reducible refine gate_callee (f := 14) rfl ?_); refine goesL_ (some 88) rfl rfl Try.func14 (by kernel_rfl) rfl #[.slice Ao156 t294.length co156, .int .i64 t310] rfl (by (try simp only [List.map_toArray, List.map_cons, List.map_nil]); first | done | rfl | (simp only [List.length_drop, List.length_take]; rfl)) ?_; (with_reducible refine (laws_markFiredS.calls kj76 (fun k_ => some k_ = (.slice Ao156 t294.length co156 : Value).ownBlock) (.slice Ao156 t294.length co156) t294 t310 t312 t313 w _ ?side1 ?side2 A124.out).mono ?_); (case side1 => repeat (first | (with_reducible first | exact HB.out | apply below_alloc | apply pw_below_drewN | apply below_drew1 | refine below_set ?_ GE270.out | refine below_set ?_ GE284.out | refine below_set ?_ GE289.out | refine below_set ?_ GE298.out) | exact HB.out)); (case side2 => exact Kd.R_tight rfl HO_11.out); rintro e w157 ⟨rfl, hy0, hb, hkp⟩; refine ⟨_, rfl, ?_⟩; have n0_ := Aside0.mk (Kd.R_mono (ok' := fun k_ => some k_ ≠ (.slice Ao156 t294.length co156 : Value).ownBlock) (Kd.R_keptB (HO_7.out) hkp (fun k_ hk_ hs_ => (hk_) hs_)) (fun k_ hk_ => hk_.1)); have n1_ := Aside0.mk (Kd.R_reok rfl hy0 (fun k_ e_ => HO_11.out.1 k_ e_)); have n2_ := Aside0.mk (Kd.R_mono (ok' := fun k_ => some k_ ≠ (.slice Ao30 t307.length co30 : Value).ownBlock ∧ some k_ ≠ (.slice Ao37 t291.length co37 : Value).ownBlock) (Kd.R_keptB ((Kd.R_apart' HO_285001.out (Kd.R_typed HO_11.out) (by decide))) hkp (fun k_ hk_ hs_ => (hk_.2) hs_)) (fun k_ hk_ => ⟨hk_.1.1.1, hk_.1.1.2⟩)); have n3_ := Aside0.mk (Kd.R_mono (ok' := fun k_ => some k_ ≠ (.slice Ao23 t277.length co23 : Value).ownBlock ∧ some k_ ≠ (.slice Ao37 t291.length co37 : Value).ownBlock) (Kd.R_keptB ((Kd.R_apart' HO_290001.out (Kd.R_typed HO_11.out) (by decide))) hkp (fun k_ hk_ hs_ => (hk_.2) hs_)) (fun k_ hk_ => ⟨hk_.1.1.1, hk_.1.1.2⟩)); have n4_ := Aside0.mk (Kd.R_mono (ok' := fun k_ => some k_ ≠ (.slice Ao23 t277.length co23 : Value).ownBlock ∧ some k_ ≠ (.slice Ao30 t307.length co30 : Value).ownBlock) (Kd.R_keptB ((Kd.R_apart' HO_299001.out (Kd.R_typed HO_11.out) (by decide))) hkp (fun k_ hk_ hs_ => (hk_.2) hs_)) (fun k_ hk_ => ⟨hk_.1.1.1, hk_.1.1.2⟩)); have n5_ := Aside0.mk (blk_kept bkw hkp (fun hs_ => (fun e_ => (Kd.R_ne HO_11.out BK270.out (by decide)) e_) hs_)); have n6_ := Aside0.mk (blk_kept bkw hkp (fun hs_ => (fun e_ => (Kd.R_ne HO_11.out BK284.out (by decide)) e_) hs_)); have n7_ := Aside0.mk (blk_kept bkw hkp (fun hs_ => (fun e_ => (Kd.R_ne HO_11.out BK289.out (by decide)) e_) hs_)); have n8_ := Aside0.mk (blk_kept bkw hkp (fun hs_ => (fun e_ => (Kd.R_ne HO_11.out BK298.out (by decide)) e_) hs_)); have n9_ := Aside0.mk (hb); clear HO_7; clear HO_11; clear HO_285001; clear HO_290001; clear HO_299001; clear BK270; clear BK284; clear BK289; clear BK298; clear HB; have HO_7 := n0_; have HO_11 := n1_; have HO_285001 := n2_; have HO_290001 := n3_; have HO_299001 := n4_; have BK270 := n5_; have BK284 := n6_; have BK289 := n7_; have BK298 := n8_; have HB := n9_; clear n0_ n1_ n2_ n3_ n4_ n5_ n6_ n7_ n8_ n9_; (try clear hb); (try clear hkp); (try clear hy0); have hcz158_0 : w157.cell? ⟨gb298, 0, none⟩ = some (.int .i64 t290) := (blk_cell BK298.out 0).trans rfl; have hcz158_1 : w157.cell? ⟨gb298, 1, none⟩ = some (.slice Ao37 t291.length co37) := (blk_cell BK298.out 1).trans rfl; have hfz158_0 := blk_frozen BK298.out 0; have hfz158_1 := blk_frozen BK298.out 1) | ((with_reducible refine gate_callee (f := 15) rfl ?_); refine goesL_ (some 91) rfl rfl Try.func15 (by kernel_rfl) rfl #[.agg #[.int .i64 t290, .slice Ao37 t311.length co37], .int .i64 1] rfl (by (try simp only [List.map_toArray, List.map_cons, List.map_nil]); first | done | (rw [show t311.length = t291.length from (Kd.R_reads' HO_299001.out).1.symm] <;> rfl) | rfl | (simp only [List.length_drop, List.length_take]; rfl)) ?_; (with_reducible refine (laws_heldClock.calls kj76 t290 _ _ t311 1 t314 _ ?side1 ?side2 A125.out).mono ?_); (case side1 => repeat (first | exact (Kd.R_reads' HO_299001.out).2.2 | (with_reducible refine Kd.C_alloc ?_ _) | (with_reducible refine Kd.C_drewN ?_ _) | (with_reducible refine Kd.C_drew ?_))); (case side2 => rw [show t311.length = t291.length from (Kd.R_reads' HO_299001.out).1.symm]; exact (Kd.R_reads' HO_299001.out).2.1); rintro e w159 ⟨rfl, hb⟩; refine ⟨_, rfl, ?_⟩; have n0_ := Aside0.mk (Kd.R_below (by (with_reducible repeat (first | apply Kd.R_alloc | apply Kd.R_drewN | apply Kd.R_drew)); exact HO_7.out) hb); have n1_ := Aside0.mk (Kd.R_below (by (with_reducible repeat (first | apply Kd.R_alloc | apply Kd.R_drewN | apply Kd.R_drew)); exact HO_11.out) hb); have n2_ := Aside0.mk (Kd.R_below (by (with_reducible repeat (first | apply Kd.R_alloc | apply Kd.R_drewN | apply Kd.R_drew)); exact HO_285001.out) hb); have n3_ := Aside0.mk (Kd.R_below (by (with_reducible repeat (first | apply Kd.R_alloc | apply Kd.R_drewN | apply Kd.R_drew)); exact HO_290001.out) hb); have n4_ := Aside0.mk (Kd.R_below (by (with_reducible repeat (first | apply Kd.R_alloc | apply Kd.R_drewN | apply Kd.R_drew)); exact HO_299001.out) hb); have n5_ := Aside0.mk (blk_below (g := gb270) (o := .cells #[.int .i64 a0_0, .slice A0_1 l0_1.length c0_1] 27 (0, 0)) bkw hb); have n6_ := Aside0.mk (blk_below (g := gb284) (o := .cells #[.int .i64 t276, .slice Ao23 t277.length co23] 31 (0, 0)) bkw hb); have n7_ := Aside0.mk (blk_below (g := gb289) (o := .cells #[.int .i64 t285, .slice Ao30 t307.length co30] 31 (0, 0)) bkw hb); have n8_ := Aside0.mk (blk_below (g := gb298) (o := .cells #[.int .i64 t290, .slice Ao37 t291.length co37] 31 (0, 0)) bkw hb); have n9_ := Aside0.mk (below_step blw hb); clear HO_7; clear HO_11; clear HO_285001; clear HO_290001; clear HO_299001; clear BK270; clear BK284; clear BK289; clear BK298; clear HB; have HO_7 := n0_; have HO_11 := n1_; have HO_285001 := n2_; have HO_290001 := n3_; have HO_299001 := n4_; have BK270 := n5_; have BK284 := n6_; have BK289 := n7_; have BK298 := n8_; have HB := n9_; clear n0_ n1_ n2_ n3_ n4_ n5_ n6_ n7_ n8_ n9_; (try clear hb); (try clear hb2); (try clear hk); (try clear hi)) | ((with_reducible refine gate_callee (f := 16) rfl ?_); refine goesL_ (some 96) rfl rfl Try.func16 (by kernel_rfl) rfl #[.slice Ao156 t313.length co156, .int .i64 t314] rfl (by (try simp only [List.map_toArray, List.map_cons, List.map_nil]); first | done | (rw [show t313.length = t294.length from (Kd.R_reads' HO_11.out).1.symm] <;> rfl) | rfl | (simp only [List.length_drop, List.length_take]; rfl)) ?_; (with_reducible refine (laws_heldFiredS.calls kj76 _ _ t313 t314 t315 _ ?side1 ?side2 A136.out).mono ?_); (case side1 => repeat (first | exact (Kd.R_reads' HO_11.out).2.2 | (with_reducible refine Kd.C_alloc ?_ _) | (with_reducible refine Kd.C_drewN ?_ _) | (with_reducible refine Kd.C_drew ?_))); (case side2 => rw [show t313.length = t294.length from (Kd.R_reads' HO_11.out).1.symm]; exact (Kd.R_reads' HO_11.out).2.1); rintro e w' ⟨rfl, ⟨nd, rfl⟩⟩; refine ⟨_, rfl, ?_⟩; (try (rw [drewN_self w159]; generalize hq_ : World.drewN w159 _ = w159; have n0_ : Aside0 (Kd.R k56 56 w159 w.heap.size (fun k_ => some k_ ≠ (v281 : Value).ownBlock) (.slice Ao156 t294.length co156) t313) := ⟨by rw [← hq_]; exact (by (with_reducible repeat (first | apply Kd.R_alloc | apply Kd.R_drewN | apply Kd.R_drew)); exact HO_11.out)⟩; have n1_ : Aside0 (Kd.R k54 54 w159 w.heap.size (fun k_ => some k_ ≠ (.slice Ao30 t307.length co30 : Value).ownBlock ∧ some k_ ≠ (.slice Ao37 t291.length co37 : Value).ownBlock) (.slice Ao23 t277.length co23) t277) := ⟨by rw [← hq_]; exact (by (with_reducible repeat (first | apply Kd.R_alloc | apply Kd.R_drewN | apply Kd.R_drew)); exact HO_285001.out)⟩; have n2_ : Aside0 (Kd.R k54 54 w159 w.heap.size (fun k_ => some k_ ≠ (.slice Ao23 t277.length co23 : Value).ownBlock ∧ some k_ ≠ (.slice Ao37 t291.length co37 : Value).ownBlock) (.slice Ao30 t307.length co30) t307) := ⟨by rw [← hq_]; exact (by (with_reducible repeat (first | apply Kd.R_alloc | apply Kd.R_drewN | apply Kd.R_drew)); exact HO_290001.out)⟩; have n3_ : Aside0 (Kd.R k54 54 w159 w.heap.size (fun k_ => some k_ ≠ (.slice Ao23 t277.length co23 : Value).ownBlock ∧ some k_ ≠ (.slice Ao30 t307.length co30 : Value).ownBlock) (.slice Ao37 t291.length co37) t311) := ⟨by rw [← hq_]; exact (by (with_reducible repeat (first | apply Kd.R_alloc | apply Kd.R_drewN | apply Kd.R_drew)); exact HO_299001.out)⟩; have n4_ : Aside0 (Kd.R k56 56 w159 w.heap.size (fun k_ => some k_ ≠ (.slice Ao156 t294.length co156 : Value).ownBlock) v281 t280) := ⟨by rw [← hq_]; exact (by (with_reducible repeat (first | apply Kd.R_alloc | apply Kd.R_drewN | apply Kd.R_drew)); exact HO_7.out)⟩; have n5_ : Aside0 (w159.heap[gb270]? = some (.cells #[.int .i64 a0_0, .slice A0_1 l0_1.length c0_1] 27 (0, 0))) := ⟨by rw [← hq_]; exact bkw⟩; have n6_ : Aside0 (w159.heap[gb284]? = some (.cells #[.int .i64 t276, .slice Ao23 t277.length co23] 31 (0, 0))) := ⟨by rw [← hq_]; exact bkw⟩; have n7_ : Aside0 (w159.heap[gb289]? = some (.cells #[.int .i64 t285, .slice Ao30 t307.length co30] 31 (0, 0))) := ⟨by rw [← hq_]; exact bkw⟩; have n8_ : Aside0 (w159.heap[gb298]? = some (.cells #[.int .i64 t290, .slice Ao37 t291.length co37] 31 (0, 0))) := ⟨by rw [← hq_]; exact bkw⟩; have n9_ : Aside0 (Below w.heap.size w w159) := ⟨by rw [← hq_]; exact blw⟩; clear HO_11 HO_285001 HO_290001 HO_299001 HO_7 BK270 BK284 BK289 BK298 HB hq_; have HO_11 := n0_; have HO_285001 := n1_; have HO_290001 := n2_; have HO_299001 := n3_; have HO_7 := n4_; have BK270 := n5_; have BK284 := n6_; have BK289 := n7_; have BK298 := n8_; have HB := n9_; clear n0_ n1_ n2_ n3_ n4_ n5_ n6_ n7_ n8_ n9_)); have hnb160 := NB270_284.out; have hnc160 := NB284_270.out; have hnb161 := NB270_289.out; have hnc161 := NB289_270.out; have hcz162_0 : w159.cell? ⟨gb270, 0, none⟩ = some (.int .i64 a0_0) := (blk_cell BK270.out 0).trans rfl; have hcz162_1 : w159.cell? ⟨gb270, 1, none⟩ = some (.slice A0_1 l0_1.length c0_1) := (blk_cell BK270.out 1).trans rfl; have hfz162_0 := blk_frozen BK270.out 0; have hfz162_1 := blk_frozen BK270.out 1) | ((with_reducible refine gate_callee (f := 9) rfl ?_); refine goesL_ (some 104) rfl rfl Try.func9 (by kernel_rfl) rfl #[.agg #[.int .i64 a0_0, .slice A0_1 l0_1.length c0_1]] rfl (by (try simp only [List.map_toArray, List.map_cons, List.map_nil]); first | done | rfl | (simp only [List.length_drop, List.length_take]; rfl)) ?_; (with_reducible refine (laws_toClock.calls kj76 a0_0 _ _ l0_1 t316 t317 _ ?side1 ?side2 A148.out).mono ?_); (case side1 => repeat (first | exact (Kd.C_below HR0_1.out HB.out) | (with_reducible refine Kd.C_alloc ?_ _) | (with_reducible refine Kd.C_drewN ?_ _) | (with_reducible refine Kd.C_drew ?_))); (case side2 => exact HC0_1.out); rintro e w163 ⟨v318, rfl, ho0, hb⟩; refine ⟨_, rfl, ?_⟩; have n0_ := Aside0.mk (Kd.R_below (by (with_reducible repeat (first | apply Kd.R_alloc | apply Kd.R_drewN | apply Kd.R_drew)); exact HO_7.out) hb); have n1_ := Aside0.mk (Kd.R_below (by (with_reducible repeat (first | apply Kd.R_alloc | apply Kd.R_drewN | apply Kd.R_drew)); exact HO_11.out) hb); have n2_ := Aside0.mk (Kd.R_elder' (by (with_reducible repeat (first | apply Kd.R_alloc | apply Kd.R_drewN | apply Kd.R_drew)); exact HO_285001.out) (Kd.R_base ho0) hb); have n3_ := Aside0.mk (Kd.R_elder' (by (with_reducible repeat (first | apply Kd.R_alloc | apply Kd.R_drewN | apply Kd.R_drew)); exact HO_290001.out) (Kd.R_base ho0) hb); have n4_ := Aside0.mk (Kd.R_elder' (by (with_reducible repeat (first | apply Kd.R_alloc | apply Kd.R_drewN | apply Kd.R_drew)); exact HO_299001.out) (Kd.R_base ho0) hb); have n5_ := Aside0.mk (Kd.R_lower (Kd.R_new' (Kd.R_new' (Kd.R_new' ho0 (Kd.R_lt (by (with_reducible repeat (first | apply Kd.R_alloc | apply Kd.R_drewN | apply Kd.R_drew)); exact HO_285001.out))) (Kd.R_lt (by (with_reducible repeat (first | apply Kd.R_alloc | apply Kd.R_drewN | apply Kd.R_drew)); exact HO_290001.out))) (Kd.R_lt (by (with_reducible repeat (first | apply Kd.R_alloc | apply Kd.R_drewN | apply Kd.R_drew)); exact HO_299001.out))) (below_size blw)); have n6_ := Aside0.mk (blk_below (g := gb270) (o := .cells #[.int .i64 a0_0, .slice A0_1 l0_1.length c0_1] 27 (0, 0)) bkw hb); have n7_ := Aside0.mk (blk_below (g := gb284) (o := .cells #[.int .i64 t276, .slice Ao23 t277.length co23] 31 (0, 0)) bkw hb); have n8_ := Aside0.mk (blk_below (g := gb289) (o := .cells #[.int .i64 t285, .slice Ao30 t307.length co30] 31 (0, 0)) bkw hb); have n9_ := Aside0.mk (blk_below (g := gb298) (o := .cells #[.int .i64 t290, .slice Ao37 t291.length co37] 31 (0, 0)) bkw hb); have n10_ := Aside0.mk (below_step blw hb); clear HO_7; clear HO_11; clear HO_285001; clear HO_290001; clear HO_299001; clear BK270; clear BK284; clear BK289; clear BK298; clear HB; have HO_7 := n0_; have HO_11 := n1_; have HO_285001 := n2_; have HO_290001 := n3_; have HO_299001 := n4_; have HO319 := n5_; have BK270 := n6_; have BK284 := n7_; have BK289 := n8_; have BK298 := n9_; have HB := n10_; clear n0_ n1_ n2_ n3_ n4_ n5_ n6_ n7_ n8_ n9_ n10_; (try clear hb); (try clear hb2); (try clear hk); (try clear hi); (try clear ho0); obtain ⟨Ao164, co164, eo164⟩ := Kd.R_slice HO319.out; subst eo164) | ((with_reducible refine gate_callee (f := 10) rfl ?_); refine goesL_ (some 106) rfl rfl Try.func10 (by kernel_rfl) rfl #[.agg #[.int .i64 t316, .slice Ao164 t317.length co164], .int .i64 a1] rfl (by (try simp only [List.map_toArray, List.map_cons, List.map_nil]); first | done | rfl | (simp only [List.length_drop, List.length_take]; rfl)) ?_; (with_reducible refine (impl_RunClock.calls kj76 t316 _ _ t317 a1 t320 t321 t324 t327 _ ?side1 ?side2 A149.out).mono ?_); (case side1 => repeat (first | exact (Kd.R_reads' HO319.out).2.2 | (with_reducible refine Kd.C_alloc ?_ _) | (with_reducible refine Kd.C_drewN ?_ _) | (with_reducible refine Kd.C_drew ?_))); (case side2 => exact (Kd.R_reads' HO319.out).2.1); rintro e w165 ⟨v322, v325, rfl, ho0, ho1, hb⟩; refine ⟨_, rfl, ?_⟩; have n0_ := Aside0.mk (Kd.R_elder' (by (with_reducible repeat (first | apply Kd.R_alloc | apply Kd.R_drewN | apply Kd.R_drew)); exact HO_7.out) (Kd.R_base ho1) hb); have n1_ := Aside0.mk (Kd.R_elder' (by (with_reducible repeat (first | apply Kd.R_alloc | apply Kd.R_drewN | apply Kd.R_drew)); exact HO_11.out) (Kd.R_base ho1) hb); have n2_ := Aside0.mk (Kd.R_elder' (by (with_reducible repeat (first | apply Kd.R_alloc | apply Kd.R_drewN | apply Kd.R_drew)); exact HO_285001.out) (Kd.R_base ho0) hb); have n3_ := Aside0.mk (Kd.R_elder' (by (with_reducible repeat (first | apply Kd.R_alloc | apply Kd.R_drewN | apply Kd.R_drew)); exact HO_290001.out) (Kd.R_base ho0) hb); have n4_ := Aside0.mk (Kd.R_elder' (by (with_reducible repeat (first | apply Kd.R_alloc | apply Kd.R_drewN | apply Kd.R_drew)); exact HO_299001.out) (Kd.R_base ho0) hb); have n5_ := Aside0.mk (Kd.R_elder' (by (with_reducible repeat (first | apply Kd.R_alloc | apply Kd.R_drewN | apply Kd.R_drew)); exact HO319.out) (Kd.R_base ho0) hb); have n6_ := Aside0.mk (Kd.R_lower (Kd.R_new' (Kd.R_new' (Kd.R_new' (Kd.R_new' ho0 (Kd.R_lt (by (with_reducible repeat (first | apply Kd.R_alloc | apply Kd.R_drewN | apply Kd.R_drew)); exact HO_285001.out))) (Kd.R_lt (by (with_reducible repeat (first | apply Kd.R_alloc | apply Kd.R_drewN | apply Kd.R_drew)); exact HO_290001.out))) (Kd.R_lt (by (with_reducible repeat (first | apply Kd.R_alloc | apply Kd.R_drewN | apply Kd.R_drew)); exact HO_299001.out))) (Kd.R_lt (by (with_reducible repeat (first | apply Kd.R_alloc | apply Kd.R_drewN | apply Kd.R_drew)); exact HO319.out))) (below_size blw)); have n7_ := Aside0.mk (Kd.R_lower (Kd.R_new' (Kd.R_new' ho1 (Kd.R_lt (by (with_reducible repeat (first | apply Kd.R_alloc | apply Kd.R_drewN | apply Kd.R_drew)); exact HO_7.out))) (Kd.R_lt (by (with_reducible repeat (first | apply Kd.R_alloc | apply Kd.R_drewN | apply Kd.R_drew)); exact HO_11.out))) (below_size blw)); have n8_ := Aside0.mk (blk_below (g := gb270) (o := .cells #[.int .i64 a0_0, .slice A0_1 l0_1.length c0_1] 27 (0, 0)) bkw hb); have n9_ := Aside0.mk (blk_below (g := gb284) (o := .cells #[.int .i64 t276, .slice Ao23 t277.length co23] 31 (0, 0)) bkw hb); have n10_ := Aside0.mk (blk_below (g := gb289) (o := .cells #[.int .i64 t285, .slice Ao30 t307.length co30] 31 (0, 0)) bkw hb); have n11_ := Aside0.mk (blk_below (g := gb298) (o := .cells #[.int .i64 t290, .slice Ao37 t291.length co37] 31 (0, 0)) bkw hb); have n12_ := Aside0.mk (below_step blw hb); clear HO_7; clear HO_11; clear HO_285001; clear HO_290001; clear HO_299001; clear HO319; clear BK270; clear BK284; clear BK289; clear BK298; clear HB; have HO_7 := n0_; have HO_11 := n1_; have HO_285001 := n2_; have HO_290001 := n3_; have HO_299001 := n4_; have HO319 := n5_; have HO323 := n6_; have HO326 := n7_; have BK270 := n8_; have BK284 := n9_; have BK289 := n10_; have BK298 := n11_; have HB := n12_; clear n0_ n1_ n2_ n3_ n4_ n5_ n6_ n7_ n8_ n9_ n10_ n11_ n12_; (try clear hb); (try clear hb2); (try clear hk); (try clear hi); (try clear ho0); (try clear ho1)) | ((with_reducible refine gate_dst (N := 16) rfl ?_); refine box_event ?hg (N := 16) ?hd (cs := #[.int .i64 0, .slice none 0 0]) (t := 31) ?hr ?_; (case hd => rfl); (case hg => rfl); (case hr => first | (go_simp; done) | (go_simp; rfl)); intro gb328 hg w166 hbox hb; have n0_ := Aside0.mk (Kd.R_below (by (with_reducible repeat (first | apply Kd.R_alloc | apply Kd.R_drewN | apply Kd.R_drew)); exact HO_7.out) hb); have n1_ := Aside0.mk (Kd.R_below (by (with_reducible repeat (first | apply Kd.R_alloc | apply Kd.R_drewN | apply Kd.R_drew)); exact HO_11.out) hb); have n2_ := Aside0.mk (Kd.R_below (by (with_reducible repeat (first | apply Kd.R_alloc | apply Kd.R_drewN | apply Kd.R_drew)); exact HO_285001.out) hb); have n3_ := Aside0.mk (Kd.R_below (by (with_reducible repeat (first | apply Kd.R_alloc | apply Kd.R_drewN | apply Kd.R_drew)); exact HO_290001.out) hb); have n4_ := Aside0.mk (Kd.R_below (by (with_reducible repeat (first | apply Kd.R_alloc | apply Kd.R_drewN | apply Kd.R_drew)); exact HO_299001.out) hb); have n5_ := Aside0.mk (Kd.R_below (by (with_reducible repeat (first | apply Kd.R_alloc | apply Kd.R_drewN | apply Kd.R_drew)); exact HO319.out) hb); have n6_ := Aside0.mk (Kd.R_below (by (with_reducible repeat (first | apply Kd.R_alloc | apply Kd.R_drewN | apply Kd.R_drew)); exact HO323.out) hb); have n7_ := Aside0.mk (Kd.R_below (by (with_reducible repeat (first | apply Kd.R_alloc | apply Kd.R_drewN | apply Kd.R_drew)); exact HO326.out) hb); have n8_ := Aside0.mk (blk_below (g := gb270) (o := .cells #[.int .i64 a0_0, .slice A0_1 l0_1.length c0_1] 27 (0, 0)) bkw hb); have n9_ := Aside0.mk (blk_below (g := gb284) (o := .cells #[.int .i64 t276, .slice Ao23 t277.length co23] 31 (0, 0)) bkw hb); have n10_ := Aside0.mk (blk_below (g := gb289) (o := .cells #[.int .i64 t285, .slice Ao30 t307.length co30] 31 (0, 0)) bkw hb); have n11_ := Aside0.mk (blk_below (g := gb298) (o := .cells #[.int .i64 t290, .slice Ao37 t291.length co37] 31 (0, 0)) bkw hb); have n12_ := Aside0.mk (below_step blw hb); have n13_ := Aside0.mk (hbox); have n14_ := Aside0.mk ((by rw [hg]; exact (below_size blw) : w.heap.size ≤ gb328)); have n15_ := Aside0.mk ((by rw [hg]; exact (below_size blw) : w.heap.size ≤ gb328)); have n16_ := Aside0.mk ((by rw [hg]; exact Nat.ne_of_lt (blk_lt (g := gb270) (o := .cells #[.int .i64 a0_0, .slice A0_1 l0_1.length c0_1] 27 (0, 0)) bkw) : gb270 ≠ gb328)); have n17_ := Aside0.mk ((by rw [hg]; exact Nat.ne_of_gt (blk_lt (g := gb270) (o := .cells #[.int .i64 a0_0, .slice A0_1 l0_1.length c0_1] 27 (0, 0)) bkw) : gb328 ≠ gb270)); have n18_ := Aside0.mk ((by rw [hg]; exact Nat.ne_of_lt (blk_lt (g := gb284) (o := .cells #[.int .i64 t276, .slice Ao23 t277.length co23] 31 (0, 0)) bkw) : gb284 ≠ gb328)); have n19_ := Aside0.mk ((by rw [hg]; exact Nat.ne_of_gt (blk_lt (g := gb284) (o := .cells #[.int .i64 t276, .slice Ao23 t277.length co23] 31 (0, 0)) bkw) : gb328 ≠ gb284)); have n20_ := Aside0.mk ((by rw [hg]; exact Nat.ne_of_lt (blk_lt (g := gb289) (o := .cells #[.int .i64 t285, .slice Ao30 t307.length co30] 31 (0, 0)) bkw) : gb289 ≠ gb328)); have n21_ := Aside0.mk ((by rw [hg]; exact Nat.ne_of_gt (blk_lt (g := gb289) (o := .cells #[.int .i64 t285, .slice Ao30 t307.length co30] 31 (0, 0)) bkw) : gb328 ≠ gb289)); have n22_ := Aside0.mk ((by rw [hg]; exact Nat.ne_of_lt (blk_lt (g := gb298) (o := .cells #[.int .i64 t290, .slice Ao37 t291.length co37] 31 (0, 0)) bkw) : gb298 ≠ gb328)); have n23_ := Aside0.mk ((by rw [hg]; exact Nat.ne_of_gt (blk_lt (g := gb298) (o := .cells #[.int .i64 t290, .slice Ao37 t291.length co37] 31 (0, 0)) bkw) : gb328 ≠ gb298)); clear HO_7; clear HO_11; clear HO_285001; clear HO_290001; clear HO_299001; clear HO319; clear HO323; clear HO326; clear BK270; clear BK284; clear BK289; clear BK298; clear HB; have HO_7 := n0_; have HO_11 := n1_; have HO_285001 := n2_; have HO_290001 := n3_; have HO_299001 := n4_; have HO319 := n5_; have HO323 := n6_; have HO326 := n7_; have BK270 := n8_; have BK284 := n9_; have BK289 := n10_; have BK298 := n11_; have HB := n12_; have BK328 := n13_; have GW328 := n14_; have GE328 := n15_; have NB270_328 := n16_; have NB328_270 := n17_; have NB284_328 := n18_; have NB328_284 := n19_; have NB289_328 := n20_; have NB328_289 := n21_; have NB298_328 := n22_; have NB328_298 := n23_; clear n0_ n1_ n2_ n3_ n4_ n5_ n6_ n7_ n8_ n9_ n10_ n11_ n12_ n13_ n14_ n15_ n16_ n17_ n18_ n19_ n20_ n21_ n22_ n23_; clear hb hbox hg; have hnb167 := NB328_270.out; have hnc167 := NB270_328.out; have hnb168 := NB328_284.out; have hnc168 := NB284_328.out; have hnb169 := NB328_289.out; have hnc169 := NB289_328.out; have hnb170 := NB328_298.out; have hnc170 := NB298_328.out; have hcz171_0 : w166.cell? ⟨gb328, 0, none⟩ = some (.int .i64 0) := (blk_cell BK328.out 0).trans rfl; have hcz171_1 : w166.cell? ⟨gb328, 1, none⟩ = some (.slice none 0 0) := (blk_cell BK328.out 1).trans rfl; have hfz171_0 := blk_frozen BK328.out 0; have hfz171_1 := blk_frozen BK328.out 1; obtain ⟨Ao172, co172, eo172⟩ := Kd.R_slice HO323.out; subst eo172))
            (try simp only [Act.put, List.setIfInBounds_toArray, List.set_cons_zero, List.set_cons_succ])
            go_cut [124] (fun v124 wc => ∃ (kq : Nat) (x124_149 : Bool), v124 = .bool x124_149 ∧ Aside0 (laws_FnExactRunClock.j2 kq t313 t312 x124_149 t290 t311 = some r) ∧ Aside0 (kq ≤ kj76) ∧ Aside0 (Kd.R k56 56 wc w.heap.size (fun _ => True) (.slice Ao156 t294.length co156) t313) ∧ Aside0 (Kd.R k54 54 wc w.heap.size (fun k_ => some k_ ≠ ((.slice Ao30 t307.length co30) : Value).ownBlock ∧ some k_ ≠ ((.slice Ao37 t291.length co37) : Value).ownBlock ∧ some k_ ≠ ((.slice Ao172 t321.length co172) : Value).ownBlock) (.slice Ao23 t277.length co23) t277) ∧ Aside0 (Kd.R k54 54 wc w.heap.size (fun k_ => some k_ ≠ ((.slice Ao23 t277.length co23) : Value).ownBlock ∧ some k_ ≠ ((.slice Ao37 t291.length co37) : Value).ownBlock ∧ some k_ ≠ ((.slice Ao172 t321.length co172) : Value).ownBlock) (.slice Ao30 t307.length co30) t307) ∧ Aside0 (Kd.R k54 54 wc w.heap.size (fun k_ => some k_ ≠ ((.slice Ao23 t277.length co23) : Value).ownBlock ∧ some k_ ≠ ((.slice Ao30 t307.length co30) : Value).ownBlock ∧ some k_ ≠ ((.slice Ao172 t321.length co172) : Value).ownBlock) (.slice Ao37 t291.length co37) t311) ∧ Aside0 (Kd.R k54 54 wc w.heap.size (fun k_ => some k_ ≠ ((.slice Ao23 t277.length co23) : Value).ownBlock ∧ some k_ ≠ ((.slice Ao30 t307.length co30) : Value).ownBlock ∧ some k_ ≠ ((.slice Ao37 t291.length co37) : Value).ownBlock) (.slice Ao172 t321.length co172) t321) ∧ Aside0 (wc.heap[gb270]? = some (.cells #[.int .i64 a0_0, (.slice A0_1 l0_1.length c0_1)] 27 (0, 0))) ∧ Aside0 (wc.heap[gb284]? = some (.cells #[.int .i64 t276, (.slice Ao23 t277.length co23)] 31 (0, 0))) ∧ Aside0 (wc.heap[gb289]? = some (.cells #[.int .i64 t285, (.slice Ao30 t307.length co30)] 31 (0, 0))) ∧ Aside0 (wc.heap[gb298]? = some (.cells #[.int .i64 t290, (.slice Ao37 t291.length co37)] 31 (0, 0))) ∧ Aside0 (wc.heap[gb328]? = some (.cells #[.int .i64 t320, (.slice Ao172 t321.length co172)] 31 (0, 0))) ∧ Aside0 (Below w.heap.size w wc))
            case first =>
             have H := HC150.out
             clear HC150
             replace H := Option.bind_eq_some_iff.mp H
             obtain ⟨t329, A1730, H⟩ := H
             replace H : (if t329 = true then ((laws_eqFiredS.f kj76 t324 t280).bind fun t330 => (if t330 = true then (laws_FnExactRunClock.j2 kj76 t313 t312 (t327 != t283) t290 t311) else (laws_FnExactRunClock.j2 kj76 t313 t312 true t290 t311))) else (laws_FnExactRunClock.j2 kj76 t313 t312 true t290 t311)) = some r := H
             have A173 := Aside0.mk A1730
             clear A1730
             by_cases c174 : t329 = true
             ·subst c174
              have H1 : ((laws_eqFiredS.f kj76 t324 t280).bind fun t330 => (if t330 = true then (laws_FnExactRunClock.j2 kj76 t313 t312 (t327 != t283) t290 t311) else (laws_FnExactRunClock.j2 kj76 t313 t312 true t290 t311))) = some r := by rw [if_pos rfl] at H; exact H
              clear H
              have H := H1
              clear H1
              replace H := Option.bind_eq_some_iff.mp H
              obtain ⟨t330, A1750, H⟩ := H
              replace H : (if t330 = true then (laws_FnExactRunClock.j2 kj76 t313 t312 (t327 != t283) t290 t311) else (laws_FnExactRunClock.j2 kj76 t313 t312 true t290 t311)) = some r := H
              have A175 := Aside0.mk A1750
              clear A1750
              by_cases c176 : t330 = true
              ·subst c176
               have H1 : (laws_FnExactRunClock.j2 kj76 t313 t312 (t327 != t283) t290 t311) = some r := by rw [if_pos rfl] at H; exact H
               clear H
               have H := H1
               clear H1
               have H' := Aside0.mk H
               clear H
               have hnb177 := NB328_270.out
               have hnc177 := NB270_328.out
               have hnb178 := NB328_284.out
               have hnc178 := NB284_328.out
               have hnb179 := NB328_289.out
               have hnc179 := NB289_328.out
               have hnb180 := NB328_298.out
               have hnc180 := NB298_328.out
               have hcz181_0 : w166.cell? ⟨gb328, 0, none⟩ = some (.int .i64 0) := (blk_cell BK328.out 0).trans rfl
               have hcz181_1 : w166.cell? ⟨gb328, 1, none⟩ = some (.slice none 0 0) := (blk_cell BK328.out 1).trans rfl
               have hfz181_0 := blk_frozen BK328.out 0
               have hfz181_1 := blk_frozen BK328.out 1
               have hnb182 := NB284_270.out
               have hnc182 := NB270_284.out
               have hnb183 := NB284_289.out
               have hnc183 := NB289_284.out
               have hnb184 := NB284_298.out
               have hnc184 := NB298_284.out
               have hcz185_0 : w166.cell? ⟨gb284, 0, none⟩ = some (.int .i64 t276) := (blk_cell BK284.out 0).trans rfl
               have hcz185_1 : w166.cell? ⟨gb284, 1, none⟩ = some (.slice Ao23 t277.length co23) := (blk_cell BK284.out 1).trans rfl
               have hfz185_0 := blk_frozen BK284.out 0
               have hfz185_1 := blk_frozen BK284.out 1
               go_wp2_with (first | ((with_reducible refine gate_callee (f := 11) rfl ?_); refine goesL_ (some 112) rfl rfl Try.func11 (by kernel_rfl) rfl #[.agg #[.int .i64 t320, .slice Ao172 t321.length co172], .agg #[.int .i64 t276, .slice Ao23 t277.length co23]] rfl (by (try simp only [List.map_toArray, List.map_cons, List.map_nil]); first | done | rfl | (simp only [List.length_drop, List.length_take]; rfl)) ?_; (with_reducible refine (laws_eqClock.calls kj76 t320 _ _ t321 t276 _ _ t277 true _ ?side1 ?side2 ?side3 ?side4 A173.out).mono ?_); (case side1 => refine (Kd.R_reads' (e := 54) (base := w.heap.size) (ok := fun k_ => ((((True ∧ some k_ ≠ (.slice Ao23 t277.length co23 : Value).ownBlock) ∧ some k_ ≠ (.slice Ao30 t307.length co30 : Value).ownBlock) ∧ some k_ ≠ (.slice Ao37 t291.length co37 : Value).ownBlock) ∧ some k_ ≠ (.slice Ao164 t317.length co164 : Value).ownBlock)) (n := t321.length) (c := co172) ?_).2.2; exact (by (with_reducible repeat (first | apply Kd.R_alloc | apply Kd.R_drewN | apply Kd.R_drew)); exact (Kd.R_mono (Kd.R_far (p := ⟨gb328, 1, none⟩) (Kd.R_far (p := ⟨gb328, 0, none⟩) (Kd.R_types HO323.out BK328.out (by decide)) (fun _ hk => hk.2) (.int .i64 t320)) (fun _ hk => hk.2) (.slice Ao172 t321.length co172)) (fun _ h_ => h_.1)))); (case side2 => exact (Kd.R_reads' HO323.out).2.1); (case side3 => refine (Kd.R_reads' (e := 54) (base := w.heap.size) (ok := fun k_ => (((some k_ ≠ (.slice Ao30 t307.length co30 : Value).ownBlock ∧ some k_ ≠ (.slice Ao37 t291.length co37 : Value).ownBlock) ∧ some k_ ≠ (.slice Ao164 t317.length co164 : Value).ownBlock) ∧ some k_ ≠ (.slice Ao172 t321.length co172 : Value).ownBlock)) (n := t277.length) (c := co23) ?_).2.2; exact (by (with_reducible repeat (first | apply Kd.R_alloc | apply Kd.R_drewN | apply Kd.R_drew)); exact (Kd.R_mono (Kd.R_far (p := ⟨gb328, 1, none⟩) (Kd.R_far (p := ⟨gb328, 0, none⟩) (Kd.R_types HO_285001.out BK328.out (by decide)) (fun _ hk => hk.2) (.int .i64 t320)) (fun _ hk => hk.2) (.slice Ao172 t321.length co172)) (fun _ h_ => h_.1)))); (case side4 => exact (Kd.R_reads' HO_285001.out).2.1); rintro e w186 ⟨rfl, hb⟩; refine ⟨_, rfl, ?_⟩; have n0_ := Aside0.mk (Kd.R_below (by (with_reducible repeat (first | apply Kd.R_alloc | apply Kd.R_drewN | apply Kd.R_drew)); exact (Kd.R_mono (Kd.R_far (p := ⟨gb328, 1, none⟩) (Kd.R_far (p := ⟨gb328, 0, none⟩) (Kd.R_types HO_7.out BK328.out (by decide)) (fun _ hk => hk.2) (.int .i64 t320)) (fun _ hk => hk.2) (.slice Ao172 t321.length co172)) (fun _ h_ => h_.1))) hb); have n1_ := Aside0.mk (Kd.R_below (by (with_reducible repeat (first | apply Kd.R_alloc | apply Kd.R_drewN | apply Kd.R_drew)); exact (Kd.R_mono (Kd.R_far (p := ⟨gb328, 1, none⟩) (Kd.R_far (p := ⟨gb328, 0, none⟩) (Kd.R_types HO_11.out BK328.out (by decide)) (fun _ hk => hk.2) (.int .i64 t320)) (fun _ hk => hk.2) (.slice Ao172 t321.length co172)) (fun _ h_ => h_.1))) hb); have n2_ := Aside0.mk (Kd.R_below (by (with_reducible repeat (first | apply Kd.R_alloc | apply Kd.R_drewN | apply Kd.R_drew)); exact (Kd.R_mono (Kd.R_far (p := ⟨gb328, 1, none⟩) (Kd.R_far (p := ⟨gb328, 0, none⟩) (Kd.R_types HO_285001.out BK328.out (by decide)) (fun _ hk => hk.2) (.int .i64 t320)) (fun _ hk => hk.2) (.slice Ao172 t321.length co172)) (fun _ h_ => h_.1))) hb); have n3_ := Aside0.mk (Kd.R_below (by (with_reducible repeat (first | apply Kd.R_alloc | apply Kd.R_drewN | apply Kd.R_drew)); exact (Kd.R_mono (Kd.R_far (p := ⟨gb328, 1, none⟩) (Kd.R_far (p := ⟨gb328, 0, none⟩) (Kd.R_types HO_290001.out BK328.out (by decide)) (fun _ hk => hk.2) (.int .i64 t320)) (fun _ hk => hk.2) (.slice Ao172 t321.length co172)) (fun _ h_ => h_.1))) hb); have n4_ := Aside0.mk (Kd.R_below (by (with_reducible repeat (first | apply Kd.R_alloc | apply Kd.R_drewN | apply Kd.R_drew)); exact (Kd.R_mono (Kd.R_far (p := ⟨gb328, 1, none⟩) (Kd.R_far (p := ⟨gb328, 0, none⟩) (Kd.R_types HO_299001.out BK328.out (by decide)) (fun _ hk => hk.2) (.int .i64 t320)) (fun _ hk => hk.2) (.slice Ao172 t321.length co172)) (fun _ h_ => h_.1))) hb); have n5_ := Aside0.mk (Kd.R_below (by (with_reducible repeat (first | apply Kd.R_alloc | apply Kd.R_drewN | apply Kd.R_drew)); exact (Kd.R_mono (Kd.R_far (p := ⟨gb328, 1, none⟩) (Kd.R_far (p := ⟨gb328, 0, none⟩) (Kd.R_types HO319.out BK328.out (by decide)) (fun _ hk => hk.2) (.int .i64 t320)) (fun _ hk => hk.2) (.slice Ao172 t321.length co172)) (fun _ h_ => h_.1))) hb); have n6_ := Aside0.mk (Kd.R_below (by (with_reducible repeat (first | apply Kd.R_alloc | apply Kd.R_drewN | apply Kd.R_drew)); exact (Kd.R_mono (Kd.R_far (p := ⟨gb328, 1, none⟩) (Kd.R_far (p := ⟨gb328, 0, none⟩) (Kd.R_types HO323.out BK328.out (by decide)) (fun _ hk => hk.2) (.int .i64 t320)) (fun _ hk => hk.2) (.slice Ao172 t321.length co172)) (fun _ h_ => h_.1))) hb); have n7_ := Aside0.mk (Kd.R_below (by (with_reducible repeat (first | apply Kd.R_alloc | apply Kd.R_drewN | apply Kd.R_drew)); exact (Kd.R_mono (Kd.R_far (p := ⟨gb328, 1, none⟩) (Kd.R_far (p := ⟨gb328, 0, none⟩) (Kd.R_types HO326.out BK328.out (by decide)) (fun _ hk => hk.2) (.int .i64 t320)) (fun _ hk => hk.2) (.slice Ao172 t321.length co172)) (fun _ h_ => h_.1))) hb); have n8_ := Aside0.mk (blk_below (g := gb270) (o := .cells #[.int .i64 a0_0, .slice A0_1 l0_1.length c0_1] 27 (0, 0)) (by (with_reducible repeat (first | refine blk_drewN ?_ _ | refine blk_drew ?_ | refine blk_alloc ?_ _)); refine blk_far ?_ NB270_328.out _; (with_reducible repeat (first | refine blk_drewN ?_ _ | refine blk_drew ?_ | refine blk_alloc ?_ _)); refine blk_far ?_ NB270_328.out _; (with_reducible repeat (first | refine blk_drewN ?_ _ | refine blk_drew ?_ | refine blk_alloc ?_ _)); exact BK270.out) hb); have n9_ := Aside0.mk (blk_below (g := gb284) (o := .cells #[.int .i64 t276, .slice Ao23 t277.length co23] 31 (0, 0)) (by (with_reducible repeat (first | refine blk_drewN ?_ _ | refine blk_drew ?_ | refine blk_alloc ?_ _)); refine blk_far ?_ NB284_328.out _; (with_reducible repeat (first | refine blk_drewN ?_ _ | refine blk_drew ?_ | refine blk_alloc ?_ _)); refine blk_far ?_ NB284_328.out _; (with_reducible repeat (first | refine blk_drewN ?_ _ | refine blk_drew ?_ | refine blk_alloc ?_ _)); exact BK284.out) hb); have n10_ := Aside0.mk (blk_below (g := gb289) (o := .cells #[.int .i64 t285, .slice Ao30 t307.length co30] 31 (0, 0)) (by (with_reducible repeat (first | refine blk_drewN ?_ _ | refine blk_drew ?_ | refine blk_alloc ?_ _)); refine blk_far ?_ NB289_328.out _; (with_reducible repeat (first | refine blk_drewN ?_ _ | refine blk_drew ?_ | refine blk_alloc ?_ _)); refine blk_far ?_ NB289_328.out _; (with_reducible repeat (first | refine blk_drewN ?_ _ | refine blk_drew ?_ | refine blk_alloc ?_ _)); exact BK289.out) hb); have n11_ := Aside0.mk (blk_below (g := gb298) (o := .cells #[.int .i64 t290, .slice Ao37 t291.length co37] 31 (0, 0)) (by (with_reducible repeat (first | refine blk_drewN ?_ _ | refine blk_drew ?_ | refine blk_alloc ?_ _)); refine blk_far ?_ NB298_328.out _; (with_reducible repeat (first | refine blk_drewN ?_ _ | refine blk_drew ?_ | refine blk_alloc ?_ _)); refine blk_far ?_ NB298_328.out _; (with_reducible repeat (first | refine blk_drewN ?_ _ | refine blk_drew ?_ | refine blk_alloc ?_ _)); exact BK298.out) hb); have n12_ := Aside0.mk (blk_below (g := gb328) (o := .cells #[.int .i64 t320, .slice Ao172 t321.length co172] 31 (0, 0)) (by (with_reducible repeat (first | refine blk_drewN ?_ _ | refine blk_drew ?_ | refine blk_alloc ?_ _)); refine blk_put (cs := #[.int .i64 t320, .slice none 0 0]) ?_ 1 _ rfl; (with_reducible repeat (first | refine blk_drewN ?_ _ | refine blk_drew ?_ | refine blk_alloc ?_ _)); refine blk_put (cs := #[.int .i64 0, .slice none 0 0]) ?_ 0 _ rfl; (with_reducible repeat (first | refine blk_drewN ?_ _ | refine blk_drew ?_ | refine blk_alloc ?_ _)); exact BK328.out) hb); have n13_ := Aside0.mk (below_step blw hb); clear HO_7; clear HO_11; clear HO_285001; clear HO_290001; clear HO_299001; clear HO319; clear HO323; clear HO326; clear BK270; clear BK284; clear BK289; clear BK298; clear BK328; clear HB; have HO_7 := n0_; have HO_11 := n1_; have HO_285001 := n2_; have HO_290001 := n3_; have HO_299001 := n4_; have HO319 := n5_; have HO323 := n6_; have HO326 := n7_; have BK270 := n8_; have BK284 := n9_; have BK289 := n10_; have BK298 := n11_; have BK328 := n12_; have HB := n13_; clear n0_ n1_ n2_ n3_ n4_ n5_ n6_ n7_ n8_ n9_ n10_ n11_ n12_ n13_; (try clear hb); (try clear hb2); (try clear hk); (try clear hi); obtain ⟨Ao187, co187, eo187⟩ := Kd.R_slice HO326.out; subst eo187; obtain ⟨Ao188, co188, eo188⟩ := Kd.R_slice HO_7.out; subst eo188) | (go_at_call 12; (with_reducible refine (laws_eqFiredS.calls kj76 _ _ t324 _ _ t280 true _ ?side1 ?side2 ?side3 ?side4 A175.out).mono ?_); (case side1 => repeat (first | exact (Kd.R_reads' HO326.out).2.2 | (with_reducible refine Kd.C_alloc ?_ _) | (with_reducible refine Kd.C_drewN ?_ _) | (with_reducible refine Kd.C_drew ?_))); (case side2 => exact (Kd.R_reads' HO326.out).2.1); (case side3 => repeat (first | exact (Kd.R_reads' HO_7.out).2.2 | (with_reducible refine Kd.C_alloc ?_ _) | (with_reducible refine Kd.C_drewN ?_ _) | (with_reducible refine Kd.C_drew ?_))); (case side4 => exact (Kd.R_reads' HO_7.out).2.1); rintro e w189 ⟨rfl, hb⟩; have n0_ := Aside0.mk (Kd.R_below (by (with_reducible repeat (first | apply Kd.R_alloc | apply Kd.R_drewN | apply Kd.R_drew)); exact HO_7.out) hb); have n1_ := Aside0.mk (Kd.R_below (by (with_reducible repeat (first | apply Kd.R_alloc | apply Kd.R_drewN | apply Kd.R_drew)); exact HO_11.out) hb); have n2_ := Aside0.mk (Kd.R_below (by (with_reducible repeat (first | apply Kd.R_alloc | apply Kd.R_drewN | apply Kd.R_drew)); exact HO_285001.out) hb); have n3_ := Aside0.mk (Kd.R_below (by (with_reducible repeat (first | apply Kd.R_alloc | apply Kd.R_drewN | apply Kd.R_drew)); exact HO_290001.out) hb); have n4_ := Aside0.mk (Kd.R_below (by (with_reducible repeat (first | apply Kd.R_alloc | apply Kd.R_drewN | apply Kd.R_drew)); exact HO_299001.out) hb); have n5_ := Aside0.mk (Kd.R_below (by (with_reducible repeat (first | apply Kd.R_alloc | apply Kd.R_drewN | apply Kd.R_drew)); exact HO319.out) hb); have n6_ := Aside0.mk (Kd.R_below (by (with_reducible repeat (first | apply Kd.R_alloc | apply Kd.R_drewN | apply Kd.R_drew)); exact HO323.out) hb); have n7_ := Aside0.mk (Kd.R_below (by (with_reducible repeat (first | apply Kd.R_alloc | apply Kd.R_drewN | apply Kd.R_drew)); exact HO326.out) hb); have n8_ := Aside0.mk (blk_below (g := gb270) (o := .cells #[.int .i64 a0_0, .slice A0_1 l0_1.length c0_1] 27 (0, 0)) bkw hb); have n9_ := Aside0.mk (blk_below (g := gb284) (o := .cells #[.int .i64 t276, .slice Ao23 t277.length co23] 31 (0, 0)) bkw hb); have n10_ := Aside0.mk (blk_below (g := gb289) (o := .cells #[.int .i64 t285, .slice Ao30 t307.length co30] 31 (0, 0)) bkw hb); have n11_ := Aside0.mk (blk_below (g := gb298) (o := .cells #[.int .i64 t290, .slice Ao37 t291.length co37] 31 (0, 0)) bkw hb); have n12_ := Aside0.mk (blk_below (g := gb328) (o := .cells #[.int .i64 t320, .slice Ao172 t321.length co172] 31 (0, 0)) bkw hb); have n13_ := Aside0.mk (below_step blw hb); clear HO_7; clear HO_11; clear HO_285001; clear HO_290001; clear HO_299001; clear HO319; clear HO323; clear HO326; clear BK270; clear BK284; clear BK289; clear BK298; clear BK328; clear HB; have HO_7 := n0_; have HO_11 := n1_; have HO_285001 := n2_; have HO_290001 := n3_; have HO_299001 := n4_; have HO319 := n5_; have HO323 := n6_; have HO326 := n7_; have BK270 := n8_; have BK284 := n9_; have BK289 := n10_; have BK298 := n11_; have BK328 := n12_; have HB := n13_; clear n0_ n1_ n2_ n3_ n4_ n5_ n6_ n7_ n8_ n9_ n10_ n11_ n12_ n13_; (try clear hb); (try clear hb2); (try clear hk); (try clear hi)))
               go_meet
               case rel => exact ⟨_, ((t327 != t283)), (by first | rfl | (simp; done) | (simp [*]; done)), H', ⟨by have := HJ11.out; have := HJ76.out; first | omega | exact Nat.le_refl _⟩, ⟨by (try simp only [hl290001_76]); (with_reducible repeat (first | apply Kd.R_alloc | apply Kd.R_drewN | apply Kd.R_drew)); exact Kd.R_mono HO_11.out (fun _ hk => trivial)⟩, ⟨by (try simp only [hl290001_76]); (with_reducible repeat (first | apply Kd.R_alloc | apply Kd.R_drewN | apply Kd.R_drew)); exact Kd.R_mono HO_285001.out (fun _ hk => ⟨hk.1.1.1, ⟨hk.1.1.2, hk.2⟩⟩)⟩, ⟨by (try simp only [hl290001_76]); (with_reducible repeat (first | apply Kd.R_alloc | apply Kd.R_drewN | apply Kd.R_drew)); exact Kd.R_mono HO_290001.out (fun _ hk => ⟨hk.1.1.1, ⟨hk.1.1.2, hk.2⟩⟩)⟩, ⟨by (try simp only [hl290001_76]); (with_reducible repeat (first | apply Kd.R_alloc | apply Kd.R_drewN | apply Kd.R_drew)); exact Kd.R_mono HO_299001.out (fun _ hk => ⟨hk.1.1.1, ⟨hk.1.1.2, hk.2⟩⟩)⟩, ⟨by (try simp only [hl290001_76]); (with_reducible repeat (first | apply Kd.R_alloc | apply Kd.R_drewN | apply Kd.R_drew)); exact Kd.R_mono HO323.out (fun _ hk => ⟨hk.1.1.1.2, ⟨hk.1.1.2, hk.1.2⟩⟩)⟩, ⟨by (try simp only [hl290001_76]); (with_reducible repeat (first | refine blk_drewN ?_ _ | refine blk_drew ?_ | refine blk_alloc ?_ _)); exact BK270.out⟩, ⟨by (try simp only [hl290001_76]); (with_reducible repeat (first | refine blk_drewN ?_ _ | refine blk_drew ?_ | refine blk_alloc ?_ _)); exact BK284.out⟩, ⟨by (try simp only [hl290001_76]); (with_reducible repeat (first | refine blk_drewN ?_ _ | refine blk_drew ?_ | refine blk_alloc ?_ _)); exact BK289.out⟩, ⟨by (try simp only [hl290001_76]); (with_reducible repeat (first | refine blk_drewN ?_ _ | refine blk_drew ?_ | refine blk_alloc ?_ _)); exact BK298.out⟩, ⟨by (try simp only [hl290001_76]); (with_reducible repeat (first | refine blk_drewN ?_ _ | refine blk_drew ?_ | refine blk_alloc ?_ _)); exact BK328.out⟩, ⟨blw⟩⟩
              ·replace c176 := Bool.eq_false_iff.mpr c176
               subst c176
               have H1 : (laws_FnExactRunClock.j2 kj76 t313 t312 true t290 t311) = some r := by rw [if_neg (show ¬ (false = true) by decide)] at H; exact H
               clear H
               have H := H1
               clear H1
               have H' := Aside0.mk H
               clear H
               have hnb190 := NB328_270.out
               have hnc190 := NB270_328.out
               have hnb191 := NB328_284.out
               have hnc191 := NB284_328.out
               have hnb192 := NB328_289.out
               have hnc192 := NB289_328.out
               have hnb193 := NB328_298.out
               have hnc193 := NB298_328.out
               have hcz194_0 : w166.cell? ⟨gb328, 0, none⟩ = some (.int .i64 0) := (blk_cell BK328.out 0).trans rfl
               have hcz194_1 : w166.cell? ⟨gb328, 1, none⟩ = some (.slice none 0 0) := (blk_cell BK328.out 1).trans rfl
               have hfz194_0 := blk_frozen BK328.out 0
               have hfz194_1 := blk_frozen BK328.out 1
               have hnb195 := NB284_270.out
               have hnc195 := NB270_284.out
               have hnb196 := NB284_289.out
               have hnc196 := NB289_284.out
               have hnb197 := NB284_298.out
               have hnc197 := NB298_284.out
               have hcz198_0 : w166.cell? ⟨gb284, 0, none⟩ = some (.int .i64 t276) := (blk_cell BK284.out 0).trans rfl
               have hcz198_1 : w166.cell? ⟨gb284, 1, none⟩ = some (.slice Ao23 t277.length co23) := (blk_cell BK284.out 1).trans rfl
               have hfz198_0 := blk_frozen BK284.out 0
               have hfz198_1 := blk_frozen BK284.out 1
               go_wp2_with (first | ((with_reducible refine gate_callee (f := 11) rfl ?_); refine goesL_ (some 112) rfl rfl Try.func11 (by kernel_rfl) rfl #[.agg #[.int .i64 t320, .slice Ao172 t321.length co172], .agg #[.int .i64 t276, .slice Ao23 t277.length co23]] rfl (by (try simp only [List.map_toArray, List.map_cons, List.map_nil]); first | done | rfl | (simp only [List.length_drop, List.length_take]; rfl)) ?_; (with_reducible refine (laws_eqClock.calls kj76 t320 _ _ t321 t276 _ _ t277 true _ ?side1 ?side2 ?side3 ?side4 A173.out).mono ?_); (case side1 => refine (Kd.R_reads' (e := 54) (base := w.heap.size) (ok := fun k_ => ((((True ∧ some k_ ≠ (.slice Ao23 t277.length co23 : Value).ownBlock) ∧ some k_ ≠ (.slice Ao30 t307.length co30 : Value).ownBlock) ∧ some k_ ≠ (.slice Ao37 t291.length co37 : Value).ownBlock) ∧ some k_ ≠ (.slice Ao164 t317.length co164 : Value).ownBlock)) (n := t321.length) (c := co172) ?_).2.2; exact (by (with_reducible repeat (first | apply Kd.R_alloc | apply Kd.R_drewN | apply Kd.R_drew)); exact (Kd.R_mono (Kd.R_far (p := ⟨gb328, 1, none⟩) (Kd.R_far (p := ⟨gb328, 0, none⟩) (Kd.R_types HO323.out BK328.out (by decide)) (fun _ hk => hk.2) (.int .i64 t320)) (fun _ hk => hk.2) (.slice Ao172 t321.length co172)) (fun _ h_ => h_.1)))); (case side2 => exact (Kd.R_reads' HO323.out).2.1); (case side3 => refine (Kd.R_reads' (e := 54) (base := w.heap.size) (ok := fun k_ => (((some k_ ≠ (.slice Ao30 t307.length co30 : Value).ownBlock ∧ some k_ ≠ (.slice Ao37 t291.length co37 : Value).ownBlock) ∧ some k_ ≠ (.slice Ao164 t317.length co164 : Value).ownBlock) ∧ some k_ ≠ (.slice Ao172 t321.length co172 : Value).ownBlock)) (n := t277.length) (c := co23) ?_).2.2; exact (by (with_reducible repeat (first | apply Kd.R_alloc | apply Kd.R_drewN | apply Kd.R_drew)); exact (Kd.R_mono (Kd.R_far (p := ⟨gb328, 1, none⟩) (Kd.R_far (p := ⟨gb328, 0, none⟩) (Kd.R_types HO_285001.out BK328.out (by decide)) (fun _ hk => hk.2) (.int .i64 t320)) (fun _ hk => hk.2) (.slice Ao172 t321.length co172)) (fun _ h_ => h_.1)))); (case side4 => exact (Kd.R_reads' HO_285001.out).2.1); rintro e w199 ⟨rfl, hb⟩; refine ⟨_, rfl, ?_⟩; have n0_ := Aside0.mk (Kd.R_below (by (with_reducible repeat (first | apply Kd.R_alloc | apply Kd.R_drewN | apply Kd.R_drew)); exact (Kd.R_mono (Kd.R_far (p := ⟨gb328, 1, none⟩) (Kd.R_far (p := ⟨gb328, 0, none⟩) (Kd.R_types HO_7.out BK328.out (by decide)) (fun _ hk => hk.2) (.int .i64 t320)) (fun _ hk => hk.2) (.slice Ao172 t321.length co172)) (fun _ h_ => h_.1))) hb); have n1_ := Aside0.mk (Kd.R_below (by (with_reducible repeat (first | apply Kd.R_alloc | apply Kd.R_drewN | apply Kd.R_drew)); exact (Kd.R_mono (Kd.R_far (p := ⟨gb328, 1, none⟩) (Kd.R_far (p := ⟨gb328, 0, none⟩) (Kd.R_types HO_11.out BK328.out (by decide)) (fun _ hk => hk.2) (.int .i64 t320)) (fun _ hk => hk.2) (.slice Ao172 t321.length co172)) (fun _ h_ => h_.1))) hb); have n2_ := Aside0.mk (Kd.R_below (by (with_reducible repeat (first | apply Kd.R_alloc | apply Kd.R_drewN | apply Kd.R_drew)); exact (Kd.R_mono (Kd.R_far (p := ⟨gb328, 1, none⟩) (Kd.R_far (p := ⟨gb328, 0, none⟩) (Kd.R_types HO_285001.out BK328.out (by decide)) (fun _ hk => hk.2) (.int .i64 t320)) (fun _ hk => hk.2) (.slice Ao172 t321.length co172)) (fun _ h_ => h_.1))) hb); have n3_ := Aside0.mk (Kd.R_below (by (with_reducible repeat (first | apply Kd.R_alloc | apply Kd.R_drewN | apply Kd.R_drew)); exact (Kd.R_mono (Kd.R_far (p := ⟨gb328, 1, none⟩) (Kd.R_far (p := ⟨gb328, 0, none⟩) (Kd.R_types HO_290001.out BK328.out (by decide)) (fun _ hk => hk.2) (.int .i64 t320)) (fun _ hk => hk.2) (.slice Ao172 t321.length co172)) (fun _ h_ => h_.1))) hb); have n4_ := Aside0.mk (Kd.R_below (by (with_reducible repeat (first | apply Kd.R_alloc | apply Kd.R_drewN | apply Kd.R_drew)); exact (Kd.R_mono (Kd.R_far (p := ⟨gb328, 1, none⟩) (Kd.R_far (p := ⟨gb328, 0, none⟩) (Kd.R_types HO_299001.out BK328.out (by decide)) (fun _ hk => hk.2) (.int .i64 t320)) (fun _ hk => hk.2) (.slice Ao172 t321.length co172)) (fun _ h_ => h_.1))) hb); have n5_ := Aside0.mk (Kd.R_below (by (with_reducible repeat (first | apply Kd.R_alloc | apply Kd.R_drewN | apply Kd.R_drew)); exact (Kd.R_mono (Kd.R_far (p := ⟨gb328, 1, none⟩) (Kd.R_far (p := ⟨gb328, 0, none⟩) (Kd.R_types HO319.out BK328.out (by decide)) (fun _ hk => hk.2) (.int .i64 t320)) (fun _ hk => hk.2) (.slice Ao172 t321.length co172)) (fun _ h_ => h_.1))) hb); have n6_ := Aside0.mk (Kd.R_below (by (with_reducible repeat (first | apply Kd.R_alloc | apply Kd.R_drewN | apply Kd.R_drew)); exact (Kd.R_mono (Kd.R_far (p := ⟨gb328, 1, none⟩) (Kd.R_far (p := ⟨gb328, 0, none⟩) (Kd.R_types HO323.out BK328.out (by decide)) (fun _ hk => hk.2) (.int .i64 t320)) (fun _ hk => hk.2) (.slice Ao172 t321.length co172)) (fun _ h_ => h_.1))) hb); have n7_ := Aside0.mk (Kd.R_below (by (with_reducible repeat (first | apply Kd.R_alloc | apply Kd.R_drewN | apply Kd.R_drew)); exact (Kd.R_mono (Kd.R_far (p := ⟨gb328, 1, none⟩) (Kd.R_far (p := ⟨gb328, 0, none⟩) (Kd.R_types HO326.out BK328.out (by decide)) (fun _ hk => hk.2) (.int .i64 t320)) (fun _ hk => hk.2) (.slice Ao172 t321.length co172)) (fun _ h_ => h_.1))) hb); have n8_ := Aside0.mk (blk_below (g := gb270) (o := .cells #[.int .i64 a0_0, .slice A0_1 l0_1.length c0_1] 27 (0, 0)) (by (with_reducible repeat (first | refine blk_drewN ?_ _ | refine blk_drew ?_ | refine blk_alloc ?_ _)); refine blk_far ?_ NB270_328.out _; (with_reducible repeat (first | refine blk_drewN ?_ _ | refine blk_drew ?_ | refine blk_alloc ?_ _)); refine blk_far ?_ NB270_328.out _; (with_reducible repeat (first | refine blk_drewN ?_ _ | refine blk_drew ?_ | refine blk_alloc ?_ _)); exact BK270.out) hb); have n9_ := Aside0.mk (blk_below (g := gb284) (o := .cells #[.int .i64 t276, .slice Ao23 t277.length co23] 31 (0, 0)) (by (with_reducible repeat (first | refine blk_drewN ?_ _ | refine blk_drew ?_ | refine blk_alloc ?_ _)); refine blk_far ?_ NB284_328.out _; (with_reducible repeat (first | refine blk_drewN ?_ _ | refine blk_drew ?_ | refine blk_alloc ?_ _)); refine blk_far ?_ NB284_328.out _; (with_reducible repeat (first | refine blk_drewN ?_ _ | refine blk_drew ?_ | refine blk_alloc ?_ _)); exact BK284.out) hb); have n10_ := Aside0.mk (blk_below (g := gb289) (o := .cells #[.int .i64 t285, .slice Ao30 t307.length co30] 31 (0, 0)) (by (with_reducible repeat (first | refine blk_drewN ?_ _ | refine blk_drew ?_ | refine blk_alloc ?_ _)); refine blk_far ?_ NB289_328.out _; (with_reducible repeat (first | refine blk_drewN ?_ _ | refine blk_drew ?_ | refine blk_alloc ?_ _)); refine blk_far ?_ NB289_328.out _; (with_reducible repeat (first | refine blk_drewN ?_ _ | refine blk_drew ?_ | refine blk_alloc ?_ _)); exact BK289.out) hb); have n11_ := Aside0.mk (blk_below (g := gb298) (o := .cells #[.int .i64 t290, .slice Ao37 t291.length co37] 31 (0, 0)) (by (with_reducible repeat (first | refine blk_drewN ?_ _ | refine blk_drew ?_ | refine blk_alloc ?_ _)); refine blk_far ?_ NB298_328.out _; (with_reducible repeat (first | refine blk_drewN ?_ _ | refine blk_drew ?_ | refine blk_alloc ?_ _)); refine blk_far ?_ NB298_328.out _; (with_reducible repeat (first | refine blk_drewN ?_ _ | refine blk_drew ?_ | refine blk_alloc ?_ _)); exact BK298.out) hb); have n12_ := Aside0.mk (blk_below (g := gb328) (o := .cells #[.int .i64 t320, .slice Ao172 t321.length co172] 31 (0, 0)) (by (with_reducible repeat (first | refine blk_drewN ?_ _ | refine blk_drew ?_ | refine blk_alloc ?_ _)); refine blk_put (cs := #[.int .i64 t320, .slice none 0 0]) ?_ 1 _ rfl; (with_reducible repeat (first | refine blk_drewN ?_ _ | refine blk_drew ?_ | refine blk_alloc ?_ _)); refine blk_put (cs := #[.int .i64 0, .slice none 0 0]) ?_ 0 _ rfl; (with_reducible repeat (first | refine blk_drewN ?_ _ | refine blk_drew ?_ | refine blk_alloc ?_ _)); exact BK328.out) hb); have n13_ := Aside0.mk (below_step blw hb); clear HO_7; clear HO_11; clear HO_285001; clear HO_290001; clear HO_299001; clear HO319; clear HO323; clear HO326; clear BK270; clear BK284; clear BK289; clear BK298; clear BK328; clear HB; have HO_7 := n0_; have HO_11 := n1_; have HO_285001 := n2_; have HO_290001 := n3_; have HO_299001 := n4_; have HO319 := n5_; have HO323 := n6_; have HO326 := n7_; have BK270 := n8_; have BK284 := n9_; have BK289 := n10_; have BK298 := n11_; have BK328 := n12_; have HB := n13_; clear n0_ n1_ n2_ n3_ n4_ n5_ n6_ n7_ n8_ n9_ n10_ n11_ n12_ n13_; (try clear hb); (try clear hb2); (try clear hk); (try clear hi); obtain ⟨Ao200, co200, eo200⟩ := Kd.R_slice HO326.out; subst eo200; obtain ⟨Ao201, co201, eo201⟩ := Kd.R_slice HO_7.out; subst eo201) | (go_at_call 12; (with_reducible refine (laws_eqFiredS.calls kj76 _ _ t324 _ _ t280 false _ ?side1 ?side2 ?side3 ?side4 A175.out).mono ?_); (case side1 => repeat (first | exact (Kd.R_reads' HO326.out).2.2 | (with_reducible refine Kd.C_alloc ?_ _) | (with_reducible refine Kd.C_drewN ?_ _) | (with_reducible refine Kd.C_drew ?_))); (case side2 => exact (Kd.R_reads' HO326.out).2.1); (case side3 => repeat (first | exact (Kd.R_reads' HO_7.out).2.2 | (with_reducible refine Kd.C_alloc ?_ _) | (with_reducible refine Kd.C_drewN ?_ _) | (with_reducible refine Kd.C_drew ?_))); (case side4 => exact (Kd.R_reads' HO_7.out).2.1); rintro e w202 ⟨rfl, hb⟩; have n0_ := Aside0.mk (Kd.R_below (by (with_reducible repeat (first | apply Kd.R_alloc | apply Kd.R_drewN | apply Kd.R_drew)); exact HO_7.out) hb); have n1_ := Aside0.mk (Kd.R_below (by (with_reducible repeat (first | apply Kd.R_alloc | apply Kd.R_drewN | apply Kd.R_drew)); exact HO_11.out) hb); have n2_ := Aside0.mk (Kd.R_below (by (with_reducible repeat (first | apply Kd.R_alloc | apply Kd.R_drewN | apply Kd.R_drew)); exact HO_285001.out) hb); have n3_ := Aside0.mk (Kd.R_below (by (with_reducible repeat (first | apply Kd.R_alloc | apply Kd.R_drewN | apply Kd.R_drew)); exact HO_290001.out) hb); have n4_ := Aside0.mk (Kd.R_below (by (with_reducible repeat (first | apply Kd.R_alloc | apply Kd.R_drewN | apply Kd.R_drew)); exact HO_299001.out) hb); have n5_ := Aside0.mk (Kd.R_below (by (with_reducible repeat (first | apply Kd.R_alloc | apply Kd.R_drewN | apply Kd.R_drew)); exact HO319.out) hb); have n6_ := Aside0.mk (Kd.R_below (by (with_reducible repeat (first | apply Kd.R_alloc | apply Kd.R_drewN | apply Kd.R_drew)); exact HO323.out) hb); have n7_ := Aside0.mk (Kd.R_below (by (with_reducible repeat (first | apply Kd.R_alloc | apply Kd.R_drewN | apply Kd.R_drew)); exact HO326.out) hb); have n8_ := Aside0.mk (blk_below (g := gb270) (o := .cells #[.int .i64 a0_0, .slice A0_1 l0_1.length c0_1] 27 (0, 0)) bkw hb); have n9_ := Aside0.mk (blk_below (g := gb284) (o := .cells #[.int .i64 t276, .slice Ao23 t277.length co23] 31 (0, 0)) bkw hb); have n10_ := Aside0.mk (blk_below (g := gb289) (o := .cells #[.int .i64 t285, .slice Ao30 t307.length co30] 31 (0, 0)) bkw hb); have n11_ := Aside0.mk (blk_below (g := gb298) (o := .cells #[.int .i64 t290, .slice Ao37 t291.length co37] 31 (0, 0)) bkw hb); have n12_ := Aside0.mk (blk_below (g := gb328) (o := .cells #[.int .i64 t320, .slice Ao172 t321.length co172] 31 (0, 0)) bkw hb); have n13_ := Aside0.mk (below_step blw hb); clear HO_7; clear HO_11; clear HO_285001; clear HO_290001; clear HO_299001; clear HO319; clear HO323; clear HO326; clear BK270; clear BK284; clear BK289; clear BK298; clear BK328; clear HB; have HO_7 := n0_; have HO_11 := n1_; have HO_285001 := n2_; have HO_290001 := n3_; have HO_299001 := n4_; have HO319 := n5_; have HO323 := n6_; have HO326 := n7_; have BK270 := n8_; have BK284 := n9_; have BK289 := n10_; have BK298 := n11_; have BK328 := n12_; have HB := n13_; clear n0_ n1_ n2_ n3_ n4_ n5_ n6_ n7_ n8_ n9_ n10_ n11_ n12_ n13_; (try clear hb); (try clear hb2); (try clear hk); (try clear hi)))
               go_meet
               case rel => exact ⟨_, (true), (by first | rfl | (simp; done) | (simp [*]; done)), H', ⟨by have := HJ11.out; have := HJ76.out; first | omega | exact Nat.le_refl _⟩, ⟨by (try simp only [hl290001_76]); (with_reducible repeat (first | apply Kd.R_alloc | apply Kd.R_drewN | apply Kd.R_drew)); exact Kd.R_mono HO_11.out (fun _ hk => trivial)⟩, ⟨by (try simp only [hl290001_76]); (with_reducible repeat (first | apply Kd.R_alloc | apply Kd.R_drewN | apply Kd.R_drew)); exact Kd.R_mono HO_285001.out (fun _ hk => ⟨hk.1.1.1, ⟨hk.1.1.2, hk.2⟩⟩)⟩, ⟨by (try simp only [hl290001_76]); (with_reducible repeat (first | apply Kd.R_alloc | apply Kd.R_drewN | apply Kd.R_drew)); exact Kd.R_mono HO_290001.out (fun _ hk => ⟨hk.1.1.1, ⟨hk.1.1.2, hk.2⟩⟩)⟩, ⟨by (try simp only [hl290001_76]); (with_reducible repeat (first | apply Kd.R_alloc | apply Kd.R_drewN | apply Kd.R_drew)); exact Kd.R_mono HO_299001.out (fun _ hk => ⟨hk.1.1.1, ⟨hk.1.1.2, hk.2⟩⟩)⟩, ⟨by (try simp only [hl290001_76]); (with_reducible repeat (first | apply Kd.R_alloc | apply Kd.R_drewN | apply Kd.R_drew)); exact Kd.R_mono HO323.out (fun _ hk => ⟨hk.1.1.1.2, ⟨hk.1.1.2, hk.1.2⟩⟩)⟩, ⟨by (try simp only [hl290001_76]); (with_reducible repeat (first | refine blk_drewN ?_ _ | refine blk_drew ?_ | refine blk_alloc ?_ _)); exact BK270.out⟩, ⟨by (try simp only [hl290001_76]); (with_reducible repeat (first | refine blk_drewN ?_ _ | refine blk_drew ?_ | refine blk_alloc ?_ _)); exact BK284.out⟩, ⟨by (try simp only [hl290001_76]); (with_reducible repeat (first | refine blk_drewN ?_ _ | refine blk_drew ?_ | refine blk_alloc ?_ _)); exact BK289.out⟩, ⟨by (try simp only [hl290001_76]); (with_reducible repeat (first | refine blk_drewN ?_ _ | refine blk_drew ?_ | refine blk_alloc ?_ _)); exact BK298.out⟩, ⟨by (try simp only [hl290001_76]); (with_reducible repeat (first | refine blk_drewN ?_ _ | refine blk_drew ?_ | refine blk_alloc ?_ _)); exact BK328.out⟩, ⟨blw⟩⟩
             ·replace c174 := Bool.eq_false_iff.mpr c174
              subst c174
              have H1 : (laws_FnExactRunClock.j2 kj76 t313 t312 true t290 t311) = some r := by rw [if_neg (show ¬ (false = true) by decide)] at H; exact H
              clear H
              have H := H1
              clear H1
              have H' := Aside0.mk H
              clear H
              have hnb203 := NB328_270.out
              have hnc203 := NB270_328.out
              have hnb204 := NB328_284.out
              have hnc204 := NB284_328.out
              have hnb205 := NB328_289.out
              have hnc205 := NB289_328.out
              have hnb206 := NB328_298.out
              have hnc206 := NB298_328.out
              have hcz207_0 : w166.cell? ⟨gb328, 0, none⟩ = some (.int .i64 0) := (blk_cell BK328.out 0).trans rfl
              have hcz207_1 : w166.cell? ⟨gb328, 1, none⟩ = some (.slice none 0 0) := (blk_cell BK328.out 1).trans rfl
              have hfz207_0 := blk_frozen BK328.out 0
              have hfz207_1 := blk_frozen BK328.out 1
              have hnb208 := NB284_270.out
              have hnc208 := NB270_284.out
              have hnb209 := NB284_289.out
              have hnc209 := NB289_284.out
              have hnb210 := NB284_298.out
              have hnc210 := NB298_284.out
              have hcz211_0 : w166.cell? ⟨gb284, 0, none⟩ = some (.int .i64 t276) := (blk_cell BK284.out 0).trans rfl
              have hcz211_1 : w166.cell? ⟨gb284, 1, none⟩ = some (.slice Ao23 t277.length co23) := (blk_cell BK284.out 1).trans rfl
              have hfz211_0 := blk_frozen BK284.out 0
              have hfz211_1 := blk_frozen BK284.out 1
              go_wp2_with (first | ((with_reducible refine gate_callee (f := 11) rfl ?_); refine goesL_ (some 112) rfl rfl Try.func11 (by kernel_rfl) rfl #[.agg #[.int .i64 t320, .slice Ao172 t321.length co172], .agg #[.int .i64 t276, .slice Ao23 t277.length co23]] rfl (by (try simp only [List.map_toArray, List.map_cons, List.map_nil]); first | done | rfl | (simp only [List.length_drop, List.length_take]; rfl)) ?_; (with_reducible refine (laws_eqClock.calls kj76 t320 _ _ t321 t276 _ _ t277 false _ ?side1 ?side2 ?side3 ?side4 A173.out).mono ?_); (case side1 => refine (Kd.R_reads' (e := 54) (base := w.heap.size) (ok := fun k_ => ((((True ∧ some k_ ≠ (.slice Ao23 t277.length co23 : Value).ownBlock) ∧ some k_ ≠ (.slice Ao30 t307.length co30 : Value).ownBlock) ∧ some k_ ≠ (.slice Ao37 t291.length co37 : Value).ownBlock) ∧ some k_ ≠ (.slice Ao164 t317.length co164 : Value).ownBlock)) (n := t321.length) (c := co172) ?_).2.2; exact (by (with_reducible repeat (first | apply Kd.R_alloc | apply Kd.R_drewN | apply Kd.R_drew)); exact (Kd.R_mono (Kd.R_far (p := ⟨gb328, 1, none⟩) (Kd.R_far (p := ⟨gb328, 0, none⟩) (Kd.R_types HO323.out BK328.out (by decide)) (fun _ hk => hk.2) (.int .i64 t320)) (fun _ hk => hk.2) (.slice Ao172 t321.length co172)) (fun _ h_ => h_.1)))); (case side2 => exact (Kd.R_reads' HO323.out).2.1); (case side3 => refine (Kd.R_reads' (e := 54) (base := w.heap.size) (ok := fun k_ => (((some k_ ≠ (.slice Ao30 t307.length co30 : Value).ownBlock ∧ some k_ ≠ (.slice Ao37 t291.length co37 : Value).ownBlock) ∧ some k_ ≠ (.slice Ao164 t317.length co164 : Value).ownBlock) ∧ some k_ ≠ (.slice Ao172 t321.length co172 : Value).ownBlock)) (n := t277.length) (c := co23) ?_).2.2; exact (by (with_reducible repeat (first | apply Kd.R_alloc | apply Kd.R_drewN | apply Kd.R_drew)); exact (Kd.R_mono (Kd.R_far (p := ⟨gb328, 1, none⟩) (Kd.R_far (p := ⟨gb328, 0, none⟩) (Kd.R_types HO_285001.out BK328.out (by decide)) (fun _ hk => hk.2) (.int .i64 t320)) (fun _ hk => hk.2) (.slice Ao172 t321.length co172)) (fun _ h_ => h_.1)))); (case side4 => exact (Kd.R_reads' HO_285001.out).2.1); rintro e w212 ⟨rfl, hb⟩; refine ⟨_, rfl, ?_⟩; have n0_ := Aside0.mk (Kd.R_below (by (with_reducible repeat (first | apply Kd.R_alloc | apply Kd.R_drewN | apply Kd.R_drew)); exact (Kd.R_mono (Kd.R_far (p := ⟨gb328, 1, none⟩) (Kd.R_far (p := ⟨gb328, 0, none⟩) (Kd.R_types HO_7.out BK328.out (by decide)) (fun _ hk => hk.2) (.int .i64 t320)) (fun _ hk => hk.2) (.slice Ao172 t321.length co172)) (fun _ h_ => h_.1))) hb); have n1_ := Aside0.mk (Kd.R_below (by (with_reducible repeat (first | apply Kd.R_alloc | apply Kd.R_drewN | apply Kd.R_drew)); exact (Kd.R_mono (Kd.R_far (p := ⟨gb328, 1, none⟩) (Kd.R_far (p := ⟨gb328, 0, none⟩) (Kd.R_types HO_11.out BK328.out (by decide)) (fun _ hk => hk.2) (.int .i64 t320)) (fun _ hk => hk.2) (.slice Ao172 t321.length co172)) (fun _ h_ => h_.1))) hb); have n2_ := Aside0.mk (Kd.R_below (by (with_reducible repeat (first | apply Kd.R_alloc | apply Kd.R_drewN | apply Kd.R_drew)); exact (Kd.R_mono (Kd.R_far (p := ⟨gb328, 1, none⟩) (Kd.R_far (p := ⟨gb328, 0, none⟩) (Kd.R_types HO_285001.out BK328.out (by decide)) (fun _ hk => hk.2) (.int .i64 t320)) (fun _ hk => hk.2) (.slice Ao172 t321.length co172)) (fun _ h_ => h_.1))) hb); have n3_ := Aside0.mk (Kd.R_below (by (with_reducible repeat (first | apply Kd.R_alloc | apply Kd.R_drewN | apply Kd.R_drew)); exact (Kd.R_mono (Kd.R_far (p := ⟨gb328, 1, none⟩) (Kd.R_far (p := ⟨gb328, 0, none⟩) (Kd.R_types HO_290001.out BK328.out (by decide)) (fun _ hk => hk.2) (.int .i64 t320)) (fun _ hk => hk.2) (.slice Ao172 t321.length co172)) (fun _ h_ => h_.1))) hb); have n4_ := Aside0.mk (Kd.R_below (by (with_reducible repeat (first | apply Kd.R_alloc | apply Kd.R_drewN | apply Kd.R_drew)); exact (Kd.R_mono (Kd.R_far (p := ⟨gb328, 1, none⟩) (Kd.R_far (p := ⟨gb328, 0, none⟩) (Kd.R_types HO_299001.out BK328.out (by decide)) (fun _ hk => hk.2) (.int .i64 t320)) (fun _ hk => hk.2) (.slice Ao172 t321.length co172)) (fun _ h_ => h_.1))) hb); have n5_ := Aside0.mk (Kd.R_below (by (with_reducible repeat (first | apply Kd.R_alloc | apply Kd.R_drewN | apply Kd.R_drew)); exact (Kd.R_mono (Kd.R_far (p := ⟨gb328, 1, none⟩) (Kd.R_far (p := ⟨gb328, 0, none⟩) (Kd.R_types HO319.out BK328.out (by decide)) (fun _ hk => hk.2) (.int .i64 t320)) (fun _ hk => hk.2) (.slice Ao172 t321.length co172)) (fun _ h_ => h_.1))) hb); have n6_ := Aside0.mk (Kd.R_below (by (with_reducible repeat (first | apply Kd.R_alloc | apply Kd.R_drewN | apply Kd.R_drew)); exact (Kd.R_mono (Kd.R_far (p := ⟨gb328, 1, none⟩) (Kd.R_far (p := ⟨gb328, 0, none⟩) (Kd.R_types HO323.out BK328.out (by decide)) (fun _ hk => hk.2) (.int .i64 t320)) (fun _ hk => hk.2) (.slice Ao172 t321.length co172)) (fun _ h_ => h_.1))) hb); have n7_ := Aside0.mk (Kd.R_below (by (with_reducible repeat (first | apply Kd.R_alloc | apply Kd.R_drewN | apply Kd.R_drew)); exact (Kd.R_mono (Kd.R_far (p := ⟨gb328, 1, none⟩) (Kd.R_far (p := ⟨gb328, 0, none⟩) (Kd.R_types HO326.out BK328.out (by decide)) (fun _ hk => hk.2) (.int .i64 t320)) (fun _ hk => hk.2) (.slice Ao172 t321.length co172)) (fun _ h_ => h_.1))) hb); have n8_ := Aside0.mk (blk_below (g := gb270) (o := .cells #[.int .i64 a0_0, .slice A0_1 l0_1.length c0_1] 27 (0, 0)) (by (with_reducible repeat (first | refine blk_drewN ?_ _ | refine blk_drew ?_ | refine blk_alloc ?_ _)); refine blk_far ?_ NB270_328.out _; (with_reducible repeat (first | refine blk_drewN ?_ _ | refine blk_drew ?_ | refine blk_alloc ?_ _)); refine blk_far ?_ NB270_328.out _; (with_reducible repeat (first | refine blk_drewN ?_ _ | refine blk_drew ?_ | refine blk_alloc ?_ _)); exact BK270.out) hb); have n9_ := Aside0.mk (blk_below (g := gb284) (o := .cells #[.int .i64 t276, .slice Ao23 t277.length co23] 31 (0, 0)) (by (with_reducible repeat (first | refine blk_drewN ?_ _ | refine blk_drew ?_ | refine blk_alloc ?_ _)); refine blk_far ?_ NB284_328.out _; (with_reducible repeat (first | refine blk_drewN ?_ _ | refine blk_drew ?_ | refine blk_alloc ?_ _)); refine blk_far ?_ NB284_328.out _; (with_reducible repeat (first | refine blk_drewN ?_ _ | refine blk_drew ?_ | refine blk_alloc ?_ _)); exact BK284.out) hb); have n10_ := Aside0.mk (blk_below (g := gb289) (o := .cells #[.int .i64 t285, .slice Ao30 t307.length co30] 31 (0, 0)) (by (with_reducible repeat (first | refine blk_drewN ?_ _ | refine blk_drew ?_ | refine blk_alloc ?_ _)); refine blk_far ?_ NB289_328.out _; (with_reducible repeat (first | refine blk_drewN ?_ _ | refine blk_drew ?_ | refine blk_alloc ?_ _)); refine blk_far ?_ NB289_328.out _; (with_reducible repeat (first | refine blk_drewN ?_ _ | refine blk_drew ?_ | refine blk_alloc ?_ _)); exact BK289.out) hb); have n11_ := Aside0.mk (blk_below (g := gb298) (o := .cells #[.int .i64 t290, .slice Ao37 t291.length co37] 31 (0, 0)) (by (with_reducible repeat (first | refine blk_drewN ?_ _ | refine blk_drew ?_ | refine blk_alloc ?_ _)); refine blk_far ?_ NB298_328.out _; (with_reducible repeat (first | refine blk_drewN ?_ _ | refine blk_drew ?_ | refine blk_alloc ?_ _)); refine blk_far ?_ NB298_328.out _; (with_reducible repeat (first | refine blk_drewN ?_ _ | refine blk_drew ?_ | refine blk_alloc ?_ _)); exact BK298.out) hb); have n12_ := Aside0.mk (blk_below (g := gb328) (o := .cells #[.int .i64 t320, .slice Ao172 t321.length co172] 31 (0, 0)) (by (with_reducible repeat (first | refine blk_drewN ?_ _ | refine blk_drew ?_ | refine blk_alloc ?_ _)); refine blk_put (cs := #[.int .i64 t320, .slice none 0 0]) ?_ 1 _ rfl; (with_reducible repeat (first | refine blk_drewN ?_ _ | refine blk_drew ?_ | refine blk_alloc ?_ _)); refine blk_put (cs := #[.int .i64 0, .slice none 0 0]) ?_ 0 _ rfl; (with_reducible repeat (first | refine blk_drewN ?_ _ | refine blk_drew ?_ | refine blk_alloc ?_ _)); exact BK328.out) hb); have n13_ := Aside0.mk (below_step blw hb); clear HO_7; clear HO_11; clear HO_285001; clear HO_290001; clear HO_299001; clear HO319; clear HO323; clear HO326; clear BK270; clear BK284; clear BK289; clear BK298; clear BK328; clear HB; have HO_7 := n0_; have HO_11 := n1_; have HO_285001 := n2_; have HO_290001 := n3_; have HO_299001 := n4_; have HO319 := n5_; have HO323 := n6_; have HO326 := n7_; have BK270 := n8_; have BK284 := n9_; have BK289 := n10_; have BK298 := n11_; have BK328 := n12_; have HB := n13_; clear n0_ n1_ n2_ n3_ n4_ n5_ n6_ n7_ n8_ n9_ n10_ n11_ n12_ n13_; (try clear hb); (try clear hb2); (try clear hk); (try clear hi)))
              go_meet
              case rel => exact ⟨_, (true), (by first | rfl | (simp; done) | (simp [*]; done)), H', ⟨by have := HJ11.out; have := HJ76.out; first | omega | exact Nat.le_refl _⟩, ⟨by (try simp only [hl290001_76]); (with_reducible repeat (first | apply Kd.R_alloc | apply Kd.R_drewN | apply Kd.R_drew)); exact Kd.R_mono HO_11.out (fun _ hk => trivial)⟩, ⟨by (try simp only [hl290001_76]); (with_reducible repeat (first | apply Kd.R_alloc | apply Kd.R_drewN | apply Kd.R_drew)); exact Kd.R_mono HO_285001.out (fun _ hk => ⟨hk.1.1.1, ⟨hk.1.1.2, hk.2⟩⟩)⟩, ⟨by (try simp only [hl290001_76]); (with_reducible repeat (first | apply Kd.R_alloc | apply Kd.R_drewN | apply Kd.R_drew)); exact Kd.R_mono HO_290001.out (fun _ hk => ⟨hk.1.1.1, ⟨hk.1.1.2, hk.2⟩⟩)⟩, ⟨by (try simp only [hl290001_76]); (with_reducible repeat (first | apply Kd.R_alloc | apply Kd.R_drewN | apply Kd.R_drew)); exact Kd.R_mono HO_299001.out (fun _ hk => ⟨hk.1.1.1, ⟨hk.1.1.2, hk.2⟩⟩)⟩, ⟨by (try simp only [hl290001_76]); (with_reducible repeat (first | apply Kd.R_alloc | apply Kd.R_drewN | apply Kd.R_drew)); exact Kd.R_mono HO323.out (fun _ hk => ⟨hk.1.1.1.2, ⟨hk.1.1.2, hk.1.2⟩⟩)⟩, ⟨by (try simp only [hl290001_76]); (with_reducible repeat (first | refine blk_drewN ?_ _ | refine blk_drew ?_ | refine blk_alloc ?_ _)); exact BK270.out⟩, ⟨by (try simp only [hl290001_76]); (with_reducible repeat (first | refine blk_drewN ?_ _ | refine blk_drew ?_ | refine blk_alloc ?_ _)); exact BK284.out⟩, ⟨by (try simp only [hl290001_76]); (with_reducible repeat (first | refine blk_drewN ?_ _ | refine blk_drew ?_ | refine blk_alloc ?_ _)); exact BK289.out⟩, ⟨by (try simp only [hl290001_76]); (with_reducible repeat (first | refine blk_drewN ?_ _ | refine blk_drew ?_ | refine blk_alloc ?_ _)); exact BK298.out⟩, ⟨by (try simp only [hl290001_76]); (with_reducible repeat (first | refine blk_drewN ?_ _ | refine blk_drew ?_ | refine blk_alloc ?_ _)); exact BK328.out⟩, ⟨blw⟩⟩
            case rest =>
             clear HC150
             try clear c1
             try clear c2
             try clear p2
             try clear c3
             try clear c4
             try clear c4b0
             try clear c5
             try clear c6
             try clear c7
             try clear c8
             try clear c9
             try clear c10
             try clear c11
             try clear c12
             try clear c13
             try clear c14
             try clear c15
             try clear c16
             try clear c17
             try clear c18
             try clear c19
             try clear c20
             try clear c21
             try clear c27
             try clear c28
             try clear c33
             try clear c34
             try clear c35
             try clear c39
             try clear c41
             try clear c42
             try clear c43
             try clear c44
             try clear c46
             try clear c47
             try clear c53
             try clear c54
             try clear c55
             try clear c57
             try clear c58
             try clear c64
             try clear c65
             try clear c66
             try clear c68
             try clear c69
             try clear c72
             try clear c75
             try clear c82
             try clear c83
             try clear c84
             try clear c87
             try clear c87b0
             try clear c89
             try clear c91
             try clear c92
             try clear c93
             try clear c94
             try clear c96
             try clear c97
             try clear c103
             try clear c104
             try clear c105
             try clear c107
             try clear c108
             try clear c114
             try clear c115
             try clear c116
             try clear c118
             try clear c119
             try clear c122
             try clear c126
             try clear c126b0
             try clear c127
             try clear c128
             try clear c129
             try clear c137
             try clear c137b0
             try clear c138
             try clear c139
             try clear c140
             try clear c147
             try clear c147b0
             try clear c147b1
             try clear c151
             try clear c152
             try clear c153
             try clear c160
             try clear c161
             try clear c167
             try clear c168
             try clear c169
             try clear c170
             try clear c174
             try clear c176
             try clear c177
             try clear c178
             try clear c179
             try clear c180
             try clear c182
             try clear c183
             try clear c184
             try clear c190
             try clear c191
             try clear c192
             try clear c193
             try clear c195
             try clear c196
             try clear c197
             try clear c203
             try clear c204
             try clear c205
             try clear c206
             try clear c208
             try clear c209
             try clear c210
             try clear hcz106_0
             try clear hcz106_1
             try clear hcz109_0
             try clear hcz109_1
             try clear hcz117_0
             try clear hcz117_1
             try clear hcz120_0
             try clear hcz120_1
             try clear hcz130_0
             try clear hcz130_1
             try clear hcz134_0
             try clear hcz134_1
             try clear hcz141_0
             try clear hcz141_1
             try clear hcz145_0
             try clear hcz145_1
             try clear hcz14_0
             try clear hcz14_1
             try clear hcz154_0
             try clear hcz154_1
             try clear hcz158_0
             try clear hcz158_1
             try clear hcz162_0
             try clear hcz162_1
             try clear hcz16_0
             try clear hcz16_1
             try clear hcz171_0
             try clear hcz171_1
             try clear hcz181_0
             try clear hcz181_1
             try clear hcz185_0
             try clear hcz185_1
             try clear hcz194_0
             try clear hcz194_1
             try clear hcz198_0
             try clear hcz198_1
             try clear hcz207_0
             try clear hcz207_1
             try clear hcz211_0
             try clear hcz211_1
             try clear hcz22_0
             try clear hcz22_1
             try clear hcz24_0
             try clear hcz24_1
             try clear hcz29_0
             try clear hcz29_1
             try clear hcz36_0
             try clear hcz36_1
             try clear hcz45_0
             try clear hcz45_1
             try clear hcz48_0
             try clear hcz48_1
             try clear hcz56_0
             try clear hcz56_1
             try clear hcz59_0
             try clear hcz59_1
             try clear hcz67_0
             try clear hcz67_1
             try clear hcz6_0
             try clear hcz6_1
             try clear hcz70_0
             try clear hcz70_1
             try clear hcz85_0
             try clear hcz85_1
             try clear hcz95_0
             try clear hcz95_1
             try clear hcz98_0
             try clear hcz98_1
             try clear hfz106_0
             try clear hfz106_1
             try clear hfz109_0
             try clear hfz109_1
             try clear hfz117_0
             try clear hfz117_1
             try clear hfz120_0
             try clear hfz120_1
             try clear hfz130_0
             try clear hfz130_1
             try clear hfz134_0
             try clear hfz134_1
             try clear hfz141_0
             try clear hfz141_1
             try clear hfz145_0
             try clear hfz145_1
             try clear hfz14_0
             try clear hfz14_1
             try clear hfz154_0
             try clear hfz154_1
             try clear hfz158_0
             try clear hfz158_1
             try clear hfz162_0
             try clear hfz162_1
             try clear hfz16_0
             try clear hfz16_1
             try clear hfz171_0
             try clear hfz171_1
             try clear hfz181_0
             try clear hfz181_1
             try clear hfz185_0
             try clear hfz185_1
             try clear hfz194_0
             try clear hfz194_1
             try clear hfz198_0
             try clear hfz198_1
             try clear hfz207_0
             try clear hfz207_1
             try clear hfz211_0
             try clear hfz211_1
             try clear hfz22_0
             try clear hfz22_1
             try clear hfz24_0
             try clear hfz24_1
             try clear hfz29_0
             try clear hfz29_1
             try clear hfz36_0
             try clear hfz36_1
             try clear hfz45_0
             try clear hfz45_1
             try clear hfz48_0
             try clear hfz48_1
             try clear hfz56_0
             try clear hfz56_1
             try clear hfz59_0
             try clear hfz59_1
             try clear hfz67_0
             try clear hfz67_1
             try clear hfz6_0
             try clear hfz6_1
             try clear hfz70_0
             try clear hfz70_1
             try clear hfz85_0
             try clear hfz85_1
             try clear hfz95_0
             try clear hfz95_1
             try clear hfz98_0
             try clear hfz98_1
             try clear p2
             obtain ⟨kq, x124_149, rfl, HA, HJ149, HO_11, HO_285001, HO_290001, HO_299001, HO_329001, BK270, BK284, BK289, BK298, BK328, HB⟩ := hcut
             have hl11_149 := (Kd.R_reads' HO_11.out).1
             rw [hl11_149] at HO_11
             (try simp only [hl11_149])
             (try simp only [hl11_149] at BK270)
             (try simp only [hl11_149] at BK284)
             (try simp only [hl11_149] at BK289)
             (try simp only [hl11_149] at BK298)
             (try simp only [hl11_149] at BK328)
             (try simp only [hl11_149] at HO_285001)
             (try simp only [hl11_149] at HO_290001)
             (try simp only [hl11_149] at HO_299001)
             (try simp only [hl11_149] at HO_329001)
             have hl299001_149 := (Kd.R_reads' HO_299001.out).1
             rw [hl299001_149] at HO_299001
             (try simp only [hl299001_149])
             (try simp only [hl299001_149] at BK270)
             (try simp only [hl299001_149] at BK284)
             (try simp only [hl299001_149] at BK289)
             (try simp only [hl299001_149] at BK298)
             (try simp only [hl299001_149] at BK328)
             (try simp only [hl299001_149] at HO_11)
             (try simp only [hl299001_149] at HO_285001)
             (try simp only [hl299001_149] at HO_290001)
             (try simp only [hl299001_149] at HO_329001)
             cases kq with
             | zero => exact absurd HA.out (by simp [laws_FnExactRunClock.j2])
             | succ kj149 =>
              have H := HA.out
              clear HA
              simp only [laws_FnExactRunClock.j2] at H
              by_cases c213 : x124_149 = true
              ·subst c213
               have H1 : (some false) = some r := by rw [if_pos rfl] at H; exact H
               subst hr_; cases H1
              ·replace c213 := Bool.eq_false_iff.mpr c213
               subst c213
               have H1 : ((laws_heldClock.f kj149 t290 t311 1).bind fun t331 => (if t331 < 0 then (some false) else ((laws_heldFiredS.f kj149 t313 t331).bind fun t332 => (if t332 < 0 then (some false) else (if t332 = t312 then (some true) else (some false)))))) = some r := by rw [if_neg (show ¬ (false = true) by decide)] at H; exact H
               clear H
               have H := H1
               clear H1
               replace H := Option.bind_eq_some_iff.mp H
               obtain ⟨t331, A2140, H⟩ := H
               replace H : (if t331 < 0 then (some false) else ((laws_heldFiredS.f kj149 t313 t331).bind fun t332 => (if t332 < 0 then (some false) else (if t332 = t312 then (some true) else (some false))))) = some r := H
               have A214 := Aside0.mk A2140
               clear A2140
               by_cases c215 : t331 < 0
               ·rw [if_pos c215] at H
                subst hr_; cases H
               ·rw [if_neg c215] at H
                have c215b0 : decide (t331 < 0) = false := decide_eq_false c215
                clear c215
                replace H := Option.bind_eq_some_iff.mp H
                obtain ⟨t332, A2220, H⟩ := H
                replace H : (if t332 < 0 then (some false) else (if t332 = t312 then (some true) else (some false))) = some r := H
                have A222 := Aside0.mk A2220
                clear A2220
                by_cases c223 : t332 < 0
                ·rw [if_pos c223] at H
                 subst hr_; cases H
                ·rw [if_neg c223] at H
                 have c223b0 : decide (t332 < 0) = false := decide_eq_false c223
                 clear c223
                 by_cases c230 : t332 = t312
                 ·rw [if_pos c230] at H
                  have c230b0 : (t332 == t312) = true := beq_iff_eq.mpr c230
                  have c230b1 : (t332 != t312) = false := bne_eq_false_iff_eq.mpr c230
                  clear c230
                  obtain rfl := Option.some.inj H
                  have hnb231 := NB298_270.out
                  have hnc231 := NB270_298.out
                  have hnb232 := NB298_284.out
                  have hnc232 := NB284_298.out
                  have hnb233 := NB298_289.out
                  have hnc233 := NB289_298.out
                  have hnb234 := NB298_328.out
                  have hnc234 := NB328_298.out
                  have hcz235_0 : wc.cell? ⟨gb298, 0, none⟩ = some (.int .i64 t290) := (blk_cell BK298.out 0).trans rfl
                  have hcz235_1 : wc.cell? ⟨gb298, 1, none⟩ = some (.slice Ao37 t311.length co37) := (blk_cell BK298.out 1).trans rfl
                  have hfz235_0 := blk_frozen BK298.out 0
                  have hfz235_1 := blk_frozen BK298.out 1
                  go_wp2_with (first | ((with_reducible refine gate_callee (f := 15) rfl ?_); refine goesL_ (some 127) rfl rfl Try.func15 (by kernel_rfl) rfl #[.agg #[.int .i64 t290, .slice Ao37 t311.length co37], .int .i64 1] rfl (by (try simp only [List.map_toArray, List.map_cons, List.map_nil]); first | done | rfl | (simp only [List.length_drop, List.length_take]; rfl)) ?_; (with_reducible refine (laws_heldClock.calls kj149 t290 _ _ t311 1 t331 _ ?side1 ?side2 A214.out).mono ?_); (case side1 => repeat (first | exact (Kd.R_reads' HO_299001.out).2.2 | (with_reducible refine Kd.C_alloc ?_ _) | (with_reducible refine Kd.C_drewN ?_ _) | (with_reducible refine Kd.C_drew ?_))); (case side2 => exact (Kd.R_reads' HO_299001.out).2.1); rintro e w236 ⟨rfl, hb⟩; refine ⟨_, rfl, ?_⟩; have n0_ := Aside0.mk (Kd.R_below (by (with_reducible repeat (first | apply Kd.R_alloc | apply Kd.R_drewN | apply Kd.R_drew)); exact HO_11.out) hb); have n1_ := Aside0.mk (Kd.R_below (by (with_reducible repeat (first | apply Kd.R_alloc | apply Kd.R_drewN | apply Kd.R_drew)); exact HO_285001.out) hb); have n2_ := Aside0.mk (Kd.R_below (by (with_reducible repeat (first | apply Kd.R_alloc | apply Kd.R_drewN | apply Kd.R_drew)); exact HO_290001.out) hb); have n3_ := Aside0.mk (Kd.R_below (by (with_reducible repeat (first | apply Kd.R_alloc | apply Kd.R_drewN | apply Kd.R_drew)); exact HO_299001.out) hb); have n4_ := Aside0.mk (Kd.R_below (by (with_reducible repeat (first | apply Kd.R_alloc | apply Kd.R_drewN | apply Kd.R_drew)); exact HO_329001.out) hb); have n5_ := Aside0.mk (blk_below (g := gb270) (o := .cells #[.int .i64 a0_0, .slice A0_1 l0_1.length c0_1] 27 (0, 0)) bkw hb); have n6_ := Aside0.mk (blk_below (g := gb284) (o := .cells #[.int .i64 t276, .slice Ao23 t277.length co23] 31 (0, 0)) bkw hb); have n7_ := Aside0.mk (blk_below (g := gb289) (o := .cells #[.int .i64 t285, .slice Ao30 t307.length co30] 31 (0, 0)) bkw hb); have n8_ := Aside0.mk (blk_below (g := gb298) (o := .cells #[.int .i64 t290, .slice Ao37 t311.length co37] 31 (0, 0)) bkw hb); have n9_ := Aside0.mk (blk_below (g := gb328) (o := .cells #[.int .i64 t320, .slice Ao172 t321.length co172] 31 (0, 0)) bkw hb); have n10_ := Aside0.mk (below_step blw hb); clear HO_11; clear HO_285001; clear HO_290001; clear HO_299001; clear HO_329001; clear BK270; clear BK284; clear BK289; clear BK298; clear BK328; clear HB; have HO_11 := n0_; have HO_285001 := n1_; have HO_290001 := n2_; have HO_299001 := n3_; have HO_329001 := n4_; have BK270 := n5_; have BK284 := n6_; have BK289 := n7_; have BK298 := n8_; have BK328 := n9_; have HB := n10_; clear n0_ n1_ n2_ n3_ n4_ n5_ n6_ n7_ n8_ n9_ n10_; (try clear hb); (try clear hb2); (try clear hk); (try clear hi)) | ((with_reducible refine gate_callee (f := 16) rfl ?_); refine goesL_ (some 132) rfl rfl Try.func16 (by kernel_rfl) rfl #[.slice Ao156 t313.length co156, .int .i64 t331] rfl (by (try simp only [List.map_toArray, List.map_cons, List.map_nil]); first | done | rfl | (simp only [List.length_drop, List.length_take]; rfl)) ?_; (with_reducible refine (laws_heldFiredS.calls kj149 _ _ t313 t331 t332 _ ?side1 ?side2 A222.out).mono ?_); (case side1 => repeat (first | exact (Kd.R_reads' HO_11.out).2.2 | (with_reducible refine Kd.C_alloc ?_ _) | (with_reducible refine Kd.C_drewN ?_ _) | (with_reducible refine Kd.C_drew ?_))); (case side2 => exact (Kd.R_reads' HO_11.out).2.1); rintro e w' ⟨rfl, ⟨nd, rfl⟩⟩; refine ⟨_, rfl, ?_⟩))
                  go_ret
                  exact ⟨by first | rfl | (simp [errW_none, errW_some] <;> rfl) | (simp [*, errW_none, errW_some] <;> rfl), blw⟩
                 ·rw [if_neg c230] at H
                  subst hr_; cases H
           ·rw [if_neg c147] at H
            subst hr_; cases H
     ·replace c75 := Bool.eq_false_iff.mpr c75
      subst c75
      have H1 : (some false) = some r := by rw [if_neg (show ¬ (false = true) by decide)] at H; exact H
      subst hr_; cases H1

end Go.Proofs.Ytcdchmdkcdlklaa.PFnExactRunClock
