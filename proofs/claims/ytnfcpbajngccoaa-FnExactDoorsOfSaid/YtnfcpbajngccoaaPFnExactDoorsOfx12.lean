/- The machine's side of a law, function by function: a Lean function with the Go function's answers and the proof that the Go code comes to them. No condition. Written by this session's program over the kit's print, this session's own contracts set in. -/
import Derived.Test.YtnfcpbajngccoaaPFnExactDoorsOfx0
import Derived.Test.YtnfcpbajngccoaaPFnExactDoorsOfx10
namespace Go.Proofs.Ytnfcpbajngccoaa.PFnExactDoorsOf
open Go.RowKit Go.Proofs.YtnfcpbajngccoaaW.PrintWords Go.Proofs.YtnfcpbajngccoaaW.PrintLast Go.Proofs.YtnfcpbajngccoaaW.PrintMore
attribute [local go_sem] max2_int min2_int max_two min_two max_three min_three max_four min_four   -- for this text's walks alone
set_option linter.unusedVariables false
set_option linter.unusedSimpArgs false

/-! ### impl_goes: function 74 -/
def impl_goes.l0 : Nat → List Int → Int → Int → Int → Int → Option (Bool)
 | 0, _, _, _, _, _ => none
 | k + 1, x0, x1, x2, x11, x12 => if x12 < x11 then ((impl_edgeOf.f x0 x12).bind fun bt249 => (if bt249.1 = x1 then (if bt249.2 = x2 then (some true) else (impl_goes.l0 k x0 x1 x2 x11 (wrap64 (x12 + 1)))) else (impl_goes.l0 k x0 x1 x2 x11 (wrap64 (x12 + 1))))) else (some false)
def impl_goes.f (k : Nat) (l0 : List Int) (a1 : Int) (a2 : Int) : Option (Bool) := impl_goes.l0 k l0 a1 a2 (l0.length : Int) 0
theorem impl_goes.mono_l : ∀ k, (∀ y0 y1 y2 y3 y4, LeO (impl_goes.l0 k y0 y1 y2 y3 y4) (impl_goes.l0 (k + 1) y0 y1 y2 y3 y4))
 | 0 => fun _ _ _ _ _ r h => by simp [impl_goes.l0] at h
 | k + 1 => by
  have ih0 := impl_goes.mono_l k
  ·intro y0 y1 y2 y3 y4
   unfold impl_goes.l0
   repeat' first
   | (with_reducible exact ih0 _ _ _ _ _)
   | (with_reducible exact LeO.refl _)
   | (with_reducible exact LeO.none _)
   | (with_reducible refine LeO.ite ?_ ?_)
   | (with_reducible refine LeO.bind ?_ (fun _ => ?_))
   | exact ih0 _ _ _ _ _
   | exact LeO.none _
   | refine LeO.ite ?_ ?_
   | refine LeO.bind ?_ (fun _ => ?_)
theorem impl_goes.mono : ∀ a0 a1 a2 k, LeO (impl_goes.f k a0 a1 a2) (impl_goes.f (k + 1) a0 a1 a2) := by
 intro a0 a1 a2 k
 have ih0 := impl_goes.mono_l k
 unfold impl_goes.f
 repeat' first
   | (with_reducible exact ih0 _ _ _ _ _)
   | (with_reducible exact LeO.refl _)
   | (with_reducible exact LeO.none _)
   | (with_reducible refine LeO.ite ?_ ?_)
   | (with_reducible refine LeO.bind ?_ (fun _ => ?_))
   | exact ih0 _ _ _ _ _
   | exact LeO.none _
   | refine LeO.ite ?_ ?_
   | refine LeO.bind ?_ (fun _ => ?_)
set_option maxHeartbeats 8000000 in
set_option maxRecDepth 100000 in
theorem impl_goes.calls (k : Nat) (A0 : Option Addr) (c0 : Nat) (l0 : List Int) (a1 : Int) (a2 : Int) (r : Bool) (w : World) (hr0 : Kd.C (Kd.int .i64) w A0 l0.length l0) (hc0 : l0.length ≤ c0) (h : impl_goes.f k l0 a1 a2 = some r) :
  Calls Try.prog 74 #[.slice A0 l0.length c0, .int .i64 a1, .int .i64 a2] w fun e w' => e = .returned (.bool r) ∧ Drawn0 w w' := by
 have HR0 := Aside0.mk hr0
 have HC0 := Aside0.mk hc0
 clear hr0 hc0
 have H : (impl_goes.l0 k l0 a1 a2 (l0.length : Int) 0) = some r := h
 clear h
 have H' := Aside0.mk H
 clear H
 go_enter Try.func74, Try.ntmps74
 go_wp2
 go_loopg [12] k (fun kq v12 w' => ∃ (x12_1 : Int), v12 = .int .i64 x12_1 ∧ Aside0 (impl_goes.l0 kq l0 a1 a2 (l0.length : Int) x12_1 = some r) ∧ Aside0 (kq ≤ k) ∧ Drawn0 w w')
 case atStart => exact ⟨(0), (by first | rfl | (simp; done) | (simp [*]; done)), H', ⟨Nat.le_refl _⟩, by repeat (first | exact Drawn0.refl _ | apply Drawn0.step)⟩
 case round =>
  clear H'
  try clear p2
  obtain ⟨x12_1, rfl, HA, HK1, ⟨m1, rfl⟩⟩ := hrel
  cases gk with
  | zero => exact absurd HA.out (by simp [impl_goes.l0])
  | succ k1 =>
   have H := HA.out
   clear HA
   simp only [impl_goes.l0] at H
   by_cases c4 : x12_1 < (l0.length : Int)
   ·rw [if_pos c4] at H
    have c4b0 : decide (x12_1 < (l0.length : Int)) = true := decide_eq_true c4
    clear c4
    replace H := Option.bind_eq_some_iff.mp H
    obtain ⟨⟨t249, t250⟩, A50, H⟩ := H
    replace H : (if t249 = a1 then (if t250 = a2 then (some true) else (impl_goes.l0 k1 l0 a1 a2 (l0.length : Int) (wrap64 (x12_1 + 1)))) else (impl_goes.l0 k1 l0 a1 a2 (l0.length : Int) (wrap64 (x12_1 + 1)))) = some r := H
    have A5 := Aside0.mk A50
    clear A50
    by_cases c6 : t249 = a1
    ·rw [if_pos c6] at H
     have c6b0 : (t249 == a1) = true := beq_iff_eq.mpr c6
     have c6b1 : (t249 != a1) = false := bne_eq_false_iff_eq.mpr c6
     clear c6
     by_cases c7 : t250 = a2
     ·rw [if_pos c7] at H
      have c7b0 : (t250 == a2) = true := beq_iff_eq.mpr c7
      have c7b1 : (t250 != a2) = false := bne_eq_false_iff_eq.mpr c7
      clear c7
      obtain rfl := Option.some.inj H
      go_wp2_with (first | ((with_reducible refine gate_callee (f := 71) rfl ?_); refine goesL_ (some 18) rfl rfl Try.func71 (by kernel_rfl) rfl #[.slice A0 l0.length c0, .int .i64 x12_1] rfl (by (try simp only [List.map_toArray, List.map_cons, List.map_nil]); first | done | rfl | (simp only [List.length_drop, List.length_take]; rfl)) ?_; (with_reducible refine (impl_edgeOf.calls _ _ l0 x12_1 t249 t250 _ ?side1 ?side2 A5.out).mono ?_); (case side1 => repeat (first | exact HR0.out | (with_reducible refine Kd.C_alloc ?_ _) | (with_reducible refine Kd.C_drewN ?_ _) | (with_reducible refine Kd.C_drew ?_))); (case side2 => exact HC0.out); rintro e w' ⟨rfl, ⟨nd, rfl⟩⟩; refine ⟨_, rfl, ?_⟩))
      go_ret
      exact ⟨by first | rfl | (simp; done) | (simp [*]; done), by repeat (first | exact Drawn0.refl _ | apply Drawn0.step)⟩
     ·rw [if_neg c7] at H
      have c7b0 : (t250 == a2) = false := beq_eq_false_iff_ne.mpr c7
      have c7b1 : (t250 != a2) = true := bne_iff_ne.mpr c7
      have H' := Aside0.mk H
      clear H
      go_wp2_with (first | ((with_reducible refine gate_callee (f := 71) rfl ?_); refine goesL_ (some 18) rfl rfl Try.func71 (by kernel_rfl) rfl #[.slice A0 l0.length c0, .int .i64 x12_1] rfl (by (try simp only [List.map_toArray, List.map_cons, List.map_nil]); first | done | rfl | (simp only [List.length_drop, List.length_take]; rfl)) ?_; (with_reducible refine (impl_edgeOf.calls _ _ l0 x12_1 t249 t250 _ ?side1 ?side2 A5.out).mono ?_); (case side1 => repeat (first | exact HR0.out | (with_reducible refine Kd.C_alloc ?_ _) | (with_reducible refine Kd.C_drewN ?_ _) | (with_reducible refine Kd.C_drew ?_))); (case side2 => exact HC0.out); rintro e w' ⟨rfl, ⟨nd, rfl⟩⟩; refine ⟨_, rfl, ?_⟩))
      go_roundg k1
      case measure => have := HK1.out; omega
      case rel => exact ⟨(wrap64 (x12_1 + 1)), (by first | rfl | (simp; done) | (simp [*]; done)), H', ⟨by have := HK1.out; omega⟩, by repeat (first | exact Drawn0.refl _ | apply Drawn0.step)⟩
    ·rw [if_neg c6] at H
     have c6b0 : (t249 == a1) = false := beq_eq_false_iff_ne.mpr c6
     have c6b1 : (t249 != a1) = true := bne_iff_ne.mpr c6
     have H' := Aside0.mk H
     clear H
     go_wp2_with (first | ((with_reducible refine gate_callee (f := 71) rfl ?_); refine goesL_ (some 18) rfl rfl Try.func71 (by kernel_rfl) rfl #[.slice A0 l0.length c0, .int .i64 x12_1] rfl (by (try simp only [List.map_toArray, List.map_cons, List.map_nil]); first | done | rfl | (simp only [List.length_drop, List.length_take]; rfl)) ?_; (with_reducible refine (impl_edgeOf.calls _ _ l0 x12_1 t249 t250 _ ?side1 ?side2 A5.out).mono ?_); (case side1 => repeat (first | exact HR0.out | (with_reducible refine Kd.C_alloc ?_ _) | (with_reducible refine Kd.C_drewN ?_ _) | (with_reducible refine Kd.C_drew ?_))); (case side2 => exact HC0.out); rintro e w' ⟨rfl, ⟨nd, rfl⟩⟩; refine ⟨_, rfl, ?_⟩))
     go_roundg k1
     case measure => have := HK1.out; omega
     case rel => exact ⟨(wrap64 (x12_1 + 1)), (by first | rfl | (simp; done) | (simp [*]; done)), H', ⟨by have := HK1.out; omega⟩, by repeat (first | exact Drawn0.refl _ | apply Drawn0.step)⟩
   ·rw [if_neg c4] at H
    have c4b0 : decide (x12_1 < (l0.length : Int)) = false := decide_eq_false c4
    clear c4
    obtain rfl := Option.some.inj H
    go_wp2
    go_ret
    exact ⟨by first | rfl | (simp; done) | (simp [*]; done), by repeat (first | exact Drawn0.refl _ | apply Drawn0.step)⟩

/-! ### impl_sharesEdge: function 49 -/
def impl_sharesEdge.l0 : Nat → List Int → List Int → Int → Int → Option (Bool)
 | 0, _, _, _, _ => none
 | k + 1, x0, x1, x9, x10 => if x10 < x9 then ((impl_edgeOf.f x0 x10).bind fun bt251 => ((impl_goes.f k x1 bt251.1 bt251.2).bind fun t253 => (if t253 = true then (some true) else (impl_sharesEdge.l0 k x0 x1 x9 (wrap64 (x10 + 1)))))) else (some false)
def impl_sharesEdge.f (k : Nat) (l0 : List Int) (l1 : List Int) : Option (Bool) := impl_sharesEdge.l0 k l0 l1 (l0.length : Int) 0
theorem impl_sharesEdge.mono_l : ∀ k, (∀ y0 y1 y2 y3, LeO (impl_sharesEdge.l0 k y0 y1 y2 y3) (impl_sharesEdge.l0 (k + 1) y0 y1 y2 y3))
 | 0 => fun _ _ _ _ r h => by simp [impl_sharesEdge.l0] at h
 | k + 1 => by
  have ih0 := impl_sharesEdge.mono_l k
  ·intro y0 y1 y2 y3
   unfold impl_sharesEdge.l0
   repeat' first
   | (with_reducible exact ih0 _ _ _ _)
   | (with_reducible exact impl_goes.mono _ _ _ _)
   | (with_reducible exact LeO.refl _)
   | (with_reducible exact LeO.none _)
   | (with_reducible refine LeO.ite ?_ ?_)
   | (with_reducible refine LeO.bind ?_ (fun _ => ?_))
   | exact ih0 _ _ _ _
   | exact impl_goes.mono _ _ _ _
   | exact LeO.none _
   | refine LeO.ite ?_ ?_
   | refine LeO.bind ?_ (fun _ => ?_)
theorem impl_sharesEdge.mono : ∀ a0 a1 k, LeO (impl_sharesEdge.f k a0 a1) (impl_sharesEdge.f (k + 1) a0 a1) := by
 intro a0 a1 k
 have ih0 := impl_sharesEdge.mono_l k
 unfold impl_sharesEdge.f
 repeat' first
   | (with_reducible exact ih0 _ _ _ _)
   | (with_reducible exact impl_goes.mono _ _ _ _)
   | (with_reducible exact LeO.refl _)
   | (with_reducible exact LeO.none _)
   | (with_reducible refine LeO.ite ?_ ?_)
   | (with_reducible refine LeO.bind ?_ (fun _ => ?_))
   | exact ih0 _ _ _ _
   | exact impl_goes.mono _ _ _ _
   | exact LeO.none _
   | refine LeO.ite ?_ ?_
   | refine LeO.bind ?_ (fun _ => ?_)
set_option maxHeartbeats 8000000 in
set_option maxRecDepth 100000 in
theorem impl_sharesEdge.calls (k : Nat) (A0 : Option Addr) (c0 : Nat) (l0 : List Int) (A1 : Option Addr) (c1 : Nat) (l1 : List Int) (r : Bool) (w : World) (hr0 : Kd.C (Kd.int .i64) w A0 l0.length l0) (hc0 : l0.length ≤ c0) (hr1 : Kd.C (Kd.int .i64) w A1 l1.length l1) (hc1 : l1.length ≤ c1) (h : impl_sharesEdge.f k l0 l1 = some r) :
  Calls Try.prog 49 #[.slice A0 l0.length c0, .slice A1 l1.length c1] w fun e w' => e = .returned (.bool r) ∧ Drawn0 w w' := by
 have HR0 := Aside0.mk hr0
 have HC0 := Aside0.mk hc0
 clear hr0 hc0
 have HR1 := Aside0.mk hr1
 have HC1 := Aside0.mk hc1
 clear hr1 hc1
 have H : (impl_sharesEdge.l0 k l0 l1 (l0.length : Int) 0) = some r := h
 clear h
 have H' := Aside0.mk H
 clear H
 go_enter Try.func49, Try.ntmps49
 go_wp2
 go_loopg [10] k (fun kq v10 w' => ∃ (x10_1 : Int), v10 = .int .i64 x10_1 ∧ Aside0 (impl_sharesEdge.l0 kq l0 l1 (l0.length : Int) x10_1 = some r) ∧ Aside0 (kq ≤ k) ∧ Drawn0 w w')
 case atStart => exact ⟨(0), (by first | rfl | (simp; done) | (simp [*]; done)), H', ⟨Nat.le_refl _⟩, by repeat (first | exact Drawn0.refl _ | apply Drawn0.step)⟩
 case round =>
  clear H'
  try clear c1
  try clear p2
  obtain ⟨x10_1, rfl, HA, HK1, ⟨m1, rfl⟩⟩ := hrel
  cases gk with
  | zero => exact absurd HA.out (by simp [impl_sharesEdge.l0])
  | succ k1 =>
   have H := HA.out
   clear HA
   simp only [impl_sharesEdge.l0] at H
   by_cases c3 : x10_1 < (l0.length : Int)
   ·rw [if_pos c3] at H
    have c3b0 : decide (x10_1 < (l0.length : Int)) = true := decide_eq_true c3
    clear c3
    replace H := Option.bind_eq_some_iff.mp H
    obtain ⟨⟨t251, t252⟩, A40, H⟩ := H
    replace H : ((impl_goes.f k1 l1 t251 t252).bind fun t253 => (if t253 = true then (some true) else (impl_sharesEdge.l0 k1 l0 l1 (l0.length : Int) (wrap64 (x10_1 + 1))))) = some r := H
    have A4 := Aside0.mk A40
    clear A40
    replace H := Option.bind_eq_some_iff.mp H
    obtain ⟨t253, A50, H⟩ := H
    replace H : (if t253 = true then (some true) else (impl_sharesEdge.l0 k1 l0 l1 (l0.length : Int) (wrap64 (x10_1 + 1)))) = some r := H
    have A5 := Aside0.mk A50
    clear A50
    by_cases c6 : t253 = true
    ·subst c6
     have H1 : (some true) = some r := by rw [if_pos rfl] at H; exact H
     clear H
     have H := H1
     clear H1
     obtain rfl := Option.some.inj H
     go_wp2_with (first | ((with_reducible refine gate_callee (f := 71) rfl ?_); refine goesL_ (some 16) rfl rfl Try.func71 (by kernel_rfl) rfl #[.slice A0 l0.length c0, .int .i64 x10_1] rfl (by (try simp only [List.map_toArray, List.map_cons, List.map_nil]); first | done | rfl | (simp only [List.length_drop, List.length_take]; rfl)) ?_; (with_reducible refine (impl_edgeOf.calls _ _ l0 x10_1 t251 t252 _ ?side1 ?side2 A4.out).mono ?_); (case side1 => repeat (first | exact HR0.out | (with_reducible refine Kd.C_alloc ?_ _) | (with_reducible refine Kd.C_drewN ?_ _) | (with_reducible refine Kd.C_drew ?_))); (case side2 => exact HC0.out); rintro e w' ⟨rfl, ⟨nd, rfl⟩⟩; refine ⟨_, rfl, ?_⟩) | ((with_reducible refine gate_callee (f := 74) rfl ?_); refine goesL_ (some 22) rfl rfl Try.func74 (by kernel_rfl) rfl #[.slice A1 l1.length c1, .int .i64 t251, .int .i64 t252] rfl (by (try simp only [List.map_toArray, List.map_cons, List.map_nil]); first | done | rfl | (simp only [List.length_drop, List.length_take]; rfl)) ?_; (with_reducible refine (impl_goes.calls k1 _ _ l1 t251 t252 true _ ?side1 ?side2 A5.out).mono ?_); (case side1 => repeat (first | exact HR1.out | (with_reducible refine Kd.C_alloc ?_ _) | (with_reducible refine Kd.C_drewN ?_ _) | (with_reducible refine Kd.C_drew ?_))); (case side2 => exact HC1.out); rintro e w' ⟨rfl, ⟨nd, rfl⟩⟩; refine ⟨_, rfl, ?_⟩))
     go_ret
     exact ⟨by first | rfl | (simp; done) | (simp [*]; done), by repeat (first | exact Drawn0.refl _ | apply Drawn0.step)⟩
    ·replace c6 := Bool.eq_false_iff.mpr c6
     subst c6
     have H1 : (impl_sharesEdge.l0 k1 l0 l1 (l0.length : Int) (wrap64 (x10_1 + 1))) = some r := by rw [if_neg (show ¬ (false = true) by decide)] at H; exact H
     clear H
     have H := H1
     clear H1
     have H' := Aside0.mk H
     clear H
     go_wp2_with (first | ((with_reducible refine gate_callee (f := 71) rfl ?_); refine goesL_ (some 16) rfl rfl Try.func71 (by kernel_rfl) rfl #[.slice A0 l0.length c0, .int .i64 x10_1] rfl (by (try simp only [List.map_toArray, List.map_cons, List.map_nil]); first | done | rfl | (simp only [List.length_drop, List.length_take]; rfl)) ?_; (with_reducible refine (impl_edgeOf.calls _ _ l0 x10_1 t251 t252 _ ?side1 ?side2 A4.out).mono ?_); (case side1 => repeat (first | exact HR0.out | (with_reducible refine Kd.C_alloc ?_ _) | (with_reducible refine Kd.C_drewN ?_ _) | (with_reducible refine Kd.C_drew ?_))); (case side2 => exact HC0.out); rintro e w' ⟨rfl, ⟨nd, rfl⟩⟩; refine ⟨_, rfl, ?_⟩) | ((with_reducible refine gate_callee (f := 74) rfl ?_); refine goesL_ (some 22) rfl rfl Try.func74 (by kernel_rfl) rfl #[.slice A1 l1.length c1, .int .i64 t251, .int .i64 t252] rfl (by (try simp only [List.map_toArray, List.map_cons, List.map_nil]); first | done | rfl | (simp only [List.length_drop, List.length_take]; rfl)) ?_; (with_reducible refine (impl_goes.calls k1 _ _ l1 t251 t252 false _ ?side1 ?side2 A5.out).mono ?_); (case side1 => repeat (first | exact HR1.out | (with_reducible refine Kd.C_alloc ?_ _) | (with_reducible refine Kd.C_drewN ?_ _) | (with_reducible refine Kd.C_drew ?_))); (case side2 => exact HC1.out); rintro e w' ⟨rfl, ⟨nd, rfl⟩⟩; refine ⟨_, rfl, ?_⟩))
     go_roundg k1
     case measure => have := HK1.out; omega
     case rel => exact ⟨(wrap64 (x10_1 + 1)), (by first | rfl | (simp; done) | (simp [*]; done)), H', ⟨by have := HK1.out; omega⟩, by repeat (first | exact Drawn0.refl _ | apply Drawn0.step)⟩
   ·rw [if_neg c3] at H
    have c3b0 : decide (x10_1 < (l0.length : Int)) = false := decide_eq_false c3
    clear c3
    obtain rfl := Option.some.inj H
    go_wp2
    go_ret
    exact ⟨by first | rfl | (simp; done) | (simp [*]; done), by repeat (first | exact Drawn0.refl _ | apply Drawn0.step)⟩


/-! ### slices_ContainsFunc_int_int: function 47 -/
theorem slices_ContainsFunc_int_int.at {w : World} {A : Option Addr} {n : Nat} {xs : List (List Int)} (h : Kd.C (Kd.slice 3 (Kd.int .i64)) w A n xs) (i : Int) (h0 : 0 ≤ i) (h1 : i < n) : ∃ ad A0 c0, A = some ad ∧ w.cell? (ad.add i.toNat) = some (.slice A0 (xs.getD i.toNat ([] : List Int)).length c0) ∧ (xs.getD i.toNat ([] : List Int)).length ≤ c0 ∧ (Kd.int .i64).C w A0 (xs.getD i.toNat ([] : List Int)).length (xs.getD i.toNat ([] : List Int)) := by
 obtain ⟨ad, c, e, _, hK, hc0⟩ := Kd.C_get h ([] : List Int) i h0 h1
 have hc : ∀ j u, c[j]? = some u → w.cell? (ad.add (i.toNat * 1 + j)) = some u := hc0
 obtain ⟨A0, c0, rfl, l0, g0⟩ := hK
 exact ⟨ad, A0, c0, e, by have hq := hc 0 _ rfl; rwa [Nat.mul_one, Nat.add_zero] at hq, l0, g0⟩
def slices_ContainsFunc_int_int.f (k : Nat) (l0 : List (List Int)) (l1 : List Int) : Option (Bool) := anyO (fun x => impl_sharesEdge.f k l1 x) l0
theorem slices_ContainsFunc_int_int.mono : ∀ a0 a1 k, LeO (slices_ContainsFunc_int_int.f k a0 a1) (slices_ContainsFunc_int_int.f (k + 1) a0 a1) := fun a0 a1 k => anyO_le (fun x => impl_sharesEdge.mono a1 x k)
set_option maxHeartbeats 8000000 in
set_option maxRecDepth 100000 in
theorem slices_ContainsFunc_int_int.clo (k : Nat) (gb : Nat) (A1 : Option Addr) (c1 : Nat) (l1 : List Int) (Ax : Option Addr) (cx : Nat) (lx : List Int) (b : Bool) (w : World) (hbx : w.heap[gb]? = some (.cells #[.slice A1 l1.length c1] 36 (0, 0))) (hr1 : Kd.C (Kd.int .i64) w A1 l1.length l1) (hc1 : l1.length ≤ c1) (hrx : Kd.C (Kd.int .i64) w Ax lx.length lx) (hcx : lx.length ≤ cx) (h : impl_sharesEdge.f k l1 lx = some b) :
  Calls Try.prog 48 #[.slice Ax lx.length cx, .pointer (some ⟨gb, 0, none⟩)] w fun e w' => e = .returned (.bool b) ∧ Below w.heap.size w w' := by
 have HB := Aside0.mk (Below.refl w.heap.size w)
 have hx0 : w.cell? ⟨gb, 0, none⟩ = some (.slice A1 l1.length c1) := by simp [World.cell?, hbx]
 have H := Aside0.mk h
 have R1 := Aside0.mk hr1
 have RX := Aside0.mk hrx
 clear h hbx hr1 hrx
 go_enter Try.func48, Try.ntmps48
 go_wp2_with (go_at_call 49; (with_reducible refine (impl_sharesEdge.calls k A1 c1 l1 Ax cx lx b _ ?s1 hc1 ?s2 hcx H.out).mono ?_); (case s1 => repeat (first | exact R1.out | (with_reducible refine Kd.C_drewN ?_ _) | (with_reducible refine Kd.C_drew ?_))); (case s2 => repeat (first | exact RX.out | (with_reducible refine Kd.C_drewN ?_ _) | (with_reducible refine Kd.C_drew ?_))); rintro e w' ⟨rfl, ⟨nd, rfl⟩⟩)
 go_ret
 exact ⟨rfl, blw⟩
set_option maxHeartbeats 8000000 in
set_option maxRecDepth 100000 in
theorem slices_ContainsFunc_int_int.index (k : Nat) (p : List Int → Bool) (A0 : Option Addr) (c0 : Nat) (l0 : List (List Int)) (gb : Nat) (A1 : Option Addr) (c1 : Nat) (l1 : List Int) (w : World) (hr0 : Kd.C (Kd.slice 3 (Kd.int .i64)) w A0 l0.length l0) (hc0 : l0.length ≤ c0) (hbx : w.heap[gb]? = some (.cells #[.slice A1 l1.length c1] 36 (0, 0))) (hr1 : Kd.C (Kd.int .i64) w A1 l1.length l1) (hc1 : l1.length ≤ c1) (hp : ∀ x ∈ l0, impl_sharesEdge.f k l1 x = some (p x)) :
  Calls Try.prog 73 #[.slice A0 l0.length c0, .func (.func 48) #[] #[.pointer (some ⟨gb, 0, none⟩)]] w fun e w' => e = .returned (.int .i64 (idxO p l0)) ∧ Below w.heap.size w w' := by
 have hn : l0.length ≤ 9223372036854775807 := hr0.2.1
 have eg := Go.Proofs.enters_of Try.func48 (by kernel_rfl) rfl
 have HR0 := Aside0.mk hr0
 have HP := Aside0.mk hp
 have HX := Aside0.mk hbx
 have R1 := Aside0.mk hr1
 clear hr0 hp hbx hr1
 go_enter Try.func73, Try.ntmps73
 go_wp2
 go_loopg [5, 8] l0.length (fun gg _ s8 wr => ∃ kk : Nat, kk ≤ l0.length ∧ l0.length - kk ≤ gg ∧ s8 = .int .i64 (kk : Int) ∧ Aside0 (Below w.heap.size w wr) ∧ Aside0 (∀ j (hj : j < l0.length), j < kk → p (l0[j]'hj) = false))
 case atStart => exact ⟨0, Nat.zero_le _, by omega, rfl, ⟨Below.refl _ w⟩, ⟨fun j hj h => absurd h (Nat.not_lt_zero _)⟩⟩
 case round =>
  obtain ⟨kk, hkk, hg, rfl, HB, HN⟩ := hrel
  have BX := Aside0.mk (blk_below HX.out HB.out)
  by_cases hlt : kk < l0.length
  ·have hltz : (kk : Int) < (l0.length : Int) := by omega
   have p1 : 0 ≤ (kk : Int) := by omega
   obtain ⟨ad1, Ax, cx, e1, hx0, hlx, hix⟩ := slices_ContainsFunc_int_int.at HR0.out (kk : Int) p1 hltz
   have hy : l0.getD (kk : Int).toNat ([] : List Int) = l0[kk]'hlt := by simp [hlt]
   cases e1
   rw [hy] at hx0 hlx hix; clear hy
   replace hx0 := (HB.out.cell (World.block_lt_of_cell? w _ hx0)).trans hx0
   simp only [Int.toNat_natCast] at hx0
   have HC := Aside0.mk (HP.out _ (List.getElem_mem hlt))
   have HQ : Aside0 (∀ y, l0[kk]'hlt = y → p y = p (l0[kk]'hlt)) := ⟨fun y h => by rw [h]⟩
   generalize hy : l0[kk]'hlt = y at hx0 hlx hix HC
   have HE := Aside0.mk hy; clear hy
   have RX := Aside0.mk hix
   clear hix
   replace p1 := eq_true p1
   by_cases hq : p y = true
   ·have HQ1 := Aside0.mk hq; clear hq
    have HC2 : Aside0 (impl_sharesEdge.f k l1 y = some true) := ⟨Eq.trans (b := some (p y)) HC.out (by rw [HQ1.out])⟩
    clear HC
    go_wp2_with fail
    refine (slices_ContainsFunc_int_int.clo k gb A1 c1 l1 Ax cx y true _ (by (with_reducible repeat (first | refine blk_drewN ?_ _ | refine blk_drew ?_ | refine blk_alloc ?_ _)); exact BX.out) (by repeat (first | exact (Kd.C_below R1.out HB.out) | (with_reducible refine Kd.C_drewN ?_ _) | (with_reducible refine Kd.C_drew ?_))) hc1 (by repeat (first | exact (Kd.C_below RX.out HB.out) | (with_reducible refine Kd.C_drewN ?_ _) | (with_reducible refine Kd.C_drew ?_))) hlx HC2.out).mono ?_
    rintro e w8 ⟨rfl, hb⟩; have n0_ := Aside0.mk (below_step blw hb); clear HB; have HB := n0_; clear n0_ hb
    go_wp2
    go_ret
    refine ⟨?_, blw⟩
    rw [idxO_hit hlt (by rw [HE.out]; exact HQ1.out) (fun j hj => HN.out j (by omega) hj)]
    rfl
   ·have HQ1 := Aside0.mk (Bool.eq_false_iff.mpr hq); clear hq
    have HC2 : Aside0 (impl_sharesEdge.f k l1 y = some false) := ⟨Eq.trans (b := some (p y)) HC.out (by rw [HQ1.out])⟩
    clear HC
    go_wp2_with fail
    refine (slices_ContainsFunc_int_int.clo k gb A1 c1 l1 Ax cx y false _ (by (with_reducible repeat (first | refine blk_drewN ?_ _ | refine blk_drew ?_ | refine blk_alloc ?_ _)); exact BX.out) (by repeat (first | exact (Kd.C_below R1.out HB.out) | (with_reducible refine Kd.C_drewN ?_ _) | (with_reducible refine Kd.C_drew ?_))) hc1 (by repeat (first | exact (Kd.C_below RX.out HB.out) | (with_reducible refine Kd.C_drewN ?_ _) | (with_reducible refine Kd.C_drew ?_))) hlx HC2.out).mono ?_
    rintro e w8 ⟨rfl, hb⟩; have n0_ := Aside0.mk (below_step blw hb); clear HB; have HB := n0_; clear n0_ hb
    go_wp2
    go_roundg (l0.length - (kk + 1))
    case measure => omega
    case rel =>
     refine ⟨kk + 1, by omega, by omega, by go_num, ⟨blw⟩, ⟨fun j hj h => ?_⟩⟩
     by_cases e : j = kk
     ·subst e; rw [HE.out]; exact HQ1.out
     ·exact HN.out j hj (by omega)
  ·have hltz : ¬ (kk : Int) < (l0.length : Int) := by omega
   have hke : kk = l0.length := by omega
   have HM := Aside0.mk (idxO_miss (p := p) (fun j hj => HN.out j hj (by omega)))
   clear hke HN
   go_wp2
   go_ret
   exact ⟨by rw [HM.out]; rfl, HB.out⟩
set_option maxHeartbeats 8000000 in
theorem slices_ContainsFunc_int_int.calls (k : Nat) (A0 : Option Addr) (c0 : Nat) (l0 : List (List Int)) (gb : Nat) (A1 : Option Addr) (c1 : Nat) (l1 : List Int) (r : Bool) (w : World) (hr0 : Kd.C (Kd.slice 3 (Kd.int .i64)) w A0 l0.length l0) (hc0 : l0.length ≤ c0) (hr1 : Kd.C (Kd.int .i64) w A1 l1.length l1) (hc1 : l1.length ≤ c1) (hbx : w.heap[gb]? = some (.cells #[.slice A1 l1.length c1] 36 (0, 0))) (h : slices_ContainsFunc_int_int.f k l0 l1 = some r) :
  Calls Try.prog 47 #[.slice A0 l0.length c0, .func (.func 48) #[] #[.pointer (some ⟨gb, 0, none⟩)]] w fun e w' => e = .returned (.bool r) ∧ Below w.heap.size w w' := by
 unfold slices_ContainsFunc_int_int.f at h
 obtain ⟨p, hp, rfl⟩ := anyO_open h
 rw [← idxO_nonneg]
 have hi := idxO_range p l0
 have hl := hr0.2.1
 have HR := Aside0.mk hr0; have HX := Aside0.mk hbx; have R1 := Aside0.mk hr1; clear hr0 hbx hr1
 go_enter Try.func47, Try.ntmps47
 go_wp2_with (first | (go_at_call 73; (with_reducible refine (slices_ContainsFunc_int_int.index k p A0 c0 l0 gb A1 c1 l1 _ HR.out hc0 HX.out R1.out hc1 hp).mono ?_); rintro e w' ⟨rfl, hb⟩))
 go_ret
 exact ⟨rfl, hb⟩

end Go.Proofs.Ytnfcpbajngccoaa.PFnExactDoorsOf
