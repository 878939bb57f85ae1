/- The machine's side of a law, function by function: a Lean function with the Go function's answers and the proof that the Go code comes to them. No condition. Written by this session's program over the kit's print, this session's own contracts set in. -/
import Derived.Test.YtiaajmnmbjheoaaPFnExactKindsOfx0
import Derived.Test.YtiaajmnmbjheoaaPFnExactKindsOfx1
import Derived.Test.YtiaajmnmbjheoaaPFnExactKindsOfx4
import Derived.Test.YtiaajmnmbjheoaaPFnExactKindsOfx5
import Derived.Test.YtiaajmnmbjheoaaPFnExactKindsOfx9
import Derived.Test.YtiaajmnmbjheoaaPFnExactKindsOfx10
import Derived.Test.YtiaajmnmbjheoaaPFnExactKindsOfx12
namespace Go.Proofs.Ytiaajmnmbjheoaa.PFnExactKindsOf
open Go.RowKit Go.Proofs.YtiaajmnmbjheoaaW.PrintWords Go.Proofs.YtiaajmnmbjheoaaW.PrintLast Go.Proofs.YtiaajmnmbjheoaaW.PrintMore
attribute [local go_sem] max2_int min2_int max_two min_two max_three min_three max_four min_four   -- for this text's walks alone
set_option linter.unusedVariables false
set_option linter.unusedSimpArgs false

/-! ### laws_heldStringS: function 53 -/
def laws_heldStringS.l0 : Nat → List ByteArray → Int → Int → Option (Int)
 | 0, _, _, _ => none
 | k + 1, x0, x1, x5 => if x5 < (x0.length : Int) then (if 0 ≤ x5 then ((laws_markText.f k x1).bind fun t299 => (if (rdOf ByteArray.empty x0 x5).toList = t299.toList then (laws_heldStringS.l0 k x0 (wrap64 (x1 + 1)) (wrap64 (x5 + 1))) else (some (-1)))) else (none)) else (some x1)
def laws_heldStringS.f (k : Nat) (l0 : List ByteArray) (a1 : Int) : Option (Int) := laws_heldStringS.l0 k l0 a1 0
theorem laws_heldStringS.mono_l : ∀ k, (∀ y0 y1 y2, LeO (laws_heldStringS.l0 k y0 y1 y2) (laws_heldStringS.l0 (k + 1) y0 y1 y2))
 | 0 => fun _ _ _ r h => by simp [laws_heldStringS.l0] at h
 | k + 1 => by
  have ih0 := laws_heldStringS.mono_l k
  ·intro y0 y1 y2
   unfold laws_heldStringS.l0
   repeat' first
   | (with_reducible exact ih0 _ _ _)
   | (with_reducible exact laws_markText.mono _ _)
   | (with_reducible exact LeO.refl _)
   | (with_reducible exact LeO.none _)
   | (with_reducible refine LeO.ite ?_ ?_)
   | (with_reducible refine LeO.bind ?_ (fun _ => ?_))
   | exact ih0 _ _ _
   | exact laws_markText.mono _ _
   | exact LeO.none _
   | refine LeO.ite ?_ ?_
   | refine LeO.bind ?_ (fun _ => ?_)
theorem laws_heldStringS.mono : ∀ a0 a1 k, LeO (laws_heldStringS.f k a0 a1) (laws_heldStringS.f (k + 1) a0 a1) := by
 intro a0 a1 k
 have ih0 := laws_heldStringS.mono_l k
 unfold laws_heldStringS.f
 repeat' first
   | (with_reducible exact ih0 _ _ _)
   | (with_reducible exact laws_markText.mono _ _)
   | (with_reducible exact LeO.refl _)
   | (with_reducible exact LeO.none _)
   | (with_reducible refine LeO.ite ?_ ?_)
   | (with_reducible refine LeO.bind ?_ (fun _ => ?_))
   | exact ih0 _ _ _
   | exact laws_markText.mono _ _
   | exact LeO.none _
   | refine LeO.ite ?_ ?_
   | refine LeO.bind ?_ (fun _ => ?_)
set_option maxHeartbeats 8000000 in
set_option maxRecDepth 100000 in
theorem laws_heldStringS.calls (k : Nat) (A0 : Option Addr) (c0 : Nat) (l0 : List ByteArray) (a1 : Int) (r : Int) (w : World) (hr0 : Kd.C Kd.string w A0 l0.length l0) (hc0 : l0.length ≤ c0) (h : laws_heldStringS.f k l0 a1 = some r) :
  Calls Try.prog 53 #[.slice A0 l0.length c0, .int .i64 a1] w fun e w' => e = .returned (.int .i64 r) ∧ Below w.heap.size w w' := by
 have HR0 := Aside0.mk hr0
 have HC0 := Aside0.mk hc0
 clear hr0 hc0
 have HB := Aside0.mk (Below.refl w.heap.size w)
 have H : (laws_heldStringS.l0 k l0 a1 0) = some r := h
 clear h
 have H' := Aside0.mk H
 clear H
 go_enter Try.func53, Try.ntmps53
 go_wp2
 go_loopg [1, 5] k (fun kq v1 v5 w' => ∃ (x1_1 : Int) (x5_1 : Int), v1 = .int .i64 x1_1 ∧ v5 = .int .i64 x5_1 ∧ Aside0 (laws_heldStringS.l0 kq l0 x1_1 x5_1 = some r) ∧ Aside0 (kq ≤ k) ∧ Aside0 (Below w.heap.size w w'))
 case atStart => exact ⟨(a1), (0), (by first | rfl | (simp; done) | (simp [*]; done)), (by first | rfl | (simp; done) | (simp [*]; done)), H', ⟨Nat.le_refl _⟩, ⟨blw⟩⟩
 case round =>
  clear H'
  try clear p2
  obtain ⟨x1_1, x5_1, rfl, rfl, HA, HK1, HB⟩ := hrel
  cases gk with
  | zero => exact absurd HA.out (by simp [laws_heldStringS.l0])
  | succ k1 =>
   have H := HA.out
   clear HA
   simp only [laws_heldStringS.l0] at H
   by_cases c3 : x5_1 < (l0.length : Int)
   ·rw [if_pos c3] at H
    have c3b0 : decide (x5_1 < (l0.length : Int)) = true := decide_eq_true c3
    clear c3
    by_cases c4 : 0 ≤ x5_1
    ·rw [if_pos c4] at H
     have c4b0 : decide (0 ≤ x5_1) = true := decide_eq_true c4
     clear c4
     replace H := Option.bind_eq_some_iff.mp H
     obtain ⟨t299, A50, H⟩ := H
     replace H : (if (rdOf ByteArray.empty l0 x5_1).toList = t299.toList then (laws_heldStringS.l0 k1 l0 (wrap64 (x1_1 + 1)) (wrap64 (x5_1 + 1))) else (some (-1))) = some r := H
     have A5 := Aside0.mk A50
     clear A50
     by_cases c6 : (rdOf ByteArray.empty l0 x5_1).toList = t299.toList
     ·rw [if_pos c6] at H
      have c6b0 : ((rdOf ByteArray.empty l0 x5_1).toList == t299.toList) = true := beq_iff_eq.mpr c6
      have c6b1 : ((rdOf ByteArray.empty l0 x5_1).toList != t299.toList) = false := bne_eq_false_iff_eq.mpr c6
      clear c6
      have H' := Aside0.mk H
      clear H
      try go_wp2
      have n0_ := Aside0.mk (below_drew1 HB.out)
      clear HB
      have HB := n0_
      clear n0_
      have p298 : 0 ≤ (x5_1 : Int) := odt
      have q298 : x5_1 < (l0.length : Int) := odt
      obtain ⟨ad298, e298, hx298_0⟩ := Kd.at_string HR0.out x5_1 p298 q298
      have hw298_0 := hx298_0
      cases e298
      replace hx298_0 := (HB.out.cell (World.block_lt_of_cell? w _ hx298_0)).trans hx298_0
      replace p298 := eq_true p298
      replace q298 := eq_true q298
      refine start_ (n := 7) (S := fun w' => w'.cell? (ad298.add (x5_1).toNat) = some (.string (rdOf ByteArray.empty l0 x5_1))) (ds := []) #[false, false, false, false, false, false, false] (by kernel_rfl) rfl rfl (((HB.out.cell (World.block_lt_of_cell? w _ hw298_0)).trans hw298_0)) (fun hHeld => ?_)
      generalize wr.drew = w7 at HB hx298_0 hHeld ⊢
      refine pure_ (i := 0) (N := some 12) (v := ?_) (a' := ?_) #[true, false, false, false, false, false, false] rfl rfl (by kernel_rfl) (fun _ _ _ h => h) (Or.inl ⟨by rfl, ?_⟩) ?_ ?_
      rotate_left; (· (intro w'; go_simp; with_reducible rfl)); rotate_left; (· (simp only [Act.put, sp1, sp2, sp3, i64_w, i32_w]; rfl))
      refine pure_ (i := 1) (N := some 13) (v := ?_) (a' := ?_) #[true, true, false, false, false, false, false] rfl rfl (by kernel_rfl) (fun _ _ _ h => h) (Or.inl ⟨by rfl, ?_⟩) ?_ ?_
      rotate_left; (· (intro w'; go_simp; with_reducible rfl)); rotate_left; (· (simp only [Act.put, sp1, sp2, sp3, i64_w, i32_w]; rfl))
      refine pure_ (i := 2) (N := some 14) (v := ?_) (a' := ?_) #[true, true, true, false, false, false, false] rfl rfl (by kernel_rfl) (fun _ _ _ h => h) (Or.inl ⟨by rfl, ?_⟩) ?_ ?_
      rotate_left; (· (intro w'; go_simp; with_reducible rfl)); rotate_left; (· (simp only [Act.put, sp1, sp2, sp3, i64_w, i32_w]; rfl))
      refine pure_ (i := 4) (N := some 16) (v := ?_) (a' := ?_) #[true, true, true, false, true, false, false] rfl rfl (by kernel_rfl) (fun _ _ _ h => h) (Or.inl ⟨by rfl, ?_⟩) ?_ ?_
      rotate_left; (· (intro w'; go_simp; with_reducible rfl)); rotate_left; (· (simp only [Act.put, sp1, sp2, sp3, i64_w, i32_w]; rfl))
      refine take_ (i := 3) (N := some 15) (v := ?_) (a' := ?_) #[true, true, true, true, true, false, false] rfl rfl (by kernel_rfl) (fun _ _ _ h => h) (Or.inl ⟨by rfl, ?_⟩) hHeld ?_ ?_
      rotate_left; (· (intro w' s0; go_simp; with_reducible rfl)); rotate_left; (· (simp only [Act.put, sp1, sp2, sp3, i64_w, i32_w]; rfl))
      refine one_ (i := 5) (N := some 17) #[true, true, true, true, true, true, false] rfl rfl (by kernel_rfl) (by decide) (fun K hK => ?_)
      refine goes_ Try.func96 (by kernel_rfl) rfl #[.int .i64 x1_1] (by rfl) rfl rfl (by (try simp only [List.map_toArray, List.map_cons, List.map_nil]); first | done | rfl | (simp only [List.length_drop, List.length_take]; rfl)) ?_
      with_reducible refine (laws_markText.calls k1 x1_1 t299 _ A5.out).mono ?_
      rintro e w8 ⟨rfl, hb⟩
      refine ⟨_, rfl, ?_⟩
      have n0_ := Aside0.mk (below_step blw hb)
      clear HB
      have HB := n0_
      clear n0_
      (try clear hb)
      (try clear hb2)
      (try clear hk)
      (try clear hi)
      refine hK.out _ _ (((HB.out.cell (World.block_lt_of_cell? w _ hw298_0)).trans hw298_0)) (fun hHeld => ?_)
      clear hK K
      refine norm_ (a' := ?_) ?_ ?_
      rotate_left
      ·show Act.put _ (some 17) _ = _
       simp only [Act.put, sp1, sp2, sp3, i64_w, i32_w]
       rfl
      refine pure_ (i := 6) (N := some 18) (v := ?_) (a' := ?_) #[true, true, true, true, true, true, true] rfl rfl (by kernel_rfl) (fun _ _ _ h => h) (Or.inl ⟨by rfl, ?_⟩) ?_ ?_
      rotate_left; (· (intro w'; go_simp; with_reducible rfl)); rotate_left; (· (simp only [Act.put, sp1, sp2, sp3, i64_w, i32_w]; rfl))
      refine done_ (by kernel_rfl) ?_
      try go_wp2
      go_roundg k1
      case measure => have := HK1.out; omega
      case rel => exact ⟨(wrap64 (x1_1 + 1)), (wrap64 (x5_1 + 1)), (by first | rfl | (simp; done) | (simp [*]; done)), (by first | rfl | (simp; done) | (simp [*]; done)), H', ⟨by have := HK1.out; omega⟩, ⟨blw⟩⟩
     ·rw [if_neg c6] at H
      have c6b0 : ((rdOf ByteArray.empty l0 x5_1).toList == t299.toList) = false := beq_eq_false_iff_ne.mpr c6
      have c6b1 : ((rdOf ByteArray.empty l0 x5_1).toList != t299.toList) = true := bne_iff_ne.mpr c6
      obtain rfl := Option.some.inj H
      try go_wp2
      have n0_ := Aside0.mk (below_drew1 HB.out)
      clear HB
      have HB := n0_
      clear n0_
      have p298 : 0 ≤ (x5_1 : Int) := odt
      have q298 : x5_1 < (l0.length : Int) := odt
      obtain ⟨ad298, e298, hx298_0⟩ := Kd.at_string HR0.out x5_1 p298 q298
      have hw298_0 := hx298_0
      cases e298
      replace hx298_0 := (HB.out.cell (World.block_lt_of_cell? w _ hx298_0)).trans hx298_0
      replace p298 := eq_true p298
      replace q298 := eq_true q298
      refine start_ (n := 7) (S := fun w' => w'.cell? (ad298.add (x5_1).toNat) = some (.string (rdOf ByteArray.empty l0 x5_1))) (ds := []) #[false, false, false, false, false, false, false] (by kernel_rfl) rfl rfl (((HB.out.cell (World.block_lt_of_cell? w _ hw298_0)).trans hw298_0)) (fun hHeld => ?_)
      generalize wr.drew = w9 at HB hx298_0 hHeld ⊢
      refine pure_ (i := 0) (N := some 12) (v := ?_) (a' := ?_) #[true, false, false, false, false, false, false] rfl rfl (by kernel_rfl) (fun _ _ _ h => h) (Or.inl ⟨by rfl, ?_⟩) ?_ ?_
      rotate_left; (· (intro w'; go_simp; with_reducible rfl)); rotate_left; (· (simp only [Act.put, sp1, sp2, sp3, i64_w, i32_w]; rfl))
      refine pure_ (i := 1) (N := some 13) (v := ?_) (a' := ?_) #[true, true, false, false, false, false, false] rfl rfl (by kernel_rfl) (fun _ _ _ h => h) (Or.inl ⟨by rfl, ?_⟩) ?_ ?_
      rotate_left; (· (intro w'; go_simp; with_reducible rfl)); rotate_left; (· (simp only [Act.put, sp1, sp2, sp3, i64_w, i32_w]; rfl))
      refine pure_ (i := 2) (N := some 14) (v := ?_) (a' := ?_) #[true, true, true, false, false, false, false] rfl rfl (by kernel_rfl) (fun _ _ _ h => h) (Or.inl ⟨by rfl, ?_⟩) ?_ ?_
      rotate_left; (· (intro w'; go_simp; with_reducible rfl)); rotate_left; (· (simp only [Act.put, sp1, sp2, sp3, i64_w, i32_w]; rfl))
      refine pure_ (i := 4) (N := some 16) (v := ?_) (a' := ?_) #[true, true, true, false, true, false, false] rfl rfl (by kernel_rfl) (fun _ _ _ h => h) (Or.inl ⟨by rfl, ?_⟩) ?_ ?_
      rotate_left; (· (intro w'; go_simp; with_reducible rfl)); rotate_left; (· (simp only [Act.put, sp1, sp2, sp3, i64_w, i32_w]; rfl))
      refine take_ (i := 3) (N := some 15) (v := ?_) (a' := ?_) #[true, true, true, true, true, false, false] rfl rfl (by kernel_rfl) (fun _ _ _ h => h) (Or.inl ⟨by rfl, ?_⟩) hHeld ?_ ?_
      rotate_left; (· (intro w' s0; go_simp; with_reducible rfl)); rotate_left; (· (simp only [Act.put, sp1, sp2, sp3, i64_w, i32_w]; rfl))
      refine one_ (i := 5) (N := some 17) #[true, true, true, true, true, true, false] rfl rfl (by kernel_rfl) (by decide) (fun K hK => ?_)
      refine goes_ Try.func96 (by kernel_rfl) rfl #[.int .i64 x1_1] (by rfl) rfl rfl (by (try simp only [List.map_toArray, List.map_cons, List.map_nil]); first | done | rfl | (simp only [List.length_drop, List.length_take]; rfl)) ?_
      with_reducible refine (laws_markText.calls k1 x1_1 t299 _ A5.out).mono ?_
      rintro e w10 ⟨rfl, hb⟩
      refine ⟨_, rfl, ?_⟩
      have n0_ := Aside0.mk (below_step blw hb)
      clear HB
      have HB := n0_
      clear n0_
      (try clear hb)
      (try clear hb2)
      (try clear hk)
      (try clear hi)
      refine hK.out _ _ (((HB.out.cell (World.block_lt_of_cell? w _ hw298_0)).trans hw298_0)) (fun hHeld => ?_)
      clear hK K
      refine norm_ (a' := ?_) ?_ ?_
      rotate_left
      ·show Act.put _ (some 17) _ = _
       simp only [Act.put, sp1, sp2, sp3, i64_w, i32_w]
       rfl
      refine pure_ (i := 6) (N := some 18) (v := ?_) (a' := ?_) #[true, true, true, true, true, true, true] rfl rfl (by kernel_rfl) (fun _ _ _ h => h) (Or.inl ⟨by rfl, ?_⟩) ?_ ?_
      rotate_left; (· (intro w'; go_simp; with_reducible rfl)); rotate_left; (· (simp only [Act.put, sp1, sp2, sp3, i64_w, i32_w]; rfl))
      refine done_ (by kernel_rfl) ?_
      try go_wp2
      go_ret
      exact ⟨by first | rfl | (simp [errW_none, errW_some] <;> rfl) | (simp [*, errW_none, errW_some] <;> rfl), blw⟩
    ·rw [if_neg c4] at H
     exact absurd H (by simp)
   ·rw [if_neg c3] at H
    have c3b0 : decide (x5_1 < (l0.length : Int)) = false := decide_eq_false c3
    clear c3
    obtain rfl := Option.some.inj H
    go_wp2
    go_ret
    exact ⟨by first | rfl | (simp [errW_none, errW_some] <;> rfl) | (simp [*, errW_none, errW_some] <;> rfl), blw⟩

/-! ### laws_heldIntS: function 54 -/
def laws_heldIntS.l0 : Nat → List Int → Int → Int → Option (Int)
 | 0, _, _, _ => none
 | k + 1, x0, x1, x5 => if x5 < (x0.length : Int) then (if 0 ≤ x5 then (if (rd x0 x5) = x1 then (laws_heldIntS.l0 k x0 (wrap64 (x1 + 1)) (wrap64 (x5 + 1))) else (some (-1))) else (none)) else (some x1)
def laws_heldIntS.f (k : Nat) (l0 : List Int) (a1 : Int) : Option (Int) := laws_heldIntS.l0 k l0 a1 0
theorem laws_heldIntS.mono_l : ∀ k, (∀ y0 y1 y2, LeO (laws_heldIntS.l0 k y0 y1 y2) (laws_heldIntS.l0 (k + 1) y0 y1 y2))
 | 0 => fun _ _ _ r h => by simp [laws_heldIntS.l0] at h
 | k + 1 => by
  have ih0 := laws_heldIntS.mono_l k
  ·intro y0 y1 y2
   unfold laws_heldIntS.l0
   repeat' first
   | (with_reducible exact ih0 _ _ _)
   | (with_reducible exact LeO.refl _)
   | (with_reducible exact LeO.none _)
   | (with_reducible refine LeO.ite ?_ ?_)
   | (with_reducible refine LeO.bind ?_ (fun _ => ?_))
   | exact ih0 _ _ _
   | exact LeO.none _
   | refine LeO.ite ?_ ?_
   | refine LeO.bind ?_ (fun _ => ?_)
theorem laws_heldIntS.mono : ∀ a0 a1 k, LeO (laws_heldIntS.f k a0 a1) (laws_heldIntS.f (k + 1) a0 a1) := by
 intro a0 a1 k
 have ih0 := laws_heldIntS.mono_l k
 unfold laws_heldIntS.f
 repeat' first
   | (with_reducible exact ih0 _ _ _)
   | (with_reducible exact LeO.refl _)
   | (with_reducible exact LeO.none _)
   | (with_reducible refine LeO.ite ?_ ?_)
   | (with_reducible refine LeO.bind ?_ (fun _ => ?_))
   | exact ih0 _ _ _
   | exact LeO.none _
   | refine LeO.ite ?_ ?_
   | refine LeO.bind ?_ (fun _ => ?_)
set_option maxHeartbeats 8000000 in
set_option maxRecDepth 100000 in
theorem laws_heldIntS.calls (k : Nat) (A0 : Option Addr) (c0 : Nat) (l0 : List Int) (a1 : Int) (r : Int) (w : World) (hr0 : Kd.C (Kd.int .i64) w A0 l0.length l0) (hc0 : l0.length ≤ c0) (h : laws_heldIntS.f k l0 a1 = some r) :
  Calls Try.prog 54 #[.slice A0 l0.length c0, .int .i64 a1] w fun e w' => e = .returned (.int .i64 r) ∧ Drawn0 w w' := by
 have HR0 := Aside0.mk hr0
 have HC0 := Aside0.mk hc0
 clear hr0 hc0
 have H : (laws_heldIntS.l0 k l0 a1 0) = some r := h
 clear h
 have H' := Aside0.mk H
 clear H
 go_enter Try.func54, Try.ntmps54
 go_wp2
 go_loopg [1, 5] k (fun kq v1 v5 w' => ∃ (x1_1 : Int) (x5_1 : Int), v1 = .int .i64 x1_1 ∧ v5 = .int .i64 x5_1 ∧ Aside0 (laws_heldIntS.l0 kq l0 x1_1 x5_1 = some r) ∧ Aside0 (kq ≤ k) ∧ Drawn0 w w')
 case atStart => exact ⟨(a1), (0), (by first | rfl | (simp; done) | (simp [*]; done)), (by first | rfl | (simp; done) | (simp [*]; done)), H', ⟨Nat.le_refl _⟩, by repeat (first | exact Drawn0.refl _ | apply Drawn0.step)⟩
 case round =>
  clear H'
  try clear p2
  obtain ⟨x1_1, x5_1, rfl, rfl, HA, HK1, ⟨m1, rfl⟩⟩ := hrel
  cases gk with
  | zero => exact absurd HA.out (by simp [laws_heldIntS.l0])
  | succ k1 =>
   have H := HA.out
   clear HA
   simp only [laws_heldIntS.l0] at H
   by_cases c3 : x5_1 < (l0.length : Int)
   ·rw [if_pos c3] at H
    have c3b0 : decide (x5_1 < (l0.length : Int)) = true := decide_eq_true c3
    clear c3
    by_cases c4 : 0 ≤ x5_1
    ·rw [if_pos c4] at H
     have c4b0 : decide (0 ≤ x5_1) = true := decide_eq_true c4
     clear c4
     by_cases c5 : (rd l0 x5_1) = x1_1
     ·rw [if_pos c5] at H
      have c5b0 : ((rd l0 x5_1) == x1_1) = true := beq_iff_eq.mpr c5
      have c5b1 : ((rd l0 x5_1) != x1_1) = false := bne_eq_false_iff_eq.mpr c5
      clear c5
      have H' := Aside0.mk H
      clear H
      have p300 : 0 ≤ (x5_1 : Int) := odt
      have q300 : x5_1 < (l0.length : Int) := odt
      obtain ⟨ad300, e300, hx300_0⟩ := Kd.at_int HR0.out x5_1 p300 q300
      cases e300
      replace p300 := eq_true p300
      replace q300 := eq_true q300
      go_wp2
      go_roundg k1
      case measure => have := HK1.out; omega
      case rel => exact ⟨(wrap64 (x1_1 + 1)), (wrap64 (x5_1 + 1)), (by first | rfl | (simp; done) | (simp [*]; done)), (by first | rfl | (simp; done) | (simp [*]; done)), H', ⟨by have := HK1.out; omega⟩, by repeat (first | exact Drawn0.refl _ | apply Drawn0.step)⟩
     ·rw [if_neg c5] at H
      have c5b0 : ((rd l0 x5_1) == x1_1) = false := beq_eq_false_iff_ne.mpr c5
      have c5b1 : ((rd l0 x5_1) != x1_1) = true := bne_iff_ne.mpr c5
      obtain rfl := Option.some.inj H
      have p300 : 0 ≤ (x5_1 : Int) := odt
      have q300 : x5_1 < (l0.length : Int) := odt
      obtain ⟨ad300, e300, hx300_0⟩ := Kd.at_int HR0.out x5_1 p300 q300
      cases e300
      replace p300 := eq_true p300
      replace q300 := eq_true q300
      go_wp2
      go_ret
      exact ⟨by first | rfl | (simp; done) | (simp [*]; done), by repeat (first | exact Drawn0.refl _ | apply Drawn0.step)⟩
    ·rw [if_neg c4] at H
     exact absurd H (by simp)
   ·rw [if_neg c3] at H
    have c3b0 : decide (x5_1 < (l0.length : Int)) = false := decide_eq_false c3
    clear c3
    obtain rfl := Option.some.inj H
    go_wp2
    go_ret
    exact ⟨by first | rfl | (simp; done) | (simp [*]; done), by repeat (first | exact Drawn0.refl _ | apply Drawn0.step)⟩

/-! ### laws_heldKindS: function 15 -/
def laws_heldKindS.l0 : Nat → List (S76) → Int → Int → Option (Int)
 | 0, _, _, _ => none
 | k + 1, x0, x1, x5 => if x5 < (x0.length : Int) then (if 0 ≤ x5 then ((laws_heldStringS.f k ((rd_T76 x0 x5).f0) x1).bind fun t302 => (if t302 < 0 then (some (-1)) else ((laws_heldIntS.f k ((rd_T76 x0 x5).f1) t302).bind fun t304 => (if t304 < 0 then (some (-1)) else (laws_heldKindS.l0 k x0 t304 (wrap64 (x5 + 1))))))) else (none)) else (some x1)
def laws_heldKindS.f (k : Nat) (l0 : List (S76)) (a1 : Int) : Option (Int) := laws_heldKindS.l0 k l0 a1 0
theorem laws_heldKindS.mono_l : ∀ k, (∀ y0 y1 y2, LeO (laws_heldKindS.l0 k y0 y1 y2) (laws_heldKindS.l0 (k + 1) y0 y1 y2))
 | 0 => fun _ _ _ r h => by simp [laws_heldKindS.l0] at h
 | k + 1 => by
  have ih0 := laws_heldKindS.mono_l k
  ·intro y0 y1 y2
   unfold laws_heldKindS.l0
   repeat' first
   | (with_reducible exact ih0 _ _ _)
   | (with_reducible exact laws_heldIntS.mono _ _ _)
   | (with_reducible exact laws_heldStringS.mono _ _ _)
   | (with_reducible exact LeO.refl _)
   | (with_reducible exact LeO.none _)
   | (with_reducible refine LeO.ite ?_ ?_)
   | (with_reducible refine LeO.bind ?_ (fun _ => ?_))
   | exact ih0 _ _ _
   | exact laws_heldIntS.mono _ _ _
   | exact laws_heldStringS.mono _ _ _
   | exact LeO.none _
   | refine LeO.ite ?_ ?_
   | refine LeO.bind ?_ (fun _ => ?_)
theorem laws_heldKindS.mono : ∀ a0 a1 k, LeO (laws_heldKindS.f k a0 a1) (laws_heldKindS.f (k + 1) a0 a1) := by
 intro a0 a1 k
 have ih0 := laws_heldKindS.mono_l k
 unfold laws_heldKindS.f
 repeat' first
   | (with_reducible exact ih0 _ _ _)
   | (with_reducible exact laws_heldIntS.mono _ _ _)
   | (with_reducible exact laws_heldStringS.mono _ _ _)
   | (with_reducible exact LeO.refl _)
   | (with_reducible exact LeO.none _)
   | (with_reducible refine LeO.ite ?_ ?_)
   | (with_reducible refine LeO.bind ?_ (fun _ => ?_))
   | exact ih0 _ _ _
   | exact laws_heldIntS.mono _ _ _
   | exact laws_heldStringS.mono _ _ _
   | exact LeO.none _
   | refine LeO.ite ?_ ?_
   | refine LeO.bind ?_ (fun _ => ?_)
set_option maxHeartbeats 8000000 in
set_option maxRecDepth 100000 in
theorem laws_heldKindS.calls (k : Nat) (A0 : Option Addr) (c0 : Nat) (l0 : List (S76)) (a1 : Int) (r : Int) (w : World) (hr0 : Kd.C k76 w A0 l0.length l0) (hc0 : l0.length ≤ c0) (h : laws_heldKindS.f k l0 a1 = some r) :
  Calls Try.prog 15 #[.slice A0 l0.length c0, .int .i64 a1] w fun e w' => e = .returned (.int .i64 r) ∧ Below w.heap.size w w' := by
 have HR0 := Aside0.mk hr0
 have HC0 := Aside0.mk hc0
 clear hr0 hc0
 have HB := Aside0.mk (Below.refl w.heap.size w)
 have H : (laws_heldKindS.l0 k l0 a1 0) = some r := h
 clear h
 have H' := Aside0.mk H
 clear H
 go_enter Try.func15, Try.ntmps15
 go_wp2
 go_loopg [1, 5] k (fun kq v1 v5 w' => ∃ (x1_1 : Int) (x5_1 : Int), v1 = .int .i64 x1_1 ∧ v5 = .int .i64 x5_1 ∧ Aside0 (laws_heldKindS.l0 kq l0 x1_1 x5_1 = some r) ∧ Aside0 (kq ≤ k) ∧ Aside0 (Below w.heap.size w w'))
 case atStart => exact ⟨(a1), (0), (by first | rfl | (simp; done) | (simp [*]; done)), (by first | rfl | (simp; done) | (simp [*]; done)), H', ⟨Nat.le_refl _⟩, ⟨blw⟩⟩
 case round =>
  clear H'
  try clear c1
  try clear p2
  obtain ⟨x1_1, x5_1, rfl, rfl, HA, HK1, HB⟩ := hrel
  cases gk with
  | zero => exact absurd HA.out (by simp [laws_heldKindS.l0])
  | succ k1 =>
   have H := HA.out
   clear HA
   simp only [laws_heldKindS.l0] at H
   by_cases c3 : x5_1 < (l0.length : Int)
   ·rw [if_pos c3] at H
    have c3b0 : decide (x5_1 < (l0.length : Int)) = true := decide_eq_true c3
    clear c3
    by_cases c4 : 0 ≤ x5_1
    ·rw [if_pos c4] at H
     have c4b0 : decide (0 ≤ x5_1) = true := decide_eq_true c4
     clear c4
     replace H := Option.bind_eq_some_iff.mp H
     obtain ⟨t302, A50, H⟩ := H
     replace H : (if t302 < 0 then (some (-1)) else ((laws_heldIntS.f k1 ((rd_T76 l0 x5_1).f1) t302).bind fun t304 => (if t304 < 0 then (some (-1)) else (laws_heldKindS.l0 k1 l0 t304 (wrap64 (x5_1 + 1)))))) = some r := H
     have A5 := Aside0.mk A50
     clear A50
     by_cases c6 : t302 < 0
     ·rw [if_pos c6] at H
      have c6b0 : decide (t302 < 0) = true := decide_eq_true c6
      clear c6
      obtain rfl := Option.some.inj H
      have p301 : 0 ≤ (x5_1 : Int) := odt
      have q301 : x5_1 < (l0.length : Int) := odt
      obtain ⟨ad301, A301_0, c301_0, A301_1, c301_1, e301, hx301_0, hx301_1, hl301_0, hi301_0, hl301_1, hi301_1⟩ := at_T76 HR0.out x5_1 p301 q301
      cases e301
      replace hx301_0 := (HB.out.cell (World.block_lt_of_cell? w _ hx301_0)).trans hx301_0
      replace hx301_1 := (HB.out.cell (World.block_lt_of_cell? w _ hx301_1)).trans hx301_1
      have HR301_0 := Aside0.mk hi301_0
      have HC301_0 := Aside0.mk hl301_0
      clear hi301_0 hl301_0
      have HR301_1 := Aside0.mk hi301_1
      have HC301_1 := Aside0.mk hl301_1
      clear hi301_1 hl301_1
      replace p301 := eq_true p301
      replace q301 := eq_true q301
      go_wp2_with (first | ((with_reducible refine gate_callee (f := 53) rfl ?_); refine goesL_ (some 18) rfl rfl Try.func53 (by kernel_rfl) rfl #[.slice A301_0 ((rd_T76 l0 x5_1).f0).length c301_0, .int .i64 x1_1] rfl (by (try simp only [List.map_toArray, List.map_cons, List.map_nil]); first | done | rfl | (simp only [List.length_drop, List.length_take]; rfl)) ?_; (with_reducible refine (laws_heldStringS.calls k1 _ _ ((rd_T76 l0 x5_1).f0) x1_1 t302 _ ?side1 ?side2 A5.out).mono ?_); (case side1 => repeat (first | exact (Kd.C_below HR301_0.out HB.out) | (with_reducible refine Kd.C_alloc ?_ _) | (with_reducible refine Kd.C_drewN ?_ _) | (with_reducible refine Kd.C_drew ?_))); (case side2 => exact HC301_0.out); rintro e w7 ⟨rfl, hb⟩; refine ⟨_, rfl, ?_⟩; have n0_ := Aside0.mk (below_step blw hb); clear HB; have HB := n0_; clear n0_; (try clear hb); (try clear hb2); (try clear hk); (try clear hi)))
      go_ret
      exact ⟨by first | rfl | (simp [errW_none, errW_some] <;> rfl) | (simp [*, errW_none, errW_some] <;> rfl), blw⟩
     ·rw [if_neg c6] at H
      have c6b0 : decide (t302 < 0) = false := decide_eq_false c6
      clear c6
      replace H := Option.bind_eq_some_iff.mp H
      obtain ⟨t304, A80, H⟩ := H
      replace H : (if t304 < 0 then (some (-1)) else (laws_heldKindS.l0 k1 l0 t304 (wrap64 (x5_1 + 1)))) = some r := H
      have A8 := Aside0.mk A80
      clear A80
      by_cases c9 : t304 < 0
      ·rw [if_pos c9] at H
       have c9b0 : decide (t304 < 0) = true := decide_eq_true c9
       clear c9
       obtain rfl := Option.some.inj H
       have p301 : 0 ≤ (x5_1 : Int) := odt
       have q301 : x5_1 < (l0.length : Int) := odt
       obtain ⟨ad301, A301_0, c301_0, A301_1, c301_1, e301, hx301_0, hx301_1, hl301_0, hi301_0, hl301_1, hi301_1⟩ := at_T76 HR0.out x5_1 p301 q301
       cases e301
       replace hx301_0 := (HB.out.cell (World.block_lt_of_cell? w _ hx301_0)).trans hx301_0
       replace hx301_1 := (HB.out.cell (World.block_lt_of_cell? w _ hx301_1)).trans hx301_1
       have HR301_0 := Aside0.mk hi301_0
       have HC301_0 := Aside0.mk hl301_0
       clear hi301_0 hl301_0
       have HR301_1 := Aside0.mk hi301_1
       have HC301_1 := Aside0.mk hl301_1
       clear hi301_1 hl301_1
       replace p301 := eq_true p301
       replace q301 := eq_true q301
       go_wp2_with (first | ((with_reducible refine gate_callee (f := 53) rfl ?_); refine goesL_ (some 18) rfl rfl Try.func53 (by kernel_rfl) rfl #[.slice A301_0 ((rd_T76 l0 x5_1).f0).length c301_0, .int .i64 x1_1] rfl (by (try simp only [List.map_toArray, List.map_cons, List.map_nil]); first | done | rfl | (simp only [List.length_drop, List.length_take]; rfl)) ?_; (with_reducible refine (laws_heldStringS.calls k1 _ _ ((rd_T76 l0 x5_1).f0) x1_1 t302 _ ?side1 ?side2 A5.out).mono ?_); (case side1 => repeat (first | exact (Kd.C_below HR301_0.out HB.out) | (with_reducible refine Kd.C_alloc ?_ _) | (with_reducible refine Kd.C_drewN ?_ _) | (with_reducible refine Kd.C_drew ?_))); (case side2 => exact HC301_0.out); rintro e w10 ⟨rfl, hb⟩; refine ⟨_, rfl, ?_⟩; have n0_ := Aside0.mk (below_step blw hb); clear HB; have HB := n0_; clear n0_; (try clear hb); (try clear hb2); (try clear hk); (try clear hi); have p303 : 0 ≤ (x5_1 : Int) := odt; have q303 : x5_1 < (l0.length : Int) := odt; obtain ⟨ad303, A303_0, c303_0, A303_1, c303_1, e303, hx303_0, hx303_1, hl303_0, hi303_0, hl303_1, hi303_1⟩ := at_T76 HR0.out x5_1 p303 q303; obtain rfl : ad301 = ad303 := (by injection e303); replace hx303_0 := (HB.out.cell (World.block_lt_of_cell? w _ hx303_0)).trans hx303_0; replace hx303_1 := (HB.out.cell (World.block_lt_of_cell? w _ hx303_1)).trans hx303_1; have HR303_0 := Aside0.mk hi303_0; have HC303_0 := Aside0.mk hl303_0; clear hi303_0 hl303_0; have HR303_1 := Aside0.mk hi303_1; have HC303_1 := Aside0.mk hl303_1; clear hi303_1 hl303_1; replace p303 := eq_true p303; replace q303 := eq_true q303) | ((with_reducible refine gate_callee (f := 54) rfl ?_); refine goesL_ (some 27) rfl rfl Try.func54 (by kernel_rfl) rfl #[.slice A303_1 ((rd_T76 l0 x5_1).f1).length c303_1, .int .i64 t302] rfl (by (try simp only [List.map_toArray, List.map_cons, List.map_nil]); first | done | rfl | (simp only [List.length_drop, List.length_take]; rfl)) ?_; (with_reducible refine (laws_heldIntS.calls k1 _ _ ((rd_T76 l0 x5_1).f1) t302 t304 _ ?side1 ?side2 A8.out).mono ?_); (case side1 => repeat (first | exact (Kd.C_below HR303_1.out HB.out) | (with_reducible refine Kd.C_alloc ?_ _) | (with_reducible refine Kd.C_drewN ?_ _) | (with_reducible refine Kd.C_drew ?_))); (case side2 => exact HC303_1.out); rintro e w' ⟨rfl, ⟨nd, rfl⟩⟩; refine ⟨_, rfl, ?_⟩))
       go_ret
       exact ⟨by first | rfl | (simp [errW_none, errW_some] <;> rfl) | (simp [*, errW_none, errW_some] <;> rfl), blw⟩
      ·rw [if_neg c9] at H
       have c9b0 : decide (t304 < 0) = false := decide_eq_false c9
       clear c9
       have H' := Aside0.mk H
       clear H
       have p301 : 0 ≤ (x5_1 : Int) := odt
       have q301 : x5_1 < (l0.length : Int) := odt
       obtain ⟨ad301, A301_0, c301_0, A301_1, c301_1, e301, hx301_0, hx301_1, hl301_0, hi301_0, hl301_1, hi301_1⟩ := at_T76 HR0.out x5_1 p301 q301
       cases e301
       replace hx301_0 := (HB.out.cell (World.block_lt_of_cell? w _ hx301_0)).trans hx301_0
       replace hx301_1 := (HB.out.cell (World.block_lt_of_cell? w _ hx301_1)).trans hx301_1
       have HR301_0 := Aside0.mk hi301_0
       have HC301_0 := Aside0.mk hl301_0
       clear hi301_0 hl301_0
       have HR301_1 := Aside0.mk hi301_1
       have HC301_1 := Aside0.mk hl301_1
       clear hi301_1 hl301_1
       replace p301 := eq_true p301
       replace q301 := eq_true q301
       go_wp2_with (first | ((with_reducible refine gate_callee (f := 53) rfl ?_); refine goesL_ (some 18) rfl rfl Try.func53 (by kernel_rfl) rfl #[.slice A301_0 ((rd_T76 l0 x5_1).f0).length c301_0, .int .i64 x1_1] rfl (by (try simp only [List.map_toArray, List.map_cons, List.map_nil]); first | done | rfl | (simp only [List.length_drop, List.length_take]; rfl)) ?_; (with_reducible refine (laws_heldStringS.calls k1 _ _ ((rd_T76 l0 x5_1).f0) x1_1 t302 _ ?side1 ?side2 A5.out).mono ?_); (case side1 => repeat (first | exact (Kd.C_below HR301_0.out HB.out) | (with_reducible refine Kd.C_alloc ?_ _) | (with_reducible refine Kd.C_drewN ?_ _) | (with_reducible refine Kd.C_drew ?_))); (case side2 => exact HC301_0.out); rintro e w11 ⟨rfl, hb⟩; refine ⟨_, rfl, ?_⟩; have n0_ := Aside0.mk (below_step blw hb); clear HB; have HB := n0_; clear n0_; (try clear hb); (try clear hb2); (try clear hk); (try clear hi); have p303 : 0 ≤ (x5_1 : Int) := odt; have q303 : x5_1 < (l0.length : Int) := odt; obtain ⟨ad303, A303_0, c303_0, A303_1, c303_1, e303, hx303_0, hx303_1, hl303_0, hi303_0, hl303_1, hi303_1⟩ := at_T76 HR0.out x5_1 p303 q303; obtain rfl : ad301 = ad303 := (by injection e303); replace hx303_0 := (HB.out.cell (World.block_lt_of_cell? w _ hx303_0)).trans hx303_0; replace hx303_1 := (HB.out.cell (World.block_lt_of_cell? w _ hx303_1)).trans hx303_1; have HR303_0 := Aside0.mk hi303_0; have HC303_0 := Aside0.mk hl303_0; clear hi303_0 hl303_0; have HR303_1 := Aside0.mk hi303_1; have HC303_1 := Aside0.mk hl303_1; clear hi303_1 hl303_1; replace p303 := eq_true p303; replace q303 := eq_true q303) | ((with_reducible refine gate_callee (f := 54) rfl ?_); refine goesL_ (some 27) rfl rfl Try.func54 (by kernel_rfl) rfl #[.slice A303_1 ((rd_T76 l0 x5_1).f1).length c303_1, .int .i64 t302] rfl (by (try simp only [List.map_toArray, List.map_cons, List.map_nil]); first | done | rfl | (simp only [List.length_drop, List.length_take]; rfl)) ?_; (with_reducible refine (laws_heldIntS.calls k1 _ _ ((rd_T76 l0 x5_1).f1) t302 t304 _ ?side1 ?side2 A8.out).mono ?_); (case side1 => repeat (first | exact (Kd.C_below HR303_1.out HB.out) | (with_reducible refine Kd.C_alloc ?_ _) | (with_reducible refine Kd.C_drewN ?_ _) | (with_reducible refine Kd.C_drew ?_))); (case side2 => exact HC303_1.out); rintro e w' ⟨rfl, ⟨nd, rfl⟩⟩; refine ⟨_, rfl, ?_⟩))
       go_roundg k1
       case measure => have := HK1.out; omega
       case rel => exact ⟨(t304), (wrap64 (x5_1 + 1)), (by first | rfl | (simp; done) | (simp [*]; done)), (by first | rfl | (simp; done) | (simp [*]; done)), H', ⟨by have := HK1.out; omega⟩, ⟨blw⟩⟩
    ·rw [if_neg c4] at H
     exact absurd H (by simp)
   ·rw [if_neg c3] at H
    have c3b0 : decide (x5_1 < (l0.length : Int)) = false := decide_eq_false c3
    clear c3
    obtain rfl := Option.some.inj H
    go_wp2
    go_ret
    exact ⟨by first | rfl | (simp [errW_none, errW_some] <;> rfl) | (simp [*, errW_none, errW_some] <;> rfl), blw⟩


/-! ### laws_FnExactKindsOf: function 3 -/
def laws_FnExactKindsOf.f (k : Nat) (a0_0 : Int) (a0_1 : Int) (l0_2 : List (S133)) : Option (Bool) :=
 (laws_szWorld.f k a0_0 a0_1 l0_2 1048576).bind fun v => if v < 0 then some true else
 (laws_toWorld.f k a0_0 a0_1 l0_2).bind fun g => (spec_KindsOf.f k g.1 g.2.1 g.2.2).bind fun s => (impl_KindsOf.f k g.1 g.2.1 g.2.2).bind fun t =>
 (laws_eqKindS.f k t.1 s.1).bind fun e1 => (laws_eqWorld.f k g.1 g.2.1 g.2.2 g.1 g.2.1 g.2.2).bind fun e2 => (laws_markWorld.f k g.1 g.2.1 g.2.2 1).bind fun m =>
 (laws_markKindS.f k t.1 1).bind fun n => (laws_heldKindS.f k n.2 1).bind fun q =>
 if e1 = true ∧ e2 = true ∧ t.2 = s.2 ∧ ¬ m.1 < 0 ∧ q = n.1 ∧ ¬ q < 0 then some true else none
structure laws_FnExactKindsOf.St (w W : World) (gA : Nat) (o : Obj) : Prop where
 hB : Below w.heap.size w W
 bA : W.heap[gA]? = some o
theorem laws_FnExactKindsOf.St.step {w W W' : World} {gA : Nat} {o : Obj} (s : laws_FnExactKindsOf.St w W gA o) (hb : Below W.heap.size W W') : laws_FnExactKindsOf.St w W' gA o := ⟨below_step s.hB hb, blk_below s.bA hb⟩
theorem laws_FnExactKindsOf.St.cells {w W : World} {gA t : Nat} {a b c : Value} (s : laws_FnExactKindsOf.St w W gA (.cells #[a, b, c] t (0, 0))) : W.cell? ⟨gA, 0, none⟩ = some a ∧ W.cell? ⟨gA, 1, none⟩ = some b ∧ W.cell? ⟨gA, 2, none⟩ = some c := ⟨(blk_cell s.bA 0).trans rfl, (blk_cell s.bA 1).trans rfl, (blk_cell s.bA 2).trans rfl⟩
theorem laws_FnExactKindsOf.bndS {α : Type} {d : Kd α} {e base : Nat} {w : World} {v : Value} {xs : List α} (h : Kd.S d e w base (fun _ => True) v xs) : Kd.S d e w base (fun k_ => base ≤ k_ ∧ k_ < w.heap.size) v xs := Kd.S_mono (Kd.S_bound h) (fun _ hk => ⟨hk.2.1, hk.2.2.1⟩)
theorem laws_FnExactKindsOf.far3 {α : Type} {d : Kd α} {e base g : Nat} {ok : Nat → Prop} {w : World} {v : Value} {xs : List α} (h : Kd.S d e w base ok v xs) (hok : ∀ k, ok k → k ≠ g) (a b c : Value) : Kd.S d e (((w.setCell ⟨g, 0, none⟩ a).setCell ⟨g, 1, none⟩ b).setCell ⟨g, 2, none⟩ c) base ok v xs := Kd.S_far (p := ⟨g, 2, none⟩) (Kd.S_far (p := ⟨g, 1, none⟩) (Kd.S_far (p := ⟨g, 0, none⟩) h hok a) hok b) hok c
theorem laws_FnExactKindsOf.held (k : Nat) (A : Option Addr) (c : Nat) (tl nq : List S76) (q : Int) (w : World) {base : Nat} {ok : Nat → Prop} (h : Kd.S k76 76 w base ok (.slice A tl.length c) nq) (hq : laws_heldKindS.f k nq 1 = some q) : Calls Try.prog 15 #[.slice A tl.length c, .int .i64 1] w fun e w' => e = .returned (.int .i64 q) ∧ Below w.heap.size w w' := by
 have hr := Kd.S_reads' h
 have hc : nq.length ≤ c := hr.1 ▸ hr.2.1
 rw [hr.1]
 exact laws_heldKindS.calls k A c nq 1 q w hr.2.2 hc hq
set_option maxHeartbeats 8000000 in
set_option maxRecDepth 100000 in
theorem laws_FnExactKindsOf.small (k : Nat) (a0 a1 : Int) (A0 : Option Addr) (c0 : Nat) (l : List (S133)) (v : Int) (w : World) (hr0 : Kd.C k133 w A0 l.length l) (hc0 : l.length ≤ c0) (hv : laws_szWorld.f k a0 a1 l 1048576 = some v) (hn : v < 0) :
  Calls Try.prog 3 #[.agg #[.int .i64 a0, .int .i64 a1, .slice A0 l.length c0]] w fun e w' => e = .returned (.bool true) ∧ Below w.heap.size w w' := by
 have hu24 := Try.underlying24
 have hu31 := Try.underlying31
 have R0 := Aside0.mk hr0
 clear hr0
 have V := Aside0.mk hv
 have d1 : decide (v < 0) = true := decide_eq_true hn
 clear hv hn
 go_enter Try.func3, Try.ntmps3
 go_upto_region 2 with (first | ((with_reducible refine gate_dst (N := 1) rfl ?_); refine box_event ?hg (N := 1) ?hd (cs := #[.int .i64 a0, .int .i64 a1, .slice A0 l.length c0]) (t := 24) ?hr ?_; (case hd => rfl); (case hg => rfl); (case hr => first | (go_simp; done) | (go_simp; rfl)); intro gA hg w1 hbox hb; have BA := Aside0.mk hbox; have QB := Aside0.mk hb; have QG := Aside0.mk hg; clear hb hbox hg))
 have S1 : Aside0 (laws_FnExactKindsOf.St w w1 gA (.cells #[.int .i64 a0, .int .i64 a1, .slice A0 l.length c0] 24 (0, 0))) := ⟨⟨QB.out, BA.out⟩⟩
 obtain ⟨hz0, hz1, hz2⟩ := S1.out.cells
 clear QB QG BA
 go_wp2_with fail
 refine (laws_szWorld.calls k a0 a1 _ _ l 1048576 v _ (Kd.C_below R0.out S1.out.hB) hc0 V.out).mono ?_
 rintro e w2 ⟨rfl, hb⟩
 have S2 := Aside0.mk (S1.out.step hb)
 clear hb hz0 hz1 hz2 S1
 go_wp2
 go_ret
 exact ⟨rfl, S2.out.hB⟩
set_option maxHeartbeats 32000000 in
set_option maxRecDepth 100000 in
theorem laws_FnExactKindsOf.long (k : Nat) (a0 a1 : Int) (A0 : Option Addr) (c0 : Nat) (l : List (S133)) (v : Int) (g1 g2 : Int) (g3 : List (S69)) (sl : List S76) (b : Bool) (tl : List S76) (m : Int) (gm : List (S69)) (nq : List S76) (q : Int) (w : World) (hr0 : Kd.C k133 w A0 l.length l) (hc0 : l.length ≤ c0) (hv : laws_szWorld.f k a0 a1 l 1048576 = some v) (hn : ¬ v < 0) (hg : laws_toWorld.f k a0 a1 l = some (g1, g2, g3)) (hs : spec_KindsOf.f k g1 g2 g3 = some (sl, b)) (ht : impl_KindsOf.f k g1 g2 g3 = some (tl, b)) (h1 : laws_eqKindS.f k tl sl = some true) (h2 : laws_eqWorld.f k g1 g2 g3 g1 g2 g3 = some true) (hm : laws_markWorld.f k g1 g2 g3 1 = some (m, gm)) (hm0 : ¬ m < 0) (hk : laws_markKindS.f k tl 1 = some (q, nq)) (hq : laws_heldKindS.f k nq 1 = some q) (hq0 : ¬ q < 0) :
  Calls Try.prog 3 #[.agg #[.int .i64 a0, .int .i64 a1, .slice A0 l.length c0]] w fun e w' => e = .returned (.bool true) ∧ Below w.heap.size w w' := by
 have hu24 := Try.underlying24
 have hu31 := Try.underlying31
 have R0 := Aside0.mk hr0
 clear hr0
 have V := Aside0.mk hv
 have TG := Aside0.mk hg
 have SPEC := Aside0.mk hs
 have IMPL := Aside0.mk ht
 have E1 := Aside0.mk h1
 have E2 := Aside0.mk h2
 have MG := Aside0.mk hm
 have MK := Aside0.mk hk
 have HD := Aside0.mk hq
 have d1 : decide (v < 0) = false := decide_eq_false hn
 have d2 : decide (m < 0) = false := decide_eq_false hm0
 have d3 : decide (q < 0) = false := decide_eq_false hq0
 have d4 : (q != q) = false := bne_self_eq_false q
 have d5 : (b != b) = false := bne_self_eq_false b
 clear hv hg hs ht h1 h2 hm hk hq hn hm0 hq0
 go_enter Try.func3, Try.ntmps3
 go_upto_region 2 with (first | ((with_reducible refine gate_dst (N := 1) rfl ?_); refine box_event ?hg (N := 1) ?hd (cs := #[.int .i64 a0, .int .i64 a1, .slice A0 l.length c0]) (t := 24) ?hr ?_; (case hd => rfl); (case hg => rfl); (case hr => first | (go_simp; done) | (go_simp; rfl)); intro gA hg w1 hbox hb; have BA := Aside0.mk hbox; have QB := Aside0.mk hb; have QG := Aside0.mk hg; clear hb hbox hg))
 have S1 : Aside0 (laws_FnExactKindsOf.St w w1 gA (.cells #[.int .i64 a0, .int .i64 a1, .slice A0 l.length c0] 24 (0, 0))) := ⟨⟨QB.out, BA.out⟩⟩
 obtain ⟨hz0, hz1, hz2⟩ := S1.out.cells
 clear QB QG BA
 go_wp2_with fail
 refine (laws_szWorld.calls k a0 a1 _ _ l 1048576 v _ (Kd.C_below R0.out S1.out.hB) hc0 V.out).mono ?_
 rintro e w2 ⟨rfl, hb⟩
 have S2 := Aside0.mk (S1.out.step hb)
 clear hb hz0 hz1 hz2 S1
 obtain ⟨hz0, hz1, hz2⟩ := S2.out.cells
 go_wp2_with fail
 refine (laws_toWorld.calls k a0 a1 _ _ l g1 g2 g3 _ (Kd.C_below R0.out S2.out.hB) hc0 TG.out).mono ?_
 rintro e w3 ⟨u1, rfl, ho1, hb⟩
 obtain ⟨B1, k1, rfl⟩ := Kd.S_slice ho1
 have X1 := Aside0.mk ho1
 have S3 := Aside0.mk (S2.out.step hb)
 clear hb hz0 hz1 hz2 S2 ho1
 go_wp2_with fail
 refine (spec_KindsOf.calls k g1 g2 _ _ g3 sl b _ (Kd.S_reads' X1.out).2.2 (Kd.S_reads' X1.out).2.1 SPEC.out).mono ?_
 rintro e w4 ⟨u2, rfl, ho0, hb⟩
 obtain ⟨BW, kw, rfl⟩ := Kd.S_slice ho0
 have OW := Aside0.mk (Kd.S_mono (laws_FnExactKindsOf.bndS ho0) (ok' := fun k_ => k_ < w4.heap.size) (fun _ hk => hk.2))
 have S4 := Aside0.mk (S3.out.step hb)
 have GA := Aside0.mk (blk_lt S4.out.bA)
 clear hb ho0 X1 S3
 obtain ⟨hz0, hz1, hz2⟩ := S4.out.cells
 go_wp2_with fail
 refine (laws_toWorld.calls k a0 a1 _ _ l g1 g2 g3 _ (Kd.C_below R0.out S4.out.hB) hc0 TG.out).mono ?_
 rintro e w5 ⟨u1, rfl, ho1, hb⟩
 obtain ⟨B1, k1, rfl⟩ := Kd.S_slice ho1
 have L5 := Aside0.mk hb.size
 have X1 := Aside0.mk (Kd.S_lower (laws_FnExactKindsOf.bndS ho1) (below_size S4.out.hB))
 have S5 := Aside0.mk (S4.out.step hb)
 have n_ := Aside0.mk (Kd.S_below OW.out hb)
 clear OW
 have OW := n_
 have Z5 := Aside0.mk (below_size S5.out.hB)
 clear n_ hb hz0 hz1 hz2 S4 ho1
 go_upto_region 7 with (first | ((with_reducible refine gate_dst (N := 6) rfl ?_); refine box_event ?hg (N := 6) ?hd (cs := #[.int .i64 0, .int .i64 0, .slice none 0 0]) (t := 31) ?hr ?_; (case hd => rfl); (case hg => rfl); (case hr => first | (go_simp; done) | (go_simp; rfl)); intro g8 hg w6 hbox hb; have BX := Aside0.mk hbox; have QB := Aside0.mk hb; have QG := Aside0.mk hg; clear hb hbox hg; have hy0 : w6.cell? ⟨g8, 0, none⟩ = some (.int .i64 0) := (blk_cell BX.out 0).trans rfl; have hy1 : w6.cell? ⟨g8, 1, none⟩ = some (.int .i64 0) := (blk_cell BX.out 1).trans rfl; have hy2 : w6.cell? ⟨g8, 2, none⟩ = some (.slice none 0 0) := (blk_cell BX.out 2).trans rfl; have hf0 := blk_frozen BX.out 0; have hf1 := blk_frozen BX.out 1; have hf2 := blk_frozen BX.out 2))
 have hb := QB.out
 have G8 := Aside0.mk (show w5.heap.size ≤ g8 from Nat.le_of_eq QG.out.symm)
 have N8 := Aside0.mk (show gA ≠ g8 from by have := blk_lt S5.out.bA; have := QG.out; omega)
 have S6 := Aside0.mk (S5.out.step hb)
 have P0 := Aside0.mk (Kd.S_below OW.out hb)
 have P2 := Aside0.mk (Kd.S_below X1.out hb)
 clear OW X1 S5 hy0 hy1 hy2 hf0 hf1 hf2 hb QB QG
 have m0 : Aside0 (laws_FnExactKindsOf.St w (((w6.setCell ⟨g8, 0, none⟩ (.int .i64 g1)).setCell ⟨g8, 1, none⟩ (.int .i64 g2)).setCell ⟨g8, 2, none⟩ (.slice B1 g3.length k1)) gA (.cells #[.int .i64 a0, .int .i64 a1, .slice A0 l.length c0] 24 (0, 0))) := ⟨⟨below_set (below_set (below_set S6.out.hB (Nat.le_trans Z5.out G8.out)) (Nat.le_trans Z5.out G8.out)) (Nat.le_trans Z5.out G8.out), blk_far (blk_far (blk_far S6.out.bA N8.out _) N8.out _) N8.out _⟩⟩
 have m1 : Aside0 ((((w6.setCell ⟨g8, 0, none⟩ (.int .i64 g1)).setCell ⟨g8, 1, none⟩ (.int .i64 g2)).setCell ⟨g8, 2, none⟩ (.slice B1 g3.length k1)).heap[g8]? = some (.cells #[.int .i64 g1, .int .i64 g2, .slice B1 g3.length k1] 31 (0, 0))) := ⟨blk_put (cs := #[.int .i64 g1, .int .i64 g2, .slice none 0 0]) (blk_put (cs := #[.int .i64 g1, .int .i64 0, .slice none 0 0]) (blk_put (cs := #[.int .i64 0, .int .i64 0, .slice none 0 0]) BX.out 0 _ rfl) 1 _ rfl) 2 _ rfl⟩
 have m2 : Aside0 (Kd.S k76 76 (((w6.setCell ⟨g8, 0, none⟩ (.int .i64 g1)).setCell ⟨g8, 1, none⟩ (.int .i64 g2)).setCell ⟨g8, 2, none⟩ (.slice B1 g3.length k1)) _ (fun k_ => k_ < w4.heap.size) (.slice BW sl.length kw) sl) := ⟨laws_FnExactKindsOf.far3 P0.out (fun k_ hk he => by have h1_ := L5.out; have h2_ := G8.out; omega) _ _ _⟩
 have m4 : Aside0 (Kd.S k69 69 (((w6.setCell ⟨g8, 0, none⟩ (.int .i64 g1)).setCell ⟨g8, 1, none⟩ (.int .i64 g2)).setCell ⟨g8, 2, none⟩ (.slice B1 g3.length k1)) w.heap.size (fun k_ => w4.heap.size ≤ k_ ∧ k_ < w5.heap.size) (.slice B1 g3.length k1) g3) := ⟨laws_FnExactKindsOf.far3 P2.out (fun k_ hk he => by have h1_ := hk.2; have h2_ := G8.out; omega) _ _ _⟩
 have m5 : Aside0 (w5.heap.size ≤ (((w6.setCell ⟨g8, 0, none⟩ (.int .i64 g1)).setCell ⟨g8, 1, none⟩ (.int .i64 g2)).setCell ⟨g8, 2, none⟩ (.slice B1 g3.length k1)).heap.size) := ⟨Nat.le_trans G8.out (Nat.le_of_lt (blk_lt m1.out))⟩
 clear P0 P2 S6 BX
 generalize (((w6.setCell ⟨g8, 0, none⟩ (.int .i64 g1)).setCell ⟨g8, 1, none⟩ (.int .i64 g2)).setCell ⟨g8, 2, none⟩ (.slice B1 g3.length k1)) = wG at m0 m1 m2 m4 m5 ⊢
 have hx0 : wG.cell? ⟨g8, 0, none⟩ = some (.int .i64 g1) := (blk_cell m1.out 0).trans rfl; have hx1 : wG.cell? ⟨g8, 1, none⟩ = some (.int .i64 g2) := (blk_cell m1.out 1).trans rfl; have hx2 : wG.cell? ⟨g8, 2, none⟩ = some (.slice B1 g3.length k1) := (blk_cell m1.out 2).trans rfl
 go_wp2_with fail
 refine (impl_KindsOf.calls k g1 g2 _ _ g3 tl b _ (Kd.S_reads' m4.out).2.2 (Kd.S_reads' m4.out).2.1 IMPL.out).mono ?_
 rintro e w7 ⟨u2, rfl, ho0, hb⟩
 obtain ⟨BG, kg, rfl⟩ := Kd.S_slice ho0
 have OG := Aside0.mk (Kd.S_lower (Kd.S_mono (laws_FnExactKindsOf.bndS ho0) (ok' := fun k_ => wG.heap.size ≤ k_) (fun _ hk => hk.1)) (below_size m0.out.hB))
 have S7 := Aside0.mk (m0.out.step hb)
 have BX := Aside0.mk (blk_below m1.out hb)
 have OW := Aside0.mk (Kd.S_below m2.out hb)
 have X1 := Aside0.mk (Kd.S_below m4.out hb)
 clear ho0 m0 m1 m2 m4 hb hx0 hx1 hx2
 go_wp2_with fail
 refine (laws_eqKindS.calls k _ _ tl _ _ sl true _ (Kd.S_reads' OG.out).2.2 (Kd.S_reads' OG.out).2.1 (Kd.S_reads' OW.out).2.2 (Kd.S_reads' OW.out).2.1 E1.out).mono ?_
 rintro e w8 ⟨rfl, hb⟩
 have S8 := Aside0.mk (S7.out.step hb)
 have n1 := Aside0.mk (blk_below BX.out hb)
 have n2 := Aside0.mk (Kd.S_below OW.out hb)
 have n4 := Aside0.mk (Kd.S_below X1.out hb)
 have n5 := Aside0.mk (Kd.S_below OG.out hb)
 clear S7 BX OW X1 OG hb
 obtain ⟨hz0, hz1, hz2⟩ := S8.out.cells
 have hx0 : w8.cell? ⟨g8, 0, none⟩ = some (.int .i64 g1) := (blk_cell n1.out 0).trans rfl; have hx1 : w8.cell? ⟨g8, 1, none⟩ = some (.int .i64 g2) := (blk_cell n1.out 1).trans rfl; have hx2 : w8.cell? ⟨g8, 2, none⟩ = some (.slice B1 g3.length k1) := (blk_cell n1.out 2).trans rfl
 go_upto_region 10 with fail
 go_region_held3 (fun w' => w'.cell? ⟨g8, 0, none⟩ = some (.int .i64 g1) ∧ w'.cell? ⟨g8, 1, none⟩ = some (.int .i64 g2) ∧ w'.cell? ⟨g8, 2, none⟩ = some (.slice B1 g3.length k1) ∧ w'.cell? ⟨gA, 0, none⟩ = some (.int .i64 a0) ∧ w'.cell? ⟨gA, 1, none⟩ = some (.int .i64 a1) ∧ w'.cell? ⟨gA, 2, none⟩ = some (.slice A0 l.length c0)) (exact ⟨hx0, hx1, hx2, hz0, hz1, hz2⟩)
  (first
   | (go_at_call 9; refine (laws_toWorld.calls k a0 a1 _ _ l g1 g2 g3 _ (Kd.C_below R0.out (below_drew S8.out.hB)) hc0 TG.out).mono ?_; rintro e w9 ⟨u1, rfl, ho1, hb0⟩; obtain ⟨B3, k3, rfl⟩ := Kd.S_slice ho1; have Y1 := Aside0.mk ho1; have S9 := Aside0.mk ((S8.out.step (below_drew (Below.refl _ _))).step hb0); have n6 := Aside0.mk (blk_below (blk_drew n1.out) hb0); have n7 := Aside0.mk (Kd.S_below (Kd.S_drew n2.out) hb0); have n9 := Aside0.mk (Kd.S_below (Kd.S_drew n4.out) hb0); have n10 := Aside0.mk (Kd.S_below (Kd.S_drew n5.out) hb0); clear S8 n1 n2 n4 n5 hb0 ho1 hz0 hz1 hz2 hx0 hx1 hx2; obtain ⟨hz0, hz1, hz2⟩ := S9.out.cells; have hx0 : w9.cell? ⟨g8, 0, none⟩ = some (.int .i64 g1) := (blk_cell n6.out 0).trans rfl; have hx1 : w9.cell? ⟨g8, 1, none⟩ = some (.int .i64 g2) := (blk_cell n6.out 1).trans rfl; have hx2 : w9.cell? ⟨g8, 2, none⟩ = some (.slice B1 g3.length k1) := (blk_cell n6.out 2).trans rfl)
   | (go_at_call 12; refine (laws_eqWorld.calls k g1 g2 _ _ g3 g1 g2 _ _ g3 true _ (Kd.S_reads' n9.out).2.2 (Kd.S_reads' n9.out).2.1 (Kd.S_reads' Y1.out).2.2 (Kd.S_reads' Y1.out).2.1 E2.out).mono ?_; rintro e w10 ⟨rfl, hb⟩; have S10 := Aside0.mk (S9.out.step hb); have p1 := Aside0.mk (blk_below n6.out hb); have p2 := Aside0.mk (Kd.S_below n7.out hb); have p4 := Aside0.mk (Kd.S_below n9.out hb); have p5 := Aside0.mk (Kd.S_below n10.out hb); clear S9 n6 n7 n9 n10 Y1 hb hz0 hz1 hz2 hx0 hx1 hx2; obtain ⟨hz0, hz1, hz2⟩ := S10.out.cells; have hx0 : w10.cell? ⟨g8, 0, none⟩ = some (.int .i64 g1) := (blk_cell p1.out 0).trans rfl; have hx1 : w10.cell? ⟨g8, 1, none⟩ = some (.int .i64 g2) := (blk_cell p1.out 1).trans rfl; have hx2 : w10.cell? ⟨g8, 2, none⟩ = some (.slice B1 g3.length k1) := (blk_cell p1.out 2).trans rfl))
 go_wp2_with fail
 refine (laws_markWorld.calls k _ g1 g2 _ _ _ g3 1 m gm w _ S10.out.hB p4.out MG.out).mono ?_
 rintro e w11 ⟨rfl, _, hB, hKp⟩
 have S11 : Aside0 (laws_FnExactKindsOf.St w w11 gA (.cells #[.int .i64 a0, .int .i64 a1, .slice A0 l.length c0] 24 (0, 0))) := ⟨⟨hB, blk_kept S10.out.bA hKp (fun hs => by have h1_ := GA.out; omega)⟩⟩
 have OW := Aside0.mk (Kd.S_kept p2.out hKp (fun k_ hk hs => by omega))
 have OG := Aside0.mk (Kd.S_kept p5.out hKp (fun k_ hk hs => by have h3_ := m5.out; omega))
 clear S10 p1 p2 p4 p5 hB hKp hx0 hx1 hx2 hz0 hz1 hz2
 go_wp2_with fail
 refine (laws_eqKindS.calls k _ _ tl _ _ sl true _ (Kd.S_reads' OG.out).2.2 (Kd.S_reads' OG.out).2.1 (Kd.S_reads' OW.out).2.2 (Kd.S_reads' OW.out).2.1 E1.out).mono ?_
 rintro e w12 ⟨rfl, hb⟩
 have S12 := Aside0.mk (S11.out.step hb)
 have n1 := Aside0.mk (Kd.S_below OW.out hb)
 have n2 := Aside0.mk (Kd.S_below OG.out hb)
 clear S11 OW OG hb
 go_wp2_with fail
 refine (laws_markKindS.calls k _ _ tl 1 q nq w _ S12.out.hB n2.out MK.out).mono ?_
 rintro e w13 ⟨rfl, hR, hB, hKp⟩
 have S13 : Aside0 (laws_FnExactKindsOf.St w w13 gA (.cells #[.int .i64 a0, .int .i64 a1, .slice A0 l.length c0] 24 (0, 0))) := ⟨⟨hB, blk_kept S12.out.bA hKp (fun hs => by have h1_ := GA.out; have h2_ := L5.out; have h3_ := m5.out; omega)⟩⟩
 have OW := Aside0.mk (Kd.S_kept n1.out hKp (fun k_ hk hs => by have h2_ := L5.out; have h3_ := m5.out; omega))
 have OG := Aside0.mk hR
 clear S12 n1 n2 hB hKp hR
 go_wp2_with fail
 refine (laws_FnExactKindsOf.held k _ _ tl nq q _ OG.out HD.out).mono ?_
 rintro e w14 ⟨rfl, hb⟩
 have S14 := Aside0.mk (S13.out.step hb)
 have n1 := Aside0.mk (Kd.S_below OW.out hb)
 have n2 := Aside0.mk (Kd.S_below OG.out hb)
 clear S13 OW OG hb
 obtain ⟨hz0, hz1, hz2⟩ := S14.out.cells
 go_wp2_with fail
 refine (laws_toWorld.calls k a0 a1 _ _ l g1 g2 g3 _ (Kd.C_below R0.out S14.out.hB) hc0 TG.out).mono ?_
 rintro e w15 ⟨u1, rfl, ho1, hb⟩
 obtain ⟨B3, k3, rfl⟩ := Kd.S_slice ho1
 have X1 := Aside0.mk ho1
 have S15 := Aside0.mk (S14.out.step hb)
 have n3 := Aside0.mk (Kd.S_below n1.out hb)
 have n4 := Aside0.mk (Kd.S_below n2.out hb)
 clear S14 n1 n2 hb ho1 hz0 hz1 hz2
 go_wp2_with fail
 refine (impl_KindsOf.calls k g1 g2 _ _ g3 tl b _ (Kd.S_reads' X1.out).2.2 (Kd.S_reads' X1.out).2.1 IMPL.out).mono ?_
 rintro e w16 ⟨u2, rfl, ho0, hb⟩
 obtain ⟨BH, kh, rfl⟩ := Kd.S_slice ho0
 have OH := Aside0.mk ho0
 have S16 := Aside0.mk (S15.out.step hb)
 have n5 := Aside0.mk (Kd.S_below n3.out hb)
 have n6 := Aside0.mk (Kd.S_below n4.out hb)
 clear S15 n3 n4 hb ho0 X1
 go_wp2_with fail
 refine (laws_eqKindS.calls k _ _ tl _ _ sl true _ (Kd.S_reads' OH.out).2.2 (Kd.S_reads' OH.out).2.1 (Kd.S_reads' n5.out).2.2 (Kd.S_reads' n5.out).2.1 E1.out).mono ?_
 rintro e w17 ⟨rfl, hb⟩
 have S17 := Aside0.mk (S16.out.step hb)
 have n7 := Aside0.mk (Kd.S_below n6.out hb)
 clear S16 OH n5 n6 hb
 go_wp2_with fail
 refine (laws_FnExactKindsOf.held k _ _ tl nq q _ n7.out HD.out).mono ?_
 rintro e w18 ⟨rfl, hb⟩
 have S18 := Aside0.mk (S17.out.step hb)
 clear S17 n7 hb
 go_wp2
 go_ret
 exact ⟨rfl, S18.out.hB⟩
theorem laws_FnExactKindsOf.calls (k : Nat) (a0_0 : Int) (a0_1 : Int) (A0_2 : Option Addr) (c0_2 : Nat) (l0_2 : List (S133)) (r : Bool) (w : World) (hr0_2 : Kd.C k133 w A0_2 l0_2.length l0_2) (hc0_2 : l0_2.length ≤ c0_2) (h : laws_FnExactKindsOf.f k a0_0 a0_1 l0_2 = some r) :
  Calls Try.prog 3 #[.agg #[.int .i64 a0_0, .int .i64 a0_1, .slice A0_2 l0_2.length c0_2]] w fun e w' => e = .returned (.bool r) ∧ Below w.heap.size w w' := by
 unfold laws_FnExactKindsOf.f at h
 obtain ⟨v, hv, h⟩ := Option.bind_eq_some_iff.mp h
 by_cases hn : v < 0
 ·rw [if_pos hn] at h
  obtain rfl := Option.some.inj h
  exact laws_FnExactKindsOf.small k a0_0 a0_1 A0_2 c0_2 l0_2 v w hr0_2 hc0_2 hv hn
 rw [if_neg hn] at h
 obtain ⟨⟨g1, g2, g3⟩, hg, h⟩ := Option.bind_eq_some_iff.mp h
 obtain ⟨⟨sl, sb⟩, hs, h⟩ := Option.bind_eq_some_iff.mp h
 obtain ⟨⟨tl, tb⟩, ht, h⟩ := Option.bind_eq_some_iff.mp h
 obtain ⟨e1, h1, h⟩ := Option.bind_eq_some_iff.mp h
 obtain ⟨e2, h2, h⟩ := Option.bind_eq_some_iff.mp h
 obtain ⟨⟨m, gm⟩, hm, h⟩ := Option.bind_eq_some_iff.mp h
 obtain ⟨⟨n1, n2⟩, hk, h⟩ := Option.bind_eq_some_iff.mp h
 obtain ⟨q, hq, h⟩ := Option.bind_eq_some_iff.mp h
 split at h
 case isFalse => cases h
 case isTrue hc =>
  obtain rfl := Option.some.inj h
  obtain ⟨c1_, c2_, c3_, c4_, c5_, c6_⟩ := hc
  dsimp only at c3_ c4_ c5_ hs ht h1 h2 hm hk hq
  subst c1_ c2_ c3_ c5_
  exact laws_FnExactKindsOf.long k a0_0 a0_1 A0_2 c0_2 l0_2 v g1 g2 g3 sl tb tl m gm n2 q w hr0_2 hc0_2 hv hn hg hs ht h1 h2 hm c4_ hk hq c6_

end Go.Proofs.Ytiaajmnmbjheoaa.PFnExactKindsOf
