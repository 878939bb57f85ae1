/- The machine's side of a law, function by function: a Lean function with the Go function's answers and the proof that the Go code comes to them. No condition. Written by this session's program over the kit's print, this session's own contracts set in. -/
import Derived.Test.YtiaajmnmbjheoaaPFnExactIslandsOfx0
import Derived.Test.YtiaajmnmbjheoaaPFnExactIslandsOfx1
import Derived.Test.YtiaajmnmbjheoaaPFnExactIslandsOfx2
import Derived.Test.YtiaajmnmbjheoaaPFnExactIslandsOfx3
import Derived.Test.YtiaajmnmbjheoaaPFnExactIslandsOfx4
import Derived.Test.YtiaajmnmbjheoaaPFnExactIslandsOfx5
namespace Go.Proofs.Ytiaajmnmbjheoaa.PFnExactIslandsOf
open Go.RowKit Go.Proofs.YtiaajmnmbjheoaaW.PrintWords Go.Proofs.YtiaajmnmbjheoaaW.PrintLast Go.Proofs.YtiaajmnmbjheoaaW.PrintMore
attribute [local go_sem] max2_int min2_int max_two min_two max_three min_three max_four min_four   -- for this text's walks alone
set_option linter.unusedVariables false
set_option linter.unusedSimpArgs false

/-! ### laws_markIntS: function 52 -/
def laws_markIntS.l0 : Nat → List Int → Int → Int → Option (Int × List Int)
  | 0, _, _, _ => none
  | k + 1, x0, x1, x5 => if x5 < (x0.length : Int) then (if 0 ≤ x5 then (laws_markIntS.l0 k (x0.set (x5 : Int).toNat x1) (wrap64 (x1 + 1)) (wrap64 (x5 + 1))) else (none)) else (some (x1, x0))
def laws_markIntS.f (k : Nat) (l0 : List Int) (a1 : Int) : Option (Int × List Int) := laws_markIntS.l0 k l0 a1 0
theorem laws_markIntS.mono_l : ∀ k, (∀ y0 y1 y2, LeO (laws_markIntS.l0 k y0 y1 y2) (laws_markIntS.l0 (k + 1) y0 y1 y2))
  | 0 => fun _ _ _ r h => by simp [laws_markIntS.l0] at h
  | k + 1 => by
    have ih0 := laws_markIntS.mono_l k
    · intro y0 y1 y2
      unfold laws_markIntS.l0
      repeat' first
      | (with_reducible exact ih0 _ _ _)
      | (with_reducible exact LeO.refl _)
      | (with_reducible exact LeO.none _)
      | (with_reducible refine LeO.ite ?_ ?_)
      | (with_reducible refine LeO.bind ?_ (fun _ => ?_))
      | exact ih0 _ _ _
      | exact LeO.none _
      | refine LeO.ite ?_ ?_
      | refine LeO.bind ?_ (fun _ => ?_)
theorem laws_markIntS.mono : ∀ a0 a1 k, LeO (laws_markIntS.f k a0 a1) (laws_markIntS.f (k + 1) a0 a1) := by
  intro a0 a1 k
  have ih0 := laws_markIntS.mono_l k
  unfold laws_markIntS.f
  repeat' first
      | (with_reducible exact ih0 _ _ _)
      | (with_reducible exact LeO.refl _)
      | (with_reducible exact LeO.none _)
      | (with_reducible refine LeO.ite ?_ ?_)
      | (with_reducible refine LeO.bind ?_ (fun _ => ?_))
      | exact ih0 _ _ _
      | exact LeO.none _
      | refine LeO.ite ?_ ?_
      | refine LeO.bind ?_ (fun _ => ?_)
set_option maxHeartbeats 8000000 in
set_option maxRecDepth 100000 in
theorem laws_markIntS.calls (k : Nat) (P0_ : Nat → Prop) (u9000_ : Value) (l0 : List Int) (a1 : Int) (r1 : Int) (r2 : List Int) (w0 w : World) (hB : Below w0.heap.size w0 w) (ho0 : Kd.R (Kd.int .i64) 3 w w0.heap.size P0_ u9000_ l0) (h : laws_markIntS.f k l0 a1 = some (r1, r2)) :
    Calls Try.prog 52 #[u9000_, .int .i64 a1] w fun e w' => e = .returned (.int .i64 r1) ∧ Kd.R (Kd.int .i64) 3 w' w0.heap.size (fun k_ => (P0_ k_ ∨ w.heap.size ≤ k_)) u9000_ r2 ∧ Below w0.heap.size w0 w' ∧ Kept w w' (fun k_ => P0_ k_) := by
  have HO0 := Aside0.mk (show Kd.R (Kd.int .i64) 3 w w0.heap.size (fun k_ => (P0_ k_ ∨ w.heap.size ≤ k_)) u9000_ l0 from Kd.R_mono ho0 (fun k_ hk => (.inl hk)))
  have HK := Aside0.mk (Kept.refl w (fun k_ => P0_ k_))
  have HW0 := Aside0.mk hB.size
  have HB := Aside0.mk hB
  clear hB
  have H : (laws_markIntS.l0 k l0 a1 0) = some (r1, r2) := h
  clear h
  have H' := Aside0.mk H
  clear H
  go_enter Try.func52, Try.ntmps52
  go_wp2
  go_loopg [1, 5] k (fun kq v1 v5 w' => ∃ (x0_1 : List Int) (x1_1 : Int) (x5_1 : Int), v1 = .int .i64 x1_1 ∧ v5 = .int .i64 x5_1 ∧ Aside0 (laws_markIntS.l0 kq x0_1 x1_1 x5_1 = some (r1, r2)) ∧ Aside0 (kq ≤ k) ∧ Aside0 (Kd.R (Kd.int .i64) 3 w' w0.heap.size (fun k_ => (P0_ k_ ∨ w.heap.size ≤ k_)) u9000_ x0_1) ∧ Aside0 (Kept w w' (fun k_ => P0_ k_)) ∧ Aside0 (Below w0.heap.size w0 w'))
  case atStart => exact ⟨(l0), (a1), (0), (by first | rfl | (simp; done) | (simp [*]; done)), (by first | rfl | (simp; done) | (simp [*]; done)), H', ⟨Nat.le_refl _⟩, ⟨by (with_reducible repeat (first | apply Kd.R_alloc | apply Kd.R_drewN | apply Kd.R_drew)); exact HO0.out⟩, ⟨by repeat (first | (with_reducible first | exact HK.out | apply Kept.alloc | apply Kept.drewN | apply Kept.drew) | exact HK.out)⟩, ⟨by repeat (first | (with_reducible first | exact HB.out | apply below_alloc | apply pw_below_drewN | apply below_drew1) | exact HB.out)⟩⟩
  case round =>
    clear H'
    try clear p2
    obtain ⟨x0_1, x1_1, x5_1, rfl, rfl, HA, HK1, HO_0, HK, HB⟩ := hrel
    cases gk with
    | zero => exact absurd HA.out (by simp [laws_markIntS.l0])
    | succ k1 =>
      have H := HA.out
      clear HA
      simp only [laws_markIntS.l0] at H
      by_cases c3 : x5_1 < (x0_1.length : Int)
      · rw [if_pos c3] at H
        have c3b0 : decide (x5_1 < (x0_1.length : Int)) = true := decide_eq_true c3
        clear c3
        by_cases c4 : 0 ≤ x5_1
        · rw [if_pos c4] at H
          have c4b0 : decide (0 ≤ x5_1) = true := decide_eq_true c4
          clear c4
          obtain ⟨y186, hy186⟩ : ∃ y_ : List Int, y_ = (x0_1.set (x5_1 : Int).toNat x1_1) := ⟨_, rfl⟩
          replace H : (laws_markIntS.l0 k1 y186 (wrap64 (x1_1 + 1)) (wrap64 (x5_1 + 1))) = some (r1, r2) := by first | (rw [hy186]; with_reducible exact H) | (have H2_ := (Option.bind_some _ _).symm.trans H; rw [hy186]; with_reducible exact H2_) | (have H2_ := (Option.bind_some _ _).symm.trans H; with_reducible exact H2_) | with_reducible exact H | (rw [hy186]; exact H) | exact H
          have Ny186 := Aside0.mk hy186
          clear hy186
          have H' := Aside0.mk H
          clear H
          obtain ⟨Ao6, co6, eo6⟩ := Kd.R_slice HO_0.out
          subst eo6
          have p5 : 0 ≤ (x5_1 : Int) := of_decide_eq_true (by first | (with_reducible assumption) | assumption)
          have q5 : (x5_1 : Int) < ((x0_1.length : Int) : Int) := of_decide_eq_true (by first | (with_reducible assumption) | assumption)
          obtain ⟨go5, co5, eo5, gb5, gl5, cl5, HG5⟩ := Kd.R_form HO_0.out (by omega)
          (first | cases eo5 | (injection eo5 with ea_ en_ ec_; (first | subst ea_ | (injection ea_ with ea_; subst ea_)); subst ec_; clear en_))
          have GB5 := Aside0.mk gb5
          have GG5 := Aside0.mk HG5
          clear gb5 gl5 HG5
          have HMgo5 := Aside0.mk (show (P0_ go5 ∨ w.heap.size ≤ go5) from (HO_0.out.1 _ rfl))
          obtain ⟨hx5_0, hf5_0⟩ := Kd.R_celln 0 HO_0.out (x5_1 : Int) p5 q5
          replace p5 := eq_true p5
          replace q5 := eq_true q5
          have HP7 := Kd.R_putg HO_0.out (x5_1 : Int) x1_1
          go_wp2_with (first | ((with_reducible refine gate_store (t := 3) (p := 15) rfl ?_); refine store_event (t := 3) (p := 15) (v := ?vo_w8) (w1 := (wr.setCell ⟨go5, (x5_1 : Int).toNat, none⟩ (.int .i64 x1_1))) ?hg ?ho ?hn ?hr ?_; (case ho => rfl); (case hg => rfl); (case hn => rfl); (case hr => first | (go_simp; done) | (go_simp; rfl)); intro w8 hw; have hg : wr.grownBy w8 (some go5) := (by rw [hw]; exact HP7.2); have hp_ : Kd.R (Kd.int .i64) 3 w8 w0.heap.size (fun k_ => (P0_ k_ ∨ w.heap.size ≤ k_)) (.slice (some ⟨go5, 0, none⟩) x0_1.length co6) y186 := (by rw [hw, Ny186.out]; exact HP7.1); clear HP7; have n0_ := Aside0.mk (hp_); have n1_ := Aside0.mk ((by rw [hw]; exact below_set (HB.out) GB5.out : Below w0.heap.size w0 w8)); have n2_ := Aside0.mk (Kept.of_grown (S := (fun k_ => P0_ k_)) hg (by repeat (first | (with_reducible first | exact HK.out | apply Kept.alloc | apply Kept.drewN | apply Kept.drew) | exact HK.out)) (fun k_ e_ => (HO_0.out.1 k_ e_))); clear HO_0; clear HB; clear HK; have HO_0 := n0_; have HB := n1_; have HK := n2_; clear n0_ n1_ n2_; clear hg hw hp_))
          go_roundg k1
          case measure => have := HK1.out; omega
          case rel => exact ⟨(y186), (wrap64 (x1_1 + 1)), (wrap64 (x5_1 + 1)), (by first | rfl | (simp; done) | (simp [*]; done)), (by first | rfl | (simp; done) | (simp [*]; done)), H', ⟨by have := HK1.out; omega⟩, ⟨by (with_reducible repeat (first | apply Kd.R_alloc | apply Kd.R_drewN | apply Kd.R_drew)); exact HO_0.out⟩, ⟨by repeat (first | (with_reducible first | exact HK.out | apply Kept.alloc | apply Kept.drewN | apply Kept.drew) | exact HK.out)⟩, ⟨by repeat (first | (with_reducible first | exact HB.out | apply below_alloc | apply pw_below_drewN | apply below_drew1) | exact HB.out)⟩⟩
        · rw [if_neg c4] at H
          exact absurd H (by simp)
      · rw [if_neg c3] at H
        have c3b0 : decide (x5_1 < (x0_1.length : Int)) = false := decide_eq_false c3
        clear c3
        simp only [Option.some.injEq, Prod.mk.injEq] at H
        obtain ⟨rfl, rfl⟩ := H
        obtain ⟨Ao9, co9, eo9⟩ := Kd.R_slice HO_0.out
        subst eo9
        go_wp2
        go_ret
        exact ⟨by first | rfl | (simp [errW_none, errW_some] <;> rfl) | (simp [*, errW_none, errW_some] <;> rfl), by (with_reducible repeat (first | apply Kd.R_alloc | apply Kd.R_drewN | apply Kd.R_drew)); exact HO_0.out, by repeat (first | (with_reducible first | exact HB.out | apply below_alloc | apply pw_below_drewN | apply below_drew1) | exact HB.out), by repeat (first | (with_reducible first | exact HK.out | apply Kept.alloc | apply Kept.drewN | apply Kept.drew) | exact HK.out)⟩


/-! ### laws_markIntSS: function 23 -/
def laws_markIntSS.l0 : Nat → List (List Int) → Int → Int → Option (Int × List (List Int))
  | 0, _, _, _ => none
  | k + 1, x0, x1, x5 => if x5 < (x0.length : Int) then (if 0 ≤ x5 then ((laws_markIntS.f k (x0.getD x5.toNat ([] : List Int)) x1).bind fun t => (laws_markIntSS.l0 k (x0.set x5.toNat t.2) t.1 (wrap64 (x5 + 1)))) else (none)) else (some (x1, x0))
def laws_markIntSS.f (k : Nat) (l0 : List (List Int)) (a1 : Int) : Option (Int × List (List Int)) := laws_markIntSS.l0 k l0 a1 0
theorem laws_markIntSS.M_of {w : World} {base : Nat} {ok : Nat → Prop} {v : Value} {x : List Int} (h : Kd.R (Kd.int .i64) 3 w base ok v x) : (Kd.slice 3 (Kd.int .i64)).M w base ok x [v] := ⟨v, rfl, h⟩
set_option maxHeartbeats 8000000 in
set_option maxRecDepth 100000 in
theorem laws_markIntSS.calls (k : Nat) (P0_ : Nat → Prop) (u9000_ : Value) (l0 : List (List Int)) (a1 : Int) (r1 : Int) (r2 : List (List Int)) (w0 w : World) (hB : Below w0.heap.size w0 w) (ho0 : Kd.S (Kd.slice 3 (Kd.int .i64)) 74 w w0.heap.size P0_ u9000_ l0) (h : laws_markIntSS.f k l0 a1 = some (r1, r2)) :
    Calls Try.prog 23 #[u9000_, .int .i64 a1] w fun e w' => e = .returned (.int .i64 r1) ∧ Kd.S (Kd.slice 3 (Kd.int .i64)) 74 w' w0.heap.size (fun k_ => (P0_ k_ ∨ w.heap.size ≤ k_)) u9000_ r2 ∧ Below w0.heap.size w0 w' ∧ Kept w w' (fun k_ => P0_ k_) := by
  have HO0 := Aside0.mk (show Kd.S (Kd.slice 3 (Kd.int .i64)) 74 w w0.heap.size (fun k_ => (P0_ k_ ∨ w.heap.size ≤ k_)) u9000_ l0 from Kd.S_mono ho0 (fun k_ hk => (.inl hk)))
  have HK := Aside0.mk (Kept.refl w (fun k_ => P0_ k_))
  have HB := Aside0.mk hB
  clear hB ho0
  have H' := Aside0.mk (show laws_markIntSS.l0 k l0 a1 0 = some (r1, r2) from h)
  clear h
  go_enter Try.func23, Try.ntmps23
  go_wp2
  go_loopg [1, 5] k (fun kq v1 v5 w' => ∃ (x0_1 : List (List Int)) (x1_1 : Int) (x5_1 : Int), v1 = .int .i64 x1_1 ∧ v5 = .int .i64 x5_1 ∧ Aside0 (laws_markIntSS.l0 kq x0_1 x1_1 x5_1 = some (r1, r2)) ∧ Aside0 (kq ≤ k) ∧ Aside0 (Kd.S (Kd.slice 3 (Kd.int .i64)) 74 w' w0.heap.size (fun k_ => (P0_ k_ ∨ w.heap.size ≤ k_)) u9000_ x0_1) ∧ Aside0 (Kept w w' (fun k_ => P0_ k_)) ∧ Aside0 (Below w0.heap.size w0 w'))
  case atStart => exact ⟨l0, a1, 0, rfl, rfl, H', ⟨Nat.le_refl _⟩, HO0, HK, HB⟩
  case round =>
    clear H' HO0 HK HB
    obtain ⟨x0_1, x1_1, x5_1, rfl, rfl, HA, HK1, HO, HK, HB⟩ := hrel
    cases gk with
    | zero => exact absurd HA.out (by simp [laws_markIntSS.l0])
    | succ k1 =>
      have H := HA.out
      clear HA
      simp only [laws_markIntSS.l0] at H
      obtain ⟨Ao6, co6, eo6⟩ := Kd.S_slice HO.out
      subst eo6
      by_cases c3 : x5_1 < (x0_1.length : Int)
      · rw [if_pos c3] at H
        have c3b0 : decide (x5_1 < (x0_1.length : Int)) = true := decide_eq_true c3
        by_cases c4 : 0 ≤ x5_1
        · rw [if_pos c4] at H
          obtain ⟨⟨t1, t2⟩, hA, H⟩ := Option.bind_eq_some_iff.mp H
          have H' := Aside0.mk (show laws_markIntSS.l0 k1 (x0_1.set x5_1.toNat t2) t1 (wrap64 (x5_1 + 1)) = some (r1, r2) from H)
          clear H
          obtain ⟨go5, co5, eo5, gb5, gl5, cl5, HG5⟩ := Kd.S_form HO.out (by omega)
          obtain ⟨rfl, rfl⟩ : Ao6 = some ⟨go5, 0, none⟩ ∧ co6 = co5 := by simpa using eo5
          clear eo5 gb5 gl5 HG5
          obtain ⟨oki, ce, hcl, hM, hcc, hfr, hoki, hH⟩ := Kd.S_elem HO.out ([] : List Int) x5_1 c4 c3
          obtain ⟨ve, rfl, ge⟩ := hM
          have hx := hcc 0 _ rfl
          simp only [show ((Kd.slice 3 (Kd.int .i64))).sz = 1 from rfl, Nat.mul_one, Nat.add_zero] at hx
          obtain ⟨Ai, ci, ei⟩ := Kd.R_slice ge
          subst ei
          obtain ⟨y, hy⟩ : ∃ y_, x0_1.getD x5_1.toNat ([] : List Int) = y_ := ⟨_, rfl⟩
          rw [hy] at hA ge hx hH
          have A1 := Aside0.mk hA
          clear hy hA
          have GE := Aside0.mk ge
          have HH := Aside0.mk hH
          have HI := Aside0.mk hoki
          clear ge hH hoki hcc hfr hcl
          have p5 := eq_true c4
          have q5 := eq_true c3
          clear c3 c4
          go_wp2_with fail
          refine (laws_markIntS.calls k1 oki _ _ x1_1 t1 t2 w0 _ HB.out GE.out A1.out).mono ?_
          rintro e w8 ⟨rfl, hR, hBl, hKp⟩
          have hsz := HK.out.1
          have hM := laws_markIntSS.M_of hR
          have hH2 := Kd.H_kept (Kd.H_widen HH.out) hKp (fun k_ _ hn ho => hn (.inl ho))
          have HS := Aside0.mk (Kd.H_back hH2 hM (fun k_ hk => Or.elim hk (fun h1 => .inl h1) (fun h2 => .inr ⟨.inr (Nat.le_trans hsz h2), h2⟩)))
          have HK2 := Aside0.mk (HK.out.then_ hKp (fun k_ ho => (HI.out k_ ho).1))
          have HB2 := Aside0.mk hBl
          clear hM hH2 hR hBl hKp hsz HB HK HO HH HI GE A1
          go_wp2
          go_roundg k1
          case measure => have := HK1.out; omega
          case rel => exact ⟨x0_1.set x5_1.toNat t2, t1, wrap64 (x5_1 + 1), (by first | rfl | (simp; done)), (by first | rfl | (simp; done)), H', ⟨by have := HK1.out; omega⟩, HS, HK2, HB2⟩
        · rw [if_neg c4] at H
          cases H
      · rw [if_neg c3] at H
        have c3b0 : decide (x5_1 < (x0_1.length : Int)) = false := decide_eq_false c3
        clear c3
        simp only [Option.some.injEq, Prod.mk.injEq] at H
        obtain ⟨rfl, rfl⟩ := H
        go_wp2
        go_ret
        exact ⟨rfl, HO.out, HB.out, HK.out⟩

/-! ### laws_heldIntS: function 54 -/
def laws_heldIntS.l0 : Nat → List Int → Int → Int → Option (Int)
  | 0, _, _, _ => none
  | k + 1, x0, x1, x5 => if x5 < (x0.length : Int) then (if 0 ≤ x5 then (if (rd x0 x5) = x1 then (laws_heldIntS.l0 k x0 (wrap64 (x1 + 1)) (wrap64 (x5 + 1))) else (some (-1))) else (none)) else (some x1)
def laws_heldIntS.f (k : Nat) (l0 : List Int) (a1 : Int) : Option (Int) := laws_heldIntS.l0 k l0 a1 0
theorem laws_heldIntS.mono_l : ∀ k, (∀ y0 y1 y2, LeO (laws_heldIntS.l0 k y0 y1 y2) (laws_heldIntS.l0 (k + 1) y0 y1 y2))
  | 0 => fun _ _ _ r h => by simp [laws_heldIntS.l0] at h
  | k + 1 => by
    have ih0 := laws_heldIntS.mono_l k
    · intro y0 y1 y2
      unfold laws_heldIntS.l0
      repeat' first
      | (with_reducible exact ih0 _ _ _)
      | (with_reducible exact LeO.refl _)
      | (with_reducible exact LeO.none _)
      | (with_reducible refine LeO.ite ?_ ?_)
      | (with_reducible refine LeO.bind ?_ (fun _ => ?_))
      | exact ih0 _ _ _
      | exact LeO.none _
      | refine LeO.ite ?_ ?_
      | refine LeO.bind ?_ (fun _ => ?_)
theorem laws_heldIntS.mono : ∀ a0 a1 k, LeO (laws_heldIntS.f k a0 a1) (laws_heldIntS.f (k + 1) a0 a1) := by
  intro a0 a1 k
  have ih0 := laws_heldIntS.mono_l k
  unfold laws_heldIntS.f
  repeat' first
      | (with_reducible exact ih0 _ _ _)
      | (with_reducible exact LeO.refl _)
      | (with_reducible exact LeO.none _)
      | (with_reducible refine LeO.ite ?_ ?_)
      | (with_reducible refine LeO.bind ?_ (fun _ => ?_))
      | exact ih0 _ _ _
      | exact LeO.none _
      | refine LeO.ite ?_ ?_
      | refine LeO.bind ?_ (fun _ => ?_)
set_option maxHeartbeats 8000000 in
set_option maxRecDepth 100000 in
theorem laws_heldIntS.calls (k : Nat) (A0 : Option Addr) (c0 : Nat) (l0 : List Int) (a1 : Int) (r : Int) (w : World) (hr0 : Kd.C (Kd.int .i64) w A0 l0.length l0) (hc0 : l0.length ≤ c0) (h : laws_heldIntS.f k l0 a1 = some r) :
    Calls Try.prog 54 #[.slice A0 l0.length c0, .int .i64 a1] w fun e w' => e = .returned (.int .i64 r) ∧ Drawn0 w w' := by
  have HR0 := Aside0.mk hr0
  have HC0 := Aside0.mk hc0
  clear hr0 hc0
  have H : (laws_heldIntS.l0 k l0 a1 0) = some r := h
  clear h
  have H' := Aside0.mk H
  clear H
  go_enter Try.func54, Try.ntmps54
  go_wp2
  go_loopg [1, 5] k (fun kq v1 v5 w' => ∃ (x1_1 : Int) (x5_1 : Int), v1 = .int .i64 x1_1 ∧ v5 = .int .i64 x5_1 ∧ Aside0 (laws_heldIntS.l0 kq l0 x1_1 x5_1 = some r) ∧ Aside0 (kq ≤ k) ∧ Drawn0 w w')
  case atStart => exact ⟨(a1), (0), (by first | rfl | (simp; done) | (simp [*]; done)), (by first | rfl | (simp; done) | (simp [*]; done)), H', ⟨Nat.le_refl _⟩, by repeat (first | exact Drawn0.refl _ | apply Drawn0.step)⟩
  case round =>
    clear H'
    try clear p2
    obtain ⟨x1_1, x5_1, rfl, rfl, HA, HK1, ⟨m1, rfl⟩⟩ := hrel
    cases gk with
    | zero => exact absurd HA.out (by simp [laws_heldIntS.l0])
    | succ k1 =>
      have H := HA.out
      clear HA
      simp only [laws_heldIntS.l0] at H
      by_cases c3 : x5_1 < (l0.length : Int)
      · rw [if_pos c3] at H
        have c3b0 : decide (x5_1 < (l0.length : Int)) = true := decide_eq_true c3
        clear c3
        by_cases c4 : 0 ≤ x5_1
        · rw [if_pos c4] at H
          have c4b0 : decide (0 ≤ x5_1) = true := decide_eq_true c4
          clear c4
          by_cases c5 : (rd l0 x5_1) = x1_1
          · rw [if_pos c5] at H
            have c5b0 : ((rd l0 x5_1) == x1_1) = true := beq_iff_eq.mpr c5
            have c5b1 : ((rd l0 x5_1) != x1_1) = false := bne_eq_false_iff_eq.mpr c5
            clear c5
            have H' := Aside0.mk H
            clear H
            have p187 : 0 ≤ (x5_1 : Int) := of_decide_eq_true (by first | (with_reducible assumption) | assumption)
            have q187 : x5_1 < (l0.length : Int) := of_decide_eq_true (by first | (with_reducible assumption) | assumption)
            obtain ⟨ad187, e187, hx187_0⟩ := Kd.at_int HR0.out x5_1 p187 q187
            cases e187
            replace p187 := eq_true p187
            replace q187 := eq_true q187
            go_wp2
            go_roundg k1
            case measure => have := HK1.out; omega
            case rel => exact ⟨(wrap64 (x1_1 + 1)), (wrap64 (x5_1 + 1)), (by first | rfl | (simp; done) | (simp [*]; done)), (by first | rfl | (simp; done) | (simp [*]; done)), H', ⟨by have := HK1.out; omega⟩, by repeat (first | exact Drawn0.refl _ | apply Drawn0.step)⟩
          · rw [if_neg c5] at H
            have c5b0 : ((rd l0 x5_1) == x1_1) = false := beq_eq_false_iff_ne.mpr c5
            have c5b1 : ((rd l0 x5_1) != x1_1) = true := bne_iff_ne.mpr c5
            obtain rfl := Option.some.inj H
            have p187 : 0 ≤ (x5_1 : Int) := of_decide_eq_true (by first | (with_reducible assumption) | assumption)
            have q187 : x5_1 < (l0.length : Int) := of_decide_eq_true (by first | (with_reducible assumption) | assumption)
            obtain ⟨ad187, e187, hx187_0⟩ := Kd.at_int HR0.out x5_1 p187 q187
            cases e187
            replace p187 := eq_true p187
            replace q187 := eq_true q187
            go_wp2
            go_ret
            exact ⟨by first | rfl | (simp; done) | (simp [*]; done), by repeat (first | exact Drawn0.refl _ | apply Drawn0.step)⟩
        · rw [if_neg c4] at H
          exact absurd H (by simp)
      · rw [if_neg c3] at H
        have c3b0 : decide (x5_1 < (l0.length : Int)) = false := decide_eq_false c3
        clear c3
        obtain rfl := Option.some.inj H
        go_wp2
        go_ret
        exact ⟨by first | rfl | (simp; done) | (simp [*]; done), by repeat (first | exact Drawn0.refl _ | apply Drawn0.step)⟩

/-! ### laws_heldIntSS: function 24 -/
def laws_heldIntSS.l0 : Nat → List (List Int) → Int → Int → Option (Int)
  | 0, _, _, _ => none
  | k + 1, x0, x1, x5 => if x5 < (x0.length : Int) then (if 0 ≤ x5 then ((laws_heldIntS.f k (rd_L3 x0 x5) x1).bind fun t189 => (if t189 < 0 then (some (-1)) else (laws_heldIntSS.l0 k x0 t189 (wrap64 (x5 + 1))))) else (none)) else (some x1)
def laws_heldIntSS.f (k : Nat) (l0 : List (List Int)) (a1 : Int) : Option (Int) := laws_heldIntSS.l0 k l0 a1 0
theorem laws_heldIntSS.mono_l : ∀ k, (∀ y0 y1 y2, LeO (laws_heldIntSS.l0 k y0 y1 y2) (laws_heldIntSS.l0 (k + 1) y0 y1 y2))
  | 0 => fun _ _ _ r h => by simp [laws_heldIntSS.l0] at h
  | k + 1 => by
    have ih0 := laws_heldIntSS.mono_l k
    · intro y0 y1 y2
      unfold laws_heldIntSS.l0
      repeat' first
      | (with_reducible exact ih0 _ _ _)
      | (with_reducible exact laws_heldIntS.mono _ _ _)
      | (with_reducible exact LeO.refl _)
      | (with_reducible exact LeO.none _)
      | (with_reducible refine LeO.ite ?_ ?_)
      | (with_reducible refine LeO.bind ?_ (fun _ => ?_))
      | exact ih0 _ _ _
      | exact laws_heldIntS.mono _ _ _
      | exact LeO.none _
      | refine LeO.ite ?_ ?_
      | refine LeO.bind ?_ (fun _ => ?_)
theorem laws_heldIntSS.mono : ∀ a0 a1 k, LeO (laws_heldIntSS.f k a0 a1) (laws_heldIntSS.f (k + 1) a0 a1) := by
  intro a0 a1 k
  have ih0 := laws_heldIntSS.mono_l k
  unfold laws_heldIntSS.f
  repeat' first
      | (with_reducible exact ih0 _ _ _)
      | (with_reducible exact laws_heldIntS.mono _ _ _)
      | (with_reducible exact LeO.refl _)
      | (with_reducible exact LeO.none _)
      | (with_reducible refine LeO.ite ?_ ?_)
      | (with_reducible refine LeO.bind ?_ (fun _ => ?_))
      | exact ih0 _ _ _
      | exact laws_heldIntS.mono _ _ _
      | exact LeO.none _
      | refine LeO.ite ?_ ?_
      | refine LeO.bind ?_ (fun _ => ?_)
set_option maxHeartbeats 8000000 in
set_option maxRecDepth 100000 in
theorem laws_heldIntSS.calls (k : Nat) (A0 : Option Addr) (c0 : Nat) (l0 : List (List Int)) (a1 : Int) (r : Int) (w : World) (hr0 : Kd.C (Kd.slice 3 (Kd.int .i64)) w A0 l0.length l0) (hc0 : l0.length ≤ c0) (h : laws_heldIntSS.f k l0 a1 = some r) :
    Calls Try.prog 24 #[.slice A0 l0.length c0, .int .i64 a1] w fun e w' => e = .returned (.int .i64 r) ∧ Drawn0 w w' := by
  have HR0 := Aside0.mk hr0
  have HC0 := Aside0.mk hc0
  clear hr0 hc0
  have H : (laws_heldIntSS.l0 k l0 a1 0) = some r := h
  clear h
  have H' := Aside0.mk H
  clear H
  go_enter Try.func24, Try.ntmps24
  go_wp2
  go_loopg [1, 5] k (fun kq v1 v5 w' => ∃ (x1_1 : Int) (x5_1 : Int), v1 = .int .i64 x1_1 ∧ v5 = .int .i64 x5_1 ∧ Aside0 (laws_heldIntSS.l0 kq l0 x1_1 x5_1 = some r) ∧ Aside0 (kq ≤ k) ∧ Drawn0 w w')
  case atStart => exact ⟨(a1), (0), (by first | rfl | (simp; done) | (simp [*]; done)), (by first | rfl | (simp; done) | (simp [*]; done)), H', ⟨Nat.le_refl _⟩, by repeat (first | exact Drawn0.refl _ | apply Drawn0.step)⟩
  case round =>
    clear H'
    try clear c2
    try clear p2
    obtain ⟨x1_1, x5_1, rfl, rfl, HA, HK1, ⟨m1, rfl⟩⟩ := hrel
    cases gk with
    | zero => exact absurd HA.out (by simp [laws_heldIntSS.l0])
    | succ k1 =>
      have H := HA.out
      clear HA
      simp only [laws_heldIntSS.l0] at H
      by_cases c3 : x5_1 < (l0.length : Int)
      · rw [if_pos c3] at H
        have c3b0 : decide (x5_1 < (l0.length : Int)) = true := decide_eq_true c3
        clear c3
        by_cases c4 : 0 ≤ x5_1
        · rw [if_pos c4] at H
          have c4b0 : decide (0 ≤ x5_1) = true := decide_eq_true c4
          clear c4
          replace H := Option.bind_eq_some_iff.mp H
          obtain ⟨t189, A50, H⟩ := H
          replace H : (if t189 < 0 then (some (-1)) else (laws_heldIntSS.l0 k1 l0 t189 (wrap64 (x5_1 + 1)))) = some r := H
          have A5 := Aside0.mk A50
          clear A50
          by_cases c6 : t189 < 0
          · rw [if_pos c6] at H
            have c6b0 : decide (t189 < 0) = true := decide_eq_true c6
            clear c6
            obtain rfl := Option.some.inj H
            have p188 : 0 ≤ (x5_1 : Int) := of_decide_eq_true (by first | (with_reducible assumption) | assumption)
            have q188 : x5_1 < (l0.length : Int) := of_decide_eq_true (by first | (with_reducible assumption) | assumption)
            obtain ⟨ad188, A188_0, c188_0, e188, hx188_0, hl188_0, hi188_0⟩ := at_L3 HR0.out x5_1 p188 q188
            cases e188
            have HR188_0 := Aside0.mk hi188_0
            have HC188_0 := Aside0.mk hl188_0
            clear hi188_0 hl188_0
            replace p188 := eq_true p188
            replace q188 := eq_true q188
            go_wp2_with (first | ((with_reducible refine gate_callee (f := 54) rfl ?_); refine goesL_ (some 17) rfl rfl Try.func54 (by kernel_rfl) rfl #[.slice A188_0 (rd_L3 l0 x5_1).length c188_0, .int .i64 x1_1] rfl (by (try simp only [List.map_toArray, List.map_cons, List.map_nil]); first | done | rfl | (simp only [List.length_drop, List.length_take]; rfl)) ?_; (with_reducible refine (laws_heldIntS.calls k1 _ _ (rd_L3 l0 x5_1) x1_1 t189 _ ?side1 ?side2 A5.out).mono ?_); (case side1 => repeat (first | exact HR188_0.out | (with_reducible refine Kd.C_alloc ?_ _) | (with_reducible refine Kd.C_drewN ?_ _) | (with_reducible refine Kd.C_drew ?_))); (case side2 => exact HC188_0.out); rintro e w' ⟨rfl, ⟨nd, rfl⟩⟩; refine ⟨_, rfl, ?_⟩))
            go_ret
            exact ⟨by first | rfl | (simp; done) | (simp [*]; done), by repeat (first | exact Drawn0.refl _ | apply Drawn0.step)⟩
          · rw [if_neg c6] at H
            have c6b0 : decide (t189 < 0) = false := decide_eq_false c6
            clear c6
            have H' := Aside0.mk H
            clear H
            have p188 : 0 ≤ (x5_1 : Int) := of_decide_eq_true (by first | (with_reducible assumption) | assumption)
            have q188 : x5_1 < (l0.length : Int) := of_decide_eq_true (by first | (with_reducible assumption) | assumption)
            obtain ⟨ad188, A188_0, c188_0, e188, hx188_0, hl188_0, hi188_0⟩ := at_L3 HR0.out x5_1 p188 q188
            cases e188
            have HR188_0 := Aside0.mk hi188_0
            have HC188_0 := Aside0.mk hl188_0
            clear hi188_0 hl188_0
            replace p188 := eq_true p188
            replace q188 := eq_true q188
            go_wp2_with (first | ((with_reducible refine gate_callee (f := 54) rfl ?_); refine goesL_ (some 17) rfl rfl Try.func54 (by kernel_rfl) rfl #[.slice A188_0 (rd_L3 l0 x5_1).length c188_0, .int .i64 x1_1] rfl (by (try simp only [List.map_toArray, List.map_cons, List.map_nil]); first | done | rfl | (simp only [List.length_drop, List.length_take]; rfl)) ?_; (with_reducible refine (laws_heldIntS.calls k1 _ _ (rd_L3 l0 x5_1) x1_1 t189 _ ?side1 ?side2 A5.out).mono ?_); (case side1 => repeat (first | exact HR188_0.out | (with_reducible refine Kd.C_alloc ?_ _) | (with_reducible refine Kd.C_drewN ?_ _) | (with_reducible refine Kd.C_drew ?_))); (case side2 => exact HC188_0.out); rintro e w' ⟨rfl, ⟨nd, rfl⟩⟩; refine ⟨_, rfl, ?_⟩))
            go_roundg k1
            case measure => have := HK1.out; omega
            case rel => exact ⟨(t189), (wrap64 (x5_1 + 1)), (by first | rfl | (simp; done) | (simp [*]; done)), (by first | rfl | (simp; done) | (simp [*]; done)), H', ⟨by have := HK1.out; omega⟩, by repeat (first | exact Drawn0.refl _ | apply Drawn0.step)⟩
        · rw [if_neg c4] at H
          exact absurd H (by simp)
      · rw [if_neg c3] at H
        have c3b0 : decide (x5_1 < (l0.length : Int)) = false := decide_eq_false c3
        clear c3
        obtain rfl := Option.some.inj H
        go_wp2
        go_ret
        exact ⟨by first | rfl | (simp; done) | (simp [*]; done), by repeat (first | exact Drawn0.refl _ | apply Drawn0.step)⟩


/-! ### laws_FnExactIslandsOf: function 4 -/
def laws_FnExactIslandsOf.f (k : Nat) (a0 : Int) (l1 : List (S92)) : Option (Bool) :=
  (laws_szPairS.f l1 1048576).bind fun v => if v < 0 then some true else
  (laws_toPairS.f k l1).bind fun g => (spec_IslandsOf.f k a0 g).bind fun s => (impl_IslandsOf.f k a0 g).bind fun t =>
  (laws_eqIntSS.f k t.1 s.1).bind fun e1 => (laws_eqPairS.f k g g).bind fun e2 => (laws_markPairS.f k g 1).bind fun m =>
  (laws_markIntSS.f k t.1 1).bind fun n => (laws_heldIntSS.f k n.2 1).bind fun q =>
  if e1 = true ∧ e2 = true ∧ t.2 = s.2 ∧ ¬ m.1 < 0 ∧ q = n.1 ∧ ¬ q < 0 then some true else none
theorem laws_FnExactIslandsOf.bnd {α : Type} {d : Kd α} {e base : Nat} {w : World} {v : Value} {xs : List α} (h : d.R e w base (fun _ => True) v xs) : d.R e w base (fun k_ => base ≤ k_ ∧ k_ < w.heap.size) v xs := Kd.R_mono (Kd.R_bound h) (fun _ hk => ⟨hk.2.1, hk.2.2.1⟩)
theorem laws_FnExactIslandsOf.bndS {α : Type} {d : Kd α} {e base : Nat} {w : World} {v : Value} {xs : List α} (h : Kd.S d e w base (fun _ => True) v xs) : Kd.S d e w base (fun k_ => base ≤ k_ ∧ k_ < w.heap.size) v xs := Kd.S_mono (Kd.S_bound h) (fun _ hk => ⟨hk.2.1, hk.2.2.1⟩)
theorem laws_FnExactIslandsOf.held (k : Nat) (A : Option Addr) (c : Nat) (tl nq : List (List Int)) (q : Int) (w : World) {base : Nat} {ok : Nat → Prop} (h : Kd.S (Kd.slice 3 (Kd.int .i64)) 74 w base ok (.slice A tl.length c) nq) (hq : laws_heldIntSS.f k nq 1 = some q) : Calls Try.prog 24 #[.slice A tl.length c, .int .i64 1] w fun e w' => e = .returned (.int .i64 q) ∧ Drawn0 w w' := by
  have hr := Kd.S_reads' h
  have hc : nq.length ≤ c := hr.1 ▸ hr.2.1
  rw [hr.1]
  exact laws_heldIntSS.calls k A c nq 1 q w hr.2.2 hc hq
theorem laws_FnExactIslandsOf.drn {w w' : World} (h : Drawn0 w w') : Below w.heap.size w w' := by obtain ⟨n, rfl⟩ := h; exact pw_below_drewN (Below.refl _ _) n
set_option maxHeartbeats 8000000 in
set_option maxRecDepth 100000 in
theorem laws_FnExactIslandsOf.small (k : Nat) (a0 : Int) (A1 : Option Addr) (c1 : Nat) (l1 : List (S92)) (v : Int) (w : World) (hr1 : Kd.C k92 w A1 l1.length l1) (hc1 : l1.length ≤ c1) (hv : laws_szPairS.f l1 1048576 = some v) (hn : v < 0) :
    Calls Try.prog 4 #[.int .i64 a0, .slice A1 l1.length c1] w fun e w' => e = .returned (.bool true) ∧ Below w.heap.size w w' := by
  have R0 := Aside0.mk hr1
  have V := Aside0.mk hv
  have d1 : decide (v < 0) = true := decide_eq_true hn
  clear hr1 hv hn
  go_enter Try.func4, Try.ntmps4
  go_wp2_with fail
  refine (laws_szPairS.calls _ _ l1 1048576 v _ R0.out hc1 V.out).mono ?_
  rintro e w2 ⟨rfl, hdr⟩
  have H2 := Aside0.mk (laws_FnExactIslandsOf.drn hdr)
  clear hdr
  go_wp2
  go_ret
  exact ⟨rfl, H2.out⟩
set_option maxHeartbeats 32000000 in
set_option maxRecDepth 100000 in
theorem laws_FnExactIslandsOf.long (k : Nat) (a0 : Int) (A1 : Option Addr) (c1 : Nat) (l1 : List (S92)) (v : Int) (g : List (S90)) (sl : List (List Int)) (b : Bool) (tl : List (List Int)) (m : Int) (gm : List (S90)) (nq : List (List Int)) (q : Int) (w : World) (hr1 : Kd.C k92 w A1 l1.length l1) (hc1 : l1.length ≤ c1) (hv : laws_szPairS.f l1 1048576 = some v) (hn : ¬ v < 0) (hg : laws_toPairS.f k l1 = some g) (hs : spec_IslandsOf.f k a0 g = some (sl, b)) (ht : impl_IslandsOf.f k a0 g = some (tl, b)) (h1 : laws_eqIntSS.f k tl sl = some true) (h2 : laws_eqPairS.f k g g = some true) (hm : laws_markPairS.f k g 1 = some (m, gm)) (hm0 : ¬ m < 0) (hk : laws_markIntSS.f k tl 1 = some (q, nq)) (hq : laws_heldIntSS.f k nq 1 = some q) (hq0 : ¬ q < 0) :
    Calls Try.prog 4 #[.int .i64 a0, .slice A1 l1.length c1] w fun e w' => e = .returned (.bool true) ∧ Below w.heap.size w w' := by
  have R0 := Aside0.mk hr1
  have V := Aside0.mk hv
  have TG := Aside0.mk hg
  have SPEC := Aside0.mk hs
  have IMPL := Aside0.mk ht
  have E1 := Aside0.mk h1
  have E2 := Aside0.mk h2
  have MG := Aside0.mk hm
  have MK := Aside0.mk hk
  have HD := Aside0.mk hq
  have d1 : decide (v < 0) = false := decide_eq_false hn
  have d2 : decide (m < 0) = false := decide_eq_false hm0
  have d3 : decide (q < 0) = false := decide_eq_false hq0
  have d4 : (q != q) = false := bne_self_eq_false q
  have d5 : (b != b) = false := bne_self_eq_false b
  clear hr1 hv hg hs ht h1 h2 hm hk hq hn hm0 hq0
  go_enter Try.func4, Try.ntmps4
  go_wp2_with fail
  refine (laws_szPairS.calls _ _ l1 1048576 v _ R0.out hc1 V.out).mono ?_
  rintro e w2 ⟨rfl, hdr⟩
  have H2 := Aside0.mk (laws_FnExactIslandsOf.drn hdr)
  clear hdr
  go_wp2_with fail
  refine (laws_toPairS.calls k _ _ l1 g _ (Kd.C_below R0.out H2.out) hc1 TG.out).mono ?_
  rintro e w3 ⟨u1, rfl, ho1, hb⟩
  obtain ⟨B1, k1, rfl⟩ := Kd.R_slice ho1
  have X1 := Aside0.mk ho1
  have H3 := Aside0.mk (below_step H2.out hb)
  clear hb H2 ho1
  go_wp2_with fail
  refine (spec_IslandsOf.calls k a0 _ _ g sl b _ (Kd.R_reads' X1.out).2.2 (Kd.R_reads' X1.out).2.1 SPEC.out).mono ?_
  rintro e w4 ⟨u2, rfl, ho0, hb⟩
  obtain ⟨BW, kw, rfl⟩ := Kd.S_slice ho0
  have OW := Aside0.mk (Kd.S_mono (laws_FnExactIslandsOf.bndS ho0) (ok' := fun k_ => k_ < w4.heap.size) (fun _ hk => hk.2))
  have H4 := Aside0.mk (below_step H3.out hb)
  clear hb ho0 X1 H3
  go_wp2_with fail
  refine (laws_toPairS.calls k _ _ l1 g _ (Kd.C_below R0.out H4.out) hc1 TG.out).mono ?_
  rintro e w5 ⟨u1, rfl, ho1, hb⟩
  obtain ⟨B1, k1, rfl⟩ := Kd.R_slice ho1
  have L5 := Aside0.mk hb.size
  have X1 := Aside0.mk (Kd.R_lower (laws_FnExactIslandsOf.bnd ho1) (below_size H4.out))
  have H5 := Aside0.mk (below_step H4.out hb)
  have n_ := Aside0.mk (Kd.S_below OW.out hb)
  clear OW
  have OW := n_
  clear n_ hb H4 ho1
  go_wp2_with fail
  refine (impl_IslandsOf.calls k a0 _ _ g tl b _ (Kd.R_reads' X1.out).2.2 (Kd.R_reads' X1.out).2.1 IMPL.out).mono ?_
  rintro e w7 ⟨u2, rfl, ho0, hb⟩
  obtain ⟨BG, kg, rfl⟩ := Kd.S_slice ho0
  have OG := Aside0.mk (Kd.S_lower (Kd.S_mono (laws_FnExactIslandsOf.bndS ho0) (ok' := fun k_ => w5.heap.size ≤ k_) (fun _ hk => hk.1)) (below_size H5.out))
  have H7 := Aside0.mk (below_step H5.out hb)
  have n1 := Aside0.mk (Kd.S_below OW.out hb)
  have n2 := Aside0.mk (Kd.R_below X1.out hb)
  clear ho0 OW X1 hb H5
  go_wp2_with fail
  refine (laws_eqIntSS.calls k _ _ tl _ _ sl true _ (Kd.S_reads' OG.out).2.2 (Kd.S_reads' OG.out).2.1 (Kd.S_reads' n1.out).2.2 (Kd.S_reads' n1.out).2.1 E1.out).mono ?_
  rintro e w8 ⟨rfl, hdr⟩
  have hb := laws_FnExactIslandsOf.drn hdr
  have H8 := Aside0.mk (below_step H7.out hb)
  have n3 := Aside0.mk (Kd.S_below n1.out hb)
  have n4 := Aside0.mk (Kd.R_below n2.out hb)
  have n5 := Aside0.mk (Kd.S_below OG.out hb)
  clear H7 n1 n2 OG hb hdr
  go_wp2_with fail
  refine (laws_toPairS.calls k _ _ l1 g _ (Kd.C_below R0.out H8.out) hc1 TG.out).mono ?_
  rintro e w9 ⟨u1, rfl, ho1, hb⟩
  obtain ⟨B2, k2, rfl⟩ := Kd.R_slice ho1
  have Y1 := Aside0.mk ho1
  have H9 := Aside0.mk (below_step H8.out hb)
  have n6 := Aside0.mk (Kd.S_below n3.out hb)
  have n7 := Aside0.mk (Kd.R_below n4.out hb)
  have n8 := Aside0.mk (Kd.S_below n5.out hb)
  clear H8 n3 n4 n5 hb ho1
  go_wp2_with fail
  refine (laws_eqPairS.calls k _ _ g _ _ g true _ (Kd.R_reads' n7.out).2.2 (Kd.R_reads' n7.out).2.1 (Kd.R_reads' Y1.out).2.2 (Kd.R_reads' Y1.out).2.1 E2.out).mono ?_
  rintro e w10 ⟨rfl, hb⟩
  have H10 := Aside0.mk (below_step H9.out hb)
  have p2 := Aside0.mk (Kd.S_below n6.out hb)
  have p4 := Aside0.mk (Kd.R_below n7.out hb)
  have p5 := Aside0.mk (Kd.S_below n8.out hb)
  clear H9 n6 n7 n8 Y1 hb
  go_wp2_with fail
  refine (laws_markPairS.calls k _ _ g 1 m gm w _ H10.out p4.out MG.out).mono ?_
  rintro e w11 ⟨rfl, _, hB, hKp⟩
  have H11 := Aside0.mk hB
  have OW := Aside0.mk (Kd.S_kept p2.out hKp (fun k_ hk hs => by omega))
  have OG := Aside0.mk (Kd.S_kept p5.out hKp (fun k_ hk hs => by omega))
  clear H10 p2 p4 p5 hB hKp
  go_wp2_with fail
  refine (laws_eqIntSS.calls k _ _ tl _ _ sl true _ (Kd.S_reads' OG.out).2.2 (Kd.S_reads' OG.out).2.1 (Kd.S_reads' OW.out).2.2 (Kd.S_reads' OW.out).2.1 E1.out).mono ?_
  rintro e w12 ⟨rfl, hdr⟩
  have hb := laws_FnExactIslandsOf.drn hdr
  have H12 := Aside0.mk (below_step H11.out hb)
  have n1 := Aside0.mk (Kd.S_below OW.out hb)
  have n2 := Aside0.mk (Kd.S_below OG.out hb)
  clear H11 OW OG hb hdr
  go_wp2_with fail
  refine (laws_markIntSS.calls k _ _ tl 1 q nq w _ H12.out n2.out MK.out).mono ?_
  rintro e w13 ⟨rfl, hR, hB, hKp⟩
  have H13 := Aside0.mk hB
  have OW := Aside0.mk (Kd.S_kept n1.out hKp (fun k_ hk hs => by have h2_ := L5.out; omega))
  have OG := Aside0.mk hR
  clear H12 n1 n2 hB hKp hR
  go_wp2_with fail
  refine (laws_FnExactIslandsOf.held k _ _ tl nq q _ OG.out HD.out).mono ?_
  rintro e w14 ⟨rfl, hdr⟩
  have hb := laws_FnExactIslandsOf.drn hdr
  have H14 := Aside0.mk (below_step H13.out hb)
  have n1 := Aside0.mk (Kd.S_below OW.out hb)
  have n2 := Aside0.mk (Kd.S_below OG.out hb)
  clear H13 OW OG hb hdr
  go_wp2_with fail
  refine (laws_toPairS.calls k _ _ l1 g _ (Kd.C_below R0.out H14.out) hc1 TG.out).mono ?_
  rintro e w15 ⟨u1, rfl, ho1, hb⟩
  obtain ⟨B3, k3, rfl⟩ := Kd.R_slice ho1
  have X1 := Aside0.mk ho1
  have H15 := Aside0.mk (below_step H14.out hb)
  have n3 := Aside0.mk (Kd.S_below n1.out hb)
  have n4 := Aside0.mk (Kd.S_below n2.out hb)
  clear H14 n1 n2 hb ho1
  go_wp2_with fail
  refine (impl_IslandsOf.calls k a0 _ _ g tl b _ (Kd.R_reads' X1.out).2.2 (Kd.R_reads' X1.out).2.1 IMPL.out).mono ?_
  rintro e w16 ⟨u2, rfl, ho0, hb⟩
  obtain ⟨BH, kh, rfl⟩ := Kd.S_slice ho0
  have OH := Aside0.mk ho0
  have H16 := Aside0.mk (below_step H15.out hb)
  have n5 := Aside0.mk (Kd.S_below n3.out hb)
  have n6 := Aside0.mk (Kd.S_below n4.out hb)
  clear H15 n3 n4 hb ho0 X1
  go_wp2_with fail
  refine (laws_eqIntSS.calls k _ _ tl _ _ sl true _ (Kd.S_reads' OH.out).2.2 (Kd.S_reads' OH.out).2.1 (Kd.S_reads' n5.out).2.2 (Kd.S_reads' n5.out).2.1 E1.out).mono ?_
  rintro e w17 ⟨rfl, hdr⟩
  have hb := laws_FnExactIslandsOf.drn hdr
  have H17 := Aside0.mk (below_step H16.out hb)
  have n7 := Aside0.mk (Kd.S_below n6.out hb)
  clear H16 OH n5 n6 hb hdr
  go_wp2_with fail
  refine (laws_FnExactIslandsOf.held k _ _ tl nq q _ n7.out HD.out).mono ?_
  rintro e w18 ⟨rfl, hdr⟩
  have H18 := Aside0.mk (below_step H17.out (laws_FnExactIslandsOf.drn hdr))
  clear H17 n7 hdr
  go_wp2
  go_ret
  exact ⟨rfl, H18.out⟩
theorem laws_FnExactIslandsOf.calls (k : Nat) (a0 : Int) (A1 : Option Addr) (c1 : Nat) (l1 : List (S92)) (r : Bool) (w : World) (hr1 : Kd.C k92 w A1 l1.length l1) (hc1 : l1.length ≤ c1) (h : laws_FnExactIslandsOf.f k a0 l1 = some r) :
    Calls Try.prog 4 #[.int .i64 a0, .slice A1 l1.length c1] w fun e w' => e = .returned (.bool r) ∧ Below w.heap.size w w' := by
  unfold laws_FnExactIslandsOf.f at h
  obtain ⟨v, hv, h⟩ := Option.bind_eq_some_iff.mp h
  by_cases hn : v < 0
  · rw [if_pos hn] at h
    obtain rfl := Option.some.inj h
    exact laws_FnExactIslandsOf.small k a0 A1 c1 l1 v w hr1 hc1 hv hn
  rw [if_neg hn] at h
  obtain ⟨g, hg, h⟩ := Option.bind_eq_some_iff.mp h
  obtain ⟨⟨sl, sb⟩, hs, h⟩ := Option.bind_eq_some_iff.mp h
  obtain ⟨⟨tl, tb⟩, ht, h⟩ := Option.bind_eq_some_iff.mp h
  obtain ⟨e1, h1, h⟩ := Option.bind_eq_some_iff.mp h
  obtain ⟨e2, h2, h⟩ := Option.bind_eq_some_iff.mp h
  obtain ⟨⟨m, gm⟩, hm, h⟩ := Option.bind_eq_some_iff.mp h
  obtain ⟨⟨n1, n2⟩, hk, h⟩ := Option.bind_eq_some_iff.mp h
  obtain ⟨q, hq, h⟩ := Option.bind_eq_some_iff.mp h
  split at h
  case isFalse => cases h
  case isTrue hc =>
    obtain rfl := Option.some.inj h
    obtain ⟨c1_, c2_, c3_, c4_, c5_, c6_⟩ := hc
    dsimp only at c3_ c4_ c5_ hs ht h1 h2 hm hk hq
    subst c1_ c2_ c3_ c5_
    exact laws_FnExactIslandsOf.long k a0 A1 c1 l1 v g sl tb tl m gm n2 q w hr1 hc1 hv hn hg hs ht h1 h2 hm c4_ hk hq c6_

end Go.Proofs.Ytiaajmnmbjheoaa.PFnExactIslandsOf
