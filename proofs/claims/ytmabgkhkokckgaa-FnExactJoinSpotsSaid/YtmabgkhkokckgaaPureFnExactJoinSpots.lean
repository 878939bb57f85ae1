/- The program's JoinSpots and the reference's answer alike at every two spots. No condition. -/
import Derived.Test.YtmabgkhkokckgaaPFnExactJoinSpotsx3
namespace Go.Proofs.Ytmabgkhkokckgaa.Pure
open Go.RowKit Go.Proofs.Ytmabgkhkokckgaa.PFnExactJoinSpots Go.Proofs.YtmabgkhkokckgaaW.PrintWords Go.Proofs.YtmabgkhkokckgaaW.PrintLast Go.Proofs.YtmabgkhkokckgaaW.PrintMore
set_option linter.unusedVariables false
set_option linter.unusedSimpArgs false
/-- The one pure statement. -/
def laws_FnExactJoinSpots_Pure : Prop := ∀ (a0_0 : Int) (a0_1 : Int) (a0_2 : Int) (a0_3 : Bool) (a1_0 : Int) (a1_1 : Int) (a1_2 : Int) (a1_3 : Bool), (Lit.int .i64 a0_0).wf = true → (Lit.int .i64 a0_1).wf = true → (Lit.int .i64 a0_2).wf = true → (Lit.int .i64 a1_0).wf = true → (Lit.int .i64 a1_1).wf = true → (Lit.int .i64 a1_2).wf = true → ∃ k, laws_FnExactJoinSpots.f k a0_0 a0_1 a0_2 a0_3 a1_0 a1_1 a1_2 a1_3 = some true
/-! #### whole numbers: wraps, quotients towards nought -/
theorem wrap_small {i : Int} (h0 : -9223372036854775808 ≤ i) (h1 : i ≤ 9223372036854775807) : wrap64 i = i := by unfold wrap64; omega
theorem tdiv_pos {a b : Int} (ha : 0 ≤ a) : Int.tdiv a b = a / b := Int.tdiv_eq_ediv_of_nonneg ha
theorem tmod_pos {a b : Int} (ha : 0 ≤ a) : Int.tmod a b = a % b := Int.tmod_eq_emod_of_nonneg ha
theorem tdiv_neg' {a b : Int} (ha : a < 0) : Int.tdiv a b = -((-a) / b) := by
  rw [← Int.tdiv_eq_ediv_of_nonneg (a := -a) (by omega), Int.neg_tdiv, Int.neg_neg]
theorem tmod_neg' {a b : Int} (ha : a < 0) : Int.tmod a b = -((-a) % b) := by
  rw [← Int.tmod_eq_emod_of_nonneg (a := -a) (by omega), Int.neg_tmod, Int.neg_neg]
theorem wf64 {a : Int} (h : (Lit.int .i64 a).wf = true) : -9223372036854775808 ≤ a ∧ a ≤ 9223372036854775807 := by
  simp [Lit.wf, IntKind.min, IntKind.max, IntKind.signed, IntKind.bits] at h
  omega
theorem ev_succ {α : Type} {g : Nat → Option α} {r : α} (h : Ev (fun k => g (k + 1)) r) : Ev g r := Ev.step (f := fun k => g (k + 1)) (fun _ => rfl) h
theorem ev_eq {α : Type} {g : Nat → Option α} {r : α} (h : ∀ k, g k = some r) : Ev g r := ⟨0, fun k _ => h k⟩
theorem ev_val {α : Type} {g : Nat → Option α} {r r' : α} (h : Ev g r) (e : r = r') : Ev g r' := e ▸ h
/-! #### is a number in a span -/
def inB (a b c : Int) : Bool := decide (b ≤ a ∧ a ≤ c)
theorem inB_iff {a b c : Int} : inB a b c = true ↔ b ≤ a ∧ a ≤ c := by unfold inB; rw [decide_eq_true_eq]
theorem spec_in (a b c : Int) : spec_l1In.f a b c = some (inB a b c) := by
  unfold spec_l1In.f inB
  by_cases h : a ≥ b
  · rw [if_pos h]; congr 1; rw [decide_eq_decide]; omega
  · rw [if_neg h]; congr 1; exact (decide_eq_false (by omega)).symm
theorem impl_in (a b c : Int) : impl_inRange.f a b c = some (inB a b c) := by
  unfold impl_inRange.f inB
  by_cases h : b ≤ a
  · rw [if_pos h]; congr 1; rw [decide_eq_decide]; omega
  · rw [if_neg h]; congr 1; exact (decide_eq_false (by omega)).symm
/-! #### spots: good ones; turns -/
def spotB (x y t : Int) : Bool := inB x (-1000000) 1000000 && (inB y (-1000000) 1000000 && inB t 0 3)
theorem spec_spot (x y t : Int) (f : Bool) : spec_l4Good.f x y t f = some (spotB x y t) := by
  unfold spec_l4Good.f spotB
  simp only [spec_in, Option.bind_some]
  cases inB x (-1000000) 1000000 <;> cases inB y (-1000000) 1000000 <;> simp
theorem impl_spot (x y t : Int) (f : Bool) : impl_isSpot.f x y t f = some (spotB x y t) := by
  unfold impl_isSpot.f spotB
  simp only [impl_in, Option.bind_some]
  cases inB x (-1000000) 1000000 <;> cases inB y (-1000000) 1000000 <;> simp
/-- d quarter turns. -/
def rotD : Nat → Int → Int → Int × Int
  | 0, x, y => (x, y)
  | d + 1, x, y => rotD d (wrap64 (-y)) x
theorem spec_rot (t : Int) (ht : t ≤ 9223372036854775807) (a b : Int) (f : Bool) (d : Nat) : ∀ i x y : Int, 0 ≤ i → (t - i).toNat = d → Ev (fun k => spec_l4Apply.l0 k x y i a b t f) (rotD d x y) := by
  induction d with
  | zero =>
    intro i x y h0 hd
    exact Ev.step (fun k => by simp only [spec_l4Apply.l0]; rw [if_neg (by omega)]; rfl) (Ev.now _)
  | succ d ih =>
    intro i x y h0 hd
    exact Ev.step (fun k => by simp only [spec_l4Apply.l0]; rw [if_pos (by omega), wrap_small (i := i + 1) (by omega) (by omega)]) (ih (i + 1) _ _ (by omega) (by omega))
theorem impl_rot (t : Int) (ht : t ≤ 9223372036854775807) (d : Nat) : ∀ i x y : Int, 0 ≤ i → (t - i).toNat = d → Ev (fun k => impl_Spot_turned.l0 k x y t i) (rotD d x y) := by
  induction d with
  | zero =>
    intro i x y h0 hd
    exact Ev.step (fun k => by simp only [impl_Spot_turned.l0]; rw [if_neg (by omega)]; rfl) (Ev.now _)
  | succ d ih =>
    intro i x y h0 hd
    exact Ev.step (fun k => by simp only [impl_Spot_turned.l0]; rw [if_pos (by omega), wrap_small (i := i + 1) (by omega) (by omega)]) (ih (i + 1) _ _ (by omega) (by omega))
/-- What a spot makes of a place. -/
def turnV (t : Int) (f : Bool) (x y : Int) : Int × Int := rotD t.toNat (if f = true then wrap64 (-x) else x) y
theorem spec_turn (a b t : Int) (f : Bool) (x y : Int) (ht : t ≤ 9223372036854775807) : Ev (fun k => spec_l4Apply.f k a b t f x y) (turnV t f x y) := by
  unfold spec_l4Apply.f turnV
  cases f with
  | true => exact Ev.step (fun k => by simp only [if_true, spec_l4Apply.j0]) (spec_rot t ht a b true t.toNat 0 _ _ (by omega) (by omega))
  | false => exact Ev.step (fun k => by simp only [Bool.false_eq_true, if_false, spec_l4Apply.j0]) (spec_rot t ht a b false t.toNat 0 _ _ (by omega) (by omega))
theorem impl_turn (a b t : Int) (f : Bool) (x y : Int) (ht : t ≤ 9223372036854775807) : Ev (fun k => impl_Spot_turned.f k a b t f x y) (turnV t f x y) := by
  unfold impl_Spot_turned.f turnV
  cases f with
  | true => exact Ev.step (fun k => by simp only [if_true, impl_Spot_turned.j0]) (impl_rot t ht t.toNat 0 _ _ (by omega) (by omega))
  | false => exact Ev.step (fun k => by simp only [Bool.false_eq_true, if_false, impl_Spot_turned.j0]) (impl_rot t ht t.toNat 0 _ _ (by omega) (by omega))
theorem eq_spot (x y t : Int) (f : Bool) : laws_eqSpot.f x y t f x y t f = some true := by
  unfold laws_eqSpot.f
  simp
/-! #### joins of spots -/
def joinT (t u : Int) (f : Bool) : Int := if f = true then Int.tmod (wrap64 (wrap64 (4 - u) + t)) 4 else Int.tmod (wrap64 (u + t)) 4
/-- The join of two spots, good or not. -/
def joinV (x y t : Int) (f : Bool) (a b u : Int) (g : Bool) : Int × Int × Int × Bool := (wrap64 ((turnV t f a b).1 + x), wrap64 ((turnV t f a b).2 + y), joinT t u f, (f != g))
def goodV (s : Int × Int × Int × Bool) : Int × Int × Int × Bool × Bool := if spotB s.1 s.2.1 s.2.2.1 = true then (s.1, s.2.1, s.2.2.1, s.2.2.2, true) else (0, 0, 0, false, false)
def joinG (x y t : Int) (f : Bool) (a b u : Int) (g : Bool) : Int × Int × Int × Bool × Bool := if (spotB x y t && spotB a b u) = true then goodV (joinV x y t f a b u g) else (0, 0, 0, false, false)
theorem spec_join (x y t : Int) (f : Bool) (a b u : Int) (g : Bool) (ht : t ≤ 9223372036854775807) : Ev (fun k => spec_l4Join.f k x y t f a b u g) (joinV x y t f a b u g) := by
  unfold spec_l4Join.f joinV joinT
  refine Ev.bind (spec_turn x y t f a b ht) ?_
  cases f with
  | true => simp only [if_true]; exact Ev.now _
  | false => simp only [Bool.false_eq_true, if_false]; exact Ev.now _
theorem spec_joins (x y t : Int) (f : Bool) (a b u : Int) (g : Bool) (ht : t ≤ 9223372036854775807) : Ev (fun k => spec_JoinSpots.f k x y t f a b u g) (joinG x y t f a b u g) := by
  unfold spec_JoinSpots.f joinG
  simp only [spec_spot, Option.bind_some]
  cases spotB x y t with
  | false => simp only [Bool.false_eq_true, if_false, Bool.false_and]; exact Ev.step (fun k => by simp only [spec_JoinSpots.j0, if_true]) (Ev.now _)
  | true =>
    simp only [if_true, Bool.true_and]
    cases spotB a b u with
    | false => simp only [Bool.false_eq_true, if_false, Bool.not_false]; exact Ev.step (fun k => by simp only [spec_JoinSpots.j0, if_true]) (Ev.now _)
    | true =>
      simp only [if_true, Bool.not_true]
      refine ev_succ ?_
      simp only [spec_JoinSpots.j0, Bool.false_eq_true, if_false]
      refine Ev.bind (spec_join x y t f a b u g ht) ?_
      unfold goodV
      generalize joinV x y t f a b u g = s
      simp only [spec_spot, Option.bind_some]
      split <;> exact Ev.now _
theorem impl_joins (x y t : Int) (f : Bool) (a b u : Int) (g : Bool) (ht : t ≤ 9223372036854775807) : Ev (fun k => impl_JoinSpots.f k x y t f a b u g) (joinG x y t f a b u g) := by
  unfold impl_JoinSpots.f joinG
  simp only [impl_spot, Option.bind_some]
  cases spotB x y t with
  | false => simp only [Bool.false_eq_true, if_false, Bool.false_and]; exact Ev.step (fun k => by simp only [impl_JoinSpots.j0, if_true]) (Ev.now _)
  | true =>
    simp only [if_true, Bool.true_and]
    cases spotB a b u with
    | false => simp only [Bool.false_eq_true, if_false, Bool.not_false]; exact Ev.step (fun k => by simp only [impl_JoinSpots.j0, if_true]) (Ev.now _)
    | true =>
      simp only [if_true, Bool.not_true]
      refine ev_succ ?_
      simp only [impl_JoinSpots.j0, Bool.false_eq_true, if_false]
      refine Ev.bind (impl_turn x y t f a b ht) ?_
      unfold goodV joinV joinT
      generalize turnV t f a b = s
      rw [Int.add_comm s.1 x, Int.add_comm s.2 y, Int.add_comm (wrap64 (4 - u)) t, Int.add_comm u t]
      cases f with
      | true => simp only [if_true, impl_spot, Option.bind_some]; split <;> exact Ev.now _
      | false => simp only [Bool.false_eq_true, if_false, impl_spot, Option.bind_some]; split <;> exact Ev.now _
theorem FnExactJoinSpots : laws_FnExactJoinSpots_Pure := by
  intro x y t f a b u g hx hy ht ha hb hu
  apply Ev.rounds (r := true)
  have bt := wf64 ht
  unfold laws_FnExactJoinSpots.f laws_toSpot.f
  simp only [Option.bind_some]
  refine Ev.bind (spec_joins x y t f a b u g bt.2) (Ev.bind (impl_joins x y t f a b u g bt.2) ?_)
  simp only [eq_spot, Option.bind_some, if_true, bne_self_eq_false, Bool.false_eq_true, if_false]
  exact Ev.now true
end Go.Proofs.Ytmabgkhkokckgaa.Pure
