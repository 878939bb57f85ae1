/- The program's DivTurn and the reference's answer alike at every two turns. No condition. -/
import Derived.Test.YthpnlldadpcmnaaPFnExactDivTurnx3
import Derived.Laws.BitsAllLaws
namespace Go.Proofs.Ythpnlldadpcmnaa.Pure
open Go.RowKit Go.Proofs.Ythpnlldadpcmnaa.PFnExactDivTurn Go.Proofs.YthpnlldadpcmnaaW.PrintWords Go.Proofs.YthpnlldadpcmnaaW.PrintLast Go.Proofs.YthpnlldadpcmnaaW.PrintMore
set_option linter.unusedVariables false
set_option linter.unusedSimpArgs false
/-- The one pure statement. -/
def laws_FnExactDivTurn_Pure : Prop := ∀ (a0_0 : Nat) (a0_1 : Nat) (a1_0 : Nat) (a1_1 : Nat), (Lit.float .f64 a0_0).wf = true → (Lit.float .f64 a0_1).wf = true → (Lit.float .f64 a1_0).wf = true → (Lit.float .f64 a1_1).wf = true → ∃ k, laws_FnExactDivTurn.f k a0_0 a0_1 a1_0 a1_1 = some true
/-! #### whole numbers: wraps, quotients towards nought -/
theorem wrap_small {i : Int} (h0 : -9223372036854775808 ≤ i) (h1 : i ≤ 9223372036854775807) : wrap64 i = i := by unfold wrap64; omega
theorem tdiv_pos {a b : Int} (ha : 0 ≤ a) : Int.tdiv a b = a / b := Int.tdiv_eq_ediv_of_nonneg ha
theorem tmod_pos {a b : Int} (ha : 0 ≤ a) : Int.tmod a b = a % b := Int.tmod_eq_emod_of_nonneg ha
theorem tdiv_neg' {a b : Int} (ha : a < 0) : Int.tdiv a b = -((-a) / b) := by
  rw [← Int.tdiv_eq_ediv_of_nonneg (a := -a) (by omega), Int.neg_tdiv, Int.neg_neg]
theorem tmod_neg' {a b : Int} (ha : a < 0) : Int.tmod a b = -((-a) % b) := by
  rw [← Int.tmod_eq_emod_of_nonneg (a := -a) (by omega), Int.neg_tmod, Int.neg_neg]
theorem wf64 {a : Int} (h : (Lit.int .i64 a).wf = true) : -9223372036854775808 ≤ a ∧ a ≤ 9223372036854775807 := by
  simp [Lit.wf, IntKind.min, IntKind.max, IntKind.signed, IntKind.bits] at h
  omega
theorem ev_succ {α : Type} {g : Nat → Option α} {r : α} (h : Ev (fun k => g (k + 1)) r) : Ev g r := Ev.step (f := fun k => g (k + 1)) (fun _ => rfl) h
theorem ev_eq {α : Type} {g : Nat → Option α} {r : α} (h : ∀ k, g k = some r) : Ev g r := ⟨0, fun k _ => h k⟩
theorem ev_val {α : Type} {g : Nat → Option α} {r r' : α} (h : Ev g r) (e : r = r') : Ev g r' := e ▸ h
/-! ### floats: what is finite, and which operations are valid -/
theorem good_alike (a : Nat) : impl_GoodReal.g a = spec_GoodReal.g a := by
  unfold impl_GoodReal.g spec_GoodReal.g impl_isFinite.g impl_isFinite_1.f
  simp only [List.any_cons, List.any_nil, Bool.or_false, bne]
  cases math_IsNaN.g a <;> cases math_IsInf.g a <;> cases (FloatKind.f64.format.order a 0 == some .eq) <;> cases math_Signbit.f a <;> rfl
theorem itself {x : Nat} (h : math_IsNaN.g x = false) : (FloatKind.f64.format.order x x == some .eq) = true := by
  unfold math_IsNaN.g at h
  rw [bne] at h
  cases hb : (FloatKind.f64.format.order x x == some .eq)
  · rw [hb] at h; cases h
  · rfl
theorem good_finite {x : Nat} (h : spec_GoodReal.g x = true) : spec_l2Finite.g x = true := by
  unfold spec_GoodReal.g at h
  unfold spec_l2Finite.g
  simp only [Bool.and_eq_true] at h ⊢
  exact ⟨h.1, h.2.1⟩
theorem finite_nan {x : Nat} (h : spec_l2Finite.g x = true) : math_IsNaN.g x = false := by
  unfold spec_l2Finite.g at h
  simp only [Bool.and_eq_true, Bool.not_eq_true'] at h
  exact h.1
theorem not_one (x : Nat) : impl_isFinite_1.f x = !spec_l2Finite.g x := by
  unfold impl_isFinite_1.f spec_l2Finite.g
  cases math_IsNaN.g x <;> cases math_IsInf.g x <;> rfl
theorem nan_read {x : Nat} {s : Bool} {u : Nat} (h : Ieee.double.read x = .nan s u) : math_IsNaN.g x = true := by
  unfold math_IsNaN.g
  show ((Ieee.double.read x).order (Ieee.double.read x) != some .eq) = true
  rw [h]; rfl
theorem abs_eq {x : Nat} (hx : x < 18446744073709551616) : math_Abs.f x = x % 9223372036854775808 := by
  unfold math_Abs.f
  have h := u64_andNot_nat x 9223372036854775808 hx (by decide)
  rw [show ((9223372036854775808 : Nat) : Int) = 9223372036854775808 from rfl] at h
  rw [h]
  have e : x &&& (18446744073709551615 - 9223372036854775808) = x % 2 ^ 63 := by
    rw [show 18446744073709551615 - 9223372036854775808 = 2 ^ 63 - 1 from rfl, Nat.and_two_pow_sub_one_eq_mod]
  rw [e]; rfl
theorem inf_read {x : Nat} (hx : x < 18446744073709551616) {s : Bool} (h : Ieee.double.read x = .infinity s) : math_IsInf.g x = true := by
  have e0 : Ieee.double.signWeight = 9223372036854775808 := by decide
  have e1 : Ieee.double.infRung = 9218868437227405312 := by decide
  have e2 : Ieee.double.binade = 4503599627370496 := by decide
  have hr : x % 9223372036854775808 = 9218868437227405312 := by
    unfold Ieee.Format.read at h
    simp only [e0, e1, e2] at h
    split at h
    · cases h
    · split at h
      · cases h
      · split at h
        · assumption
        · cases h
  unfold math_IsInf.g
  rw [abs_eq hx, hr]
  decide +kernel
theorem finite_read {x : Nat} (hx : x < 18446744073709551616) (h : spec_l2Finite.g x = true) : ∃ s m e, Ieee.double.read x = .number s m e := by
  unfold spec_l2Finite.g at h
  simp only [Bool.and_eq_true, Bool.not_eq_true'] at h
  cases hr : Ieee.double.read x with
  | nan s u => rw [nan_read hr] at h; cases h.1
  | infinity s => rw [inf_read hx hr] at h; cases h.2
  | number s m e => exact ⟨s, m, e, rfl⟩
theorem inf_not (s : Bool) : spec_l2Finite.g (Ieee.double.write (.infinity s)) = false := by
  have h : math_IsInf.g (Ieee.double.write (.infinity s)) = true := by
    refine inf_read (s := s) ?_ ?_
    · cases s <;> decide +kernel
    · cases s <;> decide +kernel
  unfold spec_l2Finite.g
  rw [h, Bool.not_true, Bool.and_false]
theorem add_some {x y : Nat} (hx : x < 18446744073709551616) (hy : y < 18446744073709551616) (fx : spec_l2Finite.g x = true) (fy : spec_l2Finite.g y = true) : ∃ r, floatBits .add .f64 x y = some r ∧ r < 18446744073709551616 := by
  obtain ⟨s, m, e, h1⟩ := finite_read hx fx
  obtain ⟨t, n, f, h2⟩ := finite_read hy fy
  have h : ∃ r, Ieee.double.add x y = some r := by
    unfold Ieee.Format.add
    rw [h1, h2]
    exact ⟨_, rfl⟩
  obtain ⟨r, h⟩ := h
  exact ⟨r, h, Ieee.Format.add_lt _ h⟩
theorem sub_some {x y : Nat} (hx : x < 18446744073709551616) (hy : y < 18446744073709551616) (fx : spec_l2Finite.g x = true) (fy : spec_l2Finite.g y = true) : ∃ r, floatBits .sub .f64 x y = some r ∧ r < 18446744073709551616 := by
  obtain ⟨s, m, e, h1⟩ := finite_read hx fx
  obtain ⟨t, n, f, h2⟩ := finite_read hy fy
  have h : ∃ r, Ieee.double.sub x y = some r := by
    unfold Ieee.Format.sub
    rw [h1, h2]
    exact ⟨_, rfl⟩
  obtain ⟨r, h⟩ := h
  exact ⟨r, h, Ieee.Format.sub_lt _ h⟩
theorem mul_some {x y : Nat} (hx : x < 18446744073709551616) (hy : y < 18446744073709551616) (fx : spec_l2Finite.g x = true) (fy : spec_l2Finite.g y = true) : ∃ r, floatBits .mul .f64 x y = some r ∧ r < 18446744073709551616 := by
  obtain ⟨s, m, e, h1⟩ := finite_read hx fx
  obtain ⟨t, n, f, h2⟩ := finite_read hy fy
  have h : ∃ r, Ieee.double.mul x y = some r := by
    unfold Ieee.Format.mul
    rw [h1, h2]
    exact ⟨_, rfl⟩
  obtain ⟨r, h⟩ := h
  exact ⟨r, h, Ieee.Format.mul_lt _ h⟩
theorem num_read {x : Nat} (hx : x < 18446744073709551616) {s : Bool} {m : Nat} {e : Int} (h : Ieee.double.read x = .number s m e) : spec_l2Finite.g x = true := by
  have e0 : Ieee.double.signWeight = 9223372036854775808 := by decide
  have e1 : Ieee.double.infRung = 9218868437227405312 := by decide
  have e2 : Ieee.double.binade = 4503599627370496 := by decide
  have e3 : Ieee.double.leastPlace = -1074 := by decide
  have hn : math_IsNaN.g x = false := by
    unfold math_IsNaN.g
    show ((Ieee.double.read x).order (Ieee.double.read x) != some .eq) = false
    rw [h]
    simp [Ieee.Datum.order, compare, compareOfLessAndEq]
  have hg : ∃ m' e', Ieee.double.read (x % 9223372036854775808) = .number false m' e' ∧ m' ≤ 9007199254740991 ∧ e' ≤ 971 := by
    unfold Ieee.Format.read at h ⊢
    simp only [e0, e1, e2, e3] at h ⊢
    have q1 : x % 9223372036854775808 % 9223372036854775808 = x % 9223372036854775808 := Nat.mod_mod _ _
    have q2 : (x % 9223372036854775808 / 9223372036854775808 % 2 == 1) = false := by
      have : x % 9223372036854775808 / 9223372036854775808 = 0 := Nat.div_eq_of_lt (Nat.mod_lt _ (by decide))
      rw [this]; rfl
    rw [q1, q2]
    generalize hgg : x % 9223372036854775808 = g at h
    by_cases c1 : g < 4503599627370496
    · rw [if_pos c1]
      exact ⟨g, -1074, rfl, by omega, by omega⟩
    · rw [if_neg c1] at h ⊢
      by_cases c2 : g < 9218868437227405312
      · rw [if_pos c2]
        refine ⟨_, _, rfl, by omega, by omega⟩
      · rw [if_neg c2] at h
        split at h <;> cases h
  have hi : math_IsInf.g x = false := by
    obtain ⟨m', e', h1, h2, h3⟩ := hg
    unfold math_IsInf.g
    rw [abs_eq hx]
    show ((Ieee.double.read (x % 9223372036854775808)).order (Ieee.double.read 9218868437227405311) == some .gt) = false
    have hM : Ieee.double.read 9218868437227405311 = .number false 9007199254740991 971 := by decide +kernel
    rw [h1, hM]
    have hb : min e' 971 = e' := Int.min_eq_left h3
    have h4 : Ieee.signed false m' (e' - min e' 971).toNat = (m' : Int) := by
      rw [hb, Int.sub_self]; simp [Ieee.signed]
    have h5 : (9007199254740991 : Int) ≤ Ieee.signed false 9007199254740991 (971 - min e' 971).toNat := by
      have h6 : 9007199254740991 ≤ 9007199254740991 <<< (971 - min e' 971).toNat := by
        rw [Nat.shiftLeft_eq]
        exact Nat.le_mul_of_pos_right _ (Nat.pow_pos (by decide))
      simp only [Ieee.signed, Bool.false_eq_true, if_false]
      exact Int.ofNat_le.mpr h6
    have h7 : (Ieee.signed false m' (e' - min e' 971).toNat) ≤ (Ieee.signed false 9007199254740991 (971 - min e' 971).toNat) := by
      rw [h4]; omega
    simp only [Ieee.Datum.order, beq_eq_false_iff_ne, ne_eq, Option.some.injEq]
    intro hc
    have := (Int.compare_eq_gt).mp hc
    omega
  unfold spec_l2Finite.g
  rw [hn, hi]; rfl
/-- If a sum of a finite float with another is finite, so is the other. -/
theorem add_other {x y r : Nat} (hx : x < 18446744073709551616) (hy : y < 18446744073709551616) (fx : spec_l2Finite.g x = true) (h : floatBits .add .f64 x y = some r) (fr : spec_l2Finite.g r = true) : spec_l2Finite.g y = true := by
  obtain ⟨s, m, e, h1⟩ := finite_read hx fx
  replace h : Ieee.double.add x y = some r := h
  unfold Ieee.Format.add at h
  rw [h1] at h
  cases h2 : Ieee.double.read y with
  | nan t u => rw [h2] at h; cases h
  | infinity t =>
    rw [h2] at h
    have : r = Ieee.double.write (.infinity t) := (Option.some.inj h).symm
    rw [this, inf_not] at fr
    cases fr
  | number t n f => exact num_read hy h2
theorem plain_itself {x : Nat} (h : spec_l2Finite.g x = true) : (FloatKind.f64.format.order (spec_l2Plain.g x) (spec_l2Plain.g x) == some .eq) = true := by
  unfold spec_l2Plain.g
  split
  · decide +kernel
  · exact itself (finite_nan h)
theorem plain_alike (x : Nat) : impl_plain.g x = spec_l2Plain.g x := rfl
/-- What is written of a number is no NaN. -/
theorem write_not_nan (s : Bool) (m : Nat) (e : Int) : ∀ u v, Ieee.double.read (Ieee.double.write (.number s m e)) ≠ .nan u v := by
  have key : ∀ (s : Bool) (g : Nat), g ≤ 9218868437227405312 → ∀ u v, Ieee.double.read (Ieee.double.word s g) ≠ .nan u v := by
    intro s g hg u v h
    have e0 : Ieee.double.signWeight = 9223372036854775808 := by decide
    have e1 : Ieee.double.infRung = 9218868437227405312 := by decide
    have e2 : Ieee.double.binade = 4503599627370496 := by decide
    have em : Ieee.double.word s g % 9223372036854775808 = g := by
      cases s
      · show g % 9223372036854775808 = g; omega
      · show (9223372036854775808 + g) % 9223372036854775808 = g; omega
    unfold Ieee.Format.read at h
    simp only [e0, e1, e2, em] at h
    split at h
    · cases h
    · split at h
      · cases h
      · split at h
        · cases h
        · omega
  intro u v
  show Ieee.double.read (Ieee.double.nearest s m e) ≠ .nan u v
  unfold Ieee.Format.nearest
  split
  · exact key s 0 (by decide) u v
  · exact key s _ (Nat.min_le_right _ _) u v
/-! ### floats on their way: numbers and infinities -/
theorem wf_lt {x : Nat} (h : (Lit.float .f64 x).wf = true) : x < 18446744073709551616 := by
  simpa [Lit.wf] using h
theorem inf_unfinite {x : Nat} {u : Bool} (hx : x < 18446744073709551616) (h : Ieee.double.read x = .infinity u) : spec_l2Finite.g x = false := by
  unfold spec_l2Finite.g
  rw [inf_read hx h, Bool.not_true, Bool.and_false]
def Way (s : Nat) : Prop := s < 18446744073709551616 ∧ (spec_l2Finite.g s = true ∨ ∃ u, Ieee.double.read s = .infinity u)
theorem way_of {r : Nat} (wr : r < 18446744073709551616) (hn : ∀ u v, Ieee.double.read r ≠ .nan u v) : Way r := by
  refine ⟨wr, ?_⟩
  cases h3 : Ieee.double.read r with
  | nan u v => exact absurd h3 (hn u v)
  | infinity u => exact Or.inr ⟨u, rfl⟩
  | number a b c => exact Or.inl (num_read wr h3)
theorem way_read {x : Nat} (h : Way x) : (∃ s m e, Ieee.double.read x = .number s m e) ∨ (spec_l2Finite.g x = false ∧ ∃ u, Ieee.double.read x = .infinity u) := by
  obtain ⟨wx, fx | ⟨u, hu⟩⟩ := h
  · exact Or.inl (finite_read wx fx)
  · exact Or.inr ⟨inf_unfinite wx hu, u, hu⟩
theorem mul_way {x y : Nat} (wx : x < 18446744073709551616) (wy : y < 18446744073709551616) (fx : spec_l2Finite.g x = true) (fy : spec_l2Finite.g y = true) : ∃ r, floatBits .mul .f64 x y = some r ∧ Way r := by
  obtain ⟨s, m, e, h1⟩ := finite_read wx fx
  obtain ⟨t, n, f, h2⟩ := finite_read wy fy
  obtain ⟨r, hr, wr⟩ := mul_some wx wy fx fy
  refine ⟨r, hr, way_of wr ?_⟩
  have h : Ieee.double.mul x y = some r := hr
  unfold Ieee.Format.mul at h
  rw [h1, h2] at h
  have e' := (Option.some.inj h).symm
  rw [e']
  exact write_not_nan _ _ _
theorem winf (u : Bool) : spec_l2Finite.g (Ieee.double.write (.infinity u)) = false := inf_not u
/-- A finite sum has finite parts. -/
theorem add_parts {x y r : Nat} (hx : Way x) (hy : Way y) (h : floatBits .add .f64 x y = some r) (fr : spec_l2Finite.g r = true) : spec_l2Finite.g x = true ∧ spec_l2Finite.g y = true := by
  have h' : Ieee.double.add x y = some r := h
  unfold Ieee.Format.add at h'
  rcases way_read hx with ⟨s, m, e, h1⟩ | ⟨_, u, h1⟩ <;> rcases way_read hy with ⟨t, n, f, h2⟩ | ⟨_, v, h2⟩ <;> rw [h1, h2] at h'
  · exact ⟨num_read hx.1 h1, num_read hy.1 h2⟩
  · have : r = Ieee.double.write (.infinity v) := (Option.some.inj h').symm
    rw [this, winf] at fr; cases fr
  · have : r = Ieee.double.write (.infinity u) := (Option.some.inj h').symm
    rw [this, winf] at fr; cases fr
  · by_cases c : u = v
    · subst c
      simp only [Ieee.Datum.sum, if_true, Option.map_some, Option.some.injEq] at h'
      rw [← h', winf] at fr; cases fr
    · simp only [Ieee.Datum.sum, if_neg c, Option.map_none] at h'
      cases h'
theorem sub_parts {x y r : Nat} (hx : Way x) (hy : Way y) (h : floatBits .sub .f64 x y = some r) (fr : spec_l2Finite.g r = true) : spec_l2Finite.g x = true ∧ spec_l2Finite.g y = true := by
  have h' : Ieee.double.sub x y = some r := h
  unfold Ieee.Format.sub at h'
  rcases way_read hx with ⟨s, m, e, h1⟩ | ⟨_, u, h1⟩ <;> rcases way_read hy with ⟨t, n, f, h2⟩ | ⟨_, v, h2⟩ <;> rw [h1, h2] at h'
  · exact ⟨num_read hx.1 h1, num_read hy.1 h2⟩
  · have : r = Ieee.double.write (.infinity (!v)) := (Option.some.inj h').symm
    rw [this, winf] at fr; cases fr
  · have : r = Ieee.double.write (.infinity u) := (Option.some.inj h').symm
    rw [this, winf] at fr; cases fr
  · by_cases c : u = !v
    · subst c
      simp only [Ieee.Datum.opposite, Ieee.Datum.sum, if_true, Option.map_some, Option.some.injEq] at h'
      rw [← h', winf] at fr; cases fr
    · simp only [Ieee.Datum.opposite, Ieee.Datum.sum, if_neg c, Option.map_none] at h'
      cases h'
theorem all_good (l : List Nat) : impl_areGood.g l = l.all spec_GoodReal.g := by
  unfold impl_areGood.g
  rw [List.not_any_eq_all_not]
  congr 1
  funext x
  unfold impl_areGood_1.f
  rw [good_alike, Bool.not_not]
theorem all_finite (l : List Nat) : impl_isFinite.g l = l.all spec_l2Finite.g := by
  unfold impl_isFinite.g
  rw [List.not_any_eq_all_not]
  congr 1
  funext x
  rw [not_one, Bool.not_not]
/-! ### turns -/
def goodT (a b : Nat) : Bool := spec_GoodReal.g a && spec_GoodReal.g b
def turnV (x y : Nat) : Nat × Nat × Bool := if (spec_l2Finite.g x && spec_l2Finite.g y) = true then (spec_l2Plain.g x, spec_l2Plain.g y, true) else (0, 0, false)
theorem spec_goodT (a b : Nat) : spec_l2Good.f a b = some (goodT a b) := by
  unfold spec_l2Good.f goodT spec_GoodReal.f
  simp only [Option.bind_some]
  cases spec_GoodReal.g a <;> rfl
theorem spec_tj (x y : Nat) (q : Bool) : Ev (fun k => spec_l2Turn.j0 k x y q) (if q = true then (0, 0, false) else (spec_l2Plain.g x, spec_l2Plain.g y, true)) := by
  refine ev_succ ?_
  cases q with
  | true => simp only [spec_l2Turn.j0, if_true]; exact Ev.now _
  | false => simp only [spec_l2Turn.j0, Bool.false_eq_true, if_false, spec_l2Plain.f, Option.bind_some]; exact Ev.now _
theorem spec_turn (x y : Nat) : Ev (fun k => spec_l2Turn.f k x y) (turnV x y) := by
  unfold spec_l2Turn.f spec_l2Finite.f turnV
  simp only [Option.bind_some]
  cases hx : spec_l2Finite.g x with
  | false =>
    simp only [Bool.false_eq_true, if_false, Bool.false_and]
    have h := spec_tj x y true
    simp only [if_true] at h
    exact h
  | true =>
    have h := spec_tj x y (!spec_l2Finite.g y)
    cases hy : spec_l2Finite.g y with
    | false => rw [hy] at h; simp only [Bool.not_false, if_true, Bool.and_false, Bool.false_eq_true, if_false] at h ⊢; exact h
    | true => rw [hy] at h; simp only [Bool.not_true, if_true, Bool.and_true, Bool.false_eq_true, if_false] at h ⊢; exact h
theorem impl_tj (x y : Nat) (q : Bool) : Ev (fun k => impl_turn.j0 k x y q) (if q = true then (0, 0, false) else (spec_l2Plain.g x, spec_l2Plain.g y, true)) := by
  refine ev_succ ?_
  cases q with
  | true => simp only [impl_turn.j0, if_true]; exact Ev.now _
  | false => simp only [impl_turn.j0, Bool.false_eq_true, if_false, impl_plain.f, plain_alike, Option.bind_some]; exact Ev.now _
theorem impl_turn_ (x y : Nat) (l : List Nat) (V : Nat × Nat × Bool) (hV : V = if (spec_l2Finite.g x && (spec_l2Finite.g y && l.all spec_l2Finite.g)) = true then (spec_l2Plain.g x, spec_l2Plain.g y, true) else (0, 0, false)) : Ev (fun k => impl_turn.f k x y l) V := by
  subst hV
  unfold impl_turn.f impl_isFinite.f
  simp only [Option.bind_some, all_finite, List.all_cons, List.all_nil, Bool.and_true]
  have ht := impl_tj x y true
  have hl := impl_tj x y (!l.all spec_l2Finite.g)
  simp only [if_true] at ht
  cases hx : spec_l2Finite.g x with
  | false => simp only [Bool.false_eq_true, if_false, Bool.false_and]; exact ht
  | true =>
    cases hy : spec_l2Finite.g y with
    | false => simp only [Bool.false_eq_true, if_false, Bool.false_and, Bool.and_false]; exact ht
    | true =>
      cases hq : l.all spec_l2Finite.g with
      | false => rw [hq] at hl; simp only [Bool.not_false, if_true, Bool.and_false, Bool.and_true, Bool.false_eq_true, if_false] at hl ⊢; exact hl
      | true => rw [hq] at hl; simp only [Bool.not_true, if_true, Bool.and_true, Bool.false_eq_true, if_false] at hl ⊢; exact hl
theorem impl_turns (a b c d : Nat) : impl_areTurns.f [(⟨a, b⟩ : S25), (⟨c, d⟩ : S25)] = some (goodT a b && goodT c d) := by
  unfold impl_areTurns.f impl_Turn.f
  have h : anyO impl_Turn.on [(⟨a, b⟩ : S25), (⟨c, d⟩ : S25)] = some ([(⟨a, b⟩ : S25), (⟨c, d⟩ : S25)].any fun x => !(goodT x.f0 x.f1)) := anyO_some _ (fun x _ => by
    unfold impl_Turn.on impl_areTurns_1.f impl_areGood.f goodT
    simp only [Option.bind_some, all_good, List.all_cons, List.all_nil, Bool.and_true])
  rw [h]
  simp only [Option.bind_some, List.any_cons, List.any_nil, Bool.or_false, Bool.not_or, Bool.not_not]
theorem goodT_iff {a b : Nat} (h : goodT a b = true) : spec_GoodReal.g a = true ∧ spec_GoodReal.g b = true := by
  unfold goodT at h
  exact Bool.and_eq_true_iff.1 h
theorem sbad : Ev (fun k => spec_l2Turn.j0 k 0 0 true) (0, 0, false) := by
  have h := spec_tj 0 0 true
  simp only [if_true] at h
  exact h
theorem ibad : Ev (fun k => impl_turn.j0 k 0 0 true) (0, 0, false) := by
  have h := impl_tj 0 0 true
  simp only [if_true] at h
  exact h
/-- A square has no sign. -/
theorem write_pos (m : Nat) (e : Int) (u : Bool) (h : Ieee.double.read (Ieee.double.write (.number false m e)) = .infinity u) : u = false := by
  have key : ∀ g : Nat, g ≤ 9218868437227405312 → Ieee.double.read (Ieee.double.word false g) = .infinity u → u = false := by
    intro g hg h
    have e0 : Ieee.double.signWeight = 9223372036854775808 := by decide
    have e1 : Ieee.double.infRung = 9218868437227405312 := by decide
    have e2 : Ieee.double.binade = 4503599627370496 := by decide
    have em : Ieee.double.word false g = g := rfl
    have eq1 : g % 9223372036854775808 = g := by omega
    have eq2 : g / 9223372036854775808 = 0 := by omega
    rw [em] at h
    unfold Ieee.Format.read at h
    simp only [e0, e1, e2, eq1, eq2] at h
    split at h
    · cases h
    · split at h
      · cases h
      · split at h
        · cases h; rfl
        · cases h
  have h' : Ieee.double.read (Ieee.double.nearest false m e) = .infinity u := h
  unfold Ieee.Format.nearest at h'
  split at h'
  · exact key 0 (by decide) h'
  · exact key _ (Nat.min_le_right _ _) h'
theorem mul_sq {x : Nat} (wx : x < 18446744073709551616) (fx : spec_l2Finite.g x = true) : ∃ r, floatBits .mul .f64 x x = some r ∧ Way r ∧ ∀ u, Ieee.double.read r = .infinity u → u = false := by
  obtain ⟨r, hr, wr⟩ := mul_way wx wx fx fx
  refine ⟨r, hr, wr, fun u hu => ?_⟩
  obtain ⟨s, m, e, h1⟩ := finite_read wx fx
  have h : Ieee.double.mul x x = some r := hr
  unfold Ieee.Format.mul at h
  rw [h1] at h
  have e' : r = Ieee.double.write (.number (s ^^ s) (m * m) (e + e)) := (Option.some.inj h).symm
  rw [Bool.xor_self] at e'
  rw [e'] at hu
  exact write_pos _ _ u hu
theorem add_pos {x y : Nat} (hx : Way x) (hy : Way y) (px : ∀ u, Ieee.double.read x = .infinity u → u = false) (py : ∀ u, Ieee.double.read y = .infinity u → u = false) : ∃ r, floatBits .add .f64 x y = some r ∧ Way r := by
  have wi : Way (Ieee.double.write (.infinity false)) := ⟨by decide +kernel, Or.inr ⟨false, by decide +kernel⟩⟩
  rcases way_read hx with ⟨s, m, e, h1⟩ | ⟨_, u, h1⟩
  · rcases way_read hy with ⟨t, n, f, h2⟩ | ⟨_, v, h2⟩
    · obtain ⟨r, hr, wr⟩ := add_some hx.1 hy.1 (num_read hx.1 h1) (num_read hy.1 h2)
      refine ⟨r, hr, way_of wr ?_⟩
      have h : Ieee.double.add x y = some r := hr
      unfold Ieee.Format.add at h
      rw [h1, h2] at h
      have e' := (Option.some.inj h).symm
      rw [e']
      exact write_not_nan _ _ _
    · have := py v h2
      subst this
      refine ⟨_, ?_, wi⟩
      show Ieee.double.add x y = some _
      unfold Ieee.Format.add
      rw [h1, h2]; rfl
  · have := px u h1
    subst this
    rcases way_read hy with ⟨t, n, f, h2⟩ | ⟨_, v, h2⟩
    · refine ⟨_, ?_, wi⟩
      show Ieee.double.add x y = some _
      unfold Ieee.Format.add
      rw [h1, h2]; rfl
    · have := py v h2
      subst this
      refine ⟨_, ?_, wi⟩
      show Ieee.double.add x y = some _
      unfold Ieee.Format.add
      rw [h1, h2]; rfl
theorem quo_some {x d : Nat} (wx : x < 18446744073709551616) (wd : d < 18446744073709551616) (fx : spec_l2Finite.g x = true) (fd : spec_l2Finite.g d = true) (hz : (FloatKind.f64.format.order d 0 == some .eq) = false) : ∃ u, floatBits .quo .f64 x d = some u := by
  obtain ⟨s, m, e, h1⟩ := finite_read wx fx
  obtain ⟨t, n, f, h2⟩ := finite_read wd fd
  have hn : n ≠ 0 := by
    rintro rfl
    have h0 : Ieee.double.read 0 = .number false 0 (-1074) := by decide +kernel
    have hq : FloatKind.f64.format.order d 0 = some .eq := by
      show (Ieee.double.read d).order (Ieee.double.read 0) = some .eq
      rw [h2, h0]
      cases t <;> simp [Ieee.Datum.order, Ieee.signed, compare, compareOfLessAndEq]
    rw [hq] at hz
    exact absurd hz (by decide)
  show ∃ u, Ieee.Format.div Ieee.double x d = some u
  unfold Ieee.Format.div
  rw [h1, h2]
  unfold Ieee.Datum.quotient
  simp [hn]
theorem spec_j0b (a b c d : Nat) : Ev (fun k => spec_DivTurn.j0 k true a b c d) (0, 0, false) := by
  refine ev_succ ?_
  simp only [spec_DivTurn.j0, if_true]
  exact Ev.now _
theorem spec_j1b (z a b c d : Nat) : Ev (fun k => spec_DivTurn.j1 k z true a b c d) (0, 0, false) := by
  refine ev_succ ?_
  simp only [spec_DivTurn.j1, if_true]
  exact Ev.now _
theorem impl_lost (x y : Nat) (l : List Nat) (h : l.all spec_l2Finite.g = false) : Ev (fun k => impl_turn.f k x y l) (0, 0, false) :=
  impl_turn_ x y l _ (by rw [h, Bool.and_false, Bool.and_false]; rfl)
theorem div_turns (a b c d : Nat) (wa : a < 18446744073709551616) (wb : b < 18446744073709551616) (wc : c < 18446744073709551616) (wd : d < 18446744073709551616) :
    ∃ V, Ev (fun k => spec_DivTurn.f k a b c d) V ∧ Ev (fun k => impl_DivTurn.f k a b c d) V := by
  unfold spec_DivTurn.f impl_DivTurn.f
  simp only [spec_goodT, impl_turns, Option.bind_some]
  cases h1 : goodT a b with
  | false => simp only [Bool.false_eq_true, if_false, Bool.false_and]; exact ⟨_, spec_j0b a b c d, Ev.now _⟩
  | true =>
    cases h2 : goodT c d with
    | false => simp only [Bool.false_eq_true, if_false, Bool.and_false, if_true, Bool.not_false]; exact ⟨_, spec_j0b a b c d, Ev.now _⟩
    | true =>
      obtain ⟨ga, gb⟩ := goodT_iff h1
      obtain ⟨gc, gd⟩ := goodT_iff h2
      obtain ⟨e, he, we, pe⟩ := mul_sq wc (good_finite gc)
      obtain ⟨f, hf, wf, pf⟩ := mul_sq wd (good_finite gd)
      obtain ⟨z, hz, wz⟩ := add_pos we wf pe pf
      obtain ⟨p, hp, wp⟩ := mul_way wa wc (good_finite ga) (good_finite gc)
      obtain ⟨q, hq, wq⟩ := mul_way wb wd (good_finite gb) (good_finite gd)
      obtain ⟨r, hr, wr⟩ := mul_way wb wc (good_finite gb) (good_finite gc)
      obtain ⟨s, hs, ws⟩ := mul_way wa wd (good_finite ga) (good_finite gd)
      simp only [Bool.and_self, if_true, Bool.not_true, impl_mul.f, he, hf, hz, hp, hq, hr, hs, Option.bind_some]
      cases h0 : (FloatKind.f64.format.order z 0 == some .eq) with
      | true =>
        refine ⟨(0, 0, false), ev_succ ?_, ?_⟩
        · simp only [spec_DivTurn.j0, Bool.false_eq_true, if_false, he, hf, hz, Option.bind_some, h0, if_true]
          exact spec_j1b z a b c d
        · simp only [if_true]
          exact Ev.now _
      | false =>
        have hs0 : ∀ V, Ev (fun k => spec_DivTurn.j1 k z (!spec_l2Finite.g z) a b c d) V → Ev (fun k => spec_DivTurn.j0 k false a b c d) V := by
          intro V hV
          refine ev_succ ?_
          simp only [spec_DivTurn.j0, Bool.false_eq_true, if_false, he, hf, hz, Option.bind_some, h0, spec_l2Finite.f]
          exact hV
        simp only [Bool.false_eq_true, if_false]
        cases fz : spec_l2Finite.g z with
        | false =>
          rw [fz] at hs0
          refine ⟨(0, 0, false), hs0 _ (spec_j1b z a b c d), ?_⟩
          cases hx : floatBits .add .f64 p q with
          | none => simp only [bindN]; exact ibad
          | some x =>
            cases hu : floatBits .quo .f64 x z with
            | none => simp only [bindN, hu]; exact ibad
            | some u =>
              cases hy : floatBits .sub .f64 r s with
              | none => simp only [bindN, hu]; exact ibad
              | some y =>
                cases hv : floatBits .quo .f64 y z with
                | none => simp only [bindN, hu, hv]; exact ibad
                | some v =>
                  simp only [bindN, hu, hv]
                  exact Ev.bind (impl_lost u v _ (by rw [List.all_cons, fz, Bool.false_and])) (Ev.now _)
        | true =>
          rw [fz] at hs0
          have hs1 : ∀ V, Ev (fun k => bindN (floatBits .add .f64 p q) (some (0, 0, false)) fun x => bindN (floatBits .sub .f64 r s) (some (0, 0, false)) fun y => (spec_l2Finite.f x).bind fun t => if t = true then ((spec_l2Finite.f y).bind fun t' => if t' = true then ((floatBits .quo .f64 x z).bind fun u => (floatBits .quo .f64 y z).bind fun v => (spec_l2Turn.f k u v).bind fun b => some (b.1, b.2.1, b.2.2)) else some (0, 0, false)) else some (0, 0, false)) V → Ev (fun k => spec_DivTurn.j0 k false a b c d) V := by
            intro V hV
            refine hs0 V (ev_succ ?_)
            simp only [spec_DivTurn.j1, Bool.not_true, Bool.false_eq_true, if_false, hp, hq, hr, hs, Option.bind_some]
            exact hV
          cases hx : floatBits .add .f64 p q with
          | none =>
            refine ⟨(0, 0, false), hs1 _ ?_, ?_⟩
            · simp only [hx, bindN]; exact Ev.now _
            · simp only [bindN]; exact ibad
          | some x =>
            cases hy : floatBits .sub .f64 r s with
            | none =>
              refine ⟨(0, 0, false), hs1 _ ?_, ?_⟩
              · simp only [hx, hy, bindN]; exact Ev.now _
              · cases hu : floatBits .quo .f64 x z with
                | none => simp only [bindN, hu]; exact ibad
                | some u => simp only [bindN, hu]; exact ibad
            | some y =>
              have bad : (spec_l2Finite.g x && spec_l2Finite.g y) = false → Ev (fun k => bindN (some x) (impl_turn.j0 k 0 0 true) fun t167 => bindN (floatBits .quo .f64 t167 z) (impl_turn.j0 k 0 0 true) fun t168 => bindN (some y) (impl_turn.j0 k 0 0 true) fun t169 => bindN (floatBits .quo .f64 t169 z) (impl_turn.j0 k 0 0 true) fun t170 => (impl_turn.f k t168 t170 [z, p, q, r, s, t167, t169]).bind fun b => some (b.1, b.2.1, b.2.2)) (0, 0, false) := by
                intro hb
                cases hu : floatBits .quo .f64 x z with
                | none => simp only [bindN, hu]; exact ibad
                | some u =>
                  cases hv : floatBits .quo .f64 y z with
                  | none => simp only [bindN, hu, hv]; exact ibad
                  | some v =>
                    simp only [bindN, hu, hv]
                    refine Ev.bind (impl_lost u v _ ?_) (Ev.now _)
                    simp only [List.all_cons, List.all_nil, Bool.and_true]
                    rw [hb]
                    simp only [Bool.and_false]
              cases fx : spec_l2Finite.g x with
              | false =>
                refine ⟨(0, 0, false), hs1 _ ?_, bad (by rw [fx]; rfl)⟩
                simp only [hx, hy, bindN, spec_l2Finite.f, fx, Option.bind_some, Bool.false_eq_true, if_false]
                exact Ev.now _
              | true =>
                cases fy : spec_l2Finite.g y with
                | false =>
                  refine ⟨(0, 0, false), hs1 _ ?_, bad (by rw [fy, Bool.and_false])⟩
                  simp only [hx, hy, bindN, spec_l2Finite.f, fx, fy, Option.bind_some, Bool.false_eq_true, if_false, if_true]
                  exact Ev.now _
                | true =>
                  have wx : x < 18446744073709551616 := Ieee.Format.add_lt _ hx
                  have wy : y < 18446744073709551616 := Ieee.Format.sub_lt _ hy
                  obtain ⟨u, hu⟩ := quo_some wx wz.1 fx fz h0
                  obtain ⟨v, hv⟩ := quo_some wy wz.1 fy fz h0
                  refine ⟨turnV u v, hs1 _ ?_, ?_⟩
                  · simp only [hx, hy, bindN, spec_l2Finite.f, fx, fy, Option.bind_some, if_true, hu, hv]
                    exact Ev.bind (spec_turn u v) (Ev.now _)
                  · simp only [bindN, hu, hv]
                    refine Ev.bind (impl_turn_ u v _ (turnV u v) ?_) (Ev.now _)
                    obtain ⟨fp, fq⟩ := add_parts wp wq hx fx
                    obtain ⟨fr, fs⟩ := sub_parts wr ws hy fy
                    unfold turnV
                    simp only [List.all_cons, List.all_nil, fz, fp, fq, fr, fs, fx, fy, Bool.and_true]
theorem FnExactDivTurn : laws_FnExactDivTurn_Pure := by
  intro a b c d wa wb wc wd
  apply Ev.rounds (r := true)
  unfold laws_FnExactDivTurn.f
  simp only [laws_toTurn.f, Option.bind_some]
  obtain ⟨V, h1, h2⟩ := div_turns a b c d (wf_lt wa) (wf_lt wb) (wf_lt wc) (wf_lt wd)
  refine Ev.bind h1 (Ev.bind h2 ?_)
  simp only [laws_eqTurn.f, laws_sameFloat.f, if_true, Option.bind_some, bne_self_eq_false, Bool.false_eq_true, if_false]
  exact Ev.now true
end Go.Proofs.Ythpnlldadpcmnaa.Pure
