/- The program's MeanOfPresent and the reference's answer alike at every list of floats. No condition. -/
import Derived.Test.YthpnlldadpcmnaaPFnExactMeanOfPresentx3
import Derived.Laws.BitsAllLaws
namespace Go.Proofs.Ythpnlldadpcmnaa.Pure
open Go.RowKit Go.Proofs.Ythpnlldadpcmnaa.PFnExactMeanOfPresent Go.Proofs.YthpnlldadpcmnaaW.PrintWords Go.Proofs.YthpnlldadpcmnaaW.PrintLast Go.Proofs.YthpnlldadpcmnaaW.PrintMore
set_option linter.unusedVariables false
set_option linter.unusedSimpArgs false
/-- The one pure statement. -/
def laws_FnExactMeanOfPresent_Pure : Prop := ∀ (l0 : (List Nat)), (List.length l0 ≤ maxLen ∧ List.length l0 * 8 ≤ 140737488351232 ∧ ∀ y ∈ l0, (Lit.float .f64 y).wf = true) → ∃ k, laws_FnExactMeanOfPresent.f k l0 = some true
/-! #### whole numbers: wraps, quotients towards nought -/
theorem wrap_small {i : Int} (h0 : -9223372036854775808 ≤ i) (h1 : i ≤ 9223372036854775807) : wrap64 i = i := by unfold wrap64; omega
theorem tdiv_pos {a b : Int} (ha : 0 ≤ a) : Int.tdiv a b = a / b := Int.tdiv_eq_ediv_of_nonneg ha
theorem tmod_pos {a b : Int} (ha : 0 ≤ a) : Int.tmod a b = a % b := Int.tmod_eq_emod_of_nonneg ha
theorem tdiv_neg' {a b : Int} (ha : a < 0) : Int.tdiv a b = -((-a) / b) := by
  rw [← Int.tdiv_eq_ediv_of_nonneg (a := -a) (by omega), Int.neg_tdiv, Int.neg_neg]
theorem tmod_neg' {a b : Int} (ha : a < 0) : Int.tmod a b = -((-a) % b) := by
  rw [← Int.tmod_eq_emod_of_nonneg (a := -a) (by omega), Int.neg_tmod, Int.neg_neg]
theorem wf64 {a : Int} (h : (Lit.int .i64 a).wf = true) : -9223372036854775808 ≤ a ∧ a ≤ 9223372036854775807 := by
  simp [Lit.wf, IntKind.min, IntKind.max, IntKind.signed, IntKind.bits] at h
  omega
theorem ev_succ {α : Type} {g : Nat → Option α} {r : α} (h : Ev (fun k => g (k + 1)) r) : Ev g r := Ev.step (f := fun k => g (k + 1)) (fun _ => rfl) h
theorem ev_eq {α : Type} {g : Nat → Option α} {r : α} (h : ∀ k, g k = some r) : Ev g r := ⟨0, fun k _ => h k⟩
theorem ev_val {α : Type} {g : Nat → Option α} {r r' : α} (h : Ev g r) (e : r = r') : Ev g r' := e ▸ h
/-! #### loops that go up, from a place on -/
theorem Ev_up {σ ρ : Type} (g : Nat → Nat → σ → Option ρ) (n : Nat) (Inv : Nat → σ → Prop) (Post : ρ → Prop)
    (hend : ∀ s, Inv n s → ∃ r, Ev (fun k => g k n s) r ∧ Post r)
    (hstep : ∀ i s, i < n → Inv i s → (∃ r, Ev (fun k => g k i s) r ∧ Post r) ∨ (∃ s', Inv (i + 1) s' ∧ ∀ r, Ev (fun k => g k (i + 1) s') r → Ev (fun k => g k i s) r))
    (d : Nat) : ∀ i s, n - i = d → i ≤ n → Inv i s → ∃ r, Ev (fun k => g k i s) r ∧ Post r := by
  induction d with
  | zero =>
    intro i s hd hi hs
    obtain rfl : i = n := by omega
    exact hend s hs
  | succ d ih =>
    intro i s hd hi hs
    rcases hstep i s (by omega) hs with h | ⟨s', hs', hg⟩
    · exact h
    · obtain ⟨r, hr, hp⟩ := ih (i + 1) s' (by omega) (by omega) hs'
      exact ⟨r, hg r hr, hp⟩
theorem succ_cast {i n : Nat} (h : i < n) (hn : n ≤ 9223372036854775806) : wrap64 ((i : Int) + 1) = ((i + 1 : Nat) : Int) := by
  rw [wrap_small (by omega) (by omega)]; omega
theorem drop_cons {α : Type} {l : List α} {i : Nat} (h : i < l.length) : l.drop i = l[i] :: l.drop (i + 1) := List.drop_eq_getElem_cons h
theorem rd_at {l : List Int} {i : Nat} (h : i < l.length) : rd l (i : Int) = l[i] := by simp [rd, h]
/-! #### loops that copy and loops that compare -/
theorem set_step {α β : Type} (g : α → β) (z : β) (l : List α) (i : Nat) (hi : i < l.length) : ((l.take i).map g ++ List.replicate (l.length - i) z).set i (g l[i]) = (l.take (i + 1)).map g ++ List.replicate (l.length - (i + 1)) z := by
  have e : l.length - i = (l.length - (i + 1)) + 1 := by omega
  have hl : ((l.take i).map g).length = i := by rw [List.length_map, List.length_take]; omega
  rw [e, List.replicate_succ, List.set_append_right _ _ (by omega), hl, Nat.sub_self, List.set_cons_zero, List.take_succ_eq_append_getElem hi, List.map_append, List.append_assoc]
  rfl
/-- A loop that sets each place of a fresh list. -/
theorem ev_map {α β : Type} (l : List α) (z : β) (g : α → β) (F : Nat → List β → Int → Option (List β)) (G : Nat → α → Option β) (hG : ∀ i (hi : i < l.length), Ev (fun k => G k l[i]) (g l[i]))
    (hstep : ∀ k (x : List β) (i : Nat) (hi : i < l.length), x.length = l.length → F (k + 1) x (i : Int) = (G k l[i]).bind fun v => F k (x.set i v) ((i + 1 : Nat) : Int))
    (hend : ∀ k (x : List β), F (k + 1) x (l.length : Int) = some x) : Ev (fun k => F k (List.replicate l.length z) 0) (l.map g) := by
  have main : ∀ d i, l.length - i = d → i ≤ l.length → Ev (fun k => F k ((l.take i).map g ++ List.replicate (l.length - i) z) (i : Int)) (l.map g) := by
    intro d
    induction d with
    | zero =>
      intro i hd hi
      obtain rfl : i = l.length := by omega
      refine ev_succ ?_
      simp only [hend, Nat.sub_self, List.replicate_zero, List.append_nil, List.take_length]
      exact Ev.now _
    | succ d ih =>
      intro i hd hi
      have hlt : i < l.length := by omega
      refine ev_succ ?_
      have hx : ((l.take i).map g ++ List.replicate (l.length - i) z).length = l.length := by
        rw [List.length_append, List.length_map, List.length_take, List.length_replicate]; omega
      simp only [hstep _ _ i hlt hx]
      refine Ev.bind (hG i hlt) ?_
      simp only [set_step g z l i hlt]
      exact ih (i + 1) (by omega) (by omega)
  have := main l.length 0 (by omega) (by omega)
  simp only [List.take_zero, List.map_nil, List.nil_append, Nat.sub_zero] at this
  exact this
/-- A loop that asks each place, and every place answers true. -/
theorem ev_trues {n : Nat} (F : Nat → Int → Option Bool) (G : Nat → Nat → Option Bool) (hG : ∀ i, i < n → Ev (fun k => G k i) true)
    (hstep : ∀ k (i : Nat), i < n → F (k + 1) (i : Int) = (G k i).bind fun t => if t = true then F k ((i + 1 : Nat) : Int) else some false)
    (hend : ∀ k, F (k + 1) (n : Int) = some true) : Ev (fun k => F k 0) true := by
  have main : ∀ d i, n - i = d → i ≤ n → Ev (fun k => F k (i : Int)) true := by
    intro d
    induction d with
    | zero =>
      intro i hd hi
      obtain rfl : i = n := by omega
      refine ev_succ ?_
      simp only [hend]
      exact Ev.now _
    | succ d ih =>
      intro i hd hi
      refine ev_succ ?_
      simp only [hstep _ i (show i < n by omega)]
      refine Ev.bind (hG i (by omega)) ?_
      simp only [if_true]
      exact ih (i + 1) (by omega) (by omega)
  exact main n 0 (by omega) (by omega)
theorem toNat_cast (i : Nat) : ((i : Int)).toNat = i := Int.toNat_natCast i
/-! ### floats: what is finite, and which operations are valid -/
theorem good_alike (a : Nat) : impl_GoodReal.g a = spec_GoodReal.g a := by
  unfold impl_GoodReal.g spec_GoodReal.g impl_isFinite.g impl_isFinite_1.f
  simp only [List.any_cons, List.any_nil, Bool.or_false, bne]
  cases math_IsNaN.g a <;> cases math_IsInf.g a <;> cases (FloatKind.f64.format.order a 0 == some .eq) <;> cases math_Signbit.f a <;> rfl
theorem itself {x : Nat} (h : math_IsNaN.g x = false) : (FloatKind.f64.format.order x x == some .eq) = true := by
  unfold math_IsNaN.g at h
  rw [bne] at h
  cases hb : (FloatKind.f64.format.order x x == some .eq)
  · rw [hb] at h; cases h
  · rfl
theorem good_finite {x : Nat} (h : spec_GoodReal.g x = true) : spec_l2Finite.g x = true := by
  unfold spec_GoodReal.g at h
  unfold spec_l2Finite.g
  simp only [Bool.and_eq_true] at h ⊢
  exact ⟨h.1, h.2.1⟩
theorem finite_nan {x : Nat} (h : spec_l2Finite.g x = true) : math_IsNaN.g x = false := by
  unfold spec_l2Finite.g at h
  simp only [Bool.and_eq_true, Bool.not_eq_true'] at h
  exact h.1
theorem not_one (x : Nat) : impl_isFinite_1.f x = !spec_l2Finite.g x := by
  unfold impl_isFinite_1.f spec_l2Finite.g
  cases math_IsNaN.g x <;> cases math_IsInf.g x <;> rfl
theorem nan_read {x : Nat} {s : Bool} {u : Nat} (h : Ieee.double.read x = .nan s u) : math_IsNaN.g x = true := by
  unfold math_IsNaN.g
  show ((Ieee.double.read x).order (Ieee.double.read x) != some .eq) = true
  rw [h]; rfl
theorem abs_eq {x : Nat} (hx : x < 18446744073709551616) : math_Abs.f x = x % 9223372036854775808 := by
  unfold math_Abs.f
  have h := u64_andNot_nat x 9223372036854775808 hx (by decide)
  rw [show ((9223372036854775808 : Nat) : Int) = 9223372036854775808 from rfl] at h
  rw [h]
  have e : x &&& (18446744073709551615 - 9223372036854775808) = x % 2 ^ 63 := by
    rw [show 18446744073709551615 - 9223372036854775808 = 2 ^ 63 - 1 from rfl, Nat.and_two_pow_sub_one_eq_mod]
  rw [e]; rfl
theorem inf_read {x : Nat} (hx : x < 18446744073709551616) {s : Bool} (h : Ieee.double.read x = .infinity s) : math_IsInf.g x = true := by
  have e0 : Ieee.double.signWeight = 9223372036854775808 := by decide
  have e1 : Ieee.double.infRung = 9218868437227405312 := by decide
  have e2 : Ieee.double.binade = 4503599627370496 := by decide
  have hr : x % 9223372036854775808 = 9218868437227405312 := by
    unfold Ieee.Format.read at h
    simp only [e0, e1, e2] at h
    split at h
    · cases h
    · split at h
      · cases h
      · split at h
        · assumption
        · cases h
  unfold math_IsInf.g
  rw [abs_eq hx, hr]
  decide +kernel
theorem finite_read {x : Nat} (hx : x < 18446744073709551616) (h : spec_l2Finite.g x = true) : ∃ s m e, Ieee.double.read x = .number s m e := by
  unfold spec_l2Finite.g at h
  simp only [Bool.and_eq_true, Bool.not_eq_true'] at h
  cases hr : Ieee.double.read x with
  | nan s u => rw [nan_read hr] at h; cases h.1
  | infinity s => rw [inf_read hx hr] at h; cases h.2
  | number s m e => exact ⟨s, m, e, rfl⟩
theorem inf_not (s : Bool) : spec_l2Finite.g (Ieee.double.write (.infinity s)) = false := by
  have h : math_IsInf.g (Ieee.double.write (.infinity s)) = true := by
    refine inf_read (s := s) ?_ ?_
    · cases s <;> decide +kernel
    · cases s <;> decide +kernel
  unfold spec_l2Finite.g
  rw [h, Bool.not_true, Bool.and_false]
theorem add_some {x y : Nat} (hx : x < 18446744073709551616) (hy : y < 18446744073709551616) (fx : spec_l2Finite.g x = true) (fy : spec_l2Finite.g y = true) : ∃ r, floatBits .add .f64 x y = some r ∧ r < 18446744073709551616 := by
  obtain ⟨s, m, e, h1⟩ := finite_read hx fx
  obtain ⟨t, n, f, h2⟩ := finite_read hy fy
  have h : ∃ r, Ieee.double.add x y = some r := by
    unfold Ieee.Format.add
    rw [h1, h2]
    exact ⟨_, rfl⟩
  obtain ⟨r, h⟩ := h
  exact ⟨r, h, Ieee.Format.add_lt _ h⟩
theorem sub_some {x y : Nat} (hx : x < 18446744073709551616) (hy : y < 18446744073709551616) (fx : spec_l2Finite.g x = true) (fy : spec_l2Finite.g y = true) : ∃ r, floatBits .sub .f64 x y = some r ∧ r < 18446744073709551616 := by
  obtain ⟨s, m, e, h1⟩ := finite_read hx fx
  obtain ⟨t, n, f, h2⟩ := finite_read hy fy
  have h : ∃ r, Ieee.double.sub x y = some r := by
    unfold Ieee.Format.sub
    rw [h1, h2]
    exact ⟨_, rfl⟩
  obtain ⟨r, h⟩ := h
  exact ⟨r, h, Ieee.Format.sub_lt _ h⟩
theorem mul_some {x y : Nat} (hx : x < 18446744073709551616) (hy : y < 18446744073709551616) (fx : spec_l2Finite.g x = true) (fy : spec_l2Finite.g y = true) : ∃ r, floatBits .mul .f64 x y = some r ∧ r < 18446744073709551616 := by
  obtain ⟨s, m, e, h1⟩ := finite_read hx fx
  obtain ⟨t, n, f, h2⟩ := finite_read hy fy
  have h : ∃ r, Ieee.double.mul x y = some r := by
    unfold Ieee.Format.mul
    rw [h1, h2]
    exact ⟨_, rfl⟩
  obtain ⟨r, h⟩ := h
  exact ⟨r, h, Ieee.Format.mul_lt _ h⟩
theorem num_read {x : Nat} (hx : x < 18446744073709551616) {s : Bool} {m : Nat} {e : Int} (h : Ieee.double.read x = .number s m e) : spec_l2Finite.g x = true := by
  have e0 : Ieee.double.signWeight = 9223372036854775808 := by decide
  have e1 : Ieee.double.infRung = 9218868437227405312 := by decide
  have e2 : Ieee.double.binade = 4503599627370496 := by decide
  have e3 : Ieee.double.leastPlace = -1074 := by decide
  have hn : math_IsNaN.g x = false := by
    unfold math_IsNaN.g
    show ((Ieee.double.read x).order (Ieee.double.read x) != some .eq) = false
    rw [h]
    simp [Ieee.Datum.order, compare, compareOfLessAndEq]
  have hg : ∃ m' e', Ieee.double.read (x % 9223372036854775808) = .number false m' e' ∧ m' ≤ 9007199254740991 ∧ e' ≤ 971 := by
    unfold Ieee.Format.read at h ⊢
    simp only [e0, e1, e2, e3] at h ⊢
    have q1 : x % 9223372036854775808 % 9223372036854775808 = x % 9223372036854775808 := Nat.mod_mod _ _
    have q2 : (x % 9223372036854775808 / 9223372036854775808 % 2 == 1) = false := by
      have : x % 9223372036854775808 / 9223372036854775808 = 0 := Nat.div_eq_of_lt (Nat.mod_lt _ (by decide))
      rw [this]; rfl
    rw [q1, q2]
    generalize hgg : x % 9223372036854775808 = g at h
    by_cases c1 : g < 4503599627370496
    · rw [if_pos c1]
      exact ⟨g, -1074, rfl, by omega, by omega⟩
    · rw [if_neg c1] at h ⊢
      by_cases c2 : g < 9218868437227405312
      · rw [if_pos c2]
        refine ⟨_, _, rfl, by omega, by omega⟩
      · rw [if_neg c2] at h
        split at h <;> cases h
  have hi : math_IsInf.g x = false := by
    obtain ⟨m', e', h1, h2, h3⟩ := hg
    unfold math_IsInf.g
    rw [abs_eq hx]
    show ((Ieee.double.read (x % 9223372036854775808)).order (Ieee.double.read 9218868437227405311) == some .gt) = false
    have hM : Ieee.double.read 9218868437227405311 = .number false 9007199254740991 971 := by decide +kernel
    rw [h1, hM]
    have hb : min e' 971 = e' := Int.min_eq_left h3
    have h4 : Ieee.signed false m' (e' - min e' 971).toNat = (m' : Int) := by
      rw [hb, Int.sub_self]; simp [Ieee.signed]
    have h5 : (9007199254740991 : Int) ≤ Ieee.signed false 9007199254740991 (971 - min e' 971).toNat := by
      have h6 : 9007199254740991 ≤ 9007199254740991 <<< (971 - min e' 971).toNat := by
        rw [Nat.shiftLeft_eq]
        exact Nat.le_mul_of_pos_right _ (Nat.pow_pos (by decide))
      simp only [Ieee.signed, Bool.false_eq_true, if_false]
      exact Int.ofNat_le.mpr h6
    have h7 : (Ieee.signed false m' (e' - min e' 971).toNat) ≤ (Ieee.signed false 9007199254740991 (971 - min e' 971).toNat) := by
      rw [h4]; omega
    simp only [Ieee.Datum.order, beq_eq_false_iff_ne, ne_eq, Option.some.injEq]
    intro hc
    have := (Int.compare_eq_gt).mp hc
    omega
  unfold spec_l2Finite.g
  rw [hn, hi]; rfl
/-- If a sum of a finite float with another is finite, so is the other. -/
theorem add_other {x y r : Nat} (hx : x < 18446744073709551616) (hy : y < 18446744073709551616) (fx : spec_l2Finite.g x = true) (h : floatBits .add .f64 x y = some r) (fr : spec_l2Finite.g r = true) : spec_l2Finite.g y = true := by
  obtain ⟨s, m, e, h1⟩ := finite_read hx fx
  replace h : Ieee.double.add x y = some r := h
  unfold Ieee.Format.add at h
  rw [h1] at h
  cases h2 : Ieee.double.read y with
  | nan t u => rw [h2] at h; cases h
  | infinity t =>
    rw [h2] at h
    have : r = Ieee.double.write (.infinity t) := (Option.some.inj h).symm
    rw [this, inf_not] at fr
    cases fr
  | number t n f => exact num_read hy h2
theorem plain_itself {x : Nat} (h : spec_l2Finite.g x = true) : (FloatKind.f64.format.order (spec_l2Plain.g x) (spec_l2Plain.g x) == some .eq) = true := by
  unfold spec_l2Plain.g
  split
  · decide +kernel
  · exact itself (finite_nan h)
theorem plain_alike (x : Nat) : impl_plain.g x = spec_l2Plain.g x := rfl
/-- What is written of a number is no NaN. -/
theorem write_not_nan (s : Bool) (m : Nat) (e : Int) : ∀ u v, Ieee.double.read (Ieee.double.write (.number s m e)) ≠ .nan u v := by
  have key : ∀ (s : Bool) (g : Nat), g ≤ 9218868437227405312 → ∀ u v, Ieee.double.read (Ieee.double.word s g) ≠ .nan u v := by
    intro s g hg u v h
    have e0 : Ieee.double.signWeight = 9223372036854775808 := by decide
    have e1 : Ieee.double.infRung = 9218868437227405312 := by decide
    have e2 : Ieee.double.binade = 4503599627370496 := by decide
    have em : Ieee.double.word s g % 9223372036854775808 = g := by
      cases s
      · show g % 9223372036854775808 = g; omega
      · show (9223372036854775808 + g) % 9223372036854775808 = g; omega
    unfold Ieee.Format.read at h
    simp only [e0, e1, e2, em] at h
    split at h
    · cases h
    · split at h
      · cases h
      · split at h
        · cases h
        · omega
  intro u v
  show Ieee.double.read (Ieee.double.nearest s m e) ≠ .nan u v
  unfold Ieee.Format.nearest
  split
  · exact key s 0 (by decide) u v
  · exact key s _ (Nat.min_le_right _ _) u v
/-! ### sums of floats in order -/
theorem ltc {i n : Nat} (h : i < n) : (i : Int) < (n : Int) := by omega
theorem nnc (i : Nat) : (0 : Int) ≤ (i : Int) := by omega
theorem no_lt (n : Nat) : ¬ (n : Int) < (n : Int) := by omega
theorem rdF {l : List Nat} {i : Nat} (h : i < l.length) : rdOf (0 : Nat) l (i : Int) = l[i] := by simp [rdOf, h]
theorem wf_lt {x : Nat} (h : (Lit.float .f64 x).wf = true) : x < 18446744073709551616 := by
  simpa [Lit.wf] using h
theorem inf_keeps {x y : Nat} {u : Bool} (hx : Ieee.double.read x = .infinity u) (hy : y < 18446744073709551616) (fy : spec_l2Finite.g y = true) : ∃ r, floatBits .add .f64 x y = some r ∧ r < 18446744073709551616 ∧ Ieee.double.read r = .infinity u := by
  obtain ⟨t, n, f, h2⟩ := finite_read hy fy
  refine ⟨Ieee.double.write (.infinity u), ?_, ?_, ?_⟩
  · show Ieee.double.add x y = some _
    unfold Ieee.Format.add
    rw [hx, h2]
    rfl
  · cases u <;> decide +kernel
  · cases u <;> decide +kernel
theorem inf_unfinite {x : Nat} {u : Bool} (hx : x < 18446744073709551616) (h : Ieee.double.read x = .infinity u) : spec_l2Finite.g x = false := by
  unfold spec_l2Finite.g
  rw [inf_read hx h, Bool.not_true, Bool.and_false]
/-- A sum on its way: a number or an infinity. -/
def Way (s : Nat) : Prop := s < 18446744073709551616 ∧ (spec_l2Finite.g s = true ∨ ∃ u, Ieee.double.read s = .infinity u)
theorem add_way {x y : Nat} (hx : Way x) (hy : y < 18446744073709551616) (fy : spec_l2Finite.g y = true) : ∃ r, floatBits .add .f64 x y = some r ∧ Way r ∧ (spec_l2Finite.g x = false → spec_l2Finite.g r = false) := by
  obtain ⟨wx, fx | ⟨u, hu⟩⟩ := hx
  · obtain ⟨s, m, e, h1⟩ := finite_read wx fx
    obtain ⟨t, n, f, h2⟩ := finite_read hy fy
    obtain ⟨r, hr, wr⟩ := add_some wx hy fx fy
    refine ⟨r, hr, ⟨wr, ?_⟩, fun h => by rw [fx] at h; cases h⟩
    have h : Ieee.double.add x y = some r := hr
    unfold Ieee.Format.add at h
    rw [h1, h2] at h
    have hn : ∀ u v, Ieee.double.read r ≠ .nan u v := by
      have e' := (Option.some.inj h).symm
      rw [e']
      exact write_not_nan _ _ _
    cases h3 : Ieee.double.read r with
    | nan u v => exact absurd h3 (hn u v)
    | infinity u => exact Or.inr ⟨u, rfl⟩
    | number a b c => exact Or.inl (num_read wr h3)
  · obtain ⟨r, hr, wr, h3⟩ := inf_keeps hu hy fy
    exact ⟨r, hr, ⟨wr, Or.inr ⟨u, h3⟩⟩, fun _ => inf_unfinite wr h3⟩
def sumV : List Nat → Nat → Nat
  | [], s => s
  | x :: xs, s => sumV xs ((floatBits .add .f64 s x).getD 0)
def endV (s : Nat) : Nat × Bool := if spec_l2Finite.g s = true then (spec_l2Plain.g s, true) else (0, false)
def Wide (l : List Nat) : Prop := ∀ x ∈ l, x < 18446744073709551616
theorem sum_lost (l : List Nat) : ∀ s, (∀ x ∈ l, x < 18446744073709551616 ∧ spec_GoodReal.g x = true) → Way s → spec_l2Finite.g s = false → spec_l2Finite.g (sumV l s) = false := by
  induction l with
  | nil => intro s _ _ h; exact h
  | cons x xs ih =>
    intro s hl hs hf
    have hx := hl x (List.mem_cons_self ..)
    obtain ⟨r, hr, wr, hk⟩ := add_way hs hx.1 (good_finite hx.2)
    simp only [sumV, hr, Option.getD_some]
    exact ih r (fun y hy => hl y (List.mem_cons_of_mem _ hy)) wr (hk hf)
theorem spec_sum_from (l : List Nat) (hl : l.length ≤ 64) (hw : Wide l) (d : Nat) : ∀ (i s : Nat), l.length - i = d → i ≤ l.length → Way s → Ev (fun k => spec_SumInOrder.l0 k s l (l.length : Int) (i : Int)) (if (l.drop i).all spec_GoodReal.g = true then endV (sumV (l.drop i) s) else (0, false)) := by
  induction d with
  | zero =>
    intro i s hd hi hs
    obtain rfl : i = l.length := by omega
    rw [List.drop_length]
    simp only [List.all_nil, if_true, sumV]
    refine ev_succ ?_
    simp only [spec_SumInOrder.l0, if_neg (no_lt l.length), spec_l2Finite.f, spec_l2Plain.f, Option.bind_some]
    unfold endV
    split
    · exact Ev.now _
    · exact Ev.now _
  | succ d ih =>
    intro i s hd hi hs
    have hlt : i < l.length := by omega
    have wx := hw _ (List.getElem_mem hlt)
    rw [drop_cons hlt, List.all_cons]
    refine ev_succ ?_
    simp only [spec_SumInOrder.l0, if_pos (ltc hlt), if_pos (nnc i), rdF hlt, spec_GoodReal.f, Option.bind_some]
    cases hg : spec_GoodReal.g l[i] with
    | false =>
      simp only [Bool.false_eq_true, if_false, Bool.false_and]
      exact Ev.now _
    | true =>
      obtain ⟨r, hr, wr, _⟩ := add_way hs wx (good_finite hg)
      simp only [if_true, Bool.true_and, hr, Option.bind_some, succ_cast hlt (show l.length ≤ 9223372036854775806 by omega), sumV, Option.getD_some]
      exact ih (i + 1) r (by omega) (by omega) wr
theorem way_zero : Way 0 := ⟨by decide, Or.inl (by decide +kernel)⟩
def sumW (l : List Nat) : Nat × Bool := if (l.length : Int) > 64 then (0, false) else if l.all spec_GoodReal.g = true then endV (sumV l 0) else (0, false)
theorem spec_sum (l : List Nat) (hw : Wide l) : Ev (fun k => spec_SumInOrder.f k l) (sumW l) := by
  unfold spec_SumInOrder.f sumW
  by_cases c : (l.length : Int) > 64
  · simp only [if_pos c]; exact Ev.now _
  · simp only [if_neg c]
    exact spec_sum_from l (by omega) hw l.length 0 0 (by omega) (by omega) way_zero
theorem one_finite (t : Nat) : impl_isFinite.g [t] = spec_l2Finite.g t := by
  unfold impl_isFinite.g
  simp only [List.any_cons, List.any_nil, Bool.or_false, not_one, Bool.not_not]
theorem impl_sum_from (l : List Nat) (hl : l.length ≤ 9223372036854775806) (hg : ∀ x ∈ l, x < 18446744073709551616 ∧ spec_GoodReal.g x = true) (d : Nat) : ∀ (i s : Nat), l.length - i = d → i ≤ l.length → Way s → spec_l2Finite.g s = true → Ev (fun k => impl_sumOf.l0 k s l (l.length : Int) (i : Int)) (endV (sumV (l.drop i) s)) := by
  induction d with
  | zero =>
    intro i s hd hi hs hf
    obtain rfl : i = l.length := by omega
    rw [List.drop_length]
    refine ev_succ ?_
    simp only [impl_sumOf.l0, if_neg (no_lt l.length), impl_plain.f, Option.bind_some, sumV, endV, hf, if_true]
    exact Ev.now _
  | succ d ih =>
    intro i s hd hi hs hf
    have hlt : i < l.length := by omega
    have hx := hg _ (List.getElem_mem hlt)
    rw [drop_cons hlt]
    obtain ⟨r, hr, wr, _⟩ := add_way hs hx.1 (good_finite hx.2)
    refine ev_succ ?_
    simp only [impl_sumOf.l0, if_pos (ltc hlt), if_pos (nnc i), rdF hlt, hr, Option.bind_some, impl_isFinite.f, one_finite, sumV, Option.getD_some]
    cases hq : spec_l2Finite.g r with
    | true =>
      simp only [if_true, succ_cast hlt hl]
      exact ih (i + 1) r (by omega) (by omega) wr hq
    | false =>
      have := sum_lost (l.drop (i + 1)) r (fun x hx => hg x (List.mem_of_mem_drop hx)) wr hq
      simp only [Bool.false_eq_true, if_false, endV, this]
      exact Ev.now _
theorem all_good (l : List Nat) : impl_areGood.g l = l.all spec_GoodReal.g := by
  unfold impl_areGood.g
  rw [List.not_any_eq_all_not]
  congr 1
  funext x
  unfold impl_areGood_1.f
  rw [good_alike, Bool.not_not]
theorem to_floats (l : List Nat) (h1 : l.length ≤ 17592186044416) : Ev (fun k => laws_toFloat64S.f k l) l := by
  unfold laws_toFloat64S.f
  simp only [if_pos (nnc l.length), toNat_cast, if_pos (show l.length ≤ 35184372088832 by omega)]
  have h := ev_map l 0 id (fun k x i => laws_toFloat64S.l0 k l x i) (fun _ x => some x) (fun i hi => Ev.now _) ?_ ?_
  · rw [List.map_id] at h; exact h
  · intro k x i hi hx
    simp only [laws_toFloat64S.l0, if_pos (ltc hi), if_pos (nnc i), Option.bind_some, if_pos (show (i : Int) < (x.length : Int) by omega), toNat_cast, rdF hi, succ_cast hi (by omega)]
  · intro k x
    simp only [laws_toFloat64S.l0, if_neg (no_lt l.length)]
theorem eq_floats (l : List Nat) (h1 : l.length ≤ 17592186044416) : Ev (fun k => laws_eqFloat64S.f k l l) true := by
  unfold laws_eqFloat64S.f
  simp only [if_true]
  refine ev_trues (n := l.length) (fun k i => laws_eqFloat64S.l0 k l l i) (fun _ _ => some true) (fun i hi => Ev.now _) ?_ ?_
  · intro k i hi
    simp only [laws_eqFloat64S.l0, if_pos (ltc hi), if_pos (nnc i), laws_sameFloat.f, if_true, Option.bind_some, succ_cast hi (by omega)]
  · intro k
    simp only [laws_eqFloat64S.l0, if_neg (no_lt l.length)]
/-! ### quotients -/
theorem quo_some {x d : Nat} (wx : x < 18446744073709551616) (wd : d < 18446744073709551616) (fx : spec_l2Finite.g x = true) (fd : spec_l2Finite.g d = true) (hz : (FloatKind.f64.format.order d 0 == some .eq) = false) : ∃ u, floatBits .quo .f64 x d = some u := by
  obtain ⟨s, m, e, h1⟩ := finite_read wx fx
  obtain ⟨t, n, f, h2⟩ := finite_read wd fd
  have hn : n ≠ 0 := by
    rintro rfl
    have h0 : Ieee.double.read 0 = .number false 0 (-1074) := by decide +kernel
    have hq : FloatKind.f64.format.order d 0 = some .eq := by
      show (Ieee.double.read d).order (Ieee.double.read 0) = some .eq
      rw [h2, h0]
      cases t <;> simp [Ieee.Datum.order, Ieee.signed, compare, compareOfLessAndEq]
    rw [hq] at hz
    exact absurd hz (by decide)
  show ∃ u, Ieee.Format.div Ieee.double x d = some u
  unfold Ieee.Format.div
  rw [h1, h2]
  unfold Ieee.Datum.quotient
  simp [hn]
open slices_DeleteFunc_float64_float64 (keep)
def meanV (l : List Nat) : Nat × Int × Bool :=
  if (l.length : Int) > 64 then (0, 0, false) else
  if (l.filter keep).all spec_GoodReal.g = true then
    (if (endV (sumV (l.filter keep) 0)).2 = true then
      (if ((l.filter keep).length : Int) = 0 then (0, 0, false) else (spec_l2Plain.g ((floatBits .quo .f64 (endV (sumV (l.filter keep) 0)).1 (floatOfInt .f64 ((l.filter keep).length : Int))).getD 0), ((l.filter keep).length : Int), true))
    else (0, 0, false))
  else (0, 0, false)
theorem count_num : ∀ n : Fin 65, n.val = 0 ∨ (floatOfInt .f64 (n.val : Int) < 18446744073709551616 ∧ spec_l2Finite.g (floatOfInt .f64 (n.val : Int)) = true ∧ (FloatKind.f64.format.order (floatOfInt .f64 (n.val : Int)) 0 == some .eq) = false) := by decide +kernel
theorem endV_fine (l : List Nat) (h : (endV (sumV l 0)).2 = true) (hw : sumV l 0 < 18446744073709551616) : (endV (sumV l 0)).1 < 18446744073709551616 ∧ spec_l2Finite.g (endV (sumV l 0)).1 = true := by
  unfold endV at h ⊢
  split at h
  · rename_i hf
    simp only [if_pos hf]
    unfold spec_l2Plain.g
    split
    · exact ⟨by decide, by decide +kernel⟩
    · exact ⟨hw, hf⟩
  · cases h
theorem sum_wide (l : List Nat) : ∀ s, (∀ x ∈ l, x < 18446744073709551616 ∧ spec_GoodReal.g x = true) → Way s → Way (sumV l s) := by
  induction l with
  | nil => intro s _ h; exact h
  | cons x xs ih =>
    intro s hl hs
    have hx := hl x (List.mem_cons_self ..)
    obtain ⟨r, hr, wr, _⟩ := add_way hs hx.1 (good_finite hx.2)
    simp only [sumV, hr, Option.getD_some]
    exact ih r (fun y hy => hl y (List.mem_cons_of_mem _ hy)) wr
theorem mean_quo (t : List Nat) (ht : t.length ≤ 64) (h0 : ¬ (t.length : Int) = 0) (hg : ∀ x ∈ t, x < 18446744073709551616 ∧ spec_GoodReal.g x = true) (he : (endV (sumV t 0)).2 = true) :
    floatBits .quo .f64 (endV (sumV t 0)).1 (floatOfInt .f64 (t.length : Int)) = some ((floatBits .quo .f64 (endV (sumV t 0)).1 (floatOfInt .f64 (t.length : Int))).getD 0) := by
  obtain ⟨h1, h2⟩ := endV_fine t he (sum_wide t 0 hg way_zero).1
  rcases count_num ⟨t.length, by omega⟩ with h | ⟨h3, h4, h5⟩
  · exact absurd h (by dsimp only; omega)
  · obtain ⟨u, hu⟩ := quo_some h1 h3 h2 h4 h5
    rw [hu]; rfl
theorem nan_all {x : Nat} (h : spec_GoodReal.g x = true) : keep x = true := by
  unfold keep
  rw [finite_nan (good_finite h)]; rfl
theorem spec_mean_from (l : List Nat) (hl : l.length ≤ 64) (hw : Wide l) (d : Nat) : ∀ i, l.length - i = d → i ≤ l.length → ((l.take i).filter keep).all spec_GoodReal.g = true → Ev (fun k => spec_MeanOfPresent.l0 k ((l.take i).filter keep) l (l.length : Int) (i : Int)) (meanV l) := by
  have hl64 : ¬ (l.length : Int) > 64 := by omega
  induction d with
  | zero =>
    intro i hd hi hg
    obtain rfl : i = l.length := by omega
    rw [List.take_length] at hg ⊢
    have ht := List.length_filter_le keep l
    have hgg : ∀ x ∈ l.filter keep, x < 18446744073709551616 ∧ spec_GoodReal.g x = true := fun x hx => ⟨hw x (List.mem_filter.1 hx).1, List.all_eq_true.1 hg x hx⟩
    refine ev_succ ?_
    simp only [spec_MeanOfPresent.l0, if_neg (no_lt l.length)]
    have hs := spec_sum (l.filter keep) (fun x hx => hw x (List.mem_filter.1 hx).1)
    refine Ev.bind hs ?_
    have hv : sumW (l.filter keep) = endV (sumV (l.filter keep) 0) := by
      unfold sumW
      rw [if_neg (by omega), if_pos hg]
    rw [hv]
    unfold meanV
    rw [if_neg hl64, if_pos hg]
    cases he : (endV (sumV (l.filter keep) 0)).2 with
    | false => simp only [Bool.false_eq_true, if_false]; exact Ev.now _
    | true =>
      simp only [if_true]
      by_cases h0 : ((l.filter keep).length : Int) = 0
      · simp only [if_pos h0]; exact Ev.now _
      · simp only [if_neg h0]
        have hq := mean_quo (l.filter keep) (by omega) h0 hgg he
        rw [hq]
        simp only [Option.bind_some, spec_l2Plain.f, Option.getD_some]
        exact Ev.now _
  | succ d ih =>
    intro i hd hi hg
    have hlt : i < l.length := by omega
    have hd1 : l.length - (i + 1) = d := by omega
    have ht := List.length_filter_le keep (l.take i)
    rw [List.length_take] at ht
    have htk : (l.take (i + 1)).filter keep = (l.take i).filter keep ++ [l[i]].filter keep := by rw [List.take_succ_eq_append_getElem hlt, List.filter_append]
    have hk : keep l[i] = !(math_IsNaN.g l[i]) := rfl
    refine ev_succ ?_
    simp only [spec_MeanOfPresent.l0, if_pos (ltc hlt), if_pos (nnc i), rdF hlt, math_IsNaN.f, spec_GoodReal.f, Option.bind_some, succ_cast hlt (show l.length ≤ 9223372036854775806 by omega)]
    cases hn : math_IsNaN.g l[i] with
    | true =>
      simp only [if_true]
      have h := ih (i + 1) hd1 (by omega)
      rw [htk, show [l[i]].filter keep = [] from by simp [hk, hn], List.append_nil] at h
      exact h hg
    | false =>
      simp only [Bool.false_eq_true, if_false]
      have hf1 : [l[i]].filter keep = [l[i]] := by simp [hk, hn]
      cases hgd : spec_GoodReal.g l[i] with
      | true =>
        simp only [if_true, if_pos (show ((l.take i).filter keep).length < 17592186044416 by omega)]
        have h := ih (i + 1) hd1 (by omega)
        rw [htk, hf1] at h
        exact h (by rw [List.all_append, hg]; simp [hgd])
      | false =>
        simp only [Bool.false_eq_true, if_false]
        have hbad : (l.filter keep).all spec_GoodReal.g = false := by
          rw [List.all_eq_false]
          exact ⟨l[i], List.mem_filter.2 ⟨List.getElem_mem hlt, by rw [hk, hn]; rfl⟩, by rw [hgd]; decide⟩
        unfold meanV
        rw [if_neg hl64, if_neg (by rw [hbad]; decide)]
        exact Ev.now _
theorem spec_mean (l : List Nat) (hw : Wide l) : Ev (fun k => spec_MeanOfPresent.f k l) (meanV l) := by
  unfold spec_MeanOfPresent.f
  by_cases c : (l.length : Int) > 64
  · unfold meanV
    simp only [if_pos c]; exact Ev.now _
  · simp only [if_neg c]
    exact spec_mean_from l (by omega) hw l.length 0 (by omega) (by omega) rfl
theorem inf_adds {x y : Nat} {u : Bool} (wx : x < 18446744073709551616) (fx : spec_l2Finite.g x = true) (hy : Ieee.double.read y = .infinity u) : ∃ r, floatBits .add .f64 x y = some r ∧ spec_l2Finite.g r = false := by
  obtain ⟨s, m, e, h1⟩ := finite_read wx fx
  refine ⟨Ieee.double.write (.infinity u), ?_, inf_not u⟩
  show Ieee.double.add x y = some _
  unfold Ieee.Format.add
  rw [h1, hy]
  rfl
theorem impl_sum_some (l : List Nat) (hl : l.length ≤ 9223372036854775806) (hg : ∀ x ∈ l, x < 18446744073709551616 ∧ math_IsNaN.g x = false) (d : Nat) : ∀ (i s : Nat), l.length - i = d → i ≤ l.length → Way s → spec_l2Finite.g s = true → ∃ r, Ev (fun k => impl_sumOf.l0 k s l (l.length : Int) (i : Int)) r := by
  induction d with
  | zero =>
    intro i s hd hi hs hf
    obtain rfl : i = l.length := by omega
    refine ⟨(impl_plain.g s, true), ev_succ ?_⟩
    simp only [impl_sumOf.l0, if_neg (no_lt l.length), impl_plain.f, Option.bind_some]
    exact Ev.now _
  | succ d ih =>
    intro i s hd hi hs hf
    have hlt : i < l.length := by omega
    have hx := hg _ (List.getElem_mem hlt)
    have hd1 : l.length - (i + 1) = d := by omega
    have go : ∀ r, floatBits .add .f64 s l[i] = some r → (spec_l2Finite.g r = true → Way r) → ∃ q, Ev (fun k => impl_sumOf.l0 k s l (l.length : Int) (i : Int)) q := by
      intro r hr wr
      cases hq : spec_l2Finite.g r with
      | true =>
        obtain ⟨q, hv⟩ := ih (i + 1) r hd1 (by omega) (wr hq) hq
        refine ⟨q, ev_succ ?_⟩
        simp only [impl_sumOf.l0, if_pos (ltc hlt), if_pos (nnc i), rdF hlt, hr, Option.bind_some, impl_isFinite.f, one_finite, hq, if_true, succ_cast hlt hl]
        exact hv
      | false =>
        refine ⟨(0, false), ev_succ ?_⟩
        simp only [impl_sumOf.l0, if_pos (ltc hlt), if_pos (nnc i), rdF hlt, hr, Option.bind_some, impl_isFinite.f, one_finite, hq, Bool.false_eq_true, if_false]
        exact Ev.now _
    cases h3 : Ieee.double.read l[i] with
    | nan u v => rw [nan_read h3] at hx; cases hx.2
    | infinity u =>
      obtain ⟨r, hr, fr⟩ := inf_adds hs.1 hf h3
      exact go r hr (fun h => by rw [fr] at h; cases h)
    | number a b c =>
      obtain ⟨r, hr, wr, _⟩ := add_way hs hx.1 (num_read hx.1 h3)
      exact go r hr (fun _ => wr)
theorem impl_mean (l : List Nat) (hl : l.length ≤ 1048576) (hw : Wide l) : Ev (fun k => impl_MeanOfPresent.f k l) (meanV l) := by
  unfold impl_MeanOfPresent.f
  have ht := List.length_filter_le keep l
  have hf : (fun x => !(math_IsNaN.g x)) = keep := rfl
  simp only [slices_Clone_float64_float64.f, if_pos (show l.length < 17592186044416 by omega), slices_DeleteFunc_float64_float64.f, Option.bind_some]
  have hwt : Wide (l.filter keep) := fun x hx => hw x (List.mem_filter.1 hx).1
  have hnn : ∀ x ∈ l.filter keep, x < 18446744073709551616 ∧ math_IsNaN.g x = false := fun x hx => ⟨hwt x hx, by have h := (List.mem_filter.1 hx).2; unfold keep at h; simpa using h⟩
  obtain ⟨q, hq⟩ := impl_sum_some (l.filter keep) (by omega) hnn (l.filter keep).length 0 0 (by omega) (by omega) way_zero (by decide +kernel)
  have hq' : Ev (fun k => impl_sumOf.f k (l.filter keep)) q := hq
  cases hg : (l.filter keep).all spec_GoodReal.g with
  | false =>
    refine Ev.bind hq' ?_
    unfold meanV
    rw [hg]
    simp only [impl_areGood.f, all_good, hg, Option.bind_some, Bool.false_eq_true, if_false]
    by_cases c : (l.length : Int) > 64
    · simp only [if_pos c]; exact Ev.now _
    · simp only [if_neg c]
      by_cases h0 : ((l.filter keep).length : Int) = 0
      · simp only [if_pos h0]; exact Ev.now _
      · simp only [if_neg h0]; exact Ev.now _
  | true =>
    have hgg : ∀ x ∈ l.filter keep, x < 18446744073709551616 ∧ spec_GoodReal.g x = true := fun x hx => ⟨hwt x hx, List.all_eq_true.1 hg x hx⟩
    have h := impl_sum_from (l.filter keep) (by omega) hgg (l.filter keep).length 0 0 (by omega) (by omega) way_zero (by decide +kernel)
    rw [List.drop_zero] at h
    have h' : Ev (fun k => impl_sumOf.f k (l.filter keep)) (endV (sumV (l.filter keep) 0)) := h
    refine Ev.bind h' ?_
    unfold meanV
    rw [hg]
    simp only [impl_areGood.f, all_good, hg, Option.bind_some, if_true]
    by_cases c : (l.length : Int) > 64
    · simp only [if_pos c]; exact Ev.now _
    · simp only [if_neg c]
      cases he : (endV (sumV (l.filter keep) 0)).2 with
      | false =>
        simp only [Bool.false_eq_true, if_false]
        by_cases h0 : ((l.filter keep).length : Int) = 0
        · simp only [if_pos h0]; exact Ev.now _
        · simp only [if_neg h0]; exact Ev.now _
      | true =>
        simp only [if_true]
        by_cases h0 : ((l.filter keep).length : Int) = 0
        · simp only [if_pos h0]; exact Ev.now _
        · simp only [if_neg h0]
          have hqq := mean_quo (l.filter keep) (by omega) h0 hgg he
          rw [hqq]
          simp only [Option.bind_some, impl_plain.f, Option.getD_some, plain_alike]
          exact Ev.now _
theorem FnExactMeanOfPresent : laws_FnExactMeanOfPresent_Pure := by
  intro l hl
  have h1 : l.length ≤ 17592186044416 := by omega
  have hw : Wide l := fun x hx => wf_lt (hl.2.2 x hx)
  apply Ev.rounds (r := true)
  unfold laws_FnExactMeanOfPresent.f
  by_cases h : (l.length : Int) > 1048576
  · simp only [if_pos h]
    exact Ev.now true
  · simp only [if_neg h]
    have hk := to_floats l h1
    refine Ev.bind hk (Ev.bind (spec_mean _ hw) (Ev.bind hk (Ev.bind (impl_mean _ (by omega) hw) ?_)))
    simp only [laws_sameFloat.f, if_true, Option.bind_some, bne_self_eq_false]
    refine ev_succ ?_
    simp only [laws_FnExactMeanOfPresent.j0, Bool.false_eq_true, if_false]
    refine Ev.bind hk (Ev.bind (eq_floats _ h1) ?_)
    simp only [if_true]
    exact Ev.now true
end Go.Proofs.Ythpnlldadpcmnaa.Pure
