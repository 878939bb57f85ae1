/- The program's Blend and the reference's answer alike at every three floats. No condition. -/
import Derived.Test.YtijmnkfmkpejmaaPFnExactBlendx1
import Derived.Laws.BitsAllLaws
namespace Go.Proofs.Ytijmnkfmkpejmaa.Pure
open Go.RowKit Go.Proofs.Ytijmnkfmkpejmaa.PFnExactBlend Go.Proofs.YtijmnkfmkpejmaaW.PrintWords Go.Proofs.YtijmnkfmkpejmaaW.PrintLast Go.Proofs.YtijmnkfmkpejmaaW.PrintMore
set_option linter.unusedVariables false
set_option linter.unusedSimpArgs false
/-! ### floats: what is finite, and which operations are valid -/
theorem good_alike (a : Nat) : impl_GoodReal.f a = spec_GoodReal.f a := by
  unfold impl_GoodReal.f spec_GoodReal.f impl_isFinite.f impl_isFinite_1.f
  simp only [List.any_cons, List.any_nil, Bool.or_false, bne]
  cases math_IsNaN.f a <;> cases math_IsInf.f a <;> cases (FloatKind.f64.format.order a 0 == some .eq) <;> cases math_Signbit.f a <;> rfl
theorem itself {x : Nat} (h : math_IsNaN.f x = false) : (FloatKind.f64.format.order x x == some .eq) = true := by
  unfold math_IsNaN.f at h
  rw [bne] at h
  cases hb : (FloatKind.f64.format.order x x == some .eq)
  · rw [hb] at h; cases h
  · rfl
theorem good_finite {x : Nat} (h : spec_GoodReal.f x = true) : spec_l2Finite.f x = true := by
  unfold spec_GoodReal.f at h
  unfold spec_l2Finite.f
  simp only [Bool.and_eq_true] at h ⊢
  exact ⟨h.1, h.2.1⟩
theorem finite_nan {x : Nat} (h : spec_l2Finite.f x = true) : math_IsNaN.f x = false := by
  unfold spec_l2Finite.f at h
  simp only [Bool.and_eq_true, Bool.not_eq_true'] at h
  exact h.1
theorem not_one (x : Nat) : impl_isFinite_1.f x = !spec_l2Finite.f x := by
  unfold impl_isFinite_1.f spec_l2Finite.f
  cases math_IsNaN.f x <;> cases math_IsInf.f x <;> rfl
theorem nan_read {x : Nat} {s : Bool} {u : Nat} (h : Ieee.double.read x = .nan s u) : math_IsNaN.f x = true := by
  unfold math_IsNaN.f
  show ((Ieee.double.read x).order (Ieee.double.read x) != some .eq) = true
  rw [h]; rfl
theorem abs_eq {x : Nat} (hx : x < 18446744073709551616) : math_Abs.f x = x % 9223372036854775808 := by
  unfold math_Abs.f
  have h := u64_andNot_nat x 9223372036854775808 hx (by decide)
  rw [show ((9223372036854775808 : Nat) : Int) = 9223372036854775808 from rfl] at h
  rw [h]
  have e : x &&& (18446744073709551615 - 9223372036854775808) = x % 2 ^ 63 := by
    rw [show 18446744073709551615 - 9223372036854775808 = 2 ^ 63 - 1 from rfl, Nat.and_two_pow_sub_one_eq_mod]
  rw [e]; rfl
theorem inf_read {x : Nat} (hx : x < 18446744073709551616) {s : Bool} (h : Ieee.double.read x = .infinity s) : math_IsInf.f x = true := by
  have e0 : Ieee.double.signWeight = 9223372036854775808 := by decide
  have e1 : Ieee.double.infRung = 9218868437227405312 := by decide
  have e2 : Ieee.double.binade = 4503599627370496 := by decide
  have hr : x % 9223372036854775808 = 9218868437227405312 := by
    unfold Ieee.Format.read at h
    simp only [e0, e1, e2] at h
    split at h
    · cases h
    · split at h
      · cases h
      · split at h
        · assumption
        · cases h
  unfold math_IsInf.f
  rw [abs_eq hx, hr]
  decide +kernel
theorem finite_read {x : Nat} (hx : x < 18446744073709551616) (h : spec_l2Finite.f x = true) : ∃ s m e, Ieee.double.read x = .number s m e := by
  unfold spec_l2Finite.f at h
  simp only [Bool.and_eq_true, Bool.not_eq_true'] at h
  cases hr : Ieee.double.read x with
  | nan s u => rw [nan_read hr] at h; cases h.1
  | infinity s => rw [inf_read hx hr] at h; cases h.2
  | number s m e => exact ⟨s, m, e, rfl⟩
theorem inf_not (s : Bool) : spec_l2Finite.f (Ieee.double.write (.infinity s)) = false := by
  have h : math_IsInf.f (Ieee.double.write (.infinity s)) = true := by
    refine inf_read (s := s) ?_ ?_
    · cases s <;> decide +kernel
    · cases s <;> decide +kernel
  unfold spec_l2Finite.f
  rw [h, Bool.not_true, Bool.and_false]
theorem add_some {x y : Nat} (hx : x < 18446744073709551616) (hy : y < 18446744073709551616) (fx : spec_l2Finite.f x = true) (fy : spec_l2Finite.f y = true) : ∃ r, floatBits .add .f64 x y = some r ∧ r < 18446744073709551616 := by
  obtain ⟨s, m, e, h1⟩ := finite_read hx fx
  obtain ⟨t, n, f, h2⟩ := finite_read hy fy
  have h : ∃ r, Ieee.double.add x y = some r := by
    unfold Ieee.Format.add
    rw [h1, h2]
    exact ⟨_, rfl⟩
  obtain ⟨r, h⟩ := h
  exact ⟨r, h, Ieee.Format.add_lt _ h⟩
theorem sub_some {x y : Nat} (hx : x < 18446744073709551616) (hy : y < 18446744073709551616) (fx : spec_l2Finite.f x = true) (fy : spec_l2Finite.f y = true) : ∃ r, floatBits .sub .f64 x y = some r ∧ r < 18446744073709551616 := by
  obtain ⟨s, m, e, h1⟩ := finite_read hx fx
  obtain ⟨t, n, f, h2⟩ := finite_read hy fy
  have h : ∃ r, Ieee.double.sub x y = some r := by
    unfold Ieee.Format.sub
    rw [h1, h2]
    exact ⟨_, rfl⟩
  obtain ⟨r, h⟩ := h
  exact ⟨r, h, Ieee.Format.sub_lt _ h⟩
theorem mul_some {x y : Nat} (hx : x < 18446744073709551616) (hy : y < 18446744073709551616) (fx : spec_l2Finite.f x = true) (fy : spec_l2Finite.f y = true) : ∃ r, floatBits .mul .f64 x y = some r ∧ r < 18446744073709551616 := by
  obtain ⟨s, m, e, h1⟩ := finite_read hx fx
  obtain ⟨t, n, f, h2⟩ := finite_read hy fy
  have h : ∃ r, Ieee.double.mul x y = some r := by
    unfold Ieee.Format.mul
    rw [h1, h2]
    exact ⟨_, rfl⟩
  obtain ⟨r, h⟩ := h
  exact ⟨r, h, Ieee.Format.mul_lt _ h⟩
theorem num_read {x : Nat} (hx : x < 18446744073709551616) {s : Bool} {m : Nat} {e : Int} (h : Ieee.double.read x = .number s m e) : spec_l2Finite.f x = true := by
  have e0 : Ieee.double.signWeight = 9223372036854775808 := by decide
  have e1 : Ieee.double.infRung = 9218868437227405312 := by decide
  have e2 : Ieee.double.binade = 4503599627370496 := by decide
  have e3 : Ieee.double.leastPlace = -1074 := by decide
  have hn : math_IsNaN.f x = false := by
    unfold math_IsNaN.f
    show ((Ieee.double.read x).order (Ieee.double.read x) != some .eq) = false
    rw [h]
    simp [Ieee.Datum.order, compare, compareOfLessAndEq]
  have hg : ∃ m' e', Ieee.double.read (x % 9223372036854775808) = .number false m' e' ∧ m' ≤ 9007199254740991 ∧ e' ≤ 971 := by
    unfold Ieee.Format.read at h ⊢
    simp only [e0, e1, e2, e3] at h ⊢
    have q1 : x % 9223372036854775808 % 9223372036854775808 = x % 9223372036854775808 := Nat.mod_mod _ _
    have q2 : (x % 9223372036854775808 / 9223372036854775808 % 2 == 1) = false := by
      have : x % 9223372036854775808 / 9223372036854775808 = 0 := Nat.div_eq_of_lt (Nat.mod_lt _ (by decide))
      rw [this]; rfl
    rw [q1, q2]
    generalize hgg : x % 9223372036854775808 = g at h
    by_cases c1 : g < 4503599627370496
    · rw [if_pos c1]
      exact ⟨g, -1074, rfl, by omega, by omega⟩
    · rw [if_neg c1] at h ⊢
      by_cases c2 : g < 9218868437227405312
      · rw [if_pos c2]
        refine ⟨_, _, rfl, by omega, by omega⟩
      · rw [if_neg c2] at h
        split at h <;> cases h
  have hi : math_IsInf.f x = false := by
    obtain ⟨m', e', h1, h2, h3⟩ := hg
    unfold math_IsInf.f
    rw [abs_eq hx]
    show ((Ieee.double.read (x % 9223372036854775808)).order (Ieee.double.read 9218868437227405311) == some .gt) = false
    have hM : Ieee.double.read 9218868437227405311 = .number false 9007199254740991 971 := by decide +kernel
    rw [h1, hM]
    have hb : min e' 971 = e' := Int.min_eq_left h3
    have h4 : Ieee.signed false m' (e' - min e' 971).toNat = (m' : Int) := by
      rw [hb, Int.sub_self]; simp [Ieee.signed]
    have h5 : (9007199254740991 : Int) ≤ Ieee.signed false 9007199254740991 (971 - min e' 971).toNat := by
      have h6 : 9007199254740991 ≤ 9007199254740991 <<< (971 - min e' 971).toNat := by
        rw [Nat.shiftLeft_eq]
        exact Nat.le_mul_of_pos_right _ (Nat.pow_pos (by decide))
      simp only [Ieee.signed, Bool.false_eq_true, if_false]
      exact Int.ofNat_le.mpr h6
    have h7 : (Ieee.signed false m' (e' - min e' 971).toNat) ≤ (Ieee.signed false 9007199254740991 (971 - min e' 971).toNat) := by
      rw [h4]; omega
    simp only [Ieee.Datum.order, beq_eq_false_iff_ne, ne_eq, Option.some.injEq]
    intro hc
    have := (Int.compare_eq_gt).mp hc
    omega
  unfold spec_l2Finite.f
  rw [hn, hi]; rfl
/-- If a sum of a finite float with another is finite, so is the other. -/
theorem add_other {x y r : Nat} (hx : x < 18446744073709551616) (hy : y < 18446744073709551616) (fx : spec_l2Finite.f x = true) (h : floatBits .add .f64 x y = some r) (fr : spec_l2Finite.f r = true) : spec_l2Finite.f y = true := by
  obtain ⟨s, m, e, h1⟩ := finite_read hx fx
  replace h : Ieee.double.add x y = some r := h
  unfold Ieee.Format.add at h
  rw [h1] at h
  cases h2 : Ieee.double.read y with
  | nan t u => rw [h2] at h; cases h
  | infinity t =>
    rw [h2] at h
    have : r = Ieee.double.write (.infinity t) := (Option.some.inj h).symm
    rw [this, inf_not] at fr
    cases fr
  | number t n f => exact num_read hy h2
theorem plain_itself {x : Nat} (h : spec_l2Finite.f x = true) : (FloatKind.f64.format.order (spec_l2Plain.f x) (spec_l2Plain.f x) == some .eq) = true := by
  unfold spec_l2Plain.f
  split
  · decide +kernel
  · exact itself (finite_nan h)
theorem plain_alike (x : Nat) : impl_plain.f x = spec_l2Plain.f x := rfl
/-- What is written of a number is no NaN. -/
theorem write_not_nan (s : Bool) (m : Nat) (e : Int) : ∀ u v, Ieee.double.read (Ieee.double.write (.number s m e)) ≠ .nan u v := by
  have key : ∀ (s : Bool) (g : Nat), g ≤ 9218868437227405312 → ∀ u v, Ieee.double.read (Ieee.double.word s g) ≠ .nan u v := by
    intro s g hg u v h
    have e0 : Ieee.double.signWeight = 9223372036854775808 := by decide
    have e1 : Ieee.double.infRung = 9218868437227405312 := by decide
    have e2 : Ieee.double.binade = 4503599627370496 := by decide
    have em : Ieee.double.word s g % 9223372036854775808 = g := by
      cases s
      · show g % 9223372036854775808 = g; omega
      · show (9223372036854775808 + g) % 9223372036854775808 = g; omega
    unfold Ieee.Format.read at h
    simp only [e0, e1, e2, em] at h
    split at h
    · cases h
    · split at h
      · cases h
      · split at h
        · cases h
        · omega
  intro u v
  show Ieee.double.read (Ieee.double.nearest s m e) ≠ .nan u v
  unfold Ieee.Format.nearest
  split
  · exact key s 0 (by decide) u v
  · exact key s _ (Nat.min_le_right _ _) u v
/-- The one pure statement. -/
def laws_FnExactBlend_Pure : Prop := ∀ (a0 : Nat) (a1 : Nat) (a2 : Nat), (Lit.float .f64 a0).wf = true → (Lit.float .f64 a1).wf = true → (Lit.float .f64 a2).wf = true → laws_FnExactBlend.f a0 a1 a2 = some true
theorem wf_lt {x : Nat} (h : (Lit.float .f64 x).wf = true) : x < 18446744073709551616 := by
  simpa [Lit.wf] using h
theorem zero_itself : FloatKind.f64.format.order 0 0 = some .eq := by decide +kernel
theorem FnExactBlend : laws_FnExactBlend_Pure := by
  intro a b part wa wb wp
  replace wa := wf_lt wa
  replace wb := wf_lt wb
  replace wp := wf_lt wp
  unfold laws_FnExactBlend.f
  have hG : impl_areGood.f [a, b, part] = (spec_GoodReal.f a && (spec_GoodReal.f b && spec_GoodReal.f part)) := by
    unfold impl_areGood.f impl_areGood_1.f
    simp only [List.any_cons, List.any_nil, Bool.or_false, good_alike]
    cases spec_GoodReal.f a <;> cases spec_GoodReal.f b <;> cases spec_GoodReal.f part <;> rfl
  unfold spec_Blend.f impl_Blend.f
  rw [hG]
  cases hA : spec_GoodReal.f a
  · simp [zero_itself]
  cases hB : spec_GoodReal.f b
  · simp [zero_itself]
  cases hP : spec_GoodReal.f part
  · simp [zero_itself]
  simp only [Bool.and_self, Bool.true_eq_false, if_false]
  by_cases q1 : (FloatKind.f64.format.order part 0 == some .lt) = true
  · rw [if_pos q1, if_pos q1]; simp [zero_itself]
  rw [if_neg q1, if_neg q1]
  by_cases q2 : (FloatKind.f64.format.order part 4607182418800017408 == some .gt) = true
  · rw [if_pos q2, if_pos q2]; simp [zero_itself]
  rw [if_neg q2, if_neg q2]
  have fa := good_finite hA
  have fb := good_finite hB
  have fp := good_finite hP
  obtain ⟨d, hd, wd⟩ := sub_some wb wa fb fa
  rw [hd, Option.bind_some, Option.bind_some, not_one]
  cases fd : spec_l2Finite.f d
  · simp [zero_itself]
  obtain ⟨m, hm, wm⟩ := mul_some wd wp fd fp
  simp only [Bool.not_true, Bool.true_eq_false, Bool.false_eq_true, if_false, hm, Option.bind_some]
  have hx : ∃ x, floatBits .add .f64 a m = some x := by
    obtain ⟨s, n, e, h1⟩ := finite_read wa fa
    obtain ⟨s', n', e', h1'⟩ := finite_read wd fd
    obtain ⟨t, k, f, h2⟩ := finite_read wp fp
    have hm' : m = Ieee.double.write (.number (s' ^^ t) (n' * k) (e' + f)) := by
      have h := hm
      replace h : Ieee.double.mul d part = some m := h
      unfold Ieee.Format.mul at h
      rw [h1', h2] at h
      exact (Option.some.inj h).symm
    have hr : ∀ u v, Ieee.double.read m ≠ .nan u v := by
      rw [hm']
      exact write_not_nan _ _ _
    show ∃ x, Ieee.double.add a m = some x
    unfold Ieee.Format.add
    rw [h1]
    cases h3 : Ieee.double.read m with
    | nan u v => exact absurd h3 (hr u v)
    | infinity u => exact ⟨_, rfl⟩
    | number u v w => exact ⟨_, rfl⟩
  obtain ⟨x, hx⟩ := hx
  have wx : x < 18446744073709551616 := Ieee.Format.add_lt _ hx
  simp only [hx, Option.bind_some]
  have hF : impl_isFinite.f [d, m, x] = (spec_l2Finite.f m && spec_l2Finite.f x) := by
    unfold impl_isFinite.f
    simp only [List.any_cons, List.any_nil, Bool.or_false, not_one, fd]
    cases spec_l2Finite.f m <;> cases spec_l2Finite.f x <;> rfl
  rw [hF]
  cases fx : spec_l2Finite.f x
  · simp [zero_itself]
  have fm : spec_l2Finite.f m = true := add_other wa wm fa hx fx
  rw [fm]
  simp [plain_alike, beq_iff_eq.mp (plain_itself fx)]
end Go.Proofs.Ytijmnkfmkpejmaa.Pure
