/- The program's FixRoot and the reference's answer alike at every whole number. No condition. -/
import Derived.Test.YtbmijcalkofegaaPFnExactFixRootx1
namespace Go.Proofs.Ytbmijcalkofegaa.Pure
open Go.RowKit Go.Proofs.Ytbmijcalkofegaa.PFnExactFixRoot Go.Proofs.YtbmijcalkofegaaW.PrintWords Go.Proofs.YtbmijcalkofegaaW.PrintLast Go.Proofs.YtbmijcalkofegaaW.PrintMore
set_option linter.unusedVariables false
set_option linter.unusedSimpArgs false
/-! #### whole numbers: wraps, quotients towards nought -/
theorem wrap_small {i : Int} (h0 : -9223372036854775808 ≤ i) (h1 : i ≤ 9223372036854775807) : wrap64 i = i := by unfold wrap64; omega
theorem tdiv_pos {a b : Int} (ha : 0 ≤ a) : Int.tdiv a b = a / b := Int.tdiv_eq_ediv_of_nonneg ha
theorem tmod_pos {a b : Int} (ha : 0 ≤ a) : Int.tmod a b = a % b := Int.tmod_eq_emod_of_nonneg ha
theorem tdiv_neg' {a b : Int} (ha : a < 0) : Int.tdiv a b = -((-a) / b) := by
  rw [← Int.tdiv_eq_ediv_of_nonneg (a := -a) (by omega), Int.neg_tdiv, Int.neg_neg]
theorem tmod_neg' {a b : Int} (ha : a < 0) : Int.tmod a b = -((-a) % b) := by
  rw [← Int.tmod_eq_emod_of_nonneg (a := -a) (by omega), Int.neg_tmod, Int.neg_neg]
theorem wf64 {a : Int} (h : (Lit.int .i64 a).wf = true) : -9223372036854775808 ≤ a ∧ a ≤ 9223372036854775807 := by
  simp [Lit.wf, IntKind.min, IntKind.max, IntKind.signed, IntKind.bits] at h
  omega
theorem ev_succ {α : Type} {g : Nat → Option α} {r : α} (h : Ev (fun k => g (k + 1)) r) : Ev g r := Ev.step (f := fun k => g (k + 1)) (fun _ => rfl) h
theorem ev_eq {α : Type} {g : Nat → Option α} {r : α} (h : ∀ k, g k = some r) : Ev g r := ⟨0, fun k _ => h k⟩
theorem ev_val {α : Type} {g : Nat → Option α} {r r' : α} (h : Ev g r) (e : r = r') : Ev g r' := e ▸ h
/-! #### is a number in a span -/
def inB (a b c : Int) : Bool := decide (b ≤ a ∧ a ≤ c)
theorem inB_iff {a b c : Int} : inB a b c = true ↔ b ≤ a ∧ a ≤ c := by unfold inB; rw [decide_eq_true_eq]
theorem spec_in (a b c : Int) : spec_l1In.f a b c = some (inB a b c) := by
  unfold spec_l1In.f inB
  by_cases h : a ≥ b
  · rw [if_pos h]; congr 1; rw [decide_eq_decide]; omega
  · rw [if_neg h]; congr 1; exact (decide_eq_false (by omega)).symm
theorem impl_in (a b c : Int) : impl_inRange.f a b c = some (inB a b c) := by
  unfold impl_inRange.f inB
  by_cases h : b ≤ a
  · rw [if_pos h]; congr 1; rw [decide_eq_decide]; omega
  · rw [if_neg h]; congr 1; exact (decide_eq_false (by omega)).symm
/-! #### products of 128 bits -/
theorem wu (n : Int) : IntKind.u64.wrap n = n % 18446744073709551616 := by simp [IntKind.wrap, IntKind.bits, IntKind.signed]
theorem wu_in {n : Int} (h0 : 0 ≤ n) (h1 : n < 18446744073709551616) : IntKind.u64.wrap n = n := by rw [wu]; omega
theorem wraps_u64 (n : Int) (h₀ : 0 ≤ n) (h₁ : n < 2 ^ 64) : IntKind.u64.wrap n = n := wu_in h₀ (by simpa using h₁)
theorem or_join {m y : Int} (h0 : 0 ≤ m) (h1 : m < 4294967296) (g0 : 0 ≤ y) (g1 : y < 4294967296) : Go.bits .or .u64 (m * 4294967296) y = m * 4294967296 + y := by
  exact Go.bits_join .u64 64 (by decide) wraps_u64 32 (m * 4294967296) y (by omega) (by omega) (by omega) g0 (by omega) (by omega)
theorem mul_lt32 {a b : Int} (a0 : 0 ≤ a) (a1 : a < 4294967296) (b0 : 0 ≤ b) (b1 : b < 4294967296) : 0 ≤ a * b ∧ a * b ≤ 18446744065119617025 :=
  ⟨Int.mul_nonneg a0 b0, Int.le_trans (Int.mul_le_mul (show a ≤ 4294967295 by omega) (show b ≤ 4294967295 by omega) b0 (by omega)) (by omega)⟩
theorem spec_times {a b : Int} (a0 : 0 ≤ a) (a1 : a < 18446744073709551616) (b0 : 0 ≤ b) (b1 : b < 18446744073709551616) : spec_l1Times.f a b = some (a * b / 18446744073709551616, a * b % 18446744073709551616) := by
  unfold spec_l1Times.f
  rw [tdiv_pos a0, tdiv_pos b0, tmod_pos a0, tmod_pos b0]
  obtain ⟨y, hy⟩ : ∃ y, a / 4294967296 = y := ⟨_, rfl⟩
  obtain ⟨x, hx⟩ : ∃ x, a % 4294967296 = x := ⟨_, rfl⟩
  obtain ⟨v, hv⟩ : ∃ v, b / 4294967296 = v := ⟨_, rfl⟩
  obtain ⟨u, hu⟩ : ∃ u, b % 4294967296 = u := ⟨_, rfl⟩
  rw [hy, hx, hv, hu]
  have y0 : 0 ≤ y ∧ y < 4294967296 := by omega
  have x0 : 0 ≤ x ∧ x < 4294967296 := by omega
  have v0 : 0 ≤ v ∧ v < 4294967296 := by omega
  have u0 : 0 ≤ u ∧ u < 4294967296 := by omega
  have ha : a = y * 4294967296 + x := by omega
  have hb : b = v * 4294967296 + u := by omega
  clear hy hx hv hu a0 a1 b0 b1
  have P := mul_lt32 y0.1 y0.2 v0.1 v0.2
  have Q := mul_lt32 y0.1 y0.2 u0.1 u0.2
  have R := mul_lt32 x0.1 x0.2 v0.1 v0.2
  have S := mul_lt32 x0.1 x0.2 u0.1 u0.2
  have E : a * b = (y * v) * 18446744073709551616 + (y * u) * 4294967296 + (x * v) * 4294967296 + x * u := by
    rw [ha, hb, Int.add_mul, Int.mul_add, Int.mul_add]
    have e1 : y * 4294967296 * (v * 4294967296) = (y * v) * 18446744073709551616 := by
      rw [Int.mul_assoc, Int.mul_left_comm 4294967296 v 4294967296, ← Int.mul_assoc]; rfl
    have e2 : y * 4294967296 * u = (y * u) * 4294967296 := by rw [Int.mul_assoc, Int.mul_comm 4294967296 u, ← Int.mul_assoc]
    have e3 : x * (v * 4294967296) = (x * v) * 4294967296 := by rw [← Int.mul_assoc]
    rw [e1, e2, e3]; omega
  rw [E, wu_in (n := y) (by omega) (by omega), wu_in (n := v) (by omega) (by omega)]
  clear E ha hb
  generalize y * v = p at *
  generalize y * u = q at *
  generalize x * v = r at *
  generalize x * u = s at *
  rw [wu_in (n := p) (by omega) (by omega), wu_in (n := q) (by omega) (by omega), wu_in (n := r) (by omega) (by omega), wu_in (n := s) (by omega) (by omega)]
  rw [tdiv_pos (a := s) (by omega), tmod_pos (a := s) (by omega), wu_in (n := s / 4294967296) (by omega) (by omega), wu_in (n := q + s / 4294967296) (by omega) (by omega)]
  rw [tdiv_pos (a := q + s / 4294967296) (by omega), tmod_pos (a := q + s / 4294967296) (by omega), wu_in (n := (q + s / 4294967296) / 4294967296) (by omega) (by omega), wu_in (n := r + (q + s / 4294967296) % 4294967296) (by omega) (by omega)]
  rw [tdiv_pos (a := r + (q + s / 4294967296) % 4294967296) (by omega), wu_in (n := (r + (q + s / 4294967296) % 4294967296) / 4294967296) (by omega) (by omega)]
  rw [wu_in (n := p + (q + s / 4294967296) / 4294967296) (by omega) (by omega), wu_in (n := p + (q + s / 4294967296) / 4294967296 + (r + (q + s / 4294967296) % 4294967296) / 4294967296) (by omega) (by omega)]
  rw [wu, show (r + (q + s / 4294967296) % 4294967296) * 4294967296 % 18446744073709551616 = (r + (q + s / 4294967296) % 4294967296) % 4294967296 * 4294967296 by omega, or_join (by omega) (by omega) (by omega) (by omega)]
  congr 1
  rw [Prod.mk.injEq]
  omega
theorem spec_less {a b c d : Int} (b0 : 0 ≤ b) (b1 : b < 18446744073709551616) (d0 : 0 ≤ d) (d1 : d < 18446744073709551616) : spec_l1Less.f a b c d = some (decide (a * 18446744073709551616 + b < c * 18446744073709551616 + d)) := by
  unfold spec_l1Less.f
  by_cases h : a < c
  · rw [if_pos h, decide_eq_true (by omega)]
  · rw [if_neg h]
    by_cases e : a = c
    · rw [if_pos e]; congr 1; rw [decide_eq_decide]; omega
    · rw [if_neg e, decide_eq_false (by omega)]
/-! #### the root by halving -/
theorem spec_root_loop (h l : Int) (r : Int) (l0 : 0 ≤ l) (l1 : l < 18446744073709551616) (hr : ∀ n : Int, 0 ≤ n → n ≤ 4611686018427387904 → (n * n ≤ h * 18446744073709551616 + l ↔ n ≤ r)) (d : Nat) : ∀ lo hi : Int, 0 ≤ lo → lo ≤ r → lo ≤ hi → hi ≤ 4611686018427387904 → (hi - lo).toNat ≤ d →
    Ev (fun k => spec_l1Root.l0 k lo hi h l) (if hi ≤ r then hi else r) := by
  induction d with
  | zero =>
    intro lo hi h0 h1 h2 h3 hd
    have e : lo = hi := by omega
    refine ev_succ ?_
    simp only [spec_l1Root.l0, if_neg (show ¬ lo < hi by omega)]
    rw [if_pos (by omega), e]
    exact Ev.now _
  | succ d ih =>
    intro lo hi h0 h1 h2 h3 hd
    by_cases hlt : lo < hi
    · have em : IntKind.u64.wrap (lo + (IntKind.u64.wrap (Int.tdiv (IntKind.u64.wrap ((IntKind.u64.wrap (hi - lo)) + 1)) 2))) = lo + (hi - lo + 1) / 2 := by
        rw [wu_in (n := hi - lo) (by omega) (by omega), wu_in (n := hi - lo + 1) (by omega) (by omega), tdiv_pos (by omega), wu_in (n := (hi - lo + 1) / 2) (by omega) (by omega), wu_in (by omega) (by omega)]
      have m0 : lo < lo + (hi - lo + 1) / 2 := by omega
      have m1 : lo + (hi - lo + 1) / 2 ≤ hi := by omega
      refine ev_succ ?_
      simp only [spec_l1Root.l0, if_pos hlt, em]
      generalize lo + (hi - lo + 1) / 2 = m at *
      have hm := hr m (by omega) (by omega)
      simp only [spec_times (a := m) (b := m) (by omega) (by omega) (by omega) (by omega), Option.bind_some, spec_less (a := h) (b := l) (c := m * m / 18446744073709551616) (d := m * m % 18446744073709551616) l0 l1 (by omega) (by omega)]
      have eq : m * m / 18446744073709551616 * 18446744073709551616 + m * m % 18446744073709551616 = m * m := by omega
      rw [eq]
      by_cases c : h * 18446744073709551616 + l < m * m
      · simp only [decide_eq_true c, if_true, wu_in (n := m - 1) (by omega) (by omega)]
        have hx : ¬ m ≤ r := fun hh => by have := hm.2 hh; omega
        refine ev_val (ih lo (m - 1) h0 h1 (by omega) (by omega) (by omega)) ?_
        split <;> split <;> omega
      · simp only [decide_eq_false c, Bool.false_eq_true, if_false]
        have hx : m ≤ r := hm.1 (by omega)
        exact ih m hi (by omega) hx m1 h3 (by omega)
    · have e : lo = hi := by omega
      refine ev_succ ?_
      simp only [spec_l1Root.l0, if_neg hlt]
      rw [if_pos (by omega), e]
      exact Ev.now _
/-- The reference's root of a wide number, as far as 'most' goes. -/
theorem spec_root {h l most : Int} (l0 : 0 ≤ l) (l1 : l < 18446744073709551616) (h0 : 0 ≤ h) (m0 : 0 ≤ most) (m1 : most ≤ 4611686018427387904) :
    Ev (fun k => spec_l1Root.f k h l most) (if most ≤ (isq (h * 18446744073709551616 + l).toNat : Int) then most else (isq (h * 18446744073709551616 + l).toNat : Int)) := by
  unfold spec_l1Root.f
  refine spec_root_loop h l _ l0 l1 (fun n n0 n1 => ?_) most.toNat 0 most (by omega) (by omega) m0 m1 (by omega)
  obtain ⟨m, rfl⟩ := Int.eq_ofNat_of_zero_le n0
  have := isq_iff (h * 18446744073709551616 + l).toNat m
  have e : ((m : Int) * m) = ((m * m : Nat) : Int) := by rw [Int.natCast_mul]
  rw [e]
  omega
theorem FnExactFixRoot : laws_FnExactFixRoot.Pure := by
  intro a ha
  have bd := wf64 ha
  apply Ev.rounds (r := true)
  unfold laws_FnExactFixRoot.f spec_FixRoot.f impl_FixRoot.f spec_GoodFixed.f
  simp only [spec_in, impl_in, Option.bind_some]
  by_cases h : 0 ≤ a ∧ a ≤ 1099511627776
  · have e1 : inB a 0 1099511627776 = true := inB_iff.2 h
    have e2 : inB a (-1099511627776) 1099511627776 = true := inB_iff.2 (by omega)
    simp only [e1, e2, if_true, if_neg (show ¬ a < 0 by omega), Bool.not_true]
    have ht := spec_times (a := a) (b := 65536) (by omega) (by omega) (by omega) (by omega)
    have le := impl_FixRoot.le h.2
    have hroot : Ev (fun k => spec_FixRoot.j0 k a false) (impl_FixRoot.g a) := by
      refine ev_succ ?_
      simp only [spec_FixRoot.j0, Bool.false_eq_true, if_false, wu_in (n := a) (by omega) (by omega), ht, Option.bind_some]
      refine Ev.bind (spec_root (by omega) (by omega) (by omega) (by omega) (by omega)) ?_
      have eq : a * 65536 / 18446744073709551616 * 18446744073709551616 + a * 65536 % 18446744073709551616 = a * 65536 := by omega
      rw [eq, if_neg (by omega), wrap_small (by omega) (by omega)]
      exact Ev.now _
    refine Ev.bind hroot ?_
    simp only [Option.bind_some, if_true]
    exact Ev.now true
  · have e1 : inB a 0 1099511627776 = false := Bool.eq_false_iff.2 (fun hh => h (inB_iff.1 hh))
    simp only [e1, Bool.false_eq_true, if_false, Option.bind_some]
    have hz : Ev (fun k => spec_FixRoot.j0 k a true) 0 := ev_succ (by simp only [spec_FixRoot.j0, if_true]; exact Ev.now _)
    by_cases c : a < 0
    · simp only [if_pos c]
      refine Ev.bind hz ?_
      simp only [if_true]
      exact Ev.now true
    · have e2 : inB a (-1099511627776) 1099511627776 = false := Bool.eq_false_iff.2 (fun hh => h (by have := inB_iff.1 hh; omega))
      simp only [if_neg c, e2, Bool.not_false]
      refine Ev.bind hz ?_
      simp only [if_true]
      exact Ev.now true
end Go.Proofs.Ytbmijcalkofegaa.Pure
