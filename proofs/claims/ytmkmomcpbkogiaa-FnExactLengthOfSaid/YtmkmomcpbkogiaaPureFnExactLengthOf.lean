/- The program's LengthOf and the reference's answer alike at every two whole numbers. No condition. -/
import Derived.Test.YtmkmomcpbkogiaaPFnExactLengthOfx2
namespace Go.Proofs.Ytmkmomcpbkogiaa.Pure
open Go.RowKit Go.Proofs.Ytmkmomcpbkogiaa.PFnExactLengthOf Go.Proofs.YtmkmomcpbkogiaaW.PrintWords Go.Proofs.YtmkmomcpbkogiaaW.PrintLast Go.Proofs.YtmkmomcpbkogiaaW.PrintMore
set_option linter.unusedVariables false
set_option linter.unusedSimpArgs false
/-! #### whole numbers: wraps, quotients towards nought -/
theorem wrap_small {i : Int} (h0 : -9223372036854775808 ≤ i) (h1 : i ≤ 9223372036854775807) : wrap64 i = i := by unfold wrap64; omega
theorem tdiv_pos {a b : Int} (ha : 0 ≤ a) : Int.tdiv a b = a / b := Int.tdiv_eq_ediv_of_nonneg ha
theorem tmod_pos {a b : Int} (ha : 0 ≤ a) : Int.tmod a b = a % b := Int.tmod_eq_emod_of_nonneg ha
theorem tdiv_neg' {a b : Int} (ha : a < 0) : Int.tdiv a b = -((-a) / b) := by
  rw [← Int.tdiv_eq_ediv_of_nonneg (a := -a) (by omega), Int.neg_tdiv, Int.neg_neg]
theorem tmod_neg' {a b : Int} (ha : a < 0) : Int.tmod a b = -((-a) % b) := by
  rw [← Int.tmod_eq_emod_of_nonneg (a := -a) (by omega), Int.neg_tmod, Int.neg_neg]
theorem wf64 {a : Int} (h : (Lit.int .i64 a).wf = true) : -9223372036854775808 ≤ a ∧ a ≤ 9223372036854775807 := by
  simp [Lit.wf, IntKind.min, IntKind.max, IntKind.signed, IntKind.bits] at h
  omega
theorem ev_succ {α : Type} {g : Nat → Option α} {r : α} (h : Ev (fun k => g (k + 1)) r) : Ev g r := Ev.step (f := fun k => g (k + 1)) (fun _ => rfl) h
theorem ev_eq {α : Type} {g : Nat → Option α} {r : α} (h : ∀ k, g k = some r) : Ev g r := ⟨0, fun k _ => h k⟩
theorem ev_val {α : Type} {g : Nat → Option α} {r r' : α} (h : Ev g r) (e : r = r') : Ev g r' := e ▸ h
/-! #### is a number in a span -/
def inB (a b c : Int) : Bool := decide (b ≤ a ∧ a ≤ c)
theorem inB_iff {a b c : Int} : inB a b c = true ↔ b ≤ a ∧ a ≤ c := by unfold inB; rw [decide_eq_true_eq]
theorem spec_in (a b c : Int) : spec_l1In.f a b c = some (inB a b c) := by
  unfold spec_l1In.f inB
  by_cases h : a ≥ b
  · rw [if_pos h]; congr 1; rw [decide_eq_decide]; omega
  · rw [if_neg h]; congr 1; exact (decide_eq_false (by omega)).symm
theorem impl_in (a b c : Int) : impl_inRange.f a b c = some (inB a b c) := by
  unfold impl_inRange.f inB
  by_cases h : b ≤ a
  · rw [if_pos h]; congr 1; rw [decide_eq_decide]; omega
  · rw [if_neg h]; congr 1; exact (decide_eq_false (by omega)).symm
/-! #### loops that go up, from a place on -/
theorem Ev_up {σ ρ : Type} (g : Nat → Nat → σ → Option ρ) (n : Nat) (Inv : Nat → σ → Prop) (Post : ρ → Prop)
    (hend : ∀ s, Inv n s → ∃ r, Ev (fun k => g k n s) r ∧ Post r)
    (hstep : ∀ i s, i < n → Inv i s → (∃ r, Ev (fun k => g k i s) r ∧ Post r) ∨ (∃ s', Inv (i + 1) s' ∧ ∀ r, Ev (fun k => g k (i + 1) s') r → Ev (fun k => g k i s) r))
    (d : Nat) : ∀ i s, n - i = d → i ≤ n → Inv i s → ∃ r, Ev (fun k => g k i s) r ∧ Post r := by
  induction d with
  | zero =>
    intro i s hd hi hs
    obtain rfl : i = n := by omega
    exact hend s hs
  | succ d ih =>
    intro i s hd hi hs
    rcases hstep i s (by omega) hs with h | ⟨s', hs', hg⟩
    · exact h
    · obtain ⟨r, hr, hp⟩ := ih (i + 1) s' (by omega) (by omega) hs'
      exact ⟨r, hg r hr, hp⟩
theorem succ_cast {i n : Nat} (h : i < n) (hn : n ≤ 9223372036854775806) : wrap64 ((i : Int) + 1) = ((i + 1 : Nat) : Int) := by
  rw [wrap_small (by omega) (by omega)]; omega
theorem drop_cons {α : Type} {l : List α} {i : Nat} (h : i < l.length) : l.drop i = l[i] :: l.drop (i + 1) := List.drop_eq_getElem_cons h
theorem rd_at {l : List Int} {i : Nat} (h : i < l.length) : rd l (i : Int) = l[i] := by simp [rd, h]
/-! #### fixed numbers -/
def fixB (a : Int) : Bool := inB a (-1099511627776) 1099511627776
theorem fixB_iff {a : Int} : fixB a = true ↔ -1099511627776 ≤ a ∧ a ≤ 1099511627776 := inB_iff
theorem spec_fix (a : Int) : spec_GoodFixed.f a = some (fixB a) := by unfold spec_GoodFixed.f; rw [spec_in]; rfl
theorem impl_fix (a : Int) : impl_GoodFixed.f a = some (fixB a) := by unfold impl_GoodFixed.f; rw [impl_in]; rfl
theorem impl_fixes_from (l : List Int) (hl : l.length ≤ 9223372036854775806) (d : Nat) : ∀ i : Nat, l.length - i = d → i ≤ l.length → Ev (fun k => impl_areFixed.l0 k l (l.length : Int) (i : Int)) ((l.drop i).all fixB) := by
  induction d with
  | zero =>
    intro i hd hi
    have e : l.drop i = [] := List.drop_eq_nil_of_le (by omega)
    have h1 : ¬ (i : Int) < (l.length : Int) := by omega
    rw [e]
    refine ev_succ ?_
    simp only [impl_areFixed.l0, if_neg h1]
    exact Ev.now _
  | succ d ih =>
    intro i hd hi
    have hlt : i < l.length := by omega
    have h1 : (i : Int) < (l.length : Int) := by omega
    have h2 : 0 ≤ (i : Int) := by omega
    have hs := succ_cast hlt hl
    rw [drop_cons hlt, List.all_cons]
    refine ev_succ ?_
    simp only [impl_areFixed.l0, if_pos h1, if_pos h2, impl_fix, rd_at hlt, hs, Option.bind_some]
    cases hb : fixB l[i] with
    | true =>
      simp only [if_true, Bool.true_and]
      exact ih (i + 1) (by omega) (by omega)
    | false =>
      simp only [Bool.false_eq_true, if_false, Bool.false_and]
      exact Ev.now _
theorem impl_fixes (l : List Int) (hl : l.length ≤ 9223372036854775806) : Ev (fun k => impl_areFixed.f k l) (l.all fixB) := by
  have := impl_fixes_from l hl l.length 0 (by omega) (by omega)
  rw [List.drop_zero] at this
  exact this
/-! #### products of 128 bits -/
theorem wu (n : Int) : IntKind.u64.wrap n = n % 18446744073709551616 := by simp [IntKind.wrap, IntKind.bits, IntKind.signed]
theorem wu_in {n : Int} (h0 : 0 ≤ n) (h1 : n < 18446744073709551616) : IntKind.u64.wrap n = n := by rw [wu]; omega
theorem wraps_u64 (n : Int) (h₀ : 0 ≤ n) (h₁ : n < 2 ^ 64) : IntKind.u64.wrap n = n := wu_in h₀ (by simpa using h₁)
theorem or_join {m y : Int} (h0 : 0 ≤ m) (h1 : m < 4294967296) (g0 : 0 ≤ y) (g1 : y < 4294967296) : Go.bits .or .u64 (m * 4294967296) y = m * 4294967296 + y := by
  exact Go.bits_join .u64 64 (by decide) wraps_u64 32 (m * 4294967296) y (by omega) (by omega) (by omega) g0 (by omega) (by omega)
theorem mul_lt32 {a b : Int} (a0 : 0 ≤ a) (a1 : a < 4294967296) (b0 : 0 ≤ b) (b1 : b < 4294967296) : 0 ≤ a * b ∧ a * b ≤ 18446744065119617025 :=
  ⟨Int.mul_nonneg a0 b0, Int.le_trans (Int.mul_le_mul (show a ≤ 4294967295 by omega) (show b ≤ 4294967295 by omega) b0 (by omega)) (by omega)⟩
theorem spec_times {a b : Int} (a0 : 0 ≤ a) (a1 : a < 18446744073709551616) (b0 : 0 ≤ b) (b1 : b < 18446744073709551616) : spec_l1Times.f a b = some (a * b / 18446744073709551616, a * b % 18446744073709551616) := by
  unfold spec_l1Times.f
  rw [tdiv_pos a0, tdiv_pos b0, tmod_pos a0, tmod_pos b0]
  obtain ⟨y, hy⟩ : ∃ y, a / 4294967296 = y := ⟨_, rfl⟩
  obtain ⟨x, hx⟩ : ∃ x, a % 4294967296 = x := ⟨_, rfl⟩
  obtain ⟨v, hv⟩ : ∃ v, b / 4294967296 = v := ⟨_, rfl⟩
  obtain ⟨u, hu⟩ : ∃ u, b % 4294967296 = u := ⟨_, rfl⟩
  rw [hy, hx, hv, hu]
  have y0 : 0 ≤ y ∧ y < 4294967296 := by omega
  have x0 : 0 ≤ x ∧ x < 4294967296 := by omega
  have v0 : 0 ≤ v ∧ v < 4294967296 := by omega
  have u0 : 0 ≤ u ∧ u < 4294967296 := by omega
  have ha : a = y * 4294967296 + x := by omega
  have hb : b = v * 4294967296 + u := by omega
  clear hy hx hv hu a0 a1 b0 b1
  have P := mul_lt32 y0.1 y0.2 v0.1 v0.2
  have Q := mul_lt32 y0.1 y0.2 u0.1 u0.2
  have R := mul_lt32 x0.1 x0.2 v0.1 v0.2
  have S := mul_lt32 x0.1 x0.2 u0.1 u0.2
  have E : a * b = (y * v) * 18446744073709551616 + (y * u) * 4294967296 + (x * v) * 4294967296 + x * u := by
    rw [ha, hb, Int.add_mul, Int.mul_add, Int.mul_add]
    have e1 : y * 4294967296 * (v * 4294967296) = (y * v) * 18446744073709551616 := by
      rw [Int.mul_assoc, Int.mul_left_comm 4294967296 v 4294967296, ← Int.mul_assoc]; rfl
    have e2 : y * 4294967296 * u = (y * u) * 4294967296 := by rw [Int.mul_assoc, Int.mul_comm 4294967296 u, ← Int.mul_assoc]
    have e3 : x * (v * 4294967296) = (x * v) * 4294967296 := by rw [← Int.mul_assoc]
    rw [e1, e2, e3]; omega
  rw [E, wu_in (n := y) (by omega) (by omega), wu_in (n := v) (by omega) (by omega)]
  clear E ha hb
  generalize y * v = p at *
  generalize y * u = q at *
  generalize x * v = r at *
  generalize x * u = s at *
  rw [wu_in (n := p) (by omega) (by omega), wu_in (n := q) (by omega) (by omega), wu_in (n := r) (by omega) (by omega), wu_in (n := s) (by omega) (by omega)]
  rw [tdiv_pos (a := s) (by omega), tmod_pos (a := s) (by omega), wu_in (n := s / 4294967296) (by omega) (by omega), wu_in (n := q + s / 4294967296) (by omega) (by omega)]
  rw [tdiv_pos (a := q + s / 4294967296) (by omega), tmod_pos (a := q + s / 4294967296) (by omega), wu_in (n := (q + s / 4294967296) / 4294967296) (by omega) (by omega), wu_in (n := r + (q + s / 4294967296) % 4294967296) (by omega) (by omega)]
  rw [tdiv_pos (a := r + (q + s / 4294967296) % 4294967296) (by omega), wu_in (n := (r + (q + s / 4294967296) % 4294967296) / 4294967296) (by omega) (by omega)]
  rw [wu_in (n := p + (q + s / 4294967296) / 4294967296) (by omega) (by omega), wu_in (n := p + (q + s / 4294967296) / 4294967296 + (r + (q + s / 4294967296) % 4294967296) / 4294967296) (by omega) (by omega)]
  rw [wu, show (r + (q + s / 4294967296) % 4294967296) * 4294967296 % 18446744073709551616 = (r + (q + s / 4294967296) % 4294967296) % 4294967296 * 4294967296 by omega, or_join (by omega) (by omega) (by omega) (by omega)]
  congr 1
  rw [Prod.mk.injEq]
  omega
theorem spec_less {a b c d : Int} (b0 : 0 ≤ b) (b1 : b < 18446744073709551616) (d0 : 0 ≤ d) (d1 : d < 18446744073709551616) : spec_l1Less.f a b c d = some (decide (a * 18446744073709551616 + b < c * 18446744073709551616 + d)) := by
  unfold spec_l1Less.f
  by_cases h : a < c
  · rw [if_pos h, decide_eq_true (by omega)]
  · rw [if_neg h]
    by_cases e : a = c
    · rw [if_pos e]; congr 1; rw [decide_eq_decide]; omega
    · rw [if_neg e, decide_eq_false (by omega)]
/-! #### the root by halving -/
theorem spec_root_loop (h l : Int) (r : Int) (l0 : 0 ≤ l) (l1 : l < 18446744073709551616) (hr : ∀ n : Int, 0 ≤ n → n ≤ 4611686018427387904 → (n * n ≤ h * 18446744073709551616 + l ↔ n ≤ r)) (d : Nat) : ∀ lo hi : Int, 0 ≤ lo → lo ≤ r → lo ≤ hi → hi ≤ 4611686018427387904 → (hi - lo).toNat ≤ d →
    Ev (fun k => spec_l1Root.l0 k lo hi h l) (if hi ≤ r then hi else r) := by
  induction d with
  | zero =>
    intro lo hi h0 h1 h2 h3 hd
    have e : lo = hi := by omega
    refine ev_succ ?_
    simp only [spec_l1Root.l0, if_neg (show ¬ lo < hi by omega)]
    rw [if_pos (by omega), e]
    exact Ev.now _
  | succ d ih =>
    intro lo hi h0 h1 h2 h3 hd
    by_cases hlt : lo < hi
    · have em : IntKind.u64.wrap (lo + (IntKind.u64.wrap (Int.tdiv (IntKind.u64.wrap ((IntKind.u64.wrap (hi - lo)) + 1)) 2))) = lo + (hi - lo + 1) / 2 := by
        rw [wu_in (n := hi - lo) (by omega) (by omega), wu_in (n := hi - lo + 1) (by omega) (by omega), tdiv_pos (by omega), wu_in (n := (hi - lo + 1) / 2) (by omega) (by omega), wu_in (by omega) (by omega)]
      have m0 : lo < lo + (hi - lo + 1) / 2 := by omega
      have m1 : lo + (hi - lo + 1) / 2 ≤ hi := by omega
      refine ev_succ ?_
      simp only [spec_l1Root.l0, if_pos hlt, em]
      generalize lo + (hi - lo + 1) / 2 = m at *
      have hm := hr m (by omega) (by omega)
      simp only [spec_times (a := m) (b := m) (by omega) (by omega) (by omega) (by omega), Option.bind_some, spec_less (a := h) (b := l) (c := m * m / 18446744073709551616) (d := m * m % 18446744073709551616) l0 l1 (by omega) (by omega)]
      have eq : m * m / 18446744073709551616 * 18446744073709551616 + m * m % 18446744073709551616 = m * m := by omega
      rw [eq]
      by_cases c : h * 18446744073709551616 + l < m * m
      · simp only [decide_eq_true c, if_true, wu_in (n := m - 1) (by omega) (by omega)]
        have hx : ¬ m ≤ r := fun hh => by have := hm.2 hh; omega
        refine ev_val (ih lo (m - 1) h0 h1 (by omega) (by omega) (by omega)) ?_
        split <;> split <;> omega
      · simp only [decide_eq_false c, Bool.false_eq_true, if_false]
        have hx : m ≤ r := hm.1 (by omega)
        exact ih m hi (by omega) hx m1 h3 (by omega)
    · have e : lo = hi := by omega
      refine ev_succ ?_
      simp only [spec_l1Root.l0, if_neg hlt]
      rw [if_pos (by omega), e]
      exact Ev.now _
/-- The reference's root of a wide number, as far as 'most' goes. -/
theorem spec_root {h l most : Int} (l0 : 0 ≤ l) (l1 : l < 18446744073709551616) (h0 : 0 ≤ h) (m0 : 0 ≤ most) (m1 : most ≤ 4611686018427387904) :
    Ev (fun k => spec_l1Root.f k h l most) (if most ≤ (isq (h * 18446744073709551616 + l).toNat : Int) then most else (isq (h * 18446744073709551616 + l).toNat : Int)) := by
  unfold spec_l1Root.f
  refine spec_root_loop h l _ l0 l1 (fun n n0 n1 => ?_) most.toNat 0 most (by omega) (by omega) m0 m1 (by omega)
  obtain ⟨m, rfl⟩ := Int.eq_ofNat_of_zero_le n0
  have := isq_iff (h * 18446744073709551616 + l).toNat m
  have e : ((m : Int) * m) = ((m * m : Nat) : Int) := by rw [Int.natCast_mul]
  rw [e]
  omega
theorem spec_plus {h l b : Int} (h0 : 0 ≤ h) (h1 : h < 9223372036854775808) (l0 : 0 ≤ l) (l1 : l < 18446744073709551616) (b0 : 0 ≤ b) (b1 : b < 18446744073709551616) :
    spec_l1Plus.f h l b = some ((h * 18446744073709551616 + l + b) / 18446744073709551616, (h * 18446744073709551616 + l + b) % 18446744073709551616) := by
  unfold spec_l1Plus.f
  rw [wu, wu_in (n := h + 1) (by omega) (by omega)]
  by_cases c : (l + b) % 18446744073709551616 < l
  · rw [if_pos c]; congr 1; rw [Prod.mk.injEq]; omega
  · rw [if_neg c]; congr 1; rw [Prod.mk.injEq]; omega
theorem spec_sum {h l h' l' : Int} (h0 : 0 ≤ h) (h1 : h < 4611686018427387904) (l0 : 0 ≤ l) (l1 : l < 18446744073709551616) (g0 : 0 ≤ h') (g1 : h' < 4611686018427387904) (k0 : 0 ≤ l') (k1 : l' < 18446744073709551616) :
    spec_l1Sum.f h l h' l' = some ((h * 18446744073709551616 + l + (h' * 18446744073709551616 + l')) / 18446744073709551616, (h * 18446744073709551616 + l + (h' * 18446744073709551616 + l')) % 18446744073709551616) := by
  unfold spec_l1Sum.f
  rw [spec_plus h0 (by omega) l0 l1 k0 k1]
  simp only [Option.bind_some]
  rw [wu_in (by omega) (by omega)]
  congr 1; rw [Prod.mk.injEq]; omega
theorem spec_abs {a : Int} (h0 : -9223372036854775807 ≤ a) (h1 : a ≤ 9223372036854775807) : spec_l1Abs.f a = some (impl_LengthOf.abs a) := by
  unfold spec_l1Abs.f impl_LengthOf.abs
  split
  · rw [wrap_small (by omega) (by omega)]
  · rfl
theorem spec_squares {x y : Int} (a0 : -1099511627776 ≤ x) (a1 : x ≤ 1099511627776) (b0 : -1099511627776 ≤ y) (b1 : y ≤ 1099511627776) :
    spec_l1Squares.f x y = some ((impl_LengthOf.abs x * impl_LengthOf.abs x + impl_LengthOf.abs y * impl_LengthOf.abs y) / 18446744073709551616, (impl_LengthOf.abs x * impl_LengthOf.abs x + impl_LengthOf.abs y * impl_LengthOf.abs y) % 18446744073709551616) ∧ 0 ≤ impl_LengthOf.abs x * impl_LengthOf.abs x + impl_LengthOf.abs y * impl_LengthOf.abs y := by
  have I1 := impl_LengthOf.absIn a0 a1
  have I2 := impl_LengthOf.absIn b0 b1
  have P0 : 0 ≤ impl_LengthOf.abs x * impl_LengthOf.abs x := Int.mul_nonneg I1.1 I1.1
  have P1 : impl_LengthOf.abs x * impl_LengthOf.abs x ≤ 1099511627776 * 1099511627776 := Int.mul_le_mul I1.2 I1.2 I1.1 (by omega)
  have Q0 : 0 ≤ impl_LengthOf.abs y * impl_LengthOf.abs y := Int.mul_nonneg I2.1 I2.1
  have Q1 : impl_LengthOf.abs y * impl_LengthOf.abs y ≤ 1099511627776 * 1099511627776 := Int.mul_le_mul I2.2 I2.2 I2.1 (by omega)
  unfold spec_l1Squares.f
  simp only [spec_abs (a := x) (by omega) (by omega), spec_abs (a := y) (by omega) (by omega), Option.bind_some, wu_in (n := impl_LengthOf.abs x) (by omega) (by omega), wu_in (n := impl_LengthOf.abs y) (by omega) (by omega), spec_times (a := impl_LengthOf.abs x) (b := impl_LengthOf.abs x) (by omega) (by omega) (by omega) (by omega), spec_times (a := impl_LengthOf.abs y) (b := impl_LengthOf.abs y) (by omega) (by omega) (by omega) (by omega)]
  generalize impl_LengthOf.abs x * impl_LengthOf.abs x = P at *
  generalize impl_LengthOf.abs y * impl_LengthOf.abs y = Q at *
  rw [spec_sum (by omega) (by omega) (by omega) (by omega) (by omega) (by omega) (by omega) (by omega)]
  rw [show P / 18446744073709551616 * 18446744073709551616 + P % 18446744073709551616 + (Q / 18446744073709551616 * 18446744073709551616 + Q % 18446744073709551616) = P + Q by omega]
  exact ⟨rfl, by omega⟩
def lenV (a b : Int) : Int := if (fixB a && fixB b) = true then impl_LengthOf.g a b else 0
theorem spec_len_bad (a b : Int) : Ev (fun k => spec_LengthOf.j0 k a b true) 0 := by
  refine ev_succ ?_
  simp only [spec_LengthOf.j0, if_true]; exact Ev.now _
theorem spec_len_ok {a b : Int} (a0 : -1099511627776 ≤ a) (a1 : a ≤ 1099511627776) (b0 : -1099511627776 ≤ b) (b1 : b ≤ 1099511627776) : Ev (fun k => spec_LengthOf.j0 k a b false) (impl_LengthOf.g a b) := by
  refine ev_succ ?_
  obtain ⟨hs, h0⟩ := spec_squares a0 a1 b0 b1
  simp only [spec_LengthOf.j0, Bool.false_eq_true, if_false, hs, Option.bind_some]
  unfold impl_LengthOf.g
  generalize impl_LengthOf.abs a * impl_LengthOf.abs a + impl_LengthOf.abs b * impl_LengthOf.abs b = T at *
  refine Ev.bind (spec_root (h := T / 18446744073709551616) (l := T % 18446744073709551616) (by omega) (by omega) (by omega) (by omega) (by omega)) ?_
  rw [show T / 18446744073709551616 * 18446744073709551616 + T % 18446744073709551616 = T by omega]
  have e : wrap64 (if 1099511627776 ≤ (isq T.toNat : Int) then 1099511627776 else (isq T.toNat : Int)) = mn (isq T.toNat : Int) 1099511627776 := by
    unfold mn
    rw [wrap_small (by split <;> omega) (by split <;> omega)]
    split <;> split <;> omega
  rw [e]
  exact Ev.now _
theorem spec_len (a b : Int) : Ev (fun k => spec_LengthOf.f k a b) (lenV a b) := by
  unfold spec_LengthOf.f lenV
  simp only [spec_fix, Option.bind_some]
  cases hx : fixB a with
  | false => simp only [Bool.false_eq_true, if_false, Bool.false_and]; exact spec_len_bad a b
  | true =>
    cases hy : fixB b with
    | false => simp only [if_true, Bool.true_and, Bool.not_false, Bool.false_eq_true, if_false]; exact spec_len_bad a b
    | true =>
      have ba := fixB_iff.1 hx
      have bb := fixB_iff.1 hy
      simp only [if_true, Bool.true_and, Bool.not_true]
      exact spec_len_ok ba.1 ba.2 bb.1 bb.2
theorem impl_len (a b : Int) : Ev (fun k => impl_LengthOf.f k a b) (lenV a b) := by
  unfold impl_LengthOf.f lenV
  have hl := impl_fixes [a, b] (by simp)
  simp only [List.all_cons, List.all_nil, Bool.and_true] at hl
  refine Ev.bind hl ?_
  cases hx : fixB a && fixB b with
  | false => simp only [Bool.false_eq_true, if_false]; exact Ev.now _
  | true =>
    have h2 := Bool.and_eq_true_iff.1 hx
    have ba := fixB_iff.1 h2.1
    have bb := fixB_iff.1 h2.2
    simp only [if_true, if_pos (show -1099511627776 ≤ a ∧ a ≤ 1099511627776 ∧ -1099511627776 ≤ b ∧ b ≤ 1099511627776 from ⟨ba.1, ba.2, bb.1, bb.2⟩)]
    exact Ev.now _
theorem FnExactLengthOf : laws_FnExactLengthOf.Pure := by
  intro a b _ _
  apply Ev.rounds (r := true)
  unfold laws_FnExactLengthOf.f
  refine Ev.bind (spec_len a b) (Ev.bind (impl_len a b) ?_)
  simp only [if_true]
  exact Ev.now true
end Go.Proofs.Ytmkmomcpbkogiaa.Pure
