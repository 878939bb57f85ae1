/- The program's TweenAt and the reference's answer alike at every six whole numbers. No condition. -/
import Derived.Test.YtmkmomcpbkogiaaPFnExactTweenAtx3
namespace Go.Proofs.Ytmkmomcpbkogiaa.Pure
open Go.RowKit Go.Proofs.Ytmkmomcpbkogiaa.PFnExactTweenAt Go.Proofs.YtmkmomcpbkogiaaW.PrintWords Go.Proofs.YtmkmomcpbkogiaaW.PrintLast Go.Proofs.YtmkmomcpbkogiaaW.PrintMore
set_option linter.unusedVariables false
set_option linter.unusedSimpArgs false
/-! #### whole numbers: wraps, quotients towards nought -/
theorem wrap_small {i : Int} (h0 : -9223372036854775808 ≤ i) (h1 : i ≤ 9223372036854775807) : wrap64 i = i := by unfold wrap64; omega
theorem tdiv_pos {a b : Int} (ha : 0 ≤ a) : Int.tdiv a b = a / b := Int.tdiv_eq_ediv_of_nonneg ha
theorem tmod_pos {a b : Int} (ha : 0 ≤ a) : Int.tmod a b = a % b := Int.tmod_eq_emod_of_nonneg ha
theorem tdiv_neg' {a b : Int} (ha : a < 0) : Int.tdiv a b = -((-a) / b) := by
  rw [← Int.tdiv_eq_ediv_of_nonneg (a := -a) (by omega), Int.neg_tdiv, Int.neg_neg]
theorem tmod_neg' {a b : Int} (ha : a < 0) : Int.tmod a b = -((-a) % b) := by
  rw [← Int.tmod_eq_emod_of_nonneg (a := -a) (by omega), Int.neg_tmod, Int.neg_neg]
theorem wf64 {a : Int} (h : (Lit.int .i64 a).wf = true) : -9223372036854775808 ≤ a ∧ a ≤ 9223372036854775807 := by
  simp [Lit.wf, IntKind.min, IntKind.max, IntKind.signed, IntKind.bits] at h
  omega
theorem ev_succ {α : Type} {g : Nat → Option α} {r : α} (h : Ev (fun k => g (k + 1)) r) : Ev g r := Ev.step (f := fun k => g (k + 1)) (fun _ => rfl) h
theorem ev_eq {α : Type} {g : Nat → Option α} {r : α} (h : ∀ k, g k = some r) : Ev g r := ⟨0, fun k _ => h k⟩
theorem ev_val {α : Type} {g : Nat → Option α} {r r' : α} (h : Ev g r) (e : r = r') : Ev g r' := e ▸ h
/-! #### is a number in a span -/
def inB (a b c : Int) : Bool := decide (b ≤ a ∧ a ≤ c)
theorem inB_iff {a b c : Int} : inB a b c = true ↔ b ≤ a ∧ a ≤ c := by unfold inB; rw [decide_eq_true_eq]
theorem spec_in (a b c : Int) : spec_l1In.f a b c = some (inB a b c) := by
  unfold spec_l1In.f inB
  by_cases h : a ≥ b
  · rw [if_pos h]; congr 1; rw [decide_eq_decide]; omega
  · rw [if_neg h]; congr 1; exact (decide_eq_false (by omega)).symm
theorem impl_in (a b c : Int) : impl_inRange.f a b c = some (inB a b c) := by
  unfold impl_inRange.f inB
  by_cases h : b ≤ a
  · rw [if_pos h]; congr 1; rw [decide_eq_decide]; omega
  · rw [if_neg h]; congr 1; exact (decide_eq_false (by omega)).symm
/-! #### loops that go up, from a place on -/
theorem Ev_up {σ ρ : Type} (g : Nat → Nat → σ → Option ρ) (n : Nat) (Inv : Nat → σ → Prop) (Post : ρ → Prop)
    (hend : ∀ s, Inv n s → ∃ r, Ev (fun k => g k n s) r ∧ Post r)
    (hstep : ∀ i s, i < n → Inv i s → (∃ r, Ev (fun k => g k i s) r ∧ Post r) ∨ (∃ s', Inv (i + 1) s' ∧ ∀ r, Ev (fun k => g k (i + 1) s') r → Ev (fun k => g k i s) r))
    (d : Nat) : ∀ i s, n - i = d → i ≤ n → Inv i s → ∃ r, Ev (fun k => g k i s) r ∧ Post r := by
  induction d with
  | zero =>
    intro i s hd hi hs
    obtain rfl : i = n := by omega
    exact hend s hs
  | succ d ih =>
    intro i s hd hi hs
    rcases hstep i s (by omega) hs with h | ⟨s', hs', hg⟩
    · exact h
    · obtain ⟨r, hr, hp⟩ := ih (i + 1) s' (by omega) (by omega) hs'
      exact ⟨r, hg r hr, hp⟩
theorem succ_cast {i n : Nat} (h : i < n) (hn : n ≤ 9223372036854775806) : wrap64 ((i : Int) + 1) = ((i + 1 : Nat) : Int) := by
  rw [wrap_small (by omega) (by omega)]; omega
theorem drop_cons {α : Type} {l : List α} {i : Nat} (h : i < l.length) : l.drop i = l[i] :: l.drop (i + 1) := List.drop_eq_getElem_cons h
theorem rd_at {l : List Int} {i : Nat} (h : i < l.length) : rd l (i : Int) = l[i] := by simp [rd, h]
/-! #### fixed numbers -/
def fixB (a : Int) : Bool := inB a (-1099511627776) 1099511627776
theorem fixB_iff {a : Int} : fixB a = true ↔ -1099511627776 ≤ a ∧ a ≤ 1099511627776 := inB_iff
theorem spec_fix (a : Int) : spec_GoodFixed.f a = some (fixB a) := by unfold spec_GoodFixed.f; rw [spec_in]; rfl
theorem impl_fix (a : Int) : impl_GoodFixed.f a = some (fixB a) := by unfold impl_GoodFixed.f; rw [impl_in]; rfl
theorem impl_fixes_from (l : List Int) (hl : l.length ≤ 9223372036854775806) (d : Nat) : ∀ i : Nat, l.length - i = d → i ≤ l.length → Ev (fun k => impl_areFixed.l0 k l (l.length : Int) (i : Int)) ((l.drop i).all fixB) := by
  induction d with
  | zero =>
    intro i hd hi
    have e : l.drop i = [] := List.drop_eq_nil_of_le (by omega)
    have h1 : ¬ (i : Int) < (l.length : Int) := by omega
    rw [e]
    refine ev_succ ?_
    simp only [impl_areFixed.l0, if_neg h1]
    exact Ev.now _
  | succ d ih =>
    intro i hd hi
    have hlt : i < l.length := by omega
    have h1 : (i : Int) < (l.length : Int) := by omega
    have h2 : 0 ≤ (i : Int) := by omega
    have hs := succ_cast hlt hl
    rw [drop_cons hlt, List.all_cons]
    refine ev_succ ?_
    simp only [impl_areFixed.l0, if_pos h1, if_pos h2, impl_fix, rd_at hlt, hs, Option.bind_some]
    cases hb : fixB l[i] with
    | true =>
      simp only [if_true, Bool.true_and]
      exact ih (i + 1) (by omega) (by omega)
    | false =>
      simp only [Bool.false_eq_true, if_false, Bool.false_and]
      exact Ev.now _
theorem impl_fixes (l : List Int) (hl : l.length ≤ 9223372036854775806) : Ev (fun k => impl_areFixed.f k l) (l.all fixB) := by
  have := impl_fixes_from l hl l.length 0 (by omega) (by omega)
  rw [List.drop_zero] at this
  exact this
/-! #### products of 128 bits -/
theorem wu (n : Int) : IntKind.u64.wrap n = n % 18446744073709551616 := by simp [IntKind.wrap, IntKind.bits, IntKind.signed]
theorem wu_in {n : Int} (h0 : 0 ≤ n) (h1 : n < 18446744073709551616) : IntKind.u64.wrap n = n := by rw [wu]; omega
theorem wraps_u64 (n : Int) (h₀ : 0 ≤ n) (h₁ : n < 2 ^ 64) : IntKind.u64.wrap n = n := wu_in h₀ (by simpa using h₁)
theorem or_join {m y : Int} (h0 : 0 ≤ m) (h1 : m < 4294967296) (g0 : 0 ≤ y) (g1 : y < 4294967296) : Go.bits .or .u64 (m * 4294967296) y = m * 4294967296 + y := by
  exact Go.bits_join .u64 64 (by decide) wraps_u64 32 (m * 4294967296) y (by omega) (by omega) (by omega) g0 (by omega) (by omega)
theorem mul_lt32 {a b : Int} (a0 : 0 ≤ a) (a1 : a < 4294967296) (b0 : 0 ≤ b) (b1 : b < 4294967296) : 0 ≤ a * b ∧ a * b ≤ 18446744065119617025 :=
  ⟨Int.mul_nonneg a0 b0, Int.le_trans (Int.mul_le_mul (show a ≤ 4294967295 by omega) (show b ≤ 4294967295 by omega) b0 (by omega)) (by omega)⟩
theorem spec_times {a b : Int} (a0 : 0 ≤ a) (a1 : a < 18446744073709551616) (b0 : 0 ≤ b) (b1 : b < 18446744073709551616) : spec_l1Times.f a b = some (a * b / 18446744073709551616, a * b % 18446744073709551616) := by
  unfold spec_l1Times.f
  rw [tdiv_pos a0, tdiv_pos b0, tmod_pos a0, tmod_pos b0]
  obtain ⟨y, hy⟩ : ∃ y, a / 4294967296 = y := ⟨_, rfl⟩
  obtain ⟨x, hx⟩ : ∃ x, a % 4294967296 = x := ⟨_, rfl⟩
  obtain ⟨v, hv⟩ : ∃ v, b / 4294967296 = v := ⟨_, rfl⟩
  obtain ⟨u, hu⟩ : ∃ u, b % 4294967296 = u := ⟨_, rfl⟩
  rw [hy, hx, hv, hu]
  have y0 : 0 ≤ y ∧ y < 4294967296 := by omega
  have x0 : 0 ≤ x ∧ x < 4294967296 := by omega
  have v0 : 0 ≤ v ∧ v < 4294967296 := by omega
  have u0 : 0 ≤ u ∧ u < 4294967296 := by omega
  have ha : a = y * 4294967296 + x := by omega
  have hb : b = v * 4294967296 + u := by omega
  clear hy hx hv hu a0 a1 b0 b1
  have P := mul_lt32 y0.1 y0.2 v0.1 v0.2
  have Q := mul_lt32 y0.1 y0.2 u0.1 u0.2
  have R := mul_lt32 x0.1 x0.2 v0.1 v0.2
  have S := mul_lt32 x0.1 x0.2 u0.1 u0.2
  have E : a * b = (y * v) * 18446744073709551616 + (y * u) * 4294967296 + (x * v) * 4294967296 + x * u := by
    rw [ha, hb, Int.add_mul, Int.mul_add, Int.mul_add]
    have e1 : y * 4294967296 * (v * 4294967296) = (y * v) * 18446744073709551616 := by
      rw [Int.mul_assoc, Int.mul_left_comm 4294967296 v 4294967296, ← Int.mul_assoc]; rfl
    have e2 : y * 4294967296 * u = (y * u) * 4294967296 := by rw [Int.mul_assoc, Int.mul_comm 4294967296 u, ← Int.mul_assoc]
    have e3 : x * (v * 4294967296) = (x * v) * 4294967296 := by rw [← Int.mul_assoc]
    rw [e1, e2, e3]; omega
  rw [E, wu_in (n := y) (by omega) (by omega), wu_in (n := v) (by omega) (by omega)]
  clear E ha hb
  generalize y * v = p at *
  generalize y * u = q at *
  generalize x * v = r at *
  generalize x * u = s at *
  rw [wu_in (n := p) (by omega) (by omega), wu_in (n := q) (by omega) (by omega), wu_in (n := r) (by omega) (by omega), wu_in (n := s) (by omega) (by omega)]
  rw [tdiv_pos (a := s) (by omega), tmod_pos (a := s) (by omega), wu_in (n := s / 4294967296) (by omega) (by omega), wu_in (n := q + s / 4294967296) (by omega) (by omega)]
  rw [tdiv_pos (a := q + s / 4294967296) (by omega), tmod_pos (a := q + s / 4294967296) (by omega), wu_in (n := (q + s / 4294967296) / 4294967296) (by omega) (by omega), wu_in (n := r + (q + s / 4294967296) % 4294967296) (by omega) (by omega)]
  rw [tdiv_pos (a := r + (q + s / 4294967296) % 4294967296) (by omega), wu_in (n := (r + (q + s / 4294967296) % 4294967296) / 4294967296) (by omega) (by omega)]
  rw [wu_in (n := p + (q + s / 4294967296) / 4294967296) (by omega) (by omega), wu_in (n := p + (q + s / 4294967296) / 4294967296 + (r + (q + s / 4294967296) % 4294967296) / 4294967296) (by omega) (by omega)]
  rw [wu, show (r + (q + s / 4294967296) % 4294967296) * 4294967296 % 18446744073709551616 = (r + (q + s / 4294967296) % 4294967296) % 4294967296 * 4294967296 by omega, or_join (by omega) (by omega) (by omega) (by omega)]
  congr 1
  rw [Prod.mk.injEq]
  omega
theorem spec_less {a b c d : Int} (b0 : 0 ≤ b) (b1 : b < 18446744073709551616) (d0 : 0 ≤ d) (d1 : d < 18446744073709551616) : spec_l1Less.f a b c d = some (decide (a * 18446744073709551616 + b < c * 18446744073709551616 + d)) := by
  unfold spec_l1Less.f
  by_cases h : a < c
  · rw [if_pos h, decide_eq_true (by omega)]
  · rw [if_neg h]
    by_cases e : a = c
    · rw [if_pos e]; congr 1; rw [decide_eq_decide]; omega
    · rw [if_neg e, decide_eq_false (by omega)]
/-! #### a wide number divided, by halving; to the nearest -/
theorem spec_over_loop (h l b : Int) (hb : 0 < b) (hb1 : b < 18446744073709551616) (l0 : 0 ≤ l) (l1 : l < 18446744073709551616) (d : Nat) : ∀ lo hi : Int, 0 ≤ lo → lo ≤ (h * 18446744073709551616 + l) / b → lo ≤ hi → hi ≤ 4611686018427387904 → (hi - lo).toNat ≤ d →
    Ev (fun k => spec_l1Over.l0 k b lo hi h l) (if hi ≤ (h * 18446744073709551616 + l) / b then hi else (h * 18446744073709551616 + l) / b) := by
  induction d with
  | zero =>
    intro lo hi h0 h1 h2 h3 hd
    have e : lo = hi := by omega
    refine ev_succ ?_
    simp only [spec_l1Over.l0, if_neg (show ¬ lo < hi by omega)]
    rw [if_pos (by omega), e]
    exact Ev.now _
  | succ d ih =>
    intro lo hi h0 h1 h2 h3 hd
    by_cases hlt : lo < hi
    · have em : IntKind.u64.wrap (lo + (IntKind.u64.wrap (Int.tdiv (IntKind.u64.wrap ((IntKind.u64.wrap (hi - lo)) + 1)) 2))) = lo + (hi - lo + 1) / 2 := by
        rw [wu_in (n := hi - lo) (by omega) (by omega), wu_in (n := hi - lo + 1) (by omega) (by omega), tdiv_pos (by omega), wu_in (n := (hi - lo + 1) / 2) (by omega) (by omega), wu_in (by omega) (by omega)]
      have m0 : lo < lo + (hi - lo + 1) / 2 := by omega
      have m1 : lo + (hi - lo + 1) / 2 ≤ hi := by omega
      refine ev_succ ?_
      simp only [spec_l1Over.l0, if_pos hlt, em]
      generalize lo + (hi - lo + 1) / 2 = m at *
      have hm : m ≤ (h * 18446744073709551616 + l) / b ↔ m * b ≤ h * 18446744073709551616 + l := Int.le_ediv_iff_mul_le hb
      generalize (h * 18446744073709551616 + l) / b = r at *
      simp only [spec_times (a := m) (b := b) (by omega) (by omega) (by omega) hb1, Option.bind_some, spec_less (a := h) (b := l) (c := m * b / 18446744073709551616) (d := m * b % 18446744073709551616) l0 l1 (by omega) (by omega)]
      have eq : m * b / 18446744073709551616 * 18446744073709551616 + m * b % 18446744073709551616 = m * b := by omega
      rw [eq]
      by_cases c : h * 18446744073709551616 + l < m * b
      · simp only [decide_eq_true c, if_true, wu_in (n := m - 1) (by omega) (by omega)]
        have hx : ¬ m ≤ r := fun hh => by have := hm.1 hh; omega
        refine ev_val (ih lo (m - 1) h0 h1 (by omega) (by omega) (by omega)) ?_
        split <;> split <;> omega
      · simp only [decide_eq_false c, Bool.false_eq_true, if_false]
        have hx : m ≤ r := hm.2 (by omega)
        exact ih m hi (by omega) hx m1 h3 (by omega)
    · have e : lo = hi := by omega
      refine ev_succ ?_
      simp only [spec_l1Over.l0, if_neg hlt]
      rw [if_pos (by omega), e]
      exact Ev.now _
theorem spec_over {h l b most : Int} (hb : 0 < b) (hb1 : b < 18446744073709551616) (h0 : 0 ≤ h) (l0 : 0 ≤ l) (l1 : l < 18446744073709551616) (m0 : 0 ≤ most) (m1 : most ≤ 4611686018427387904) :
    Ev (fun k => spec_l1Over.f k h l b most) (if most ≤ (h * 18446744073709551616 + l) / b then most else (h * 18446744073709551616 + l) / b) := by
  unfold spec_l1Over.f
  exact spec_over_loop h l b hb hb1 l0 l1 most.toNat 0 most (by omega) (Int.ediv_nonneg (by omega) (by omega)) m0 m1 (by omega)
theorem spec_plus {h l b : Int} (h0 : 0 ≤ h) (h1 : h < 9223372036854775808) (l0 : 0 ≤ l) (l1 : l < 18446744073709551616) (b0 : 0 ≤ b) (b1 : b < 18446744073709551616) :
    spec_l1Plus.f h l b = some ((h * 18446744073709551616 + l + b) / 18446744073709551616, (h * 18446744073709551616 + l + b) % 18446744073709551616) := by
  unfold spec_l1Plus.f
  rw [wu, wu_in (n := h + 1) (by omega) (by omega)]
  by_cases c : (l + b) % 18446744073709551616 < l
  · rw [if_pos c]; congr 1; rw [Prod.mk.injEq]; omega
  · rw [if_neg c]; congr 1; rw [Prod.mk.injEq]; omega
theorem spec_sum {h l h' l' : Int} (h0 : 0 ≤ h) (h1 : h < 4611686018427387904) (l0 : 0 ≤ l) (l1 : l < 18446744073709551616) (g0 : 0 ≤ h') (g1 : h' < 4611686018427387904) (k0 : 0 ≤ l') (k1 : l' < 18446744073709551616) :
    spec_l1Sum.f h l h' l' = some ((h * 18446744073709551616 + l + (h' * 18446744073709551616 + l')) / 18446744073709551616, (h * 18446744073709551616 + l + (h' * 18446744073709551616 + l')) % 18446744073709551616) := by
  unfold spec_l1Sum.f
  rw [spec_plus h0 (by omega) l0 l1 k0 k1]
  simp only [Option.bind_some]
  rw [wu_in (by omega) (by omega)]
  congr 1; rw [Prod.mk.injEq]; omega
def cutV (a : Int) : Int := if a > 1099511627776 then 1099511627776 else if a < -1099511627776 then -1099511627776 else a
theorem spec_cut (a : Int) : spec_l1Cut.f a = some (cutV a) := by
  unfold spec_l1Cut.f cutV
  split
  · rfl
  · split <;> rfl
/-- Twice a number and b, less one below 0, by twice b: at most 2^42, and cut. -/
def nearV (neg : Bool) (t b : Int) : Int :=
  if neg = true then cutV (-(if 4398046511104 ≤ (2 * t + b - 1) / (2 * b) then 4398046511104 else (2 * t + b - 1) / (2 * b)))
  else cutV (if 4398046511104 ≤ (2 * t + b) / (2 * b) then 4398046511104 else (2 * t + b) / (2 * b))
theorem spec_near_j {b : Int} (b0 : 0 < b) (b1 : b < 4611686018427387904) (n : Int) (n0 : 0 ≤ n) (x : Bool) :
    Ev (fun k => spec_l1Near.j0 k x b (n / 18446744073709551616) (n % 18446744073709551616)) (if x = true then cutV (-(if 4398046511104 ≤ n / (2 * b) then 4398046511104 else n / (2 * b))) else cutV (if 4398046511104 ≤ n / (2 * b) then 4398046511104 else n / (2 * b))) := by
  have w2 : IntKind.u64.wrap (2 * b) = 2 * b := wu_in (by omega) (by omega)
  refine ev_succ ?_
  simp only [spec_l1Near.j0, w2]
  have hov := spec_over (h := n / 18446744073709551616) (l := n % 18446744073709551616) (b := 2 * b) (most := 4398046511104) (by omega) (by omega) (by omega) (by omega) (by omega) (by omega) (by omega)
  have en : n / 18446744073709551616 * 18446744073709551616 + n % 18446744073709551616 = n := by omega
  rw [en] at hov
  have q0 : 0 ≤ n / (2 * b) := Int.ediv_nonneg n0 (by omega)
  generalize n / (2 * b) = q at *
  have v0 : 0 ≤ (if 4398046511104 ≤ q then 4398046511104 else q) ∧ (if 4398046511104 ≤ q then 4398046511104 else q) ≤ 4398046511104 := by split <;> omega
  refine Ev.bind hov ?_
  generalize (if 4398046511104 ≤ q then 4398046511104 else q) = v at *
  rw [wrap_small (i := v) (by omega) (by omega), wrap_small (i := -v) (by omega) (by omega)]
  cases x with
  | true => simp only [if_true, spec_cut, Option.bind_some]; exact Ev.now _
  | false => simp only [Bool.false_eq_true, if_false, spec_cut, Option.bind_some]; exact Ev.now _
theorem twice_plus {t b : Int} : (t + t) / 18446744073709551616 * 18446744073709551616 + (t + t) % 18446744073709551616 + b = 2 * t + b := by omega
theorem near_dec {m : Int} (m0 : 0 < m) (m1 : m < 340282366920938463463374607431768211456) :
    (m % 18446744073709551616 = 0 → IntKind.u64.wrap (m / 18446744073709551616 - 1) = (m - 1) / 18446744073709551616) ∧ (m % 18446744073709551616 ≠ 0 → m / 18446744073709551616 = (m - 1) / 18446744073709551616) ∧ IntKind.u64.wrap (m % 18446744073709551616 - 1) = (m - 1) % 18446744073709551616 := by
  refine ⟨fun h => ?_, fun h => ?_, ?_⟩
  · rw [wu_in (by omega) (by omega)]; omega
  · omega
  · rw [wu]; omega
theorem spec_near {neg : Bool} {h l b : Int} (h0 : 0 ≤ h) (h1 : h < 2305843009213693952) (l0 : 0 ≤ l) (l1 : l < 18446744073709551616) (b0 : 0 < b) (b1 : b < 4611686018427387904) :
    Ev (fun k => spec_l1Near.f k neg h l b) (nearV neg (h * 18446744073709551616 + l) b) := by
  unfold spec_l1Near.f nearV
  have t0 : 0 ≤ h * 18446744073709551616 + l ∧ h * 18446744073709551616 + l < 42535295865117307932921825928971026432 := by omega
  simp only [spec_sum h0 (by omega) l0 l1 h0 (by omega) l0 l1, Option.bind_some]
  generalize h * 18446744073709551616 + l = t at *
  have hp := spec_plus (h := (t + t) / 18446744073709551616) (l := (t + t) % 18446744073709551616) (b := b) (by omega) (by omega) (by omega) (by omega) (by omega) (by omega)
  rw [twice_plus] at hp
  simp only [hp, Option.bind_some]
  cases neg with
  | false =>
    simp only [Bool.false_eq_true, if_false]
    have hk := spec_near_j b0 b1 (2 * t + b) (by omega) false
    simp only [Bool.false_eq_true, if_false] at hk
    exact hk
  | true =>
    simp only [if_true]
    have hk := spec_near_j b0 b1 (2 * t + b - 1) (by omega) true
    simp only [if_true] at hk
    obtain ⟨e1, e2, e3⟩ := near_dec (m := 2 * t + b) (by omega) (by omega)
    by_cases c : (2 * t + b) % 18446744073709551616 = 0
    · simp only [if_pos c, e1 c, e3]
      exact hk
    · simp only [if_neg c, e2 c, e3]
      exact hk
def absV (a : Int) : Int := if a < 0 then -a else a
theorem spec_abs {a : Int} (h0 : -9223372036854775807 ≤ a) (h1 : a ≤ 9223372036854775807) : spec_l1Abs.f a = some (absV a) := by
  unfold spec_l1Abs.f absV
  split
  · rw [wrap_small (by omega) (by omega)]
  · rfl
/-! #### the product of fixed numbers -/
theorem mul_near (a b : Int) :
    nearV ((decide (a < 0)) != (decide (b < 0))) (absV a * absV b) 65536 = impl_FixMul.g a b := by
  have e0 : absV a = impl_FixMul.abs a := rfl
  have e1 : absV b = impl_FixMul.abs b := rfl
  have a0 : 0 ≤ absV a := by unfold absV; split <;> omega
  have b0 : 0 ≤ absV b := by unfold absV; split <;> omega
  have t0 : 0 ≤ absV a * absV b := Int.mul_nonneg a0 b0
  unfold nearV impl_FixMul.g impl_FixMul.n
  rw [← e0, ← e1]
  generalize absV a * absV b = t at *
  cases (decide (a < 0)) != (decide (b < 0)) with
  | true =>
    simp only [if_true]
    unfold cutV mn
    repeat' split
    all_goals omega
  | false =>
    simp only [Bool.false_eq_true, if_false]
    unfold cutV mn
    repeat' split
    all_goals omega
/-- The product of two numbers as both sides say it. -/
def mulV (a b : Int) : Int := if (fixB a && fixB b) = true then impl_FixMul.g a b else 0
theorem spec_mul_j (a b : Int) (x : Bool) (hx : x = false → -1099511627776 ≤ a ∧ a ≤ 1099511627776 ∧ -1099511627776 ≤ b ∧ b ≤ 1099511627776) : Ev (fun k => spec_FixMul.j0 k a b x) (if x = true then 0 else impl_FixMul.g a b) := by
  refine ev_succ ?_
  cases x with
  | true => simp only [spec_FixMul.j0, if_true]; exact Ev.now _
  | false =>
    obtain ⟨a0, a1, b0, b1⟩ := hx rfl
    have c0 : 0 ≤ absV a ∧ absV a ≤ 1099511627776 := by unfold absV; split <;> omega
    have d0 : 0 ≤ absV b ∧ absV b ≤ 1099511627776 := by unfold absV; split <;> omega
    have t0 : 0 ≤ absV a * absV b := Int.mul_nonneg c0.1 d0.1
    have t1 : absV a * absV b ≤ 1099511627776 * 1099511627776 := Int.mul_le_mul c0.2 d0.2 d0.1 (by omega)
    simp only [spec_FixMul.j0, Bool.false_eq_true, if_false, spec_abs (a := a) (by omega) (by omega), spec_abs (a := b) (by omega) (by omega), Option.bind_some, wu_in (n := absV a) (by omega) (by omega), wu_in (n := absV b) (by omega) (by omega), spec_times (a := absV a) (b := absV b) (by omega) (by omega) (by omega) (by omega)]
    have hm := mul_near a b
    generalize absV a * absV b = t at *
    have hn := spec_near (neg := ((decide (a < 0)) != (decide (b < 0)))) (h := t / 18446744073709551616) (l := t % 18446744073709551616) (b := 65536) (by omega) (by omega) (by omega) (by omega) (by omega) (by omega)
    rw [show t / 18446744073709551616 * 18446744073709551616 + t % 18446744073709551616 = t by omega, hm] at hn
    exact Ev.bind hn (Ev.now _)
theorem spec_mul (a b : Int) : Ev (fun k => spec_FixMul.f k a b) (mulV a b) := by
  unfold spec_FixMul.f mulV
  simp only [spec_fix, Option.bind_some]
  cases hx : fixB a with
  | false =>
    simp only [Bool.false_eq_true, if_false, Bool.false_and]
    have h := spec_mul_j a b true (fun h => by cases h)
    simp only [if_true] at h
    exact h
  | true =>
    simp only [if_true, Bool.true_and]
    have ba := fixB_iff.1 hx
    have h := spec_mul_j a b (!fixB b) (fun h => by
      have bb := fixB_iff.1 (by simpa using h : fixB b = true)
      exact ⟨ba.1, ba.2, bb.1, bb.2⟩)
    cases hy : fixB b with
    | false => rw [hy] at h; simp only [Bool.not_false, if_true, Bool.false_eq_true, if_false] at h ⊢; exact h
    | true => rw [hy] at h; simp only [Bool.not_true, if_true, Bool.false_eq_true, if_false] at h ⊢; exact h
theorem impl_mul (a b : Int) : Ev (fun k => impl_FixMul.f k a b) (mulV a b) := by
  unfold impl_FixMul.f mulV
  have hl := impl_fixes [a, b] (by simp)
  simp only [List.all_cons, List.all_nil, Bool.and_true] at hl
  refine Ev.bind hl ?_
  cases hx : fixB a && fixB b with
  | false => simp only [Bool.false_eq_true, if_false]; exact Ev.now _
  | true =>
    have h2 := Bool.and_eq_true_iff.1 hx
    have ba := fixB_iff.1 h2.1
    have bb := fixB_iff.1 h2.2
    simp only [if_true, if_pos (show -1099511627776 ≤ a ∧ a ≤ 1099511627776 ∧ -1099511627776 ≤ b ∧ b ≤ 1099511627776 from ⟨ba.1, ba.2, bb.1, bb.2⟩)]
    exact Ev.now _
/-! #### easing -/
theorem ev_ite {α : Type} {b : Bool} {F G : Nat → Option α} {v : α} (h1 : b = true → Ev F v) (h2 : b = false → Ev G v) : Ev (fun k => if b = true then F k else G k) v := by
  cases b with
  | true => simp only [if_true]; exact h1 rfl
  | false => simp only [Bool.false_eq_true, if_false]; exact h2 rfl
def easeV (kind part : Int) : Int :=
  if inB part 0 65536 = true then (if kind = 1 then part else if kind = 2 then mulV part part else if kind = 3 then wrap64 (65536 - mulV (wrap64 (65536 - part)) (wrap64 (65536 - part))) else if kind = 4 then mulV (mulV part part) (wrap64 (196608 - wrap64 (2 * part))) else 0) else 0
theorem spec_ease (kind part : Int) : Ev (fun k => spec_EaseAt.f k kind part) (easeV kind part) := by
  unfold spec_EaseAt.f easeV
  simp only [spec_in, Option.bind_some]
  cases inB part 0 65536 with
  | false => simp only [Bool.false_eq_true, if_false]; exact Ev.now _
  | true =>
    simp only [if_true]
    refine Ev.bind (spec_mul part part) ?_
    by_cases h1 : kind = 1
    · simp only [if_pos h1]; exact Ev.now _
    · simp only [if_neg h1]
      by_cases h2 : kind = 2
      · simp only [if_pos h2]; exact Ev.now _
      · simp only [if_neg h2]
        by_cases h3 : kind = 3
        · simp only [if_pos h3]; exact Ev.bind (spec_mul _ _) (Ev.now _)
        · simp only [if_neg h3]
          by_cases h4 : kind = 4
          · simp only [if_pos h4]; exact Ev.bind (spec_mul _ _) (Ev.now _)
          · simp only [if_neg h4]; exact Ev.now _
theorem impl_ease (kind part : Int) : Ev (fun k => impl_EaseAt.f k kind part) (easeV kind part) := by
  unfold impl_EaseAt.f easeV
  simp only [impl_in, Option.bind_some]
  cases inB part 0 65536 with
  | false => simp only [Bool.false_eq_true, if_false]; exact Ev.now _
  | true =>
    simp only [if_true]
    by_cases h1 : kind = 1
    · simp only [if_pos h1]; exact Ev.now _
    · simp only [if_neg h1]
      by_cases h2 : kind = 2
      · simp only [if_pos h2]; exact Ev.bind (impl_mul _ _) (Ev.now _)
      · simp only [if_neg h2]
        by_cases h3 : kind = 3
        · simp only [if_pos h3]; exact Ev.bind (impl_mul _ _) (Ev.now _)
        · simp only [if_neg h3]
          by_cases h4 : kind = 4
          · simp only [if_pos h4]; exact Ev.bind (impl_mul _ _) (Ev.bind (impl_mul _ _) (Ev.now _))
          · simp only [if_neg h4]; exact Ev.now _
def tweenJ (a0 a1 a2 a3 a4 a5 : Int) : Int × Bool :=
  if a5 < a3 then (a0, true) else if a5 ≥ wrap64 (a3 + a4) then (a1, true) else
    if fixB (wrap64 (a0 + mulV (wrap64 (a1 - a0)) (easeV a2 (wrap64 (Int.tdiv (wrap64 ((wrap64 (a5 - a3)) * 65536)) a4))))) = true then (wrap64 (a0 + mulV (wrap64 (a1 - a0)) (easeV a2 (wrap64 (Int.tdiv (wrap64 ((wrap64 (a5 - a3)) * 65536)) a4)))), true) else (0, false)
def tweenOk (a0 a1 a2 a3 a4 a5 : Int) : Bool := fixB a0 && fixB a1 && fixB (wrap64 (a1 - a0)) && inB a2 1 4 && inB a3 0 100000 && inB a5 0 100000 && inB a4 1 100000
def tweenV (a0 a1 a2 a3 a4 a5 : Int) : Int × Bool := if tweenOk a0 a1 a2 a3 a4 a5 = true then tweenJ a0 a1 a2 a3 a4 a5 else (0, false)
theorem spec_tween_bad (a0 a1 a2 a3 a4 a5 : Int) : Ev (fun k => spec_TweenAt.j0 k a0 a1 a2 a3 a4 a5 true) (0, false) := by
  refine ev_succ ?_
  simp only [spec_TweenAt.j0, if_true]; exact Ev.now _
theorem spec_tween_ok (a0 a1 a2 a3 a4 a5 : Int) (h : a4 ≠ 0) : Ev (fun k => spec_TweenAt.j0 k a0 a1 a2 a3 a4 a5 false) (tweenJ a0 a1 a2 a3 a4 a5) := by
  refine ev_succ ?_
  unfold tweenJ
  simp only [spec_TweenAt.j0, Bool.false_eq_true, if_false]
  by_cases h1 : a5 < a3
  · simp only [if_pos h1]; exact Ev.now _
  · simp only [if_neg h1]
    by_cases h2 : a5 ≥ wrap64 (a3 + a4)
    · simp only [if_pos h2]; exact Ev.now _
    · simp only [if_neg h2, if_neg h, spec_fix, Option.bind_some]
      refine Ev.bind (spec_ease _ _) (Ev.bind (spec_mul _ _) ?_)
      split <;> exact Ev.now _
theorem impl_tween_bad (a0 a1 a2 a3 a4 a5 : Int) : Ev (fun k => impl_TweenAt.j0 k a0 a1 a2 a3 a4 a5 true) (0, false) := by
  refine ev_succ ?_
  simp only [impl_TweenAt.j0, if_true]; exact Ev.now _
theorem impl_tween_ok (a0 a1 a2 a3 a4 a5 : Int) (h : a4 ≠ 0) : Ev (fun k => impl_TweenAt.j0 k a0 a1 a2 a3 a4 a5 false) (tweenJ a0 a1 a2 a3 a4 a5) := by
  refine ev_succ ?_
  unfold tweenJ
  simp only [impl_TweenAt.j0, Bool.false_eq_true, if_false]
  by_cases h1 : a5 < a3
  · simp only [if_pos h1]; exact Ev.now _
  · simp only [if_neg h1]
    by_cases h2 : a5 ≥ wrap64 (a3 + a4)
    · simp only [if_pos h2]; exact Ev.now _
    · simp only [if_neg h2, if_neg h, impl_fix, Option.bind_some]
      refine Ev.bind (impl_ease _ _) (Ev.bind (impl_mul _ _) ?_)
      split <;> exact Ev.now _
theorem spec_tween (a0 a1 a2 a3 a4 a5 : Int) : Ev (fun k => spec_TweenAt.f k a0 a1 a2 a3 a4 a5) (tweenV a0 a1 a2 a3 a4 a5) := by
  unfold spec_TweenAt.f tweenV tweenOk
  simp only [spec_fix, spec_in, Option.bind_some]
  have hb := spec_tween_bad a0 a1 a2 a3 a4 a5
  cases fixB a0 <;> simp only [Bool.false_eq_true, if_false, if_true, Bool.false_and, Bool.true_and] <;> try exact hb
  cases fixB a1 <;> simp only [Bool.false_eq_true, if_false, if_true, Bool.false_and, Bool.true_and] <;> try exact hb
  cases fixB (wrap64 (a1 - a0)) <;> simp only [Bool.false_eq_true, if_false, if_true, Bool.false_and, Bool.true_and] <;> try exact hb
  cases inB a2 1 4 <;> simp only [Bool.false_eq_true, if_false, if_true, Bool.false_and, Bool.true_and] <;> try exact hb
  cases inB a3 0 100000 <;> simp only [Bool.false_eq_true, if_false, if_true, Bool.false_and, Bool.true_and] <;> try exact hb
  cases inB a5 0 100000 <;> simp only [Bool.false_eq_true, if_false, if_true, Bool.false_and, Bool.true_and] <;> try exact hb
  cases h : inB a4 1 100000 <;> simp only [Bool.false_eq_true, if_false, if_true, Bool.not_false, Bool.not_true] <;> try exact hb
  have := inB_iff.1 h
  exact spec_tween_ok a0 a1 a2 a3 a4 a5 (by omega)
theorem impl_tween (a0 a1 a2 a3 a4 a5 : Int) : Ev (fun k => impl_TweenAt.f k a0 a1 a2 a3 a4 a5) (tweenV a0 a1 a2 a3 a4 a5) := by
  unfold impl_TweenAt.f tweenV tweenOk impl_isTime.f
  have hl := impl_fixes [a0, a1, wrap64 (a1 - a0)] (by simp)
  simp only [List.all_cons, List.all_nil, Bool.and_true] at hl
  rw [Bool.and_assoc (fixB a0)]
  refine Ev.bind hl ?_
  simp only [impl_in, Option.bind_some]
  have hb := impl_tween_bad a0 a1 a2 a3 a4 a5
  cases (fixB a0 && (fixB a1 && fixB (wrap64 (a1 - a0)))) <;> simp only [Bool.false_eq_true, if_false, if_true, Bool.false_and, Bool.true_and] <;> try exact hb
  cases inB a2 1 4 <;> simp only [Bool.false_eq_true, if_false, if_true, Bool.false_and, Bool.true_and] <;> try exact hb
  cases inB a3 0 100000 <;> simp only [Bool.false_eq_true, if_false, if_true, Bool.false_and, Bool.true_and] <;> try exact hb
  cases h : inB a4 1 100000 <;> simp only [Bool.false_eq_true, if_false, if_true, Bool.and_false, Bool.and_true] <;> try exact hb
  have := inB_iff.1 h
  cases inB a5 0 100000 <;> simp only [Bool.false_eq_true, if_false, if_true, Bool.not_false, Bool.not_true] <;> try exact hb
  exact impl_tween_ok a0 a1 a2 a3 a4 a5 (by omega)
theorem FnExactTweenAt : laws_FnExactTweenAt.Pure := by
  intro a0 a1 a2 a3 a4 a5 _ _ _ _ _ _
  apply Ev.rounds (r := true)
  unfold laws_FnExactTweenAt.f
  refine Ev.bind (spec_tween a0 a1 a2 a3 a4 a5) (Ev.bind (impl_tween a0 a1 a2 a3 a4 a5) ?_)
  simp only [if_true, bne_self_eq_false, Bool.false_eq_true, if_false]
  exact Ev.now true
end Go.Proofs.Ytmkmomcpbkogiaa.Pure
