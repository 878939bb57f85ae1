/- The program's PushPair and the reference's answer alike at every two bodies and bounce. No condition. -/
import Derived.Test.YtlijlailbjjfbaaPFnExactPushPairx9
namespace Go.Proofs.Ytlijlailbjjfbaa.Pure
open Go.RowKit Go.Proofs.Ytlijlailbjjfbaa.PFnExactPushPair Go.Proofs.YtlijlailbjjfbaaW.PrintWords Go.Proofs.YtlijlailbjjfbaaW.PrintLast Go.Proofs.YtlijlailbjjfbaaW.PrintMore
set_option linter.unusedVariables false
set_option linter.unusedSimpArgs false
/-- The one pure statement. -/
def laws_FnExactPushPair_Pure : Prop := ∀ (a0_0 : Int) (a0_1 : Int) (a0_2 : Int) (a0_3 : Int) (a1_0 : Int) (a1_1 : Int) (a1_2 : Int) (a1_3 : Int) (a2 : Int), (Lit.int .i64 a0_0).wf = true → (Lit.int .i64 a0_1).wf = true → (Lit.int .i64 a0_2).wf = true → (Lit.int .i64 a0_3).wf = true → (Lit.int .i64 a1_0).wf = true → (Lit.int .i64 a1_1).wf = true → (Lit.int .i64 a1_2).wf = true → (Lit.int .i64 a1_3).wf = true → (Lit.int .i64 a2).wf = true → ∃ k, laws_FnExactPushPair.f k a0_0 a0_1 a0_2 a0_3 a1_0 a1_1 a1_2 a1_3 a2 = some true
/-! #### whole numbers: wraps, quotients towards nought -/
theorem wrap_small {i : Int} (h0 : -9223372036854775808 ≤ i) (h1 : i ≤ 9223372036854775807) : wrap64 i = i := by unfold wrap64; omega
theorem tdiv_pos {a b : Int} (ha : 0 ≤ a) : Int.tdiv a b = a / b := Int.tdiv_eq_ediv_of_nonneg ha
theorem tmod_pos {a b : Int} (ha : 0 ≤ a) : Int.tmod a b = a % b := Int.tmod_eq_emod_of_nonneg ha
theorem tdiv_neg' {a b : Int} (ha : a < 0) : Int.tdiv a b = -((-a) / b) := by
  rw [← Int.tdiv_eq_ediv_of_nonneg (a := -a) (by omega), Int.neg_tdiv, Int.neg_neg]
theorem tmod_neg' {a b : Int} (ha : a < 0) : Int.tmod a b = -((-a) % b) := by
  rw [← Int.tmod_eq_emod_of_nonneg (a := -a) (by omega), Int.neg_tmod, Int.neg_neg]
theorem wf64 {a : Int} (h : (Lit.int .i64 a).wf = true) : -9223372036854775808 ≤ a ∧ a ≤ 9223372036854775807 := by
  simp [Lit.wf, IntKind.min, IntKind.max, IntKind.signed, IntKind.bits] at h
  omega
theorem ev_succ {α : Type} {g : Nat → Option α} {r : α} (h : Ev (fun k => g (k + 1)) r) : Ev g r := Ev.step (f := fun k => g (k + 1)) (fun _ => rfl) h
theorem ev_eq {α : Type} {g : Nat → Option α} {r : α} (h : ∀ k, g k = some r) : Ev g r := ⟨0, fun k _ => h k⟩
theorem ev_val {α : Type} {g : Nat → Option α} {r r' : α} (h : Ev g r) (e : r = r') : Ev g r' := e ▸ h
/-! #### is a number in a span -/
def inB (a b c : Int) : Bool := decide (b ≤ a ∧ a ≤ c)
theorem inB_iff {a b c : Int} : inB a b c = true ↔ b ≤ a ∧ a ≤ c := by unfold inB; rw [decide_eq_true_eq]
theorem spec_in (a b c : Int) : spec_l1In.f a b c = some (inB a b c) := by
  unfold spec_l1In.f inB
  by_cases h : a ≥ b
  · rw [if_pos h]; congr 1; rw [decide_eq_decide]; omega
  · rw [if_neg h]; congr 1; exact (decide_eq_false (by omega)).symm
theorem impl_in (a b c : Int) : impl_inRange.f a b c = some (inB a b c) := by
  unfold impl_inRange.f inB
  by_cases h : b ≤ a
  · rw [if_pos h]; congr 1; rw [decide_eq_decide]; omega
  · rw [if_neg h]; congr 1; exact (decide_eq_false (by omega)).symm
/-! #### loops that go up, from a place on -/
theorem Ev_up {σ ρ : Type} (g : Nat → Nat → σ → Option ρ) (n : Nat) (Inv : Nat → σ → Prop) (Post : ρ → Prop)
    (hend : ∀ s, Inv n s → ∃ r, Ev (fun k => g k n s) r ∧ Post r)
    (hstep : ∀ i s, i < n → Inv i s → (∃ r, Ev (fun k => g k i s) r ∧ Post r) ∨ (∃ s', Inv (i + 1) s' ∧ ∀ r, Ev (fun k => g k (i + 1) s') r → Ev (fun k => g k i s) r))
    (d : Nat) : ∀ i s, n - i = d → i ≤ n → Inv i s → ∃ r, Ev (fun k => g k i s) r ∧ Post r := by
  induction d with
  | zero =>
    intro i s hd hi hs
    obtain rfl : i = n := by omega
    exact hend s hs
  | succ d ih =>
    intro i s hd hi hs
    rcases hstep i s (by omega) hs with h | ⟨s', hs', hg⟩
    · exact h
    · obtain ⟨r, hr, hp⟩ := ih (i + 1) s' (by omega) (by omega) hs'
      exact ⟨r, hg r hr, hp⟩
theorem succ_cast {i n : Nat} (h : i < n) (hn : n ≤ 9223372036854775806) : wrap64 ((i : Int) + 1) = ((i + 1 : Nat) : Int) := by
  rw [wrap_small (by omega) (by omega)]; omega
theorem drop_cons {α : Type} {l : List α} {i : Nat} (h : i < l.length) : l.drop i = l[i] :: l.drop (i + 1) := List.drop_eq_getElem_cons h
theorem rd_at {l : List Int} {i : Nat} (h : i < l.length) : rd l (i : Int) = l[i] := by simp [rd, h]
/-! #### bodies on a line -/
theorem rd31 {l : List S31} {i : Nat} (h : i < l.length) : rd_T31 l (i : Int) = l[i] := by simp [rd_T31, h]
theorem getB {l : List S31} {i : Nat} (h : i < l.length) : l.getD i z31 = l[i] := by simp [h]
def bodyB (x : S31) : Bool := inB x.f0 (-1000000000) 1000000000 && (inB x.f1 (-1000000) 1000000 && (inB x.f2 0 12 && ((decide (x.f2 > 0) || decide (x.f1 = 0)) && inB x.f3 1 1000)))
theorem spec_body (x : S31) : spec_l10Body.f x.f0 x.f1 x.f2 x.f3 = some (bodyB x) := by
  unfold spec_l10Body.f bodyB
  simp only [spec_in, Option.bind_some]
  cases inB x.f0 (-1000000000) 1000000000 <;> cases inB x.f1 (-1000000) 1000000 <;> cases inB x.f2 0 12 <;> by_cases h1 : x.f2 > 0 <;> by_cases h2 : x.f1 = 0 <;> simp [h1, h2]
theorem impl_body (x : S31) : impl_isBody.f x.f0 x.f1 x.f2 x.f3 = some (bodyB x) := by
  unfold impl_isBody.f bodyB
  simp only [impl_in, Option.bind_some]
  cases inB x.f0 (-1000000000) 1000000000 <;> cases inB x.f1 (-1000000) 1000000 <;> cases inB x.f2 0 12 <;> by_cases h1 : x.f2 > 0 <;> by_cases h2 : x.f1 = 0 <;> simp [h1, h2]
def gapB (l : List S31) (i : Nat) : Bool := !(decide (wrap64 ((l.getD (i - 1) z31).f0 + (l.getD (i - 1) z31).f3) > wrap64 ((l.getD i z31).f0 - (l.getD i z31).f3)))
def gapsFrom (l : List S31) : Nat → Nat → Bool
  | 0, _ => true
  | d + 1, i => gapB l i && gapsFrom l d (i + 1)
def lineFrom (l : List S31) : Nat → Nat → Bool
  | 0, _ => true
  | d + 1, i => (bodyB (l.getD i z31) && (decide (i = 0) || gapB l i)) && lineFrom l d (i + 1)
theorem bpred {i : Nat} (h0 : i ≠ 0) (h1 : i ≤ 4398046511104) : wrap64 ((i : Int) - 1) = ((i - 1 : Nat) : Int) := by rw [wrap_small (by omega) (by omega)]; omega
theorem spec_line_from (l : List S31) (hl : l.length ≤ 4398046511104) (d : Nat) : ∀ i : Nat, l.length - i = d → i ≤ l.length → Ev (fun k => spec_GoodLine.l0 k l l (l.length : Int) (i : Int)) (lineFrom l d i) := by
  induction d with
  | zero =>
    intro i hd hi
    refine ev_succ ?_
    simp only [spec_GoodLine.l0, if_neg (show ¬ (i : Int) < (l.length : Int) by omega)]
    exact Ev.now _
  | succ d ih =>
    intro i hd hi
    have hlt : i < l.length := by omega
    have ihn := ih (i + 1) (by omega) (by omega)
    refine ev_succ ?_
    unfold lineFrom gapB
    rw [getB hlt]
    simp only [spec_GoodLine.l0, if_pos (show (i : Int) < (l.length : Int) by omega), if_pos (show (0 : Int) ≤ (i : Int) by omega), rd31 hlt, spec_body, Option.bind_some, succ_cast hlt (by omega)]
    cases bodyB l[i] with
    | false => simp only [Bool.false_eq_true, if_false, Bool.false_and]; exact Ev.now _
    | true =>
      simp only [if_true, Bool.true_and]
      by_cases c0 : i = 0
      · simp only [if_neg (show ¬ (i : Int) > 0 by omega), decide_eq_true c0, Bool.true_or, Bool.true_and]
        exact ihn
      · have h1 : i - 1 < l.length := by omega
        simp only [if_pos (show (i : Int) > 0 by omega), bpred c0 (by omega), if_pos (show (0 : Int) ≤ ((i - 1 : Nat) : Int) by omega), if_pos (show ((i - 1 : Nat) : Int) < (l.length : Int) by omega), rd31 h1, getB h1, decide_eq_false c0, Bool.false_or]
        by_cases c1 : wrap64 (l[i - 1].f0 + l[i - 1].f3) > wrap64 (l[i].f0 - l[i].f3)
        · simp only [if_pos c1, decide_eq_true c1, Bool.not_true, Bool.false_and]; exact Ev.now _
        · simp only [if_neg c1, decide_eq_false c1, Bool.not_false, Bool.true_and]; exact ihn
theorem impl_gaps_from (l : List S31) (hl : l.length ≤ 4398046511104) (d : Nat) : ∀ i : Nat, l.length - i = d → i ≠ 0 → Ev (fun k => impl_apart.l0 k l (i : Int)) (gapsFrom l d i) := by
  induction d with
  | zero =>
    intro i hd hi
    refine ev_succ ?_
    simp only [impl_apart.l0, if_neg (show ¬ (i : Int) < (l.length : Int) by omega)]
    exact Ev.now _
  | succ d ih =>
    intro i hd c0
    have hlt : i < l.length := by omega
    have ihn := ih (i + 1) (by omega) (by omega)
    have h1 : i - 1 < l.length := by omega
    refine ev_succ ?_
    unfold gapsFrom gapB
    rw [getB hlt]
    simp only [impl_apart.l0, if_pos (show (i : Int) < (l.length : Int) by omega), if_pos (show (0 : Int) ≤ (i : Int) by omega), bpred c0 (by omega), if_pos (show (0 : Int) ≤ ((i - 1 : Nat) : Int) by omega), if_pos (show ((i - 1 : Nat) : Int) < (l.length : Int) by omega), rd31 hlt, rd31 h1, getB h1, succ_cast hlt (by omega)]
    by_cases c1 : wrap64 (l[i - 1].f0 + l[i - 1].f3) > wrap64 (l[i].f0 - l[i].f3)
    · simp only [if_pos c1, decide_eq_true c1, Bool.not_true, Bool.false_and]; exact Ev.now _
    · simp only [if_neg c1, decide_eq_false c1, Bool.not_false, Bool.true_and]; exact ihn
theorem line_split (l : List S31) (d : Nat) : ∀ i : Nat, l.length - i = d → i ≠ 0 → lineFrom l d i = ((l.drop i).all bodyB && gapsFrom l d i) := by
  induction d with
  | zero =>
    intro i hd hi
    rw [List.drop_eq_nil_of_le (by omega)]
    rfl
  | succ d ih =>
    intro i hd c0
    have hlt : i < l.length := by omega
    rw [drop_cons hlt, List.all_cons]
    unfold lineFrom gapsFrom
    rw [ih (i + 1) (by omega) (by omega), getB hlt, decide_eq_false c0, Bool.false_or]
    cases bodyB l[i] <;> cases gapB l i <;> cases (l.drop (i + 1)).all bodyB <;> simp
theorem line_all (l : List S31) : lineFrom l l.length 0 = (l.all bodyB && gapsFrom l (l.length - 1) 1) := by
  by_cases c : l.length = 0
  · have e : l = [] := List.eq_nil_of_length_eq_zero c
    subst e
    rfl
  · have hlt : 0 < l.length := by omega
    obtain ⟨d, hd⟩ : ∃ d, l.length = d + 1 := ⟨l.length - 1, by omega⟩
    have hs := line_split l d 1 (by omega) (by omega)
    have ha : l.all bodyB = (bodyB l[0] && (l.drop 1).all bodyB) := by
      have := drop_cons hlt
      rw [List.drop_zero] at this
      conv => lhs; rw [this]
      rw [List.all_cons]
    rw [hd, Nat.add_sub_cancel, ha]
    unfold lineFrom
    rw [hs, getB hlt, decide_eq_true rfl, Bool.true_or, Bool.and_true, Bool.and_assoc]
def lineB (l : List S31) : Bool := decide ((l.length : Int) ≤ 20) && lineFrom l l.length 0
theorem spec_line (l : List S31) : Ev (fun k => spec_GoodLine.f k l) (lineB l) := by
  unfold spec_GoodLine.f lineB
  by_cases c : (l.length : Int) > 20
  · rw [decide_eq_false (show ¬ (l.length : Int) ≤ 20 by omega)]
    simp only [if_pos c, Bool.false_and]
    exact Ev.now _
  · rw [decide_eq_true (show (l.length : Int) ≤ 20 by omega)]
    simp only [if_neg c, Bool.true_and]
    exact spec_line_from l (by omega) l.length 0 (by omega) (by omega)
theorem impl_line (l : List S31) : Ev (fun k => impl_GoodLine.f k l) (lineB l) := by
  unfold impl_GoodLine.f lineB
  by_cases c : (l.length : Int) ≤ 20
  · have h : anyO impl_GoodLine.on l = some (l.any fun a => !(bodyB a)) := anyO_some _ (fun a _ => by
      unfold impl_GoodLine.on impl_GoodLine_1.f
      rw [impl_body]; rfl)
    rw [decide_eq_true c, line_all]
    simp only [if_pos c, h, Option.bind_some, Bool.true_and]
    have e : (l.any fun a => !(bodyB a)) = !(l.all bodyB) := by
      rw [← List.not_all_eq_any_not]
    rw [e]
    cases l.all bodyB with
    | false => simp only [Bool.not_false, if_true, Bool.false_and]; exact Ev.now _
    | true =>
      simp only [Bool.not_true, Bool.false_eq_true, if_false, Bool.true_and]
      exact impl_gaps_from l (by omega) (l.length - 1) 1 (by omega) (by omega)
  · rw [decide_eq_false c]
    simp only [if_neg c, Bool.false_and]
    exact Ev.now _
/-! #### pushes of bodies on a line -/
theorem body_bd {x : S31} (h : bodyB x = true) : -1000000 ≤ x.f1 ∧ x.f1 ≤ 1000000 ∧ 0 ≤ x.f2 ∧ x.f2 ≤ 12 ∧ (x.f2 = 0 → x.f1 = 0) := by
  unfold bodyB at h
  simp only [Bool.and_eq_true, inB_iff, Bool.or_eq_true, decide_eq_true_eq] at h
  omega
theorem pm_bd {p m : Int} (h0 : -1000000 ≤ p) (h1 : p ≤ 1000000) (m0 : 0 ≤ m) (m1 : m ≤ 12) : -12000000 ≤ p * m ∧ p * m ≤ 12000000 := by
  have a1 := Int.mul_le_mul_of_nonneg_right h1 m0
  have a2 := Int.mul_le_mul_of_nonneg_right h0 m0
  omega
def nearN (a b : S31) : Int := a.f1 * mx b.f2 1 - b.f1 * mx a.f2 1
def farB (a b : S31) : Bool := decide (wrap64 (a.f0 + a.f3) < wrap64 (b.f0 - b.f3))
def nearB (a b : S31) : Bool := !(decide (a.f2 = 0) && decide (b.f2 = 0)) && decide (nearN a b > 0)
def jV (a b : S31) (c : Int) : Int :=
  if b.f2 = 0 then wrap64 (Int.tdiv (wrap64 (wrap64 (100 + c) * a.f1)) 100)
  else if a.f2 = 0 then wrap64 (Int.tdiv (wrap64 (wrap64 (100 + c) * wrap64 (-b.f1))) 100)
  else wrap64 (Int.tdiv (wrap64 (wrap64 (100 + c) * nearN a b)) (wrap64 (100 * wrap64 (a.f2 + b.f2))))
def atP (b : S31) (p : Int) : S31 := ⟨b.f0, p, b.f2, b.f3⟩
def pushB (a b : S31) (j : Int) : S31 × S31 := (if a.f2 > 0 then atP a (wrap64 (a.f1 - j)) else a, if b.f2 > 0 then atP b (wrap64 (b.f1 + j)) else b)
def pairV (a b : S31) (c : Int) : S31 × S31 := if (farB a b || !nearB a b) = true then (a, b) else pushB a b (jV a b c)
def eightOf (p : S31 × S31) : Int × Int × Int × Int × Int × Int × Int × Int := (p.1.f0, p.1.f1, p.1.f2, p.1.f3, p.2.f0, p.2.f1, p.2.f2, p.2.f3)
theorem mx_pos {m : Int} (h : 0 < m) : mx m 1 = m := by unfold mx; rw [if_neg (by omega)]
theorem mx_zero {m : Int} (h : m = 0) : mx m 1 = 1 := by subst h; rfl
theorem mx_bd {m : Int} (h0 : 0 ≤ m) (h1 : m ≤ 12) : 0 ≤ mx m 1 ∧ mx m 1 ≤ 12 := by unfold mx; split <;> omega
theorem near_wrap {a b : S31} (ha : bodyB a = true) (hb : bodyB b = true) : wrap64 (wrap64 (a.f1 * mx b.f2 1) - wrap64 (b.f1 * mx a.f2 1)) = nearN a b := by
  obtain ⟨p0, p1, m0, m1, _⟩ := body_bd ha
  obtain ⟨q0, q1, n0, n1, _⟩ := body_bd hb
  have g1 := mx_bd m0 m1
  have g2 := mx_bd n0 n1
  have b1 := pm_bd p0 p1 g2.1 g2.2
  have b2 := pm_bd q0 q1 g1.1 g1.2
  unfold nearN
  rw [wrap_small (i := a.f1 * mx b.f2 1) (by omega) (by omega), wrap_small (i := b.f1 * mx a.f2 1) (by omega) (by omega), wrap_small (by omega) (by omega)]
theorem spec_push_end (a b : S31) (j : Int) : Ev (fun k => spec_l10Pair.j1 k j a.f0 a.f1 a.f2 a.f3 b.f0 b.f1 b.f2 b.f3) (eightOf (pushB a b j)) := by
  refine ev_succ ?_
  unfold eightOf pushB
  simp only [spec_l10Pair.j1]
  by_cases c : a.f2 > 0 <;> by_cases c' : b.f2 > 0 <;> simp only [c, c', if_true, if_false] <;> exact Ev.now _
theorem impl_push_end (a b : S31) (j : Int) : Ev (fun k => impl_pushed.j1 k j a.f0 a.f1 a.f2 a.f3 b.f0 b.f1 b.f2 b.f3) (eightOf (pushB a b j)) := by
  refine ev_succ ?_
  unfold eightOf pushB
  simp only [impl_pushed.j1]
  by_cases c : a.f2 > 0 <;> by_cases c' : b.f2 > 0 <;> simp only [c, c', if_true, if_false] <;> exact Ev.now _
theorem den_ne {a b : S31} (ha : bodyB a = true) (hb : bodyB b = true) (h : ¬ a.f2 = 0) : ¬ wrap64 (100 * wrap64 (a.f2 + b.f2)) = 0 := by
  obtain ⟨p0, p1, m0, m1, _⟩ := body_bd ha
  obtain ⟨q0, q1, n0, n1, _⟩ := body_bd hb
  rw [wrap_small (i := a.f2 + b.f2) (by omega) (by omega), wrap_small (by omega) (by omega)]
  omega
theorem spec_near {a b : S31} (ha : bodyB a = true) (hb : bodyB b = true) : Ev (fun k => spec_l10Near.f k a.f0 a.f1 a.f2 a.f3 b.f0 b.f1 b.f2 b.f3) (nearB a b) := by
  obtain ⟨p0, p1, m0, m1, z1⟩ := body_bd ha
  obtain ⟨q0, q1, n0, n1, z2⟩ := body_bd hb
  unfold spec_l10Near.f nearB nearN
  by_cases c1 : a.f2 = 0
  · simp only [if_pos c1, decide_eq_true c1, Bool.true_and]
    by_cases c2 : b.f2 = 0
    · refine ev_succ ?_
      simp only [c2, BEq.rfl, spec_l10Near.j0, if_true, decide_true, Bool.not_true, Bool.false_and]
      exact Ev.now _
    · have e : (b.f2 == 0) = false := beq_eq_false_iff_ne.2 c2
      refine ev_succ ?_
      simp only [e, spec_l10Near.j0, Bool.false_eq_true, if_false, if_pos c1, decide_eq_false c2, Bool.not_false, Bool.true_and, mx_zero c1, mx_pos (show 0 < b.f2 by omega), z1 c1]
      refine ev_val (Ev.now _) ?_
      rw [decide_eq_decide]; omega
  · simp only [if_neg c1, decide_eq_false c1, Bool.false_and, Bool.not_false, Bool.true_and]
    refine ev_succ ?_
    simp only [spec_l10Near.j0, Bool.false_eq_true, if_false, if_neg c1]
    by_cases c2 : b.f2 = 0
    · simp only [if_pos c2, mx_zero c2, mx_pos (show 0 < a.f2 by omega), z2 c2]
      refine ev_val (Ev.now _) ?_
      rw [decide_eq_decide]; omega
    · have b1 := pm_bd p0 p1 n0 n1
      have b2 := pm_bd q0 q1 m0 m1
      simp only [if_neg c2, mx_pos (show 0 < a.f2 by omega), mx_pos (show 0 < b.f2 by omega)]
      rw [wrap_small (i := a.f1 * b.f2) (by omega) (by omega), wrap_small (i := b.f1 * a.f2) (by omega) (by omega)]
      refine ev_val (Ev.now _) ?_
      rw [decide_eq_decide]; omega
theorem spec_pair {a b : S31} (c : Int) (ha : bodyB a = true) (hb : bodyB b = true) : Ev (fun k => spec_l10Pair.f k a.f0 a.f1 a.f2 a.f3 b.f0 b.f1 b.f2 b.f3 c) (eightOf (pairV a b c)) := by
  obtain ⟨p0, p1, m0, m1, z1⟩ := body_bd ha
  obtain ⟨q0, q1, n0, n1, z2⟩ := body_bd hb
  unfold spec_l10Pair.f pairV farB
  by_cases f : wrap64 (a.f0 + a.f3) < wrap64 (b.f0 - b.f3)
  · simp only [if_pos f, decide_eq_true f, Bool.true_or, if_true]
    exact Ev.step (fun k => by simp only [spec_l10Pair.j0, if_true, eightOf]) (Ev.now _)
  · simp only [if_neg f, decide_eq_false f, Bool.false_or]
    refine Ev.bind (spec_near ha hb) ?_
    cases hn : nearB a b with
    | false =>
      simp only [Bool.not_false, if_true]
      exact Ev.step (fun k => by simp only [spec_l10Pair.j0, if_true, eightOf]) (Ev.now _)
    | true =>
      simp only [Bool.not_true, Bool.false_eq_true, if_false]
      refine ev_succ ?_
      simp only [spec_l10Pair.j0, Bool.false_eq_true, if_false]
      unfold jV
      by_cases c1 : a.f2 = 0
      · have c2 : ¬ b.f2 = 0 := by
          intro c2
          unfold nearB at hn
          rw [decide_eq_true c1, decide_eq_true c2] at hn
          cases hn
        simp only [if_pos c1, if_neg c2]
        exact spec_push_end a b _
      · simp only [if_neg c1]
        by_cases c2 : b.f2 = 0
        · simp only [if_pos c2]
          exact spec_push_end a b _
        · have b1 := pm_bd p0 p1 n0 n1
          have b2 := pm_bd q0 q1 m0 m1
          have e : wrap64 (wrap64 (a.f1 * b.f2) - wrap64 (b.f1 * a.f2)) = nearN a b := by
            unfold nearN
            rw [mx_pos (show 0 < a.f2 by omega), mx_pos (show 0 < b.f2 by omega), wrap_small (i := a.f1 * b.f2) (by omega) (by omega), wrap_small (i := b.f1 * a.f2) (by omega) (by omega), wrap_small (by omega) (by omega)]
          simp only [if_neg c2, if_neg (den_ne ha hb c1), e]
          exact spec_push_end a b _
theorem impl_pair {a b : S31} (c : Int) (ha : bodyB a = true) (hb : bodyB b = true) : Ev (fun k => impl_pushed.f k a.f0 a.f1 a.f2 a.f3 b.f0 b.f1 b.f2 b.f3 c) (eightOf (pairV a b c)) := by
  obtain ⟨p0, p1, m0, m1, z1⟩ := body_bd ha
  obtain ⟨q0, q1, n0, n1, z2⟩ := body_bd hb
  have rest : (¬ a.f2 = 0 ∨ ¬ b.f2 = 0) → ¬ wrap64 (a.f0 + a.f3) < wrap64 (b.f0 - b.f3) → Ev (fun k => impl_pushed.j0 k c (nearN a b) (decide (nearN a b ≤ 0)) a.f0 a.f1 a.f2 a.f3 b.f0 b.f1 b.f2 b.f3) (eightOf (pairV a b c)) := by
    intro hz f
    refine ev_succ ?_
    have eb : (decide (a.f2 = 0) && decide (b.f2 = 0)) = false := by
      rcases hz with h | h
      · rw [decide_eq_false h, Bool.false_and]
      · rw [decide_eq_false h, Bool.and_false]
    unfold pairV farB nearB
    rw [eb, decide_eq_false f, Bool.false_or, Bool.not_false, Bool.true_and]
    by_cases hp : nearN a b > 0
    · have hp' : ¬ nearN a b ≤ 0 := by omega
      simp only [decide_eq_true hp, decide_eq_false hp', Bool.not_true, impl_pushed.j0, Bool.false_eq_true, if_false]
      unfold jV
      by_cases c2 : b.f2 = 0
      · simp only [if_pos c2]
        exact impl_push_end a b _
      · simp only [if_neg c2]
        by_cases c1 : a.f2 = 0
        · simp only [if_pos c1]
          exact impl_push_end a b _
        · simp only [if_neg c1, if_neg (den_ne ha hb c1)]
          exact impl_push_end a b _
    · have hp' : nearN a b ≤ 0 := by omega
      simp only [decide_eq_false hp, decide_eq_true hp', Bool.not_false, impl_pushed.j0, if_true]
      exact Ev.now _
  unfold impl_pushed.f
  simp only [near_wrap ha hb]
  by_cases f : wrap64 (a.f0 + a.f3) < wrap64 (b.f0 - b.f3)
  · simp only [if_pos f]
    refine ev_succ ?_
    unfold pairV farB
    simp only [impl_pushed.j0, if_true, decide_eq_true f, Bool.true_or]
    exact Ev.now _
  · simp only [if_neg f]
    by_cases c1 : a.f2 = 0
    · simp only [if_pos c1]
      by_cases c2 : b.f2 = 0
      · simp only [if_pos c2]
        refine ev_succ ?_
        unfold pairV farB nearB
        simp only [impl_pushed.j0, if_true, decide_eq_false f, decide_eq_true c1, decide_eq_true c2, Bool.and_self, Bool.not_true, Bool.false_and, Bool.not_false, Bool.or_true]
        exact Ev.now _
      · simp only [if_neg c2]
        exact rest (.inr c2) f
    · simp only [if_neg c1]
      exact rest (.inl c1) f
def nine (p : S31 × S31) (b : Bool) : Int × Int × Int × Int × Int × Int × Int × Int × Bool := (p.1.f0, p.1.f1, p.1.f2, p.1.f3, p.2.f0, p.2.f1, p.2.f2, p.2.f3, b)
def pairAll (a b : S31) (c : Int) : Int × Int × Int × Int × Int × Int × Int × Int × Bool :=
  if lineB [a, b] = true ∧ inB c 0 100 = true ∧ bodyB (pairV a b c).1 = true ∧ bodyB (pairV a b c).2 = true then nine (pairV a b c) true else (0, 0, 0, 0, 0, 0, 0, 0, false)
theorem line_two {a b : S31} (h : lineB [a, b] = true) : bodyB a = true ∧ bodyB b = true := by
  unfold lineB at h
  rw [Bool.and_eq_true, line_all, Bool.and_eq_true] at h
  have := List.all_eq_true.1 h.2.1
  exact ⟨this a (by simp), this b (by simp)⟩
theorem spec_all (a b : S31) (c : Int) : Ev (fun k => spec_PushPair.f k a.f0 a.f1 a.f2 a.f3 b.f0 b.f1 b.f2 b.f3 c) (pairAll a b c) := by
  unfold spec_PushPair.f pairAll
  have no : Ev (fun k => spec_PushPair.j0 k c true a.f0 a.f1 a.f2 a.f3 b.f0 b.f1 b.f2 b.f3) (0, 0, 0, 0, 0, 0, 0, 0, false) := ev_succ (by simp only [spec_PushPair.j0, if_true]; exact Ev.now _)
  refine Ev.bind (spec_line [a, b]) ?_
  cases hl : lineB [a, b] with
  | false => simp only [Bool.false_eq_true, if_false, false_and]; exact no
  | true =>
  simp only [if_true, spec_l10Bounce.f, spec_in, Option.bind_some, true_and]
  cases hc : inB c 0 100 with
  | false => simp only [Bool.not_false, Bool.false_eq_true, if_false, false_and]; exact no
  | true =>
  obtain ⟨ha, hb⟩ := line_two hl
  refine ev_succ ?_
  simp only [spec_PushPair.j0, Bool.not_true, Bool.false_eq_true, if_false, true_and]
  refine Ev.bind (spec_pair c ha hb) ?_
  unfold eightOf nine
  simp only [spec_body, Option.bind_some]
  cases bodyB (pairV a b c).1 with
  | false => simp only [Bool.false_eq_true, if_false, false_and]; exact Ev.now _
  | true =>
    cases bodyB (pairV a b c).2 with
    | false => simp only [Bool.false_eq_true, if_false, if_true, and_false]; exact Ev.now _
    | true => simp only [if_true, and_self]; exact Ev.now _
theorem impl_all (a b : S31) (c : Int) : Ev (fun k => impl_PushPair.f k a.f0 a.f1 a.f2 a.f3 b.f0 b.f1 b.f2 b.f3 c) (pairAll a b c) := by
  unfold impl_PushPair.f pairAll
  have no : Ev (fun k => impl_PushPair.j0 k c true a.f0 a.f1 a.f2 a.f3 b.f0 b.f1 b.f2 b.f3) (0, 0, 0, 0, 0, 0, 0, 0, false) := ev_succ (by simp only [impl_PushPair.j0, if_true]; exact Ev.now _)
  refine Ev.bind (impl_line [a, b]) ?_
  cases hl : lineB [a, b] with
  | false => simp only [Bool.false_eq_true, if_false, false_and]; exact no
  | true =>
  simp only [if_true, impl_isBounce.f, impl_in, Option.bind_some, true_and]
  cases hc : inB c 0 100 with
  | false => simp only [Bool.not_false, Bool.false_eq_true, if_false, false_and]; exact no
  | true =>
  obtain ⟨ha, hb⟩ := line_two hl
  refine ev_succ ?_
  simp only [impl_PushPair.j0, Bool.not_true, Bool.false_eq_true, if_false, true_and]
  refine Ev.bind (impl_pair c ha hb) ?_
  unfold eightOf nine
  simp only [impl_body, Option.bind_some]
  cases bodyB (pairV a b c).1 with
  | false => simp only [Bool.false_eq_true, if_false, false_and]; exact Ev.now _
  | true =>
    cases bodyB (pairV a b c).2 with
    | false => simp only [Bool.false_eq_true, if_false, if_true, and_false]; exact Ev.now _
    | true => simp only [if_true, and_self]; exact Ev.now _
theorem FnExactPushPair : laws_FnExactPushPair_Pure := by
  intro a0 a1 a2 a3 b0 b1 b2 b3 c _ _ _ _ _ _ _ _ _
  apply Ev.rounds (r := true)
  unfold laws_FnExactPushPair.f
  simp only [laws_toBody.f, Option.bind_some]
  have h1 := spec_all ⟨a0, a1, a2, a3⟩ ⟨b0, b1, b2, b3⟩ c
  have h2 := impl_all ⟨a0, a1, a2, a3⟩ ⟨b0, b1, b2, b3⟩ c
  refine Ev.bind h1 (Ev.bind h2 ?_)
  simp only [laws_eqBody.f, if_true, Option.bind_some, bne_self_eq_false, Bool.false_eq_true, if_false]
  exact Ev.now _
end Go.Proofs.Ytlijlailbjjfbaa.Pure
