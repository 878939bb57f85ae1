/- The program's BookOf and the reference's answer alike at every bodies. No condition. -/
import Derived.Test.YtlijlailbjjfbaaPFnExactBookOfx5
namespace Go.Proofs.Ytlijlailbjjfbaa.Pure
open Go.RowKit Go.Proofs.Ytlijlailbjjfbaa.PFnExactBookOf Go.Proofs.YtlijlailbjjfbaaW.PrintWords Go.Proofs.YtlijlailbjjfbaaW.PrintLast Go.Proofs.YtlijlailbjjfbaaW.PrintMore
set_option linter.unusedVariables false
set_option linter.unusedSimpArgs false
/-- What can be read as a datum of type 30. -/
def Good30 (x : S30) : Prop := (Lit.int .i64 x.f0).wf = true ∧ (Lit.int .i64 x.f1).wf = true ∧ (Lit.int .i64 x.f2).wf = true ∧ (Lit.int .i64 x.f3).wf = true
/-- The one pure statement. -/
def laws_FnExactBookOf_Pure : Prop := ∀ (l0 : (List S30)), (List.length l0 ≤ maxLen ∧ List.length l0 * 32 ≤ 140737488351232 ∧ ∀ y ∈ l0, Good30 y) → ∃ k, laws_FnExactBookOf.f k l0 = some true
/-! #### whole numbers: wraps, quotients towards nought -/
theorem wrap_small {i : Int} (h0 : -9223372036854775808 ≤ i) (h1 : i ≤ 9223372036854775807) : wrap64 i = i := by unfold wrap64; omega
theorem tdiv_pos {a b : Int} (ha : 0 ≤ a) : Int.tdiv a b = a / b := Int.tdiv_eq_ediv_of_nonneg ha
theorem tmod_pos {a b : Int} (ha : 0 ≤ a) : Int.tmod a b = a % b := Int.tmod_eq_emod_of_nonneg ha
theorem tdiv_neg' {a b : Int} (ha : a < 0) : Int.tdiv a b = -((-a) / b) := by
  rw [← Int.tdiv_eq_ediv_of_nonneg (a := -a) (by omega), Int.neg_tdiv, Int.neg_neg]
theorem tmod_neg' {a b : Int} (ha : a < 0) : Int.tmod a b = -((-a) % b) := by
  rw [← Int.tmod_eq_emod_of_nonneg (a := -a) (by omega), Int.neg_tmod, Int.neg_neg]
theorem wf64 {a : Int} (h : (Lit.int .i64 a).wf = true) : -9223372036854775808 ≤ a ∧ a ≤ 9223372036854775807 := by
  simp [Lit.wf, IntKind.min, IntKind.max, IntKind.signed, IntKind.bits] at h
  omega
theorem ev_succ {α : Type} {g : Nat → Option α} {r : α} (h : Ev (fun k => g (k + 1)) r) : Ev g r := Ev.step (f := fun k => g (k + 1)) (fun _ => rfl) h
theorem ev_eq {α : Type} {g : Nat → Option α} {r : α} (h : ∀ k, g k = some r) : Ev g r := ⟨0, fun k _ => h k⟩
theorem ev_val {α : Type} {g : Nat → Option α} {r r' : α} (h : Ev g r) (e : r = r') : Ev g r' := e ▸ h
/-! #### is a number in a span -/
def inB (a b c : Int) : Bool := decide (b ≤ a ∧ a ≤ c)
theorem inB_iff {a b c : Int} : inB a b c = true ↔ b ≤ a ∧ a ≤ c := by unfold inB; rw [decide_eq_true_eq]
theorem spec_in (a b c : Int) : spec_l1In.f a b c = some (inB a b c) := by
  unfold spec_l1In.f inB
  by_cases h : a ≥ b
  · rw [if_pos h]; congr 1; rw [decide_eq_decide]; omega
  · rw [if_neg h]; congr 1; exact (decide_eq_false (by omega)).symm
theorem impl_in (a b c : Int) : impl_inRange.f a b c = some (inB a b c) := by
  unfold impl_inRange.f inB
  by_cases h : b ≤ a
  · rw [if_pos h]; congr 1; rw [decide_eq_decide]; omega
  · rw [if_neg h]; congr 1; exact (decide_eq_false (by omega)).symm
/-! #### loops that go up, from a place on -/
theorem Ev_up {σ ρ : Type} (g : Nat → Nat → σ → Option ρ) (n : Nat) (Inv : Nat → σ → Prop) (Post : ρ → Prop)
    (hend : ∀ s, Inv n s → ∃ r, Ev (fun k => g k n s) r ∧ Post r)
    (hstep : ∀ i s, i < n → Inv i s → (∃ r, Ev (fun k => g k i s) r ∧ Post r) ∨ (∃ s', Inv (i + 1) s' ∧ ∀ r, Ev (fun k => g k (i + 1) s') r → Ev (fun k => g k i s) r))
    (d : Nat) : ∀ i s, n - i = d → i ≤ n → Inv i s → ∃ r, Ev (fun k => g k i s) r ∧ Post r := by
  induction d with
  | zero =>
    intro i s hd hi hs
    obtain rfl : i = n := by omega
    exact hend s hs
  | succ d ih =>
    intro i s hd hi hs
    rcases hstep i s (by omega) hs with h | ⟨s', hs', hg⟩
    · exact h
    · obtain ⟨r, hr, hp⟩ := ih (i + 1) s' (by omega) (by omega) hs'
      exact ⟨r, hg r hr, hp⟩
theorem succ_cast {i n : Nat} (h : i < n) (hn : n ≤ 9223372036854775806) : wrap64 ((i : Int) + 1) = ((i + 1 : Nat) : Int) := by
  rw [wrap_small (by omega) (by omega)]; omega
theorem drop_cons {α : Type} {l : List α} {i : Nat} (h : i < l.length) : l.drop i = l[i] :: l.drop (i + 1) := List.drop_eq_getElem_cons h
theorem rd_at {l : List Int} {i : Nat} (h : i < l.length) : rd l (i : Int) = l[i] := by simp [rd, h]
/-! #### loops that copy and loops that compare -/
theorem set_step {α β : Type} (g : α → β) (z : β) (l : List α) (i : Nat) (hi : i < l.length) : ((l.take i).map g ++ List.replicate (l.length - i) z).set i (g l[i]) = (l.take (i + 1)).map g ++ List.replicate (l.length - (i + 1)) z := by
  have e : l.length - i = (l.length - (i + 1)) + 1 := by omega
  have hl : ((l.take i).map g).length = i := by rw [List.length_map, List.length_take]; omega
  rw [e, List.replicate_succ, List.set_append_right _ _ (by omega), hl, Nat.sub_self, List.set_cons_zero, List.take_succ_eq_append_getElem hi, List.map_append, List.append_assoc]
  rfl
/-- A loop that sets each place of a fresh list. -/
theorem ev_map {α β : Type} (l : List α) (z : β) (g : α → β) (F : Nat → List β → Int → Option (List β)) (G : Nat → α → Option β) (hG : ∀ i (hi : i < l.length), Ev (fun k => G k l[i]) (g l[i]))
    (hstep : ∀ k (x : List β) (i : Nat) (hi : i < l.length), x.length = l.length → F (k + 1) x (i : Int) = (G k l[i]).bind fun v => F k (x.set i v) ((i + 1 : Nat) : Int))
    (hend : ∀ k (x : List β), F (k + 1) x (l.length : Int) = some x) : Ev (fun k => F k (List.replicate l.length z) 0) (l.map g) := by
  have main : ∀ d i, l.length - i = d → i ≤ l.length → Ev (fun k => F k ((l.take i).map g ++ List.replicate (l.length - i) z) (i : Int)) (l.map g) := by
    intro d
    induction d with
    | zero =>
      intro i hd hi
      obtain rfl : i = l.length := by omega
      refine ev_succ ?_
      simp only [hend, Nat.sub_self, List.replicate_zero, List.append_nil, List.take_length]
      exact Ev.now _
    | succ d ih =>
      intro i hd hi
      have hlt : i < l.length := by omega
      refine ev_succ ?_
      have hx : ((l.take i).map g ++ List.replicate (l.length - i) z).length = l.length := by
        rw [List.length_append, List.length_map, List.length_take, List.length_replicate]; omega
      simp only [hstep _ _ i hlt hx]
      refine Ev.bind (hG i hlt) ?_
      simp only [set_step g z l i hlt]
      exact ih (i + 1) (by omega) (by omega)
  have := main l.length 0 (by omega) (by omega)
  simp only [List.take_zero, List.map_nil, List.nil_append, Nat.sub_zero] at this
  exact this
/-- A loop that asks each place, and every place answers true. -/
theorem ev_trues {n : Nat} (F : Nat → Int → Option Bool) (G : Nat → Nat → Option Bool) (hG : ∀ i, i < n → Ev (fun k => G k i) true)
    (hstep : ∀ k (i : Nat), i < n → F (k + 1) (i : Int) = (G k i).bind fun t => if t = true then F k ((i + 1 : Nat) : Int) else some false)
    (hend : ∀ k, F (k + 1) (n : Int) = some true) : Ev (fun k => F k 0) true := by
  have main : ∀ d i, n - i = d → i ≤ n → Ev (fun k => F k (i : Int)) true := by
    intro d
    induction d with
    | zero =>
      intro i hd hi
      obtain rfl : i = n := by omega
      refine ev_succ ?_
      simp only [hend]
      exact Ev.now _
    | succ d ih =>
      intro i hd hi
      refine ev_succ ?_
      simp only [hstep _ i (show i < n by omega)]
      refine Ev.bind (hG i (by omega)) ?_
      simp only [if_true]
      exact ih (i + 1) (by omega) (by omega)
  exact main n 0 (by omega) (by omega)
theorem toNat_cast (i : Nat) : ((i : Int)).toNat = i := Int.toNat_natCast i
/-! #### bodies on a line -/
def bodyOf (x : S30) : S31 := ⟨x.f0, x.f1, x.f2, x.f3⟩
theorem rd30 {l : List S30} {i : Nat} (h : i < l.length) : rd_T30 l (i : Int) = l[i] := by simp [rd_T30, h]
theorem rd31 {l : List S31} {i : Nat} (h : i < l.length) : rd_T31 l (i : Int) = l[i] := by simp [rd_T31, h]
theorem getB {l : List S31} {i : Nat} (h : i < l.length) : l.getD i z31 = l[i] := by simp [h]
theorem to_bodies (l : List S30) (hl : l.length ≤ 4398046511104) : Ev (fun k => laws_toBodyS.f k l) (l.map bodyOf) := by
  unfold laws_toBodyS.f
  simp only [if_pos (show (0 : Int) ≤ (l.length : Int) by omega), toNat_cast, if_pos (show l.length ≤ 8796093022208 by omega)]
  refine ev_map l z31 bodyOf (fun k x i => laws_toBodyS.l0 k l x i) (fun _ x => some (bodyOf x)) (fun _ _ => Ev.now _) ?_ ?_
  · intro k x i hi hx
    simp only [laws_toBodyS.l0, if_pos (show (i : Int) < (l.length : Int) by omega), if_pos (show (0 : Int) ≤ (i : Int) by omega), laws_toBody.f, Option.bind_some, if_pos (show (i : Int) < (x.length : Int) by omega), rd30 hi, toNat_cast, succ_cast hi (by omega)]
    rfl
  · intro k x
    simp only [laws_toBodyS.l0, if_neg (show ¬ (l.length : Int) < (l.length : Int) by omega)]
theorem eq_bodies (l : List S31) (hl : l.length ≤ 4398046511104) : Ev (fun k => laws_eqBodyS.f k l l) true := by
  unfold laws_eqBodyS.f
  simp only [if_true]
  refine ev_trues (n := l.length) (fun k i => laws_eqBodyS.l0 k l l i) (fun _ _ => some true) (fun _ _ => Ev.now _) ?_ ?_
  · intro k i hi
    simp only [laws_eqBodyS.l0, if_pos (show (i : Int) < (l.length : Int) by omega), if_pos (show (0 : Int) ≤ (i : Int) by omega), laws_eqBody.f, if_true, Option.bind_some, rd31 hi, succ_cast hi (by omega)]
  · intro k
    simp only [laws_eqBodyS.l0, if_neg (show ¬ (l.length : Int) < (l.length : Int) by omega)]
def bodyB (x : S31) : Bool := inB x.f0 (-1000000000) 1000000000 && (inB x.f1 (-1000000) 1000000 && (inB x.f2 0 12 && ((decide (x.f2 > 0) || decide (x.f1 = 0)) && inB x.f3 1 1000)))
theorem spec_body (x : S31) : spec_l10Body.f x.f0 x.f1 x.f2 x.f3 = some (bodyB x) := by
  unfold spec_l10Body.f bodyB
  simp only [spec_in, Option.bind_some]
  cases inB x.f0 (-1000000000) 1000000000 <;> cases inB x.f1 (-1000000) 1000000 <;> cases inB x.f2 0 12 <;> by_cases h1 : x.f2 > 0 <;> by_cases h2 : x.f1 = 0 <;> simp [h1, h2]
theorem impl_body (x : S31) : impl_isBody.f x.f0 x.f1 x.f2 x.f3 = some (bodyB x) := by
  unfold impl_isBody.f bodyB
  simp only [impl_in, Option.bind_some]
  cases inB x.f0 (-1000000000) 1000000000 <;> cases inB x.f1 (-1000000) 1000000 <;> cases inB x.f2 0 12 <;> by_cases h1 : x.f2 > 0 <;> by_cases h2 : x.f1 = 0 <;> simp [h1, h2]
def gapB (l : List S31) (i : Nat) : Bool := !(decide (wrap64 ((l.getD (i - 1) z31).f0 + (l.getD (i - 1) z31).f3) > wrap64 ((l.getD i z31).f0 - (l.getD i z31).f3)))
def gapsFrom (l : List S31) : Nat → Nat → Bool
  | 0, _ => true
  | d + 1, i => gapB l i && gapsFrom l d (i + 1)
def lineFrom (l : List S31) : Nat → Nat → Bool
  | 0, _ => true
  | d + 1, i => (bodyB (l.getD i z31) && (decide (i = 0) || gapB l i)) && lineFrom l d (i + 1)
theorem bpred {i : Nat} (h0 : i ≠ 0) (h1 : i ≤ 4398046511104) : wrap64 ((i : Int) - 1) = ((i - 1 : Nat) : Int) := by rw [wrap_small (by omega) (by omega)]; omega
theorem spec_line_from (l : List S31) (hl : l.length ≤ 4398046511104) (d : Nat) : ∀ i : Nat, l.length - i = d → i ≤ l.length → Ev (fun k => spec_GoodLine.l0 k l l (l.length : Int) (i : Int)) (lineFrom l d i) := by
  induction d with
  | zero =>
    intro i hd hi
    refine ev_succ ?_
    simp only [spec_GoodLine.l0, if_neg (show ¬ (i : Int) < (l.length : Int) by omega)]
    exact Ev.now _
  | succ d ih =>
    intro i hd hi
    have hlt : i < l.length := by omega
    have ihn := ih (i + 1) (by omega) (by omega)
    refine ev_succ ?_
    unfold lineFrom gapB
    rw [getB hlt]
    simp only [spec_GoodLine.l0, if_pos (show (i : Int) < (l.length : Int) by omega), if_pos (show (0 : Int) ≤ (i : Int) by omega), rd31 hlt, spec_body, Option.bind_some, succ_cast hlt (by omega)]
    cases bodyB l[i] with
    | false => simp only [Bool.false_eq_true, if_false, Bool.false_and]; exact Ev.now _
    | true =>
      simp only [if_true, Bool.true_and]
      by_cases c0 : i = 0
      · simp only [if_neg (show ¬ (i : Int) > 0 by omega), decide_eq_true c0, Bool.true_or, Bool.true_and]
        exact ihn
      · have h1 : i - 1 < l.length := by omega
        simp only [if_pos (show (i : Int) > 0 by omega), bpred c0 (by omega), if_pos (show (0 : Int) ≤ ((i - 1 : Nat) : Int) by omega), if_pos (show ((i - 1 : Nat) : Int) < (l.length : Int) by omega), rd31 h1, getB h1, decide_eq_false c0, Bool.false_or]
        by_cases c1 : wrap64 (l[i - 1].f0 + l[i - 1].f3) > wrap64 (l[i].f0 - l[i].f3)
        · simp only [if_pos c1, decide_eq_true c1, Bool.not_true, Bool.false_and]; exact Ev.now _
        · simp only [if_neg c1, decide_eq_false c1, Bool.not_false, Bool.true_and]; exact ihn
theorem impl_gaps_from (l : List S31) (hl : l.length ≤ 4398046511104) (d : Nat) : ∀ i : Nat, l.length - i = d → i ≠ 0 → Ev (fun k => impl_apart.l0 k l (i : Int)) (gapsFrom l d i) := by
  induction d with
  | zero =>
    intro i hd hi
    refine ev_succ ?_
    simp only [impl_apart.l0, if_neg (show ¬ (i : Int) < (l.length : Int) by omega)]
    exact Ev.now _
  | succ d ih =>
    intro i hd c0
    have hlt : i < l.length := by omega
    have ihn := ih (i + 1) (by omega) (by omega)
    have h1 : i - 1 < l.length := by omega
    refine ev_succ ?_
    unfold gapsFrom gapB
    rw [getB hlt]
    simp only [impl_apart.l0, if_pos (show (i : Int) < (l.length : Int) by omega), if_pos (show (0 : Int) ≤ (i : Int) by omega), bpred c0 (by omega), if_pos (show (0 : Int) ≤ ((i - 1 : Nat) : Int) by omega), if_pos (show ((i - 1 : Nat) : Int) < (l.length : Int) by omega), rd31 hlt, rd31 h1, getB h1, succ_cast hlt (by omega)]
    by_cases c1 : wrap64 (l[i - 1].f0 + l[i - 1].f3) > wrap64 (l[i].f0 - l[i].f3)
    · simp only [if_pos c1, decide_eq_true c1, Bool.not_true, Bool.false_and]; exact Ev.now _
    · simp only [if_neg c1, decide_eq_false c1, Bool.not_false, Bool.true_and]; exact ihn
theorem line_split (l : List S31) (d : Nat) : ∀ i : Nat, l.length - i = d → i ≠ 0 → lineFrom l d i = ((l.drop i).all bodyB && gapsFrom l d i) := by
  induction d with
  | zero =>
    intro i hd hi
    rw [List.drop_eq_nil_of_le (by omega)]
    rfl
  | succ d ih =>
    intro i hd c0
    have hlt : i < l.length := by omega
    rw [drop_cons hlt, List.all_cons]
    unfold lineFrom gapsFrom
    rw [ih (i + 1) (by omega) (by omega), getB hlt, decide_eq_false c0, Bool.false_or]
    cases bodyB l[i] <;> cases gapB l i <;> cases (l.drop (i + 1)).all bodyB <;> simp
theorem line_all (l : List S31) : lineFrom l l.length 0 = (l.all bodyB && gapsFrom l (l.length - 1) 1) := by
  by_cases c : l.length = 0
  · have e : l = [] := List.eq_nil_of_length_eq_zero c
    subst e
    rfl
  · have hlt : 0 < l.length := by omega
    obtain ⟨d, hd⟩ : ∃ d, l.length = d + 1 := ⟨l.length - 1, by omega⟩
    have hs := line_split l d 1 (by omega) (by omega)
    have ha : l.all bodyB = (bodyB l[0] && (l.drop 1).all bodyB) := by
      have := drop_cons hlt
      rw [List.drop_zero] at this
      conv => lhs; rw [this]
      rw [List.all_cons]
    rw [hd, Nat.add_sub_cancel, ha]
    unfold lineFrom
    rw [hs, getB hlt, decide_eq_true rfl, Bool.true_or, Bool.and_true, Bool.and_assoc]
def lineB (l : List S31) : Bool := decide ((l.length : Int) ≤ 20) && lineFrom l l.length 0
theorem spec_line (l : List S31) : Ev (fun k => spec_GoodLine.f k l) (lineB l) := by
  unfold spec_GoodLine.f lineB
  by_cases c : (l.length : Int) > 20
  · rw [decide_eq_false (show ¬ (l.length : Int) ≤ 20 by omega)]
    simp only [if_pos c, Bool.false_and]
    exact Ev.now _
  · rw [decide_eq_true (show (l.length : Int) ≤ 20 by omega)]
    simp only [if_neg c, Bool.true_and]
    exact spec_line_from l (by omega) l.length 0 (by omega) (by omega)
theorem impl_line (l : List S31) : Ev (fun k => impl_GoodLine.f k l) (lineB l) := by
  unfold impl_GoodLine.f lineB
  by_cases c : (l.length : Int) ≤ 20
  · have h : anyO impl_GoodLine.on l = some (l.any fun a => !(bodyB a)) := anyO_some _ (fun a _ => by
      unfold impl_GoodLine.on impl_GoodLine_1.f
      rw [impl_body]; rfl)
    rw [decide_eq_true c, line_all]
    simp only [if_pos c, h, Option.bind_some, Bool.true_and]
    have e : (l.any fun a => !(bodyB a)) = !(l.all bodyB) := by
      rw [← List.not_all_eq_any_not]
    rw [e]
    cases l.all bodyB with
    | false => simp only [Bool.not_false, if_true, Bool.false_and]; exact Ev.now _
    | true =>
      simp only [Bool.not_true, Bool.false_eq_true, if_false, Bool.true_and]
      exact impl_gaps_from l (by omega) (l.length - 1) 1 (by omega) (by omega)
  · rw [decide_eq_false c]
    simp only [if_neg c, Bool.false_and]
    exact Ev.now _
/-! #### fractions in least terms over 55440 -/
theorem div_facts {a b : Nat} (h : 0 < Nat.gcd a b) : a / Nat.gcd a b * Nat.gcd a b = a ∧ b / Nat.gcd a b * Nat.gcd a b = b ∧ Nat.Coprime (a / Nat.gcd a b) (b / Nat.gcd a b) :=
  ⟨Nat.div_mul_cancel (Nat.gcd_dvd_left a b), Nat.div_mul_cancel (Nat.gcd_dvd_right a b), Nat.coprime_div_gcd_div_gcd h⟩
theorem frac_step {S p q num den : Nat} (hq : 0 < q) (hq2 : q ∣ 55440) (hd : den ∣ 55440) (d0 : 0 < den) (hinv : num * 55440 = S * den) :
    (num * (q / Nat.gcd p q / Nat.gcd den (q / Nat.gcd p q)) + p / Nat.gcd p q * (den / Nat.gcd den (q / Nat.gcd p q))) * 55440 = (S + p * (55440 / q)) * (den / Nat.gcd den (q / Nat.gcd p q) * (q / Nat.gcd p q)) ∧ (den / Nat.gcd den (q / Nat.gcd p q) * (q / Nat.gcd p q)) ∣ 55440 ∧ 0 < den / Nat.gcd den (q / Nat.gcd p q) * (q / Nat.gcd p q) := by
  have g1 : 0 < Nat.gcd p q := Nat.gcd_pos_of_pos_right p hq
  obtain ⟨f1, f2, f3⟩ := div_facts g1
  generalize p / Nat.gcd p q = n' at *
  generalize hd' : q / Nat.gcd p q = d' at *
  generalize Nat.gcd p q = g at *
  have d1 : 0 < d' := by rcases Nat.eq_zero_or_pos d' with h | h; · (rw [h, Nat.zero_mul] at f2; omega)
                         · exact h
  have g2 : 0 < Nat.gcd den d' := Nat.gcd_pos_of_pos_left d' d0
  obtain ⟨e1, e2, e3⟩ := div_facts g2
  have hdd : d' ∣ 55440 := Nat.dvd_trans ⟨g, f2.symm⟩ hq2
  have hl : den / Nat.gcd den d' * d' = Nat.lcm den d' := by
    unfold Nat.lcm
    rw [Nat.div_mul_right_comm (Nat.gcd_dvd_left den d')]
  have hL : den / Nat.gcd den d' * d' ∣ 55440 := by rw [hl]; exact Nat.lcm_dvd hd hdd
  generalize den / Nat.gcd den d' = u at *
  generalize d' / Nat.gcd den d' = v at *
  generalize Nat.gcd den d' = h at *
  have hu : 0 < u := by rcases Nat.eq_zero_or_pos u with hz | hz; · (rw [hz, Nat.zero_mul] at e1; omega)
                        · exact hz
  refine ⟨?_, hL, Nat.mul_pos hu d1⟩
  obtain ⟨c, hc⟩ := hq2
  have hcq : 55440 / q = c := by rw [hc, Nat.mul_div_cancel_left _ hq]
  rw [hcq]
  -- num * v * 55440 = S * (u * d'), n' * u * 55440 = p * c * (u * d')
  have t1 : num * v * 55440 = S * (u * d') := by
    calc num * v * 55440 = (num * 55440) * v := by rw [Nat.mul_right_comm]
      _ = S * den * v := by rw [hinv]
      _ = S * (u * h) * v := by rw [e1]
      _ = S * (u * (v * h)) := by rw [Nat.mul_assoc, Nat.mul_assoc, Nat.mul_comm h v]
      _ = S * (u * d') := by rw [e2]
  have t2 : n' * u * 55440 = p * c * (u * d') := by
    calc n' * u * 55440 = n' * u * (q * c) := by rw [← hc]
      _ = n' * u * (d' * g * c) := by rw [f2]
      _ = (n' * g) * c * (u * d') := by
        simp only [Nat.mul_left_comm, Nat.mul_comm]
      _ = p * c * (u * d') := by rw [f1]
  rw [Nat.add_mul, Nat.add_mul, t1, t2]
theorem frac_low {X Y S : Nat} (hX : X * 55440 = S * Y) (hY : Y ∣ 55440) (h0 : 0 < Y) :
    X / Nat.gcd X Y * 55440 = S * (Y / Nat.gcd X Y) ∧ Y / Nat.gcd X Y ∣ 55440 ∧ 0 < Y / Nat.gcd X Y ∧ Nat.Coprime (X / Nat.gcd X Y) (Y / Nat.gcd X Y) := by
  have g0 : 0 < Nat.gcd X Y := Nat.gcd_pos_of_pos_right X h0
  obtain ⟨f1, f2, f3⟩ := div_facts g0
  generalize X / Nat.gcd X Y = x at *
  generalize Y / Nat.gcd X Y = y at *
  generalize Nat.gcd X Y = g at *
  refine ⟨?_, Nat.dvd_trans ⟨g, f2.symm⟩ hY, ?_, f3⟩
  · refine Nat.eq_of_mul_eq_mul_right g0 ?_
    rw [Nat.mul_right_comm, f1, hX, Nat.mul_assoc, f2]
  · rcases Nat.eq_zero_or_pos y with hz | hz
    · rw [hz, Nat.zero_mul] at f2; omega
    · exact hz
theorem frac_one {a b c d S : Nat} (h1 : a * 55440 = S * b) (h2 : c * 55440 = S * d) (k1 : Nat.Coprime a b) (k2 : Nat.Coprime c d) : a = c ∧ b = d := by
  have key : a * d = c * b := by
    refine Nat.eq_of_mul_eq_mul_right (show 0 < 55440 by decide) ?_
    calc a * d * 55440 = (a * 55440) * d := by rw [Nat.mul_right_comm]
      _ = S * b * d := by rw [h1]
      _ = (S * d) * b := by rw [Nat.mul_right_comm]
      _ = c * 55440 * b := by rw [h2]
      _ = c * b * 55440 := by rw [Nat.mul_right_comm]
  have e1 : a ∣ c := k1.dvd_of_dvd_mul_right ⟨d, key.symm⟩
  have e2 : c ∣ a := k2.dvd_of_dvd_mul_right ⟨b, key⟩
  have e := Nat.dvd_antisymm e1 e2
  subst e
  refine ⟨rfl, ?_⟩
  have e3 : b ∣ d := k1.symm.dvd_of_dvd_mul_left ⟨a, by rw [key, Nat.mul_comm]⟩
  have e4 : d ∣ b := k2.symm.dvd_of_dvd_mul_left ⟨a, by rw [← key, Nat.mul_comm]⟩
  exact Nat.dvd_antisymm e3 e4
theorem tmod_cast (a b : Nat) : Int.tmod (a : Int) (b : Int) = ((a % b : Nat) : Int) := by
  rw [Int.tmod_eq_emod_of_nonneg (Int.natCast_nonneg a), Int.natCast_emod]
theorem tdiv_cast (a b : Nat) : Int.tdiv (a : Int) (b : Int) = ((a / b : Nat) : Int) := by
  rw [Int.tdiv_eq_ediv_of_nonneg (Int.natCast_nonneg a), Int.natCast_ediv]
theorem gcd_swap (a b : Nat) : Nat.gcd a b = Nat.gcd b (a % b) := by rw [Nat.gcd_comm a b, Nat.gcd_rec b a, Nat.gcd_comm]
theorem spec_gcd_l (b : Nat) : ∀ a : Nat, Ev (fun k => spec_l9Gcd.l0 k (a : Int) (b : Int)) ((Nat.gcd a b : Nat) : Int) := by
  induction b using Nat.strongRecOn with
  | ind b ih =>
    intro a
    refine ev_succ ?_
    by_cases h : b = 0
    · subst h
      simp only [spec_l9Gcd.l0, Nat.gcd_zero_right, if_pos (show ((0 : Nat) : Int) = 0 from rfl)]
      exact Ev.now _
    · simp only [spec_l9Gcd.l0, if_neg (show ¬ (b : Int) = 0 by omega), tmod_cast]
      rw [gcd_swap a b]
      exact ih (a % b) (Nat.mod_lt _ (by omega)) b
theorem impl_gcd (b : Nat) : ∀ a : Nat, Ev (fun k => impl_common.l0 k (a : Int) (b : Int)) ((Nat.gcd a b : Nat) : Int) := by
  induction b using Nat.strongRecOn with
  | ind b ih =>
    intro a
    refine ev_succ ?_
    by_cases h : b = 0
    · subst h
      simp only [impl_common.l0, Nat.gcd_zero_right, if_pos (show ((0 : Nat) : Int) = 0 from rfl)]
      exact Ev.now _
    · simp only [impl_common.l0, if_neg (show ¬ (b : Int) = 0 by omega), tmod_cast]
      rw [gcd_swap a b]
      exact ih (a % b) (Nat.mod_lt _ (by omega)) b
theorem spec_gcd (a b : Nat) : Ev (fun k => spec_l9Gcd.f k (a : Int) (b : Int)) ((Nat.gcd a b : Nat) : Int) := by
  unfold spec_l9Gcd.f spec_l1Abs.f
  simp only [if_neg (show ¬ (a : Int) < 0 by omega), Option.bind_some]
  exact spec_gcd_l b a
/-- The square of a body's push, twice its mass, and what it adds in parts of 55440. -/
def sqN (x : S31) : Nat := (x.f1 * x.f1).toNat
def dbN (x : S31) : Nat := (2 * x.f2).toNat
def termN (x : S31) : Nat := if x.f2 = 0 then 0 else sqN x * (55440 / dbN x)
def sumN (l : List S31) : Nat := (l.map termN).sum
def pushI (l : List S31) : Int := (l.map fun x => x.f1).sum
theorem body_facts {x : S31} (h : bodyB x = true) : -1000000 ≤ x.f1 ∧ x.f1 ≤ 1000000 ∧ 0 ≤ x.f2 ∧ x.f2 ≤ 12 ∧ x.f1 * x.f1 = ((sqN x : Nat) : Int) ∧ sqN x ≤ 1000000000000 ∧ 2 * x.f2 = ((dbN x : Nat) : Int) := by
  unfold bodyB at h
  simp only [Bool.and_eq_true, inB_iff] at h
  have h0 : 0 ≤ x.f1 * x.f1 := by
    rcases Int.le_total 0 x.f1 with hs | hs
    · exact Int.mul_nonneg hs hs
    · rw [← Int.neg_mul_neg]; exact Int.mul_nonneg (by omega) (by omega)
  have h1 : x.f1 * x.f1 ≤ 1000000000000 := by
    rcases Int.le_total 0 x.f1 with hs | hs
    · have := Int.mul_le_mul (show x.f1 ≤ 1000000 by omega) (show x.f1 ≤ 1000000 by omega) hs (by omega); omega
    · rw [← Int.neg_mul_neg]
      have := Int.mul_le_mul (show -x.f1 ≤ 1000000 by omega) (show -x.f1 ≤ 1000000 by omega) (by omega) (by omega); omega
  unfold sqN dbN
  omega
theorem term_le {x : S31} (h : bodyB x = true) : termN x ≤ 27720000000000000 := by
  have f := body_facts h
  unfold termN
  split
  · omega
  · have : 55440 / dbN x ≤ 27720 := Nat.le_trans (Nat.div_le_div_left (show 2 ≤ dbN x by omega) (by decide)) (by decide)
    have := Nat.mul_le_mul f.2.2.2.2.2.1 this
    omega
theorem sum_le (l : List S31) : l.all bodyB = true → sumN l ≤ l.length * 27720000000000000 := by
  induction l with
  | nil => intro _; exact Nat.le_refl _
  | cons x l ih =>
    intro h
    rw [List.all_cons, Bool.and_eq_true] at h
    have := ih h.2
    have := term_le h.1
    unfold sumN at *
    rw [List.map_cons, List.sum_cons, List.length_cons, Nat.add_mul]
    omega
theorem push_le (l : List S31) : l.all bodyB = true → -((l.length : Int) * 1000000) ≤ pushI l ∧ pushI l ≤ (l.length : Int) * 1000000 := by
  induction l with
  | nil => intro _; exact ⟨Int.le_refl _, Int.le_refl _⟩
  | cons x l ih =>
    intro h
    rw [List.all_cons, Bool.and_eq_true] at h
    have := ih h.2
    have := body_facts h.1
    unfold pushI at *
    rw [List.map_cons, List.sum_cons, List.length_cons]
    have e : ((l.length + 1 : Nat) : Int) * 1000000 = (l.length : Int) * 1000000 + 1000000 := by omega
    rw [e]
    omega
theorem sum_take {l : List S31} {i : Nat} (h : i < l.length) : sumN (l.take (i + 1)) = sumN (l.take i) + termN l[i] := by
  unfold sumN
  rw [List.take_succ_eq_append_getElem h, List.map_append, List.sum_append]
  simp
theorem push_take {l : List S31} {i : Nat} (h : i < l.length) : pushI (l.take (i + 1)) = pushI (l.take i) + l[i].f1 := by
  unfold pushI
  rw [List.take_succ_eq_append_getElem h, List.map_append, List.sum_append]
  simp
theorem take_bd {l : List S31} (hb : l.all bodyB = true) (hl : l.length ≤ 20) (i : Nat) : sumN (l.take i) ≤ 554400000000000000 ∧ -20000000 ≤ pushI (l.take i) ∧ pushI (l.take i) ≤ 20000000 := by
  have h : (l.take i).all bodyB = true := List.all_eq_true.2 fun x hx => List.all_eq_true.1 hb x (List.mem_of_mem_take hx)
  have hn : (l.take i).length ≤ 20 := by rw [List.length_take]; omega
  have h1 := sum_le _ h
  have h2 := push_le _ h
  have h3 := Nat.mul_le_mul_right 27720000000000000 hn
  omega
theorem db_dvd : ∀ m : Nat, 0 < m → m ≤ 12 → 2 * m ∣ 55440 := by
  intro m h0 h1
  have : m = 1 ∨ m = 2 ∨ m = 3 ∨ m = 4 ∨ m = 5 ∨ m = 6 ∨ m = 7 ∨ m = 8 ∨ m = 9 ∨ m = 10 ∨ m = 11 ∨ m = 12 := by omega
  rcases this with rfl | rfl | rfl | rfl | rfl | rfl | rfl | rfl | rfl | rfl | rfl | rfl <;> decide
def Low (S num den : Nat) : Prop := num * 55440 = S * den ∧ den ∣ 55440 ∧ 0 < den ∧ Nat.Coprime num den
theorem low_le {X Y S : Nat} (h : X * 55440 = S * Y) (hY : Y ∣ 55440) : X ≤ S := by
  have := Nat.le_of_dvd (by decide) hY
  have := Nat.mul_le_mul_left S this
  omega
theorem wrapN (m : Nat) (hm : m ≤ 554400000000000000) : wrap64 (m : Int) = (m : Int) := wrap_small (by omega) (by omega)
theorem book_w {num n' d' u v X Y : Nat} (nl : num ≤ 554400000000000000) (a1 : d' ≤ 24) (a2 : n' ≤ 1000000000000) (ul : u ≤ 55440) (vl : v ≤ 24) (hX : X ≤ 554400000000000000) (hY : Y ≤ 55440) (hXe : num * v + n' * u = X) (hYe : u * d' = Y) :
    wrap64 ((d' : Nat) : Int) = (d' : Int) ∧ wrap64 ((n' : Nat) : Int) = (n' : Int) ∧ wrap64 ((u : Nat) : Int) = (u : Int) ∧ wrap64 ((v : Nat) : Int) = (v : Int) ∧ wrap64 ((num : Int) * (v : Int)) = ((num * v : Nat) : Int) ∧ wrap64 ((n' : Int) * (u : Int)) = ((n' * u : Nat) : Int) ∧ wrap64 (((num * v : Nat) : Int) + ((n' * u : Nat) : Int)) = (X : Int) ∧ wrap64 ((u : Int) * (d' : Int)) = (Y : Int) ∧ wrap64 ((X / Nat.gcd X Y : Nat) : Int) = ((X / Nat.gcd X Y : Nat) : Int) ∧ wrap64 ((Y / Nat.gcd X Y : Nat) : Int) = ((Y / Nat.gcd X Y : Nat) : Int) := by
  have q1' : X / Nat.gcd X Y ≤ X := Nat.div_le_self _ _
  have q2' : Y / Nat.gcd X Y ≤ Y := Nat.div_le_self _ _
  have k : ∀ m : Nat, m ≤ 554400000000000000 → wrap64 (m : Int) = (m : Int) := fun m hm => wrap_small (by omega) (by omega)
  rw [← Int.natCast_mul, ← Int.natCast_mul, ← Int.natCast_mul, ← Int.natCast_add, hXe, hYe]
  have x1 : num * v ≤ X := by rw [← hXe]; exact Nat.le_add_right _ _
  have x2 : n' * u ≤ X := by rw [← hXe]; exact Nat.le_add_left _ _
  exact ⟨k _ (by omega), k _ (by omega), k _ (by omega), k _ (by omega), k _ (Nat.le_trans x1 hX), k _ (Nat.le_trans x2 hX), k _ hX, k _ (by omega), k _ (Nat.le_trans q1' hX), k _ (Nat.le_trans q2' (by omega))⟩
theorem spec_book_from (l : List S31) (hb : l.all bodyB = true) (hl : l.length ≤ 20) (d : Nat) : ∀ (i num den : Nat), l.length - i = d → i ≤ l.length → Low (sumN (l.take i)) num den →
    ∃ num' den', Low (sumN l) num' den' ∧ Ev (fun k => spec_BookOf.l0 k l (l.length : Int) (i : Int) (pushI (l.take i)) (num : Int) (den : Int)) (pushI l, (num' : Int), (den' : Int), true) := by
  induction d with
  | zero =>
    intro i num den hd hi hL
    have e : i = l.length := by omega
    subst e
    rw [List.take_length] at hL ⊢
    refine ⟨num, den, hL, ev_succ ?_⟩
    simp only [spec_BookOf.l0, if_neg (show ¬ (l.length : Int) < (l.length : Int) by omega)]
    exact Ev.now _
  | succ d ih =>
    intro i num den hd hi hL
    have hlt : i < l.length := by omega
    have hx : bodyB l[i] = true := List.all_eq_true.1 hb _ (List.getElem_mem hlt)
    obtain ⟨p0, p1, m0, m1, hsq, hsl, hdb⟩ := body_facts hx
    have bd0 := take_bd hb hl i
    have bd1 := take_bd hb hl (i + 1)
    have hst := sum_take hlt
    have hpt := push_take hlt
    have wp : wrap64 (pushI (l.take i) + l[i].f1) = pushI (l.take (i + 1)) := by rw [hpt]; exact wrap_small (by omega) (by omega)
    have c1 : (i : Int) < (l.length : Int) := by omega
    have c2 : (0 : Int) ≤ (i : Int) := by omega
    by_cases hm : l[i].f2 = 0
    · have ht : termN l[i] = 0 := by unfold termN; rw [if_pos hm]
      obtain ⟨num', den', hL', hE⟩ := ih (i + 1) num den (by omega) (by omega) (by rw [hst, ht, Nat.add_zero]; exact hL)
      refine ⟨num', den', hL', ev_succ ?_⟩
      simp only [spec_BookOf.l0, if_pos c1, if_pos c2, rd31 hlt, if_pos hm, wp, succ_cast hlt (by omega)]
      exact hE
    · have ht : termN l[i] = sqN l[i] * (55440 / dbN l[i]) := by unfold termN; rw [if_neg hm]
      have q0 : 0 < dbN l[i] := by omega
      have q1 : dbN l[i] ≤ 24 := by omega
      have hq : dbN l[i] ∣ 55440 := by
        have := db_dvd l[i].f2.toNat (by omega) (by omega)
        have e : dbN l[i] = 2 * l[i].f2.toNat := by unfold dbN; omega
        rw [e]; exact this
      obtain ⟨i1, i2, i3, i4⟩ := hL
      obtain ⟨s1, s2, s3⟩ := frac_step (p := sqN l[i]) q0 hq i2 i3 i1
      rw [← ht, ← hst] at s1
      have hX := low_le s1 s2
      have hY := Nat.le_of_dvd (by decide) s2
      obtain ⟨r1, r2, r3, r4⟩ := frac_low s1 s2 s3
      obtain ⟨num', den', hL', hE⟩ := ih (i + 1) _ _ (by omega) (by omega) ⟨r1, r2, r3, r4⟩
      refine ⟨num', den', hL', ev_succ ?_⟩
      have dl : den ≤ 55440 := Nat.le_of_dvd (by decide) i2
      have nl : num ≤ 554400000000000000 := Nat.le_trans (low_le i1 i2) bd0.1
      have g1 : 0 < Nat.gcd (sqN l[i]) (dbN l[i]) := Nat.gcd_pos_of_pos_right _ q0
      have hd' : 0 < dbN l[i] / Nat.gcd (sqN l[i]) (dbN l[i]) := Nat.div_pos (Nat.le_of_dvd q0 (Nat.gcd_dvd_right _ _)) g1
      have g2 : 0 < Nat.gcd den (dbN l[i] / Nat.gcd (sqN l[i]) (dbN l[i])) := Nat.gcd_pos_of_pos_left _ i3
      have a1 : dbN l[i] / Nat.gcd (sqN l[i]) (dbN l[i]) ≤ 24 := Nat.le_trans (Nat.div_le_self _ _) q1
      have a2 : sqN l[i] / Nat.gcd (sqN l[i]) (dbN l[i]) ≤ 1000000000000 := Nat.le_trans (Nat.div_le_self _ _) hsl
      have ez1 : wrap64 (l[i].f1 * l[i].f1) = ((sqN l[i] : Nat) : Int) := by rw [hsq]; exact wrap_small (by omega) (by omega)
      have ez2 : wrap64 (2 * l[i].f2) = ((dbN l[i] : Nat) : Int) := by rw [hdb]; exact wrap_small (by omega) (by omega)
      have G1 := spec_gcd (sqN l[i]) (dbN l[i])
      have G2 := spec_gcd den (dbN l[i] / Nat.gcd (sqN l[i]) (dbN l[i]))
      have hb2 : sumN (l.take (i + 1)) ≤ 554400000000000000 := bd1.1
      clear bd0 bd1 hst hpt ht hL' s1 s3 r1 r2 r4 i1 i4 ih hx hb
      obtain ⟨n', hn'⟩ : ∃ y, sqN l[i] / Nat.gcd (sqN l[i]) (dbN l[i]) = y := ⟨_, rfl⟩
      obtain ⟨d', hd2⟩ : ∃ y, dbN l[i] / Nat.gcd (sqN l[i]) (dbN l[i]) = y := ⟨_, rfl⟩
      rw [hd2] at G2 g2
      obtain ⟨u, hu⟩ : ∃ y, den / Nat.gcd den d' = y := ⟨_, rfl⟩
      obtain ⟨v, hv⟩ : ∃ y, d' / Nat.gcd den d' = y := ⟨_, rfl⟩
      rw [hn', hd2, hu, hv] at hE hX
      rw [hd2, hu] at hY
      rw [hd2] at a1
      rw [hn'] at a2
      obtain ⟨X, hXe⟩ : ∃ y, num * v + n' * u = y := ⟨_, rfl⟩
      obtain ⟨Y, hYe⟩ : ∃ y, u * d' = y := ⟨_, rfl⟩
      rw [hXe, hYe] at hE
      rw [hXe] at hX
      rw [hYe] at hY
      have G3 := spec_gcd X Y
      have y0 : 0 < Y := by
        rcases Nat.eq_zero_or_pos Y with hz | hz
        · rw [hd2, hu, hYe, hz] at r3; simp at r3
        · exact hz
      have g3 : 0 < Nat.gcd X Y := Nat.gcd_pos_of_pos_right _ y0
      have ul : u ≤ 55440 := by rw [← hu]; exact Nat.le_trans (Nat.div_le_self _ _) dl
      have vl : v ≤ 24 := by rw [← hv]; exact Nat.le_trans (Nat.div_le_self _ _) a1
      obtain ⟨w1, w2, w3, w4, w5, w6, w7, w8, w9, w10⟩ := book_w nl a1 a2 ul vl (Nat.le_trans hX hb2) hY hXe hYe
      simp only [spec_BookOf.l0, if_pos c1, if_pos c2, rd31 hlt, if_neg hm, wp, succ_cast hlt (by omega), ez1, ez2]
      refine Ev.bind G1 ?_
      simp only [if_neg (show ¬ ((Nat.gcd (sqN l[i]) (dbN l[i]) : Nat) : Int) = 0 by omega), tdiv_cast, hn', hd2, w1, w2]
      refine Ev.bind G2 ?_
      simp only [if_neg (show ¬ ((Nat.gcd den d' : Nat) : Int) = 0 by omega), tdiv_cast, hu, hv, w3, w4, w5, w6, w7, w8]
      refine Ev.bind G3 ?_
      simp only [if_neg (show ¬ ((Nat.gcd X Y : Nat) : Int) = 0 by omega), tdiv_cast, w9, w10]
      exact hE
theorem impl_book_from (l : List S31) (hb : l.all bodyB = true) (hl : l.length ≤ 20) (d : Nat) : ∀ i : Nat, l.length - i = d → i ≤ l.length →
    Ev (fun k => impl_BookOf.l0 k l (l.length : Int) (i : Int) (pushI (l.take i)) ((sumN (l.take i) : Nat) : Int) 55440) (pushI l, ((sumN l / Nat.gcd (sumN l) 55440 : Nat) : Int), ((55440 / Nat.gcd (sumN l) 55440 : Nat) : Int), true) := by
  induction d with
  | zero =>
    intro i hd hi
    have e : i = l.length := by omega
    have bd := take_bd hb hl i
    rw [e, List.take_length] at bd ⊢
    have g0 : 0 < Nat.gcd (sumN l) 55440 := Nat.gcd_pos_of_pos_right _ (by decide)
    have q1 : sumN l / Nat.gcd (sumN l) 55440 ≤ sumN l := Nat.div_le_self _ _
    have q2 : 55440 / Nat.gcd (sumN l) 55440 ≤ 55440 := Nat.div_le_self _ _
    have w1 : wrap64 ((sumN l / Nat.gcd (sumN l) 55440 : Nat) : Int) = ((sumN l / Nat.gcd (sumN l) 55440 : Nat) : Int) := wrapN _ (Nat.le_trans q1 bd.1)
    have w2 : wrap64 ((55440 / Nat.gcd (sumN l) 55440 : Nat) : Int) = ((55440 / Nat.gcd (sumN l) 55440 : Nat) : Int) := wrapN _ (Nat.le_trans q2 (by decide))
    have G := impl_gcd 55440 (sumN l)
    have t1 := tdiv_cast (sumN l) (Nat.gcd (sumN l) 55440)
    have t2 : Int.tdiv 55440 ((Nat.gcd (sumN l) 55440 : Nat) : Int) = ((55440 / Nat.gcd (sumN l) 55440 : Nat) : Int) := tdiv_cast 55440 (Nat.gcd (sumN l) 55440)
    refine ev_succ ?_
    simp only [impl_BookOf.l0, if_neg (show ¬ (l.length : Int) < (l.length : Int) by omega), impl_common.f]
    refine Ev.bind G ?_
    simp only [if_neg (show ¬ ((Nat.gcd (sumN l) 55440 : Nat) : Int) = 0 by omega), t1, t2, w1, w2]
    exact Ev.now _
  | succ d ih =>
    intro i hd hi
    have hlt : i < l.length := by omega
    have hx : bodyB l[i] = true := List.all_eq_true.1 hb _ (List.getElem_mem hlt)
    obtain ⟨p0, p1, m0, m1, hsq, hsl, hdb⟩ := body_facts hx
    have bd0 := take_bd hb hl i
    have bd1 := take_bd hb hl (i + 1)
    have hst := sum_take hlt
    have hpt := push_take hlt
    have wp : wrap64 (pushI (l.take i) + l[i].f1) = pushI (l.take (i + 1)) := by rw [hpt]; exact wrap_small (by omega) (by omega)
    have c1 : (i : Int) < (l.length : Int) := by omega
    have c2 : (0 : Int) ≤ (i : Int) := by omega
    have ihn := ih (i + 1) (by omega) (by omega)
    refine ev_succ ?_
    by_cases hm : l[i].f2 = 0
    · have ht : termN l[i] = 0 := by unfold termN; rw [if_pos hm]
      rw [hst, ht, Nat.add_zero] at ihn
      simp only [impl_BookOf.l0, if_pos c1, if_pos c2, rd31 hlt, if_neg (show ¬ l[i].f2 > 0 by omega), wp, succ_cast hlt (by omega)]
      exact ihn
    · have ht : termN l[i] = sqN l[i] * (55440 / dbN l[i]) := by unfold termN; rw [if_neg hm]
      have ez1 : wrap64 (l[i].f1 * l[i].f1) = ((sqN l[i] : Nat) : Int) := by rw [hsq]; exact wrap_small (by omega) (by omega)
      have ez2 : wrap64 (2 * l[i].f2) = ((dbN l[i] : Nat) : Int) := by rw [hdb]; exact wrap_small (by omega) (by omega)
      have q0 : 0 < dbN l[i] := by omega
      have ql : 55440 / dbN l[i] ≤ 55440 := Nat.div_le_self _ _
      have e3 : (55440 : Int) / ((dbN l[i] : Nat) : Int) = ((55440 / dbN l[i] : Nat) : Int) := (Int.natCast_ediv 55440 (dbN l[i])).symm
      have w1 : wrap64 ((55440 / dbN l[i] : Nat) : Int) = ((55440 / dbN l[i] : Nat) : Int) := wrapN _ (Nat.le_trans ql (by decide))
      have w2 : wrap64 (((sqN l[i] : Nat) : Int) * ((55440 / dbN l[i] : Nat) : Int)) = ((termN l[i] : Nat) : Int) := by rw [← Int.natCast_mul, ← ht]; exact wrap_small (by omega) (by omega)
      have w3 : wrap64 (((sumN (l.take i) : Nat) : Int) + ((termN l[i] : Nat) : Int)) = ((sumN (l.take (i + 1)) : Nat) : Int) := by rw [← Int.natCast_add, ← hst]; exact wrap_small (by omega) (by omega)
      simp only [impl_BookOf.l0, if_pos c1, if_pos c2, rd31 hlt, if_pos (show l[i].f2 > 0 by omega), wp, succ_cast hlt (by omega), ez1, ez2, if_neg (show ¬ ((dbN l[i] : Nat) : Int) = 0 by omega), e3, w1, w2, w3]
      exact ihn
def bookV (l : List S31) : Int × Int × Int × Bool := if lineB l = true then (pushI l, ((sumN l / Nat.gcd (sumN l) 55440 : Nat) : Int), ((55440 / Nat.gcd (sumN l) 55440 : Nat) : Int), true) else (0, 0, 0, false)
theorem line_good {l : List S31} (h : lineB l = true) : l.all bodyB = true ∧ l.length ≤ 20 := by
  unfold lineB at h
  rw [line_all, Bool.and_eq_true, Bool.and_eq_true] at h
  have := of_decide_eq_true h.1
  exact ⟨h.2.1, by omega⟩
theorem spec_book (l : List S31) : Ev (fun k => spec_BookOf.f k l) (bookV l) := by
  unfold spec_BookOf.f bookV
  refine Ev.bind (spec_line l) ?_
  cases h : lineB l with
  | false => simp only [Bool.false_eq_true, if_false]; exact Ev.now _
  | true =>
    simp only [if_true]
    obtain ⟨hb, hl⟩ := line_good h
    obtain ⟨num, den, hL, hE⟩ := spec_book_from l hb hl l.length 0 0 1 (by omega) (by omega) ⟨by simp [sumN], by decide, by decide, by decide⟩
    have g0 : 0 < Nat.gcd (sumN l) 55440 := Nat.gcd_pos_of_pos_right _ (by decide)
    obtain ⟨f1, f2, f3⟩ := div_facts g0
    obtain ⟨e1, e2⟩ := frac_one (S := sumN l) hL.1 (show sumN l / Nat.gcd (sumN l) 55440 * 55440 = sumN l * (55440 / Nat.gcd (sumN l) 55440) by
      calc sumN l / Nat.gcd (sumN l) 55440 * 55440 = sumN l / Nat.gcd (sumN l) 55440 * (55440 / Nat.gcd (sumN l) 55440 * Nat.gcd (sumN l) 55440) := by rw [f2]
        _ = sumN l / Nat.gcd (sumN l) 55440 * Nat.gcd (sumN l) 55440 * (55440 / Nat.gcd (sumN l) 55440) := by rw [Nat.mul_comm (55440 / Nat.gcd (sumN l) 55440), ← Nat.mul_assoc]
        _ = sumN l * (55440 / Nat.gcd (sumN l) 55440) := by rw [f1]) hL.2.2.2 f3
    rw [e1, e2] at hE
    exact hE
theorem impl_book (l : List S31) : Ev (fun k => impl_BookOf.f k l) (bookV l) := by
  unfold impl_BookOf.f bookV
  refine Ev.bind (impl_line l) ?_
  cases h : lineB l with
  | false => simp only [Bool.false_eq_true, if_false]; exact Ev.now _
  | true =>
    simp only [if_true]
    obtain ⟨hb, hl⟩ := line_good h
    exact impl_book_from l hb hl l.length 0 (by omega) (by omega)
theorem FnExactBookOf : laws_FnExactBookOf_Pure := by
  intro l hl
  have h1 : l.length ≤ 4398046511104 := by omega
  apply Ev.rounds (r := true)
  unfold laws_FnExactBookOf.f laws_szBodyS.f
  by_cases h : wrap64 (1048576 - (l.length : Int)) < 0
  · simp only [if_pos h, Option.bind_some, show (-1 : Int) < 0 from by decide, if_true]
    exact Ev.now true
  · simp only [if_neg h, Option.bind_some]
    have hk := to_bodies l h1
    have h2 : (l.map bodyOf).length ≤ 4398046511104 := by rw [List.length_map]; exact h1
    refine Ev.bind hk (Ev.bind (spec_book _) (Ev.bind hk (Ev.bind (impl_book _) ?_)))
    simp only [laws_eqBook.f, if_true, Option.bind_some, bne_self_eq_false]
    refine ev_succ ?_
    simp only [laws_FnExactBookOf.j0, Bool.false_eq_true, if_false]
    refine Ev.bind hk (Ev.bind (eq_bodies _ h2) ?_)
    simp only [if_true]
    exact Ev.now true
end Go.Proofs.Ytlijlailbjjfbaa.Pure
