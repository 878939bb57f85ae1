/- The program's StepIslands and the reference's answer alike at every lines, bounce, rounds and time, and the answer is of its own. No condition. -/
import Derived.Test.YtlijlailbjjfbaaPFnExactStepIslandsx15
namespace Go.Proofs.Ytlijlailbjjfbaa.Pure
open Go.RowKit Go.Proofs.Ytlijlailbjjfbaa.PFnExactStepIslands Go.Proofs.YtlijlailbjjfbaaW.PrintWords Go.Proofs.YtlijlailbjjfbaaW.PrintLast Go.Proofs.YtlijlailbjjfbaaW.PrintMore
set_option linter.unusedVariables false
set_option linter.unusedSimpArgs false
/-- What can be read as a datum of type 30. -/
def Good30 (x : S30) : Prop := (Lit.int .i64 x.f0).wf = true ∧ (Lit.int .i64 x.f1).wf = true ∧ (Lit.int .i64 x.f2).wf = true ∧ (Lit.int .i64 x.f3).wf = true
/-- The one pure statement. -/
def laws_FnExactStepIslands_Pure : Prop := ∀ (l0 : (List (List S30))) (a1 : Int) (a2 : Int) (a3 : Int), (List.length l0 ≤ maxLen ∧ List.length l0 * 24 ≤ 140737488351232 ∧ ∀ y ∈ l0, (List.length y ≤ maxLen ∧ List.length y * 32 ≤ 140737488351232 ∧ ∀ z ∈ y, Good30 z)) → (Lit.int .i64 a1).wf = true → (Lit.int .i64 a2).wf = true → (Lit.int .i64 a3).wf = true → ∃ k, laws_FnExactStepIslands.f k l0 a1 a2 a3 = some true
/-! #### whole numbers: wraps, quotients towards nought -/
theorem wrap_small {i : Int} (h0 : -9223372036854775808 ≤ i) (h1 : i ≤ 9223372036854775807) : wrap64 i = i := by unfold wrap64; omega
theorem tdiv_pos {a b : Int} (ha : 0 ≤ a) : Int.tdiv a b = a / b := Int.tdiv_eq_ediv_of_nonneg ha
theorem tmod_pos {a b : Int} (ha : 0 ≤ a) : Int.tmod a b = a % b := Int.tmod_eq_emod_of_nonneg ha
theorem tdiv_neg' {a b : Int} (ha : a < 0) : Int.tdiv a b = -((-a) / b) := by
 rw [← Int.tdiv_eq_ediv_of_nonneg (a := -a) (by omega), Int.neg_tdiv, Int.neg_neg]
theorem tmod_neg' {a b : Int} (ha : a < 0) : Int.tmod a b = -((-a) % b) := by
 rw [← Int.tmod_eq_emod_of_nonneg (a := -a) (by omega), Int.neg_tmod, Int.neg_neg]
theorem wf64 {a : Int} (h : (Lit.int .i64 a).wf = true) : -9223372036854775808 ≤ a ∧ a ≤ 9223372036854775807 := by
 simp [Lit.wf, IntKind.min, IntKind.max, IntKind.signed, IntKind.bits] at h
 omega
theorem ev_succ {α : Type} {g : Nat → Option α} {r : α} (h : Ev (fun k => g (k + 1)) r) : Ev g r := Ev.step (f := fun k => g (k + 1)) (fun _ => rfl) h
theorem ev_eq {α : Type} {g : Nat → Option α} {r : α} (h : ∀ k, g k = some r) : Ev g r := ⟨0, fun k _ => h k⟩
theorem ev_val {α : Type} {g : Nat → Option α} {r r' : α} (h : Ev g r) (e : r = r') : Ev g r' := e ▸ h
/-! #### is a number in a span -/
def inB (a b c : Int) : Bool := decide (b ≤ a ∧ a ≤ c)
theorem inB_iff {a b c : Int} : inB a b c = true ↔ b ≤ a ∧ a ≤ c := by unfold inB; rw [decide_eq_true_eq]
theorem spec_in (a b c : Int) : spec_l1In.f a b c = some (inB a b c) := by
 unfold spec_l1In.f inB
 by_cases h : a ≥ b
 ·rw [if_pos h]; congr 1; rw [decide_eq_decide]; omega
 ·rw [if_neg h]; congr 1; exact (decide_eq_false (by omega)).symm
theorem impl_in (a b c : Int) : impl_inRange.f a b c = some (inB a b c) := by
 unfold impl_inRange.f inB
 by_cases h : b ≤ a
 ·rw [if_pos h]; congr 1; rw [decide_eq_decide]; omega
 ·rw [if_neg h]; congr 1; exact (decide_eq_false (by omega)).symm
/-! #### loops that go up, from a place on -/
theorem Ev_up {σ ρ : Type} (g : Nat → Nat → σ → Option ρ) (n : Nat) (Inv : Nat → σ → Prop) (Post : ρ → Prop)
  (hend : ∀ s, Inv n s → ∃ r, Ev (fun k => g k n s) r ∧ Post r)
  (hstep : ∀ i s, i < n → Inv i s → (∃ r, Ev (fun k => g k i s) r ∧ Post r) ∨ (∃ s', Inv (i + 1) s' ∧ ∀ r, Ev (fun k => g k (i + 1) s') r → Ev (fun k => g k i s) r))
  (d : Nat) : ∀ i s, n - i = d → i ≤ n → Inv i s → ∃ r, Ev (fun k => g k i s) r ∧ Post r := by
 induction d with
 | zero =>
  intro i s hd hi hs
  obtain rfl : i = n := by omega
  exact hend s hs
 | succ d ih =>
  intro i s hd hi hs
  rcases hstep i s (by omega) hs with h | ⟨s', hs', hg⟩
  ·exact h
  ·obtain ⟨r, hr, hp⟩ := ih (i + 1) s' (by omega) (by omega) hs'
   exact ⟨r, hg r hr, hp⟩
theorem succ_cast {i n : Nat} (h : i < n) (hn : n ≤ 9223372036854775806) : wrap64 ((i : Int) + 1) = ((i + 1 : Nat) : Int) := by
 rw [wrap_small (by omega) (by omega)]; omega
theorem drop_cons {α : Type} {l : List α} {i : Nat} (h : i < l.length) : l.drop i = l[i] :: l.drop (i + 1) := List.drop_eq_getElem_cons h
theorem rd_at {l : List Int} {i : Nat} (h : i < l.length) : rd l (i : Int) = l[i] := by simp [rd, h]
/-! #### loops that copy and loops that compare -/
theorem set_step {α β : Type} (g : α → β) (z : β) (l : List α) (i : Nat) (hi : i < l.length) : ((l.take i).map g ++ List.replicate (l.length - i) z).set i (g l[i]) = (l.take (i + 1)).map g ++ List.replicate (l.length - (i + 1)) z := by
 have e : l.length - i = (l.length - (i + 1)) + 1 := by omega
 have hl : ((l.take i).map g).length = i := by rw [List.length_map, List.length_take]; omega
 rw [e, List.replicate_succ, List.set_append_right _ _ (by omega), hl, Nat.sub_self, List.set_cons_zero, List.take_succ_eq_append_getElem hi, List.map_append, List.append_assoc]
 rfl
/-- A loop that sets each place of a fresh list. -/
theorem ev_map {α β : Type} (l : List α) (z : β) (g : α → β) (F : Nat → List β → Int → Option (List β)) (G : Nat → α → Option β) (hG : ∀ i (hi : i < l.length), Ev (fun k => G k l[i]) (g l[i]))
  (hstep : ∀ k (x : List β) (i : Nat) (hi : i < l.length), x.length = l.length → F (k + 1) x (i : Int) = (G k l[i]).bind fun v => F k (x.set i v) ((i + 1 : Nat) : Int))
  (hend : ∀ k (x : List β), F (k + 1) x (l.length : Int) = some x) : Ev (fun k => F k (List.replicate l.length z) 0) (l.map g) := by
 have main : ∀ d i, l.length - i = d → i ≤ l.length → Ev (fun k => F k ((l.take i).map g ++ List.replicate (l.length - i) z) (i : Int)) (l.map g) := by
  intro d
  induction d with
  | zero =>
   intro i hd hi
   obtain rfl : i = l.length := by omega
   refine ev_succ ?_
   simp only [hend, Nat.sub_self, List.replicate_zero, List.append_nil, List.take_length]
   exact Ev.now _
  | succ d ih =>
   intro i hd hi
   have hlt : i < l.length := by omega
   refine ev_succ ?_
   have hx : ((l.take i).map g ++ List.replicate (l.length - i) z).length = l.length := by
    rw [List.length_append, List.length_map, List.length_take, List.length_replicate]; omega
   simp only [hstep _ _ i hlt hx]
   refine Ev.bind (hG i hlt) ?_
   simp only [set_step g z l i hlt]
   exact ih (i + 1) (by omega) (by omega)
 have := main l.length 0 (by omega) (by omega)
 simp only [List.take_zero, List.map_nil, List.nil_append, Nat.sub_zero] at this
 exact this
/-- A loop that asks each place, and every place answers true. -/
theorem ev_trues {n : Nat} (F : Nat → Int → Option Bool) (G : Nat → Nat → Option Bool) (hG : ∀ i, i < n → Ev (fun k => G k i) true)
  (hstep : ∀ k (i : Nat), i < n → F (k + 1) (i : Int) = (G k i).bind fun t => if t = true then F k ((i + 1 : Nat) : Int) else some false)
  (hend : ∀ k, F (k + 1) (n : Int) = some true) : Ev (fun k => F k 0) true := by
 have main : ∀ d i, n - i = d → i ≤ n → Ev (fun k => F k (i : Int)) true := by
  intro d
  induction d with
  | zero =>
   intro i hd hi
   obtain rfl : i = n := by omega
   refine ev_succ ?_
   simp only [hend]
   exact Ev.now _
  | succ d ih =>
   intro i hd hi
   refine ev_succ ?_
   simp only [hstep _ i (show i < n by omega)]
   refine Ev.bind (hG i (by omega)) ?_
   simp only [if_true]
   exact ih (i + 1) (by omega) (by omega)
 exact main n 0 (by omega) (by omega)
theorem toNat_cast (i : Nat) : ((i : Int)).toNat = i := Int.toNat_natCast i
/-! #### bodies on a line -/
def bodyOf (x : S30) : S31 := ⟨x.f0, x.f1, x.f2, x.f3⟩
theorem rd30 {l : List S30} {i : Nat} (h : i < l.length) : rd_T30 l (i : Int) = l[i] := by simp [rd_T30, h]
theorem rd31 {l : List S31} {i : Nat} (h : i < l.length) : rd_T31 l (i : Int) = l[i] := by simp [rd_T31, h]
theorem getB {l : List S31} {i : Nat} (h : i < l.length) : l.getD i z31 = l[i] := by simp [h]
theorem to_bodies (l : List S30) (hl : l.length ≤ 4398046511104) : Ev (fun k => laws_toBodyS.f k l) (l.map bodyOf) := by
 unfold laws_toBodyS.f
 simp only [if_pos (show (0 : Int) ≤ (l.length : Int) by omega), toNat_cast, if_pos (show l.length ≤ 8796093022208 by omega)]
 refine ev_map l z31 bodyOf (fun k x i => laws_toBodyS.l0 k l x i) (fun _ x => some (bodyOf x)) (fun _ _ => Ev.now _) ?_ ?_
 ·intro k x i hi hx
  simp only [laws_toBodyS.l0, if_pos (show (i : Int) < (l.length : Int) by omega), if_pos (show (0 : Int) ≤ (i : Int) by omega), laws_toBody.f, Option.bind_some, if_pos (show (i : Int) < (x.length : Int) by omega), rd30 hi, toNat_cast, succ_cast hi (by omega)]
  rfl
 ·intro k x
  simp only [laws_toBodyS.l0, if_neg (show ¬ (l.length : Int) < (l.length : Int) by omega)]
theorem eq_bodies (l : List S31) (hl : l.length ≤ 4398046511104) : Ev (fun k => laws_eqBodyS.f k l l) true := by
 unfold laws_eqBodyS.f
 simp only [if_true]
 refine ev_trues (n := l.length) (fun k i => laws_eqBodyS.l0 k l l i) (fun _ _ => some true) (fun _ _ => Ev.now _) ?_ ?_
 ·intro k i hi
  simp only [laws_eqBodyS.l0, if_pos (show (i : Int) < (l.length : Int) by omega), if_pos (show (0 : Int) ≤ (i : Int) by omega), laws_eqBody.f, if_true, Option.bind_some, rd31 hi, succ_cast hi (by omega)]
 ·intro k
  simp only [laws_eqBodyS.l0, if_neg (show ¬ (l.length : Int) < (l.length : Int) by omega)]
def bodyB (x : S31) : Bool := inB x.f0 (-1000000000) 1000000000 && (inB x.f1 (-1000000) 1000000 && (inB x.f2 0 12 && ((decide (x.f2 > 0) || decide (x.f1 = 0)) && inB x.f3 1 1000)))
theorem spec_body (x : S31) : spec_l10Body.f x.f0 x.f1 x.f2 x.f3 = some (bodyB x) := by
 unfold spec_l10Body.f bodyB
 simp only [spec_in, Option.bind_some]
 cases inB x.f0 (-1000000000) 1000000000 <;> cases inB x.f1 (-1000000) 1000000 <;> cases inB x.f2 0 12 <;> by_cases h1 : x.f2 > 0 <;> by_cases h2 : x.f1 = 0 <;> simp [h1, h2]
theorem impl_body (x : S31) : impl_isBody.f x.f0 x.f1 x.f2 x.f3 = some (bodyB x) := by
 unfold impl_isBody.f bodyB
 simp only [impl_in, Option.bind_some]
 cases inB x.f0 (-1000000000) 1000000000 <;> cases inB x.f1 (-1000000) 1000000 <;> cases inB x.f2 0 12 <;> by_cases h1 : x.f2 > 0 <;> by_cases h2 : x.f1 = 0 <;> simp [h1, h2]
def gapB (l : List S31) (i : Nat) : Bool := !(decide (wrap64 ((l.getD (i - 1) z31).f0 + (l.getD (i - 1) z31).f3) > wrap64 ((l.getD i z31).f0 - (l.getD i z31).f3)))
def gapsFrom (l : List S31) : Nat → Nat → Bool
 | 0, _ => true
 | d + 1, i => gapB l i && gapsFrom l d (i + 1)
def lineFrom (l : List S31) : Nat → Nat → Bool
 | 0, _ => true
 | d + 1, i => (bodyB (l.getD i z31) && (decide (i = 0) || gapB l i)) && lineFrom l d (i + 1)
theorem bpred {i : Nat} (h0 : i ≠ 0) (h1 : i ≤ 4398046511104) : wrap64 ((i : Int) - 1) = ((i - 1 : Nat) : Int) := by rw [wrap_small (by omega) (by omega)]; omega
theorem spec_line_from (l : List S31) (hl : l.length ≤ 4398046511104) (d : Nat) : ∀ i : Nat, l.length - i = d → i ≤ l.length → Ev (fun k => spec_GoodLine.l0 k l l (l.length : Int) (i : Int)) (lineFrom l d i) := by
 induction d with
 | zero =>
  intro i hd hi
  refine ev_succ ?_
  simp only [spec_GoodLine.l0, if_neg (show ¬ (i : Int) < (l.length : Int) by omega)]
  exact Ev.now _
 | succ d ih =>
  intro i hd hi
  have hlt : i < l.length := by omega
  have ihn := ih (i + 1) (by omega) (by omega)
  refine ev_succ ?_
  unfold lineFrom gapB
  rw [getB hlt]
  simp only [spec_GoodLine.l0, if_pos (show (i : Int) < (l.length : Int) by omega), if_pos (show (0 : Int) ≤ (i : Int) by omega), rd31 hlt, spec_body, Option.bind_some, succ_cast hlt (by omega)]
  cases bodyB l[i] with
  | false => simp only [Bool.false_eq_true, if_false, Bool.false_and]; exact Ev.now _
  | true =>
   simp only [if_true, Bool.true_and]
   by_cases c0 : i = 0
   ·simp only [if_neg (show ¬ (i : Int) > 0 by omega), decide_eq_true c0, Bool.true_or, Bool.true_and]
    exact ihn
   ·have h1 : i - 1 < l.length := by omega
    simp only [if_pos (show (i : Int) > 0 by omega), bpred c0 (by omega), if_pos (show (0 : Int) ≤ ((i - 1 : Nat) : Int) by omega), if_pos (show ((i - 1 : Nat) : Int) < (l.length : Int) by omega), rd31 h1, getB h1, decide_eq_false c0, Bool.false_or]
    by_cases c1 : wrap64 (l[i - 1].f0 + l[i - 1].f3) > wrap64 (l[i].f0 - l[i].f3)
    ·simp only [if_pos c1, decide_eq_true c1, Bool.not_true, Bool.false_and]; exact Ev.now _
    ·simp only [if_neg c1, decide_eq_false c1, Bool.not_false, Bool.true_and]; exact ihn
theorem impl_gaps_from (l : List S31) (hl : l.length ≤ 4398046511104) (d : Nat) : ∀ i : Nat, l.length - i = d → i ≠ 0 → Ev (fun k => impl_apart.l0 k l (i : Int)) (gapsFrom l d i) := by
 induction d with
 | zero =>
  intro i hd hi
  refine ev_succ ?_
  simp only [impl_apart.l0, if_neg (show ¬ (i : Int) < (l.length : Int) by omega)]
  exact Ev.now _
 | succ d ih =>
  intro i hd c0
  have hlt : i < l.length := by omega
  have ihn := ih (i + 1) (by omega) (by omega)
  have h1 : i - 1 < l.length := by omega
  refine ev_succ ?_
  unfold gapsFrom gapB
  rw [getB hlt]
  simp only [impl_apart.l0, if_pos (show (i : Int) < (l.length : Int) by omega), if_pos (show (0 : Int) ≤ (i : Int) by omega), bpred c0 (by omega), if_pos (show (0 : Int) ≤ ((i - 1 : Nat) : Int) by omega), if_pos (show ((i - 1 : Nat) : Int) < (l.length : Int) by omega), rd31 hlt, rd31 h1, getB h1, succ_cast hlt (by omega)]
  by_cases c1 : wrap64 (l[i - 1].f0 + l[i - 1].f3) > wrap64 (l[i].f0 - l[i].f3)
  ·simp only [if_pos c1, decide_eq_true c1, Bool.not_true, Bool.false_and]; exact Ev.now _
  ·simp only [if_neg c1, decide_eq_false c1, Bool.not_false, Bool.true_and]; exact ihn
theorem line_split (l : List S31) (d : Nat) : ∀ i : Nat, l.length - i = d → i ≠ 0 → lineFrom l d i = ((l.drop i).all bodyB && gapsFrom l d i) := by
 induction d with
 | zero =>
  intro i hd hi
  rw [List.drop_eq_nil_of_le (by omega)]
  rfl
 | succ d ih =>
  intro i hd c0
  have hlt : i < l.length := by omega
  rw [drop_cons hlt, List.all_cons]
  unfold lineFrom gapsFrom
  rw [ih (i + 1) (by omega) (by omega), getB hlt, decide_eq_false c0, Bool.false_or]
  cases bodyB l[i] <;> cases gapB l i <;> cases (l.drop (i + 1)).all bodyB <;> simp
theorem line_all (l : List S31) : lineFrom l l.length 0 = (l.all bodyB && gapsFrom l (l.length - 1) 1) := by
 by_cases c : l.length = 0
 ·have e : l = [] := List.eq_nil_of_length_eq_zero c
  subst e
  rfl
 ·have hlt : 0 < l.length := by omega
  obtain ⟨d, hd⟩ : ∃ d, l.length = d + 1 := ⟨l.length - 1, by omega⟩
  have hs := line_split l d 1 (by omega) (by omega)
  have ha : l.all bodyB = (bodyB l[0] && (l.drop 1).all bodyB) := by
   have := drop_cons hlt
   rw [List.drop_zero] at this
   conv => lhs; rw [this]
   rw [List.all_cons]
  rw [hd, Nat.add_sub_cancel, ha]
  unfold lineFrom
  rw [hs, getB hlt, decide_eq_true rfl, Bool.true_or, Bool.and_true, Bool.and_assoc]
def lineB (l : List S31) : Bool := decide ((l.length : Int) ≤ 20) && lineFrom l l.length 0
theorem spec_line (l : List S31) : Ev (fun k => spec_GoodLine.f k l) (lineB l) := by
 unfold spec_GoodLine.f lineB
 by_cases c : (l.length : Int) > 20
 ·rw [decide_eq_false (show ¬ (l.length : Int) ≤ 20 by omega)]
  simp only [if_pos c, Bool.false_and]
  exact Ev.now _
 ·rw [decide_eq_true (show (l.length : Int) ≤ 20 by omega)]
  simp only [if_neg c, Bool.true_and]
  exact spec_line_from l (by omega) l.length 0 (by omega) (by omega)
theorem impl_line (l : List S31) : Ev (fun k => impl_GoodLine.f k l) (lineB l) := by
 unfold impl_GoodLine.f lineB
 by_cases c : (l.length : Int) ≤ 20
 ·have h : anyO impl_GoodLine.on l = some (l.any fun a => !(bodyB a)) := anyO_some _ (fun a _ => by
   unfold impl_GoodLine.on impl_GoodLine_1.f
   rw [impl_body]; rfl)
  rw [decide_eq_true c, line_all]
  simp only [if_pos c, h, Option.bind_some, Bool.true_and]
  have e : (l.any fun a => !(bodyB a)) = !(l.all bodyB) := by
   rw [← List.not_all_eq_any_not]
  rw [e]
  cases l.all bodyB with
  | false => simp only [Bool.not_false, if_true, Bool.false_and]; exact Ev.now _
  | true =>
   simp only [Bool.not_true, Bool.false_eq_true, if_false, Bool.true_and]
   exact impl_gaps_from l (by omega) (l.length - 1) 1 (by omega) (by omega)
 ·rw [decide_eq_false c]
  simp only [if_neg c, Bool.false_and]
  exact Ev.now _
/-! #### marks in bodies -/
theorem rds {xs : List S31} {i : Nat} (h : i < xs.length) (v : S31) : rd_T31 (xs.set i v) (i : Int) = v := by
 rw [rd31 (by rw [List.length_set]; exact h), List.getElem_set_self]
def bodyMark (j : Nat) : S31 := ⟨1 + 4 * (j : Int), 2 + 4 * (j : Int), 3 + 4 * (j : Int), 4 + 4 * (j : Int)⟩
def markedB (ys : List S31) (n : Nat) : Prop := ys.length = n ∧ ∀ j (h : j < ys.length), ys[j] = bodyMark j
theorem mark_step (xs : List S31) (m : Int) (i : Nat) (hlt : i < xs.length) (hi : i ≤ 4398046511104) (h0 : 0 ≤ m) (h1 : m ≤ 4611686018427387904) (k : Nat) : laws_markBodyS.l0 (k + 1) xs m (i : Int) = laws_markBodyS.l0 k (xs.set i ⟨m, m + 1, m + 1 + 1, m + 1 + 1 + 1⟩) (m + 1 + 1 + 1 + 1) ((i + 1 : Nat) : Int) := by
 have e1 : wrap64 (m + 1) = m + 1 := wrap_small (by omega) (by omega)
 have e2 : wrap64 (m + 1 + 1) = m + 1 + 1 := wrap_small (by omega) (by omega)
 have e3 : wrap64 (m + 1 + 1 + 1) = m + 1 + 1 + 1 := wrap_small (by omega) (by omega)
 have e4 : wrap64 (m + 1 + 1 + 1 + 1) = m + 1 + 1 + 1 + 1 := wrap_small (by omega) (by omega)
 have es : wrap64 ((i : Int) + 1) = ((i + 1 : Nat) : Int) := by rw [wrap_small (by omega) (by omega)]; omega
 simp only [laws_markBodyS.l0, if_pos (show (i : Int) < (xs.length : Int) by omega), if_pos (show (0 : Int) ≤ (i : Int) by omega), Option.bind_some, toNat_cast, rd31 hlt, List.set_set, rds hlt, e1, e2, e3, e4, es]
theorem mark_bodies_from (n : Nat) (hn : n ≤ 4398046511104) (d : Nat) : ∀ (i : Nat) (xs : List S31) (m : Int), n - i = d → i ≤ n → xs.length = n → m = 1 + 4 * (i : Int) → (∀ j (h : j < xs.length), j < i → xs[j] = bodyMark j) → ∃ ys, markedB ys n ∧ Ev (fun k => laws_markBodyS.l0 k xs m (i : Int)) (1 + 4 * (n : Int), ys) := by
 induction d with
 | zero =>
  intro i xs m hd hi hx hm hj
  have : i = n := by omega
  refine ⟨xs, ⟨hx, fun j h => hj j h (by omega)⟩, ev_succ ?_⟩
  simp only [laws_markBodyS.l0, if_neg (show ¬ (i : Int) < (xs.length : Int) by omega)]
  rw [hm, this]
  exact Ev.now _
 | succ d ih =>
  intro i xs m hd hi hx hm hj
  have hlt : i < xs.length := by omega
  obtain ⟨ys, hm2, hy⟩ := ih (i + 1) (xs.set i ⟨m, m + 1, m + 1 + 1, m + 1 + 1 + 1⟩) (m + 1 + 1 + 1 + 1) (by omega) (by omega) (by simp only [List.length_set]; exact hx) (by omega) (by
   intro j h h2
   by_cases e : j = i
   ·subst e
    rw [List.getElem_set_self, hm]
    unfold bodyMark
    congr 1 <;> omega
   ·rw [List.getElem_set_ne (fun h => e h.symm)]
    exact hj j (by simpa using h) (by omega))
  refine ⟨ys, hm2, ev_succ ?_⟩
  simp only [mark_step xs m i hlt (by omega) (by omega) (by omega)]
  exact hy
theorem mark_bodies (l : List S31) (hl : l.length ≤ 4398046511104) : ∃ ys, markedB ys l.length ∧ Ev (fun k => laws_markBodyS.f k l 1) (1 + 4 * (l.length : Int), ys) :=
 mark_bodies_from l.length hl l.length 0 l 1 (by omega) (by omega) rfl (by omega) (fun j h h2 => absurd h2 (Nat.not_lt_zero _))
theorem held_step (ys : List S31) (m : Int) (i : Nat) (hlt : i < ys.length) (hi : i ≤ 4398046511104) (h0 : 0 ≤ m) (h1 : m ≤ 4611686018427387904) (g : ys[i] = ⟨m, m + 1, m + 1 + 1, m + 1 + 1 + 1⟩) (k : Nat) : laws_heldBodyS.l0 (k + 1) ys m (i : Int) = laws_heldBodyS.l0 k ys (m + 1 + 1 + 1 + 1) ((i + 1 : Nat) : Int) := by
 have e1 : wrap64 (m + 1) = m + 1 := wrap_small (by omega) (by omega)
 have e2 : wrap64 (m + 1 + 1) = m + 1 + 1 := wrap_small (by omega) (by omega)
 have e3 : wrap64 (m + 1 + 1 + 1) = m + 1 + 1 + 1 := wrap_small (by omega) (by omega)
 have e4 : wrap64 (m + 1 + 1 + 1 + 1) = m + 1 + 1 + 1 + 1 := wrap_small (by omega) (by omega)
 have es : wrap64 ((i : Int) + 1) = ((i + 1 : Nat) : Int) := by rw [wrap_small (by omega) (by omega)]; omega
 have c1 : (i : Int) < (ys.length : Int) := by omega
 have c2 : (0 : Int) ≤ (i : Int) := by omega
 simp only [laws_heldBodyS.l0, if_pos c1, if_pos c2, rd31 hlt, g, e1, e2, e3, e4, es, if_true]
theorem held_bodies_from (ys : List S31) (n : Nat) (hy : markedB ys n) (hn : n ≤ 4398046511104) (d : Nat) : ∀ (i : Nat) (m : Int), n - i = d → i ≤ n → m = 1 + 4 * (i : Int) → Ev (fun k => laws_heldBodyS.l0 k ys m (i : Int)) (1 + 4 * (n : Int)) := by
 obtain ⟨h1, h2⟩ := hy
 induction d with
 | zero =>
  intro i m hd hi hm
  have : i = n := by omega
  refine ev_succ ?_
  simp only [laws_heldBodyS.l0, if_neg (show ¬ (i : Int) < (ys.length : Int) by omega)]
  rw [hm, this]
  exact Ev.now _
 | succ d ih =>
  intro i m hd hi hm
  have hlt : i < ys.length := by omega
  have g : ys[i] = ⟨m, m + 1, m + 1 + 1, m + 1 + 1 + 1⟩ := by
   rw [h2 i hlt, hm]
   unfold bodyMark
   congr 1 <;> omega
  refine ev_succ ?_
  simp only [held_step ys m i hlt (by omega) (by omega) (by omega) g]
  exact ih (i + 1) _ (by omega) (by omega) (by omega)
theorem held_bodies (ys : List S31) (n : Nat) (hy : markedB ys n) (hn : n ≤ 4398046511104) : Ev (fun k => laws_heldBodyS.f k ys 1) (1 + 4 * (n : Int)) := held_bodies_from ys n hy hn n 0 1 (by omega) (by omega) (by omega)
theorem rdn {xs : List S31} {i j : Nat} (h : j < xs.length) (hne : i ≠ j) (v : S31) : rd_T31 (xs.set i v) (j : Int) = xs[j] := by
 rw [rd31 (by rw [List.length_set]; exact h), List.getElem_set_ne hne]
theorem sc {i : Nat} (h : i ≤ 4398046511104) : wrap64 ((i : Int) + 1) = ((i + 1 : Nat) : Int) := by rw [wrap_small (by omega) (by omega)]; omega
theorem pc {i : Nat} (h : i ≤ 4398046511104) : wrap64 ((i : Int) - 1) = (i : Int) - 1 := wrap_small (by omega) (by omega)
theorem pc1 {i : Nat} (h : i ≤ 4398046511104) : wrap64 (((i + 1 : Nat) : Int) - 1) = (i : Int) := by rw [wrap_small (by omega) (by omega)]; omega
theorem pos_ne {a : Int} (h : a > 0) : ¬ a = 0 := by omega
theorem pos_no {a : Int} (h0 : 0 ≤ a) (h : ¬ a > 0) : a = 0 := by omega
theorem lt_cast {i n : Nat} (h : i < n) : (i : Int) < (n : Int) := by omega
theorem nn_cast (i : Nat) : (0 : Int) ≤ (i : Int) := by omega
theorem pos_cast {i : Nat} (h : ¬ i = 0) : (i : Int) > 0 := by omega
theorem no_cast {i : Nat} (h : i = 0) : ¬ (i : Int) > 0 := by omega
theorem pred_lt {i n : Nat} (h : i < n) : i - 1 < n := by omega
theorem ne_pred {i : Nat} (h : ¬ i = 0) : i ≠ i - 1 := by omega
/-! #### pushes of bodies on a line -/
theorem body_bd {x : S31} (h : bodyB x = true) : -1000000 ≤ x.f1 ∧ x.f1 ≤ 1000000 ∧ 0 ≤ x.f2 ∧ x.f2 ≤ 12 ∧ (x.f2 = 0 → x.f1 = 0) := by
 unfold bodyB at h
 simp only [Bool.and_eq_true, inB_iff, Bool.or_eq_true, decide_eq_true_eq] at h
 omega
theorem pm_bd {p m : Int} (h0 : -1000000 ≤ p) (h1 : p ≤ 1000000) (m0 : 0 ≤ m) (m1 : m ≤ 12) : -12000000 ≤ p * m ∧ p * m ≤ 12000000 := by
 have a1 := Int.mul_le_mul_of_nonneg_right h1 m0
 have a2 := Int.mul_le_mul_of_nonneg_right h0 m0
 omega
def nearN (a b : S31) : Int := a.f1 * mx b.f2 1 - b.f1 * mx a.f2 1
def farB (a b : S31) : Bool := decide (wrap64 (a.f0 + a.f3) < wrap64 (b.f0 - b.f3))
def nearB (a b : S31) : Bool := !(decide (a.f2 = 0) && decide (b.f2 = 0)) && decide (nearN a b > 0)
def jV (a b : S31) (c : Int) : Int :=
 if b.f2 = 0 then wrap64 (Int.tdiv (wrap64 (wrap64 (100 + c) * a.f1)) 100)
 else if a.f2 = 0 then wrap64 (Int.tdiv (wrap64 (wrap64 (100 + c) * wrap64 (-b.f1))) 100)
 else wrap64 (Int.tdiv (wrap64 (wrap64 (100 + c) * nearN a b)) (wrap64 (100 * wrap64 (a.f2 + b.f2))))
def atP (b : S31) (p : Int) : S31 := ⟨b.f0, p, b.f2, b.f3⟩
def pushB (a b : S31) (j : Int) : S31 × S31 := (if a.f2 > 0 then atP a (wrap64 (a.f1 - j)) else a, if b.f2 > 0 then atP b (wrap64 (b.f1 + j)) else b)
def pairV (a b : S31) (c : Int) : S31 × S31 := if (farB a b || !nearB a b) = true then (a, b) else pushB a b (jV a b c)
def eightOf (p : S31 × S31) : Int × Int × Int × Int × Int × Int × Int × Int := (p.1.f0, p.1.f1, p.1.f2, p.1.f3, p.2.f0, p.2.f1, p.2.f2, p.2.f3)
theorem mx_pos {m : Int} (h : 0 < m) : mx m 1 = m := by unfold mx; rw [if_neg (by omega)]
theorem mx_zero {m : Int} (h : m = 0) : mx m 1 = 1 := by subst h; rfl
theorem mx_bd {m : Int} (h0 : 0 ≤ m) (h1 : m ≤ 12) : 0 ≤ mx m 1 ∧ mx m 1 ≤ 12 := by unfold mx; split <;> omega
theorem near_wrap {a b : S31} (ha : bodyB a = true) (hb : bodyB b = true) : wrap64 (wrap64 (a.f1 * mx b.f2 1) - wrap64 (b.f1 * mx a.f2 1)) = nearN a b := by
 obtain ⟨p0, p1, m0, m1, _⟩ := body_bd ha
 obtain ⟨q0, q1, n0, n1, _⟩ := body_bd hb
 have g1 := mx_bd m0 m1
 have g2 := mx_bd n0 n1
 have b1 := pm_bd p0 p1 g2.1 g2.2
 have b2 := pm_bd q0 q1 g1.1 g1.2
 unfold nearN
 rw [wrap_small (i := a.f1 * mx b.f2 1) (by omega) (by omega), wrap_small (i := b.f1 * mx a.f2 1) (by omega) (by omega), wrap_small (by omega) (by omega)]
theorem spec_push_end (a b : S31) (j : Int) : Ev (fun k => spec_l10Pair.j1 k j a.f0 a.f1 a.f2 a.f3 b.f0 b.f1 b.f2 b.f3) (eightOf (pushB a b j)) := by
 refine ev_succ ?_
 unfold eightOf pushB
 simp only [spec_l10Pair.j1]
 by_cases c : a.f2 > 0 <;> by_cases c' : b.f2 > 0 <;> simp only [c, c', if_true, if_false] <;> exact Ev.now _
theorem impl_push_end (a b : S31) (j : Int) : Ev (fun k => impl_pushed.j1 k j a.f0 a.f1 a.f2 a.f3 b.f0 b.f1 b.f2 b.f3) (eightOf (pushB a b j)) := by
 refine ev_succ ?_
 unfold eightOf pushB
 simp only [impl_pushed.j1]
 by_cases c : a.f2 > 0 <;> by_cases c' : b.f2 > 0 <;> simp only [c, c', if_true, if_false] <;> exact Ev.now _
theorem den_ne {a b : S31} (ha : bodyB a = true) (hb : bodyB b = true) (h : ¬ a.f2 = 0) : ¬ wrap64 (100 * wrap64 (a.f2 + b.f2)) = 0 := by
 obtain ⟨p0, p1, m0, m1, _⟩ := body_bd ha
 obtain ⟨q0, q1, n0, n1, _⟩ := body_bd hb
 rw [wrap_small (i := a.f2 + b.f2) (by omega) (by omega), wrap_small (by omega) (by omega)]
 omega
theorem spec_near {a b : S31} (ha : bodyB a = true) (hb : bodyB b = true) : Ev (fun k => spec_l10Near.f k a.f0 a.f1 a.f2 a.f3 b.f0 b.f1 b.f2 b.f3) (nearB a b) := by
 obtain ⟨p0, p1, m0, m1, z1⟩ := body_bd ha
 obtain ⟨q0, q1, n0, n1, z2⟩ := body_bd hb
 unfold spec_l10Near.f nearB nearN
 by_cases c1 : a.f2 = 0
 ·simp only [if_pos c1, decide_eq_true c1, Bool.true_and]
  by_cases c2 : b.f2 = 0
  ·refine ev_succ ?_
   simp only [c2, BEq.rfl, spec_l10Near.j0, if_true, decide_true, Bool.not_true, Bool.false_and]
   exact Ev.now _
  ·have e : (b.f2 == 0) = false := beq_eq_false_iff_ne.2 c2
   refine ev_succ ?_
   simp only [e, spec_l10Near.j0, Bool.false_eq_true, if_false, if_pos c1, decide_eq_false c2, Bool.not_false, Bool.true_and, mx_zero c1, mx_pos (show 0 < b.f2 by omega), z1 c1]
   refine ev_val (Ev.now _) ?_
   rw [decide_eq_decide]; omega
 ·simp only [if_neg c1, decide_eq_false c1, Bool.false_and, Bool.not_false, Bool.true_and]
  refine ev_succ ?_
  simp only [spec_l10Near.j0, Bool.false_eq_true, if_false, if_neg c1]
  by_cases c2 : b.f2 = 0
  ·simp only [if_pos c2, mx_zero c2, mx_pos (show 0 < a.f2 by omega), z2 c2]
   refine ev_val (Ev.now _) ?_
   rw [decide_eq_decide]; omega
  ·have b1 := pm_bd p0 p1 n0 n1
   have b2 := pm_bd q0 q1 m0 m1
   simp only [if_neg c2, mx_pos (show 0 < a.f2 by omega), mx_pos (show 0 < b.f2 by omega)]
   rw [wrap_small (i := a.f1 * b.f2) (by omega) (by omega), wrap_small (i := b.f1 * a.f2) (by omega) (by omega)]
   refine ev_val (Ev.now _) ?_
   rw [decide_eq_decide]; omega
theorem spec_pair {a b : S31} (c : Int) (ha : bodyB a = true) (hb : bodyB b = true) : Ev (fun k => spec_l10Pair.f k a.f0 a.f1 a.f2 a.f3 b.f0 b.f1 b.f2 b.f3 c) (eightOf (pairV a b c)) := by
 obtain ⟨p0, p1, m0, m1, z1⟩ := body_bd ha
 obtain ⟨q0, q1, n0, n1, z2⟩ := body_bd hb
 unfold spec_l10Pair.f pairV farB
 by_cases f : wrap64 (a.f0 + a.f3) < wrap64 (b.f0 - b.f3)
 ·simp only [if_pos f, decide_eq_true f, Bool.true_or, if_true]
  exact Ev.step (fun k => by simp only [spec_l10Pair.j0, if_true, eightOf]) (Ev.now _)
 ·simp only [if_neg f, decide_eq_false f, Bool.false_or]
  refine Ev.bind (spec_near ha hb) ?_
  cases hn : nearB a b with
  | false =>
   simp only [Bool.not_false, if_true]
   exact Ev.step (fun k => by simp only [spec_l10Pair.j0, if_true, eightOf]) (Ev.now _)
  | true =>
   simp only [Bool.not_true, Bool.false_eq_true, if_false]
   refine ev_succ ?_
   simp only [spec_l10Pair.j0, Bool.false_eq_true, if_false]
   unfold jV
   by_cases c1 : a.f2 = 0
   ·have c2 : ¬ b.f2 = 0 := by
     intro c2
     unfold nearB at hn
     rw [decide_eq_true c1, decide_eq_true c2] at hn
     cases hn
    simp only [if_pos c1, if_neg c2]
    exact spec_push_end a b _
   ·simp only [if_neg c1]
    by_cases c2 : b.f2 = 0
    ·simp only [if_pos c2]
     exact spec_push_end a b _
    ·have b1 := pm_bd p0 p1 n0 n1
     have b2 := pm_bd q0 q1 m0 m1
     have e : wrap64 (wrap64 (a.f1 * b.f2) - wrap64 (b.f1 * a.f2)) = nearN a b := by
      unfold nearN
      rw [mx_pos (show 0 < a.f2 by omega), mx_pos (show 0 < b.f2 by omega), wrap_small (i := a.f1 * b.f2) (by omega) (by omega), wrap_small (i := b.f1 * a.f2) (by omega) (by omega), wrap_small (by omega) (by omega)]
     simp only [if_neg c2, if_neg (den_ne ha hb c1), e]
     exact spec_push_end a b _
theorem impl_pair {a b : S31} (c : Int) (ha : bodyB a = true) (hb : bodyB b = true) : Ev (fun k => impl_pushed.f k a.f0 a.f1 a.f2 a.f3 b.f0 b.f1 b.f2 b.f3 c) (eightOf (pairV a b c)) := by
 obtain ⟨p0, p1, m0, m1, z1⟩ := body_bd ha
 obtain ⟨q0, q1, n0, n1, z2⟩ := body_bd hb
 have rest : (¬ a.f2 = 0 ∨ ¬ b.f2 = 0) → ¬ wrap64 (a.f0 + a.f3) < wrap64 (b.f0 - b.f3) → Ev (fun k => impl_pushed.j0 k c (nearN a b) (decide (nearN a b ≤ 0)) a.f0 a.f1 a.f2 a.f3 b.f0 b.f1 b.f2 b.f3) (eightOf (pairV a b c)) := by
  intro hz f
  refine ev_succ ?_
  have eb : (decide (a.f2 = 0) && decide (b.f2 = 0)) = false := by
   rcases hz with h | h
   ·rw [decide_eq_false h, Bool.false_and]
   ·rw [decide_eq_false h, Bool.and_false]
  unfold pairV farB nearB
  rw [eb, decide_eq_false f, Bool.false_or, Bool.not_false, Bool.true_and]
  by_cases hp : nearN a b > 0
  ·have hp' : ¬ nearN a b ≤ 0 := by omega
   simp only [decide_eq_true hp, decide_eq_false hp', Bool.not_true, impl_pushed.j0, Bool.false_eq_true, if_false]
   unfold jV
   by_cases c2 : b.f2 = 0
   ·simp only [if_pos c2]
    exact impl_push_end a b _
   ·simp only [if_neg c2]
    by_cases c1 : a.f2 = 0
    ·simp only [if_pos c1]
     exact impl_push_end a b _
    ·simp only [if_neg c1, if_neg (den_ne ha hb c1)]
     exact impl_push_end a b _
  ·have hp' : nearN a b ≤ 0 := by omega
   simp only [decide_eq_false hp, decide_eq_true hp', Bool.not_false, impl_pushed.j0, if_true]
   exact Ev.now _
 unfold impl_pushed.f
 simp only [near_wrap ha hb]
 by_cases f : wrap64 (a.f0 + a.f3) < wrap64 (b.f0 - b.f3)
 ·simp only [if_pos f]
  refine ev_succ ?_
  unfold pairV farB
  simp only [impl_pushed.j0, if_true, decide_eq_true f, Bool.true_or]
  exact Ev.now _
 ·simp only [if_neg f]
  by_cases c1 : a.f2 = 0
  ·simp only [if_pos c1]
   by_cases c2 : b.f2 = 0
   ·simp only [if_pos c2]
    refine ev_succ ?_
    unfold pairV farB nearB
    simp only [impl_pushed.j0, if_true, decide_eq_false f, decide_eq_true c1, decide_eq_true c2, Bool.and_self, Bool.not_true, Bool.false_and, Bool.not_false, Bool.or_true]
    exact Ev.now _
   ·simp only [if_neg c2]
    exact rest (.inr c2) f
  ·simp only [if_neg c1]
   exact rest (.inl c1) f
/-! #### rounds of pushes -/
def rowP (c : Int) : Nat → Nat → List S31 → Option (List S31)
 | 0, _, x => some x
 | d + 1, i, x => if (bodyB (pairV (x.getD i z31) (x.getD (i + 1) z31) c).1 && bodyB (pairV (x.getD i z31) (x.getD (i + 1) z31) c).2) = true then rowP c d (i + 1) ((x.set i (pairV (x.getD i z31) (x.getD (i + 1) z31) c).1).set (i + 1) (pairV (x.getD i z31) (x.getD (i + 1) z31) c).2) else none
def roundsP (c : Int) : Nat → List S31 → Option (List S31)
 | 0, x => some x
 | r + 1, x => (rowP c (x.length - 1) 0 x).bind (roundsP c r)
def allB (x : List S31) : Prop := ∀ j (h : j < x.length), bodyB x[j] = true
theorem set_all {x : List S31} (h : allB x) (i : Nat) {v : S31} (hv : bodyB v = true) : allB (x.set i v) := by
 intro j hj
 by_cases e : i = j
 ·subst e
  rw [List.getElem_set_self]
  exact hv
 ·rw [List.getElem_set_ne e]
  exact h j (by simpa using hj)
theorem rowP_len (c : Int) (d : Nat) : ∀ i x y, rowP c d i x = some y → y.length = x.length := by
 induction d with
 | zero => intro i x y h; cases h; rfl
 | succ d ih =>
  intro i x y h
  unfold rowP at h
  split at h
  ·have := ih _ _ _ h
   rw [this, List.length_set, List.length_set]
  ·cases h
theorem rowP_all (c : Int) (d : Nat) : ∀ i x y, allB x → rowP c d i x = some y → allB y := by
 induction d with
 | zero => intro i x y hx h; cases h; exact hx
 | succ d ih =>
  intro i x y hx h
  unfold rowP at h
  split at h
  ·rename_i hg
   rw [Bool.and_eq_true] at hg
   exact ih _ _ _ (set_all (set_all hx _ hg.1) _ hg.2) h
  ·cases h
theorem roundsP_len (c : Int) (r : Nat) : ∀ x y, roundsP c r x = some y → y.length = x.length := by
 induction r with
 | zero => intro x y h; cases h; rfl
 | succ r ih =>
  intro x y h
  unfold roundsP at h
  obtain ⟨z, hz, h⟩ := Option.bind_eq_some_iff.1 h
  rw [ih _ _ h, rowP_len c _ _ _ _ hz]
def endV (o : Option (List S31)) : List S31 × Bool := match o with
 | some y => (y, true)
 | none => ([], false)
theorem spec_row (c r : Int) (n : Nat) (hn : n ≤ 4398046511104) (V : List S31 × Bool) (d : Nat) : ∀ (i : Nat) (x : List S31), n - 1 - i = d → x.length = n → i ≤ n → allB x → (∀ y, rowP c d i x = some y → Ev (fun k => spec_l10Push.l0 k c (wrap64 (r - 1)) y) V) → (rowP c d i x = none → V = ([], false)) → Ev (fun k => spec_l10Push.l1 k c r x (i : Int)) V := by
 induction d with
 | zero =>
  intro i x hd hx hi hx2 hV _
  refine ev_succ ?_
  have hB : i ≤ 4398046511104 := by omega
  simp only [spec_l10Push.l1, sc hB, if_neg (show ¬ ((i + 1 : Nat) : Int) < (x.length : Int) by omega)]
  exact hV x rfl
 | succ d ih =>
  intro i x hd hx hi hx2 hV hN
  have hlt : i < x.length := by omega
  have hl1 : i + 1 < x.length := by omega
  unfold rowP at hV hN
  rw [getB hlt, getB hl1] at hV hN
  refine ev_succ ?_
  have hB : i ≤ 4398046511104 := by omega
  simp only [spec_l10Push.l1, sc hB, if_pos (lt_cast hl1), if_pos (nn_cast i), if_pos (lt_cast hlt), if_pos (nn_cast (i + 1)), rd31 hlt, rd31 hl1, toNat_cast]
  refine Ev.bind (spec_pair c (hx2 i hlt) (hx2 (i + 1) hl1)) ?_
  unfold eightOf
  generalize pairV x[i] x[i + 1] c = p at *
  simp only [spec_body, Option.bind_some]
  cases g1 : bodyB p.1 with
  | false =>
   rw [g1] at hN
   simp only [Bool.false_and, Bool.false_eq_true, if_false] at hN ⊢
   rw [hN trivial]; exact Ev.now _
  | true =>
   cases g2 : bodyB p.2 with
   | false =>
    rw [g1, g2] at hN
    simp only [Bool.and_false, Bool.false_eq_true, if_false] at hN
    simp only [if_true, Bool.false_eq_true, if_false]
    rw [hN trivial]; exact Ev.now _
   | true =>
    rw [g1, g2] at hN hV
    simp only [Bool.and_self, if_true] at hN hV ⊢
    exact ih (i + 1) _ (by omega) (by rw [List.length_set, List.length_set]; exact hx) (by omega) (set_all (set_all hx2 _ g1) _ g2) hV hN
theorem impl_row (c R q : Int) (n : Nat) (hn : n ≤ 4398046511104) (V : List S31 × Bool) (d : Nat) : ∀ (i : Nat) (x : List S31), n - 1 - i = d → x.length = n → i ≤ n → allB x → (∀ y, rowP c d i x = some y → Ev (fun k => impl_PushLine.l0 k c y R (wrap64 (q + 1))) V) → (rowP c d i x = none → V = ([], false)) → Ev (fun k => impl_PushLine.l1 k c x ((i + 1 : Nat) : Int) R q) V := by
 induction d with
 | zero =>
  intro i x hd hx hi hx2 hV _
  refine ev_succ ?_
  simp only [impl_PushLine.l1, if_neg (show ¬ ((i + 1 : Nat) : Int) < (x.length : Int) by omega)]
  exact hV x rfl
 | succ d ih =>
  intro i x hd hx hi hx2 hV hN
  have hlt : i < x.length := by omega
  have hl1 : i + 1 < x.length := by omega
  unfold rowP at hV hN
  rw [getB hlt, getB hl1] at hV hN
  refine ev_succ ?_
  have hB : i ≤ 4398046511104 := by omega
  have hB1 : i + 1 ≤ 4398046511104 := by omega
  simp only [impl_PushLine.l1, sc hB1, pc1 hB, if_pos (lt_cast hl1), if_pos (nn_cast i), if_pos (lt_cast hlt), if_pos (nn_cast (i + 1)), rd31 hlt, rd31 hl1, toNat_cast]
  refine Ev.bind (impl_pair c (hx2 i hlt) (hx2 (i + 1) hl1)) ?_
  unfold eightOf
  generalize pairV x[i] x[i + 1] c = p at *
  have e1 : rd_T31 ((x.set i p.1).set (i + 1) p.2) (i : Int) = p.1 := by
   rw [rdn (by rw [List.length_set]; exact hlt) (by omega), List.getElem_set_self]
  have e2 : rd_T31 ((x.set i p.1).set (i + 1) p.2) ((i + 1 : Nat) : Int) = p.2 := rds (by rw [List.length_set]; exact hl1) _
  have f1 : (⟨p.1.f0, p.1.f1, p.1.f2, p.1.f3⟩ : S31) = p.1 := rfl
  have f2 : (⟨p.2.f0, p.2.f1, p.2.f2, p.2.f3⟩ : S31) = p.2 := rfl
  simp only [Option.bind_some, f1, f2, e1, e2, impl_body]
  cases g1 : bodyB p.1 with
  | false =>
   rw [g1] at hN
   simp only [Bool.false_and, Bool.false_eq_true, if_false] at hN ⊢
   rw [hN trivial]; exact Ev.now _
  | true =>
   cases g2 : bodyB p.2 with
   | false =>
    rw [g1, g2] at hN
    simp only [Bool.and_false, Bool.false_eq_true, if_false] at hN
    simp only [if_true, Bool.false_eq_true, if_false]
    rw [hN trivial]; exact Ev.now _
   | true =>
    rw [g1, g2] at hN hV
    simp only [Bool.and_self, if_true] at hN hV ⊢
    exact ih (i + 1) _ (by omega) (by rw [List.length_set, List.length_set]; exact hx) (by omega) (set_all (set_all hx2 _ g1) _ g2) hV hN
theorem spec_rounds (c : Int) (r : Nat) (hr : r ≤ 50) : ∀ x : List S31, x.length ≤ 4398046511104 → allB x → Ev (fun k => spec_l10Push.l0 k c (r : Int) x) (endV (roundsP c r x)) := by
 induction r with
 | zero =>
  intro x hx hb
  refine ev_succ ?_
  simp only [spec_l10Push.l0, if_neg (show ¬ ((0 : Nat) : Int) > 0 by omega)]
  exact Ev.now _
 | succ r ih =>
  intro x hx hb
  refine ev_succ ?_
  simp only [spec_l10Push.l0, if_pos (show ((r + 1 : Nat) : Int) > 0 by omega)]
  refine spec_row c ((r + 1 : Nat) : Int) x.length hx _ (x.length - 1) 0 x (by omega) rfl (by omega) hb (fun y hy => ?_) (fun hy => ?_)
  ·unfold roundsP
   rw [hy, pc1 (show r ≤ 4398046511104 by omega)]
   exact ih (by omega) y (by rw [rowP_len c _ _ _ _ hy]; exact hx) (rowP_all c _ _ _ _ hb hy)
  ·unfold roundsP
   rw [hy]; rfl
theorem impl_rounds (c : Int) (R : Nat) (hR : R ≤ 50) (d : Nat) : ∀ (i : Nat) (x : List S31), R - i = d → i ≤ R → x.length ≤ 4398046511104 → allB x → Ev (fun k => impl_PushLine.l0 k c x (R : Int) (i : Int)) (endV (roundsP c d x)) := by
 induction d with
 | zero =>
  intro i x hd hi hx hb
  refine ev_succ ?_
  simp only [impl_PushLine.l0, if_neg (show ¬ (i : Int) < (R : Int) by omega)]
  exact Ev.now _
 | succ d ih =>
  intro i x hd hi hx hb
  refine ev_succ ?_
  simp only [impl_PushLine.l0, if_pos (show (i : Int) < (R : Int) by omega)]
  have hB : i ≤ 4398046511104 := by omega
  refine impl_row c (R : Int) (i : Int) x.length hx _ (x.length - 1) 0 x (by omega) rfl (by omega) hb (fun y hy => ?_) (fun hy => ?_)
  ·unfold roundsP
   rw [hy, sc hB]
   exact ih (i + 1) y (by omega) (by omega) (by rw [rowP_len c _ _ _ _ hy]; exact hx) (rowP_all c _ _ _ _ hb hy)
  ·unfold roundsP
   rw [hy]; rfl
def pushV (l : List S31) (c r : Int) : List S31 × Bool := if (lineB l && (inB c 0 100 && inB r 0 50)) = true then endV (roundsP c r.toNat l) else ([], false)
theorem line_bodies {l : List S31} (h : lineB l = true) : l.length ≤ 20 ∧ allB l := by
 unfold lineB at h
 rw [line_all, Bool.and_eq_true, Bool.and_eq_true] at h
 have h1 := of_decide_eq_true h.1
 exact ⟨by omega, fun j hj => List.all_eq_true.1 h.2.1 l[j] (List.getElem_mem hj)⟩
theorem spec_push (l : List S31) (c r : Int) : Ev (fun k => spec_l10Push.f k l c r) (pushV l c r) := by
 unfold spec_l10Push.f pushV
 refine Ev.bind (spec_line l) ?_
 cases h : lineB l with
 | false =>
  simp only [Bool.false_and, Bool.false_eq_true, if_false]
  exact Ev.step (fun k => by simp only [spec_l10Push.j0, if_true]) (Ev.now _)
 | true =>
  simp only [if_true, Bool.true_and, spec_l10Bounce.f, spec_in, Option.bind_some]
  cases inB c 0 100 with
  | false =>
   simp only [Bool.false_and, Bool.false_eq_true, if_false]
   exact Ev.step (fun k => by simp only [spec_l10Push.j0, if_true]) (Ev.now _)
  | true =>
   simp only [if_true, Bool.true_and]
   cases hr : inB r 0 50 with
   | false =>
    simp only [Bool.not_false, Bool.false_eq_true, if_false]
    exact Ev.step (fun k => by simp only [spec_l10Push.j0, if_true]) (Ev.now _)
   | true =>
    obtain ⟨hl, hb⟩ := line_bodies h
    obtain ⟨r0, r1⟩ := inB_iff.1 hr
    obtain ⟨R, rfl⟩ : ∃ R : Nat, r = (R : Int) := ⟨r.toNat, by omega⟩
    simp only [Bool.not_true, if_true]
    refine ev_succ ?_
    simp only [spec_l10Push.j0, Bool.false_eq_true, if_false, Option.bind_some, List.nil_append, List.length_nil, if_pos (show 0 + l.length < 4398046511104 by omega), toNat_cast]
    exact spec_rounds c R (by omega) l (by omega) hb
theorem impl_push (l : List S31) (c r : Int) : Ev (fun k => impl_PushLine.f k l c r) (pushV l c r) := by
 unfold impl_PushLine.f pushV
 refine Ev.bind (impl_line l) ?_
 cases h : lineB l with
 | false =>
  simp only [Bool.false_and, Bool.false_eq_true, if_false]
  exact Ev.step (fun k => by simp only [impl_PushLine.j0, if_true]) (Ev.now _)
 | true =>
  simp only [if_true, Bool.true_and, impl_isBounce.f, impl_in, Option.bind_some]
  cases inB c 0 100 with
  | false =>
   simp only [Bool.false_and, Bool.false_eq_true, if_false]
   exact Ev.step (fun k => by simp only [impl_PushLine.j0, if_true]) (Ev.now _)
  | true =>
   simp only [if_true, Bool.true_and]
   cases hr : inB r 0 50 with
   | false =>
    simp only [Bool.not_false, Bool.false_eq_true, if_false]
    exact Ev.step (fun k => by simp only [impl_PushLine.j0, if_true]) (Ev.now _)
   | true =>
    obtain ⟨hl, hb⟩ := line_bodies h
    obtain ⟨r0, r1⟩ := inB_iff.1 hr
    obtain ⟨R, rfl⟩ : ∃ R : Nat, r = (R : Int) := ⟨r.toNat, by omega⟩
    simp only [Bool.not_true, if_true]
    refine ev_succ ?_
    simp only [impl_PushLine.j0, impl_Body.f, Bool.false_eq_true, if_false, if_pos (show l.length < 4398046511104 by omega), Option.bind_some, toNat_cast]
    exact impl_rounds c R (by omega) R 0 l (by omega) (by omega) (by omega) hb
theorem pushV_le (l : List S31) (c r : Int) (hl : l.length ≤ 4398046511104) : (pushV l c r).1.length ≤ 4398046511104 := by
 unfold pushV
 split
 ·cases h : roundsP c r.toNat l with
  | none => exact Nat.zero_le _
  | some y =>
   show y.length ≤ _
   rw [roundsP_len c _ _ _ h]
   exact hl
 ·exact Nat.zero_le _
/-! #### the moves of bodies on a line -/
def newX (b : S31) (a : Int) : Int := wrap64 (b.f0 + wrap64 (Int.tdiv (wrap64 (b.f1 * a)) b.f2))
def lowAt (p b : S31) : Int := wrap64 (wrap64 (p.f0 + p.f3) + b.f3)
def topAt (p b : S31) : Int := wrap64 (wrap64 (p.f0 - p.f3) - b.f3)
def atX (b : S31) (x : Int) : S31 := ⟨x, b.f1, b.f2, b.f3⟩
def stepF (a : Int) (i : Nat) (x : List S31) : List S31 :=
 if (x.getD i z31).f2 > 0 then
  (if i = 0 then x.set i (atX (x.getD i z31) (newX (x.getD i z31) a))
     else x.set i (atX (x.getD i z31) (if newX (x.getD i z31) a < lowAt (x.getD (i - 1) z31) (x.getD i z31) then lowAt (x.getD (i - 1) z31) (x.getD i z31) else newX (x.getD i z31) a)))
 else x
def fwd (a : Int) : Nat → Nat → List S31 → List S31
 | 0, _, x => x
 | d + 1, i, x => fwd a d (i + 1) (stepF a i x)
def stepB (i : Nat) (x : List S31) : List S31 :=
 if (x.getD i z31).f2 > 0 then
  (if (x.getD i z31).f0 > topAt (x.getD (i + 1) z31) (x.getD i z31) then x.set i (atX (x.getD i z31) (topAt (x.getD (i + 1) z31) (x.getD i z31))) else x)
 else x
def bwd : Nat → List S31 → List S31
 | 0, x => x
 | i + 1, x => bwd i (stepB i x)
theorem stepF_len (a : Int) (i : Nat) (x : List S31) : (stepF a i x).length = x.length := by
 unfold stepF
 split
 ·split <;> rw [List.length_set]
 ·rfl
theorem stepB_len (i : Nat) (x : List S31) : (stepB i x).length = x.length := by
 unfold stepB
 split
 ·split
  ·rw [List.length_set]
  ·rfl
 ·rfl
theorem fwd_len (a : Int) (d : Nat) : ∀ i x, (fwd a d i x).length = x.length := by
 induction d with
 | zero => intro i x; rfl
 | succ d ih => intro i x; unfold fwd; rw [ih, stepF_len]
theorem bwd_len (d : Nat) : ∀ x, (bwd d x).length = x.length := by
 induction d with
 | zero => intro x; rfl
 | succ d ih => intro x; unfold bwd; rw [ih, stepB_len]
def sameB (x l : List S31) : Prop := ∀ j (h1 : j < x.length) (h2 : j < l.length), x[j].f1 = l[j].f1 ∧ x[j].f2 = l[j].f2 ∧ x[j].f3 = l[j].f3
theorem set_same {x l : List S31} (h : sameB x l) (i : Nat) (hi : i < x.length) (v : Int) : sameB (x.set i (atX x[i] v)) l := by
 intro j h1 h2
 by_cases e : i = j
 ·subst e
  rw [List.getElem_set_self]
  exact h i hi h2
 ·rw [List.getElem_set_ne e]
  exact h j (by simpa using h1) h2
theorem stepF_same (a : Int) {x l : List S31} (h : sameB x l) (i : Nat) (hi : i < x.length) : sameB (stepF a i x) l := by
 unfold stepF
 rw [getB hi]
 split
 ·split <;> exact set_same h i hi _
 ·exact h
theorem spec_fwd (a : Int) (n : Nat) (hn : n ≤ 4398046511104) (V : List S31 × Bool) (d : Nat) : ∀ (i : Nat) (x : List S31), n - i = d → i ≤ n → x.length = n → Ev (fun k => spec_l10Move.l1 k (fwd a d i x) (wrap64 ((n : Int) - 2))) V → Ev (fun k => spec_l10Move.l0 k a x (n : Int) (i : Int)) V := by
 induction d with
 | zero =>
  intro i x hd hi hx hV
  refine ev_succ ?_
  simp only [spec_l10Move.l0, if_neg (show ¬ (i : Int) < (n : Int) by omega), hx]
  exact hV
 | succ d ih =>
  intro i x hd hi hx hV
  have hlt : i < x.length := by omega
  have hin : (i : Int) < (n : Int) := by omega
  unfold fwd at hV
  have ihn := ih (i + 1) (stepF a i x) (by omega) (by omega) (by rw [stepF_len]; exact hx) hV
  unfold stepF at ihn
  rw [getB hlt] at ihn
  refine ev_succ ?_
  have hB : i ≤ 4398046511104 := by omega
  simp only [spec_l10Move.l0, if_pos hin, if_pos (nn_cast i), if_pos (lt_cast hlt), rd31 hlt, toNat_cast, Option.bind_some, sc hB]
  by_cases c : x[i].f2 > 0
  ·rw [if_pos c] at ihn
   simp only [if_pos c, if_neg (pos_ne c)]
   by_cases c0 : i = 0
   ·rw [if_pos c0] at ihn
    simp only [if_neg (no_cast c0)]
    exact ihn
   ·have h1 : i - 1 < x.length := pred_lt hlt
    rw [if_neg c0, getB h1] at ihn
    simp only [if_pos (pos_cast c0), bpred c0 hB, if_pos (nn_cast (i - 1)), if_pos (lt_cast h1), rds hlt, rdn h1 (ne_pred c0), List.set_set]
    by_cases c1 : newX x[i] a < lowAt x[i - 1] x[i]
    ·rw [if_pos c1] at ihn
     have c1' := c1
     unfold newX lowAt at c1'
     simp only [if_pos c1']
     exact ihn
    ·rw [if_neg c1] at ihn
     have c1' := c1
     unfold newX lowAt at c1'
     simp only [if_neg c1']
     exact ihn
  ·rw [if_neg c] at ihn
   simp only [if_neg c]
   exact ihn
theorem impl_fwd (a : Int) (n : Nat) (hn : n ≤ 4398046511104) (l : List S31) (hl : l.length = n) (hm : ∀ j (h : j < l.length), 0 ≤ l[j].f2) (V : List S31 × Bool) (d : Nat) : ∀ (i : Nat) (x : List S31), n - i = d → i ≤ n → x.length = n → sameB x l → Ev (fun k => impl_MoveLine.l1 k (fwd a d i x) (wrap64 ((n : Int) - 2))) V → Ev (fun k => impl_MoveLine.l0 k a x l (n : Int) (i : Int)) V := by
 induction d with
 | zero =>
  intro i x hd hi hx hs hV
  refine ev_succ ?_
  simp only [impl_MoveLine.l0, if_neg (show ¬ (i : Int) < (n : Int) by omega), hx]
  exact hV
 | succ d ih =>
  intro i x hd hi hx hs hV
  have hlt : i < x.length := by omega
  have hin : (i : Int) < (n : Int) := by omega
  have hB : i ≤ 4398046511104 := by omega
  have hll : i < l.length := by omega
  unfold fwd at hV
  have ihn := ih (i + 1) (stepF a i x) (by omega) (by omega) (by rw [stepF_len]; exact hx) (stepF_same a hs i hlt) hV
  unfold stepF at ihn
  rw [getB hlt] at ihn
  refine ev_succ ?_
  obtain ⟨q1, q2, q3⟩ := hs i hlt hll
  have hp := hm i hll
  have hp' : 0 ≤ x[i].f2 := by rw [q2]; exact hp
  simp only [impl_MoveLine.l0, if_pos hin, if_pos (nn_cast i), if_pos (lt_cast hlt), if_pos (lt_cast hll), rd31 hlt, rd31 hll, toNat_cast, Option.bind_some, sc hB, ← q1, ← q2, ← q3]
  by_cases c : x[i].f2 > 0
  ·rw [if_pos c] at ihn
   simp only [if_neg (pos_ne c)]
   by_cases c0 : i = 0
   ·rw [if_pos c0] at ihn
    simp only [if_neg (no_cast c0)]
    exact ihn
   ·have h1 : i - 1 < x.length := pred_lt hlt
    rw [if_neg c0, getB h1] at ihn
    simp only [if_pos (pos_cast c0), bpred c0 hB, if_pos (nn_cast (i - 1)), if_pos (lt_cast h1), rds hlt, rdn h1 (ne_pred c0), List.set_set, mx]
    simp only [newX, lowAt, atX] at ihn
    exact ihn
  ·rw [if_neg c] at ihn
   simp only [if_pos (pos_no hp' c)]
   exact ihn
theorem spec_bwd (n : Nat) (hn : n ≤ 4398046511104) (V : List S31 × Bool) (c : Nat) : ∀ (x : List S31), c + 1 ≤ n → x.length = n → (∀ y : Int, y < 0 → Ev (fun k => spec_l10Move.l1 k (bwd c x) y) V) → Ev (fun k => spec_l10Move.l1 k x ((c : Int) - 1)) V := by
 induction c with
 | zero => intro x _ _ hV; exact hV _ (by omega)
 | succ i ih =>
  intro x hc hx hV
  have hlt : i < x.length := by omega
  have hin : (i : Int) < (n : Int) := by omega
  have hl1 : i + 1 < x.length := by omega
  unfold bwd at hV
  have ihn := ih (stepB i x) (by omega) (by rw [stepB_len]; exact hx) hV
  unfold stepB at ihn
  rw [getB hlt, getB hl1] at ihn
  have e : ((i + 1 : Nat) : Int) - 1 = (i : Int) := by omega
  rw [e]
  refine ev_succ ?_
  have hB : i ≤ 4398046511104 := by omega
  simp only [spec_l10Move.l1, if_pos (nn_cast i), sc hB, if_pos (nn_cast (i + 1)), if_pos (lt_cast hl1), if_pos (nn_cast i), if_pos (lt_cast hlt), rd31 hlt, rd31 hl1, toNat_cast, pc hB]
  by_cases c : x[i].f2 > 0
  ·rw [if_pos c] at ihn
   simp only [if_pos c]
   by_cases c1 : x[i].f0 > topAt x[i + 1] x[i]
   ·rw [if_pos c1] at ihn
    have c1' := c1
    unfold topAt at c1'
    simp only [if_pos c1']
    exact ihn
   ·rw [if_neg c1] at ihn
    have c1' := c1
    unfold topAt at c1'
    simp only [if_neg c1']
    exact ihn
  ·rw [if_neg c] at ihn
   simp only [if_neg c]
   exact ihn
theorem impl_bwd (n : Nat) (hn : n ≤ 4398046511104) (V : List S31 × Bool) (c : Nat) : ∀ (x : List S31), c + 1 ≤ n → x.length = n → (∀ y : Int, y < 0 → Ev (fun k => impl_MoveLine.l1 k (bwd c x) y) V) → Ev (fun k => impl_MoveLine.l1 k x ((c : Int) - 1)) V := by
 induction c with
 | zero => intro x _ _ hV; exact hV _ (by omega)
 | succ i ih =>
  intro x hc hx hV
  have hlt : i < x.length := by omega
  have hin : (i : Int) < (n : Int) := by omega
  have hl1 : i + 1 < x.length := by omega
  unfold bwd at hV
  have ihn := ih (stepB i x) (by omega) (by rw [stepB_len]; exact hx) hV
  unfold stepB at ihn
  rw [getB hlt, getB hl1] at ihn
  have e : ((i + 1 : Nat) : Int) - 1 = (i : Int) := by omega
  rw [e]
  refine ev_succ ?_
  have hB : i ≤ 4398046511104 := by omega
  simp only [impl_MoveLine.l1, if_pos (nn_cast i), sc hB, if_pos (nn_cast (i + 1)), if_pos (lt_cast hl1), if_pos (nn_cast i), if_pos (lt_cast hlt), rd31 hlt, rd31 hl1, toNat_cast, pc hB]
  by_cases c : x[i].f2 > 0
  ·rw [if_pos c] at ihn
   simp only [if_pos c]
   by_cases c1 : x[i].f0 > topAt x[i + 1] x[i]
   ·rw [if_pos c1] at ihn
    have c1' : wrap64 (wrap64 (x[i + 1].f0 - x[i + 1].f3) - x[i].f3) < x[i].f0 := c1
    simp only [mn, if_pos c1']
    exact ihn
   ·rw [if_neg c1] at ihn
    have c1' : ¬ wrap64 (wrap64 (x[i + 1].f0 - x[i + 1].f3) - x[i].f3) < x[i].f0 := c1
    have eb : (⟨x[i].f0, x[i].f1, x[i].f2, x[i].f3⟩ : S31) = x[i] := rfl
    simp only [mn, if_neg c1', eb, List.set_getElem_self]
    exact ihn
  ·rw [if_neg c] at ihn
   simp only [if_neg c]
   exact ihn
/-- What a line moved for some time is, before it is looked at. -/
def movedL (a : Int) (l : List S31) : List S31 := bwd (l.length - 1) (fwd a l.length 0 l)
def moveV (l : List S31) (a : Int) : List S31 × Bool := if (lineB l && inB a 0 1000) = true then (if lineB (movedL a l) = true then (movedL a l, true) else ([], false)) else ([], false)
theorem line_facts {l : List S31} (h : lineB l = true) : l.length ≤ 20 ∧ ∀ j (h : j < l.length), 0 ≤ l[j].f2 := by
 unfold lineB at h
 rw [line_all, Bool.and_eq_true, Bool.and_eq_true] at h
 have h1 := of_decide_eq_true h.1
 refine ⟨by omega, fun j hj => ?_⟩
 have h2 := List.all_eq_true.1 h.2.1 l[j] (List.getElem_mem hj)
 unfold bodyB at h2
 simp only [Bool.and_eq_true, inB_iff] at h2
 exact h2.2.2.1.1
theorem start_bwd {G : Nat → List S31 → Int → Option (List S31 × Bool)} (V : List S31 × Bool) (x : List S31) (n : Nat) (hx : x.length = n) (hn : n ≤ 4398046511104)
  (hb : ∀ c : Nat, c + 1 ≤ n → (∀ y : Int, y < 0 → Ev (fun k => G k (bwd c x) y) V) → Ev (fun k => G k x ((c : Int) - 1)) V) (h : ∀ y : Int, y < 0 → Ev (fun k => G k (bwd (n - 1) x) y) V) : Ev (fun k => G k x (wrap64 ((n : Int) - 2))) V := by
 rw [wrap_small (by omega) (by omega)]
 by_cases c : n = 0
 ·subst c
  exact h _ (by omega)
 ·have e : (n : Int) - 2 = ((n - 1 : Nat) : Int) - 1 := by omega
  rw [e]
  exact hb (n - 1) (by omega) h
theorem spec_end (x : List S31) (y : Int) (hy : y < 0) : Ev (fun k => spec_l10Move.l1 k x y) (if lineB x = true then (x, true) else ([], false)) := by
 refine ev_succ ?_
 simp only [spec_l10Move.l1, if_neg (show ¬ y ≥ 0 by omega)]
 refine Ev.bind (spec_line x) ?_
 split <;> exact Ev.now _
theorem impl_end (x : List S31) (y : Int) (hy : y < 0) : Ev (fun k => impl_MoveLine.l1 k x y) (if lineB x = true then (x, true) else ([], false)) := by
 refine ev_succ ?_
 simp only [impl_MoveLine.l1, if_neg (show ¬ y ≥ 0 by omega)]
 refine Ev.bind (impl_line x) ?_
 split <;> exact Ev.now _
theorem spec_move (l : List S31) (a : Int) : Ev (fun k => spec_l10Move.f k l a) (moveV l a) := by
 unfold spec_l10Move.f moveV
 refine Ev.bind (spec_line l) ?_
 cases h : lineB l with
 | false =>
  simp only [Bool.false_and, Bool.false_eq_true, if_false]
  exact Ev.step (fun k => by simp only [spec_l10Move.j0, if_true]) (Ev.now _)
 | true =>
  simp only [if_true, Bool.true_and, spec_in, Option.bind_some]
  cases inB a 0 1000 with
  | false =>
   simp only [Bool.not_false, Bool.false_eq_true, if_false]
   exact Ev.step (fun k => by simp only [spec_l10Move.j0, if_true]) (Ev.now _)
  | true =>
   obtain ⟨hl, hm⟩ := line_facts h
   simp only [Bool.not_true, if_true]
   refine ev_succ ?_
   simp only [spec_l10Move.j0, Bool.false_eq_true, if_false, Option.bind_some, List.nil_append, List.length_nil, if_pos (show 0 + l.length < 4398046511104 by omega)]
   refine spec_fwd a l.length (by omega) _ l.length 0 l (by omega) (by omega) rfl ?_
   have hx : (fwd a l.length 0 l).length = l.length := fwd_len a _ _ _
   exact start_bwd _ _ l.length hx (by omega) (fun c hc hV => spec_bwd l.length (by omega) _ c _ hc hx hV) (fun y hy => spec_end _ y hy)
theorem impl_move (l : List S31) (a : Int) : Ev (fun k => impl_MoveLine.f k l a) (moveV l a) := by
 unfold impl_MoveLine.f moveV
 refine Ev.bind (impl_line l) ?_
 cases h : lineB l with
 | false =>
  simp only [Bool.false_and, Bool.false_eq_true, if_false]
  exact Ev.step (fun k => by simp only [impl_MoveLine.j0, if_true]) (Ev.now _)
 | true =>
  simp only [if_true, Bool.true_and, impl_in, Option.bind_some]
  cases inB a 0 1000 with
  | false =>
   simp only [Bool.not_false, Bool.false_eq_true, if_false]
   exact Ev.step (fun k => by simp only [impl_MoveLine.j0, if_true]) (Ev.now _)
  | true =>
   obtain ⟨hl, hm⟩ := line_facts h
   simp only [Bool.not_true, if_true]
   refine ev_succ ?_
   simp only [impl_MoveLine.j0, impl_Body.f, Bool.false_eq_true, if_false, if_pos (show l.length < 4398046511104 by omega), Option.bind_some]
   refine impl_fwd a l.length (by omega) l rfl hm _ l.length 0 l (by omega) (by omega) rfl (fun j h1 h2 => ⟨rfl, rfl, rfl⟩) ?_
   have hx : (fwd a l.length 0 l).length = l.length := fwd_len a _ _ _
   exact start_bwd _ _ l.length hx (by omega) (fun c hc hV => impl_bwd l.length (by omega) _ c _ hc hx hV) (fun y hy => impl_end _ y hy)
theorem moveV_le (l : List S31) (a : Int) (hl : l.length ≤ 4398046511104) : (moveV l a).1.length ≤ 4398046511104 := by
 unfold moveV
 split
 ·split
  ·show (movedL a l).length ≤ _
   unfold movedL
   rw [bwd_len, fwd_len]
   exact hl
  ·exact Nat.zero_le _
 ·exact Nat.zero_le _
/-! #### steps of bodies on a line: pushes, then moves -/
def stepV (l : List S31) (c r t : Int) : List S31 × Bool := if (pushV l c r).2 = true then moveV (pushV l c r).1 t else ([], false)
theorem spec_step (l : List S31) (c r t : Int) : Ev (fun k => spec_StepLine.f k l c r t) (stepV l c r t) := by
 unfold spec_StepLine.f stepV
 refine Ev.bind (spec_push l c r) ?_
 generalize pushV l c r = p
 obtain ⟨v, b⟩ := p
 cases b with
 | true =>
  simp only [if_true]
  exact Ev.bind (spec_move v t) (Ev.now _)
 | false =>
  simp only [Bool.false_eq_true, if_false]
  exact Ev.now _
theorem impl_step (l : List S31) (c r t : Int) : Ev (fun k => impl_StepLine.f k l c r t) (stepV l c r t) := by
 unfold impl_StepLine.f stepV
 refine Ev.bind (impl_push l c r) ?_
 generalize pushV l c r = p
 obtain ⟨v, b⟩ := p
 cases b with
 | true =>
  simp only [if_true]
  exact Ev.bind (impl_move v t) (Ev.now _)
 | false =>
  simp only [Bool.false_eq_true, if_false]
  exact Ev.now _
theorem stepV_le (l : List S31) (c r t : Int) (hl : l.length ≤ 4398046511104) : (stepV l c r t).1.length ≤ 4398046511104 := by
 unfold stepV
 split
 ·exact moveV_le _ _ (pushV_le l c r hl)
 ·exact Nat.zero_le _
/-! #### rows of bodies: weighed, converted, held against one another, marked -/
theorem ltc {i n : Nat} (h : i < n) : (i : Int) < (n : Int) := by omega
theorem nnc (i : Nat) : (0 : Int) ≤ (i : Int) := by omega
theorem no_lt (n : Nat) : ¬ (n : Int) < (n : Int) := by omega
theorem rdA {l : List (List S30)} {i : Nat} (h : i < l.length) : rd_L2 l (i : Int) = l[i] := by simp [rd_L2, h]
theorem rdC {l : List (List S31)} {i : Nat} (h : i < l.length) : rd_L4 l (i : Int) = l[i] := by simp [rd_L4, h]
def sumL {α : Type} : List (List α) → Nat
 | [] => 0
 | x :: l => x.length + sumL l
theorem sumL_append {α : Type} (l m : List (List α)) : sumL (l ++ m) = sumL l + sumL m := by
 induction l with
 | nil => simp [sumL]
 | cons x l ih => simp only [List.cons_append, sumL, ih]; omega
theorem sumL_take {α : Type} {l : List (List α)} {i : Nat} (h : i < l.length) : sumL (l.take (i + 1)) = sumL (l.take i) + l[i].length := by
 rw [List.take_succ_eq_append_getElem h, sumL_append]; simp [sumL]
theorem sumL_le {α : Type} (l : List (List α)) (i : Nat) : sumL (l.take i) ≤ sumL l := by
 have h := sumL_append (l.take i) (l.drop i)
 rw [List.take_append_drop] at h
 omega
theorem sumL_map (L : List (List S30)) : sumL (L.map (List.map bodyOf)) = sumL L := by
 induction L with
 | nil => rfl
 | cons x l ih => simp [sumL, ih]
theorem sumL_bound {α : Type} (L : List (List α)) (c : Nat) (h : ∀ x ∈ L, x.length ≤ c) : sumL L ≤ L.length * c := by
 induction L with
 | nil => simp [sumL]
 | cons x l ih =>
  have h1 := h x (List.mem_cons_self ..)
  have h2 := ih (fun y hy => h y (List.mem_cons_of_mem _ hy))
  simp only [sumL, List.length_cons, Nat.add_mul, Nat.one_mul]
  omega
theorem to_rowsB (l : List (List S30)) (h1 : l.length ≤ 5864062014635) (h2 : ∀ x ∈ l, x.length ≤ 4398046511104) : Ev (fun k => laws_toBodySS.f k l) (l.map (List.map bodyOf)) := by
 unfold laws_toBodySS.f
 simp only [if_pos (nnc l.length), toNat_cast, if_pos (show l.length ≤ 11728124029610 by omega)]
 refine ev_map l [] (List.map bodyOf) (fun k x i => laws_toBodySS.l0 k l x i) (fun k x => laws_toBodyS.f k x) (fun i hi => to_bodies _ (h2 _ (List.getElem_mem hi))) ?_ ?_
 ·intro k x i hi hx
  simp only [laws_toBodySS.l0, if_pos (ltc hi), if_pos (nnc i), if_pos (show (i : Int) < (x.length : Int) by omega), toNat_cast, rdA hi, succ_cast hi (by omega)]
 ·intro k x
  simp only [laws_toBodySS.l0, if_neg (no_lt l.length)]
theorem eq_rowsB (l : List (List S31)) (h1 : l.length ≤ 5864062014635) (h2 : ∀ x ∈ l, x.length ≤ 4398046511104) : Ev (fun k => laws_eqBodySS.f k l l) true := by
 unfold laws_eqBodySS.f
 simp only [if_true]
 refine ev_trues (n := l.length) (fun k i => laws_eqBodySS.l0 k l l i) (fun k i => laws_eqBodyS.f k (rd_L4 l (i : Int)) (rd_L4 l (i : Int))) (fun i hi => by rw [rdC hi]; exact eq_bodies _ (h2 _ (List.getElem_mem hi))) ?_ ?_
 ·intro k i hi
  simp only [laws_eqBodySS.l0, if_pos (ltc hi), if_pos (nnc i), succ_cast hi (by omega)]
 ·intro k
  simp only [laws_eqBodySS.l0, if_neg (no_lt l.length)]
theorem sz_rowsB (F : List (List S30)) (h1 : F.length ≤ 5864062014635) (h2 : ∀ x ∈ F, x.length ≤ 4398046511104) : ∃ r, Ev (fun k => laws_szBodySS.f k F 1048576) r ∧ (r < 0 ∨ F.length ≤ 1048576 ∧ sumL F ≤ 1048576) := by
 unfold laws_szBodySS.f
 by_cases q : wrap64 (1048576 - (F.length : Int)) < 0
 ·simp only [if_pos q]; exact ⟨_, Ev.now _, .inl (by decide)⟩
 ·have hq : wrap64 (1048576 - (F.length : Int)) = 1048576 - (F.length : Int) := wrap_small (by omega) (by omega)
  rw [hq] at q
  simp only [hq, if_neg q]
  obtain ⟨r, hr, hp⟩ := Ev_up (fun k (i : Nat) (s : Int) => laws_szBodySS.l0 k F s (i : Int)) F.length (fun i s => 0 ≤ s ∧ s + (sumL (F.take i) : Int) ≤ 1048576) (fun r => r < 0 ∨ sumL F ≤ 1048576)
   (fun s hs => ⟨s, ev_succ (by simp only [laws_szBodySS.l0, if_neg (no_lt F.length)]; exact Ev.now _), .inr (by have := hs.2; rw [List.take_length] at this; have := hs.1; omega)⟩)
   (fun i s hi hs => by
    have hx := h2 _ (List.getElem_mem hi)
    by_cases q : wrap64 (s - ((rd_L2 F (i : Int)).length : Int)) < 0
    ·left
     refine ⟨-1, ev_succ ?_, .inl (by decide)⟩
     simp only [laws_szBodySS.l0, if_pos (ltc hi), if_pos (nnc i), laws_szBodyS.f, if_pos q, Option.bind_some, show (-1 : Int) < 0 from by decide, if_true]
     exact Ev.now _
    ·right
     have hw : wrap64 (s - ((rd_L2 F (i : Int)).length : Int)) = s - ((rd_L2 F (i : Int)).length : Int) := by
      rw [rdA hi]; exact wrap_small (by have := hs.1; omega) (by have := hs.2; omega)
     rw [hw] at q
     refine ⟨s - ((rd_L2 F (i : Int)).length : Int), ⟨by omega, ?_⟩, fun r hr => ev_succ ?_⟩
     ·rw [sumL_take hi, rdA hi]; have := hs.2; omega
     ·simp only [laws_szBodySS.l0, if_pos (ltc hi), if_pos (nnc i), laws_szBodyS.f, hw, if_neg q, Option.bind_some, succ_cast hi (by omega)]
      exact hr) F.length 0 (1048576 - (F.length : Int)) (by omega) (by omega) ⟨by omega, by simp [sumL]; omega⟩
  exact ⟨r, hr, hp.imp_right (fun hp => ⟨by omega, hp⟩)⟩
/-! marks from a number on -/
def markAt (a : Int) (j : Nat) : S31 := ⟨a + 4 * (j : Int), a + 4 * (j : Int) + 1, a + 4 * (j : Int) + 1 + 1, a + 4 * (j : Int) + 1 + 1 + 1⟩
theorem mark_from (l : List S31) (a : Int) (hl : l.length ≤ 4398046511104) (a0 : 0 ≤ a) (a1 : a ≤ 2305843009213693952) : ∃ r : Int × List S31, Ev (fun k => laws_markBodyS.f k l a) r ∧ (r.1 = a + 4 * (l.length : Int) ∧ r.2.length = l.length ∧ ∀ j : Nat, j < l.length → r.2[j]? = some (markAt a j)) := by
 unfold laws_markBodyS.f
 obtain ⟨r, hr, hp⟩ := Ev_up (fun k (i : Nat) (s : List S31 × Int) => laws_markBodyS.l0 k s.1 s.2 (i : Int)) l.length (fun i s => s.1.length = l.length ∧ s.2 = a + 4 * (i : Int) ∧ ∀ j : Nat, j < i → s.1[j]? = some (markAt a j)) (fun r => r.1 = a + 4 * (l.length : Int) ∧ r.2.length = l.length ∧ ∀ j : Nat, j < l.length → r.2[j]? = some (markAt a j))
  (fun s hs => ⟨(s.2, s.1), ev_succ (by simp only [laws_markBodyS.l0, if_neg (show ¬ (l.length : Int) < (s.1.length : Int) by have := hs.1; omega)]; exact Ev.now _), hs.2.1, hs.1, hs.2.2⟩)
  (fun i s hi hs => by
   right
   obtain ⟨x0, x1⟩ := s
   obtain ⟨h1, h2, h3⟩ := hs
   dsimp only at h1 h2 h3
   refine ⟨(x0.set i ⟨x1, x1 + 1, x1 + 1 + 1, x1 + 1 + 1 + 1⟩, x1 + 1 + 1 + 1 + 1), ⟨by rw [List.length_set]; exact h1, by dsimp only; omega, fun j hj => ?_⟩, fun r hr => ev_succ ?_⟩
   ·dsimp only
    by_cases e : j = i
    ·subst e
     rw [List.getElem?_set_self (by omega), h2]; rfl
    ·rw [List.getElem?_set_ne (by omega)]
     exact h3 j (by omega)
   ·simp only [mark_step x0 x1 i (by omega) (by omega) (by omega) (by omega)]
    exact hr) l.length 0 (l, a) (by omega) (by omega) ⟨rfl, by dsimp only; omega, fun j hj => by omega⟩
 exact ⟨r, hr, hp⟩
theorem held_from (l : List S31) (a : Int) (hl : l.length ≤ 4398046511104) (a0 : 0 ≤ a) (a1 : a ≤ 2305843009213693952) (h : ∀ j : Nat, j < l.length → l[j]? = some (markAt a j)) : Ev (fun k => laws_heldBodyS.f k l a) (a + 4 * (l.length : Int)) := by
 unfold laws_heldBodyS.f
 obtain ⟨r, hr, hp⟩ := Ev_up (fun k (i : Nat) (s : Int) => laws_heldBodyS.l0 k l s (i : Int)) l.length (fun i s => s = a + 4 * (i : Int)) (fun r => r = a + 4 * (l.length : Int))
  (fun s hs => ⟨s, ev_succ (by simp only [laws_heldBodyS.l0, if_neg (no_lt l.length)]; exact Ev.now _), hs⟩)
  (fun i s hi hs => by
   right
   refine ⟨s + 1 + 1 + 1 + 1, by omega, fun r hr => ev_succ ?_⟩
   have g : l[i] = ⟨s, s + 1, s + 1 + 1, s + 1 + 1 + 1⟩ := by
    have := h i hi
    rw [List.getElem?_eq_getElem hi] at this
    rw [Option.some.inj this, hs]; rfl
   simp only [held_step l s i hi (by omega) (by omega) (by omega) g]
   exact hr) l.length 0 a (by omega) (by omega) (by omega)
 rw [hp] at hr
 exact hr
/-- Row j of what marks leave. -/
def MarkedRows (L M : List (List S31)) (a : Int) : Prop := M.length = L.length ∧ ∀ i : Nat, i < L.length → ∃ r : List S31, M[i]? = some r ∧ r.length = (L.getD i []).length ∧ ∀ j : Nat, j < r.length → r[j]? = some (markAt (a + 4 * (sumL (L.take i) : Int)) j)
theorem mark_rowsB (l : List (List S31)) (a : Int) (hl : l.length ≤ 1048576) (h2 : ∀ x ∈ l, x.length ≤ 4398046511104) (hs : sumL l ≤ 4611686018427387) (a0 : 0 ≤ a) (a1 : a ≤ 1000) : ∃ r : Int × List (List S31), Ev (fun k => laws_markBodySS.f k l a) r ∧ r.1 = a + 4 * (sumL l : Int) ∧ MarkedRows l r.2 a := by
 unfold laws_markBodySS.f
 obtain ⟨r, hr, hp⟩ := Ev_up (fun k (i : Nat) (s : List (List S31) × Int) => laws_markBodySS.l0 k s.1 s.2 (i : Int)) l.length (fun i s => s.1.length = l.length ∧ (∀ j : Nat, i ≤ j → s.1[j]? = l[j]?) ∧ s.2 = a + 4 * (sumL (l.take i) : Int) ∧ ∀ m : Nat, m < i → ∃ r : List S31, s.1[m]? = some r ∧ r.length = (l.getD m []).length ∧ ∀ j : Nat, j < r.length → r[j]? = some (markAt (a + 4 * (sumL (l.take m) : Int)) j)) (fun r => r.1 = a + 4 * (sumL l : Int) ∧ MarkedRows l r.2 a)
  (fun s hs => ⟨(s.2, s.1), ev_succ (by simp only [laws_markBodySS.l0, if_neg (show ¬ (l.length : Int) < (s.1.length : Int) by have := hs.1; omega)]; exact Ev.now _), by have := hs.2.2.1; rw [List.take_length] at this; exact this, hs.1, fun i hi => hs.2.2.2 i hi⟩)
  (fun i s hi hs => by
   right
   obtain ⟨x0, x1⟩ := s
   obtain ⟨h1, h3, h4, h5⟩ := hs
   dsimp only at h1 h3 h4 h5
   have hg : x0.getD i ([] : List S31) = l[i] := by rw [List.getD_eq_getElem?_getD, h3 i (Nat.le_refl _), List.getElem?_eq_getElem hi, Option.getD_some]
   have hb := sumL_le l i
   obtain ⟨t, ht, t1, t2, t3⟩ := mark_from l[i] x1 (h2 _ (List.getElem_mem hi)) (by omega) (by omega)
   refine ⟨(x0.set i t.2, t.1), ⟨by rw [List.length_set]; exact h1, fun j hj => by dsimp only; rw [List.getElem?_set_ne (by omega)]; exact h3 j (by omega), by dsimp only; rw [sumL_take hi]; omega, fun m hm => ?_⟩, fun r hr => ev_succ ?_⟩
   ·dsimp only
    by_cases e : m = i
    ·subst e
     refine ⟨t.2, by rw [List.getElem?_set_self (by omega)], by rw [t2, List.getD_eq_getElem?_getD, List.getElem?_eq_getElem hi, Option.getD_some], fun j hj => ?_⟩
     rw [← h4]
     exact t3 j (by omega)
    ·obtain ⟨r, r1, r2⟩ := h5 m (by omega)
     exact ⟨r, by rw [List.getElem?_set_ne (by omega)]; exact r1, r2⟩
   ·simp only [laws_markBodySS.l0, if_pos (show (i : Int) < (x0.length : Int) by omega), if_pos (nnc i), toNat_cast, hg, succ_cast hi (by omega)]
    exact Ev.bind ht hr) l.length 0 (l, a) (by omega) (by omega) ⟨rfl, fun j _ => rfl, by simp [sumL], fun m hm => by omega⟩
 exact ⟨r, hr, hp⟩
theorem held_rowsB (l M : List (List S31)) (a : Int) (hl : l.length ≤ 1048576) (h2 : ∀ x ∈ l, x.length ≤ 4398046511104) (hs : sumL l ≤ 4611686018427387) (a0 : 0 ≤ a) (a1 : a ≤ 1000) (hM : MarkedRows l M a) : Ev (fun k => laws_heldBodySS.f k M a) (a + 4 * (sumL l : Int)) := by
 unfold laws_heldBodySS.f
 obtain ⟨m1, m2⟩ := hM
 obtain ⟨r, hr, hp⟩ := Ev_up (fun k (i : Nat) (s : Int) => laws_heldBodySS.l0 k M s (i : Int)) l.length (fun i s => s = a + 4 * (sumL (l.take i) : Int)) (fun r => r = a + 4 * (sumL l : Int))
  (fun s hs => ⟨s, ev_succ (by simp only [laws_heldBodySS.l0, if_neg (show ¬ (l.length : Int) < (M.length : Int) by omega)]; exact Ev.now _), by rw [List.take_length] at hs; exact hs⟩)
  (fun i s hi hs => by
   right
   obtain ⟨q, q1, q2, q3⟩ := m2 i hi
   have hb := sumL_le l i
   have hlen : q.length = l[i].length := by rw [q2, List.getD_eq_getElem?_getD, List.getElem?_eq_getElem hi, Option.getD_some]
   have hq := h2 _ (List.getElem_mem hi)
   have hv : rd_L4 M (i : Int) = q := by
    simp only [rd_L4, toNat_cast, List.getD_eq_getElem?_getD, q1, Option.getD_some]
   have hh := held_from q s (by omega) (by omega) (by omega) (fun j hj => by rw [hs]; exact q3 j hj)
   refine ⟨s + 4 * (q.length : Int), by rw [sumL_take hi]; omega, fun r hr => ev_succ ?_⟩
   simp only [laws_heldBodySS.l0, if_pos (show (i : Int) < (M.length : Int) by omega), if_pos (nnc i), hv, succ_cast hi (by omega)]
   refine Ev.bind hh ?_
   simp only [if_neg (show ¬ s + 4 * (q.length : Int) < 0 by omega)]
   exact hr) l.length 0 a (by omega) (by omega) (by simp [sumL])
 rw [hp] at hr
 exact hr
/-! #### every line of several, stepped -/
def islFrom (L : List (List S31)) (c r t : Int) : Nat → Nat → List (List S31) → List (List S31) × Bool
 | 0, _, acc => (acc, true)
 | d + 1, i, acc => if (stepV (rd_L4 L (i : Int)) c r t).2 = true then islFrom L c r t d (i + 1) (acc ++ [(stepV (rd_L4 L (i : Int)) c r t).1]) else ([], false)
def islV (L : List (List S31)) (c r t : Int) : List (List S31) × Bool := if (L.length : Int) > 20 then ([], false) else islFrom L c r t L.length 0 []
theorem spec_isl_from (L : List (List S31)) (c r t : Int) (hL : L.length ≤ 20) (d : Nat) : ∀ (i : Nat) (acc : List (List S31)), L.length - i = d → i ≤ L.length → acc.length = i → Ev (fun k => spec_StepIslands.l0 k c r t acc L (L.length : Int) (i : Int)) (islFrom L c r t d i acc) := by
 induction d with
 | zero =>
  intro i acc hd hi ha
  obtain rfl : i = L.length := by omega
  refine ev_succ ?_
  simp only [spec_StepIslands.l0, if_neg (no_lt L.length), islFrom]
  exact Ev.now _
 | succ d ih =>
  intro i acc hd hi ha
  have hlt : i < L.length := by omega
  have ihn := ih (i + 1) (acc ++ [(stepV (rd_L4 L (i : Int)) c r t).1]) (by omega) (by omega) (by simp [ha])
  refine ev_succ ?_
  unfold islFrom
  simp only [spec_StepIslands.l0, if_pos (ltc hlt), if_pos (nnc i)]
  refine Ev.bind (spec_step _ c r t) ?_
  cases hb : (stepV (rd_L4 L (i : Int)) c r t).2 with
  | false => simp only [Bool.false_eq_true, if_false]; exact Ev.now _
  | true =>
   simp only [if_true, if_pos (show acc.length < 5864062014805 by omega), succ_cast hlt (by omega)]
   exact ihn
theorem impl_isl_from (L : List (List S31)) (c r t : Int) (hL : L.length ≤ 20) (d : Nat) : ∀ (i : Nat) (acc : List (List S31)), L.length - i = d → i ≤ L.length → acc.length = i → Ev (fun k => impl_StepIslands.l0 k c r t acc L (L.length : Int) (i : Int)) (islFrom L c r t d i acc) := by
 induction d with
 | zero =>
  intro i acc hd hi ha
  obtain rfl : i = L.length := by omega
  refine ev_succ ?_
  simp only [impl_StepIslands.l0, if_neg (no_lt L.length), islFrom]
  exact Ev.now _
 | succ d ih =>
  intro i acc hd hi ha
  have hlt : i < L.length := by omega
  have ihn := ih (i + 1) (acc ++ [(stepV (rd_L4 L (i : Int)) c r t).1]) (by omega) (by omega) (by simp [ha])
  refine ev_succ ?_
  unfold islFrom
  simp only [impl_StepIslands.l0, if_pos (ltc hlt), if_pos (nnc i)]
  refine Ev.bind (impl_step _ c r t) ?_
  cases hb : (stepV (rd_L4 L (i : Int)) c r t).2 with
  | false => simp only [Bool.false_eq_true, if_false]; exact Ev.now _
  | true =>
   simp only [if_true, if_pos (show acc.length < 5864062014805 by omega), succ_cast hlt (by omega)]
   exact ihn
theorem spec_isl (L : List (List S31)) (c r t : Int) : Ev (fun k => spec_StepIslands.f k L c r t) (islV L c r t) := by
 unfold spec_StepIslands.f islV
 by_cases h : (L.length : Int) > 20
 ·simp only [if_pos h]; exact Ev.now _
 ·simp only [if_neg h]; exact spec_isl_from L c r t (by omega) L.length 0 [] (by omega) (by omega) rfl
theorem impl_isl (L : List (List S31)) (c r t : Int) : Ev (fun k => impl_StepIslands.f k L c r t) (islV L c r t) := by
 unfold impl_StepIslands.f islV
 by_cases h : (L.length : Int) > 20
 ·simp only [if_pos h]; exact Ev.now _
 ·simp only [if_neg h]; exact impl_isl_from L c r t (by omega) L.length 0 [] (by omega) (by omega) rfl
theorem islFrom_le (L : List (List S31)) (c r t : Int) (h2 : ∀ x ∈ L, x.length ≤ 4398046511104) (d : Nat) : ∀ (i : Nat) (acc : List (List S31)), i + d ≤ L.length → acc.length ≤ i → (∀ x ∈ acc, x.length ≤ 4398046511104) → (islFrom L c r t d i acc).1.length ≤ i + d ∧ ∀ x ∈ (islFrom L c r t d i acc).1, x.length ≤ 4398046511104 := by
 induction d with
 | zero => intro i acc _ ha hx; exact ⟨ha, hx⟩
 | succ d ih =>
  intro i acc hi ha hx
  have hlt : i < L.length := by omega
  unfold islFrom
  split
  ·have := ih (i + 1) (acc ++ [(stepV (rd_L4 L (i : Int)) c r t).1]) (by omega) (by simp; omega) (fun x hxm => by
    rcases List.mem_append.1 hxm with q | q
    ·exact hx x q
    ·rw [List.mem_singleton.1 q]
     exact stepV_le _ c r t (by rw [rdC hlt]; exact h2 _ (List.getElem_mem hlt)))
   exact ⟨by omega, this.2⟩
  ·exact ⟨Nat.zero_le _, fun x hxm => absurd hxm (by simp)⟩
theorem islV_le (L : List (List S31)) (c r t : Int) (h2 : ∀ x ∈ L, x.length ≤ 4398046511104) : (islV L c r t).1.length ≤ 20 ∧ ∀ x ∈ (islV L c r t).1, x.length ≤ 4398046511104 := by
 unfold islV
 split
 ·exact ⟨Nat.zero_le _, fun x hxm => absurd hxm (by simp)⟩
 ·next h =>
  have := islFrom_le L c r t h2 L.length 0 [] (by omega) (Nat.zero_le _) (fun x hx => absurd hx (by simp))
  exact ⟨by omega, this.2⟩
theorem FnExactStepIslands : laws_FnExactStepIslands_Pure := by
 intro L c r t hL _ _ _
 have f1 : L.length ≤ 5864062014635 := by omega
 have f2 : ∀ x ∈ L, x.length ≤ 4398046511104 := fun x hx => by have := (hL.2.2 x hx).2.1; omega
 apply Ev.rounds (r := true)
 unfold laws_FnExactStepIslands.f
 obtain ⟨v, hv, hle⟩ := sz_rowsB L f1 f2
 refine Ev.bind hv ?_
 by_cases h : v < 0
 ·simp only [if_pos h]
  exact Ev.now true
 ·obtain ⟨l1, l2⟩ := hle.resolve_left h
  simp only [if_neg h]
  have g1 : (L.map (List.map bodyOf)).length ≤ 1048576 := by rw [List.length_map]; exact l1
  have g2 : ∀ x ∈ L.map (List.map bodyOf), x.length ≤ 4398046511104 := fun x hx => by
   obtain ⟨y, hy, rfl⟩ := List.mem_map.1 hx
   rw [List.length_map]; exact f2 y hy
  have g3 : sumL (L.map (List.map bodyOf)) ≤ 1048576 := by rw [sumL_map]; exact l2
  refine Ev.bind (to_rowsB L f1 f2) ?_
  generalize L.map (List.map bodyOf) = G at g1 g2 g3
  obtain ⟨t1, t2⟩ := islV_le G c r t g2
  refine Ev.bind (spec_isl G c r t) (Ev.bind (impl_isl G c r t) ?_)
  generalize islV G c r t = u at t1 t2
  have t3 := sumL_bound u.1 4398046511104 t2
  have t4 : sumL u.1 ≤ 4611686018427387 := Nat.le_trans t3 (Nat.le_trans (Nat.mul_le_mul_right _ t1) (by decide))
  obtain ⟨m, hm, m1, _⟩ := mark_rowsB G 1 g1 g2 (by omega) (by omega) (by omega)
  obtain ⟨n, hn, n1, n2⟩ := mark_rowsB u.1 1 (by omega) t2 t4 (by omega) (by omega)
  have hh := held_rowsB u.1 n.2 1 (by omega) t2 t4 (by omega) (by omega) n2
  rw [← n1] at hh
  refine Ev.bind (eq_rowsB u.1 (by omega) t2) (Ev.bind (eq_rowsB G (by omega) g2) (Ev.bind hm (Ev.bind hn (Ev.bind hh ?_))))
  rw [if_pos ⟨rfl, rfl, rfl, by omega, rfl, by omega⟩]
  exact Ev.now true
end Go.Proofs.Ytlijlailbjjfbaa.Pure
