/- The program's GoodLine and the reference's answer alike at every bodies. No condition. -/
import Derived.Test.YtlijlailbjjfbaaPFnExactGoodLinex4
namespace Go.Proofs.Ytlijlailbjjfbaa.Pure
open Go.RowKit Go.Proofs.Ytlijlailbjjfbaa.PFnExactGoodLine Go.Proofs.YtlijlailbjjfbaaW.PrintWords Go.Proofs.YtlijlailbjjfbaaW.PrintLast Go.Proofs.YtlijlailbjjfbaaW.PrintMore
set_option linter.unusedVariables false
set_option linter.unusedSimpArgs false
/-- What can be read as a datum of type 30. -/
def Good30 (x : S30) : Prop := (Lit.int .i64 x.f0).wf = true ∧ (Lit.int .i64 x.f1).wf = true ∧ (Lit.int .i64 x.f2).wf = true ∧ (Lit.int .i64 x.f3).wf = true
/-- The one pure statement. -/
def laws_FnExactGoodLine_Pure : Prop := ∀ (l0 : (List S30)), (List.length l0 ≤ maxLen ∧ List.length l0 * 32 ≤ 140737488351232 ∧ ∀ y ∈ l0, Good30 y) → ∃ k, laws_FnExactGoodLine.f k l0 = some true
/-! #### whole numbers: wraps, quotients towards nought -/
theorem wrap_small {i : Int} (h0 : -9223372036854775808 ≤ i) (h1 : i ≤ 9223372036854775807) : wrap64 i = i := by unfold wrap64; omega
theorem tdiv_pos {a b : Int} (ha : 0 ≤ a) : Int.tdiv a b = a / b := Int.tdiv_eq_ediv_of_nonneg ha
theorem tmod_pos {a b : Int} (ha : 0 ≤ a) : Int.tmod a b = a % b := Int.tmod_eq_emod_of_nonneg ha
theorem tdiv_neg' {a b : Int} (ha : a < 0) : Int.tdiv a b = -((-a) / b) := by
  rw [← Int.tdiv_eq_ediv_of_nonneg (a := -a) (by omega), Int.neg_tdiv, Int.neg_neg]
theorem tmod_neg' {a b : Int} (ha : a < 0) : Int.tmod a b = -((-a) % b) := by
  rw [← Int.tmod_eq_emod_of_nonneg (a := -a) (by omega), Int.neg_tmod, Int.neg_neg]
theorem wf64 {a : Int} (h : (Lit.int .i64 a).wf = true) : -9223372036854775808 ≤ a ∧ a ≤ 9223372036854775807 := by
  simp [Lit.wf, IntKind.min, IntKind.max, IntKind.signed, IntKind.bits] at h
  omega
theorem ev_succ {α : Type} {g : Nat → Option α} {r : α} (h : Ev (fun k => g (k + 1)) r) : Ev g r := Ev.step (f := fun k => g (k + 1)) (fun _ => rfl) h
theorem ev_eq {α : Type} {g : Nat → Option α} {r : α} (h : ∀ k, g k = some r) : Ev g r := ⟨0, fun k _ => h k⟩
theorem ev_val {α : Type} {g : Nat → Option α} {r r' : α} (h : Ev g r) (e : r = r') : Ev g r' := e ▸ h
/-! #### is a number in a span -/
def inB (a b c : Int) : Bool := decide (b ≤ a ∧ a ≤ c)
theorem inB_iff {a b c : Int} : inB a b c = true ↔ b ≤ a ∧ a ≤ c := by unfold inB; rw [decide_eq_true_eq]
theorem spec_in (a b c : Int) : spec_l1In.f a b c = some (inB a b c) := by
  unfold spec_l1In.f inB
  by_cases h : a ≥ b
  · rw [if_pos h]; congr 1; rw [decide_eq_decide]; omega
  · rw [if_neg h]; congr 1; exact (decide_eq_false (by omega)).symm
theorem impl_in (a b c : Int) : impl_inRange.f a b c = some (inB a b c) := by
  unfold impl_inRange.f inB
  by_cases h : b ≤ a
  · rw [if_pos h]; congr 1; rw [decide_eq_decide]; omega
  · rw [if_neg h]; congr 1; exact (decide_eq_false (by omega)).symm
/-! #### loops that go up, from a place on -/
theorem Ev_up {σ ρ : Type} (g : Nat → Nat → σ → Option ρ) (n : Nat) (Inv : Nat → σ → Prop) (Post : ρ → Prop)
    (hend : ∀ s, Inv n s → ∃ r, Ev (fun k => g k n s) r ∧ Post r)
    (hstep : ∀ i s, i < n → Inv i s → (∃ r, Ev (fun k => g k i s) r ∧ Post r) ∨ (∃ s', Inv (i + 1) s' ∧ ∀ r, Ev (fun k => g k (i + 1) s') r → Ev (fun k => g k i s) r))
    (d : Nat) : ∀ i s, n - i = d → i ≤ n → Inv i s → ∃ r, Ev (fun k => g k i s) r ∧ Post r := by
  induction d with
  | zero =>
    intro i s hd hi hs
    obtain rfl : i = n := by omega
    exact hend s hs
  | succ d ih =>
    intro i s hd hi hs
    rcases hstep i s (by omega) hs with h | ⟨s', hs', hg⟩
    · exact h
    · obtain ⟨r, hr, hp⟩ := ih (i + 1) s' (by omega) (by omega) hs'
      exact ⟨r, hg r hr, hp⟩
theorem succ_cast {i n : Nat} (h : i < n) (hn : n ≤ 9223372036854775806) : wrap64 ((i : Int) + 1) = ((i + 1 : Nat) : Int) := by
  rw [wrap_small (by omega) (by omega)]; omega
theorem drop_cons {α : Type} {l : List α} {i : Nat} (h : i < l.length) : l.drop i = l[i] :: l.drop (i + 1) := List.drop_eq_getElem_cons h
theorem rd_at {l : List Int} {i : Nat} (h : i < l.length) : rd l (i : Int) = l[i] := by simp [rd, h]
/-! #### loops that copy and loops that compare -/
theorem set_step {α β : Type} (g : α → β) (z : β) (l : List α) (i : Nat) (hi : i < l.length) : ((l.take i).map g ++ List.replicate (l.length - i) z).set i (g l[i]) = (l.take (i + 1)).map g ++ List.replicate (l.length - (i + 1)) z := by
  have e : l.length - i = (l.length - (i + 1)) + 1 := by omega
  have hl : ((l.take i).map g).length = i := by rw [List.length_map, List.length_take]; omega
  rw [e, List.replicate_succ, List.set_append_right _ _ (by omega), hl, Nat.sub_self, List.set_cons_zero, List.take_succ_eq_append_getElem hi, List.map_append, List.append_assoc]
  rfl
/-- A loop that sets each place of a fresh list. -/
theorem ev_map {α β : Type} (l : List α) (z : β) (g : α → β) (F : Nat → List β → Int → Option (List β)) (G : Nat → α → Option β) (hG : ∀ i (hi : i < l.length), Ev (fun k => G k l[i]) (g l[i]))
    (hstep : ∀ k (x : List β) (i : Nat) (hi : i < l.length), x.length = l.length → F (k + 1) x (i : Int) = (G k l[i]).bind fun v => F k (x.set i v) ((i + 1 : Nat) : Int))
    (hend : ∀ k (x : List β), F (k + 1) x (l.length : Int) = some x) : Ev (fun k => F k (List.replicate l.length z) 0) (l.map g) := by
  have main : ∀ d i, l.length - i = d → i ≤ l.length → Ev (fun k => F k ((l.take i).map g ++ List.replicate (l.length - i) z) (i : Int)) (l.map g) := by
    intro d
    induction d with
    | zero =>
      intro i hd hi
      obtain rfl : i = l.length := by omega
      refine ev_succ ?_
      simp only [hend, Nat.sub_self, List.replicate_zero, List.append_nil, List.take_length]
      exact Ev.now _
    | succ d ih =>
      intro i hd hi
      have hlt : i < l.length := by omega
      refine ev_succ ?_
      have hx : ((l.take i).map g ++ List.replicate (l.length - i) z).length = l.length := by
        rw [List.length_append, List.length_map, List.length_take, List.length_replicate]; omega
      simp only [hstep _ _ i hlt hx]
      refine Ev.bind (hG i hlt) ?_
      simp only [set_step g z l i hlt]
      exact ih (i + 1) (by omega) (by omega)
  have := main l.length 0 (by omega) (by omega)
  simp only [List.take_zero, List.map_nil, List.nil_append, Nat.sub_zero] at this
  exact this
/-- A loop that asks each place, and every place answers true. -/
theorem ev_trues {n : Nat} (F : Nat → Int → Option Bool) (G : Nat → Nat → Option Bool) (hG : ∀ i, i < n → Ev (fun k => G k i) true)
    (hstep : ∀ k (i : Nat), i < n → F (k + 1) (i : Int) = (G k i).bind fun t => if t = true then F k ((i + 1 : Nat) : Int) else some false)
    (hend : ∀ k, F (k + 1) (n : Int) = some true) : Ev (fun k => F k 0) true := by
  have main : ∀ d i, n - i = d → i ≤ n → Ev (fun k => F k (i : Int)) true := by
    intro d
    induction d with
    | zero =>
      intro i hd hi
      obtain rfl : i = n := by omega
      refine ev_succ ?_
      simp only [hend]
      exact Ev.now _
    | succ d ih =>
      intro i hd hi
      refine ev_succ ?_
      simp only [hstep _ i (show i < n by omega)]
      refine Ev.bind (hG i (by omega)) ?_
      simp only [if_true]
      exact ih (i + 1) (by omega) (by omega)
  exact main n 0 (by omega) (by omega)
theorem toNat_cast (i : Nat) : ((i : Int)).toNat = i := Int.toNat_natCast i
/-! #### bodies on a line -/
def bodyOf (x : S30) : S31 := ⟨x.f0, x.f1, x.f2, x.f3⟩
theorem rd30 {l : List S30} {i : Nat} (h : i < l.length) : rd_T30 l (i : Int) = l[i] := by simp [rd_T30, h]
theorem rd31 {l : List S31} {i : Nat} (h : i < l.length) : rd_T31 l (i : Int) = l[i] := by simp [rd_T31, h]
theorem getB {l : List S31} {i : Nat} (h : i < l.length) : l.getD i z31 = l[i] := by simp [h]
theorem to_bodies (l : List S30) (hl : l.length ≤ 4398046511104) : Ev (fun k => laws_toBodyS.f k l) (l.map bodyOf) := by
  unfold laws_toBodyS.f
  simp only [if_pos (show (0 : Int) ≤ (l.length : Int) by omega), toNat_cast, if_pos (show l.length ≤ 8796093022208 by omega)]
  refine ev_map l z31 bodyOf (fun k x i => laws_toBodyS.l0 k l x i) (fun _ x => some (bodyOf x)) (fun _ _ => Ev.now _) ?_ ?_
  · intro k x i hi hx
    simp only [laws_toBodyS.l0, if_pos (show (i : Int) < (l.length : Int) by omega), if_pos (show (0 : Int) ≤ (i : Int) by omega), laws_toBody.f, Option.bind_some, if_pos (show (i : Int) < (x.length : Int) by omega), rd30 hi, toNat_cast, succ_cast hi (by omega)]
    rfl
  · intro k x
    simp only [laws_toBodyS.l0, if_neg (show ¬ (l.length : Int) < (l.length : Int) by omega)]
theorem eq_bodies (l : List S31) (hl : l.length ≤ 4398046511104) : Ev (fun k => laws_eqBodyS.f k l l) true := by
  unfold laws_eqBodyS.f
  simp only [if_true]
  refine ev_trues (n := l.length) (fun k i => laws_eqBodyS.l0 k l l i) (fun _ _ => some true) (fun _ _ => Ev.now _) ?_ ?_
  · intro k i hi
    simp only [laws_eqBodyS.l0, if_pos (show (i : Int) < (l.length : Int) by omega), if_pos (show (0 : Int) ≤ (i : Int) by omega), laws_eqBody.f, if_true, Option.bind_some, rd31 hi, succ_cast hi (by omega)]
  · intro k
    simp only [laws_eqBodyS.l0, if_neg (show ¬ (l.length : Int) < (l.length : Int) by omega)]
def bodyB (x : S31) : Bool := inB x.f0 (-1000000000) 1000000000 && (inB x.f1 (-1000000) 1000000 && (inB x.f2 0 12 && ((decide (x.f2 > 0) || decide (x.f1 = 0)) && inB x.f3 1 1000)))
theorem spec_body (x : S31) : spec_l10Body.f x.f0 x.f1 x.f2 x.f3 = some (bodyB x) := by
  unfold spec_l10Body.f bodyB
  simp only [spec_in, Option.bind_some]
  cases inB x.f0 (-1000000000) 1000000000 <;> cases inB x.f1 (-1000000) 1000000 <;> cases inB x.f2 0 12 <;> by_cases h1 : x.f2 > 0 <;> by_cases h2 : x.f1 = 0 <;> simp [h1, h2]
theorem impl_body (x : S31) : impl_isBody.f x.f0 x.f1 x.f2 x.f3 = some (bodyB x) := by
  unfold impl_isBody.f bodyB
  simp only [impl_in, Option.bind_some]
  cases inB x.f0 (-1000000000) 1000000000 <;> cases inB x.f1 (-1000000) 1000000 <;> cases inB x.f2 0 12 <;> by_cases h1 : x.f2 > 0 <;> by_cases h2 : x.f1 = 0 <;> simp [h1, h2]
def gapB (l : List S31) (i : Nat) : Bool := !(decide (wrap64 ((l.getD (i - 1) z31).f0 + (l.getD (i - 1) z31).f3) > wrap64 ((l.getD i z31).f0 - (l.getD i z31).f3)))
def gapsFrom (l : List S31) : Nat → Nat → Bool
  | 0, _ => true
  | d + 1, i => gapB l i && gapsFrom l d (i + 1)
def lineFrom (l : List S31) : Nat → Nat → Bool
  | 0, _ => true
  | d + 1, i => (bodyB (l.getD i z31) && (decide (i = 0) || gapB l i)) && lineFrom l d (i + 1)
theorem bpred {i : Nat} (h0 : i ≠ 0) (h1 : i ≤ 4398046511104) : wrap64 ((i : Int) - 1) = ((i - 1 : Nat) : Int) := by rw [wrap_small (by omega) (by omega)]; omega
theorem spec_line_from (l : List S31) (hl : l.length ≤ 4398046511104) (d : Nat) : ∀ i : Nat, l.length - i = d → i ≤ l.length → Ev (fun k => spec_GoodLine.l0 k l l (l.length : Int) (i : Int)) (lineFrom l d i) := by
  induction d with
  | zero =>
    intro i hd hi
    refine ev_succ ?_
    simp only [spec_GoodLine.l0, if_neg (show ¬ (i : Int) < (l.length : Int) by omega)]
    exact Ev.now _
  | succ d ih =>
    intro i hd hi
    have hlt : i < l.length := by omega
    have ihn := ih (i + 1) (by omega) (by omega)
    refine ev_succ ?_
    unfold lineFrom gapB
    rw [getB hlt]
    simp only [spec_GoodLine.l0, if_pos (show (i : Int) < (l.length : Int) by omega), if_pos (show (0 : Int) ≤ (i : Int) by omega), rd31 hlt, spec_body, Option.bind_some, succ_cast hlt (by omega)]
    cases bodyB l[i] with
    | false => simp only [Bool.false_eq_true, if_false, Bool.false_and]; exact Ev.now _
    | true =>
      simp only [if_true, Bool.true_and]
      by_cases c0 : i = 0
      · simp only [if_neg (show ¬ (i : Int) > 0 by omega), decide_eq_true c0, Bool.true_or, Bool.true_and]
        exact ihn
      · have h1 : i - 1 < l.length := by omega
        simp only [if_pos (show (i : Int) > 0 by omega), bpred c0 (by omega), if_pos (show (0 : Int) ≤ ((i - 1 : Nat) : Int) by omega), if_pos (show ((i - 1 : Nat) : Int) < (l.length : Int) by omega), rd31 h1, getB h1, decide_eq_false c0, Bool.false_or]
        by_cases c1 : wrap64 (l[i - 1].f0 + l[i - 1].f3) > wrap64 (l[i].f0 - l[i].f3)
        · simp only [if_pos c1, decide_eq_true c1, Bool.not_true, Bool.false_and]; exact Ev.now _
        · simp only [if_neg c1, decide_eq_false c1, Bool.not_false, Bool.true_and]; exact ihn
theorem impl_gaps_from (l : List S31) (hl : l.length ≤ 4398046511104) (d : Nat) : ∀ i : Nat, l.length - i = d → i ≠ 0 → Ev (fun k => impl_apart.l0 k l (i : Int)) (gapsFrom l d i) := by
  induction d with
  | zero =>
    intro i hd hi
    refine ev_succ ?_
    simp only [impl_apart.l0, if_neg (show ¬ (i : Int) < (l.length : Int) by omega)]
    exact Ev.now _
  | succ d ih =>
    intro i hd c0
    have hlt : i < l.length := by omega
    have ihn := ih (i + 1) (by omega) (by omega)
    have h1 : i - 1 < l.length := by omega
    refine ev_succ ?_
    unfold gapsFrom gapB
    rw [getB hlt]
    simp only [impl_apart.l0, if_pos (show (i : Int) < (l.length : Int) by omega), if_pos (show (0 : Int) ≤ (i : Int) by omega), bpred c0 (by omega), if_pos (show (0 : Int) ≤ ((i - 1 : Nat) : Int) by omega), if_pos (show ((i - 1 : Nat) : Int) < (l.length : Int) by omega), rd31 hlt, rd31 h1, getB h1, succ_cast hlt (by omega)]
    by_cases c1 : wrap64 (l[i - 1].f0 + l[i - 1].f3) > wrap64 (l[i].f0 - l[i].f3)
    · simp only [if_pos c1, decide_eq_true c1, Bool.not_true, Bool.false_and]; exact Ev.now _
    · simp only [if_neg c1, decide_eq_false c1, Bool.not_false, Bool.true_and]; exact ihn
theorem line_split (l : List S31) (d : Nat) : ∀ i : Nat, l.length - i = d → i ≠ 0 → lineFrom l d i = ((l.drop i).all bodyB && gapsFrom l d i) := by
  induction d with
  | zero =>
    intro i hd hi
    rw [List.drop_eq_nil_of_le (by omega)]
    rfl
  | succ d ih =>
    intro i hd c0
    have hlt : i < l.length := by omega
    rw [drop_cons hlt, List.all_cons]
    unfold lineFrom gapsFrom
    rw [ih (i + 1) (by omega) (by omega), getB hlt, decide_eq_false c0, Bool.false_or]
    cases bodyB l[i] <;> cases gapB l i <;> cases (l.drop (i + 1)).all bodyB <;> simp
theorem line_all (l : List S31) : lineFrom l l.length 0 = (l.all bodyB && gapsFrom l (l.length - 1) 1) := by
  by_cases c : l.length = 0
  · have e : l = [] := List.eq_nil_of_length_eq_zero c
    subst e
    rfl
  · have hlt : 0 < l.length := by omega
    obtain ⟨d, hd⟩ : ∃ d, l.length = d + 1 := ⟨l.length - 1, by omega⟩
    have hs := line_split l d 1 (by omega) (by omega)
    have ha : l.all bodyB = (bodyB l[0] && (l.drop 1).all bodyB) := by
      have := drop_cons hlt
      rw [List.drop_zero] at this
      conv => lhs; rw [this]
      rw [List.all_cons]
    rw [hd, Nat.add_sub_cancel, ha]
    unfold lineFrom
    rw [hs, getB hlt, decide_eq_true rfl, Bool.true_or, Bool.and_true, Bool.and_assoc]
def lineB (l : List S31) : Bool := decide ((l.length : Int) ≤ 20) && lineFrom l l.length 0
theorem spec_line (l : List S31) : Ev (fun k => spec_GoodLine.f k l) (lineB l) := by
  unfold spec_GoodLine.f lineB
  by_cases c : (l.length : Int) > 20
  · rw [decide_eq_false (show ¬ (l.length : Int) ≤ 20 by omega)]
    simp only [if_pos c, Bool.false_and]
    exact Ev.now _
  · rw [decide_eq_true (show (l.length : Int) ≤ 20 by omega)]
    simp only [if_neg c, Bool.true_and]
    exact spec_line_from l (by omega) l.length 0 (by omega) (by omega)
theorem impl_line (l : List S31) : Ev (fun k => impl_GoodLine.f k l) (lineB l) := by
  unfold impl_GoodLine.f lineB
  by_cases c : (l.length : Int) ≤ 20
  · have h : anyO impl_GoodLine.on l = some (l.any fun a => !(bodyB a)) := anyO_some _ (fun a _ => by
      unfold impl_GoodLine.on impl_GoodLine_1.f
      rw [impl_body]; rfl)
    rw [decide_eq_true c, line_all]
    simp only [if_pos c, h, Option.bind_some, Bool.true_and]
    have e : (l.any fun a => !(bodyB a)) = !(l.all bodyB) := by
      rw [← List.not_all_eq_any_not]
    rw [e]
    cases l.all bodyB with
    | false => simp only [Bool.not_false, if_true, Bool.false_and]; exact Ev.now _
    | true =>
      simp only [Bool.not_true, Bool.false_eq_true, if_false, Bool.true_and]
      exact impl_gaps_from l (by omega) (l.length - 1) 1 (by omega) (by omega)
  · rw [decide_eq_false c]
    simp only [if_neg c, Bool.false_and]
    exact Ev.now _
theorem FnExactGoodLine : laws_FnExactGoodLine_Pure := by
  intro l hl
  have h1 : l.length ≤ 4398046511104 := by omega
  apply Ev.rounds (r := true)
  unfold laws_FnExactGoodLine.f laws_szBodyS.f
  by_cases h : wrap64 (1048576 - (l.length : Int)) < 0
  · simp only [if_pos h, Option.bind_some, show (-1 : Int) < 0 from by decide, if_true]
    exact Ev.now true
  · simp only [if_neg h, Option.bind_some]
    have hk := to_bodies l h1
    have h2 : (l.map bodyOf).length ≤ 4398046511104 := by rw [List.length_map]; exact h1
    refine Ev.bind hk (Ev.bind (spec_line _) (Ev.bind hk (Ev.bind (impl_line _) ?_)))
    simp only [bne_self_eq_false, Bool.false_eq_true, if_false]
    refine Ev.bind hk (Ev.bind (eq_bodies _ h2) ?_)
    simp only [if_true]
    exact Ev.now true
end Go.Proofs.Ytlijlailbjjfbaa.Pure
