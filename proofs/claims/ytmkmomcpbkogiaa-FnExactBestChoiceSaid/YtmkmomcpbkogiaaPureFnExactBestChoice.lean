/- The program's BestChoice and the reference's answer alike at every choices. No condition. -/
import Derived.Test.YtmkmomcpbkogiaaPFnExactBestChoicex6
namespace Go.Proofs.Ytmkmomcpbkogiaa.Pure
open Go.RowKit Go.Proofs.Ytmkmomcpbkogiaa.PFnExactBestChoice Go.Proofs.YtmkmomcpbkogiaaW.PrintWords Go.Proofs.YtmkmomcpbkogiaaW.PrintLast Go.Proofs.YtmkmomcpbkogiaaW.PrintMore
set_option linter.unusedVariables false
set_option linter.unusedSimpArgs false
/-- What can be read as a datum of type 96. -/
def Good96 (x : S96) : Prop := ByteArray.size x.f0 ≤ 140737488351232 ∧ (List.length x.f1 ≤ maxLen ∧ List.length x.f1 * 8 ≤ 140737488351232 ∧ ∀ y ∈ x.f1, (Lit.int .i64 y).wf = true) ∧ (Lit.int .i64 x.f2).wf = true
/-- The one pure statement. -/
def laws_FnExactBestChoice_Pure : Prop := ∀ (l0 : (List S96)), (List.length l0 ≤ maxLen ∧ List.length l0 * 48 ≤ 140737488351232 ∧ ∀ y ∈ l0, Good96 y) → ∃ k, laws_FnExactBestChoice.f k l0 = some true
/-! #### whole numbers: wraps, quotients towards nought -/
theorem wrap_small {i : Int} (h0 : -9223372036854775808 ≤ i) (h1 : i ≤ 9223372036854775807) : wrap64 i = i := by unfold wrap64; omega
theorem tdiv_pos {a b : Int} (ha : 0 ≤ a) : Int.tdiv a b = a / b := Int.tdiv_eq_ediv_of_nonneg ha
theorem tmod_pos {a b : Int} (ha : 0 ≤ a) : Int.tmod a b = a % b := Int.tmod_eq_emod_of_nonneg ha
theorem tdiv_neg' {a b : Int} (ha : a < 0) : Int.tdiv a b = -((-a) / b) := by
  rw [← Int.tdiv_eq_ediv_of_nonneg (a := -a) (by omega), Int.neg_tdiv, Int.neg_neg]
theorem tmod_neg' {a b : Int} (ha : a < 0) : Int.tmod a b = -((-a) % b) := by
  rw [← Int.tmod_eq_emod_of_nonneg (a := -a) (by omega), Int.neg_tmod, Int.neg_neg]
theorem wf64 {a : Int} (h : (Lit.int .i64 a).wf = true) : -9223372036854775808 ≤ a ∧ a ≤ 9223372036854775807 := by
  simp [Lit.wf, IntKind.min, IntKind.max, IntKind.signed, IntKind.bits] at h
  omega
theorem ev_succ {α : Type} {g : Nat → Option α} {r : α} (h : Ev (fun k => g (k + 1)) r) : Ev g r := Ev.step (f := fun k => g (k + 1)) (fun _ => rfl) h
theorem ev_eq {α : Type} {g : Nat → Option α} {r : α} (h : ∀ k, g k = some r) : Ev g r := ⟨0, fun k _ => h k⟩
theorem ev_val {α : Type} {g : Nat → Option α} {r r' : α} (h : Ev g r) (e : r = r') : Ev g r' := e ▸ h
/-! #### is a number in a span -/
def inB (a b c : Int) : Bool := decide (b ≤ a ∧ a ≤ c)
theorem inB_iff {a b c : Int} : inB a b c = true ↔ b ≤ a ∧ a ≤ c := by unfold inB; rw [decide_eq_true_eq]
theorem spec_in (a b c : Int) : spec_l1In.f a b c = some (inB a b c) := by
  unfold spec_l1In.f inB
  by_cases h : a ≥ b
  · rw [if_pos h]; congr 1; rw [decide_eq_decide]; omega
  · rw [if_neg h]; congr 1; exact (decide_eq_false (by omega)).symm
theorem impl_in (a b c : Int) : impl_inRange.f a b c = some (inB a b c) := by
  unfold impl_inRange.f inB
  by_cases h : b ≤ a
  · rw [if_pos h]; congr 1; rw [decide_eq_decide]; omega
  · rw [if_neg h]; congr 1; exact (decide_eq_false (by omega)).symm
/-! #### loops that go up, from a place on -/
theorem Ev_up {σ ρ : Type} (g : Nat → Nat → σ → Option ρ) (n : Nat) (Inv : Nat → σ → Prop) (Post : ρ → Prop)
    (hend : ∀ s, Inv n s → ∃ r, Ev (fun k => g k n s) r ∧ Post r)
    (hstep : ∀ i s, i < n → Inv i s → (∃ r, Ev (fun k => g k i s) r ∧ Post r) ∨ (∃ s', Inv (i + 1) s' ∧ ∀ r, Ev (fun k => g k (i + 1) s') r → Ev (fun k => g k i s) r))
    (d : Nat) : ∀ i s, n - i = d → i ≤ n → Inv i s → ∃ r, Ev (fun k => g k i s) r ∧ Post r := by
  induction d with
  | zero =>
    intro i s hd hi hs
    obtain rfl : i = n := by omega
    exact hend s hs
  | succ d ih =>
    intro i s hd hi hs
    rcases hstep i s (by omega) hs with h | ⟨s', hs', hg⟩
    · exact h
    · obtain ⟨r, hr, hp⟩ := ih (i + 1) s' (by omega) (by omega) hs'
      exact ⟨r, hg r hr, hp⟩
theorem succ_cast {i n : Nat} (h : i < n) (hn : n ≤ 9223372036854775806) : wrap64 ((i : Int) + 1) = ((i + 1 : Nat) : Int) := by
  rw [wrap_small (by omega) (by omega)]; omega
theorem drop_cons {α : Type} {l : List α} {i : Nat} (h : i < l.length) : l.drop i = l[i] :: l.drop (i + 1) := List.drop_eq_getElem_cons h
theorem rd_at {l : List Int} {i : Nat} (h : i < l.length) : rd l (i : Int) = l[i] := by simp [rd, h]
/-! #### loops that copy and loops that compare -/
theorem set_step {α β : Type} (g : α → β) (z : β) (l : List α) (i : Nat) (hi : i < l.length) : ((l.take i).map g ++ List.replicate (l.length - i) z).set i (g l[i]) = (l.take (i + 1)).map g ++ List.replicate (l.length - (i + 1)) z := by
  have e : l.length - i = (l.length - (i + 1)) + 1 := by omega
  have hl : ((l.take i).map g).length = i := by rw [List.length_map, List.length_take]; omega
  rw [e, List.replicate_succ, List.set_append_right _ _ (by omega), hl, Nat.sub_self, List.set_cons_zero, List.take_succ_eq_append_getElem hi, List.map_append, List.append_assoc]
  rfl
/-- A loop that sets each place of a fresh list. -/
theorem ev_map {α β : Type} (l : List α) (z : β) (g : α → β) (F : Nat → List β → Int → Option (List β)) (G : Nat → α → Option β) (hG : ∀ i (hi : i < l.length), Ev (fun k => G k l[i]) (g l[i]))
    (hstep : ∀ k (x : List β) (i : Nat) (hi : i < l.length), x.length = l.length → F (k + 1) x (i : Int) = (G k l[i]).bind fun v => F k (x.set i v) ((i + 1 : Nat) : Int))
    (hend : ∀ k (x : List β), F (k + 1) x (l.length : Int) = some x) : Ev (fun k => F k (List.replicate l.length z) 0) (l.map g) := by
  have main : ∀ d i, l.length - i = d → i ≤ l.length → Ev (fun k => F k ((l.take i).map g ++ List.replicate (l.length - i) z) (i : Int)) (l.map g) := by
    intro d
    induction d with
    | zero =>
      intro i hd hi
      obtain rfl : i = l.length := by omega
      refine ev_succ ?_
      simp only [hend, Nat.sub_self, List.replicate_zero, List.append_nil, List.take_length]
      exact Ev.now _
    | succ d ih =>
      intro i hd hi
      have hlt : i < l.length := by omega
      refine ev_succ ?_
      have hx : ((l.take i).map g ++ List.replicate (l.length - i) z).length = l.length := by
        rw [List.length_append, List.length_map, List.length_take, List.length_replicate]; omega
      simp only [hstep _ _ i hlt hx]
      refine Ev.bind (hG i hlt) ?_
      simp only [set_step g z l i hlt]
      exact ih (i + 1) (by omega) (by omega)
  have := main l.length 0 (by omega) (by omega)
  simp only [List.take_zero, List.map_nil, List.nil_append, Nat.sub_zero] at this
  exact this
/-- A loop that asks each place, and every place answers true. -/
theorem ev_trues {n : Nat} (F : Nat → Int → Option Bool) (G : Nat → Nat → Option Bool) (hG : ∀ i, i < n → Ev (fun k => G k i) true)
    (hstep : ∀ k (i : Nat), i < n → F (k + 1) (i : Int) = (G k i).bind fun t => if t = true then F k ((i + 1 : Nat) : Int) else some false)
    (hend : ∀ k, F (k + 1) (n : Int) = some true) : Ev (fun k => F k 0) true := by
  have main : ∀ d i, n - i = d → i ≤ n → Ev (fun k => F k (i : Int)) true := by
    intro d
    induction d with
    | zero =>
      intro i hd hi
      obtain rfl : i = n := by omega
      refine ev_succ ?_
      simp only [hend]
      exact Ev.now _
    | succ d ih =>
      intro i hd hi
      refine ev_succ ?_
      simp only [hstep _ i (show i < n by omega)]
      refine Ev.bind (hG i (by omega)) ?_
      simp only [if_true]
      exact ih (i + 1) (by omega) (by omega)
  exact main n 0 (by omega) (by omega)
theorem toNat_cast (i : Nat) : ((i : Int)).toNat = i := Int.toNat_natCast i
/-! #### names -/
/-- one byte of a name: a letter or an underscore -/
def letterB (c : Int) : Bool := decide (97 ≤ c ∧ c ≤ 122) || decide (65 ≤ c ∧ c ≤ 90) || decide (c = 95)
def digitB (c : Int) : Bool := decide (48 ≤ c ∧ c ≤ 57)
/-- what a good name is -/
def NameOk (s : ByteArray) : Prop := 1 ≤ s.size ∧ s.size ≤ 20 ∧ ∀ j, j < s.size → (letterB (bt s (j : Nat)) = true ∨ (j ≠ 0 ∧ digitB (bt s (j : Nat)) = true))
instance (s : ByteArray) : Decidable (NameOk s) := by unfold NameOk; infer_instance
def nameB (s : ByteArray) : Bool := decide (NameOk s)
theorem spec_digit (c : Int) : spec_l1Digit.f c = some (digitB c) := by
  unfold spec_l1Digit.f digitB
  by_cases h : c ≥ 48
  · rw [if_pos h]; congr 1; simp; omega
  · rw [if_neg h]; congr 1; simp; omega
theorem spec_letter (c : Int) : spec_l1Letter.f c = some (letterB c) := by
  unfold spec_l1Letter.f letterB
  repeat' split
  all_goals (congr 1; rw [Bool.eq_iff_iff]; simp; try omega)
theorem impl_digit (c : Int) : impl_isDigit.f c = some (digitB c) := by
  unfold impl_isDigit.f digitB
  by_cases h : c ≥ 48
  · rw [if_pos h]; congr 1; simp; omega
  · rw [if_neg h]; congr 1; simp; omega
theorem impl_letter (c : Int) : impl_isLetter.f c = some (letterB c && decide (c ≠ 95)) := by
  unfold impl_isLetter.f letterB
  repeat' split
  all_goals (congr 1; rw [Bool.eq_iff_iff]; simp; try omega)
theorem spec_name_loop (s : ByteArray) (hs : s.size ≤ 140737488351232) (h0 : digitB (bt s 0) = false) (d : Nat) : ∀ i : Nat, s.size - i = d → i ≤ s.size →
    ∃ b, Ev (fun k => spec_GoodName.l0 k s i) b ∧ (b = true ↔ ∀ j, i ≤ j → j < s.size → (letterB (bt s (j : Nat)) = true ∨ (j ≠ 0 ∧ digitB (bt s (j : Nat)) = true))) := by
  induction d with
  | zero =>
    intro i hd hi
    refine ⟨true, Ev.step (fun k => by simp only [spec_GoodName.l0]; rw [if_neg (by omega)]) (Ev.now true), ⟨fun _ j h1 h2 => by omega, fun _ => rfl⟩⟩
  | succ d ih =>
    intro i hd hi
    obtain ⟨b, hb, hiff⟩ := ih (i + 1) (by omega) (by omega)
    have hw : wrap64 ((i : Int) + 1) = ((i + 1 : Nat) : Int) := by rw [wrap_small (by omega) (by omega)]; omega
    by_cases hl : letterB (bt s (i : Nat)) = true
    · refine ⟨b, Ev.step (fun k => by simp only [spec_GoodName.l0]; rw [if_pos (by omega), if_pos (by omega), spec_letter, hl, hw]; simp only [Option.bind_some, if_true]) hb, hiff.trans ⟨fun h j h1 h2 => ?_, fun h j h1 h2 => h j (by omega) h2⟩⟩
      by_cases e : j = i
      · subst e; exact .inl hl
      · exact h j (by omega) h2
    · have hl' : letterB (bt s (i : Nat)) = false := by simpa using hl
      by_cases hg : digitB (bt s (i : Nat)) = true
      · have hi0 : i ≠ 0 := by
          rintro rfl
          rw [show ((0 : Nat) : Int) = 0 from rfl, h0] at hg
          cases hg
        refine ⟨b, Ev.step (fun k => by simp only [spec_GoodName.l0]; rw [if_pos (by omega), if_pos (by omega), spec_letter, hl', spec_digit, hg, hw]; simp only [Option.bind_some, if_true, Bool.false_eq_true, if_false]) hb, hiff.trans ⟨fun h j h1 h2 => ?_, fun h j h1 h2 => h j (by omega) h2⟩⟩
        by_cases e : j = i
        · subst e; exact .inr ⟨hi0, hg⟩
        · exact h j (by omega) h2
      · have hg' : digitB (bt s (i : Nat)) = false := by simpa using hg
        refine ⟨false, Ev.step (fun k => by simp only [spec_GoodName.l0]; rw [if_pos (by omega), if_pos (by omega), spec_letter, hl', spec_digit, hg']; simp only [Option.bind_some, Bool.false_eq_true, if_false]) (Ev.now false), ⟨fun h => (Bool.false_ne_true h).elim, fun h => ?_⟩⟩
        rcases h i (Nat.le_refl _) (by omega) with h | ⟨_, h⟩
        · exact absurd h hl
        · exact absurd h hg
theorem spec_name (s : ByteArray) (hs : s.size ≤ 140737488351232) : Ev (fun k => spec_GoodName.f k s) (nameB s) := by
  unfold spec_GoodName.f nameB
  by_cases h1 : (s.size : Int) < 1
  · have : decide (NameOk s) = false := decide_eq_false (by unfold NameOk; omega)
    simp only [if_pos h1, this]
    exact Ev.step (fun k => by simp only [spec_GoodName.j0, if_true]) (Ev.now false)
  · by_cases h2 : (s.size : Int) > 20
    · have : decide (NameOk s) = false := decide_eq_false (by unfold NameOk; omega)
      simp only [if_neg h1, if_pos h2, this]
      exact Ev.step (fun k => by simp only [spec_GoodName.j0, if_true]) (Ev.now false)
    · simp only [if_neg h1, if_neg h2, if_pos (show 0 < (s.size : Int) by omega), spec_digit, Option.bind_some]
      by_cases hd : digitB (bt s 0) = true
      · have : decide (NameOk s) = false := decide_eq_false (fun hn => by
          rcases hn.2.2 0 (by omega) with h | ⟨h, _⟩
          · rw [show ((0 : Nat) : Int) = 0 from rfl] at h
            revert hd h
            unfold digitB letterB
            simp
            omega
          · exact h rfl)
        simp only [hd, this]
        exact Ev.step (fun k => by simp only [spec_GoodName.j0, if_true]) (Ev.now false)
      · have hd' : digitB (bt s 0) = false := by simpa using hd
        obtain ⟨b, hb, hiff⟩ := spec_name_loop s hs hd' s.size 0 (by omega) (by omega)
        have : b = decide (NameOk s) := by
          rw [Bool.eq_iff_iff, hiff]
          simp only [decide_eq_true_eq]
          exact ⟨fun h => ⟨by omega, by omega, fun j hj => h j (Nat.zero_le _) hj⟩, fun h j _ hj => h.2.2 j hj⟩
        rw [← this]
        simp only [hd']
        exact Ev.step (fun k => by simp only [spec_GoodName.j0, Bool.false_eq_true, if_false]; rfl) hb
theorem impl_name_loop (s : ByteArray) (hs : s.size ≤ 140737488351232) (d : Nat) : ∀ i : Nat, s.size - i = d → i ≤ s.size →
    ∃ b, Ev (fun k => impl_GoodName.l0 k s s.size i) b ∧ (b = true ↔ (1 ≤ s.size ∧ s.size ≤ 20 ∧ ∀ j, i ≤ j → j < s.size → (letterB (bt s (j : Nat)) = true ∨ (j ≠ 0 ∧ digitB (bt s (j : Nat)) = true)))) := by
  induction d with
  | zero =>
    intro i hd hi
    refine ⟨decide (1 ≤ s.size ∧ s.size ≤ 20), Ev.step (fun k => ?_) (Ev.now _), ?_⟩
    · simp only [impl_GoodName.l0]; rw [if_neg (by omega)]
      unfold impl_inRange.f
      by_cases h : (1 : Int) ≤ s.size
      · rw [if_pos h]; simp only [Option.bind_some, Option.some.injEq, decide_eq_decide]; omega
      · rw [if_neg h, decide_eq_false (p := 1 ≤ s.size ∧ s.size ≤ 20) (by omega)]; rfl
    · simp only [decide_eq_true_eq]
      exact ⟨fun h => ⟨h.1, h.2, fun j h1 h2 => by omega⟩, fun h => ⟨h.1, h.2.1⟩⟩
  | succ d ih =>
    intro i hd hi
    obtain ⟨b, hb, hiff⟩ := ih (i + 1) (by omega) (by omega)
    have hw : wrap64 ((i : Int) + 1) = ((i + 1 : Nat) : Int) := by rw [wrap_small (by omega) (by omega)]; omega
    have yes (hok : letterB (bt s (i : Nat)) = true ∨ (i ≠ 0 ∧ digitB (bt s (i : Nat)) = true)) : (b = true ↔ (1 ≤ s.size ∧ s.size ≤ 20 ∧ ∀ j, i ≤ j → j < s.size → (letterB (bt s (j : Nat)) = true ∨ (j ≠ 0 ∧ digitB (bt s (j : Nat)) = true)))) := by
      refine hiff.trans ⟨fun h => ⟨h.1, h.2.1, fun j h1 h2 => ?_⟩, fun h => ⟨h.1, h.2.1, fun j h1 h2 => h.2.2 j (by omega) h2⟩⟩
      by_cases e : j = i
      · subst e; exact hok
      · exact h.2.2 j (by omega) h2
    have no (hok : ¬ (letterB (bt s (i : Nat)) = true ∨ (i ≠ 0 ∧ digitB (bt s (i : Nat)) = true))) : (false = true ↔ (1 ≤ s.size ∧ s.size ≤ 20 ∧ ∀ j, i ≤ j → j < s.size → (letterB (bt s (j : Nat)) = true ∨ (j ≠ 0 ∧ digitB (bt s (j : Nat)) = true)))) :=
      ⟨fun h => (Bool.false_ne_true h).elim, fun h => absurd (h.2.2 i (Nat.le_refl _) (by omega)) hok⟩
    have step (k : Nat) : impl_GoodName.l0 (k + 1) s s.size i = (impl_isLetter.f (bt s i)).bind fun t105 => (if t105 = true then (impl_GoodName.l0 k s s.size ((i + 1 : Nat) : Int)) else (if (bt s i) = 95 then (impl_GoodName.l0 k s s.size ((i + 1 : Nat) : Int)) else (if (i : Int) = 0 then (some false) else ((impl_isDigit.f (bt s i)).bind fun t106 => (if t106 = true then (impl_GoodName.l0 k s s.size ((i + 1 : Nat) : Int)) else (some false)))))) := by
      simp only [impl_GoodName.l0]; rw [if_pos (by omega), if_pos (by omega), if_pos (by omega), hw]
    by_cases hu : bt s (i : Nat) = 95
    · have hl : letterB (bt s (i : Nat)) = true := by unfold letterB; simp [hu]
      refine ⟨b, Ev.step (fun k => ?_) hb, yes (.inl hl)⟩
      rw [step, impl_letter]; simp [hu]
    · by_cases hl : letterB (bt s (i : Nat)) = true
      · refine ⟨b, Ev.step (fun k => ?_) hb, yes (.inl hl)⟩
        rw [step, impl_letter]; simp [hl, hu]
      · have hl' : letterB (bt s (i : Nat)) = false := by simpa using hl
        by_cases hi0 : i = 0
        · refine ⟨false, Ev.step (fun k => ?_) (Ev.now false), no (fun h => ?_)⟩
          · rw [step, impl_letter]; subst hi0; simp only [hl', Bool.false_and, Option.bind_some, Bool.false_eq_true, if_false, if_neg hu]; rfl
          · rcases h with h | ⟨h, _⟩
            · exact absurd h hl
            · exact h hi0
        · by_cases hg : digitB (bt s (i : Nat)) = true
          · refine ⟨b, Ev.step (fun k => ?_) hb, yes (.inr ⟨hi0, hg⟩)⟩
            rw [step, impl_letter, impl_digit]; simp only [hl', hg, Bool.false_and, Option.bind_some, Bool.false_eq_true, if_false, if_neg hu, if_true]; rw [if_neg (by omega)]
          · have hg' : digitB (bt s (i : Nat)) = false := by simpa using hg
            refine ⟨false, Ev.step (fun k => ?_) (Ev.now false), no (fun h => ?_)⟩
            · rw [step, impl_letter, impl_digit]; simp only [hl', hg', Bool.false_and, Option.bind_some, Bool.false_eq_true, if_false, if_neg hu]; rw [if_neg (by omega)]
            · rcases h with h | ⟨_, h⟩
              · exact absurd h hl
              · exact absurd h hg
theorem impl_name (s : ByteArray) (hs : s.size ≤ 140737488351232) : Ev (fun k => impl_GoodName.f k s) (nameB s) := by
  obtain ⟨b, hb, hiff⟩ := impl_name_loop s hs s.size 0 (by omega) (by omega)
  have : b = nameB s := by
    rw [Bool.eq_iff_iff, hiff]
    unfold nameB
    rw [decide_eq_true_eq]
    unfold NameOk
    simp only [Nat.zero_le, true_implies]
  rw [← this]
  exact hb
/-! #### fixed numbers -/
def fixB (a : Int) : Bool := inB a (-1099511627776) 1099511627776
theorem fixB_iff {a : Int} : fixB a = true ↔ -1099511627776 ≤ a ∧ a ≤ 1099511627776 := inB_iff
theorem spec_fix (a : Int) : spec_GoodFixed.f a = some (fixB a) := by unfold spec_GoodFixed.f; rw [spec_in]; rfl
theorem impl_fix (a : Int) : impl_GoodFixed.f a = some (fixB a) := by unfold impl_GoodFixed.f; rw [impl_in]; rfl
theorem impl_fixes_from (l : List Int) (hl : l.length ≤ 9223372036854775806) (d : Nat) : ∀ i : Nat, l.length - i = d → i ≤ l.length → Ev (fun k => impl_areFixed.l0 k l (l.length : Int) (i : Int)) ((l.drop i).all fixB) := by
  induction d with
  | zero =>
    intro i hd hi
    have e : l.drop i = [] := List.drop_eq_nil_of_le (by omega)
    have h1 : ¬ (i : Int) < (l.length : Int) := by omega
    rw [e]
    refine ev_succ ?_
    simp only [impl_areFixed.l0, if_neg h1]
    exact Ev.now _
  | succ d ih =>
    intro i hd hi
    have hlt : i < l.length := by omega
    have h1 : (i : Int) < (l.length : Int) := by omega
    have h2 : 0 ≤ (i : Int) := by omega
    have hs := succ_cast hlt hl
    rw [drop_cons hlt, List.all_cons]
    refine ev_succ ?_
    simp only [impl_areFixed.l0, if_pos h1, if_pos h2, impl_fix, rd_at hlt, hs, Option.bind_some]
    cases hb : fixB l[i] with
    | true =>
      simp only [if_true, Bool.true_and]
      exact ih (i + 1) (by omega) (by omega)
    | false =>
      simp only [Bool.false_eq_true, if_false, Bool.false_and]
      exact Ev.now _
theorem impl_fixes (l : List Int) (hl : l.length ≤ 9223372036854775806) : Ev (fun k => impl_areFixed.f k l) (l.all fixB) := by
  have := impl_fixes_from l hl l.length 0 (by omega) (by omega)
  rw [List.drop_zero] at this
  exact this
/-! #### products of 128 bits -/
theorem wu (n : Int) : IntKind.u64.wrap n = n % 18446744073709551616 := by simp [IntKind.wrap, IntKind.bits, IntKind.signed]
theorem wu_in {n : Int} (h0 : 0 ≤ n) (h1 : n < 18446744073709551616) : IntKind.u64.wrap n = n := by rw [wu]; omega
theorem wraps_u64 (n : Int) (h₀ : 0 ≤ n) (h₁ : n < 2 ^ 64) : IntKind.u64.wrap n = n := wu_in h₀ (by simpa using h₁)
theorem or_join {m y : Int} (h0 : 0 ≤ m) (h1 : m < 4294967296) (g0 : 0 ≤ y) (g1 : y < 4294967296) : Go.bits .or .u64 (m * 4294967296) y = m * 4294967296 + y := by
  exact Go.bits_join .u64 64 (by decide) wraps_u64 32 (m * 4294967296) y (by omega) (by omega) (by omega) g0 (by omega) (by omega)
theorem mul_lt32 {a b : Int} (a0 : 0 ≤ a) (a1 : a < 4294967296) (b0 : 0 ≤ b) (b1 : b < 4294967296) : 0 ≤ a * b ∧ a * b ≤ 18446744065119617025 :=
  ⟨Int.mul_nonneg a0 b0, Int.le_trans (Int.mul_le_mul (show a ≤ 4294967295 by omega) (show b ≤ 4294967295 by omega) b0 (by omega)) (by omega)⟩
theorem spec_times {a b : Int} (a0 : 0 ≤ a) (a1 : a < 18446744073709551616) (b0 : 0 ≤ b) (b1 : b < 18446744073709551616) : spec_l1Times.f a b = some (a * b / 18446744073709551616, a * b % 18446744073709551616) := by
  unfold spec_l1Times.f
  rw [tdiv_pos a0, tdiv_pos b0, tmod_pos a0, tmod_pos b0]
  obtain ⟨y, hy⟩ : ∃ y, a / 4294967296 = y := ⟨_, rfl⟩
  obtain ⟨x, hx⟩ : ∃ x, a % 4294967296 = x := ⟨_, rfl⟩
  obtain ⟨v, hv⟩ : ∃ v, b / 4294967296 = v := ⟨_, rfl⟩
  obtain ⟨u, hu⟩ : ∃ u, b % 4294967296 = u := ⟨_, rfl⟩
  rw [hy, hx, hv, hu]
  have y0 : 0 ≤ y ∧ y < 4294967296 := by omega
  have x0 : 0 ≤ x ∧ x < 4294967296 := by omega
  have v0 : 0 ≤ v ∧ v < 4294967296 := by omega
  have u0 : 0 ≤ u ∧ u < 4294967296 := by omega
  have ha : a = y * 4294967296 + x := by omega
  have hb : b = v * 4294967296 + u := by omega
  clear hy hx hv hu a0 a1 b0 b1
  have P := mul_lt32 y0.1 y0.2 v0.1 v0.2
  have Q := mul_lt32 y0.1 y0.2 u0.1 u0.2
  have R := mul_lt32 x0.1 x0.2 v0.1 v0.2
  have S := mul_lt32 x0.1 x0.2 u0.1 u0.2
  have E : a * b = (y * v) * 18446744073709551616 + (y * u) * 4294967296 + (x * v) * 4294967296 + x * u := by
    rw [ha, hb, Int.add_mul, Int.mul_add, Int.mul_add]
    have e1 : y * 4294967296 * (v * 4294967296) = (y * v) * 18446744073709551616 := by
      rw [Int.mul_assoc, Int.mul_left_comm 4294967296 v 4294967296, ← Int.mul_assoc]; rfl
    have e2 : y * 4294967296 * u = (y * u) * 4294967296 := by rw [Int.mul_assoc, Int.mul_comm 4294967296 u, ← Int.mul_assoc]
    have e3 : x * (v * 4294967296) = (x * v) * 4294967296 := by rw [← Int.mul_assoc]
    rw [e1, e2, e3]; omega
  rw [E, wu_in (n := y) (by omega) (by omega), wu_in (n := v) (by omega) (by omega)]
  clear E ha hb
  generalize y * v = p at *
  generalize y * u = q at *
  generalize x * v = r at *
  generalize x * u = s at *
  rw [wu_in (n := p) (by omega) (by omega), wu_in (n := q) (by omega) (by omega), wu_in (n := r) (by omega) (by omega), wu_in (n := s) (by omega) (by omega)]
  rw [tdiv_pos (a := s) (by omega), tmod_pos (a := s) (by omega), wu_in (n := s / 4294967296) (by omega) (by omega), wu_in (n := q + s / 4294967296) (by omega) (by omega)]
  rw [tdiv_pos (a := q + s / 4294967296) (by omega), tmod_pos (a := q + s / 4294967296) (by omega), wu_in (n := (q + s / 4294967296) / 4294967296) (by omega) (by omega), wu_in (n := r + (q + s / 4294967296) % 4294967296) (by omega) (by omega)]
  rw [tdiv_pos (a := r + (q + s / 4294967296) % 4294967296) (by omega), wu_in (n := (r + (q + s / 4294967296) % 4294967296) / 4294967296) (by omega) (by omega)]
  rw [wu_in (n := p + (q + s / 4294967296) / 4294967296) (by omega) (by omega), wu_in (n := p + (q + s / 4294967296) / 4294967296 + (r + (q + s / 4294967296) % 4294967296) / 4294967296) (by omega) (by omega)]
  rw [wu, show (r + (q + s / 4294967296) % 4294967296) * 4294967296 % 18446744073709551616 = (r + (q + s / 4294967296) % 4294967296) % 4294967296 * 4294967296 by omega, or_join (by omega) (by omega) (by omega) (by omega)]
  congr 1
  rw [Prod.mk.injEq]
  omega
theorem spec_less {a b c d : Int} (b0 : 0 ≤ b) (b1 : b < 18446744073709551616) (d0 : 0 ≤ d) (d1 : d < 18446744073709551616) : spec_l1Less.f a b c d = some (decide (a * 18446744073709551616 + b < c * 18446744073709551616 + d)) := by
  unfold spec_l1Less.f
  by_cases h : a < c
  · rw [if_pos h, decide_eq_true (by omega)]
  · rw [if_neg h]
    by_cases e : a = c
    · rw [if_pos e]; congr 1; rw [decide_eq_decide]; omega
    · rw [if_neg e, decide_eq_false (by omega)]
/-! #### a wide number divided, by halving; to the nearest -/
theorem spec_over_loop (h l b : Int) (hb : 0 < b) (hb1 : b < 18446744073709551616) (l0 : 0 ≤ l) (l1 : l < 18446744073709551616) (d : Nat) : ∀ lo hi : Int, 0 ≤ lo → lo ≤ (h * 18446744073709551616 + l) / b → lo ≤ hi → hi ≤ 4611686018427387904 → (hi - lo).toNat ≤ d →
    Ev (fun k => spec_l1Over.l0 k b lo hi h l) (if hi ≤ (h * 18446744073709551616 + l) / b then hi else (h * 18446744073709551616 + l) / b) := by
  induction d with
  | zero =>
    intro lo hi h0 h1 h2 h3 hd
    have e : lo = hi := by omega
    refine ev_succ ?_
    simp only [spec_l1Over.l0, if_neg (show ¬ lo < hi by omega)]
    rw [if_pos (by omega), e]
    exact Ev.now _
  | succ d ih =>
    intro lo hi h0 h1 h2 h3 hd
    by_cases hlt : lo < hi
    · have em : IntKind.u64.wrap (lo + (IntKind.u64.wrap (Int.tdiv (IntKind.u64.wrap ((IntKind.u64.wrap (hi - lo)) + 1)) 2))) = lo + (hi - lo + 1) / 2 := by
        rw [wu_in (n := hi - lo) (by omega) (by omega), wu_in (n := hi - lo + 1) (by omega) (by omega), tdiv_pos (by omega), wu_in (n := (hi - lo + 1) / 2) (by omega) (by omega), wu_in (by omega) (by omega)]
      have m0 : lo < lo + (hi - lo + 1) / 2 := by omega
      have m1 : lo + (hi - lo + 1) / 2 ≤ hi := by omega
      refine ev_succ ?_
      simp only [spec_l1Over.l0, if_pos hlt, em]
      generalize lo + (hi - lo + 1) / 2 = m at *
      have hm : m ≤ (h * 18446744073709551616 + l) / b ↔ m * b ≤ h * 18446744073709551616 + l := Int.le_ediv_iff_mul_le hb
      generalize (h * 18446744073709551616 + l) / b = r at *
      simp only [spec_times (a := m) (b := b) (by omega) (by omega) (by omega) hb1, Option.bind_some, spec_less (a := h) (b := l) (c := m * b / 18446744073709551616) (d := m * b % 18446744073709551616) l0 l1 (by omega) (by omega)]
      have eq : m * b / 18446744073709551616 * 18446744073709551616 + m * b % 18446744073709551616 = m * b := by omega
      rw [eq]
      by_cases c : h * 18446744073709551616 + l < m * b
      · simp only [decide_eq_true c, if_true, wu_in (n := m - 1) (by omega) (by omega)]
        have hx : ¬ m ≤ r := fun hh => by have := hm.1 hh; omega
        refine ev_val (ih lo (m - 1) h0 h1 (by omega) (by omega) (by omega)) ?_
        split <;> split <;> omega
      · simp only [decide_eq_false c, Bool.false_eq_true, if_false]
        have hx : m ≤ r := hm.2 (by omega)
        exact ih m hi (by omega) hx m1 h3 (by omega)
    · have e : lo = hi := by omega
      refine ev_succ ?_
      simp only [spec_l1Over.l0, if_neg hlt]
      rw [if_pos (by omega), e]
      exact Ev.now _
theorem spec_over {h l b most : Int} (hb : 0 < b) (hb1 : b < 18446744073709551616) (h0 : 0 ≤ h) (l0 : 0 ≤ l) (l1 : l < 18446744073709551616) (m0 : 0 ≤ most) (m1 : most ≤ 4611686018427387904) :
    Ev (fun k => spec_l1Over.f k h l b most) (if most ≤ (h * 18446744073709551616 + l) / b then most else (h * 18446744073709551616 + l) / b) := by
  unfold spec_l1Over.f
  exact spec_over_loop h l b hb hb1 l0 l1 most.toNat 0 most (by omega) (Int.ediv_nonneg (by omega) (by omega)) m0 m1 (by omega)
theorem spec_plus {h l b : Int} (h0 : 0 ≤ h) (h1 : h < 9223372036854775808) (l0 : 0 ≤ l) (l1 : l < 18446744073709551616) (b0 : 0 ≤ b) (b1 : b < 18446744073709551616) :
    spec_l1Plus.f h l b = some ((h * 18446744073709551616 + l + b) / 18446744073709551616, (h * 18446744073709551616 + l + b) % 18446744073709551616) := by
  unfold spec_l1Plus.f
  rw [wu, wu_in (n := h + 1) (by omega) (by omega)]
  by_cases c : (l + b) % 18446744073709551616 < l
  · rw [if_pos c]; congr 1; rw [Prod.mk.injEq]; omega
  · rw [if_neg c]; congr 1; rw [Prod.mk.injEq]; omega
theorem spec_sum {h l h' l' : Int} (h0 : 0 ≤ h) (h1 : h < 4611686018427387904) (l0 : 0 ≤ l) (l1 : l < 18446744073709551616) (g0 : 0 ≤ h') (g1 : h' < 4611686018427387904) (k0 : 0 ≤ l') (k1 : l' < 18446744073709551616) :
    spec_l1Sum.f h l h' l' = some ((h * 18446744073709551616 + l + (h' * 18446744073709551616 + l')) / 18446744073709551616, (h * 18446744073709551616 + l + (h' * 18446744073709551616 + l')) % 18446744073709551616) := by
  unfold spec_l1Sum.f
  rw [spec_plus h0 (by omega) l0 l1 k0 k1]
  simp only [Option.bind_some]
  rw [wu_in (by omega) (by omega)]
  congr 1; rw [Prod.mk.injEq]; omega
def cutV (a : Int) : Int := if a > 1099511627776 then 1099511627776 else if a < -1099511627776 then -1099511627776 else a
theorem spec_cut (a : Int) : spec_l1Cut.f a = some (cutV a) := by
  unfold spec_l1Cut.f cutV
  split
  · rfl
  · split <;> rfl
/-- Twice a number and b, less one below 0, by twice b: at most 2^42, and cut. -/
def nearV (neg : Bool) (t b : Int) : Int :=
  if neg = true then cutV (-(if 4398046511104 ≤ (2 * t + b - 1) / (2 * b) then 4398046511104 else (2 * t + b - 1) / (2 * b)))
  else cutV (if 4398046511104 ≤ (2 * t + b) / (2 * b) then 4398046511104 else (2 * t + b) / (2 * b))
theorem spec_near_j {b : Int} (b0 : 0 < b) (b1 : b < 4611686018427387904) (n : Int) (n0 : 0 ≤ n) (x : Bool) :
    Ev (fun k => spec_l1Near.j0 k x b (n / 18446744073709551616) (n % 18446744073709551616)) (if x = true then cutV (-(if 4398046511104 ≤ n / (2 * b) then 4398046511104 else n / (2 * b))) else cutV (if 4398046511104 ≤ n / (2 * b) then 4398046511104 else n / (2 * b))) := by
  have w2 : IntKind.u64.wrap (2 * b) = 2 * b := wu_in (by omega) (by omega)
  refine ev_succ ?_
  simp only [spec_l1Near.j0, w2]
  have hov := spec_over (h := n / 18446744073709551616) (l := n % 18446744073709551616) (b := 2 * b) (most := 4398046511104) (by omega) (by omega) (by omega) (by omega) (by omega) (by omega) (by omega)
  have en : n / 18446744073709551616 * 18446744073709551616 + n % 18446744073709551616 = n := by omega
  rw [en] at hov
  have q0 : 0 ≤ n / (2 * b) := Int.ediv_nonneg n0 (by omega)
  generalize n / (2 * b) = q at *
  have v0 : 0 ≤ (if 4398046511104 ≤ q then 4398046511104 else q) ∧ (if 4398046511104 ≤ q then 4398046511104 else q) ≤ 4398046511104 := by split <;> omega
  refine Ev.bind hov ?_
  generalize (if 4398046511104 ≤ q then 4398046511104 else q) = v at *
  rw [wrap_small (i := v) (by omega) (by omega), wrap_small (i := -v) (by omega) (by omega)]
  cases x with
  | true => simp only [if_true, spec_cut, Option.bind_some]; exact Ev.now _
  | false => simp only [Bool.false_eq_true, if_false, spec_cut, Option.bind_some]; exact Ev.now _
theorem twice_plus {t b : Int} : (t + t) / 18446744073709551616 * 18446744073709551616 + (t + t) % 18446744073709551616 + b = 2 * t + b := by omega
theorem near_dec {m : Int} (m0 : 0 < m) (m1 : m < 340282366920938463463374607431768211456) :
    (m % 18446744073709551616 = 0 → IntKind.u64.wrap (m / 18446744073709551616 - 1) = (m - 1) / 18446744073709551616) ∧ (m % 18446744073709551616 ≠ 0 → m / 18446744073709551616 = (m - 1) / 18446744073709551616) ∧ IntKind.u64.wrap (m % 18446744073709551616 - 1) = (m - 1) % 18446744073709551616 := by
  refine ⟨fun h => ?_, fun h => ?_, ?_⟩
  · rw [wu_in (by omega) (by omega)]; omega
  · omega
  · rw [wu]; omega
theorem spec_near {neg : Bool} {h l b : Int} (h0 : 0 ≤ h) (h1 : h < 2305843009213693952) (l0 : 0 ≤ l) (l1 : l < 18446744073709551616) (b0 : 0 < b) (b1 : b < 4611686018427387904) :
    Ev (fun k => spec_l1Near.f k neg h l b) (nearV neg (h * 18446744073709551616 + l) b) := by
  unfold spec_l1Near.f nearV
  have t0 : 0 ≤ h * 18446744073709551616 + l ∧ h * 18446744073709551616 + l < 42535295865117307932921825928971026432 := by omega
  simp only [spec_sum h0 (by omega) l0 l1 h0 (by omega) l0 l1, Option.bind_some]
  generalize h * 18446744073709551616 + l = t at *
  have hp := spec_plus (h := (t + t) / 18446744073709551616) (l := (t + t) % 18446744073709551616) (b := b) (by omega) (by omega) (by omega) (by omega) (by omega) (by omega)
  rw [twice_plus] at hp
  simp only [hp, Option.bind_some]
  cases neg with
  | false =>
    simp only [Bool.false_eq_true, if_false]
    have hk := spec_near_j b0 b1 (2 * t + b) (by omega) false
    simp only [Bool.false_eq_true, if_false] at hk
    exact hk
  | true =>
    simp only [if_true]
    have hk := spec_near_j b0 b1 (2 * t + b - 1) (by omega) true
    simp only [if_true] at hk
    obtain ⟨e1, e2, e3⟩ := near_dec (m := 2 * t + b) (by omega) (by omega)
    by_cases c : (2 * t + b) % 18446744073709551616 = 0
    · simp only [if_pos c, e1 c, e3]
      exact hk
    · simp only [if_neg c, e2 c, e3]
      exact hk
def absV (a : Int) : Int := if a < 0 then -a else a
theorem spec_abs {a : Int} (h0 : -9223372036854775807 ≤ a) (h1 : a ≤ 9223372036854775807) : spec_l1Abs.f a = some (absV a) := by
  unfold spec_l1Abs.f absV
  split
  · rw [wrap_small (by omega) (by omega)]
  · rfl
/-! #### the product of fixed numbers -/
theorem mul_near (a b : Int) :
    nearV ((decide (a < 0)) != (decide (b < 0))) (absV a * absV b) 65536 = impl_FixMul.g a b := by
  have e0 : absV a = impl_FixMul.abs a := rfl
  have e1 : absV b = impl_FixMul.abs b := rfl
  have a0 : 0 ≤ absV a := by unfold absV; split <;> omega
  have b0 : 0 ≤ absV b := by unfold absV; split <;> omega
  have t0 : 0 ≤ absV a * absV b := Int.mul_nonneg a0 b0
  unfold nearV impl_FixMul.g impl_FixMul.n
  rw [← e0, ← e1]
  generalize absV a * absV b = t at *
  cases (decide (a < 0)) != (decide (b < 0)) with
  | true =>
    simp only [if_true]
    unfold cutV mn
    repeat' split
    all_goals omega
  | false =>
    simp only [Bool.false_eq_true, if_false]
    unfold cutV mn
    repeat' split
    all_goals omega
/-- The product of two numbers as both sides say it. -/
def mulV (a b : Int) : Int := if (fixB a && fixB b) = true then impl_FixMul.g a b else 0
theorem spec_mul_j (a b : Int) (x : Bool) (hx : x = false → -1099511627776 ≤ a ∧ a ≤ 1099511627776 ∧ -1099511627776 ≤ b ∧ b ≤ 1099511627776) : Ev (fun k => spec_FixMul.j0 k a b x) (if x = true then 0 else impl_FixMul.g a b) := by
  refine ev_succ ?_
  cases x with
  | true => simp only [spec_FixMul.j0, if_true]; exact Ev.now _
  | false =>
    obtain ⟨a0, a1, b0, b1⟩ := hx rfl
    have c0 : 0 ≤ absV a ∧ absV a ≤ 1099511627776 := by unfold absV; split <;> omega
    have d0 : 0 ≤ absV b ∧ absV b ≤ 1099511627776 := by unfold absV; split <;> omega
    have t0 : 0 ≤ absV a * absV b := Int.mul_nonneg c0.1 d0.1
    have t1 : absV a * absV b ≤ 1099511627776 * 1099511627776 := Int.mul_le_mul c0.2 d0.2 d0.1 (by omega)
    simp only [spec_FixMul.j0, Bool.false_eq_true, if_false, spec_abs (a := a) (by omega) (by omega), spec_abs (a := b) (by omega) (by omega), Option.bind_some, wu_in (n := absV a) (by omega) (by omega), wu_in (n := absV b) (by omega) (by omega), spec_times (a := absV a) (b := absV b) (by omega) (by omega) (by omega) (by omega)]
    have hm := mul_near a b
    generalize absV a * absV b = t at *
    have hn := spec_near (neg := ((decide (a < 0)) != (decide (b < 0)))) (h := t / 18446744073709551616) (l := t % 18446744073709551616) (b := 65536) (by omega) (by omega) (by omega) (by omega) (by omega) (by omega)
    rw [show t / 18446744073709551616 * 18446744073709551616 + t % 18446744073709551616 = t by omega, hm] at hn
    exact Ev.bind hn (Ev.now _)
theorem spec_mul (a b : Int) : Ev (fun k => spec_FixMul.f k a b) (mulV a b) := by
  unfold spec_FixMul.f mulV
  simp only [spec_fix, Option.bind_some]
  cases hx : fixB a with
  | false =>
    simp only [Bool.false_eq_true, if_false, Bool.false_and]
    have h := spec_mul_j a b true (fun h => by cases h)
    simp only [if_true] at h
    exact h
  | true =>
    simp only [if_true, Bool.true_and]
    have ba := fixB_iff.1 hx
    have h := spec_mul_j a b (!fixB b) (fun h => by
      have bb := fixB_iff.1 (by simpa using h : fixB b = true)
      exact ⟨ba.1, ba.2, bb.1, bb.2⟩)
    cases hy : fixB b with
    | false => rw [hy] at h; simp only [Bool.not_false, if_true, Bool.false_eq_true, if_false] at h ⊢; exact h
    | true => rw [hy] at h; simp only [Bool.not_true, if_true, Bool.false_eq_true, if_false] at h ⊢; exact h
theorem impl_mul (a b : Int) : Ev (fun k => impl_FixMul.f k a b) (mulV a b) := by
  unfold impl_FixMul.f mulV
  have hl := impl_fixes [a, b] (by simp)
  simp only [List.all_cons, List.all_nil, Bool.and_true] at hl
  refine Ev.bind hl ?_
  cases hx : fixB a && fixB b with
  | false => simp only [Bool.false_eq_true, if_false]; exact Ev.now _
  | true =>
    have h2 := Bool.and_eq_true_iff.1 hx
    have ba := fixB_iff.1 h2.1
    have bb := fixB_iff.1 h2.2
    simp only [if_true, if_pos (show -1099511627776 ≤ a ∧ a ≤ 1099511627776 ∧ -1099511627776 ≤ b ∧ b ≤ 1099511627776 from ⟨ba.1, ba.2, bb.1, bb.2⟩)]
    exact Ev.now _
/-! #### choices: their copies, their equality, their size -/
def choOf (x : S96) : S97 := ⟨x.f0, x.f1, x.f2⟩
theorem ltc {i n : Nat} (h : i < n) : (i : Int) < (n : Int) := by omega
theorem lec {i n : Nat} (h : i ≤ n) : (i : Int) ≤ (n : Int) := by omega
theorem nnc (i : Nat) : (0 : Int) ≤ (i : Int) := by omega
theorem no_lt (n : Nat) : ¬ (n : Int) < (n : Int) := by omega
theorem rd96 {l : List S96} {i : Nat} (h : i < l.length) : rd_T96 l (i : Int) = l[i] := by simp [rd_T96, h]
theorem rd97 {l : List S97} {i : Nat} (h : i < l.length) : rd_T97 l (i : Int) = l[i] := by simp [rd_T97, h]
theorem to_ints (l : List Int) (h1 : l.length ≤ 17592186044416) : Ev (fun k => laws_toIntS.f k l) l := by
  unfold laws_toIntS.f
  simp only [if_pos (nnc l.length), toNat_cast, if_pos (show l.length ≤ 35184372088832 by omega)]
  have h := ev_map l 0 id (fun k x i => laws_toIntS.l0 k l x i) (fun _ x => some x) (fun i hi => Ev.now _) ?_ ?_
  · rw [List.map_id] at h; exact h
  · intro k x i hi hx
    simp only [laws_toIntS.l0, if_pos (ltc hi), if_pos (nnc i), Option.bind_some, if_pos (show (i : Int) < (x.length : Int) by omega), toNat_cast, rd_at hi, succ_cast hi (by omega)]
  · intro k x
    simp only [laws_toIntS.l0, if_neg (no_lt l.length)]
theorem eq_ints (l : List Int) (h1 : l.length ≤ 17592186044416) : Ev (fun k => laws_eqIntS.f k l l) true := by
  unfold laws_eqIntS.f
  simp only [if_true]
  refine ev_trues (n := l.length) (fun k i => laws_eqIntS.l0 k l l i) (fun _ _ => some true) (fun i hi => Ev.now _) ?_ ?_
  · intro k i hi
    simp only [laws_eqIntS.l0, if_pos (ltc hi), if_pos (nnc i), if_true, Option.bind_some, succ_cast hi (by omega)]
  · intro k
    simp only [laws_eqIntS.l0, if_neg (no_lt l.length)]
def Short96 (l : List S96) : Prop := l.length ≤ 2932031007403 ∧ ∀ x ∈ l, x.f1.length ≤ 17592186044416
def Short97 (l : List S97) : Prop := l.length ≤ 2932031007403 ∧ ∀ x ∈ l, x.f1.length ≤ 17592186044416
theorem to_chos (l : List S96) (hl : Short96 l) : Ev (fun k => laws_toChoiceS.f k l) (l.map choOf) := by
  have h1 := hl.1
  unfold laws_toChoiceS.f
  simp only [if_pos (nnc l.length), toNat_cast, if_pos (show l.length ≤ 5864062014805 by omega)]
  refine ev_map l z97 choOf (fun k x i => laws_toChoiceS.l0 k l x i) (fun k x => (laws_toIntS.f k x.f1).bind fun t => some (⟨x.f0, t, x.f2⟩ : S97)) (fun i hi => Ev.bind (to_ints _ (hl.2 _ (List.getElem_mem hi))) (Ev.now _)) ?_ ?_
  · intro k x i hi hx
    simp only [laws_toChoiceS.l0, if_pos (ltc hi), if_pos (nnc i), laws_toChoice.f, if_pos (show (i : Int) < (x.length : Int) by omega), rd96 hi, toNat_cast, succ_cast hi (by omega)]
    cases laws_toIntS.f k l[i].f1 <;> rfl
  · intro k x
    simp only [laws_toChoiceS.l0, if_neg (no_lt l.length)]
theorem eq_chos (l : List S97) (hl : Short97 l) : Ev (fun k => laws_eqChoiceS.f k l l) true := by
  have h1 := hl.1
  unfold laws_eqChoiceS.f
  simp only [if_true]
  refine ev_trues (n := l.length) (fun k i => laws_eqChoiceS.l0 k l l i) (fun k i => (laws_eqIntS.f k (rd_T97 l (i : Int)).f1 (rd_T97 l (i : Int)).f1).bind fun t => if t = true then some true else some false) (fun i hi => ?_) ?_ ?_
  · rw [rd97 hi]
    refine Ev.bind (eq_ints _ (hl.2 _ (List.getElem_mem hi))) ?_
    simp only [if_true]
    exact Ev.now _
  · intro k i hi
    simp only [laws_eqChoiceS.l0, if_pos (ltc hi), if_pos (nnc i), laws_eqChoice.f, if_true, succ_cast hi (by omega)]
  · intro k
    simp only [laws_eqChoiceS.l0, if_neg (no_lt l.length)]
theorem sz_chos (l : List S96) (h1 : l.length ≤ 2932031007403) (v : Int) : ∃ r, Ev (fun k => laws_szChoiceS.f k l v) r := by
  unfold laws_szChoiceS.f
  by_cases h : wrap64 (v - (l.length : Int)) < 0
  · simp only [if_pos h]; exact ⟨_, Ev.now _⟩
  · simp only [if_neg h]
    obtain ⟨r, hr, _⟩ := Ev_up (fun k (i : Nat) (s : Int) => laws_szChoiceS.l0 k l s (i : Int)) l.length (fun _ _ => True) (fun _ => True) (fun s _ => ⟨s, ev_succ (by simp only [laws_szChoiceS.l0, if_neg (no_lt l.length)]; exact Ev.now _), trivial⟩) (fun i s hi _ => by
      obtain ⟨t, ht⟩ : ∃ t, laws_szChoice.f l[i].f0 l[i].f1 l[i].f2 s = some t := by
        unfold laws_szChoice.f laws_szIntS.f
        repeat' (first | exact ⟨_, rfl⟩ | split | (simp only [Option.bind_some]; split))
      by_cases q : t < 0
      · left
        refine ⟨-1, ev_succ ?_, trivial⟩
        simp only [laws_szChoiceS.l0, if_pos (ltc hi), if_pos (nnc i), rd96 hi, ht, Option.bind_some, if_pos q]
        exact Ev.now _
      · right
        refine ⟨t, trivial, fun r hr => ev_succ ?_⟩
        simp only [laws_szChoiceS.l0, if_pos (ltc hi), if_pos (nnc i), rd96 hi, ht, Option.bind_some, if_neg q, succ_cast hi (by omega)]
        exact hr) l.length 0 (wrap64 (v - (l.length : Int))) (by omega) (by omega) trivial
    exact ⟨r, hr⟩
/-! #### the best of them -/
theorem ev_common {α : Type} (l : List α) (G : Nat → α → Option Bool) (p : α → Bool) (h : ∀ x ∈ l, Ev (fun k => G k x) (p x)) : Ev (fun k => anyO (G k) l) (l.any p) := by
  have key : ∃ n, ∀ k, n ≤ k → ∀ x ∈ l, G k x = some (p x) := by
    induction l with
    | nil => exact ⟨0, fun _ _ _ h => absurd h (by simp)⟩
    | cons y l ih =>
      obtain ⟨n, hn⟩ := ih (fun x hx => h x (List.mem_cons_of_mem _ hx))
      obtain ⟨m, hm⟩ := h y (List.mem_cons_self ..)
      refine ⟨max n m, fun k hk x hx => ?_⟩
      rcases List.mem_cons.1 hx with e | e
      · rw [e]; exact hm k (by omega)
      · exact hn k (by omega) x e
  obtain ⟨n, hn⟩ := key
  exact ⟨n, fun k hk => anyO_some p (hn k hk)⟩
def scoreB (a : Int) : Bool := inB a 0 65536
def choiceB (x : S97) : Bool := nameB x.f0 && (inB (x.f1.length : Int) 1 8 && (inB x.f2 (-65536) 65536 && x.f1.all scoreB))
def valueV (x : S97) : Int := wrap64 (x.f1.foldl mulV 65536 + x.f2)
def restV : List S97 → Nat → Int → Int → Int
  | [], _, b, _ => b
  | x :: xs, i, b, m => if i = 0 ∨ valueV x > m then restV xs (i + 1) (i : Int) (valueV x) else restV xs (i + 1) b m
def bestV (l : List S97) : Int × Bool := if inB (l.length : Int) 1 12 = true then (if l.all choiceB = true then (restV l 0 0 0, true) else (0, false)) else (0, false)
def Named97 (l : List S97) : Prop := ∀ x ∈ l, x.f0.size ≤ 140737488351232
def contS (k : Nat) (b m i : Int) (l : List S97) (n i' w c : Int) : Option (Int × Bool) := if i = 0 then (spec_BestChoice.l0 k i (wrap64 (w + c)) l n (wrap64 (i' + 1))) else (if (wrap64 (w + c)) > m then (spec_BestChoice.l0 k i (wrap64 (w + c)) l n (wrap64 (i' + 1))) else (spec_BestChoice.l0 k b m l n (wrap64 (i' + 1))))
theorem spec_scores (b m i : Int) (l : List S97) (n i' : Int) (s : List Int) (hs : s.length ≤ 17592186044416) (a : ByteArray) (s' : List Int) (c : Int) (V : Int × Bool) (d : Nat) : ∀ (j : Nat) (w : Int), s.length - j = d → j ≤ s.length → (if (s.drop j).all scoreB = true then Ev (fun k => contS k b m i l n i' ((s.drop j).foldl mulV w) c) V else V = (0, false)) → Ev (fun k => spec_BestChoice.l1 k b m i w l n i' s (s.length : Int) (j : Int) a s' c) V := by
  induction d with
  | zero =>
    intro j w hd hj hV
    obtain rfl : j = s.length := by omega
    rw [List.drop_length] at hV
    simp only [List.all_nil, if_true, List.foldl_nil] at hV
    refine ev_succ ?_
    simp only [spec_BestChoice.l1, if_neg (no_lt s.length)]
    exact hV
  | succ d ih =>
    intro j w hd hj hV
    have hlt : j < s.length := by omega
    rw [drop_cons hlt, List.all_cons, List.foldl_cons] at hV
    refine ev_succ ?_
    simp only [spec_BestChoice.l1, if_pos (ltc hlt), if_pos (nnc j), rd_at hlt, spec_in, Option.bind_some]
    cases hb : inB s[j] 0 65536 with
    | false =>
      have hq : scoreB s[j] = false := hb
      rw [hq] at hV
      simp only [Bool.false_and, Bool.false_eq_true, if_false] at hV ⊢
      subst hV
      exact Ev.now _
    | true =>
      have hq : scoreB s[j] = true := hb
      rw [hq, Bool.true_and] at hV
      simp only [if_true]
      refine Ev.bind (spec_mul w s[j]) ?_
      simp only [succ_cast hlt (by omega)]
      exact ih (j + 1) _ (by omega) (by omega) hV
def contI (k : Nat) (b m i : Int) (l : List S97) (n i' w c : Int) : Option (Int × Bool) := if b < 0 then (impl_BestChoice.l0 k i (wrap64 (w + c)) l n (wrap64 (i' + 1))) else (if (wrap64 (w + c)) > m then (impl_BestChoice.l0 k i (wrap64 (w + c)) l n (wrap64 (i' + 1))) else (impl_BestChoice.l0 k b m l n (wrap64 (i' + 1))))
theorem impl_scores (b m i : Int) (l : List S97) (n i' : Int) (s : List Int) (hs : s.length ≤ 17592186044416) (a : ByteArray) (s' : List Int) (c : Int) (V : Int × Bool) (d : Nat) : ∀ (j : Nat) (w : Int), s.length - j = d → j ≤ s.length → Ev (fun k => contI k b m i l n i' ((s.drop j).foldl mulV w) c) V → Ev (fun k => impl_BestChoice.l1 k b m i w l n i' s (s.length : Int) (j : Int) a s' c) V := by
  induction d with
  | zero =>
    intro j w hd hj hV
    obtain rfl : j = s.length := by omega
    rw [List.drop_length, List.foldl_nil] at hV
    refine ev_succ ?_
    simp only [impl_BestChoice.l1, if_neg (no_lt s.length)]
    exact hV
  | succ d ih =>
    intro j w hd hj hV
    have hlt : j < s.length := by omega
    rw [drop_cons hlt, List.foldl_cons] at hV
    refine ev_succ ?_
    simp only [impl_BestChoice.l1, if_pos (ltc hlt), if_pos (nnc j), rd_at hlt]
    refine Ev.bind (impl_mul w s[j]) ?_
    simp only [succ_cast hlt (by omega)]
    exact ih (j + 1) _ (by omega) (by omega) hV
theorem spec_from (l : List S97) (hl : Short97 l) (hn : Named97 l) (d : Nat) : ∀ (i : Nat) (b m : Int), l.length - i = d → i ≤ l.length → Ev (fun k => spec_BestChoice.l0 k b m l (l.length : Int) (i : Int)) (if (l.drop i).all choiceB = true then (restV (l.drop i) i b m, true) else (0, false)) := by
  have h1 := hl.1
  induction d with
  | zero =>
    intro i b m hd hi
    obtain rfl : i = l.length := by omega
    rw [List.drop_length]
    simp only [List.all_nil, if_true, restV]
    refine ev_succ ?_
    simp only [spec_BestChoice.l0, if_neg (no_lt l.length)]
    exact Ev.now _
  | succ d ih =>
    intro i b m hd hi
    have hlt : i < l.length := by omega
    have hm := List.getElem_mem hlt
    rw [drop_cons hlt, List.all_cons]
    generalize hV : (if (choiceB l[i] && (l.drop (i + 1)).all choiceB) = true then (restV (l[i] :: l.drop (i + 1)) i b m, true) else ((0 : Int), false)) = V
    refine ev_succ ?_
    simp only [spec_BestChoice.l0, if_pos (ltc hlt), if_pos (nnc i), rd97 hlt]
    refine Ev.bind (spec_name _ (hn _ hm)) ?_
    have bad : ∀ q : Bool, (q = true → choiceB l[i] = false) → (q = false → nameB l[i].f0 = true ∧ inB (l[i].f1.length : Int) 1 8 = true ∧ inB l[i].f2 (-65536) 65536 = true) → Ev (fun k => spec_BestChoice.j2 k b m (i : Int) l (l.length : Int) (i : Int) q l[i].f0 l[i].f1 l[i].f2) V := by
      intro q hq hg
      refine ev_succ ?_
      cases q with
      | true =>
        simp only [spec_BestChoice.j2, if_true]
        rw [hq rfl] at hV
        simp only [Bool.false_and, Bool.false_eq_true, if_false] at hV
        subst hV
        exact Ev.now _
      | false =>
        obtain ⟨g0, g1, g2⟩ := hg rfl
        simp only [spec_BestChoice.j2, Bool.false_eq_true, if_false]
        refine spec_scores b m i l _ i l[i].f1 (hl.2 _ hm) _ _ _ V l[i].f1.length 0 65536 (by omega) (by omega) ?_
        have hc : choiceB l[i] = l[i].f1.all scoreB := by unfold choiceB; rw [g0, g1, g2]; rfl
        rw [hc] at hV
        rw [List.drop_zero]
        cases hs : l[i].f1.all scoreB with
        | false =>
          rw [hs] at hV
          simp only [Bool.false_and, Bool.false_eq_true, if_false] at hV ⊢
          exact hV.symm
        | true =>
          rw [hs] at hV
          simp only [Bool.true_and, if_true] at hV ⊢
          unfold contS
          have e : wrap64 (l[i].f1.foldl mulV 65536 + l[i].f2) = valueV l[i] := rfl
          simp only [e, succ_cast hlt (by omega)]
          simp only [restV] at hV
          by_cases c0 : i = 0
          · rw [if_pos (Or.inl c0)] at hV
            simp only [if_pos (show ((i : Nat) : Int) = 0 by omega)]
            rw [← hV]
            exact ih (i + 1) _ _ (by omega) (by omega)
          · simp only [if_neg (show ¬ ((i : Nat) : Int) = 0 by omega)]
            by_cases c1 : valueV l[i] > m
            · rw [if_pos (Or.inr c1)] at hV
              simp only [if_pos c1]
              rw [← hV]
              exact ih (i + 1) _ _ (by omega) (by omega)
            · rw [if_neg (show ¬ (i = 0 ∨ valueV l[i] > m) from fun h => h.elim c0 c1)] at hV
              simp only [if_neg c1]
              rw [← hV]
              exact ih (i + 1) _ _ (by omega) (by omega)
    cases hb : nameB l[i].f0 with
    | false =>
      simp only [Bool.false_eq_true, if_false]
      exact bad true (fun _ => by unfold choiceB; rw [hb]; rfl) (fun h => by cases h)
    | true =>
      simp only [if_true]
      by_cases c1 : (l[i].f1.length : Int) < 1
      · simp only [if_pos c1]
        exact bad true (fun _ => by
          have : inB (l[i].f1.length : Int) 1 8 = false := by
            cases h : inB (l[i].f1.length : Int) 1 8 with
            | false => rfl
            | true => have := inB_iff.1 h; omega
          unfold choiceB; rw [this, Bool.false_and, Bool.and_false]) (fun h => by cases h)
      · simp only [if_neg c1]
        by_cases c2 : (l[i].f1.length : Int) > 8
        · simp only [if_pos c2]
          exact bad true (fun _ => by
            have : inB (l[i].f1.length : Int) 1 8 = false := by
              cases h : inB (l[i].f1.length : Int) 1 8 with
              | false => rfl
              | true => have := inB_iff.1 h; omega
            unfold choiceB; rw [this, Bool.false_and, Bool.and_false]) (fun h => by cases h)
        · simp only [if_neg c2, spec_in, Option.bind_some]
          exact bad _ (fun h => by
            have h' : inB l[i].f2 (-65536) 65536 = false := by simpa using h
            unfold choiceB; rw [h', Bool.false_and, Bool.and_false, Bool.and_false]) (fun h => ⟨hb, inB_iff.2 (by omega), by simpa using h⟩)
theorem spec_best (l : List S97) (hl : Short97 l) (hn : Named97 l) : Ev (fun k => spec_BestChoice.f k l) (bestV l) := by
  have go : ∀ q : Bool, q = !(inB (l.length : Int) 1 12) → Ev (fun k => spec_BestChoice.j0 k l q) (bestV l) := by
    intro q hq
    refine ev_succ ?_
    unfold bestV
    cases hb : inB (l.length : Int) 1 12 with
    | false =>
      rw [hb] at hq
      subst hq
      simp only [spec_BestChoice.j0, Bool.not_false, if_true, Bool.false_eq_true, if_false]
      exact Ev.now _
    | true =>
      rw [hb] at hq
      subst hq
      simp only [spec_BestChoice.j0, Bool.not_true, if_true, Bool.false_eq_true, if_false]
      exact spec_from l hl hn l.length 0 0 0 (by omega) (by omega)
  unfold spec_BestChoice.f
  by_cases c : (l.length : Int) < 1
  · simp only [if_pos c]
    exact go true (by
      cases h : inB (l.length : Int) 1 12 with
      | false => rfl
      | true => have := inB_iff.1 h; omega)
  · simp only [if_neg c]
    refine go _ ?_
    unfold inB
    by_cases c2 : (l.length : Int) > 12
    · rw [decide_eq_true c2, decide_eq_false (by omega)]; rfl
    · rw [decide_eq_false c2, decide_eq_true (by omega)]; rfl
theorem impl_from (l : List S97) (hl : Short97 l) (d : Nat) : ∀ (i : Nat) (b m : Int), l.length - i = d → i ≤ l.length → (b < 0 ↔ i = 0) → Ev (fun k => impl_BestChoice.l0 k b m l (l.length : Int) (i : Int)) (restV (l.drop i) i b m, true) := by
  have h1 := hl.1
  induction d with
  | zero =>
    intro i b m hd hi hb
    obtain rfl : i = l.length := by omega
    rw [List.drop_length]
    simp only [restV]
    refine ev_succ ?_
    simp only [impl_BestChoice.l0, if_neg (no_lt l.length)]
    exact Ev.now _
  | succ d ih =>
    intro i b m hd hi hb
    have hlt : i < l.length := by omega
    have hm := List.getElem_mem hlt
    rw [drop_cons hlt]
    refine ev_succ ?_
    simp only [impl_BestChoice.l0, if_pos (ltc hlt), if_pos (nnc i), rd97 hlt]
    refine impl_scores b m i l _ i l[i].f1 (hl.2 _ hm) _ _ _ _ l[i].f1.length 0 65536 (by omega) (by omega) ?_
    rw [List.drop_zero]
    unfold contI
    have e : wrap64 (l[i].f1.foldl mulV 65536 + l[i].f2) = valueV l[i] := rfl
    simp only [e, succ_cast hlt (by omega), restV]
    by_cases c0 : b < 0
    · rw [if_pos (Or.inl (hb.1 c0))]
      simp only [if_pos c0]
      exact ih (i + 1) _ _ (by omega) (by omega) (by omega)
    · simp only [if_neg c0]
      by_cases c1 : valueV l[i] > m
      · rw [if_pos (Or.inr c1)]
        simp only [if_pos c1]
        exact ih (i + 1) _ _ (by omega) (by omega) (by omega)
      · rw [if_neg (show ¬ (i = 0 ∨ valueV l[i] > m) from fun h => h.elim (fun h => c0 (hb.2 h)) c1)]
        simp only [if_neg c1]
        exact ih (i + 1) _ _ (by omega) (by omega) (by omega)
theorem impl_choice (x : S97) (hx : x.f0.size ≤ 140737488351232) : Ev (fun k => impl_isChoice.f k x.f0 x.f1 x.f2) (choiceB x) := by
  unfold impl_isChoice.f choiceB
  refine Ev.bind (impl_name _ hx) ?_
  have hc : slices_ContainsFunc_int_int.f x.f1 = some (x.f1.any fun a => !(scoreB a)) := anyO_some _ (fun a _ => by
    unfold slices_ContainsFunc_int_int.on impl_isChoice_1.f
    rw [impl_in]; rfl)
  simp only [impl_in, Option.bind_some, hc]
  cases nameB x.f0 with
  | false => simp only [Bool.false_eq_true, if_false, Bool.false_and]; exact Ev.now _
  | true =>
    simp only [if_true, Bool.true_and]
    cases inB (x.f1.length : Int) 1 8 with
    | false => simp only [Bool.false_eq_true, if_false, Bool.false_and]; exact Ev.now _
    | true =>
      simp only [if_true, Bool.true_and]
      cases inB x.f2 (-65536) 65536 with
      | false => simp only [Bool.false_eq_true, if_false, Bool.false_and]; exact Ev.now _
      | true =>
        simp only [if_true, Bool.true_and]
        have e : (!(x.f1.any fun a => !(scoreB a))) = x.f1.all scoreB := by
          rw [List.not_any_eq_all_not]; simp
        rw [e]
        exact Ev.now _
theorem impl_best (l : List S97) (hl : Short97 l) (hn : Named97 l) : Ev (fun k => impl_BestChoice.f k l) (bestV l) := by
  unfold impl_BestChoice.f bestV
  simp only [impl_in, Option.bind_some]
  cases hb : inB (l.length : Int) 1 12 with
  | false =>
    simp only [Bool.false_eq_true, if_false]
    refine ev_succ ?_
    simp only [impl_BestChoice.j0, if_true]
    exact Ev.now _
  | true =>
    simp only [if_true]
    have hc : Ev (fun k => impl_Choice.f k l) (l.any fun x => !(choiceB x)) := by
      unfold impl_Choice.f
      refine ev_common l (fun k x => impl_Choice.on k x) (fun x => !(choiceB x)) (fun x hx => ?_)
      unfold impl_Choice.on impl_BestChoice_1.f
      exact Ev.bind (impl_choice x (hn x hx)) (Ev.now _)
    refine Ev.bind hc ?_
    have e : (l.any fun x => !(choiceB x)) = !(l.all choiceB) := by
      rw [List.not_all_eq_any_not]
    rw [e]
    refine ev_succ ?_
    cases l.all choiceB with
    | false =>
      simp only [impl_BestChoice.j0, Bool.not_false, if_true, Bool.false_eq_true, if_false]
      exact Ev.now _
    | true =>
      simp only [impl_BestChoice.j0, Bool.not_true, if_true, Bool.false_eq_true, if_false]
      have h := impl_from l hl l.length 0 (-1) 0 (by omega) (by omega) (by omega)
      rw [List.drop_zero] at h
      have hi := (inB_iff.1 hb).1
      cases l with
      | nil => simp at hi
      | cons x xs =>
        simp only [restV, true_or, if_true] at h ⊢
        exact h
theorem FnExactBestChoice : laws_FnExactBestChoice_Pure := by
  intro l hl
  have h6 : Short96 l := ⟨by omega, fun x hx => by have := (hl.2.2 x hx).2.1; omega⟩
  have h7 : Short97 (l.map choOf) := by
    refine ⟨by rw [List.length_map]; exact h6.1, fun x hx => ?_⟩
    obtain ⟨y, hy, rfl⟩ := List.mem_map.1 hx
    exact h6.2 y hy
  have hs : Named97 (l.map choOf) := by
    intro x hx
    obtain ⟨y, hy, rfl⟩ := List.mem_map.1 hx
    exact (hl.2.2 y hy).1
  apply Ev.rounds (r := true)
  unfold laws_FnExactBestChoice.f
  obtain ⟨v, hv⟩ := sz_chos l h6.1 1048576
  refine Ev.bind hv ?_
  by_cases h : v < 0
  · simp only [if_pos h]
    exact Ev.now true
  · simp only [if_neg h]
    have hk := to_chos l h6
    refine Ev.bind hk (Ev.bind (spec_best _ h7 hs) (Ev.bind hk (Ev.bind (impl_best _ h7 hs) ?_)))
    simp only [bne_self_eq_false, if_true]
    refine ev_succ ?_
    simp only [laws_FnExactBestChoice.j0, Bool.false_eq_true, if_false]
    refine Ev.bind hk (Ev.bind (eq_chos _ h7) ?_)
    simp only [if_true]
    exact Ev.now true
end Go.Proofs.Ytmkmomcpbkogiaa.Pure
