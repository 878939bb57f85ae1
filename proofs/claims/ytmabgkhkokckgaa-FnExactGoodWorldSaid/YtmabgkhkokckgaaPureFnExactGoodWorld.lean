/- The program's GoodWorld and the reference's answer alike at every world. No condition. -/
import Derived.Test.YtmabgkhkokckgaaPFnExactGoodWorldx8
namespace Go.Proofs.Ytmabgkhkokckgaa.Pure
open Go.RowKit Go.Proofs.Ytmabgkhkokckgaa.PFnExactGoodWorld Go.Proofs.YtmabgkhkokckgaaW.PrintWords Go.Proofs.YtmabgkhkokckgaaW.PrintLast Go.Proofs.YtmabgkhkokckgaaW.PrintMore
set_option linter.unusedVariables false
set_option linter.unusedSimpArgs false
/-- What can be read as a datum of type 143. -/
def Good143 (x : S143) : Prop := ByteArray.size x.f0 ≤ 140737488351232 ∧ (Lit.int .i64 x.f1).wf = true ∧ (Lit.int .i64 x.f2).wf = true
/-- What can be read as a datum of type 119. -/
def Good119 (x : S119) : Prop := (Lit.int .i64 x.f0).wf = true ∧ (List.length x.f1 ≤ maxLen ∧ List.length x.f1 * 32 ≤ 140737488351232 ∧ ∀ y ∈ x.f1, Good143 y)
/-- The one pure statement. -/
def laws_FnExactGoodWorld_Pure : Prop := ∀ (a0_0 : Int) (a0_1 : Int) (l0_2 : (List S119)), (Lit.int .i64 a0_0).wf = true → (Lit.int .i64 a0_1).wf = true → (List.length l0_2 ≤ maxLen ∧ List.length l0_2 * 32 ≤ 140737488351232 ∧ ∀ y ∈ l0_2, Good119 y) → ∃ k, laws_FnExactGoodWorld.f k a0_0 a0_1 l0_2 = some true
/-! #### whole numbers: wraps, quotients towards nought -/
theorem wrap_small {i : Int} (h0 : -9223372036854775808 ≤ i) (h1 : i ≤ 9223372036854775807) : wrap64 i = i := by unfold wrap64; omega
theorem tdiv_pos {a b : Int} (ha : 0 ≤ a) : Int.tdiv a b = a / b := Int.tdiv_eq_ediv_of_nonneg ha
theorem tmod_pos {a b : Int} (ha : 0 ≤ a) : Int.tmod a b = a % b := Int.tmod_eq_emod_of_nonneg ha
theorem tdiv_neg' {a b : Int} (ha : a < 0) : Int.tdiv a b = -((-a) / b) := by
  rw [← Int.tdiv_eq_ediv_of_nonneg (a := -a) (by omega), Int.neg_tdiv, Int.neg_neg]
theorem tmod_neg' {a b : Int} (ha : a < 0) : Int.tmod a b = -((-a) % b) := by
  rw [← Int.tmod_eq_emod_of_nonneg (a := -a) (by omega), Int.neg_tmod, Int.neg_neg]
theorem wf64 {a : Int} (h : (Lit.int .i64 a).wf = true) : -9223372036854775808 ≤ a ∧ a ≤ 9223372036854775807 := by
  simp [Lit.wf, IntKind.min, IntKind.max, IntKind.signed, IntKind.bits] at h
  omega
theorem ev_succ {α : Type} {g : Nat → Option α} {r : α} (h : Ev (fun k => g (k + 1)) r) : Ev g r := Ev.step (f := fun k => g (k + 1)) (fun _ => rfl) h
theorem ev_eq {α : Type} {g : Nat → Option α} {r : α} (h : ∀ k, g k = some r) : Ev g r := ⟨0, fun k _ => h k⟩
theorem ev_val {α : Type} {g : Nat → Option α} {r r' : α} (h : Ev g r) (e : r = r') : Ev g r' := e ▸ h
/-! #### is a number in a span -/
def inB (a b c : Int) : Bool := decide (b ≤ a ∧ a ≤ c)
theorem inB_iff {a b c : Int} : inB a b c = true ↔ b ≤ a ∧ a ≤ c := by unfold inB; rw [decide_eq_true_eq]
theorem spec_in (a b c : Int) : spec_l1In.f a b c = some (inB a b c) := by
  unfold spec_l1In.f inB
  by_cases h : a ≥ b
  · rw [if_pos h]; congr 1; rw [decide_eq_decide]; omega
  · rw [if_neg h]; congr 1; exact (decide_eq_false (by omega)).symm
theorem impl_in (a b c : Int) : impl_inRange.f a b c = some (inB a b c) := by
  unfold impl_inRange.f inB
  by_cases h : b ≤ a
  · rw [if_pos h]; congr 1; rw [decide_eq_decide]; omega
  · rw [if_neg h]; congr 1; exact (decide_eq_false (by omega)).symm
/-! #### loops that go up, from a place on -/
theorem Ev_up {σ ρ : Type} (g : Nat → Nat → σ → Option ρ) (n : Nat) (Inv : Nat → σ → Prop) (Post : ρ → Prop)
    (hend : ∀ s, Inv n s → ∃ r, Ev (fun k => g k n s) r ∧ Post r)
    (hstep : ∀ i s, i < n → Inv i s → (∃ r, Ev (fun k => g k i s) r ∧ Post r) ∨ (∃ s', Inv (i + 1) s' ∧ ∀ r, Ev (fun k => g k (i + 1) s') r → Ev (fun k => g k i s) r))
    (d : Nat) : ∀ i s, n - i = d → i ≤ n → Inv i s → ∃ r, Ev (fun k => g k i s) r ∧ Post r := by
  induction d with
  | zero =>
    intro i s hd hi hs
    obtain rfl : i = n := by omega
    exact hend s hs
  | succ d ih =>
    intro i s hd hi hs
    rcases hstep i s (by omega) hs with h | ⟨s', hs', hg⟩
    · exact h
    · obtain ⟨r, hr, hp⟩ := ih (i + 1) s' (by omega) (by omega) hs'
      exact ⟨r, hg r hr, hp⟩
theorem succ_cast {i n : Nat} (h : i < n) (hn : n ≤ 9223372036854775806) : wrap64 ((i : Int) + 1) = ((i + 1 : Nat) : Int) := by
  rw [wrap_small (by omega) (by omega)]; omega
theorem drop_cons {α : Type} {l : List α} {i : Nat} (h : i < l.length) : l.drop i = l[i] :: l.drop (i + 1) := List.drop_eq_getElem_cons h
theorem rd_at {l : List Int} {i : Nat} (h : i < l.length) : rd l (i : Int) = l[i] := by simp [rd, h]
/-! #### loops that copy and loops that compare -/
theorem set_step {α β : Type} (g : α → β) (z : β) (l : List α) (i : Nat) (hi : i < l.length) : ((l.take i).map g ++ List.replicate (l.length - i) z).set i (g l[i]) = (l.take (i + 1)).map g ++ List.replicate (l.length - (i + 1)) z := by
  have e : l.length - i = (l.length - (i + 1)) + 1 := by omega
  have hl : ((l.take i).map g).length = i := by rw [List.length_map, List.length_take]; omega
  rw [e, List.replicate_succ, List.set_append_right _ _ (by omega), hl, Nat.sub_self, List.set_cons_zero, List.take_succ_eq_append_getElem hi, List.map_append, List.append_assoc]
  rfl
/-- A loop that sets each place of a fresh list. -/
theorem ev_map {α β : Type} (l : List α) (z : β) (g : α → β) (F : Nat → List β → Int → Option (List β)) (G : Nat → α → Option β) (hG : ∀ i (hi : i < l.length), Ev (fun k => G k l[i]) (g l[i]))
    (hstep : ∀ k (x : List β) (i : Nat) (hi : i < l.length), x.length = l.length → F (k + 1) x (i : Int) = (G k l[i]).bind fun v => F k (x.set i v) ((i + 1 : Nat) : Int))
    (hend : ∀ k (x : List β), F (k + 1) x (l.length : Int) = some x) : Ev (fun k => F k (List.replicate l.length z) 0) (l.map g) := by
  have main : ∀ d i, l.length - i = d → i ≤ l.length → Ev (fun k => F k ((l.take i).map g ++ List.replicate (l.length - i) z) (i : Int)) (l.map g) := by
    intro d
    induction d with
    | zero =>
      intro i hd hi
      obtain rfl : i = l.length := by omega
      refine ev_succ ?_
      simp only [hend, Nat.sub_self, List.replicate_zero, List.append_nil, List.take_length]
      exact Ev.now _
    | succ d ih =>
      intro i hd hi
      have hlt : i < l.length := by omega
      refine ev_succ ?_
      have hx : ((l.take i).map g ++ List.replicate (l.length - i) z).length = l.length := by
        rw [List.length_append, List.length_map, List.length_take, List.length_replicate]; omega
      simp only [hstep _ _ i hlt hx]
      refine Ev.bind (hG i hlt) ?_
      simp only [set_step g z l i hlt]
      exact ih (i + 1) (by omega) (by omega)
  have := main l.length 0 (by omega) (by omega)
  simp only [List.take_zero, List.map_nil, List.nil_append, Nat.sub_zero] at this
  exact this
/-- A loop that asks each place, and every place answers true. -/
theorem ev_trues {n : Nat} (F : Nat → Int → Option Bool) (G : Nat → Nat → Option Bool) (hG : ∀ i, i < n → Ev (fun k => G k i) true)
    (hstep : ∀ k (i : Nat), i < n → F (k + 1) (i : Int) = (G k i).bind fun t => if t = true then F k ((i + 1 : Nat) : Int) else some false)
    (hend : ∀ k, F (k + 1) (n : Int) = some true) : Ev (fun k => F k 0) true := by
  have main : ∀ d i, n - i = d → i ≤ n → Ev (fun k => F k (i : Int)) true := by
    intro d
    induction d with
    | zero =>
      intro i hd hi
      obtain rfl : i = n := by omega
      refine ev_succ ?_
      simp only [hend]
      exact Ev.now _
    | succ d ih =>
      intro i hd hi
      refine ev_succ ?_
      simp only [hstep _ i (show i < n by omega)]
      refine Ev.bind (hG i (by omega)) ?_
      simp only [if_true]
      exact ih (i + 1) (by omega) (by omega)
  exact main n 0 (by omega) (by omega)
theorem toNat_cast (i : Nat) : ((i : Int)).toNat = i := Int.toNat_natCast i
/-! #### names -/
/-- one byte of a name: a letter or an underscore -/
def letterB (c : Int) : Bool := decide (97 ≤ c ∧ c ≤ 122) || decide (65 ≤ c ∧ c ≤ 90) || decide (c = 95)
def digitB (c : Int) : Bool := decide (48 ≤ c ∧ c ≤ 57)
/-- what a good name is -/
def NameOk (s : ByteArray) : Prop := 1 ≤ s.size ∧ s.size ≤ 20 ∧ ∀ j, j < s.size → (letterB (bt s (j : Nat)) = true ∨ (j ≠ 0 ∧ digitB (bt s (j : Nat)) = true))
instance (s : ByteArray) : Decidable (NameOk s) := by unfold NameOk; infer_instance
def nameB (s : ByteArray) : Bool := decide (NameOk s)
theorem spec_digit (c : Int) : spec_l1Digit.f c = some (digitB c) := by
  unfold spec_l1Digit.f digitB
  by_cases h : c ≥ 48
  · rw [if_pos h]; congr 1; simp; omega
  · rw [if_neg h]; congr 1; simp; omega
theorem spec_letter (c : Int) : spec_l1Letter.f c = some (letterB c) := by
  unfold spec_l1Letter.f letterB
  repeat' split
  all_goals (congr 1; rw [Bool.eq_iff_iff]; simp; try omega)
theorem impl_digit (c : Int) : impl_isDigit.f c = some (digitB c) := by
  unfold impl_isDigit.f digitB
  by_cases h : c ≥ 48
  · rw [if_pos h]; congr 1; simp; omega
  · rw [if_neg h]; congr 1; simp; omega
theorem impl_letter (c : Int) : impl_isLetter.f c = some (letterB c && decide (c ≠ 95)) := by
  unfold impl_isLetter.f letterB
  repeat' split
  all_goals (congr 1; rw [Bool.eq_iff_iff]; simp; try omega)
theorem spec_name_loop (s : ByteArray) (hs : s.size ≤ 140737488351232) (h0 : digitB (bt s 0) = false) (d : Nat) : ∀ i : Nat, s.size - i = d → i ≤ s.size →
    ∃ b, Ev (fun k => spec_GoodName.l0 k s i) b ∧ (b = true ↔ ∀ j, i ≤ j → j < s.size → (letterB (bt s (j : Nat)) = true ∨ (j ≠ 0 ∧ digitB (bt s (j : Nat)) = true))) := by
  induction d with
  | zero =>
    intro i hd hi
    refine ⟨true, Ev.step (fun k => by simp only [spec_GoodName.l0]; rw [if_neg (by omega)]) (Ev.now true), ⟨fun _ j h1 h2 => by omega, fun _ => rfl⟩⟩
  | succ d ih =>
    intro i hd hi
    obtain ⟨b, hb, hiff⟩ := ih (i + 1) (by omega) (by omega)
    have hw : wrap64 ((i : Int) + 1) = ((i + 1 : Nat) : Int) := by rw [wrap_small (by omega) (by omega)]; omega
    by_cases hl : letterB (bt s (i : Nat)) = true
    · refine ⟨b, Ev.step (fun k => by simp only [spec_GoodName.l0]; rw [if_pos (by omega), if_pos (by omega), spec_letter, hl, hw]; simp only [Option.bind_some, if_true]) hb, hiff.trans ⟨fun h j h1 h2 => ?_, fun h j h1 h2 => h j (by omega) h2⟩⟩
      by_cases e : j = i
      · subst e; exact .inl hl
      · exact h j (by omega) h2
    · have hl' : letterB (bt s (i : Nat)) = false := by simpa using hl
      by_cases hg : digitB (bt s (i : Nat)) = true
      · have hi0 : i ≠ 0 := by
          rintro rfl
          rw [show ((0 : Nat) : Int) = 0 from rfl, h0] at hg
          cases hg
        refine ⟨b, Ev.step (fun k => by simp only [spec_GoodName.l0]; rw [if_pos (by omega), if_pos (by omega), spec_letter, hl', spec_digit, hg, hw]; simp only [Option.bind_some, if_true, Bool.false_eq_true, if_false]) hb, hiff.trans ⟨fun h j h1 h2 => ?_, fun h j h1 h2 => h j (by omega) h2⟩⟩
        by_cases e : j = i
        · subst e; exact .inr ⟨hi0, hg⟩
        · exact h j (by omega) h2
      · have hg' : digitB (bt s (i : Nat)) = false := by simpa using hg
        refine ⟨false, Ev.step (fun k => by simp only [spec_GoodName.l0]; rw [if_pos (by omega), if_pos (by omega), spec_letter, hl', spec_digit, hg']; simp only [Option.bind_some, Bool.false_eq_true, if_false]) (Ev.now false), ⟨fun h => (Bool.false_ne_true h).elim, fun h => ?_⟩⟩
        rcases h i (Nat.le_refl _) (by omega) with h | ⟨_, h⟩
        · exact absurd h hl
        · exact absurd h hg
theorem spec_name (s : ByteArray) (hs : s.size ≤ 140737488351232) : Ev (fun k => spec_GoodName.f k s) (nameB s) := by
  unfold spec_GoodName.f nameB
  by_cases h1 : (s.size : Int) < 1
  · have : decide (NameOk s) = false := decide_eq_false (by unfold NameOk; omega)
    simp only [if_pos h1, this]
    exact Ev.step (fun k => by simp only [spec_GoodName.j0, if_true]) (Ev.now false)
  · by_cases h2 : (s.size : Int) > 20
    · have : decide (NameOk s) = false := decide_eq_false (by unfold NameOk; omega)
      simp only [if_neg h1, if_pos h2, this]
      exact Ev.step (fun k => by simp only [spec_GoodName.j0, if_true]) (Ev.now false)
    · simp only [if_neg h1, if_neg h2, if_pos (show 0 < (s.size : Int) by omega), spec_digit, Option.bind_some]
      by_cases hd : digitB (bt s 0) = true
      · have : decide (NameOk s) = false := decide_eq_false (fun hn => by
          rcases hn.2.2 0 (by omega) with h | ⟨h, _⟩
          · rw [show ((0 : Nat) : Int) = 0 from rfl] at h
            revert hd h
            unfold digitB letterB
            simp
            omega
          · exact h rfl)
        simp only [hd, this]
        exact Ev.step (fun k => by simp only [spec_GoodName.j0, if_true]) (Ev.now false)
      · have hd' : digitB (bt s 0) = false := by simpa using hd
        obtain ⟨b, hb, hiff⟩ := spec_name_loop s hs hd' s.size 0 (by omega) (by omega)
        have : b = decide (NameOk s) := by
          rw [Bool.eq_iff_iff, hiff]
          simp only [decide_eq_true_eq]
          exact ⟨fun h => ⟨by omega, by omega, fun j hj => h j (Nat.zero_le _) hj⟩, fun h j _ hj => h.2.2 j hj⟩
        rw [← this]
        simp only [hd']
        exact Ev.step (fun k => by simp only [spec_GoodName.j0, Bool.false_eq_true, if_false]; rfl) hb
theorem impl_name_loop (s : ByteArray) (hs : s.size ≤ 140737488351232) (d : Nat) : ∀ i : Nat, s.size - i = d → i ≤ s.size →
    ∃ b, Ev (fun k => impl_GoodName.l0 k s s.size i) b ∧ (b = true ↔ (1 ≤ s.size ∧ s.size ≤ 20 ∧ ∀ j, i ≤ j → j < s.size → (letterB (bt s (j : Nat)) = true ∨ (j ≠ 0 ∧ digitB (bt s (j : Nat)) = true)))) := by
  induction d with
  | zero =>
    intro i hd hi
    refine ⟨decide (1 ≤ s.size ∧ s.size ≤ 20), Ev.step (fun k => ?_) (Ev.now _), ?_⟩
    · simp only [impl_GoodName.l0]; rw [if_neg (by omega)]
      unfold impl_inRange.f
      by_cases h : (1 : Int) ≤ s.size
      · rw [if_pos h]; simp only [Option.bind_some, Option.some.injEq, decide_eq_decide]; omega
      · rw [if_neg h, decide_eq_false (p := 1 ≤ s.size ∧ s.size ≤ 20) (by omega)]; rfl
    · simp only [decide_eq_true_eq]
      exact ⟨fun h => ⟨h.1, h.2, fun j h1 h2 => by omega⟩, fun h => ⟨h.1, h.2.1⟩⟩
  | succ d ih =>
    intro i hd hi
    obtain ⟨b, hb, hiff⟩ := ih (i + 1) (by omega) (by omega)
    have hw : wrap64 ((i : Int) + 1) = ((i + 1 : Nat) : Int) := by rw [wrap_small (by omega) (by omega)]; omega
    have yes (hok : letterB (bt s (i : Nat)) = true ∨ (i ≠ 0 ∧ digitB (bt s (i : Nat)) = true)) : (b = true ↔ (1 ≤ s.size ∧ s.size ≤ 20 ∧ ∀ j, i ≤ j → j < s.size → (letterB (bt s (j : Nat)) = true ∨ (j ≠ 0 ∧ digitB (bt s (j : Nat)) = true)))) := by
      refine hiff.trans ⟨fun h => ⟨h.1, h.2.1, fun j h1 h2 => ?_⟩, fun h => ⟨h.1, h.2.1, fun j h1 h2 => h.2.2 j (by omega) h2⟩⟩
      by_cases e : j = i
      · subst e; exact hok
      · exact h.2.2 j (by omega) h2
    have no (hok : ¬ (letterB (bt s (i : Nat)) = true ∨ (i ≠ 0 ∧ digitB (bt s (i : Nat)) = true))) : (false = true ↔ (1 ≤ s.size ∧ s.size ≤ 20 ∧ ∀ j, i ≤ j → j < s.size → (letterB (bt s (j : Nat)) = true ∨ (j ≠ 0 ∧ digitB (bt s (j : Nat)) = true)))) :=
      ⟨fun h => (Bool.false_ne_true h).elim, fun h => absurd (h.2.2 i (Nat.le_refl _) (by omega)) hok⟩
    have step (k : Nat) : impl_GoodName.l0 (k + 1) s s.size i = (impl_isLetter.f (bt s i)).bind fun t105 => (if t105 = true then (impl_GoodName.l0 k s s.size ((i + 1 : Nat) : Int)) else (if (bt s i) = 95 then (impl_GoodName.l0 k s s.size ((i + 1 : Nat) : Int)) else (if (i : Int) = 0 then (some false) else ((impl_isDigit.f (bt s i)).bind fun t106 => (if t106 = true then (impl_GoodName.l0 k s s.size ((i + 1 : Nat) : Int)) else (some false)))))) := by
      simp only [impl_GoodName.l0]; rw [if_pos (by omega), if_pos (by omega), if_pos (by omega), hw]
    by_cases hu : bt s (i : Nat) = 95
    · have hl : letterB (bt s (i : Nat)) = true := by unfold letterB; simp [hu]
      refine ⟨b, Ev.step (fun k => ?_) hb, yes (.inl hl)⟩
      rw [step, impl_letter]; simp [hu]
    · by_cases hl : letterB (bt s (i : Nat)) = true
      · refine ⟨b, Ev.step (fun k => ?_) hb, yes (.inl hl)⟩
        rw [step, impl_letter]; simp [hl, hu]
      · have hl' : letterB (bt s (i : Nat)) = false := by simpa using hl
        by_cases hi0 : i = 0
        · refine ⟨false, Ev.step (fun k => ?_) (Ev.now false), no (fun h => ?_)⟩
          · rw [step, impl_letter]; subst hi0; simp only [hl', Bool.false_and, Option.bind_some, Bool.false_eq_true, if_false, if_neg hu]; rfl
          · rcases h with h | ⟨h, _⟩
            · exact absurd h hl
            · exact h hi0
        · by_cases hg : digitB (bt s (i : Nat)) = true
          · refine ⟨b, Ev.step (fun k => ?_) hb, yes (.inr ⟨hi0, hg⟩)⟩
            rw [step, impl_letter, impl_digit]; simp only [hl', hg, Bool.false_and, Option.bind_some, Bool.false_eq_true, if_false, if_neg hu, if_true]; rw [if_neg (by omega)]
          · have hg' : digitB (bt s (i : Nat)) = false := by simpa using hg
            refine ⟨false, Ev.step (fun k => ?_) (Ev.now false), no (fun h => ?_)⟩
            · rw [step, impl_letter, impl_digit]; simp only [hl', hg', Bool.false_and, Option.bind_some, Bool.false_eq_true, if_false, if_neg hu]; rw [if_neg (by omega)]
            · rcases h with h | ⟨_, h⟩
              · exact absurd h hl
              · exact absurd h hg
theorem impl_name (s : ByteArray) (hs : s.size ≤ 140737488351232) : Ev (fun k => impl_GoodName.f k s) (nameB s) := by
  obtain ⟨b, hb, hiff⟩ := impl_name_loop s hs s.size 0 (by omega) (by omega)
  have : b = nameB s := by
    rw [Bool.eq_iff_iff, hiff]
    unfold nameB
    rw [decide_eq_true_eq]
    unfold NameOk
    simp only [Nat.zero_le, true_implies]
  rw [← this]
  exact hb
/-! #### worlds: their copies, their equality, their size -/
def partOf (x : S143) : S95 := ⟨x.f0, x.f1, x.f2⟩
def entOf (x : S119) : S93 := ⟨x.f0, x.f1.map partOf⟩
theorem rd143 {l : List S143} {i : Nat} (h : i < l.length) : rd_T143 l (i : Int) = l[i] := by simp [rd_T143, h]
theorem rd95 {l : List S95} {i : Nat} (h : i < l.length) : rd_T95 l (i : Int) = l[i] := by simp [rd_T95, h]
theorem rd119 {l : List S119} {i : Nat} (h : i < l.length) : rd_T119 l (i : Int) = l[i] := by simp [rd_T119, h]
theorem rd93 {l : List S93} {i : Nat} (h : i < l.length) : rd_T93 l (i : Int) = l[i] := by simp [rd_T93, h]
theorem to_parts (l : List S143) (hl : l.length ≤ 4398046511104) : Ev (fun k => laws_toPartS.f k l) (l.map partOf) := by
  unfold laws_toPartS.f
  simp only [if_pos (show (0 : Int) ≤ (l.length : Int) by omega), toNat_cast, if_pos (show l.length ≤ 8796093022208 by omega)]
  refine ev_map l z95 partOf (fun k x i => laws_toPartS.l0 k l x i) (fun _ x => some (partOf x)) (fun _ _ => Ev.now _) ?_ ?_
  · intro k x i hi hx
    simp only [laws_toPartS.l0, if_pos (show (i : Int) < (l.length : Int) by omega), if_pos (show (0 : Int) ≤ (i : Int) by omega), laws_toPart.f, Option.bind_some, if_pos (show (i : Int) < (x.length : Int) by omega), rd143 hi, toNat_cast, succ_cast hi (by omega)]
    rfl
  · intro k x
    simp only [laws_toPartS.l0, if_neg (show ¬ (l.length : Int) < (l.length : Int) by omega)]
theorem to_ents (l : List S119) (hl : l.length ≤ 4398046511104) (hp : ∀ x ∈ l, x.f1.length ≤ 4398046511104) : Ev (fun k => laws_toEntityS.f k l) (l.map entOf) := by
  unfold laws_toEntityS.f
  simp only [if_pos (show (0 : Int) ≤ (l.length : Int) by omega), toNat_cast, if_pos (show l.length ≤ 8796093022208 by omega)]
  refine ev_map l z93 entOf (fun k x i => laws_toEntityS.l0 k l x i) (fun k x => (laws_toPartS.f k x.f1).bind fun t => some (⟨x.f0, t⟩ : S93)) (fun i hi => Ev.bind (to_parts _ (hp _ (List.getElem_mem hi))) (Ev.now _)) ?_ ?_
  · intro k x i hi hx
    simp only [laws_toEntityS.l0, if_pos (show (i : Int) < (l.length : Int) by omega), if_pos (show (0 : Int) ≤ (i : Int) by omega), laws_toEntity.f, if_pos (show (i : Int) < (x.length : Int) by omega), rd119 hi, toNat_cast, succ_cast hi (by omega)]
    cases laws_toPartS.f k l[i].f1 <;> rfl
  · intro k x
    simp only [laws_toEntityS.l0, if_neg (show ¬ (l.length : Int) < (l.length : Int) by omega)]
theorem eq_parts (l : List S95) (hl : l.length ≤ 4398046511104) : Ev (fun k => laws_eqPartS.f k l l) true := by
  unfold laws_eqPartS.f
  simp only [if_true]
  refine ev_trues (n := l.length) (fun k i => laws_eqPartS.l0 k l l i) (fun _ _ => some true) (fun _ _ => Ev.now _) ?_ ?_
  · intro k i hi
    simp only [laws_eqPartS.l0, if_pos (show (i : Int) < (l.length : Int) by omega), if_pos (show (0 : Int) ≤ (i : Int) by omega), laws_eqPart.f, if_true, Option.bind_some, rd95 hi, succ_cast hi (by omega)]
  · intro k
    simp only [laws_eqPartS.l0, if_neg (show ¬ (l.length : Int) < (l.length : Int) by omega)]
theorem eq_ents (l : List S93) (hl : l.length ≤ 4398046511104) (hp : ∀ x ∈ l, x.f1.length ≤ 4398046511104) : Ev (fun k => laws_eqEntityS.f k l l) true := by
  unfold laws_eqEntityS.f
  simp only [if_true]
  refine ev_trues (n := l.length) (fun k i => laws_eqEntityS.l0 k l l i) (fun k i => (laws_eqPartS.f k (rd_T93 l (i : Int)).f1 (rd_T93 l (i : Int)).f1).bind fun t => if t = true then some true else some false) (fun i hi => ?_) ?_ ?_
  · rw [rd93 hi]
    refine Ev.bind (eq_parts _ (hp _ (List.getElem_mem hi))) ?_
    simp only [if_true]
    exact Ev.now _
  · intro k i hi
    simp only [laws_eqEntityS.l0, if_pos (show (i : Int) < (l.length : Int) by omega), if_pos (show (0 : Int) ≤ (i : Int) by omega), laws_eqEntity.f, if_true, succ_cast hi (by omega)]
  · intro k
    simp only [laws_eqEntityS.l0, if_neg (show ¬ (l.length : Int) < (l.length : Int) by omega)]
theorem eq_world (a b : Int) (l : List S93) (hl : l.length ≤ 4398046511104) (hp : ∀ x ∈ l, x.f1.length ≤ 4398046511104) : Ev (fun k => laws_eqWorld.f k a b l a b l) true := by
  unfold laws_eqWorld.f
  simp only [if_true]
  refine Ev.bind (eq_ents l hl hp) ?_
  simp only [if_true]
  exact Ev.now _
theorem sz_parts_from (l : List S143) (hl : l.length ≤ 4398046511104) (d : Nat) : ∀ (i : Nat) (m : Int), l.length - i = d → i ≤ l.length → ∃ v, Ev (fun k => laws_szPartS.l0 k l m (i : Int)) v := by
  induction d with
  | zero =>
    intro i m hd hi
    refine ⟨m, ev_succ ?_⟩
    simp only [laws_szPartS.l0, if_neg (show ¬ (i : Int) < (l.length : Int) by omega)]
    exact Ev.now _
  | succ d ih =>
    intro i m hd hi
    have hlt : i < l.length := by omega
    obtain ⟨t, ht⟩ : ∃ t, laws_szPart.f l[i].f0 l[i].f1 l[i].f2 m = some t := by
      unfold laws_szPart.f
      split
      · exact ⟨_, rfl⟩
      · exact ⟨_, rfl⟩
    by_cases c : t < 0
    · refine ⟨-1, ev_succ ?_⟩
      simp only [laws_szPartS.l0, if_pos (show (i : Int) < (l.length : Int) by omega), if_pos (show (0 : Int) ≤ (i : Int) by omega), rd143 hlt, ht, Option.bind_some, if_pos c]
      exact Ev.now _
    · obtain ⟨v, hv⟩ := ih (i + 1) t (by omega) (by omega)
      refine ⟨v, ev_succ ?_⟩
      simp only [laws_szPartS.l0, if_pos (show (i : Int) < (l.length : Int) by omega), if_pos (show (0 : Int) ≤ (i : Int) by omega), rd143 hlt, ht, Option.bind_some, if_neg c, succ_cast hlt (by omega)]
      exact hv
theorem sz_parts (l : List S143) (hl : l.length ≤ 4398046511104) (m : Int) : ∃ v, Ev (fun k => laws_szPartS.f k l m) v := by
  unfold laws_szPartS.f
  by_cases c : wrap64 (m - (l.length : Int)) < 0
  · simp only [if_pos c]; exact ⟨_, Ev.now _⟩
  · simp only [if_neg c]
    exact sz_parts_from l hl l.length 0 _ (by omega) (by omega)
theorem sz_ents_from (l : List S119) (hl : l.length ≤ 4398046511104) (hp : ∀ x ∈ l, x.f1.length ≤ 4398046511104) (d : Nat) : ∀ (i : Nat) (m : Int), l.length - i = d → i ≤ l.length → ∃ v, Ev (fun k => laws_szEntityS.l0 k l m (i : Int)) v := by
  induction d with
  | zero =>
    intro i m hd hi
    refine ⟨m, ev_succ ?_⟩
    simp only [laws_szEntityS.l0, if_neg (show ¬ (i : Int) < (l.length : Int) by omega)]
    exact Ev.now _
  | succ d ih =>
    intro i m hd hi
    have hlt : i < l.length := by omega
    obtain ⟨t, ht⟩ := sz_parts l[i].f1 (hp _ (List.getElem_mem hlt)) m
    by_cases c0 : t < 0
    · refine ⟨-1, ev_succ ?_⟩
      simp only [laws_szEntityS.l0, laws_szEntity.f, if_pos (show (i : Int) < (l.length : Int) by omega), if_pos (show (0 : Int) ≤ (i : Int) by omega), rd119 hlt]
      refine Ev.bind (Ev.bind ht (r := -1) ?_) ?_
      · simp only [if_pos c0]; exact Ev.now _
      · simp only [show (-1 : Int) < 0 from by decide, if_true]; exact Ev.now _
    · obtain ⟨v, hv⟩ := ih (i + 1) t (by omega) (by omega)
      refine ⟨v, ev_succ ?_⟩
      simp only [laws_szEntityS.l0, laws_szEntity.f, if_pos (show (i : Int) < (l.length : Int) by omega), if_pos (show (0 : Int) ≤ (i : Int) by omega), rd119 hlt, succ_cast hlt (by omega)]
      refine Ev.bind (Ev.bind ht (r := t) ?_) ?_
      · simp only [if_neg c0]; exact Ev.now _
      · simp only [if_neg c0]; exact hv
theorem sz_world (a b : Int) (l : List S119) (hl : l.length ≤ 4398046511104) (hp : ∀ x ∈ l, x.f1.length ≤ 4398046511104) (m : Int) : ∃ v, Ev (fun k => laws_szWorld.f k a b l m) v := by
  unfold laws_szWorld.f laws_szEntityS.f
  by_cases c : wrap64 (m - (l.length : Int)) < 0
  · refine ⟨-1, ?_⟩
    simp only [if_pos c, Option.bind_some, show (-1 : Int) < 0 from by decide, if_true]; exact Ev.now _
  · simp only [if_neg c]
    obtain ⟨t, ht⟩ := sz_ents_from l hl hp l.length 0 (wrap64 (m - (l.length : Int))) (by omega) (by omega)
    by_cases c0 : t < 0
    · refine ⟨-1, Ev.bind ht ?_⟩
      simp only [if_pos c0]; exact Ev.now _
    · refine ⟨t, Ev.bind ht ?_⟩
      simp only [if_neg c0]; exact Ev.now _
theorem to_world (a b : Int) (l : List S119) (hl : l.length ≤ 4398046511104) (hp : ∀ x ∈ l, x.f1.length ≤ 4398046511104) : Ev (fun k => laws_toWorld.f k a b l) (a, b, l.map entOf) := by
  unfold laws_toWorld.f
  exact Ev.bind (to_ents l hl hp) (Ev.now _)
/-! #### good worlds -/
theorem getP {l : List S95} {i : Nat} (h : i < l.length) : l.getD i z95 = l[i] := by simp [h]
theorem getE {l : List S93} {i : Nat} (h : i < l.length) : l.getD i z93 = l[i] := by simp [h]
def lessP (a b : S95) : Bool := Op.bytesLess a.f0.toList b.f0.toList
def okPart (t : Int) (l : List S95) (i : Nat) : Bool := nameB (l.getD i z95).f0 && (inB (l.getD i z95).f2 0 t && (decide (i = 0) || lessP (l.getD (i - 1) z95) (l.getD i z95)))
def partsFrom (t : Int) (l : List S95) : Nat → Nat → Bool
  | 0, _ => true
  | d + 1, i => okPart t l i && partsFrom t l d (i + 1)
def okEnt (n t : Int) (l : List S93) (i : Nat) : Bool := inB (l.getD i z93).f0 1 (wrap64 (n - 1)) && ((decide (i = 0) || decide ((l.getD (i - 1) z93).f0 < (l.getD i z93).f0)) && (decide (((l.getD i z93).f1.length : Int) ≤ 12) && partsFrom t (l.getD i z93).f1 (l.getD i z93).f1.length 0))
def entsFrom (n t : Int) (l : List S93) : Nat → Nat → Bool
  | 0, _ => true
  | d + 1, i => okEnt n t l i && entsFrom n t l d (i + 1)
def GoodW (l : List S93) : Prop := l.length ≤ 4398046511104 ∧ ∀ x ∈ l, x.f1.length ≤ 4398046511104 ∧ ∀ p ∈ x.f1, p.f0.size ≤ 140737488351232
theorem pred_cast {i : Nat} (h0 : i ≠ 0) (h1 : i ≤ 4398046511104) : wrap64 ((i : Int) - 1) = ((i - 1 : Nat) : Int) := by rw [wrap_small (by omega) (by omega)]; omega
theorem spec_parts_from (n t : Int) (es : List S93) (ei : Nat) (e0 : Int) (l : List S95) (hl : l.length ≤ 4398046511104) (hs : ∀ p ∈ l, p.f0.size ≤ 140737488351232) (v : Bool) (hv : Ev (fun k => spec_GoodWorld.l0 k es (es.length : Int) (wrap64 ((ei : Int) + 1)) n t es) v) (d : Nat) : ∀ i : Nat, l.length - i = d → i ≤ l.length →
    Ev (fun k => spec_GoodWorld.l1 k es (es.length : Int) (ei : Int) l (l.length : Int) (i : Int) n t es e0 l) (partsFrom t l d i && v) := by
  induction d with
  | zero =>
    intro i hd hi
    refine ev_succ ?_
    simp only [spec_GoodWorld.l1, if_neg (show ¬ (i : Int) < (l.length : Int) by omega), partsFrom, Bool.true_and]
    exact hv
  | succ d ih =>
    intro i hd hi
    have hlt : i < l.length := by omega
    have ihn := ih (i + 1) (by omega) (by omega)
    refine ev_succ ?_
    unfold partsFrom okPart
    rw [getP hlt]
    simp only [spec_GoodWorld.l1, if_pos (show (i : Int) < (l.length : Int) by omega), if_pos (show (0 : Int) ≤ (i : Int) by omega), rd95 hlt, spec_in, Option.bind_some, succ_cast hlt (by omega)]
    refine Ev.bind (spec_name _ (hs _ (List.getElem_mem hlt))) ?_
    cases nameB l[i].f0 with
    | false => simp only [Bool.false_eq_true, if_false, Bool.false_and]; exact Ev.now _
    | true =>
      cases inB l[i].f2 0 t with
      | false => simp only [if_true, Bool.false_eq_true, if_false, Bool.false_and, Bool.and_false]; exact Ev.now _
      | true =>
        simp only [if_true, Bool.true_and]
        by_cases c0 : i = 0
        · simp only [if_neg (show ¬ (i : Int) > 0 by omega), decide_eq_true c0, Bool.true_or, Bool.true_and]
          exact ihn
        · have h1 : i - 1 < l.length := by omega
          simp only [if_pos (show (i : Int) > 0 by omega), pred_cast c0 (by omega), if_pos (show (0 : Int) ≤ ((i - 1 : Nat) : Int) by omega), if_pos (show ((i - 1 : Nat) : Int) < (l.length : Int) by omega), rd95 h1, getP h1, decide_eq_false c0, Bool.false_or]
          have e : Op.bytesLess l[i - 1].f0.toList l[i].f0.toList = lessP l[i - 1] l[i] := rfl
          rw [e]
          cases lessP l[i - 1] l[i] with
          | true => simp only [if_true, Bool.true_and]; exact ihn
          | false => simp only [Bool.false_eq_true, if_false, Bool.false_and]; exact Ev.now _
theorem impl_parts_from (t : Int) (l : List S95) (hl : l.length ≤ 4398046511104) (hs : ∀ p ∈ l, p.f0.size ≤ 140737488351232) (d : Nat) : ∀ i : Nat, l.length - i = d → i ≤ l.length →
    Ev (fun k => impl_areParts.l0 k l t l (l.length : Int) (i : Int)) (partsFrom t l d i && decide ((l.length : Int) ≤ 12)) := by
  induction d with
  | zero =>
    intro i hd hi
    refine ev_succ ?_
    simp only [impl_areParts.l0, if_neg (show ¬ (i : Int) < (l.length : Int) by omega), partsFrom, Bool.true_and]
    exact Ev.now _
  | succ d ih =>
    intro i hd hi
    have hlt : i < l.length := by omega
    have ihn := ih (i + 1) (by omega) (by omega)
    refine ev_succ ?_
    unfold partsFrom okPart
    rw [getP hlt]
    simp only [impl_areParts.l0, if_pos (show (i : Int) < (l.length : Int) by omega), if_pos (show (0 : Int) ≤ (i : Int) by omega), rd95 hlt, impl_in, Option.bind_some, succ_cast hlt (by omega)]
    refine Ev.bind (impl_name _ (hs _ (List.getElem_mem hlt))) ?_
    cases nameB l[i].f0 with
    | false => simp only [Bool.false_eq_true, if_false, Bool.false_and]; exact Ev.now _
    | true =>
      simp only [if_true, Bool.true_and]
      by_cases c0 : i = 0
      · simp only [if_neg (show ¬ (i : Int) > 0 by omega), decide_eq_true c0, Bool.true_or, Bool.and_true]
        cases inB l[i].f2 0 t with
        | false => simp only [Bool.false_eq_true, if_false, Bool.false_and]; exact Ev.now _
        | true => simp only [if_true, Bool.true_and]; exact ihn
      · have h1 : i - 1 < l.length := by omega
        simp only [if_pos (show (i : Int) > 0 by omega), pred_cast c0 (by omega), if_pos (show (0 : Int) ≤ ((i - 1 : Nat) : Int) by omega), if_pos (show ((i - 1 : Nat) : Int) < (l.length : Int) by omega), rd95 h1, getP h1, decide_eq_false c0, Bool.false_or]
        have e : Op.bytesLess l[i - 1].f0.toList l[i].f0.toList = lessP l[i - 1] l[i] := rfl
        rw [e]
        cases lessP l[i - 1] l[i] with
        | false => simp only [Bool.false_eq_true, if_false, Bool.and_false, Bool.false_and]; exact Ev.now _
        | true =>
          simp only [if_true, Bool.and_true]
          cases inB l[i].f2 0 t with
          | false => simp only [Bool.false_eq_true, if_false, Bool.false_and]; exact Ev.now _
          | true => simp only [if_true, Bool.true_and]; exact ihn
theorem spec_j2_bad (n t : Int) (es : List S93) (a b e0 : Int) (p : List S95) : Ev (fun k => spec_GoodWorld.j2 k es a b true n t es e0 p) false := by
  refine ev_succ ?_
  simp only [spec_GoodWorld.j2, if_true]; exact Ev.now _
theorem spec_ents_from (n t : Int) (l : List S93) (hg : GoodW l) (d : Nat) : ∀ i : Nat, l.length - i = d → i ≤ l.length →
    Ev (fun k => spec_GoodWorld.l0 k l (l.length : Int) (i : Int) n t l) (entsFrom n t l d i) := by
  obtain ⟨hl, hp⟩ := hg
  induction d with
  | zero =>
    intro i hd hi
    refine ev_succ ?_
    simp only [spec_GoodWorld.l0, if_neg (show ¬ (i : Int) < (l.length : Int) by omega), entsFrom]
    exact Ev.now _
  | succ d ih =>
    intro i hd hi
    have hlt : i < l.length := by omega
    have ihn := ih (i + 1) (by omega) (by omega)
    have hpi := hp _ (List.getElem_mem hlt)
    have fin : Ev (fun k => spec_GoodWorld.j2 k l (l.length : Int) (i : Int) (decide ((l[i].f1.length : Int) > 12)) n t l l[i].f0 l[i].f1) ((decide ((l[i].f1.length : Int) ≤ 12) && partsFrom t l[i].f1 l[i].f1.length 0) && entsFrom n t l d (i + 1)) := by
      by_cases c : (l[i].f1.length : Int) > 12
      · rw [decide_eq_true c, decide_eq_false (show ¬ (l[i].f1.length : Int) ≤ 12 by omega)]
        exact spec_j2_bad n t l _ _ _ _
      · rw [decide_eq_false c, decide_eq_true (show (l[i].f1.length : Int) ≤ 12 by omega), Bool.true_and]
        refine ev_succ ?_
        simp only [spec_GoodWorld.j2, Bool.false_eq_true, if_false]
        exact spec_parts_from n t l i l[i].f0 l[i].f1 hpi.1 hpi.2 _ (by rw [succ_cast hlt (by omega)]; exact ihn) l[i].f1.length 0 (by omega) (by omega)
    refine ev_succ ?_
    unfold entsFrom okEnt
    rw [getE hlt]
    simp only [spec_GoodWorld.l0, if_pos (show (i : Int) < (l.length : Int) by omega), if_pos (show (0 : Int) ≤ (i : Int) by omega), rd93 hlt, spec_in, Option.bind_some]
    cases inB l[i].f0 1 (wrap64 (n - 1)) with
    | false => simp only [Bool.false_eq_true, if_false, Bool.false_and]; exact spec_j2_bad n t l _ _ _ _
    | true =>
      simp only [if_true, Bool.true_and]
      by_cases c0 : i = 0
      · simp only [if_neg (show ¬ (i : Int) > 0 by omega), decide_eq_true c0, Bool.true_or, Bool.true_and]
        exact fin
      · have h1 : i - 1 < l.length := by omega
        simp only [if_pos (show (i : Int) > 0 by omega), pred_cast c0 (by omega), if_pos (show (0 : Int) ≤ ((i - 1 : Nat) : Int) by omega), if_pos (show ((i - 1 : Nat) : Int) < (l.length : Int) by omega), rd93 h1, getE h1, decide_eq_false c0, Bool.false_or]
        by_cases c1 : l[i - 1].f0 ≥ l[i].f0
        · simp only [if_pos c1, decide_eq_false (show ¬ l[i - 1].f0 < l[i].f0 by omega), Bool.false_and]
          exact spec_j2_bad n t l _ _ _ _
        · simp only [if_neg c1, decide_eq_true (show l[i - 1].f0 < l[i].f0 by omega), Bool.true_and]
          exact fin
def worldB (n t : Int) (l : List S93) : Bool := entsFrom n t l l.length 0 && (inB n 1 1000000 && (inB t 0 1000000 && decide ((l.length : Int) ≤ 60)))
theorem impl_ents_from (n t : Int) (l : List S93) (hg : GoodW l) (d : Nat) : ∀ i : Nat, l.length - i = d → i ≤ l.length →
    Ev (fun k => impl_GoodWorld.l0 k l (l.length : Int) (i : Int) n t l) (entsFrom n t l d i && (inB n 1 1000000 && (inB t 0 1000000 && decide ((l.length : Int) ≤ 60)))) := by
  obtain ⟨hl, hp⟩ := hg
  induction d with
  | zero =>
    intro i hd hi
    refine ev_succ ?_
    simp only [impl_GoodWorld.l0, if_neg (show ¬ (i : Int) < (l.length : Int) by omega), entsFrom, Bool.true_and, impl_in, Option.bind_some]
    cases inB n 1 1000000 with
    | false => simp only [Bool.false_eq_true, if_false, Bool.false_and]; exact Ev.now _
    | true =>
      cases inB t 0 1000000 with
      | false => simp only [if_true, Bool.false_eq_true, if_false, Bool.false_and, Bool.and_false]; exact Ev.now _
      | true => simp only [if_true, Bool.true_and]; exact Ev.now _
  | succ d ih =>
    intro i hd hi
    have hlt : i < l.length := by omega
    have ihn := ih (i + 1) (by omega) (by omega)
    have hpi := hp _ (List.getElem_mem hlt)
    have fin : Ev (fun k => (impl_areParts.f k l[i].f1 t).bind fun t1 => if t1 = true then impl_GoodWorld.l0 k l (l.length : Int) ((i + 1 : Nat) : Int) n t l else some false) (((decide ((l[i].f1.length : Int) ≤ 12) && partsFrom t l[i].f1 l[i].f1.length 0) && entsFrom n t l d (i + 1)) && (inB n 1 1000000 && (inB t 0 1000000 && decide ((l.length : Int) ≤ 60)))) := by
      refine Ev.bind (impl_parts_from t l[i].f1 hpi.1 hpi.2 l[i].f1.length 0 (by omega) (by omega)) ?_
      rw [Bool.and_comm (decide ((l[i].f1.length : Int) ≤ 12))]
      cases (partsFrom t l[i].f1 l[i].f1.length 0 && decide ((l[i].f1.length : Int) ≤ 12)) with
      | false => simp only [Bool.false_eq_true, if_false, Bool.false_and]; exact Ev.now _
      | true => simp only [if_true, Bool.true_and]; exact ihn
    refine ev_succ ?_
    unfold entsFrom okEnt
    rw [getE hlt]
    simp only [impl_GoodWorld.l0, if_pos (show (i : Int) < (l.length : Int) by omega), if_pos (show (0 : Int) ≤ (i : Int) by omega), rd93 hlt, impl_in, Option.bind_some, succ_cast hlt (by omega)]
    cases inB l[i].f0 1 (wrap64 (n - 1)) with
    | false => simp only [Bool.false_eq_true, if_false, Bool.false_and]; exact Ev.now _
    | true =>
      simp only [if_true, Bool.true_and]
      by_cases c0 : i = 0
      · simp only [if_neg (show ¬ (i : Int) > 0 by omega), decide_eq_true c0, Bool.true_or, Bool.true_and]
        exact fin
      · have h1 : i - 1 < l.length := by omega
        simp only [if_pos (show (i : Int) > 0 by omega), pred_cast c0 (by omega), if_pos (show (0 : Int) ≤ ((i - 1 : Nat) : Int) by omega), if_pos (show ((i - 1 : Nat) : Int) < (l.length : Int) by omega), rd93 h1, getE h1, decide_eq_false c0, Bool.false_or]
        by_cases c1 : l[i - 1].f0 ≥ l[i].f0
        · simp only [if_pos c1, decide_eq_false (show ¬ l[i - 1].f0 < l[i].f0 by omega), Bool.false_and]
          exact Ev.now _
        · simp only [if_neg c1, decide_eq_true (show l[i - 1].f0 < l[i].f0 by omega), Bool.true_and]
          exact fin
theorem impl_world (n t : Int) (l : List S93) (hg : GoodW l) : Ev (fun k => impl_GoodWorld.f k n t l) (worldB n t l) := impl_ents_from n t l hg l.length 0 (by omega) (by omega)
theorem spec_j0_bad (n t : Int) (l : List S93) : Ev (fun k => spec_GoodWorld.j0 k true n t l) false := by
  refine ev_succ ?_
  simp only [spec_GoodWorld.j0, if_true]; exact Ev.now _
theorem spec_world (n t : Int) (l : List S93) (hg : GoodW l) : Ev (fun k => spec_GoodWorld.f k n t l) (worldB n t l) := by
  unfold spec_GoodWorld.f worldB
  simp only [spec_in, Option.bind_some]
  cases inB n 1 1000000 with
  | false => simp only [Bool.false_eq_true, if_false, Bool.false_and, Bool.and_false]; exact spec_j0_bad n t l
  | true =>
    cases inB t 0 1000000 with
    | false => simp only [if_true, Bool.false_eq_true, if_false, Bool.false_and, Bool.and_false]; exact spec_j0_bad n t l
    | true =>
      simp only [if_true, Bool.true_and]
      by_cases c : (l.length : Int) > 60
      · rw [decide_eq_true c, decide_eq_false (show ¬ (l.length : Int) ≤ 60 by omega), Bool.and_false]
        exact spec_j0_bad n t l
      · rw [decide_eq_false c, decide_eq_true (show (l.length : Int) ≤ 60 by omega), Bool.and_true]
        refine ev_succ ?_
        simp only [spec_GoodWorld.j0, Bool.false_eq_true, if_false]
        exact spec_ents_from n t l hg l.length 0 (by omega) (by omega)
theorem FnExactGoodWorld : laws_FnExactGoodWorld_Pure := by
  intro n t l _ _ hl
  have h1 : l.length ≤ 4398046511104 := by omega
  have hp : ∀ x ∈ l, x.f1.length ≤ 4398046511104 := fun x hx => by
    have := (hl.2.2 x hx).2
    omega
  have hg : GoodW (l.map entOf) := by
    refine ⟨by rw [List.length_map]; exact h1, fun x hx => ?_⟩
    obtain ⟨y, hy, rfl⟩ := List.mem_map.1 hx
    have g := (hl.2.2 y hy).2
    refine ⟨by show (y.f1.map partOf).length ≤ _; rw [List.length_map]; exact hp y hy, fun p hq => ?_⟩
    obtain ⟨q, hq1, rfl⟩ := List.mem_map.1 hq
    exact (g.2.2 q hq1).1
  apply Ev.rounds (r := true)
  unfold laws_FnExactGoodWorld.f
  obtain ⟨v, hv⟩ := sz_world n t l h1 hp 1048576
  refine Ev.bind hv ?_
  by_cases h : v < 0
  · simp only [if_pos h]
    exact Ev.now true
  · simp only [if_neg h]
    have hw := to_world n t l h1 hp
    refine Ev.bind hw (Ev.bind (spec_world n t _ hg) (Ev.bind hw (Ev.bind (impl_world n t _ hg) ?_)))
    simp only [bne_self_eq_false, Bool.false_eq_true, if_false]
    refine Ev.bind hw (Ev.bind (eq_world n t _ hg.1 (fun x hx => (hg.2 x hx).1)) ?_)
    simp only [if_true]
    exact Ev.now true
end Go.Proofs.Ytmabgkhkokckgaa.Pure
