/- The program's IslandsOf and the reference's answer alike at every count and ties, and the answer is rows of its own. No condition. -/
import Derived.Test.YtiaajmnmbjheoaaPFnExactIslandsOfx6
namespace Go.Proofs.Ytiaajmnmbjheoaa.Pure
open Go.RowKit Go.Proofs.Ytiaajmnmbjheoaa.PFnExactIslandsOf Go.Proofs.YtiaajmnmbjheoaaW.PrintWords Go.Proofs.YtiaajmnmbjheoaaW.PrintLast Go.Proofs.YtiaajmnmbjheoaaW.PrintMore
set_option linter.unusedVariables false
set_option linter.unusedSimpArgs false
/-- What can be read as a datum of type 92. -/
def Good92 (x : S92) : Prop := (Lit.int .i64 x.f0).wf = true ∧ (Lit.int .i64 x.f1).wf = true
/-- The one pure statement. -/
def laws_FnExactIslandsOf_Pure : Prop := ∀ (a0 : Int) (l1 : (List S92)), (Lit.int .i64 a0).wf = true → (List.length l1 ≤ maxLen ∧ List.length l1 * 16 ≤ 140737488351232 ∧ ∀ y ∈ l1, Good92 y) → ∃ k, laws_FnExactIslandsOf.f k a0 l1 = some true
/-! #### whole numbers: wraps, quotients towards nought -/
theorem wrap_small {i : Int} (h0 : -9223372036854775808 ≤ i) (h1 : i ≤ 9223372036854775807) : wrap64 i = i := by unfold wrap64; omega
theorem tdiv_pos {a b : Int} (ha : 0 ≤ a) : Int.tdiv a b = a / b := Int.tdiv_eq_ediv_of_nonneg ha
theorem tmod_pos {a b : Int} (ha : 0 ≤ a) : Int.tmod a b = a % b := Int.tmod_eq_emod_of_nonneg ha
theorem tdiv_neg' {a b : Int} (ha : a < 0) : Int.tdiv a b = -((-a) / b) := by
  rw [← Int.tdiv_eq_ediv_of_nonneg (a := -a) (by omega), Int.neg_tdiv, Int.neg_neg]
theorem tmod_neg' {a b : Int} (ha : a < 0) : Int.tmod a b = -((-a) % b) := by
  rw [← Int.tmod_eq_emod_of_nonneg (a := -a) (by omega), Int.neg_tmod, Int.neg_neg]
theorem wf64 {a : Int} (h : (Lit.int .i64 a).wf = true) : -9223372036854775808 ≤ a ∧ a ≤ 9223372036854775807 := by
  simp [Lit.wf, IntKind.min, IntKind.max, IntKind.signed, IntKind.bits] at h
  omega
theorem ev_succ {α : Type} {g : Nat → Option α} {r : α} (h : Ev (fun k => g (k + 1)) r) : Ev g r := Ev.step (f := fun k => g (k + 1)) (fun _ => rfl) h
theorem ev_eq {α : Type} {g : Nat → Option α} {r : α} (h : ∀ k, g k = some r) : Ev g r := ⟨0, fun k _ => h k⟩
theorem ev_val {α : Type} {g : Nat → Option α} {r r' : α} (h : Ev g r) (e : r = r') : Ev g r' := e ▸ h
/-! #### is a number in a span -/
def inB (a b c : Int) : Bool := decide (b ≤ a ∧ a ≤ c)
theorem inB_iff {a b c : Int} : inB a b c = true ↔ b ≤ a ∧ a ≤ c := by unfold inB; rw [decide_eq_true_eq]
theorem spec_in (a b c : Int) : spec_l1In.f a b c = some (inB a b c) := by
  unfold spec_l1In.f inB
  by_cases h : a ≥ b
  · rw [if_pos h]; congr 1; rw [decide_eq_decide]; omega
  · rw [if_neg h]; congr 1; exact (decide_eq_false (by omega)).symm
theorem impl_in (a b c : Int) : impl_inRange.f a b c = some (inB a b c) := by
  unfold impl_inRange.f inB
  by_cases h : b ≤ a
  · rw [if_pos h]; congr 1; rw [decide_eq_decide]; omega
  · rw [if_neg h]; congr 1; exact (decide_eq_false (by omega)).symm
/-! #### loops that go up, from a place on -/
theorem Ev_up {σ ρ : Type} (g : Nat → Nat → σ → Option ρ) (n : Nat) (Inv : Nat → σ → Prop) (Post : ρ → Prop)
    (hend : ∀ s, Inv n s → ∃ r, Ev (fun k => g k n s) r ∧ Post r)
    (hstep : ∀ i s, i < n → Inv i s → (∃ r, Ev (fun k => g k i s) r ∧ Post r) ∨ (∃ s', Inv (i + 1) s' ∧ ∀ r, Ev (fun k => g k (i + 1) s') r → Ev (fun k => g k i s) r))
    (d : Nat) : ∀ i s, n - i = d → i ≤ n → Inv i s → ∃ r, Ev (fun k => g k i s) r ∧ Post r := by
  induction d with
  | zero =>
    intro i s hd hi hs
    obtain rfl : i = n := by omega
    exact hend s hs
  | succ d ih =>
    intro i s hd hi hs
    rcases hstep i s (by omega) hs with h | ⟨s', hs', hg⟩
    · exact h
    · obtain ⟨r, hr, hp⟩ := ih (i + 1) s' (by omega) (by omega) hs'
      exact ⟨r, hg r hr, hp⟩
theorem succ_cast {i n : Nat} (h : i < n) (hn : n ≤ 9223372036854775806) : wrap64 ((i : Int) + 1) = ((i + 1 : Nat) : Int) := by
  rw [wrap_small (by omega) (by omega)]; omega
theorem drop_cons {α : Type} {l : List α} {i : Nat} (h : i < l.length) : l.drop i = l[i] :: l.drop (i + 1) := List.drop_eq_getElem_cons h
theorem rd_at {l : List Int} {i : Nat} (h : i < l.length) : rd l (i : Int) = l[i] := by simp [rd, h]
/-! #### loops that copy and loops that compare -/
theorem set_step {α β : Type} (g : α → β) (z : β) (l : List α) (i : Nat) (hi : i < l.length) : ((l.take i).map g ++ List.replicate (l.length - i) z).set i (g l[i]) = (l.take (i + 1)).map g ++ List.replicate (l.length - (i + 1)) z := by
  have e : l.length - i = (l.length - (i + 1)) + 1 := by omega
  have hl : ((l.take i).map g).length = i := by rw [List.length_map, List.length_take]; omega
  rw [e, List.replicate_succ, List.set_append_right _ _ (by omega), hl, Nat.sub_self, List.set_cons_zero, List.take_succ_eq_append_getElem hi, List.map_append, List.append_assoc]
  rfl
/-- A loop that sets each place of a fresh list. -/
theorem ev_map {α β : Type} (l : List α) (z : β) (g : α → β) (F : Nat → List β → Int → Option (List β)) (G : Nat → α → Option β) (hG : ∀ i (hi : i < l.length), Ev (fun k => G k l[i]) (g l[i]))
    (hstep : ∀ k (x : List β) (i : Nat) (hi : i < l.length), x.length = l.length → F (k + 1) x (i : Int) = (G k l[i]).bind fun v => F k (x.set i v) ((i + 1 : Nat) : Int))
    (hend : ∀ k (x : List β), F (k + 1) x (l.length : Int) = some x) : Ev (fun k => F k (List.replicate l.length z) 0) (l.map g) := by
  have main : ∀ d i, l.length - i = d → i ≤ l.length → Ev (fun k => F k ((l.take i).map g ++ List.replicate (l.length - i) z) (i : Int)) (l.map g) := by
    intro d
    induction d with
    | zero =>
      intro i hd hi
      obtain rfl : i = l.length := by omega
      refine ev_succ ?_
      simp only [hend, Nat.sub_self, List.replicate_zero, List.append_nil, List.take_length]
      exact Ev.now _
    | succ d ih =>
      intro i hd hi
      have hlt : i < l.length := by omega
      refine ev_succ ?_
      have hx : ((l.take i).map g ++ List.replicate (l.length - i) z).length = l.length := by
        rw [List.length_append, List.length_map, List.length_take, List.length_replicate]; omega
      simp only [hstep _ _ i hlt hx]
      refine Ev.bind (hG i hlt) ?_
      simp only [set_step g z l i hlt]
      exact ih (i + 1) (by omega) (by omega)
  have := main l.length 0 (by omega) (by omega)
  simp only [List.take_zero, List.map_nil, List.nil_append, Nat.sub_zero] at this
  exact this
/-- A loop that asks each place, and every place answers true. -/
theorem ev_trues {n : Nat} (F : Nat → Int → Option Bool) (G : Nat → Nat → Option Bool) (hG : ∀ i, i < n → Ev (fun k => G k i) true)
    (hstep : ∀ k (i : Nat), i < n → F (k + 1) (i : Int) = (G k i).bind fun t => if t = true then F k ((i + 1 : Nat) : Int) else some false)
    (hend : ∀ k, F (k + 1) (n : Int) = some true) : Ev (fun k => F k 0) true := by
  have main : ∀ d i, n - i = d → i ≤ n → Ev (fun k => F k (i : Int)) true := by
    intro d
    induction d with
    | zero =>
      intro i hd hi
      obtain rfl : i = n := by omega
      refine ev_succ ?_
      simp only [hend]
      exact Ev.now _
    | succ d ih =>
      intro i hd hi
      refine ev_succ ?_
      simp only [hstep _ i (show i < n by omega)]
      refine Ev.bind (hG i (by omega)) ?_
      simp only [if_true]
      exact ih (i + 1) (by omega) (by omega)
  exact main n 0 (by omega) (by omega)
theorem toNat_cast (i : Nat) : ((i : Int)).toNat = i := Int.toNat_natCast i
/-! #### rows of whole numbers: held against one another, marked (rows of type 3) -/
theorem ltc {i n : Nat} (h : i < n) : (i : Int) < (n : Int) := by omega
theorem lec {i n : Nat} (h : i ≤ n) : (i : Int) ≤ (n : Int) := by omega
theorem nnc (i : Nat) : (0 : Int) ≤ (i : Int) := by omega
theorem no_lt (n : Nat) : ¬ (n : Int) < (n : Int) := by omega
theorem rdL {l : List (List Int)} {i : Nat} (h : i < l.length) : rd_L3 l (i : Int) = l[i] := by simp [rd_L3, h]
theorem eq_ints (l : List Int) (h1 : l.length ≤ 17592186043904) : Ev (fun k => laws_eqIntS.f k l l) true := by
  unfold laws_eqIntS.f
  simp only [if_true]
  refine ev_trues (n := l.length) (fun k i => laws_eqIntS.l0 k l l i) (fun _ _ => some true) (fun i hi => Ev.now _) ?_ ?_
  · intro k i hi
    simp only [laws_eqIntS.l0, if_pos (ltc hi), if_pos (nnc i), if_true, Option.bind_some, succ_cast hi (by omega)]
  · intro k
    simp only [laws_eqIntS.l0, if_neg (no_lt l.length)]
theorem eq_rows (l : List (List Int)) (h1 : l.length ≤ 5864062014635) (h2 : ∀ x ∈ l, x.length ≤ 17592186043904) : Ev (fun k => laws_eqIntSS.f k l l) true := by
  unfold laws_eqIntSS.f
  simp only [if_true]
  refine ev_trues (n := l.length) (fun k i => laws_eqIntSS.l0 k l l i) (fun k i => laws_eqIntS.f k (rd_L3 l (i : Int)) (rd_L3 l (i : Int))) (fun i hi => by rw [rdL hi]; exact eq_ints _ (h2 _ (List.getElem_mem hi))) ?_ ?_
  · intro k i hi
    simp only [laws_eqIntSS.l0, if_pos (ltc hi), if_pos (nnc i), succ_cast hi (by omega)]
  · intro k
    simp only [laws_eqIntSS.l0, if_neg (no_lt l.length)]
def sumLen : List (List Int) → Nat
  | [] => 0
  | x :: l => x.length + sumLen l
theorem sumLen_append (l m : List (List Int)) : sumLen (l ++ m) = sumLen l + sumLen m := by
  induction l with
  | nil => simp [sumLen]
  | cons x l ih => simp only [List.cons_append, sumLen, ih]; omega
theorem sumLen_take {l : List (List Int)} {i : Nat} (h : i < l.length) : sumLen (l.take (i + 1)) = sumLen (l.take i) + l[i].length := by
  rw [List.take_succ_eq_append_getElem h, sumLen_append]; simp [sumLen]
/-! #### marks in whole numbers -/
theorem mark_ints (l : List Int) (a : Int) (hl : l.length ≤ 17592186043904) (a0 : 0 ≤ a) (a1 : a ≤ 4611686018427387904) : ∃ r : Int × List Int, Ev (fun k => laws_markIntS.f k l a) r ∧ (r.1 = a + (l.length : Int) ∧ r.2.length = l.length ∧ ∀ j : Nat, j < l.length → r.2[j]? = some (a + (j : Int))) := by
  unfold laws_markIntS.f
  obtain ⟨r, hr, hp⟩ := Ev_up (fun k (i : Nat) (s : List Int × Int) => laws_markIntS.l0 k s.1 s.2 (i : Int)) l.length (fun i s => s.1.length = l.length ∧ s.2 = a + (i : Int) ∧ ∀ j : Nat, j < i → s.1[j]? = some (a + (j : Int))) (fun r => r.1 = a + (l.length : Int) ∧ r.2.length = l.length ∧ ∀ j : Nat, j < l.length → r.2[j]? = some (a + (j : Int)))
    (fun s hs => ⟨(s.2, s.1), ev_succ (by simp only [laws_markIntS.l0, if_neg (show ¬ (l.length : Int) < (s.1.length : Int) by have := hs.1; omega)]; exact Ev.now _), hs.2.1, hs.1, hs.2.2⟩)
    (fun i s hi hs => by
      right
      obtain ⟨x0, x1⟩ := s
      obtain ⟨h1, h2, h3⟩ := hs
      dsimp only at h1 h2 h3
      refine ⟨(x0.set i x1, x1 + 1), ⟨by rw [List.length_set]; exact h1, by dsimp only; omega, fun j hj => ?_⟩, fun r hr => ev_succ ?_⟩
      · dsimp only
        by_cases e : j = i
        · subst e
          rw [List.getElem?_set_self (by omega), h2]
        · rw [List.getElem?_set_ne (by omega)]
          exact h3 j (by omega)
      · simp only [laws_markIntS.l0, if_pos (show (i : Int) < (x0.length : Int) by omega), if_pos (nnc i), toNat_cast, succ_cast hi (by omega), wrap_small (show -9223372036854775808 ≤ x1 + 1 by omega) (show x1 + 1 ≤ 9223372036854775807 by omega)]
        exact hr) l.length 0 (l, a) (by omega) (by omega) ⟨rfl, by dsimp only; omega, fun j hj => by omega⟩
  exact ⟨r, hr, hp⟩
theorem held_ints (l : List Int) (a : Int) (hl : l.length ≤ 17592186043904) (a0 : 0 ≤ a) (a1 : a ≤ 4611686018427387904) (h : ∀ j : Nat, j < l.length → l[j]? = some (a + (j : Int))) : Ev (fun k => laws_heldIntS.f k l a) (a + (l.length : Int)) := by
  unfold laws_heldIntS.f
  obtain ⟨r, hr, hp⟩ := Ev_up (fun k (i : Nat) (s : Int) => laws_heldIntS.l0 k l s (i : Int)) l.length (fun i s => s = a + (i : Int)) (fun r => r = a + (l.length : Int))
    (fun s hs => ⟨s, ev_succ (by simp only [laws_heldIntS.l0, if_neg (no_lt l.length)]; exact Ev.now _), hs⟩)
    (fun i s hi hs => by
      right
      refine ⟨s + 1, by omega, fun r hr => ev_succ ?_⟩
      have hv : rd l (i : Int) = s := by
        have := h i hi
        simp only [rd, toNat_cast, List.getD_eq_getElem?_getD, this, Option.getD_some]
        exact hs.symm
      simp only [laws_heldIntS.l0, if_pos (ltc hi), if_pos (nnc i), if_pos hv, succ_cast hi (by omega), wrap_small (show -9223372036854775808 ≤ s + 1 by omega) (show s + 1 ≤ 9223372036854775807 by omega)]
      exact hr) l.length 0 a (by omega) (by omega) (by omega)
  rw [hp] at hr
  exact hr
/-! #### marks in rows of whole numbers -/
theorem mark_rows_val (l : List (List Int)) (a : Int) (hl : l.length ≤ 1048576) (h2 : ∀ x ∈ l, x.length ≤ 17592186043904) (hs : sumLen l ≤ 1048576) (a0 : 0 ≤ a) (a1 : a ≤ 4611686018426339328) :
    ∃ r : Int × List (List Int), Ev (fun k => laws_markIntSS.f k l a) r ∧ r.1 = a + (sumLen l : Int) ∧ r.2.length = l.length ∧ ∀ j (hj : j < l.length), ∃ row, r.2[j]? = some row ∧ row.length = l[j].length ∧ ∀ q : Nat, q < row.length → row[q]? = some (a + (sumLen (l.take j) : Int) + (q : Int)) := by
  unfold laws_markIntSS.f
  have hle : ∀ i : Nat, sumLen (l.take i) ≤ sumLen l := fun i => by
    have h := sumLen_append (l.take i) (l.drop i)
    rw [List.take_append_drop] at h
    omega
  obtain ⟨r, hr, hp⟩ := Ev_up (fun k (i : Nat) (s : List (List Int) × Int) => laws_markIntSS.l0 k s.1 s.2 (i : Int)) l.length (fun i s => s.1.length = l.length ∧ (∀ j : Nat, i ≤ j → s.1[j]? = l[j]?) ∧ s.2 = a + (sumLen (l.take i) : Int) ∧ ∀ j (hj : j < l.length), j < i → ∃ row, s.1[j]? = some row ∧ row.length = l[j].length ∧ ∀ q : Nat, q < row.length → row[q]? = some (a + (sumLen (l.take j) : Int) + (q : Int)))
      (fun r => r.1 = a + (sumLen l : Int) ∧ r.2.length = l.length ∧ ∀ j (hj : j < l.length), ∃ row, r.2[j]? = some row ∧ row.length = l[j].length ∧ ∀ q : Nat, q < row.length → row[q]? = some (a + (sumLen (l.take j) : Int) + (q : Int)))
    (fun s hs => ⟨(s.2, s.1), ev_succ (by simp only [laws_markIntSS.l0, if_neg (show ¬ (l.length : Int) < (s.1.length : Int) by have := hs.1; omega)]; exact Ev.now _), by have := hs.2.2.1; rw [List.take_length] at this; exact this, hs.1, fun j hj => hs.2.2.2 j hj hj⟩)
    (fun i s hi hs => by
      right
      obtain ⟨x0, x1⟩ := s
      obtain ⟨h1, h3, h4, h5⟩ := hs
      dsimp only at h1 h3 h4 h5
      have hg : x0.getD i ([] : List Int) = l[i] := by rw [List.getD_eq_getElem?_getD, h3 i (Nat.le_refl _), List.getElem?_eq_getElem hi, Option.getD_some]
      have hb := hle i
      obtain ⟨t, ht, t1, t2, t3⟩ := mark_ints l[i] x1 (h2 _ (List.getElem_mem hi)) (by omega) (by omega)
      refine ⟨(x0.set i t.2, t.1), ⟨by rw [List.length_set]; exact h1, fun j hj => by dsimp only; rw [List.getElem?_set_ne (by omega)]; exact h3 j (by omega), by dsimp only; rw [sumLen_take hi]; omega, fun j hj hji => ?_⟩, fun r hr => ev_succ ?_⟩
      · dsimp only
        by_cases e : j = i
        · subst e
          exact ⟨t.2, by rw [List.getElem?_set_self (by omega)], t2, fun q hq => by rw [t3 q (by omega), h4]⟩
        · rw [List.getElem?_set_ne (fun h => e h.symm)]
          exact h5 j hj (by omega)
      · simp only [laws_markIntSS.l0, if_pos (show (i : Int) < (x0.length : Int) by omega), if_pos (nnc i), toNat_cast, hg, succ_cast hi (by omega)]
        exact Ev.bind ht hr) l.length 0 (l, a) (by omega) (by omega) ⟨rfl, fun j _ => rfl, by simp [sumLen], fun j hj h => absurd h (Nat.not_lt_zero _)⟩
  exact ⟨r, hr, hp⟩
theorem held_rows (l m : List (List Int)) (a : Int) (hl : l.length ≤ 1048576) (h2 : ∀ x ∈ l, x.length ≤ 17592186043904) (hs : sumLen l ≤ 1048576) (a0 : 0 ≤ a) (a1 : a ≤ 4611686018426339328) (hm : m.length = l.length)
    (h : ∀ j (hj : j < l.length), ∃ row, m[j]? = some row ∧ row.length = l[j].length ∧ ∀ q : Nat, q < row.length → row[q]? = some (a + (sumLen (l.take j) : Int) + (q : Int))) : Ev (fun k => laws_heldIntSS.f k m a) (a + (sumLen l : Int)) := by
  unfold laws_heldIntSS.f
  have hle : ∀ i : Nat, sumLen (l.take i) ≤ sumLen l := fun i => by
    have h := sumLen_append (l.take i) (l.drop i)
    rw [List.take_append_drop] at h
    omega
  obtain ⟨r, hr, hp⟩ := Ev_up (fun k (i : Nat) (s : Int) => laws_heldIntSS.l0 k m s (i : Int)) m.length (fun i s => s = a + (sumLen (l.take i) : Int)) (fun r => r = a + (sumLen l : Int))
    (fun s hs => ⟨s, ev_succ (by simp only [laws_heldIntSS.l0, if_neg (no_lt m.length)]; exact Ev.now _), by rw [hs, hm, List.take_length]⟩)
    (fun i s hi hs => by
      right
      have hil : i < l.length := by omega
      obtain ⟨row, r1, r2, r3⟩ := h i hil
      have hrow : rd_L3 m (i : Int) = row := by
        rw [rdL hi]
        rw [List.getElem?_eq_getElem hi] at r1
        exact Option.some.inj r1
      have hx := h2 _ (List.getElem_mem hil)
      have hb := hle i
      have hh := held_ints row s (by omega) (by omega) (by omega) (fun j hj => by rw [r3 j hj, hs])
      refine ⟨s + (row.length : Int), by rw [sumLen_take hil, hs, r2]; omega, fun r hr => ev_succ ?_⟩
      simp only [laws_heldIntSS.l0, if_pos (ltc hi), if_pos (nnc i), hrow, succ_cast hi (by omega)]
      refine Ev.bind hh ?_
      simp only [if_neg (show ¬ s + (row.length : Int) < 0 by omega)]
      exact hr) m.length 0 a (by omega) (by omega) (by simp [sumLen])
  rw [hp] at hr
  exact hr
/-! #### ties: converted, held against one another, marked -/
def tieOf (x : S92) : S90 := ⟨x.f0, x.f1⟩
theorem rd92 {l : List S92} {i : Nat} (h : i < l.length) : rd_T92 l (i : Int) = l[i] := by simp [rd_T92, h]
theorem rd90 {l : List S90} {i : Nat} (h : i < l.length) : rd_T90 l (i : Int) = l[i] := by simp [rd_T90, h]
theorem to_ties (l : List S92) (h1 : l.length ≤ 8796093021952) : Ev (fun k => laws_toPairS.f k l) (l.map tieOf) := by
  unfold laws_toPairS.f
  simp only [if_pos (nnc l.length), toNat_cast, if_pos (show l.length ≤ 17592186044416 by omega)]
  refine ev_map l z90 tieOf (fun k x i => laws_toPairS.l0 k l x i) (fun _ x => some (tieOf x)) (fun i hi => Ev.now _) ?_ ?_
  · intro k x i hi hx
    simp only [laws_toPairS.l0, if_pos (ltc hi), if_pos (nnc i), laws_toPair.f, Option.bind_some, if_pos (show (i : Int) < (x.length : Int) by omega), toNat_cast, rd92 hi, succ_cast hi (by omega)]
    rfl
  · intro k x
    simp only [laws_toPairS.l0, if_neg (no_lt l.length)]
theorem eq_ties (l : List S90) (h1 : l.length ≤ 8796093021952) : Ev (fun k => laws_eqPairS.f k l l) true := by
  unfold laws_eqPairS.f
  simp only [if_true]
  refine ev_trues (n := l.length) (fun k i => laws_eqPairS.l0 k l l i) (fun _ _ => some true) (fun i hi => Ev.now _) ?_ ?_
  · intro k i hi
    simp only [laws_eqPairS.l0, if_pos (ltc hi), if_pos (nnc i), laws_eqPair.f, if_true, Option.bind_some, succ_cast hi (by omega)]
  · intro k
    simp only [laws_eqPairS.l0, if_neg (no_lt l.length)]
theorem mark_ties (l : List S90) (hl : l.length ≤ 8796093021952) : ∃ r : Int × List S90, Ev (fun k => laws_markPairS.f k l 1) r ∧ r.1 = 1 + 2 * (l.length : Int) := by
  unfold laws_markPairS.f
  exact Ev_up (fun k (i : Nat) (s : List S90 × Int) => laws_markPairS.l0 k s.1 s.2 (i : Int)) l.length (fun i s => s.1.length = l.length ∧ s.2 = 1 + 2 * (i : Int)) (fun r => r.1 = 1 + 2 * (l.length : Int))
    (fun s hs => ⟨(s.2, s.1), ev_succ (by simp only [laws_markPairS.l0, if_neg (show ¬ (l.length : Int) < (s.1.length : Int) by have := hs.1; omega)]; exact Ev.now _), hs.2⟩)
    (fun i s hi hs => by
      right
      obtain ⟨x0, x1⟩ := s
      obtain ⟨h1, h2⟩ := hs
      dsimp only at h1 h2
      refine ⟨((x0.set i (⟨x1, (rd_T90 x0 (i : Int)).f1⟩ : S90)).set i (⟨(rd_T90 (x0.set i (⟨x1, (rd_T90 x0 (i : Int)).f1⟩ : S90)) (i : Int)).f0, x1 + 1⟩ : S90), x1 + 1 + 1), ⟨by simp only [List.length_set]; exact h1, by dsimp only; omega⟩, fun r hr => ev_succ ?_⟩
      simp only [laws_markPairS.l0, if_pos (show (i : Int) < (x0.length : Int) by omega), if_pos (nnc i), toNat_cast, Option.bind_some, succ_cast hi (by omega), wrap_small (show -9223372036854775808 ≤ x1 + 1 by omega) (show x1 + 1 ≤ 9223372036854775807 by omega), wrap_small (show -9223372036854775808 ≤ x1 + 1 + 1 by omega) (show x1 + 1 + 1 ≤ 9223372036854775807 by omega)]
      exact hr) l.length 0 (l, 1) (by omega) (by omega) ⟨rfl, rfl⟩
/-! #### the least one that each hangs on -/
def low (F : List Int) (t : S90) : Int := mn (rd F t.f0) (rd F t.f1)
def high (F : List Int) (t : S90) : Int := mx (rd F t.f0) (rd F t.f1)
def put (lo hi x : Int) : Int := if x = hi then lo else x
def tie (F : List Int) (t : S90) : List Int := F.map (put (low F t) (high F t))
def start (n : Nat) : List Int := (List.range n).map fun i : Nat => (i : Int)
/-- Each hangs on one that is no greater and hangs on itself. -/
structure Hung (F : List Int) (n : Nat) : Prop where
  len : F.length = n
  at_ : ∀ i, i < n → 0 ≤ rd F (i : Int) ∧ rd F (i : Int) ≤ (i : Int) ∧ rd F (rd F (i : Int)) = rd F (i : Int)
def tieOk (n : Nat) (t : S90) : Bool := decide (0 ≤ t.f0 ∧ t.f0 < t.f1 ∧ t.f1 < (n : Int))
theorem tieOk_iff {n : Nat} {t : S90} : tieOk n t = true ↔ 0 ≤ t.f0 ∧ t.f0 < t.f1 ∧ t.f1 < (n : Int) := by unfold tieOk; rw [decide_eq_true_eq]
theorem rd_map {F : List Int} {h : Int → Int} {i : Int} (h0 : 0 ≤ i) (h1 : i < (F.length : Int)) : rd (F.map h) i = h (rd F i) := by
  obtain ⟨j, rfl⟩ : ∃ j : Nat, i = (j : Int) := ⟨i.toNat, by omega⟩
  have hj : j < F.length := by omega
  rw [rd_at (by rw [List.length_map]; exact hj), rd_at hj, List.getElem_map]
theorem start_rd {n i : Nat} (h : i < n) : rd (start n) (i : Int) = (i : Int) := by
  have : i < (start n).length := by simp [start, h]
  rw [rd_at this]
  simp [start]
theorem hung_start (n : Nat) : Hung (start n) n := by
  refine ⟨by simp [start], fun i hi => ?_⟩
  rw [start_rd hi, start_rd hi]
  omega
theorem hung_at {F : List Int} {n : Nat} (h : Hung F n) {i : Int} (h0 : 0 ≤ i) (h1 : i < (n : Int)) : 0 ≤ rd F i ∧ rd F i ≤ i ∧ rd F (rd F i) = rd F i := by
  obtain ⟨j, rfl⟩ : ∃ j : Nat, i = (j : Int) := ⟨i.toNat, by omega⟩
  exact h.at_ j (by omega)
theorem hung_tie {F : List Int} {n : Nat} (h : Hung F n) {t : S90} (ht : tieOk n t = true) : Hung (tie F t) n := by
  obtain ⟨t0, t1, t2⟩ := tieOk_iff.1 ht
  have a := hung_at h t0 (by omega)
  have b := hung_at h (i := t.f1) (by omega) t2
  have hl : F.length = n := h.len
  have key : ∃ lo hi : Int, low F t = lo ∧ high F t = hi ∧ 0 ≤ lo ∧ lo ≤ hi ∧ lo < (n : Int) ∧ rd F lo = lo ∧ rd F hi = hi := by
    unfold low high mn mx
    by_cases c : rd F t.f1 < rd F t.f0
    · exact ⟨_, _, if_pos c, if_neg (by omega), b.1, by omega, by omega, b.2.2, a.2.2⟩
    · by_cases d : rd F t.f0 < rd F t.f1
      · exact ⟨_, _, if_neg c, if_pos d, a.1, by omega, by omega, a.2.2, b.2.2⟩
      · exact ⟨_, _, if_neg c, if_neg d, a.1, by omega, by omega, a.2.2, a.2.2⟩
  obtain ⟨lo, hi, e1, e2, g0, g1, g2, r1, r2⟩ := key
  unfold tie
  rw [e1, e2]
  refine ⟨by rw [List.length_map]; exact hl, fun i hi_ => ?_⟩
  have c := h.at_ i hi_
  rw [rd_map (by omega) (by omega)]
  unfold put
  by_cases q : rd F (i : Int) = hi
  · rw [if_pos q, rd_map g0 (by omega), r1]
    refine ⟨g0, by omega, ?_⟩
    split <;> rfl
  · rw [if_neg q, rd_map c.1 (by omega), c.2.2, if_neg q]
    exact ⟨c.1, c.2.1, rfl⟩
theorem hung_ties (n : Nat) : ∀ (l : List S90) (F : List Int), Hung F n → (∀ t ∈ l, tieOk n t = true) → Hung (l.foldl tie F) n
  | [], _, h, _ => h
  | t :: l, F, h, ht => hung_ties n l (tie F t) (hung_tie h (ht t (List.mem_cons_self ..))) (fun x hx => ht x (List.mem_cons_of_mem _ hx))
/-! #### the rows -/
def rootB (F : List Int) (i : Nat) : Bool := decide (rd F (i : Int) = (i : Int))
def rowAt (F : List Int) (m r : Nat) : List Int := ((List.range m).filter fun k : Nat => decide (rd F (k : Int) = (r : Int))).map fun k : Nat => (k : Int)
def rootsTo (F : List Int) (i : Nat) : List Nat := (List.range i).filter (rootB F)
def rowsAt (F : List Int) (m i : Nat) : List (List Int) := (rootsTo F i).map (rowAt F m)
theorem roots_next (F : List Int) (i : Nat) : rootsTo F (i + 1) = if rootB F i = true then rootsTo F i ++ [i] else rootsTo F i := by
  unfold rootsTo
  rw [List.range_succ, List.filter_append]
  cases h : rootB F i with
  | true => simp [h]
  | false => simp [h]
theorem row_next (F : List Int) (i r : Nat) : rowAt F (i + 1) r = if rd F (i : Int) = (r : Int) then rowAt F i r ++ [(i : Int)] else rowAt F i r := by
  unfold rowAt
  rw [List.range_succ, List.filter_append, List.map_append]
  by_cases h : rd F (i : Int) = (r : Int)
  · simp [h]
  · simp [h]
theorem row_le (F : List Int) (m r : Nat) : (rowAt F m r).length ≤ m := by
  unfold rowAt
  rw [List.length_map]
  exact Nat.le_trans (List.length_filter_le _ _) (by rw [List.length_range]; exact Nat.le_refl _)
theorem roots_le (F : List Int) (i : Nat) : (rootsTo F i).length ≤ i := by
  unfold rootsTo
  exact Nat.le_trans (List.length_filter_le _ _) (by rw [List.length_range]; exact Nat.le_refl _)
theorem roots_mem {F : List Int} {i r : Nat} : r ∈ rootsTo F i ↔ r < i ∧ rd F (r : Int) = (r : Int) := by
  unfold rootsTo rootB
  rw [List.mem_filter, List.mem_range, decide_eq_true_eq]
theorem roots_nodup (F : List Int) (i : Nat) : (rootsTo F i).Nodup := List.Nodup.sublist List.filter_sublist List.nodup_range
theorem roots_at {F : List Int} {f : Nat} (hf : rootB F f = true) : ∀ i, f < i → (rootsTo F i)[(rootsTo F f).length]? = some f := by
  intro i
  induction i with
  | zero => intro h; omega
  | succ i ih =>
    intro h
    rw [roots_next]
    by_cases e : f = i
    · subst e
      rw [if_pos hf]
      simp
    · have h2 := ih (by omega)
      have h3 := (List.getElem?_eq_some_iff.1 h2).1
      by_cases c : rootB F i = true
      · rw [if_pos c, List.getElem?_append_left h3]; exact h2
      · rw [if_neg c]; exact h2
theorem roots_len {F : List Int} {f i : Nat} (hf : rootB F f = true) (h : f < i) : (rootsTo F f).length < (rootsTo F i).length := (List.getElem?_eq_some_iff.1 (roots_at hf i h)).1
theorem rows_len (F : List Int) (m i : Nat) : (rowsAt F m i).length = (rootsTo F i).length := by unfold rowsAt; rw [List.length_map]
theorem rows_at {F : List Int} {f i : Nat} (m : Nat) (hf : rootB F f = true) (h : f < i) : (rowsAt F m i)[(rootsTo F f).length]? = some (rowAt F m f) := by
  unfold rowsAt
  rw [List.getElem?_map, roots_at hf i h]
  rfl
theorem nodup_inj {L : List Nat} (hn : L.Nodup) {i j : Nat} (hi : i < L.length) (hj : j < L.length) (h : L[i] = L[j]) : i = j := by
  have hp := List.pairwise_iff_getElem.1 hn
  rcases Nat.lt_trichotomy i j with c | c | c
  · exact absurd h (hp i j hi hj c)
  · exact c
  · exact absurd h.symm (hp j i hj hi c)
/-- One list changed at the place of one element, all apart. -/
theorem map_set {β : Type} (L : List Nat) (hn : L.Nodup) (p f : Nat) (hp : L[p]? = some f) (g g' : Nat → β) (v : β) (hv : g' f = v) (ho : ∀ r, r ≠ f → g' r = g r) : (L.map g).set p v = L.map g' := by
  apply List.ext_getElem?
  intro j
  rw [List.getElem?_map, List.getElem?_set, List.length_map, List.getElem?_map]
  obtain ⟨hp1, hp2⟩ := List.getElem?_eq_some_iff.1 hp
  by_cases e : p = j
  · subst e
    rw [if_pos rfl, if_pos hp1, hp]
    simp [hv]
  · rw [if_neg e]
    by_cases hj : j < L.length
    · rw [List.getElem?_eq_getElem hj]
      have : L[j] ≠ f := fun h => e (nodup_inj hn hp1 hj (hp2.trans h.symm))
      simp [ho _ this]
    · rw [List.getElem?_eq_none (by omega)]; rfl
/-! #### the reference -/
theorem rng_len (n : Nat) : (start n).length = n := by simp [start]
theorem spec_l2 (a0 : Int) (F : List Int) (lo up : Int) (T : List S90) (m : Nat) (v : List (List Int) × Bool) (n : Nat) (hn : F.length = n) (hb : n ≤ 40) (hm : m < T.length) (ht : T.length ≤ 200) (hv : Ev (fun k => spec_IslandsOf.l1 k a0 (F.map (put lo up)) T (T.length : Int) ((m + 1 : Nat) : Int)) v) (d : Nat) :
    ∀ (i : Nat) (A : List Int), n - i = d → i ≤ n → A.length = n → (∀ j, j < i → rd A (j : Int) = put lo up (rd F (j : Int))) → (∀ j, i ≤ j → j < n → rd A (j : Int) = rd F (j : Int)) → Ev (fun k => spec_IslandsOf.l2 k a0 A lo up T (T.length : Int) (m : Int) (n : Int) (i : Int)) v := by
  induction d with
  | zero =>
    intro i A hd hi hA h1 h2
    obtain rfl : i = n := by omega
    have e : A = F.map (put lo up) := by
      apply List.ext_getElem (by rw [List.length_map]; omega)
      intro j j1 j2
      have := h1 j (by omega)
      rw [rd_at j1, rd_at (by omega)] at this
      rw [this, List.getElem_map]
    refine ev_succ ?_
    simp only [spec_IslandsOf.l2, if_neg (no_lt i), succ_cast hm (by omega), e]
    exact hv
  | succ d ih =>
    intro i A hd hi hA h1 h2
    have hlt : i < n := by omega
    have hx : rd A (i : Int) = rd F (i : Int) := h2 i (Nat.le_refl _) hlt
    refine ev_succ ?_
    simp only [spec_IslandsOf.l2, if_pos (ltc hlt), if_pos (nnc i), if_pos (show (i : Int) < (A.length : Int) by omega), succ_cast hlt (by omega), toNat_cast]
    by_cases c : rd A (i : Int) = up
    · simp only [if_pos c]
      refine ih (i + 1) (A.set i lo) (by omega) (by omega) (by rw [List.length_set]; exact hA) (fun j hj => ?_) (fun j hj hj2 => ?_)
      · rw [rd_at (by rw [List.length_set]; omega)]
        by_cases e : i = j
        · subst e
          rw [List.getElem_set_self, ← hx]
          unfold put; rw [if_pos c]
        · rw [List.getElem_set_ne e, ← rd_at (by omega)]
          exact h1 j (by omega)
      · rw [rd_at (by rw [List.length_set]; omega), List.getElem_set_ne (by omega), ← rd_at (by omega)]
        exact h2 j (by omega) hj2
    · simp only [if_neg c]
      refine ih (i + 1) A (by omega) (by omega) hA (fun j hj => ?_) (fun j hj hj2 => h2 j (by omega) hj2)
      by_cases e : j = i
      · subst e; rw [hx] at c ⊢; unfold put; rw [if_neg c]
      · exact h1 j (by omega)
theorem spec_l4 (F : List Int) (out : List (List Int)) (r : Nat) (n : Nat) (hn : F.length = n) (hb : n ≤ 40) (hr : r < n) (ho : out.length ≤ 40) (v : List (List Int) × Bool) (hv : Ev (fun k => spec_IslandsOf.l3 k F (out ++ [rowAt F n r]) (n : Int) ((r + 1 : Nat) : Int)) v) (d : Nat) :
    ∀ i, n - i = d → i ≤ n → Ev (fun k => spec_IslandsOf.l4 k F out (r : Int) (rowAt F i r) (n : Int) (r : Int) (n : Int) (i : Int)) v := by
  induction d with
  | zero =>
    intro i hd hi
    obtain rfl : i = n := by omega
    refine ev_succ ?_
    simp only [spec_IslandsOf.l4, if_neg (no_lt i), succ_cast hr (by omega), if_pos (show out.length < 5864062014805 by omega)]
    exact hv
  | succ d ih =>
    intro i hd hi
    have hlt : i < n := by omega
    have hle := row_le F i r
    have ih := ih (i + 1) (by omega) (by omega)
    rw [row_next] at ih
    refine ev_succ ?_
    simp only [spec_IslandsOf.l4, if_pos (ltc hlt), if_pos (nnc i), if_pos (show (i : Int) < (F.length : Int) by omega), succ_cast hlt (by omega), if_pos (show (rowAt F i r).length < 17592186044416 by omega)]
    by_cases c : rd F (i : Int) = (r : Int)
    · simp only [if_pos c] at ih ⊢; exact ih
    · simp only [if_neg c] at ih ⊢; exact ih
theorem spec_l3 (F : List Int) (n : Nat) (hn : F.length = n) (hb : n ≤ 40) (d : Nat) : ∀ i, n - i = d → i ≤ n → Ev (fun k => spec_IslandsOf.l3 k F (rowsAt F n i) (n : Int) (i : Int)) (rowsAt F n n, true) := by
  induction d with
  | zero =>
    intro i hd hi
    obtain rfl : i = n := by omega
    refine ev_succ ?_
    simp only [spec_IslandsOf.l3, if_neg (no_lt i)]
    exact Ev.now _
  | succ d ih =>
    intro i hd hi
    have hlt : i < n := by omega
    have hle : (rowsAt F n i).length ≤ i := by rw [rows_len]; exact roots_le F i
    have ih := ih (i + 1) (by omega) (by omega)
    have e : rowsAt F n (i + 1) = if rootB F i = true then rowsAt F n i ++ [rowAt F n i] else rowsAt F n i := by
      unfold rowsAt
      rw [roots_next]
      split
      · rw [List.map_append]; rfl
      · rfl
    rw [e] at ih
    refine ev_succ ?_
    simp only [spec_IslandsOf.l3, if_pos (ltc hlt), if_pos (nnc i), if_pos (show (i : Int) < (F.length : Int) by omega), succ_cast hlt (by omega)]
    unfold rootB at ih
    by_cases c : rd F (i : Int) = (i : Int)
    · rw [if_pos (decide_eq_true c)] at ih
      simp only [if_pos c]
      rw [hn]
      have h4 := spec_l4 F _ i n hn hb hlt (by omega) _ ih n 0 (by omega) (by omega)
      exact h4
    · rw [if_neg (by rw [decide_eq_true_eq]; exact c)] at ih
      simp only [if_neg c]
      exact ih
def islandsV (n : Nat) (T : List S90) : List (List Int) × Bool := if (∀ t ∈ T, tieOk n t = true) then (rowsAt (T.foldl tie (start n)) n n, true) else ([], false)
theorem spec_l1 (n : Nat) (hb : n ≤ 40) (T : List S90) (ht : T.length ≤ 200) (d : Nat) : ∀ (m : Nat) (F : List Int), T.length - m = d → m ≤ T.length → Hung F n → Ev (fun k => spec_IslandsOf.l1 k (n : Int) F T (T.length : Int) (m : Int)) (if (∀ t ∈ T.drop m, tieOk n t = true) then (rowsAt ((T.drop m).foldl tie F) n n, true) else ([], false)) := by
  induction d with
  | zero =>
    intro m F hd hm hF
    have e : T.drop m = [] := List.drop_eq_nil_of_le (by omega)
    obtain rfl : m = T.length := by omega
    rw [if_pos (by rw [e]; intro t h; cases h), e]
    refine ev_succ ?_
    have hl := hF.len
    simp only [spec_IslandsOf.l1, if_neg (no_lt T.length), List.foldl_nil, hl]
    exact spec_l3 F n hl hb n 0 (by omega) (by omega)
  | succ d ih =>
    intro m F hd hm hF
    have hlt : m < T.length := by omega
    have hl := hF.len
    rw [drop_cons hlt]
    refine ev_succ ?_
    have w1 : wrap64 ((n : Int) - 1) = (n : Int) - 1 := wrap_small (by omega) (by omega)
    simp only [spec_IslandsOf.l1, if_pos (ltc hlt), if_pos (nnc m), rd90 hlt, w1, spec_in, Option.bind_some]
    by_cases g : tieOk n T[m] = true
    · obtain ⟨g0, g1, g2⟩ := tieOk_iff.1 g
      have w2 : wrap64 (T[m].f0 + 1) = T[m].f0 + 1 := wrap_small (by omega) (by omega)
      have ih := ih (m + 1) (tie F T[m]) (by omega) (by omega) (hung_tie hF g)
      simp only [if_pos (inB_iff.2 (show (0 : Int) ≤ T[m].f0 ∧ T[m].f0 ≤ (n : Int) - 1 by omega)), w2, inB_iff.2 (show T[m].f0 + 1 ≤ T[m].f1 ∧ T[m].f1 ≤ (n : Int) - 1 by omega), Bool.not_true]
      have e : (∀ t ∈ T[m] :: T.drop (m + 1), tieOk n t = true) ↔ ∀ t ∈ T.drop (m + 1), tieOk n t = true := by
        rw [List.forall_mem_cons]; exact ⟨fun h => h.2, fun h => ⟨g, h⟩⟩
      rw [List.foldl_cons]
      simp only [e]
      refine ev_succ ?_
      simp only [spec_IslandsOf.j3, Bool.false_eq_true, if_false, if_pos g0, if_pos (show T[m].f0 < (F.length : Int) by omega), if_pos (show (0 : Int) ≤ T[m].f1 by omega), if_pos (show T[m].f1 < (F.length : Int) by omega)]
      have go : ∀ lo hi : Int, lo = low F T[m] → hi = high F T[m] → Ev (fun k => spec_IslandsOf.j4 k (n : Int) F lo hi T (T.length : Int) (m : Int)) (if (∀ t ∈ T.drop (m + 1), tieOk n t = true) then (rowsAt ((T.drop (m + 1)).foldl tie (tie F T[m])) n n, true) else ([], false)) := by
        rintro lo hi rfl rfl
        refine ev_succ ?_
        simp only [spec_IslandsOf.j4, hl]
        exact spec_l2 (n : Int) F _ _ T m _ n hl hb hlt ht ih n 0 F (by omega) (by omega) hl (fun j hj => absurd hj (Nat.not_lt_zero _)) (fun j _ _ => rfl)
      by_cases c : rd F T[m].f0 > rd F T[m].f1
      · simp only [if_pos c]
        exact go _ _ (by unfold low mn; rw [if_pos (by omega)]) (by unfold high mx; rw [if_neg (by omega)])
      · simp only [if_neg c]
        refine go _ _ (by unfold low mn; rw [if_neg (by omega)]) ?_
        unfold high mx
        by_cases q : rd F T[m].f0 < rd F T[m].f1
        · rw [if_pos q]
        · rw [if_neg q]; omega
    · have hno : ¬ ∀ t ∈ T[m] :: T.drop (m + 1), tieOk n t = true := fun h => g (h _ (List.mem_cons_self ..))
      rw [if_neg hno]
      have no : Ev (fun k => spec_IslandsOf.j3 k (n : Int) F T (T.length : Int) (m : Int) true T[m].f0 T[m].f1) ([], false) := ev_succ (by simp only [spec_IslandsOf.j3, if_true]; exact Ev.now _)
      by_cases c : inB T[m].f0 0 ((n : Int) - 1) = true
      · obtain ⟨c0, c1⟩ := inB_iff.1 c
        have w2 : wrap64 (T[m].f0 + 1) = T[m].f0 + 1 := wrap_small (by omega) (by omega)
        have c2 : inB T[m].f1 (T[m].f0 + 1) ((n : Int) - 1) = false := by
          rw [Bool.eq_false_iff]
          intro h
          have h := inB_iff.1 h
          exact g (tieOk_iff.2 ⟨c0, by omega, by omega⟩)
        simp only [if_pos c, w2, c2, Bool.not_false]
        exact no
      · simp only [if_neg c]
        exact no
theorem spec_l0 (a0 : Int) (T : List S90) (n : Nat) (hb : n ≤ 40) (v : List (List Int) × Bool) (hv : Ev (fun k => spec_IslandsOf.l1 k a0 (start n) T (T.length : Int) 0) v) (d : Nat) :
    ∀ (i : Nat) (A : List Int), n - i = d → i ≤ n → A.length = n → (∀ j, j < i → rd A (j : Int) = (j : Int)) → Ev (fun k => spec_IslandsOf.l0 k a0 T A (n : Int) (i : Int)) v := by
  induction d with
  | zero =>
    intro i A hd hi hA h1
    obtain rfl : i = n := by omega
    have e : A = start i := by
      apply List.ext_getElem (by rw [rng_len]; omega)
      intro j j1 j2
      have := h1 j (by omega)
      rw [rd_at j1] at this
      rw [this]
      simp [start]
    refine ev_succ ?_
    simp only [spec_IslandsOf.l0, if_neg (no_lt i), e]
    exact hv
  | succ d ih =>
    intro i A hd hi hA h1
    have hlt : i < n := by omega
    refine ev_succ ?_
    simp only [spec_IslandsOf.l0, if_pos (ltc hlt), if_pos (nnc i), if_pos (show (i : Int) < (A.length : Int) by omega), succ_cast hlt (by omega), toNat_cast]
    refine ih (i + 1) (A.set i (i : Int)) (by omega) (by omega) (by rw [List.length_set]; exact hA) (fun j hj => ?_)
    rw [rd_at (by rw [List.length_set]; omega)]
    by_cases e : i = j
    · subst e; rw [List.getElem_set_self]
    · rw [List.getElem_set_ne e, ← rd_at (by omega)]
      exact h1 j (by omega)
def allV (a0 : Int) (T : List S90) : List (List Int) × Bool := if inB a0 0 40 = true ∧ (T.length : Int) ≤ 200 then islandsV a0.toNat T else ([], false)
theorem spec_all (a0 : Int) (T : List S90) : Ev (fun k => spec_IslandsOf.f k a0 T) (allV a0 T) := by
  unfold spec_IslandsOf.f allV
  simp only [spec_in, Option.bind_some]
  have no : Ev (fun k => spec_IslandsOf.j0 k a0 T true) ([], false) := ev_succ (by simp only [spec_IslandsOf.j0, if_true]; exact Ev.now _)
  by_cases c : inB a0 0 40 = true
  · simp only [if_pos c]
    by_cases q : (T.length : Int) ≤ 200
    · rw [if_pos ⟨c, q⟩, decide_eq_false (show ¬ (T.length : Int) > 200 by omega)]
      obtain ⟨c0, c1⟩ := inB_iff.1 c
      obtain ⟨n, rfl⟩ : ∃ n : Nat, a0 = (n : Int) := ⟨a0.toNat, by omega⟩
      refine ev_succ ?_
      simp only [spec_IslandsOf.j0, Bool.false_eq_true, if_false, if_pos c0, toNat_cast, if_pos (show n ≤ 35184372088832 by omega), Option.bind_some, List.length_replicate]
      refine spec_l0 (n : Int) T n (by omega) _ ?_ n 0 _ (by omega) (by omega) (by rw [List.length_replicate]) (fun j hj => absurd hj (Nat.not_lt_zero _))
      exact spec_l1 n (by omega) T (by omega) T.length 0 (start n) (by omega) (by omega) (hung_start n)
    · rw [if_neg (fun h => q h.2), decide_eq_true (show (T.length : Int) > 200 by omega)]
      exact no
  · rw [if_neg (fun h => c h.1)]
    simp only [if_neg c]
    exact no
/-! #### the program -/
theorem impl_l2 (F : List Int) (lo up : Int) (T : List S90) (m : Nat) (v : List (List Int) × Bool) (n : Nat) (hn : F.length = n) (hb : n ≤ 40) (hm : m < T.length) (ht : T.length ≤ 200) (hv : Ev (fun k => impl_IslandsOf.l1 k (F.map (put lo up)) T (T.length : Int) ((m + 1 : Nat) : Int)) v) (d : Nat) :
    ∀ (i : Nat) (A : List Int), n - i = d → i ≤ n → A.length = n → (∀ j, j < i → rd A (j : Int) = put lo up (rd F (j : Int))) → (∀ j, i ≤ j → j < n → rd A (j : Int) = rd F (j : Int)) → Ev (fun k => impl_IslandsOf.l2 k A lo up T (T.length : Int) (m : Int) (n : Int) (i : Int)) v := by
  induction d with
  | zero =>
    intro i A hd hi hA h1 h2
    obtain rfl : i = n := by omega
    have e : A = F.map (put lo up) := by
      apply List.ext_getElem (by rw [List.length_map]; omega)
      intro j j1 j2
      have := h1 j (by omega)
      rw [rd_at j1, rd_at (by omega)] at this
      rw [this, List.getElem_map]
    refine ev_succ ?_
    simp only [impl_IslandsOf.l2, if_neg (no_lt i), succ_cast hm (by omega), e]
    exact hv
  | succ d ih =>
    intro i A hd hi hA h1 h2
    have hlt : i < n := by omega
    have hx : rd A (i : Int) = rd F (i : Int) := h2 i (Nat.le_refl _) hlt
    refine ev_succ ?_
    simp only [impl_IslandsOf.l2, if_pos (ltc hlt), if_pos (nnc i), if_pos (show (i : Int) < (A.length : Int) by omega), succ_cast hlt (by omega), toNat_cast]
    by_cases c : rd A (i : Int) = up
    · simp only [if_pos c]
      refine ih (i + 1) (A.set i lo) (by omega) (by omega) (by rw [List.length_set]; exact hA) (fun j hj => ?_) (fun j hj hj2 => ?_)
      · rw [rd_at (by rw [List.length_set]; omega)]
        by_cases e : i = j
        · subst e
          rw [List.getElem_set_self, ← hx]
          unfold put; rw [if_pos c]
        · rw [List.getElem_set_ne e, ← rd_at (by omega)]
          exact h1 j (by omega)
      · rw [rd_at (by rw [List.length_set]; omega), List.getElem_set_ne (by omega), ← rd_at (by omega)]
        exact h2 j (by omega) hj2
    · simp only [if_neg c]
      refine ih (i + 1) A (by omega) (by omega) hA (fun j hj => ?_) (fun j hj hj2 => h2 j (by omega) hj2)
      by_cases e : j = i
      · subst e; rw [hx] at c ⊢; unfold put; rw [if_neg c]
      · exact h1 j (by omega)
theorem impl_l3 (F : List Int) (n : Nat) (hF : Hung F n) (hb : n ≤ 40) (d : Nat) : ∀ (i : Nat) (P : List Int), n - i = d → i ≤ n → P.length = n → (∀ r, r < i → rootB F r = true → rd P (r : Int) = ((rootsTo F r).length : Int)) → Ev (fun k => impl_IslandsOf.l3 k (rowsAt F i i) P F (n : Int) (i : Int)) (rowsAt F n n, true) := by
  have hl := hF.len
  induction d with
  | zero =>
    intro i P hd hi hP h1
    obtain rfl : i = n := by omega
    refine ev_succ ?_
    simp only [impl_IslandsOf.l3, if_neg (no_lt i)]
    exact Ev.now _
  | succ d ih =>
    intro i P hd hi hP h1
    have hlt : i < n := by omega
    obtain ⟨f0, f1, f2⟩ := hF.at_ i hlt
    have hle : (rowsAt F i i).length ≤ i := by rw [rows_len]; exact roots_le F i
    refine ev_succ ?_
    simp only [impl_IslandsOf.l3, if_pos (ltc hlt), if_pos (nnc i), if_pos (show (i : Int) < (F.length : Int) by omega), succ_cast hlt (by omega)]
    by_cases c : rd F (i : Int) = (i : Int)
    · have hroot : rootB F i = true := decide_eq_true c
      simp only [c, if_true, if_pos (show (i : Int) < (P.length : Int) by omega), Option.bind_some, if_pos (show (rowsAt F i i).length < 5864062014805 by omega), if_pos (nnc i), toNat_cast]
      have hp : rd (P.set i ((rowsAt F i i).length : Int)) (i : Int) = ((rowsAt F i i).length : Int) := by
        rw [rd_at (by rw [List.length_set]; omega), List.getElem_set_self]
      have hrow : rd_L3 (rowsAt F i i ++ [[]]) ((rowsAt F i i).length : Int) = [] := by
        rw [rdL (by simp), List.getElem_append_right (Nat.le_refl _)]; simp
      simp only [hp, hrow, if_pos (nnc (rowsAt F i i).length), if_pos (show ((rowsAt F i i).length : Int) < ((rowsAt F i i ++ [[]]).length : Int) by rw [List.length_append, List.length_singleton]; omega), if_pos (show ([] : List Int).length < 17592186044416 by decide), toNat_cast, List.nil_append]
      have hnew : (rowsAt F i i ++ [[]]).set (rowsAt F i i).length [(i : Int)] = rowsAt F (i + 1) (i + 1) := by
        rw [List.set_append_right _ _ (Nat.le_refl _), Nat.sub_self, List.set_cons_zero]
        unfold rowsAt
        rw [roots_next, if_pos hroot, List.map_append, List.map_singleton]
        refine congr (congrArg _ ?_) ?_
        · apply List.map_congr_left
          intro r hr
          have := roots_mem.1 hr
          rw [row_next, if_neg (by omega)]
        · congr 1
          rw [row_next, if_pos c]
          have : rowAt F i i = [] := by
            unfold rowAt
            rw [List.map_eq_nil_iff, List.filter_eq_nil_iff]
            intro k hk
            have hk := List.mem_range.1 hk
            have := hF.at_ k (by omega)
            rw [decide_eq_true_eq]
            omega
          rw [this]; rfl
      rw [hnew]
      refine ih (i + 1) _ (by omega) (by omega) (by rw [List.length_set]; exact hP) (fun r hr hrt => ?_)
      by_cases e : r = i
      · subst e; rw [hp, rows_len]
      · rw [rd_at (by rw [List.length_set]; omega), List.getElem_set_ne (by omega), ← rd_at (by omega)]
        exact h1 r (by omega) hrt
    · obtain ⟨f, hf⟩ : ∃ f : Nat, rd F (i : Int) = (f : Int) := ⟨(rd F (i : Int)).toNat, by omega⟩
      rw [hf] at f0 f1 f2 c
      have hfi : f < i := by omega
      have hroot : rootB F f = true := decide_eq_true f2
      have hnr : ¬ rootB F i = true := by unfold rootB; rw [decide_eq_true_eq, hf]; exact c
      have hpf := h1 f hfi hroot
      have hlen := roots_len hroot hfi
      have hat := rows_at i hroot hfi
      obtain ⟨hat1, hat2⟩ := List.getElem?_eq_some_iff.1 hat
      have hrl := row_le F i f
      simp only [hf, if_neg c, hpf, if_pos (nnc f), if_pos (nnc (rootsTo F f).length), if_pos (show (f : Int) < (P.length : Int) by omega), if_pos (show ((rootsTo F f).length : Int) < ((rowsAt F i i).length : Int) by omega), rdL hat1, hat2, if_pos (show (rowAt F i f).length < 17592186044416 by omega), toNat_cast]
      have hnew : (rowsAt F i i).set (rootsTo F f).length (rowAt F i f ++ [(i : Int)]) = rowsAt F (i + 1) (i + 1) := by
        unfold rowsAt
        rw [roots_next, if_neg hnr]
        refine map_set _ (roots_nodup F i) _ f (roots_at hroot i hfi) _ _ _ ?_ (fun r hr => ?_)
        · rw [row_next, if_pos hf]
        · rw [row_next, if_neg (by rw [hf]; omega)]
      rw [hnew]
      refine ih (i + 1) P (by omega) (by omega) hP (fun r hr hrt => ?_)
      by_cases e : r = i
      · subst e; exact absurd hrt hnr
      · exact h1 r (by omega) hrt
theorem impl_l1 (n : Nat) (hb : n ≤ 40) (T : List S90) (ht : T.length ≤ 200) (hg : ∀ t ∈ T, tieOk n t = true) (d : Nat) : ∀ (m : Nat) (F : List Int), T.length - m = d → m ≤ T.length → Hung F n → Ev (fun k => impl_IslandsOf.l1 k F T (T.length : Int) (m : Int)) (rowsAt ((T.drop m).foldl tie F) n n, true) := by
  induction d with
  | zero =>
    intro m F hd hm hF
    have e : T.drop m = [] := List.drop_eq_nil_of_le (by omega)
    obtain rfl : m = T.length := by omega
    rw [e]
    have hl := hF.len
    refine ev_succ ?_
    simp only [impl_IslandsOf.l1, if_neg (no_lt T.length), List.foldl_nil, hl, if_pos (nnc n), toNat_cast, if_pos (show n ≤ 35184372088832 by omega)]
    exact impl_l3 F n hF hb n 0 _ (by omega) (by omega) (by rw [List.length_replicate]) (fun r hr => absurd hr (Nat.not_lt_zero _))
  | succ d ih =>
    intro m F hd hm hF
    have hlt : m < T.length := by omega
    have hl := hF.len
    have g := hg _ (List.getElem_mem hlt)
    obtain ⟨g0, g1, g2⟩ := tieOk_iff.1 g
    rw [drop_cons hlt, List.foldl_cons]
    have ih := ih (m + 1) (tie F T[m]) (by omega) (by omega) (hung_tie hF g)
    refine ev_succ ?_
    simp only [impl_IslandsOf.l1, if_pos (ltc hlt), if_pos (nnc m), rd90 hlt, if_pos g0, if_pos (show T[m].f0 < (F.length : Int) by omega), if_pos (show (0 : Int) ≤ T[m].f1 by omega), if_pos (show T[m].f1 < (F.length : Int) by omega)]
    rw [hl]
    exact impl_l2 F _ _ T m _ n hl hb hlt ht ih n 0 F (by omega) (by omega) hl (fun j hj => absurd hj (Nat.not_lt_zero _)) (fun j _ _ => rfl)
theorem start_next (i : Nat) : start (i + 1) = start i ++ [(i : Int)] := by unfold start; rw [List.range_succ, List.map_append]; rfl
theorem impl_l0 (T : List S90) (n : Nat) (hb : n ≤ 40) (v : List (List Int) × Bool) (hv : Ev (fun k => impl_IslandsOf.l1 k (start n) T (T.length : Int) 0) v) (d : Nat) :
    ∀ i : Nat, n - i = d → i ≤ n → Ev (fun k => impl_IslandsOf.l0 k T (start i) (n : Int) (i : Int)) v := by
  induction d with
  | zero =>
    intro i hd hi
    obtain rfl : i = n := by omega
    refine ev_succ ?_
    simp only [impl_IslandsOf.l0, if_neg (no_lt i)]
    exact hv
  | succ d ih =>
    intro i hd hi
    have hlt : i < n := by omega
    have ih := ih (i + 1) (by omega) (by omega)
    rw [start_next] at ih
    refine ev_succ ?_
    simp only [impl_IslandsOf.l0, if_pos (ltc hlt), if_pos (show (start i).length < 17592186044416 by rw [rng_len]; omega), succ_cast hlt (by omega)]
    exact ih
theorem impl_all (a0 : Int) (T : List S90) : Ev (fun k => impl_IslandsOf.f k a0 T) (allV a0 T) := by
  unfold impl_IslandsOf.f allV
  simp only [impl_in, Option.bind_some]
  have no : Ev (fun k => impl_IslandsOf.j0 k T true a0) ([], false) := ev_succ (by simp only [impl_IslandsOf.j0, if_true]; exact Ev.now _)
  by_cases c : inB a0 0 40 = true
  · simp only [if_pos c]
    by_cases q : (T.length : Int) ≤ 200
    · rw [if_pos ⟨c, q⟩]
      obtain ⟨c0, c1⟩ := inB_iff.1 c
      obtain ⟨n, rfl⟩ : ∃ n : Nat, a0 = (n : Int) := ⟨a0.toNat, by omega⟩
      have hc : impl_Pair_58.f T (n : Int) = some (T.any fun t => !(tieOk n t)) := anyO_some _ (fun t _ => by
        unfold impl_Pair_58.on tieOk
        congr 1
        rw [Bool.eq_iff_iff]
        simp only [Bool.or_eq_true, decide_eq_true_eq, Bool.not_eq_true', decide_eq_false_iff_not]
        omega)
      simp only [if_neg (show ¬ (T.length : Int) > 200 by omega), hc, Option.bind_some]
      unfold islandsV
      rw [toNat_cast]
      by_cases g : ∀ t ∈ T, tieOk n t = true
      · rw [if_pos g]
        have e : (T.any fun t => !(tieOk n t)) = false := by
          rw [List.any_eq_false]
          intro t h
          rw [g t h]; decide
        rw [e]
        refine ev_succ ?_
        simp only [impl_IslandsOf.j0, Bool.false_eq_true, if_false]
        exact impl_l0 T n (by omega) _ (impl_l1 n (by omega) T (by omega) g T.length 0 (start n) (by omega) (by omega) (hung_start n)) n 0 (by omega) (by omega)
      · rw [if_neg g]
        have e : (T.any fun t => !(tieOk n t)) = true := by
          rw [List.any_eq_true]
          refine Classical.byContradiction fun h => g fun t ht => ?_
          refine Classical.byContradiction fun h2 => h ⟨t, ht, ?_⟩
          rw [Bool.not_eq_true] at h2
          rw [h2]; rfl
        rw [e]
        exact no
    · rw [if_neg (fun h => q h.2)]
      simp only [if_pos (show (T.length : Int) > 200 by omega)]
      exact no
  · rw [if_neg (fun h => c h.1)]
    simp only [if_neg c]
    exact no
/-! #### how long the answer is -/
theorem sumLen_le (L : List (List Int)) (c : Nat) (h : ∀ x ∈ L, x.length ≤ c) : sumLen L ≤ L.length * c := by
  induction L with
  | nil => simp [sumLen]
  | cons x l ih =>
    have h1 := h x (List.mem_cons_self ..)
    have h2 := ih (fun y hy => h y (List.mem_cons_of_mem _ hy))
    simp only [sumLen, List.length_cons, Nat.add_mul, Nat.one_mul]
    omega
theorem allV_le (a0 : Int) (T : List S90) : (allV a0 T).1.length ≤ 40 ∧ ∀ x ∈ (allV a0 T).1, x.length ≤ 40 := by
  unfold allV
  split
  · rename_i h
    obtain ⟨c0, c1⟩ := inB_iff.1 h.1
    unfold islandsV
    split
    · refine ⟨?_, fun x hx => ?_⟩
      · show (rowsAt _ _ _).length ≤ 40
        rw [rows_len]
        exact Nat.le_trans (roots_le _ _) (by omega)
      · obtain ⟨r, _, rfl⟩ := List.mem_map.1 hx
        exact Nat.le_trans (row_le _ _ _) (by omega)
    · exact ⟨Nat.zero_le _, fun x hx => by cases hx⟩
  · exact ⟨Nat.zero_le _, fun x hx => by cases hx⟩
theorem FnExactIslandsOf : laws_FnExactIslandsOf_Pure := by
  intro a0 l _ hl
  have h1 : l.length ≤ 8796093021952 := by omega
  apply Ev.rounds (r := true)
  unfold laws_FnExactIslandsOf.f laws_szPairS.f
  by_cases h : wrap64 (1048576 - (l.length : Int)) < 0
  · simp only [if_pos h, Option.bind_some, show (-1 : Int) < 0 from by decide, if_true]
    exact Ev.now true
  · simp only [if_neg h, Option.bind_some]
    have h2 : (l.map tieOf).length ≤ 8796093021952 := by rw [List.length_map]; exact h1
    refine Ev.bind (to_ties l h1) ?_
    generalize l.map tieOf = g at h2
    refine Ev.bind (spec_all a0 g) (Ev.bind (impl_all a0 g) ?_)
    obtain ⟨t1, t2⟩ := allV_le a0 g
    generalize allV a0 g = t at t1 t2
    have t3 := sumLen_le t.1 40 t2
    have t4 : ∀ x ∈ t.1, x.length ≤ 17592186043904 := fun x hx => by have := t2 x hx; omega
    obtain ⟨m, hm, m1⟩ := mark_ties g h2
    obtain ⟨n, hn, n1, n2, n3⟩ := mark_rows_val t.1 1 (by omega) t4 (by omega) (by omega) (by omega)
    have hh := held_rows t.1 n.2 1 (by omega) t4 (by omega) (by omega) (by omega) n2 n3
    rw [← n1] at hh
    refine Ev.bind (eq_rows t.1 (by omega) t4) (Ev.bind (eq_ties g h2) (Ev.bind hm (Ev.bind hn (Ev.bind hh ?_))))
    rw [if_pos ⟨rfl, rfl, rfl, by omega, rfl, by omega⟩]
    exact Ev.now true
end Go.Proofs.Ytiaajmnmbjheoaa.Pure
