/- The insertion sort keeps equals in their order; two sorted blocks, ready to be merged. No program in this text. No condition. -/
import Derived.Test.YtiaajmnmbjheoaaStableA
namespace Go.Proofs.Ytiaajmnmbjheoaa.Stable
open Go.Sort
set_option linter.unusedVariables false
/-! ### the insertion sort keeps equals in their order -/
section
variable {lt : Nat → Nat → Bool}
theorem lx_later {x y : Nat} (h : y ≤ x) : lx lt x y = lt x y := by
  unfold lx
  rw [decide_eq_false (show ¬ x < y by omega), Bool.and_false, Bool.or_false]
theorem insInner_lx (a : Nat) : ∀ (j : Nat) (d : Array Nat), j < d.size → (∀ y, a ≤ y → y < j → d[y]! < d[j]!) → insInner lt a j d = insInner (lx lt) a j d
  | 0, d, _, _ => rfl
  | j + 1, d, hj, h => by
    unfold insInner
    by_cases c : j + 1 > a
    · have e : lx lt d[j + 1]! d[j]! = lt d[j + 1]! d[j]! := lx_later (Nat.le_of_lt (h j (by omega) (by omega)))
      rw [e]
      have ih := insInner_lx a j (swp d (j + 1) j) (by rw [size_swp]; omega) (fun y h1 h2 => by
        rw [swp_other d _ _ _ (by omega) (by omega), swp_right d _ _ (by omega)]
        exact h y h1 (by omega))
      rw [ih]
    · rw [decide_eq_false c, Bool.false_and, Bool.false_and]
      rfl
theorem insInner_perm (a : Nat) : ∀ (j : Nat) (d : Array Nat), j < d.size → PermIn a (j + 1) d (insInner lt a j d)
  | 0, d, _ => permIn_refl d a 1
  | j + 1, d, hj => by
    unfold insInner
    split
    · rename_i h
      have c : j + 1 > a := of_decide_eq_true (Bool.and_eq_true_iff.1 h).1
      have p := swp_permIn d a (j + 2) (j + 1) j (by omega) (by omega) (by omega) (by omega) (by omega)
      have q := insInner_perm a j (swp d (j + 1) j) (by rw [size_swp]; omega)
      exact permIn_trans _ _ _ _ _ p (permIn_mono _ _ a (j + 1) a (j + 2) (Nat.le_refl _) (by omega) (by rw [size_swp]; omega) q)
    · exact permIn_refl d a _
theorem insOuter_lx (a b : Nat) : ∀ (n i : Nat) (d : Array Nat), b - i = n → a ≤ i → b ≤ d.size → (∀ x y, a ≤ x → x < i → i ≤ y → y < b → d[x]! < d[y]!) → (∀ x y, i ≤ x → x < y → y < b → d[x]! < d[y]!) → insOuter lt a b i d = insOuter (lx lt) a b i d := by
  intro n
  induction n with
  | zero => intro i d hn _ _ _ _; rw [insOuter_stop _ _ _ _ _ (by omega), insOuter_stop _ _ _ _ _ (by omega)]
  | succ n ih =>
    intro i d hn hai hb h1 h2
    have hib : i < b := by omega
    rw [insOuter_go _ _ _ _ _ hib, insOuter_go _ _ _ _ _ hib, insInner_lx a i d (by omega) (fun y p q => h1 y i p q (Nat.le_refl _) hib)]
    have hp := insInner_perm (lt := lx lt) a i d (by omega)
    refine ih (i + 1) _ (by omega) (by omega) (by rw [hp.1]; exact hb) (fun x y p q r s => ?_) (fun x y p q r => ?_)
    · rw [hp.2.1 y (.inr r)]
      refine permIn_all d _ a (i + 1) (fun v => v < d[y]!) (by omega) hp (fun z z1 z2 => ?_) x p q
      by_cases e : z = i
      · subst e; exact h2 _ _ (Nat.le_refl _) (by omega) s
      · exact h1 z y z1 (by omega) (by omega) s
    · rw [hp.2.1 x (.inr p), hp.2.1 y (.inr (by omega))]
      exact h2 x y (by omega) q r
/-- Elements that lie where they came from: sorted, equals in their order. -/
theorem ins_block (hS : SWO lt) {a b : Nat} {d : Array Nat} (hab : a ≤ b) (hb : b ≤ d.size) (h : ∀ i, a ≤ i → i < b → d[i]! = i) : Merged lt a b d (Sort.insertionSort lt d a b) := by
  have e : Sort.insertionSort lt d a b = Sort.insertionSort (lx lt) d a b := by
    unfold Sort.insertionSort
    refine insOuter_lx a b (b - (a + 1)) (a + 1) d rfl (by omega) hb (fun x y p q r s => ?_) (fun x y p q r => ?_)
    · rw [h x p (by omega), h y (by omega) s]; omega
    · rw [h x (by omega) (by omega), h y (by omega) r]; exact q
  rw [e]
  obtain ⟨hp, hs⟩ := insertionSort_holds (lt := lx lt) (swo_lx hS) d a b hab hb
  generalize Sort.insertionSort (lx lt) d a b = D at hp hs
  refine ⟨hp, fun i j hi hij hj => ?_⟩
  have hne : D[i]! ≠ D[j]! := by
    have hbD : b ≤ D.size := by rw [hp.1]; exact hb
    have n0 : ((d.extract a b).toList).Nodup := by
      rw [extract_toList d a b hb]
      refine List.pairwise_map.2 (List.Pairwise.imp_of_mem (R := fun x y => x < y) (fun {x y} hx hy hxy => ?_) List.pairwise_lt_range')
      have hx := List.mem_range'_1.1 hx
      have hy := List.mem_range'_1.1 hy
      rw [h x hx.1 (by omega), h y hy.1 (by omega)]
      omega
    have n1 := hp.2.2.nodup_iff.2 n0
    rw [extract_toList D a b hbD] at n1
    have n2 := List.pairwise_iff_getElem.1 n1 (i - a) (j - a) (by simp; omega) (by simp; omega) (by omega)
    simp only [List.getElem_map, List.getElem_range', Nat.one_mul] at n2
    rw [show a + (i - a) = i by omega, show a + (j - a) = j by omega] at n2
    exact n2
  exact (lx_total hne).resolve_right (by rw [hs i j hi hij hj]; decide)
theorem ins_none (d : Array Nat) (b : Nat) : Sort.insertionSort lt d b b = d := by unfold Sort.insertionSort; exact insOuter_stop _ _ _ _ _ (by omega)
/-- Two blocks, each sorted, are ready to be merged. -/
theorem two_blocks (hS : SWO lt) {m b : Nat} {d d1 d2 : Array Nat} (hm : m ≤ b) (hb : b ≤ d.size) (h : ∀ i, i < b → d[i]! = i) (h1 : Merged lt 0 m d d1) (h2 : Merged lt m b d1 d2) :
    Asc lt 0 m d2 ∧ Asc lt m b d2 ∧ Cross 0 m b d2 ∧ PermIn 0 b d d2 := by
  have s1 := h1.perm.1
  have hd1 : ∀ i, m ≤ i → i < b → d1[i]! = i := fun i p q => by rw [h1.perm.2.1 i (.inr p)]; exact h i q
  have lo : ∀ i, 0 ≤ i → i < m → d1[i]! < m := permIn_all d d1 0 m (fun v => v < m) (by omega) h1.perm (fun i _ p => by rw [h i (by omega)]; exact p)
  have hi : ∀ i, m ≤ i → i < b → m ≤ d2[i]! := permIn_all d1 d2 m b (fun v => m ≤ v) (by omega) h2.perm (fun i p q => by rw [hd1 i p q]; exact p)
  refine ⟨fun i j p q r => ?_, h2.asc, fun i j p q r s => ?_, ?_⟩
  · rw [h2.perm.2.1 i (.inl (by omega)), h2.perm.2.1 j (.inl r)]; exact h1.asc i j p q r
  · have a := hi j r s
    have b := lo i p q
    rw [h2.perm.2.1 i (.inl q)]; omega
  · exact permIn_trans _ _ _ _ _ (permIn_mono d d1 0 m 0 b (Nat.le_refl _) hm hb h1.perm) (permIn_mono d1 d2 m b 0 b (Nat.zero_le _) (Nat.le_refl _) (by omega) h2.perm)
end
end Go.Proofs.Ytiaajmnmbjheoaa.Stable
