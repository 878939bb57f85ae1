/- Names compared as slices.Compare does; its order. Plain: no program in sight. No condition. -/
import Derived.Test.YtiaajmnmbjheoaaSortK
import Derived.Sort.Walk0
import Derived.Lib.Strings
namespace Go.Proofs.Ytiaajmnmbjheoaa.Kinds
open Go.Shelf Go.RowKit Go.Lib Go.Sort
set_option linter.unusedVariables false
set_option linter.unusedSimpArgs false
def cmpB (a b : ByteArray) : Int := if Op.bytesLess a.toList b.toList = true then -1 else if Op.bytesLess b.toList a.toList = true then 1 else 0
def cmpN : List ByteArray → List ByteArray → Int
  | [], [] => 0
  | [], _ :: _ => -1
  | _ :: _, [] => 1
  | a :: s, b :: t => if cmpB a b = 0 then cmpN s t else cmpB a b
theorem toList_inj {a b : ByteArray} (h : a.toList = b.toList) : a = b := by
  have h2 : ByteArray.data a = ByteArray.data b := by
    apply Array.ext'
    rw [← Lib.toList_data, ← Lib.toList_data]
    exact h
  cases a; cases b; cases h2; rfl
theorem cmpB_lt (a b : ByteArray) : cmpB a b < 0 ↔ a.toList < b.toList := by
  unfold cmpB
  rw [bytesLess_eq, bytesLess_eq]
  by_cases h : a.toList < b.toList
  · simp [h]
  · by_cases h2 : b.toList < a.toList <;> simp [h, h2]
theorem cmpB_gt (a b : ByteArray) : 0 < cmpB a b ↔ b.toList < a.toList := by
  unfold cmpB
  rw [bytesLess_eq, bytesLess_eq]
  by_cases h : a.toList < b.toList
  · have h2 : ¬ b.toList < a.toList := List.lt_asymm h
    simp [h, h2]
  · by_cases h2 : b.toList < a.toList <;> simp [h, h2]
theorem cmpB_eq (a b : ByteArray) : cmpB a b = 0 ↔ a = b := by
  constructor
  · intro h
    have h1 : ¬ a.toList < b.toList := fun h2 => by have := (cmpB_lt a b).2 h2; omega
    have h2 : ¬ b.toList < a.toList := fun h2 => by have := (cmpB_gt a b).2 h2; omega
    exact toList_inj (List.le_antisymm (List.not_lt.1 h2) (List.not_lt.1 h1))
  · intro h
    subst h
    have h1 : ¬ cmpB a a < 0 := fun h2 => List.lt_irrefl _ ((cmpB_lt a a).1 h2)
    have h2 : ¬ 0 < cmpB a a := fun h2 => List.lt_irrefl _ ((cmpB_gt a a).1 h2)
    omega
theorem beq_gt {a b : ByteArray} (h1 : Op.bytesLess a.toList b.toList = false) (h2 : Op.bytesLess b.toList a.toList = true) : (a.toList == b.toList) = false := by
  rw [beq_eq_false_iff_ne]
  intro h4
  rw [h4] at h1 h2
  rw [h1] at h2; cases h2
theorem beq_eq {a b : ByteArray} (h1 : Op.bytesLess a.toList b.toList = false) (h2 : Op.bytesLess b.toList a.toList = false) : (a.toList == b.toList) = true := by
  have := (cmpB_eq a b).1 (by unfold cmpB; rw [if_neg (by rw [h1]; decide), if_neg (by rw [h2]; decide)])
  rw [this]; exact beq_self_eq_true _
theorem cmpN_eq : ∀ (x y : List ByteArray), cmpN x y = 0 ↔ x = y
  | [], [] => by simp [cmpN]
  | [], _ :: _ => by simp [cmpN]
  | _ :: _, [] => by simp [cmpN]
  | a :: s, b :: t => by
    unfold cmpN
    by_cases h : cmpB a b = 0
    · rw [if_pos h, cmpN_eq s t, (cmpB_eq a b).1 h]; simp
    · rw [if_neg h]
      constructor
      · intro h2; exact absurd h2 h
      · intro h2; injection h2 with h3 _; exact absurd ((cmpB_eq a b).2 h3) h
theorem cmpN_swap : ∀ (x y : List ByteArray), (cmpN x y < 0 ↔ 0 < cmpN y x)
  | [], [] => by simp [cmpN]
  | [], _ :: _ => by simp [cmpN]
  | _ :: _, [] => by simp [cmpN]
  | a :: s, b :: t => by
    unfold cmpN
    by_cases h : cmpB a b = 0
    · have h2 : cmpB b a = 0 := (cmpB_eq b a).2 ((cmpB_eq a b).1 h).symm
      rw [if_pos h, if_pos h2]; exact cmpN_swap s t
    · have h2 : ¬ cmpB b a = 0 := fun h2 => h ((cmpB_eq a b).2 ((cmpB_eq b a).1 h2).symm)
      rw [if_neg h, if_neg h2, cmpB_lt, cmpB_gt]
theorem cmpN_trans : ∀ (x y z : List ByteArray), cmpN x y < 0 → cmpN y z < 0 → cmpN x z < 0
  | [], _, [], h1, h2 => by
    rename_i y
    cases y with
    | nil => simp [cmpN] at h1
    | cons b t => simp [cmpN] at h2
  | [], _, _ :: _, _, _ => by simp [cmpN]
  | _ :: _, [], _, h1, _ => by simp [cmpN] at h1
  | _ :: _, _ :: _, [], _, h2 => by simp [cmpN] at h2
  | a :: s, b :: t, c :: u, h1, h2 => by
    unfold cmpN at h1 h2 ⊢
    by_cases e1 : cmpB a b = 0
    · rw [if_pos e1] at h1
      obtain rfl := (cmpB_eq a b).1 e1
      by_cases e2 : cmpB a c = 0
      · rw [if_pos e2] at h2 ⊢
        exact cmpN_trans s t u h1 h2
      · rw [if_neg e2] at h2 ⊢
        exact h2
    · rw [if_neg e1] at h1
      by_cases e2 : cmpB b c = 0
      · obtain rfl := (cmpB_eq b c).1 e2
        rw [if_neg e1]; exact h1
      · rw [if_neg e2] at h2
        have h3 : cmpB a c < 0 := (cmpB_lt a c).2 (List.lt_trans ((cmpB_lt a b).1 h1) ((cmpB_lt b c).1 h2))
        rw [if_neg (by omega)]; exact h3
theorem cmpN_total (x y : List ByteArray) (h1 : ¬ cmpN x y < 0) (h2 : ¬ cmpN y x < 0) : x = y := by
  have h3 : ¬ 0 < cmpN x y := fun h => h2 ((cmpN_swap y x).2 h)
  exact (cmpN_eq x y).1 (by omega)
def leN (x y : List ByteArray) : Bool := decide (¬ cmpN y x < 0)
/-- The order of the names at places: a strict weak order. -/
theorem swoN {α : Type} (f : α → List ByteArray) : SWO (ltOf fun i j => cmpN (f i) (f j)) where
  irrefl := fun x => by
    unfold ltOf
    dsimp only
    rw [decide_eq_false_iff_not, (cmpN_eq (f x) (f x)).2 rfl]; omega
  trans := fun x y z h1 h2 => by
    unfold ltOf at *
    dsimp only at *
    rw [decide_eq_true_eq] at *
    exact cmpN_trans _ _ _ h1 h2
  ntrans := fun x y z h1 h2 => by
    unfold ltOf at *
    dsimp only at *
    rw [decide_eq_false_iff_not] at *
    intro h3
    by_cases e1 : f x = f y
    · rw [e1] at h3; exact h2 h3
    · have h4 : cmpN (f y) (f x) < 0 := by
        refine Classical.byContradiction fun h5 => e1 (cmpN_total _ _ h1 h5)
      exact h2 (cmpN_trans _ _ _ h4 h3)
end Go.Proofs.Ytiaajmnmbjheoaa.Kinds
