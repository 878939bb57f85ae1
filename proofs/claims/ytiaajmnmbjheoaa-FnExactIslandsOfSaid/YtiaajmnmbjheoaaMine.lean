/- Small words for the contracts of library functions that take a function: 'some element', 'the first element'. No program stands here. -/
import Derived.Test.YtiaajmnmbjheoaaWMore
import Derived.Shelf.Abstract
namespace Go.Proofs.YtiaajmnmbjheoaaW.PrintMore
open Go.RowKit Go.Proofs.YtiaajmnmbjheoaaW.PrintWords Go.Proofs.YtiaajmnmbjheoaaW.PrintLast

/-- Does one of them hold? Where each says something. -/
def anyO {α : Type} (f : α → Option Bool) (l : List α) : Option Bool := if ∀ x ∈ l, (f x).isSome = true then some (l.any fun x => (f x).getD false) else none
theorem anyO_le {α : Type} {f g : α → Option Bool} {l : List α} (h : ∀ x, LeO (f x) (g x)) : LeO (anyO f l) (anyO g l) := by
  intro r hr
  unfold anyO at hr ⊢
  split at hr
  · rename_i hs
    have he : ∀ x ∈ l, g x = f x := fun x hx => by
      obtain ⟨b, hb⟩ := Option.isSome_iff_exists.1 (hs x hx)
      rw [hb]; exact h x b hb
    rw [if_pos (fun x hx => by rw [he x hx]; exact hs x hx), ← Option.some.inj hr]
    congr 1
    rw [Bool.eq_iff_iff, List.any_eq_true, List.any_eq_true]
    exact ⟨fun ⟨x, hx, hb⟩ => ⟨x, hx, by rw [← he x hx]; exact hb⟩, fun ⟨x, hx, hb⟩ => ⟨x, hx, by rw [he x hx]; exact hb⟩⟩
  · cases hr
theorem anyO_open {α : Type} {f : α → Option Bool} {l : List α} {r : Bool} (h : anyO f l = some r) : ∃ p : α → Bool, (∀ x ∈ l, f x = some (p x)) ∧ r = l.any p := by
  unfold anyO at h
  split at h
  · rename_i hs
    refine ⟨fun x => (f x).getD false, fun x hx => ?_, (Option.some.inj h).symm⟩
    obtain ⟨b, hb⟩ := Option.isSome_iff_exists.1 (hs x hx)
    show f x = some ((f x).getD false)
    rw [hb]; rfl
  · cases h
theorem anyO_some {α : Type} {f : α → Option Bool} {l : List α} (p : α → Bool) (h : ∀ x ∈ l, f x = some (p x)) : anyO f l = some (l.any p) := by
  unfold anyO
  rw [if_pos (fun x hx => by rw [h x hx]; rfl)]
  congr 1
  rw [Bool.eq_iff_iff, List.any_eq_true, List.any_eq_true]
  exact ⟨fun ⟨x, hx, hb⟩ => ⟨x, hx, by rw [h x hx] at hb; exact hb⟩, fun ⟨x, hx, hb⟩ => ⟨x, hx, by rw [h x hx]; exact hb⟩⟩
/-- The first that holds, or -1. -/
def idxO {α : Type} (p : α → Bool) (l : List α) : Int := if l.any p = true then (l.findIdx p : Int) else -1
theorem idxO_hit {α : Type} {p : α → Bool} {l : List α} {k : Nat} (hk : k < l.length) (h : p l[k] = true) (hb : ∀ j (hj : j < k), p (l[j]'(by omega)) = false) : idxO p l = (k : Int) := by
  unfold idxO
  rw [if_pos (List.any_eq_true.2 ⟨l[k], List.getElem_mem hk, h⟩), (List.findIdx_eq hk).2 ⟨h, hb⟩]
theorem idxO_miss {α : Type} {p : α → Bool} {l : List α} (hb : ∀ j (hj : j < l.length), p (l[j]'hj) = false) : idxO p l = -1 := by
  unfold idxO
  rw [if_neg]
  intro h
  obtain ⟨x, hx, hp⟩ := List.any_eq_true.1 h
  obtain ⟨j, hj, rfl⟩ := List.getElem_of_mem hx
  rw [hb j hj] at hp
  cases hp
theorem idxO_nonneg {α : Type} (p : α → Bool) (l : List α) : decide (0 ≤ idxO p l) = l.any p := by
  unfold idxO
  by_cases h : l.any p = true
  · rw [if_pos h, h]; exact decide_eq_true (by omega)
  · rw [if_neg h, Bool.eq_false_iff.2 h]; exact decide_eq_false (by omega)
theorem idxO_range {α : Type} (p : α → Bool) (l : List α) : -1 ≤ idxO p l ∧ (idxO p l < l.length ∨ idxO p l = -1) := by
  unfold idxO
  by_cases h : l.any p = true
  · rw [if_pos h]
    have : l.findIdx p < l.length := List.findIdx_lt_length.2 (by simpa [List.any_eq_true] using h)
    exact ⟨by omega, .inl (by omega)⟩
  · rw [if_neg h]; exact ⟨by omega, .inr rfl⟩
theorem C_two {W : World} {ad : Addr} {a b : Int} (h0 : W.cell? (ad.add 0) = some (.int .i64 a)) (h1 : W.cell? (ad.add 1) = some (.int .i64 b)) : Kd.C (Kd.int .i64) W (some ad) 2 [a, b] := by
  refine ⟨rfl, by decide, fun _ => ⟨ad, rfl, fun j p hj => ?_⟩⟩
  match j, hj with
  | 0, hj =>
    obtain rfl : a = p := by simpa using hj
    exact ⟨[.int .i64 a], rfl, rfl, fun i u hu => by
      match i, hu with
      | 0, hu =>
        obtain rfl : Value.int .i64 a = u := by simpa using hu
        exact h0⟩
  | 1, hj =>
    obtain rfl : b = p := by simpa using hj
    exact ⟨[.int .i64 b], rfl, rfl, fun i u hu => by
      match i, hu with
      | 0, hu =>
        obtain rfl : Value.int .i64 b = u := by simpa using hu
        exact h1⟩
theorem bcell {W w1 : World} (hb : Below W.heap.size W w1) : (∀ b o, b < W.heap.size → w1.cell? ⟨b, o, none⟩ = W.cell? ⟨b, o, none⟩) ∧ (∀ b o, b < W.heap.size → w1.frozen? ⟨b, o, none⟩ = W.frozen? ⟨b, o, none⟩) :=
  ⟨fun b o h => hb.cell (p := ⟨b, o, none⟩) h, fun b o h => hb.frozen (p := ⟨b, o, none⟩) h⟩
theorem at_f64 {w : World} {A : Option Addr} {n : Nat} {xs : List Nat} (h : Kd.C (Kd.scalar (Value.float .f64) (fun _ => rfl)) w A n xs) (i : Int) (h0 : 0 ≤ i) (h1 : i < n) : ∃ ad, A = some ad ∧ w.cell? (ad.add i.toNat) = some (.float .f64 (rdOf (0 : Nat) xs i)) :=
  ReadsOf.at_ (Kd.reads_of_C (enc := Value.float .f64) (d := (0 : Nat)) (h1 := fun _ => rfl) h) i h0 h1
/-- An operation on floats: with an answer, or (it is invalid: the answer is some NaN) what comes of that. -/
def bindN {α β : Type} (o : Option α) (n : Option β) (f : α → Option β) : Option β := match o with | some a => f a | none => n
theorem bindN_open {α β : Type} {o : Option α} {n : Option β} {f : α → Option β} {r : β} (h : bindN o n f = some r) : (o = none ∧ n = some r) ∨ (∃ a, o = some a ∧ f a = some r) := by
  cases o with
  | none => exact Or.inl ⟨rfl, h⟩
  | some a => exact Or.inr ⟨a, rfl, h⟩
theorem LeO_bindN {α β : Type} {o : Option α} {n n' : Option β} {f f' : α → Option β} (hn : LeO n n') (hf : ∀ a, LeO (f a) (f' a)) : LeO (bindN o n f) (bindN o n' f') := by
  cases o with
  | none => exact hn
  | some a => exact hf a
end Go.Proofs.YtiaajmnmbjheoaaW.PrintMore
