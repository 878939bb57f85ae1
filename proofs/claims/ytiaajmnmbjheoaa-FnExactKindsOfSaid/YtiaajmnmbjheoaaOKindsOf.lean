/- How an argument's reading becomes a Lean value: for each of the print's kinds one lemma. Nothing here is about one program. -/
import Derived.Test.YtiaajmnmbjheoaaVKindsOf
import Derived.Deep.Slices
import Derived.Deep.Fields
import Derived.ChangeSame
import Derived.SizedLaws
import Derived.ChangeArms
namespace Go.Proofs.Ytiaajmnmbjheoaa.Opens
open Go.ChangeShapes Go.WideShapes Go.Deep Go.RowKit Go.Proofs.YtiaajmnmbjheoaaW.PrintWords

/-- Whatever reads as a datum of type t is of the kind d, and is good. -/
def Opens (P : Program) (t : TypeId) {α : Type} (d : Kd α) (G : α → Prop) : Prop :=
  ∀ {H : Type} {enc : TypeId × Value → H} {w : World} {base : Nat} {spare : Nat → Bool} {held : Bool} {fuel : Nat} {cs : List Value} {x : DataW H × List MemPlace},
    DataW.trod enc P w base spare held fuel t cs = some x → (∀ n ∈ x.1.weights P t, n ≤ reachBytes) → ∃ y : α, d.K w y cs ∧ G y

theorem opens_int {P : Program} {t : TypeId} {k : IntKind} (ht : P.underlying t = some (.int k)) : Opens P t (Kd.int k) (fun n => (Lit.int k n).wf = true) := by
  intro H enc w base spare held fuel cs x h _
  obtain ⟨n, rfl, _, hw⟩ := DataW.trod_int ht h
  exact ⟨n, rfl, hw⟩
theorem opens_float {P : Program} {t : TypeId} {k : FloatKind} (ht : P.underlying t = some (.float k)) : Opens P t (Kd.scalar (Value.float k) (fun _ => rfl)) (fun n => (Lit.float k n).wf = true) := by
  intro H enc w base spare held fuel cs x h _
  have hx : ∃ n, cs = [.float k n] ∧ (Lit.float k n).wf = true := by
    cases fuel with
    | zero => simp [DataW.trod] at h
    | succ n =>
      unfold DataW.trod at h
      rw [ht] at h
      split at h <;> simp_all
  obtain ⟨n, rfl, hw⟩ := hx
  exact ⟨n, rfl, hw⟩
theorem opens_bool {P : Program} {t : TypeId} (ht : P.underlying t = some .bool) : Opens P t Kd.bool (fun _ => True) := by
  intro H enc w base spare held fuel cs x h _
  obtain ⟨b, rfl, _⟩ := DataW.trod_bool ht h
  exact ⟨b, rfl, trivial⟩
theorem opens_string {P : Program} {t : TypeId} (ht : P.underlying t = some .string) : Opens P t Kd.string (fun s => s.size ≤ 140737488351232) := by
  intro H enc w base spare held fuel cs x h hz
  obtain ⟨s, rfl, rfl, _⟩ := DataW.trod_string ht h
  have := hz s.data.toList.length (by simp [DataW.weights])
  rw [Array.length_toList] at this
  exact ⟨s, rfl, this⟩
theorem mem_weightsAll {H : Type} {P : Program} {e : TypeId} : ∀ {l : List (DataW H)} {i : Nat} {d : DataW H}, l[i]? = some d → ∀ n ∈ d.weights P e, n ∈ DataW.weightsAll P e l
  | [], i, d, h => by simp at h
  | d0 :: l, 0, d, h => by
    simp only [List.getElem?_cons_zero, Option.some.injEq] at h
    subst h
    intro n hn
    simp only [DataW.weightsAll, List.mem_append]
    exact Or.inl hn
  | d0 :: l, i + 1, d, h => by
    simp only [List.getElem?_cons_succ] at h
    intro n hn
    simp only [DataW.weightsAll, List.mem_append]
    exact Or.inr (mem_weightsAll h n hn)
theorem choose_list {α : Type} {n : Nat} {p : Nat → α → Prop} (h : ∀ i, i < n → ∃ a, p i a) : ∃ l : List α, l.length = n ∧ ∀ (i : Nat) (a : α), l[i]? = some a → p i a := by
  induction n with
  | zero => exact ⟨[], rfl, fun i a hi => by simp at hi⟩
  | succ n ih =>
    obtain ⟨l, hl, hp⟩ := ih (fun i hi => h i (by omega))
    obtain ⟨a, ha⟩ := h n (by omega)
    refine ⟨l ++ [a], by simp [hl], fun i b hb => ?_⟩
    by_cases hi : i < l.length
    · rw [List.getElem?_append_left hi] at hb
      exact hp i b hb
    · rw [List.getElem?_append_right (by omega)] at hb
      have hb2 := hb
      rw [List.getElem?_singleton] at hb2
      split at hb2
      · obtain rfl := Option.some.inj hb2
        obtain rfl : i = n := by omega
        exact ha
      · cases hb2
theorem opens_slice {P : Program} {t e : TypeId} {α : Type} {d : Kd α} {G : α → Prop} (ht : P.underlying t = some (.slice e)) (hd : Opens P e d G) (hs : d.sz = P.cellsOf e) :
    Opens P t (Kd.slice e d) (fun l => l.length ≤ maxLen ∧ l.length * P.bytesOf e ≤ 140737488351232 ∧ ∀ y ∈ l, G y) := by
  intro H enc w base spare held fuel cs x h hz
  rcases open_slice ht h with ⟨rfl, rfl⟩ | ⟨a, len, cap, m, n, D, Pl, rfl, hb, hl, hm, hmm, rfl, hi⟩
  · exact ⟨[], ⟨none, 0, rfl, Nat.le_refl _, rfl, by simp, fun h => absurd h (by simp)⟩, Nat.zero_le _, by simp, fun y hy => by simp at hy⟩
  · have hle : len ≤ m := by rw [hmm]; split <;> omega
    have hmem : ∀ i, i < len → ∀ n ∈ (D i).weights P e, n ≤ reachBytes := by
      intro i hlt k hk
      refine hz k ?_
      simp only [DataW.weights, ht, List.mem_cons, List.mem_append]
      refine Or.inr (Or.inl (mem_weightsAll (i := i) (d := D i) ?_ k hk))
      rw [List.getElem?_map, List.getElem?_range hlt]
      rfl
    have hsz : len * P.bytesOf e ≤ reachBytes := by
      have h1 := hz (((List.range len).map D).length + ((List.range (m - len)).map fun j => D (len + j)).length |> (· * P.bytesOf e)) (by simp only [DataW.weights, ht, List.mem_cons, true_or])
      simp only [List.length_map, List.length_range] at h1
      exact Nat.le_trans (Nat.mul_le_mul_right _ (Nat.le_add_right _ _)) h1
    obtain ⟨l, hlen, hp⟩ := choose_list (n := len) (p := fun i y => ∃ cs', w.cells? base (a.add (i * P.cellsOf e)) (P.cellsOf e) = some cs' ∧ d.K w y cs' ∧ G y) (fun i hlt => by
      obtain ⟨cs', h1, h2⟩ := hi i (by omega)
      obtain ⟨y, hK, hG⟩ := hd h2 (hmem i hlt)
      exact ⟨y, cs', h1, hK, hG⟩)
    have hmx : len ≤ 9223372036854775807 := by simp only [maxLen] at hm; omega
    refine ⟨l, ⟨some a, cap, by rw [hlen], by omega, hlen ▸ rfl, by omega, fun _ => ⟨a, rfl, fun j p hj => ?_⟩⟩, by omega, by rw [hlen]; simpa [reachBytes] using hsz, fun y hy => ?_⟩
    · obtain ⟨cs', h1, hK, _⟩ := hp j p hj
      obtain ⟨_, hcl, hat⟩ := World.cells?_some h1
      refine ⟨cs', d.K_len hK, hK, fun i u hu => ?_⟩
      have hi1 := (List.getElem?_eq_some_iff.1 hu).1
      rw [hs, ← Go.Deep.add_add, hat i (by omega), hu]
    · obtain ⟨i, hil, rfl⟩ := List.getElem_of_mem hy
      obtain ⟨_, _, _, hG⟩ := hp i _ (List.getElem?_eq_getElem hil)
      exact hG
/-- The fields fs of a struct, from cell 'start' to cell 'stop'. -/
def OpensF (P : Program) (fs : List Field) (start stop : Nat) {α : Type} (d : Kd α) (G : α → Prop) : Prop :=
  ∀ {H : Type} {enc : TypeId × Value → H} {w : World} {base : Nat} {spare : Nat → Bool} {held : Bool} {fuel : Nat} {cs : List Value} {xs : List (DataW H × List MemPlace)},
    xs.length = fs.length → (∀ (i : Nat) (f : Field), fs[i]? = some f → DataW.trod enc P w base spare held fuel f.type ((cs.drop f.offset).take (P.cellsOf f.type)) = xs[i]?) →
    (∀ n ∈ DataW.weightsEach P (fs.map (·.type)) (xs.map (·.1)), n ≤ reachBytes) → ∃ y : α, d.K w y ((cs.drop start).take (stop - start)) ∧ G y
theorem opensF_one {P : Program} {f : Field} {start stop : Nat} {α : Type} {d : Kd α} {G : α → Prop} (ho : f.offset = start) (hn : P.cellsOf f.type = stop - start) (h : Opens P f.type d G) : OpensF P [f] start stop d G := by
  intro H enc w base spare held fuel cs xs hl hf hz
  match xs, hl with
  | [x], _ =>
    have h1 := hf 0 f rfl
    rw [ho, hn] at h1
    exact h h1 (fun n hn' => hz n (by simp only [List.map_cons, List.map_nil, DataW.weightsEach, List.append_nil]; exact hn'))
theorem opensF_cons {P : Program} {f : Field} {fs : List Field} {start mid stop : Nat} {α β : Type} {d : Kd α} {d' : Kd β} {G : α → Prop} {G' : β → Prop} (ho : f.offset = start) (hn : P.cellsOf f.type = mid - start) (hle : start ≤ mid) (hle2 : mid ≤ stop)
    (h : Opens P f.type d G) (h' : OpensF P fs mid stop d' G') : OpensF P (f :: fs) start stop (Kd.pair d d') (fun y => G y.1 ∧ G' y.2) := by
  intro H enc w base spare held fuel cs xs hl hf hz
  match xs, hl with
  | x :: xs, hl =>
    have h1 := hf 0 f rfl
    rw [ho, hn] at h1
    obtain ⟨y, hK, hG⟩ := h h1 (fun n hn' => hz n (by simp only [List.map_cons, DataW.weightsEach, List.mem_append]; exact Or.inl hn'))
    obtain ⟨z, hK', hG'⟩ := h' (xs := xs) (by simpa using hl) (fun i f' hi => hf (i + 1) f' hi) (fun n hn' => hz n (by simp only [List.map_cons, DataW.weightsEach, List.mem_append]; exact Or.inr hn'))
    refine ⟨(y, z), ⟨_, _, ?_, hK, hK'⟩, hG, hG'⟩
    have e : stop - start = (mid - start) + (stop - mid) := by omega
    rw [e, List.take_add, List.drop_drop, show start + (mid - start) = mid by omega]
theorem opens_struct {P : Program} {t : TypeId} {fs : Array Field} {α : Type} {d : Kd α} {G : α → Prop} (ht : P.underlying t = some (.struct fs)) (h : OpensF P fs.toList 0 (P.cellsOf t) d G) : Opens P t d G := by
  intro H enc w base spare held fuel cs x hx hz
  obtain ⟨xs, n, _, rfl, hcl, hlen, hf⟩ := DataW.trod_struct ht hx
  obtain ⟨y, hK, hG⟩ := h (by rw [hlen, Array.length_toList]) (fun i f hi => hf i f (by rw [← Array.getElem?_toList]; exact hi)) (fun k hk => hz k (by simp only [DataW.weights, ht]; exact hk))
  rw [List.drop_zero, Nat.sub_zero, ← hcl, List.take_length] at hK
  exact ⟨y, hK, hG⟩
theorem opens_structL {P : Program} {t n : Nat} {fs : Array Field} {l : List Field} {α : Type} {d : Kd α} {G : α → Prop} (ht : P.underlying t = some (.struct fs)) (hl : fs.toList = l) (hC : P.cellsOf t = n) (h : OpensF P l 0 n d G) : Opens P t d G :=
  opens_struct ht (by rw [hl, hC]; exact h)
theorem opens_iso {P : Program} {t : TypeId} {α β : Type} {d : Kd α} {G : α → Prop} (f : β → α) (g : α → β) (hfg : ∀ y, f (g y) = y) (h : Opens P t d G) : Opens P t (Kd.iso d f) (fun x => G (f x)) := by
  intro H enc w base spare held fuel cs x hx hz
  obtain ⟨y, hK, hG⟩ := h hx hz
  exact ⟨g y, by show d.K w (f (g y)) cs; rw [hfg]; exact hK, by show G (f (g y)); rw [hfg]; exact hG⟩
theorem opens_good {P : Program} {t : TypeId} {α : Type} {d : Kd α} {G G' : α → Prop} (h : Opens P t d G) (hG : ∀ y, G y → G' y) : Opens P t d G' := by
  intro H enc w base spare held fuel cs x hx hz
  obtain ⟨y, hK, hy⟩ := h hx hz
  exact ⟨y, hK, hG y hy⟩
/-- A whole argument: the value's cells are of the kind. -/
theorem opens_arg {P : Program} {t : TypeId} {α : Type} {d : Kd α} {G : α → Prop} (h : Opens P t d G) {H : Type} {enc : TypeId × Value → H} {w : World} {base : Nat} {spare : Nat → Bool} {held : Bool} {v : Value} {dd : DataW H} {ps : List MemPlace} {ts : List TypeId} {ds : List (DataW H)} {j : Nat}
    (hx : DataW.Trod enc P w base spare held t v dd ps) (hsz : (DataW.weightsEach P ts ds).all (· ≤ reachBytes) = true) (htj : ts[j]? = some t) (hdj : ds[j]? = some dd) : ∃ y : α, d.K w y v.cells.toList ∧ G y := by
  obtain ⟨fuel, hf⟩ := hx
  refine h hf (fun n hn => ?_)
  have := List.all_eq_true.1 hsz n (DataW.weights_mem_each htj hdj n hn)
  simpa using this
end Go.Proofs.Ytiaajmnmbjheoaa.Opens
