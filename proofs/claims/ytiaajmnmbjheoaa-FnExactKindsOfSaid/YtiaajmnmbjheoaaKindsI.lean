/- A row of elements that have rows of their own: an element set in at a place by three appends. No condition. -/
import Derived.Test.YtiaajmnmbjheoaaVKindsOf
namespace Go.Proofs.Ytiaajmnmbjheoaa.Ins
open Go.RowKit Go.Proofs.YtiaajmnmbjheoaaW.PrintWords Go.Proofs.YtiaajmnmbjheoaaW.PrintLast Go.Proofs.YtiaajmnmbjheoaaW.PrintMore
set_option linter.unusedVariables false
set_option linter.unusedSimpArgs false
section
variable {α : Type} {R : α → List Value → Prop} {size : Nat} {w : World} {A : Option Addr} {xs : List α} {m c : Nat}
theorem reads_take (h : ReadsRow R size w A xs.length xs) (hm : m ≤ xs.length) : ReadsRow R size w A m (xs.take m) := by
  have hl : (xs.take m).length = m := by rw [List.length_take]; omega
  refine ⟨hl, by have := h.2.1; omega, fun hp => ?_⟩
  obtain ⟨ad, e, hc⟩ := h.2.2 (by omega)
  refine ⟨ad, e, fun j p hj => hc j p ?_⟩
  rw [List.getElem?_take] at hj
  split at hj
  · exact hj
  · cases hj
theorem reads_drop (h : ReadsRow R size w A xs.length xs) (hm : m ≤ xs.length) (hc : xs.length ≤ c) : ReadsRow R size w (if c = m then A else A.map (·.add (m * size))) (xs.length - m) (xs.drop m) := by
  refine ⟨List.length_drop, by have := h.2.1; omega, fun hp => ?_⟩
  obtain ⟨ad, rfl, hcell⟩ := h.2.2 (by omega)
  rw [if_neg (by omega)]
  refine ⟨ad.add (m * size), rfl, fun j p hj => ?_⟩
  rw [List.getElem?_drop] at hj
  obtain ⟨cs, h1, h2, h3⟩ := hcell (m + j) p hj
  refine ⟨cs, h1, h2, fun i u hu => ?_⟩
  rw [add_add, show m * size + (j * size + i) = (m + j) * size + i by rw [Nat.add_mul]; omega]
  exact h3 i u hu
end
section
variable {α : Type} {d : Kd α} {e : Nat} {f : Nat → Nat} {n0 base : Nat} {vo v1 : Value} {xs : List α} {ys : List (α × Nat)} {w w1 W : World}
/-- Between the first append and the last: the elder row, the new one. -/
def Mid {α : Type} (d : Kd α) (e : Nat) (f : Nat → Nat) (n0 base : Nat) (vo : Value) (xs : List α) (v1 : Value) (ys : List (α × Nat)) (w : World) : Prop :=
  (Kd.tag f d).R e w base (fun k => k < n0) vo xs.zipIdx ∧ (Kd.tag f d).R e w base (fun _ => True) v1 ys ∧ (∀ k, v1.ownBlock = some k → n0 ≤ k) ∧ n0 ≤ w.heap.size
theorem Mid.below (h : Mid d e f n0 base vo xs v1 ys w) (hb : Below w.heap.size w w1) : Mid d e f n0 base vo xs v1 ys w1 := ⟨Kd.R_below h.1 hb, Kd.R_below h.2.1 hb, h.2.2.1, Nat.le_trans h.2.2.2 (below_size hb)⟩
theorem Mid.alloc (h : Mid d e f n0 base vo xs v1 ys w) (o : Obj) : Mid d e f n0 base vo xs v1 ys (w.alloc o) := h.below (below_alloc (Below.refl _ _) o)
theorem Mid.drew (h : Mid d e f n0 base vo xs v1 ys w) : Mid d e f n0 base vo xs v1 ys w.drew := h.below (below_drew (Below.refl _ _))
theorem Mid.drewN (h : Mid d e f n0 base vo xs v1 ys w) (m : Nat) : Mid d e f n0 base vo xs v1 ys (w.drewN m) := h.below (pw_below_drewN (Below.refl _ _) m)
/-- A row made behind is none of them. -/
theorem Mid.fresh {β : Type} {d' : Kd β} {e' : Nat} {ok : Nat → Prop} {v : Value} {zs : List β} (h : Mid d e f n0 base vo xs v1 ys W) (ho : d'.R e' w1 W.heap.size ok v zs) : ∀ k, v.ownBlock = some k → n0 ≤ k ∧ some k ≠ v1.ownBlock := fun k hk =>
  ⟨Nat.le_trans h.2.2.2 (Kd.R_base ho k hk), fun he => absurd (Kd.R_lt h.2.1 k he.symm) (by have := Kd.R_base ho k hk; omega)⟩
/-- Rows of two types have two blocks. -/
theorem two_types {β γ : Type} {d1 : Kd β} {d2 : Kd γ} {e1 e2 b1 b2 : Nat} {ok1 ok2 : Nat → Prop} {va vb : Value} {xa : List β} {xb : List γ} (h1 : d1.R e1 W b1 ok1 va xa) (h2 : d2.R e2 W b2 ok2 vb xb) (hne : e1 ≠ e2) (k : Nat) (ha : some k = va.ownBlock) (hb : some k = vb.ownBlock) : False := by
  obtain ⟨c1, h3⟩ := Kd.R_typed h1 k ha.symm
  obtain ⟨c2, h4⟩ := Kd.R_typed h2 k hb.symm
  rw [h3] at h4
  have := Option.some.inj h4
  injection this with _ h5
  exact hne h5
/-- The owners told anew. -/
theorem S_insert {ok : Nat → Prop} {v : Value} {k : Nat} {x : α} (h : (Kd.tag f d).R e w base ok v (xs.zipIdx.take k ++ [(x, xs.length)] ++ xs.zipIdx.drop k)) (hk : k ≤ xs.length) : Kd.S d e w base ok v (xs.take k ++ [x] ++ xs.drop k) := by
  obtain ⟨h0, inner, ho, hr⟩ := h
  have hl : (xs.zipIdx.take k ++ [(x, xs.length)] ++ xs.zipIdx.drop k).length = (xs.take k ++ [x] ++ xs.drop k).length := by simp
  rw [hl] at ho
  refine ⟨fun b => if f b < k then f b else if f b = xs.length then k else f b + 1, h0, inner, by rw [List.length_zipIdx]; exact ho, by rw [List.length_zipIdx, ← hl]; exact hr.1, fun j p hj => ?_⟩
  rw [List.getElem?_zipIdx, Nat.zero_add] at hj
  obtain ⟨y, hy, rfl⟩ := Option.map_eq_some_iff.1 hj
  have ht : (xs.take k).length = k := by rw [List.length_take]; omega
  have ht2 : (xs.zipIdx.take k).length = k := by rw [List.length_take, List.length_zipIdx]; omega
  have hin : ∀ t, (xs.zipIdx.take k ++ [(x, xs.length)] ++ xs.zipIdx.drop k)[j]? = some (y, t) → (∀ b, f b = t → (if f b < k then f b else if f b = xs.length then k else f b + 1) = j) → (Kd.tag (fun b => if f b < k then f b else if f b = xs.length then k else f b + 1) d).M w base (fun k => ok k ∧ some k ≠ v.ownBlock) (y, j) ((inner.drop (j * d.sz)).take d.sz) := fun t h1 h2 =>
    d.M_mono (fun b hb => ⟨hb.1, h2 b hb.2⟩) (hr.2 j (y, t) h1)
  rcases Nat.lt_trichotomy j k with h1 | h1 | h1
  · refine hin j ?_ (fun b hb => by rw [if_pos (by omega)]; exact hb)
    rw [List.append_assoc, List.getElem?_append_left (by omega)] at hy ⊢
    rw [List.getElem?_take_of_lt h1] at hy ⊢
    exact Kd.zip_at hy
  · subst h1
    refine hin xs.length ?_ (fun b hb => by rw [if_neg (by omega), if_pos hb])
    rw [List.append_assoc, List.getElem?_append_right (by omega), ht, Nat.sub_self] at hy
    rw [List.append_assoc, List.getElem?_append_right (by omega), ht2, Nat.sub_self]
    simp at hy ⊢
    exact hy
  · have hjl : j - 1 < xs.length := by
      have := (List.getElem?_eq_some_iff.1 hy).1
      simp at this; omega
    refine hin (j - 1) ?_ (fun b hb => by rw [if_neg (by omega), if_neg (by omega)]; omega)
    rw [List.getElem?_append_right (by simp; omega)] at hy ⊢
    rw [List.getElem?_drop] at hy ⊢
    rw [List.length_append, ht, List.length_singleton] at hy
    rw [List.length_append, ht2, List.length_singleton]
    rw [show k + (j - (k + 1)) = j - 1 by omega] at hy ⊢
    exact Kd.zip_at hy
end
section
variable {P : Program} {ops : Array Oper} {rest : List Oper} {o : Oper} {a : Act} {Q : Exit → Act → World → Prop} {α : Type}
/-- next = append(nil, out[:m]...) -/
theorem ins_first (d : Kd α) {w0 W : World} (base : Nat) (hgd : o.guard = none) (s x : Operand) (t e : TypeId) (z : Value) (bytes : Nat)
    (ho : o.op = .call { callee := .builtin .append, args := #[s, x], argTypes := #[t, t] })
    (ht : P.underlying t = some (.slice e)) (hinfo : (P.info? e).map (fun i => (i.zero, i.size, i.bytes)) = some (some z, d.sz, bytes)) (hz : z.cells.size = d.sz) (hs0 : 0 < d.sz) (hb0 : 0 < bytes)
    (xs : List α) (A : Option Addr) (n m c c2 : Nat) (ok okn : Nat → Prop) (hs : a.eval s = .slice none 0 0) (hx : a.eval x = .slice A m c2)
    (HO : Kd.S d e W base ok (.slice A n c) xs) (hm : m ≤ xs.length) (hokn : ∀ k, okn k → k < W.heap.size → ¬ ok k) (HB : Below base w0 W) (hbase : base ≤ W.heap.size) (hl : m * bytes ≤ 140737488355328)
    (h : ∀ f n0 v1 w1, (∀ k, okn k ∨ n0 ≤ k → f k = xs.length) → Mid d e f n0 base (.slice A n c) xs v1 (xs.zipIdx.take m) w1 → Below base w0 w1 → Below W.heap.size W w1 → wpList P ops Q rest (a.put o.dst v1) w1) :
    wpList P ops Q (o :: rest) a W := by
  have HO2 := Kd.S_mono (Kd.S_bound HO) (ok' := fun k => ok k ∧ k < W.heap.size) (fun k hk => ⟨hk.1, hk.2.2.1⟩)
  obtain ⟨f, hf, hR⟩ := Kd.S_tag HO2 xs.length (fun k => okn k ∨ W.heap.size ≤ k) (fun k hk h2 => hk.elim (fun h3 => hokn k h3 h2.2 h2.1) (fun h3 => by have := h2.2; omega))
  obtain ⟨A', c', e', _, hrow⟩ := OwnRow.reads hR.2
  injection e' with e1 e2 e3
  subst e1 e3
  have hrow2 := reads_take hrow (m := m) (by rw [List.length_zipIdx]; exact hm)
  refine Kd.R_append_rows (Kd.tag f d) base hgd s x t e z bytes ho ht hinfo hz hs0 hb0 (.slice none 0 0) [] (xs.zipIdx.take m) A m c2 (fun _ => True) _ hs hx (Kd.R_nil _ _ _ _ _) hrow2 (fun _ _ h => h) (fun k hk => ⟨trivial, by simp [Value.ownBlock]⟩) (fun _ _ => trivial) HB hbase (by rw [List.length_nil, Nat.zero_add]; exact hl) ?_
  intro v1 w1 hr hb hg hat
  rw [List.nil_append] at hr
  refine h f W.heap.size v1 w1 hf ⟨Kd.R_mono (Kd.R_grown hR hg (fun k hk => by simp [Value.ownBlock])) (fun k hk => hk.2), hr, fun k hk => ?_, hg.size⟩ hb ((Below.refl _ W).grown hg (Nat.le_refl _) (fun k hk => by simp [Value.ownBlock] at hk))
  rcases hat with h1 | ⟨b, h1, h2⟩
  · rw [hk] at h1; simp [Value.ownBlock] at h1
  · rw [hk] at h1; injection h1 with h1; omega
/-- next = append(next, p) -/
theorem ins_mid (d : Kd α) {w0 W : World} (base : Nat) (hgd : o.guard = none) (s x : Operand) (t e : TypeId) (z : Value) (bytes : Nat)
    (ho : o.op = .call { callee := .builtin .append, args := #[s, x], argTypes := #[t, t] })
    (ht : P.underlying t = some (.slice e)) (hinfo : (P.info? e).map (fun i => (i.zero, i.size, i.bytes)) = some (some z, d.sz, bytes)) (hz : z.cells.size = d.sz) (hs0 : 0 < d.sz) (hb0 : 0 < bytes)
    {f : Nat → Nat} {n0 : Nat} {vo v1 : Value} {xs : List α} {ys : List (α × Nat)} (HM : Mid d e f n0 base vo xs v1 ys W) (p : α) (cs : List Value) (okp : Nat → Prop) (hs : a.eval s = v1) (hx : a.eval x = .slice (some ⟨W.heap.size, 0, none⟩) 1 1)
    (hp : d.M W base okp p cs) (hfp : ∀ k, okp k → f k = xs.length) (hne : ∀ k, okp k → some k ≠ v1.ownBlock) (HB : Below base w0 W) (hbase : base ≤ W.heap.size) (hl : (ys.length + 1) * bytes ≤ 140737488355328)
    (h : ∀ v2 w1, Mid d e f n0 base vo xs v2 (ys ++ [(p, xs.length)]) w1 → Below base w0 w1 → W.grownBy w1 v1.ownBlock → wpList P ops Q rest (a.put o.dst v2) w1) :
    wpList P ops Q (o :: rest) a (W.alloc (.cells cs.toArray e)) := by
  refine Kd.R_append (Kd.tag f d) base hgd s x t e z bytes ho ht hinfo hz hs0 hb0 v1 ys (p, xs.length) cs (fun _ => True) okp hs hx (d.M_mono (fun k hk => ⟨hk, hfp k hk⟩) hp) (fun k hk => ⟨trivial, hne k hk⟩) (fun _ _ => trivial) HM.2.1 HB hbase hl ?_
  intro v2 w1 hr hb hg hat
  refine h v2 w1 ⟨Kd.R_grown HM.1 hg (fun k hk h2 => by have := HM.2.2.1 k h2.symm; omega), hr, fun k hk => ?_, Nat.le_trans HM.2.2.2 hg.size⟩ hb hg
  rcases hat with h1 | ⟨b, h1, h2⟩
  · exact HM.2.2.1 k (h1 ▸ hk)
  · rw [hk] at h1; injection h1 with h1; have := HM.2.2.2; omega
/-- append(next, out[k:]...) -/
theorem ins_last (d : Kd α) {w0 W : World} (base : Nat) (hgd : o.guard = none) (s x : Operand) (t e : TypeId) (z : Value) (bytes : Nat)
    (ho : o.op = .call { callee := .builtin .append, args := #[s, x], argTypes := #[t, t] })
    (ht : P.underlying t = some (.slice e)) (hinfo : (P.info? e).map (fun i => (i.zero, i.size, i.bytes)) = some (some z, d.sz, bytes)) (hz : z.cells.size = d.sz) (hs0 : 0 < d.sz) (hb0 : 0 < bytes)
    {f : Nat → Nat} {n0 n c k m c2 : Nat} {A A2 : Option Addr} {v1 : Value} {xs : List α} {p : α} (HM : Mid d e f n0 base (.slice A n c) xs v1 (xs.zipIdx.take k ++ [(p, xs.length)]) W) (hk : k ≤ xs.length) (hs : a.eval s = v1) (hx : a.eval x = .slice A2 m c2)
    (hA : A2 = if c = k then A else A.map (·.add (k * d.sz))) (hm : m = xs.length - k) (HB : Below base w0 W) (hbase : base ≤ W.heap.size) (hl : (xs.length + 1) * bytes ≤ 140737488355328)
    (h : ∀ v2 w1, Kd.S d e w1 base (fun _ => True) v2 (xs.take k ++ [p] ++ xs.drop k) → Below base w0 w1 → W.grownBy w1 v1.ownBlock → wpList P ops Q rest (a.put o.dst v2) w1) :
    wpList P ops Q (o :: rest) a W := by
  obtain ⟨A', c', e', hle, hrow⟩ := OwnRow.reads HM.1.2
  injection e' with e1 e2 e3
  subst e1 e3
  have hrow2 := reads_drop hrow (m := k) (c := c) (by rw [List.length_zipIdx]; exact hk) hle
  rw [List.length_zipIdx, ← hm] at hrow2
  replace hrow2 : ReadsRow ((Kd.tag f d).M W base fun k => k < n0 ∧ some k ≠ (Value.slice A n c).ownBlock) d.sz W A2 m (xs.zipIdx.drop k) := by rw [hA]; exact hrow2
  refine Kd.R_append_rows (Kd.tag f d) base hgd s x t e z bytes ho ht hinfo hz hs0 hb0 v1 _ (xs.zipIdx.drop k) A2 m c2 (fun _ => True) _ hs hx HM.2.1 hrow2 (fun _ _ h => h) (fun k hk => ⟨trivial, fun h2 => by have := HM.2.2.1 k h2.symm; have := hk.1; omega⟩) (fun _ _ => trivial) HB hbase ?_ ?_
  · rw [List.length_append, List.length_take, List.length_zipIdx, List.length_singleton, hm, Nat.min_eq_left hk, show k + 1 + (xs.length - k) = xs.length + 1 by omega]
    exact hl
  · intro v2 w1 hr hb hg hat
    exact h v2 w1 (S_insert hr hk) hb hg
end
end Go.Proofs.Ytiaajmnmbjheoaa.Ins
