/- The stable sort, plain: elements are the places that they had; a block merge by rotations keeps equals in the order of their places. No program in this text. No condition. -/
import Derived.Sort.LotA
import Derived.Sort.WalkA
namespace Go.Proofs.Ytiaajmnmbjheoaa.Stable
open Go.Sort
set_option linter.unusedVariables false
/-- The order beneath, equals by their places. -/
def lx (lt : Nat → Nat → Bool) (x y : Nat) : Bool := lt x y || (!lt y x && decide (x < y))
section
variable {lt : Nat → Nat → Bool}
theorem lx_of {x y : Nat} (h : lt x y = true) : lx lt x y = true := by simp [lx, h]
theorem lx_tag {x y : Nat} (h : lt y x = false) (hxy : x < y) : lx lt x y = true := by simp [lx, h, hxy]
theorem lx_cases {x y : Nat} (h : lx lt x y = true) : lt x y = true ∨ lt y x = false ∧ x < y := by
  simpa [lx] using h
theorem lx_anti (hS : SWO lt) {x y : Nat} (h : lx lt x y = true) : lt y x = false := by
  rcases lx_cases h with h | h
  · exact hS.asymmA h
  · exact h.1
theorem lx_irrefl (hS : SWO lt) (x : Nat) : lx lt x x = false := by simp [lx, hS.irrefl x]
theorem lx_trans (hS : SWO lt) {x y z : Nat} (h : lx lt x y = true) (h2 : lx lt y z = true) : lx lt x z = true := by
  have n1 := lx_anti hS h
  have n2 := lx_anti hS h2
  have n3 := hS.ntrans z y x n2 n1
  rcases lx_cases h with a | ⟨a, a'⟩
  · cases hxz : lt x z with
    | true => exact lx_of hxz
    | false =>
      have := hS.ntrans x z y hxz (by
        rcases lx_cases h2 with b | b
        · exact n2
        · exact b.1)
      rw [this] at a; cases a
  · rcases lx_cases h2 with b | ⟨b, b'⟩
    · cases hxz : lt x z with
      | true => exact lx_of hxz
      | false =>
        have := hS.ntrans y x z (by
          rcases lx_cases h with c | c
          · exact n1
          · exact c.1) hxz
        rw [this] at b; cases b
    · exact lx_tag n3 (by omega)
theorem lx_not (hS : SWO lt) {x y : Nat} (h : lx lt x y = true) : lx lt y x = false := by
  cases c : lx lt y x with
  | false => rfl
  | true => have := lx_trans hS h c; rw [lx_irrefl hS] at this; cases this
theorem lx_total {x y : Nat} (h : x ≠ y) : lx lt x y = true ∨ lx lt y x = true := by
  cases a : lt x y with
  | true => exact .inl (lx_of a)
  | false =>
    cases b : lt y x with
    | true => exact .inr (lx_of b)
    | false =>
      rcases Nat.lt_or_gt_of_ne h with c | c
      · exact .inl (lx_tag b c)
      · exact .inr (lx_tag a c)
theorem swo_lx (hS : SWO lt) : SWO (lx lt) where
  irrefl := lx_irrefl hS
  trans := fun x y z h h2 => lx_trans hS h h2
  ntrans := fun x y z h h2 => by
    cases c : lx lt x z with
    | false => rfl
    | true =>
      by_cases e1 : x = y
      · subst e1; rw [c] at h2; cases h2
      · by_cases e2 : y = z
        · subst e2; rw [c] at h; cases h
        · have a := (lx_total (lt := lt) e1).resolve_left (by rw [h]; decide)
          have b := (lx_total (lt := lt) e2).resolve_left (by rw [h2]; decide)
          have := lx_not hS (lx_trans hS b a)
          rw [this] at c; cases c
/-- 'less' is negatively transitive: what is less than y is less than what is not less than y. -/
theorem lt_up (hS : SWO lt) {x y z : Nat} (h : lt x y = true) (h2 : lt z y = false) : lt x z = true := by
  cases c : lt x z with
  | true => rfl
  | false => have := hS.ntrans x z y c h2; rw [this] at h; cases h
theorem lt_down (hS : SWO lt) {x y z : Nat} (h : lt x y = true) (h2 : lt x z = false) : lt z y = true := by
  cases c : lt z y with
  | true => rfl
  | false => have := hS.ntrans x z y h2 c; rw [this] at h; cases h
end
/-! ### ascending, strictly -/
def Asc (lt : Nat → Nat → Bool) (a b : Nat) (d : Array Nat) : Prop := ∀ i j, a ≤ i → i < j → j < b → lx lt d[i]! d[j]! = true
/-- Every place of the left part is ahead of every place of the right one. -/
def Cross (a m b : Nat) (d : Array Nat) : Prop := ∀ i j, a ≤ i → i < m → m ≤ j → j < b → d[i]! < d[j]!
/-! ### rotations -/
def rotf (a m b i : Nat) : Nat := if a ≤ i ∧ i < b then (if i < a + (b - m) then i + (m - a) else i - (b - m)) else i
def swf (a b n i : Nat) : Nat := if a ≤ i ∧ i < a + n then i - a + b else if b ≤ i ∧ i < b + n then i - b + a else i
/-- d' is d with its places gone through f, and nothing lost in [lo, hi). -/
structure Mv (f : Nat → Nat) (lo hi : Nat) (d d' : Array Nat) : Prop where
  get : ∀ i, d'[i]! = d[f i]!
  perm : PermIn lo hi d d'
theorem Mv.size {f : Nat → Nat} {lo hi : Nat} {d d' : Array Nat} (h : Mv f lo hi d d') : d'.size = d.size := h.perm.1
theorem Mv.refl (lo hi : Nat) (d : Array Nat) : Mv id lo hi d d := ⟨fun _ => rfl, permIn_refl d lo hi⟩
theorem Mv.trans {f g : Nat → Nat} {lo hi : Nat} {d d' d'' : Array Nat} (h : Mv f lo hi d d') (h2 : Mv g lo hi d' d'') : Mv (fun i => f (g i)) lo hi d d'' := ⟨fun i => by rw [h2.get, h.get], permIn_trans _ _ _ _ _ h.perm h2.perm⟩
theorem Mv.as {f g : Nat → Nat} {lo hi : Nat} {d d' : Array Nat} (h : Mv f lo hi d d') (e : ∀ i, f i = g i) : Mv g lo hi d d' := ⟨fun i => by rw [h.get, e], h.perm⟩
theorem Mv.swp {lo hi : Nat} (d : Array Nat) {i j : Nat} (hi_ : lo ≤ i) (h1 : i < hi) (hj : lo ≤ j) (h2 : j < hi) (hb : hi ≤ d.size) : Mv (fun x => if x = j then i else if x = i then j else x) lo hi d (swp d i j) :=
  ⟨fun x => by
    rw [swp_get d (by omega) (by omega)]
    by_cases e : x = j
    · subst e; simp
    · by_cases e2 : x = i
      · simp only [if_neg e, if_pos e2]
      · simp only [if_neg e, if_neg e2], swp_permIn d lo hi i j hi_ h1 hj h2 hb⟩
theorem swf_next {a b n : Nat} (h : a + n < b) (i : Nat) : swf a b n (if i = b + n then a + n else if i = a + n then b + n else i) = swf a b (n + 1) i := by
  unfold swf
  (repeat' split) <;> omega
theorem swf_zero (a b i : Nat) : swf a b 0 i = i := by unfold swf; (repeat' split) <;> omega
theorem rot_gt {m i j : Nat} (h : j < i) (him : i ≤ m) (x : Nat) : swf (m - i) m j (rotf (m - (i - j)) m (m + j) x) = rotf (m - i) m (m + j) x := by
  unfold swf rotf
  (repeat' split) <;> omega
theorem rot_lt {m i j : Nat} (h : i < j) (him : i ≤ m) (x : Nat) : swf (m - i) (m + j - i) i (rotf (m - i) m (m + (j - i)) x) = rotf (m - i) m (m + j) x := by
  unfold swf rotf
  (repeat' split) <;> omega
theorem rot_eq {m i : Nat} (him : i ≤ m) (x : Nat) : swf (m - i) m i x = rotf (m - i) m (m + i) x := by
  unfold swf rotf
  (repeat' split) <;> omega
theorem rot_none {a m : Nat} (h : a ≤ m) (x : Nat) : rotf a m m x = x := by unfold rotf; (repeat' split) <;> omega
theorem rot_none' {m b : Nat} (h : m ≤ b) (x : Nat) : rotf m m b x = x := by unfold rotf; (repeat' split) <;> omega
theorem rot_up {a k : Nat} (h : a ≤ k) (x : Nat) : rotf a (a + 1) (k + 1) (if x = k + 1 then k else if x = k then k + 1 else x) = rotf a (a + 1) (k + 2) x := by
  unfold rotf
  (repeat' split) <;> omega
theorem rot_down {k m : Nat} (h : k < m) (x : Nat) : rotf (k + 1) m (m + 1) (if x = k then k + 1 else if x = k + 1 then k else x) = rotf k m (m + 1) x := by
  unfold rotf
  (repeat' split) <;> omega
/-! ### a merge -/
structure Merged (lt : Nat → Nat → Bool) (a b : Nat) (d d' : Array Nat) : Prop where
  perm : PermIn a b d d'
  asc : Asc lt a b d'
section
variable {lt : Nat → Nat → Bool}
/-- The left part is one element. -/
theorem merged_up (hS : SWO lt) {a i b : Nat} {d d' : Array Nat} (hi : a + 1 ≤ i) (hib : i ≤ b) (hs : Asc lt (a + 1) b d) (hc : Cross a (a + 1) b d)
    (h1 : ∀ h, a + 1 ≤ h → h < i → lt d[h]! d[a]! = true) (h2 : ∀ h, i ≤ h → h < b → lt d[h]! d[a]! = false) (hb : b ≤ d.size) (hm : Mv (rotf a (a + 1) i) a b d d') : Merged lt a b d d' := by
  refine ⟨hm.perm, fun x y hx hxy hy => ?_⟩
  rw [hm.get, hm.get]
  have e : ∀ z, a ≤ z → z < b → rotf a (a + 1) i z = if z < i - 1 then z + 1 else if z = i - 1 then a else z := fun z h1 h2 => by
    unfold rotf; (repeat' split) <;> omega
  rw [e x hx (by omega), e y (by omega) hy]
  by_cases c1 : x < i - 1
  · rw [if_pos c1]
    by_cases c2 : y < i - 1
    · rw [if_pos c2]; exact hs _ _ (by omega) (by omega) (by omega)
    · rw [if_neg c2]
      by_cases c3 : y = i - 1
      · rw [if_pos c3]; exact lx_of (h1 _ (by omega) (by omega))
      · rw [if_neg c3]; exact hs _ _ (by omega) (by omega) (by omega)
  · rw [if_neg c1, if_neg (show ¬ y < i - 1 by omega), if_neg (show ¬ y = i - 1 by omega)]
    by_cases c2 : x = i - 1
    · rw [if_pos c2]; exact lx_tag (h2 _ (by omega) (by omega)) (hc _ _ (Nat.le_refl _) (by omega) (by omega) (by omega))
    · rw [if_neg c2]; exact hs _ _ (by omega) (by omega) (by omega)
/-- The right part is one element. -/
theorem merged_down (hS : SWO lt) {a i m : Nat} {d d' : Array Nat} (hi : a ≤ i) (him : i ≤ m) (hs : Asc lt a m d) (hc : Cross a m (m + 1) d)
    (h1 : ∀ h, a ≤ h → h < i → lt d[m]! d[h]! = false) (h2 : ∀ h, i ≤ h → h < m → lt d[m]! d[h]! = true) (hb : m + 1 ≤ d.size) (hm : Mv (rotf i m (m + 1)) a (m + 1) d d') : Merged lt a (m + 1) d d' := by
  refine ⟨hm.perm, fun x y hx hxy hy => ?_⟩
  rw [hm.get, hm.get]
  have e : ∀ z, a ≤ z → z < m + 1 → rotf i m (m + 1) z = if z < i then z else if z = i then m else z - 1 := fun z h1 h2 => by
    unfold rotf; (repeat' split) <;> omega
  rw [e x hx (by omega), e y (by omega) hy]
  by_cases c1 : x < i
  · rw [if_pos c1]
    by_cases c2 : y < i
    · rw [if_pos c2]; exact hs _ _ (by omega) (by omega) (by omega)
    · rw [if_neg c2]
      by_cases c3 : y = i
      · rw [if_pos c3]; exact lx_tag (h1 _ (by omega) (by omega)) (hc _ _ (by omega) (by omega) (by omega) (by omega))
      · rw [if_neg c3]; exact hs _ _ (by omega) (by omega) (by omega)
  · rw [if_neg c1, if_neg (show ¬ y < i by omega), if_neg (show ¬ y = i by omega)]
    by_cases c2 : x = i
    · rw [if_pos c2]; exact lx_of (h2 _ (by omega) (by omega))
    · rw [if_neg c2]; exact hs _ _ (by omega) (by omega) (by omega)
/-- Which elements of the two parts go to the left half. -/
structure Cut (lt : Nat → Nat → Bool) (a m b s : Nat) (d : Array Nat) : Prop where
  ge : a ≤ s
  sm : s ≤ m
  smid : s ≤ (a + b) / 2
  me : m + s ≤ (a + b) / 2 + m
  eb : (a + b) / 2 + m ≤ b + s
  low : a < s → (a + b) / 2 + m < b + s → lt d[(a + b) / 2 + m - s]! d[s - 1]! = false
  high : s < m → s < (a + b) / 2 → lt d[(a + b) / 2 + m - s - 1]! d[s]! = true
theorem rot_fit (a m b s : Nat) (d d' : Array Nat) (ha : a < m) (hb : m < b) (hC : Cut lt a m b s d) (hm : Mv (rotf s m ((a + b) / 2 + m - s)) a b d d') :
    (∀ x, a ≤ x → x < s → d'[x]! = d[x]!) ∧ (∀ x, s ≤ x → x < (a + b) / 2 → d'[x]! = d[x + (m - s)]!) ∧ (∀ x, (a + b) / 2 ≤ x → x < (a + b) / 2 + m - s → d'[x]! = d[x - ((a + b) / 2 - s)]!) ∧ ∀ x, (a + b) / 2 + m - s ≤ x → d'[x]! = d[x]! := by
  have h1 := hC.ge; have h2 := hC.sm; have h3 := hC.smid; have h4 := hC.eb
  refine ⟨fun x _ _ => ?_, fun x _ _ => ?_, fun x _ _ => ?_, fun x _ => ?_⟩ <;> rw [hm.get] <;> congr 1 <;> unfold rotf <;> (repeat' split) <;> omega
/-- What the two halves hold behind the rotation. -/
structure Halves (lt : Nat → Nat → Bool) (a s c e b : Nat) (d : Array Nat) : Prop where
  a1 : Asc lt a s d
  a2 : Asc lt s c d
  c1 : Cross a s c d
  b1 : Asc lt c e d
  b2 : Asc lt e b d
  c2 : Cross c e b d
  all : ∀ i j, a ≤ i → i < c → c ≤ j → j < b → lx lt d[i]! d[j]! = true
theorem halves (hS : SWO lt) {a m b s : Nat} {d d' : Array Nat} (ha : a < m) (hb : m < b) (h1 : Asc lt a m d) (h2 : Asc lt m b d) (hx : Cross a m b d) (hC : Cut lt a m b s d)
    (hm : Mv (rotf s m ((a + b) / 2 + m - s)) a b d d') : Halves lt a s ((a + b) / 2) ((a + b) / 2 + m - s) b d' := by
  obtain ⟨g1, g2, g3, g4⟩ := rot_fit a m b s d d' ha hb hC hm
  obtain ⟨k1, k2, k3, k4, k5, k6, k7⟩ := hC
  generalize hc : (a + b) / 2 = c at *
  have hcb : c < b := by omega
  have hac : a ≤ c := by omega
  generalize he : c + m - s = e at *
  -- the four pieces, of d: left low [a, s), right low [m, e), left high [s, m), right high [e, b)
  have lowlow : ∀ i j, a ≤ i → i < s → s ≤ j → j < m → lx lt d[i]! d[j]! = true := fun i j p1 p2 p3 p4 => h1 i j p1 (by omega) p4
  have hihi : ∀ i j, m ≤ i → i < e → e ≤ j → j < b → lx lt d[i]! d[j]! = true := fun i j p1 p2 p3 p4 => h2 i j p1 (by omega) p4
  have lr : ∀ i j, a ≤ i → i < s → e ≤ j → j < b → lx lt d[i]! d[j]! = true := fun i j p1 p2 p3 p4 => by
    have q : lx lt d[s - 1]! d[e]! = true := lx_tag (k6 (by omega) (by omega)) (hx _ _ (by omega) (by omega) (by omega) (by omega))
    have q1 : lx lt d[i]! d[e]! = true := by
      by_cases ei : i = s - 1
      · rw [ei]; exact q
      · exact lx_trans hS (h1 i (s - 1) p1 (by omega) (by omega)) q
    by_cases ej : j = e
    · rw [ej]; exact q1
    · exact lx_trans hS q1 (h2 e j (by omega) (by omega) p4)
  have rl : ∀ i j, m ≤ i → i < e → s ≤ j → j < m → lx lt d[i]! d[j]! = true := fun i j p1 p2 p3 p4 => by
    have q : lx lt d[e - 1]! d[s]! = true := lx_of (k7 (by omega) (by omega))
    have q1 : lx lt d[i]! d[s]! = true := by
      by_cases ei : i = e - 1
      · rw [ei]; exact q
      · exact lx_trans hS (h2 i (e - 1) p1 (by omega) (by omega)) q
    by_cases ej : j = s
    · rw [ej]; exact q1
    · exact lx_trans hS q1 (h1 s j (by omega) (by omega) p4)
  refine ⟨?_, ?_, ?_, ?_, ?_, ?_, ?_⟩
  · intro i j p1 p2 p3
    rw [g1 i p1 (by omega), g1 j (by omega) p3]; exact h1 i j p1 p2 (by omega)
  · intro i j p1 p2 p3
    rw [g2 i p1 (by omega), g2 j (by omega) p3]; exact h2 _ _ (by omega) (by omega) (by omega)
  · intro i j p1 p2 p3 p4
    rw [g1 i p1 p2, g2 j p3 p4]; exact hx _ _ p1 (by omega) (by omega) (by omega)
  · intro i j p1 p2 p3
    rw [g3 i p1 (by omega), g3 j (by omega) p3]; exact h1 _ _ (by omega) (by omega) (by omega)
  · intro i j p1 p2 p3
    rw [g4 i p1, g4 j (by omega)]; exact h2 _ _ (by omega) p2 p3
  · intro i j p1 p2 p3 p4
    rw [g3 i p1 p2, g4 j p3]; exact hx _ _ (by omega) (by omega) (by omega) p4
  · intro i j p1 p2 p3 p4
    by_cases ci : i < s
    · rw [g1 i p1 ci]
      by_cases cj : j < e
      · rw [g3 j p3 cj]; exact lowlow _ _ p1 ci (by omega) (by omega)
      · rw [g4 j (by omega)]; exact lr _ _ p1 ci (by omega) p4
    · rw [g2 i (by omega) p2]
      by_cases cj : j < e
      · rw [g3 j p3 cj]; exact rl _ _ (by omega) (by omega) (by omega) (by omega)
      · rw [g4 j (by omega)]; exact hihi _ _ (by omega) (by omega) (by omega) p4
/-- The two halves, each merged. -/
theorem merged_both (hS : SWO lt) {a s c e b : Nat} {d d1 d2 : Array Nat} (hac : a ≤ c) (hcb : c ≤ b) (hb : b ≤ d.size) (hH : Halves lt a s c e b d) (h1 : Merged lt a c d d1) (h2 : Merged lt c b d1 d2) : Merged lt a b d d2 := by
  have s1 := h1.perm.1
  have hb1 : b ≤ d1.size := by omega
  have p1 := permIn_mono d d1 a c a b (Nat.le_refl _) hcb hb h1.perm
  have p2 := permIn_mono d1 d2 c b a b hac (Nat.le_refl _) hb1 h2.perm
  refine ⟨permIn_trans _ _ _ _ _ p1 p2, fun i j q1 q2 q3 => ?_⟩
  by_cases ci : i < c
  · rw [h2.perm.2.1 i (.inl ci)]
    by_cases cj : j < c
    · rw [h2.perm.2.1 j (.inl cj)]; exact h1.asc i j q1 q2 cj
    · have all2 : ∀ y, c ≤ y → y < b → ∀ x, a ≤ x → x < c → lx lt d[x]! d2[y]! = true := fun y hy1 hy2 x hx1 hx2 =>
        permIn_all d1 d2 c b (fun v => lx lt d[x]! v = true) hb1 h2.perm (fun y hy1 hy2 => by rw [h1.perm.2.1 y (.inr hy1)]; exact hH.all x y hx1 hx2 hy1 hy2) y hy1 hy2
      exact permIn_all d d1 a c (fun v => lx lt v d2[j]! = true) (by omega) h1.perm (fun x hx1 hx2 => all2 j (by omega) q3 x hx1 hx2) i q1 ci
  · exact h2.asc i j (by omega) q2 q3
theorem merged_left {a s c : Nat} {d : Array Nat} (ha : a ≤ s) (hs : s ≤ c) (h1 : Asc lt a s d) (h2 : Asc lt s c d) (h : ¬ (a < s ∧ s < c)) : Merged lt a c d d := by
  refine ⟨permIn_refl d a c, ?_⟩
  by_cases e : a = s
  · subst e; exact h2
  · have : s = c := by omega
    subst this; exact h1
end
/-! ### the search for a place -/
theorem Asc.le_not {lt : Nat → Nat → Bool} (hS : SWO lt) {a b : Nat} {d : Array Nat} (h : Asc lt a b d) {i j : Nat} (hi : a ≤ i) (hij : i ≤ j) (hj : j < b) : lt d[j]! d[i]! = false := by
  by_cases e : i = j
  · subst e; exact hS.irrefl _
  · exact lx_anti hS (h i j hi (by omega) hj)
end Go.Proofs.Ytiaajmnmbjheoaa.Stable
