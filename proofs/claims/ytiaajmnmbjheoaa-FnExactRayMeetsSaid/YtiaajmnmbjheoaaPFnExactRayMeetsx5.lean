/- The machine's side of a law, function by function: a Lean function with the Go function's answers and the proof that the Go code comes to them. No condition. Written by this session's program over the kit's print, this session's own contracts set in. -/
import Derived.Test.YtiaajmnmbjheoaaPFnExactRayMeetsx0
namespace Go.Proofs.Ytiaajmnmbjheoaa.PFnExactRayMeets
open Go.RowKit Go.Proofs.YtiaajmnmbjheoaaW.PrintWords Go.Proofs.YtiaajmnmbjheoaaW.PrintLast Go.Proofs.YtiaajmnmbjheoaaW.PrintMore
attribute [local go_sem] max2_int min2_int max_two min_two max_three min_three max_four min_four   -- for this text's walks alone
set_option linter.unusedVariables false
set_option linter.unusedSimpArgs false


/-! ### impl_Meet_73: function 73 -/
/-- A meeting's three numbers. -/
def impl_Meet_73.trip (x : S109) : Int × Int × Int := (x.f0, x.f1, x.f2)
/-- A fraction of sizes at which the comparison's products do not wrap around. -/
def impl_Meet_73.ok (x : S109) : Bool := decide (0 ≤ x.f1) && (decide (x.f1 ≤ 1048576) && (decide (1 ≤ x.f2) && decide (x.f2 ≤ 1048576)))
/-- The order of the places, equals by their places. -/
def impl_Meet_73.le (l0 : List S109) (i j : Nat) : Bool := !(Stable.lx (ltOf (Stable.cmpM (l0.map impl_Meet_73.trip))) j i)
def impl_Meet_73.f (l0 : List S109) : Option (List S109) :=
  if l0.length ≤ 40 ∧ l0.all impl_Meet_73.ok = true then some (((List.range l0.length).mergeSort (impl_Meet_73.le l0)).map fun i => l0.getD i z109) else none
theorem impl_Meet_73.ok_iff {x : S109} : impl_Meet_73.ok x = true ↔ 0 ≤ x.f1 ∧ x.f1 ≤ 1048576 ∧ 1 ≤ x.f2 ∧ x.f2 ≤ 1048576 := by
  unfold impl_Meet_73.ok
  simp only [Bool.and_eq_true, decide_eq_true_eq]
theorem impl_Meet_73.at_ {l0 : List S109} (h : l0.all impl_Meet_73.ok = true) (i : Nat) : 0 ≤ ((l0.map impl_Meet_73.trip).getD i (0, 0, 1)).2.1 ∧ ((l0.map impl_Meet_73.trip).getD i (0, 0, 1)).2.1 ≤ 1048576 ∧ 1 ≤ ((l0.map impl_Meet_73.trip).getD i (0, 0, 1)).2.2 ∧ ((l0.map impl_Meet_73.trip).getD i (0, 0, 1)).2.2 ≤ 1048576 := by
  by_cases hi : i < l0.length
  · have := impl_Meet_73.ok_iff.1 (List.all_eq_true.1 h _ (List.getElem_mem hi))
    simp only [List.getD_eq_getElem?_getD, List.getElem?_map, List.getElem?_eq_getElem hi, Option.map_some, Option.getD_some]
    exact this
  · simp only [List.getD_eq_getElem?_getD, List.getElem?_map, List.getElem?_eq_none (Nat.le_of_not_lt hi), Option.map_none, Option.getD_none]
    decide
theorem impl_Meet_73.mul_le {a b : Int} (h0 : 0 ≤ a) (h1 : a ≤ 1048576) (h2 : 1 ≤ b) (h3 : b ≤ 1048576) : 0 ≤ a * b ∧ a * b ≤ 1099511627776 := by
  have e1 := Int.mul_nonneg h0 (show (0 : Int) ≤ b by omega)
  have e2 : a * b ≤ 1048576 * 1048576 := Int.mul_le_mul h1 h3 (by omega) (by decide)
  omega
theorem impl_Meet_73.lt_iff {l0 : List S109} (h : l0.all impl_Meet_73.ok = true) (i j : Nat) : ltOf (Stable.cmpM (l0.map impl_Meet_73.trip)) i j = true ↔ ((l0.map impl_Meet_73.trip).getD i (0, 0, 1)).2.1 * ((l0.map impl_Meet_73.trip).getD j (0, 0, 1)).2.2 < ((l0.map impl_Meet_73.trip).getD j (0, 0, 1)).2.1 * ((l0.map impl_Meet_73.trip).getD i (0, 0, 1)).2.2 := by
  obtain ⟨a0, a1, a2, a3⟩ := impl_Meet_73.at_ h i
  obtain ⟨b0, b1, b2, b3⟩ := impl_Meet_73.at_ h j
  unfold ltOf Stable.cmpM
  generalize (l0.map impl_Meet_73.trip).getD i (0, 0, 1) = x at *
  generalize (l0.map impl_Meet_73.trip).getD j (0, 0, 1) = y at *
  have m1 := impl_Meet_73.mul_le a0 a1 b2 b3
  have m2 := impl_Meet_73.mul_le b0 b1 a2 a3
  generalize x.2.1 * y.2.2 = p at *
  generalize y.2.1 * x.2.2 = q at *
  have e1 : wrap64 p = p := by unfold wrap64; omega
  have e2 : wrap64 q = q := by unfold wrap64; omega
  rw [decide_eq_true_eq, e1, e2]
  unfold Lib.compareInt
  (repeat' split) <;> omega
theorem impl_Meet_73.lt_not {l0 : List S109} (h : l0.all impl_Meet_73.ok = true) (i j : Nat) : ltOf (Stable.cmpM (l0.map impl_Meet_73.trip)) i j = false ↔ ((l0.map impl_Meet_73.trip).getD j (0, 0, 1)).2.1 * ((l0.map impl_Meet_73.trip).getD i (0, 0, 1)).2.2 ≤ ((l0.map impl_Meet_73.trip).getD i (0, 0, 1)).2.1 * ((l0.map impl_Meet_73.trip).getD j (0, 0, 1)).2.2 := by
  rw [← Bool.not_eq_true, impl_Meet_73.lt_iff h, Int.not_lt]
theorem impl_Meet_73.swo {l0 : List S109} (h : l0.all impl_Meet_73.ok = true) : Sort.SWO (ltOf (Stable.cmpM (l0.map impl_Meet_73.trip))) where
  irrefl := fun x => (impl_Meet_73.lt_not h x x).2 (Int.le_refl _)
  trans := fun x y z h1 h2 => by
    rw [impl_Meet_73.lt_iff h] at h1 h2 ⊢
    obtain ⟨a0, a1, a2, a3⟩ := impl_Meet_73.at_ h x
    obtain ⟨b0, b1, b2, b3⟩ := impl_Meet_73.at_ h y
    obtain ⟨c0, c1, c2, c3⟩ := impl_Meet_73.at_ h z
    generalize (l0.map impl_Meet_73.trip).getD x (0, 0, 1) = x at *
    generalize (l0.map impl_Meet_73.trip).getD y (0, 0, 1) = y at *
    generalize (l0.map impl_Meet_73.trip).getD z (0, 0, 1) = z at *
    have e1 := Int.mul_lt_mul_of_pos_right h1 (show 0 < z.2.2 by omega)
    have e2 := Int.mul_lt_mul_of_pos_right h2 (show 0 < x.2.2 by omega)
    refine Int.lt_of_mul_lt_mul_right (a := y.2.2) ?_ (by omega)
    rw [show x.2.1 * z.2.2 * y.2.2 = x.2.1 * y.2.2 * z.2.2 from Int.mul_right_comm _ _ _, show z.2.1 * x.2.2 * y.2.2 = z.2.1 * y.2.2 * x.2.2 from Int.mul_right_comm _ _ _]
    refine Int.lt_trans e1 ?_
    rw [show y.2.1 * x.2.2 * z.2.2 = y.2.1 * z.2.2 * x.2.2 from Int.mul_right_comm _ _ _]
    exact e2
  ntrans := fun x y z h1 h2 => by
    rw [impl_Meet_73.lt_not h] at h1 h2 ⊢
    obtain ⟨a0, a1, a2, a3⟩ := impl_Meet_73.at_ h x
    obtain ⟨b0, b1, b2, b3⟩ := impl_Meet_73.at_ h y
    obtain ⟨c0, c1, c2, c3⟩ := impl_Meet_73.at_ h z
    generalize (l0.map impl_Meet_73.trip).getD x (0, 0, 1) = x at *
    generalize (l0.map impl_Meet_73.trip).getD y (0, 0, 1) = y at *
    generalize (l0.map impl_Meet_73.trip).getD z (0, 0, 1) = z at *
    have e1 := Int.mul_le_mul_of_nonneg_right h1 (show 0 ≤ z.2.2 by omega)
    have e2 := Int.mul_le_mul_of_nonneg_right h2 (show 0 ≤ x.2.2 by omega)
    refine Int.le_of_mul_le_mul_right (a := y.2.2) ?_ (by omega)
    rw [show x.2.1 * z.2.2 * y.2.2 = x.2.1 * y.2.2 * z.2.2 from Int.mul_right_comm _ _ _, show z.2.1 * x.2.2 * y.2.2 = z.2.1 * y.2.2 * x.2.2 from Int.mul_right_comm _ _ _]
    refine Int.le_trans e2 ?_
    rw [show y.2.1 * z.2.2 * x.2.2 = y.2.1 * x.2.2 * z.2.2 from Int.mul_right_comm _ _ _]
    exact e1
/-! #### the row, in the sort's words and back -/
theorem impl_Meet_73.enc_at (l : List S109) {i : Nat} (hi : i < l.length) : Stable.encM (l.map impl_Meet_73.trip) i = [.int .i64 l[i].f0, .int .i64 l[i].f1, .int .i64 l[i].f2] := by
  unfold Stable.encM
  simp only [List.getD_eq_getElem?_getD, List.getElem?_map, List.getElem?_eq_getElem hi, Option.map_some, Option.getD_some]
  rfl
theorem impl_Meet_73.enc_len (l : List (Int × Int × Int)) (i : Nat) : (Stable.encM l i).length = 3 := rfl
theorem impl_Meet_73.holds {w : World} {base g : Nat} {ok : Nat → Prop} {cap : Nat} {cur : Array Value} {inner : List Value} {l : List S109} (hh : w.heap[g]? = some (.cells cur 109 (0, 0))) (ht : cur.toList.take (l.length * 3) = inner) (hr : Reps (k109.M w base ok) 3 l inner) :
    Sort.HoldsK (Stable.encM (l.map impl_Meet_73.trip)) 3 w g 0 (Array.range l.length) := by
  intro j hj
  rw [Sort.size_flatK] at hj
  rw [Array.size_range] at hj
  have h3 : j / 3 < l.length := by omega
  rw [Nat.zero_add, Sort.get_flatK _ _ _ _ (by rw [Array.size_range]; exact hj)]
  have e1 : (Array.range l.length)[j / 3]! = j / 3 := by rw [getElem!_pos _ _ (by simpa using h3)]; simp
  rw [e1, impl_Meet_73.enc_at l h3]
  refine ⟨?_, blk_frozen hh j⟩
  rw [blk_cell hh j]
  have hm := k109_openM (hr.2 (j / 3) l[j / 3] (List.getElem?_eq_getElem h3))
  have hg : inner[j]? = [Value.int .i64 l[j / 3].f0, .int .i64 l[j / 3].f1, .int .i64 l[j / 3].f2][j % 3]? := by
    rw [← hm, List.getElem?_take_of_lt (by omega), List.getElem?_drop, show j / 3 * 3 + j % 3 = j by omega]
  rw [← ht, List.getElem?_take_of_lt hj, Array.getElem?_toList] at hg
  rw [hg]
  have h4 : j % 3 < 3 := by omega
  rw [getElem!_pos _ _ (by exact h4), List.getElem?_eq_getElem (by exact h4)]
  rfl
theorem impl_Meet_73.back {w : World} {base g cap : Nat} {cur : Array Value} {l : List S109} {d' : Array Nat} (n : Nat) (os : Array Obj) (hg : base ≤ g) (hh : w.heap[g]? = some (.cells cur 109 (0, 0))) (hn : l.length ≤ cap) (hm : cap ≤ maxLen) (hs : cur.size = cap * 3) (hd : d'.size = l.length) (hlt : ∀ i, i < d'.size → d'[i]! < l.length) :
    Kd.R k109 109 (sortWorldK (Stable.encM (l.map impl_Meet_73.trip)) 3 w g 0 n d' os) base (fun _ => True) (.slice (some ⟨g, 0, none⟩) l.length cap) (d'.toList.map fun i => l.getD i z109) := by
  have hb := Stable.sw_block (enc := Stable.encM (l.map impl_Meet_73.trip)) (k := 3) n d' os hh
  have hF : (Sort.flatK (Stable.encM (l.map impl_Meet_73.trip)) 3 d').size = l.length * 3 := by rw [Sort.size_flatK, hd]
  have hc : l.length * 3 ≤ cur.size := by omega
  have hl : (d'.toList.map fun i => l.getD i z109).length = l.length := by rw [List.length_map, Array.length_toList, hd]
  have hat : ∀ j, j < l.length * 3 → (Sort.putCells id 0 (Sort.flatK (Stable.encM (l.map impl_Meet_73.trip)) 3 d') cur).toList[j]? = some (Sort.flatK (Stable.encM (l.map impl_Meet_73.trip)) 3 d')[j]! := fun j hj => Stable.put_at _ _ (by rw [hF]; exact hj) (by rw [hF]; exact hc)
  have hpl : (Sort.putCells id 0 (Sort.flatK (Stable.encM (l.map impl_Meet_73.trip)) 3 d') cur).toList.length = cur.size := (Array.length_toList).trans (Stable.put_size _ _)
  have hk : ((Sort.putCells id 0 (Sort.flatK (Stable.encM (l.map impl_Meet_73.trip)) 3 d') cur).toList.take (l.length * 3)).length = l.length * 3 := by rw [List.length_take, hpl]; omega
  refine ⟨fun _ _ => trivial, (Sort.putCells id 0 (Sort.flatK (Stable.encM (l.map impl_Meet_73.trip)) 3 d') cur).toList.take (l.length * 3), ⟨?_, .inr ⟨g, cap, _, by rw [hl], hg, hb, by rw [hl]; exact hn, hm, by rw [Stable.put_size]; exact hs, by rw [hl]; rfl⟩⟩, ?_, ?_⟩
  · rw [hl]; exact hk
  · rw [hl]; exact hk
  · intro j p hp
    obtain ⟨hj, hp⟩ := List.getElem?_eq_some_iff.1 hp
    rw [hl] at hj
    rw [List.getElem_map] at hp
    have hjd : j < d'.size := by omega
    have hv := hlt j hjd
    have e : (((Sort.putCells id 0 (Sort.flatK (Stable.encM (l.map impl_Meet_73.trip)) 3 d') cur).toList.take (l.length * 3)).drop (j * 3)).take 3 = Stable.encM (l.map impl_Meet_73.trip) d'[j]! := by
      apply List.ext_getElem?
      intro t
      by_cases ht : t < 3
      · rw [List.getElem?_take_of_lt ht, List.getElem?_drop, List.getElem?_take_of_lt (by omega), hat _ (by omega), Sort.get_flatK _ _ _ _ (by rw [hd]; omega), show (j * 3 + t) / 3 = j by omega, show (j * 3 + t) % 3 = t by omega, getElem!_pos _ _ (by exact ht), List.getElem?_eq_getElem (by exact ht)]
      · rw [List.getElem?_eq_none (by rw [List.length_take]; omega), List.getElem?_eq_none (by rw [impl_Meet_73.enc_len]; omega)]
    show k109.M _ _ _ _ ((((Sort.putCells id 0 (Sort.flatK (Stable.encM (l.map impl_Meet_73.trip)) 3 d') cur).toList.take (l.length * 3)).drop (j * 3)).take 3)
    rw [e, impl_Meet_73.enc_at l hv]
    have hp2 : p = l[d'[j]!] := by
      rw [← hp, Array.getElem_toList, ← getElem!_pos d' j hjd, List.getD_eq_getElem?_getD, List.getElem?_eq_getElem hv, Option.getD_some]
    rw [hp2]
    exact k109_mkM _ _ _ _
theorem impl_Meet_73.real {ok : Nat → Prop} (v : Value) (l r : List S109) (w0 w : World) (hB : Below w0.heap.size w0 w) (ho : Kd.R k109 109 w w0.heap.size ok v l) (h : impl_Meet_73.f l = some r) :
    Calls Try.prog 73 #[v, .func (.func 74) #[] #[]] w fun e w' => e = .returned (.tuple #[]) ∧ Kd.R k109 109 w' w0.heap.size (fun _ => True) v r ∧ Below w0.heap.size w0 w' := by
  unfold impl_Meet_73.f at h
  split at h
  case isFalse => cases h
  case isTrue hc =>
  obtain rfl := Option.some.inj h
  clear h
  obtain ⟨h40, hall⟩ := hc
  obtain ⟨_, inner, ⟨hlen, hrow⟩, hrep⟩ := ho
  rcases hrow with ⟨rfl, h0⟩ | ⟨g, cap, cur, rfl, hbg, hh, hn, hm, hs, ht⟩
  · have hl : l = [] := List.eq_nil_of_length_eq_zero h0
    subst hl
    refine (Stable.sortNone 74 0 #[] w).mono ?_
    rintro e w' ⟨rfl, rfl⟩
    exact ⟨rfl, by rw [show ((List.range ([] : List S109).length).mergeSort (impl_Meet_73.le [])).map (fun i => ([] : List S109).getD i z109) = [] by simp]; exact Kd.R_nil _ _ _ _ _, hB⟩
  · have hS := impl_Meet_73.swo hall
    have hH := impl_Meet_73.holds (cap := cap) hh ht hrep
    have hlt : g < w.heap.size := (Array.getElem?_eq_some_iff.1 hh).1
    have R : RowK (Stable.encM (l.map impl_Meet_73.trip)) 3 w g 0 (Array.range l.length) := ⟨fun _ => rfl, (fun x v hv => by
      unfold Stable.encM at hv
      rcases List.mem_cons.1 hv with rfl | hv
      · rfl
      rcases List.mem_cons.1 hv with rfl | hv
      · rfl
      rcases List.mem_cons.1 hv with rfl | hv
      · rfl
      cases hv), hH, hlt⟩
    have hid : ∀ i, i < l.length → (Array.range l.length)[i]! = i := fun i hi => by rw [getElem!_pos _ _ (by simpa using hi)]; simp
    have hcmp : CmpLays Try.prog 74 #[] (Stable.encM (l.map impl_Meet_73.trip)) 3 (Stable.cmpM (l.map impl_Meet_73.trip)) g 0 l.length w := fun m os dk hdk x y => Stable.closureM _ _ _ _ _ _ _
    refine (Stable.sortStable Stable.lay hS 74 #[] cap l.length (Array.range l.length) (enters_of Try.func74 (by kernel_rfl) rfl) hcmp R (by simp) h40 hid).mono ?_
    rintro e w' ⟨rfl, d', M, n, os, rfl⟩
    have hd : d'.size = l.length := by rw [M.perm.1]; simp
    have hlt2 : ∀ i, i < d'.size → d'[i]! < l.length := fun i hi => Sort.permIn_all _ d' 0 l.length (fun v => v < l.length) (by simp) M.perm (fun j _ hj => by rw [hid j hj]; exact hj) i (Nat.zero_le _) (by omega)
    have hb := impl_Meet_73.back n os hbg hh hn hm hs hd hlt2
    rw [Stable.merged_list hS (by simp) hid M] at hb
    exact ⟨rfl, hb, hB.grown (Stable.sw_grown _ _ _ _ _ _ _) (below_size hB) (fun k hk => by injection hk with hk; subst hk; exact hbg)⟩

end Go.Proofs.Ytiaajmnmbjheoaa.PFnExactRayMeets
