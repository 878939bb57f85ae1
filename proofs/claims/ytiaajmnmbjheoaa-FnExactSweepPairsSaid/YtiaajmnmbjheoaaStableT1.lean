/- slices.SortStableFunc at whole numbers: the whole, a slice that is nil. No condition beyond what each says. -/
import Derived.Test.YtiaajmnmbjheoaaStableS1
import Derived.Lib.Small
namespace Go.Proofs.Ytiaajmnmbjheoaa.Stable1
open Go.Shelf Go.RowKit Go.Lib Go.Sort Go.Proofs.Ytiaajmnmbjheoaa.Stable
set_option linter.unusedVariables false
set_option linter.unusedSimpArgs false
set_option maxHeartbeats 1000000 in
theorem cmpInt (x y : Int) (w : World) : Calls Try.prog 75 #[.int .i64 x, .int .i64 y] w fun e w' => e = .returned (.int .i64 (Lib.compareInt x y)) ∧ w' = w := by
  go_enter Try.func75, Try.ntmps75
  go_wp2
  all_goals (go_ret; refine ⟨?_, rfl⟩; unfold Lib.compareInt; (repeat' split) <;> first | rfl | (exfalso; omega))
/-! ### the whole -/
theorem stable {enc : Nat → Value} {blk off : Nat} {w0 : World} {cf : Nat → Nat → Int} (L : Lay1 Try.prog) (hO : SWO (ltOf cf)) (g : Nat) (cb : Array Value) (cap N : Nat) (d : Array Nat) (eg : ∀ args w, (callFunc g args).run Try.prog w = .ok (.enter g args) w) (hcmp : CmpLays1 Try.prog g cb enc cf blk off N w0) (R : Row1 enc w0 blk off d) (hs : d.size = N) (hN : N ≤ 40) (hid : ∀ i, i < N → d[i]! = i) :
    Calls Try.prog 106 #[.slice (some ⟨blk, off, none⟩) N cap, .int .i64 N, .func (.func g) #[] cb] w0 fun e w' => e = .returned (.tuple #[]) ∧ ∃ d', Merged (ltOf cf) 0 N d d' ∧ SW enc w0 blk off d' w' := by
  have C : Callees Try.prog enc blk off w0 cf g cb cap N := {
    ins := fun a b d1 w1 h1 S hab hb => by
      subst hs
      have h := Any.insertionSortCmpFunc_s insLaid enc cf g cb blk off cap a b d d1 w0 w1 eg hcmp R h1.symm S hab (by omega) (by omega)
      rw [h1] at h
      exact h
    sym := fun a m b d1 w1 h1 S ham hmb hb A B X => symMerge L hO g cb cap N eg hcmp R hs (by omega) (b - a) a m b d1 w1 (Nat.le_refl _) h1 S ham hmb hb A B X
    eI := enters_of Try.func132 (by kernel_rfl) rfl
    eM := enters_of L.fSym (by kernel_rfl) rfl }
  have S : SW enc w0 blk off d w0 := SW.start R.hH
  by_cases h1 : N < 20
  · exact stableFew L hO g cb cap N d w0 C hs S hid h1
  · by_cases h2 : N = 20
    · exact stableTwenty L hO g cb cap N d w0 C hs S hid h2
    · by_cases h3 : N = 40
      · exact stableForty L hO g cb cap N d w0 C hs S hid h3
      · exact stableMid L hO g cb cap N d w0 C hs S hid (by omega) (by omega)
set_option maxHeartbeats 4000000 in
set_option maxRecDepth 1000000 in
theorem sortStable {enc : Nat → Value} {blk off : Nat} {w0 : World} {cf : Nat → Nat → Int} (L : Lay1 Try.prog) (hO : SWO (ltOf cf)) (g : Nat) (cb : Array Value) (cap N : Nat) (d : Array Nat) (eg : ∀ args w, (callFunc g args).run Try.prog w = .ok (.enter g args) w) (hcmp : CmpLays1 Try.prog g cb enc cf blk off N w0) (R : Row1 enc w0 blk off d) (hs : d.size = N) (hN : N ≤ 40) (hid : ∀ i, i < N → d[i]! = i) :
    Calls Try.prog 80 #[.slice (some ⟨blk, off, none⟩) N cap, .func (.func g) #[] cb] w0 fun e w' => e = .returned (.tuple #[]) ∧ ∃ d', Merged (ltOf cf) 0 N d d' ∧ SW enc w0 blk off d' w' := by
  have hc := stable L hO g cb cap N d eg hcmp R hs hN hid
  have HC : Aside (Calls Try.prog 106 #[.slice (some ⟨blk, off, none⟩) N cap, .int .i64 N, .func (.func g) #[] cb] w0 fun e w' => e = .returned (.tuple #[]) ∧ ∃ d', Merged (ltOf cf) 0 N d d' ∧ SW enc w0 blk off d' w') := hc
  have eS : ∀ args w, (callFunc 106 args).run Try.prog w = .ok (.enter 106 args) w := enters_of L.fStable (by kernel_rfl) rfl
  clear hc hcmp R hid hO L
  go_enter Try.func80, Try.ntmps80
  go_wp2_with fail
  have hq_ := HC.out
  refine Calls.mono hq_ ?_
  rintro e w' ⟨rfl, d', M, S⟩
  have M1 : Hid (Merged (ltOf cf) 0 N d d') := M
  have S1 : Aside (SW enc w0 blk off d' w') := S
  clear M S
  go_wp2
  all_goals go_end0
  all_goals exact ⟨rfl, d', M1.out, S1.out⟩
set_option maxHeartbeats 4000000 in
set_option maxRecDepth 1000000 in
theorem insNone (p : Option Addr) (g : Nat) (c : Nat) (cb : Array Value) (w : World) : Calls Try.prog 132 #[.slice p 0 c, .int .i64 0, .int .i64 0, .func (.func g) #[] cb] w fun e w' => e = .returned (.tuple #[]) ∧ w' = w := by
  go_enter Try.func132, Try.ntmps132
  go_wp2_with fail
  refine wp_loop_rounds 1 ?_
  rw [rounds_succ]
  go_wp2
  all_goals go_end0
  all_goals exact ⟨rfl, rfl⟩
set_option maxHeartbeats 4000000 in
set_option maxRecDepth 1000000 in
theorem stableNone (p : Option Addr) (g : Nat) (c : Nat) (cb : Array Value) (w : World) : Calls Try.prog 106 #[.slice p 0 c, .int .i64 0, .func (.func g) #[] cb] w fun e w' => e = .returned (.tuple #[]) ∧ w' = w := by
  go_enter Try.func106, Try.ntmps106
  go_wp2_with fail
  refine wp_loop_rounds 1 ?_
  rw [rounds_succ]
  go_wp2_with fail
  refine (insNone p g c cb _).mono ?_
  rintro e w' ⟨rfl, rfl⟩
  go_wp2_with fail
  refine wp_loop_rounds 1 ?_
  rw [rounds_succ]
  go_wp2
  all_goals go_end0
  all_goals exact ⟨rfl, rfl⟩
set_option maxHeartbeats 4000000 in
set_option maxRecDepth 1000000 in
theorem sortNone (p : Option Addr) (g : Nat) (c : Nat) (cb : Array Value) (w : World) : Calls Try.prog 80 #[.slice p 0 c, .func (.func g) #[] cb] w fun e w' => e = .returned (.tuple #[]) ∧ w' = w := by
  go_enter Try.func80, Try.ntmps80
  go_wp2_with fail
  refine (stableNone p g c cb _).mono ?_
  rintro e w' ⟨rfl, rfl⟩
  go_wp2
  all_goals go_end0
  all_goals exact ⟨rfl, rfl⟩
/-! ### a world of the sort's, seen from the row's block -/
theorem sw_grown (enc : Nat → Value) (w : World) (g n : Nat) (d : Array Nat) (os : Array Obj) : w.grownBy (sortWorld enc w g 0 n d os) (some g) := by
  refine ⟨rfl, rfl, rfl, ?_, fun q hq hne => ?_⟩
  · unfold sortWorld
    rw [size_grow, size_putRow]
    exact Nat.le_add_right _ _
  · unfold sortWorld
    rw [heap_grow_old _ _ (by rw [size_putRow]; exact hq)]
    have h : ¬ g = q := fun e => hne (by rw [e])
    show (w.heap.modify g _)[q]? = _
    rw [Array.getElem?_modify, if_neg h]
theorem sw_block {enc : Nat → Value} {w : World} {g : Nat} {cur : Array Value} {e : TypeId} {fr : Nat × Nat} (n : Nat) (d : Array Nat) (os : Array Obj) (hh : w.heap[g]? = some (.cells cur e fr)) : (sortWorld enc w g 0 n d os).heap[g]? = some (.cells (putCells enc 0 d cur) e fr) := by
  have hlt : g < w.heap.size := (Array.getElem?_eq_some_iff.1 hh).1
  unfold sortWorld
  rw [heap_grow_old _ _ (by rw [size_putRow]; exact hlt)]
  show (w.heap.modify g _)[g]? = _
  rw [Array.getElem?_modify, if_pos rfl, hh]
  rfl
theorem put_size (enc : Nat → Value) (F : Array Nat) (cur : Array Value) : (putCells enc 0 F cur).size = cur.size := by simp [putCells]
theorem put_at (enc : Nat → Value) (F : Array Nat) (cur : Array Value) {j : Nat} (hj : j < F.size) (hF : F.size ≤ cur.size) : (putCells enc 0 F cur).toList[j]? = some (enc F[j]!) := by
  rw [Array.getElem?_toList]
  have h2 : j < cur.size := by omega
  simp [putCells, h2, hj]
/-! ### the list that comes of it -/
theorem merged_list {lt : Nat → Nat → Bool} (hS : SWO lt) {N : Nat} {d d' : Array Nat} (hs : d.size = N) (hid : ∀ i, i < N → d[i]! = i) (h : Merged lt 0 N d d') : d'.toList = (List.range N).mergeSort (fun x y => !lx lt y x) := by
  have e : d.toList = List.range N := by
    apply List.ext_getElem (by simpa using hs)
    intro i h1 h2
    have := hid i (by simpa using h2)
    rw [getElem!_pos d i (by simpa using h1)] at this
    simpa using this
  subst hs
  have := sorted_unique_holds (lt := lx lt) (swo_lx hS) (fun x y h1 h2 => by
    refine Classical.byContradiction fun hne => ?_
    rcases lx_total (lt := lt) hne with c | c
    · rw [h1] at c; cases c
    · rw [h2] at c; cases c) d d' h.perm (fun i j hi hij hj => lx_not hS (h.asc i j hi hij hj))
  rw [this, e]
end Go.Proofs.Ytiaajmnmbjheoaa.Stable1
