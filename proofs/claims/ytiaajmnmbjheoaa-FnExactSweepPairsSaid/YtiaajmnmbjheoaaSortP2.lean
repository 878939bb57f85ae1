/- slices.SortFunc at pairs: the closure's comparison, cmp.Or. No condition beyond what each says. -/
import Derived.Test.YtiaajmnmbjheoaaSortP
import Derived.Test.YtiaajmnmbjheoaaStableT1
import Derived.Deep.RegionHeld3
namespace Go.Proofs.Ytiaajmnmbjheoaa.SortedP
open Go.Shelf Go.RowKit Go.Lib Go.Sort
set_option linter.unusedVariables false
set_option linter.unusedSimpArgs false
/-- cmp.Or at two numbers. -/
def or2 (a b : Int) : Int := if a = 0 then b else a
set_option maxHeartbeats 2000000 in
set_option maxRecDepth 100000 in
theorem orTwo (g : Nat) (c : Nat) (a b : Int) (W : World) (h0 : W.cell? ⟨g, 0, none⟩ = some (.int .i64 a)) (h1 : W.cell? ⟨g, 1, none⟩ = some (.int .i64 b)) :
    Calls Try.prog 85 #[.slice (some ⟨g, 0, none⟩) 2 c] W fun e w' => e = .returned (.int .i64 (or2 a b)) ∧ w' = W := by
  by_cases ha : a = 0
  · subst ha
    by_cases hb : b = 0
    · subst hb
      go_enter Try.func85, Try.ntmps85
      go_wp2_with fail
      refine wp_loop_rounds 3 ?_
      rw [rounds_succ]
      go_wp2_with fail
      rw [rounds_succ]
      go_wp2_with fail
      rw [rounds_succ]
      go_wp2
      go_ret
      exact ⟨rfl, rfl⟩
    · have hb1 : (b != 0) = true := bne_iff_ne.2 hb
      go_enter Try.func85, Try.ntmps85
      go_wp2_with fail
      refine wp_loop_rounds 2 ?_
      rw [rounds_succ]
      go_wp2_with fail
      rw [rounds_succ]
      go_wp2
      go_ret
      exact ⟨rfl, rfl⟩
  · have ha1 : (a != 0) = true := bne_iff_ne.2 ha
    go_enter Try.func85, Try.ntmps85
    go_wp2_with fail
    refine wp_loop_rounds 1 ?_
    rw [rounds_succ]
    go_wp2
    go_ret
    exact ⟨by unfold or2; rw [if_neg ha]; rfl, rfl⟩
/-- The closure's comparison. -/
def cmpP (p q : Int × Int) : Int := or2 (Lib.compareInt p.1 q.1) (Lib.compareInt p.2 q.2)
set_option maxHeartbeats 8000000 in
set_option maxRecDepth 100000 in
theorem closureP (x0 x1 y0 y1 : Int) (W : World) : Calls Try.prog 84 #[.agg #[.int .i64 x0, .int .i64 x1], .agg #[.int .i64 y0, .int .i64 y1]] W fun e w' => e = .returned (.int .i64 (cmpP (x0, x1) (y0, y1))) ∧ ∃ q os', w' = grow (W.drewN q) os' := by
  have hcon := fun a b W' => Stable1.cmpInt a b W'
  have hor := fun g c a b W' => orTwo g c a b W'
  unfold cmpP
  dsimp only
  go_enter Try.func84, Try.ntmps84
  go_upto_region 1 with fail
  have hw : ((W.alloc (.cells #[.int .i64 x0, .int .i64 x1] 90)).alloc (.cells #[.int .i64 y0, .int .i64 y1] 90)) = grow W (#[.cells #[.int .i64 x0, .int .i64 x1] 90] ++ #[.cells #[.int .i64 y0, .int .i64 y1] 90]) := by rw [alloc_eq_grow, alloc_eq_grow, grow_grow]
  have k0 : ((W.alloc (.cells #[.int .i64 x0, .int .i64 x1] 90)).alloc (.cells #[.int .i64 y0, .int .i64 y1] 90)).cell? ⟨W.heap.size, 0, none⟩ = some (.int .i64 x0) := by simp
  have k1 : ((W.alloc (.cells #[.int .i64 x0, .int .i64 x1] 90)).alloc (.cells #[.int .i64 y0, .int .i64 y1] 90)).cell? ⟨W.heap.size, 1, none⟩ = some (.int .i64 x1) := by simp
  have k2 : ((W.alloc (.cells #[.int .i64 x0, .int .i64 x1] 90)).alloc (.cells #[.int .i64 y0, .int .i64 y1] 90)).cell? ⟨W.heap.size + 1, 0, none⟩ = some (.int .i64 y0) := by simp
  have k3 : ((W.alloc (.cells #[.int .i64 x0, .int .i64 x1] 90)).alloc (.cells #[.int .i64 y0, .int .i64 y1] 90)).cell? ⟨W.heap.size + 1, 1, none⟩ = some (.int .i64 y1) := by simp
  obtain ⟨g0, hg0⟩ : ∃ g, W.heap.size = g := ⟨_, rfl⟩
  obtain ⟨g1, hg1⟩ : ∃ g, g0 + 1 = g := ⟨_, rfl⟩
  rw [hg0] at k0 k1 k2 k3 ⊢
  rw [hg1] at k2 k3 ⊢
  have HW : Hid _ := hw
  clear hw hg0 hg1
  generalize (W.alloc (.cells #[.int .i64 x0, .int .i64 x1] 90)).alloc (.cells #[.int .i64 y0, .int .i64 y1] 90) = wb at k0 k1 k2 k3 HW ⊢
  have a0 : ∀ o, (wb.alloc o).drew.cell? ⟨g0, 0, none⟩ = some (.int .i64 x0) := fun o => (World.cell?_alloc_lt _ _ _ (World.block_lt_of_cell? _ _ k0)).trans k0
  have a1 : ∀ o, (wb.alloc o).drew.cell? ⟨g0, 1, none⟩ = some (.int .i64 x1) := fun o => (World.cell?_alloc_lt _ _ _ (World.block_lt_of_cell? _ _ k1)).trans k1
  have a2 : ∀ o, (wb.alloc o).drew.cell? ⟨g1, 0, none⟩ = some (.int .i64 y0) := fun o => (World.cell?_alloc_lt _ _ _ (World.block_lt_of_cell? _ _ k2)).trans k2
  have a3 : ∀ o, (wb.alloc o).drew.cell? ⟨g1, 1, none⟩ = some (.int .i64 y1) := fun o => (World.cell?_alloc_lt _ _ _ (World.block_lt_of_cell? _ _ k3)).trans k3
  go_region_held3 (fun w' => w'.cell? ⟨g0, 0, none⟩ = some (.int .i64 x0) ∧ w'.cell? ⟨g0, 1, none⟩ = some (.int .i64 x1) ∧ w'.cell? ⟨g1, 0, none⟩ = some (.int .i64 y0) ∧ w'.cell? ⟨g1, 1, none⟩ = some (.int .i64 y1)) (first | exact ⟨k0, k1, k2, k3⟩ | exact ⟨a0 _, a1 _, a2 _, a3 _⟩)
    (first
      | (go_at_call 75; refine (hcon _ _ _).mono ?_; rintro e w' ⟨rfl, rfl⟩)
      | (go_at_call 85; refine (hor _ _ (Lib.compareInt x0 y0) (Lib.compareInt x1 y1) _ (by simp) (by simp)).mono ?_; rintro e w' ⟨rfl, rfl⟩))
  go_wp2
  all_goals go_ret
  exact ⟨rfl, 1, _, by rw [HW.out, alloc_eq_grow, grow_grow]; rfl⟩
theorem lt_iff (p q : Int × Int) : ltOf cmpP p q = true ↔ p.1 < q.1 ∨ p.1 = q.1 ∧ p.2 < q.2 := by
  unfold ltOf cmpP or2 Lib.compareInt
  rw [decide_eq_true_eq]
  (repeat' split) <;> omega
theorem lt_not (p q : Int × Int) : ltOf cmpP p q = false ↔ q.1 < p.1 ∨ p.1 = q.1 ∧ q.2 ≤ p.2 := by
  rw [← Bool.not_eq_true, lt_iff]; omega
theorem swo : SWO (ltOf cmpP) where
  irrefl := fun x => by rw [lt_not]; omega
  trans := fun x y z h1 h2 => by rw [lt_iff] at h1 h2 ⊢; omega
  ntrans := fun x y z h1 h2 => by rw [lt_not] at h1 h2 ⊢; omega
theorem total (x y : Int × Int) (h1 : ltOf cmpP x y = false) (h2 : ltOf cmpP y x = false) : x = y := by
  rw [lt_not] at h1 h2
  exact Prod.ext (by omega) (by omega)
def encP (p : Int × Int) : List Value := [.int .i64 p.1, .int .i64 p.2]
def leP (x y : Int × Int) : Bool := !(ltOf cmpP y x)
theorem sortPairs (blk cap : Nat) (l : List (Int × Int)) (w : World) (hH : HoldsK encP 2 w blk 0 l.toArray) (hblk : blk < w.heap.size) (hsz : l.length < 4611686018427387904) :
    Calls Try.prog 83 #[.slice (some ⟨blk, 0, none⟩) l.length cap, .func (.func 84) #[] #[]] w fun e w' => e = .returned (.tuple #[]) ∧ ∃ n os, w' = sortWorldK encP 2 w blk 0 n (l.mergeSort leP).toArray os := by
  have h := AnyQ.slices_SortFunc_total laid 2 Try.isAgg90 Try.sizeOf90 encP (fun _ => rfl) (fun x v hv => by
    unfold encP at hv
    rcases List.mem_cons.1 hv with rfl | hv
    · rfl
    rcases List.mem_cons.1 hv with rfl | hv
    · rfl
    cases hv) cmpP swo 84 #[] blk 0 cap l.toArray w (enters_of Try.func84 (by kernel_rfl) rfl) (fun m os dk hdk x y => closureP _ _ _ _ _) hH hblk (by simpa using hsz) total
  rw [show l.toArray.size = l.length by simp] at h
  exact h
theorem sortNone (c : Nat) (fv : Value) (w : World) : Calls Try.prog 83 #[.slice none 0 c, fv] w fun e w' => e = .returned (.tuple #[]) ∧ w' = w := AnyF.slices_SortFunc_none laid none c fv w
end Go.Proofs.Ytiaajmnmbjheoaa.SortedP
