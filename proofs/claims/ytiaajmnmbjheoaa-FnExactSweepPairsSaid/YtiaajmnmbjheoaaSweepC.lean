/- The closures of SweepPairs: least, the order by it; in worlds that only grow. No condition beyond what each says. -/
import Derived.Test.YtiaajmnmbjheoaaStableT1
import Derived.Deep.RegionHeld3
namespace Go.Proofs.Ytiaajmnmbjheoaa.Sweep
open Go.Shelf Go.RowKit Go.Lib Go.Sort
set_option linter.unusedVariables false
set_option linter.unusedSimpArgs false
@[go_sem] theorem run_store_func {P : Program} {w : World} {a : Addr} {m : Mode} (fn : Fn) (fs cb : Array Value) : (Go.store a (.func fn fs cb) m).run P w = stored P w a (.func fn fs cb) m := run_store P w a _ m rfl
/-- A world reached by draws and fresh blocks alone. -/
def Reach (W w : World) : Prop := ∃ q os, w = grow (W.drewN q) os
theorem Reach.refl (W : World) : Reach W W := ⟨0, #[], by rw [grow_empty]; rfl⟩
theorem drewN_grow (W : World) (os : Array Obj) (q : Nat) : (grow W os).drewN q = grow (W.drewN q) os := rfl
theorem drewN_drewN (W : World) (a b : Nat) : (W.drewN a).drewN b = W.drewN (a + b) := by
  unfold World.drewN
  simp only [Nat.add_assoc]
theorem Reach.trans {A B C : World} (h : Reach A B) (k : Reach B C) : Reach A C := by
  obtain ⟨q, os, rfl⟩ := h
  obtain ⟨q', os', rfl⟩ := k
  exact ⟨q + q', os ++ os', by rw [drewN_grow, grow_grow, drewN_drewN]⟩
theorem Reach.drew {W w : World} (h : Reach W w) : Reach W w.drew := h.trans ⟨1, #[], by rw [grow_empty]; rfl⟩
theorem Reach.drewN {W w : World} (h : Reach W w) (q : Nat) : Reach W (w.drewN q) := h.trans ⟨q, #[], by rw [grow_empty]⟩
theorem Reach.alloc {W w : World} (h : Reach W w) (o : Obj) : Reach W (w.alloc o) := h.trans ⟨0, #[o], by rw [alloc_eq_grow]; rfl⟩
theorem Reach.block {W w : World} (h : Reach W w) {g : Nat} (hg : g < W.heap.size) : w.heap[g]? = W.heap[g]? := by
  obtain ⟨q, os, rfl⟩ := h
  exact heap_grow_old _ _ hg
theorem Reach.cell {W w : World} (h : Reach W w) {a : Addr} {v : Value} (hc : W.cell? a = some v) : w.cell? a = some v := by
  have hlt := World.block_lt_of_cell? _ _ hc
  have e := h.block hlt
  unfold World.cell? at hc ⊢
  rw [e]; exact hc
theorem Reach.frozen {W w : World} (h : Reach W w) {a : Addr} (hb : a.block < W.heap.size) (hc : W.frozen? a = false) : w.frozen? a = false := by
  have e := h.block hb
  unfold World.frozen? at hc ⊢
  rw [e]; exact hc
theorem results_tmp4 {fn : Func} {t u v x : Tmp} (h : fn.results = #[.tmp t, .tmp u, .tmp v, .tmp x]) (tmps : Array Value) (P : Program) (w : World) :
    (results fn tmps).run P w = .ok (.tuple #[tmps.getD t undef, tmps.getD u undef, tmps.getD v undef, tmps.getD x undef]) w := by
  simp [results, h]
def b0 (k x w : Int) : Int := if k = 1 then x else wrap64 (x - w)
def b1 (k y w : Int) : Int := if k = 1 then y else wrap64 (y - w)
def b2 (k x w : Int) : Int := if k = 1 then wrap64 (x + w) else wrap64 (x + w)
def b3 (k y w h : Int) : Int := if k = 1 then wrap64 (y + h) else wrap64 (y + w)
set_option maxHeartbeats 8000000 in
set_option maxRecDepth 100000 in
theorem boundsX (k x y w h : Int) (W : World) : Calls Try.prog 69 #[.agg #[.int .i64 k, .int .i64 x, .int .i64 y, .int .i64 w, .int .i64 h]] W fun e w' => e = .returned (.tuple #[.int .i64 (b0 k x w), .int .i64 (b1 k y w), .int .i64 (b2 k x w), .int .i64 (b3 k y w h)]) ∧ Reach W w' := by
  have hu100 := Try.underlying100
  by_cases c : k = 1
  · have c0 : (k == 1) = true := beq_iff_eq.mpr c
    have e0 : b0 k x w = x := if_pos c
    have e1 : b1 k y w = y := if_pos c
    have e2 : b2 k x w = wrap64 (x + w) := if_pos c
    have e3 : b3 k y w h = wrap64 (y + h) := if_pos c
    rw [e0, e1, e2, e3]
    clear e0 e1 e2 e3 c
    go_enter Try.func69, Try.ntmps69
    go_wp2_with fail
    repeat (go_quiet (fail); go_wp2_with fail)
    (try simp only [Exit.inBlock, Exit.then])
    all_goals refine bodyPost_ret (results_tmp4 (t := 2) (u := 3) (v := 4) (x := 5) rfl _ _ _) rfl ?_
    all_goals exact ⟨rfl, by first | exact (((Reach.refl _).alloc _).drew) | exact (((Reach.refl _).alloc _).drewN _)⟩
  · have c0 : (k == 1) = false := beq_eq_false_iff_ne.mpr c
    have e0 : b0 k x w = wrap64 (x - w) := if_neg c
    have e1 : b1 k y w = wrap64 (y - w) := if_neg c
    have e2 : b2 k x w = wrap64 (x + w) := if_neg c
    have e3 : b3 k y w h = wrap64 (y + w) := if_neg c
    rw [e0, e1, e2, e3]
    clear e0 e1 e2 e3 c
    go_enter Try.func69, Try.ntmps69
    go_wp2_with fail
    repeat (go_quiet (fail); go_wp2_with fail)
    (try simp only [Exit.inBlock, Exit.then])
    all_goals refine bodyPost_ret (results_tmp4 (t := 2) (u := 3) (v := 4) (x := 5) rfl _ _ _) rfl ?_
    all_goals exact ⟨rfl, by first | exact (((Reach.refl _).alloc _).drew) | exact (((Reach.refl _).alloc _).drewN _)⟩
/-- The five cells of the shape at a place. -/
structure ShapeAt (W : World) (ad : Addr) (k x y w h : Int) : Prop where
  c0 : W.cell? ad = some (.int .i64 k)
  c1 : W.cell? ⟨ad.block, ad.off + 1, none⟩ = some (.int .i64 x)
  c2 : W.cell? ⟨ad.block, ad.off + 2, none⟩ = some (.int .i64 y)
  c3 : W.cell? ⟨ad.block, ad.off + 3, none⟩ = some (.int .i64 w)
  c4 : W.cell? ⟨ad.block, ad.off + 4, none⟩ = some (.int .i64 h)
theorem ShapeAt.move {W w' : World} {ad : Addr} {k x y w h : Int} (s : ShapeAt W ad k x y w h) (m : ∀ a v, W.cell? a = some v → w'.cell? a = some v) : ShapeAt w' ad k x y w h :=
  ⟨m _ _ s.c0, m _ _ s.c1, m _ _ s.c2, m _ _ s.c3, m _ _ s.c4⟩
set_option maxHeartbeats 8000000 in
set_option maxRecDepth 100000 in
theorem least (gL : Nat) (ad : Addr) (c n i : Nat) (k x y w h : Int) (W : World) (hi : i < n) (hbx : W.heap[gL]? = some (.cells #[.slice (some ad) n c] 55 (0, 0))) (hs : ShapeAt W (ad.add (i * 5)) k x y w h) :
    Calls Try.prog 79 #[.int .i64 (i : Int), .pointer (some ⟨gL, 0, none⟩)] W fun e w' => e = .returned (.int .i64 (b0 k x w)) ∧ Reach W w' := by
  have hu100 := Try.underlying100
  have p1 : (0 : Int) ≤ (i : Int) := by omega
  have p2 : (i : Int) < (n : Int) := by omega
  have hc : W.cell? ⟨gL, 0, none⟩ = some (.slice (some ad) n c) := by unfold World.cell?; rw [hbx]; rfl
  have hf : W.frozen? ⟨gL, 0, none⟩ = false := by unfold World.frozen?; rw [hbx]; rfl
  obtain ⟨h0, h1, h2, h3, h4⟩ := hs
  have eb := enters_of Try.func69 (by kernel_rfl) rfl
  clear hbx
  go_enter Try.func79, Try.ntmps79
  go_wp2_with fail
  refine (boundsX k x y w h _).mono ?_
  rintro e w' ⟨rfl, hr⟩
  go_wp2
  go_ret
  exact ⟨rfl, hr⟩
set_option maxHeartbeats 8000000 in
set_option maxRecDepth 100000 in
theorem closure (gL gF : Nat) (ad : Addr) (c n i j : Nat) (K X Y Wd H : Nat → Int) (W : World) (hi : i < n) (hj : j < n) (hF : W.heap[gF]? = some (.cells #[.func (.func 79) #[] #[.pointer (some ⟨gL, 0, none⟩)]] 125 (0, 0))) (hbx : W.heap[gL]? = some (.cells #[.slice (some ad) n c] 55 (0, 0))) (hs : ∀ z, z < n → ShapeAt W (ad.add (z * 5)) (K z) (X z) (Y z) (Wd z) (H z)) :
    Calls Try.prog 81 #[.int .i64 (i : Int), .int .i64 (j : Int), .pointer (some ⟨gF, 0, none⟩)] W fun e w1 => e = .returned (.int .i64 (Lib.compareInt (b0 (K i) (X i) (Wd i)) (b0 (K j) (X j) (Wd j)))) ∧ Reach W w1 := by
  have k0 : W.cell? ⟨gF, 0, none⟩ = some (.func (.func 79) #[] #[.pointer (some ⟨gL, 0, none⟩)]) := by unfold World.cell?; rw [hF]; rfl
  have f0 : W.frozen? ⟨gF, 0, none⟩ = false := by unfold World.frozen?; rw [hF]; rfl
  have hFl : gF < W.heap.size := World.block_lt_of_cell? _ _ k0
  have hLl : gL < W.heap.size := (Array.getElem?_eq_some_iff.1 hbx).1
  have r0 := Reach.refl W
  obtain ⟨lf, hlf⟩ : ∃ lf : Nat → Int, lf = fun z => b0 (K z) (X z) (Wd z) := ⟨_, rfl⟩
  have con : ∀ (z : Nat) (hz : z < n) (W' : World) (hr : Reach W W'), Calls Try.prog 79 #[.int .i64 (z : Int), .pointer (some ⟨gL, 0, none⟩)] W' fun e w1 => e = .returned (.int .i64 (lf z)) ∧ w1.cell? ⟨gF, 0, none⟩ = some (.func (.func 79) #[] #[.pointer (some ⟨gL, 0, none⟩)]) ∧ w1.frozen? ⟨gF, 0, none⟩ = false ∧ Reach W w1 := fun z hz W' hr =>
    (least gL ad c n z (K z) (X z) (Y z) (Wd z) (H z) W' hz ((hr.block hLl).trans hbx) ((hs z hz).move fun _ _ hc => hr.cell hc)).mono fun e w1 hh => ⟨by rw [hlf]; exact hh.1, (hr.trans hh.2).cell k0, (hr.trans hh.2).frozen hFl f0, hr.trans hh.2⟩
  have con3 := fun a b W' => Stable1.cmpInt a b W'
  have e1 := enters_of Try.func79 (by kernel_rfl) rfl
  have el : ∀ z, b0 (K z) (X z) (Wd z) = lf z := fun z => by rw [hlf]
  rw [el, el]
  clear hF hbx hs hFl hLl hlf el
  go_enter Try.func81, Try.ntmps81
  go_upto_region 1 with fail
  go_region_held3 (fun w' => w'.cell? ⟨gF, 0, none⟩ = some (.func (.func 79) #[] #[.pointer (some ⟨gL, 0, none⟩)]) ∧ w'.frozen? ⟨gF, 0, none⟩ = false ∧ Reach W w')
    (first | with_reducible exact hHeld | exact ⟨hk1, hf1, hr1⟩ | exact ⟨k0, f0, r0⟩ | exact ⟨k0, f0, Reach.drew r0⟩ | exact ⟨hHeld.1, hHeld.2.1, hHeld.2.2.drew⟩)
    (first
      | (go_at_call 75; refine (con3 _ _ _).mono ?_; rintro e w' ⟨rfl, rfl⟩)
      | ((with_reducible refine (con _ (by assumption) _ (by first | assumption | exact hHeld.2.2 | exact r0.drew)).mono ?_); rintro e w' ⟨rfl, hk1, hf1, hr1⟩))
  go_wp2
  all_goals go_ret
  exact ⟨rfl, by first | assumption | exact hHeld.2.2⟩
/-! ### the order of the places -/
def cl (N x : Nat) : Nat := if x < N then x else 0
theorem cl_lt {N : Nat} (h : 0 < N) (x : Nat) : cl N x < N := by unfold cl; split <;> omega
def encI (N x : Nat) : Value := .int .i64 ((cl N x : Nat) : Int)
def cfI (lf : Nat → Int) (x y : Nat) : Int := Lib.compareInt (lf x) (lf y)
theorem ltI (lf : Nat → Int) (x y : Nat) : ltOf (cfI lf) x y = decide (lf x < lf y) := by
  unfold ltOf cfI Lib.compareInt
  rw [decide_eq_decide]
  (repeat' split) <;> omega
theorem swoI (lf : Nat → Int) : SWO (ltOf (cfI lf)) where
  irrefl := fun x => by rw [ltI, decide_eq_false_iff_not]; omega
  trans := fun x y z h1 h2 => by rw [ltI, decide_eq_true_eq] at *; omega
  ntrans := fun x y z h1 h2 => by rw [ltI, decide_eq_false_iff_not] at *; omega
def leI (lf : Nat → Int) (i j : Nat) : Bool := !(Stable.lx (ltOf (cfI lf)) j i)
theorem sortOrder (gR gL gF cap c N : Nat) (ad : Addr) (K X Y Wd H : Nat → Int) (lf : Nat → Int) (w : World) (h40 : N ≤ 40) (h0 : 0 < N)
    (hR : ∀ j, j < N → w.cell? ⟨gR, j, none⟩ = some (.int .i64 (j : Int)) ∧ w.frozen? ⟨gR, j, none⟩ = false) (hblk : gR < w.heap.size) (hFne : gF ≠ gR) (hLne : gL ≠ gR) (hAd : ∀ z, (ad.add (z * 5)).block ≠ gR)
    (hF : w.heap[gF]? = some (.cells #[.func (.func 79) #[] #[.pointer (some ⟨gL, 0, none⟩)]] 125 (0, 0))) (hbx : w.heap[gL]? = some (.cells #[.slice (some ad) N c] 55 (0, 0))) (hs : ∀ z, z < N → ShapeAt w (ad.add (z * 5)) (K z) (X z) (Y z) (Wd z) (H z)) (hlf : ∀ z, lf z = b0 (K (cl N z)) (X (cl N z)) (Wd (cl N z))) :
    Calls Try.prog 80 #[.slice (some ⟨gR, 0, none⟩) N cap, .func (.func 81) #[] #[.pointer (some ⟨gF, 0, none⟩)]] w fun e w' => e = .returned (.tuple #[]) ∧ ∃ d' n os, w' = sortWorld (encI N) w gR 0 n d' os ∧ d'.toList = (List.range N).mergeSort (leI lf) := by
  have hid : ∀ i, i < N → (Array.range N)[i]! = i := fun i hi => by rw [getElem!_pos _ _ (by simpa using hi)]; simp
  have R : Row1 (encI N) w gR 0 (Array.range N) := ⟨fun _ => rfl, fun j hj => by
    have hj' : j < N := by simpa using hj
    rw [hid j hj', Nat.zero_add]
    have e : cl N j = j := if_pos hj'
    unfold encI
    rw [e]
    exact hR j hj', hblk⟩
  have hcmp : CmpLays1 Try.prog 81 #[.pointer (some ⟨gF, 0, none⟩)] (encI N) (cfI lf) gR 0 N w := fun m os dk hdk x y => by
    have hg := Stable1.sw_grown (encI N) w gR m dk os
    have hne : ∀ q : Nat, q ≠ gR → some q ≠ some gR := fun q h e => h (Option.some.inj e)
    have hbl : ∀ q v, q ≠ gR → w.heap[q]? = some v → (sortWorld (encI N) w gR 0 m dk os).heap[q]? = some v := fun q v h e =>
      (hg.block q ((Array.getElem?_eq_some_iff.1 e).1) (hne q h)).trans e
    have hcell : ∀ (a : Addr) (v : Value), a.block ≠ gR → w.cell? a = some v → (sortWorld (encI N) w gR 0 m dk os).cell? a = some v := fun a v h e =>
      (World.cell?_of_block (w := w) (hg.block a.block (World.block_lt_of_cell? _ _ e) (hne _ h))).trans e
    have hq := closure gL gF ad c N (cl N x) (cl N y) K X Y Wd H (sortWorld (encI N) w gR 0 m dk os) (cl_lt h0 x) (cl_lt h0 y) (hbl _ _ hFne hF) (hbl _ _ hLne hbx) (fun z hz => by
      obtain ⟨s0, s1, s2, s3, s4⟩ := hs z hz
      exact ⟨hcell _ _ (hAd z) s0, hcell _ _ (hAd z) s1, hcell _ _ (hAd z) s2, hcell _ _ (hAd z) s3, hcell _ _ (hAd z) s4⟩)
    rw [← hlf, ← hlf] at hq
    exact hq
  refine (Stable1.sortStable Stable1.lay (swoI lf) 81 #[.pointer (some ⟨gF, 0, none⟩)] cap N (Array.range N) (enters_of Try.func81 (by kernel_rfl) rfl) hcmp R (by simp) h40 hid).mono ?_
  rintro e w' ⟨rfl, d', M, n, os, rfl⟩
  exact ⟨rfl, d', n, os, rfl, Stable1.merged_list (swoI lf) (by simp) hid M⟩
end Go.Proofs.Ytiaajmnmbjheoaa.Sweep
