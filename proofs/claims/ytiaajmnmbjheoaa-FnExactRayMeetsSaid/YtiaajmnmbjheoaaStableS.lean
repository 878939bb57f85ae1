/- slices.SortStableFunc at forty elements or fewer, of k cells: the row holds what it held, sorted, equals in the order in which they came. No condition beyond what each says. -/
import Derived.Test.YtiaajmnmbjheoaaStableM
import Derived.Shelf.SlSortCmp.PdqK
namespace Go.Proofs.Ytiaajmnmbjheoaa.Stable
open Go.Shelf Go.RowKit Go.Lib Go.Sort
set_option linter.unusedVariables false
set_option linter.unusedSimpArgs false
/-! ### insertionSortCmpFunc, laid at this program -/
def ren : Ren := ⟨fun x => if x = 20 then 129 else x, fun x => if x = 22 then 52 else if x = 24 then 109 else if x = 25 then 121 else x, fun x => x⟩
theorem insLaid : SlLaysF0.n20 Try.prog ren := ⟨by kernel_rfl, ⟨_, by decide, Try.func129⟩, Try.underlying0, Try.isAgg0, Try.sizeOf0, Try.zeroValue0, Try.underlying3, Try.isAgg3, Try.sizeOf3, Try.zeroValue3, Try.underlying4, Try.isAgg4, Try.sizeOf4, Try.zeroValue4, Try.underlying52, Try.isAgg52, Try.sizeOf52, Try.zeroValue52, Try.underlying121, Try.isAgg121, Try.sizeOf121, Try.zeroValue121⟩
/-! ### the insertion sort keeps equals in their order -/
section
variable {lt : Nat → Nat → Bool}
theorem lx_later {x y : Nat} (h : y ≤ x) : lx lt x y = lt x y := by
  unfold lx
  rw [decide_eq_false (show ¬ x < y by omega), Bool.and_false, Bool.or_false]
theorem insInner_lx (a : Nat) : ∀ (j : Nat) (d : Array Nat), j < d.size → (∀ y, a ≤ y → y < j → d[y]! < d[j]!) → insInner lt a j d = insInner (lx lt) a j d
  | 0, d, _, _ => rfl
  | j + 1, d, hj, h => by
    unfold insInner
    by_cases c : j + 1 > a
    · have e : lx lt d[j + 1]! d[j]! = lt d[j + 1]! d[j]! := lx_later (Nat.le_of_lt (h j (by omega) (by omega)))
      rw [e]
      have ih := insInner_lx a j (swp d (j + 1) j) (by rw [size_swp]; omega) (fun y h1 h2 => by
        rw [swp_other d _ _ _ (by omega) (by omega), swp_right d _ _ (by omega)]
        exact h y h1 (by omega))
      rw [ih]
    · rw [decide_eq_false c, Bool.false_and, Bool.false_and]
      rfl
theorem insInner_perm (a : Nat) : ∀ (j : Nat) (d : Array Nat), j < d.size → PermIn a (j + 1) d (insInner lt a j d)
  | 0, d, _ => permIn_refl d a 1
  | j + 1, d, hj => by
    unfold insInner
    split
    · rename_i h
      have c : j + 1 > a := of_decide_eq_true (Bool.and_eq_true_iff.1 h).1
      have p := swp_permIn d a (j + 2) (j + 1) j (by omega) (by omega) (by omega) (by omega) (by omega)
      have q := insInner_perm a j (swp d (j + 1) j) (by rw [size_swp]; omega)
      exact permIn_trans _ _ _ _ _ p (permIn_mono _ _ a (j + 1) a (j + 2) (Nat.le_refl _) (by omega) (by rw [size_swp]; omega) q)
    · exact permIn_refl d a _
theorem insOuter_lx (a b : Nat) : ∀ (n i : Nat) (d : Array Nat), b - i = n → a ≤ i → b ≤ d.size → (∀ x y, a ≤ x → x < i → i ≤ y → y < b → d[x]! < d[y]!) → (∀ x y, i ≤ x → x < y → y < b → d[x]! < d[y]!) → insOuter lt a b i d = insOuter (lx lt) a b i d := by
  intro n
  induction n with
  | zero => intro i d hn _ _ _ _; rw [insOuter_stop _ _ _ _ _ (by omega), insOuter_stop _ _ _ _ _ (by omega)]
  | succ n ih =>
    intro i d hn hai hb h1 h2
    have hib : i < b := by omega
    rw [insOuter_go _ _ _ _ _ hib, insOuter_go _ _ _ _ _ hib, insInner_lx a i d (by omega) (fun y p q => h1 y i p q (Nat.le_refl _) hib)]
    have hp := insInner_perm (lt := lx lt) a i d (by omega)
    refine ih (i + 1) _ (by omega) (by omega) (by rw [hp.1]; exact hb) (fun x y p q r s => ?_) (fun x y p q r => ?_)
    · rw [hp.2.1 y (.inr r)]
      refine permIn_all d _ a (i + 1) (fun v => v < d[y]!) (by omega) hp (fun z z1 z2 => ?_) x p q
      by_cases e : z = i
      · subst e; exact h2 _ _ (Nat.le_refl _) (by omega) s
      · exact h1 z y z1 (by omega) (by omega) s
    · rw [hp.2.1 x (.inr p), hp.2.1 y (.inr (by omega))]
      exact h2 x y (by omega) q r
/-- Elements that lie where they came from: sorted, equals in their order. -/
theorem ins_block (hS : SWO lt) {a b : Nat} {d : Array Nat} (hab : a ≤ b) (hb : b ≤ d.size) (h : ∀ i, a ≤ i → i < b → d[i]! = i) : Merged lt a b d (Sort.insertionSort lt d a b) := by
  have e : Sort.insertionSort lt d a b = Sort.insertionSort (lx lt) d a b := by
    unfold Sort.insertionSort
    refine insOuter_lx a b (b - (a + 1)) (a + 1) d rfl (by omega) hb (fun x y p q r s => ?_) (fun x y p q r => ?_)
    · rw [h x p (by omega), h y (by omega) s]; omega
    · rw [h x (by omega) (by omega), h y (by omega) r]; exact q
  rw [e]
  obtain ⟨hp, hs⟩ := insertionSort_holds (lt := lx lt) (swo_lx hS) d a b hab hb
  generalize Sort.insertionSort (lx lt) d a b = D at hp hs
  refine ⟨hp, fun i j hi hij hj => ?_⟩
  have hne : D[i]! ≠ D[j]! := by
    have hbD : b ≤ D.size := by rw [hp.1]; exact hb
    have n0 : ((d.extract a b).toList).Nodup := by
      rw [extract_toList d a b hb]
      refine List.pairwise_map.2 (List.Pairwise.imp_of_mem (R := fun x y => x < y) (fun {x y} hx hy hxy => ?_) List.pairwise_lt_range')
      have hx := List.mem_range'_1.1 hx
      have hy := List.mem_range'_1.1 hy
      rw [h x hx.1 (by omega), h y hy.1 (by omega)]
      omega
    have n1 := hp.2.2.nodup_iff.2 n0
    rw [extract_toList D a b hbD] at n1
    have n2 := List.pairwise_iff_getElem.1 n1 (i - a) (j - a) (by simp; omega) (by simp; omega) (by omega)
    simp only [List.getElem_map, List.getElem_range', Nat.one_mul] at n2
    rw [show a + (i - a) = i by omega, show a + (j - a) = j by omega] at n2
    exact n2
  exact (lx_total hne).resolve_right (by rw [hs i j hi hij hj]; decide)
theorem ins_none (d : Array Nat) (b : Nat) : Sort.insertionSort lt d b b = d := by unfold Sort.insertionSort; exact insOuter_stop _ _ _ _ _ (by omega)
/-- Two blocks, each sorted, are ready to be merged. -/
theorem two_blocks (hS : SWO lt) {m b : Nat} {d d1 d2 : Array Nat} (hm : m ≤ b) (hb : b ≤ d.size) (h : ∀ i, i < b → d[i]! = i) (h1 : Merged lt 0 m d d1) (h2 : Merged lt m b d1 d2) :
    Asc lt 0 m d2 ∧ Asc lt m b d2 ∧ Cross 0 m b d2 ∧ PermIn 0 b d d2 := by
  have s1 := h1.perm.1
  have hd1 : ∀ i, m ≤ i → i < b → d1[i]! = i := fun i p q => by rw [h1.perm.2.1 i (.inr p)]; exact h i q
  have lo : ∀ i, 0 ≤ i → i < m → d1[i]! < m := permIn_all d d1 0 m (fun v => v < m) (by omega) h1.perm (fun i _ p => by rw [h i (by omega)]; exact p)
  have hi : ∀ i, m ≤ i → i < b → m ≤ d2[i]! := permIn_all d1 d2 m b (fun v => m ≤ v) (by omega) h2.perm (fun i p q => by rw [hd1 i p q]; exact p)
  refine ⟨fun i j p q r => ?_, h2.asc, fun i j p q r s => ?_, ?_⟩
  · rw [h2.perm.2.1 i (.inl (by omega)), h2.perm.2.1 j (.inl r)]; exact h1.asc i j p q r
  · have a := hi j r s
    have b := lo i p q
    rw [h2.perm.2.1 i (.inl q)]; omega
  · exact permIn_trans _ _ _ _ _ (permIn_mono d d1 0 m 0 b (Nat.le_refl _) hm hb h1.perm) (permIn_mono d1 d2 m b 0 b (Nat.zero_le _) (Nat.le_refl _) (by omega) h2.perm)
end
section
variable {P : Program} {k : Nat} {enc : Nat → List Value} {blk off : Nat} {d0 : Array Nat} {w0 : World} {cf : Nat → Nat → Int}
/-- What the sort leans on of its callees. -/
structure Callees (P : Program) (k : Nat) (enc : Nat → List Value) (blk off : Nat) (w0 : World) (cf : Nat → Nat → Int) (g : Nat) (cb : Array Value) (cap N : Nat) : Prop where
  ins : ∀ (a b : Nat) (d : Array Nat) (w : World), d.size = N → SWK enc k w0 blk off d w → a ≤ b → b ≤ N → Calls P 129 #[.slice (some ⟨blk, off, none⟩) N cap, .int .i64 a, .int .i64 b, .func (.func g) #[] cb] w fun e w' => e = .returned (.tuple #[]) ∧ SWK enc k w0 blk off (Sort.insertionSort (ltOf cf) d a b) w'
  sym : ∀ (a m b : Nat) (d : Array Nat) (w : World), d.size = N → SWK enc k w0 blk off d w → a < m → m < b → b ≤ N → Asc (ltOf cf) a m d → Asc (ltOf cf) m b d → Cross a m b d → Calls P 130 #[.slice (some ⟨blk, off, none⟩) N cap, .int .i64 a, .int .i64 m, .int .i64 b, .func (.func g) #[] cb] w fun e w' => e = .returned (.tuple #[]) ∧ ∃ d', Merged (ltOf cf) a b d d' ∧ SWK enc k w0 blk off d' w'
  eI : ∀ args w, (callFunc 129 args).run P w = .ok (.enter 129 args) w
  eM : ∀ args w, (callFunc 130 args).run P w = .ok (.enter 130 args) w
set_option maxHeartbeats 8000000 in
set_option maxRecDepth 1000000 in
theorem stableFew (L : Lay P k) (hO : SWO (ltOf cf)) (g : Nat) (cb : Array Value) (cap N : Nat) (d : Array Nat) (w : World) (C : Callees P k enc blk off w0 cf g cb cap N) (hd : d.size = N) (S : SWK enc k w0 blk off d w) (hid : ∀ i, i < N → d[i]! = i) (hN : N < 20) :
    Calls P 103 #[.slice (some ⟨blk, off, none⟩) N cap, .int .i64 N, .func (.func g) #[] cb] w fun e w' => e = .returned (.tuple #[]) ∧ ∃ d', Merged (ltOf cf) 0 N d d' ∧ SWK enc k w0 blk off d' w' := by
  have mixed := L.mixed; have t0 := L.t0; have a0 := L.a0; have z0 := L.z0; have v0 := L.v0; have t3 := L.t3; have a3 := L.a3; have z3 := L.z3; have v3 := L.v3; have t4 := L.t4; have a4 := L.a4; have z4 := L.z4; have v4 := L.v4; have tR := L.tR; have aR := L.aR; have zR := L.zR; have vR := L.vR; have tC := L.tC; have aC := L.aC; have zC := L.zC; have vC := L.vC; have tU := L.tU; have aU := L.aU; have zU := L.zU; have vU := L.vU; have aE := L.aE; have zE := L.zE
  have FG := L.fStable
  have eI := C.eI
  have eM := C.eM
  have HC : Aside (Callees P k enc blk off w0 cf g cb cap N) := C
  have S0 : Aside (SWK enc k w0 blk off d w) := S
  have HD : Hid (d.size = N) := hd
  have HI : Hid (∀ i, i < N → d[i]! = i) := hid
  have PO : Hid (SWO (ltOf cf)) := hO
  clear S hd hid hO C L
  have b1 : ¬ (20 : Int) ≤ (N : Int) := by omega
  have b2 : ¬ (20 : Int) < (N : Int) := by omega
  go_enter FG, Try.ntmps103
  go_wp2_with fail
  refine wp_loop_rounds 1 ?_
  rw [rounds_succ]
  go_wp2_with fail
  refine (HC.out.ins 0 N d _ HD.out S0.out (by omega) (by omega)).mono ?_
  rintro e_ w_ ⟨rfl, S_⟩
  have M1 : Hid (Merged (ltOf cf) 0 N d (Sort.insertionSort (ltOf cf) d 0 N)) := ins_block PO.out (by omega) (by have h_ := HD.out; omega) (fun i _ h2 => HI.out i (by omega))
  generalize Sort.insertionSort (ltOf cf) d 0 N = d1 at M1 S_
  have S1 : Aside (SWK enc k w0 blk off d1 w_) := S_
  clear S_ S0
  generalize w_ = w1 at S1 ⊢
  go_wp2_with fail
  refine wp_loop_rounds 1 ?_
  rw [rounds_succ]
  go_wp2
  all_goals go_end0
  all_goals exact ⟨rfl, d1, M1.out, S1.out⟩
set_option maxHeartbeats 8000000 in
set_option maxRecDepth 1000000 in
theorem stableTwenty (L : Lay P k) (hO : SWO (ltOf cf)) (g : Nat) (cb : Array Value) (cap N : Nat) (d : Array Nat) (w : World) (C : Callees P k enc blk off w0 cf g cb cap N) (hd : d.size = N) (S : SWK enc k w0 blk off d w) (hid : ∀ i, i < N → d[i]! = i) (hN : N = 20) :
    Calls P 103 #[.slice (some ⟨blk, off, none⟩) N cap, .int .i64 N, .func (.func g) #[] cb] w fun e w' => e = .returned (.tuple #[]) ∧ ∃ d', Merged (ltOf cf) 0 N d d' ∧ SWK enc k w0 blk off d' w' := by
  have mixed := L.mixed; have t0 := L.t0; have a0 := L.a0; have z0 := L.z0; have v0 := L.v0; have t3 := L.t3; have a3 := L.a3; have z3 := L.z3; have v3 := L.v3; have t4 := L.t4; have a4 := L.a4; have z4 := L.z4; have v4 := L.v4; have tR := L.tR; have aR := L.aR; have zR := L.zR; have vR := L.vR; have tC := L.tC; have aC := L.aC; have zC := L.zC; have vC := L.vC; have tU := L.tU; have aU := L.aU; have zU := L.zU; have vU := L.vU; have aE := L.aE; have zE := L.zE
  have FG := L.fStable
  have eI := C.eI
  have eM := C.eM
  have HC : Aside (Callees P k enc blk off w0 cf g cb cap N) := C
  have S0 : Aside (SWK enc k w0 blk off d w) := S
  have HD : Hid (d.size = N) := hd
  have HI : Hid (∀ i, i < N → d[i]! = i) := hid
  have PO : Hid (SWO (ltOf cf)) := hO
  clear S hd hid hO C L
  have b1 : (20 : Int) ≤ (N : Int) := by omega
  have b2 : ¬ (20 : Int) < (N : Int) := by omega
  have b3 : ¬ (40 : Int) ≤ (N : Int) := by omega
  have HN : Hid (N = 20) := hN
  have n1 : N ≤ 20 := by omega
  have n2 : 20 ≤ N := by omega
  clear hN
  go_enter FG, Try.ntmps103
  go_wp2_with fail
  refine wp_loop_rounds 2 ?_
  rw [rounds_succ]
  go_wp2_with fail
  refine (HC.out.ins 0 20 d _ HD.out S0.out (by omega) (by omega)).mono ?_
  rintro e_ w_ ⟨rfl, S_⟩
  have M1 : Hid (Merged (ltOf cf) 0 20 d (Sort.insertionSort (ltOf cf) d 0 20)) := ins_block PO.out (by omega) (by have h_ := HD.out; omega) (fun i _ h2 => HI.out i (by omega))
  generalize Sort.insertionSort (ltOf cf) d 0 20 = d1 at M1 S_
  have S1 : Aside (SWK enc k w0 blk off d1 w_) := S_
  clear S_ S0
  generalize w_ = w1 at S1 ⊢
  go_wp2_with fail
  rw [rounds_succ]
  go_wp2_with fail
  refine (HC.out.ins 20 N d1 _ (M1.out.perm.1.trans HD.out) S1.out (by omega) (by omega)).mono ?_
  rintro e_ w_ ⟨rfl, S_⟩
  have e1 : Sort.insertionSort (ltOf cf) d1 20 N = d1 := by rw [HN.out]; exact ins_none d1 20
  rw [e1] at S_
  clear e1
  have S2 : Aside (SWK enc k w0 blk off d1 w_) := S_
  clear S_ S1
  go_wp2_with fail
  refine wp_loop_rounds 1 ?_
  rw [rounds_succ]
  go_wp2
  all_goals go_end0
  all_goals exact ⟨rfl, d1, by rw [HN.out]; exact M1.out, S2.out⟩
set_option maxHeartbeats 8000000 in
set_option maxRecDepth 1000000 in
theorem stableMid (L : Lay P k) (hO : SWO (ltOf cf)) (g : Nat) (cb : Array Value) (cap N : Nat) (d : Array Nat) (w : World) (C : Callees P k enc blk off w0 cf g cb cap N) (hd : d.size = N) (S : SWK enc k w0 blk off d w) (hid : ∀ i, i < N → d[i]! = i) (hN : 20 < N) (hN2 : N < 40) :
    Calls P 103 #[.slice (some ⟨blk, off, none⟩) N cap, .int .i64 N, .func (.func g) #[] cb] w fun e w' => e = .returned (.tuple #[]) ∧ ∃ d', Merged (ltOf cf) 0 N d d' ∧ SWK enc k w0 blk off d' w' := by
  have mixed := L.mixed; have t0 := L.t0; have a0 := L.a0; have z0 := L.z0; have v0 := L.v0; have t3 := L.t3; have a3 := L.a3; have z3 := L.z3; have v3 := L.v3; have t4 := L.t4; have a4 := L.a4; have z4 := L.z4; have v4 := L.v4; have tR := L.tR; have aR := L.aR; have zR := L.zR; have vR := L.vR; have tC := L.tC; have aC := L.aC; have zC := L.zC; have vC := L.vC; have tU := L.tU; have aU := L.aU; have zU := L.zU; have vU := L.vU; have aE := L.aE; have zE := L.zE
  have FG := L.fStable
  have eI := C.eI
  have eM := C.eM
  have HC : Aside (Callees P k enc blk off w0 cf g cb cap N) := C
  have S0 : Aside (SWK enc k w0 blk off d w) := S
  have HD : Hid (d.size = N) := hd
  have HI : Hid (∀ i, i < N → d[i]! = i) := hid
  have PO : Hid (SWO (ltOf cf)) := hO
  clear S hd hid hO C L
  have b1 : (20 : Int) ≤ (N : Int) := by omega
  have b2 : (20 : Int) < (N : Int) := by omega
  have b3 : ¬ (40 : Int) ≤ (N : Int) := by omega
  have b4 : ¬ (40 : Int) < (N : Int) := by omega
  go_enter FG, Try.ntmps103
  go_wp2_with fail
  refine wp_loop_rounds 2 ?_
  rw [rounds_succ]
  go_wp2_with fail
  refine (HC.out.ins 0 20 d _ HD.out S0.out (by omega) (by omega)).mono ?_
  rintro e_ w_ ⟨rfl, S_⟩
  have M1 : Hid (Merged (ltOf cf) 0 20 d (Sort.insertionSort (ltOf cf) d 0 20)) := ins_block PO.out (by omega) (by have h_ := HD.out; omega) (fun i _ h2 => HI.out i (by omega))
  generalize Sort.insertionSort (ltOf cf) d 0 20 = d1 at M1 S_
  have S1 : Aside (SWK enc k w0 blk off d1 w_) := S_
  clear S_ S0
  generalize w_ = w1 at S1 ⊢
  go_wp2_with fail
  rw [rounds_succ]
  go_wp2_with fail
  refine (HC.out.ins 20 N d1 _ (M1.out.perm.1.trans HD.out) S1.out (by omega) (by omega)).mono ?_
  rintro e_ w_ ⟨rfl, S_⟩
  have M2 : Hid (Merged (ltOf cf) 20 N d1 (Sort.insertionSort (ltOf cf) d1 20 N)) := ins_block PO.out (by omega) (by have h_ := HD.out; have h2_ := M1.out.perm.1; omega) (fun i h1 h2 => by rw [M1.out.perm.2.1 i (.inr h1)]; exact HI.out i (by omega))
  generalize Sort.insertionSort (ltOf cf) d1 20 N = d2 at M2 S_
  have S2 : Aside (SWK enc k w0 blk off d2 w_) := S_
  clear S_ S1
  generalize w_ = w2 at S2 ⊢
  have TB : Hid (Asc (ltOf cf) 0 20 d2 ∧ Asc (ltOf cf) 20 N d2 ∧ Cross 0 20 N d2 ∧ PermIn 0 N d d2) := two_blocks PO.out (by omega) (by have h_ := HD.out; omega) HI.out M1.out M2.out
  go_wp2_with fail
  refine wp_loop_rounds 2 ?_
  rw [rounds_succ]
  go_wp2_with fail
  refine wp_loop_rounds 1 ?_
  rw [rounds_succ]
  go_wp2_with fail
  refine (HC.out.sym 0 20 N d2 _ (TB.out.2.2.2.1.trans HD.out) S2.out (by omega) (by omega) (Nat.le_refl _) TB.out.1 TB.out.2.1 TB.out.2.2.1).mono ?_
  rintro e_ w_ ⟨rfl, d3, M_, S_⟩
  have S3 : Aside (SWK enc k w0 blk off d3 w_) := S_
  have M3 : Hid (Merged (ltOf cf) 0 N d d3) := merged_from TB.out.2.2.2 M_
  clear S_ M_ S2
  go_wp2_with fail
  rw [rounds_succ]
  go_wp2
  all_goals go_end0
  all_goals exact ⟨rfl, d3, M3.out, S3.out⟩
set_option maxHeartbeats 8000000 in
set_option maxRecDepth 1000000 in
theorem stableForty (L : Lay P k) (hO : SWO (ltOf cf)) (g : Nat) (cb : Array Value) (cap N : Nat) (d : Array Nat) (w : World) (C : Callees P k enc blk off w0 cf g cb cap N) (hd : d.size = N) (S : SWK enc k w0 blk off d w) (hid : ∀ i, i < N → d[i]! = i) (hN : N = 40) :
    Calls P 103 #[.slice (some ⟨blk, off, none⟩) N cap, .int .i64 N, .func (.func g) #[] cb] w fun e w' => e = .returned (.tuple #[]) ∧ ∃ d', Merged (ltOf cf) 0 N d d' ∧ SWK enc k w0 blk off d' w' := by
  have mixed := L.mixed; have t0 := L.t0; have a0 := L.a0; have z0 := L.z0; have v0 := L.v0; have t3 := L.t3; have a3 := L.a3; have z3 := L.z3; have v3 := L.v3; have t4 := L.t4; have a4 := L.a4; have z4 := L.z4; have v4 := L.v4; have tR := L.tR; have aR := L.aR; have zR := L.zR; have vR := L.vR; have tC := L.tC; have aC := L.aC; have zC := L.zC; have vC := L.vC; have tU := L.tU; have aU := L.aU; have zU := L.zU; have vU := L.vU; have aE := L.aE; have zE := L.zE
  have FG := L.fStable
  have eI := C.eI
  have eM := C.eM
  have HC : Aside (Callees P k enc blk off w0 cf g cb cap N) := C
  have S0 : Aside (SWK enc k w0 blk off d w) := S
  have HD : Hid (d.size = N) := hd
  have HI : Hid (∀ i, i < N → d[i]! = i) := hid
  have PO : Hid (SWO (ltOf cf)) := hO
  clear S hd hid hO C L
  have b1 : (20 : Int) ≤ (N : Int) := by omega
  have b2 : (20 : Int) < (N : Int) := by omega
  have b3 : (40 : Int) ≤ (N : Int) := by omega
  have b4 : ¬ (40 : Int) < (N : Int) := by omega
  have b5 : ¬ (60 : Int) ≤ (N : Int) := by omega
  have b6 : ¬ (80 : Int) ≤ (N : Int) := by omega
  have b7 : ¬ (60 : Int) < (N : Int) := by omega
  have HN : Hid (N = 40) := hN
  have n1 : N ≤ 40 := by omega
  have n2 : 40 ≤ N := by omega
  clear hN
  go_enter FG, Try.ntmps103
  go_wp2_with fail
  refine wp_loop_rounds 3 ?_
  rw [rounds_succ]
  go_wp2_with fail
  refine (HC.out.ins 0 20 d _ HD.out S0.out (by omega) (by omega)).mono ?_
  rintro e_ w_ ⟨rfl, S_⟩
  have M1 : Hid (Merged (ltOf cf) 0 20 d (Sort.insertionSort (ltOf cf) d 0 20)) := ins_block PO.out (by omega) (by have h_ := HD.out; omega) (fun i _ h2 => HI.out i (by omega))
  generalize Sort.insertionSort (ltOf cf) d 0 20 = d1 at M1 S_
  have S1 : Aside (SWK enc k w0 blk off d1 w_) := S_
  clear S_ S0
  generalize w_ = w1 at S1 ⊢
  go_wp2_with fail
  rw [rounds_succ]
  go_wp2_with fail
  refine (HC.out.ins 20 40 d1 _ (M1.out.perm.1.trans HD.out) S1.out (by omega) (by omega)).mono ?_
  rintro e_ w_ ⟨rfl, S_⟩
  have M2 : Hid (Merged (ltOf cf) 20 40 d1 (Sort.insertionSort (ltOf cf) d1 20 40)) := ins_block PO.out (by omega) (by have h_ := HD.out; have h2_ := M1.out.perm.1; omega) (fun i h1 h2 => by rw [M1.out.perm.2.1 i (.inr h1)]; exact HI.out i (by omega))
  generalize Sort.insertionSort (ltOf cf) d1 20 40 = d2 at M2 S_
  have S2 : Aside (SWK enc k w0 blk off d2 w_) := S_
  clear S_ S1
  generalize w_ = w2 at S2 ⊢
  go_wp2_with fail
  rw [rounds_succ]
  go_wp2_with fail
  refine (HC.out.ins 40 N d2 _ (M2.out.perm.1.trans (M1.out.perm.1.trans HD.out)) S2.out (by omega) (by omega)).mono ?_
  rintro e_ w_ ⟨rfl, S_⟩
  have e1 : Sort.insertionSort (ltOf cf) d2 40 N = d2 := by rw [HN.out]; exact ins_none d2 40
  rw [e1] at S_
  clear e1
  have S3 : Aside (SWK enc k w0 blk off d2 w_) := S_
  clear S_ S2
  have TB : Hid (Asc (ltOf cf) 0 20 d2 ∧ Asc (ltOf cf) 20 40 d2 ∧ Cross 0 20 40 d2 ∧ PermIn 0 40 d d2) := two_blocks PO.out (by omega) (by have h_ := HD.out; omega) (fun i hi => HI.out i (by omega)) M1.out M2.out
  go_wp2_with fail
  refine wp_loop_rounds 2 ?_
  rw [rounds_succ]
  go_wp2_with fail
  refine wp_loop_rounds 2 ?_
  rw [rounds_succ]
  go_wp2_with fail
  refine (HC.out.sym 0 20 40 d2 _ (TB.out.2.2.2.1.trans HD.out) S3.out (by omega) (by omega) (by omega) TB.out.1 TB.out.2.1 TB.out.2.2.1).mono ?_
  rintro e_ w2_ ⟨rfl, d3, M_, S_⟩
  have S4 : Aside (SWK enc k w0 blk off d3 w2_) := S_
  have M3 : Hid (Merged (ltOf cf) 0 N d d3) := by rw [HN.out]; exact merged_from TB.out.2.2.2 M_
  clear S_ M_ S3
  go_wp2_with fail
  rw [rounds_succ]
  go_wp2_with fail
  rw [rounds_succ]
  go_wp2
  all_goals go_end0
  all_goals exact ⟨rfl, d3, M3.out, S4.out⟩
end
end Go.Proofs.Ytiaajmnmbjheoaa.Stable
