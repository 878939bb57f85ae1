/- slices.SortStableFunc at forty elements or fewer, of one cell: the row holds what it held, sorted, equals in the order in which they came. No condition beyond what each says. -/
import Derived.Test.YtiaajmnmbjheoaaStableM1
import Derived.Test.YtiaajmnmbjheoaaStableP
import Derived.Shelf.SlSortCmp.Pdq1
namespace Go.Proofs.Ytiaajmnmbjheoaa.Stable1
open Go.Shelf Go.RowKit Go.Lib Go.Sort Go.Proofs.Ytiaajmnmbjheoaa.Stable
set_option linter.unusedVariables false
set_option linter.unusedSimpArgs false
/-! ### insertionSortCmpFunc, laid at this program -/
def ren : Ren := ⟨fun x => if x = 20 then 132 else x, fun x => if x = 22 then 74 else if x = 24 then 3 else if x = 25 then 119 else x, fun x => x⟩
theorem insLaid : SlLaysF.n20 Try.prog ren := ⟨by kernel_rfl, ⟨_, by decide, Try.func132⟩, Try.underlying0, Try.isAgg0, Try.sizeOf0, Try.zeroValue0, Try.underlying3, Try.isAgg3, Try.sizeOf3, Try.zeroValue3, Try.underlying4, Try.isAgg4, Try.sizeOf4, Try.zeroValue4, Try.underlying74, Try.isAgg74, Try.sizeOf74, Try.zeroValue74, Try.isAgg3, Try.sizeOf3, Try.underlying119, Try.isAgg119, Try.sizeOf119, Try.zeroValue119⟩
section
variable {P : Program} {enc : Nat → Value} {blk off : Nat} {d0 : Array Nat} {w0 : World} {cf : Nat → Nat → Int}
/-- What the sort leans on of its callees. -/
structure Callees (P : Program) (enc : Nat → Value) (blk off : Nat) (w0 : World) (cf : Nat → Nat → Int) (g : Nat) (cb : Array Value) (cap N : Nat) : Prop where
  ins : ∀ (a b : Nat) (d : Array Nat) (w : World), d.size = N → SW enc w0 blk off d w → a ≤ b → b ≤ N → Calls P 132 #[.slice (some ⟨blk, off, none⟩) N cap, .int .i64 a, .int .i64 b, .func (.func g) #[] cb] w fun e w' => e = .returned (.tuple #[]) ∧ SW enc w0 blk off (Sort.insertionSort (ltOf cf) d a b) w'
  sym : ∀ (a m b : Nat) (d : Array Nat) (w : World), d.size = N → SW enc w0 blk off d w → a < m → m < b → b ≤ N → Asc (ltOf cf) a m d → Asc (ltOf cf) m b d → Cross a m b d → Calls P 133 #[.slice (some ⟨blk, off, none⟩) N cap, .int .i64 a, .int .i64 m, .int .i64 b, .func (.func g) #[] cb] w fun e w' => e = .returned (.tuple #[]) ∧ ∃ d', Merged (ltOf cf) a b d d' ∧ SW enc w0 blk off d' w'
  eI : ∀ args w, (callFunc 132 args).run P w = .ok (.enter 132 args) w
  eM : ∀ args w, (callFunc 133 args).run P w = .ok (.enter 133 args) w
set_option maxHeartbeats 8000000 in
set_option maxRecDepth 1000000 in
theorem stableFew (L : Lay1 P) (hO : SWO (ltOf cf)) (g : Nat) (cb : Array Value) (cap N : Nat) (d : Array Nat) (w : World) (C : Callees P enc blk off w0 cf g cb cap N) (hd : d.size = N) (S : SW enc w0 blk off d w) (hid : ∀ i, i < N → d[i]! = i) (hN : N < 20) :
    Calls P 106 #[.slice (some ⟨blk, off, none⟩) N cap, .int .i64 N, .func (.func g) #[] cb] w fun e w' => e = .returned (.tuple #[]) ∧ ∃ d', Merged (ltOf cf) 0 N d d' ∧ SW enc w0 blk off d' w' := by
  have mixed := L.mixed; have t0 := L.t0; have a0 := L.a0; have z0 := L.z0; have v0 := L.v0; have t3 := L.t3; have a3 := L.a3; have z3 := L.z3; have v3 := L.v3; have t4 := L.t4; have a4 := L.a4; have z4 := L.z4; have v4 := L.v4; have tR := L.tR; have aR := L.aR; have zR := L.zR; have vR := L.vR; have tC := L.tC; have aC := L.aC; have zC := L.zC; have vC := L.vC; have tU := L.tU; have aU := L.aU; have zU := L.zU; have vU := L.vU; have uR := run_underlying L.tR
  have FG := L.fStable
  have eI := C.eI
  have eM := C.eM
  have HC : Aside (Callees P enc blk off w0 cf g cb cap N) := C
  have S0 : Aside (SW enc w0 blk off d w) := S
  have HD : Hid (d.size = N) := hd
  have HI : Hid (∀ i, i < N → d[i]! = i) := hid
  have PO : Hid (SWO (ltOf cf)) := hO
  clear S hd hid hO C L
  have b1 : ¬ (20 : Int) ≤ (N : Int) := by omega
  have b2 : ¬ (20 : Int) < (N : Int) := by omega
  go_enter FG, Try.ntmps106
  go_wp2_with fail
  refine wp_loop_rounds 1 ?_
  rw [rounds_succ]
  go_wp2_with fail
  refine (HC.out.ins 0 N d _ HD.out S0.out (by omega) (by omega)).mono ?_
  rintro e_ w_ ⟨rfl, S_⟩
  have M1 : Hid (Merged (ltOf cf) 0 N d (Sort.insertionSort (ltOf cf) d 0 N)) := ins_block PO.out (by omega) (by have h_ := HD.out; omega) (fun i _ h2 => HI.out i (by omega))
  generalize Sort.insertionSort (ltOf cf) d 0 N = d1 at M1 S_
  have S1 : Aside (SW enc w0 blk off d1 w_) := S_
  clear S_ S0
  generalize w_ = w1 at S1 ⊢
  go_wp2_with fail
  refine wp_loop_rounds 1 ?_
  rw [rounds_succ]
  go_wp2
  all_goals go_end0
  all_goals exact ⟨rfl, d1, M1.out, S1.out⟩
set_option maxHeartbeats 8000000 in
set_option maxRecDepth 1000000 in
theorem stableTwenty (L : Lay1 P) (hO : SWO (ltOf cf)) (g : Nat) (cb : Array Value) (cap N : Nat) (d : Array Nat) (w : World) (C : Callees P enc blk off w0 cf g cb cap N) (hd : d.size = N) (S : SW enc w0 blk off d w) (hid : ∀ i, i < N → d[i]! = i) (hN : N = 20) :
    Calls P 106 #[.slice (some ⟨blk, off, none⟩) N cap, .int .i64 N, .func (.func g) #[] cb] w fun e w' => e = .returned (.tuple #[]) ∧ ∃ d', Merged (ltOf cf) 0 N d d' ∧ SW enc w0 blk off d' w' := by
  have mixed := L.mixed; have t0 := L.t0; have a0 := L.a0; have z0 := L.z0; have v0 := L.v0; have t3 := L.t3; have a3 := L.a3; have z3 := L.z3; have v3 := L.v3; have t4 := L.t4; have a4 := L.a4; have z4 := L.z4; have v4 := L.v4; have tR := L.tR; have aR := L.aR; have zR := L.zR; have vR := L.vR; have tC := L.tC; have aC := L.aC; have zC := L.zC; have vC := L.vC; have tU := L.tU; have aU := L.aU; have zU := L.zU; have vU := L.vU; have uR := run_underlying L.tR
  have FG := L.fStable
  have eI := C.eI
  have eM := C.eM
  have HC : Aside (Callees P enc blk off w0 cf g cb cap N) := C
  have S0 : Aside (SW enc w0 blk off d w) := S
  have HD : Hid (d.size = N) := hd
  have HI : Hid (∀ i, i < N → d[i]! = i) := hid
  have PO : Hid (SWO (ltOf cf)) := hO
  clear S hd hid hO C L
  have b1 : (20 : Int) ≤ (N : Int) := by omega
  have b2 : ¬ (20 : Int) < (N : Int) := by omega
  have b3 : ¬ (40 : Int) ≤ (N : Int) := by omega
  have HN : Hid (N = 20) := hN
  have n1 : N ≤ 20 := by omega
  have n2 : 20 ≤ N := by omega
  clear hN
  go_enter FG, Try.ntmps106
  go_wp2_with fail
  refine wp_loop_rounds 2 ?_
  rw [rounds_succ]
  go_wp2_with fail
  refine (HC.out.ins 0 20 d _ HD.out S0.out (by omega) (by omega)).mono ?_
  rintro e_ w_ ⟨rfl, S_⟩
  have M1 : Hid (Merged (ltOf cf) 0 20 d (Sort.insertionSort (ltOf cf) d 0 20)) := ins_block PO.out (by omega) (by have h_ := HD.out; omega) (fun i _ h2 => HI.out i (by omega))
  generalize Sort.insertionSort (ltOf cf) d 0 20 = d1 at M1 S_
  have S1 : Aside (SW enc w0 blk off d1 w_) := S_
  clear S_ S0
  generalize w_ = w1 at S1 ⊢
  go_wp2_with fail
  rw [rounds_succ]
  go_wp2_with fail
  refine (HC.out.ins 20 N d1 _ (M1.out.perm.1.trans HD.out) S1.out (by omega) (by omega)).mono ?_
  rintro e_ w_ ⟨rfl, S_⟩
  have e1 : Sort.insertionSort (ltOf cf) d1 20 N = d1 := by rw [HN.out]; exact ins_none d1 20
  rw [e1] at S_
  clear e1
  have S2 : Aside (SW enc w0 blk off d1 w_) := S_
  clear S_ S1
  go_wp2_with fail
  refine wp_loop_rounds 1 ?_
  rw [rounds_succ]
  go_wp2
  all_goals go_end0
  all_goals exact ⟨rfl, d1, by rw [HN.out]; exact M1.out, S2.out⟩
set_option maxHeartbeats 8000000 in
set_option maxRecDepth 1000000 in
theorem stableMid (L : Lay1 P) (hO : SWO (ltOf cf)) (g : Nat) (cb : Array Value) (cap N : Nat) (d : Array Nat) (w : World) (C : Callees P enc blk off w0 cf g cb cap N) (hd : d.size = N) (S : SW enc w0 blk off d w) (hid : ∀ i, i < N → d[i]! = i) (hN : 20 < N) (hN2 : N < 40) :
    Calls P 106 #[.slice (some ⟨blk, off, none⟩) N cap, .int .i64 N, .func (.func g) #[] cb] w fun e w' => e = .returned (.tuple #[]) ∧ ∃ d', Merged (ltOf cf) 0 N d d' ∧ SW enc w0 blk off d' w' := by
  have mixed := L.mixed; have t0 := L.t0; have a0 := L.a0; have z0 := L.z0; have v0 := L.v0; have t3 := L.t3; have a3 := L.a3; have z3 := L.z3; have v3 := L.v3; have t4 := L.t4; have a4 := L.a4; have z4 := L.z4; have v4 := L.v4; have tR := L.tR; have aR := L.aR; have zR := L.zR; have vR := L.vR; have tC := L.tC; have aC := L.aC; have zC := L.zC; have vC := L.vC; have tU := L.tU; have aU := L.aU; have zU := L.zU; have vU := L.vU; have uR := run_underlying L.tR
  have FG := L.fStable
  have eI := C.eI
  have eM := C.eM
  have HC : Aside (Callees P enc blk off w0 cf g cb cap N) := C
  have S0 : Aside (SW enc w0 blk off d w) := S
  have HD : Hid (d.size = N) := hd
  have HI : Hid (∀ i, i < N → d[i]! = i) := hid
  have PO : Hid (SWO (ltOf cf)) := hO
  clear S hd hid hO C L
  have b1 : (20 : Int) ≤ (N : Int) := by omega
  have b2 : (20 : Int) < (N : Int) := by omega
  have b3 : ¬ (40 : Int) ≤ (N : Int) := by omega
  have b4 : ¬ (40 : Int) < (N : Int) := by omega
  go_enter FG, Try.ntmps106
  go_wp2_with fail
  refine wp_loop_rounds 2 ?_
  rw [rounds_succ]
  go_wp2_with fail
  refine (HC.out.ins 0 20 d _ HD.out S0.out (by omega) (by omega)).mono ?_
  rintro e_ w_ ⟨rfl, S_⟩
  have M1 : Hid (Merged (ltOf cf) 0 20 d (Sort.insertionSort (ltOf cf) d 0 20)) := ins_block PO.out (by omega) (by have h_ := HD.out; omega) (fun i _ h2 => HI.out i (by omega))
  generalize Sort.insertionSort (ltOf cf) d 0 20 = d1 at M1 S_
  have S1 : Aside (SW enc w0 blk off d1 w_) := S_
  clear S_ S0
  generalize w_ = w1 at S1 ⊢
  go_wp2_with fail
  rw [rounds_succ]
  go_wp2_with fail
  refine (HC.out.ins 20 N d1 _ (M1.out.perm.1.trans HD.out) S1.out (by omega) (by omega)).mono ?_
  rintro e_ w_ ⟨rfl, S_⟩
  have M2 : Hid (Merged (ltOf cf) 20 N d1 (Sort.insertionSort (ltOf cf) d1 20 N)) := ins_block PO.out (by omega) (by have h_ := HD.out; have h2_ := M1.out.perm.1; omega) (fun i h1 h2 => by rw [M1.out.perm.2.1 i (.inr h1)]; exact HI.out i (by omega))
  generalize Sort.insertionSort (ltOf cf) d1 20 N = d2 at M2 S_
  have S2 : Aside (SW enc w0 blk off d2 w_) := S_
  clear S_ S1
  generalize w_ = w2 at S2 ⊢
  have TB : Hid (Asc (ltOf cf) 0 20 d2 ∧ Asc (ltOf cf) 20 N d2 ∧ Cross 0 20 N d2 ∧ PermIn 0 N d d2) := two_blocks PO.out (by omega) (by have h_ := HD.out; omega) HI.out M1.out M2.out
  go_wp2_with fail
  refine wp_loop_rounds 2 ?_
  rw [rounds_succ]
  go_wp2_with fail
  refine wp_loop_rounds 1 ?_
  rw [rounds_succ]
  go_wp2_with fail
  refine (HC.out.sym 0 20 N d2 _ (TB.out.2.2.2.1.trans HD.out) S2.out (by omega) (by omega) (Nat.le_refl _) TB.out.1 TB.out.2.1 TB.out.2.2.1).mono ?_
  rintro e_ w_ ⟨rfl, d3, M_, S_⟩
  have S3 : Aside (SW enc w0 blk off d3 w_) := S_
  have M3 : Hid (Merged (ltOf cf) 0 N d d3) := merged_from TB.out.2.2.2 M_
  clear S_ M_ S2
  go_wp2_with fail
  rw [rounds_succ]
  go_wp2
  all_goals go_end0
  all_goals exact ⟨rfl, d3, M3.out, S3.out⟩
set_option maxHeartbeats 8000000 in
set_option maxRecDepth 1000000 in
theorem stableForty (L : Lay1 P) (hO : SWO (ltOf cf)) (g : Nat) (cb : Array Value) (cap N : Nat) (d : Array Nat) (w : World) (C : Callees P enc blk off w0 cf g cb cap N) (hd : d.size = N) (S : SW enc w0 blk off d w) (hid : ∀ i, i < N → d[i]! = i) (hN : N = 40) :
    Calls P 106 #[.slice (some ⟨blk, off, none⟩) N cap, .int .i64 N, .func (.func g) #[] cb] w fun e w' => e = .returned (.tuple #[]) ∧ ∃ d', Merged (ltOf cf) 0 N d d' ∧ SW enc w0 blk off d' w' := by
  have mixed := L.mixed; have t0 := L.t0; have a0 := L.a0; have z0 := L.z0; have v0 := L.v0; have t3 := L.t3; have a3 := L.a3; have z3 := L.z3; have v3 := L.v3; have t4 := L.t4; have a4 := L.a4; have z4 := L.z4; have v4 := L.v4; have tR := L.tR; have aR := L.aR; have zR := L.zR; have vR := L.vR; have tC := L.tC; have aC := L.aC; have zC := L.zC; have vC := L.vC; have tU := L.tU; have aU := L.aU; have zU := L.zU; have vU := L.vU; have uR := run_underlying L.tR
  have FG := L.fStable
  have eI := C.eI
  have eM := C.eM
  have HC : Aside (Callees P enc blk off w0 cf g cb cap N) := C
  have S0 : Aside (SW enc w0 blk off d w) := S
  have HD : Hid (d.size = N) := hd
  have HI : Hid (∀ i, i < N → d[i]! = i) := hid
  have PO : Hid (SWO (ltOf cf)) := hO
  clear S hd hid hO C L
  have b1 : (20 : Int) ≤ (N : Int) := by omega
  have b2 : (20 : Int) < (N : Int) := by omega
  have b3 : (40 : Int) ≤ (N : Int) := by omega
  have b4 : ¬ (40 : Int) < (N : Int) := by omega
  have b5 : ¬ (60 : Int) ≤ (N : Int) := by omega
  have b6 : ¬ (80 : Int) ≤ (N : Int) := by omega
  have b7 : ¬ (60 : Int) < (N : Int) := by omega
  have HN : Hid (N = 40) := hN
  have n1 : N ≤ 40 := by omega
  have n2 : 40 ≤ N := by omega
  clear hN
  go_enter FG, Try.ntmps106
  go_wp2_with fail
  refine wp_loop_rounds 3 ?_
  rw [rounds_succ]
  go_wp2_with fail
  refine (HC.out.ins 0 20 d _ HD.out S0.out (by omega) (by omega)).mono ?_
  rintro e_ w_ ⟨rfl, S_⟩
  have M1 : Hid (Merged (ltOf cf) 0 20 d (Sort.insertionSort (ltOf cf) d 0 20)) := ins_block PO.out (by omega) (by have h_ := HD.out; omega) (fun i _ h2 => HI.out i (by omega))
  generalize Sort.insertionSort (ltOf cf) d 0 20 = d1 at M1 S_
  have S1 : Aside (SW enc w0 blk off d1 w_) := S_
  clear S_ S0
  generalize w_ = w1 at S1 ⊢
  go_wp2_with fail
  rw [rounds_succ]
  go_wp2_with fail
  refine (HC.out.ins 20 40 d1 _ (M1.out.perm.1.trans HD.out) S1.out (by omega) (by omega)).mono ?_
  rintro e_ w_ ⟨rfl, S_⟩
  have M2 : Hid (Merged (ltOf cf) 20 40 d1 (Sort.insertionSort (ltOf cf) d1 20 40)) := ins_block PO.out (by omega) (by have h_ := HD.out; have h2_ := M1.out.perm.1; omega) (fun i h1 h2 => by rw [M1.out.perm.2.1 i (.inr h1)]; exact HI.out i (by omega))
  generalize Sort.insertionSort (ltOf cf) d1 20 40 = d2 at M2 S_
  have S2 : Aside (SW enc w0 blk off d2 w_) := S_
  clear S_ S1
  generalize w_ = w2 at S2 ⊢
  go_wp2_with fail
  rw [rounds_succ]
  go_wp2_with fail
  refine (HC.out.ins 40 N d2 _ (M2.out.perm.1.trans (M1.out.perm.1.trans HD.out)) S2.out (by omega) (by omega)).mono ?_
  rintro e_ w_ ⟨rfl, S_⟩
  have e1 : Sort.insertionSort (ltOf cf) d2 40 N = d2 := by rw [HN.out]; exact ins_none d2 40
  rw [e1] at S_
  clear e1
  have S3 : Aside (SW enc w0 blk off d2 w_) := S_
  clear S_ S2
  have TB : Hid (Asc (ltOf cf) 0 20 d2 ∧ Asc (ltOf cf) 20 40 d2 ∧ Cross 0 20 40 d2 ∧ PermIn 0 40 d d2) := two_blocks PO.out (by omega) (by have h_ := HD.out; omega) (fun i hi => HI.out i (by omega)) M1.out M2.out
  go_wp2_with fail
  refine wp_loop_rounds 2 ?_
  rw [rounds_succ]
  go_wp2_with fail
  refine wp_loop_rounds 2 ?_
  rw [rounds_succ]
  go_wp2_with fail
  refine (HC.out.sym 0 20 40 d2 _ (TB.out.2.2.2.1.trans HD.out) S3.out (by omega) (by omega) (by omega) TB.out.1 TB.out.2.1 TB.out.2.2.1).mono ?_
  rintro e_ w2_ ⟨rfl, d3, M_, S_⟩
  have S4 : Aside (SW enc w0 blk off d3 w2_) := S_
  have M3 : Hid (Merged (ltOf cf) 0 N d d3) := by rw [HN.out]; exact merged_from TB.out.2.2.2 M_
  clear S_ M_ S3
  go_wp2_with fail
  rw [rounds_succ]
  go_wp2_with fail
  rw [rounds_succ]
  go_wp2
  all_goals go_end0
  all_goals exact ⟨rfl, d3, M3.out, S4.out⟩
end
end Go.Proofs.Ytiaajmnmbjheoaa.Stable1
