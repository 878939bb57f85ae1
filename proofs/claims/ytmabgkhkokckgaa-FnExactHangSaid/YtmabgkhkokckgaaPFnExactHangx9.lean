/- The machine's side of a law, function by function: a Lean function with the Go function's answers and the proof that the Go code comes to them. No condition. Written by this session's program over the kit's print, this session's own contracts set in. -/
import Derived.Test.YtmabgkhkokckgaaPFnExactHangx0
import Derived.Test.YtmabgkhkokckgaaPFnExactHangx8
namespace Go.Proofs.Ytmabgkhkokckgaa.PFnExactHang
open Go.RowKit Go.Proofs.YtmabgkhkokckgaaW.PrintWords Go.Proofs.YtmabgkhkokckgaaW.PrintLast Go.Proofs.YtmabgkhkokckgaaW.PrintMore
attribute [local go_sem] max2_int min2_int max_two min_two max_three min_three max_four min_four   -- for this text's walks alone
set_option linter.unusedVariables false
set_option linter.unusedSimpArgs false

/-! ### impl_Node_spot: function 59 -/
def impl_Node_spot.f (a0_0 : ByteArray) (a0_1 : Int) (a0_2 : Int) (a0_3 : Int) (a0_4 : Int) (a0_5 : Bool) : Option (Int × Int × Int × Bool) := some (a0_2, a0_3, a0_4, a0_5)
set_option maxHeartbeats 8000000 in
set_option maxRecDepth 100000 in
theorem impl_Node_spot.calls (a0_0 : ByteArray) (a0_1 : Int) (a0_2 : Int) (a0_3 : Int) (a0_4 : Int) (a0_5 : Bool) (r1 : Int) (r2 : Int) (r3 : Int) (r4 : Bool) (w : World) (h : impl_Node_spot.f a0_0 a0_1 a0_2 a0_3 a0_4 a0_5 = some (r1, r2, r3, r4)) :
  Calls Try.prog 59 #[.agg #[.string a0_0, .int .i64 a0_1, .int .i64 a0_2, .int .i64 a0_3, .int .i64 a0_4, .bool a0_5]] w fun e w' => e = .returned (.agg #[.int .i64 r1, .int .i64 r2, .int .i64 r3, .bool r4]) ∧ Below w.heap.size w w' := by
 have hu73 := Try.underlying73
 have hu24 := Try.underlying24
 have HB := Aside0.mk (Below.refl w.heap.size w)
 have H : (some (a0_2, a0_3, a0_4, a0_5)) = some (r1, r2, r3, r4) := h
 clear h
 simp only [Option.some.injEq, Prod.mk.injEq] at H
 obtain ⟨rfl, rfl, rfl, rfl⟩ := H
 go_enter Try.func59, Try.ntmps59
 go_wp2_with (first | ((with_reducible refine gate_dst (N := 1) rfl ?_); refine box_event ?hg (N := 1) ?hd (cs := #[.string a0_0, .int .i64 a0_1, .int .i64 a0_2, .int .i64 a0_3, .int .i64 a0_4, .bool a0_5]) (t := 73) ?hr ?_; (case hd => rfl); (case hg => rfl); (case hr => first | (go_simp; done) | (go_simp; rfl)); intro gb248 hg w2 hbox hb; have n0_ := Aside0.mk (below_step blw hb); have n1_ := Aside0.mk (hbox); have n2_ := Aside0.mk ((by rw [hg]; exact (below_size blw) : w.heap.size ≤ gb248)); have n3_ := Aside0.mk ((by rw [hg]; exact (below_size blw) : w.heap.size ≤ gb248)); clear HB; have HB := n0_; have BK248 := n1_; have GW248 := n2_; have GE248 := n3_; clear n0_ n1_ n2_ n3_; clear hb hbox hg) | ((with_reducible refine gate_dst (N := 2) rfl ?_); refine box_event ?hg (N := 2) ?hd (cs := #[.int .i64 0, .int .i64 0, .int .i64 0, .bool false]) (t := 24) ?hr ?_; (case hd => rfl); (case hg => rfl); (case hr => first | (go_simp; done) | (go_simp; rfl)); intro gb249 hg w3 hbox hb; have n0_ := Aside0.mk (blk_below (g := gb248) (o := .cells #[.string a0_0, .int .i64 a0_1, .int .i64 a0_2, .int .i64 a0_3, .int .i64 a0_4, .bool a0_5] 73 (0, 0)) bkw hb); have n1_ := Aside0.mk (below_step blw hb); have n2_ := Aside0.mk (hbox); have n3_ := Aside0.mk ((by rw [hg]; exact (below_size blw) : w.heap.size ≤ gb249)); have n4_ := Aside0.mk ((by rw [hg]; exact (below_size blw) : w.heap.size ≤ gb249)); have n5_ := Aside0.mk ((by rw [hg]; exact Nat.ne_of_lt (blk_lt (g := gb248) (o := .cells #[.string a0_0, .int .i64 a0_1, .int .i64 a0_2, .int .i64 a0_3, .int .i64 a0_4, .bool a0_5] 73 (0, 0)) bkw) : gb248 ≠ gb249)); have n6_ := Aside0.mk ((by rw [hg]; exact Nat.ne_of_gt (blk_lt (g := gb248) (o := .cells #[.string a0_0, .int .i64 a0_1, .int .i64 a0_2, .int .i64 a0_3, .int .i64 a0_4, .bool a0_5] 73 (0, 0)) bkw) : gb249 ≠ gb248)); clear BK248; clear HB; have BK248 := n0_; have HB := n1_; have BK249 := n2_; have GW249 := n3_; have GE249 := n4_; have NB248_249 := n5_; have NB249_248 := n6_; clear n0_ n1_ n2_ n3_ n4_ n5_ n6_; clear hb hbox hg; have hnb4 := NB248_249.out; have hnc4 := NB249_248.out; have hcz5_0 : w3.cell? ⟨gb248, 0, none⟩ = some (.string a0_0) := (blk_cell BK248.out 0).trans rfl; have hcz5_1 : w3.cell? ⟨gb248, 1, none⟩ = some (.int .i64 a0_1) := (blk_cell BK248.out 1).trans rfl; have hcz5_2 : w3.cell? ⟨gb248, 2, none⟩ = some (.int .i64 a0_2) := (blk_cell BK248.out 2).trans rfl; have hcz5_3 : w3.cell? ⟨gb248, 3, none⟩ = some (.int .i64 a0_3) := (blk_cell BK248.out 3).trans rfl; have hcz5_4 : w3.cell? ⟨gb248, 4, none⟩ = some (.int .i64 a0_4) := (blk_cell BK248.out 4).trans rfl; have hcz5_5 : w3.cell? ⟨gb248, 5, none⟩ = some (.bool a0_5) := (blk_cell BK248.out 5).trans rfl; have hfz5_0 := blk_frozen BK248.out 0; have hfz5_1 := blk_frozen BK248.out 1; have hfz5_2 := blk_frozen BK248.out 2; have hfz5_3 := blk_frozen BK248.out 3; have hfz5_4 := blk_frozen BK248.out 4; have hfz5_5 := blk_frozen BK248.out 5; have hcz6_0 : w3.cell? ⟨gb249, 0, none⟩ = some (.int .i64 0) := (blk_cell BK249.out 0).trans rfl; have hcz6_1 : w3.cell? ⟨gb249, 1, none⟩ = some (.int .i64 0) := (blk_cell BK249.out 1).trans rfl; have hcz6_2 : w3.cell? ⟨gb249, 2, none⟩ = some (.int .i64 0) := (blk_cell BK249.out 2).trans rfl; have hcz6_3 : w3.cell? ⟨gb249, 3, none⟩ = some (.bool false) := (blk_cell BK249.out 3).trans rfl; have hfz6_0 := blk_frozen BK249.out 0; have hfz6_1 := blk_frozen BK249.out 1; have hfz6_2 := blk_frozen BK249.out 2; have hfz6_3 := blk_frozen BK249.out 3))
 refine bodyPost_ret (results_cell_row rfl _ _ gb249 24 #[.int .i64 a0_2, .int .i64 a0_3, .int .i64 a0_4, .bool a0_5] (0, 0) _ rfl (by (with_reducible repeat (first | refine blk_drewN ?_ _ | refine blk_drew ?_ | refine blk_alloc ?_ _)); refine blk_put (cs := #[.int .i64 a0_2, .int .i64 a0_3, .int .i64 a0_4, .bool false]) ?_ 3 _ rfl; (with_reducible repeat (first | refine blk_drewN ?_ _ | refine blk_drew ?_ | refine blk_alloc ?_ _)); refine blk_put (cs := #[.int .i64 a0_2, .int .i64 a0_3, .int .i64 0, .bool false]) ?_ 2 _ rfl; (with_reducible repeat (first | refine blk_drewN ?_ _ | refine blk_drew ?_ | refine blk_alloc ?_ _)); refine blk_put (cs := #[.int .i64 a0_2, .int .i64 0, .int .i64 0, .bool false]) ?_ 1 _ rfl; (with_reducible repeat (first | refine blk_drewN ?_ _ | refine blk_drew ?_ | refine blk_alloc ?_ _)); refine blk_put (cs := #[.int .i64 0, .int .i64 0, .int .i64 0, .bool false]) ?_ 0 _ rfl; (with_reducible repeat (first | refine blk_drewN ?_ _ | refine blk_drew ?_ | refine blk_alloc ?_ _)); exact BK249.out) Try.underlying24 rfl (by kernel_rfl)) rfl ?_
 exact ⟨by first | rfl | (simp [errW_none, errW_some] <;> rfl) | (simp [*, errW_none, errW_some] <;> rfl), blw⟩

-- NOT PRINTED: function 95 (impl_Node_95)


/-! ### impl_Node_60: function 60 -/
/-- Is a node beside another of the same name under the same parent? -/
def impl_Node_60.on (nm : ByteArray) (up : Int) (x : S73) : Option Bool := some (decide (x.f1 = up) && decide (x.f0.toList = nm.toList))
def impl_Node_60.f (l0 : List (S73)) (nm : ByteArray) (up : Int) : Option (Bool) := anyO (impl_Node_60.on nm up) l0
set_option maxHeartbeats 8000000 in
set_option maxRecDepth 100000 in
theorem impl_Node_60.clo (gb : Nat) (nd x : S73) (b : Bool) (w : World) (hbx : w.heap[gb]? = some (.cells #[.string (nd.f0), .int .i64 (nd.f1), .int .i64 (nd.f2), .int .i64 (nd.f3), .int .i64 (nd.f4), .bool (nd.f5)] 73 (0, 0))) (h : impl_Node_60.on nd.f0 nd.f1 x = some b) :
  Calls Try.prog 61 #[.agg #[.string (x.f0), .int .i64 (x.f1), .int .i64 (x.f2), .int .i64 (x.f3), .int .i64 (x.f4), .bool (x.f5)], .pointer (some ⟨gb, 0, none⟩)] w fun e w' => e = .returned (.bool b) ∧ Below w.heap.size w w' := by
 have hu := Try.underlying73
 have HB := Aside0.mk (Below.refl w.heap.size w)
 have BK := Aside0.mk hbx
 unfold impl_Node_60.on at h
 obtain rfl := Option.some.inj h
 clear h hbx
 by_cases c1 : x.f1 = nd.f1
 ·have b0 : (x.f1 == nd.f1) = true := beq_iff_eq.mpr c1
  by_cases c2 : x.f0.toList = nd.f0.toList
  ·have b1 : (x.f0.toList == nd.f0.toList) = true := beq_iff_eq.mpr c2
   go_enter Try.func61, Try.ntmps61
   go_wp2_with (first | ((with_reducible refine gate_dst (N := 2) rfl ?_); refine box_event ?hg (N := 2) ?hd (cs := #[.string (x.f0), .int .i64 (x.f1), .int .i64 (x.f2), .int .i64 (x.f3), .int .i64 (x.f4), .bool (x.f5)]) (t := 73) ?hr ?_; (case hd => rfl); (case hg => rfl); (case hr => first | (go_simp; done) | (go_simp; rfl)); intro gb2 hg w2 hbox hb; have n0_ := Aside0.mk (below_step blw hb); have n1_ := Aside0.mk hbox; have n2_ := Aside0.mk (blk_below (by (with_reducible repeat (first | refine blk_drewN ?_ _ | refine blk_drew ?_ | refine blk_alloc ?_ _)); exact BK.out) hb); clear HB; clear BK; have HB := n0_; have B2 := n1_; have BK := n2_; clear n0_ n1_ n2_; clear hb hbox hg; have hx0 : w2.cell? ⟨gb2, 0, none⟩ = some (.string (x.f0)) := (blk_cell B2.out 0).trans rfl; have hx1 : w2.cell? ⟨gb2, 1, none⟩ = some (.int .i64 (x.f1)) := (blk_cell B2.out 1).trans rfl; have hx2 : w2.cell? ⟨gb2, 2, none⟩ = some (.int .i64 (x.f2)) := (blk_cell B2.out 2).trans rfl; have hx3 : w2.cell? ⟨gb2, 3, none⟩ = some (.int .i64 (x.f3)) := (blk_cell B2.out 3).trans rfl; have hx4 : w2.cell? ⟨gb2, 4, none⟩ = some (.int .i64 (x.f4)) := (blk_cell B2.out 4).trans rfl; have hx5 : w2.cell? ⟨gb2, 5, none⟩ = some (.bool (x.f5)) := (blk_cell B2.out 5).trans rfl; have hn0 : w2.cell? ⟨gb, 0, none⟩ = some (.string (nd.f0)) := (blk_cell BK.out 0).trans rfl; have hn1 : w2.cell? ⟨gb, 1, none⟩ = some (.int .i64 (nd.f1)) := (blk_cell BK.out 1).trans rfl; have hn2 : w2.cell? ⟨gb, 2, none⟩ = some (.int .i64 (nd.f2)) := (blk_cell BK.out 2).trans rfl; have hn3 : w2.cell? ⟨gb, 3, none⟩ = some (.int .i64 (nd.f3)) := (blk_cell BK.out 3).trans rfl; have hn4 : w2.cell? ⟨gb, 4, none⟩ = some (.int .i64 (nd.f4)) := (blk_cell BK.out 4).trans rfl; have hn5 : w2.cell? ⟨gb, 5, none⟩ = some (.bool (nd.f5)) := (blk_cell BK.out 5).trans rfl))
   go_ret
   exact ⟨by simp [c1, c2], blw⟩
  ·have b1 : (x.f0.toList == nd.f0.toList) = false := beq_eq_false_iff_ne.mpr c2
   go_enter Try.func61, Try.ntmps61
   go_wp2_with (first | ((with_reducible refine gate_dst (N := 2) rfl ?_); refine box_event ?hg (N := 2) ?hd (cs := #[.string (x.f0), .int .i64 (x.f1), .int .i64 (x.f2), .int .i64 (x.f3), .int .i64 (x.f4), .bool (x.f5)]) (t := 73) ?hr ?_; (case hd => rfl); (case hg => rfl); (case hr => first | (go_simp; done) | (go_simp; rfl)); intro gb2 hg w2 hbox hb; have n0_ := Aside0.mk (below_step blw hb); have n1_ := Aside0.mk hbox; have n2_ := Aside0.mk (blk_below (by (with_reducible repeat (first | refine blk_drewN ?_ _ | refine blk_drew ?_ | refine blk_alloc ?_ _)); exact BK.out) hb); clear HB; clear BK; have HB := n0_; have B2 := n1_; have BK := n2_; clear n0_ n1_ n2_; clear hb hbox hg; have hx0 : w2.cell? ⟨gb2, 0, none⟩ = some (.string (x.f0)) := (blk_cell B2.out 0).trans rfl; have hx1 : w2.cell? ⟨gb2, 1, none⟩ = some (.int .i64 (x.f1)) := (blk_cell B2.out 1).trans rfl; have hx2 : w2.cell? ⟨gb2, 2, none⟩ = some (.int .i64 (x.f2)) := (blk_cell B2.out 2).trans rfl; have hx3 : w2.cell? ⟨gb2, 3, none⟩ = some (.int .i64 (x.f3)) := (blk_cell B2.out 3).trans rfl; have hx4 : w2.cell? ⟨gb2, 4, none⟩ = some (.int .i64 (x.f4)) := (blk_cell B2.out 4).trans rfl; have hx5 : w2.cell? ⟨gb2, 5, none⟩ = some (.bool (x.f5)) := (blk_cell B2.out 5).trans rfl; have hn0 : w2.cell? ⟨gb, 0, none⟩ = some (.string (nd.f0)) := (blk_cell BK.out 0).trans rfl; have hn1 : w2.cell? ⟨gb, 1, none⟩ = some (.int .i64 (nd.f1)) := (blk_cell BK.out 1).trans rfl; have hn2 : w2.cell? ⟨gb, 2, none⟩ = some (.int .i64 (nd.f2)) := (blk_cell BK.out 2).trans rfl; have hn3 : w2.cell? ⟨gb, 3, none⟩ = some (.int .i64 (nd.f3)) := (blk_cell BK.out 3).trans rfl; have hn4 : w2.cell? ⟨gb, 4, none⟩ = some (.int .i64 (nd.f4)) := (blk_cell BK.out 4).trans rfl; have hn5 : w2.cell? ⟨gb, 5, none⟩ = some (.bool (nd.f5)) := (blk_cell BK.out 5).trans rfl))
   go_ret
   exact ⟨by simp [c1, c2], blw⟩
 ·have b0 : (x.f1 == nd.f1) = false := beq_eq_false_iff_ne.mpr c1
  have c2 : True := trivial
  go_enter Try.func61, Try.ntmps61
  go_wp2_with (first | ((with_reducible refine gate_dst (N := 2) rfl ?_); refine box_event ?hg (N := 2) ?hd (cs := #[.string (x.f0), .int .i64 (x.f1), .int .i64 (x.f2), .int .i64 (x.f3), .int .i64 (x.f4), .bool (x.f5)]) (t := 73) ?hr ?_; (case hd => rfl); (case hg => rfl); (case hr => first | (go_simp; done) | (go_simp; rfl)); intro gb2 hg w2 hbox hb; have n0_ := Aside0.mk (below_step blw hb); have n1_ := Aside0.mk hbox; have n2_ := Aside0.mk (blk_below (by (with_reducible repeat (first | refine blk_drewN ?_ _ | refine blk_drew ?_ | refine blk_alloc ?_ _)); exact BK.out) hb); clear HB; clear BK; have HB := n0_; have B2 := n1_; have BK := n2_; clear n0_ n1_ n2_; clear hb hbox hg; have hx0 : w2.cell? ⟨gb2, 0, none⟩ = some (.string (x.f0)) := (blk_cell B2.out 0).trans rfl; have hx1 : w2.cell? ⟨gb2, 1, none⟩ = some (.int .i64 (x.f1)) := (blk_cell B2.out 1).trans rfl; have hx2 : w2.cell? ⟨gb2, 2, none⟩ = some (.int .i64 (x.f2)) := (blk_cell B2.out 2).trans rfl; have hx3 : w2.cell? ⟨gb2, 3, none⟩ = some (.int .i64 (x.f3)) := (blk_cell B2.out 3).trans rfl; have hx4 : w2.cell? ⟨gb2, 4, none⟩ = some (.int .i64 (x.f4)) := (blk_cell B2.out 4).trans rfl; have hx5 : w2.cell? ⟨gb2, 5, none⟩ = some (.bool (x.f5)) := (blk_cell B2.out 5).trans rfl; have hn0 : w2.cell? ⟨gb, 0, none⟩ = some (.string (nd.f0)) := (blk_cell BK.out 0).trans rfl; have hn1 : w2.cell? ⟨gb, 1, none⟩ = some (.int .i64 (nd.f1)) := (blk_cell BK.out 1).trans rfl; have hn2 : w2.cell? ⟨gb, 2, none⟩ = some (.int .i64 (nd.f2)) := (blk_cell BK.out 2).trans rfl; have hn3 : w2.cell? ⟨gb, 3, none⟩ = some (.int .i64 (nd.f3)) := (blk_cell BK.out 3).trans rfl; have hn4 : w2.cell? ⟨gb, 4, none⟩ = some (.int .i64 (nd.f4)) := (blk_cell BK.out 4).trans rfl; have hn5 : w2.cell? ⟨gb, 5, none⟩ = some (.bool (nd.f5)) := (blk_cell BK.out 5).trans rfl))
  go_ret
  exact ⟨by simp [c1, c2], blw⟩
set_option maxHeartbeats 8000000 in
set_option maxRecDepth 100000 in
theorem impl_Node_60.index (p : S73 → Bool) (A0 : Option Addr) (c0 : Nat) (l0 : List (S73)) (gb : Nat) (nd : S73) (w : World) (hr0 : Kd.C k73 w A0 l0.length l0) (hc0 : l0.length ≤ c0) (hbx : w.heap[gb]? = some (.cells #[.string (nd.f0), .int .i64 (nd.f1), .int .i64 (nd.f2), .int .i64 (nd.f3), .int .i64 (nd.f4), .bool (nd.f5)] 73 (0, 0))) (hp : ∀ x ∈ l0, impl_Node_60.on nd.f0 nd.f1 x = some (p x)) :
  Calls Try.prog 95 #[.slice A0 l0.length c0, .func (.func 61) #[] #[.pointer (some ⟨gb, 0, none⟩)]] w fun e w' => e = .returned (.int .i64 (idxO p l0)) ∧ Below w.heap.size w w' := by
 have hn : l0.length ≤ 9223372036854775807 := hr0.2.1
 have eg := Go.Proofs.enters_of Try.func61 (by kernel_rfl) rfl
 have hu73 := Try.underlying73
 have HR0 := Aside0.mk hr0
 have HP := Aside0.mk hp
 have HX := Aside0.mk hbx
 clear hr0 hp hbx
 go_enter Try.func95, Try.ntmps95
 go_wp2
 go_loopg [5, 8] l0.length (fun gg _ s8 wr => ∃ kk : Nat, kk ≤ l0.length ∧ l0.length - kk ≤ gg ∧ s8 = .int .i64 (kk : Int) ∧ Aside0 (Below w.heap.size w wr) ∧ Aside0 (∀ j (hj : j < l0.length), j < kk → p (l0[j]'hj) = false))
 case atStart => exact ⟨0, Nat.zero_le _, by omega, rfl, ⟨Below.refl _ w⟩, ⟨fun j hj h => absurd h (Nat.not_lt_zero _)⟩⟩
 case round =>
  obtain ⟨kk, hkk, hg, rfl, HB, HN⟩ := hrel
  have BX := Aside0.mk (blk_below HX.out HB.out)
  by_cases hlt : kk < l0.length
  ·have hltz : (kk : Int) < (l0.length : Int) := by omega
   have p1 : 0 ≤ (kk : Int) := by omega
   obtain ⟨ad1, e1, hx0, hx1, hx2, hx3, hx4, hx5⟩ := at_T73 HR0.out (kk : Int) p1 hltz
   have hy : rd_T73 l0 (kk : Int) = l0[kk]'hlt := by simp [rd_T73, hlt]
   cases e1
   rw [hy] at hx0 hx1 hx2 hx3 hx4 hx5; clear hy
   replace hx0 := (HB.out.cell (World.block_lt_of_cell? w _ hx0)).trans hx0
   replace hx1 := (HB.out.cell (World.block_lt_of_cell? w _ hx1)).trans hx1
   replace hx2 := (HB.out.cell (World.block_lt_of_cell? w _ hx2)).trans hx2
   replace hx3 := (HB.out.cell (World.block_lt_of_cell? w _ hx3)).trans hx3
   replace hx4 := (HB.out.cell (World.block_lt_of_cell? w _ hx4)).trans hx4
   replace hx5 := (HB.out.cell (World.block_lt_of_cell? w _ hx5)).trans hx5
   simp only [Int.toNat_natCast] at hx0 hx1 hx2 hx3 hx4 hx5
   have HC := Aside0.mk (HP.out _ (List.getElem_mem hlt))
   have HQ : Aside0 (∀ y, l0[kk]'hlt = y → p y = p (l0[kk]'hlt)) := ⟨fun y h => by rw [h]⟩
   generalize hy : l0[kk]'hlt = y at hx0 hx1 hx2 hx3 hx4 hx5 HC
   have HE := Aside0.mk hy; clear hy
   replace p1 := eq_true p1
   by_cases hq : p y = true
   ·have HQ1 := Aside0.mk hq; clear hq
    have HC2 : Aside0 (impl_Node_60.on nd.f0 nd.f1 y = some true) := ⟨Eq.trans (b := some (p y)) HC.out (by rw [HQ1.out])⟩
    clear HC
    go_wp2_with fail
    refine (impl_Node_60.clo gb nd y true _ (by (with_reducible repeat (first | refine blk_drewN ?_ _ | refine blk_drew ?_ | refine blk_alloc ?_ _)); exact BX.out) HC2.out).mono ?_
    rintro e w8 ⟨rfl, hb⟩; have n0_ := Aside0.mk (below_step blw hb); clear HB; have HB := n0_; clear n0_ hb
    go_wp2
    go_ret
    refine ⟨?_, blw⟩
    rw [idxO_hit hlt (by rw [HE.out]; exact HQ1.out) (fun j hj => HN.out j (by omega) hj)]
    rfl
   ·have HQ1 := Aside0.mk (Bool.eq_false_iff.mpr hq); clear hq
    have HC2 : Aside0 (impl_Node_60.on nd.f0 nd.f1 y = some false) := ⟨Eq.trans (b := some (p y)) HC.out (by rw [HQ1.out])⟩
    clear HC
    go_wp2_with fail
    refine (impl_Node_60.clo gb nd y false _ (by (with_reducible repeat (first | refine blk_drewN ?_ _ | refine blk_drew ?_ | refine blk_alloc ?_ _)); exact BX.out) HC2.out).mono ?_
    rintro e w8 ⟨rfl, hb⟩; have n0_ := Aside0.mk (below_step blw hb); clear HB; have HB := n0_; clear n0_ hb
    go_wp2
    go_roundg (l0.length - (kk + 1))
    case measure => omega
    case rel =>
     refine ⟨kk + 1, by omega, by omega, by go_num, ⟨blw⟩, ⟨fun j hj h => ?_⟩⟩
     by_cases e : j = kk
     ·subst e; rw [HE.out]; exact HQ1.out
     ·exact HN.out j hj (by omega)
  ·have hltz : ¬ (kk : Int) < (l0.length : Int) := by omega
   have hke : kk = l0.length := by omega
   have HM := Aside0.mk (idxO_miss (p := p) (fun j hj => HN.out j hj (by omega)))
   clear hke HN
   go_wp2
   go_ret
   exact ⟨by rw [HM.out]; rfl, HB.out⟩
set_option maxHeartbeats 8000000 in
theorem impl_Node_60.calls (A0 : Option Addr) (c0 : Nat) (l0 : List (S73)) (gb : Nat) (nd : S73) (w : World) (hr0 : Kd.C k73 w A0 l0.length l0) (hc0 : l0.length ≤ c0) (hbx : w.heap[gb]? = some (.cells #[.string (nd.f0), .int .i64 (nd.f1), .int .i64 (nd.f2), .int .i64 (nd.f3), .int .i64 (nd.f4), .bool (nd.f5)] 73 (0, 0))) (r : Bool) (h : impl_Node_60.f l0 nd.f0 nd.f1 = some r) :
  Calls Try.prog 60 #[.slice A0 l0.length c0, .func (.func 61) #[] #[.pointer (some ⟨gb, 0, none⟩)]] w fun e w' => e = .returned (.bool r) ∧ Below w.heap.size w w' := by
 unfold impl_Node_60.f at h
 obtain ⟨p, hp, rfl⟩ := anyO_open h
 rw [← idxO_nonneg]
 have hi := idxO_range p l0
 have hl := hr0.2.1
 have HR := Aside0.mk hr0; have HX := Aside0.mk hbx; clear hr0 hbx
 go_enter Try.func60, Try.ntmps60
 go_wp2_with (first | (go_at_call 95; (with_reducible refine (impl_Node_60.index p A0 c0 l0 gb nd _ HR.out hc0 HX.out hp).mono ?_); rintro e w' ⟨rfl, hb⟩))
 go_ret
 exact ⟨rfl, hb⟩

/-! ### impl_GoodScene: function 20 -/
mutual
def impl_GoodScene.l0 : Nat → List (S73) → List (S73) → Int → Int → Option (Bool)
 | 0, _, _, _, _ => none
 | k + 1, x0, x5, x6, x7 => if x7 < x6 then (if 0 ≤ x7 then (if x7 < (x5.length : Int) then ((impl_GoodName.f k ((rd_T73 x5 x7).f0)).bind fun t252 => (if t252 = true then ((impl_inRange.f ((rd_T73 x5 x7).f1) (-1) (wrap64 (x7 - 1))).bind fun t253 => (if t253 = true then ((impl_Node_spot.f ((rd_T73 x5 x7).f0) ((rd_T73 x5 x7).f1) ((rd_T73 x5 x7).f2) ((rd_T73 x5 x7).f3) ((rd_T73 x5 x7).f4) ((rd_T73 x5 x7).f5)).bind fun bt254 => ((impl_isSpot.f bt254.1 bt254.2.1 bt254.2.2.1 bt254.2.2.2).bind fun t258 => (impl_GoodScene.j1 k x0 x7 x5 x6 x7 (!t258) ((rd_T73 x5 x7).f0) ((rd_T73 x5 x7).f1) ((rd_T73 x5 x7).f2) ((rd_T73 x5 x7).f3) ((rd_T73 x5 x7).f4) ((rd_T73 x5 x7).f5)))) else (impl_GoodScene.j1 k x0 x7 x5 x6 x7 true ((rd_T73 x5 x7).f0) ((rd_T73 x5 x7).f1) ((rd_T73 x5 x7).f2) ((rd_T73 x5 x7).f3) ((rd_T73 x5 x7).f4) ((rd_T73 x5 x7).f5)))) else (impl_GoodScene.j1 k x0 x7 x5 x6 x7 true ((rd_T73 x5 x7).f0) ((rd_T73 x5 x7).f1) ((rd_T73 x5 x7).f2) ((rd_T73 x5 x7).f3) ((rd_T73 x5 x7).f4) ((rd_T73 x5 x7).f5)))) else (none)) else (none)) else (some (decide ((x0.length : Int) ≤ 40)))
def impl_GoodScene.j1 : Nat → List (S73) → Int → List (S73) → Int → Int → Bool → ByteArray → Int → Int → Int → Int → Bool → Option (Bool)
 | 0, _, _, _, _, _, _, _, _, _, _, _, _ => none
 | k + 1, x0, x3, x5, x6, x7, x29, x252000, x252001, x252002, x252003, x252004, x252005 => if x29 = true then (some false) else (if 0 ≤ x3 then (if x3 ≤ (x0.length : Int) then ((impl_Node_60.f (x0.take (x3 : Int).toNat) x252000 x252001).bind fun t263 => (if t263 = true then (some false) else (impl_GoodScene.l0 k x0 x5 x6 (wrap64 (x7 + 1))))) else (none)) else (none))
end
def impl_GoodScene.f (k : Nat) (l0 : List (S73)) : Option (Bool) := impl_GoodScene.l0 k l0 l0 (l0.length : Int) 0
theorem impl_GoodScene.mono_l : ∀ k, (∀ y0 y1 y2 y3, LeO (impl_GoodScene.l0 k y0 y1 y2 y3) (impl_GoodScene.l0 (k + 1) y0 y1 y2 y3)) ∧ (∀ y0 y1 y2 y3 y4 y5 y6 y7 y8 y9 y10 y11, LeO (impl_GoodScene.j1 k y0 y1 y2 y3 y4 y5 y6 y7 y8 y9 y10 y11) (impl_GoodScene.j1 (k + 1) y0 y1 y2 y3 y4 y5 y6 y7 y8 y9 y10 y11))
 | 0 => ⟨fun _ _ _ _ r h => by simp [impl_GoodScene.l0] at h, fun _ _ _ _ _ _ _ _ _ _ _ _ r h => by simp [impl_GoodScene.j1] at h⟩
 | k + 1 => by
  obtain ⟨ih0, ih1⟩ := impl_GoodScene.mono_l k
  refine ⟨?_, ?_⟩
  ·intro y0 y1 y2 y3
   unfold impl_GoodScene.l0
   repeat' first
   | (with_reducible exact ih0 _ _ _ _)
   | (with_reducible exact ih1 _ _ _ _ _ _ _ _ _ _ _ _)
   | (with_reducible exact impl_GoodName.mono _ _)
   | (with_reducible exact LeO.refl _)
   | (with_reducible exact LeO.none _)
   | (with_reducible refine LeO.ite ?_ ?_)
   | (with_reducible refine LeO.bind ?_ (fun _ => ?_))
   | exact ih0 _ _ _ _
   | exact ih1 _ _ _ _ _ _ _ _ _ _ _ _
   | exact impl_GoodName.mono _ _
   | exact LeO.none _
   | refine LeO.ite ?_ ?_
   | refine LeO.bind ?_ (fun _ => ?_)
  ·intro y0 y1 y2 y3 y4 y5 y6 y7 y8 y9 y10 y11
   unfold impl_GoodScene.j1
   repeat' first
   | (with_reducible exact ih0 _ _ _ _)
   | (with_reducible exact ih1 _ _ _ _ _ _ _ _ _ _ _ _)
   | (with_reducible exact impl_GoodName.mono _ _)
   | (with_reducible exact LeO.refl _)
   | (with_reducible exact LeO.none _)
   | (with_reducible refine LeO.ite ?_ ?_)
   | (with_reducible refine LeO.bind ?_ (fun _ => ?_))
   | exact ih0 _ _ _ _
   | exact ih1 _ _ _ _ _ _ _ _ _ _ _ _
   | exact impl_GoodName.mono _ _
   | exact LeO.none _
   | refine LeO.ite ?_ ?_
   | refine LeO.bind ?_ (fun _ => ?_)
theorem impl_GoodScene.mono : ∀ a0 k, LeO (impl_GoodScene.f k a0) (impl_GoodScene.f (k + 1) a0) := by
 intro a0 k
 obtain ⟨ih0, ih1⟩ := impl_GoodScene.mono_l k
 unfold impl_GoodScene.f
 repeat' first
   | (with_reducible exact ih0 _ _ _ _)
   | (with_reducible exact ih1 _ _ _ _ _ _ _ _ _ _ _ _)
   | (with_reducible exact impl_GoodName.mono _ _)
   | (with_reducible exact LeO.refl _)
   | (with_reducible exact LeO.none _)
   | (with_reducible refine LeO.ite ?_ ?_)
   | (with_reducible refine LeO.bind ?_ (fun _ => ?_))
   | exact ih0 _ _ _ _
   | exact ih1 _ _ _ _ _ _ _ _ _ _ _ _
   | exact impl_GoodName.mono _ _
   | exact LeO.none _
   | refine LeO.ite ?_ ?_
   | refine LeO.bind ?_ (fun _ => ?_)
set_option maxHeartbeats 8000000 in
set_option maxRecDepth 100000 in
theorem impl_GoodScene.calls (k : Nat) (A0 : Option Addr) (c0 : Nat) (l0 : List (S73)) (r : Bool) (w : World) (hr0 : Kd.C k73 w A0 l0.length l0) (hc0 : l0.length ≤ c0) (h : impl_GoodScene.f k l0 = some r) :
  Calls Try.prog 20 #[.slice A0 l0.length c0] w fun e w' => e = .returned (.bool r) ∧ Below w.heap.size w w' := by
 have hu73 := Try.underlying73
 have HR0 := Aside0.mk hr0
 have HC0 := Aside0.mk hc0
 clear hr0 hc0
 have HB := Aside0.mk (Below.refl w.heap.size w)
 have H : (impl_GoodScene.l0 k l0 l0 (l0.length : Int) 0) = some r := h
 clear h
 have H' := Aside0.mk H
 clear H
 go_enter Try.func20, Try.ntmps20
 go_wp2
 go_loopg [7] k (fun kq v7 w' => ∃ (x7_1 : Int), v7 = .int .i64 x7_1 ∧ Aside0 (impl_GoodScene.l0 kq l0 l0 (l0.length : Int) x7_1 = some r) ∧ Aside0 (kq ≤ k) ∧ Aside0 (Below w.heap.size w w'))
 case atStart => exact ⟨(0), (by first | rfl | (simp; done) | (simp [*]; done)), H', ⟨Nat.le_refl _⟩, ⟨blw⟩⟩
 case round =>
  clear H'
  obtain ⟨x7_1, rfl, HA, HK1, HB⟩ := hrel
  cases gk with
  | zero => exact absurd HA.out (by simp [impl_GoodScene.l0])
  | succ k1 =>
   have H := HA.out
   clear HA
   simp only [impl_GoodScene.l0] at H
   by_cases c2 : x7_1 < (l0.length : Int)
   ·rw [if_pos c2] at H
    have c2b0 : decide (x7_1 < (l0.length : Int)) = true := decide_eq_true c2
    clear c2
    by_cases c3 : 0 ≤ x7_1
    ·rw [if_pos c3] at H
     have c3b0 : decide (0 ≤ x7_1) = true := decide_eq_true c3
     clear c3
     by_cases c4 : x7_1 < (l0.length : Int)
     ·rw [if_pos c4] at H
      have c4b0 : decide (x7_1 < (l0.length : Int)) = true := decide_eq_true c4
      clear c4
      have HC5 := Aside0.mk H
      clear H
      have p250 : 0 ≤ (x7_1 : Int) := odt
      have q250 : x7_1 < (l0.length : Int) := odt
      obtain ⟨ad250, e250, hx250_0, hx250_1, hx250_2, hx250_3, hx250_4, hx250_5⟩ := at_T73 HR0.out x7_1 p250 q250
      cases e250
      replace hx250_0 := (HB.out.cell (World.block_lt_of_cell? w _ hx250_0)).trans hx250_0
      replace hx250_1 := (HB.out.cell (World.block_lt_of_cell? w _ hx250_1)).trans hx250_1
      replace hx250_2 := (HB.out.cell (World.block_lt_of_cell? w _ hx250_2)).trans hx250_2
      replace hx250_3 := (HB.out.cell (World.block_lt_of_cell? w _ hx250_3)).trans hx250_3
      replace hx250_4 := (HB.out.cell (World.block_lt_of_cell? w _ hx250_4)).trans hx250_4
      replace hx250_5 := (HB.out.cell (World.block_lt_of_cell? w _ hx250_5)).trans hx250_5
      replace p250 := eq_true p250
      replace q250 := eq_true q250
      go_upto_region 4 with (first | ((with_reducible refine gate_dst (N := 4) rfl ?_); refine box_event ?hg (N := 4) ?hd (cs := #[.string (⟨#[]⟩ : ByteArray), .int .i64 0, .int .i64 0, .int .i64 0, .int .i64 0, .bool false]) (t := 73) ?hr ?_; (case hd => rfl); (case hg => rfl); (case hr => first | (go_simp; done) | (go_simp; rfl)); intro gb251 hg w6 hbox hb; have n0_ := Aside0.mk (below_step blw hb); have n1_ := Aside0.mk (hbox); have n2_ := Aside0.mk ((by rw [hg]; exact (below_size blw) : w.heap.size ≤ gb251)); have n3_ := Aside0.mk ((by rw [hg]; exact (below_size blw) : w.heap.size ≤ gb251)); clear HB; have HB := n0_; have BK251 := n1_; have GW251 := n2_; have GE251 := n3_; clear n0_ n1_ n2_ n3_; clear hb hbox hg; have hcz7_0 : w6.cell? ⟨gb251, 0, none⟩ = some (.string (⟨#[]⟩ : ByteArray)) := (blk_cell BK251.out 0).trans rfl; have hcz7_1 : w6.cell? ⟨gb251, 1, none⟩ = some (.int .i64 0) := (blk_cell BK251.out 1).trans rfl; have hcz7_2 : w6.cell? ⟨gb251, 2, none⟩ = some (.int .i64 0) := (blk_cell BK251.out 2).trans rfl; have hcz7_3 : w6.cell? ⟨gb251, 3, none⟩ = some (.int .i64 0) := (blk_cell BK251.out 3).trans rfl; have hcz7_4 : w6.cell? ⟨gb251, 4, none⟩ = some (.int .i64 0) := (blk_cell BK251.out 4).trans rfl; have hcz7_5 : w6.cell? ⟨gb251, 5, none⟩ = some (.bool false) := (blk_cell BK251.out 5).trans rfl; have hfz7_0 := blk_frozen BK251.out 0; have hfz7_1 := blk_frozen BK251.out 1; have hfz7_2 := blk_frozen BK251.out 2; have hfz7_3 := blk_frozen BK251.out 3; have hfz7_4 := blk_frozen BK251.out 4; have hfz7_5 := blk_frozen BK251.out 5))
      (try simp only [Act.put, List.setIfInBounds_toArray, List.set_cons_zero, List.set_cons_succ])
      go_cut [29] (fun v29 wc => ∃ (kq : Nat) (x29_4 : Bool), v29 = .bool x29_4 ∧ Aside0 (impl_GoodScene.j1 kq l0 x7_1 l0 (l0.length : Int) x7_1 x29_4 ((rd_T73 l0 x7_1).f0) ((rd_T73 l0 x7_1).f1) ((rd_T73 l0 x7_1).f2) ((rd_T73 l0 x7_1).f3) ((rd_T73 l0 x7_1).f4) ((rd_T73 l0 x7_1).f5) = some r) ∧ Aside0 (kq ≤ k1) ∧ Aside0 (wc.heap[gb251]? = some (.cells #[.string ((rd_T73 l0 x7_1).f0), .int .i64 ((rd_T73 l0 x7_1).f1), .int .i64 ((rd_T73 l0 x7_1).f2), .int .i64 ((rd_T73 l0 x7_1).f3), .int .i64 ((rd_T73 l0 x7_1).f4), .bool ((rd_T73 l0 x7_1).f5)] 73 (0, 0))) ∧ Aside0 (Below w.heap.size w wc))
      case first =>
       have H := HC5.out
       clear HC5
       replace H := Option.bind_eq_some_iff.mp H
       obtain ⟨t252, A80, H⟩ := H
       replace H : (if t252 = true then ((impl_inRange.f ((rd_T73 l0 x7_1).f1) (-1) (wrap64 (x7_1 - 1))).bind fun t253 => (if t253 = true then ((impl_Node_spot.f ((rd_T73 l0 x7_1).f0) ((rd_T73 l0 x7_1).f1) ((rd_T73 l0 x7_1).f2) ((rd_T73 l0 x7_1).f3) ((rd_T73 l0 x7_1).f4) ((rd_T73 l0 x7_1).f5)).bind fun bt254 => ((impl_isSpot.f bt254.1 bt254.2.1 bt254.2.2.1 bt254.2.2.2).bind fun t258 => (impl_GoodScene.j1 k1 l0 x7_1 l0 (l0.length : Int) x7_1 (!t258) ((rd_T73 l0 x7_1).f0) ((rd_T73 l0 x7_1).f1) ((rd_T73 l0 x7_1).f2) ((rd_T73 l0 x7_1).f3) ((rd_T73 l0 x7_1).f4) ((rd_T73 l0 x7_1).f5)))) else (impl_GoodScene.j1 k1 l0 x7_1 l0 (l0.length : Int) x7_1 true ((rd_T73 l0 x7_1).f0) ((rd_T73 l0 x7_1).f1) ((rd_T73 l0 x7_1).f2) ((rd_T73 l0 x7_1).f3) ((rd_T73 l0 x7_1).f4) ((rd_T73 l0 x7_1).f5)))) else (impl_GoodScene.j1 k1 l0 x7_1 l0 (l0.length : Int) x7_1 true ((rd_T73 l0 x7_1).f0) ((rd_T73 l0 x7_1).f1) ((rd_T73 l0 x7_1).f2) ((rd_T73 l0 x7_1).f3) ((rd_T73 l0 x7_1).f4) ((rd_T73 l0 x7_1).f5))) = some r := H
       have A8 := Aside0.mk A80
       clear A80
       by_cases c9 : t252 = true
       ·subst c9
        have H1 : ((impl_inRange.f ((rd_T73 l0 x7_1).f1) (-1) (wrap64 (x7_1 - 1))).bind fun t253 => (if t253 = true then ((impl_Node_spot.f ((rd_T73 l0 x7_1).f0) ((rd_T73 l0 x7_1).f1) ((rd_T73 l0 x7_1).f2) ((rd_T73 l0 x7_1).f3) ((rd_T73 l0 x7_1).f4) ((rd_T73 l0 x7_1).f5)).bind fun bt254 => ((impl_isSpot.f bt254.1 bt254.2.1 bt254.2.2.1 bt254.2.2.2).bind fun t258 => (impl_GoodScene.j1 k1 l0 x7_1 l0 (l0.length : Int) x7_1 (!t258) ((rd_T73 l0 x7_1).f0) ((rd_T73 l0 x7_1).f1) ((rd_T73 l0 x7_1).f2) ((rd_T73 l0 x7_1).f3) ((rd_T73 l0 x7_1).f4) ((rd_T73 l0 x7_1).f5)))) else (impl_GoodScene.j1 k1 l0 x7_1 l0 (l0.length : Int) x7_1 true ((rd_T73 l0 x7_1).f0) ((rd_T73 l0 x7_1).f1) ((rd_T73 l0 x7_1).f2) ((rd_T73 l0 x7_1).f3) ((rd_T73 l0 x7_1).f4) ((rd_T73 l0 x7_1).f5)))) = some r := by rw [if_pos rfl] at H; exact H
        clear H
        have H := H1
        clear H1
        replace H := Option.bind_eq_some_iff.mp H
        obtain ⟨t253, A100, H⟩ := H
        replace H : (if t253 = true then ((impl_Node_spot.f ((rd_T73 l0 x7_1).f0) ((rd_T73 l0 x7_1).f1) ((rd_T73 l0 x7_1).f2) ((rd_T73 l0 x7_1).f3) ((rd_T73 l0 x7_1).f4) ((rd_T73 l0 x7_1).f5)).bind fun bt254 => ((impl_isSpot.f bt254.1 bt254.2.1 bt254.2.2.1 bt254.2.2.2).bind fun t258 => (impl_GoodScene.j1 k1 l0 x7_1 l0 (l0.length : Int) x7_1 (!t258) ((rd_T73 l0 x7_1).f0) ((rd_T73 l0 x7_1).f1) ((rd_T73 l0 x7_1).f2) ((rd_T73 l0 x7_1).f3) ((rd_T73 l0 x7_1).f4) ((rd_T73 l0 x7_1).f5)))) else (impl_GoodScene.j1 k1 l0 x7_1 l0 (l0.length : Int) x7_1 true ((rd_T73 l0 x7_1).f0) ((rd_T73 l0 x7_1).f1) ((rd_T73 l0 x7_1).f2) ((rd_T73 l0 x7_1).f3) ((rd_T73 l0 x7_1).f4) ((rd_T73 l0 x7_1).f5))) = some r := H
        have A10 := Aside0.mk A100
        clear A100
        by_cases c11 : t253 = true
        ·subst c11
         have H1 : ((impl_Node_spot.f ((rd_T73 l0 x7_1).f0) ((rd_T73 l0 x7_1).f1) ((rd_T73 l0 x7_1).f2) ((rd_T73 l0 x7_1).f3) ((rd_T73 l0 x7_1).f4) ((rd_T73 l0 x7_1).f5)).bind fun bt254 => ((impl_isSpot.f bt254.1 bt254.2.1 bt254.2.2.1 bt254.2.2.2).bind fun t258 => (impl_GoodScene.j1 k1 l0 x7_1 l0 (l0.length : Int) x7_1 (!t258) ((rd_T73 l0 x7_1).f0) ((rd_T73 l0 x7_1).f1) ((rd_T73 l0 x7_1).f2) ((rd_T73 l0 x7_1).f3) ((rd_T73 l0 x7_1).f4) ((rd_T73 l0 x7_1).f5)))) = some r := by rw [if_pos rfl] at H; exact H
         clear H
         have H := H1
         clear H1
         replace H := Option.bind_eq_some_iff.mp H
         obtain ⟨⟨t254, t255, t256, t257⟩, A120, H⟩ := H
         replace H : ((impl_isSpot.f t254 t255 t256 t257).bind fun t258 => (impl_GoodScene.j1 k1 l0 x7_1 l0 (l0.length : Int) x7_1 (!t258) ((rd_T73 l0 x7_1).f0) ((rd_T73 l0 x7_1).f1) ((rd_T73 l0 x7_1).f2) ((rd_T73 l0 x7_1).f3) ((rd_T73 l0 x7_1).f4) ((rd_T73 l0 x7_1).f5))) = some r := H
         have A12 := Aside0.mk A120
         clear A120
         replace H := Option.bind_eq_some_iff.mp H
         obtain ⟨t258, A130, H⟩ := H
         replace H : (impl_GoodScene.j1 k1 l0 x7_1 l0 (l0.length : Int) x7_1 (!t258) ((rd_T73 l0 x7_1).f0) ((rd_T73 l0 x7_1).f1) ((rd_T73 l0 x7_1).f2) ((rd_T73 l0 x7_1).f3) ((rd_T73 l0 x7_1).f4) ((rd_T73 l0 x7_1).f5)) = some r := H
         have A13 := Aside0.mk A130
         clear A130
         have H' := Aside0.mk H
         clear H
         have hcz14_0 : w6.cell? ⟨gb251, 0, none⟩ = some (.string (⟨#[]⟩ : ByteArray)) := (blk_cell BK251.out 0).trans rfl
         have hcz14_1 : w6.cell? ⟨gb251, 1, none⟩ = some (.int .i64 0) := (blk_cell BK251.out 1).trans rfl
         have hcz14_2 : w6.cell? ⟨gb251, 2, none⟩ = some (.int .i64 0) := (blk_cell BK251.out 2).trans rfl
         have hcz14_3 : w6.cell? ⟨gb251, 3, none⟩ = some (.int .i64 0) := (blk_cell BK251.out 3).trans rfl
         have hcz14_4 : w6.cell? ⟨gb251, 4, none⟩ = some (.int .i64 0) := (blk_cell BK251.out 4).trans rfl
         have hcz14_5 : w6.cell? ⟨gb251, 5, none⟩ = some (.bool false) := (blk_cell BK251.out 5).trans rfl
         have hfz14_0 := blk_frozen BK251.out 0
         have hfz14_1 := blk_frozen BK251.out 1
         have hfz14_2 := blk_frozen BK251.out 2
         have hfz14_3 := blk_frozen BK251.out 3
         have hfz14_4 := blk_frozen BK251.out 4
         have hfz14_5 := blk_frozen BK251.out 5
         go_wp2_with (first | ((with_reducible refine gate_callee (f := 57) rfl ?_); refine goesL_ (some 14) rfl rfl Try.func57 (by kernel_rfl) rfl #[.string ((rd_T73 l0 x7_1).f0)] rfl (by (try simp only [List.map_toArray, List.map_cons, List.map_nil]); first | done | rfl | (simp only [List.length_drop, List.length_take]; rfl)) ?_; (with_reducible refine (impl_GoodName.calls k1 ((rd_T73 l0 x7_1).f0) true _ A8.out).mono ?_); rintro e w' ⟨rfl, ⟨nd, rfl⟩⟩; refine ⟨_, rfl, ?_⟩) | (go_at_call 58; (with_reducible refine (impl_inRange.calls ((rd_T73 l0 x7_1).f1) (-1) (wrap64 (x7_1 - 1)) true _ A10.out).mono ?_); rintro e w' ⟨rfl, ⟨nd, rfl⟩⟩) | (go_at_call 59; (with_reducible refine (impl_Node_spot.calls ((rd_T73 l0 x7_1).f0) ((rd_T73 l0 x7_1).f1) ((rd_T73 l0 x7_1).f2) ((rd_T73 l0 x7_1).f3) ((rd_T73 l0 x7_1).f4) ((rd_T73 l0 x7_1).f5) t254 t255 t256 t257 _ A12.out).mono ?_); rintro e w15 ⟨rfl, hb⟩; have n0_ := Aside0.mk (blk_below (g := gb251) (o := .cells #[.string ((rd_T73 l0 x7_1).f0), .int .i64 ((rd_T73 l0 x7_1).f1), .int .i64 ((rd_T73 l0 x7_1).f2), .int .i64 ((rd_T73 l0 x7_1).f3), .int .i64 ((rd_T73 l0 x7_1).f4), .bool ((rd_T73 l0 x7_1).f5)] 73 (0, 0)) (by (with_reducible repeat (first | refine blk_drewN ?_ _ | refine blk_drew ?_ | refine blk_alloc ?_ _)); refine blk_put (cs := #[.string ((rd_T73 l0 x7_1).f0), .int .i64 ((rd_T73 l0 x7_1).f1), .int .i64 ((rd_T73 l0 x7_1).f2), .int .i64 ((rd_T73 l0 x7_1).f3), .int .i64 ((rd_T73 l0 x7_1).f4), .bool false]) ?_ 5 _ rfl; (with_reducible repeat (first | refine blk_drewN ?_ _ | refine blk_drew ?_ | refine blk_alloc ?_ _)); refine blk_put (cs := #[.string ((rd_T73 l0 x7_1).f0), .int .i64 ((rd_T73 l0 x7_1).f1), .int .i64 ((rd_T73 l0 x7_1).f2), .int .i64 ((rd_T73 l0 x7_1).f3), .int .i64 0, .bool false]) ?_ 4 _ rfl; (with_reducible repeat (first | refine blk_drewN ?_ _ | refine blk_drew ?_ | refine blk_alloc ?_ _)); refine blk_put (cs := #[.string ((rd_T73 l0 x7_1).f0), .int .i64 ((rd_T73 l0 x7_1).f1), .int .i64 ((rd_T73 l0 x7_1).f2), .int .i64 0, .int .i64 0, .bool false]) ?_ 3 _ rfl; (with_reducible repeat (first | refine blk_drewN ?_ _ | refine blk_drew ?_ | refine blk_alloc ?_ _)); refine blk_put (cs := #[.string ((rd_T73 l0 x7_1).f0), .int .i64 ((rd_T73 l0 x7_1).f1), .int .i64 0, .int .i64 0, .int .i64 0, .bool false]) ?_ 2 _ rfl; (with_reducible repeat (first | refine blk_drewN ?_ _ | refine blk_drew ?_ | refine blk_alloc ?_ _)); refine blk_put (cs := #[.string ((rd_T73 l0 x7_1).f0), .int .i64 0, .int .i64 0, .int .i64 0, .int .i64 0, .bool false]) ?_ 1 _ rfl; (with_reducible repeat (first | refine blk_drewN ?_ _ | refine blk_drew ?_ | refine blk_alloc ?_ _)); refine blk_put (cs := #[.string (⟨#[]⟩ : ByteArray), .int .i64 0, .int .i64 0, .int .i64 0, .int .i64 0, .bool false]) ?_ 0 _ rfl; (with_reducible repeat (first | refine blk_drewN ?_ _ | refine blk_drew ?_ | refine blk_alloc ?_ _)); exact BK251.out) hb); have n1_ := Aside0.mk (below_step blw hb); clear BK251; clear HB; have BK251 := n0_; have HB := n1_; clear n0_ n1_; (try clear hb); (try clear hb2); (try clear hk); (try clear hi)) | (go_at_call 50; (with_reducible refine (impl_isSpot.calls t254 t255 t256 t257 t258 _ A13.out).mono ?_); rintro e w16 ⟨rfl, hb⟩; have n0_ := Aside0.mk (blk_below (g := gb251) (o := .cells #[.string ((rd_T73 l0 x7_1).f0), .int .i64 ((rd_T73 l0 x7_1).f1), .int .i64 ((rd_T73 l0 x7_1).f2), .int .i64 ((rd_T73 l0 x7_1).f3), .int .i64 ((rd_T73 l0 x7_1).f4), .bool ((rd_T73 l0 x7_1).f5)] 73 (0, 0)) bkw hb); have n1_ := Aside0.mk (below_step blw hb); clear BK251; clear HB; have BK251 := n0_; have HB := n1_; clear n0_ n1_; (try clear hb); (try clear hb2); (try clear hk); (try clear hi)))
         go_meet
         case rel => exact ⟨_, (!t258), (by first | rfl | (simp; done) | (simp [*]; done)), H', ⟨by have := HK1.out; first | omega | exact Nat.le_refl _⟩, ⟨by (with_reducible repeat (first | refine blk_drewN ?_ _ | refine blk_drew ?_ | refine blk_alloc ?_ _)); exact BK251.out⟩, ⟨blw⟩⟩
        ·replace c11 := Bool.eq_false_iff.mpr c11
         subst c11
         have H1 : (impl_GoodScene.j1 k1 l0 x7_1 l0 (l0.length : Int) x7_1 true ((rd_T73 l0 x7_1).f0) ((rd_T73 l0 x7_1).f1) ((rd_T73 l0 x7_1).f2) ((rd_T73 l0 x7_1).f3) ((rd_T73 l0 x7_1).f4) ((rd_T73 l0 x7_1).f5)) = some r := by rw [if_neg (show ¬ (false = true) by decide)] at H; exact H
         clear H
         have H := H1
         clear H1
         have H' := Aside0.mk H
         clear H
         have hcz17_0 : w6.cell? ⟨gb251, 0, none⟩ = some (.string (⟨#[]⟩ : ByteArray)) := (blk_cell BK251.out 0).trans rfl
         have hcz17_1 : w6.cell? ⟨gb251, 1, none⟩ = some (.int .i64 0) := (blk_cell BK251.out 1).trans rfl
         have hcz17_2 : w6.cell? ⟨gb251, 2, none⟩ = some (.int .i64 0) := (blk_cell BK251.out 2).trans rfl
         have hcz17_3 : w6.cell? ⟨gb251, 3, none⟩ = some (.int .i64 0) := (blk_cell BK251.out 3).trans rfl
         have hcz17_4 : w6.cell? ⟨gb251, 4, none⟩ = some (.int .i64 0) := (blk_cell BK251.out 4).trans rfl
         have hcz17_5 : w6.cell? ⟨gb251, 5, none⟩ = some (.bool false) := (blk_cell BK251.out 5).trans rfl
         have hfz17_0 := blk_frozen BK251.out 0
         have hfz17_1 := blk_frozen BK251.out 1
         have hfz17_2 := blk_frozen BK251.out 2
         have hfz17_3 := blk_frozen BK251.out 3
         have hfz17_4 := blk_frozen BK251.out 4
         have hfz17_5 := blk_frozen BK251.out 5
         go_wp2_with (first | ((with_reducible refine gate_callee (f := 57) rfl ?_); refine goesL_ (some 14) rfl rfl Try.func57 (by kernel_rfl) rfl #[.string ((rd_T73 l0 x7_1).f0)] rfl (by (try simp only [List.map_toArray, List.map_cons, List.map_nil]); first | done | rfl | (simp only [List.length_drop, List.length_take]; rfl)) ?_; (with_reducible refine (impl_GoodName.calls k1 ((rd_T73 l0 x7_1).f0) true _ A8.out).mono ?_); rintro e w' ⟨rfl, ⟨nd, rfl⟩⟩; refine ⟨_, rfl, ?_⟩) | (go_at_call 58; (with_reducible refine (impl_inRange.calls ((rd_T73 l0 x7_1).f1) (-1) (wrap64 (x7_1 - 1)) false _ A10.out).mono ?_); rintro e w' ⟨rfl, ⟨nd, rfl⟩⟩))
         go_meet
         case rel => exact ⟨_, (true), (by first | rfl | (simp; done) | (simp [*]; done)), H', ⟨by have := HK1.out; first | omega | exact Nat.le_refl _⟩, ⟨by (with_reducible repeat (first | refine blk_drewN ?_ _ | refine blk_drew ?_ | refine blk_alloc ?_ _)); refine blk_put (cs := #[.string ((rd_T73 l0 x7_1).f0), .int .i64 ((rd_T73 l0 x7_1).f1), .int .i64 ((rd_T73 l0 x7_1).f2), .int .i64 ((rd_T73 l0 x7_1).f3), .int .i64 ((rd_T73 l0 x7_1).f4), .bool false]) ?_ 5 _ rfl; (with_reducible repeat (first | refine blk_drewN ?_ _ | refine blk_drew ?_ | refine blk_alloc ?_ _)); refine blk_put (cs := #[.string ((rd_T73 l0 x7_1).f0), .int .i64 ((rd_T73 l0 x7_1).f1), .int .i64 ((rd_T73 l0 x7_1).f2), .int .i64 ((rd_T73 l0 x7_1).f3), .int .i64 0, .bool false]) ?_ 4 _ rfl; (with_reducible repeat (first | refine blk_drewN ?_ _ | refine blk_drew ?_ | refine blk_alloc ?_ _)); refine blk_put (cs := #[.string ((rd_T73 l0 x7_1).f0), .int .i64 ((rd_T73 l0 x7_1).f1), .int .i64 ((rd_T73 l0 x7_1).f2), .int .i64 0, .int .i64 0, .bool false]) ?_ 3 _ rfl; (with_reducible repeat (first | refine blk_drewN ?_ _ | refine blk_drew ?_ | refine blk_alloc ?_ _)); refine blk_put (cs := #[.string ((rd_T73 l0 x7_1).f0), .int .i64 ((rd_T73 l0 x7_1).f1), .int .i64 0, .int .i64 0, .int .i64 0, .bool false]) ?_ 2 _ rfl; (with_reducible repeat (first | refine blk_drewN ?_ _ | refine blk_drew ?_ | refine blk_alloc ?_ _)); refine blk_put (cs := #[.string ((rd_T73 l0 x7_1).f0), .int .i64 0, .int .i64 0, .int .i64 0, .int .i64 0, .bool false]) ?_ 1 _ rfl; (with_reducible repeat (first | refine blk_drewN ?_ _ | refine blk_drew ?_ | refine blk_alloc ?_ _)); refine blk_put (cs := #[.string (⟨#[]⟩ : ByteArray), .int .i64 0, .int .i64 0, .int .i64 0, .int .i64 0, .bool false]) ?_ 0 _ rfl; (with_reducible repeat (first | refine blk_drewN ?_ _ | refine blk_drew ?_ | refine blk_alloc ?_ _)); exact BK251.out⟩, ⟨blw⟩⟩
       ·replace c9 := Bool.eq_false_iff.mpr c9
        subst c9
        have H1 : (impl_GoodScene.j1 k1 l0 x7_1 l0 (l0.length : Int) x7_1 true ((rd_T73 l0 x7_1).f0) ((rd_T73 l0 x7_1).f1) ((rd_T73 l0 x7_1).f2) ((rd_T73 l0 x7_1).f3) ((rd_T73 l0 x7_1).f4) ((rd_T73 l0 x7_1).f5)) = some r := by rw [if_neg (show ¬ (false = true) by decide)] at H; exact H
        clear H
        have H := H1
        clear H1
        have H' := Aside0.mk H
        clear H
        have hcz18_0 : w6.cell? ⟨gb251, 0, none⟩ = some (.string (⟨#[]⟩ : ByteArray)) := (blk_cell BK251.out 0).trans rfl
        have hcz18_1 : w6.cell? ⟨gb251, 1, none⟩ = some (.int .i64 0) := (blk_cell BK251.out 1).trans rfl
        have hcz18_2 : w6.cell? ⟨gb251, 2, none⟩ = some (.int .i64 0) := (blk_cell BK251.out 2).trans rfl
        have hcz18_3 : w6.cell? ⟨gb251, 3, none⟩ = some (.int .i64 0) := (blk_cell BK251.out 3).trans rfl
        have hcz18_4 : w6.cell? ⟨gb251, 4, none⟩ = some (.int .i64 0) := (blk_cell BK251.out 4).trans rfl
        have hcz18_5 : w6.cell? ⟨gb251, 5, none⟩ = some (.bool false) := (blk_cell BK251.out 5).trans rfl
        have hfz18_0 := blk_frozen BK251.out 0
        have hfz18_1 := blk_frozen BK251.out 1
        have hfz18_2 := blk_frozen BK251.out 2
        have hfz18_3 := blk_frozen BK251.out 3
        have hfz18_4 := blk_frozen BK251.out 4
        have hfz18_5 := blk_frozen BK251.out 5
        go_wp2_with (first | ((with_reducible refine gate_callee (f := 57) rfl ?_); refine goesL_ (some 14) rfl rfl Try.func57 (by kernel_rfl) rfl #[.string ((rd_T73 l0 x7_1).f0)] rfl (by (try simp only [List.map_toArray, List.map_cons, List.map_nil]); first | done | rfl | (simp only [List.length_drop, List.length_take]; rfl)) ?_; (with_reducible refine (impl_GoodName.calls k1 ((rd_T73 l0 x7_1).f0) false _ A8.out).mono ?_); rintro e w' ⟨rfl, ⟨nd, rfl⟩⟩; refine ⟨_, rfl, ?_⟩))
        go_meet
        case rel => exact ⟨_, (true), (by first | rfl | (simp; done) | (simp [*]; done)), H', ⟨by have := HK1.out; first | omega | exact Nat.le_refl _⟩, ⟨by (with_reducible repeat (first | refine blk_drewN ?_ _ | refine blk_drew ?_ | refine blk_alloc ?_ _)); refine blk_put (cs := #[.string ((rd_T73 l0 x7_1).f0), .int .i64 ((rd_T73 l0 x7_1).f1), .int .i64 ((rd_T73 l0 x7_1).f2), .int .i64 ((rd_T73 l0 x7_1).f3), .int .i64 ((rd_T73 l0 x7_1).f4), .bool false]) ?_ 5 _ rfl; (with_reducible repeat (first | refine blk_drewN ?_ _ | refine blk_drew ?_ | refine blk_alloc ?_ _)); refine blk_put (cs := #[.string ((rd_T73 l0 x7_1).f0), .int .i64 ((rd_T73 l0 x7_1).f1), .int .i64 ((rd_T73 l0 x7_1).f2), .int .i64 ((rd_T73 l0 x7_1).f3), .int .i64 0, .bool false]) ?_ 4 _ rfl; (with_reducible repeat (first | refine blk_drewN ?_ _ | refine blk_drew ?_ | refine blk_alloc ?_ _)); refine blk_put (cs := #[.string ((rd_T73 l0 x7_1).f0), .int .i64 ((rd_T73 l0 x7_1).f1), .int .i64 ((rd_T73 l0 x7_1).f2), .int .i64 0, .int .i64 0, .bool false]) ?_ 3 _ rfl; (with_reducible repeat (first | refine blk_drewN ?_ _ | refine blk_drew ?_ | refine blk_alloc ?_ _)); refine blk_put (cs := #[.string ((rd_T73 l0 x7_1).f0), .int .i64 ((rd_T73 l0 x7_1).f1), .int .i64 0, .int .i64 0, .int .i64 0, .bool false]) ?_ 2 _ rfl; (with_reducible repeat (first | refine blk_drewN ?_ _ | refine blk_drew ?_ | refine blk_alloc ?_ _)); refine blk_put (cs := #[.string ((rd_T73 l0 x7_1).f0), .int .i64 0, .int .i64 0, .int .i64 0, .int .i64 0, .bool false]) ?_ 1 _ rfl; (with_reducible repeat (first | refine blk_drewN ?_ _ | refine blk_drew ?_ | refine blk_alloc ?_ _)); refine blk_put (cs := #[.string (⟨#[]⟩ : ByteArray), .int .i64 0, .int .i64 0, .int .i64 0, .int .i64 0, .bool false]) ?_ 0 _ rfl; (with_reducible repeat (first | refine blk_drewN ?_ _ | refine blk_drew ?_ | refine blk_alloc ?_ _)); exact BK251.out⟩, ⟨blw⟩⟩
      case rest =>
       clear HC5
       try clear c1
       try clear c2
       try clear c2b0
       try clear p2
       try clear q2
       try clear hx2
       try clear c3
       try clear c3b0
       try clear c4
       try clear c4b0
       try clear c5
       try clear p6
       try clear c9
       try clear c11
       try clear hcz14_0
       try clear hcz14_1
       try clear hcz14_2
       try clear hcz14_3
       try clear hcz14_4
       try clear hcz14_5
       try clear hcz17_0
       try clear hcz17_1
       try clear hcz17_2
       try clear hcz17_3
       try clear hcz17_4
       try clear hcz17_5
       try clear hcz18_0
       try clear hcz18_1
       try clear hcz18_2
       try clear hcz18_3
       try clear hcz18_4
       try clear hcz18_5
       try clear hcz7_0
       try clear hcz7_1
       try clear hcz7_2
       try clear hcz7_3
       try clear hcz7_4
       try clear hcz7_5
       try clear hfz14_0
       try clear hfz14_1
       try clear hfz14_2
       try clear hfz14_3
       try clear hfz14_4
       try clear hfz14_5
       try clear hfz17_0
       try clear hfz17_1
       try clear hfz17_2
       try clear hfz17_3
       try clear hfz17_4
       try clear hfz17_5
       try clear hfz18_0
       try clear hfz18_1
       try clear hfz18_2
       try clear hfz18_3
       try clear hfz18_4
       try clear hfz18_5
       try clear hfz7_0
       try clear hfz7_1
       try clear hfz7_2
       try clear hfz7_3
       try clear hfz7_4
       try clear hfz7_5
       try clear hx250_0
       try clear hx250_1
       try clear hx250_2
       try clear hx250_3
       try clear hx250_4
       try clear hx250_5
       try clear p250
       try clear q250
       obtain ⟨kq, x29_4, rfl, HA, HJ4, BK251, HB⟩ := hcut
       cases kq with
       | zero => exact absurd HA.out (by simp [impl_GoodScene.j1])
       | succ kj4 =>
        have H := HA.out
        clear HA
        simp only [impl_GoodScene.j1] at H
        by_cases c19 : x29_4 = true
        ·subst c19
         have H1 : (some false) = some r := by rw [if_pos rfl] at H; exact H
         clear H
         have H := H1
         clear H1
         obtain rfl := Option.some.inj H
         go_wp2
         go_ret
         exact ⟨by first | rfl | (simp [errW_none, errW_some] <;> rfl) | (simp [*, errW_none, errW_some] <;> rfl), blw⟩
        ·replace c19 := Bool.eq_false_iff.mpr c19
         subst c19
         have H1 : (if 0 ≤ x7_1 then (if x7_1 ≤ (l0.length : Int) then ((impl_Node_60.f (l0.take (x7_1 : Int).toNat) ((rd_T73 l0 x7_1).f0) ((rd_T73 l0 x7_1).f1)).bind fun t263 => (if t263 = true then (some false) else (impl_GoodScene.l0 kj4 l0 l0 (l0.length : Int) (wrap64 (x7_1 + 1))))) else (none)) else (none)) = some r := by rw [if_neg (show ¬ (false = true) by decide)] at H; exact H
         clear H
         have H := H1
         clear H1
         by_cases c20 : 0 ≤ x7_1
         ·rw [if_pos c20] at H
          have c20b0 := eq_true c20
          have c20b1 : decide (0 ≤ x7_1) = true := decide_eq_true c20
          clear c20
          by_cases c21 : x7_1 ≤ (l0.length : Int)
          ·rw [if_pos c21] at H
           have c21b0 := eq_true c21
           have c21b1 : decide (x7_1 ≤ (l0.length : Int)) = true := decide_eq_true c21
           clear c21
           obtain ⟨y259, hy259⟩ : ∃ y_ : List (S73), y_ = (l0.take (x7_1 : Int).toNat) := ⟨_, rfl⟩
           replace H : ((impl_Node_60.f y259 ((rd_T73 l0 x7_1).f0) ((rd_T73 l0 x7_1).f1)).bind fun t263 => (if t263 = true then (some false) else (impl_GoodScene.l0 kj4 l0 l0 (l0.length : Int) (wrap64 (x7_1 + 1))))) = some r := by first | (rw [hy259]; with_reducible exact H) | (have H2_ := (Option.bind_some _ _).symm.trans H; rw [hy259]; with_reducible exact H2_) | (have H2_ := (Option.bind_some _ _).symm.trans H; with_reducible exact H2_) | with_reducible exact H | (rw [hy259]; exact H) | exact H
           have Ny259 := Aside0.mk hy259
           clear hy259
           replace H := Option.bind_eq_some_iff.mp H
           obtain ⟨t263, A220, H⟩ := H
           replace H : (if t263 = true then (some false) else (impl_GoodScene.l0 kj4 l0 l0 (l0.length : Int) (wrap64 (x7_1 + 1)))) = some r := H
           have A22 := Aside0.mk A220
           clear A220
           by_cases c23 : t263 = true
           ·subst c23
            have H1 : (some false) = some r := by rw [if_pos rfl] at H; exact H
            clear H
            have H := H1
            clear H1
            obtain rfl := Option.some.inj H
            have q24 : (x7_1 : Int) ≤ ((l0.length : Int) : Int) := odt
            obtain ⟨i024, hi024, _, hsz24, _⟩ := info_parts info73
            have hroom24 : l0.length ≤ c0 := HC0.out
            have hC24 : Kd.C k73 _ (some ad250) l0.length l0 := HR0.out
            have hcut24 := cut_to (P := Try.prog) 33 73 .i64 Try.underlying33 hi024 (some ad250) l0.length c0 x7_1 odt q24 hroom24
            have hr24 := Kd.C_take (m := (x7_1 : Int).toNat) hC24 (by omega)
            have hy24 : y259.length = (x7_1 : Int).toNat := (by rw [Ny259.out, List.length_take]; omega)
            rw [← Ny259.out] at hr24
            rw [← hy24] at hcut24
            have HR262 := Aside0.mk hr24
            have HC262 := Aside0.mk (show y259.length ≤ c0 from by omega)
            clear hr24 hC24 hroom24 hi024 hsz24
            have KY24 := Aside0.mk hy24
            clear hy24
            replace q24 := eq_true q24
            have hcz25_0 : wc.cell? ⟨gb251, 0, none⟩ = some (.string ((rd_T73 l0 x7_1).f0)) := (blk_cell BK251.out 0).trans rfl
            have hcz25_1 : wc.cell? ⟨gb251, 1, none⟩ = some (.int .i64 ((rd_T73 l0 x7_1).f1)) := (blk_cell BK251.out 1).trans rfl
            have hcz25_2 : wc.cell? ⟨gb251, 2, none⟩ = some (.int .i64 ((rd_T73 l0 x7_1).f2)) := (blk_cell BK251.out 2).trans rfl
            have hcz25_3 : wc.cell? ⟨gb251, 3, none⟩ = some (.int .i64 ((rd_T73 l0 x7_1).f3)) := (blk_cell BK251.out 3).trans rfl
            have hcz25_4 : wc.cell? ⟨gb251, 4, none⟩ = some (.int .i64 ((rd_T73 l0 x7_1).f4)) := (blk_cell BK251.out 4).trans rfl
            have hcz25_5 : wc.cell? ⟨gb251, 5, none⟩ = some (.bool ((rd_T73 l0 x7_1).f5)) := (blk_cell BK251.out 5).trans rfl
            have hfz25_0 := blk_frozen BK251.out 0
            have hfz25_1 := blk_frozen BK251.out 1
            have hfz25_2 := blk_frozen BK251.out 2
            have hfz25_3 := blk_frozen BK251.out 3
            have hfz25_4 := blk_frozen BK251.out 4
            have hfz25_5 := blk_frozen BK251.out 5
            go_wp2_with (first | ((with_reducible refine gate_callee (f := 60) rfl ?_); refine goesL_ (some 34) rfl rfl Try.func60 (by kernel_rfl) rfl #[.slice (some ad250) y259.length c0, .func (.func 61) #[] #[.pointer (some ⟨gb251, 0, none⟩)]] rfl (by (try simp only [List.map_toArray, List.map_cons, List.map_nil]); first | done | rfl | (simp only [List.length_drop, List.length_take]; rfl)) ?_; (with_reducible refine (impl_Node_60.calls _ _ y259 gb251 (rd_T73 l0 x7_1) _ ?side1 ?side2 ?side3 true A22.out).mono ?_); (case side3 => (with_reducible repeat (first | refine blk_drewN ?_ _ | refine blk_drew ?_ | refine blk_alloc ?_ _)); exact BK251.out); (case side1 => repeat (first | exact (Kd.C_below HR262.out HB.out) | (with_reducible refine Kd.C_alloc ?_ _) | (with_reducible refine Kd.C_drewN ?_ _) | (with_reducible refine Kd.C_drew ?_))); (case side2 => exact HC262.out); rintro e w26 ⟨rfl, hb⟩; refine ⟨_, rfl, ?_⟩; have n0_ := Aside0.mk (blk_below (g := gb251) (o := .cells #[.string ((rd_T73 l0 x7_1).f0), .int .i64 ((rd_T73 l0 x7_1).f1), .int .i64 ((rd_T73 l0 x7_1).f2), .int .i64 ((rd_T73 l0 x7_1).f3), .int .i64 ((rd_T73 l0 x7_1).f4), .bool ((rd_T73 l0 x7_1).f5)] 73 (0, 0)) bkw hb); have n1_ := Aside0.mk (below_step blw hb); clear BK251; clear HB; have BK251 := n0_; have HB := n1_; clear n0_ n1_; (try clear hb); (try clear hb2); (try clear hk); (try clear hi)))
            go_ret
            exact ⟨by first | rfl | (simp [errW_none, errW_some] <;> rfl) | (simp [*, errW_none, errW_some] <;> rfl), blw⟩
           ·replace c23 := Bool.eq_false_iff.mpr c23
            subst c23
            have H1 : (impl_GoodScene.l0 kj4 l0 l0 (l0.length : Int) (wrap64 (x7_1 + 1))) = some r := by rw [if_neg (show ¬ (false = true) by decide)] at H; exact H
            clear H
            have H := H1
            clear H1
            have H' := Aside0.mk H
            clear H
            have q27 : (x7_1 : Int) ≤ ((l0.length : Int) : Int) := odt
            obtain ⟨i027, hi027, _, hsz27, _⟩ := info_parts info73
            have hroom27 : l0.length ≤ c0 := HC0.out
            have hC27 : Kd.C k73 _ (some ad250) l0.length l0 := HR0.out
            have hcut27 := cut_to (P := Try.prog) 33 73 .i64 Try.underlying33 hi027 (some ad250) l0.length c0 x7_1 odt q27 hroom27
            have hr27 := Kd.C_take (m := (x7_1 : Int).toNat) hC27 (by omega)
            have hy27 : y259.length = (x7_1 : Int).toNat := (by rw [Ny259.out, List.length_take]; omega)
            rw [← Ny259.out] at hr27
            rw [← hy27] at hcut27
            have HR262 := Aside0.mk hr27
            have HC262 := Aside0.mk (show y259.length ≤ c0 from by omega)
            clear hr27 hC27 hroom27 hi027 hsz27
            have KY27 := Aside0.mk hy27
            clear hy27
            replace q27 := eq_true q27
            have hcz28_0 : wc.cell? ⟨gb251, 0, none⟩ = some (.string ((rd_T73 l0 x7_1).f0)) := (blk_cell BK251.out 0).trans rfl
            have hcz28_1 : wc.cell? ⟨gb251, 1, none⟩ = some (.int .i64 ((rd_T73 l0 x7_1).f1)) := (blk_cell BK251.out 1).trans rfl
            have hcz28_2 : wc.cell? ⟨gb251, 2, none⟩ = some (.int .i64 ((rd_T73 l0 x7_1).f2)) := (blk_cell BK251.out 2).trans rfl
            have hcz28_3 : wc.cell? ⟨gb251, 3, none⟩ = some (.int .i64 ((rd_T73 l0 x7_1).f3)) := (blk_cell BK251.out 3).trans rfl
            have hcz28_4 : wc.cell? ⟨gb251, 4, none⟩ = some (.int .i64 ((rd_T73 l0 x7_1).f4)) := (blk_cell BK251.out 4).trans rfl
            have hcz28_5 : wc.cell? ⟨gb251, 5, none⟩ = some (.bool ((rd_T73 l0 x7_1).f5)) := (blk_cell BK251.out 5).trans rfl
            have hfz28_0 := blk_frozen BK251.out 0
            have hfz28_1 := blk_frozen BK251.out 1
            have hfz28_2 := blk_frozen BK251.out 2
            have hfz28_3 := blk_frozen BK251.out 3
            have hfz28_4 := blk_frozen BK251.out 4
            have hfz28_5 := blk_frozen BK251.out 5
            go_wp2_with (first | ((with_reducible refine gate_callee (f := 60) rfl ?_); refine goesL_ (some 34) rfl rfl Try.func60 (by kernel_rfl) rfl #[.slice (some ad250) y259.length c0, .func (.func 61) #[] #[.pointer (some ⟨gb251, 0, none⟩)]] rfl (by (try simp only [List.map_toArray, List.map_cons, List.map_nil]); first | done | rfl | (simp only [List.length_drop, List.length_take]; rfl)) ?_; (with_reducible refine (impl_Node_60.calls _ _ y259 gb251 (rd_T73 l0 x7_1) _ ?side1 ?side2 ?side3 false A22.out).mono ?_); (case side3 => (with_reducible repeat (first | refine blk_drewN ?_ _ | refine blk_drew ?_ | refine blk_alloc ?_ _)); exact BK251.out); (case side1 => repeat (first | exact (Kd.C_below HR262.out HB.out) | (with_reducible refine Kd.C_alloc ?_ _) | (with_reducible refine Kd.C_drewN ?_ _) | (with_reducible refine Kd.C_drew ?_))); (case side2 => exact HC262.out); rintro e w29 ⟨rfl, hb⟩; refine ⟨_, rfl, ?_⟩; have n0_ := Aside0.mk (blk_below (g := gb251) (o := .cells #[.string ((rd_T73 l0 x7_1).f0), .int .i64 ((rd_T73 l0 x7_1).f1), .int .i64 ((rd_T73 l0 x7_1).f2), .int .i64 ((rd_T73 l0 x7_1).f3), .int .i64 ((rd_T73 l0 x7_1).f4), .bool ((rd_T73 l0 x7_1).f5)] 73 (0, 0)) bkw hb); have n1_ := Aside0.mk (below_step blw hb); clear BK251; clear HB; have BK251 := n0_; have HB := n1_; clear n0_ n1_; (try clear hb); (try clear hb2); (try clear hk); (try clear hi)))
            go_roundg kj4
            case measure => have := HK1.out; have := HJ4.out; omega
            case rel => exact ⟨(wrap64 (x7_1 + 1)), (by first | rfl | (simp; done) | (simp [*]; done)), H', ⟨by have := HK1.out; have := HJ4.out; omega⟩, ⟨blw⟩⟩
          ·rw [if_neg c21] at H
           exact absurd H (by simp)
         ·rw [if_neg c20] at H
          exact absurd H (by simp)
     ·rw [if_neg c4] at H
      exact absurd H (by simp)
    ·rw [if_neg c3] at H
     exact absurd H (by simp)
   ·rw [if_neg c2] at H
    have c2b0 : decide (x7_1 < (l0.length : Int)) = false := decide_eq_false c2
    clear c2
    obtain rfl := Option.some.inj H
    go_wp2
    go_ret
    exact ⟨by first | rfl | (simp [errW_none, errW_some] <;> rfl) | (simp [*, errW_none, errW_some] <;> rfl), blw⟩

/-! ### impl_isNode: function 64 -/
def impl_isNode.f (k : Nat) (l0 : List (S73)) (a1 : Int) : Option (Bool) := (impl_GoodScene.f k l0).bind fun t264 => (if t264 = true then ((impl_inRange.f a1 0 (wrap64 ((l0.length : Int) - 1))).bind fun t265 => (some t265)) else (some false))
theorem impl_isNode.mono : ∀ a0 a1 k, LeO (impl_isNode.f k a0 a1) (impl_isNode.f (k + 1) a0 a1) := by
 intro a0 a1 k
 unfold impl_isNode.f
 repeat' first
   | (with_reducible exact impl_GoodScene.mono _ _)
   | (with_reducible exact LeO.refl _)
   | (with_reducible exact LeO.none _)
   | (with_reducible refine LeO.ite ?_ ?_)
   | (with_reducible refine LeO.bind ?_ (fun _ => ?_))
   | exact impl_GoodScene.mono _ _
   | exact LeO.none _
   | refine LeO.ite ?_ ?_
   | refine LeO.bind ?_ (fun _ => ?_)
set_option maxHeartbeats 8000000 in
set_option maxRecDepth 100000 in
theorem impl_isNode.calls (k : Nat) (A0 : Option Addr) (c0 : Nat) (l0 : List (S73)) (a1 : Int) (r : Bool) (w : World) (hr0 : Kd.C k73 w A0 l0.length l0) (hc0 : l0.length ≤ c0) (h : impl_isNode.f k l0 a1 = some r) :
  Calls Try.prog 64 #[.slice A0 l0.length c0, .int .i64 a1] w fun e w' => e = .returned (.bool r) ∧ Below w.heap.size w w' := by
 have HR0 := Aside0.mk hr0
 have HC0 := Aside0.mk hc0
 clear hr0 hc0
 have HB := Aside0.mk (Below.refl w.heap.size w)
 have H : ((impl_GoodScene.f k l0).bind fun t264 => (if t264 = true then ((impl_inRange.f a1 0 (wrap64 ((l0.length : Int) - 1))).bind fun t265 => (some t265)) else (some false))) = some r := h
 clear h
 replace H := Option.bind_eq_some_iff.mp H
 obtain ⟨t264, A30, H⟩ := H
 replace H : (if t264 = true then ((impl_inRange.f a1 0 (wrap64 ((l0.length : Int) - 1))).bind fun t265 => (some t265)) else (some false)) = some r := H
 have A3 := Aside0.mk A30
 clear A30
 by_cases c4 : t264 = true
 ·subst c4
  have H1 : ((impl_inRange.f a1 0 (wrap64 ((l0.length : Int) - 1))).bind fun t265 => (some t265)) = some r := by rw [if_pos rfl] at H; exact H
  clear H
  have H := H1
  clear H1
  replace H := Option.bind_eq_some_iff.mp H
  obtain ⟨t265, A50, H⟩ := H
  replace H : (some t265) = some r := H
  have A5 := Aside0.mk A50
  clear A50
  obtain rfl := Option.some.inj H
  go_enter Try.func64, Try.ntmps64
  go_wp2_with (first | ((with_reducible refine gate_callee (f := 20) rfl ?_); refine goesL_ (some 6) rfl rfl Try.func20 (by kernel_rfl) rfl #[.slice A0 l0.length c0] rfl (by (try simp only [List.map_toArray, List.map_cons, List.map_nil]); first | done | rfl | (simp only [List.length_drop, List.length_take]; rfl)) ?_; (with_reducible refine (impl_GoodScene.calls k _ _ l0 true _ ?side1 ?side2 A3.out).mono ?_); (case side1 => repeat (first | exact HR0.out | (with_reducible refine Kd.C_alloc ?_ _) | (with_reducible refine Kd.C_drewN ?_ _) | (with_reducible refine Kd.C_drew ?_))); (case side2 => exact HC0.out); rintro e w6 ⟨rfl, hb⟩; refine ⟨_, rfl, ?_⟩; have n0_ := Aside0.mk (below_step blw hb); clear HB; have HB := n0_; clear n0_; (try clear hb); (try clear hb2); (try clear hk); (try clear hi)) | (go_at_call 58; (with_reducible refine (impl_inRange.calls a1 0 (wrap64 ((l0.length : Int) - 1)) t265 _ A5.out).mono ?_); rintro e w' ⟨rfl, ⟨nd, rfl⟩⟩))
  go_ret
  exact ⟨by first | rfl | (simp [errW_none, errW_some] <;> rfl) | (simp [*, errW_none, errW_some] <;> rfl), blw⟩
 ·replace c4 := Bool.eq_false_iff.mpr c4
  subst c4
  have H1 : (some false) = some r := by rw [if_neg (show ¬ (false = true) by decide)] at H; exact H
  clear H
  have H := H1
  clear H1
  obtain rfl := Option.some.inj H
  go_enter Try.func64, Try.ntmps64
  go_wp2_with (first | ((with_reducible refine gate_callee (f := 20) rfl ?_); refine goesL_ (some 6) rfl rfl Try.func20 (by kernel_rfl) rfl #[.slice A0 l0.length c0] rfl (by (try simp only [List.map_toArray, List.map_cons, List.map_nil]); first | done | rfl | (simp only [List.length_drop, List.length_take]; rfl)) ?_; (with_reducible refine (impl_GoodScene.calls k _ _ l0 false _ ?side1 ?side2 A3.out).mono ?_); (case side1 => repeat (first | exact HR0.out | (with_reducible refine Kd.C_alloc ?_ _) | (with_reducible refine Kd.C_drewN ?_ _) | (with_reducible refine Kd.C_drew ?_))); (case side2 => exact HC0.out); rintro e w7 ⟨rfl, hb⟩; refine ⟨_, rfl, ?_⟩; have n0_ := Aside0.mk (below_step blw hb); clear HB; have HB := n0_; clear n0_; (try clear hb); (try clear hb2); (try clear hk); (try clear hi)))
  go_ret
  exact ⟨by first | rfl | (simp [errW_none, errW_some] <;> rfl) | (simp [*, errW_none, errW_some] <;> rfl), blw⟩

end Go.Proofs.Ytmabgkhkokckgaa.PFnExactHang
