/- The machine's side of a law, function by function: a Lean function with the Go function's answers and the proof that the Go code comes to them. No condition. Written by this session's program over the kit's print, this session's own contracts set in. -/
import Derived.Test.YtiaajmnmbjheoaaPFnExactKindsOfx0
namespace Go.Proofs.Ytiaajmnmbjheoaa.PFnExactKindsOf
open Go.RowKit Go.Proofs.YtiaajmnmbjheoaaW.PrintWords Go.Proofs.YtiaajmnmbjheoaaW.PrintLast Go.Proofs.YtiaajmnmbjheoaaW.PrintMore
attribute [local go_sem] max2_int min2_int max_two min_two max_three min_three max_four min_four   -- for this text's walks alone
set_option linter.unusedVariables false
set_option linter.unusedSimpArgs false

/-! ### slices_Equal_string_string: function 44 -/
def slices_Equal_string_string.l0 : Nat → List ByteArray → List ByteArray → Int → Int → Option (Bool)
 | 0, _, _, _, _ => none
 | k + 1, x0, x1, x12, x13 => if x13 < x12 then (if 0 ≤ x13 then (if x13 < (x0.length : Int) then (if x13 < (x1.length : Int) then (if (rdOf ByteArray.empty x0 x13).toList = (rdOf ByteArray.empty x1 x13).toList then (slices_Equal_string_string.l0 k x0 x1 x12 (wrap64 (x13 + 1))) else (some false)) else (none)) else (none)) else (none)) else (some true)
def slices_Equal_string_string.f (k : Nat) (l0 : List ByteArray) (l1 : List ByteArray) : Option (Bool) := if (l0.length : Int) = (l1.length : Int) then (slices_Equal_string_string.l0 k l0 l1 (l0.length : Int) 0) else (some false)
theorem slices_Equal_string_string.mono_l : ∀ k, (∀ y0 y1 y2 y3, LeO (slices_Equal_string_string.l0 k y0 y1 y2 y3) (slices_Equal_string_string.l0 (k + 1) y0 y1 y2 y3))
 | 0 => fun _ _ _ _ r h => by simp [slices_Equal_string_string.l0] at h
 | k + 1 => by
  have ih0 := slices_Equal_string_string.mono_l k
  ·intro y0 y1 y2 y3
   unfold slices_Equal_string_string.l0
   repeat' first
   | (with_reducible exact ih0 _ _ _ _)
   | (with_reducible exact LeO.refl _)
   | (with_reducible exact LeO.none _)
   | (with_reducible refine LeO.ite ?_ ?_)
   | (with_reducible refine LeO.bind ?_ (fun _ => ?_))
   | exact ih0 _ _ _ _
   | exact LeO.none _
   | refine LeO.ite ?_ ?_
   | refine LeO.bind ?_ (fun _ => ?_)
theorem slices_Equal_string_string.mono : ∀ a0 a1 k, LeO (slices_Equal_string_string.f k a0 a1) (slices_Equal_string_string.f (k + 1) a0 a1) := by
 intro a0 a1 k
 have ih0 := slices_Equal_string_string.mono_l k
 unfold slices_Equal_string_string.f
 repeat' first
   | (with_reducible exact ih0 _ _ _ _)
   | (with_reducible exact LeO.refl _)
   | (with_reducible exact LeO.none _)
   | (with_reducible refine LeO.ite ?_ ?_)
   | (with_reducible refine LeO.bind ?_ (fun _ => ?_))
   | exact ih0 _ _ _ _
   | exact LeO.none _
   | refine LeO.ite ?_ ?_
   | refine LeO.bind ?_ (fun _ => ?_)
set_option maxHeartbeats 8000000 in
set_option maxRecDepth 100000 in
theorem slices_Equal_string_string.calls (k : Nat) (A0 : Option Addr) (c0 : Nat) (l0 : List ByteArray) (A1 : Option Addr) (c1 : Nat) (l1 : List ByteArray) (r : Bool) (w : World) (hr0 : Kd.C Kd.string w A0 l0.length l0) (hc0 : l0.length ≤ c0) (hr1 : Kd.C Kd.string w A1 l1.length l1) (hc1 : l1.length ≤ c1) (h : slices_Equal_string_string.f k l0 l1 = some r) :
  Calls Try.prog 44 #[.slice A0 l0.length c0, .slice A1 l1.length c1] w fun e w' => e = .returned (.bool r) ∧ Drawn0 w w' := by
 have HR0 := Aside0.mk hr0
 have HC0 := Aside0.mk hc0
 clear hr0 hc0
 have HR1 := Aside0.mk hr1
 have HC1 := Aside0.mk hc1
 clear hr1 hc1
 have H : (if (l0.length : Int) = (l1.length : Int) then (slices_Equal_string_string.l0 k l0 l1 (l0.length : Int) 0) else (some false)) = some r := h
 clear h
 by_cases c3 : (l0.length : Int) = (l1.length : Int)
 ·rw [if_pos c3] at H
  have c3b0 : ((l0.length : Int) == (l1.length : Int)) = true := beq_iff_eq.mpr c3
  have c3b1 : ((l0.length : Int) != (l1.length : Int)) = false := bne_eq_false_iff_eq.mpr c3
  have c3b2 : (l0.length == l1.length) = true := by first | simpa using c3 | (simp at c3 ⊢; omega)
  clear c3
  have H' := Aside0.mk H
  clear H
  go_enter Try.func44, Try.ntmps44
  go_wp2
  repeat (go_quiet (fail); try go_wp2)
  go_loopg [13] k (fun kq v13 w' => ∃ (x13_1 : Int), v13 = .int .i64 x13_1 ∧ Aside0 (slices_Equal_string_string.l0 kq l0 l1 (l0.length : Int) x13_1 = some r) ∧ Aside0 (kq ≤ k) ∧ Drawn0 w w')
  case atStart => exact ⟨(0), (by first | rfl | (simp; done) | (simp [*]; done)), H', ⟨Nat.le_refl _⟩, by repeat (first | exact Drawn0.refl _ | apply Drawn0.step)⟩
  case round =>
   clear H'
   try clear c1
   try clear p2
   try clear c3
   try clear c3b0
   try clear c3b1
   try clear c3b2
   obtain ⟨x13_1, rfl, HA, HK1, ⟨m1, rfl⟩⟩ := hrel
   cases gk with
   | zero => exact absurd HA.out (by simp [slices_Equal_string_string.l0])
   | succ k1 =>
    have H := HA.out
    clear HA
    simp only [slices_Equal_string_string.l0] at H
    by_cases c4 : x13_1 < (l0.length : Int)
    ·rw [if_pos c4] at H
     have c4b0 : decide (x13_1 < (l0.length : Int)) = true := decide_eq_true c4
     clear c4
     by_cases c5 : 0 ≤ x13_1
     ·rw [if_pos c5] at H
      have c5b0 : decide (0 ≤ x13_1) = true := decide_eq_true c5
      clear c5
      by_cases c6 : x13_1 < (l0.length : Int)
      ·rw [if_pos c6] at H
       have c6b0 : decide (x13_1 < (l0.length : Int)) = true := decide_eq_true c6
       clear c6
       by_cases c7 : x13_1 < (l1.length : Int)
       ·rw [if_pos c7] at H
        have c7b0 : decide (x13_1 < (l1.length : Int)) = true := decide_eq_true c7
        clear c7
        by_cases c8 : (rdOf ByteArray.empty l0 x13_1).toList = (rdOf ByteArray.empty l1 x13_1).toList
        ·rw [if_pos c8] at H
         have c8b0 : ((rdOf ByteArray.empty l0 x13_1).toList == (rdOf ByteArray.empty l1 x13_1).toList) = true := beq_iff_eq.mpr c8
         have c8b1 : ((rdOf ByteArray.empty l0 x13_1).toList != (rdOf ByteArray.empty l1 x13_1).toList) = false := bne_eq_false_iff_eq.mpr c8
         clear c8
         have H' := Aside0.mk H
         clear H
         have p225 : 0 ≤ (x13_1 : Int) := odt
         have q225 : x13_1 < (l0.length : Int) := odt
         obtain ⟨ad225, e225, hx225_0⟩ := Kd.at_string HR0.out x13_1 p225 q225
         cases e225
         replace p225 := eq_true p225
         replace q225 := eq_true q225
         have p226 : 0 ≤ (x13_1 : Int) := odt
         have q226 : x13_1 < (l1.length : Int) := odt
         obtain ⟨ad226, e226, hx226_0⟩ := Kd.at_string HR1.out x13_1 p226 q226
         cases e226
         replace p226 := eq_true p226
         replace q226 := eq_true q226
         go_wp2
         repeat (go_quiet (fail); try go_wp2)
         go_roundg k1
         case measure => have := HK1.out; omega
         case rel => exact ⟨(wrap64 (x13_1 + 1)), (by first | rfl | (simp; done) | (simp [*]; done)), H', ⟨by have := HK1.out; omega⟩, by repeat (first | exact Drawn0.refl _ | apply Drawn0.step)⟩
        ·rw [if_neg c8] at H
         have c8b0 : ((rdOf ByteArray.empty l0 x13_1).toList == (rdOf ByteArray.empty l1 x13_1).toList) = false := beq_eq_false_iff_ne.mpr c8
         have c8b1 : ((rdOf ByteArray.empty l0 x13_1).toList != (rdOf ByteArray.empty l1 x13_1).toList) = true := bne_iff_ne.mpr c8
         obtain rfl := Option.some.inj H
         have p225 : 0 ≤ (x13_1 : Int) := odt
         have q225 : x13_1 < (l0.length : Int) := odt
         obtain ⟨ad225, e225, hx225_0⟩ := Kd.at_string HR0.out x13_1 p225 q225
         cases e225
         replace p225 := eq_true p225
         replace q225 := eq_true q225
         have p226 : 0 ≤ (x13_1 : Int) := odt
         have q226 : x13_1 < (l1.length : Int) := odt
         obtain ⟨ad226, e226, hx226_0⟩ := Kd.at_string HR1.out x13_1 p226 q226
         cases e226
         replace p226 := eq_true p226
         replace q226 := eq_true q226
         go_wp2
         repeat (go_quiet (fail); try go_wp2)
         go_ret
         exact ⟨by first | rfl | (simp; done) | (simp [*]; done), by repeat (first | exact Drawn0.refl _ | apply Drawn0.step)⟩
       ·rw [if_neg c7] at H
        exact absurd H (by simp)
      ·rw [if_neg c6] at H
       exact absurd H (by simp)
     ·rw [if_neg c5] at H
      exact absurd H (by simp)
    ·rw [if_neg c4] at H
     have c4b0 : decide (x13_1 < (l0.length : Int)) = false := decide_eq_false c4
     clear c4
     obtain rfl := Option.some.inj H
     go_wp2
     repeat (go_quiet (fail); try go_wp2)
     go_ret
     exact ⟨by first | rfl | (simp; done) | (simp [*]; done), by repeat (first | exact Drawn0.refl _ | apply Drawn0.step)⟩
 ·rw [if_neg c3] at H
  have c3b0 : ((l0.length : Int) == (l1.length : Int)) = false := beq_eq_false_iff_ne.mpr c3
  have c3b1 : ((l0.length : Int) != (l1.length : Int)) = true := bne_iff_ne.mpr c3
  have c3b2 : (l0.length == l1.length) = false := by first | simpa using c3 | (simp at c3 ⊢; omega)
  obtain rfl := Option.some.inj H
  go_enter Try.func44, Try.ntmps44
  go_wp2
  repeat (go_quiet (fail); try go_wp2)
  go_ret
  exact ⟨by first | rfl | (simp; done) | (simp [*]; done), by repeat (first | exact Drawn0.refl _ | apply Drawn0.step)⟩


/-! ### impl_Kind_42: function 42 -/
def impl_Kind_42.f (k : Nat) (l0 : List S76) (l1 : List ByteArray) : Option Int := (anyO (fun x => slices_Equal_string_string.f k x.f0 l1) l0).bind fun _ => some (idxO (fun x => (slices_Equal_string_string.f k x.f0 l1).getD false) l0)
theorem impl_Kind_42.idx_congr {α : Type} {p q : α → Bool} : ∀ {l : List α}, (∀ x ∈ l, p x = q x) → idxO p l = idxO q l := by
 intro l h
 have h1 : l.any p = l.any q := by
  rw [Bool.eq_iff_iff, List.any_eq_true, List.any_eq_true]
  exact ⟨fun ⟨x, hx, hp⟩ => ⟨x, hx, by rw [← h x hx]; exact hp⟩, fun ⟨x, hx, hp⟩ => ⟨x, hx, by rw [h x hx]; exact hp⟩⟩
 have h2 : l.findIdx p = l.findIdx q := by
  clear h1
  induction l with
  | nil => rfl
  | cons a t ih => rw [List.findIdx_cons, List.findIdx_cons, h a (by simp), ih (fun x hx => h x (by simp [hx]))]
 unfold idxO
 rw [h1, h2]
theorem impl_Kind_42.mono : ∀ a0 a1 k, LeO (impl_Kind_42.f k a0 a1) (impl_Kind_42.f (k + 1) a0 a1) := fun a0 a1 k => by
 unfold impl_Kind_42.f
 intro r h
 obtain ⟨b, hb, h⟩ := Option.bind_eq_some_iff.1 h
 obtain rfl := Option.some.inj h
 have hb2 := anyO_le (fun x : S76 => slices_Equal_string_string.mono x.f0 a1 k) _ hb
 rw [hb2]
 obtain ⟨p, hp, -⟩ := anyO_open hb
 show some _ = some _
 congr 1
 exact impl_Kind_42.idx_congr fun x hx => by rw [hp x hx, slices_Equal_string_string.mono x.f0 a1 k _ (hp x hx)]
set_option maxHeartbeats 8000000 in
set_option maxRecDepth 100000 in
theorem impl_Kind_42.clo (k : Nat) (gb : Nat) (A1 : Option Addr) (c1 : Nat) (l1 : List ByteArray) (Ax : Option Addr) (cx : Nat) (lx : List ByteArray) (Ay : Option Addr) (cy : Nat) (ly : List Int) (b : Bool) (w : World) (hbx : w.heap[gb]? = some (.cells #[.slice A1 l1.length c1] 70 (0, 0))) (hr1 : Kd.C Kd.string w A1 l1.length l1) (hc1 : l1.length ≤ c1) (hrx : Kd.C Kd.string w Ax lx.length lx) (hcx : lx.length ≤ cx) (h : slices_Equal_string_string.f k lx l1 = some b) :
  Calls Try.prog 43 #[.agg #[.slice Ax lx.length cx, .slice Ay ly.length cy], .pointer (some ⟨gb, 0, none⟩)] w fun e w' => e = .returned (.bool b) ∧ Below w.heap.size w w' := by
 have hu := Try.underlying76
 have HB := Aside0.mk (Below.refl w.heap.size w)
 have BX := Aside0.mk hbx
 have H := Aside0.mk h
 have R1 := Aside0.mk hr1
 have RX := Aside0.mk hrx
 clear h hbx hr1 hrx
 go_enter Try.func43, Try.ntmps43
 go_wp2_with (first | ((with_reducible refine gate_dst (N := 2) rfl ?_); refine box_event ?hg (N := 2) ?hd (cs := #[.slice Ax lx.length cx, .slice Ay ly.length cy]) (t := 76) ?hr ?_; (case hd => rfl); (case hg => rfl); (case hr => first | (go_simp; done) | (go_simp; rfl)); intro gb2 hg w2 hbox hb; have n0_ := Aside0.mk (below_step blw hb); have n1_ := Aside0.mk hbox; have n2_ := Aside0.mk (blk_below (by (with_reducible repeat (first | refine blk_drewN ?_ _ | refine blk_drew ?_ | refine blk_alloc ?_ _)); exact BX.out) hb); have n3_ := Aside0.mk (Kd.C_below R1.out hb); have n4_ := Aside0.mk (Kd.C_below RX.out hb); clear HB; clear BX; clear R1; clear RX; have HB := n0_; have BK := n1_; have BX := n2_; have R1 := n3_; have RX := n4_; clear n0_ n1_ n2_ n3_ n4_; clear hb hbox hg; have hcz0 : w2.cell? ⟨gb2, 0, none⟩ = some (.slice Ax lx.length cx) := (blk_cell BK.out 0).trans rfl; have hfz0 := blk_frozen BK.out 0; have hcz1 : w2.cell? ⟨gb, 0, none⟩ = some (.slice A1 l1.length c1) := (blk_cell BX.out 0).trans rfl; have hfz1 := blk_frozen BX.out 0) | (go_at_call 44; (with_reducible refine (slices_Equal_string_string.calls k Ax cx lx A1 c1 l1 b _ ?s1 hcx ?s2 hc1 H.out).mono ?_); (case s1 => repeat (first | exact RX.out | (with_reducible refine Kd.C_drewN ?_ _) | (with_reducible refine Kd.C_drew ?_))); (case s2 => repeat (first | exact R1.out | (with_reducible refine Kd.C_drewN ?_ _) | (with_reducible refine Kd.C_drew ?_))); rintro e w' ⟨rfl, ⟨nd, rfl⟩⟩))
 go_ret
 exact ⟨rfl, blw⟩
set_option maxHeartbeats 8000000 in
set_option maxRecDepth 100000 in
theorem impl_Kind_42.index (k : Nat) (p : S76 → Bool) (A0 : Option Addr) (c0 : Nat) (l0 : List S76) (gb : Nat) (A1 : Option Addr) (c1 : Nat) (l1 : List ByteArray) (w : World) (hr0 : Kd.C k76 w A0 l0.length l0) (hc0 : l0.length ≤ c0) (hbx : w.heap[gb]? = some (.cells #[.slice A1 l1.length c1] 70 (0, 0))) (hr1 : Kd.C Kd.string w A1 l1.length l1) (hc1 : l1.length ≤ c1) (hp : ∀ x ∈ l0, slices_Equal_string_string.f k x.f0 l1 = some (p x)) :
  Calls Try.prog 42 #[.slice A0 l0.length c0, .func (.func 43) #[] #[.pointer (some ⟨gb, 0, none⟩)]] w fun e w' => e = .returned (.int .i64 (idxO p l0)) ∧ Below w.heap.size w w' := by
 have hn : l0.length ≤ 9223372036854775807 := hr0.2.1
 have eg := Go.Proofs.enters_of Try.func43 (by kernel_rfl) rfl
 have HR0 := Aside0.mk hr0
 have HP := Aside0.mk hp
 have HX := Aside0.mk hbx
 have R1 := Aside0.mk hr1
 clear hr0 hp hbx hr1
 go_enter Try.func42, Try.ntmps42
 go_wp2
 go_loopg [5, 8] l0.length (fun gg _ s8 wr => ∃ kk : Nat, kk ≤ l0.length ∧ l0.length - kk ≤ gg ∧ s8 = .int .i64 (kk : Int) ∧ Aside0 (Below w.heap.size w wr) ∧ Aside0 (∀ j (hj : j < l0.length), j < kk → p (l0[j]'hj) = false))
 case atStart => exact ⟨0, Nat.zero_le _, by omega, rfl, ⟨Below.refl _ w⟩, ⟨fun j hj h => absurd h (Nat.not_lt_zero _)⟩⟩
 case round =>
  obtain ⟨kk, hkk, hg, rfl, HB, HN⟩ := hrel
  have BX := Aside0.mk (blk_below HX.out HB.out)
  by_cases hlt : kk < l0.length
  ·have hltz : (kk : Int) < (l0.length : Int) := by omega
   have p1 : 0 ≤ (kk : Int) := by omega
   obtain ⟨ad1, Ax, cx, Ay, cy, e1, hx0, hx1, hlx, hix, hly, hiy⟩ := at_T76 HR0.out (kk : Int) p1 hltz
   have hy : rd_T76 l0 (kk : Int) = l0[kk]'hlt := by simp [rd_T76, hlt]
   cases e1
   rw [hy] at hx0 hx1 hlx hix hly hiy; clear hy
   replace hx0 := (HB.out.cell (World.block_lt_of_cell? w _ hx0)).trans hx0
   replace hx1 := (HB.out.cell (World.block_lt_of_cell? w _ hx1)).trans hx1
   simp only [Int.toNat_natCast] at hx0 hx1
   have HC := Aside0.mk (HP.out _ (List.getElem_mem hlt))
   have HQ : Aside0 (∀ y, l0[kk]'hlt = y → p y = p (l0[kk]'hlt)) := ⟨fun y h => by rw [h]⟩
   generalize hy : l0[kk]'hlt = y at hx0 hx1 hlx hix hly hiy HC
   have HE := Aside0.mk hy; clear hy
   have RX := Aside0.mk hix
   have RY := Aside0.mk hiy
   clear hix hiy
   replace p1 := eq_true p1
   by_cases hq : p y = true
   ·have HQ1 := Aside0.mk hq; clear hq
    have HC2 : Aside0 (slices_Equal_string_string.f k y.f0 l1 = some true) := ⟨Eq.trans (b := some (p y)) HC.out (by rw [HQ1.out])⟩
    clear HC
    go_wp2_with fail
    refine (impl_Kind_42.clo k gb A1 c1 l1 Ax cx y.f0 Ay cy y.f1 true _ (by (with_reducible repeat (first | refine blk_drewN ?_ _ | refine blk_drew ?_ | refine blk_alloc ?_ _)); exact BX.out) (by repeat (first | exact (Kd.C_below R1.out HB.out) | (with_reducible refine Kd.C_drewN ?_ _) | (with_reducible refine Kd.C_drew ?_))) hc1 (by repeat (first | exact (Kd.C_below RX.out HB.out) | (with_reducible refine Kd.C_drewN ?_ _) | (with_reducible refine Kd.C_drew ?_))) hlx HC2.out).mono ?_
    rintro e w8 ⟨rfl, hb⟩; have n0_ := Aside0.mk (below_step blw hb); clear HB; have HB := n0_; clear n0_ hb
    go_wp2
    go_ret
    refine ⟨?_, blw⟩
    rw [idxO_hit hlt (by rw [HE.out]; exact HQ1.out) (fun j hj => HN.out j (by omega) hj)]
    rfl
   ·have HQ1 := Aside0.mk (Bool.eq_false_iff.mpr hq); clear hq
    have HC2 : Aside0 (slices_Equal_string_string.f k y.f0 l1 = some false) := ⟨Eq.trans (b := some (p y)) HC.out (by rw [HQ1.out])⟩
    clear HC
    go_wp2_with fail
    refine (impl_Kind_42.clo k gb A1 c1 l1 Ax cx y.f0 Ay cy y.f1 false _ (by (with_reducible repeat (first | refine blk_drewN ?_ _ | refine blk_drew ?_ | refine blk_alloc ?_ _)); exact BX.out) (by repeat (first | exact (Kd.C_below R1.out HB.out) | (with_reducible refine Kd.C_drewN ?_ _) | (with_reducible refine Kd.C_drew ?_))) hc1 (by repeat (first | exact (Kd.C_below RX.out HB.out) | (with_reducible refine Kd.C_drewN ?_ _) | (with_reducible refine Kd.C_drew ?_))) hlx HC2.out).mono ?_
    rintro e w8 ⟨rfl, hb⟩; have n0_ := Aside0.mk (below_step blw hb); clear HB; have HB := n0_; clear n0_ hb
    go_wp2
    go_roundg (l0.length - (kk + 1))
    case measure => omega
    case rel =>
     refine ⟨kk + 1, by omega, by omega, by go_num, ⟨blw⟩, ⟨fun j hj h => ?_⟩⟩
     by_cases e : j = kk
     ·subst e; rw [HE.out]; exact HQ1.out
     ·exact HN.out j hj (by omega)
  ·have hltz : ¬ (kk : Int) < (l0.length : Int) := by omega
   have hke : kk = l0.length := by omega
   have HM := Aside0.mk (idxO_miss (p := p) (fun j hj => HN.out j hj (by omega)))
   clear hke HN
   go_wp2
   go_ret
   exact ⟨by rw [HM.out]; rfl, HB.out⟩
theorem impl_Kind_42.real (k : Nat) (A0 : Option Addr) (c0 : Nat) (l0 : List S76) (gb : Nat) (A1 : Option Addr) (c1 : Nat) (l1 : List ByteArray) (r : Int) (w : World) (hr0 : Kd.C k76 w A0 l0.length l0) (hc0 : l0.length ≤ c0) (hbx : w.heap[gb]? = some (.cells #[.slice A1 l1.length c1] 70 (0, 0))) (hr1 : Kd.C Kd.string w A1 l1.length l1) (hc1 : l1.length ≤ c1) (h : impl_Kind_42.f k l0 l1 = some r) :
  Calls Try.prog 42 #[.slice A0 l0.length c0, .func (.func 43) #[] #[.pointer (some ⟨gb, 0, none⟩)]] w fun e w' => e = .returned (.int .i64 r) ∧ Below w.heap.size w w' := by
 unfold impl_Kind_42.f at h
 obtain ⟨b, hb, h⟩ := Option.bind_eq_some_iff.1 h
 obtain rfl := Option.some.inj h
 obtain ⟨p, hp, rfl⟩ := anyO_open hb
 have e : idxO (fun x => (slices_Equal_string_string.f k x.f0 l1).getD false) l0 = idxO p l0 := impl_Kind_42.idx_congr (fun x hx => by rw [hp x hx]; rfl)
 rw [e]
 exact impl_Kind_42.index k p A0 c0 l0 gb A1 c1 l1 w hr0 hc0 hbx hr1 hc1 hp

/-! ### cmp_isNaN_string: function 125 -/
def cmp_isNaN_string.f (a0 : ByteArray) : Option (Bool) := some (a0.toList != a0.toList)
set_option maxHeartbeats 8000000 in
set_option maxRecDepth 100000 in
theorem cmp_isNaN_string.calls (a0 : ByteArray) (r : Bool) (w : World) (h : cmp_isNaN_string.f a0 = some r) :
  Calls Try.prog 125 #[.string a0] w fun e w' => e = .returned (.bool r) ∧ Drawn0 w w' := by
 have H : (some (a0.toList != a0.toList)) = some r := h
 clear h
 obtain rfl := Option.some.inj H
 go_enter Try.func125, Try.ntmps125
 go_wp2
 go_ret
 exact ⟨by first | rfl | (simp; done) | (simp [*]; done), by repeat (first | exact Drawn0.refl _ | apply Drawn0.step)⟩


/-! ### cmp_Compare_string: function 92 -/
def cmp_Compare_string.f (a0 : ByteArray) (a1 : ByteArray) : Option (Int) := some (Kinds.cmpB a0 a1)
set_option maxHeartbeats 8000000 in
set_option maxRecDepth 100000 in
theorem cmp_Compare_string.calls (a0 : ByteArray) (a1 : ByteArray) (r : Int) (w : World) (h : cmp_Compare_string.f a0 a1 = some r) :
  Calls Try.prog 92 #[.string a0, .string a1] w fun e w' => e = .returned (.int .i64 r) ∧ Drawn0 w w' := by
 unfold cmp_Compare_string.f at h
 obtain rfl := Option.some.inj h
 clear h
 have n0 : cmp_isNaN_string.f a0 = some false := by unfold cmp_isNaN_string.f; rw [bne_self_eq_false]
 have n1 : cmp_isNaN_string.f a1 = some false := by unfold cmp_isNaN_string.f; rw [bne_self_eq_false]
 have N0 := Aside0.mk n0
 have N1 := Aside0.mk n1
 clear n0 n1
 by_cases h1 : Op.bytesLess a0.toList a1.toList = true
 ·have e : Kinds.cmpB a0 a1 = -1 := by unfold Kinds.cmpB; rw [if_pos h1]
  rw [e]; clear e
  go_enter Try.func92, Try.ntmps92
  go_wp2_with (first | (go_at_call 125; (with_reducible refine (cmp_isNaN_string.calls a0 false _ N0.out).mono ?_); rintro e w' ⟨rfl, ⟨nd, rfl⟩⟩) | (go_at_call 125; (with_reducible refine (cmp_isNaN_string.calls a1 false _ N1.out).mono ?_); rintro e w' ⟨rfl, ⟨nd, rfl⟩⟩))
  go_ret
  exact ⟨rfl, _, rfl⟩
 ·have h1' : Op.bytesLess a0.toList a1.toList = false := Bool.eq_false_iff.2 h1
  by_cases h2 : Op.bytesLess a1.toList a0.toList = true
  ·have e : Kinds.cmpB a0 a1 = 1 := by unfold Kinds.cmpB; rw [if_neg h1, if_pos h2]
   have h3 : (a0.toList == a1.toList) = false := by
    rw [beq_eq_false_iff_ne]
    intro h4
    rw [h4] at h1; rw [h4] at h2
    exact h1 h2
   rw [e]; clear e h1
   go_enter Try.func92, Try.ntmps92
   go_wp2_with (first | (go_at_call 125; (with_reducible refine (cmp_isNaN_string.calls a0 false _ N0.out).mono ?_); rintro e w' ⟨rfl, ⟨nd, rfl⟩⟩) | (go_at_call 125; (with_reducible refine (cmp_isNaN_string.calls a1 false _ N1.out).mono ?_); rintro e w' ⟨rfl, ⟨nd, rfl⟩⟩))
   go_ret
   exact ⟨rfl, _, rfl⟩
  ·have h2' : Op.bytesLess a1.toList a0.toList = false := Bool.eq_false_iff.2 h2
   have e : Kinds.cmpB a0 a1 = 0 := by unfold Kinds.cmpB; rw [if_neg h1, if_neg h2]
   have h3 : (a0.toList == a1.toList) = true := by
    have := (Kinds.cmpB_eq a0 a1).1 e
    rw [this]; exact beq_self_eq_true _
   rw [e]; clear e h1 h2
   go_enter Try.func92, Try.ntmps92
   go_wp2_with (first | (go_at_call 125; (with_reducible refine (cmp_isNaN_string.calls a0 false _ N0.out).mono ?_); rintro e w' ⟨rfl, ⟨nd, rfl⟩⟩) | (go_at_call 125; (with_reducible refine (cmp_isNaN_string.calls a1 false _ N1.out).mono ?_); rintro e w' ⟨rfl, ⟨nd, rfl⟩⟩))
   go_ret
   exact ⟨rfl, _, rfl⟩

/-! ### slices_Compare_string_string: function 47 -/
def slices_Compare_string_string.l0 : Nat → List ByteArray → List ByteArray → List ByteArray → Int → Int → Option (Int)
 | 0, _, _, _, _, _ => none
 | k + 1, x0, x1, x9, x10, x11 => if x11 < x10 then (if 0 ≤ x11 then (if x11 < (x9.length : Int) then (if x11 ≥ (x1.length : Int) then (some 1) else (if x11 < (x1.length : Int) then ((cmp_Compare_string.f (rdOf ByteArray.empty x9 x11) (rdOf ByteArray.empty x1 x11)).bind fun t229 => (if t229 = 0 then (slices_Compare_string_string.l0 k x0 x1 x9 x10 (wrap64 (x11 + 1))) else (some t229))) else (none))) else (none)) else (none)) else (if (x0.length : Int) < (x1.length : Int) then (some (-1)) else (some 0))
def slices_Compare_string_string.f (k : Nat) (l0 : List ByteArray) (l1 : List ByteArray) : Option (Int) := slices_Compare_string_string.l0 k l0 l1 l0 (l0.length : Int) 0
theorem slices_Compare_string_string.mono_l : ∀ k, (∀ y0 y1 y2 y3 y4, LeO (slices_Compare_string_string.l0 k y0 y1 y2 y3 y4) (slices_Compare_string_string.l0 (k + 1) y0 y1 y2 y3 y4))
 | 0 => fun _ _ _ _ _ r h => by simp [slices_Compare_string_string.l0] at h
 | k + 1 => by
  have ih0 := slices_Compare_string_string.mono_l k
  ·intro y0 y1 y2 y3 y4
   unfold slices_Compare_string_string.l0
   repeat' first
   | (with_reducible exact ih0 _ _ _ _ _)
   | (with_reducible exact LeO.refl _)
   | (with_reducible exact LeO.none _)
   | (with_reducible refine LeO.ite ?_ ?_)
   | (with_reducible refine LeO.bind ?_ (fun _ => ?_))
   | exact ih0 _ _ _ _ _
   | exact LeO.none _
   | refine LeO.ite ?_ ?_
   | refine LeO.bind ?_ (fun _ => ?_)
theorem slices_Compare_string_string.mono : ∀ a0 a1 k, LeO (slices_Compare_string_string.f k a0 a1) (slices_Compare_string_string.f (k + 1) a0 a1) := by
 intro a0 a1 k
 have ih0 := slices_Compare_string_string.mono_l k
 unfold slices_Compare_string_string.f
 repeat' first
   | (with_reducible exact ih0 _ _ _ _ _)
   | (with_reducible exact LeO.refl _)
   | (with_reducible exact LeO.none _)
   | (with_reducible refine LeO.ite ?_ ?_)
   | (with_reducible refine LeO.bind ?_ (fun _ => ?_))
   | exact ih0 _ _ _ _ _
   | exact LeO.none _
   | refine LeO.ite ?_ ?_
   | refine LeO.bind ?_ (fun _ => ?_)
set_option maxHeartbeats 8000000 in
set_option maxRecDepth 100000 in
theorem slices_Compare_string_string.calls (k : Nat) (A0 : Option Addr) (c0 : Nat) (l0 : List ByteArray) (A1 : Option Addr) (c1 : Nat) (l1 : List ByteArray) (r : Int) (w : World) (hr0 : Kd.C Kd.string w A0 l0.length l0) (hc0 : l0.length ≤ c0) (hr1 : Kd.C Kd.string w A1 l1.length l1) (hc1 : l1.length ≤ c1) (h : slices_Compare_string_string.f k l0 l1 = some r) :
  Calls Try.prog 47 #[.slice A0 l0.length c0, .slice A1 l1.length c1] w fun e w' => e = .returned (.int .i64 r) ∧ Drawn0 w w' := by
 have HR0 := Aside0.mk hr0
 have HC0 := Aside0.mk hc0
 clear hr0 hc0
 have HR1 := Aside0.mk hr1
 have HC1 := Aside0.mk hc1
 clear hr1 hc1
 have H : (slices_Compare_string_string.l0 k l0 l1 l0 (l0.length : Int) 0) = some r := h
 clear h
 have H' := Aside0.mk H
 clear H
 go_enter Try.func47, Try.ntmps47
 go_wp2
 go_loopg [11] k (fun kq v11 w' => ∃ (x11_1 : Int), v11 = .int .i64 x11_1 ∧ Aside0 (slices_Compare_string_string.l0 kq l0 l1 l0 (l0.length : Int) x11_1 = some r) ∧ Aside0 (kq ≤ k) ∧ Drawn0 w w')
 case atStart => exact ⟨(0), (by first | rfl | (simp; done) | (simp [*]; done)), H', ⟨Nat.le_refl _⟩, by repeat (first | exact Drawn0.refl _ | apply Drawn0.step)⟩
 case round =>
  clear H'
  try clear c1
  try clear p2
  obtain ⟨x11_1, rfl, HA, HK1, ⟨m1, rfl⟩⟩ := hrel
  cases gk with
  | zero => exact absurd HA.out (by simp [slices_Compare_string_string.l0])
  | succ k1 =>
   have H := HA.out
   clear HA
   simp only [slices_Compare_string_string.l0] at H
   by_cases c3 : x11_1 < (l0.length : Int)
   ·rw [if_pos c3] at H
    have c3b0 : decide (x11_1 < (l0.length : Int)) = true := decide_eq_true c3
    clear c3
    by_cases c4 : 0 ≤ x11_1
    ·rw [if_pos c4] at H
     have c4b0 : decide (0 ≤ x11_1) = true := decide_eq_true c4
     clear c4
     by_cases c5 : x11_1 < (l0.length : Int)
     ·rw [if_pos c5] at H
      have c5b0 : decide (x11_1 < (l0.length : Int)) = true := decide_eq_true c5
      clear c5
      by_cases c6 : x11_1 ≥ (l1.length : Int)
      ·rw [if_pos c6] at H
       have c6b0 : decide ((l1.length : Int) ≤ x11_1) = true := decide_eq_true c6
       clear c6
       obtain rfl := Option.some.inj H
       have p227 : 0 ≤ (x11_1 : Int) := odt
       have q227 : x11_1 < (l0.length : Int) := odt
       obtain ⟨ad227, e227, hx227_0⟩ := Kd.at_string HR0.out x11_1 p227 q227
       cases e227
       replace p227 := eq_true p227
       replace q227 := eq_true q227
       go_wp2
       go_ret
       exact ⟨by first | rfl | (simp; done) | (simp [*]; done), by repeat (first | exact Drawn0.refl _ | apply Drawn0.step)⟩
      ·rw [if_neg c6] at H
       have c6b0 : decide ((l1.length : Int) ≤ x11_1) = false := decide_eq_false c6
       clear c6
       by_cases c7 : x11_1 < (l1.length : Int)
       ·rw [if_pos c7] at H
        have c7b0 : decide (x11_1 < (l1.length : Int)) = true := decide_eq_true c7
        clear c7
        replace H := Option.bind_eq_some_iff.mp H
        obtain ⟨t229, A80, H⟩ := H
        replace H : (if t229 = 0 then (slices_Compare_string_string.l0 k1 l0 l1 l0 (l0.length : Int) (wrap64 (x11_1 + 1))) else (some t229)) = some r := H
        have A8 := Aside0.mk A80
        clear A80
        by_cases c9 : t229 = 0
        ·rw [if_pos c9] at H
         have c9b0 : (t229 == 0) = true := beq_iff_eq.mpr c9
         have c9b1 : (t229 != 0) = false := bne_eq_false_iff_eq.mpr c9
         clear c9
         have H' := Aside0.mk H
         clear H
         have p227 : 0 ≤ (x11_1 : Int) := odt
         have q227 : x11_1 < (l0.length : Int) := odt
         obtain ⟨ad227, e227, hx227_0⟩ := Kd.at_string HR0.out x11_1 p227 q227
         cases e227
         replace p227 := eq_true p227
         replace q227 := eq_true q227
         have p228 : 0 ≤ (x11_1 : Int) := odt
         have q228 : x11_1 < (l1.length : Int) := odt
         obtain ⟨ad228, e228, hx228_0⟩ := Kd.at_string HR1.out x11_1 p228 q228
         cases e228
         replace p228 := eq_true p228
         replace q228 := eq_true q228
         go_wp2_with (first | ((with_reducible refine gate_callee (f := 92) rfl ?_); refine goesL_ (some 26) rfl rfl Try.func92 (by kernel_rfl) rfl #[.string (rdOf ByteArray.empty l0 x11_1), .string (rdOf ByteArray.empty l1 x11_1)] rfl (by (try simp only [List.map_toArray, List.map_cons, List.map_nil]); first | done | rfl | (simp only [List.length_drop, List.length_take]; rfl)) ?_; (with_reducible refine (cmp_Compare_string.calls (rdOf ByteArray.empty l0 x11_1) (rdOf ByteArray.empty l1 x11_1) t229 _ A8.out).mono ?_); rintro e w' ⟨rfl, ⟨nd, rfl⟩⟩; refine ⟨_, rfl, ?_⟩))
         go_roundg k1
         case measure => have := HK1.out; omega
         case rel => exact ⟨(wrap64 (x11_1 + 1)), (by first | rfl | (simp; done) | (simp [*]; done)), H', ⟨by have := HK1.out; omega⟩, by repeat (first | exact Drawn0.refl _ | apply Drawn0.step)⟩
        ·rw [if_neg c9] at H
         have c9b0 : (t229 == 0) = false := beq_eq_false_iff_ne.mpr c9
         have c9b1 : (t229 != 0) = true := bne_iff_ne.mpr c9
         obtain rfl := Option.some.inj H
         have p227 : 0 ≤ (x11_1 : Int) := odt
         have q227 : x11_1 < (l0.length : Int) := odt
         obtain ⟨ad227, e227, hx227_0⟩ := Kd.at_string HR0.out x11_1 p227 q227
         cases e227
         replace p227 := eq_true p227
         replace q227 := eq_true q227
         have p228 : 0 ≤ (x11_1 : Int) := odt
         have q228 : x11_1 < (l1.length : Int) := odt
         obtain ⟨ad228, e228, hx228_0⟩ := Kd.at_string HR1.out x11_1 p228 q228
         cases e228
         replace p228 := eq_true p228
         replace q228 := eq_true q228
         go_wp2_with (first | ((with_reducible refine gate_callee (f := 92) rfl ?_); refine goesL_ (some 26) rfl rfl Try.func92 (by kernel_rfl) rfl #[.string (rdOf ByteArray.empty l0 x11_1), .string (rdOf ByteArray.empty l1 x11_1)] rfl (by (try simp only [List.map_toArray, List.map_cons, List.map_nil]); first | done | rfl | (simp only [List.length_drop, List.length_take]; rfl)) ?_; (with_reducible refine (cmp_Compare_string.calls (rdOf ByteArray.empty l0 x11_1) (rdOf ByteArray.empty l1 x11_1) t229 _ A8.out).mono ?_); rintro e w' ⟨rfl, ⟨nd, rfl⟩⟩; refine ⟨_, rfl, ?_⟩))
         go_ret
         exact ⟨by first | rfl | (simp; done) | (simp [*]; done), by repeat (first | exact Drawn0.refl _ | apply Drawn0.step)⟩
       ·rw [if_neg c7] at H
        exact absurd H (by simp)
     ·rw [if_neg c5] at H
      exact absurd H (by simp)
    ·rw [if_neg c4] at H
     exact absurd H (by simp)
   ·rw [if_neg c3] at H
    have c3b0 : decide (x11_1 < (l0.length : Int)) = false := decide_eq_false c3
    clear c3
    by_cases c10 : (l0.length : Int) < (l1.length : Int)
    ·rw [if_pos c10] at H
     have c10b0 : decide ((l0.length : Int) < (l1.length : Int)) = true := decide_eq_true c10
     have c10b1 : decide (l0.length < l1.length) = true := decide_eq_true (Int.ofNat_lt.mp c10)
     clear c10
     obtain rfl := Option.some.inj H
     go_wp2
     go_ret
     exact ⟨by first | rfl | (simp; done) | (simp [*]; done), by repeat (first | exact Drawn0.refl _ | apply Drawn0.step)⟩
    ·rw [if_neg c10] at H
     have c10b0 : decide ((l0.length : Int) < (l1.length : Int)) = false := decide_eq_false c10
     have c10b1 : decide (l0.length < l1.length) = false := decide_eq_false (fun h => c10 (Int.ofNat_lt.mpr h))
     clear c10
     obtain rfl := Option.some.inj H
     go_wp2
     go_ret
     exact ⟨by first | rfl | (simp; done) | (simp [*]; done), by repeat (first | exact Drawn0.refl _ | apply Drawn0.step)⟩


/-! ### impl_Kind_45: function 45 -/
theorem impl_Kind_45.cmpB (a b : ByteArray) : cmp_Compare_string.f a b = some (Kinds.cmpB a b) := rfl
theorem impl_Kind_45.cmp_from (x y : List ByteArray) (hx : x.length ≤ 9223372036854775807) (d : Nat) : ∀ i : Nat, x.length - i = d → i ≤ x.length → i ≤ y.length → slices_Compare_string_string.l0 (d + 1) x y x (x.length : Int) (i : Int) = some (Kinds.cmpN (x.drop i) (y.drop i)) := by
 induction d with
 | zero =>
  intro i hd hi hy
  have e : i = x.length := by omega
  subst e
  rw [List.drop_length]
  simp only [slices_Compare_string_string.l0, if_neg (show ¬ (x.length : Int) < (x.length : Int) by omega)]
  by_cases h : (x.length : Int) < (y.length : Int)
  ·rw [if_pos h, List.drop_eq_getElem_cons (by omega)]; rfl
  ·rw [if_neg h, show y.drop x.length = [] from List.drop_eq_nil_of_le (by omega)]; rfl
 | succ d ih =>
  intro i hd hi hy
  have hlt : i < x.length := by omega
  rw [List.drop_eq_getElem_cons hlt]
  rw [slices_Compare_string_string.l0]
  simp only [if_pos (show (i : Int) < (x.length : Int) by omega), if_pos (show (0 : Int) ≤ (i : Int) by omega)]
  by_cases h : (i : Int) ≥ (y.length : Int)
  ·rw [if_pos h, show y.drop i = [] from List.drop_eq_nil_of_le (by omega)]; rfl
  ·have hly : i < y.length := by omega
   rw [if_neg h, if_pos (by omega), List.drop_eq_getElem_cons hly, impl_Kind_45.cmpB]
   have e1 : rdOf ByteArray.empty x (i : Int) = x[i] := by simp [rdOf, hlt]
   have e2 : rdOf ByteArray.empty y (i : Int) = y[i] := by simp [rdOf, hly]
   have ew : wrap64 ((i : Int) + 1) = ((i + 1 : Nat) : Int) := by unfold wrap64; omega
   rw [e1, e2, ew, Option.bind_some]
   show _ = some (if Kinds.cmpB x[i] y[i] = 0 then Kinds.cmpN (x.drop (i + 1)) (y.drop (i + 1)) else Kinds.cmpB x[i] y[i])
   split
   ·exact ih (i + 1) (by omega) (by omega) (by omega)
   ·rfl
theorem impl_Kind_45.cmp (x y : List ByteArray) (hx : x.length ≤ 9223372036854775807) : slices_Compare_string_string.f (x.length + 1) x y = some (Kinds.cmpN x y) := impl_Kind_45.cmp_from x y hx x.length 0 (by omega) (by omega) (by omega)
set_option maxHeartbeats 8000000 in
set_option maxRecDepth 100000 in
theorem impl_Kind_45.clo (Ax Ay : Option Addr) (nx ny cx cy : Nat) (x y : List ByteArray) (vx vy : Value) (hvx : ∃ A n c, vx = .slice A n c) (hvy : ∃ A n c, vy = .slice A n c) (w : World) (hlx : nx = x.length) (hly : ny = y.length) (hx : x.length ≤ 9223372036854775807) (hrx : Kd.C Kd.string w Ax x.length x) (hcx : x.length ≤ cx) (hry : Kd.C Kd.string w Ay y.length y) (hcy : y.length ≤ cy) :
  Calls Try.prog 46 #[.agg #[.slice Ax nx cx, vx], .agg #[.slice Ay ny cy, vy]] w fun e w' => e = .returned (.int .i64 (Kinds.cmpN x y)) ∧ ∃ q os', w' = Sort.grow (w.drewN q) os' := by
 subst hlx hly
 obtain ⟨B1, m1, d1, rfl⟩ := hvx
 obtain ⟨B2, m2, d2, rfl⟩ := hvy
 have hu := Try.underlying76
 have RX := Aside0.mk hrx
 have RY := Aside0.mk hry
 have HE := Aside0.mk (impl_Kind_45.cmp x y hx)
 generalize Kinds.cmpN x y = r at HE ⊢
 clear hrx hry
 go_enter Try.func46, Try.ntmps46
 go_wp2_with (go_at_call 47; (with_reducible refine (slices_Compare_string_string.calls (x.length + 1) Ax cx x Ay cy y r _ ?s1 hcx ?s2 hcy HE.out).mono ?_); (case s1 => repeat (first | exact RX.out | (with_reducible refine Kd.C_alloc ?_ _) | (with_reducible refine Kd.C_drewN ?_ _) | (with_reducible refine Kd.C_drew ?_))); (case s2 => repeat (first | exact RY.out | (with_reducible refine Kd.C_alloc ?_ _) | (with_reducible refine Kd.C_drewN ?_ _) | (with_reducible refine Kd.C_drew ?_))); rintro e w' ⟨rfl, ⟨nd, rfl⟩⟩)
 go_ret
 exact ⟨rfl, nd, _, by rw [Sort.alloc_eq_grow, Sort.alloc_eq_grow, Sort.grow_grow]; rfl⟩
/-- draft -/
def impl_Kind_45.f (l0 : List S76) : Option (List S76) := if (l0.map fun x => x.f0).Nodup ∧ l0.length ≤ 4194304 then some (l0.mergeSort fun x y => Kinds.leN x.f0 y.f0) else none
/-- The cells of the kind at a place. -/
def impl_Kind_45.enc (inner : List Value) (i : Nat) : List Value := (inner.drop (i * 2)).take 2
theorem impl_Kind_45.cells {w : World} {base : Nat} {ok : Nat → Prop} {f : Nat → Nat} {l : List S76} {inner : List Value} (hr : Reps ((Kd.tag f k76).M w base ok) 2 l.zipIdx inner) (i : Nat) (hi : i < l.length) :
  ∃ v0 v1, impl_Kind_45.enc inner i = [v0, v1] ∧ Kd.string.R 9 w base (fun k => ok k ∧ f k = i) v0 l[i].f0 ∧ (Kd.int .i64).R 3 w base (fun k => ok k ∧ f k = i) v1 l[i].f1 := by
 have hm := hr.2 i (l[i], i) (by rw [List.getElem?_zipIdx, List.getElem?_eq_getElem hi]; simp)
 exact k76_openM hm
theorem impl_Kind_45.inj {l : List S76} (hn : (l.map fun x => x.f0).Nodup) {a b : S76} (ha : a ∈ l) (hb : b ∈ l) (h : a.f0 = b.f0) : a = b := by
 obtain ⟨i, hi, rfl⟩ := List.getElem_of_mem ha
 obtain ⟨j, hj, rfl⟩ := List.getElem_of_mem hb
 have hp := List.pairwise_iff_getElem.1 hn
 rcases Nat.lt_trichotomy i j with h1 | h1 | h1
 ·exact absurd (by rw [List.getElem_map, List.getElem_map]; exact h) (hp i j (by simpa using hi) (by simpa using hj) h1)
 ·subst h1; rfl
 ·exact absurd (by rw [List.getElem_map, List.getElem_map]; exact h.symm) (hp j i (by simpa using hj) (by simpa using hi) h1)
theorem impl_Kind_45.le_total (x y : List ByteArray) : (Kinds.leN x y || Kinds.leN y x) = true := by
 unfold Kinds.leN
 by_cases h : Kinds.cmpN y x < 0
 ·have h2 := (Kinds.cmpN_swap y x).1 h
  rw [decide_eq_true (p := ¬ Kinds.cmpN x y < 0) (by omega), Bool.or_true]
 ·rw [decide_eq_true h, Bool.true_or]
theorem impl_Kind_45.le_trans (x y z : List ByteArray) (h1 : Kinds.leN x y = true) (h2 : Kinds.leN y z = true) : Kinds.leN x z = true := by
 unfold Kinds.leN at *
 rw [decide_eq_true_eq] at *
 have hS := Kinds.swoN (α := List ByteArray) id
 have := hS.ntrans z y x (by unfold ltOf; exact decide_eq_false h2) (by unfold ltOf; exact decide_eq_false h1)
 unfold ltOf at this
 exact of_decide_eq_false this
/-- The places in order, and the kinds with them. -/
theorem impl_Kind_45.order (l : List S76) (m : Nat) (hm : l.length = m + 1) (hn : (l.map fun x => x.f0).Nodup) :
  (((List.finRange (m + 1)).mergeSort fun x y => !(ltOf (fun i j : Fin (m + 1) => Kinds.cmpN (l[i]'(by omega)).f0 (l[j]'(by omega)).f0) y x)).map fun i => l[i]'(by omega)) = l.mergeSort fun x y => Kinds.leN x.f0 y.f0 := by
 have hl : (List.finRange (m + 1)).map (fun i : Fin (m + 1) => l[i]'(by omega)) = l := by
  apply List.ext_getElem
  ·simp [hm]
  ·intro i h1 h2; simp
 have hp := List.mergeSort_perm (List.finRange (m + 1)) fun x y => !(ltOf (fun i j : Fin (m + 1) => Kinds.cmpN (l[i]'(by omega)).f0 (l[j]'(by omega)).f0) y x)
 have hp2 := hp.map (fun i : Fin (m + 1) => l[i]'(by omega))
 rw [hl] at hp2
 refine List.Perm.eq_of_pairwise (le := fun a b => Kinds.leN a.f0 b.f0 = true) ?_ ?_ (List.pairwise_mergeSort (le := fun (x y : S76) => Kinds.leN x.f0 y.f0) (fun a b c h1 h2 => impl_Kind_45.le_trans _ _ _ h1 h2) (fun a b => impl_Kind_45.le_total _ _) _) (hp2.trans (List.mergeSort_perm _ _).symm)
 ·intro a b ha hb h1 h2
  refine impl_Kind_45.inj hn (hp2.mem_iff.1 ha) ((List.mergeSort_perm _ _).mem_iff.1 hb) (Kinds.cmpN_total _ _ ?_ ?_)
  ·exact of_decide_eq_true h2
  ·exact of_decide_eq_true h1
 ·refine List.pairwise_map.2 ?_
  refine (List.pairwise_mergeSort (fun a b c h1 h2 => ?_) (fun a b => ?_) _).imp ?_
  ·exact impl_Kind_45.le_trans _ _ _ (by simpa [ltOf, Kinds.leN] using h1) (by simpa [ltOf, Kinds.leN] using h2) |> fun h => by simpa [ltOf, Kinds.leN] using h
  ·have := impl_Kind_45.le_total (l[a]'(by omega)).f0 (l[b]'(by omega)).f0
   simpa [ltOf, Kinds.leN] using this
  ·intro a b h
   simpa [ltOf, Kinds.leN] using h
theorem impl_Kind_45.holds {w : World} {g m : Nat} {cur : Array Value} {inner : List Value} (hh : w.heap[g]? = some (.cells cur 76 (0, 0))) (ht : cur.toList.take ((m + 1) * 2) = inner) (hlen : inner.length = (m + 1) * 2) :
  Sort.HoldsK (fun i : Fin (m + 1) => impl_Kind_45.enc inner i.val) 2 w g 0 (List.finRange (m + 1)).toArray := by
 intro j hj
 rw [Sort.size_flatK] at hj
 have hsz : (List.finRange (m + 1)).toArray.size = m + 1 := by simp
 rw [hsz] at hj
 have h3 : j / 2 < m + 1 := by omega
 rw [Nat.zero_add, Sort.get_flatK _ _ _ _ (by rw [hsz]; exact hj)]
 have e1 : (List.finRange (m + 1)).toArray[j / 2]! = ⟨j / 2, h3⟩ := by rw [getElem!_pos _ _ (by rw [hsz]; exact h3)]; simp
 rw [e1]
 refine ⟨?_, blk_frozen hh j⟩
 rw [blk_cell hh j]
 have hl2 : ((inner.drop (j / 2 * 2)).take 2).length = 2 := by rw [List.length_take, List.length_drop]; omega
 show cur[j]? = some (((inner.drop (j / 2 * 2)).take 2)[j % 2]!)
 rw [getElem!_pos _ _ (by rw [hl2]; omega), ← List.getElem?_eq_getElem, List.getElem?_take_of_lt (by omega), List.getElem?_drop, show j / 2 * 2 + j % 2 = j by omega, ← ht, List.getElem?_take_of_lt hj, Array.getElem?_toList]
theorem impl_Kind_45.grown {α : Type} [Inhabited α] (enc : α → List Value) (w : World) (g n : Nat) (d : Array α) (os : Array Obj) : w.grownBy (sortWorldK enc 2 w g 0 n d os) (some g) := by
 refine ⟨rfl, rfl, rfl, ?_, fun q hq hne => ?_⟩
 ·unfold sortWorldK Sort.putRowK
  rw [Sort.size_grow, Sort.size_putRow]
  exact Nat.le_add_right _ _
 ·unfold sortWorldK Sort.putRowK
  rw [Sort.heap_grow_old _ _ (by rw [Sort.size_putRow]; exact hq)]
  have h : ¬ g = q := fun e => hne (by rw [e])
  show (w.heap.modify g _)[q]? = _
  rw [Array.getElem?_modify, if_neg h]
/-- The row, as the sort leaves it, told anew: the kinds in order, their rows apart. -/
theorem impl_Kind_45.back {w : World} {base g cap m : Nat} {ok : Nat → Prop} {f : Nat → Nat} {cur : Array Value} {l : List S76} {inner : List Value} (D : List (Fin (m + 1))) (n : Nat) (os : Array Obj) (hm : l.length = m + 1) (hD : D.Perm (List.finRange (m + 1))) (hg : base ≤ g) (hok : ok g) (hh : w.heap[g]? = some (.cells cur 76 (0, 0))) (hn : m + 1 ≤ cap) (hcap : cap ≤ maxLen) (hs : cur.size = cap * 2)
  (hr : Reps ((Kd.tag f k76).M w base (fun k => ok k ∧ some k ≠ some g)) 2 l.zipIdx inner) :
  Kd.S k76 76 (sortWorldK (fun i : Fin (m + 1) => impl_Kind_45.enc inner i.val) 2 w g 0 n D.toArray os) base ok (.slice (some ⟨g, 0, none⟩) (m + 1) cap) (D.map fun i => l[i]'(by omega)) := by
 have hgr := impl_Kind_45.grown (fun i : Fin (m + 1) => impl_Kind_45.enc inner i.val) w g n D.toArray os
 have hDl : D.length = m + 1 := by rw [hD.length_eq]; simp
 have hnd : D.Nodup := hD.symm.nodup_iff.1 (List.nodup_finRange _)
 have hd : D.toArray.size = m + 1 := by simp [hDl]
 have henc : ∀ i : Fin (m + 1), (impl_Kind_45.enc inner i.val).length = 2 := fun i => by
  obtain ⟨v0, v1, e, -⟩ := impl_Kind_45.cells hr i.val (by omega)
  rw [e]; rfl
 have hb : (sortWorldK (fun i : Fin (m + 1) => impl_Kind_45.enc inner i.val) 2 w g 0 n D.toArray os).heap[g]? = some (.cells (Sort.putCells id 0 (Sort.flatK (fun i : Fin (m + 1) => impl_Kind_45.enc inner i.val) 2 D.toArray) cur) 76 (0, 0)) := by
  have hlt : g < w.heap.size := (Array.getElem?_eq_some_iff.1 hh).1
  unfold sortWorldK Sort.putRowK
  rw [Sort.heap_grow_old _ _ (by rw [Sort.size_putRow]; exact hlt)]
  show (w.heap.modify g _)[g]? = _
  rw [Array.getElem?_modify, if_pos rfl, hh]
  rfl
 generalize sortWorldK (fun i : Fin (m + 1) => impl_Kind_45.enc inner i.val) 2 w g 0 n D.toArray os = W at hgr hb ⊢
 have hF : (Sort.flatK (fun i : Fin (m + 1) => impl_Kind_45.enc inner i.val) 2 D.toArray).size = (m + 1) * 2 := by rw [Sort.size_flatK, hd]
 have hc : (m + 1) * 2 ≤ cur.size := by omega
 have hl : (D.map fun i => l[i]'(by omega)).length = m + 1 := by rw [List.length_map, hDl]
 have hps : (Sort.putCells id 0 (Sort.flatK (fun i : Fin (m + 1) => impl_Kind_45.enc inner i.val) 2 D.toArray) cur).size = cur.size := by simp [Sort.putCells]
 have hat : ∀ j, j < (m + 1) * 2 → (Sort.putCells id 0 (Sort.flatK (fun i : Fin (m + 1) => impl_Kind_45.enc inner i.val) 2 D.toArray) cur).toList[j]? = some (Sort.flatK (fun i : Fin (m + 1) => impl_Kind_45.enc inner i.val) 2 D.toArray)[j]! := fun j hj => by
  rw [Array.getElem?_toList]
  have h2 : j < cur.size := by omega
  have h3 : j < (Sort.flatK (fun i : Fin (m + 1) => impl_Kind_45.enc inner i.val) 2 D.toArray).size := by omega
  simp only [Sort.putCells, Array.getElem?_mapIdx, Array.getElem?_eq_getElem h2, Option.map_some, Nat.zero_le, Nat.zero_add, h3, and_self, if_true, Nat.sub_zero, id]
 generalize hP : Sort.putCells id 0 (Sort.flatK (fun i : Fin (m + 1) => impl_Kind_45.enc inner i.val) 2 D.toArray) cur = P at hb hps hat
 have hpl : P.toList.length = cur.size := (Array.length_toList).trans hps
 have hk : (P.toList.take ((m + 1) * 2)).length = (m + 1) * 2 := by rw [List.length_take, hpl]; omega
 refine ⟨fun k => (D.map Fin.val).idxOf (f k), fun k hk => by injection hk with hk; subst hk; exact hok, P.toList.take ((m + 1) * 2), ⟨?_, .inr ⟨g, cap, _, ?_, hg, hb, ?_, hcap, by rw [hps]; exact hs, ?_⟩⟩, ?_, ?_⟩
 ·rw [List.length_zipIdx, hl]; exact hk
 ·rw [List.length_zipIdx, hl]
 ·rw [List.length_zipIdx, hl]; exact hn
 ·rw [List.length_zipIdx, hl]; rfl
 ·rw [List.length_zipIdx, hl]; exact hk
 ·intro j p hp
  rw [List.getElem?_zipIdx, Nat.zero_add] at hp
  obtain ⟨x, hx, rfl⟩ := Option.map_eq_some_iff.1 hp
  obtain ⟨hj, hx⟩ := List.getElem?_eq_some_iff.1 hx
  rw [hl] at hj
  rw [List.getElem_map] at hx
  have hjD : j < D.length := by omega
  have e : ((P.toList.take ((m + 1) * 2)).drop (j * 2)).take 2 = impl_Kind_45.enc inner D[j].val := by
   apply List.ext_getElem?
   intro t
   by_cases ht : t < 2
   ·rw [List.getElem?_take_of_lt ht, List.getElem?_drop, List.getElem?_take_of_lt (by omega), hat _ (by omega), Sort.get_flatK _ _ _ _ (by rw [hd]; omega), show (j * 2 + t) / 2 = j by omega, show (j * 2 + t) % 2 = t by omega, show D.toArray[j]! = D[j] by rw [getElem!_pos _ _ (by simpa using hjD)]; simp, getElem!_pos _ _ (by rw [henc]; exact ht), List.getElem?_eq_getElem (by rw [henc]; exact ht)]
   ·rw [List.getElem?_eq_none (by rw [List.length_take]; omega), List.getElem?_eq_none (by rw [henc]; omega)]
  obtain ⟨v0, v1, e2, g0, g1⟩ := impl_Kind_45.cells hr D[j].val (by omega)
  have hidx : ∀ k, f k = D[j].val → (D.map Fin.val).idxOf (f k) = j := fun k hk => by
   rw [hk, show D[j].val = (D.map Fin.val)[j]'(by simpa using hjD) by simp]
   exact List.Nodup.idxOf_getElem (List.pairwise_map.2 (List.Pairwise.imp (fun h e => h (Fin.ext e)) hnd)) j (by simpa using hjD)
  show k76.M W base _ x (((P.toList.take ((m + 1) * 2)).drop (j * 2)).take 2)
  rw [e, e2, ← hx]
  have hne : ∀ k, ((ok k ∧ some k ≠ some g) ∧ f k = D[j].val) → some k ≠ some g := fun k hk => hk.1.2
  exact k76_mkM W base _ _ (Kd.R_mono (Kd.R_grown g0 hgr hne) (fun k hk => ⟨hk.1, hidx k hk.2⟩)) (Kd.R_mono (Kd.R_grown g1 hgr hne) (fun k hk => ⟨hk.1, hidx k hk.2⟩))
theorem impl_Kind_45.real {ok : Nat → Prop} (v : Value) (l r : List S76) (w0 w : World) (hB : Below w0.heap.size w0 w) (ho : Kd.S k76 76 w w0.heap.size ok v l) (h : impl_Kind_45.f l = some r) :
  Calls Try.prog 45 #[v, .func (.func 46) #[] #[]] w fun e w' => e = .returned (.tuple #[]) ∧ Kd.S k76 76 w' w0.heap.size ok v r ∧ Below w0.heap.size w0 w' ∧ w.grownBy w' v.ownBlock := by
 unfold impl_Kind_45.f at h
 split at h
 case isFalse => cases h
 case isTrue hc =>
 obtain ⟨hnd, hlen4⟩ := hc
 obtain rfl := Option.some.inj h
 clear h
 by_cases hl0 : l = []
 ·subst hl0
  obtain ⟨A, c, rfl⟩ := Kd.S_slice ho
  refine (AnyF.slices_SortFunc_none SortedK.laid A c (.func (.func 46) #[] #[]) w).mono ?_
  rintro e w' ⟨rfl, rfl⟩
  exact ⟨rfl, by rw [show (([] : List S76).mergeSort fun x y => Kinds.leN x.f0 y.f0) = [] by simp]; exact ho, hB, ⟨rfl, rfl, rfl, Nat.le_refl _, fun _ _ _ => rfl⟩⟩
 ·obtain ⟨f, hok0, inner, ⟨hlen, hrow⟩, hrep⟩ := ho
  rw [List.length_zipIdx] at hlen hrow
  obtain ⟨m, hm⟩ : ∃ m, l.length = m + 1 := ⟨l.length - 1, by have := List.length_pos_iff.2 hl0; omega⟩
  rcases hrow with ⟨_, h0⟩ | ⟨g, cap, cur, rfl, hbg, hh, hn, hmx, hs, ht⟩
  ·omega
  ·have hrep' : Reps ((Kd.tag f k76).M w w0.heap.size (fun k => ok k ∧ some k ≠ some g)) 2 l.zipIdx inner := hrep
   have hlt : g < w.heap.size := (Array.getElem?_eq_some_iff.1 hh).1
   have hsz : (k76).sz = 2 := rfl
   have hlen2 : inner.length = (m + 1) * 2 := by rw [hlen, hm]; rfl
   have ht2 : cur.toList.take ((m + 1) * 2) = inner := by rw [← ht, hm]; rfl
   have hs2 : cur.size = cap * 2 := hs
   have hH := impl_Kind_45.holds hh ht2 hlen2
   have hcell : ∀ i : Fin (m + 1), ∃ v0 v1, impl_Kind_45.enc inner i.val = [v0, v1] ∧ Kd.string.R 9 w w0.heap.size (fun k => (ok k ∧ some k ≠ some g) ∧ f k = i.val) v0 (l[i.val]'(by omega)).f0 ∧ (Kd.int .i64).R 3 w w0.heap.size (fun k => (ok k ∧ some k ≠ some g) ∧ f k = i.val) v1 (l[i.val]'(by omega)).f1 := fun i => impl_Kind_45.cells hrep' i.val (by omega)
   have hd : (List.finRange (m + 1)).toArray.size = m + 1 := by simp
   have hT : ∀ x y : Fin (m + 1), ltOf (fun i j : Fin (m + 1) => Kinds.cmpN (l[i.val]'(by omega)).f0 (l[j.val]'(by omega)).f0) x y = false → ltOf (fun i j : Fin (m + 1) => Kinds.cmpN (l[i.val]'(by omega)).f0 (l[j.val]'(by omega)).f0) y x = false → x = y := fun x y h1 h2 => by
    have e1 := Kinds.cmpN_total _ _ (of_decide_eq_false h1) (of_decide_eq_false h2)
    have e2 := List.pairwise_iff_getElem.1 hnd
    apply Fin.ext
    rcases Nat.lt_trichotomy x.val y.val with h3 | h3 | h3
    ·exact absurd (by rw [List.getElem_map, List.getElem_map]; exact e1) (e2 x.val y.val (by rw [List.length_map]; omega) (by rw [List.length_map]; omega) h3)
    ·exact h3
    ·exact absurd (by rw [List.getElem_map, List.getElem_map]; exact e1.symm) (e2 y.val x.val (by rw [List.length_map]; omega) (by rw [List.length_map]; omega) h3)
   have hcmp : CmpLays Try.prog 46 #[] (fun i : Fin (m + 1) => impl_Kind_45.enc inner i.val) 2 (fun i j : Fin (m + 1) => Kinds.cmpN (l[i.val]'(by omega)).f0 (l[j.val]'(by omega)).f0) g 0 (List.finRange (m + 1)).toArray.size w := fun n os dk hdk x y => by
    have hgr := impl_Kind_45.grown (fun i : Fin (m + 1) => impl_Kind_45.enc inner i.val) w g n dk os
    obtain ⟨v0, v1, e1, g0, g1⟩ := hcell x
    obtain ⟨u0, u1, e2, q0, q1⟩ := hcell y
    have g0' := Kd.R_grown g0 hgr (fun k hk => hk.1.2)
    have q0' := Kd.R_grown q0 hgr (fun k hk => hk.1.2)
    obtain ⟨Ax, cx, rfl⟩ := Kd.R_slice g0
    obtain ⟨Bx, dx, rfl⟩ := Kd.R_slice g1
    obtain ⟨Ay, cy, rfl⟩ := Kd.R_slice q0
    obtain ⟨By, dy, rfl⟩ := Kd.R_slice q1
    have r1 := Kd.R_reads' g0'
    have r2 := Kd.R_reads' q0'
    have hx : _ ≤ 9223372036854775807 := r1.2.2.2.1
    dsimp only
    rw [e1, e2]
    exact impl_Kind_45.clo Ax Ay _ _ cx cy _ _ _ _ ⟨_, _, _, rfl⟩ ⟨_, _, _, rfl⟩ _ rfl rfl hx r1.2.2 r1.2.1 r2.2.2 r2.2.1
   have hc2 := AnyQ.slices_SortFunc_total SortedK.laid 2 Try.isAgg76 Try.sizeOf76 (fun i : Fin (m + 1) => impl_Kind_45.enc inner i.val) (fun i => by obtain ⟨v0, v1, e, -⟩ := hcell i; rw [e]; rfl) (fun i x hx => by
    obtain ⟨v0, v1, e, g0, g1⟩ := hcell i
    rw [e] at hx
    rcases List.mem_cons.1 hx with rfl | hx
    ·exact (Kd.R_val g0).2
    rcases List.mem_cons.1 hx with rfl | hx
    ·exact (Kd.R_val g1).2
    cases hx) (fun i j : Fin (m + 1) => Kinds.cmpN (l[i.val]'(by omega)).f0 (l[j.val]'(by omega)).f0) (Kinds.swoN fun i : Fin (m + 1) => (l[i.val]'(by omega)).f0) 46 #[] g 0 cap (List.finRange (m + 1)).toArray w (Go.Proofs.enters_of Try.func46 (by kernel_rfl) rfl) hcmp hH hlt (by rw [hd]; omega) hT
   rw [hd, List.toList_toArray] at hc2
   rw [hm]
   refine hc2.mono ?_
   rintro e w' ⟨rfl, n, os, rfl⟩
   have hgr := impl_Kind_45.grown (fun i : Fin (m + 1) => impl_Kind_45.enc inner i.val) w g n (((List.finRange (m + 1)).mergeSort fun x y => !(ltOf (fun i j : Fin (m + 1) => Kinds.cmpN (l[i.val]'(by omega)).f0 (l[j.val]'(by omega)).f0) y x))).toArray os
   have hb := impl_Kind_45.back (D := (List.finRange (m + 1)).mergeSort fun x y => !(ltOf (fun i j : Fin (m + 1) => Kinds.cmpN (l[i.val]'(by omega)).f0 (l[j.val]'(by omega)).f0) y x)) n os hm (List.mergeSort_perm _ _) hbg (hok0 g rfl) hh (by omega) hmx hs2 hrep'
   have ho := impl_Kind_45.order l m hm hnd
   refine ⟨rfl, ?_, hB.grown (row := some g) hgr (below_size hB) (fun k hk => by injection hk with hk; subst hk; exact hbg), hgr⟩
   rw [← ho]
   exact hb

end Go.Proofs.Ytiaajmnmbjheoaa.PFnExactKindsOf
