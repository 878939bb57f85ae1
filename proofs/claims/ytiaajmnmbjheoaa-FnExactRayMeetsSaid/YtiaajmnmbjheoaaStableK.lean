/- slices.SortStableFunc at elements of three cells and a comparison that may lay blocks: the callees that move: swapRange, rotate. No condition beyond what each says. -/
import Derived.Test.YtiaajmnmbjheoaaStableA
import Derived.Test.YtiaajmnmbjheoaaProg
import Derived.Shelf.SlSortCmp.KitK
import Derived.Deep.LoopGhost
namespace Go.Proofs.Ytiaajmnmbjheoaa.Stable
open Go.Shelf Go.RowKit Go.Lib Go.Sort
set_option linter.unusedVariables false
set_option linter.unusedSimpArgs false
/-- What the walks lean on: the bodies, their types; of the element's type that it is an aggregate of k cells. -/
structure Lay (P : Program) (k : Nat) : Prop where
  mixed : P.follows .mixedOrders = true
  fSwap : P.funcs[159]? = some Try.f159
  fRot : P.funcs[153]? = some Try.f153
  fSym : P.funcs[130]? = some Try.f130
  fStable : P.funcs[103]? = some Try.f103
  fSort : P.funcs[73]? = some Try.f73
  t0 : P.underlying 0 = some (TypeDesc.tuple #[])
  a0 : ∀ w, (isAgg 0).run P w = .ok false w
  z0 : ∀ w, (Go.sizeOf 0).run P w = .ok 1 w
  v0 : ∀ w, (zeroValue 0).run P w = .ok (Value.tuple #[]) w
  t3 : P.underlying 3 = some (TypeDesc.int IntKind.i64)
  a3 : ∀ w, (isAgg 3).run P w = .ok false w
  z3 : ∀ w, (Go.sizeOf 3).run P w = .ok 1 w
  v3 : ∀ w, (zeroValue 3).run P w = .ok (Value.int IntKind.i64 0) w
  t4 : P.underlying 4 = some (TypeDesc.bool)
  a4 : ∀ w, (isAgg 4).run P w = .ok false w
  z4 : ∀ w, (Go.sizeOf 4).run P w = .ok 1 w
  v4 : ∀ w, (zeroValue 4).run P w = .ok (Value.bool false) w
  tR : P.underlying 52 = some (TypeDesc.slice 109)
  aR : ∀ w, (isAgg 52).run P w = .ok false w
  zR : ∀ w, (Go.sizeOf 52).run P w = .ok 1 w
  vR : ∀ w, (zeroValue 52).run P w = .ok (Value.slice none 0 0) w
  tC : P.underlying 121 = some (TypeDesc.func #[109, 109] #[3] false)
  aC : ∀ w, (isAgg 121).run P w = .ok false w
  zC : ∀ w, (Go.sizeOf 121).run P w = .ok 1 w
  vC : ∀ w, (zeroValue 121).run P w = .ok (Value.nilFunc) w
  tU : P.underlying 139 = some (TypeDesc.int IntKind.u64)
  aU : ∀ w, (isAgg 139).run P w = .ok false w
  zU : ∀ w, (Go.sizeOf 139).run P w = .ok 1 w
  vU : ∀ w, (zeroValue 139).run P w = .ok (Value.int IntKind.u64 0) w
  aE : ∀ w, (isAgg 109).run P w = .ok true w
  zE : ∀ w, (Go.sizeOf 109).run P w = .ok k w
theorem lay : Lay Try.prog 3 := ⟨by kernel_rfl, Try.func159, Try.func153, Try.func130, Try.func103, Try.func73, Try.underlying0, Try.isAgg0, Try.sizeOf0, Try.zeroValue0, Try.underlying3, Try.isAgg3, Try.sizeOf3, Try.zeroValue3, Try.underlying4, Try.isAgg4, Try.sizeOf4, Try.zeroValue4, Try.underlying52, Try.isAgg52, Try.sizeOf52, Try.zeroValue52, Try.underlying121, Try.isAgg121, Try.sizeOf121, Try.zeroValue121, Try.underlying139, Try.isAgg139, Try.sizeOf139, Try.zeroValue139, Try.isAgg109, Try.sizeOf109⟩
section
variable {P : Program} {k : Nat} {enc : Nat → List Value} {blk off : Nat} {d0 : Array Nat} {w0 : World}
set_option maxHeartbeats 4000000 in
set_option maxRecDepth 1000000 in
theorem swapRange (L : Lay P k) (g : Nat) (cb : Array Value) (cap a b n lo hi : Nat) (d : Array Nat) (w : World) (R : RowK enc k w0 blk off d0) (hs : d0.size = d.size) (S : SWK enc k w0 blk off d w)
    (hla : lo ≤ a) (hab : a + n ≤ b) (hb : b + n ≤ hi) (hhi : hi ≤ d.size) (hsz : d.size < 4611686018427387904) :
    Calls P 159 #[.slice (some ⟨blk, off, none⟩) d.size cap, .int .i64 a, .int .i64 b, .int .i64 n, .func (.func g) #[] cb] w fun e w' => e = .returned (.tuple #[]) ∧ ∃ d', Mv (swf a b n) lo hi d d' ∧ SWK enc k w0 blk off d' w' := by
  have mixed := L.mixed; have t0 := L.t0; have a0 := L.a0; have z0 := L.z0; have v0 := L.v0; have t3 := L.t3; have a3 := L.a3; have z3 := L.z3; have v3 := L.v3; have t4 := L.t4; have a4 := L.a4; have z4 := L.z4; have v4 := L.v4; have tR := L.tR; have aR := L.aR; have zR := L.zR; have vR := L.vR; have tC := L.tC; have aC := L.aC; have zC := L.zC; have vC := L.vC; have tU := L.tU; have aU := L.aU; have zU := L.zU; have vU := L.vU; have aE := L.aE; have zE := L.zE
  have FG := L.fSwap
  have S0 : Aside (SWK enc k w0 blk off d w) := S
  clear S
  go_enter FG, Try.ntmps159
  go_wp2
  go_loopg [10] n (fun kx s10 wr => ∃ (i : Nat) (dk : Array Nat), s10 = .int .i64 i ∧ i ≤ n ∧ n - i ≤ kx ∧ Hid (Mv (swf a b i) lo hi d dk) ∧ Aside (SWK enc k w0 blk off dk wr))
  case atStart => exact ⟨0, d, rfl, Nat.zero_le _, by omega, (Mv.refl lo hi d).as (fun i => (swf_zero a b i).symm), S0⟩
  case round =>
    clear S0
    obtain ⟨i, dk, rfl, hin, hkx, hm, S1⟩ := hrel
    have hds : dk.size = d.size := hm.out.size
    by_cases hlt : i < n
    · have hltz : (i : Int) < (n : Int) := by omega
      go_wp2_with fail
      have ea44 : ((a : Int) + (i : Int)).toNat = a + i := by omega
      have pa44 : (0 : Int) ≤ (a : Int) + (i : Int) := by omega
      have ba44 : (a : Int) + (i : Int) < (d.size : Int) := by omega
      have ra44 : IntKind.i64.wrap ((a : Int) + (i : Int)) = (a : Int) + (i : Int) := by rw [IntKind.wrap_i64]; omega
      have ec44 : ((b : Int) + (i : Int)).toNat = b + i := by omega
      have pc44 : (0 : Int) ≤ (b : Int) + (i : Int) := by omega
      have bc44 : (b : Int) + (i : Int) < (d.size : Int) := by omega
      have rc44 : IntKind.i64.wrap ((b : Int) + (i : Int)) = (b : Int) + (i : Int) := by rw [IntKind.wrap_i64]; omega
      have S2 : Aside (SWK enc k w0 blk off (swp dk (a + i) (b + i)) ((wr.drew.setCells blk (off + (a + i) * k) (enc dk[b + i]!)).setCells blk (off + (b + i) * k) (enc dk[a + i]!))) := S1.out.swapped R (a + i) (b + i) (by omega) (by omega)
      have l44a := S1.out.ld1 R (by omega) P (a + i) (by omega)
      have l44b := S1.out.ld1 R (by omega) P (b + i) (by omega)
      have s44a := S1.out.st1 R (by omega) P (a + i) (by omega) dk[b + i]!
      have s44b := S1.out.st2 R (by omega) P (a + i) (b + i) (by omega) (by omega) dk[b + i]! dk[a + i]!
      have n44a : (enc dk[a + i]!).length = k := R.hk _
      have n44b : (enc dk[b + i]!).length = k := R.hk _
      have M2 : Hid (Mv (swf a b (i + 1)) lo hi d (swp dk (a + i) (b + i))) := (hm.out.trans (Mv.swp dk (lo := lo) (hi := hi) (i := a + i) (j := b + i) (by omega) (by omega) (by omega) (by omega) (by omega))).as (fun x => swf_next (by omega) x)
      generalize swp dk (a + i) (b + i) = dn at S2 M2
      generalize enc dk[a + i]! = cI44 at S2 l44a s44b n44a
      generalize enc dk[b + i]! = cJ44 at S2 l44b s44a s44b n44b
      clear S1 hm
      go_big_region_o
      clear l44a l44b s44a s44b
      generalize (wr.drew.setCells blk (off + (a + i) * k) cJ44).setCells blk (off + (b + i) * k) cI44 = w2 at S2 ⊢
      go_wp2
      go_roundg (n - (i + 1))
      case measure => omega
      case rel => exact ⟨i + 1, dn, by go_num, by omega, by omega, M2, S2⟩
    · have hltz : ¬ (i : Int) < (n : Int) := by omega
      have e : i = n := by omega
      subst e
      go_wp2
      go_end0
      exact ⟨rfl, dk, hm.out, S1.out⟩
set_option maxHeartbeats 4000000 in
set_option maxRecDepth 1000000 in
theorem rotate (L : Lay P k) (g : Nat) (cb : Array Value) (cap a m b lo hi : Nat) (d : Array Nat) (w : World) (R : RowK enc k w0 blk off d0) (hs : d0.size = d.size) (S : SWK enc k w0 blk off d w)
    (hla : lo ≤ a) (ham : a < m) (hmb : m < b) (hb : b ≤ hi) (hhi : hi ≤ d.size) (hsz : d.size < 4611686018427387904) :
    Calls P 153 #[.slice (some ⟨blk, off, none⟩) d.size cap, .int .i64 a, .int .i64 m, .int .i64 b, .func (.func g) #[] cb] w fun e w' => e = .returned (.tuple #[]) ∧ ∃ d', Mv (rotf a m b) lo hi d d' ∧ SWK enc k w0 blk off d' w' := by
  have mixed := L.mixed; have t0 := L.t0; have a0 := L.a0; have z0 := L.z0; have v0 := L.v0; have t3 := L.t3; have a3 := L.a3; have z3 := L.z3; have v3 := L.v3; have t4 := L.t4; have a4 := L.a4; have z4 := L.z4; have v4 := L.v4; have tR := L.tR; have aR := L.aR; have zR := L.zR; have vR := L.vR; have tC := L.tC; have aC := L.aC; have zC := L.zC; have vC := L.vC; have tU := L.tU; have aU := L.aU; have zU := L.zU; have vU := L.vU; have aE := L.aE; have zE := L.zE
  have FG := L.fRot
  have eS : ∀ args w, (callFunc 159 args).run P w = .ok (.enter 159 args) w := enters_of L.fSwap (by kernel_rfl) rfl
  have S0 : Aside (SWK enc k w0 blk off d w) := S
  have HL : Aside (Lay P k) := L
  clear S L
  go_enter FG, Try.ntmps153
  have z0_ : (m : Int) - (a : Int) = ((m - a : Nat) : Int) := by omega
  have z1_ : (b : Int) - (m : Int) = ((b - m : Nat) : Int) := by omega
  go_wp2
  go_loopg [10, 11] (m - a + (b - m)) (fun kx s10 s11 wr => ∃ (i j : Nat) (dk : Array Nat), s10 = .int .i64 i ∧ s11 = .int .i64 j ∧ 0 < i ∧ 0 < j ∧ i ≤ m - a ∧ j ≤ b - m ∧ i + j ≤ kx ∧ dk.size = d.size ∧ Hid (∀ d', Mv (rotf (m - i) m (m + j)) lo hi dk d' → Mv (rotf a m b) lo hi d d') ∧ Aside (SWK enc k w0 blk off dk wr))
  case atStart => exact ⟨m - a, b - m, d, by first | rfl | (rw [← z0_]) | (congr 1; omega), by first | rfl | (rw [← z1_]) | (congr 1; omega), by omega, by omega, Nat.le_refl _, Nat.le_refl _, by omega, rfl, (fun d' h => h.as (fun x => by rw [show m - (m - a) = a by omega, show m + (b - m) = b by omega])), S0⟩
  case round =>
    clear S0
    obtain ⟨i, j, dk, rfl, rfl, hi0, hj0, him, hjm, hkx, hds, hm, S1⟩ := hrel
    have x1 : (m : Int) - (i : Int) = ((m - i : Nat) : Int) := by omega
    by_cases c1 : i = j
    · subst c1
      have d1 : ((i : Int) != (i : Int)) = false := bne_self_eq_false _
      have hcall := fun W (SW_ : SWK enc k w0 blk off dk W) => swapRange HL.out g cb cap (m - i) m i lo hi dk W R (by omega) SW_ (by omega) (by omega) (by omega) (by omega) (by omega)
      rw [hds] at hcall
      have HC : Aside _ := hcall
      clear hcall
      go_wp2_with fail
      refine (HC.out _ S1.out).mono ?_
      rintro e w' ⟨rfl, d', M', S'⟩
      have S2 : Aside (SWK enc k w0 blk off d' w') := S'
      have M2 : Hid (Mv (rotf a m b) lo hi d d') := hm.out _ (M'.as (fun x => rot_eq (by omega) x))
      clear S' M' S1 hm
      go_wp2
      go_end0
      exact ⟨rfl, d', M2.out, S2.out⟩
    · have d1 : ((i : Int) != (j : Int)) = true := bne_iff_ne.2 (by omega)
      by_cases c2 : j < i
      · have d2 : decide ((i : Int) > (j : Int)) = true := decide_eq_true (by omega)
        have d3 : (j : Int) < (i : Int) := by omega
        have x2 : (i : Int) - (j : Int) = ((i - j : Nat) : Int) := by omega
        have hcall := fun W (SW_ : SWK enc k w0 blk off dk W) => swapRange HL.out g cb cap (m - i) m j lo hi dk W R (by omega) SW_ (by omega) (by omega) (by omega) (by omega) (by omega)
        rw [hds] at hcall
        have HC : Aside _ := hcall
        clear hcall
        go_wp2_with fail
        refine (HC.out _ S1.out).mono ?_
        rintro e w' ⟨rfl, d', M', S'⟩
        have S2 : Aside (SWK enc k w0 blk off d' w') := S'
        have hd' : d'.size = d.size := by rw [M'.size]; exact hds
        have M2 : Hid (∀ d'', Mv (rotf (m - (i - j)) m (m + j)) lo hi d' d'' → Mv (rotf a m b) lo hi d d'') := fun d'' h => hm.out _ ((M'.trans h).as (fun x => rot_gt c2 (by omega) x))
        clear S' M' S1 hm
        go_wp2
        go_roundg (i - j + j)
        case measure => omega
        case rel => exact ⟨i - j, j, d', by first | rfl | (rw [← x2]) | (congr 1; omega), rfl, by omega, hj0, by omega, hjm, Nat.le_refl _, hd', M2, S2⟩
      · have d2 : decide ((i : Int) > (j : Int)) = false := decide_eq_false (by omega)
        have d3 : ¬ (j : Int) < (i : Int) := by omega
        have x2 : (j : Int) - (i : Int) = ((j - i : Nat) : Int) := by omega
        have x3 : (m : Int) + (j : Int) - (i : Int) = ((m + j - i : Nat) : Int) := by omega
        have hcall := fun W (SW_ : SWK enc k w0 blk off dk W) => swapRange HL.out g cb cap (m - i) (m + j - i) i lo hi dk W R (by omega) SW_ (by omega) (by omega) (by omega) (by omega) (by omega)
        rw [hds] at hcall
        have HC : Aside _ := hcall
        clear hcall
        go_wp2_with fail
        refine (HC.out _ S1.out).mono ?_
        rintro e w' ⟨rfl, d', M', S'⟩
        have S2 : Aside (SWK enc k w0 blk off d' w') := S'
        have hd' : d'.size = d.size := by rw [M'.size]; exact hds
        have M2 : Hid (∀ d'', Mv (rotf (m - i) m (m + (j - i))) lo hi d' d'' → Mv (rotf a m b) lo hi d d'') := fun d'' h => hm.out _ ((M'.trans h).as (fun x => rot_lt (by omega) (by omega) x))
        clear S' M' S1 hm
        go_wp2
        go_roundg (i + (j - i))
        case measure => omega
        case rel => exact ⟨i, j - i, d', rfl, by first | rfl | (rw [← x2]) | (congr 1; omega), hi0, by omega, him, by omega, Nat.le_refl _, hd', M2, S2⟩
end
end Go.Proofs.Ytiaajmnmbjheoaa.Stable
