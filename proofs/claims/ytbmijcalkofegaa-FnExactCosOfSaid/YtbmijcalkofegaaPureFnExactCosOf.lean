/- The program's CosOf and the reference's answer alike at every whole number. No condition. -/
import Derived.Test.YtbmijcalkofegaaPFnExactCosOfx1
namespace Go.Proofs.Ytbmijcalkofegaa.Pure
open Go.RowKit Go.Proofs.Ytbmijcalkofegaa.PFnExactCosOf Go.Proofs.YtbmijcalkofegaaW.PrintWords Go.Proofs.YtbmijcalkofegaaW.PrintLast Go.Proofs.YtbmijcalkofegaaW.PrintMore
/-! #### whole numbers: wraps, quotients towards nought -/
theorem wrap_small {i : Int} (h0 : -9223372036854775808 ≤ i) (h1 : i ≤ 9223372036854775807) : wrap64 i = i := by unfold wrap64; omega
theorem tdiv_pos {a b : Int} (ha : 0 ≤ a) : Int.tdiv a b = a / b := Int.tdiv_eq_ediv_of_nonneg ha
theorem tmod_pos {a b : Int} (ha : 0 ≤ a) : Int.tmod a b = a % b := Int.tmod_eq_emod_of_nonneg ha
theorem tdiv_neg' {a b : Int} (ha : a < 0) : Int.tdiv a b = -((-a) / b) := by
  rw [← Int.tdiv_eq_ediv_of_nonneg (a := -a) (by omega), Int.neg_tdiv, Int.neg_neg]
theorem tmod_neg' {a b : Int} (ha : a < 0) : Int.tmod a b = -((-a) % b) := by
  rw [← Int.tmod_eq_emod_of_nonneg (a := -a) (by omega), Int.neg_tmod, Int.neg_neg]
theorem wf64 {a : Int} (h : (Lit.int .i64 a).wf = true) : -9223372036854775808 ≤ a ∧ a ≤ 9223372036854775807 := by
  simp [Lit.wf, IntKind.min, IntKind.max, IntKind.signed, IntKind.bits] at h
  omega
/-! #### the sine -/
theorem spec_mod4096 {a : Int} (h0 : -9223372036854775808 ≤ a) (h1 : a ≤ 9223372036854775807) : spec_l1Mod.f a 4096 = some (a % 4096) := by
  unfold spec_l1Mod.f spec_l1Down.f
  rw [if_neg (by omega)]
  by_cases hs : 0 ≤ a
  · rw [tdiv_pos hs, tmod_pos hs]
    by_cases hm : a % 4096 = 0
    · rw [if_pos hm]; simp only [Option.bind_some]; congr 1; unfold wrap64; omega
    · rw [if_neg hm, if_neg (by simp; omega)]; simp only [Option.bind_some]; congr 1; unfold wrap64; omega
  · rw [tdiv_neg' (by omega), tmod_neg' (by omega)]
    by_cases hm : -(-a % 4096) = 0
    · rw [if_pos hm]; simp only [Option.bind_some]; congr 1; unfold wrap64; omega
    · rw [if_neg hm, if_pos (by simp; omega)]; simp only [Option.bind_some]; congr 1; unfold wrap64; omega
theorem impl_mod4096 {a : Int} (h0 : -9223372036854775808 ≤ a) (h1 : a ≤ 9223372036854775807) : impl_mod.f a 4096 = some (a % 4096) := by
  unfold impl_mod.f
  rw [if_neg (by omega)]
  congr 1
  by_cases hs : 0 ≤ a
  · rw [tmod_pos hs, wrap_small (by omega) (by omega), tmod_pos (by omega)]; omega
  · rw [tmod_neg' (a := a) (by omega), wrap_small (by omega) (by omega), tmod_pos (by omega)]; omega
/-- The sine of whatever angle, as both say it. -/
def sinV (a : Int) : Int := if a % 4096 < 2048 then impl_SinOf.g (a % 4096) else -(impl_SinOf.g (a % 4096 - 2048))
theorem sinV_range (a : Int) : -65536 ≤ sinV a ∧ sinV a ≤ 65536 := by
  unfold sinV
  split
  · have := impl_SinOf.range (a % 4096) (by omega) (by omega); omega
  · have := impl_SinOf.range (a % 4096 - 2048) (by omega) (by omega); omega
theorem impl_sin {a : Int} (h0 : -9223372036854775808 ≤ a) (h1 : a ≤ 9223372036854775807) : impl_SinOf.f a = some (sinV a) := by
  unfold impl_SinOf.f sinV
  rw [impl_mod4096 h0 h1]
  simp only [Option.bind_some]
  split <;> rfl
theorem tab_range (q : Int) : 0 ≤ impl_SinOf.tab q ∧ impl_SinOf.tab q ≤ 65536 := by
  unfold impl_SinOf.tab rd
  have h : ∀ x ∈ ([0, 6424, 12785, 19024, 25080, 30893, 36410, 41576, 46341, 50660, 54491, 57798, 60547, 62714, 64277, 65220, 65536] : List Int), 0 ≤ x ∧ x ≤ 65536 := by decide
  rcases Nat.lt_or_ge q.toNat ([0, 6424, 12785, 19024, 25080, 30893, 36410, 41576, 46341, 50660, 54491, 57798, 60547, 62714, 64277, 65220, 65536] : List Int).length with hl | hl
  · rw [List.getD_eq_getElem?_getD, List.getElem?_eq_getElem hl]
    exact h _ (List.getElem_mem hl)
  · rw [List.getD_eq_getElem?_getD, List.getElem?_eq_none hl]
    exact ⟨by decide, by decide⟩
theorem interp {s t r : Int} (hs0 : 0 ≤ s) (hs1 : s ≤ 65536) (ht0 : 0 ≤ t) (ht1 : t ≤ 65536) (hr0 : 0 ≤ r) (hr1 : r < 64) :
    wrap64 ((wrap64 (wrap64 (wrap64 (s * wrap64 (64 - r)) + wrap64 (t * r)) + 32)).tdiv 64) = (s * (64 - r) + t * r + 32) / 64 := by
  have a0 : 0 ≤ s * (64 - r) := Int.mul_nonneg hs0 (by omega)
  have a1 : s * (64 - r) ≤ 65536 * 64 := Int.mul_le_mul hs1 (by omega) (by omega) (by omega)
  have b0 : 0 ≤ t * r := Int.mul_nonneg ht0 hr0
  have b1 : t * r ≤ 65536 * 64 := Int.mul_le_mul ht1 (by omega) hr0 (by omega)
  rw [wrap_small (i := 64 - r) (by omega) (by omega), wrap_small (i := s * (64 - r)) (by omega) (by omega), wrap_small (i := t * r) (by omega) (by omega)]
  rw [wrap_small (i := s * (64 - r) + t * r) (by omega) (by omega), wrap_small (i := s * (64 - r) + t * r + 32) (by omega) (by omega), tdiv_pos (by omega), wrap_small (by omega) (by omega)]
theorem spec_sin_low {a : Int} (h0 : 0 ≤ a) (h1 : a ≤ 1024) (k : Nat) : spec_SinOf.f (k + 1) a = some (impl_SinOf.lin a) := by
  simp only [spec_SinOf.f]
  rw [spec_mod4096 (by omega) (by omega), show a % 4096 = a by omega]
  simp only [Option.bind_some]
  rw [if_neg (by omega), if_neg (by omega)]
  unfold impl_SinOf.lin
  by_cases e : a = 1024
  · rw [if_pos e, if_pos e]
  · rw [if_neg e, if_neg e]
    unfold spec_l1Table.f
    simp only [Option.bind_some]
    rw [tdiv_pos h0, tmod_pos h0, wrap_small (i := a / 64) (by omega) (by omega), wrap_small (i := a / 64 + 1) (by omega) (by omega), if_pos (by omega), if_pos (by simp; omega), if_pos (by omega), if_pos (by simp; omega)]
    congr 1
    exact interp (tab_range _).1 (tab_range _).2 (tab_range _).1 (tab_range _).2 (by omega) (by omega)
theorem spec_sin_mid {a : Int} (h0 : 0 ≤ a) (h1 : a < 2048) (k : Nat) : spec_SinOf.f (k + 2) a = some (impl_SinOf.g a) := by
  unfold impl_SinOf.g
  by_cases c : a > 1024
  · rw [if_pos c]
    rw [spec_SinOf.f, spec_mod4096 (by omega) (by omega), show a % 4096 = a by omega]
    simp only [Option.bind_some]
    rw [if_neg (by omega), if_pos c, wrap_small (by omega) (by omega), spec_sin_low (by omega) (by omega) k]
    rfl
  · rw [if_neg c, spec_sin_low h0 (by omega) (k + 1)]
theorem spec_sin {a : Int} (h0 : -9223372036854775808 ≤ a) (h1 : a ≤ 9223372036854775807) (k : Nat) : spec_SinOf.f (k + 3) a = some (sinV a) := by
  unfold sinV
  by_cases c : a % 4096 < 2048
  · rw [if_pos c]
    have e : spec_SinOf.f (k + 3) a = spec_SinOf.f (k + 3) (a % 4096) := by
      rw [spec_SinOf.f, spec_SinOf.f, spec_mod4096 h0 h1, spec_mod4096 (by omega) (by omega), Int.emod_emod_of_dvd _ (Int.dvd_refl 4096)]
    rw [e, spec_sin_mid (by omega) c (k + 1)]
  · rw [if_neg c]
    rw [spec_SinOf.f, spec_mod4096 h0 h1]
    simp only [Option.bind_some]
    rw [if_pos (by omega), wrap_small (by omega) (by omega), spec_sin_mid (by omega) (by omega) k]
    have := impl_SinOf.range (a % 4096 - 2048) (by omega) (by omega)
    simp only [Option.bind_some]
    rw [wrap_small (by omega) (by omega)]
theorem FnExactCosOf : laws_FnExactCosOf.Pure := by
  intro a ha
  obtain ⟨h0, h1⟩ := wf64 ha
  refine ⟨3, ?_⟩
  unfold laws_FnExactCosOf.f spec_CosOf.f impl_CosOf.f
  rw [spec_mod4096 h0 h1, impl_mod4096 h0 h1]
  simp only [Option.bind_some]
  rw [spec_sin (by unfold wrap64; omega) (by unfold wrap64; omega) 0, impl_sin (by unfold wrap64; omega) (by unfold wrap64; omega)]
  simp
end Go.Proofs.Ytbmijcalkofegaa.Pure
