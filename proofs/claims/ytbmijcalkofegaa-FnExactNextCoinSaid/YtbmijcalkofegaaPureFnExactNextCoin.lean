/- The program's NextCoin and the reference's answer alike at every whole number. No condition. -/
import Derived.Test.YtbmijcalkofegaaPFnExactNextCoinx1
namespace Go.Proofs.Ytbmijcalkofegaa.Pure
open Go.RowKit Go.Proofs.Ytbmijcalkofegaa.PFnExactNextCoin Go.Proofs.YtbmijcalkofegaaW.PrintWords Go.Proofs.YtbmijcalkofegaaW.PrintLast

theorem wrap_small {i : Int} (h0 : -9223372036854775808 ≤ i) (h1 : i ≤ 9223372036854775807) : wrap64 i = i := by unfold wrap64; omega

theorem FnExactNextCoin : laws_FnExactNextCoin.Pure := by
  intro a _
  unfold laws_FnExactNextCoin.f spec_NextCoin.f impl_NextCoin.f spec_l1Seed.f impl_isSeed.f spec_l1In.f impl_inRange.f spec_l1Coin.f
  by_cases h : 0 ≤ a
  · by_cases h2 : a ≤ 2147483647 <;> simp [h, h2]
  · simp [h]

end Go.Proofs.Ytbmijcalkofegaa.Pure
