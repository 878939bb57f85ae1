/- The program's GoodFixed and the reference's answer alike at every whole number. No condition. -/
import Derived.Test.YtbmijcalkofegaaPFnExactGoodFixedx1
namespace Go.Proofs.Ytbmijcalkofegaa.Pure
open Go.RowKit Go.Proofs.Ytbmijcalkofegaa.PFnExactGoodFixed Go.Proofs.YtbmijcalkofegaaW.PrintWords Go.Proofs.YtbmijcalkofegaaW.PrintLast

theorem FnExactGoodFixed : laws_FnExactGoodFixed.Pure := by
  intro a _
  unfold laws_FnExactGoodFixed.f spec_GoodFixed.f impl_GoodFixed.f spec_l1In.f impl_inRange.f
  by_cases h : -1099511627776 ≤ a <;> simp [h]

end Go.Proofs.Ytbmijcalkofegaa.Pure
