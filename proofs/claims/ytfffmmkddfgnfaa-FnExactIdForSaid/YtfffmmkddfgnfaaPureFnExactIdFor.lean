/- WHAT IS PROVED: the program's IdFor answers what the reference's answers, for all pairs of 64-bit integers (no condition), as the law FnExactIdFor asks it: the pure part, over numbers alone. -/
import Derived.Test.YtfffmmkddfgnfaaPFnExactIdForx1
namespace Go.Proofs.Ytfffmmkddfgnfaa.Pure
open Go.RowKit Go.Proofs.Ytfffmmkddfgnfaa.PFnExactIdFor Go.Proofs.YtfffmmkddfgnfaaW.PrintWords Go.Proofs.YtfffmmkddfgnfaaW.PrintLast

theorem same_IdFor (a b : Int) : impl_IdFor.f a b = spec_IdFor.f a b := by
  unfold impl_IdFor.f spec_IdFor.f impl_isClient.f impl_within.f spec_l1In.f
  by_cases h1 : a ≥ 1 <;> by_cases h2 : b ≥ 1 <;> simp [h1, h2]

theorem some_IdFor (a b : Int) : ∃ r, spec_IdFor.f a b = some r := by
  unfold spec_IdFor.f spec_l1In.f
  by_cases h1 : a ≥ 1 <;> by_cases h2 : b ≥ 1 <;> by_cases h3 : a ≤ 999 <;> by_cases h4 : b ≤ 999 <;> simp [h1, h2, h3, h4]

theorem FnExactIdFor : laws_FnExactIdFor.Pure := by
  intro a b _ _
  obtain ⟨r, hr⟩ := some_IdFor a b
  unfold laws_FnExactIdFor.f laws_eqIntResult.f
  rw [same_IdFor, hr]
  simp

end Go.Proofs.Ytfffmmkddfgnfaa.Pure
