/- The program's LowCount returns what the reference's returns, for all arguments. -/
import Derived.Test.YtkjmakddpacffaaPFnExactLowCountx1
set_option linter.unusedVariables false
set_option linter.unusedSimpArgs false
namespace Go.Proofs.Ytkjmakddpacffaa.Pure
open Go.RowKit Go.Proofs.Ytkjmakddpacffaa.PFnExactLowCount Go.Proofs.YtkjmakddpacffaaW.PrintWords Go.Proofs.YtkjmakddpacffaaW.PrintLast

theorem eqIntResult_self (a b : Int) : laws_eqIntResult.f a b a b = some true := by simp [laws_eqIntResult.f]
theorem FnExactLowCount : laws_FnExactLowCount.Pure := by
  intro a _
  unfold laws_FnExactLowCount.f spec_LowCount.f impl_LowCount.f spec_SizeFault.f impl_SizeFault.f
  by_cases h1 : a = 4
  · subst h1; decide +kernel
  · by_cases h2 : a = 8
    · subst h2; decide +kernel
    · by_cases h3 : a = 16
      · subst h3; decide +kernel
      · simp [h1, h2, h3, eqIntResult_self]

end Go.Proofs.Ytkjmakddpacffaa.Pure
