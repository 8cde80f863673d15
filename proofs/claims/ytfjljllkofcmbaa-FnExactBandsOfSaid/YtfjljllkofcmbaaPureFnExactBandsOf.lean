/- The program's BandsOf returns what the reference's returns, for all arguments. -/
import Derived.Test.YtfjljllkofcmbaaPFnExactBandsOfx2
set_option linter.unusedVariables false
set_option linter.unusedSimpArgs false
namespace Go.Proofs.Ytfjljllkofcmbaa.Pure
open Go.RowKit Go.Proofs.Ytfjljllkofcmbaa.PFnExactBandsOf Go.Proofs.YtfjljllkofcmbaaW.PrintWords Go.Proofs.YtfjljllkofcmbaaW.PrintLast

theorem FnExactBandsOf : laws_FnExactBandsOf.Pure := by
  intro a _
  refine ⟨20, ?_⟩
  by_cases h1 : a = 4
  · subst h1; decide +kernel
  · by_cases h2 : a = 8
    · subst h2; decide +kernel
    · by_cases h3 : a = 16
      · subst h3; decide +kernel
      · have e1 : spec_BandsOf.f a = some (3, []) := by simp [spec_BandsOf.f, spec_SizeFault.f, h1, h2, h3]
        have e2 : impl_BandsOf.f a = some (3, []) := by simp [impl_BandsOf.f, impl_SizeFault.f, h1, h2, h3]
        unfold laws_FnExactBandsOf.f
        rw [e1, e2]
        decide +kernel

end Go.Proofs.Ytfjljllkofcmbaa.Pure
