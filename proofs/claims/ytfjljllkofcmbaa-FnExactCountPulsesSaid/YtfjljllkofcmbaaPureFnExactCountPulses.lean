/- The program's CountPulses returns what the reference's returns, for all arguments. -/
import Derived.Test.YtfjljllkofcmbaaPFnExactCountPulsesx1
set_option linter.unusedVariables false
set_option linter.unusedSimpArgs false
namespace Go.Proofs.Ytfjljllkofcmbaa.Pure
open Go.RowKit Go.Proofs.Ytfjljllkofcmbaa.PFnExactCountPulses Go.Proofs.YtfjljllkofcmbaaW.PrintWords Go.Proofs.YtfjljllkofcmbaaW.PrintLast

theorem inRange_eq (a b c : Int) : impl_inRange.f a b c = some (decide (b ≤ a ∧ a ≤ c)) := by
  unfold impl_inRange.f
  by_cases h : b ≤ a
  · rw [if_pos h]; simp [h]
  · rw [if_neg h]; simp [h]
theorem isDim_eq (a : Int) : impl_isDim.f a = some (decide (1 ≤ a ∧ a ≤ 4)) := by unfold impl_isDim.f; rw [inRange_eq]; rfl
theorem isPulses_eq (a : Int) : impl_isPulses.f a = some (decide (0 ≤ a ∧ a ≤ 8)) := by unfold impl_isPulses.f; rw [inRange_eq]; rfl
/-- How many pulses of k there are of a length. -/
def cnt : Nat → Nat → Nat
  | 0, k => if k = 0 then 1 else 0
  | d + 1, k => cnt d k + 2 * ((List.range k).map (cnt d)).sum
theorem countPulses_eq (d k : Int) (hd0 : 0 ≤ d) (hd1 : d ≤ 4) (hk0 : 0 ≤ k) (hk1 : k ≤ 8) (K : Nat) (hK : 120 ≤ K) : impl_countPulses.f K d k = some (cnt d.toNat k.toNat : Int) := by
  have key : ∀ d : Nat, d < 5 → ∀ k : Nat, k < 9 → impl_countPulses.f 120 (d : Int) (k : Int) = some (cnt d k : Int) := by decide +kernel
  have := key d.toNat (by omega) k.toNat (by omega)
  rw [Int.toNat_of_nonneg hd0, Int.toNat_of_nonneg hk0] at this
  exact at_rounds (g := fun K => impl_countPulses.f K d k) (impl_countPulses.mono d k) hK this
/-- What CountPulses answers. -/
def countR (d k : Int) : Int × Int := if (1 ≤ d ∧ d ≤ 4) ∧ (0 ≤ k ∧ k ≤ 8) then (0, (cnt d.toNat k.toNat : Int)) else (3, 0)
theorem CountPulses_eq (d k : Int) (K : Nat) (hK : 120 ≤ K) : impl_CountPulses.f K d k = some (countR d k) := by
  unfold impl_CountPulses.f countR
  simp only [isDim_eq, isPulses_eq, Option.bind_some, decide_eq_true_eq]
  by_cases h1 : 1 ≤ d ∧ d ≤ 4
  · by_cases h2 : 0 ≤ k ∧ k ≤ 8
    · simp [h1, h2, countPulses_eq d k (by omega) h1.2 h2.1 h2.2 K hK]
    · simp [h1, h2]
  · simp [h1]
theorem l1In_eq (a b c : Int) : spec_l1In.f a b c = some (decide (b ≤ a ∧ a ≤ c)) := by
  unfold spec_l1In.f
  by_cases h : a ≥ b
  · rw [if_pos h]; congr 1; have : b ≤ a := h; simp [this]
  · rw [if_neg h]; have : ¬ b ≤ a := h; simp [this]
theorem l11Ask_eq (a b : Int) : spec_l11Ask.f a b = some (decide ((1 ≤ a ∧ a ≤ 4) ∧ (0 ≤ b ∧ b ≤ 8))) := by
  unfold spec_l11Ask.f; simp only [l1In_eq, Option.bind_some]; by_cases h : 1 ≤ a ∧ a ≤ 4 <;> simp [h]
theorem l11Count_eq (d k : Int) (hd0 : 0 ≤ d) (hd1 : d ≤ 4) (hk0 : 0 ≤ k) (hk1 : k ≤ 8) (K : Nat) (hK : 120 ≤ K) : spec_l11Count.f K d k = some (cnt d.toNat k.toNat : Int) := by
  have key : ∀ d : Nat, d < 5 → ∀ k : Nat, k < 9 → spec_l11Count.f 120 (d : Int) (k : Int) = some (cnt d k : Int) := by decide +kernel
  have := key d.toNat (by omega) k.toNat (by omega)
  rw [Int.toNat_of_nonneg hd0, Int.toNat_of_nonneg hk0] at this
  exact at_rounds (g := fun K => spec_l11Count.f K d k) (spec_l11Count.mono d k) hK this
theorem specCountPulses_eq (d k : Int) (K : Nat) (hK : 120 ≤ K) : spec_CountPulses.f K d k = some (countR d k) := by
  unfold spec_CountPulses.f countR
  simp only [l11Ask_eq, Option.bind_some, decide_eq_true_eq]
  by_cases h1 : 1 ≤ d ∧ d ≤ 4
  · by_cases h2 : 0 ≤ k ∧ k ≤ 8
    · simp [h1, h2, l11Count_eq d k (by omega) h1.2 h2.1 h2.2 K hK]
    · simp [h1, h2]
  · simp [h1]
theorem eqIntResult_self (a b : Int) : laws_eqIntResult.f a b a b = some true := by simp [laws_eqIntResult.f]
theorem FnExactCountPulses : laws_FnExactCountPulses.Pure := by
  intro a b _ _
  refine ⟨120, ?_⟩
  unfold laws_FnExactCountPulses.f
  rw [CountPulses_eq a b 120 (by omega), specCountPulses_eq a b 120 (by omega)]
  simp [eqIntResult_self]

end Go.Proofs.Ytfjljllkofcmbaa.Pure
