/- The program's Quantize returns what the reference's returns, for all arguments. -/
import Derived.Test.YtfjljllkofcmbaaPFnExactQuantizex1
set_option linter.unusedVariables false
set_option linter.unusedSimpArgs false
namespace Go.Proofs.Ytfjljllkofcmbaa.Pure
open Go.RowKit Go.Proofs.Ytfjljllkofcmbaa.PFnExactQuantize Go.Proofs.YtfjljllkofcmbaaW.PrintWords Go.Proofs.YtfjljllkofcmbaaW.PrintLast

theorem inRange_eq (a b c : Int) : impl_inRange.f a b c = some (decide (b ≤ a ∧ a ≤ c)) := by
  unfold impl_inRange.f
  by_cases h : b ≤ a
  · rw [if_pos h]; simp [h]
  · rw [if_neg h]; simp [h]
theorem isRung_eq (a : Int) : impl_isRung.f a = some (decide (0 ≤ a ∧ a ≤ 47)) := by unfold impl_isRung.f; rw [inRange_eq]; rfl
theorem w64 {n : Int} (h1 : -9223372036854775808 ≤ n) (h2 : n ≤ 9223372036854775807) : wrap64 n = n := by unfold wrap64; omega
theorem within_eq (a b : Int) (h0 : 0 ≤ b) (h1 : b ≤ 9223372036854775807) : impl_within.f a b = some (decide (-b ≤ a ∧ a ≤ b)) := by
  unfold impl_within.f; rw [w64 (by omega) (by omega), inRange_eq]; rfl
theorem isCoef_eq (a : Int) : impl_isCoef.f a = some (decide (-16777216 ≤ a ∧ a ≤ 16777216)) := by unfold impl_isCoef.f; rw [within_eq _ _ (by decide) (by decide)]; rfl
/-- The step of a rung. -/
def stp (r : Int) : Int := if r ≤ 0 then 1 else if r % 2 = 1 then 2 ^ ((r + 1) / 2).toNat else 3 * 2 ^ (r / 2 - 1).toNat
theorem stp_pos (r : Int) (h0 : 0 ≤ r) (h1 : r ≤ 47) : 1 ≤ stp r ∧ stp r ≤ 16777216 := by
  have key : ∀ n : Nat, n < 48 → 1 ≤ stp (n : Int) ∧ stp (n : Int) ≤ 16777216 := by decide +kernel
  have := key r.toNat (by omega)
  rwa [Int.toNat_of_nonneg h0] at this
theorem stp_lt (r : Int) (h0 : 0 ≤ r) (h1 : r < 47) : stp r < stp (r + 1) := by
  have key : ∀ n : Nat, n < 47 → stp (n : Int) < stp ((n : Int) + 1) := by decide +kernel
  have := key r.toNat (by omega)
  rwa [Int.toNat_of_nonneg h0] at this
theorem stepOf_eq (r : Int) (h0 : 0 ≤ r) (h1 : r ≤ 47) : impl_stepOf.f r = some (stp r) := by
  have key : ∀ n : Nat, n < 48 → impl_stepOf.f (n : Int) = some (stp (n : Int)) := by decide +kernel
  have := key r.toNat (by omega)
  rwa [Int.toNat_of_nonneg h0] at this
/-- The integer nearest to a / b; of two, the one farther from 0. -/
def rdv (a b : Int) : Int := if a < 0 then -((2 * -a + b) / (2 * b)) else (2 * a + b) / (2 * b)
theorem rdq (a b : Int) (ha : 0 ≤ a) (hb : 1 ≤ b) : 0 ≤ (2 * a + b) / (2 * b) ∧ (2 * a + b) / (2 * b) ≤ a + 1 := by
  refine ⟨Int.ediv_nonneg (by omega) (by omega), ?_⟩
  have h : (2 * a + b) / (2 * b) < a + 2 := by
    apply Int.ediv_lt_of_lt_mul (by omega)
    have h2 : (a + 2) * (2 * b) = 2 * (a * b) + 4 * b := by rw [Int.add_mul]; rw [show a * (2 * b) = 2 * (a * b) by rw [← Int.mul_assoc, Int.mul_comm a 2, Int.mul_assoc]]; omega
    have h3 : a * 1 ≤ a * b := Int.mul_le_mul_of_nonneg_left hb ha
    omega
  omega
theorem rdv_bound (a b : Int) (hb : 1 ≤ b) : (a < 0 → a - 1 ≤ rdv a b ∧ rdv a b ≤ 0) ∧ (0 ≤ a → 0 ≤ rdv a b ∧ rdv a b ≤ a + 1) := by
  unfold rdv
  refine ⟨fun h => ?_, fun h => ?_⟩
  · rw [if_pos h]; have := rdq (-a) b (by omega) hb; omega
  · rw [if_neg (by omega)]; exact rdq a b h hb
theorem rdv_neg (a b : Int) (h : 0 < a) : rdv (-a) b = -rdv a b := by
  unfold rdv; rw [if_pos (by omega), if_neg (by omega), Int.neg_neg]
theorem roundDiv_eq (a b : Int) (h0 : -1000000000000000000 ≤ a) (h1 : a ≤ 1000000000000000000) (hb0 : 1 ≤ b) (hb1 : b ≤ 1000000000000000000) (k : Nat) (hk : 2 ≤ k) : impl_roundDiv.f k a b = some (rdv a b) := by
  have pos : ∀ (k : Nat) (a : Int), 0 ≤ a → a ≤ 1000000000000000000 → 1 ≤ k → impl_roundDiv.f k a b = some ((2 * a + b) / (2 * b)) := by
    intro k a ha ha1 hk
    obtain ⟨k, rfl⟩ : ∃ m, k = m + 1 := ⟨k - 1, by omega⟩
    unfold impl_roundDiv.f
    have hq := rdq a b ha hb0
    rw [if_neg (by omega), w64 (n := 2 * b) (by omega) (by omega), if_neg (by omega), w64 (n := 2 * a) (by omega) (by omega), w64 (n := 2 * a + b) (by omega) (by omega), Int.tdiv_eq_ediv_of_nonneg (by omega), w64 (by omega) (by omega)]
  obtain ⟨k, rfl⟩ : ∃ m, k = m + 1 := ⟨k - 1, by omega⟩
  unfold rdv
  by_cases ha : a < 0
  · unfold impl_roundDiv.f
    rw [if_pos ha, w64 (n := -a) (by omega) (by omega), pos k (-a) (by omega) (by omega) (by omega), if_pos ha]
    have hq := rdq (-a) b (by omega) hb0
    simp only [Option.bind_some]
    rw [w64 (by omega) (by omega)]
  · rw [if_neg ha]; exact pos _ a (by omega) h1 (by omega)
/-- What Quantize answers. -/
def quantR (c r : Int) : Int × Int := if (0 ≤ r ∧ r ≤ 47) ∧ (-16777216 ≤ c ∧ c ≤ 16777216) then (0, rdv c (stp r)) else (3, 0)
theorem Quantize_eq (c r : Int) (k : Nat) (hk : 40 ≤ k) : impl_Quantize.f k c r = some (quantR c r) := by
  obtain ⟨k, rfl⟩ : ∃ m, k = m + 1 := ⟨k - 1, by omega⟩
  unfold impl_Quantize.f quantR
  simp only [isRung_eq, isCoef_eq, Option.bind_some, decide_eq_true_eq, impl_Quantize.j0]
  by_cases h1 : 0 ≤ r ∧ r ≤ 47
  · have hs := stp_pos r h1.1 h1.2
    by_cases h2 : -16777216 ≤ c ∧ c ≤ 16777216
    · simp [h1, h2, stepOf_eq r h1.1 h1.2, roundDiv_eq c (stp r) (by omega) (by omega) (by omega) (by omega) k (by omega)]
    · simp [h1, h2]
  · simp [h1]
theorem l1In_eq (a b c : Int) : spec_l1In.f a b c = some (decide (b ≤ a ∧ a ≤ c)) := by
  unfold spec_l1In.f
  by_cases h : a ≥ b
  · rw [if_pos h]; congr 1; have : b ≤ a := h; simp [this]
  · rw [if_neg h]; have : ¬ b ≤ a := h; simp [this]
theorem l9Rung_eq (a : Int) : spec_l9Rung.f a = some (decide (0 ≤ a ∧ a ≤ 47)) := by unfold spec_l9Rung.f; rw [l1In_eq]; rfl
theorem l9Coef_eq (a : Int) : spec_l9Coef.f a = some (decide (-16777216 ≤ a ∧ a ≤ 16777216)) := by unfold spec_l9Coef.f; rw [l1In_eq]; rfl
theorem l9Step_eq (r : Int) (h0 : 0 ≤ r) (h1 : r ≤ 47) (k : Nat) (hk : 30 ≤ k) : spec_l9Step.f k r = some (stp r) := by
  have key : ∀ n : Nat, n < 48 → spec_l9Step.f 30 (n : Int) = some (stp (n : Int)) := by decide +kernel
  have := key r.toNat (by omega)
  rw [Int.toNat_of_nonneg h0] at this
  exact at_rounds (g := fun k => spec_l9Step.f k r) (spec_l9Step.mono r) hk this

theorem l1Round_eq (a b : Int) (h0 : -1000000000000000000 ≤ a) (h1 : a ≤ 1000000000000000000) (hb0 : 1 ≤ b) (hb1 : b ≤ 1000000000000000000) (k : Nat) (hk : 2 ≤ k) : spec_l1Round.f k a b = some (rdv a b) := by
  have pos : ∀ (k : Nat) (a : Int), 0 ≤ a → a ≤ 1000000000000000000 → 1 ≤ k → spec_l1Round.f k a b = some ((2 * a + b) / (2 * b)) := by
    intro k a ha ha1 hk
    obtain ⟨k, rfl⟩ : ∃ m, k = m + 1 := ⟨k - 1, by omega⟩
    unfold spec_l1Round.f
    have hq := rdq a b ha hb0
    rw [if_neg (by omega), w64 (n := 2 * b) (by omega) (by omega), if_neg (by omega), w64 (n := 2 * a) (by omega) (by omega), w64 (n := 2 * a + b) (by omega) (by omega), Int.tdiv_eq_ediv_of_nonneg (by omega), w64 (by omega) (by omega)]
  obtain ⟨k, rfl⟩ : ∃ m, k = m + 1 := ⟨k - 1, by omega⟩
  unfold rdv
  by_cases ha : a < 0
  · unfold spec_l1Round.f
    rw [if_pos ha, w64 (n := -a) (by omega) (by omega), pos k (-a) (by omega) (by omega) (by omega), if_pos ha]
    have hq := rdq (-a) b (by omega) hb0
    simp only [Option.bind_some]
    rw [w64 (by omega) (by omega)]
  · rw [if_neg ha]; exact pos _ a (by omega) h1 (by omega)
theorem specQuantize_eq (c r : Int) (k : Nat) (hk : 40 ≤ k) : spec_Quantize.f k c r = some (quantR c r) := by
  obtain ⟨k, rfl⟩ : ∃ m, k = m + 1 := ⟨k - 1, by omega⟩
  unfold spec_Quantize.f quantR
  simp only [l9Rung_eq, l9Coef_eq, Option.bind_some, decide_eq_true_eq, spec_Quantize.j0]
  by_cases h1 : 0 ≤ r ∧ r ≤ 47
  · have hs := stp_pos r h1.1 h1.2
    by_cases h2 : -16777216 ≤ c ∧ c ≤ 16777216
    · simp [h1, h2, l9Step_eq r h1.1 h1.2 k (by omega), l1Round_eq c (stp r) (by omega) (by omega) (by omega) (by omega) k (by omega)]
    · simp [h1, h2]
  · simp [h1]
theorem eqIntResult_self (a b : Int) : laws_eqIntResult.f a b a b = some true := by simp [laws_eqIntResult.f]
theorem FnExactQuantize : laws_FnExactQuantize.Pure := by
  intro a b _ _
  refine ⟨40, ?_⟩
  unfold laws_FnExactQuantize.f
  rw [Quantize_eq a b 40 (by omega), specQuantize_eq a b 40 (by omega)]
  simp [eqIntResult_self]

end Go.Proofs.Ytfjljllkofcmbaa.Pure
