/- The program's SplitIndex returns what the reference's returns, for all arguments. -/
import Derived.Test.YtfjljllkofcmbaaPFnExactSplitIndexx1
set_option linter.unusedVariables false
set_option linter.unusedSimpArgs false
namespace Go.Proofs.Ytfjljllkofcmbaa.Pure
open Go.RowKit Go.Proofs.Ytfjljllkofcmbaa.PFnExactSplitIndex Go.Proofs.YtfjljllkofcmbaaW.PrintWords Go.Proofs.YtfjljllkofcmbaaW.PrintLast

/-- The two numbers of an index, rounded down. -/
def spl (q k : Int) (t : Bool) : Int × Int :=
  let p : Int × Int := if k = 1 then ((q + 1) / 2, q / 2) else if k = 2 then (if q % 3 = 1 then (q / 3, q / 3 + 1) else if q % 3 = 2 then (q / 3 + 1, q / 3) else (q / 3, q / 3)) else (q, q)
  if t = true then (p.2, p.1) else p
theorem spl_bound (q k : Int) (t : Bool) (h0 : -100000 ≤ q) (h1 : q ≤ 100000) : -100001 ≤ (spl q k t).1 ∧ (spl q k t).1 ≤ 100001 ∧ -100001 ≤ (spl q k t).2 ∧ (spl q k t).2 ≤ 100001 := by
  unfold spl
  by_cases c1 : k = 1
  · cases t <;> simp only [c1, if_true, Bool.false_eq_true, if_false] <;> omega
  · by_cases c2 : k = 2
    · by_cases c3 : q % 3 = 1
      · cases t <;> simp [c1, c2, c3] <;> omega
      · by_cases c4 : q % 3 = 2
        · cases t <;> simp [c1, c2, c3, c4] <;> omega
        · cases t <;> simp [c1, c2, c3, c4] <;> omega
    · cases t <;> simp [c1, c2] <;> omega
theorem w64 {n : Int} (h1 : -9223372036854775808 ≤ n) (h2 : n ≤ 9223372036854775807) : wrap64 n = n := by unfold wrap64; omega
theorem floorDiv_eq (a b : Int) (hb : 1 ≤ b) (h0 : -9223372036854775807 ≤ a) (h1 : a ≤ 9223372036854775807) (hb1 : b ≤ 9223372036854775807) : impl_floorDiv.f a b = some (a / b) := by
  unfold impl_floorDiv.f
  rw [if_neg (by omega)]
  have hq : -9223372036854775807 ≤ a / b ∧ a / b ≤ 9223372036854775807 := by
    have hm := Int.mul_ediv_add_emod a b
    have hr0 := Int.emod_nonneg a (show b ≠ 0 by omega)
    have hr1 := Int.emod_lt_of_pos a (show 0 < b by omega)
    rcases Int.lt_or_le a 0 with hneg | hpos
    · have h3 : a / b < 0 := Int.ediv_neg_of_neg_of_pos hneg (by omega)
      have h4 : a ≤ a / b := Int.le_ediv_of_mul_le (by omega) (by
        have : a * b ≤ a * 1 := Int.mul_le_mul_of_nonpos_left (by omega) (by omega)
        omega)
      omega
    · have h3 := Int.ediv_nonneg hpos (show 0 ≤ b by omega)
      have h4 := Int.ediv_le_self b hpos
      omega
  have hqr := Int.mul_tdiv_add_tmod a b
  have hm := Int.mul_ediv_add_emod a b
  have hr0 := Int.emod_nonneg a (show b ≠ 0 by omega)
  have hr1 := Int.emod_lt_of_pos a (show 0 < b by omega)
  rw [Int.tmod_eq_emod, Int.tdiv_eq_ediv]
  by_cases hc : 0 ≤ a ∨ b ∣ a
  · rw [if_pos hc, if_pos hc]
    simp only [Int.sub_zero, Int.add_zero]
    rw [if_neg (by have := hr0; omega)]
    rw [w64 (by omega) (by omega)]
  · rw [if_neg hc, if_neg hc]
    have hs : b.sign = 1 := Int.sign_eq_one_of_pos (by omega)
    have hbn : (b.natAbs : Int) = b := by omega
    rw [hs]
    rw [if_pos (by omega)]
    have : wrap64 (a / b + 1) = a / b + 1 := w64 (by omega) (by
      rcases Int.lt_or_le a 0 with hneg | hpos
      · have h3 : a / b < 0 := Int.ediv_neg_of_neg_of_pos hneg (by omega)
        omega
      · exact absurd (Or.inl hpos) hc)
    rw [this, w64 (by omega) (by omega)]
    congr 1; omega
theorem splitIndex_eq (q k : Int) (t : Bool) (h0 : -100000 ≤ q) (h1 : q ≤ 100000) : impl_splitIndex.f q k t = some (spl q k t) := by
  unfold impl_splitIndex.f spl
  by_cases c1 : k = 1
  · rw [if_pos c1, w64 (n := q + 1) (by omega) (by omega), floorDiv_eq (q + 1) 2 (by omega) (by omega) (by omega) (by omega), floorDiv_eq q 2 (by omega) (by omega) (by omega) (by omega)]
    cases t <;> simp [c1]
  · rw [if_neg c1]
    by_cases c2 : k = 2
    · rw [if_pos c2, floorDiv_eq q 3 (by omega) (by omega) (by omega) (by omega)]
      simp only [Option.bind_some]
      rw [w64 (n := 3 * (q / 3)) (by omega) (by omega), w64 (n := q - 3 * (q / 3)) (by omega) (by omega), w64 (n := q / 3 + 1) (by omega) (by omega)]
      have e : q - 3 * (q / 3) = q % 3 := by omega
      rw [e]
      by_cases c3 : q % 3 = 1
      · cases t <;> simp [c1, c2, c3]
      · by_cases c4 : q % 3 = 2
        · cases t <;> simp [c1, c2, c3, c4]
        · cases t <;> simp [c1, c2, c3, c4]
    · cases t <;> simp [c1, c2]
theorem inRange_eq (a b c : Int) : impl_inRange.f a b c = some (decide (b ≤ a ∧ a ≤ c)) := by
  unfold impl_inRange.f
  by_cases h : b ≤ a
  · rw [if_pos h]; simp [h]
  · rw [if_neg h]; simp [h]
theorem isSpread_eq (a : Int) : impl_isSpread.f a = some (decide (0 ≤ a ∧ a ≤ 2)) := by unfold impl_isSpread.f; rw [inRange_eq]; rfl
theorem within_eq (a b : Int) (h0 : 0 ≤ b) (h1 : b ≤ 9223372036854775807) : impl_within.f a b = some (decide (-b ≤ a ∧ a ≤ b)) := by
  unfold impl_within.f; rw [w64 (by omega) (by omega), inRange_eq]; rfl
theorem isIndexOf_eq (a : Int) : impl_isIndexOf.f a = some (decide (-30000 ≤ a ∧ a ≤ 30000)) := by unfold impl_isIndexOf.f; rw [within_eq _ _ (by decide) (by decide)]; rfl
/-- What SplitIndex answers. -/
def splitR (q k : Int) (t : Bool) : Int × Int × Int := if (0 ≤ k ∧ k ≤ 2) ∧ (-30000 ≤ q ∧ q ≤ 30000) then (0, (spl q k t).1, (spl q k t).2) else (3, 0, 0)
theorem SplitIndex_eq (q k : Int) (t : Bool) : impl_SplitIndex.f q k t = some (splitR q k t) := by
  unfold impl_SplitIndex.f splitR
  simp only [isSpread_eq, isIndexOf_eq, Option.bind_some, decide_eq_true_eq]
  by_cases h1 : 0 ≤ k ∧ k ≤ 2
  · by_cases h2 : -30000 ≤ q ∧ q ≤ 30000
    · rw [splitIndex_eq q k t (by omega) (by omega)]; simp [h1, h2]
    · simp [h1, h2]
  · simp [h1]
theorem ceil_alt (a b : Int) (hb : 1 ≤ b) : (a + b - 1) / b = -(-a / b) := by
  have h1 := Int.mul_ediv_add_emod (-a) b
  have hr0 := Int.emod_nonneg (-a) (show b ≠ 0 by omega)
  have hr1 := Int.emod_lt_of_pos (-a) (show 0 < b by omega)
  have e : a + b - 1 = (b - 1 - (-a) % b) + b * (-(-a / b)) := by
    have : b * (-(-a / b)) = -(b * (-a / b)) := by rw [Int.mul_neg]
    omega
  rw [e, Int.add_mul_ediv_left _ _ (by omega), Int.ediv_eq_zero_of_lt (by omega) (by omega)]
  omega
theorem l1Ceil_eq (a b : Int) (hb : 1 ≤ b) (h0 : 0 ≤ a) (h1 : a ≤ 4611686018427387904) (hb1 : b ≤ 4611686018427387903) : spec_l1Ceil.f a b = some (-(-a / b)) := by
  unfold spec_l1Ceil.f
  rw [if_neg (by omega), w64 (n := a + b) (by omega) (by omega), w64 (n := a + b - 1) (by omega) (by omega), Int.tdiv_eq_ediv_of_nonneg (by omega), ceil_alt a b hb]
  have hq : -a / b ≤ 0 := by have := Int.ediv_le_ediv (show 0 < b by omega) (show -a ≤ 0 by omega); simpa using this
  have h4 : -a ≤ -a / b := Int.le_ediv_of_mul_le (by omega) (by
        have : -a * b ≤ -a * 1 := Int.mul_le_mul_of_nonpos_left (by omega) (by omega)
        omega)
  rw [w64 (by omega) (by omega)]
theorem l1Floor_eq (a b : Int) (hb : 1 ≤ b) (h0 : -4611686018427387904 ≤ a) (h1 : a ≤ 4611686018427387904) (hb1 : b ≤ 4611686018427387903) : spec_l1Floor.f a b = some (a / b) := by
  unfold spec_l1Floor.f
  by_cases ha : a < 0
  · rw [if_pos ha, w64 (n := -a) (by omega) (by omega), l1Ceil_eq (-a) b hb (by omega) (by omega) hb1]
    simp only [Option.bind_some, Int.neg_neg]
    have h3 : a / b < 0 := Int.ediv_neg_of_neg_of_pos ha (by omega)
    have h4 : a ≤ a / b := Int.le_ediv_of_mul_le (by omega) (by
        have : a * b ≤ a * 1 := Int.mul_le_mul_of_nonpos_left (by omega) (by omega)
        omega)
    rw [w64 (by omega) (by omega)]
  · rw [if_neg ha, if_neg (by omega), Int.tdiv_eq_ediv_of_nonneg (by omega)]
    have h3 := Int.ediv_nonneg (show 0 ≤ a by omega) (show 0 ≤ b by omega)
    have h4 := Int.ediv_le_self b (show 0 ≤ a by omega)
    rw [w64 (by omega) (by omega)]
theorem l10Split_eq (q k : Int) (t : Bool) (h0 : -100000 ≤ q) (h1 : q ≤ 100000) (K : Nat) (hK : 1 ≤ K) : spec_l10Split.f K q k t = some (spl q k t) := by
  obtain ⟨K, rfl⟩ : ∃ m, K = m + 1 := ⟨K - 1, by omega⟩
  unfold spec_l10Split.f spl
  by_cases c1 : k = 1
  · rw [if_pos c1, w64 (n := q + 1) (by omega) (by omega), l1Floor_eq (q + 1) 2 (by omega) (by omega) (by omega) (by omega), l1Floor_eq q 2 (by omega) (by omega) (by omega) (by omega)]
    cases t <;> simp [c1]
  · rw [if_neg c1]
    by_cases c2 : k = 2
    · rw [if_pos c2, l1Floor_eq q 3 (by omega) (by omega) (by omega) (by omega)]
      simp only [Option.bind_some]
      rw [w64 (n := 3 * (q / 3)) (by omega) (by omega), w64 (n := 3 * (q / 3) + 1) (by omega) (by omega), w64 (n := q / 3 + 1) (by omega) (by omega)]
      simp only [spec_l10Split.j0]
      rw [w64 (n := 3 * (q / 3)) (by omega) (by omega), w64 (n := 3 * (q / 3) + 2) (by omega) (by omega), w64 (n := q / 3 + 1) (by omega) (by omega)]
      by_cases c3 : q % 3 = 1
      · rw [if_pos (show q = 3 * (q / 3) + 1 by omega), if_neg (show ¬ q = 3 * (q / 3) + 2 by omega)]
        cases t <;> simp [c1, c2, c3]
      · rw [if_neg (show ¬ q = 3 * (q / 3) + 1 by omega)]
        by_cases c4 : q % 3 = 2
        · rw [if_pos (show q = 3 * (q / 3) + 2 by omega)]
          cases t <;> simp [c1, c2, c3, c4]
        · rw [if_neg (show ¬ q = 3 * (q / 3) + 2 by omega)]
          cases t <;> simp [c1, c2, c3, c4]
    · cases t <;> simp [c1, c2]
theorem l1In_eq (a b c : Int) : spec_l1In.f a b c = some (decide (b ≤ a ∧ a ≤ c)) := by
  unfold spec_l1In.f
  by_cases h : a ≥ b
  · rw [if_pos h]; congr 1; have : b ≤ a := h; simp [this]
  · rw [if_neg h]; have : ¬ b ≤ a := h; simp [this]
theorem l10Spread_eq (a : Int) : spec_l10Spread.f a = some (decide (0 ≤ a ∧ a ≤ 2)) := by unfold spec_l10Spread.f; rw [l1In_eq]; rfl
theorem l10Index_eq (a : Int) : spec_l10Index.f a = some (decide (-30000 ≤ a ∧ a ≤ 30000)) := by unfold spec_l10Index.f; rw [l1In_eq]; rfl
theorem specSplitIndex_eq (q k : Int) (t : Bool) (K : Nat) (hK : 1 ≤ K) : spec_SplitIndex.f K q k t = some (splitR q k t) := by
  unfold spec_SplitIndex.f splitR
  simp only [l10Spread_eq, l10Index_eq, Option.bind_some, decide_eq_true_eq]
  by_cases h1 : 0 ≤ k ∧ k ≤ 2
  · by_cases h2 : -30000 ≤ q ∧ q ≤ 30000
    · rw [l10Split_eq q k t (by omega) (by omega) K hK]; simp [h1, h2]
    · simp [h1, h2]
  · simp [h1]
theorem eqPairResult_self (a b c : Int) : laws_eqPairResult.f a b c a b c = some true := by simp [laws_eqPairResult.f]
theorem FnExactSplitIndex : laws_FnExactSplitIndex.Pure := by
  intro a b t _ _
  refine ⟨2, ?_⟩
  unfold laws_FnExactSplitIndex.f
  rw [SplitIndex_eq, specSplitIndex_eq a b t 2 (by omega)]
  simp only [Option.bind_some]
  rw [eqPairResult_self]; rfl

end Go.Proofs.Ytfjljllkofcmbaa.Pure
