/- The program's PulsesAt returns what the reference's returns, for all arguments. -/
import Derived.Test.YtoepnammegcjeaaPFnExactPulsesAtx3
set_option linter.unusedVariables false
set_option linter.unusedSimpArgs false
namespace Go.Proofs.Ytoepnammegcjeaa.Pure
open Go.RowKit Go.Proofs.Ytoepnammegcjeaa.PFnExactPulsesAt Go.Proofs.YtoepnammegcjeaaW.PrintWords Go.Proofs.YtoepnammegcjeaaW.PrintLast

theorem inRange_eq (a b c : Int) : impl_inRange.f a b c = some (decide (b ≤ a ∧ a ≤ c)) := by
  unfold impl_inRange.f
  by_cases h : b ≤ a
  · rw [if_pos h]; simp [h]
  · rw [if_neg h]; simp [h]
theorem isDim_eq (a : Int) : impl_isDim.f a = some (decide (1 ≤ a ∧ a ≤ 4)) := by unfold impl_isDim.f; rw [inRange_eq]; rfl
theorem isPulses_eq (a : Int) : impl_isPulses.f a = some (decide (0 ≤ a ∧ a ≤ 8)) := by unfold impl_isPulses.f; rw [inRange_eq]; rfl
/-- How many pulses of k there are of a length. -/
def cnt : Nat → Nat → Nat
  | 0, k => if k = 0 then 1 else 0
  | d + 1, k => cnt d k + 2 * ((List.range k).map (cnt d)).sum
theorem countPulses_eq (d k : Int) (hd0 : 0 ≤ d) (hd1 : d ≤ 4) (hk0 : 0 ≤ k) (hk1 : k ≤ 8) (K : Nat) (hK : 120 ≤ K) : impl_countPulses.f K d k = some (cnt d.toNat k.toNat : Int) := by
  have key : ∀ d : Nat, d < 5 → ∀ k : Nat, k < 9 → impl_countPulses.f 120 (d : Int) (k : Int) = some (cnt d k : Int) := by decide +kernel
  have := key d.toNat (by omega) k.toNat (by omega)
  rw [Int.toNat_of_nonneg hd0, Int.toNat_of_nonneg hk0] at this
  exact at_rounds (g := fun K => impl_countPulses.f K d k) (impl_countPulses.mono d k) hK this
/-- How many pulses of k there are with m numbers behind a first one that is j - k. -/
def cw (m k j : Nat) : Int := (cnt m (k - ((j : Int) - k).natAbs) : Int)
/-- How many with a first number below j - k. -/
def hs (m k : Nat) : Nat → Int
  | 0 => 0
  | j + 1 => hs m k j + cw m k j
theorem hs_succ (m k j : Nat) : hs m k (j + 1) = hs m k j + cw m k j := rfl
theorem hs_total (m k : Nat) (hm : m ≤ 3) (hk : k ≤ 8) : hs m k (2 * k + 1) = (cnt (m + 1) k : Int) := by
  have key : ∀ m : Nat, m < 4 → ∀ k : Nat, k < 9 → hs m k (2 * k + 1) = (cnt (m + 1) k : Int) := by decide +kernel
  exact key m (by omega) k (by omega)
theorem cnt_le (m k : Nat) (hm : m ≤ 4) (hk : k ≤ 8) : cnt m k ≤ 10000 := by
  have key : ∀ m : Nat, m < 5 → ∀ k : Nat, k < 9 → cnt m k ≤ 10000 := by decide +kernel
  exact key m (by omega) k (by omega)
theorem cw_nonneg (m k j : Nat) : 0 ≤ cw m k j := by unfold cw; omega
theorem hs_mono (m k : Nat) : ∀ i j : Nat, i ≤ j → hs m k i ≤ hs m k j := by
  intro i j h
  induction j with
  | zero => obtain rfl : i = 0 := by omega
            exact Int.le_refl _
  | succ j ih =>
    by_cases e : i = j + 1
    · subst e; exact Int.le_refl _
    · have := ih (by omega); have := cw_nonneg m k j; simp only [hs]; omega
/-- From first number j - k on: the first number of the pulses of a number, and what is left of it. -/
def atJ (m k : Nat) : Nat → Nat → Int → Nat × Int
  | 0, j, i => (j, i)
  | n + 1, j, i => if i ≥ cw m k j then atJ m k n (j + 1) (i - cw m k j) else (j, i)
theorem atJ_spec (m k : Nat) : ∀ (n j : Nat) (i : Int), j + n = 2 * k + 1 → 0 ≤ i → i < hs m k (2 * k + 1) - hs m k j →
    hs m k (atJ m k n j i).1 + (atJ m k n j i).2 = hs m k j + i ∧ 0 ≤ (atJ m k n j i).2 ∧ (atJ m k n j i).2 < cw m k (atJ m k n j i).1 ∧ (atJ m k n j i).1 ≤ 2 * k ∧ j ≤ (atJ m k n j i).1 := by
  intro n
  induction n with
  | zero =>
    intro j i hj h0 h1
    obtain rfl : j = 2 * k + 1 := by omega
    omega
  | succ n ih =>
    intro j i hj h0 h1
    simp only [atJ]
    by_cases c : i ≥ cw m k j
    · rw [if_pos c]
      have h := ih (j + 1) (i - cw m k j) (by omega) (by omega) (by rw [hs_succ m k j]; omega)
      rw [hs_succ m k j] at h
      refine ⟨by omega, h.2.1, h.2.2.1, h.2.2.2.1, by omega⟩
    · rw [if_neg c]
      refine ⟨rfl, h0, by simp only; omega, by simp only; omega, Nat.le_refl _⟩
theorem atJ_back (m k : Nat) (J : Nat) (I : Int) (h0 : 0 ≤ I) (h1 : I < cw m k J) : ∀ (n j : Nat), j ≤ J → J < j + n → atJ m k n j (hs m k J - hs m k j + I) = (J, I) := by
  intro n
  induction n with
  | zero => intro j h2 h3; omega
  | succ n ih =>
    intro j h2 h3
    simp only [atJ]
    by_cases e : j = J
    · subst e; rw [if_neg (by omega)]; congr 1; omega
    · have hm := hs_mono m k (j + 1) J (by omega)
      simp only [hs] at hm
      rw [if_pos (by omega)]
      have := ih (j + 1) (by omega) (by omega)
      rw [hs_succ m k j] at this
      rw [← this]; congr 1; omega
/-- The pulses of a number. -/
def atL : Nat → Nat → Int → List Int
  | 0, _, _ => []
  | m + 1, k, i => (((atJ m k (2 * k + 1) 0 i).1 : Int) - k) :: atL m (k - (((atJ m k (2 * k + 1) 0 i).1 : Int) - k).natAbs) (atJ m k (2 * k + 1) 0 i).2
theorem atL_length : ∀ (m k : Nat) (i : Int), (atL m k i).length = m
  | 0, _, _ => rfl
  | m + 1, k, i => by simp only [atL, List.length_cons, atL_length m]
theorem w64 {n : Int} (h1 : -9223372036854775808 ≤ n) (h2 : n ≤ 9223372036854775807) : wrap64 n = n := by unfold wrap64; omega
theorem abs_eq (x : Int) (h0 : -9223372036854775807 ≤ x) (h1 : x ≤ 9223372036854775807) : impl_abs.f x = some (x.natAbs : Int) := by
  unfold impl_abs.f mx; rw [w64 (by omega) (by omega)]; congr 1; split <;> omega
theorem pulsesAt_l1 (m k : Nat) (hm : m ≤ 3) (hk : k ≤ 8) (acc : List Int) (ha : acc.length ≤ 100) (R : List Int) (K0 : Nat) : ∀ (n j : Nat) (i : Int) (K : Nat), j + n = 2 * k → 0 ≤ i → i < hs m k (2 * k + 1) - hs m k j → K0 + n + 130 ≤ K →
    impl_pulsesAt.l0 K0 ((k - (((atJ m k (n + 1) j i).1 : Int) - k).natAbs : Nat) : Int) (atJ m k (n + 1) j i).2 (acc ++ [((atJ m k (n + 1) j i).1 : Int) - k]) ((m : Int) - 1) = some R →
    impl_pulsesAt.l1 K (k : Int) i acc (m : Int) ((j : Int) - k) (cw m k j) = some R := by
  intro n
  induction n with
  | zero =>
    intro j i K hj h0 h1 hK h
    obtain ⟨K, rfl⟩ : ∃ q, K = q + 1 := ⟨K - 1, by omega⟩
    obtain rfl : j = 2 * k := by omega
    simp only [hs] at h1
    have e : atJ m k (0 + 1) (2 * k) i = (2 * k, i) := by simp only [atJ]; rw [if_neg (by omega)]
    rw [e] at h
    simp only [impl_pulsesAt.l1]
    rw [if_neg (by omega), if_pos (by omega), abs_eq _ (by omega) (by omega)]
    simp only [Option.bind_some]
    rw [w64 (n := (k : Int) - _) (by omega) (by omega), w64 (n := (m : Int) - 1) (by omega) (by omega)]
    refine at_rounds (g := fun K => impl_pulsesAt.l0 K _ _ _ _) (fun K => (impl_pulsesAt.mono_l K).1 _ _ _ _) (show K0 ≤ K by omega) ?_
    rw [← h]; congr 1; simp only; omega
  | succ n ih =>
    intro j i K hj h0 h1 hK h
    obtain ⟨K, rfl⟩ : ∃ q, K = q + 1 := ⟨K - 1, by omega⟩
    simp only [impl_pulsesAt.l1]
    have hb : cw m k j ≤ 10000 := by have := cnt_le m (k - ((j : Int) - k).natAbs) (by omega) (by omega); unfold cw; omega
    have hn := cw_nonneg m k j
    have hm1 := hs_mono m k j (2 * k + 1) (by omega)
    have htot := hs_total m k hm hk
    have htb := cnt_le (m + 1) k (by omega) hk
    have hz := hs_mono m k 0 j (by omega)
    have hz0 : hs m k 0 = 0 := rfl
    by_cases c : i ≥ cw m k j
    · have e : atJ m k (n + 1 + 1) j i = atJ m k (n + 1) (j + 1) (i - cw m k j) := by rw [atJ, if_pos c]
      rw [e] at h
      rw [if_pos c, w64 (n := (j : Int) - k + 1) (by omega) (by omega), abs_eq _ (by omega) (by omega)]
      simp only [Option.bind_some]
      rw [w64 (n := (k : Int) - _) (by omega) (by omega), countPulses_eq (m : Int) _ (by omega) (by omega) (by omega) (by omega) K (by omega), w64 (n := i - cw m k j) (by omega) (by omega)]
      simp only [Option.bind_some]
      have := ih (j + 1) (i - cw m k j) K (by omega) (by omega) (by rw [hs_succ m k j]; omega) (by omega) h
      rw [← this]
      congr 1
      · omega
      · unfold cw; congr 1; congr 1; omega
    · have e : atJ m k (n + 1 + 1) j i = (j, i) := by rw [atJ, if_neg c]
      rw [e] at h
      rw [if_neg c, if_pos (by omega), abs_eq _ (by omega) (by omega)]
      simp only [Option.bind_some]
      rw [w64 (n := (k : Int) - _) (by omega) (by omega), w64 (n := (m : Int) - 1) (by omega) (by omega)]
      refine at_rounds (g := fun K => impl_pulsesAt.l0 K _ _ _ _) (fun K => (impl_pulsesAt.mono_l K).1 _ _ _ _) (show K0 ≤ K by omega) ?_
      rw [← h]; congr 1; simp only; omega
theorem pulsesAt_l0 : ∀ (m k : Nat) (i : Int) (acc : List Int) (K : Nat), m ≤ 4 → k ≤ 8 → 0 ≤ i → i < (cnt m k : Int) → acc.length + m ≤ 100 → 200 * m + 1 ≤ K →
    impl_pulsesAt.l0 K (k : Int) i acc ((m : Int) - 1) = some (acc ++ atL m k i) := by
  intro m
  induction m with
  | zero =>
    intro k i acc K hm hk h0 h1 ha hK
    obtain ⟨K, rfl⟩ : ∃ q, K = q + 1 := ⟨K - 1, by omega⟩
    simp only [impl_pulsesAt.l0]; rw [if_neg (by omega)]; simp [atL]
  | succ m ih =>
    intro k i acc K hm hk h0 h1 ha hK
    obtain ⟨K, rfl⟩ : ∃ q, K = q + 1 := ⟨K - 1, by omega⟩
    simp only [impl_pulsesAt.l0]
    rw [← hs_total m k (by omega) hk] at h1
    have hz0 : hs m k 0 = 0 := rfl
    have sp := atJ_spec m k (2 * k + 1) 0 i (by omega) h0 (by omega)
    rw [if_pos (by omega), w64 (n := -(k : Int)) (by omega) (by omega), abs_eq _ (by omega) (by omega)]
    simp only [Option.bind_some]
    rw [w64 (n := (k : Int) - _) (by omega) (by omega), countPulses_eq _ _ (by omega) (by omega) (by omega) (by omega) K (by omega)]
    simp only [Option.bind_some]
    have hc : (atJ m k (2 * k + 1) 0 i).2 < (cnt m (k - (((atJ m k (2 * k + 1) 0 i).1 : Int) - k).natAbs) : Int) := by have := sp.2.2.1; unfold cw at this; exact this
    have nx := ih (k - (((atJ m k (2 * k + 1) 0 i).1 : Int) - k).natAbs) (atJ m k (2 * k + 1) 0 i).2 (acc ++ [((atJ m k (2 * k + 1) 0 i).1 : Int) - k]) (200 * m + 1) (by omega) (by omega) sp.2.1 hc (by simp; omega) (Nat.le_refl _)
    have := pulsesAt_l1 m k (by omega) hk acc (by omega) _ (200 * m + 1) (2 * k) 0 i K (by omega) h0 (by omega) (by omega) nx
    have e1 : ((m + 1 : Nat) : Int) - 1 = (m : Int) := by omega
    have e2 : ((0 : Nat) : Int) - (k : Int) = -(k : Int) := by omega
    have e3 : (cnt ((m : Int)).toNat (((k : Int) - ((-(k : Int)).natAbs : Int))).toNat : Int) = cw m k 0 := by unfold cw; congr 1; congr 1; omega
    rw [e2] at this
    rw [e1, e3, this]
    simp [atL]
theorem pulsesAt_eq (d k i : Int) (hd0 : 0 ≤ d) (hd1 : d ≤ 4) (hk0 : 0 ≤ k) (hk1 : k ≤ 8) (h0 : 0 ≤ i) (h1 : i < (cnt d.toNat k.toNat : Int)) (K : Nat) (hK : 900 ≤ K) : impl_pulsesAt.f K d k i = some (atL d.toNat k.toNat i) := by
  unfold impl_pulsesAt.f
  rw [w64 (n := d - 1) (by omega) (by omega)]
  have := pulsesAt_l0 d.toNat k.toNat i [] K (by omega) (by omega) h0 h1 (by simp; omega) (by omega)
  rw [Int.toNat_of_nonneg hk0, Int.toNat_of_nonneg hd0] at this
  rw [this]; simp
/-- What PulsesAt answers. -/
def patR (d k i : Int) : Int × List Int := if ((1 ≤ d ∧ d ≤ 4) ∧ (0 ≤ k ∧ k ≤ 8)) ∧ (0 ≤ i ∧ i < (cnt d.toNat k.toNat : Int)) then (0, atL d.toNat k.toNat i) else (3, [])
theorem patR_length (d k i : Int) : (patR d k i).2.length ≤ 4 := by
  unfold patR; split
  · simp only [atL_length]; omega
  · simp
theorem PulsesAt_eq (d k i : Int) (K : Nat) (hK : 1000 ≤ K) : impl_PulsesAt.f K d k i = some (patR d k i) := by
  unfold impl_PulsesAt.f patR
  simp only [isDim_eq, isPulses_eq, Option.bind_some, decide_eq_true_eq]
  by_cases h1 : 1 ≤ d ∧ d ≤ 4
  · by_cases h2 : 0 ≤ k ∧ k ≤ 8
    · have hb := cnt_le d.toNat k.toNat (by omega) (by omega)
      rw [if_pos h1, if_pos h2, countPulses_eq d k (by omega) h1.2 h2.1 h2.2 K (by omega)]
      simp only [Option.bind_some]
      rw [w64 (by omega) (by omega), inRange_eq]
      simp only [Option.bind_some, decide_eq_true_eq]
      by_cases h3 : 0 ≤ i ∧ i < (cnt d.toNat k.toNat : Int)
      · rw [if_pos (by omega), if_pos ⟨⟨h1, h2⟩, h3⟩, pulsesAt_eq d k i (by omega) h1.2 h2.1 h2.2 h3.1 h3.2 K (by omega)]; rfl
      · rw [if_neg (by omega), if_neg (fun h => h3 h.2)]
    · rw [if_pos h1, if_neg h2, if_neg (fun h => h2 h.1.2)]
  · rw [if_neg h1, if_neg (fun h => h1 h.1.1)]
theorem l1In_eq (a b c : Int) : spec_l1In.f a b c = some (decide (b ≤ a ∧ a ≤ c)) := by
  unfold spec_l1In.f
  by_cases h : a ≥ b
  · rw [if_pos h]; congr 1; have : b ≤ a := h; simp [this]
  · rw [if_neg h]; have : ¬ b ≤ a := h; simp [this]
theorem l11Ask_eq (a b : Int) : spec_l11Ask.f a b = some (decide ((1 ≤ a ∧ a ≤ 4) ∧ (0 ≤ b ∧ b ≤ 8))) := by
  unfold spec_l11Ask.f; simp only [l1In_eq, Option.bind_some]; by_cases h : 1 ≤ a ∧ a ≤ 4 <;> simp [h]
theorem l11Count_eq (d k : Int) (hd0 : 0 ≤ d) (hd1 : d ≤ 4) (hk0 : 0 ≤ k) (hk1 : k ≤ 8) (K : Nat) (hK : 120 ≤ K) : spec_l11Count.f K d k = some (cnt d.toNat k.toNat : Int) := by
  have key : ∀ d : Nat, d < 5 → ∀ k : Nat, k < 9 → spec_l11Count.f 120 (d : Int) (k : Int) = some (cnt d k : Int) := by decide +kernel
  have := key d.toNat (by omega) k.toNat (by omega)
  rw [Int.toNat_of_nonneg hd0, Int.toNat_of_nonneg hk0] at this
  exact at_rounds (g := fun K => spec_l11Count.f K d k) (spec_l11Count.mono d k) hK this
theorem l1Abs_eq (x : Int) (h0 : -9223372036854775807 ≤ x) (h1 : x ≤ 9223372036854775807) : spec_l1Abs.f x = some (x.natAbs : Int) := by
  unfold spec_l1Abs.f
  by_cases h : x < 0
  · rw [if_pos h, w64 (by omega) (by omega)]; congr 1; omega
  · rw [if_neg h]; congr 1; omega
theorem l11At_l1 (d : Int) (m k c : Nat) (hd : d = m + 1 + c) (hd4 : d ≤ 4) (hm : m ≤ 3) (hk : k ≤ 8) (acc : List Int) (ha : acc.length ≤ 100) (R : List Int) (K0 : Nat) : ∀ (n j : Nat) (i : Int) (K : Nat), j + n = 2 * k → 0 ≤ i → i < hs m k (2 * k + 1) - hs m k j → K0 + 2 * n + 130 ≤ K →
    spec_l11At.l0 K0 d (atJ m k (n + 1) j i).2 (acc ++ [((atJ m k (n + 1) j i).1 : Int) - k]) ((k - (((atJ m k (n + 1) j i).1 : Int) - k).natAbs : Nat) : Int) ((c : Int) + 1) = some R →
    spec_l11At.l1 K d i acc (k : Int) (c : Int) ((j : Int) - k) = some R := by
  have stop : ∀ (j : Nat) (i : Int) (K : Nat), j ≤ 2 * k → K0 + 1 ≤ K → spec_l11At.l0 K0 d i (acc ++ [(j : Int) - k]) ((k - ((j : Int) - k).natAbs : Nat) : Int) ((c : Int) + 1) = some R → spec_l11At.j2 K d i acc (k : Int) (c : Int) ((j : Int) - k) false = some R := by
    intro j i K hj hK h
    obtain ⟨K, rfl⟩ : ∃ q, K = q + 1 := ⟨K - 1, by omega⟩
    simp only [spec_l11At.j2]
    rw [if_neg (by simp), if_pos (by omega), l1Abs_eq _ (by omega) (by omega)]
    simp only [Option.bind_some]
    rw [w64 (n := (k : Int) - _) (by omega) (by omega), w64 (n := (c : Int) + 1) (by omega) (by omega)]
    refine at_rounds (g := fun K => spec_l11At.l0 K _ _ _ _ _) (fun K => (spec_l11At.mono_l K).1 _ _ _ _ _) (show K0 ≤ K by omega) ?_
    rw [← h]; congr 1; omega
  intro n
  induction n with
  | zero =>
    intro j i K hj h0 h1 hK h
    obtain ⟨K, rfl⟩ : ∃ q, K = q + 1 := ⟨K - 1, by omega⟩
    obtain rfl : j = 2 * k := by omega
    simp only [hs] at h1
    have e : atJ m k (0 + 1) (2 * k) i = (2 * k, i) := by simp only [atJ]; rw [if_neg (by omega)]
    rw [e] at h
    simp only [spec_l11At.l1]
    rw [if_neg (by omega)]
    exact stop (2 * k) i K (by omega) (by omega) h
  | succ n ih =>
    intro j i K hj h0 h1 hK h
    obtain ⟨K, rfl⟩ : ∃ q, K = q + 1 := ⟨K - 1, by omega⟩
    have hb : cw m k j ≤ 10000 := by have := cnt_le m (k - ((j : Int) - k).natAbs) (by omega) (by omega); unfold cw; omega
    have hn := cw_nonneg m k j
    have htot := hs_total m k hm hk
    have htb := cnt_le (m + 1) k (by omega) hk
    have hz := hs_mono m k 0 j (by omega)
    have hz0 : hs m k 0 = 0 := rfl
    have ed : wrap64 (wrap64 (d - 1) - (c : Int)) = (m : Int) := by rw [w64 (n := d - 1) (by omega) (by omega), w64 (by omega) (by omega)]; omega
    have ec : (cnt ((m : Int)).toNat ((k : Int) - (((j : Int) - k).natAbs : Int)).toNat : Int) = cw m k j := by unfold cw; congr 1; congr 1; omega
    simp only [spec_l11At.l1]
    rw [if_pos (by omega), l1Abs_eq _ (by omega) (by omega)]
    simp only [Option.bind_some]
    rw [ed, w64 (n := (k : Int) - _) (by omega) (by omega), l11Count_eq (m : Int) _ (by omega) (by omega) (by omega) (by omega) K (by omega)]
    simp only [Option.bind_some, ec]
    by_cases cc : i ≥ cw m k j
    · have e : atJ m k (n + 1 + 1) j i = atJ m k (n + 1) (j + 1) (i - cw m k j) := by rw [atJ, if_pos cc]
      rw [e] at h
      rw [decide_eq_true cc]
      obtain ⟨K, rfl⟩ : ∃ q, K = q + 1 := ⟨K - 1, by omega⟩
      simp only [spec_l11At.j2]
      rw [if_pos True.intro, l1Abs_eq _ (by omega) (by omega)]
      simp only [Option.bind_some]
      rw [ed, w64 (n := (k : Int) - _) (by omega) (by omega), l11Count_eq (m : Int) _ (by omega) (by omega) (by omega) (by omega) K (by omega)]
      simp only [Option.bind_some, ec]
      rw [w64 (n := i - cw m k j) (by omega) (by omega), w64 (n := (j : Int) - k + 1) (by omega) (by omega)]
      have := ih (j + 1) (i - cw m k j) K (by omega) (by omega) (by rw [hs_succ m k j]; omega) (by omega) h
      rw [← this]; congr 1; omega
    · have e : atJ m k (n + 1 + 1) j i = (j, i) := by rw [atJ, if_neg cc]
      rw [e] at h
      rw [decide_eq_false cc]
      exact stop j i K (by omega) (by omega) h
theorem l11At_l0 (d : Int) (hd4 : d ≤ 4) : ∀ (m k : Nat) (i : Int) (acc : List Int) (c K : Nat), d = m + c → m ≤ 4 → k ≤ 8 → 0 ≤ i → i < (cnt m k : Int) → acc.length + m ≤ 100 → 200 * m + 1 ≤ K →
    spec_l11At.l0 K d i acc (k : Int) (c : Int) = some (acc ++ atL m k i) := by
  intro m
  induction m with
  | zero =>
    intro k i acc c K hd hm hk h0 h1 ha hK
    obtain ⟨K, rfl⟩ : ∃ q, K = q + 1 := ⟨K - 1, by omega⟩
    simp only [spec_l11At.l0]; rw [if_neg (by omega)]; simp [atL]
  | succ m ih =>
    intro k i acc c K hd hm hk h0 h1 ha hK
    obtain ⟨K, rfl⟩ : ∃ q, K = q + 1 := ⟨K - 1, by omega⟩
    simp only [spec_l11At.l0]
    rw [← hs_total m k (by omega) hk] at h1
    have hz0 : hs m k 0 = 0 := rfl
    have sp := atJ_spec m k (2 * k + 1) 0 i (by omega) h0 (by omega)
    rw [if_pos (by omega), w64 (n := -(k : Int)) (by omega) (by omega)]
    have hc : (atJ m k (2 * k + 1) 0 i).2 < (cnt m (k - (((atJ m k (2 * k + 1) 0 i).1 : Int) - k).natAbs) : Int) := by have := sp.2.2.1; unfold cw at this; exact this
    have nx := ih (k - (((atJ m k (2 * k + 1) 0 i).1 : Int) - k).natAbs) (atJ m k (2 * k + 1) 0 i).2 (acc ++ [((atJ m k (2 * k + 1) 0 i).1 : Int) - k]) (c + 1) (200 * m + 1) (by omega) (by omega) (by omega) sp.2.1 hc (by simp; omega) (Nat.le_refl _)
    have := l11At_l1 d m k c (by omega) hd4 (by omega) hk acc (by omega) _ (200 * m + 1) (2 * k) 0 i K (by omega) h0 (by omega) (by omega) (by rw [← nx]; congr 1)
    have e2 : ((0 : Nat) : Int) - (k : Int) = -(k : Int) := by omega
    rw [e2] at this
    rw [this]
    simp [atL]
theorem l11At_eq (d k i : Int) (hd0 : 0 ≤ d) (hd1 : d ≤ 4) (hk0 : 0 ≤ k) (hk1 : k ≤ 8) (h0 : 0 ≤ i) (h1 : i < (cnt d.toNat k.toNat : Int)) (K : Nat) (hK : 900 ≤ K) : spec_l11At.f K d k i = some (atL d.toNat k.toNat i) := by
  unfold spec_l11At.f
  have := l11At_l0 d hd1 d.toNat k.toNat i [] 0 K (by omega) (by omega) (by omega) h0 h1 (by simp; omega) (by omega)
  rw [Int.toNat_of_nonneg hk0] at this
  rw [show ((0 : Nat) : Int) = 0 from rfl] at this
  rw [this]; simp
theorem specPulsesAt_eq (d k i : Int) (K : Nat) (hK : 1000 ≤ K) : spec_PulsesAt.f K d k i = some (patR d k i) := by
  unfold spec_PulsesAt.f patR
  simp only [l11Ask_eq, Option.bind_some, decide_eq_true_eq]
  by_cases h1 : (1 ≤ d ∧ d ≤ 4) ∧ (0 ≤ k ∧ k ≤ 8)
  · have hb := cnt_le d.toNat k.toNat (by omega) (by omega)
    rw [if_pos h1, l11Count_eq d k (by omega) h1.1.2 h1.2.1 h1.2.2 K (by omega)]
    simp only [Option.bind_some]
    rw [w64 (by omega) (by omega), l1In_eq]
    simp only [Option.bind_some, decide_eq_true_eq]
    by_cases h3 : 0 ≤ i ∧ i < (cnt d.toNat k.toNat : Int)
    · rw [if_pos (by omega), if_pos ⟨h1, h3⟩, l11At_eq d k i (by omega) h1.1.2 h1.2.1 h1.2.2 h3.1 h3.2 K (by omega)]; rfl
    · rw [if_neg (by omega), if_neg (fun h => h3 h.2)]
  · rw [if_neg h1, if_neg (fun h => h1 h.1)]
theorem eqInt64S_l0 (l : List Int) (hl : l.length ≤ 1000000000000) : ∀ (d k : Nat) (i : Int), (l.length : Int) - i = d → 0 ≤ i → d < k → laws_eqInt64S.l0 k l l i = some true := by
  intro d
  induction d with
  | zero =>
    intro k i hd h0 hk
    obtain ⟨k, rfl⟩ : ∃ m, k = m + 1 := ⟨k - 1, by omega⟩
    simp only [laws_eqInt64S.l0]; rw [if_neg (by omega)]
  | succ d ih =>
    intro k i hd h0 hk
    obtain ⟨k, rfl⟩ : ∃ m, k = m + 1 := ⟨k - 1, by omega⟩
    simp only [laws_eqInt64S.l0]
    rw [if_pos (by omega), if_pos h0, if_pos (by omega), if_pos True.intro, w64 (by omega) (by omega)]
    exact ih k (i + 1) (by omega) (by omega) (by omega)
theorem eqInt64S_self (l : List Int) (hl : l.length ≤ 1000000000000) (k : Nat) (hk : l.length < k) : laws_eqInt64S.f k l l = some true := by
  unfold laws_eqInt64S.f; rw [if_pos rfl]; exact eqInt64S_l0 l hl l.length k 0 (by omega) (by omega) hk
/-- So many numbers from x on. -/
def iv : Nat → Int → List Int
  | 0, _ => []
  | n + 1, x => x :: iv n (x + 1)
theorem iv_length : ∀ (n : Nat) (x : Int), (iv n x).length = n
  | 0, _ => rfl
  | n + 1, x => by simp [iv, iv_length n]
theorem markInt64S_l0 : ∀ (rest pre : List Int) (a i : Int) (k : Nat), (pre.length : Int) = i → rest.length < k → 0 ≤ a → a + rest.length ≤ 1000000000000 → i + rest.length ≤ 1000000000000 →
    laws_markInt64S.l0 k (pre ++ rest) a i = some (a + rest.length, pre ++ iv rest.length a) := by
  intro rest
  induction rest with
  | nil =>
    intro pre a i k hi hk h0 h1 h2
    obtain ⟨k, rfl⟩ : ∃ m, k = m + 1 := ⟨k - 1, by omega⟩
    simp only [laws_markInt64S.l0]
    rw [if_neg (by simp; omega)]; simp [iv]
  | cons x rest ih =>
    intro pre a i k hi hk h0 h1 h2
    obtain ⟨k, rfl⟩ : ∃ m, k = m + 1 := ⟨k - 1, by omega⟩
    simp only [List.length_cons] at hk h1 h2
    simp only [laws_markInt64S.l0]
    rw [if_pos (by simp; omega), if_pos (by omega), w64 (n := a + 1) (by omega) (by omega), w64 (n := i + 1) (by omega) (by omega)]
    have e : (pre ++ x :: rest).set i.toNat a = (pre ++ [a]) ++ rest := by
      have hn : i.toNat = pre.length := by omega
      rw [hn, List.set_append_right _ _ (Nat.le_refl _)]; simp
    rw [e, ih (pre ++ [a]) (a + 1) (i + 1) k (by simp; omega) (by omega) (by omega) (by omega) (by omega)]
    simp [iv]; omega
theorem markInt64S_eq (l : List Int) (a : Int) (k : Nat) (hk : l.length < k) (h0 : 0 ≤ a) (h1 : a + l.length ≤ 1000000000000) : laws_markInt64S.f k l a = some (a + l.length, iv l.length a) := by
  unfold laws_markInt64S.f
  have := markInt64S_l0 l [] a 0 k rfl hk h0 h1 (by omega)
  simpa using this
theorem rd_append_right (P Q : List Int) (i : Int) (h : i = (P.length : Int)) (x : Int) (R : List Int) (hQ : Q = x :: R) : rd (P ++ Q) i = x := by
  subst hQ; unfold rd; rw [h, Int.toNat_natCast, List.getD_eq_getElem?_getD, List.getElem?_append_right (Nat.le_refl _)]; simp
theorem rd_get (l : List Int) (i : Int) (h0 : 0 ≤ i) (h1 : i < (l.length : Int)) : rd l i = l[i.toNat]'(by omega) := by
  unfold rd; rw [List.getD_eq_getElem?_getD, List.getElem?_eq_getElem (by omega)]; rfl
theorem heldInt64S_l0 : ∀ (n : Nat) (pre : List Int) (a i : Int) (k : Nat), (pre.length : Int) = i → n < k → 0 ≤ a → a + n ≤ 1000000000000 → i + n ≤ 1000000000000 →
    laws_heldInt64S.l0 k (pre ++ iv n a) a i = some (a + n) := by
  intro n
  induction n with
  | zero =>
    intro pre a i k hi hk h0 h1 h2
    obtain ⟨k, rfl⟩ : ∃ m, k = m + 1 := ⟨k - 1, by omega⟩
    simp only [laws_heldInt64S.l0]
    rw [if_neg (by simp [iv]; omega)]; simp
  | succ n ih =>
    intro pre a i k hi hk h0 h1 h2
    obtain ⟨k, rfl⟩ : ∃ m, k = m + 1 := ⟨k - 1, by omega⟩
    simp only [laws_heldInt64S.l0]
    rw [if_pos (by simp [iv_length]; omega), if_pos (by omega), if_pos (rd_append_right pre (iv (n + 1) a) i hi.symm a (iv n (a + 1)) rfl), w64 (n := a + 1) (by omega) (by omega), w64 (n := i + 1) (by omega) (by omega)]
    have e : pre ++ iv (n + 1) a = (pre ++ [a]) ++ iv n (a + 1) := by simp [iv]
    rw [e, ih (pre ++ [a]) (a + 1) (i + 1) k (by simp; omega) (by omega) (by omega) (by omega) (by omega)]
    congr 1; omega
theorem heldInt64S_eq (n : Nat) (a : Int) (k : Nat) (hk : n < k) (h0 : 0 ≤ a) (h1 : a + n ≤ 1000000000000) : laws_heldInt64S.f k (iv n a) a = some (a + n) := by
  unfold laws_heldInt64S.f
  have := heldInt64S_l0 n [] a 0 k rfl hk h0 h1 (by omega)
  simpa using this
theorem eqIntsResult_self (c : Int) (l : List Int) (hl : l.length ≤ 1000000) (k : Nat) (hk : l.length < k) : laws_eqIntsResult.f k c l c l = some true := by
  unfold laws_eqIntsResult.f; rw [if_pos rfl, eqInt64S_self l (by omega) k hk]; rfl
theorem markIntsResult_eq (c : Int) (l : List Int) (a : Int) (k : Nat) (hk : l.length < k) (h0 : 0 ≤ a) (h1 : a + l.length ≤ 1000000000000) : laws_markIntsResult.f k c l a = some (a + l.length, iv l.length a) := by
  unfold laws_markIntsResult.f; rw [markInt64S_eq l a k hk h0 h1]; rfl
theorem heldIntsResult_eq (c : Int) (n : Nat) (a : Int) (k : Nat) (hk : n < k) (h0 : 0 ≤ a) (h1 : a + n ≤ 1000000000000) : laws_heldIntsResult.f k c (iv n a) a = some (a + n) := by
  unfold laws_heldIntsResult.f; rw [heldInt64S_eq n a k hk h0 h1]; simp only [Option.bind_some]; rw [if_neg (by omega)]
theorem FnExactPulsesAt : laws_FnExactPulsesAt.Pure := by
  intro a b c _ _ _
  refine ⟨1000, ?_⟩
  unfold laws_FnExactPulsesAt.f
  rw [PulsesAt_eq a b c 1000 (by omega), specPulsesAt_eq a b c 1000 (by omega)]
  have hl := patR_length a b c
  simp only [Option.bind_some, if_true]
  rw [eqIntsResult_self _ _ (by omega) 1000 (by omega), markIntsResult_eq _ _ 1 1000 (by omega) (by omega) (by omega)]
  simp only [Option.bind_some, if_true]
  rw [heldIntsResult_eq _ _ 1 1000 (by omega) (by omega) (by omega)]
  simp only [Option.bind_some, if_true]
  rw [if_neg (by omega), if_neg (by omega)]

end Go.Proofs.Ytoepnammegcjeaa.Pure
