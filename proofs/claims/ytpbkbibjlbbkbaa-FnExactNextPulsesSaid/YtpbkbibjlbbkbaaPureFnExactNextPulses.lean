/- The program's NextPulses returns what the reference's returns, for all arguments. -/
import Derived.Test.YtpbkbibjlbbkbaaPFnExactNextPulsesx5
set_option linter.unusedVariables false
set_option linter.unusedSimpArgs false
namespace Go.Proofs.Ytpbkbibjlbbkbaa.Pure
open Go.RowKit Go.Proofs.Ytpbkbibjlbbkbaa.PFnExactNextPulses Go.Proofs.YtpbkbibjlbbkbaaW.PrintWords Go.Proofs.YtpbkbibjlbbkbaaW.PrintLast

theorem inRange_eq (a b c : Int) : impl_inRange.f a b c = some (decide (b ≤ a ∧ a ≤ c)) := by
  unfold impl_inRange.f
  by_cases h : b ≤ a
  · rw [if_pos h]; simp [h]
  · rw [if_neg h]; simp [h]
theorem isDim_eq (a : Int) : impl_isDim.f a = some (decide (1 ≤ a ∧ a ≤ 4)) := by unfold impl_isDim.f; rw [inRange_eq]; rfl
theorem isPulses_eq (a : Int) : impl_isPulses.f a = some (decide (0 ≤ a ∧ a ≤ 8)) := by unfold impl_isPulses.f; rw [inRange_eq]; rfl
theorem codeIf_eq (b : Bool) (c : Int) : impl_codeIf.f b c = some (if b = true then c else 0) := by unfold impl_codeIf.f; split <;> rfl
theorem idxP_any (p : Int → Option Bool) (q : Int → Bool) : ∀ (l : List Int) (i : Int), 0 ≤ i → (∀ x ∈ l, p x = some (q x)) → ∃ r, idxP p l i = some r ∧ decide (0 ≤ r) = l.any q
  | [], i, _, _ => ⟨-1, rfl, by simp⟩
  | x :: l, i, hi, h => by
    obtain ⟨r, hr, hq⟩ := idxP_any p q l (i + 1) (by omega) (fun y hy => h y (by simp [hy]))
    simp only [idxP]
    rw [h x (by simp)]
    simp only [Option.bind_some]
    cases hx : q x with
    | true => exact ⟨i, by simp, by simp [hx, hi]⟩
    | false => exact ⟨r, by simp [hr], by simp [hx, hq]⟩
theorem anyP_eq (p : Int → Option Bool) (q : Int → Bool) (l : List Int) (h : ∀ x ∈ l, p x = some (q x)) : anyP p l = some (l.any q) := by
  obtain ⟨r, hr, hq⟩ := idxP_any p q l 0 (by omega) h
  unfold anyP; rw [hr]; simp only [Option.bind_some]; rw [hq]
/-- All of a list lie between two bounds. -/
def allW (l : List Int) (a b : Int) : Bool := l.all fun x => decide (a ≤ x ∧ x ≤ b)
theorem allW_cons (x : Int) (l : List Int) (a b : Int) : allW (x :: l) a b = (decide (a ≤ x ∧ x ≤ b) && allW l a b) := by simp [allW]
theorem allW_mem {l : List Int} {a b : Int} (h : allW l a b = true) {x : Int} (hx : x ∈ l) : a ≤ x ∧ x ≤ b := by
  unfold allW at h; rw [List.all_eq_true] at h; simpa using h x hx
theorem allW_mk {l : List Int} {a b : Int} (h : ∀ x ∈ l, a ≤ x ∧ x ≤ b) : allW l a b = true := by
  unfold allW; rw [List.all_eq_true]; intro x hx; simpa using h x hx
theorem w64 {n : Int} (h1 : -9223372036854775808 ≤ n) (h2 : n ≤ 9223372036854775807) : wrap64 n = n := by unfold wrap64; omega
theorem within_eq (a b : Int) (h0 : 0 ≤ b) (h1 : b ≤ 9223372036854775807) : impl_within.f a b = some (decide (-b ≤ a ∧ a ≤ b)) := by
  unfold impl_within.f; rw [w64 (by omega) (by omega), inRange_eq]; rfl
theorem allWithin_eq (l : List Int) (m : Int) (h0 : 0 ≤ m) (h1 : m ≤ 9223372036854775807) : impl_allWithin.f l m = some (allW l (-m) m) := by
  unfold impl_allWithin.f
  rw [anyP_eq (notWithinP m) (fun x => !decide (-m ≤ x ∧ x ≤ m)) l (fun x _ => by unfold notWithinP; rw [within_eq x m h0 h1]; rfl)]
  simp only [Option.bind_some]
  congr 1
  unfold allW
  rw [List.any_eq_not_all_not]; simp
/-- The sum of the absolute values. -/
def nrm : List Int → Nat
  | [] => 0
  | x :: l => x.natAbs + nrm l
theorem nrm_append : ∀ (a b : List Int), nrm (a ++ b) = nrm a + nrm b
  | [], b => by simp [nrm]
  | x :: a, b => by simp only [List.cons_append, nrm, nrm_append a b]; omega
theorem nrm_le (M : Nat) : ∀ (l : List Int), (∀ x ∈ l, x.natAbs ≤ M) → nrm l ≤ M * l.length
  | [], _ => by simp [nrm]
  | x :: l, h => by
    have h1 := nrm_le M l (fun y hy => h y (by simp [hy]))
    have h2 := h x (by simp)
    simp only [nrm, List.length_cons, Nat.mul_add, Nat.mul_one]; omega
theorem nrm_mem : ∀ {l : List Int} {x : Int}, x ∈ l → x.natAbs ≤ nrm l
  | y :: l, x, h => by
    simp only [nrm]
    rcases List.mem_cons.1 h with rfl | h
    · omega
    · have := nrm_mem h; omega
theorem allW_nrm {l : List Int} {M : Nat} (h : allW l (-(M : Int)) M = true) : nrm l ≤ M * l.length :=
  nrm_le M l (fun x hx => by have := allW_mem h hx; omega)
theorem abs_eq (x : Int) (h0 : -9223372036854775807 ≤ x) (h1 : x ≤ 9223372036854775807) : impl_abs.f x = some (x.natAbs : Int) := by
  unfold impl_abs.f mx; rw [w64 (by omega) (by omega)]; congr 1; split <;> omega
theorem rd_append_right (P Q : List Int) (i : Int) (h : i = (P.length : Int)) (x : Int) (R : List Int) (hQ : Q = x :: R) : rd (P ++ Q) i = x := by
  subst hQ; unfold rd; rw [h, Int.toNat_natCast, List.getD_eq_getElem?_getD, List.getElem?_append_right (Nat.le_refl _)]; simp
theorem rd_get (l : List Int) (i : Int) (h0 : 0 ≤ i) (h1 : i < (l.length : Int)) : rd l i = l[i.toNat]'(by omega) := by
  unfold rd; rw [List.getD_eq_getElem?_getD, List.getElem?_eq_getElem (by omega)]; rfl
theorem normOf_l0 (l : List Int) (hl : l.length ≤ 2000000) (hb : ∀ x ∈ l, x.natAbs ≤ 1099511627776) : ∀ (rest pre : List Int) (i s : Int) (k : Nat), l = pre ++ rest → (pre.length : Int) = i → rest.length < k → s = (nrm pre : Int) → impl_normOf.l0 k s l (l.length : Int) i = some (nrm l : Int) := by
  intro rest
  induction rest with
  | nil =>
    intro pre i s k h1 hi hk hs
    obtain ⟨k, rfl⟩ : ∃ m, k = m + 1 := ⟨k - 1, by omega⟩
    simp only [impl_normOf.l0]
    rw [if_neg (by rw [h1]; simp; omega), hs, h1]; simp
  | cons x rest ih =>
    intro pre i s k h1 hi hk hs
    obtain ⟨k, rfl⟩ : ∃ m, k = m + 1 := ⟨k - 1, by omega⟩
    simp only [List.length_cons] at hk
    have hlen : l.length = pre.length + (rest.length + 1) := by rw [h1]; simp
    have hx := hb x (by rw [h1]; simp)
    have hp := nrm_le 1099511627776 pre (fun y hy => hb y (by rw [h1]; simp [hy]))
    have hp2 : 1099511627776 * pre.length ≤ 1099511627776 * 2000000 := Nat.mul_le_mul_left _ (by omega)
    simp only [impl_normOf.l0]
    have hr : rd l i = x := by rw [h1]; exact rd_append_right pre (x :: rest) i hi.symm x rest rfl
    rw [if_pos (by omega), if_pos (by omega), if_pos (by omega), hr, abs_eq x (by omega) (by omega)]
    simp only [Option.bind_some]
    rw [w64 (n := s + _) (by omega) (by omega), w64 (n := i + 1) (by omega) (by omega)]
    exact ih (pre ++ [x]) (i + 1) _ k (by rw [h1]; simp) (by simp; omega) (by omega) (by rw [nrm_append]; simp only [nrm]; omega)
theorem normOf_eq (l : List Int) (hl : l.length ≤ 2000000) (hb : ∀ x ∈ l, x.natAbs ≤ 1099511627776) (k : Nat) (hk : l.length < k) : impl_normOf.f k l = some (nrm l : Int) := by
  unfold impl_normOf.f; exact normOf_l0 l hl hb l [] 0 0 k rfl rfl hk rfl
/-- The first code that is not 0. -/
def fst0 : List Int → Int
  | [] => 0
  | x :: l => if x = 0 then fst0 l else x
theorem first_l0 (l : List Int) (hl : l.length ≤ 2000000) : ∀ (rest pre : List Int) (i : Int) (k : Nat), l = pre ++ rest → (pre.length : Int) = i → rest.length < k → impl_first.l0 k l (l.length : Int) i = some (fst0 rest) := by
  intro rest
  induction rest with
  | nil =>
    intro pre i k h1 hi hk
    obtain ⟨k, rfl⟩ : ∃ m, k = m + 1 := ⟨k - 1, by omega⟩
    simp only [impl_first.l0]
    rw [if_neg (by rw [h1]; simp; omega)]; rfl
  | cons x rest ih =>
    intro pre i k h1 hi hk
    obtain ⟨k, rfl⟩ : ∃ m, k = m + 1 := ⟨k - 1, by omega⟩
    simp only [List.length_cons] at hk
    have hlen : l.length = pre.length + (rest.length + 1) := by rw [h1]; simp
    simp only [impl_first.l0]
    have hr : rd l i = x := by rw [h1]; exact rd_append_right pre (x :: rest) i hi.symm x rest rfl
    rw [if_pos (by omega), if_pos (by omega), if_pos (by omega), hr, w64 (n := i + 1) (by omega) (by omega)]
    simp only [fst0]
    by_cases c : x = 0
    · rw [if_pos c, if_pos c]; exact ih (pre ++ [x]) (i + 1) k (by rw [h1]; simp) (by simp; omega) (by omega)
    · rw [if_neg c, if_neg c]
theorem first_eq (l : List Int) (hl : l.length ≤ 1000) (k : Nat) (hk : l.length < k) : impl_first.f k l = some (fst0 l) := by
  unfold impl_first.f; exact first_l0 l (by omega) l [] 0 k rfl rfl hk
/-- The code of pulses. -/
def pfR (l : List Int) (k : Int) : Int := if ¬ (1 ≤ (l.length : Int) ∧ (l.length : Int) ≤ 4) then 2 else if ¬ (0 ≤ k ∧ k ≤ 8) then 3 else if allW l (-8) 8 = true ∧ (nrm l : Int) = k then 0 else 1
theorem allW8_nat {l : List Int} (h : allW l (-8) 8 = true) : ∀ x ∈ l, x.natAbs ≤ 1099511627776 := fun x hx => by have := allW_mem h hx; omega
theorem PulsesFault_eq (l : List Int) (a : Int) (hl : l.length ≤ 2000000) (k : Nat) (hk : l.length + 10 < k) : impl_PulsesFault.f k l a = some (pfR l a) := by
  unfold impl_PulsesFault.f
  simp only [isDim_eq, isPulses_eq, codeIf_eq, Option.bind_some]
  rw [allWithin_eq l 8 (by omega) (by omega)]
  simp only [Option.bind_some]
  unfold pfR
  by_cases hw : allW l (-8) 8 = true
  · rw [if_pos hw, normOf_eq l hl (allW8_nat hw) k (by omega)]
    simp only [Option.bind_some]
    rw [first_eq _ (by simp) k (by simp; omega)]
    by_cases h1 : 1 ≤ (l.length : Int) ∧ (l.length : Int) ≤ 4
    · by_cases h2 : 0 ≤ a ∧ a ≤ 8
      · by_cases h3 : (nrm l : Int) = a
        · simp [h1, h2, h3, hw, fst0]
        · simp [h1, h2, h3, hw, fst0]
      · simp [h1, h2, fst0]
    · simp [h1, fst0]
  · rw [if_neg hw]
    simp only [if_true, Option.bind_some]
    rw [first_eq _ (by simp) k (by simp; omega)]
    by_cases h1 : 1 ≤ (l.length : Int) ∧ (l.length : Int) ≤ 4
    · by_cases h2 : 0 ≤ a ∧ a ≤ 8
      · simp [h1, h2, hw, fst0]
      · simp [h1, h2, fst0]
    · simp [h1, fst0]
theorem pfR_0 {l : List Int} {k : Int} (h : pfR l k = 0) : (1 ≤ (l.length : Int) ∧ (l.length : Int) ≤ 4) ∧ (0 ≤ k ∧ k ≤ 8) ∧ allW l (-8) 8 = true ∧ (nrm l : Int) = k := by
  unfold pfR at h
  by_cases h1 : 1 ≤ (l.length : Int) ∧ (l.length : Int) ≤ 4
  · by_cases h2 : 0 ≤ k ∧ k ≤ 8
    · by_cases h3 : allW l (-8) 8 = true ∧ (nrm l : Int) = k
      · exact ⟨h1, h2, h3⟩
      · rw [if_neg (by simpa using h1), if_neg (by simpa using h2), if_neg h3] at h; simp at h
    · rw [if_neg (by simpa using h1), if_pos (by simpa using h2)] at h; simp at h
  · rw [if_pos h1] at h; simp at h
/-- How many pulses of k there are of a length. -/
def cnt : Nat → Nat → Nat
  | 0, k => if k = 0 then 1 else 0
  | d + 1, k => cnt d k + 2 * ((List.range k).map (cnt d)).sum
/-- How many pulses of k there are with m numbers behind a first one that is j - k. -/
def cw (m k j : Nat) : Int := (cnt m (k - ((j : Int) - k).natAbs) : Int)
/-- How many with a first number below j - k. -/
def hs (m k : Nat) : Nat → Int
  | 0 => 0
  | j + 1 => hs m k j + cw m k j
theorem hs_succ (m k j : Nat) : hs m k (j + 1) = hs m k j + cw m k j := rfl
theorem hs_total (m k : Nat) (hm : m ≤ 3) (hk : k ≤ 8) : hs m k (2 * k + 1) = (cnt (m + 1) k : Int) := by
  have key : ∀ m : Nat, m < 4 → ∀ k : Nat, k < 9 → hs m k (2 * k + 1) = (cnt (m + 1) k : Int) := by decide +kernel
  exact key m (by omega) k (by omega)
theorem cnt_le (m k : Nat) (hm : m ≤ 4) (hk : k ≤ 8) : cnt m k ≤ 10000 := by
  have key : ∀ m : Nat, m < 5 → ∀ k : Nat, k < 9 → cnt m k ≤ 10000 := by decide +kernel
  exact key m (by omega) k (by omega)
theorem cw_nonneg (m k j : Nat) : 0 ≤ cw m k j := by unfold cw; omega
theorem hs_mono (m k : Nat) : ∀ i j : Nat, i ≤ j → hs m k i ≤ hs m k j := by
  intro i j h
  induction j with
  | zero => obtain rfl : i = 0 := by omega
            exact Int.le_refl _
  | succ j ih =>
    by_cases e : i = j + 1
    · subst e; exact Int.le_refl _
    · have := ih (by omega); have := cw_nonneg m k j; simp only [hs]; omega
/-- From first number j - k on: the first number of the pulses of a number, and what is left of it. -/
def atJ (m k : Nat) : Nat → Nat → Int → Nat × Int
  | 0, j, i => (j, i)
  | n + 1, j, i => if i ≥ cw m k j then atJ m k n (j + 1) (i - cw m k j) else (j, i)
theorem atJ_spec (m k : Nat) : ∀ (n j : Nat) (i : Int), j + n = 2 * k + 1 → 0 ≤ i → i < hs m k (2 * k + 1) - hs m k j →
    hs m k (atJ m k n j i).1 + (atJ m k n j i).2 = hs m k j + i ∧ 0 ≤ (atJ m k n j i).2 ∧ (atJ m k n j i).2 < cw m k (atJ m k n j i).1 ∧ (atJ m k n j i).1 ≤ 2 * k ∧ j ≤ (atJ m k n j i).1 := by
  intro n
  induction n with
  | zero =>
    intro j i hj h0 h1
    obtain rfl : j = 2 * k + 1 := by omega
    omega
  | succ n ih =>
    intro j i hj h0 h1
    simp only [atJ]
    by_cases c : i ≥ cw m k j
    · rw [if_pos c]
      have h := ih (j + 1) (i - cw m k j) (by omega) (by omega) (by rw [hs_succ m k j]; omega)
      rw [hs_succ m k j] at h
      refine ⟨by omega, h.2.1, h.2.2.1, h.2.2.2.1, by omega⟩
    · rw [if_neg c]
      refine ⟨rfl, h0, by simp only; omega, by simp only; omega, Nat.le_refl _⟩
theorem atJ_back (m k : Nat) (J : Nat) (I : Int) (h0 : 0 ≤ I) (h1 : I < cw m k J) : ∀ (n j : Nat), j ≤ J → J < j + n → atJ m k n j (hs m k J - hs m k j + I) = (J, I) := by
  intro n
  induction n with
  | zero => intro j h2 h3; omega
  | succ n ih =>
    intro j h2 h3
    simp only [atJ]
    by_cases e : j = J
    · subst e; rw [if_neg (by omega)]; congr 1; omega
    · have hm := hs_mono m k (j + 1) J (by omega)
      simp only [hs] at hm
      rw [if_pos (by omega)]
      have := ih (j + 1) (by omega) (by omega)
      rw [hs_succ m k j] at this
      rw [← this]; congr 1; omega
/-- The pulses of a number. -/
def atL : Nat → Nat → Int → List Int
  | 0, _, _ => []
  | m + 1, k, i => (((atJ m k (2 * k + 1) 0 i).1 : Int) - k) :: atL m (k - (((atJ m k (2 * k + 1) 0 i).1 : Int) - k).natAbs) (atJ m k (2 * k + 1) 0 i).2
theorem atL_length : ∀ (m k : Nat) (i : Int), (atL m k i).length = m
  | 0, _, _ => rfl
  | m + 1, k, i => by simp only [atL, List.length_cons, atL_length m]
/-- How many pulses of k stand ahead of a list. -/
def idxL : List Int → Nat → Int
  | [], _ => 0
  | v :: l, k => hs l.length k (v + k).toNat + idxL l (k - v.natAbs)
theorem idxL_range : ∀ (l : List Int) (k : Nat), l.length ≤ 4 → k ≤ 8 → nrm l = k → 0 ≤ idxL l k ∧ idxL l k < (cnt l.length k : Int)
  | [], k, _, hk, hn => by
    simp only [nrm] at hn; subst hn; simp [idxL, cnt]
  | v :: l, k, hl, hk, hn => by
    simp only [nrm] at hn
    simp only [List.length_cons] at hl
    have ih := idxL_range l (k - v.natAbs) (by omega) (by omega) (by omega)
    simp only [idxL, List.length_cons]
    have ht := hs_total l.length k (by omega) hk
    have h1 := hs_mono l.length k 0 (v + k).toNat (by omega)
    have h2 := hs_mono l.length k ((v + k).toNat + 1) (2 * k + 1) (by omega)
    rw [hs_succ] at h2
    have h3 : cw l.length k (v + k).toNat = (cnt l.length (k - v.natAbs) : Int) := by unfold cw; congr 2; omega
    have h4 : hs l.length k 0 = 0 := rfl
    omega
/-- What NextPulses answers. -/
def nxtR (l : List Int) (k : Int) : Int × List Int := if pfR l k = 0 then (if idxL l k.toNat + 1 < (cnt l.length k.toNat : Int) then (0, atL l.length k.toNat (idxL l k.toNat + 1)) else (4, [])) else (pfR l k, [])
theorem nxtR_length (l : List Int) (k : Int) : (nxtR l k).2.length ≤ 4 := by
  unfold nxtR
  by_cases h : pfR l k = 0
  · rw [if_pos h]
    have := pfR_0 h
    split
    · simp only [atL_length]; omega
    · simp
  · rw [if_neg h]; simp
theorem countPulses_eq (d k : Int) (hd0 : 0 ≤ d) (hd1 : d ≤ 4) (hk0 : 0 ≤ k) (hk1 : k ≤ 8) (K : Nat) (hK : 120 ≤ K) : impl_countPulses.f K d k = some (cnt d.toNat k.toNat : Int) := by
  have key : ∀ d : Nat, d < 5 → ∀ k : Nat, k < 9 → impl_countPulses.f 120 (d : Int) (k : Int) = some (cnt d k : Int) := by decide +kernel
  have := key d.toNat (by omega) k.toNat (by omega)
  rw [Int.toNat_of_nonneg hd0, Int.toNat_of_nonneg hk0] at this
  exact at_rounds (g := fun K => impl_countPulses.f K d k) (impl_countPulses.mono d k) hK this
theorem indexPulses_l1 (l0 : List Int) (m k : Nat) (hm : m ≤ 3) (hk : k ≤ 8) (v : Int) (hv : -(k : Int) ≤ v ∧ v ≤ k) (R : Int) (K0 : Nat) (l : List Int) (x11 i : Int) (hi : 0 ≤ i ∧ i ≤ 1000) : ∀ (n j : Nat) (s : Int) (K : Nat), (j : Int) - k + n = v → 0 ≤ s → s + (hs m k (v + k).toNat - hs m k j) ≤ 1000000000 → K0 + n + 130 ≤ K →
    (impl_indexPulses.l0 K0 l0 (((k - v.natAbs : Nat)) : Int) (s + (hs m k (v + k).toNat - hs m k j)) l x11 (i + 1) = some R) →
    impl_indexPulses.l1 K l0 (k : Int) s v (m : Int) ((j : Int) - k) l x11 i = some R := by
  intro n
  induction n with
  | zero =>
    intro j s K hj h0 h1 hK h
    obtain ⟨K, rfl⟩ : ∃ q, K = q + 1 := ⟨K - 1, by omega⟩
    simp only [impl_indexPulses.l1]
    rw [if_neg (by omega), abs_eq v (by omega) (by omega)]
    simp only [Option.bind_some]
    rw [w64 (n := (k : Int) - _) (by omega) (by omega), w64 (n := i + 1) (by omega) (by omega)]
    have e : (v + k).toNat = j := by omega
    rw [e] at h
    refine at_rounds (g := fun K => impl_indexPulses.l0 K _ _ _ _ _ _) (fun K => (impl_indexPulses.mono_l K).1 _ _ _ _ _ _) (show K0 ≤ K by omega) ?_
    rw [← h]; congr 1 <;> omega
  | succ n ih =>
    intro j s K hj h0 h1 hK h
    obtain ⟨K, rfl⟩ : ∃ q, K = q + 1 := ⟨K - 1, by omega⟩
    have hb : cw m k j ≤ 10000 := by have := cnt_le m (k - ((j : Int) - k).natAbs) (by omega) (by omega); unfold cw; omega
    have hn := cw_nonneg m k j
    have hmo := hs_mono m k j (v + k).toNat (by omega)
    have ec : (cnt ((m : Int)).toNat ((k : Int) - (((j : Int) - k).natAbs : Int)).toNat : Int) = cw m k j := by unfold cw; congr 1; congr 1; omega
    simp only [impl_indexPulses.l1]
    rw [if_pos (by omega), abs_eq _ (by omega) (by omega)]
    simp only [Option.bind_some]
    rw [w64 (n := (k : Int) - _) (by omega) (by omega), countPulses_eq (m : Int) _ (by omega) (by omega) (by omega) (by omega) K (by omega), ec]
    simp only [Option.bind_some]
    rw [w64 (n := s + cw m k j) (by omega) (by omega), w64 (n := (j : Int) - k + 1) (by omega) (by omega)]
    have e2 : (j : Int) - k + 1 = ((j + 1 : Nat) : Int) - k := by omega
    rw [e2]
    refine ih (j + 1) (s + cw m k j) K (by omega) (by omega) (by rw [hs_succ m k j]; omega) (by omega) ?_
    rw [← h, hs_succ m k j]; congr 1; omega
theorem indexPulses_l0 (L : List Int) (hL : L.length ≤ 4) : ∀ (rest pre : List Int) (k : Nat) (s i : Int) (K : Nat), L = pre ++ rest → (pre.length : Int) = i → k ≤ 8 → nrm rest = k → 0 ≤ s → s + 20000 * rest.length ≤ 100000000 → 200 * rest.length + 1 ≤ K →
    impl_indexPulses.l0 K L (k : Int) s L (L.length : Int) i = some (s + idxL rest k) := by
  intro rest
  induction rest with
  | nil =>
    intro pre k s i K h1 hi hk hn h0 hs1 hK
    obtain ⟨K, rfl⟩ : ∃ q, K = q + 1 := ⟨K - 1, by omega⟩
    simp only [impl_indexPulses.l0]
    rw [if_neg (by rw [h1]; simp; omega)]; simp [idxL]
  | cons v rest ih =>
    intro pre k s i K h1 hi hk hn h0 hs1 hK
    obtain ⟨K, rfl⟩ : ∃ q, K = q + 1 := ⟨K - 1, by omega⟩
    simp only [List.length_cons] at hK hs1
    simp only [nrm] at hn
    have hlen : L.length = pre.length + (rest.length + 1) := by rw [h1]; simp
    have hr2 : rd L i = v := by rw [h1]; exact rd_append_right pre (v :: rest) i hi.symm v rest rfl
    have hh := hs_total rest.length k (by omega) hk
    have hc := cnt_le (rest.length + 1) k (by omega) hk
    have hm1 := hs_mono rest.length k (v + k).toNat (2 * k + 1) (by omega)
    have hm0 := hs_mono rest.length k 0 (v + k).toNat (by omega)
    have hz : hs rest.length k 0 = 0 := rfl
    simp only [impl_indexPulses.l0]
    rw [if_pos (by omega), if_pos (by omega), if_pos (by omega), hr2, w64 (n := (L.length : Int) - 1) (by omega) (by omega), w64 (n := (L.length : Int) - 1 - i) (by omega) (by omega), w64 (n := -(k : Int)) (by omega) (by omega)]
    have e1 : (L.length : Int) - 1 - i = (rest.length : Int) := by omega
    have e2 : -(k : Int) = ((0 : Nat) : Int) - k := by omega
    rw [e1, e2]
    refine indexPulses_l1 L rest.length k (by omega) hk v (by omega) _ (200 * rest.length + 1) L _ i (by omega) (v + k).toNat 0 s K (by omega) h0 (by omega) (by omega) ?_
    rw [ih (pre ++ [v]) (k - v.natAbs) (s + (hs rest.length k (v + k).toNat - hs rest.length k 0)) (i + 1) (200 * rest.length + 1) (by rw [h1]; simp) (by simp; omega) (by omega) (by omega) (by omega) (by omega) (Nat.le_refl _)]
    congr 1; simp only [idxL]; omega
theorem indexPulses_eq (l : List Int) (k : Int) (hl : l.length ≤ 4) (hk0 : 0 ≤ k) (hk1 : k ≤ 8) (hn : (nrm l : Int) = k) (K : Nat) (hK : 1000 ≤ K) : impl_indexPulses.f K l k = some (idxL l k.toNat) := by
  unfold impl_indexPulses.f
  have := indexPulses_l0 l hl l [] k.toNat 0 0 K rfl rfl (by omega) (by omega) (by omega) (by omega) (by omega)
  rw [Int.toNat_of_nonneg hk0] at this
  rw [this]; simp
theorem pulsesAt_l1 (m k : Nat) (hm : m ≤ 3) (hk : k ≤ 8) (acc : List Int) (ha : acc.length ≤ 100) (R : List Int) (K0 : Nat) : ∀ (n j : Nat) (i : Int) (K : Nat), j + n = 2 * k → 0 ≤ i → i < hs m k (2 * k + 1) - hs m k j → K0 + n + 130 ≤ K →
    impl_pulsesAt.l0 K0 ((k - (((atJ m k (n + 1) j i).1 : Int) - k).natAbs : Nat) : Int) (atJ m k (n + 1) j i).2 (acc ++ [((atJ m k (n + 1) j i).1 : Int) - k]) ((m : Int) - 1) = some R →
    impl_pulsesAt.l1 K (k : Int) i acc (m : Int) ((j : Int) - k) (cw m k j) = some R := by
  intro n
  induction n with
  | zero =>
    intro j i K hj h0 h1 hK h
    obtain ⟨K, rfl⟩ : ∃ q, K = q + 1 := ⟨K - 1, by omega⟩
    obtain rfl : j = 2 * k := by omega
    simp only [hs] at h1
    have e : atJ m k (0 + 1) (2 * k) i = (2 * k, i) := by simp only [atJ]; rw [if_neg (by omega)]
    rw [e] at h
    simp only [impl_pulsesAt.l1]
    rw [if_neg (by omega), if_pos (by omega), abs_eq _ (by omega) (by omega)]
    simp only [Option.bind_some]
    rw [w64 (n := (k : Int) - _) (by omega) (by omega), w64 (n := (m : Int) - 1) (by omega) (by omega)]
    refine at_rounds (g := fun K => impl_pulsesAt.l0 K _ _ _ _) (fun K => (impl_pulsesAt.mono_l K).1 _ _ _ _) (show K0 ≤ K by omega) ?_
    rw [← h]; congr 1; simp only; omega
  | succ n ih =>
    intro j i K hj h0 h1 hK h
    obtain ⟨K, rfl⟩ : ∃ q, K = q + 1 := ⟨K - 1, by omega⟩
    simp only [impl_pulsesAt.l1]
    have hb : cw m k j ≤ 10000 := by have := cnt_le m (k - ((j : Int) - k).natAbs) (by omega) (by omega); unfold cw; omega
    have hn := cw_nonneg m k j
    have hm1 := hs_mono m k j (2 * k + 1) (by omega)
    have htot := hs_total m k hm hk
    have htb := cnt_le (m + 1) k (by omega) hk
    have hz := hs_mono m k 0 j (by omega)
    have hz0 : hs m k 0 = 0 := rfl
    by_cases c : i ≥ cw m k j
    · have e : atJ m k (n + 1 + 1) j i = atJ m k (n + 1) (j + 1) (i - cw m k j) := by rw [atJ, if_pos c]
      rw [e] at h
      rw [if_pos c, w64 (n := (j : Int) - k + 1) (by omega) (by omega), abs_eq _ (by omega) (by omega)]
      simp only [Option.bind_some]
      rw [w64 (n := (k : Int) - _) (by omega) (by omega), countPulses_eq (m : Int) _ (by omega) (by omega) (by omega) (by omega) K (by omega), w64 (n := i - cw m k j) (by omega) (by omega)]
      simp only [Option.bind_some]
      have := ih (j + 1) (i - cw m k j) K (by omega) (by omega) (by rw [hs_succ m k j]; omega) (by omega) h
      rw [← this]
      congr 1
      · omega
      · unfold cw; congr 1; congr 1; omega
    · have e : atJ m k (n + 1 + 1) j i = (j, i) := by rw [atJ, if_neg c]
      rw [e] at h
      rw [if_neg c, if_pos (by omega), abs_eq _ (by omega) (by omega)]
      simp only [Option.bind_some]
      rw [w64 (n := (k : Int) - _) (by omega) (by omega), w64 (n := (m : Int) - 1) (by omega) (by omega)]
      refine at_rounds (g := fun K => impl_pulsesAt.l0 K _ _ _ _) (fun K => (impl_pulsesAt.mono_l K).1 _ _ _ _) (show K0 ≤ K by omega) ?_
      rw [← h]; congr 1; simp only; omega
theorem pulsesAt_l0 : ∀ (m k : Nat) (i : Int) (acc : List Int) (K : Nat), m ≤ 4 → k ≤ 8 → 0 ≤ i → i < (cnt m k : Int) → acc.length + m ≤ 100 → 200 * m + 1 ≤ K →
    impl_pulsesAt.l0 K (k : Int) i acc ((m : Int) - 1) = some (acc ++ atL m k i) := by
  intro m
  induction m with
  | zero =>
    intro k i acc K hm hk h0 h1 ha hK
    obtain ⟨K, rfl⟩ : ∃ q, K = q + 1 := ⟨K - 1, by omega⟩
    simp only [impl_pulsesAt.l0]; rw [if_neg (by omega)]; simp [atL]
  | succ m ih =>
    intro k i acc K hm hk h0 h1 ha hK
    obtain ⟨K, rfl⟩ : ∃ q, K = q + 1 := ⟨K - 1, by omega⟩
    simp only [impl_pulsesAt.l0]
    rw [← hs_total m k (by omega) hk] at h1
    have hz0 : hs m k 0 = 0 := rfl
    have sp := atJ_spec m k (2 * k + 1) 0 i (by omega) h0 (by omega)
    rw [if_pos (by omega), w64 (n := -(k : Int)) (by omega) (by omega), abs_eq _ (by omega) (by omega)]
    simp only [Option.bind_some]
    rw [w64 (n := (k : Int) - _) (by omega) (by omega), countPulses_eq _ _ (by omega) (by omega) (by omega) (by omega) K (by omega)]
    simp only [Option.bind_some]
    have hc : (atJ m k (2 * k + 1) 0 i).2 < (cnt m (k - (((atJ m k (2 * k + 1) 0 i).1 : Int) - k).natAbs) : Int) := by have := sp.2.2.1; unfold cw at this; exact this
    have nx := ih (k - (((atJ m k (2 * k + 1) 0 i).1 : Int) - k).natAbs) (atJ m k (2 * k + 1) 0 i).2 (acc ++ [((atJ m k (2 * k + 1) 0 i).1 : Int) - k]) (200 * m + 1) (by omega) (by omega) sp.2.1 hc (by simp; omega) (Nat.le_refl _)
    have := pulsesAt_l1 m k (by omega) hk acc (by omega) _ (200 * m + 1) (2 * k) 0 i K (by omega) h0 (by omega) (by omega) nx
    have e1 : ((m + 1 : Nat) : Int) - 1 = (m : Int) := by omega
    have e2 : ((0 : Nat) : Int) - (k : Int) = -(k : Int) := by omega
    have e3 : (cnt ((m : Int)).toNat (((k : Int) - ((-(k : Int)).natAbs : Int))).toNat : Int) = cw m k 0 := by unfold cw; congr 1; congr 1; omega
    rw [e2] at this
    rw [e1, e3, this]
    simp [atL]
theorem pulsesAt_eq (d k i : Int) (hd0 : 0 ≤ d) (hd1 : d ≤ 4) (hk0 : 0 ≤ k) (hk1 : k ≤ 8) (h0 : 0 ≤ i) (h1 : i < (cnt d.toNat k.toNat : Int)) (K : Nat) (hK : 900 ≤ K) : impl_pulsesAt.f K d k i = some (atL d.toNat k.toNat i) := by
  unfold impl_pulsesAt.f
  rw [w64 (n := d - 1) (by omega) (by omega)]
  have := pulsesAt_l0 d.toNat k.toNat i [] K (by omega) (by omega) h0 h1 (by simp; omega) (by omega)
  rw [Int.toNat_of_nonneg hk0, Int.toNat_of_nonneg hd0] at this
  rw [this]; simp
theorem NextPulses_eq (l : List Int) (k : Int) (hl : l.length ≤ 2000000) (K : Nat) (hK : l.length + 1000 ≤ K) : impl_NextPulses.f K l k = some (nxtR l k) := by
  unfold impl_NextPulses.f nxtR
  rw [PulsesFault_eq l k hl K (by omega)]
  simp only [Option.bind_some]
  by_cases h : pfR l k = 0
  · obtain ⟨h1, h2, h3, h4⟩ := pfR_0 h
    obtain ⟨r0, r1⟩ := idxL_range l k.toNat (by omega) (by omega) (by omega)
    have hb := cnt_le l.length k.toNat (by omega) (by omega)
    rw [if_pos h, if_pos h, indexPulses_eq l k (by omega) h2.1 h2.2 h4 K (by omega)]
    simp only [Option.bind_some]
    rw [countPulses_eq (l.length : Int) k (by omega) h1.2 h2.1 h2.2 K (by omega)]
    simp only [Option.bind_some, Int.toNat_natCast]
    rw [w64 (n := (cnt l.length k.toNat : Int) - 1) (by omega) (by omega)]
    by_cases h5 : idxL l k.toNat + 1 < (cnt l.length k.toNat : Int)
    · rw [if_neg (by omega), if_pos h5, w64 (n := idxL l k.toNat + 1) (by omega) (by omega), pulsesAt_eq (l.length : Int) k _ (by omega) h1.2 h2.1 h2.2 (by omega) (by simpa using h5) K (by omega)]
      simp only [Option.bind_some, Int.toNat_natCast]
      unfold slices_Clone_int64_int64.f
      rw [if_pos (by rw [atL_length]; omega)]; rfl
    · rw [if_pos (by omega), if_neg h5]
  · rw [if_neg h, if_neg h]
theorem l1In_eq (a b c : Int) : spec_l1In.f a b c = some (decide (b ≤ a ∧ a ≤ c)) := by
  unfold spec_l1In.f
  by_cases h : a ≥ b
  · rw [if_pos h]; congr 1; have : b ≤ a := h; simp [this]
  · rw [if_neg h]; have : ¬ b ≤ a := h; simp [this]
theorem l1All_l0 (a b : Int) : ∀ (rest pre : List Int) (i : Int) (k : Nat), (pre.length : Int) = i → rest.length < k → pre.length + rest.length ≤ 1000000000 → spec_l1All.l0 k (pre ++ rest) a b i = some (allW rest a b) := by
  intro rest
  induction rest with
  | nil =>
    intro pre i k hi hk hl
    obtain ⟨k, rfl⟩ : ∃ m, k = m + 1 := ⟨k - 1, by omega⟩
    simp only [spec_l1All.l0]
    rw [if_neg (by simp; omega)]; rfl
  | cons x rest ih =>
    intro pre i k hi hk hl
    obtain ⟨k, rfl⟩ : ∃ m, k = m + 1 := ⟨k - 1, by omega⟩
    simp only [List.length_cons] at hk hl
    simp only [spec_l1All.l0]
    rw [if_pos (by simp; omega), if_pos (by omega), rd_append_right pre (x :: rest) i hi.symm x rest rfl, l1In_eq, w64 (n := i + 1) (by omega) (by omega)]
    have e : pre ++ x :: rest = (pre ++ [x]) ++ rest := by simp
    rw [e, ih (pre ++ [x]) (i + 1) k (by simp; omega) (by omega) (by simp; omega), allW_cons]
    by_cases c : a ≤ x ∧ x ≤ b <;> simp [c]
theorem l1All_eq (l : List Int) (a b : Int) (k : Nat) (hk : l.length < k) (hl : l.length ≤ 1000000000) : spec_l1All.f k l a b = some (allW l a b) := by
  unfold spec_l1All.f; have := l1All_l0 a b l [] 0 k rfl hk (by simpa using hl); simpa using this
theorem l1Abs_eq (x : Int) (h0 : -9223372036854775807 ≤ x) (h1 : x ≤ 9223372036854775807) : spec_l1Abs.f x = some (x.natAbs : Int) := by
  unfold spec_l1Abs.f
  by_cases h : x < 0
  · rw [if_pos h, w64 (by omega) (by omega)]; congr 1; omega
  · rw [if_neg h]; congr 1; omega
theorem l1Norm_l0 (l : List Int) (hl : l.length ≤ 2000000) (hb : ∀ x ∈ l, x.natAbs ≤ 1099511627776) : ∀ (rest pre : List Int) (i s : Int) (k : Nat), l = pre ++ rest → (pre.length : Int) = i → rest.length < k → s = (nrm pre : Int) → spec_l1Norm.l0 k l s i = some (nrm l : Int) := by
  intro rest
  induction rest with
  | nil =>
    intro pre i s k h1 hi hk hs
    obtain ⟨k, rfl⟩ : ∃ m, k = m + 1 := ⟨k - 1, by omega⟩
    simp only [spec_l1Norm.l0]
    rw [if_neg (by rw [h1]; simp; omega), hs, h1]; simp
  | cons x rest ih =>
    intro pre i s k h1 hi hk hs
    obtain ⟨k, rfl⟩ : ∃ m, k = m + 1 := ⟨k - 1, by omega⟩
    simp only [List.length_cons] at hk
    have hlen : l.length = pre.length + (rest.length + 1) := by rw [h1]; simp
    have hx := hb x (by rw [h1]; simp)
    have hp := nrm_le 1099511627776 pre (fun y hy => hb y (by rw [h1]; simp [hy]))
    have hp2 : 1099511627776 * pre.length ≤ 1099511627776 * 2000000 := Nat.mul_le_mul_left _ (by omega)
    simp only [spec_l1Norm.l0]
    have hr : rd l i = x := by rw [h1]; exact rd_append_right pre (x :: rest) i hi.symm x rest rfl
    rw [if_pos (by omega), if_pos (by omega), hr, l1Abs_eq x (by omega) (by omega)]
    simp only [Option.bind_some]
    rw [w64 (n := s + _) (by omega) (by omega), w64 (n := i + 1) (by omega) (by omega)]
    exact ih (pre ++ [x]) (i + 1) _ k (by rw [h1]; simp) (by simp; omega) (by omega) (by rw [nrm_append]; simp only [nrm]; omega)
theorem l1Norm_eq (l : List Int) (hl : l.length ≤ 2000000) (hb : ∀ x ∈ l, x.natAbs ≤ 1099511627776) (k : Nat) (hk : l.length < k) : spec_l1Norm.f k l = some (nrm l : Int) := by
  unfold spec_l1Norm.f; exact l1Norm_l0 l hl hb l [] 0 0 k rfl rfl hk rfl
theorem allW_k {l : List Int} {k : Int} (hk : 0 ≤ k ∧ k ≤ 8) : (allW l (-k) k = true ∧ (nrm l : Int) = k) ↔ (allW l (-8) 8 = true ∧ (nrm l : Int) = k) := by
  constructor
  · rintro ⟨h1, h2⟩; exact ⟨allW_mk fun x hx => by have := allW_mem h1 hx; omega, h2⟩
  · rintro ⟨h1, h2⟩; exact ⟨allW_mk fun x hx => by have := nrm_mem hx; omega, h2⟩
theorem specPulsesFault_eq (l : List Int) (a : Int) (hl : l.length ≤ 2000000) (k : Nat) (hk : l.length + 10 < k) : spec_PulsesFault.f k l a = some (pfR l a) := by
  obtain ⟨k, rfl⟩ : ∃ m, k = m + 1 := ⟨k - 1, by omega⟩
  unfold spec_PulsesFault.f pfR
  by_cases h0 : (l.length : Int) < 1
  · rw [if_pos h0, if_pos (by omega)]; simp only [spec_PulsesFault.j0, if_true]
  · rw [if_neg h0]
    by_cases h1 : (l.length : Int) > 4
    · rw [decide_eq_true h1, if_pos (by omega)]; simp only [spec_PulsesFault.j0, if_true]
    · rw [decide_eq_false h1, if_neg (by omega)]
      simp only [spec_PulsesFault.j0]
      rw [if_neg (by simp), l1In_eq]
      simp only [Option.bind_some, decide_eq_true_eq]
      by_cases h2 : 0 ≤ a ∧ a ≤ 8
      · rw [if_pos h2, if_neg (by simp [h2]), w64 (n := -a) (by omega) (by omega), l1All_eq l (-a) a k (by omega) (by omega)]
        simp only [Option.bind_some]
        simp only [← allW_k h2]
        by_cases h3 : allW l (-a) a = true
        · have h4 : ∀ x ∈ l, x.natAbs ≤ 1099511627776 := fun x hx => by have := allW_mem h3 hx; omega
          rw [if_pos h3, l1Norm_eq l hl h4 k (by omega)]
          simp only [Option.bind_some]
          by_cases h5 : (nrm l : Int) = a
          · rw [if_pos h5, if_pos ⟨h3, h5⟩]
          · rw [if_neg h5, if_neg (fun h => h5 h.2)]
        · rw [if_neg h3, if_neg (fun h => h3 h.1)]
      · rw [if_neg h2, if_pos (by simpa using h2)]
theorem l11Count_eq (d k : Int) (hd0 : 0 ≤ d) (hd1 : d ≤ 4) (hk0 : 0 ≤ k) (hk1 : k ≤ 8) (K : Nat) (hK : 120 ≤ K) : spec_l11Count.f K d k = some (cnt d.toNat k.toNat : Int) := by
  have key : ∀ d : Nat, d < 5 → ∀ k : Nat, k < 9 → spec_l11Count.f 120 (d : Int) (k : Int) = some (cnt d k : Int) := by decide +kernel
  have := key d.toNat (by omega) k.toNat (by omega)
  rw [Int.toNat_of_nonneg hd0, Int.toNat_of_nonneg hk0] at this
  exact at_rounds (g := fun K => spec_l11Count.f K d k) (spec_l11Count.mono d k) hK this
theorem l11Index_l1 (L : List Int) (hL : L.length ≤ 4) (m k : Nat) (hm : m ≤ 3) (hk : k ≤ 8) (v : Int) (hv : -(k : Int) ≤ v ∧ v ≤ k) (R : Int) (K0 : Nat) (i : Int) (hi : 0 ≤ i) (hi2 : i < (L.length : Int)) (hr : rd L i = v) (hmi : (m : Int) = (L.length : Int) - 1 - i) : ∀ (n j : Nat) (s : Int) (K : Nat), (j : Int) - k + n = v → 0 ≤ s → s + (hs m k (v + k).toNat - hs m k j) ≤ 1000000000 → K0 + n + 130 ≤ K →
    (spec_l11Index.l0 K0 L (s + (hs m k (v + k).toNat - hs m k j)) (((k - v.natAbs : Nat)) : Int) (i + 1) = some R) →
    spec_l11Index.l1 K L s (k : Int) i ((j : Int) - k) = some R := by
  intro n
  induction n with
  | zero =>
    intro j s K hj h0 h1 hK h
    obtain ⟨K, rfl⟩ : ∃ q, K = q + 1 := ⟨K - 1, by omega⟩
    simp only [spec_l11Index.l1]
    rw [if_pos hi, if_pos hi2, hr, if_neg (by omega), l1Abs_eq v (by omega) (by omega)]
    simp only [Option.bind_some]
    rw [w64 (n := (k : Int) - _) (by omega) (by omega), w64 (n := i + 1) (by omega) (by omega)]
    have e : (v + k).toNat = j := by omega
    rw [e] at h
    refine at_rounds (g := fun K => spec_l11Index.l0 K _ _ _ _) (fun K => (spec_l11Index.mono_l K).1 _ _ _ _) (show K0 ≤ K by omega) ?_
    rw [← h]; congr 1 <;> omega
  | succ n ih =>
    intro j s K hj h0 h1 hK h
    obtain ⟨K, rfl⟩ : ∃ q, K = q + 1 := ⟨K - 1, by omega⟩
    have hb : cw m k j ≤ 10000 := by have := cnt_le m (k - ((j : Int) - k).natAbs) (by omega) (by omega); unfold cw; omega
    have hn := cw_nonneg m k j
    have hmo := hs_mono m k j (v + k).toNat (by omega)
    have ec : (cnt ((m : Int)).toNat ((k : Int) - (((j : Int) - k).natAbs : Int)).toNat : Int) = cw m k j := by unfold cw; congr 1; congr 1; omega
    simp only [spec_l11Index.l1]
    rw [if_pos hi, if_pos hi2, hr, if_pos (by omega), l1Abs_eq _ (by omega) (by omega)]
    simp only [Option.bind_some]
    rw [w64 (n := (L.length : Int) - 1) (by omega) (by omega), w64 (n := (L.length : Int) - 1 - i) (by omega) (by omega), ← hmi, w64 (n := (k : Int) - _) (by omega) (by omega), l11Count_eq (m : Int) _ (by omega) (by omega) (by omega) (by omega) K (by omega), ec]
    simp only [Option.bind_some]
    rw [w64 (n := s + cw m k j) (by omega) (by omega), w64 (n := (j : Int) - k + 1) (by omega) (by omega)]
    have e2 : (j : Int) - k + 1 = ((j + 1 : Nat) : Int) - k := by omega
    rw [e2]
    refine ih (j + 1) (s + cw m k j) K (by omega) (by omega) (by rw [hs_succ m k j]; omega) (by omega) ?_
    rw [← h, hs_succ m k j]; congr 1; omega
theorem l11Index_l0 (L : List Int) (hL : L.length ≤ 4) : ∀ (rest pre : List Int) (k : Nat) (s i : Int) (K : Nat), L = pre ++ rest → (pre.length : Int) = i → k ≤ 8 → nrm rest = k → 0 ≤ s → s + 20000 * rest.length ≤ 100000000 → 200 * rest.length + 1 ≤ K →
    spec_l11Index.l0 K L s (k : Int) i = some (s + idxL rest k) := by
  intro rest
  induction rest with
  | nil =>
    intro pre k s i K h1 hi hk hn h0 hs1 hK
    obtain ⟨K, rfl⟩ : ∃ q, K = q + 1 := ⟨K - 1, by omega⟩
    simp only [spec_l11Index.l0]
    rw [if_neg (by rw [h1]; simp; omega)]; simp [idxL]
  | cons v rest ih =>
    intro pre k s i K h1 hi hk hn h0 hs1 hK
    obtain ⟨K, rfl⟩ : ∃ q, K = q + 1 := ⟨K - 1, by omega⟩
    simp only [List.length_cons] at hK hs1
    simp only [nrm] at hn
    have hlen : L.length = pre.length + (rest.length + 1) := by rw [h1]; simp
    have hr2 : rd L i = v := by rw [h1]; exact rd_append_right pre (v :: rest) i hi.symm v rest rfl
    have hh := hs_total rest.length k (by omega) hk
    have hc := cnt_le (rest.length + 1) k (by omega) hk
    have hm1 := hs_mono rest.length k (v + k).toNat (2 * k + 1) (by omega)
    have hm0 := hs_mono rest.length k 0 (v + k).toNat (by omega)
    have hz : hs rest.length k 0 = 0 := rfl
    simp only [spec_l11Index.l0]
    rw [if_pos (by omega), w64 (n := -(k : Int)) (by omega) (by omega)]
    have e2 : -(k : Int) = ((0 : Nat) : Int) - k := by omega
    rw [e2]
    refine l11Index_l1 L hL rest.length k (by omega) hk v (by omega) _ (200 * rest.length + 1) i (by omega) (by omega) hr2 (by omega) (v + k).toNat 0 s K (by omega) h0 (by omega) (by omega) ?_
    rw [ih (pre ++ [v]) (k - v.natAbs) (s + (hs rest.length k (v + k).toNat - hs rest.length k 0)) (i + 1) (200 * rest.length + 1) (by rw [h1]; simp) (by simp; omega) (by omega) (by omega) (by omega) (by omega) (Nat.le_refl _)]
    congr 1; simp only [idxL]; omega
theorem l11Index_eq (l : List Int) (k : Int) (hl : l.length ≤ 4) (hk0 : 0 ≤ k) (hk1 : k ≤ 8) (hn : (nrm l : Int) = k) (K : Nat) (hK : 1000 ≤ K) : spec_l11Index.f K l k = some (idxL l k.toNat) := by
  unfold spec_l11Index.f
  have := l11Index_l0 l hl l [] k.toNat 0 0 K rfl rfl (by omega) (by omega) (by omega) (by omega) (by omega)
  rw [Int.toNat_of_nonneg hk0] at this
  rw [this]; simp
/-- What PulsesAt answers. -/
def patR (d k i : Int) : Int × List Int := if ((1 ≤ d ∧ d ≤ 4) ∧ (0 ≤ k ∧ k ≤ 8)) ∧ (0 ≤ i ∧ i < (cnt d.toNat k.toNat : Int)) then (0, atL d.toNat k.toNat i) else (3, [])
theorem patR_length (d k i : Int) : (patR d k i).2.length ≤ 4 := by
  unfold patR; split
  · simp only [atL_length]; omega
  · simp
theorem l11Ask_eq (a b : Int) : spec_l11Ask.f a b = some (decide ((1 ≤ a ∧ a ≤ 4) ∧ (0 ≤ b ∧ b ≤ 8))) := by
  unfold spec_l11Ask.f; simp only [l1In_eq, Option.bind_some]; by_cases h : 1 ≤ a ∧ a ≤ 4 <;> simp [h]
theorem l11At_l1 (d : Int) (m k c : Nat) (hd : d = m + 1 + c) (hd4 : d ≤ 4) (hm : m ≤ 3) (hk : k ≤ 8) (acc : List Int) (ha : acc.length ≤ 100) (R : List Int) (K0 : Nat) : ∀ (n j : Nat) (i : Int) (K : Nat), j + n = 2 * k → 0 ≤ i → i < hs m k (2 * k + 1) - hs m k j → K0 + 2 * n + 130 ≤ K →
    spec_l11At.l0 K0 d (atJ m k (n + 1) j i).2 (acc ++ [((atJ m k (n + 1) j i).1 : Int) - k]) ((k - (((atJ m k (n + 1) j i).1 : Int) - k).natAbs : Nat) : Int) ((c : Int) + 1) = some R →
    spec_l11At.l1 K d i acc (k : Int) (c : Int) ((j : Int) - k) = some R := by
  have stop : ∀ (j : Nat) (i : Int) (K : Nat), j ≤ 2 * k → K0 + 1 ≤ K → spec_l11At.l0 K0 d i (acc ++ [(j : Int) - k]) ((k - ((j : Int) - k).natAbs : Nat) : Int) ((c : Int) + 1) = some R → spec_l11At.j2 K d i acc (k : Int) (c : Int) ((j : Int) - k) false = some R := by
    intro j i K hj hK h
    obtain ⟨K, rfl⟩ : ∃ q, K = q + 1 := ⟨K - 1, by omega⟩
    simp only [spec_l11At.j2]
    rw [if_neg (by simp), if_pos (by omega), l1Abs_eq _ (by omega) (by omega)]
    simp only [Option.bind_some]
    rw [w64 (n := (k : Int) - _) (by omega) (by omega), w64 (n := (c : Int) + 1) (by omega) (by omega)]
    refine at_rounds (g := fun K => spec_l11At.l0 K _ _ _ _ _) (fun K => (spec_l11At.mono_l K).1 _ _ _ _ _) (show K0 ≤ K by omega) ?_
    rw [← h]; congr 1; omega
  intro n
  induction n with
  | zero =>
    intro j i K hj h0 h1 hK h
    obtain ⟨K, rfl⟩ : ∃ q, K = q + 1 := ⟨K - 1, by omega⟩
    obtain rfl : j = 2 * k := by omega
    simp only [hs] at h1
    have e : atJ m k (0 + 1) (2 * k) i = (2 * k, i) := by simp only [atJ]; rw [if_neg (by omega)]
    rw [e] at h
    simp only [spec_l11At.l1]
    rw [if_neg (by omega)]
    exact stop (2 * k) i K (by omega) (by omega) h
  | succ n ih =>
    intro j i K hj h0 h1 hK h
    obtain ⟨K, rfl⟩ : ∃ q, K = q + 1 := ⟨K - 1, by omega⟩
    have hb : cw m k j ≤ 10000 := by have := cnt_le m (k - ((j : Int) - k).natAbs) (by omega) (by omega); unfold cw; omega
    have hn := cw_nonneg m k j
    have htot := hs_total m k hm hk
    have htb := cnt_le (m + 1) k (by omega) hk
    have hz := hs_mono m k 0 j (by omega)
    have hz0 : hs m k 0 = 0 := rfl
    have ed : wrap64 (wrap64 (d - 1) - (c : Int)) = (m : Int) := by rw [w64 (n := d - 1) (by omega) (by omega), w64 (by omega) (by omega)]; omega
    have ec : (cnt ((m : Int)).toNat ((k : Int) - (((j : Int) - k).natAbs : Int)).toNat : Int) = cw m k j := by unfold cw; congr 1; congr 1; omega
    simp only [spec_l11At.l1]
    rw [if_pos (by omega), l1Abs_eq _ (by omega) (by omega)]
    simp only [Option.bind_some]
    rw [ed, w64 (n := (k : Int) - _) (by omega) (by omega), l11Count_eq (m : Int) _ (by omega) (by omega) (by omega) (by omega) K (by omega)]
    simp only [Option.bind_some, ec]
    by_cases cc : i ≥ cw m k j
    · have e : atJ m k (n + 1 + 1) j i = atJ m k (n + 1) (j + 1) (i - cw m k j) := by rw [atJ, if_pos cc]
      rw [e] at h
      rw [decide_eq_true cc]
      obtain ⟨K, rfl⟩ : ∃ q, K = q + 1 := ⟨K - 1, by omega⟩
      simp only [spec_l11At.j2]
      rw [if_pos True.intro, l1Abs_eq _ (by omega) (by omega)]
      simp only [Option.bind_some]
      rw [ed, w64 (n := (k : Int) - _) (by omega) (by omega), l11Count_eq (m : Int) _ (by omega) (by omega) (by omega) (by omega) K (by omega)]
      simp only [Option.bind_some, ec]
      rw [w64 (n := i - cw m k j) (by omega) (by omega), w64 (n := (j : Int) - k + 1) (by omega) (by omega)]
      have := ih (j + 1) (i - cw m k j) K (by omega) (by omega) (by rw [hs_succ m k j]; omega) (by omega) h
      rw [← this]; congr 1; omega
    · have e : atJ m k (n + 1 + 1) j i = (j, i) := by rw [atJ, if_neg cc]
      rw [e] at h
      rw [decide_eq_false cc]
      exact stop j i K (by omega) (by omega) h
theorem l11At_l0 (d : Int) (hd4 : d ≤ 4) : ∀ (m k : Nat) (i : Int) (acc : List Int) (c K : Nat), d = m + c → m ≤ 4 → k ≤ 8 → 0 ≤ i → i < (cnt m k : Int) → acc.length + m ≤ 100 → 200 * m + 1 ≤ K →
    spec_l11At.l0 K d i acc (k : Int) (c : Int) = some (acc ++ atL m k i) := by
  intro m
  induction m with
  | zero =>
    intro k i acc c K hd hm hk h0 h1 ha hK
    obtain ⟨K, rfl⟩ : ∃ q, K = q + 1 := ⟨K - 1, by omega⟩
    simp only [spec_l11At.l0]; rw [if_neg (by omega)]; simp [atL]
  | succ m ih =>
    intro k i acc c K hd hm hk h0 h1 ha hK
    obtain ⟨K, rfl⟩ : ∃ q, K = q + 1 := ⟨K - 1, by omega⟩
    simp only [spec_l11At.l0]
    rw [← hs_total m k (by omega) hk] at h1
    have hz0 : hs m k 0 = 0 := rfl
    have sp := atJ_spec m k (2 * k + 1) 0 i (by omega) h0 (by omega)
    rw [if_pos (by omega), w64 (n := -(k : Int)) (by omega) (by omega)]
    have hc : (atJ m k (2 * k + 1) 0 i).2 < (cnt m (k - (((atJ m k (2 * k + 1) 0 i).1 : Int) - k).natAbs) : Int) := by have := sp.2.2.1; unfold cw at this; exact this
    have nx := ih (k - (((atJ m k (2 * k + 1) 0 i).1 : Int) - k).natAbs) (atJ m k (2 * k + 1) 0 i).2 (acc ++ [((atJ m k (2 * k + 1) 0 i).1 : Int) - k]) (c + 1) (200 * m + 1) (by omega) (by omega) (by omega) sp.2.1 hc (by simp; omega) (Nat.le_refl _)
    have := l11At_l1 d m k c (by omega) hd4 (by omega) hk acc (by omega) _ (200 * m + 1) (2 * k) 0 i K (by omega) h0 (by omega) (by omega) (by rw [← nx]; congr 1)
    have e2 : ((0 : Nat) : Int) - (k : Int) = -(k : Int) := by omega
    rw [e2] at this
    rw [this]
    simp [atL]
theorem l11At_eq (d k i : Int) (hd0 : 0 ≤ d) (hd1 : d ≤ 4) (hk0 : 0 ≤ k) (hk1 : k ≤ 8) (h0 : 0 ≤ i) (h1 : i < (cnt d.toNat k.toNat : Int)) (K : Nat) (hK : 900 ≤ K) : spec_l11At.f K d k i = some (atL d.toNat k.toNat i) := by
  unfold spec_l11At.f
  have := l11At_l0 d hd1 d.toNat k.toNat i [] 0 K (by omega) (by omega) (by omega) h0 h1 (by simp; omega) (by omega)
  rw [Int.toNat_of_nonneg hk0] at this
  rw [show ((0 : Nat) : Int) = 0 from rfl] at this
  rw [this]; simp
theorem specPulsesAt_eq (d k i : Int) (K : Nat) (hK : 1000 ≤ K) : spec_PulsesAt.f K d k i = some (patR d k i) := by
  unfold spec_PulsesAt.f patR
  simp only [l11Ask_eq, Option.bind_some, decide_eq_true_eq]
  by_cases h1 : (1 ≤ d ∧ d ≤ 4) ∧ (0 ≤ k ∧ k ≤ 8)
  · have hb := cnt_le d.toNat k.toNat (by omega) (by omega)
    rw [if_pos h1, l11Count_eq d k (by omega) h1.1.2 h1.2.1 h1.2.2 K (by omega)]
    simp only [Option.bind_some]
    rw [w64 (by omega) (by omega), l1In_eq]
    simp only [Option.bind_some, decide_eq_true_eq]
    by_cases h3 : 0 ≤ i ∧ i < (cnt d.toNat k.toNat : Int)
    · rw [if_pos (by omega), if_pos ⟨h1, h3⟩, l11At_eq d k i (by omega) h1.1.2 h1.2.1 h1.2.2 h3.1 h3.2 K (by omega)]; rfl
    · rw [if_neg (by omega), if_neg (fun h => h3 h.2)]
  · rw [if_neg h1, if_neg (fun h => h1 h.1)]
theorem specNextPulses_eq (l : List Int) (k : Int) (hl : l.length ≤ 2000000) (K : Nat) (hK : l.length + 1000 ≤ K) : spec_NextPulses.f K l k = some (nxtR l k) := by
  unfold spec_NextPulses.f nxtR
  rw [specPulsesFault_eq l k hl K (by omega)]
  simp only [Option.bind_some]
  by_cases h : pfR l k = 0
  · obtain ⟨h1, h2, h3, h4⟩ := pfR_0 h
    obtain ⟨r0, r1⟩ := idxL_range l k.toNat (by omega) (by omega) (by omega)
    have hb := cnt_le l.length k.toNat (by omega) (by omega)
    rw [if_pos h, if_pos h, l11Index_eq l k (by omega) h2.1 h2.2 h4 K (by omega)]
    simp only [Option.bind_some]
    rw [w64 (n := idxL l k.toNat + 1) (by omega) (by omega), specPulsesAt_eq _ k _ K (by omega)]
    simp only [Option.bind_some]
    by_cases h5 : idxL l k.toNat + 1 < (cnt l.length k.toNat : Int)
    · have ep : patR (l.length : Int) k (idxL l k.toNat + 1) = (0, atL l.length k.toNat (idxL l k.toNat + 1)) := by
        unfold patR; rw [if_pos ⟨⟨by omega, h2⟩, by omega, by simpa using h5⟩, Int.toNat_natCast]
      rw [ep, if_pos h5]; simp
    · have ep : patR (l.length : Int) k (idxL l k.toNat + 1) = (3, []) := by
        unfold patR; rw [if_neg (by intro h6; exact h5 (by simpa using h6.2.2))]
      rw [ep, if_neg h5]; simp
  · rw [if_neg h, if_neg h]
theorem toInt64S_l0 (l : List Int) (hl : l.length ≤ 1000000000000) : ∀ (rest pre : List Int) (i : Int) (k : Nat) (z : List Int), l = pre ++ rest → (pre.length : Int) = i → rest.length < k → z.length = rest.length →
    laws_toInt64S.l0 k l (pre ++ z) i = some l := by
  intro rest
  induction rest with
  | nil =>
    intro pre i k z hl2 hi hk hz
    obtain ⟨k, rfl⟩ : ∃ m, k = m + 1 := ⟨k - 1, by omega⟩
    have : z = [] := List.eq_nil_of_length_eq_zero hz
    subst this
    simp only [laws_toInt64S.l0]
    rw [if_neg (by rw [hl2]; simp; omega), hl2]
  | cons x rest ih =>
    intro pre i k z hl2 hi hk hz
    obtain ⟨k, rfl⟩ : ∃ m, k = m + 1 := ⟨k - 1, by omega⟩
    obtain ⟨y, z, rfl⟩ : ∃ y z', z = y :: z' := by cases z with | nil => simp at hz | cons y z => exact ⟨y, z, rfl⟩
    simp only [List.length_cons] at hk hz
    have hlen : l.length = pre.length + (rest.length + 1) := by rw [hl2]; simp
    simp only [laws_toInt64S.l0]
    have hr : rd l i = x := by rw [hl2]; exact rd_append_right pre (x :: rest) i hi.symm x rest rfl
    rw [if_pos (by omega), if_pos (by omega), if_pos (by simp; omega), hr, w64 (n := i + 1) (by omega) (by omega)]
    have e : (pre ++ y :: z).set i.toNat x = (pre ++ [x]) ++ z := by
      have hn : i.toNat = pre.length := by omega
      rw [hn, List.set_append_right _ _ (Nat.le_refl _)]; simp
    rw [e]
    exact ih (pre ++ [x]) (i + 1) k z (by rw [hl2]; simp) (by simp; omega) (by omega) (by omega)
theorem toInt64S_eq (l : List Int) (hl : l.length ≤ 1000000000) (k : Nat) (hk : l.length < k) : laws_toInt64S.f k l = some l := by
  unfold laws_toInt64S.f
  rw [if_pos (by omega), if_pos (by omega)]
  have := toInt64S_l0 l (by omega) l [] 0 k (List.replicate ((l.length : Int)).toNat 0) rfl rfl hk (by simp)
  simpa using this
theorem eqInt64S_l0 (l : List Int) (hl : l.length ≤ 1000000000000) : ∀ (d k : Nat) (i : Int), (l.length : Int) - i = d → 0 ≤ i → d < k → laws_eqInt64S.l0 k l l i = some true := by
  intro d
  induction d with
  | zero =>
    intro k i hd h0 hk
    obtain ⟨k, rfl⟩ : ∃ m, k = m + 1 := ⟨k - 1, by omega⟩
    simp only [laws_eqInt64S.l0]; rw [if_neg (by omega)]
  | succ d ih =>
    intro k i hd h0 hk
    obtain ⟨k, rfl⟩ : ∃ m, k = m + 1 := ⟨k - 1, by omega⟩
    simp only [laws_eqInt64S.l0]
    rw [if_pos (by omega), if_pos h0, if_pos (by omega), if_pos True.intro, w64 (by omega) (by omega)]
    exact ih k (i + 1) (by omega) (by omega) (by omega)
theorem eqInt64S_self (l : List Int) (hl : l.length ≤ 1000000000000) (k : Nat) (hk : l.length < k) : laws_eqInt64S.f k l l = some true := by
  unfold laws_eqInt64S.f; rw [if_pos rfl]; exact eqInt64S_l0 l hl l.length k 0 (by omega) (by omega) hk
/-- So many numbers from x on. -/
def iv : Nat → Int → List Int
  | 0, _ => []
  | n + 1, x => x :: iv n (x + 1)
theorem iv_length : ∀ (n : Nat) (x : Int), (iv n x).length = n
  | 0, _ => rfl
  | n + 1, x => by simp [iv, iv_length n]
theorem mem_iv : ∀ (n : Nat) (x y : Int), y ∈ iv n x → x ≤ y ∧ y < x + n
  | 0, _, _, h => by simp [iv] at h
  | n + 1, x, y, h => by
    simp only [iv, List.mem_cons] at h
    rcases h with rfl | h
    · omega
    · have := mem_iv n (x + 1) y h; omega
theorem markInt64S_l0 : ∀ (rest pre : List Int) (a i : Int) (k : Nat), (pre.length : Int) = i → rest.length < k → 0 ≤ a → a + rest.length ≤ 1000000000000 → i + rest.length ≤ 1000000000000 →
    laws_markInt64S.l0 k (pre ++ rest) a i = some (a + rest.length, pre ++ iv rest.length a) := by
  intro rest
  induction rest with
  | nil =>
    intro pre a i k hi hk h0 h1 h2
    obtain ⟨k, rfl⟩ : ∃ m, k = m + 1 := ⟨k - 1, by omega⟩
    simp only [laws_markInt64S.l0]
    rw [if_neg (by simp; omega)]; simp [iv]
  | cons x rest ih =>
    intro pre a i k hi hk h0 h1 h2
    obtain ⟨k, rfl⟩ : ∃ m, k = m + 1 := ⟨k - 1, by omega⟩
    simp only [List.length_cons] at hk h1 h2
    simp only [laws_markInt64S.l0]
    rw [if_pos (by simp; omega), if_pos (by omega), w64 (n := a + 1) (by omega) (by omega), w64 (n := i + 1) (by omega) (by omega)]
    have e : (pre ++ x :: rest).set i.toNat a = (pre ++ [a]) ++ rest := by
      have hn : i.toNat = pre.length := by omega
      rw [hn, List.set_append_right _ _ (Nat.le_refl _)]; simp
    rw [e, ih (pre ++ [a]) (a + 1) (i + 1) k (by simp; omega) (by omega) (by omega) (by omega) (by omega)]
    simp [iv]; omega
theorem markInt64S_eq (l : List Int) (a : Int) (k : Nat) (hk : l.length < k) (h0 : 0 ≤ a) (h1 : a + l.length ≤ 1000000000000) : laws_markInt64S.f k l a = some (a + l.length, iv l.length a) := by
  unfold laws_markInt64S.f
  have := markInt64S_l0 l [] a 0 k rfl hk h0 h1 (by omega)
  simpa using this
theorem heldInt64S_l0 : ∀ (n : Nat) (pre : List Int) (a i : Int) (k : Nat), (pre.length : Int) = i → n < k → 0 ≤ a → a + n ≤ 1000000000000 → i + n ≤ 1000000000000 →
    laws_heldInt64S.l0 k (pre ++ iv n a) a i = some (a + n) := by
  intro n
  induction n with
  | zero =>
    intro pre a i k hi hk h0 h1 h2
    obtain ⟨k, rfl⟩ : ∃ m, k = m + 1 := ⟨k - 1, by omega⟩
    simp only [laws_heldInt64S.l0]
    rw [if_neg (by simp [iv]; omega)]; simp
  | succ n ih =>
    intro pre a i k hi hk h0 h1 h2
    obtain ⟨k, rfl⟩ : ∃ m, k = m + 1 := ⟨k - 1, by omega⟩
    simp only [laws_heldInt64S.l0]
    rw [if_pos (by simp [iv_length]; omega), if_pos (by omega), if_pos (rd_append_right pre (iv (n + 1) a) i hi.symm a (iv n (a + 1)) rfl), w64 (n := a + 1) (by omega) (by omega), w64 (n := i + 1) (by omega) (by omega)]
    have e : pre ++ iv (n + 1) a = (pre ++ [a]) ++ iv n (a + 1) := by simp [iv]
    rw [e, ih (pre ++ [a]) (a + 1) (i + 1) k (by simp; omega) (by omega) (by omega) (by omega) (by omega)]
    congr 1; omega
theorem heldInt64S_eq (n : Nat) (a : Int) (k : Nat) (hk : n < k) (h0 : 0 ≤ a) (h1 : a + n ≤ 1000000000000) : laws_heldInt64S.f k (iv n a) a = some (a + n) := by
  unfold laws_heldInt64S.f
  have := heldInt64S_l0 n [] a 0 k rfl hk h0 h1 (by omega)
  simpa using this
theorem eqIntsResult_self (c : Int) (l : List Int) (hl : l.length ≤ 1000000) (k : Nat) (hk : l.length < k) : laws_eqIntsResult.f k c l c l = some true := by
  unfold laws_eqIntsResult.f; rw [if_pos rfl, eqInt64S_self l (by omega) k hk]; rfl
theorem markIntsResult_eq (c : Int) (l : List Int) (a : Int) (k : Nat) (hk : l.length < k) (h0 : 0 ≤ a) (h1 : a + l.length ≤ 1000000000000) : laws_markIntsResult.f k c l a = some (a + l.length, iv l.length a) := by
  unfold laws_markIntsResult.f; rw [markInt64S_eq l a k hk h0 h1]; rfl
theorem heldIntsResult_eq (c : Int) (n : Nat) (a : Int) (k : Nat) (hk : n < k) (h0 : 0 ≤ a) (h1 : a + n ≤ 1000000000000) : laws_heldIntsResult.f k c (iv n a) a = some (a + n) := by
  unfold laws_heldIntsResult.f; rw [heldInt64S_eq n a k hk h0 h1]; simp only [Option.bind_some]; rw [if_neg (by omega)]
theorem FnExactNextPulses : laws_FnExactNextPulses.Pure := by
  intro l k _ _ _ _
  refine ⟨1100001, ?_⟩
  have hR := nxtR_length l k
  unfold laws_FnExactNextPulses.f
  by_cases hbig : (l.length : Int) > 1048576
  · rw [if_pos hbig]
  rw [if_neg hbig, toInt64S_eq l (by omega) 1100001 (by omega)]
  simp only [Option.bind_some]
  rw [specNextPulses_eq l k (by omega) 1100001 (by omega), NextPulses_eq l k (by omega) 1100001 (by omega)]
  simp only [Option.bind_some, if_true]
  rw [eqIntsResult_self _ _ (by omega) 1100001 (by omega)]
  simp only [Option.bind_some, if_true]
  rw [eqInt64S_self l (by omega) 1100001 (by omega)]
  simp only [Option.bind_some, if_true]
  rw [markInt64S_eq l 1 1100001 (by omega) (by omega) (by omega)]
  simp only [Option.bind_some]
  rw [if_neg (by omega)]
  simp only [laws_FnExactNextPulses.j0, Bool.not_true, Bool.false_eq_true, if_false]
  rw [markIntsResult_eq _ _ 1 1100000 (by omega) (by omega) (by omega)]
  simp only [Option.bind_some]
  rw [heldIntsResult_eq _ _ 1 1100000 (by omega) (by omega) (by omega)]
  simp only [Option.bind_some, if_true]
  rw [if_neg (by omega), toInt64S_eq l (by omega) 1100000 (by omega)]
  simp only [Option.bind_some]
  rw [NextPulses_eq l k (by omega) 1100000 (by omega)]
  simp only [Option.bind_some]
  rw [eqIntsResult_self _ _ (by omega) 1100000 (by omega)]
  simp only [Option.bind_some, if_true]
  rw [if_neg (by omega)]

end Go.Proofs.Ytpbkbibjlbbkbaa.Pure
