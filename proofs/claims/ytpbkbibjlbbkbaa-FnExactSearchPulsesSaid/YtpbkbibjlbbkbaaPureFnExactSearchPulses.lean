/- The program's SearchPulses returns what the reference's returns, for all arguments. -/
import Derived.Test.YtpbkbibjlbbkbaaPFnExactSearchPulsesx6
set_option linter.unusedVariables false
set_option linter.unusedSimpArgs false
namespace Go.Proofs.Ytpbkbibjlbbkbaa.Pure
open Go.RowKit Go.Proofs.Ytpbkbibjlbbkbaa.PFnExactSearchPulses Go.Proofs.YtpbkbibjlbbkbaaW.PrintWords Go.Proofs.YtpbkbibjlbbkbaaW.PrintLast

/-- All of a list lie between two bounds. -/
def allW (l : List Int) (a b : Int) : Bool := l.all fun x => decide (a ≤ x ∧ x ≤ b)
theorem allW_cons (x : Int) (l : List Int) (a b : Int) : allW (x :: l) a b = (decide (a ≤ x ∧ x ≤ b) && allW l a b) := by simp [allW]
theorem allW_mem {l : List Int} {a b : Int} (h : allW l a b = true) {x : Int} (hx : x ∈ l) : a ≤ x ∧ x ≤ b := by
  unfold allW at h; rw [List.all_eq_true] at h; simpa using h x hx
theorem allW_mk {l : List Int} {a b : Int} (h : ∀ x ∈ l, a ≤ x ∧ x ≤ b) : allW l a b = true := by
  unfold allW; rw [List.all_eq_true]; intro x hx; simpa using h x hx
/-- The sum of the absolute values. -/
def nrm : List Int → Nat
  | [] => 0
  | x :: l => x.natAbs + nrm l
theorem nrm_append : ∀ (a b : List Int), nrm (a ++ b) = nrm a + nrm b
  | [], b => by simp [nrm]
  | x :: a, b => by simp only [List.cons_append, nrm, nrm_append a b]; omega
theorem nrm_le (M : Nat) : ∀ (l : List Int), (∀ x ∈ l, x.natAbs ≤ M) → nrm l ≤ M * l.length
  | [], _ => by simp [nrm]
  | x :: l, h => by
    have h1 := nrm_le M l (fun y hy => h y (by simp [hy]))
    have h2 := h x (by simp)
    simp only [nrm, List.length_cons, Nat.mul_add, Nat.mul_one]; omega
theorem nrm_mem : ∀ {l : List Int} {x : Int}, x ∈ l → x.natAbs ≤ nrm l
  | y :: l, x, h => by
    simp only [nrm]
    rcases List.mem_cons.1 h with rfl | h
    · omega
    · have := nrm_mem h; omega
theorem allW_nrm {l : List Int} {M : Nat} (h : allW l (-(M : Int)) M = true) : nrm l ≤ M * l.length :=
  nrm_le M l (fun x hx => by have := allW_mem h hx; omega)
theorem w64 {n : Int} (h1 : -9223372036854775808 ≤ n) (h2 : n ≤ 9223372036854775807) : wrap64 n = n := by unfold wrap64; omega
theorem abs_eq (x : Int) (h0 : -9223372036854775807 ≤ x) (h1 : x ≤ 9223372036854775807) : impl_abs.f x = some (x.natAbs : Int) := by
  unfold impl_abs.f mx; rw [w64 (by omega) (by omega)]; congr 1; split <;> omega
theorem rd_append_right (P Q : List Int) (i : Int) (h : i = (P.length : Int)) (x : Int) (R : List Int) (hQ : Q = x :: R) : rd (P ++ Q) i = x := by
  subst hQ; unfold rd; rw [h, Int.toNat_natCast, List.getD_eq_getElem?_getD, List.getElem?_append_right (Nat.le_refl _)]; simp
theorem rd_get (l : List Int) (i : Int) (h0 : 0 ≤ i) (h1 : i < (l.length : Int)) : rd l i = l[i.toNat]'(by omega) := by
  unfold rd; rw [List.getD_eq_getElem?_getD, List.getElem?_eq_getElem (by omega)]; rfl
theorem absI_nat (x : Int) : absI x = (x.natAbs : Int) := by unfold absI; split <;> omega
theorem rd_at (l : List Int) (i : Nat) (h : i < l.length) : rd l (i : Int) = l[i] := by unfold rd; rw [Int.toNat_natCast, List.getD_eq_getElem?_getD, List.getElem?_eq_getElem h]; rfl
theorem nrm_take (l : List Int) (i : Nat) (h : i < l.length) : nrm (l.take (i + 1)) = nrm (l.take i) + (rd l (i : Int)).natAbs := by
  rw [List.take_succ_eq_append_getElem h, nrm_append, rd_at l i h]; simp [nrm]
theorem nrm_take_le (l : List Int) (i : Nat) : nrm (l.take i) ≤ nrm l := by
  have := nrm_append (l.take i) (l.drop i); rw [List.take_append_drop] at this; omega
/-- What number i has for certain, and its rest. -/
theorem sr_split (l : List Int) (k : Int) (hk : 0 ≤ k) (nm : Nat) (i : Nat) : (nm : Int) * srBase l k nm i + srRest l k nm i = k * ((rd l (i : Int)).natAbs : Int) ∧ 0 ≤ srRest l k nm i ∧ (nm ≠ 0 → srRest l k nm i < nm) ∧ 0 ≤ srBase l k nm i := by
  unfold srBase srRest
  have h0 : 0 ≤ k * ((rd l (i : Int)).natAbs : Int) := Int.mul_nonneg hk (by omega)
  rw [absI_nat, Int.tdiv_eq_ediv_of_nonneg h0, Int.tmod_eq_emod_of_nonneg h0]
  refine ⟨Int.mul_ediv_add_emod _ _, ?_, ?_, Int.ediv_nonneg h0 (by omega)⟩
  · by_cases h : nm = 0
    · subst h; simpa using h0
    · exact Int.emod_nonneg _ (by omega)
  · intro h; exact Int.emod_lt_of_pos _ (by omega)
theorem sr_low (l : List Int) (k : Int) (hk : 0 ≤ k) (nm : Nat) (hnm : nm = nrm l) : ∀ i, i ≤ l.length → k * ((nm : Int) - (nrm (l.take i) : Int)) ≤ (nm : Int) * srMiss l k nm i
  | 0, _ => by simp [nrm, srMiss, Int.mul_comm]
  | i + 1, h => by
    have ih := sr_low l k hk nm hnm i (by omega)
    have hs := sr_split l k hk nm i
    have hn := nrm_take l i (by omega)
    rw [hn]
    show _ ≤ (nm : Int) * (srMiss l k nm i - srBase l k nm i)
    rw [Int.mul_sub (nm : Int) (srMiss l k nm i)]
    have e : k * ((nm : Int) - ((nrm (l.take i) + (rd l (i : Int)).natAbs : Nat) : Int)) = k * ((nm : Int) - (nrm (l.take i) : Int)) - k * ((rd l (i : Int)).natAbs : Int) := by rw [← Int.mul_sub]; congr 1; omega
    rw [e]; omega
theorem sr_high (l : List Int) (k : Int) (hk : 0 ≤ k) (nm : Nat) (hnm : nm = nrm l) (h0 : nm ≠ 0) : ∀ i, i ≤ l.length → (nm : Int) * srMiss l k nm i ≤ k * ((nm : Int) - (nrm (l.take i) : Int)) + (i : Int) * ((nm : Int) - 1)
  | 0, _ => by simp [nrm, srMiss, Int.mul_comm]
  | i + 1, h => by
    have ih := sr_high l k hk nm hnm h0 i (by omega)
    have hs := sr_split l k hk nm i
    have hn := nrm_take l i (by omega)
    have hr := hs.2.2.1 h0
    rw [hn]
    show (nm : Int) * (srMiss l k nm i - srBase l k nm i) ≤ _
    rw [Int.mul_sub (nm : Int) (srMiss l k nm i)]
    have e : k * ((nm : Int) - ((nrm (l.take i) + (rd l (i : Int)).natAbs : Nat) : Int)) = k * ((nm : Int) - (nrm (l.take i) : Int)) - k * ((rd l (i : Int)).natAbs : Int) := by rw [← Int.mul_sub]; congr 1; omega
    have e2 : ((i + 1 : Nat) : Int) * ((nm : Int) - 1) = (i : Int) * ((nm : Int) - 1) + ((nm : Int) - 1) := by rw [show ((i + 1 : Nat) : Int) = (i : Int) + 1 by omega, Int.add_mul]; omega
    rw [e, e2]; omega
theorem srMiss_bd (l : List Int) (k : Int) (hk : 0 ≤ k) : (∀ i, i ≤ l.length → 0 ≤ srMiss l k (nrm l) i) ∧ (nrm l ≠ 0 → 1 ≤ l.length → srMiss l k (nrm l) l.length < l.length) ∧ (∀ i, i ≤ l.length → srMiss l k (nrm l) i ≤ k) := by
  refine ⟨fun i hi => ?_, fun h0 h1 => ?_, ?_⟩
  · by_cases h0 : nrm l = 0
    · have hz : ∀ j, srMiss l k (nrm l) j = k := by
        intro j
        induction j with
        | zero => rfl
        | succ j ih => show srMiss l k (nrm l) j - srBase l k (nrm l) j = k; rw [ih]; unfold srBase; rw [h0]; simp
      rw [hz]; exact hk
    · have h := sr_low l k hk (nrm l) rfl i hi
      have h2 := nrm_take_le l i
      have h3 : 0 ≤ k * (((nrm l : Nat) : Int) - (nrm (l.take i) : Int)) := Int.mul_nonneg hk (by omega)
      exact Int.le_of_mul_le_mul_left (a := ((nrm l : Nat) : Int)) (by rw [Int.mul_zero]; omega) (by omega)
  · have h := sr_high l k hk (nrm l) rfl h0 l.length (Nat.le_refl _)
    rw [List.take_length, Int.sub_self, Int.mul_zero, Int.zero_add] at h
    have h2 : (l.length : Int) * (((nrm l : Nat) : Int) - 1) < ((nrm l : Nat) : Int) * (l.length : Int) := by rw [Int.mul_sub, Int.mul_comm]; omega
    exact Int.lt_of_mul_lt_mul_left (a := ((nrm l : Nat) : Int)) (by omega) (by omega)
  · intro i
    induction i with
    | zero => intro _; exact Int.le_refl _
    | succ i ih =>
      intro hi
      have := ih (by omega)
      have hs := (sr_split l k hk (nrm l) i).2.2.2
      show srMiss l k (nrm l) i - srBase l k (nrm l) i ≤ k
      omega
theorem normOf_l0 (l : List Int) (hl : l.length ≤ 2000000) (hb : ∀ x ∈ l, x.natAbs ≤ 1099511627776) : ∀ (rest pre : List Int) (i s : Int) (k : Nat), l = pre ++ rest → (pre.length : Int) = i → rest.length < k → s = (nrm pre : Int) → impl_normOf.l0 k s l (l.length : Int) i = some (nrm l : Int) := by
  intro rest
  induction rest with
  | nil =>
    intro pre i s k h1 hi hk hs
    obtain ⟨k, rfl⟩ : ∃ m, k = m + 1 := ⟨k - 1, by omega⟩
    simp only [impl_normOf.l0]
    rw [if_neg (by rw [h1]; simp; omega), hs, h1]; simp
  | cons x rest ih =>
    intro pre i s k h1 hi hk hs
    obtain ⟨k, rfl⟩ : ∃ m, k = m + 1 := ⟨k - 1, by omega⟩
    simp only [List.length_cons] at hk
    have hlen : l.length = pre.length + (rest.length + 1) := by rw [h1]; simp
    have hx := hb x (by rw [h1]; simp)
    have hp := nrm_le 1099511627776 pre (fun y hy => hb y (by rw [h1]; simp [hy]))
    have hp2 : 1099511627776 * pre.length ≤ 1099511627776 * 2000000 := Nat.mul_le_mul_left _ (by omega)
    simp only [impl_normOf.l0]
    have hr : rd l i = x := by rw [h1]; exact rd_append_right pre (x :: rest) i hi.symm x rest rfl
    rw [if_pos (by omega), if_pos (by omega), if_pos (by omega), hr, abs_eq x (by omega) (by omega)]
    simp only [Option.bind_some]
    rw [w64 (n := s + _) (by omega) (by omega), w64 (n := i + 1) (by omega) (by omega)]
    exact ih (pre ++ [x]) (i + 1) _ k (by rw [h1]; simp) (by simp; omega) (by omega) (by rw [nrm_append]; simp only [nrm]; omega)
theorem normOf_eq (l : List Int) (hl : l.length ≤ 2000000) (hb : ∀ x ∈ l, x.natAbs ≤ 1099511627776) (k : Nat) (hk : l.length < k) : impl_normOf.f k l = some (nrm l : Int) := by
  unfold impl_normOf.f; exact normOf_l0 l hl hb l [] 0 0 k rfl rfl hk rfl
theorem bd_nat {l : List Int} (hl : ∀ x ∈ l, -16777216 ≤ x ∧ x ≤ 16777216) : ∀ x ∈ l, x.natAbs ≤ 1099511627776 := fun x hx => by have := hl x hx; omega
theorem searchPulses_eq (l : List Int) (k : Int) (h1 : 1 ≤ l.length ∧ l.length ≤ 4) (hk : 0 ≤ k ∧ k ≤ 8) (hl : ∀ x ∈ l, -16777216 ≤ x ∧ x ≤ 16777216) : impl_searchPulses.f l k = some (srch l k (nrm l)) := by
  unfold impl_searchPulses.f
  rw [if_pos ⟨h1, hk, hl⟩, normOf_eq l (by omega) (bd_nat hl) 10 (by omega)]
  simp only [Option.bind_some]
  have hm := srMiss_bd l k hk.1
  rw [if_pos ⟨⟨by omega, hm.1⟩, fun h0 => by have := hm.2.1 (by omega) h1.1; omega⟩]
theorem inRange_eq (a b c : Int) : impl_inRange.f a b c = some (decide (b ≤ a ∧ a ≤ c)) := by
  unfold impl_inRange.f
  by_cases h : b ≤ a
  · rw [if_pos h]; simp [h]
  · rw [if_neg h]; simp [h]
theorem isDim_eq (a : Int) : impl_isDim.f a = some (decide (1 ≤ a ∧ a ≤ 4)) := by unfold impl_isDim.f; rw [inRange_eq]; rfl
theorem codeIf_eq (b : Bool) (c : Int) : impl_codeIf.f b c = some (if b = true then c else 0) := by unfold impl_codeIf.f; split <;> rfl
theorem idxP_any (p : Int → Option Bool) (q : Int → Bool) : ∀ (l : List Int) (i : Int), 0 ≤ i → (∀ x ∈ l, p x = some (q x)) → ∃ r, idxP p l i = some r ∧ decide (0 ≤ r) = l.any q
  | [], i, _, _ => ⟨-1, rfl, by simp⟩
  | x :: l, i, hi, h => by
    obtain ⟨r, hr, hq⟩ := idxP_any p q l (i + 1) (by omega) (fun y hy => h y (by simp [hy]))
    simp only [idxP]
    rw [h x (by simp)]
    simp only [Option.bind_some]
    cases hx : q x with
    | true => exact ⟨i, by simp, by simp [hx, hi]⟩
    | false => exact ⟨r, by simp [hr], by simp [hx, hq]⟩
theorem anyP_eq (p : Int → Option Bool) (q : Int → Bool) (l : List Int) (h : ∀ x ∈ l, p x = some (q x)) : anyP p l = some (l.any q) := by
  obtain ⟨r, hr, hq⟩ := idxP_any p q l 0 (by omega) h
  unfold anyP; rw [hr]; simp only [Option.bind_some]; rw [hq]
theorem within_eq (a b : Int) (h0 : 0 ≤ b) (h1 : b ≤ 9223372036854775807) : impl_within.f a b = some (decide (-b ≤ a ∧ a ≤ b)) := by
  unfold impl_within.f; rw [w64 (by omega) (by omega), inRange_eq]; rfl
theorem allWithin_eq (l : List Int) (m : Int) (h0 : 0 ≤ m) (h1 : m ≤ 9223372036854775807) : impl_allWithin.f l m = some (allW l (-m) m) := by
  unfold impl_allWithin.f
  rw [anyP_eq (notWithinP m) (fun x => !decide (-m ≤ x ∧ x ≤ m)) l (fun x _ => by unfold notWithinP; rw [within_eq x m h0 h1]; rfl)]
  simp only [Option.bind_some]
  congr 1
  unfold allW
  rw [List.any_eq_not_all_not]; simp
/-- The first code that is not 0. -/
def fst0 : List Int → Int
  | [] => 0
  | x :: l => if x = 0 then fst0 l else x
theorem first_l0 (l : List Int) (hl : l.length ≤ 2000000) : ∀ (rest pre : List Int) (i : Int) (k : Nat), l = pre ++ rest → (pre.length : Int) = i → rest.length < k → impl_first.l0 k l (l.length : Int) i = some (fst0 rest) := by
  intro rest
  induction rest with
  | nil =>
    intro pre i k h1 hi hk
    obtain ⟨k, rfl⟩ : ∃ m, k = m + 1 := ⟨k - 1, by omega⟩
    simp only [impl_first.l0]
    rw [if_neg (by rw [h1]; simp; omega)]; rfl
  | cons x rest ih =>
    intro pre i k h1 hi hk
    obtain ⟨k, rfl⟩ : ∃ m, k = m + 1 := ⟨k - 1, by omega⟩
    simp only [List.length_cons] at hk
    have hlen : l.length = pre.length + (rest.length + 1) := by rw [h1]; simp
    simp only [impl_first.l0]
    have hr : rd l i = x := by rw [h1]; exact rd_append_right pre (x :: rest) i hi.symm x rest rfl
    rw [if_pos (by omega), if_pos (by omega), if_pos (by omega), hr, w64 (n := i + 1) (by omega) (by omega)]
    simp only [fst0]
    by_cases c : x = 0
    · rw [if_pos c, if_pos c]; exact ih (pre ++ [x]) (i + 1) k (by rw [h1]; simp) (by simp; omega) (by omega)
    · rw [if_neg c, if_neg c]
theorem first_eq (l : List Int) (hl : l.length ≤ 1000) (k : Nat) (hk : l.length < k) : impl_first.f k l = some (fst0 l) := by
  unfold impl_first.f; exact first_l0 l (by omega) l [] 0 k rfl rfl hk
/-- What SearchPulses answers. -/
def spR (l : List Int) (k : Int) : Int × List Int := if ¬ (1 ≤ l.length ∧ l.length ≤ 4) then (2, []) else if (1 ≤ k ∧ k ≤ 8) ∧ allW l (-16777216) 16777216 = true then (0, srch l k (nrm l)) else (3, [])
theorem srch_len (l : List Int) (k nm : Int) : (srch l k nm).length = l.length := by unfold srch; split <;> simp
theorem spR_len (l : List Int) (k : Int) : (spR l k).2.length ≤ 4 := by
  unfold spR
  by_cases h1 : 1 ≤ l.length ∧ l.length ≤ 4
  · rw [if_neg (fun h => h h1)]
    split
    · rw [srch_len]; exact h1.2
    · simp
  · rw [if_pos h1]; simp
theorem spR_a {l : List Int} (k : Int) (h : ¬ (1 ≤ l.length ∧ l.length ≤ 4)) : spR l k = (2, []) := by unfold spR; rw [if_pos h]
theorem spR_b {l : List Int} {k : Int} (h1 : 1 ≤ l.length ∧ l.length ≤ 4) (h2 : (1 ≤ k ∧ k ≤ 8) ∧ allW l (-16777216) 16777216 = true) : spR l k = (0, srch l k (nrm l)) := by unfold spR; rw [if_neg (fun h => h h1), if_pos h2]
theorem spR_c {l : List Int} {k : Int} (h1 : 1 ≤ l.length ∧ l.length ≤ 4) (h2 : ¬ ((1 ≤ k ∧ k ≤ 8) ∧ allW l (-16777216) 16777216 = true)) : spR l k = (3, []) := by unfold spR; rw [if_neg (fun h => h h1), if_neg h2]
theorem SearchPulses_eq (l : List Int) (k : Int) (hl : l.length ≤ 1048576) (K : Nat) (hK : 10 ≤ K) : impl_SearchPulses.f K l k = some (spR l k) := by
  unfold impl_SearchPulses.f
  simp only [isDim_eq, codeIf_eq, inRange_eq, Option.bind_some, decide_eq_true_eq]
  by_cases h1 : 1 ≤ l.length ∧ l.length ≤ 4
  · have h1' : 1 ≤ (l.length : Int) ∧ (l.length : Int) ≤ 4 := by omega
    by_cases h2 : 1 ≤ k ∧ k ≤ 8
    · rw [if_pos h2, allWithin_eq l _ (by omega) (by omega)]; simp only [Option.bind_some]
      rw [first_eq _ (by simp) K (by simp; omega)]; simp only [Option.bind_some]
      by_cases h3 : allW l (-16777216) 16777216 = true
      · rw [spR_b h1 ⟨h2, h3⟩]
        simp only [h1', h3, and_self, decide_true, Bool.not_true, Bool.false_eq_true, if_false, fst0, if_true]
        rw [searchPulses_eq l k h1 (by omega) (fun x hx => allW_mem h3 hx)]; rfl
      · rw [spR_c h1 (fun h => h3 h.2)]
        simp [h1', h3, fst0]
    · rw [if_neg h2, spR_c h1 (fun h => h2 h.1), first_eq _ (by simp) K (by simp; omega)]
      simp [h1', fst0]
  · have h1' : ¬ (1 ≤ (l.length : Int) ∧ (l.length : Int) ≤ 4) := by omega
    rw [spR_a k h1]
    by_cases h2 : 1 ≤ k ∧ k ≤ 8
    · rw [if_pos h2, allWithin_eq l _ (by omega) (by omega)]; simp only [Option.bind_some]
      rw [first_eq _ (by simp) K (by simp; omega)]
      simp [h1', fst0]
    · rw [if_neg h2, first_eq _ (by simp) K (by simp; omega)]
      simp [h1', fst0]
theorem l1Abs_eq (x : Int) (h0 : -9223372036854775807 ≤ x) (h1 : x ≤ 9223372036854775807) : spec_l1Abs.f x = some (x.natAbs : Int) := by
  unfold spec_l1Abs.f
  by_cases h : x < 0
  · rw [if_pos h, w64 (by omega) (by omega)]; congr 1; omega
  · rw [if_neg h]; congr 1; omega
theorem l1Norm_l0 (l : List Int) (hl : l.length ≤ 2000000) (hb : ∀ x ∈ l, x.natAbs ≤ 1099511627776) : ∀ (rest pre : List Int) (i s : Int) (k : Nat), l = pre ++ rest → (pre.length : Int) = i → rest.length < k → s = (nrm pre : Int) → spec_l1Norm.l0 k l s i = some (nrm l : Int) := by
  intro rest
  induction rest with
  | nil =>
    intro pre i s k h1 hi hk hs
    obtain ⟨k, rfl⟩ : ∃ m, k = m + 1 := ⟨k - 1, by omega⟩
    simp only [spec_l1Norm.l0]
    rw [if_neg (by rw [h1]; simp; omega), hs, h1]; simp
  | cons x rest ih =>
    intro pre i s k h1 hi hk hs
    obtain ⟨k, rfl⟩ : ∃ m, k = m + 1 := ⟨k - 1, by omega⟩
    simp only [List.length_cons] at hk
    have hlen : l.length = pre.length + (rest.length + 1) := by rw [h1]; simp
    have hx := hb x (by rw [h1]; simp)
    have hp := nrm_le 1099511627776 pre (fun y hy => hb y (by rw [h1]; simp [hy]))
    have hp2 : 1099511627776 * pre.length ≤ 1099511627776 * 2000000 := Nat.mul_le_mul_left _ (by omega)
    simp only [spec_l1Norm.l0]
    have hr : rd l i = x := by rw [h1]; exact rd_append_right pre (x :: rest) i hi.symm x rest rfl
    rw [if_pos (by omega), if_pos (by omega), hr, l1Abs_eq x (by omega) (by omega)]
    simp only [Option.bind_some]
    rw [w64 (n := s + _) (by omega) (by omega), w64 (n := i + 1) (by omega) (by omega)]
    exact ih (pre ++ [x]) (i + 1) _ k (by rw [h1]; simp) (by simp; omega) (by omega) (by rw [nrm_append]; simp only [nrm]; omega)
theorem l1Norm_eq (l : List Int) (hl : l.length ≤ 2000000) (hb : ∀ x ∈ l, x.natAbs ≤ 1099511627776) (k : Nat) (hk : l.length < k) : spec_l1Norm.f k l = some (nrm l : Int) := by
  unfold spec_l1Norm.f; exact l1Norm_l0 l hl hb l [] 0 0 k rfl rfl hk rfl
/-- The best so far of those that are not in D. -/
def Bst (r : Nat → Int) (D : List Nat) (i : Nat) (b : Int) : Prop := (b = -1 ∧ ∀ j, j < i → j ∈ D) ∨ ∃ p : Nat, b = p ∧ p < i ∧ p ∉ D ∧ ∀ j, j < i → j ∉ D → j ≠ p → prc r p j
/-- Which ones are done. -/
def dns (n : Nat) (D : List Nat) : List Bool := (List.range n).map fun i => decide (i ∈ D)
theorem dns_rd (n : Nat) (D : List Nat) (i : Nat) (h : i < n) : rdOf false (dns n D) (i : Int) = decide (i ∈ D) := by
  unfold rdOf dns; rw [Int.toNat_natCast, List.getD_eq_getElem?_getD]; simp [h]
theorem dns_set (n : Nat) (D : List Nat) (i : Nat) : (dns n D).set i true = dns n (D ++ [i]) := by
  unfold dns
  apply List.ext_getElem?
  intro j
  rw [List.getElem?_set]
  by_cases hj : j < n
  · by_cases e : i = j
    · subst e; simp [hj]
    · rw [if_neg e]; simp [hj, Ne.symm e]
  · have hno : ∀ f : Nat → Bool, ((List.range n).map f)[j]? = none := fun f => List.getElem?_eq_none (by simpa using hj)
    rw [hno, hno]
    split
    · split
      · rename_i h; simp at h; omega
      · rfl
    · rfl
theorem Bst.end_ {r : Nat → Int} {n t : Nat} {b : Int} (h : Bst r ((srtd r n).take t) n b) (ht : t < n) : ∃ p : Nat, b = p ∧ p < n ∧ p ∉ (srtd r n).take t ∧ (srtd r n).take (t + 1) = (srtd r n).take t ++ [p] := by
  have hP := srtd_perm r n
  have hS := srtd_srt r n
  have hlen : (srtd r n).length = n := by have := hP.length_eq; simpa using this
  have htl : t < (srtd r n).length := by omega
  obtain ⟨q, hq⟩ : ∃ q, (srtd r n)[t] = q := ⟨_, rfl⟩
  have htk : (srtd r n).take (t + 1) = (srtd r n).take t ++ [q] := by rw [List.take_succ_eq_append_getElem htl, hq]
  have hqn : q < n := by
    have : q ∈ List.range n := hP.subset (by rw [← hq]; exact List.getElem_mem _)
    simpa using this
  have hqt : q ∉ (srtd r n).take t := by
    intro hm
    obtain ⟨u, hu, hue⟩ := List.mem_iff_getElem.1 hm
    rw [List.length_take] at hu
    rw [List.getElem_take] at hue
    have := List.pairwise_iff_getElem.1 hS u t (by omega) htl (by omega)
    rw [hue, hq] at this
    exact prc_irr this
  rcases h with ⟨_, h⟩ | ⟨p, rfl, hp, hpD, h⟩
  · exact absurd (h q hqn) hqt
  · by_cases e : q = p
    · subst e; exact ⟨q, rfl, hp, hpD, htk⟩
    · have h1 := h q hqn hqt e
      have hpm : p ∈ srtd r n := hP.symm.subset (by simpa using hp)
      obtain ⟨u, hu, hue⟩ := List.mem_iff_getElem.1 hpm
      have hut : t < u := by
        rcases Nat.lt_trichotomy u t with h2 | h2 | h2
        · exact absurd (List.mem_iff_getElem.2 ⟨u, by rw [List.length_take]; omega, by rw [List.getElem_take]; exact hue⟩) hpD
        · subst h2; exact absurd (hq.symm.trans hue) e
        · exact h2
      have h2 := List.pairwise_iff_getElem.1 hS t u htl hu hut
      rw [hq, hue] at h2
      exact absurd (prc_trans h1 h2) prc_irr
theorem l12_l3 (l : List Int) (xs : List Int) (hx : xs.length = l.length) (hb : ∀ i : Nat, i < l.length → 0 ≤ rd xs (i : Int) ∧ rd xs (i : Int) ≤ 1000000000000) (hn : l.length ≤ 1000000) : ∀ (d i K : Nat), i + d = l.length → d < K → spec_l12Search.l3 K l (srSign l xs i) (i : Int) = some (srSign l xs l.length) := by
  intro d
  induction d with
  | zero =>
    intro i K hi hK
    obtain ⟨K, rfl⟩ : ∃ z, K = z + 1 := ⟨K - 1, by omega⟩
    rw [spec_l12Search.l3, if_neg (by omega)]; rw [show i = l.length by omega]
  | succ d ih =>
    intro i K hi hK
    obtain ⟨K, rfl⟩ : ∃ z, K = z + 1 := ⟨K - 1, by omega⟩
    have hil : i < l.length := by omega
    have hlen : (srSign l xs i).length = l.length := by simp [srSign]
    have e := srSign_step l xs i hil
    have hr : rd (srSign l xs i) (i : Int) = rd xs (i : Int) := by unfold srSign; rw [rd_map _ _ _ hil]; simp
    have hbi := hb i hil
    rw [spec_l12Search.l3, if_pos (by omega), if_pos (by omega), w64 (n := (i : Int) + 1) (by omega) (by omega)]
    have go := ih (i + 1) K (by omega) (by omega)
    rw [show ((i + 1 : Nat) : Int) = (i : Int) + 1 by omega] at go
    by_cases c : rd l (i : Int) < 0
    · rw [if_pos c, if_pos (by rw [hlen]; omega), hr, w64 (by omega) (by omega), ← go, e, if_pos c, hr, Int.toNat_natCast]
    · rw [if_neg c, ← go, e, if_neg c]
theorem l12_l2 (l : List Int) (k : Int) (nm : Nat) (hk : 0 ≤ k ∧ k ≤ 8) (hl : ∀ x ∈ l, -16777216 ≤ x ∧ x ≤ 16777216) (hn : l.length ≤ 1000000) (h0 : nm ≠ 0) (out : List Int) (left : Int) (D : List Nat) (K0 : Nat) (R : Option (List Int))
    (hend : ∀ (b : Int) (K : Nat), Bst (srRest l k nm) D l.length b → K0 ≤ K → spec_l12Search.l2 (K + 1) l k nm out left (dns l.length D) b (l.length : Int) = R) :
    ∀ (d i K : Nat) (b : Int), i + d = l.length → Bst (srRest l k nm) D i b → K0 + d < K → spec_l12Search.l2 K l k nm out left (dns l.length D) b (i : Int) = R := by
  have hrest : ∀ j : Nat, j < l.length → Int.tmod (wrap64 (k * ((rd l (j : Int)).natAbs : Int))) (nm : Int) = srRest l k nm j := by
    intro j hj
    have hm : rd l (j : Int) ∈ l := by rw [rd_at l j hj]; exact List.getElem_mem _
    have := hl _ hm
    have h1 := Int.mul_nonneg hk.1 (show 0 ≤ ((rd l (j : Int)).natAbs : Int) by omega)
    have h2 : k * ((rd l (j : Int)).natAbs : Int) ≤ 8 * ((rd l (j : Int)).natAbs : Int) := Int.mul_le_mul_of_nonneg_right hk.2 (by omega)
    unfold srRest
    rw [absI_nat, w64 (by omega) (by omega)]
  intro d
  induction d with
  | zero =>
    intro i K b hi hB hK
    obtain ⟨K, rfl⟩ : ∃ z, K = z + 1 := ⟨K - 1, by omega⟩
    obtain rfl : i = l.length := by omega
    exact hend b K hB (by omega)
  | succ d ih =>
    intro i K b hi hB hK
    obtain ⟨K, rfl⟩ : ∃ z, K = z + 1 := ⟨K - 1, by omega⟩
    have hil : i < l.length := by omega
    have hmi : rd l (i : Int) ∈ l := by rw [rd_at l i hil]; exact List.getElem_mem _
    have hbi := hl _ hmi
    have hlen : (dns l.length D).length = l.length := by simp [dns]
    rw [spec_l12Search.l2, if_pos (by omega), if_pos (by omega), if_pos (by rw [hlen]; omega), dns_rd _ _ _ hil, w64 (n := (i : Int) + 1) (by omega) (by omega)]
    have go := fun b h => ih (i + 1) K b (by omega) h (by omega)
    rw [show ((i + 1 : Nat) : Int) = (i : Int) + 1 by omega] at go
    by_cases c : i ∈ D
    · rw [if_pos (by simpa using c)]
      refine go b ?_
      rcases hB with ⟨h1, h2⟩ | ⟨p, h1, h2, h3, h4⟩
      · exact Or.inl ⟨h1, fun j hj => by by_cases e : j = i; exact e ▸ c; exact h2 j (by omega)⟩
      · exact Or.inr ⟨p, h1, by omega, h3, fun j hj hjD hjp => h4 j (by have : j ≠ i := fun e => hjD (e ▸ c); omega) hjD hjp⟩
    · rw [if_neg (by simpa using c)]
      rcases hB with ⟨h1, h2⟩ | ⟨p, h1, h2, h3, h4⟩
      · rw [if_pos (by omega)]
        exact go (i : Int) (Or.inr ⟨i, rfl, by omega, c, fun j hj hjD hji => absurd (h2 j (by omega)) hjD⟩)
      · subst h1
        have hmp : rd l (p : Int) ∈ l := by rw [rd_at l p (by omega)]; exact List.getElem_mem _
        have hbp := hl _ hmp
        rw [if_neg (by omega), l1Abs_eq _ (by omega) (by omega)]; simp only [Option.bind_some]
        rw [if_neg (by omega), if_pos (by omega), if_pos (by omega), l1Abs_eq _ (by omega) (by omega)]; simp only [Option.bind_some]
        rw [hrest i hil, hrest p (by omega)]
        by_cases c2 : srRest l k nm i > srRest l k nm p
        · rw [if_pos c2]
          refine go (i : Int) (Or.inr ⟨i, rfl, by omega, c, fun j hj hjD hji => ?_⟩)
          have hip : prc (srRest l k nm) i p := Or.inl c2
          by_cases e : j = p
          · subst e; exact hip
          · exact prc_trans hip (h4 j (by omega) hjD e)
        · rw [if_neg c2]
          refine go (p : Int) (Or.inr ⟨p, rfl, by omega, h3, fun j hj hjD hjp => ?_⟩)
          by_cases e : j = i
          · subst e; unfold prc; omega
          · exact h4 j (by omega) hjD hjp
theorem l12_l1 (l : List Int) (k : Int) (nm : Nat) (hk : 0 ≤ k ∧ k ≤ 8) (hl : ∀ x ∈ l, -16777216 ≤ x ∧ x ≤ 16777216) (hn : l.length ≤ 1000000) (h0 : nm ≠ 0) (m : Nat) (hm : m ≤ l.length) :
    ∀ (d t K : Nat), t + d = m → (d + 1) * (l.length + 3) < K →
    spec_l12Search.l1 K l k nm (srAdd l k nm ((srtd (srRest l k nm) l.length).take t)) ((m - t : Nat) : Int) (dns l.length ((srtd (srRest l k nm) l.length).take t)) = some (srSign l (srAdd l k nm ((srtd (srRest l k nm) l.length).take m)) l.length) := by
  have hbase : ∀ i : Nat, i < l.length → 0 ≤ srBase l k nm i ∧ srBase l k nm i ≤ 134217728 := fun i hi => srBase_bd l k nm hk hl (by omega) i hi
  have hrd : ∀ (D : List Nat) (i : Nat), i < l.length → rd (srAdd l k nm D) (i : Int) = srBase l k nm i + if i ∈ D then 1 else 0 := fun D i hi => by unfold srAdd; rw [rd_map _ _ _ hi]
  have hlen : ∀ D, (srAdd l k nm D).length = l.length := fun D => by simp [srAdd]
  intro d
  induction d with
  | zero =>
    intro t K ht hK
    obtain ⟨K, rfl⟩ : ∃ z, K = z + 1 := ⟨K - 1, by omega⟩
    obtain rfl : t = m := by omega
    rw [spec_l12Search.l1, if_neg (by omega)]
    have := l12_l3 l (srAdd l k nm ((srtd (srRest l k nm) l.length).take t)) (hlen _) (fun i hi => by rw [hrd _ _ hi]; have := hbase i hi; split <;> omega) hn l.length 0 K (by omega) (by simp at hK; omega)
    rw [srSign_0 _ _ (hlen _)] at this
    exact this
  | succ d ih =>
    intro t K ht hK
    obtain ⟨K, rfl⟩ : ∃ z, K = z + 1 := ⟨K - 1, by omega⟩
    rw [spec_l12Search.l1, if_pos (by omega)]
    have hmul : (d + 1 + 1) * (l.length + 3) = (d + 1) * (l.length + 3) + (l.length + 3) := by rw [Nat.add_mul (d + 1) 1]; omega
    refine l12_l2 l k nm hk hl hn h0 _ _ ((srtd (srRest l k nm) l.length).take t) ((d + 1) * (l.length + 3) + 1) _ ?_ l.length 0 K (-1) (by omega) (Or.inl ⟨rfl, fun j hj => by omega⟩) (by omega)
    intro b K hB hK
    obtain ⟨p, rfl, hp, hpD, htk⟩ := hB.end_ (by omega)
    have hdl : (dns l.length ((srtd (srRest l k nm) l.length).take t)).length = l.length := by simp [dns]
    rw [spec_l12Search.l2, if_neg (by omega), if_pos (by omega), if_pos (by omega), if_pos (by rw [hdl]; omega), if_pos (by rw [hlen]; omega), hrd _ _ hp, if_neg hpD]
    have hb := hbase p hp
    rw [w64 (n := srBase l k nm p + 0 + 1) (by omega) (by omega), w64 (n := ((m - t : Nat) : Int) - 1) (by omega) (by omega), Int.toNat_natCast, Int.add_zero, srAdd_set _ _ _ _ _ hpD, dns_set, ← htk]
    have := ih (t + 1) K (by omega) (by omega)
    rw [← this]; congr 1; omega
theorem l12_l0 (l : List Int) (k : Int) (nm : Nat) (hk : 0 ≤ k ∧ k ≤ 8) (hl : ∀ x ∈ l, -16777216 ≤ x ∧ x ≤ 16777216) (hn : l.length ≤ 1000000) (h0 : nm ≠ 0) (hnm : nm = nrm l) (K0 : Nat) (R : Option (List Int))
    (hend : ∀ K, K0 ≤ K → spec_l12Search.l1 K l k nm (srOuts l k nm l.length l.length) (srMiss l k nm l.length) (List.replicate l.length false) = R) :
    ∀ (d i K : Nat), i + d = l.length → K0 + d < K → spec_l12Search.l0 K l k nm (srOuts l k nm l.length i) (srMiss l k nm i) (i : Int) = R := by
  intro d
  induction d with
  | zero =>
    intro i K hi hK
    obtain ⟨K, rfl⟩ : ∃ z, K = z + 1 := ⟨K - 1, by omega⟩
    obtain rfl : i = l.length := by omega
    rw [spec_l12Search.l0, if_neg (by omega), if_pos (by omega), if_pos (by omega), Int.toNat_natCast]
    exact hend K (by omega)
  | succ d ih =>
    intro i K hi hK
    obtain ⟨K, rfl⟩ : ∃ z, K = z + 1 := ⟨K - 1, by omega⟩
    have hil : i < l.length := by omega
    have hmi : rd l (i : Int) ∈ l := by rw [rd_at l i hil]; exact List.getElem_mem _
    have hbi := hl _ hmi
    have h1 := Int.mul_nonneg hk.1 (show 0 ≤ ((rd l (i : Int)).natAbs : Int) by omega)
    have h2 : k * ((rd l (i : Int)).natAbs : Int) ≤ 8 * ((rd l (i : Int)).natAbs : Int) := Int.mul_le_mul_of_nonneg_right hk.2 (by omega)
    have hb := srBase_bd l k nm hk hl (by omega) i hil
    have hm := (srMiss_bd l k hk.1).1 (i + 1) (by omega)
    have hm2 := (srMiss_bd l k hk.1).2.2 i (by omega)
    rw [← hnm] at hm hm2
    have hms : srMiss l k nm (i + 1) = srMiss l k nm i - srBase l k nm i := rfl
    have hlen : (srOuts l k nm l.length i).length = l.length := by simp [srOuts]; omega
    rw [spec_l12Search.l0, if_pos (by omega), if_pos (by omega), l1Abs_eq _ (by omega) (by omega)]; simp only [Option.bind_some]
    rw [if_neg (by omega), if_pos (by rw [hlen]; omega), w64 (n := k * _) (by omega) (by omega)]
    have e : Int.tdiv (k * ((rd l (i : Int)).natAbs : Int)) (nm : Int) = srBase l k nm i := by unfold srBase; rw [absI_nat]
    rw [e, w64 (n := srBase l k nm i) (by omega) (by omega), Int.toNat_natCast, srOuts_set l k nm l.length i hil, srOuts_rd l k nm l.length i hil, w64 (n := srMiss l k nm i - _) (by omega) (by omega), w64 (n := (i : Int) + 1) (by omega) (by omega)]
    have := ih (i + 1) K (by omega) (by omega)
    rw [hms] at this
    rw [← this]; congr 1
theorem l12Search_eq (l : List Int) (k : Int) (h1 : 1 ≤ l.length ∧ l.length ≤ 4) (hk : 0 ≤ k ∧ k ≤ 8) (hl : ∀ x ∈ l, -16777216 ≤ x ∧ x ≤ 16777216) (K : Nat) (hK : 100 ≤ K) : spec_l12Search.f K l k = some (srch l k (nrm l)) := by
  unfold spec_l12Search.f spec_l1Zeros.f
  rw [l1Norm_eq l (by omega) (fun x hx => by have := hl x hx; omega) K (by omega)]; simp only [Option.bind_some]
  rw [if_pos (by omega), if_pos (by omega)]; simp only [Option.bind_some, Int.toNat_natCast]
  by_cases h0 : nrm l = 0
  · rw [if_pos (by omega), if_pos (by simp; omega)]
    unfold srch
    rw [h0, if_pos (show ((0 : Nat) : Int) = 0 from rfl)]; rfl
  · rw [if_neg (by omega)]
    have hm := srMiss_bd l k hk.1
    have hm1 := hm.1 l.length (Nat.le_refl _)
    have hm2 := hm.2.1 h0 h1.1
    have hz : srOuts l k (nrm l) l.length 0 = List.replicate l.length 0 := by unfold srOuts; simp
    have hd0 : dns l.length [] = List.replicate l.length false := List.eq_replicate_iff.2 ⟨by simp [dns], fun b hb => by obtain ⟨x, _, rfl⟩ := List.mem_map.1 hb; simp⟩
    obtain ⟨m, hmm⟩ := Int.eq_ofNat_of_zero_le hm1
    have go := l12_l0 l k (nrm l) hk hl (by omega) h0 rfl 60 (some (srch l k (nrm l))) (fun K hK => by
      rw [srOuts_end, hmm, ← hd0]
      have hb : (m + 1) * (l.length + 3) ≤ 5 * 7 := Nat.mul_le_mul (by omega) (by omega)
      have := l12_l1 l k (nrm l) hk hl (by omega) h0 m (by omega) m 0 K (by omega) (by omega)
      rw [List.take_zero] at this
      rw [srch_eq l k _ (by omega), hmm, Int.toNat_natCast, ← this]; congr 1) l.length 0 K (by omega) (by omega)
    rw [hz] at go
    exact go
theorem l1In_eq (a b c : Int) : spec_l1In.f a b c = some (decide (b ≤ a ∧ a ≤ c)) := by
  unfold spec_l1In.f
  by_cases h : a ≥ b
  · rw [if_pos h]; congr 1; have : b ≤ a := h; simp [this]
  · rw [if_neg h]; have : ¬ b ≤ a := h; simp [this]
theorem l1All_l0 (a b : Int) : ∀ (rest pre : List Int) (i : Int) (k : Nat), (pre.length : Int) = i → rest.length < k → pre.length + rest.length ≤ 1000000000 → spec_l1All.l0 k (pre ++ rest) a b i = some (allW rest a b) := by
  intro rest
  induction rest with
  | nil =>
    intro pre i k hi hk hl
    obtain ⟨k, rfl⟩ : ∃ m, k = m + 1 := ⟨k - 1, by omega⟩
    simp only [spec_l1All.l0]
    rw [if_neg (by simp; omega)]; rfl
  | cons x rest ih =>
    intro pre i k hi hk hl
    obtain ⟨k, rfl⟩ : ∃ m, k = m + 1 := ⟨k - 1, by omega⟩
    simp only [List.length_cons] at hk hl
    simp only [spec_l1All.l0]
    rw [if_pos (by simp; omega), if_pos (by omega), rd_append_right pre (x :: rest) i hi.symm x rest rfl, l1In_eq, w64 (n := i + 1) (by omega) (by omega)]
    have e : pre ++ x :: rest = (pre ++ [x]) ++ rest := by simp
    rw [e, ih (pre ++ [x]) (i + 1) k (by simp; omega) (by omega) (by simp; omega), allW_cons]
    by_cases c : a ≤ x ∧ x ≤ b <;> simp [c]
theorem l1All_eq (l : List Int) (a b : Int) (k : Nat) (hk : l.length < k) (hl : l.length ≤ 1000000000) : spec_l1All.f k l a b = some (allW l a b) := by
  unfold spec_l1All.f; have := l1All_l0 a b l [] 0 k rfl hk (by simpa using hl); simpa using this
theorem specSearchPulses_eq (l : List Int) (k : Int) (hl : l.length ≤ 1048576) (K : Nat) (hK : 1048700 ≤ K) : spec_SearchPulses.f K l k = some (spR l k) := by
  obtain ⟨K, rfl⟩ : ∃ z, K = z + 1 := ⟨K - 1, by omega⟩
  unfold spec_SearchPulses.f
  by_cases h1 : 1 ≤ l.length ∧ l.length ≤ 4
  · rw [if_neg (by omega), show decide ((l.length : Int) > 4) = false from decide_eq_false (by omega), spec_SearchPulses.j0, if_neg (by simp), l1In_eq]
    simp only [Option.bind_some, decide_eq_true_eq]
    by_cases h2 : 1 ≤ k ∧ k ≤ 8
    · rw [if_pos h2, l1All_eq l _ _ K (by omega) (by omega)]; simp only [Option.bind_some]
      by_cases h3 : allW l (-16777216) 16777216 = true
      · rw [if_pos h3, spR_b h1 ⟨h2, h3⟩, l12Search_eq l k h1 (by omega) (fun x hx => allW_mem h3 hx) K (by omega)]; rfl
      · rw [if_neg h3, spR_c h1 (fun h => h3 h.2)]
    · rw [if_neg h2, spR_c h1 (fun h => h2 h.1)]
  · rw [spR_a k h1]
    by_cases h2 : (l.length : Int) < 1
    · rw [if_pos h2, spec_SearchPulses.j0, if_pos rfl]
    · rw [if_neg h2, show decide ((l.length : Int) > 4) = true from decide_eq_true (by omega), spec_SearchPulses.j0, if_pos rfl]
theorem toInt64S_l0 (l : List Int) (hl : l.length ≤ 1000000000000) : ∀ (rest pre : List Int) (i : Int) (k : Nat) (z : List Int), l = pre ++ rest → (pre.length : Int) = i → rest.length < k → z.length = rest.length →
    laws_toInt64S.l0 k l (pre ++ z) i = some l := by
  intro rest
  induction rest with
  | nil =>
    intro pre i k z hl2 hi hk hz
    obtain ⟨k, rfl⟩ : ∃ m, k = m + 1 := ⟨k - 1, by omega⟩
    have : z = [] := List.eq_nil_of_length_eq_zero hz
    subst this
    simp only [laws_toInt64S.l0]
    rw [if_neg (by rw [hl2]; simp; omega), hl2]
  | cons x rest ih =>
    intro pre i k z hl2 hi hk hz
    obtain ⟨k, rfl⟩ : ∃ m, k = m + 1 := ⟨k - 1, by omega⟩
    obtain ⟨y, z, rfl⟩ : ∃ y z', z = y :: z' := by cases z with | nil => simp at hz | cons y z => exact ⟨y, z, rfl⟩
    simp only [List.length_cons] at hk hz
    have hlen : l.length = pre.length + (rest.length + 1) := by rw [hl2]; simp
    simp only [laws_toInt64S.l0]
    have hr : rd l i = x := by rw [hl2]; exact rd_append_right pre (x :: rest) i hi.symm x rest rfl
    rw [if_pos (by omega), if_pos (by omega), if_pos (by simp; omega), hr, w64 (n := i + 1) (by omega) (by omega)]
    have e : (pre ++ y :: z).set i.toNat x = (pre ++ [x]) ++ z := by
      have hn : i.toNat = pre.length := by omega
      rw [hn, List.set_append_right _ _ (Nat.le_refl _)]; simp
    rw [e]
    exact ih (pre ++ [x]) (i + 1) k z (by rw [hl2]; simp) (by simp; omega) (by omega) (by omega)
theorem toInt64S_eq (l : List Int) (hl : l.length ≤ 1000000000) (k : Nat) (hk : l.length < k) : laws_toInt64S.f k l = some l := by
  unfold laws_toInt64S.f
  rw [if_pos (by omega), if_pos (by omega)]
  have := toInt64S_l0 l (by omega) l [] 0 k (List.replicate ((l.length : Int)).toNat 0) rfl rfl hk (by simp)
  simpa using this
theorem eqInt64S_l0 (l : List Int) (hl : l.length ≤ 1000000000000) : ∀ (d k : Nat) (i : Int), (l.length : Int) - i = d → 0 ≤ i → d < k → laws_eqInt64S.l0 k l l i = some true := by
  intro d
  induction d with
  | zero =>
    intro k i hd h0 hk
    obtain ⟨k, rfl⟩ : ∃ m, k = m + 1 := ⟨k - 1, by omega⟩
    simp only [laws_eqInt64S.l0]; rw [if_neg (by omega)]
  | succ d ih =>
    intro k i hd h0 hk
    obtain ⟨k, rfl⟩ : ∃ m, k = m + 1 := ⟨k - 1, by omega⟩
    simp only [laws_eqInt64S.l0]
    rw [if_pos (by omega), if_pos h0, if_pos (by omega), if_pos True.intro, w64 (by omega) (by omega)]
    exact ih k (i + 1) (by omega) (by omega) (by omega)
theorem eqInt64S_self (l : List Int) (hl : l.length ≤ 1000000000000) (k : Nat) (hk : l.length < k) : laws_eqInt64S.f k l l = some true := by
  unfold laws_eqInt64S.f; rw [if_pos rfl]; exact eqInt64S_l0 l hl l.length k 0 (by omega) (by omega) hk
/-- So many numbers from x on. -/
def iv : Nat → Int → List Int
  | 0, _ => []
  | n + 1, x => x :: iv n (x + 1)
theorem iv_length : ∀ (n : Nat) (x : Int), (iv n x).length = n
  | 0, _ => rfl
  | n + 1, x => by simp [iv, iv_length n]
theorem mem_iv : ∀ (n : Nat) (x y : Int), y ∈ iv n x → x ≤ y ∧ y < x + n
  | 0, _, _, h => by simp [iv] at h
  | n + 1, x, y, h => by
    simp only [iv, List.mem_cons] at h
    rcases h with rfl | h
    · omega
    · have := mem_iv n (x + 1) y h; omega
theorem markInt64S_l0 : ∀ (rest pre : List Int) (a i : Int) (k : Nat), (pre.length : Int) = i → rest.length < k → 0 ≤ a → a + rest.length ≤ 4000000000000000000 → i + rest.length ≤ 4000000000000000000 →
    laws_markInt64S.l0 k (pre ++ rest) a i = some (a + rest.length, pre ++ iv rest.length a) := by
  intro rest
  induction rest with
  | nil =>
    intro pre a i k hi hk h0 h1 h2
    obtain ⟨k, rfl⟩ : ∃ m, k = m + 1 := ⟨k - 1, by omega⟩
    simp only [laws_markInt64S.l0]
    rw [if_neg (by simp; omega)]; simp [iv]
  | cons x rest ih =>
    intro pre a i k hi hk h0 h1 h2
    obtain ⟨k, rfl⟩ : ∃ m, k = m + 1 := ⟨k - 1, by omega⟩
    simp only [List.length_cons] at hk h1 h2
    simp only [laws_markInt64S.l0]
    rw [if_pos (by simp; omega), if_pos (by omega), w64 (n := a + 1) (by omega) (by omega), w64 (n := i + 1) (by omega) (by omega)]
    have e : (pre ++ x :: rest).set i.toNat a = (pre ++ [a]) ++ rest := by
      have hn : i.toNat = pre.length := by omega
      rw [hn, List.set_append_right _ _ (Nat.le_refl _)]; simp
    rw [e, ih (pre ++ [a]) (a + 1) (i + 1) k (by simp; omega) (by omega) (by omega) (by omega) (by omega)]
    simp [iv]; omega
theorem markInt64S_eq (l : List Int) (a : Int) (k : Nat) (hk : l.length < k) (h0 : 0 ≤ a) (h1 : a + l.length ≤ 4000000000000000000) : laws_markInt64S.f k l a = some (a + l.length, iv l.length a) := by
  unfold laws_markInt64S.f
  have := markInt64S_l0 l [] a 0 k rfl hk h0 h1 (by omega)
  simpa using this
theorem heldInt64S_l0 : ∀ (n : Nat) (pre : List Int) (a i : Int) (k : Nat), (pre.length : Int) = i → n < k → 0 ≤ a → a + n ≤ 1000000000000 → i + n ≤ 1000000000000 →
    laws_heldInt64S.l0 k (pre ++ iv n a) a i = some (a + n) := by
  intro n
  induction n with
  | zero =>
    intro pre a i k hi hk h0 h1 h2
    obtain ⟨k, rfl⟩ : ∃ m, k = m + 1 := ⟨k - 1, by omega⟩
    simp only [laws_heldInt64S.l0]
    rw [if_neg (by simp [iv]; omega)]; simp
  | succ n ih =>
    intro pre a i k hi hk h0 h1 h2
    obtain ⟨k, rfl⟩ : ∃ m, k = m + 1 := ⟨k - 1, by omega⟩
    simp only [laws_heldInt64S.l0]
    rw [if_pos (by simp [iv_length]; omega), if_pos (by omega), if_pos (rd_append_right pre (iv (n + 1) a) i hi.symm a (iv n (a + 1)) rfl), w64 (n := a + 1) (by omega) (by omega), w64 (n := i + 1) (by omega) (by omega)]
    have e : pre ++ iv (n + 1) a = (pre ++ [a]) ++ iv n (a + 1) := by simp [iv]
    rw [e, ih (pre ++ [a]) (a + 1) (i + 1) k (by simp; omega) (by omega) (by omega) (by omega) (by omega)]
    congr 1; omega
theorem heldInt64S_eq (n : Nat) (a : Int) (k : Nat) (hk : n < k) (h0 : 0 ≤ a) (h1 : a + n ≤ 1000000000000) : laws_heldInt64S.f k (iv n a) a = some (a + n) := by
  unfold laws_heldInt64S.f
  have := heldInt64S_l0 n [] a 0 k rfl hk h0 h1 (by omega)
  simpa using this
theorem eqIntsResult_self (c : Int) (l : List Int) (hl : l.length ≤ 1000000) (k : Nat) (hk : l.length < k) : laws_eqIntsResult.f k c l c l = some true := by
  unfold laws_eqIntsResult.f; rw [if_pos rfl, eqInt64S_self l (by omega) k hk]; rfl
theorem markIntsResult_eq (c : Int) (l : List Int) (a : Int) (k : Nat) (hk : l.length < k) (h0 : 0 ≤ a) (h1 : a + l.length ≤ 1000000000000) : laws_markIntsResult.f k c l a = some (a + l.length, iv l.length a) := by
  unfold laws_markIntsResult.f; rw [markInt64S_eq l a k hk h0 (by omega)]; rfl
theorem heldIntsResult_eq (c : Int) (n : Nat) (a : Int) (k : Nat) (hk : n < k) (h0 : 0 ≤ a) (h1 : a + n ≤ 1000000000000) : laws_heldIntsResult.f k c (iv n a) a = some (a + n) := by
  unfold laws_heldIntsResult.f; rw [heldInt64S_eq n a k hk h0 h1]; simp only [Option.bind_some]; rw [if_neg (by omega)]
theorem FnExactSearchPulses : laws_FnExactSearchPulses.Pure := by
  intro l k h1 h2 h3 _
  refine ⟨3000000, ?_⟩
  unfold laws_FnExactSearchPulses.f
  by_cases hb : (l.length : Int) > 1048576
  · rw [if_pos hb]
  rw [if_neg hb, toInt64S_eq l (by omega) 3000000 (by omega)]; simp only [Option.bind_some]
  rw [specSearchPulses_eq l k (by omega) 3000000 (by omega)]; simp only [Option.bind_some]
  rw [SearchPulses_eq l k (by omega) 3000000 (by omega)]
  have hL := spR_len l k
  generalize hR : spR l k = R at hL
  simp only [Option.bind_some]
  rw [eqIntsResult_self _ _ (by omega) 3000000 (by omega)]; simp only [Option.bind_some, if_true]
  rw [eqInt64S_self l (by omega) 3000000 (by omega)]; simp only [Option.bind_some, if_true]
  rw [markInt64S_eq l 1 3000000 (by omega) (by omega) (by omega)]; simp only [Option.bind_some]
  rw [if_neg (by omega)]
  simp only [Bool.not_true]
  rw [show (3000000 : Nat) = 2999999 + 1 from rfl, laws_FnExactSearchPulses.j0, if_neg (by simp)]
  rw [markIntsResult_eq _ _ 1 2999999 (by omega) (by omega) (by omega)]; simp only [Option.bind_some]
  rw [heldIntsResult_eq _ _ 1 2999999 (by omega) (by omega) (by omega)]; simp only [Option.bind_some]
  rw [if_neg (by omega)]; simp only [if_true]
  rw [toInt64S_eq l (by omega) 2999999 (by omega)]; simp only [Option.bind_some]
  rw [SearchPulses_eq l k (by omega) 2999999 (by omega), hR]; simp only [Option.bind_some]
  rw [eqIntsResult_self _ _ (by omega) 2999999 (by omega)]; simp only [Option.bind_some, if_true]
  rw [if_neg (by omega)]

end Go.Proofs.Ytpbkbibjlbbkbaa.Pure
