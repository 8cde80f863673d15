/- The program's MakeFrame returns what the reference's returns, for all arguments. -/
import Derived.Test.YthehhncokikgcaaPFnExactMakeFramex15
set_option linter.unusedVariables false
set_option linter.unusedSimpArgs false
namespace Go.Proofs.Ythehhncokikgcaa.Pure
open Go.RowKit Go.Proofs.Ythehhncokikgcaa.PFnExactMakeFrame Go.Proofs.YthehhncokikgcaaW.PrintWords Go.Proofs.YthehhncokikgcaaW.PrintLast

theorem w64 {n : Int} (h1 : -9223372036854775808 ≤ n) (h2 : n ≤ 9223372036854775807) : wrap64 n = n := by unfold wrap64; omega
/-- The code of a size. -/
def szR (a : Int) : Int := if a = 4 ∨ a = 8 ∨ a = 16 then 0 else 3
theorem SizeFault_eq (a : Int) : impl_SizeFault.f a = some (szR a) := by
  unfold impl_SizeFault.f szR
  by_cases h1 : a = 4
  · simp [h1]
  · by_cases h2 : a = 8
    · simp [h2]
    · by_cases h3 : a = 16
      · simp [h3]
      · simp [h1, h2, h3]
theorem szR_0 {a : Int} : szR a = 0 ↔ (a = 4 ∨ a = 8 ∨ a = 16) := by unfold szR; split <;> simp_all
theorem szR_no {a : Int} (h : ¬ (a = 4 ∨ a = 8 ∨ a = 16)) : szR a = 3 := by unfold szR; rw [if_neg h]
theorem szR_yes {a : Int} (h : a = 4 ∨ a = 8 ∨ a = 16) : szR a = 0 := by unfold szR; rw [if_pos h]
theorem codeIf_eq (b : Bool) (c : Int) : impl_codeIf.f b c = some (if b = true then c else 0) := by unfold impl_codeIf.f; split <;> rfl
theorem idxP_any (p : Int → Option Bool) (q : Int → Bool) : ∀ (l : List Int) (i : Int), 0 ≤ i → (∀ x ∈ l, p x = some (q x)) → ∃ r, idxP p l i = some r ∧ decide (0 ≤ r) = l.any q
  | [], i, _, _ => ⟨-1, rfl, by simp⟩
  | x :: l, i, hi, h => by
    obtain ⟨r, hr, hq⟩ := idxP_any p q l (i + 1) (by omega) (fun y hy => h y (by simp [hy]))
    simp only [idxP]
    rw [h x (by simp)]
    simp only [Option.bind_some]
    cases hx : q x with
    | true => exact ⟨i, by simp, by simp [hx, hi]⟩
    | false => exact ⟨r, by simp [hr], by simp [hx, hq]⟩
theorem anyP_eq (p : Int → Option Bool) (q : Int → Bool) (l : List Int) (h : ∀ x ∈ l, p x = some (q x)) : anyP p l = some (l.any q) := by
  obtain ⟨r, hr, hq⟩ := idxP_any p q l 0 (by omega) h
  unfold anyP; rw [hr]; simp only [Option.bind_some]; rw [hq]
/-- All of a list lie between two bounds. -/
def allW (l : List Int) (a b : Int) : Bool := l.all fun x => decide (a ≤ x ∧ x ≤ b)
theorem allW_cons (x : Int) (l : List Int) (a b : Int) : allW (x :: l) a b = (decide (a ≤ x ∧ x ≤ b) && allW l a b) := by simp [allW]
theorem allW_mem {l : List Int} {a b : Int} (h : allW l a b = true) {x : Int} (hx : x ∈ l) : a ≤ x ∧ x ≤ b := by
  unfold allW at h; rw [List.all_eq_true] at h; simpa using h x hx
theorem allW_mk {l : List Int} {a b : Int} (h : ∀ x ∈ l, a ≤ x ∧ x ≤ b) : allW l a b = true := by
  unfold allW; rw [List.all_eq_true]; intro x hx; simpa using h x hx
theorem inRange_eq (a b c : Int) : impl_inRange.f a b c = some (decide (b ≤ a ∧ a ≤ c)) := by
  unfold impl_inRange.f
  by_cases h : b ≤ a
  · rw [if_pos h]; simp [h]
  · rw [if_neg h]; simp [h]
theorem within_eq (a b : Int) (h0 : 0 ≤ b) (h1 : b ≤ 9223372036854775807) : impl_within.f a b = some (decide (-b ≤ a ∧ a ≤ b)) := by
  unfold impl_within.f; rw [w64 (by omega) (by omega), inRange_eq]; rfl
theorem allWithin_eq (l : List Int) (m : Int) (h0 : 0 ≤ m) (h1 : m ≤ 9223372036854775807) : impl_allWithin.f l m = some (allW l (-m) m) := by
  unfold impl_allWithin.f
  rw [anyP_eq (notWithinP m) (fun x => !decide (-m ≤ x ∧ x ≤ m)) l (fun x _ => by unfold notWithinP; rw [within_eq x m h0 h1]; rfl)]
  simp only [Option.bind_some]
  congr 1
  unfold allW
  rw [List.any_eq_not_all_not]; simp
theorem rd_append_right (P Q : List Int) (i : Int) (h : i = (P.length : Int)) (x : Int) (R : List Int) (hQ : Q = x :: R) : rd (P ++ Q) i = x := by
  subst hQ; unfold rd; rw [h, Int.toNat_natCast, List.getD_eq_getElem?_getD, List.getElem?_append_right (Nat.le_refl _)]; simp
theorem rd_get (l : List Int) (i : Int) (h0 : 0 ≤ i) (h1 : i < (l.length : Int)) : rd l i = l[i.toNat]'(by omega) := by
  unfold rd; rw [List.getD_eq_getElem?_getD, List.getElem?_eq_getElem (by omega)]; rfl
/-- The first code that is not 0. -/
def fst0 : List Int → Int
  | [] => 0
  | x :: l => if x = 0 then fst0 l else x
theorem first_l0 (l : List Int) (hl : l.length ≤ 2000000) : ∀ (rest pre : List Int) (i : Int) (k : Nat), l = pre ++ rest → (pre.length : Int) = i → rest.length < k → impl_first.l0 k l (l.length : Int) i = some (fst0 rest) := by
  intro rest
  induction rest with
  | nil =>
    intro pre i k h1 hi hk
    obtain ⟨k, rfl⟩ : ∃ m, k = m + 1 := ⟨k - 1, by omega⟩
    simp only [impl_first.l0]
    rw [if_neg (by rw [h1]; simp; omega)]; rfl
  | cons x rest ih =>
    intro pre i k h1 hi hk
    obtain ⟨k, rfl⟩ : ∃ m, k = m + 1 := ⟨k - 1, by omega⟩
    simp only [List.length_cons] at hk
    have hlen : l.length = pre.length + (rest.length + 1) := by rw [h1]; simp
    simp only [impl_first.l0]
    have hr : rd l i = x := by rw [h1]; exact rd_append_right pre (x :: rest) i hi.symm x rest rfl
    rw [if_pos (by omega), if_pos (by omega), if_pos (by omega), hr, w64 (n := i + 1) (by omega) (by omega)]
    simp only [fst0]
    by_cases c : x = 0
    · rw [if_pos c, if_pos c]; exact ih (pre ++ [x]) (i + 1) k (by rw [h1]; simp) (by simp; omega) (by omega)
    · rw [if_neg c, if_neg c]
theorem first_eq (l : List Int) (hl : l.length ≤ 1000) (k : Nat) (hk : l.length < k) : impl_first.f k l = some (fst0 l) := by
  unfold impl_first.f; exact first_l0 l (by omega) l [] 0 k rfl rfl hk
/-- The code of coefficients of a size. -/
def cfR (a : Int) (l : List Int) : Int := if szR a ≠ 0 then szR a else if (l.length : Int) ≠ a then 2 else if allW l (-16777216) 16777216 = true then 0 else 3
theorem coefsFault_eq (a : Int) (l : List Int) (k : Nat) (hk : 10 ≤ k) : impl_coefsFault.f k a l = some (cfR a l) := by
  unfold impl_coefsFault.f
  rw [SizeFault_eq]
  simp only [codeIf_eq, Option.bind_some]
  rw [allWithin_eq l 16777216 (by omega) (by omega)]
  simp only [Option.bind_some]
  rw [first_eq _ (by simp) k (by simp; omega)]
  unfold cfR
  by_cases h1 : szR a = 0
  · by_cases h2 : (l.length : Int) = a
    · by_cases h3 : allW l (-16777216) 16777216 = true
      · simp [h1, h2, h3, fst0]
      · simp [h1, h2, h3, fst0]
    · simp [h1, h2, fst0]
  · simp [h1, fst0]
theorem cfR_0 {a : Int} {l : List Int} (h : cfR a l = 0) : (a = 4 ∨ a = 8 ∨ a = 16) ∧ (l.length : Int) = a ∧ allW l (-16777216) 16777216 = true := by
  unfold cfR at h
  by_cases h1 : szR a = 0
  · by_cases h2 : (l.length : Int) = a
    · by_cases h3 : allW l (-16777216) 16777216 = true
      · exact ⟨szR_0.1 h1, h2, h3⟩
      · simp [h1, h2, h3] at h
    · simp [h1, h2] at h
  · simp [h1] at h
/-- The mask of two norms, from one on. -/
def mskv (l h : Nat) : Int := if l ≤ 4 * h then 0 else if l ≤ 16 * h then 1 else if l ≤ 64 * h then 2 else 3
theorem mskv_range (l h : Nat) : 0 ≤ mskv l h ∧ mskv l h ≤ 3 := by unfold mskv; repeat' split <;> omega
/-- The sum of the absolute values. -/
def nrm : List Int → Nat
  | [] => 0
  | x :: l => x.natAbs + nrm l
theorem nrm_append : ∀ (a b : List Int), nrm (a ++ b) = nrm a + nrm b
  | [], b => by simp [nrm]
  | x :: a, b => by simp only [List.cons_append, nrm, nrm_append a b]; omega
theorem nrm_le (M : Nat) : ∀ (l : List Int), (∀ x ∈ l, x.natAbs ≤ M) → nrm l ≤ M * l.length
  | [], _ => by simp [nrm]
  | x :: l, h => by
    have h1 := nrm_le M l (fun y hy => h y (by simp [hy]))
    have h2 := h x (by simp)
    simp only [nrm, List.length_cons, Nat.mul_add, Nat.mul_one]; omega
theorem nrm_mem : ∀ {l : List Int} {x : Int}, x ∈ l → x.natAbs ≤ nrm l
  | y :: l, x, h => by
    simp only [nrm]
    rcases List.mem_cons.1 h with rfl | h
    · omega
    · have := nrm_mem h; omega
theorem allW_nrm {l : List Int} {M : Nat} (h : allW l (-(M : Int)) M = true) : nrm l ≤ M * l.length :=
  nrm_le M l (fun x hx => by have := allW_mem h hx; omega)
theorem abs_eq (x : Int) (h0 : -9223372036854775807 ≤ x) (h1 : x ≤ 9223372036854775807) : impl_abs.f x = some (x.natAbs : Int) := by
  unfold impl_abs.f mx; rw [w64 (by omega) (by omega)]; congr 1; split <;> omega
theorem normOf_l0 (l : List Int) (hl : l.length ≤ 2000000) (hb : ∀ x ∈ l, x.natAbs ≤ 1099511627776) : ∀ (rest pre : List Int) (i s : Int) (k : Nat), l = pre ++ rest → (pre.length : Int) = i → rest.length < k → s = (nrm pre : Int) → impl_normOf.l0 k s l (l.length : Int) i = some (nrm l : Int) := by
  intro rest
  induction rest with
  | nil =>
    intro pre i s k h1 hi hk hs
    obtain ⟨k, rfl⟩ : ∃ m, k = m + 1 := ⟨k - 1, by omega⟩
    simp only [impl_normOf.l0]
    rw [if_neg (by rw [h1]; simp; omega), hs, h1]; simp
  | cons x rest ih =>
    intro pre i s k h1 hi hk hs
    obtain ⟨k, rfl⟩ : ∃ m, k = m + 1 := ⟨k - 1, by omega⟩
    simp only [List.length_cons] at hk
    have hlen : l.length = pre.length + (rest.length + 1) := by rw [h1]; simp
    have hx := hb x (by rw [h1]; simp)
    have hp := nrm_le 1099511627776 pre (fun y hy => hb y (by rw [h1]; simp [hy]))
    have hp2 : 1099511627776 * pre.length ≤ 1099511627776 * 2000000 := Nat.mul_le_mul_left _ (by omega)
    simp only [impl_normOf.l0]
    have hr : rd l i = x := by rw [h1]; exact rd_append_right pre (x :: rest) i hi.symm x rest rfl
    rw [if_pos (by omega), if_pos (by omega), if_pos (by omega), hr, abs_eq x (by omega) (by omega)]
    simp only [Option.bind_some]
    rw [w64 (n := s + _) (by omega) (by omega), w64 (n := i + 1) (by omega) (by omega)]
    exact ih (pre ++ [x]) (i + 1) _ k (by rw [h1]; simp) (by simp; omega) (by omega) (by rw [nrm_append]; simp only [nrm]; omega)
theorem normOf_eq (l : List Int) (hl : l.length ≤ 2000000) (hb : ∀ x ∈ l, x.natAbs ≤ 1099511627776) (k : Nat) (hk : l.length < k) : impl_normOf.f k l = some (nrm l : Int) := by
  unfold impl_normOf.f; exact normOf_l0 l hl hb l [] 0 0 k rfl rfl hk rfl
theorem maskOf_l0 (L H : Nat) (hL : L ≤ 1000000000000) (hH : H ≤ 1000000000000) (k : Nat) (hk : 6 ≤ k) : impl_maskOf.l0 k (L : Int) (H : Int) 0 4 = some (mskv L H) := by
  obtain ⟨k, rfl⟩ : ∃ m, k = m + 4 := ⟨k - 4, by omega⟩
  have e1 : wrap64 (4 * (H : Int)) = 4 * H := w64 (by omega) (by omega)
  have e2 : wrap64 (16 * (H : Int)) = 16 * H := w64 (by omega) (by omega)
  have e3 : wrap64 (64 * (H : Int)) = 64 * H := w64 (by omega) (by omega)
  have n1 : wrap64 (0 + 1) = 1 := w64 (by omega) (by omega)
  have n2 : wrap64 (1 + 1) = 2 := w64 (by omega) (by omega)
  have n3 : wrap64 (2 + 1) = 3 := w64 (by omega) (by omega)
  have m1 : wrap64 (4 * 4) = 16 := w64 (by omega) (by omega)
  have m2 : wrap64 (16 * 4) = 64 := w64 (by omega) (by omega)
  have m3 : wrap64 (64 * 4) = 256 := w64 (by omega) (by omega)
  unfold mskv
  simp only [impl_maskOf.l0, e1, n1, m1, e2, n2, m2, e3, n3, m3]
  by_cases c1 : L ≤ 4 * H
  · rw [if_pos (by omega), if_neg (by omega), if_pos c1]
  · rw [if_pos (by omega), if_pos (by omega), if_neg c1]
    by_cases c2 : L ≤ 16 * H
    · rw [if_pos (by omega), if_neg (by omega), if_pos c2]
    · rw [if_pos (by omega), if_pos (by omega), if_neg c2]
      by_cases c3 : L ≤ 64 * H
      · rw [if_pos (by omega), if_neg (by omega), if_pos c3]
      · rw [if_pos (by omega), if_pos (by omega), if_neg c3, if_neg (by omega)]
/-- The mask of coefficients of a size. -/
def mskL (l : List Int) : Int := mskv (nrm (l.take (l.length / 2))) (nrm (l.drop (l.length / 2)))
theorem coef_nat {l : List Int} (h : allW l (-16777216) 16777216 = true) : ∀ x ∈ l, x.natAbs ≤ 16777216 := fun x hx => by have := allW_mem h hx; omega
theorem maskOf_eq (l : List Int) (hl : l.length ≤ 64) (hw : allW l (-16777216) 16777216 = true) (k : Nat) (hk : 80 ≤ k) : impl_maskOf.f k l = some (mskL l) := by
  unfold impl_maskOf.f
  have hb := coef_nat hw
  have e : wrap64 ((l.length : Int) / 2) = (l.length : Int) / 2 := w64 (by omega) (by omega)
  have et : ((l.length : Int) / 2).toNat = l.length / 2 := by omega
  rw [e, if_pos (by omega), if_pos (by omega), et]
  have b1 : ∀ x ∈ l.take (l.length / 2), x.natAbs ≤ 16777216 := fun x hx => hb x (List.mem_of_mem_take hx)
  have b2 : ∀ x ∈ l.drop (l.length / 2), x.natAbs ≤ 16777216 := fun x hx => hb x (List.mem_of_mem_drop hx)
  have l1 : (l.take (l.length / 2)).length ≤ 64 := by rw [List.length_take]; omega
  have l2 : (l.drop (l.length / 2)).length ≤ 64 := by rw [List.length_drop]; omega
  have n1 := nrm_le 16777216 _ b1
  have n2 := nrm_le 16777216 _ b2
  have m1 : 16777216 * (l.take (l.length / 2)).length ≤ 16777216 * 64 := Nat.mul_le_mul_left _ l1
  have m2 : 16777216 * (l.drop (l.length / 2)).length ≤ 16777216 * 64 := Nat.mul_le_mul_left _ l2
  rw [normOf_eq _ (by omega) (fun x hx => by have := b1 x hx; omega) k (by omega)]
  simp only [Option.bind_some]
  rw [normOf_eq _ (by omega) (fun x hx => by have := b2 x hx; omega) k (by omega)]
  simp only [Option.bind_some]
  rw [maskOf_l0 _ _ (by omega) (by omega) k (by omega)]; rfl
/-- The bands of a size. -/
def bnds (s : Int) : List S93 := if s = 4 then [⟨2, 2⟩] else if s = 8 then [⟨4, 2⟩, ⟨6, 2⟩] else [⟨8, 4⟩, ⟨12, 4⟩]
theorem bandsOf_eq (s : Int) : impl_bandsOf.f s = some (bnds s) := by unfold impl_bandsOf.f bnds; split <;> (try rfl); split <;> rfl
theorem bnds_cases (s : Int) : (s = 4 ∧ bnds s = [⟨2, 2⟩]) ∨ (s = 8 ∧ bnds s = [⟨4, 2⟩, ⟨6, 2⟩]) ∨ (s ≠ 4 ∧ s ≠ 8 ∧ bnds s = [⟨8, 4⟩, ⟨12, 4⟩]) := by
  unfold bnds
  by_cases h1 : s = 4
  · exact Or.inl ⟨h1, by rw [if_pos h1]⟩
  · by_cases h2 : s = 8
    · exact Or.inr (Or.inl ⟨h2, by rw [if_neg h1, if_pos h2]⟩)
    · exact Or.inr (Or.inr ⟨h1, h2, by rw [if_neg h1, if_neg h2]⟩)
/-- The code of what frames and parts have in common. -/
def headR (n s r m p : Int) : Int := if ¬ (0 ≤ n ∧ n ≤ 9999) then 3 else if szR s ≠ 0 then szR s else if (0 ≤ r ∧ r ≤ 47) ∧ (0 ≤ m ∧ m ≤ 3) ∧ (0 ≤ p ∧ p ≤ 2) then 0 else 3
theorem headR_0 {n s r m p : Int} (h : headR n s r m p = 0) : (0 ≤ n ∧ n ≤ 9999) ∧ (s = 4 ∨ s = 8 ∨ s = 16) ∧ (0 ≤ r ∧ r ≤ 47) ∧ (0 ≤ m ∧ m ≤ 3) ∧ (0 ≤ p ∧ p ≤ 2) := by
  unfold headR at h
  by_cases h1 : 0 ≤ n ∧ n ≤ 9999
  · rw [if_neg (show ¬ ¬ (0 ≤ n ∧ n ≤ 9999) from fun g => g h1)] at h
    by_cases h2 : szR s = 0
    · rw [if_neg (show ¬ szR s ≠ 0 from fun g => g h2)] at h
      by_cases h3 : (0 ≤ r ∧ r ≤ 47) ∧ (0 ≤ m ∧ m ≤ 3) ∧ (0 ≤ p ∧ p ≤ 2)
      · exact ⟨h1, szR_0.mp h2, h3⟩
      · rw [if_neg h3] at h; simp at h
    · rw [if_pos h2] at h; exact absurd h h2
  · rw [if_pos h1] at h; simp at h
/-- The code of how many Lows, Gains and Pulses there are. -/
def cntR (s : Int) (l m : List Int) (L : List (List Int)) : Int := if (l.length : Int) = s / 2 ∧ m.length = (bnds s).length ∧ L.length = (bnds s).length then 0 else 2
/-- The step of a rung. -/
def stp (r : Int) : Int := if r ≤ 0 then 1 else if r % 2 = 1 then 2 ^ ((r + 1) / 2).toNat else 3 * 2 ^ (r / 2 - 1).toNat
theorem stp_pos (r : Int) (h0 : 0 ≤ r) (h1 : r ≤ 47) : 1 ≤ stp r ∧ stp r ≤ 16777216 := by
  have key : ∀ n : Nat, n < 48 → 1 ≤ stp (n : Int) ∧ stp (n : Int) ≤ 16777216 := by decide +kernel
  have := key r.toNat (by omega)
  rwa [Int.toNat_of_nonneg h0] at this
theorem stp_lt (r : Int) (h0 : 0 ≤ r) (h1 : r < 47) : stp r < stp (r + 1) := by
  have key : ∀ n : Nat, n < 47 → stp (n : Int) < stp ((n : Int) + 1) := by decide +kernel
  have := key r.toNat (by omega)
  rwa [Int.toNat_of_nonneg h0] at this
/-- Is an index of a rung right: it and what it restores. -/
def lowB (r q : Int) : Bool := decide ((-30000 ≤ q ∧ q ≤ 30000) ∧ (-16777216 ≤ q * stp r ∧ q * stp r ≤ 16777216))
def gainB (r q : Int) : Bool := decide ((0 ≤ q ∧ q ≤ 65535) ∧ (-16777216 ≤ q * stp r ∧ q * stp r ≤ 16777216))
/-- The rung of gains. -/
def grg (r m : Int) : Int := if r + 2 * m ≤ 47 then r + 2 * m else 47
theorem grg_range {r m : Int} (hr : 0 ≤ r ∧ r ≤ 47) (hm : 0 ≤ m ∧ m ≤ 3) : 0 ≤ grg r m ∧ grg r m ≤ 47 := by unfold grg; split <;> omega
theorem isDim_eq (a : Int) : impl_isDim.f a = some (decide (1 ≤ a ∧ a ≤ 4)) := by unfold impl_isDim.f; rw [inRange_eq]; rfl
theorem isPulses_eq (a : Int) : impl_isPulses.f a = some (decide (0 ≤ a ∧ a ≤ 8)) := by unfold impl_isPulses.f; rw [inRange_eq]; rfl
/-- The code of pulses. -/
def pfR (l : List Int) (k : Int) : Int := if ¬ (1 ≤ (l.length : Int) ∧ (l.length : Int) ≤ 4) then 2 else if ¬ (0 ≤ k ∧ k ≤ 8) then 3 else if allW l (-8) 8 = true ∧ (nrm l : Int) = k then 0 else 1
theorem allW8_nat {l : List Int} (h : allW l (-8) 8 = true) : ∀ x ∈ l, x.natAbs ≤ 1099511627776 := fun x hx => by have := allW_mem h hx; omega
theorem PulsesFault_eq (l : List Int) (a : Int) (hl : l.length ≤ 2000000) (k : Nat) (hk : l.length + 10 < k) : impl_PulsesFault.f k l a = some (pfR l a) := by
  unfold impl_PulsesFault.f
  simp only [isDim_eq, isPulses_eq, codeIf_eq, Option.bind_some]
  rw [allWithin_eq l 8 (by omega) (by omega)]
  simp only [Option.bind_some]
  unfold pfR
  by_cases hw : allW l (-8) 8 = true
  · rw [if_pos hw, normOf_eq l hl (allW8_nat hw) k (by omega)]
    simp only [Option.bind_some]
    rw [first_eq _ (by simp) k (by simp; omega)]
    by_cases h1 : 1 ≤ (l.length : Int) ∧ (l.length : Int) ≤ 4
    · by_cases h2 : 0 ≤ a ∧ a ≤ 8
      · by_cases h3 : (nrm l : Int) = a
        · simp [h1, h2, h3, hw, fst0]
        · simp [h1, h2, h3, hw, fst0]
      · simp [h1, h2, fst0]
    · simp [h1, fst0]
  · rw [if_neg hw]
    simp only [if_true, Option.bind_some]
    rw [first_eq _ (by simp) k (by simp; omega)]
    by_cases h1 : 1 ≤ (l.length : Int) ∧ (l.length : Int) ≤ 4
    · by_cases h2 : 0 ≤ a ∧ a ≤ 8
      · simp [h1, h2, hw, fst0]
      · simp [h1, h2, fst0]
    · simp [h1, fst0]
/-- The code of the pulses of a band of so many dimensions. -/
def bandR (d m : Int) (p : List Int) : Int := if (p.length : Int) ≠ d then 2 else pfR p (8 - 2 * m)
/-- The code of the pulses of the bands, one by one. -/
def bandsR (m : Int) : List S93 → List (List Int) → Int
  | b :: bs, p :: ps => if bandR b.f1 m p = 0 then bandsR m bs ps else bandR b.f1 m p
  | _, _ => 0
/-- The code of a frame. -/
def ffR (n s r m p : Int) (l g : List Int) (L : List (List Int)) : Int := if headR n s r m p ≠ 0 then headR n s r m p else if cntR s l g L ≠ 0 then 2 else if l.all (lowB r) = true then (if g.all (gainB (grg r m)) = true then bandsR m (bnds s) L else 3) else 3
theorem bnds_two (s : Int) (L : List (List Int)) (h : L.length = (bnds s).length) : (∃ b p, bnds s = [b] ∧ L = [p]) ∨ (∃ b c p q, bnds s = [b, c] ∧ L = [p, q]) := by
  rcases bnds_cases s with ⟨_, e⟩ | ⟨_, e⟩ | ⟨_, _, e⟩ <;> rw [e] at h ⊢
  · match L, h with
    | [p], _ => exact Or.inl ⟨_, p, rfl, rfl⟩
  · match L, h with
    | [p, q], _ => exact Or.inr ⟨_, _, p, q, rfl, rfl⟩
  · match L, h with
    | [p, q], _ => exact Or.inr ⟨_, _, p, q, rfl, rfl⟩
/-- A band's coefficients. -/
def cutB (b : S93) (l : List Int) : List Int := (l.take (b.f0 + b.f1).toNat).drop b.f0.toNat
theorem cutB_mem {b : S93} {l : List Int} {x : Int} (h : x ∈ cutB b l) : x ∈ l := List.mem_of_mem_take (List.mem_of_mem_drop h)
theorem cutB_len (b : S93) (l : List Int) : (cutB b l).length ≤ l.length := by unfold cutB; rw [List.length_drop, List.length_take]; omega
/-- What BandNorms answers. -/
def bnR (a : Int) (l : List Int) : Int × List Int := if cfR a l ≠ 0 then (cfR a l, []) else (0, (bnds a).map fun b => (nrm (cutB b l) : Int))
theorem bnR_length (a : Int) (l : List Int) : (bnR a l).2.length ≤ 2 := by
  unfold bnR
  split
  · simp
  · rcases bnds_cases a with ⟨_, e⟩ | ⟨_, e⟩ | ⟨_, _, e⟩ <;> simp [e]
theorem absI_nat (x : Int) : absI x = (x.natAbs : Int) := by unfold absI; split <;> omega
theorem rd_at (l : List Int) (i : Nat) (h : i < l.length) : rd l (i : Int) = l[i] := by unfold rd; rw [Int.toNat_natCast, List.getD_eq_getElem?_getD, List.getElem?_eq_getElem h]; rfl
theorem nrm_take (l : List Int) (i : Nat) (h : i < l.length) : nrm (l.take (i + 1)) = nrm (l.take i) + (rd l (i : Int)).natAbs := by
  rw [List.take_succ_eq_append_getElem h, nrm_append, rd_at l i h]; simp [nrm]
theorem nrm_take_le (l : List Int) (i : Nat) : nrm (l.take i) ≤ nrm l := by
  have := nrm_append (l.take i) (l.drop i); rw [List.take_append_drop] at this; omega
/-- What number i has for certain, and its rest. -/
theorem sr_split (l : List Int) (k : Int) (hk : 0 ≤ k) (nm : Nat) (i : Nat) : (nm : Int) * srBase l k nm i + srRest l k nm i = k * ((rd l (i : Int)).natAbs : Int) ∧ 0 ≤ srRest l k nm i ∧ (nm ≠ 0 → srRest l k nm i < nm) ∧ 0 ≤ srBase l k nm i := by
  unfold srBase srRest
  have h0 : 0 ≤ k * ((rd l (i : Int)).natAbs : Int) := Int.mul_nonneg hk (by omega)
  rw [absI_nat, Int.tdiv_eq_ediv_of_nonneg h0, Int.tmod_eq_emod_of_nonneg h0]
  refine ⟨Int.mul_ediv_add_emod _ _, ?_, ?_, Int.ediv_nonneg h0 (by omega)⟩
  · by_cases h : nm = 0
    · subst h; simpa using h0
    · exact Int.emod_nonneg _ (by omega)
  · intro h; exact Int.emod_lt_of_pos _ (by omega)
theorem sr_low (l : List Int) (k : Int) (hk : 0 ≤ k) (nm : Nat) (hnm : nm = nrm l) : ∀ i, i ≤ l.length → k * ((nm : Int) - (nrm (l.take i) : Int)) ≤ (nm : Int) * srMiss l k nm i
  | 0, _ => by simp [nrm, srMiss, Int.mul_comm]
  | i + 1, h => by
    have ih := sr_low l k hk nm hnm i (by omega)
    have hs := sr_split l k hk nm i
    have hn := nrm_take l i (by omega)
    rw [hn]
    show _ ≤ (nm : Int) * (srMiss l k nm i - srBase l k nm i)
    rw [Int.mul_sub (nm : Int) (srMiss l k nm i)]
    have e : k * ((nm : Int) - ((nrm (l.take i) + (rd l (i : Int)).natAbs : Nat) : Int)) = k * ((nm : Int) - (nrm (l.take i) : Int)) - k * ((rd l (i : Int)).natAbs : Int) := by rw [← Int.mul_sub]; congr 1; omega
    rw [e]; omega
theorem sr_high (l : List Int) (k : Int) (hk : 0 ≤ k) (nm : Nat) (hnm : nm = nrm l) (h0 : nm ≠ 0) : ∀ i, i ≤ l.length → (nm : Int) * srMiss l k nm i ≤ k * ((nm : Int) - (nrm (l.take i) : Int)) + (i : Int) * ((nm : Int) - 1)
  | 0, _ => by simp [nrm, srMiss, Int.mul_comm]
  | i + 1, h => by
    have ih := sr_high l k hk nm hnm h0 i (by omega)
    have hs := sr_split l k hk nm i
    have hn := nrm_take l i (by omega)
    have hr := hs.2.2.1 h0
    rw [hn]
    show (nm : Int) * (srMiss l k nm i - srBase l k nm i) ≤ _
    rw [Int.mul_sub (nm : Int) (srMiss l k nm i)]
    have e : k * ((nm : Int) - ((nrm (l.take i) + (rd l (i : Int)).natAbs : Nat) : Int)) = k * ((nm : Int) - (nrm (l.take i) : Int)) - k * ((rd l (i : Int)).natAbs : Int) := by rw [← Int.mul_sub]; congr 1; omega
    have e2 : ((i + 1 : Nat) : Int) * ((nm : Int) - 1) = (i : Int) * ((nm : Int) - 1) + ((nm : Int) - 1) := by rw [show ((i + 1 : Nat) : Int) = (i : Int) + 1 by omega, Int.add_mul]; omega
    rw [e, e2]; omega
theorem srMiss_bd (l : List Int) (k : Int) (hk : 0 ≤ k) : (∀ i, i ≤ l.length → 0 ≤ srMiss l k (nrm l) i) ∧ (nrm l ≠ 0 → 1 ≤ l.length → srMiss l k (nrm l) l.length < l.length) ∧ (∀ i, i ≤ l.length → srMiss l k (nrm l) i ≤ k) := by
  refine ⟨fun i hi => ?_, fun h0 h1 => ?_, ?_⟩
  · by_cases h0 : nrm l = 0
    · have hz : ∀ j, srMiss l k (nrm l) j = k := by
        intro j
        induction j with
        | zero => rfl
        | succ j ih => show srMiss l k (nrm l) j - srBase l k (nrm l) j = k; rw [ih]; unfold srBase; rw [h0]; simp
      rw [hz]; exact hk
    · have h := sr_low l k hk (nrm l) rfl i hi
      have h2 := nrm_take_le l i
      have h3 : 0 ≤ k * (((nrm l : Nat) : Int) - (nrm (l.take i) : Int)) := Int.mul_nonneg hk (by omega)
      exact Int.le_of_mul_le_mul_left (a := ((nrm l : Nat) : Int)) (by rw [Int.mul_zero]; omega) (by omega)
  · have h := sr_high l k hk (nrm l) rfl h0 l.length (Nat.le_refl _)
    rw [List.take_length, Int.sub_self, Int.mul_zero, Int.zero_add] at h
    have h2 : (l.length : Int) * (((nrm l : Nat) : Int) - 1) < ((nrm l : Nat) : Int) * (l.length : Int) := by rw [Int.mul_sub, Int.mul_comm]; omega
    exact Int.lt_of_mul_lt_mul_left (a := ((nrm l : Nat) : Int)) (by omega) (by omega)
  · intro i
    induction i with
    | zero => intro _; exact Int.le_refl _
    | succ i ih =>
      intro hi
      have := ih (by omega)
      have hs := (sr_split l k hk (nrm l) i).2.2.2
      show srMiss l k (nrm l) i - srBase l k (nrm l) i ≤ k
      omega
theorem bd_nat {l : List Int} (hl : ∀ x ∈ l, -16777216 ≤ x ∧ x ≤ 16777216) : ∀ x ∈ l, x.natAbs ≤ 1099511627776 := fun x hx => by have := hl x hx; omega
theorem searchPulses_eq (l : List Int) (k : Int) (h1 : 1 ≤ l.length ∧ l.length ≤ 4) (hk : 0 ≤ k ∧ k ≤ 8) (hl : ∀ x ∈ l, -16777216 ≤ x ∧ x ≤ 16777216) : impl_searchPulses.f l k = some (srch l k (nrm l)) := by
  unfold impl_searchPulses.f
  rw [if_pos ⟨h1, hk, hl⟩, normOf_eq l (by omega) (bd_nat hl) 10 (by omega)]
  simp only [Option.bind_some]
  have hm := srMiss_bd l k hk.1
  rw [if_pos ⟨⟨by omega, hm.1⟩, fun h0 => by have := hm.2.1 (by omega) h1.1; omega⟩]
/-- The integer nearest to a / b; of two, the one farther from 0. -/
def rdv (a b : Int) : Int := if a < 0 then -((2 * -a + b) / (2 * b)) else (2 * a + b) / (2 * b)
theorem rdq (a b : Int) (ha : 0 ≤ a) (hb : 1 ≤ b) : 0 ≤ (2 * a + b) / (2 * b) ∧ (2 * a + b) / (2 * b) ≤ a + 1 := by
  refine ⟨Int.ediv_nonneg (by omega) (by omega), ?_⟩
  have h : (2 * a + b) / (2 * b) < a + 2 := by
    apply Int.ediv_lt_of_lt_mul (by omega)
    have h2 : (a + 2) * (2 * b) = 2 * (a * b) + 4 * b := by rw [Int.add_mul]; rw [show a * (2 * b) = 2 * (a * b) by rw [← Int.mul_assoc, Int.mul_comm a 2, Int.mul_assoc]]; omega
    have h3 : a * 1 ≤ a * b := Int.mul_le_mul_of_nonneg_left hb ha
    omega
  omega
theorem rdv_bound (a b : Int) (hb : 1 ≤ b) : (a < 0 → a - 1 ≤ rdv a b ∧ rdv a b ≤ 0) ∧ (0 ≤ a → 0 ≤ rdv a b ∧ rdv a b ≤ a + 1) := by
  unfold rdv
  refine ⟨fun h => ?_, fun h => ?_⟩
  · rw [if_pos h]; have := rdq (-a) b (by omega) hb; omega
  · rw [if_neg (by omega)]; exact rdq a b h hb
theorem rdv_neg (a b : Int) (h : 0 < a) : rdv (-a) b = -rdv a b := by
  unfold rdv; rw [if_pos (by omega), if_neg (by omega), Int.neg_neg]
/-- The lows, gains and pulses that MakeFrame tells. -/
def mkLows (a : Int) (l : List Int) (r : Int) : List Int := (l.take (a / 2).toNat).map fun c => rdv c (stp r)
def mkGain (r m : Int) (l : List Int) (b : S93) : Int := rdv (nrm (cutB b l) : Int) (stp (grg r m))
def mkPls (m : Int) (l : List Int) (b : S93) : List Int := srch (cutB b l) (8 - 2 * m) (nrm (cutB b l))
abbrev FR := Int × Int × Int × Int × Int × Int × List Int × List Int × List (List Int)
def frErr (c : Int) : FR := (c, 0, 0, 0, 0, 0, [], [], [])
/-- What is told of a frame that is made. -/
def mkEnd (n a r m p : Int) (l g : List Int) (L : List (List Int)) : FR := if ffR n a r m p l g L = 0 then (0, n, a, r, m, p, l, g, L) else frErr (ffR n a r m p l g L)
/-- What MakeFrame answers. -/
def mkR (a n : Int) (l : List Int) (r p : Int) : FR :=
  if ¬ (0 ≤ n ∧ n ≤ 9999) then frErr 3 else if cfR a l ≠ 0 then frErr (cfR a l) else if ¬ ((0 ≤ r ∧ r ≤ 47) ∧ (0 ≤ p ∧ p ≤ 2)) then frErr 3
  else mkEnd n a r (mskL l) p (mkLows a l r) ((bnds a).map (mkGain r (mskL l) l)) ((bnds a).map (mkPls (mskL l) l))
theorem cutB_three (a : Int) (l : List Int) (ha : a = 4 ∨ a = 8 ∨ a = 16) (hl : (l.length : Int) = a) : ∀ b ∈ bnds a, 1 ≤ (cutB b l).length ∧ (cutB b l).length ≤ 4 ∧ 0 ≤ b.f0 ∧ 0 ≤ b.f1 ∧ b.f0 + b.f1 ≤ l.length := by
  intro b hb
  have hc : ∀ x y : Int, 0 ≤ x → 1 ≤ y → y ≤ 4 → x + y ≤ l.length → 1 ≤ (cutB ⟨x, y⟩ l).length ∧ (cutB ⟨x, y⟩ l).length ≤ 4 ∧ 0 ≤ x ∧ 0 ≤ y ∧ x + y ≤ l.length := by
    intro x y h0 h1 h2 h3
    unfold cutB
    rw [List.length_drop, List.length_take]
    refine ⟨?_, ?_, h0, by omega, h3⟩ <;> (show _ ≤ _; simp only []; omega)
  rcases bnds_cases a with ⟨e, e1⟩ | ⟨e, e1⟩ | ⟨e, e', e1⟩
  · rw [e1] at hb; simp only [List.mem_cons, List.not_mem_nil, or_false] at hb; subst hb; exact hc 2 2 (by omega) (by omega) (by omega) (by omega)
  · rw [e1] at hb; simp only [List.mem_cons, List.not_mem_nil, or_false] at hb
    rcases hb with rfl | rfl
    · exact hc 4 2 (by omega) (by omega) (by omega) (by omega)
    · exact hc 6 2 (by omega) (by omega) (by omega) (by omega)
  · rw [e1] at hb; simp only [List.mem_cons, List.not_mem_nil, or_false] at hb
    rcases hb with rfl | rfl
    · exact hc 8 4 (by omega) (by omega) (by omega) (by omega)
    · exact hc 12 4 (by omega) (by omega) (by omega) (by omega)
theorem rdT_mem (B : List S93) (i : Int) (h0 : 0 ≤ i) (h1 : i < B.length) : rd_T93 B i ∈ B := by
  unfold rd_T93
  rw [List.getD_eq_getElem?_getD, List.getElem?_eq_getElem (by omega)]
  exact List.getElem_mem _
theorem rdT_at (B : List S93) (i : Nat) (h1 : i < B.length) : rd_T93 B (i : Int) = B[i] := by
  unfold rd_T93
  rw [Int.toNat_natCast, List.getD_eq_getElem?_getD, List.getElem?_eq_getElem h1]; rfl
theorem nrm_cut {l : List Int} (hw : allW l (-16777216) 16777216 = true) (b : S93) (h : (cutB b l).length ≤ 4) : (nrm (cutB b l) : Int) ≤ 67108864 := by
  have := nrm_le 16777216 (cutB b l) (fun x hx => by have := allW_mem hw (cutB_mem hx); omega)
  have h4 : 16777216 * (cutB b l).length ≤ 16777216 * 4 := Nat.mul_le_mul_left _ h
  omega
theorem mk_wrap (a : Int) (ha : a = 4 ∨ a = 8 ∨ a = 16) : wrap64 (Int.tdiv a 2) = a / 2 := by rw [Int.tdiv_eq_ediv_of_nonneg (by omega), w64 (by omega) (by omega)]
theorem mkPls_len (m : Int) (a : Int) (l : List Int) (ha : a = 4 ∨ a = 8 ∨ a = 16) (hl : (l.length : Int) = a) : ∀ p ∈ (bnds a).map (mkPls m l), p.length ≤ 1048576 := by
  intro p hp
  obtain ⟨b, hb, rfl⟩ := List.mem_map.1 hp
  have := cutB_three a l ha hl b hb
  unfold mkPls
  have e : (srch (cutB b l) (8 - 2 * m) (nrm (cutB b l))).length = (cutB b l).length := by unfold srch; split <;> simp
  omega
theorem isNumber_eq (a : Int) : impl_isNumber.f a = some (decide (0 ≤ a ∧ a ≤ 9999)) := by unfold impl_isNumber.f; rw [inRange_eq]; rfl
theorem isRung_eq (a : Int) : impl_isRung.f a = some (decide (0 ≤ a ∧ a ≤ 47)) := by unfold impl_isRung.f; rw [inRange_eq]; rfl
theorem isSpread_eq (a : Int) : impl_isSpread.f a = some (decide (0 ≤ a ∧ a ≤ 2)) := by unfold impl_isSpread.f; rw [inRange_eq]; rfl
theorem roundDiv_eq (a b : Int) (h0 : -1000000000000000000 ≤ a) (h1 : a ≤ 1000000000000000000) (hb0 : 1 ≤ b) (hb1 : b ≤ 1000000000000000000) (k : Nat) (hk : 2 ≤ k) : impl_roundDiv.f k a b = some (rdv a b) := by
  have pos : ∀ (k : Nat) (a : Int), 0 ≤ a → a ≤ 1000000000000000000 → 1 ≤ k → impl_roundDiv.f k a b = some ((2 * a + b) / (2 * b)) := by
    intro k a ha ha1 hk
    obtain ⟨k, rfl⟩ : ∃ m, k = m + 1 := ⟨k - 1, by omega⟩
    unfold impl_roundDiv.f
    have hq := rdq a b ha hb0
    rw [if_neg (by omega), w64 (n := 2 * b) (by omega) (by omega), if_neg (by omega), w64 (n := 2 * a) (by omega) (by omega), w64 (n := 2 * a + b) (by omega) (by omega), Int.tdiv_eq_ediv_of_nonneg (by omega), w64 (by omega) (by omega)]
  obtain ⟨k, rfl⟩ : ∃ m, k = m + 1 := ⟨k - 1, by omega⟩
  unfold rdv
  by_cases ha : a < 0
  · unfold impl_roundDiv.f
    rw [if_pos ha, w64 (n := -a) (by omega) (by omega), pos k (-a) (by omega) (by omega) (by omega), if_pos ha]
    have hq := rdq (-a) b (by omega) hb0
    simp only [Option.bind_some]
    rw [w64 (by omega) (by omega)]
  · rw [if_neg ha]; exact pos _ a (by omega) h1 (by omega)
theorem stepOf_eq (r : Int) (h0 : 0 ≤ r) (h1 : r ≤ 47) : impl_stepOf.f r = some (stp r) := by
  have key : ∀ n : Nat, n < 48 → impl_stepOf.f (n : Int) = some (stp (n : Int)) := by decide +kernel
  have := key r.toNat (by omega)
  rwa [Int.toNat_of_nonneg h0] at this
theorem gainRung_eq (r m : Int) (h0 : 0 ≤ r ∧ r ≤ 47) (h1 : 0 ≤ m ∧ m ≤ 3) : impl_gainRung.f r m = some (if r + 2 * m ≤ 47 then r + 2 * m else 47) := by
  unfold impl_gainRung.f mn
  simp only [w64 (n := 2 * m) (by omega) (by omega), w64 (n := r + 2 * m) (by omega) (by omega)]
  congr 1; split <;> split <;> omega
theorem isMask_eq (a : Int) : impl_isMask.f a = some (decide (0 ≤ a ∧ a ≤ 3)) := by unfold impl_isMask.f; rw [inRange_eq]; rfl
theorem headFault_eq (n s r m p : Int) (K : Nat) (hK : 10 ≤ K) : impl_headFault.f K n s r m p = some (headR n s r m p) := by
  unfold impl_headFault.f headR
  simp only [isNumber_eq, codeIf_eq, SizeFault_eq, isRung_eq, isMask_eq, isSpread_eq, Option.bind_some, decide_eq_true_eq]
  have f3 : ∀ a b c : Int, impl_first.f K [a, b, c] = some (fst0 [a, b, c]) := fun a b c => first_eq _ (by simp) K (by simp; omega)
  simp only [f3, Option.bind_some, fst0]
  by_cases h1 : 0 ≤ n ∧ n ≤ 9999
  · by_cases h2 : szR s = 0
    · by_cases h3 : 0 ≤ r ∧ r ≤ 47
      · by_cases h4 : 0 ≤ m ∧ m ≤ 3
        · by_cases h5 : 0 ≤ p ∧ p ≤ 2
          · simp [h1, h2, h3, h4, h5]
          · simp [h1, h2, h3, h4, h5]
        · simp [h1, h2, h3, h4]
      · simp [h1, h2, h3]
    · by_cases h3 : 0 ≤ r ∧ r ≤ 47
      · by_cases h4 : 0 ≤ m ∧ m ≤ 3
        · simp [h1, h2, h3, h4]
        · simp [h1, h2, h3, h4]
      · simp [h1, h2, h3]
  · by_cases h3 : 0 ≤ r ∧ r ≤ 47
    · by_cases h4 : 0 ≤ m ∧ m ≤ 3
      · simp [h1, h3, h4]
      · simp [h1, h3, h4]
    · simp [h1, h3]
theorem isIndexOf_eq (a : Int) : impl_isIndexOf.f a = some (decide (-30000 ≤ a ∧ a ≤ 30000)) := by unfold impl_isIndexOf.f; rw [within_eq _ _ (by decide) (by decide)]; rfl
theorem isCoef_eq (a : Int) : impl_isCoef.f a = some (decide (-16777216 ≤ a ∧ a ≤ 16777216)) := by unfold impl_isCoef.f; rw [within_eq _ _ (by decide) (by decide)]; rfl
def restR (q r : Int) : Int × Int := if (0 ≤ r ∧ r ≤ 47) ∧ (-16777216 ≤ q ∧ q ≤ 16777216) ∧ (-16777216 ≤ q * stp r ∧ q * stp r ≤ 16777216) then (0, q * stp r) else (3, 0)
theorem restR_w (q r : Int) (h1 : 0 ≤ r ∧ r ≤ 47) (h2 : -16777216 ≤ q ∧ q ≤ 16777216) : wrap64 (q * stp r) = q * stp r := by
  have hs := stp_pos r h1.1 h1.2
  have b1 : q * stp r ≤ 16777216 * stp r := Int.mul_le_mul_of_nonneg_right h2.2 (by omega)
  have b2 : -16777216 * stp r ≤ q * stp r := Int.mul_le_mul_of_nonneg_right h2.1 (by omega)
  unfold wrap64; omega
theorem Restore_eq (q r : Int) : impl_Restore.f q r = some (restR q r) := by
  unfold impl_Restore.f restR
  simp only [isRung_eq, isCoef_eq, Option.bind_some, decide_eq_true_eq]
  by_cases h1 : 0 ≤ r ∧ r ≤ 47
  · rw [if_pos h1, stepOf_eq r h1.1 h1.2]
    simp only [Option.bind_some]
    by_cases h2 : -16777216 ≤ q ∧ q ≤ 16777216
    · rw [if_pos h2, restR_w q r h1 h2]
      by_cases h3 : -16777216 ≤ q * stp r ∧ q * stp r ≤ 16777216
      · rw [if_pos h3, if_pos ⟨h1, h2, h3⟩]
      · rw [if_neg h3, if_neg (fun h => h3 h.2.2)]
    · rw [if_neg h2, if_neg (fun h => h2 h.2.1)]
  · rw [if_neg h1, if_neg (fun h => h1 h.1)]
theorem frameLows_eq (l : List Int) (r : Int) (hr : 0 ≤ r ∧ r ≤ 47) : impl_FrameFault_1_any.f l r = some (!l.all (lowB r)) := by
  unfold impl_FrameFault_1_any.f
  rw [anyP_eq (frameP r) (fun x => !lowB r x) l (fun x _ => ?_)]
  · rw [show l.any (fun x => !lowB r x) = !l.all (lowB r) by rw [List.any_eq_not_all_not]; simp]
  · unfold frameP lowB
    rw [isIndexOf_eq]; simp only [Option.bind_some, decide_eq_true_eq]
    by_cases h1 : -30000 ≤ x ∧ x ≤ 30000
    · rw [if_pos h1, Restore_eq]
      simp only [Option.bind_some]
      unfold restR
      by_cases h2 : -16777216 ≤ x * stp r ∧ x * stp r ≤ 16777216
      · rw [if_pos ⟨hr, by omega, h2⟩]; simp [h1, h2]
      · rw [if_neg (fun h => h2 h.2.2)]; simp [h1, h2]
    · rw [if_neg h1]; simp [h1]
theorem countFault_eq (s : Int) (hs : s = 4 ∨ s = 8 ∨ s = 16) (l m : List Int) (L : List (List Int)) : impl_countFault.f s l m L = some (cntR s l m L) := by
  unfold impl_countFault.f impl_halfOf.f cntR
  rw [bandsOf_eq]; simp only [Option.bind_some, codeIf_eq]
  rw [Int.tdiv_eq_ediv_of_nonneg (by omega), w64 (n := s / 2) (by omega) (by omega)]
  by_cases h1 : (l.length : Int) = s / 2
  · rw [if_pos (by simpa using h1)]
    by_cases h2 : m.length = (bnds s).length
    · rw [if_pos (by omega)]
      by_cases h3 : L.length = (bnds s).length
      · simp [h1, h2, h3]
      · have : ¬ (L.length : Int) = ((bnds s).length : Int) := by omega
        simp [h1, h2, h3, this]
    · rw [if_neg (by omega)]; simp [h1, h2]
  · rw [if_neg (by simpa using h1)]; simp [h1]
theorem gainsFault_eq (l : List Int) (r m : Int) (hr : 0 ≤ r ∧ r ≤ 47) (hm : 0 ≤ m ∧ m ≤ 3) : impl_gainsFault.f l r m = some (if l.all (gainB (grg r m)) = true then 0 else 3) := by
  unfold impl_gainsFault.f
  have hg := grg_range hr hm
  rw [anyP_eq (gainsP r m) (fun x => !gainB (grg r m) x) l (fun x _ => ?_)]
  · simp only [Option.bind_some, codeIf_eq]
    rw [show l.any (fun x => !gainB (grg r m) x) = !l.all (gainB (grg r m)) by rw [List.any_eq_not_all_not]; simp]
    cases l.all (gainB (grg r m)) <;> rfl
  · unfold gainsP gainB impl_gainRung.f mn
    rw [inRange_eq]; simp only [Option.bind_some, decide_eq_true_eq]
    rw [w64 (n := 2 * m) (by omega) (by omega), w64 (n := r + 2 * m) (by omega) (by omega)]
    have eg : (if 47 < r + 2 * m then 47 else r + 2 * m) = grg r m := by unfold grg; split <;> split <;> omega
    by_cases h1 : 0 ≤ x ∧ x ≤ 65535
    · rw [if_pos h1]
      rw [eg]
      try simp only [Option.bind_some]
      rw [Restore_eq]
      simp only [Option.bind_some]
      unfold restR
      by_cases h2 : -16777216 ≤ x * stp (grg r m) ∧ x * stp (grg r m) ≤ 16777216
      · rw [if_pos ⟨hg, by omega, h2⟩]; simp [h1, h2]
      · rw [if_neg (fun h => h2 h.2.2)]; simp [h1, h2]
    · rw [if_neg h1]; simp [h1]
theorem bandFault_eq (f d m : Int) (p : List Int) (hm : 0 ≤ m ∧ m ≤ 3) (hp : p.length ≤ 1048576) (K : Nat) (hK : 1048600 ≤ K) : impl_bandFault.f K f d p m = some (bandR d m p) := by
  unfold impl_bandFault.f impl_pulsesFor.f bandR
  simp only [codeIf_eq, Option.bind_some]
  rw [w64 (n := 2 * m) (by omega) (by omega), w64 (n := 8 - 2 * m) (by omega) (by omega), PulsesFault_eq p _ (by omega) K (by omega)]
  simp only [Option.bind_some]
  rw [first_eq _ (by simp) K (by simp; omega)]
  by_cases h1 : (p.length : Int) = d
  · by_cases h2 : pfR p (8 - 2 * m) = 0
    · simp [h1, h2, fst0]
    · simp [h1, h2, fst0]
  · simp [h1, fst0]
theorem FrameFault_eq (n s r m p : Int) (l g : List Int) (L : List (List Int)) (hLL : ∀ p ∈ L, p.length ≤ 1048576) (K : Nat) (hK : 1048700 ≤ K) : impl_FrameFault.f K n s r m p l g L = some (ffR n s r m p l g L) := by
  unfold impl_FrameFault.f ffR
  rw [headFault_eq n s r m p K (by omega)]; simp only [Option.bind_some]
  by_cases h0 : headR n s r m p = 0
  · obtain ⟨_, hs, hr, hm, _⟩ := headR_0 h0
    rw [if_pos h0, if_neg (show ¬ headR n s r m p ≠ 0 from fun h => h h0), frameLows_eq l r hr, countFault_eq s hs l g L]
    simp only [Option.bind_some, codeIf_eq]
    rw [gainsFault_eq g r m hr hm]; simp only [Option.bind_some]
    rw [first_eq _ (by simp) K (by simp; omega)]; simp only [Option.bind_some, fst0]
    by_cases h1 : cntR s l g L = 0
    · have hLn : L.length = (bnds s).length := by
        unfold cntR at h1
        by_cases c : (l.length : Int) = s / 2 ∧ g.length = (bnds s).length ∧ L.length = (bnds s).length
        · exact c.2.2
        · rw [if_neg c] at h1; simp at h1
      rw [if_neg (show ¬ cntR s l g L ≠ 0 from fun h => h h1)]
      simp only [h1, if_true]
      by_cases h2 : l.all (lowB r) = true
      · rw [if_pos h2]
        simp only [h2, Bool.not_true, Bool.false_eq_true, if_false, if_true]
        by_cases h3 : g.all (gainB (grg r m)) = true
        · rw [if_pos h3, if_pos h3]
          simp only [if_true]
          rw [bandsOf_eq]; simp only [Option.bind_some]
          have step : ∀ (B : List S93) (i : Int) (K : Nat), 1048650 ≤ K → 0 ≤ i → i < B.length → i < L.length → i ≤ 1000 → impl_FrameFault.l0 (K + 1) B (B.length : Int) i n s r m p l g L = if bandR (rd_T93 B i).f1 m (rd_L1 L i) = 0 then impl_FrameFault.l0 K B (B.length : Int) (i + 1) n s r m p l g L else some (bandR (rd_T93 B i).f1 m (rd_L1 L i)) := by
            intro B i K hK i0 i1 i2 i3
            have hmem : (rd_L1 L i).length ≤ 1048576 := by
              apply hLL
              unfold rd_L1
              rw [List.getD_eq_getElem?_getD, List.getElem?_eq_getElem (show i.toNat < L.length by omega)]
              exact List.getElem_mem _
            rw [impl_FrameFault.l0, if_pos i1, if_pos i0, if_pos i1, if_pos i2, bandFault_eq _ _ m _ hm hmem K (by omega)]
            simp only [Option.bind_some]
            rw [w64 (n := i + 1) (by omega) (by omega)]
          have done : ∀ (B : List S93) (i : Int) (K : Nat), ¬ i < B.length → impl_FrameFault.l0 (K + 1) B (B.length : Int) i n s r m p l g L = some 0 := by
            intro B i K hi
            rw [impl_FrameFault.l0, if_neg hi]
          obtain ⟨K, rfl⟩ : ∃ z, K = z + 3 := ⟨K - 3, by omega⟩
          rcases bnds_two s L hLn with ⟨b, q, e1, rfl⟩ | ⟨b, c, q, q2, e1, rfl⟩
          · rw [e1, step [b] 0 (K + 2) (by omega) (by omega) (by simp) (by simp) (by omega), done [b] (0 + 1) (K + 1) (by simp)]
            simp only [bandsR]
            show (if bandR b.f1 m q = 0 then some 0 else some (bandR b.f1 m q)) = _
            split <;> rfl
          · rw [e1, step [b, c] 0 (K + 2) (by omega) (by omega) (by simp) (by simp) (by omega), step [b, c] (0 + 1) (K + 1) (by omega) (by omega) (by simp) (by simp) (by omega), done [b, c] (0 + 1 + 1) K (by simp)]
            simp only [bandsR]
            show (if bandR b.f1 m q = 0 then (if bandR c.f1 m q2 = 0 then some 0 else some (bandR c.f1 m q2)) else some (bandR b.f1 m q)) = _
            split
            · split <;> rfl
            · rfl
        · simp [h3]
      · simp [h2]
    · have h2 : cntR s l g L = 2 := by unfold cntR at h1 ⊢; split at h1 <;> simp_all
      simp [h2]
  · rw [if_neg h0, if_pos h0]
theorem MF_l0 (a n r m p : Int) (l : List Int) (hr : 0 ≤ r ∧ r ≤ 47) (hw : allW l (-16777216) 16777216 = true) (h : Nat) (hh : h ≤ l.length) (hl : l.length ≤ 100) (K0 : Nat) (R : Option FR)
    (hend : ∀ K, K0 ≤ K → impl_MakeFrame.l1 K l r (bnds a) ((bnds a).length : Int) 0 n a r m p ((l.take h).map fun c => rdv c (stp r)) [] [] = R) :
    ∀ (d i K : Nat), i + d = h → K0 + d + 50 < K → impl_MakeFrame.l0 K a l r (l.take h) ((l.take h).length : Int) (i : Int) n a r m p ((l.take i).map fun c => rdv c (stp r)) = R := by
  have hlen : (l.take h).length = h := by rw [List.length_take]; omega
  have hs := stp_pos r hr.1 hr.2
  intro d
  induction d with
  | zero =>
    intro i K hi hK
    obtain ⟨K, rfl⟩ : ∃ z, K = z + 1 := ⟨K - 1, by omega⟩
    obtain rfl : i = h := by omega
    rw [impl_MakeFrame.l0, hlen, if_neg (by omega), bandsOf_eq]; simp only [Option.bind_some]
    exact hend K (by omega)
  | succ d ih =>
    intro i K hi hK
    obtain ⟨K, rfl⟩ : ∃ z, K = z + 1 := ⟨K - 1, by omega⟩
    have hil : i < l.length := by omega
    have hm : l[i] ∈ l := List.getElem_mem _
    have hb := allW_mem hw hm
    have er : rd (l.take h) (i : Int) = l[i] := by
      unfold rd; rw [Int.toNat_natCast, List.getD_eq_getElem?_getD, List.getElem?_eq_getElem (by omega)]; simp
    have go := ih (i + 1) K (by omega) (by omega)
    rw [hlen] at go
    rw [impl_MakeFrame.l0, hlen, if_pos (by omega), if_pos (by omega), if_pos (by omega), stepOf_eq r hr.1 hr.2]; simp only [Option.bind_some]
    rw [er, roundDiv_eq _ _ (by omega) (by omega) hs.1 (by omega) K (by omega)]; simp only [Option.bind_some]
    rw [if_pos (by rw [List.length_map, List.length_take]; omega), w64 (n := (i : Int) + 1) (by omega) (by omega)]
    rw [List.take_succ_eq_append_getElem hil, List.map_append] at go
    exact go
theorem MF_l1 (a n r m p : Int) (l lo : List Int) (ha : a = 4 ∨ a = 8 ∨ a = 16) (hl : (l.length : Int) = a) (hr : 0 ≤ r ∧ r ≤ 47) (hm : 0 ≤ m ∧ m ≤ 3) (hw : allW l (-16777216) 16777216 = true) :
    ∀ (d i K : Nat), i + d = (bnds a).length → 1049000 + d < K → impl_MakeFrame.l1 K l r (bnds a) ((bnds a).length : Int) (i : Int) n a r m p lo (((bnds a).take i).map (mkGain r m l)) (((bnds a).take i).map (mkPls m l)) = some (mkEnd n a r m p lo ((bnds a).map (mkGain r m l)) ((bnds a).map (mkPls m l))) := by
  have hB : (bnds a).length ≤ 2 := by rcases bnds_cases a with ⟨_, e⟩ | ⟨_, e⟩ | ⟨_, _, e⟩ <;> rw [e] <;> simp
  have hg := grg_range hr hm
  have hs := stp_pos (grg r m) hg.1 hg.2
  have hgr : impl_gainRung.f r m = some (grg r m) := gainRung_eq r m hr hm
  intro d
  induction d with
  | zero =>
    intro i K hi hK
    obtain ⟨K, rfl⟩ : ∃ z, K = z + 1 := ⟨K - 1, by omega⟩
    rw [impl_MakeFrame.l1, if_neg (by omega), List.take_of_length_le (by omega), FrameFault_eq n a r m p lo _ _ (mkPls_len m a l ha hl) K (by omega)]; simp only [Option.bind_some]
    unfold mkEnd frErr
    split <;> rfl
  | succ d ih =>
    intro i K hi hK
    obtain ⟨K, rfl⟩ : ∃ z, K = z + 1 := ⟨K - 1, by omega⟩
    have hil : i < (bnds a).length := by omega
    obtain ⟨b, hb⟩ : ∃ b, (bnds a)[i] = b := ⟨_, rfl⟩
    have hbm : b ∈ bnds a := by rw [← hb]; exact List.getElem_mem _
    have h3 := cutB_three a l ha hl b hbm
    have hcw : ∀ x ∈ cutB b l, -16777216 ≤ x ∧ x ≤ 16777216 := fun x hx => allW_mem hw (cutB_mem hx)
    have hnc := nrm_cut hw b h3.2.1
    have hn := normOf_eq (cutB b l) (by omega) (fun x hx => by have := hcw x hx; omega) K (by omega)
    have hsp := searchPulses_eq (cutB b l) (8 - 2 * m) (by omega) (by omega) hcw
    have go := ih (i + 1) K (by omega) (by omega)
    rw [impl_MakeFrame.l1, if_pos (by omega), if_pos (by omega), if_pos (by omega), rdT_at _ _ hil, hb, w64 (n := b.f0 + b.f1) (by omega) (by omega), if_pos (by omega), if_pos (by omega), if_pos (by omega)]
    unfold impl_Band_of_any.f impl_pulsesFor.f
    simp only [Option.bind_some]
    have ec : (l.take (b.f0 + b.f1).toNat).drop b.f0.toNat = cutB b l := rfl
    rw [ec, hn]; simp only [Option.bind_some]
    rw [hgr]; simp only [Option.bind_some]
    rw [stepOf_eq _ hg.1 hg.2]; simp only [Option.bind_some]
    rw [roundDiv_eq _ _ (by omega) (by omega) hs.1 (by omega) K (by omega)]; simp only [Option.bind_some]
    rw [if_pos (by rw [List.length_map, List.length_take]; omega), w64 (n := 2 * m) (by omega) (by omega), w64 (n := 8 - 2 * m) (by omega) (by omega), hsp]; simp only [Option.bind_some]
    rw [if_pos (by rw [List.length_map, List.length_take]; omega), w64 (n := (i : Int) + 1) (by omega) (by omega)]
    rw [List.take_succ_eq_append_getElem hil, hb, List.map_append, List.map_append] at go
    exact go
theorem MakeFrame_j0 (a n : Int) (l : List Int) (r p : Int) (K : Nat) (hK : 1050000 ≤ K) (h : cfR a l = 0) (hr : 0 ≤ r ∧ r ≤ 47) : impl_MakeFrame.j0 K a n l r p 0 = some (mkEnd n a r (mskL l) p (mkLows a l r) ((bnds a).map (mkGain r (mskL l) l)) ((bnds a).map (mkPls (mskL l) l))) := by
  obtain ⟨K, rfl⟩ : ∃ z, K = z + 1 := ⟨K - 1, by omega⟩
  obtain ⟨ha, hlen, hw⟩ := cfR_0 h
  have hB : (bnds a).length ≤ 2 := by rcases bnds_cases a with ⟨_, e⟩ | ⟨_, e⟩ | ⟨_, _, e⟩ <;> rw [e] <;> simp
  have hm : 0 ≤ mskL l ∧ mskL l ≤ 3 := mskv_range _ _
  rw [impl_MakeFrame.j0, if_pos rfl, maskOf_eq l (by omega) hw K (by omega)]; simp only [Option.bind_some]
  rw [mk_wrap a ha, if_pos (by omega), if_pos (by omega)]
  have := MF_l0 a n r (mskL l) p l hr hw (a / 2).toNat (by omega) (by omega) 1049010 _ (fun K hK => by
    have := MF_l1 a n r (mskL l) p l (mkLows a l r) ha hlen hr hm hw (bnds a).length 0 K (by omega) (by omega)
    rw [List.take_zero, List.map_nil, List.map_nil] at this
    exact this) (a / 2).toNat 0 K (by omega) (by omega)
  rw [List.take_zero, List.map_nil] at this
  exact this
theorem MakeFrame_err (a n : Int) (l : List Int) (r p c : Int) (hc : c ≠ 0) (K : Nat) (hK : 1 ≤ K) : impl_MakeFrame.j0 K a n l r p c = some (frErr c) := by
  obtain ⟨K, rfl⟩ : ∃ z, K = z + 1 := ⟨K - 1, by omega⟩
  rw [impl_MakeFrame.j0, if_neg hc]; rfl
theorem MakeFrame_eq (a n : Int) (l : List Int) (r p : Int) (K : Nat) (hK : 1050000 ≤ K) : impl_MakeFrame.f K a n l r p = some (mkR a n l r p) := by
  unfold impl_MakeFrame.f mkR
  simp only [isNumber_eq, codeIf_eq, isRung_eq, isSpread_eq, coefsFault_eq a l K (by omega), Option.bind_some, decide_eq_true_eq]
  by_cases hn : 0 ≤ n ∧ n ≤ 9999
  · by_cases hc : cfR a l = 0
    · by_cases hr : 0 ≤ r ∧ r ≤ 47
      · by_cases hp : 0 ≤ p ∧ p ≤ 2
        · rw [if_pos hr, first_eq _ (by simp) K (by simp; omega)]; simp only [Option.bind_some]
          have := MakeFrame_j0 a n l r p K hK hc hr
          simpa [hn, hc, hr, hp, fst0] using this
        · rw [if_pos hr, first_eq _ (by simp) K (by simp; omega)]; simp only [Option.bind_some]
          have := MakeFrame_err a n l r p 3 (by omega) K (by omega)
          simpa [hn, hc, hr, hp, fst0] using this
      · rw [if_neg hr, first_eq _ (by simp) K (by simp; omega)]; simp only [Option.bind_some]
        have := MakeFrame_err a n l r p 3 (by omega) K (by omega)
        simpa [hn, hc, hr, fst0] using this
    · have := MakeFrame_err a n l r p (cfR a l) hc K (by omega)
      by_cases hr : 0 ≤ r ∧ r ≤ 47
      · rw [if_pos hr, first_eq _ (by simp) K (by simp; omega)]; simp only [Option.bind_some]
        simpa [hn, hc, fst0] using this
      · rw [if_neg hr, first_eq _ (by simp) K (by simp; omega)]; simp only [Option.bind_some]
        simpa [hn, hc, fst0] using this
  · have := MakeFrame_err a n l r p 3 (by omega) K (by omega)
    by_cases hr : 0 ≤ r ∧ r ≤ 47
    · rw [if_pos hr, first_eq _ (by simp) K (by simp; omega)]; simp only [Option.bind_some]
      simpa [hn, fst0] using this
    · rw [if_neg hr, first_eq _ (by simp) K (by simp; omega)]; simp only [Option.bind_some]
      simpa [hn, fst0] using this
theorem specSizeFault_eq (a : Int) : spec_SizeFault.f a = some (szR a) := by
  unfold spec_SizeFault.f szR
  by_cases h1 : a = 4
  · simp [h1]
  · by_cases h2 : a = 8
    · simp [h2]
    · by_cases h3 : a = 16
      · simp [h3]
      · simp [h1, h2, h3]
theorem l1In_eq (a b c : Int) : spec_l1In.f a b c = some (decide (b ≤ a ∧ a ≤ c)) := by
  unfold spec_l1In.f
  by_cases h : a ≥ b
  · rw [if_pos h]; congr 1; have : b ≤ a := h; simp [this]
  · rw [if_neg h]; have : ¬ b ≤ a := h; simp [this]
theorem l1All_l0 (a b : Int) : ∀ (rest pre : List Int) (i : Int) (k : Nat), (pre.length : Int) = i → rest.length < k → pre.length + rest.length ≤ 1000000000 → spec_l1All.l0 k (pre ++ rest) a b i = some (allW rest a b) := by
  intro rest
  induction rest with
  | nil =>
    intro pre i k hi hk hl
    obtain ⟨k, rfl⟩ : ∃ m, k = m + 1 := ⟨k - 1, by omega⟩
    simp only [spec_l1All.l0]
    rw [if_neg (by simp; omega)]; rfl
  | cons x rest ih =>
    intro pre i k hi hk hl
    obtain ⟨k, rfl⟩ : ∃ m, k = m + 1 := ⟨k - 1, by omega⟩
    simp only [List.length_cons] at hk hl
    simp only [spec_l1All.l0]
    rw [if_pos (by simp; omega), if_pos (by omega), rd_append_right pre (x :: rest) i hi.symm x rest rfl, l1In_eq, w64 (n := i + 1) (by omega) (by omega)]
    have e : pre ++ x :: rest = (pre ++ [x]) ++ rest := by simp
    rw [e, ih (pre ++ [x]) (i + 1) k (by simp; omega) (by omega) (by simp; omega), allW_cons]
    by_cases c : a ≤ x ∧ x ≤ b <;> simp [c]
theorem l1All_eq (l : List Int) (a b : Int) (k : Nat) (hk : l.length < k) (hl : l.length ≤ 1000000000) : spec_l1All.f k l a b = some (allW l a b) := by
  unfold spec_l1All.f; have := l1All_l0 a b l [] 0 k rfl hk (by simpa using hl); simpa using this
theorem l13Coefs_eq (a : Int) (l : List Int) (k : Nat) (hk : l.length + 2 < k) (hl : l.length ≤ 1000000000) : spec_l13Coefs.f k a l = some (cfR a l) := by
  unfold spec_l13Coefs.f spec_l6Ask.f cfR
  rw [specSizeFault_eq]
  simp only [Option.bind_some]
  by_cases h1 : szR a = 0
  · rw [if_pos h1, if_neg (show ¬ szR a ≠ 0 by simp [h1])]
    by_cases h2 : (l.length : Int) = a
    · rw [if_pos h2, if_neg (show ¬ (l.length : Int) ≠ a by simp [h2])]
      simp only [specSizeFault_eq, Option.bind_some]
      rw [if_pos (show szR (l.length : Int) = 0 by rw [h2]; exact h1), w64 (n := -16777216) (by omega) (by omega), l1All_eq l _ _ k (by omega) hl]
      simp only [Option.bind_some]
      by_cases h3 : allW l (-16777216) 16777216 = true
      · simp [h3]
      · simp [h3]
    · rw [if_neg h2, if_pos h2]
  · rw [if_neg h1, if_pos h1]
theorem l14Number_eq (a : Int) : spec_l14Number.f a = some (decide (0 ≤ a ∧ a ≤ 9999)) := by unfold spec_l14Number.f; rw [l1In_eq]; rfl
theorem l9Rung_eq (a : Int) : spec_l9Rung.f a = some (decide (0 ≤ a ∧ a ≤ 47)) := by unfold spec_l9Rung.f; rw [l1In_eq]; rfl
theorem l10Spread_eq (a : Int) : spec_l10Spread.f a = some (decide (0 ≤ a ∧ a ≤ 2)) := by unfold spec_l10Spread.f; rw [l1In_eq]; rfl
theorem l1Abs_eq (x : Int) (h0 : -9223372036854775807 ≤ x) (h1 : x ≤ 9223372036854775807) : spec_l1Abs.f x = some (x.natAbs : Int) := by
  unfold spec_l1Abs.f
  by_cases h : x < 0
  · rw [if_pos h, w64 (by omega) (by omega)]; congr 1; omega
  · rw [if_neg h]; congr 1; omega
theorem l1Norm_l0 (l : List Int) (hl : l.length ≤ 2000000) (hb : ∀ x ∈ l, x.natAbs ≤ 1099511627776) : ∀ (rest pre : List Int) (i s : Int) (k : Nat), l = pre ++ rest → (pre.length : Int) = i → rest.length < k → s = (nrm pre : Int) → spec_l1Norm.l0 k l s i = some (nrm l : Int) := by
  intro rest
  induction rest with
  | nil =>
    intro pre i s k h1 hi hk hs
    obtain ⟨k, rfl⟩ : ∃ m, k = m + 1 := ⟨k - 1, by omega⟩
    simp only [spec_l1Norm.l0]
    rw [if_neg (by rw [h1]; simp; omega), hs, h1]; simp
  | cons x rest ih =>
    intro pre i s k h1 hi hk hs
    obtain ⟨k, rfl⟩ : ∃ m, k = m + 1 := ⟨k - 1, by omega⟩
    simp only [List.length_cons] at hk
    have hlen : l.length = pre.length + (rest.length + 1) := by rw [h1]; simp
    have hx := hb x (by rw [h1]; simp)
    have hp := nrm_le 1099511627776 pre (fun y hy => hb y (by rw [h1]; simp [hy]))
    have hp2 : 1099511627776 * pre.length ≤ 1099511627776 * 2000000 := Nat.mul_le_mul_left _ (by omega)
    simp only [spec_l1Norm.l0]
    have hr : rd l i = x := by rw [h1]; exact rd_append_right pre (x :: rest) i hi.symm x rest rfl
    rw [if_pos (by omega), if_pos (by omega), hr, l1Abs_eq x (by omega) (by omega)]
    simp only [Option.bind_some]
    rw [w64 (n := s + _) (by omega) (by omega), w64 (n := i + 1) (by omega) (by omega)]
    exact ih (pre ++ [x]) (i + 1) _ k (by rw [h1]; simp) (by simp; omega) (by omega) (by rw [nrm_append]; simp only [nrm]; omega)
theorem l1Norm_eq (l : List Int) (hl : l.length ≤ 2000000) (hb : ∀ x ∈ l, x.natAbs ≤ 1099511627776) (k : Nat) (hk : l.length < k) : spec_l1Norm.f k l = some (nrm l : Int) := by
  unfold spec_l1Norm.f; exact l1Norm_l0 l hl hb l [] 0 0 k rfl rfl hk rfl
theorem l13Mask_l0 (L H : Nat) (hL : L ≤ 1000000000000) (hH : H ≤ 1000000000000) (k : Nat) (hk : 6 ≤ k) : spec_l13Mask.l0 k (L : Int) (H : Int) 0 4 = some (mskv L H) := by
  obtain ⟨k, rfl⟩ : ∃ m, k = m + 4 := ⟨k - 4, by omega⟩
  have e1 : wrap64 (4 * (H : Int)) = 4 * H := w64 (by omega) (by omega)
  have e2 : wrap64 (16 * (H : Int)) = 16 * H := w64 (by omega) (by omega)
  have e3 : wrap64 (64 * (H : Int)) = 64 * H := w64 (by omega) (by omega)
  have n1 : wrap64 (0 + 1) = 1 := w64 (by omega) (by omega)
  have n2 : wrap64 (1 + 1) = 2 := w64 (by omega) (by omega)
  have n3 : wrap64 (2 + 1) = 3 := w64 (by omega) (by omega)
  have m1 : wrap64 (4 * 4) = 16 := w64 (by omega) (by omega)
  have m2 : wrap64 (16 * 4) = 64 := w64 (by omega) (by omega)
  have m3 : wrap64 (64 * 4) = 256 := w64 (by omega) (by omega)
  unfold mskv
  simp only [spec_l13Mask.l0, e1, n1, m1, e2, n2, m2, e3, n3, m3]
  by_cases c1 : L ≤ 4 * H
  · rw [if_pos (by omega), if_neg (by omega), if_pos c1]
  · rw [if_pos (by omega), if_pos (by omega), if_neg c1]
    by_cases c2 : L ≤ 16 * H
    · rw [if_pos (by omega), if_neg (by omega), if_pos c2]
    · rw [if_pos (by omega), if_pos (by omega), if_neg c2]
      by_cases c3 : L ≤ 64 * H
      · rw [if_pos (by omega), if_neg (by omega), if_pos c3]
      · rw [if_pos (by omega), if_pos (by omega), if_neg c3, if_neg (by omega)]
theorem l13Mask_eq (a : Int) (l : List Int) (hl : l.length ≤ 64) (ha : (l.length : Int) = a) (hw : allW l (-16777216) 16777216 = true) (k : Nat) (hk : 80 ≤ k) : spec_l13Mask.f k a l = some (mskL l) := by
  unfold spec_l13Mask.f
  have hb := coef_nat hw
  have e : wrap64 (Int.tdiv a 2) = (l.length : Int) / 2 := by rw [← ha, Int.tdiv_eq_ediv_of_nonneg (by omega), w64 (by omega) (by omega)]
  have et : ((l.length : Int) / 2).toNat = l.length / 2 := by omega
  rw [e, if_pos (by omega), if_pos (by omega), et]
  have b1 : ∀ x ∈ l.take (l.length / 2), x.natAbs ≤ 16777216 := fun x hx => hb x (List.mem_of_mem_take hx)
  have b2 : ∀ x ∈ l.drop (l.length / 2), x.natAbs ≤ 16777216 := fun x hx => hb x (List.mem_of_mem_drop hx)
  have l1 : (l.take (l.length / 2)).length ≤ 64 := by rw [List.length_take]; omega
  have l2 : (l.drop (l.length / 2)).length ≤ 64 := by rw [List.length_drop]; omega
  have n1 := nrm_le 16777216 _ b1
  have n2 := nrm_le 16777216 _ b2
  have m1 : 16777216 * (l.take (l.length / 2)).length ≤ 16777216 * 64 := Nat.mul_le_mul_left _ l1
  have m2 : 16777216 * (l.drop (l.length / 2)).length ≤ 16777216 * 64 := Nat.mul_le_mul_left _ l2
  rw [l1Norm_eq _ (by omega) (fun x hx => by have := b1 x hx; omega) k (by omega)]
  simp only [Option.bind_some]
  rw [l1Norm_eq _ (by omega) (fun x hx => by have := b2 x hx; omega) k (by omega)]
  simp only [Option.bind_some]
  rw [l13Mask_l0 _ _ (by omega) (by omega) k (by omega)]; rfl
theorem l13Rung2_eq (r m : Int) (hr : 0 ≤ r ∧ r ≤ 47) (hm : 0 ≤ m ∧ m ≤ 3) : spec_l13Rung.f r m = some (grg r m) := by
  unfold spec_l13Rung.f spec_l1Min.f grg
  rw [w64 (n := 2 * m) (by omega) (by omega), w64 (n := r + 2 * m) (by omega) (by omega)]
  by_cases h : r + 2 * m ≤ 47
  · rw [if_pos h]
    split
    · simp only [Option.bind_some]; congr 1; omega
    · rfl
  · rw [if_neg h]
    split
    · rfl
    · simp only [Option.bind_some]; congr 1; omega
theorem l9Step_eq (r : Int) (h0 : 0 ≤ r) (h1 : r ≤ 47) (k : Nat) (hk : 30 ≤ k) : spec_l9Step.f k r = some (stp r) := by
  have key : ∀ n : Nat, n < 48 → spec_l9Step.f 30 (n : Int) = some (stp (n : Int)) := by decide +kernel
  have := key r.toNat (by omega)
  rw [Int.toNat_of_nonneg h0] at this
  exact at_rounds (g := fun k => spec_l9Step.f k r) (spec_l9Step.mono r) hk this

theorem l1Round_eq (a b : Int) (h0 : -1000000000000000000 ≤ a) (h1 : a ≤ 1000000000000000000) (hb0 : 1 ≤ b) (hb1 : b ≤ 1000000000000000000) (k : Nat) (hk : 2 ≤ k) : spec_l1Round.f k a b = some (rdv a b) := by
  have pos : ∀ (k : Nat) (a : Int), 0 ≤ a → a ≤ 1000000000000000000 → 1 ≤ k → spec_l1Round.f k a b = some ((2 * a + b) / (2 * b)) := by
    intro k a ha ha1 hk
    obtain ⟨k, rfl⟩ : ∃ m, k = m + 1 := ⟨k - 1, by omega⟩
    unfold spec_l1Round.f
    have hq := rdq a b ha hb0
    rw [if_neg (by omega), w64 (n := 2 * b) (by omega) (by omega), if_neg (by omega), w64 (n := 2 * a) (by omega) (by omega), w64 (n := 2 * a + b) (by omega) (by omega), Int.tdiv_eq_ediv_of_nonneg (by omega), w64 (by omega) (by omega)]
  obtain ⟨k, rfl⟩ : ∃ m, k = m + 1 := ⟨k - 1, by omega⟩
  unfold rdv
  by_cases ha : a < 0
  · unfold spec_l1Round.f
    rw [if_pos ha, w64 (n := -a) (by omega) (by omega), pos k (-a) (by omega) (by omega) (by omega), if_pos ha]
    have hq := rdq (-a) b (by omega) hb0
    simp only [Option.bind_some]
    rw [w64 (by omega) (by omega)]
  · rw [if_neg ha]; exact pos _ a (by omega) h1 (by omega)
theorem l13Bands_eq (s : Int) : spec_l13Bands.f s = some (bnds s) := by unfold spec_l13Bands.f bnds; split <;> (try rfl); split <;> rfl
theorem l13Norms_eq (a : Int) (l : List Int) (ha : a = 4 ∨ a = 8 ∨ a = 16) (hlen : (l.length : Int) = a) (hw : allW l (-16777216) 16777216 = true) (K : Nat) (hK : 200 ≤ K) : spec_l13Norms.f K a l = some ((bnds a).map fun b => (nrm (cutB b l) : Int)) := by
  unfold spec_l13Norms.f
  rw [l13Bands_eq]; simp only [Option.bind_some]
  have step : ∀ (B : List S93) (i : Int) (out : List Int) (K : Nat), 100 ≤ K → 0 ≤ i → i < B.length → i ≤ 1000 → out.length ≤ 100 → 0 ≤ (rd_T93 B i).f0 → 0 ≤ (rd_T93 B i).f1 → (rd_T93 B i).f0 + (rd_T93 B i).f1 ≤ l.length → spec_l13Norms.l0 (K + 1) l out B i = spec_l13Norms.l0 K l (out ++ [(nrm (cutB (rd_T93 B i) l) : Int)]) B (i + 1) := by
    intro B i out K hK i0 i1 i2 ho f0 f1 f2
    have hcl := cutB_len (rd_T93 B i) l
    rw [spec_l13Norms.l0, if_pos i1, if_pos i0, w64 (n := (rd_T93 B i).f0 + (rd_T93 B i).f1) (by omega) (by omega), if_pos f0, if_pos (by omega), if_pos f2]
    unfold spec_l13Of_any.f
    simp only [Option.bind_some]
    have hn := l1Norm_eq (cutB (rd_T93 B i) l) (by omega) (fun x hx => by have := allW_mem hw (cutB_mem hx); omega) K (by omega)
    unfold cutB at hn
    rw [hn]; simp only [Option.bind_some]
    rw [if_pos (by omega), w64 (n := i + 1) (by omega) (by omega)]
    rfl
  have done : ∀ (B : List S93) (i : Int) (out : List Int) (K : Nat), ¬ i < B.length → spec_l13Norms.l0 (K + 1) l out B i = some out := by
    intro B i out K hi
    rw [spec_l13Norms.l0, if_neg hi]
  obtain ⟨K, rfl⟩ : ∃ z, K = z + 3 := ⟨K - 3, by omega⟩
  rcases bnds_cases a with ⟨e, e1⟩ | ⟨e, e1⟩ | ⟨e, e', e1⟩
  · rw [e1, step [⟨2, 2⟩] 0 [] (K + 2) (by omega) (by omega) (by simp) (by omega) (by simp) (by decide) (by decide) (by show (4 : Int) ≤ _; omega), done [⟨2, 2⟩] (0 + 1) _ (K + 1) (by simp)]
    rfl
  · rw [e1, step [⟨4, 2⟩, ⟨6, 2⟩] 0 [] (K + 2) (by omega) (by omega) (by simp) (by omega) (by simp) (by decide) (by decide) (by show (6 : Int) ≤ _; omega), step [⟨4, 2⟩, ⟨6, 2⟩] (0 + 1) _ (K + 1) (by omega) (by omega) (by simp) (by omega) (by simp) (by decide) (by decide) (by show (8 : Int) ≤ _; omega), done [⟨4, 2⟩, ⟨6, 2⟩] (0 + 1 + 1) _ K (by simp)]
    rfl
  · have h16 : a = 16 := by omega
    rw [e1, step [⟨8, 4⟩, ⟨12, 4⟩] 0 [] (K + 2) (by omega) (by omega) (by simp) (by omega) (by simp) (by decide) (by decide) (by show (12 : Int) ≤ _; omega), step [⟨8, 4⟩, ⟨12, 4⟩] (0 + 1) _ (K + 1) (by omega) (by omega) (by simp) (by omega) (by simp) (by decide) (by decide) (by show (16 : Int) ≤ _; omega), done [⟨8, 4⟩, ⟨12, 4⟩] (0 + 1 + 1) _ K (by simp)]
    rfl
/-- The best so far of those that are not in D. -/
def Bst (r : Nat → Int) (D : List Nat) (i : Nat) (b : Int) : Prop := (b = -1 ∧ ∀ j, j < i → j ∈ D) ∨ ∃ p : Nat, b = p ∧ p < i ∧ p ∉ D ∧ ∀ j, j < i → j ∉ D → j ≠ p → prc r p j
/-- Which ones are done. -/
def dns (n : Nat) (D : List Nat) : List Bool := (List.range n).map fun i => decide (i ∈ D)
theorem dns_rd (n : Nat) (D : List Nat) (i : Nat) (h : i < n) : rdOf false (dns n D) (i : Int) = decide (i ∈ D) := by
  unfold rdOf dns; rw [Int.toNat_natCast, List.getD_eq_getElem?_getD]; simp [h]
theorem dns_set (n : Nat) (D : List Nat) (i : Nat) : (dns n D).set i true = dns n (D ++ [i]) := by
  unfold dns
  apply List.ext_getElem?
  intro j
  rw [List.getElem?_set]
  by_cases hj : j < n
  · by_cases e : i = j
    · subst e; simp [hj]
    · rw [if_neg e]; simp [hj, Ne.symm e]
  · have hno : ∀ f : Nat → Bool, ((List.range n).map f)[j]? = none := fun f => List.getElem?_eq_none (by simpa using hj)
    rw [hno, hno]
    split
    · split
      · rename_i h; simp at h; omega
      · rfl
    · rfl
theorem Bst.end_ {r : Nat → Int} {n t : Nat} {b : Int} (h : Bst r ((srtd r n).take t) n b) (ht : t < n) : ∃ p : Nat, b = p ∧ p < n ∧ p ∉ (srtd r n).take t ∧ (srtd r n).take (t + 1) = (srtd r n).take t ++ [p] := by
  have hP := srtd_perm r n
  have hS := srtd_srt r n
  have hlen : (srtd r n).length = n := by have := hP.length_eq; simpa using this
  have htl : t < (srtd r n).length := by omega
  obtain ⟨q, hq⟩ : ∃ q, (srtd r n)[t] = q := ⟨_, rfl⟩
  have htk : (srtd r n).take (t + 1) = (srtd r n).take t ++ [q] := by rw [List.take_succ_eq_append_getElem htl, hq]
  have hqn : q < n := by
    have : q ∈ List.range n := hP.subset (by rw [← hq]; exact List.getElem_mem _)
    simpa using this
  have hqt : q ∉ (srtd r n).take t := by
    intro hm
    obtain ⟨u, hu, hue⟩ := List.mem_iff_getElem.1 hm
    rw [List.length_take] at hu
    rw [List.getElem_take] at hue
    have := List.pairwise_iff_getElem.1 hS u t (by omega) htl (by omega)
    rw [hue, hq] at this
    exact prc_irr this
  rcases h with ⟨_, h⟩ | ⟨p, rfl, hp, hpD, h⟩
  · exact absurd (h q hqn) hqt
  · by_cases e : q = p
    · subst e; exact ⟨q, rfl, hp, hpD, htk⟩
    · have h1 := h q hqn hqt e
      have hpm : p ∈ srtd r n := hP.symm.subset (by simpa using hp)
      obtain ⟨u, hu, hue⟩ := List.mem_iff_getElem.1 hpm
      have hut : t < u := by
        rcases Nat.lt_trichotomy u t with h2 | h2 | h2
        · exact absurd (List.mem_iff_getElem.2 ⟨u, by rw [List.length_take]; omega, by rw [List.getElem_take]; exact hue⟩) hpD
        · subst h2; exact absurd (hq.symm.trans hue) e
        · exact h2
      have h2 := List.pairwise_iff_getElem.1 hS t u htl hu hut
      rw [hq, hue] at h2
      exact absurd (prc_trans h1 h2) prc_irr
theorem l12_l3 (l : List Int) (xs : List Int) (hx : xs.length = l.length) (hb : ∀ i : Nat, i < l.length → 0 ≤ rd xs (i : Int) ∧ rd xs (i : Int) ≤ 1000000000000) (hn : l.length ≤ 1000000) : ∀ (d i K : Nat), i + d = l.length → d < K → spec_l12Search.l3 K l (srSign l xs i) (i : Int) = some (srSign l xs l.length) := by
  intro d
  induction d with
  | zero =>
    intro i K hi hK
    obtain ⟨K, rfl⟩ : ∃ z, K = z + 1 := ⟨K - 1, by omega⟩
    rw [spec_l12Search.l3, if_neg (by omega)]; rw [show i = l.length by omega]
  | succ d ih =>
    intro i K hi hK
    obtain ⟨K, rfl⟩ : ∃ z, K = z + 1 := ⟨K - 1, by omega⟩
    have hil : i < l.length := by omega
    have hlen : (srSign l xs i).length = l.length := by simp [srSign]
    have e := srSign_step l xs i hil
    have hr : rd (srSign l xs i) (i : Int) = rd xs (i : Int) := by unfold srSign; rw [rd_map _ _ _ hil]; simp
    have hbi := hb i hil
    rw [spec_l12Search.l3, if_pos (by omega), if_pos (by omega), w64 (n := (i : Int) + 1) (by omega) (by omega)]
    have go := ih (i + 1) K (by omega) (by omega)
    rw [show ((i + 1 : Nat) : Int) = (i : Int) + 1 by omega] at go
    by_cases c : rd l (i : Int) < 0
    · rw [if_pos c, if_pos (by rw [hlen]; omega), hr, w64 (by omega) (by omega), ← go, e, if_pos c, hr, Int.toNat_natCast]
    · rw [if_neg c, ← go, e, if_neg c]
theorem l12_l2 (l : List Int) (k : Int) (nm : Nat) (hk : 0 ≤ k ∧ k ≤ 8) (hl : ∀ x ∈ l, -16777216 ≤ x ∧ x ≤ 16777216) (hn : l.length ≤ 1000000) (h0 : nm ≠ 0) (out : List Int) (left : Int) (D : List Nat) (K0 : Nat) (R : Option (List Int))
    (hend : ∀ (b : Int) (K : Nat), Bst (srRest l k nm) D l.length b → K0 ≤ K → spec_l12Search.l2 (K + 1) l k nm out left (dns l.length D) b (l.length : Int) = R) :
    ∀ (d i K : Nat) (b : Int), i + d = l.length → Bst (srRest l k nm) D i b → K0 + d < K → spec_l12Search.l2 K l k nm out left (dns l.length D) b (i : Int) = R := by
  have hrest : ∀ j : Nat, j < l.length → Int.tmod (wrap64 (k * ((rd l (j : Int)).natAbs : Int))) (nm : Int) = srRest l k nm j := by
    intro j hj
    have hm : rd l (j : Int) ∈ l := by rw [rd_at l j hj]; exact List.getElem_mem _
    have := hl _ hm
    have h1 := Int.mul_nonneg hk.1 (show 0 ≤ ((rd l (j : Int)).natAbs : Int) by omega)
    have h2 : k * ((rd l (j : Int)).natAbs : Int) ≤ 8 * ((rd l (j : Int)).natAbs : Int) := Int.mul_le_mul_of_nonneg_right hk.2 (by omega)
    unfold srRest
    rw [absI_nat, w64 (by omega) (by omega)]
  intro d
  induction d with
  | zero =>
    intro i K b hi hB hK
    obtain ⟨K, rfl⟩ : ∃ z, K = z + 1 := ⟨K - 1, by omega⟩
    obtain rfl : i = l.length := by omega
    exact hend b K hB (by omega)
  | succ d ih =>
    intro i K b hi hB hK
    obtain ⟨K, rfl⟩ : ∃ z, K = z + 1 := ⟨K - 1, by omega⟩
    have hil : i < l.length := by omega
    have hmi : rd l (i : Int) ∈ l := by rw [rd_at l i hil]; exact List.getElem_mem _
    have hbi := hl _ hmi
    have hlen : (dns l.length D).length = l.length := by simp [dns]
    rw [spec_l12Search.l2, if_pos (by omega), if_pos (by omega), if_pos (by rw [hlen]; omega), dns_rd _ _ _ hil, w64 (n := (i : Int) + 1) (by omega) (by omega)]
    have go := fun b h => ih (i + 1) K b (by omega) h (by omega)
    rw [show ((i + 1 : Nat) : Int) = (i : Int) + 1 by omega] at go
    by_cases c : i ∈ D
    · rw [if_pos (by simpa using c)]
      refine go b ?_
      rcases hB with ⟨h1, h2⟩ | ⟨p, h1, h2, h3, h4⟩
      · exact Or.inl ⟨h1, fun j hj => by by_cases e : j = i; exact e ▸ c; exact h2 j (by omega)⟩
      · exact Or.inr ⟨p, h1, by omega, h3, fun j hj hjD hjp => h4 j (by have : j ≠ i := fun e => hjD (e ▸ c); omega) hjD hjp⟩
    · rw [if_neg (by simpa using c)]
      rcases hB with ⟨h1, h2⟩ | ⟨p, h1, h2, h3, h4⟩
      · rw [if_pos (by omega)]
        exact go (i : Int) (Or.inr ⟨i, rfl, by omega, c, fun j hj hjD hji => absurd (h2 j (by omega)) hjD⟩)
      · subst h1
        have hmp : rd l (p : Int) ∈ l := by rw [rd_at l p (by omega)]; exact List.getElem_mem _
        have hbp := hl _ hmp
        rw [if_neg (by omega), l1Abs_eq _ (by omega) (by omega)]; simp only [Option.bind_some]
        rw [if_neg (by omega), if_pos (by omega), if_pos (by omega), l1Abs_eq _ (by omega) (by omega)]; simp only [Option.bind_some]
        rw [hrest i hil, hrest p (by omega)]
        by_cases c2 : srRest l k nm i > srRest l k nm p
        · rw [if_pos c2]
          refine go (i : Int) (Or.inr ⟨i, rfl, by omega, c, fun j hj hjD hji => ?_⟩)
          have hip : prc (srRest l k nm) i p := Or.inl c2
          by_cases e : j = p
          · subst e; exact hip
          · exact prc_trans hip (h4 j (by omega) hjD e)
        · rw [if_neg c2]
          refine go (p : Int) (Or.inr ⟨p, rfl, by omega, h3, fun j hj hjD hjp => ?_⟩)
          by_cases e : j = i
          · subst e; unfold prc; omega
          · exact h4 j (by omega) hjD hjp
theorem l12_l1 (l : List Int) (k : Int) (nm : Nat) (hk : 0 ≤ k ∧ k ≤ 8) (hl : ∀ x ∈ l, -16777216 ≤ x ∧ x ≤ 16777216) (hn : l.length ≤ 1000000) (h0 : nm ≠ 0) (m : Nat) (hm : m ≤ l.length) :
    ∀ (d t K : Nat), t + d = m → (d + 1) * (l.length + 3) < K →
    spec_l12Search.l1 K l k nm (srAdd l k nm ((srtd (srRest l k nm) l.length).take t)) ((m - t : Nat) : Int) (dns l.length ((srtd (srRest l k nm) l.length).take t)) = some (srSign l (srAdd l k nm ((srtd (srRest l k nm) l.length).take m)) l.length) := by
  have hbase : ∀ i : Nat, i < l.length → 0 ≤ srBase l k nm i ∧ srBase l k nm i ≤ 134217728 := fun i hi => srBase_bd l k nm hk hl (by omega) i hi
  have hrd : ∀ (D : List Nat) (i : Nat), i < l.length → rd (srAdd l k nm D) (i : Int) = srBase l k nm i + if i ∈ D then 1 else 0 := fun D i hi => by unfold srAdd; rw [rd_map _ _ _ hi]
  have hlen : ∀ D, (srAdd l k nm D).length = l.length := fun D => by simp [srAdd]
  intro d
  induction d with
  | zero =>
    intro t K ht hK
    obtain ⟨K, rfl⟩ : ∃ z, K = z + 1 := ⟨K - 1, by omega⟩
    obtain rfl : t = m := by omega
    rw [spec_l12Search.l1, if_neg (by omega)]
    have := l12_l3 l (srAdd l k nm ((srtd (srRest l k nm) l.length).take t)) (hlen _) (fun i hi => by rw [hrd _ _ hi]; have := hbase i hi; split <;> omega) hn l.length 0 K (by omega) (by simp at hK; omega)
    rw [srSign_0 _ _ (hlen _)] at this
    exact this
  | succ d ih =>
    intro t K ht hK
    obtain ⟨K, rfl⟩ : ∃ z, K = z + 1 := ⟨K - 1, by omega⟩
    rw [spec_l12Search.l1, if_pos (by omega)]
    have hmul : (d + 1 + 1) * (l.length + 3) = (d + 1) * (l.length + 3) + (l.length + 3) := by rw [Nat.add_mul (d + 1) 1]; omega
    refine l12_l2 l k nm hk hl hn h0 _ _ ((srtd (srRest l k nm) l.length).take t) ((d + 1) * (l.length + 3) + 1) _ ?_ l.length 0 K (-1) (by omega) (Or.inl ⟨rfl, fun j hj => by omega⟩) (by omega)
    intro b K hB hK
    obtain ⟨p, rfl, hp, hpD, htk⟩ := hB.end_ (by omega)
    have hdl : (dns l.length ((srtd (srRest l k nm) l.length).take t)).length = l.length := by simp [dns]
    rw [spec_l12Search.l2, if_neg (by omega), if_pos (by omega), if_pos (by omega), if_pos (by rw [hdl]; omega), if_pos (by rw [hlen]; omega), hrd _ _ hp, if_neg hpD]
    have hb := hbase p hp
    rw [w64 (n := srBase l k nm p + 0 + 1) (by omega) (by omega), w64 (n := ((m - t : Nat) : Int) - 1) (by omega) (by omega), Int.toNat_natCast, Int.add_zero, srAdd_set _ _ _ _ _ hpD, dns_set, ← htk]
    have := ih (t + 1) K (by omega) (by omega)
    rw [← this]; congr 1; omega
theorem l12_l0 (l : List Int) (k : Int) (nm : Nat) (hk : 0 ≤ k ∧ k ≤ 8) (hl : ∀ x ∈ l, -16777216 ≤ x ∧ x ≤ 16777216) (hn : l.length ≤ 1000000) (h0 : nm ≠ 0) (hnm : nm = nrm l) (K0 : Nat) (R : Option (List Int))
    (hend : ∀ K, K0 ≤ K → spec_l12Search.l1 K l k nm (srOuts l k nm l.length l.length) (srMiss l k nm l.length) (List.replicate l.length false) = R) :
    ∀ (d i K : Nat), i + d = l.length → K0 + d < K → spec_l12Search.l0 K l k nm (srOuts l k nm l.length i) (srMiss l k nm i) (i : Int) = R := by
  intro d
  induction d with
  | zero =>
    intro i K hi hK
    obtain ⟨K, rfl⟩ : ∃ z, K = z + 1 := ⟨K - 1, by omega⟩
    obtain rfl : i = l.length := by omega
    rw [spec_l12Search.l0, if_neg (by omega), if_pos (by omega), if_pos (by omega), Int.toNat_natCast]
    exact hend K (by omega)
  | succ d ih =>
    intro i K hi hK
    obtain ⟨K, rfl⟩ : ∃ z, K = z + 1 := ⟨K - 1, by omega⟩
    have hil : i < l.length := by omega
    have hmi : rd l (i : Int) ∈ l := by rw [rd_at l i hil]; exact List.getElem_mem _
    have hbi := hl _ hmi
    have h1 := Int.mul_nonneg hk.1 (show 0 ≤ ((rd l (i : Int)).natAbs : Int) by omega)
    have h2 : k * ((rd l (i : Int)).natAbs : Int) ≤ 8 * ((rd l (i : Int)).natAbs : Int) := Int.mul_le_mul_of_nonneg_right hk.2 (by omega)
    have hb := srBase_bd l k nm hk hl (by omega) i hil
    have hm := (srMiss_bd l k hk.1).1 (i + 1) (by omega)
    have hm2 := (srMiss_bd l k hk.1).2.2 i (by omega)
    rw [← hnm] at hm hm2
    have hms : srMiss l k nm (i + 1) = srMiss l k nm i - srBase l k nm i := rfl
    have hlen : (srOuts l k nm l.length i).length = l.length := by simp [srOuts]; omega
    rw [spec_l12Search.l0, if_pos (by omega), if_pos (by omega), l1Abs_eq _ (by omega) (by omega)]; simp only [Option.bind_some]
    rw [if_neg (by omega), if_pos (by rw [hlen]; omega), w64 (n := k * _) (by omega) (by omega)]
    have e : Int.tdiv (k * ((rd l (i : Int)).natAbs : Int)) (nm : Int) = srBase l k nm i := by unfold srBase; rw [absI_nat]
    rw [e, w64 (n := srBase l k nm i) (by omega) (by omega), Int.toNat_natCast, srOuts_set l k nm l.length i hil, srOuts_rd l k nm l.length i hil, w64 (n := srMiss l k nm i - _) (by omega) (by omega), w64 (n := (i : Int) + 1) (by omega) (by omega)]
    have := ih (i + 1) K (by omega) (by omega)
    rw [hms] at this
    rw [← this]; congr 1
theorem l12Search_eq (l : List Int) (k : Int) (h1 : 1 ≤ l.length ∧ l.length ≤ 4) (hk : 0 ≤ k ∧ k ≤ 8) (hl : ∀ x ∈ l, -16777216 ≤ x ∧ x ≤ 16777216) (K : Nat) (hK : 100 ≤ K) : spec_l12Search.f K l k = some (srch l k (nrm l)) := by
  unfold spec_l12Search.f spec_l1Zeros.f
  rw [l1Norm_eq l (by omega) (fun x hx => by have := hl x hx; omega) K (by omega)]; simp only [Option.bind_some]
  rw [if_pos (by omega), if_pos (by omega)]; simp only [Option.bind_some, Int.toNat_natCast]
  by_cases h0 : nrm l = 0
  · rw [if_pos (by omega), if_pos (by simp; omega)]
    unfold srch
    rw [h0, if_pos (show ((0 : Nat) : Int) = 0 from rfl)]; rfl
  · rw [if_neg (by omega)]
    have hm := srMiss_bd l k hk.1
    have hm1 := hm.1 l.length (Nat.le_refl _)
    have hm2 := hm.2.1 h0 h1.1
    have hz : srOuts l k (nrm l) l.length 0 = List.replicate l.length 0 := by unfold srOuts; simp
    have hd0 : dns l.length [] = List.replicate l.length false := List.eq_replicate_iff.2 ⟨by simp [dns], fun b hb => by obtain ⟨x, _, rfl⟩ := List.mem_map.1 hb; simp⟩
    obtain ⟨m, hmm⟩ := Int.eq_ofNat_of_zero_le hm1
    have go := l12_l0 l k (nrm l) hk hl (by omega) h0 rfl 60 (some (srch l k (nrm l))) (fun K hK => by
      rw [srOuts_end, hmm, ← hd0]
      have hb : (m + 1) * (l.length + 3) ≤ 5 * 7 := Nat.mul_le_mul (by omega) (by omega)
      have := l12_l1 l k (nrm l) hk hl (by omega) h0 m (by omega) m 0 K (by omega) (by omega)
      rw [List.take_zero] at this
      rw [srch_eq l k _ (by omega), hmm, Int.toNat_natCast, ← this]; congr 1) l.length 0 K (by omega) (by omega)
    rw [hz] at go
    exact go
theorem l13Is_eq (a : Int) : spec_l13Is.f a = some (decide (0 ≤ a ∧ a ≤ 3)) := by unfold spec_l13Is.f; rw [l1In_eq]; rfl
theorem l14Head_eq (n s r m p : Int) : spec_l14Head.f n s r m p = some (headR n s r m p) := by
  unfold spec_l14Head.f headR
  simp only [l14Number_eq, specSizeFault_eq, l9Rung_eq, l13Is_eq, l10Spread_eq, Option.bind_some, decide_eq_true_eq]
  by_cases h1 : 0 ≤ n ∧ n ≤ 9999
  · by_cases h2 : szR s = 0
    · by_cases h3 : 0 ≤ r ∧ r ≤ 47
      · by_cases h4 : 0 ≤ m ∧ m ≤ 3
        · by_cases h5 : 0 ≤ p ∧ p ≤ 2
          · simp [h1, h2, h3, h4, h5]
          · simp [h1, h2, h3, h4, h5]
        · simp [h1, h2, h3, h4]
      · simp [h1, h2, h3]
    · simp [h1, h2]
  · simp [h1]
theorem l10Index_eq (a : Int) : spec_l10Index.f a = some (decide (-30000 ≤ a ∧ a ≤ 30000)) := by unfold spec_l10Index.f; rw [l1In_eq]; rfl
theorem l9Coef_eq (a : Int) : spec_l9Coef.f a = some (decide (-16777216 ≤ a ∧ a ≤ 16777216)) := by unfold spec_l9Coef.f; rw [l1In_eq]; rfl
theorem l14Fits_eq (q r : Int) (hq : -100000 ≤ q ∧ q ≤ 100000) (hr : 0 ≤ r ∧ r ≤ 47) (K : Nat) (hK : 30 ≤ K) : spec_l14Fits.f K q r = some (decide (-16777216 ≤ q * stp r ∧ q * stp r ≤ 16777216)) := by
  unfold spec_l14Fits.f
  have hs := stp_pos r hr.1 hr.2
  have b1 : q * stp r ≤ 100000 * stp r := Int.mul_le_mul_of_nonneg_right hq.2 (by omega)
  have b2 : -100000 * stp r ≤ q * stp r := Int.mul_le_mul_of_nonneg_right hq.1 (by omega)
  rw [l9Step_eq r hr.1 hr.2 K hK]; simp only [Option.bind_some]
  rw [w64 (n := q * stp r) (by omega) (by omega), l9Coef_eq]; rfl
theorem l14Gains_l0 (g : List Int) (r : Int) (hr : 0 ≤ r ∧ r ≤ 47) (hg : g.length ≤ 1048576) : ∀ (rest pre : List Int) (i : Int) (K : Nat), g = pre ++ rest → (pre.length : Int) = i → rest.length + 40 ≤ K → spec_l14Gains.l0 K g r i = some (rest.all (gainB r)) := by
  intro rest
  induction rest with
  | nil =>
    intro pre i K h1 hi hK
    obtain ⟨K, rfl⟩ : ∃ z, K = z + 1 := ⟨K - 1, by omega⟩
    simp only [spec_l14Gains.l0]
    rw [if_neg (by rw [h1]; simp; omega)]; rfl
  | cons x rest ih =>
    intro pre i K h1 hi hK
    obtain ⟨K, rfl⟩ : ∃ z, K = z + 1 := ⟨K - 1, by omega⟩
    simp only [List.length_cons] at hK
    have hlen : g.length = pre.length + (rest.length + 1) := by rw [h1]; simp
    have hr2 : rd g i = x := by rw [h1]; exact rd_append_right pre (x :: rest) i hi.symm x rest rfl
    simp only [spec_l14Gains.l0]
    rw [if_pos (by omega), if_pos (by omega), hr2, l1In_eq]
    simp only [Option.bind_some, decide_eq_true_eq, List.all_cons]
    have hgb : gainB r x = decide ((0 ≤ x ∧ x ≤ 65535) ∧ (-16777216 ≤ x * stp r ∧ x * stp r ≤ 16777216)) := rfl
    by_cases h2 : 0 ≤ x ∧ x ≤ 65535
    · rw [if_pos h2, l14Fits_eq x r (by omega) hr K (by omega)]
      simp only [Option.bind_some, decide_eq_true_eq]
      by_cases h3 : -16777216 ≤ x * stp r ∧ x * stp r ≤ 16777216
      · rw [if_pos h3, w64 (n := i + 1) (by omega) (by omega), ih (pre ++ [x]) (i + 1) K (by rw [h1]; simp) (by simp; omega) (by omega), hgb]
        simp [h2, h3]
      · rw [if_neg h3, hgb]; simp [h3]
    · rw [if_neg h2, hgb]; simp [h2]
theorem l14Gains_eq (g : List Int) (r : Int) (hr : 0 ≤ r ∧ r ≤ 47) (hg : g.length ≤ 1048576) (K : Nat) (hK : 1048700 ≤ K) : spec_l14Gains.f K g r = some (g.all (gainB r)) := by
  unfold spec_l14Gains.f; exact l14Gains_l0 g r hr hg g [] 0 K rfl rfl (by omega)
theorem allW_k {l : List Int} {k : Int} (hk : 0 ≤ k ∧ k ≤ 8) : (allW l (-k) k = true ∧ (nrm l : Int) = k) ↔ (allW l (-8) 8 = true ∧ (nrm l : Int) = k) := by
  constructor
  · rintro ⟨h1, h2⟩; exact ⟨allW_mk fun x hx => by have := allW_mem h1 hx; omega, h2⟩
  · rintro ⟨h1, h2⟩; exact ⟨allW_mk fun x hx => by have := nrm_mem hx; omega, h2⟩
theorem specPulsesFault_eq (l : List Int) (a : Int) (hl : l.length ≤ 2000000) (k : Nat) (hk : l.length + 10 < k) : spec_PulsesFault.f k l a = some (pfR l a) := by
  obtain ⟨k, rfl⟩ : ∃ m, k = m + 1 := ⟨k - 1, by omega⟩
  unfold spec_PulsesFault.f pfR
  by_cases h0 : (l.length : Int) < 1
  · rw [if_pos h0, if_pos (by omega)]; simp only [spec_PulsesFault.j0, if_true]
  · rw [if_neg h0]
    by_cases h1 : (l.length : Int) > 4
    · rw [decide_eq_true h1, if_pos (by omega)]; simp only [spec_PulsesFault.j0, if_true]
    · rw [decide_eq_false h1, if_neg (by omega)]
      simp only [spec_PulsesFault.j0]
      rw [if_neg (by simp), l1In_eq]
      simp only [Option.bind_some, decide_eq_true_eq]
      by_cases h2 : 0 ≤ a ∧ a ≤ 8
      · rw [if_pos h2, if_neg (by simp [h2]), w64 (n := -a) (by omega) (by omega), l1All_eq l (-a) a k (by omega) (by omega)]
        simp only [Option.bind_some]
        simp only [← allW_k h2]
        by_cases h3 : allW l (-a) a = true
        · have h4 : ∀ x ∈ l, x.natAbs ≤ 1099511627776 := fun x hx => by have := allW_mem h3 hx; omega
          rw [if_pos h3, l1Norm_eq l hl h4 k (by omega)]
          simp only [Option.bind_some]
          by_cases h5 : (nrm l : Int) = a
          · rw [if_pos h5, if_pos ⟨h3, h5⟩]
          · rw [if_neg h5, if_neg (fun h => h5 h.2)]
        · rw [if_neg h3, if_neg (fun h => h3 h.1)]
      · rw [if_neg h2, if_pos (by simpa using h2)]
theorem specFrameFault_eq (n s r m p : Int) (l g : List Int) (L : List (List Int)) (hl : l.length ≤ 1048576) (hg : g.length ≤ 1048576) (hLL : ∀ p ∈ L, p.length ≤ 1048576) (K : Nat) (hK : 2200000 ≤ K) : spec_FrameFault.f K n s r m p l g L = some (ffR n s r m p l g L) := by
  unfold spec_FrameFault.f ffR
  rw [l14Head_eq n s r m p]; simp only [Option.bind_some]
  by_cases h0 : headR n s r m p = 0
  · obtain ⟨_, hs, hr, hm, _⟩ := headR_0 h0
    rw [if_pos h0, if_neg (show ¬ headR n s r m p ≠ 0 from fun h => h h0), l13Bands_eq]
    simp only [Option.bind_some]
    rw [Int.tdiv_eq_ediv_of_nonneg (by omega), w64 (n := s / 2) (by omega) (by omega)]
    obtain ⟨K, rfl⟩ : ∃ z, K = z + 1 := ⟨K - 1, by omega⟩
    by_cases h1 : cntR s l g L = 0
    · obtain ⟨c1, c2, c3⟩ : (l.length : Int) = s / 2 ∧ g.length = (bnds s).length ∧ L.length = (bnds s).length := by
        unfold cntR at h1
        by_cases c : (l.length : Int) = s / 2 ∧ g.length = (bnds s).length ∧ L.length = (bnds s).length
        · exact c
        · rw [if_neg c] at h1; simp at h1
      have e3 : ((L.length : Int) != ((bnds s).length : Int)) = false := by simp [c3]
      rw [if_neg (show ¬ cntR s l g L ≠ 0 from fun h => h h1), if_pos c1, if_pos (by omega), e3]
      simp only [spec_FrameFault.j0, Bool.false_eq_true, if_false]
      have hpl : spec_FrameFault.l1 1048700 (bnds s) 0 n s r m p l g L = some (bandsR m (bnds s) L) := by
        have step : ∀ (B : List S93) (i : Int) (K : Nat), 1048650 ≤ K → 0 ≤ i → i < B.length → i < L.length → i ≤ 1000 → spec_FrameFault.l1 (K + 1) B i n s r m p l g L = if bandR (rd_T93 B i).f1 m (rd_L1 L i) = 0 then spec_FrameFault.l1 K B (i + 1) n s r m p l g L else some (bandR (rd_T93 B i).f1 m (rd_L1 L i)) := by
          intro B i K hK i0 i1 i2 i3
          have hmem : (rd_L1 L i).length ≤ 1048576 := by
            apply hLL
            unfold rd_L1
            rw [List.getD_eq_getElem?_getD, List.getElem?_eq_getElem (show i.toNat < L.length by omega)]
            exact List.getElem_mem _
          rw [spec_FrameFault.l1, if_pos i1, if_pos i0, if_pos i2, w64 (n := i + 1) (by omega) (by omega), w64 (n := 2 * m) (by omega) (by omega), w64 (n := 8 - 2 * m) (by omega) (by omega)]
          unfold bandR
          by_cases d : ((rd_L1 L i).length : Int) = (rd_T93 B i).f1
          · rw [if_pos d, if_neg (show ¬ ((rd_L1 L i).length : Int) ≠ (rd_T93 B i).f1 from fun h => h d), specPulsesFault_eq _ _ (by omega) K (by omega)]
            simp only [Option.bind_some]
          · rw [if_neg d, if_pos d]; simp
        have done : ∀ (B : List S93) (i : Int) (K : Nat), ¬ i < B.length → spec_FrameFault.l1 (K + 1) B i n s r m p l g L = some 0 := by
          intro B i K hi
          rw [spec_FrameFault.l1, if_neg hi]
        rcases bnds_two s L c3 with ⟨b, q, e1, rfl⟩ | ⟨b, c, q, q2, e1, rfl⟩
        · rw [e1, step [b] 0 1048699 (by omega) (by omega) (by simp) (by simp) (by omega), done [b] (0 + 1) 1048698 (by simp)]
          simp only [bandsR]
          show (if bandR b.f1 m q = 0 then some 0 else some (bandR b.f1 m q)) = _
          split <;> rfl
        · rw [e1, step [b, c] 0 1048699 (by omega) (by omega) (by simp) (by simp) (by omega), step [b, c] (0 + 1) 1048698 (by omega) (by omega) (by simp) (by simp) (by omega), done [b, c] (0 + 1 + 1) 1048697 (by simp)]
          simp only [bandsR]
          show (if bandR b.f1 m q = 0 then (if bandR c.f1 m q2 = 0 then some 0 else some (bandR c.f1 m q2)) else some (bandR b.f1 m q)) = _
          split
          · split <;> rfl
          · rfl
      have main : ∀ (rest pre : List Int) (i : Int) (K : Nat), l = pre ++ rest → (pre.length : Int) = i → rest.length + 1048701 ≤ K → spec_FrameFault.l0 K (bnds s) i n s r m p l g L = some (if rest.all (lowB r) = true then (if g.all (gainB (grg r m)) = true then bandsR m (bnds s) L else 3) else 3) := by
        intro rest
        induction rest with
        | nil =>
          intro pre i K e hi hK
          obtain ⟨K, rfl⟩ : ∃ z, K = z + 1 := ⟨K - 1, by omega⟩
          simp only [spec_FrameFault.l0]
          rw [if_neg (by rw [e]; simp; omega), l13Rung2_eq r m hr hm]
          simp only [Option.bind_some]
          rw [l14Gains_eq g _ (grg_range hr hm) hg K (by omega)]
          simp only [Option.bind_some, List.all_nil, if_true]
          by_cases hgg : g.all (gainB (grg r m)) = true
          · rw [if_pos hgg, if_pos hgg]
            exact at_rounds (g := fun K => spec_FrameFault.l1 K _ _ _ _ _ _ _ _ _ _) (fun K => (spec_FrameFault.mono_l K).2.2 _ _ _ _ _ _ _ _ _ _) (show 1048700 ≤ K by omega) hpl
          · rw [if_neg hgg, if_neg hgg]
        | cons x rest ih =>
          intro pre i K e hi hK
          obtain ⟨K, rfl⟩ : ∃ z, K = z + 1 := ⟨K - 1, by omega⟩
          simp only [List.length_cons] at hK
          have hlen : l.length = pre.length + (rest.length + 1) := by rw [e]; simp
          have hr2 : rd l i = x := by rw [e]; exact rd_append_right pre (x :: rest) i hi.symm x rest rfl
          simp only [spec_FrameFault.l0]
          rw [if_pos (by omega), if_pos (by omega), hr2, l10Index_eq]
          simp only [Option.bind_some, decide_eq_true_eq]
          have hgb : lowB r x = decide ((-30000 ≤ x ∧ x ≤ 30000) ∧ (-16777216 ≤ x * stp r ∧ x * stp r ≤ 16777216)) := rfl
          by_cases h2 : -30000 ≤ x ∧ x ≤ 30000
          · rw [if_pos h2, l14Fits_eq x r (by omega) hr K (by omega)]
            simp only [Option.bind_some, decide_eq_true_eq]
            by_cases h3 : -16777216 ≤ x * stp r ∧ x * stp r ≤ 16777216
            · have hx : lowB r x = true := by rw [hgb]; simp [h2, h3]
              rw [if_pos h3, w64 (n := i + 1) (by omega) (by omega), ih (pre ++ [x]) (i + 1) K (by rw [e]; simp) (by simp; omega) (by omega)]
              simp [List.all_cons, hx]
            · have hx : lowB r x = false := by rw [hgb]; simp [h3]
              rw [if_neg h3]; simp [List.all_cons, hx]
          · have hx : lowB r x = false := by rw [hgb]; simp [h2]
            rw [if_neg h2]; simp [List.all_cons, hx]
      exact main l [] 0 K rfl rfl (by omega)
    · rw [if_pos h1]
      unfold cntR at h1
      by_cases c1 : (l.length : Int) = s / 2
      · rw [if_pos c1]
        by_cases c2 : (g.length : Int) = ((bnds s).length : Int)
        · rw [if_pos c2]
          have c3 : ¬ L.length = (bnds s).length := fun h => h1 (by rw [if_pos ⟨c1, by omega, h⟩])
          have e3 : ((L.length : Int) != ((bnds s).length : Int)) = true := by simp; omega
          rw [e3]; simp only [spec_FrameFault.j0, if_true]
        · rw [if_neg c2]; simp only [spec_FrameFault.j0, if_true]
      · rw [if_neg c1]; simp only [spec_FrameFault.j0, if_true]
  · rw [if_neg h0, if_pos h0]
theorem SM_l1 (a n r m p : Int) (l lo : List Int) (ha : a = 4 ∨ a = 8 ∨ a = 16) (hl : (l.length : Int) = a) (hr : 0 ≤ r ∧ r ≤ 47) (hm : 0 ≤ m ∧ m ≤ 3) (hw : allW l (-16777216) 16777216 = true) :
    ∀ (d i K : Nat), i + d = (bnds a).length → 200 + d < K → spec_l14Make.l1 K l (bnds a) ((bnds a).map fun b => (nrm (cutB b l) : Int)) (stp (grg r m)) (i : Int) n a r m p lo (((bnds a).take i).map (mkGain r m l)) (((bnds a).take i).map (mkPls m l)) = some (n, a, r, m, p, lo, (bnds a).map (mkGain r m l), (bnds a).map (mkPls m l)) := by
  have hB : (bnds a).length ≤ 2 := by rcases bnds_cases a with ⟨_, e⟩ | ⟨_, e⟩ | ⟨_, _, e⟩ <;> rw [e] <;> simp
  have hg := grg_range hr hm
  have hs := stp_pos (grg r m) hg.1 hg.2
  intro d
  induction d with
  | zero =>
    intro i K hi hK
    obtain ⟨K, rfl⟩ : ∃ z, K = z + 1 := ⟨K - 1, by omega⟩
    rw [spec_l14Make.l1, if_neg (by omega), List.take_of_length_le (by omega)]
  | succ d ih =>
    intro i K hi hK
    obtain ⟨K, rfl⟩ : ∃ z, K = z + 1 := ⟨K - 1, by omega⟩
    have hil : i < (bnds a).length := by omega
    obtain ⟨b, hb⟩ : ∃ b, (bnds a)[i] = b := ⟨_, rfl⟩
    have hbm : b ∈ bnds a := by rw [← hb]; exact List.getElem_mem _
    have h3 := cutB_three a l ha hl b hbm
    have hcw : ∀ x ∈ cutB b l, -16777216 ≤ x ∧ x ≤ 16777216 := fun x hx => allW_mem hw (cutB_mem hx)
    have hnc := nrm_cut hw b h3.2.1
    have hsp := l12Search_eq (cutB b l) (8 - 2 * m) (by omega) (by omega) hcw K (by omega)
    have en : rd ((bnds a).map fun b => (nrm (cutB b l) : Int)) (i : Int) = (nrm (cutB b l) : Int) := by
      unfold rd; rw [Int.toNat_natCast, List.getD_eq_getElem?_getD, List.getElem?_map, List.getElem?_eq_getElem hil, hb]; rfl
    have go := ih (i + 1) K (by omega) (by omega)
    rw [spec_l14Make.l1, if_pos (by omega), if_pos (by omega), if_pos (by rw [List.length_map]; omega), en, l1Round_eq _ _ (by omega) (by omega) hs.1 (by omega) K (by omega)]; simp only [Option.bind_some]
    rw [if_pos (by rw [List.length_map, List.length_take]; omega), rdT_at _ _ hil, hb, w64 (n := b.f0 + b.f1) (by omega) (by omega), if_pos (by omega), if_pos (by omega), if_pos (by omega)]
    unfold spec_l13Of_any.f
    simp only [Option.bind_some]
    have ec : (l.take (b.f0 + b.f1).toNat).drop b.f0.toNat = cutB b l := rfl
    rw [ec, w64 (n := 2 * m) (by omega) (by omega), w64 (n := 8 - 2 * m) (by omega) (by omega), hsp]; simp only [Option.bind_some]
    rw [if_pos (by rw [List.length_map, List.length_take]; omega), w64 (n := (i : Int) + 1) (by omega) (by omega)]
    rw [List.take_succ_eq_append_getElem hil, hb, List.map_append, List.map_append] at go
    exact go
theorem SM_l0 (a n r m p : Int) (l : List Int) (ha : a = 4 ∨ a = 8 ∨ a = 16) (hla : (l.length : Int) = a) (hr : 0 ≤ r ∧ r ≤ 47) (hm : 0 ≤ m ∧ m ≤ 3) (hw : allW l (-16777216) 16777216 = true) :
    ∀ (d i K : Nat), i + d = (a / 2).toNat → 300 + d < K → spec_l14Make.l0 K a l r (i : Int) n a r m p ((l.take i).map fun c => rdv c (stp r)) = some (n, a, r, m, p, mkLows a l r, (bnds a).map (mkGain r m l), (bnds a).map (mkPls m l)) := by
  have hs := stp_pos r hr.1 hr.2
  have hB : (bnds a).length ≤ 2 := by rcases bnds_cases a with ⟨_, e⟩ | ⟨_, e⟩ | ⟨_, _, e⟩ <;> rw [e] <;> simp
  have hg := grg_range hr hm
  intro d
  induction d with
  | zero =>
    intro i K hi hK
    obtain ⟨K, rfl⟩ : ∃ z, K = z + 1 := ⟨K - 1, by omega⟩
    obtain rfl : i = (a / 2).toNat := by omega
    rw [spec_l14Make.l0, mk_wrap a ha, if_neg (by omega), l13Bands_eq]; simp only [Option.bind_some]
    rw [l13Norms_eq a l ha hla hw K (by omega)]; simp only [Option.bind_some]
    rw [l13Rung2_eq r m hr hm]; simp only [Option.bind_some]
    rw [l9Step_eq _ hg.1 hg.2 K (by omega)]; simp only [Option.bind_some]
    have := SM_l1 a n r m p l (mkLows a l r) ha hla hr hm hw (bnds a).length 0 K (by omega) (by omega)
    rw [List.take_zero, List.map_nil, List.map_nil] at this
    exact this
  | succ d ih =>
    intro i K hi hK
    obtain ⟨K, rfl⟩ : ∃ z, K = z + 1 := ⟨K - 1, by omega⟩
    have hil : i < l.length := by omega
    have hmm : l[i] ∈ l := List.getElem_mem _
    have hb := allW_mem hw hmm
    have er : rd l (i : Int) = l[i] := by
      unfold rd; rw [Int.toNat_natCast, List.getD_eq_getElem?_getD, List.getElem?_eq_getElem hil]; rfl
    have go := ih (i + 1) K (by omega) (by omega)
    rw [spec_l14Make.l0, mk_wrap a ha, if_pos (by omega), if_pos (by omega), if_pos (by omega), l9Step_eq r hr.1 hr.2 K (by omega)]; simp only [Option.bind_some]
    rw [er, l1Round_eq _ _ (by omega) (by omega) hs.1 (by omega) K (by omega)]; simp only [Option.bind_some]
    rw [if_pos (by rw [List.length_map, List.length_take]; omega), w64 (n := (i : Int) + 1) (by omega) (by omega)]
    rw [List.take_succ_eq_append_getElem hil, List.map_append] at go
    exact go
theorem specMakeFrame_j0 (a n : Int) (l : List Int) (r p : Int) (K : Nat) (hK : 2200100 ≤ K) (h : cfR a l = 0) (hr : 0 ≤ r ∧ r ≤ 47) : spec_MakeFrame.j0 K a n l r p false = some (mkEnd n a r (mskL l) p (mkLows a l r) ((bnds a).map (mkGain r (mskL l) l)) ((bnds a).map (mkPls (mskL l) l))) := by
  obtain ⟨K, rfl⟩ : ∃ z, K = z + 1 := ⟨K - 1, by omega⟩
  obtain ⟨ha, hlen, hw⟩ := cfR_0 h
  have hB : (bnds a).length ≤ 2 := by rcases bnds_cases a with ⟨_, e⟩ | ⟨_, e⟩ | ⟨_, _, e⟩ <;> rw [e] <;> simp
  have hm : 0 ≤ mskL l ∧ mskL l ≤ 3 := mskv_range _ _
  rw [spec_MakeFrame.j0, if_neg (by simp)]
  unfold spec_l14Make.f
  rw [l13Mask_eq a l (by omega) hlen hw K (by omega)]; simp only [Option.bind_some]
  have := SM_l0 a n r (mskL l) p l ha hlen hr hm hw (a / 2).toNat 0 K (by omega) (by omega)
  rw [List.take_zero, List.map_nil] at this
  have this2 : spec_l14Make.l0 K a l r 0 n a r (mskL l) p [] = _ := this
  rw [this2]; simp only [Option.bind_some]
  rw [specFrameFault_eq n a r (mskL l) p _ _ _ (by unfold mkLows; rw [List.length_map, List.length_take]; omega) (by rw [List.length_map]; omega) (mkPls_len _ a l ha hlen) K (by omega)]; simp only [Option.bind_some]
  unfold mkEnd frErr
  split <;> rfl
theorem specMakeFrame_eq (a n : Int) (l : List Int) (r p : Int) (hl : l.length ≤ 1048576) (K : Nat) (hK : 2200100 ≤ K) : spec_MakeFrame.f K a n l r p = some (mkR a n l r p) := by
  have herr : spec_MakeFrame.j0 K a n l r p true = some (frErr 3) := by
    obtain ⟨K, rfl⟩ : ∃ z, K = z + 1 := ⟨K - 1, by omega⟩
    rw [spec_MakeFrame.j0, if_pos rfl]; rfl
  unfold spec_MakeFrame.f mkR
  simp only [l14Number_eq, l9Rung_eq, l10Spread_eq, l13Coefs_eq a l K (by omega) (by omega), Option.bind_some, decide_eq_true_eq]
  by_cases hn : 0 ≤ n ∧ n ≤ 9999
  · rw [if_pos hn, if_neg (show ¬ ¬ (0 ≤ n ∧ n ≤ 9999) from fun h => h hn)]
    by_cases hc : cfR a l = 0
    · rw [if_pos hc, if_neg (show ¬ cfR a l ≠ 0 from fun h => h hc)]
      by_cases hr : 0 ≤ r ∧ r ≤ 47
      · rw [if_pos hr]
        by_cases hp : 0 ≤ p ∧ p ≤ 2
        · rw [if_neg (show ¬ ¬ ((0 ≤ r ∧ r ≤ 47) ∧ (0 ≤ p ∧ p ≤ 2)) from fun h => h ⟨hr, hp⟩), show (!decide (0 ≤ p ∧ p ≤ 2)) = false by simp [hp]]
          exact specMakeFrame_j0 a n l r p K hK hc hr
        · rw [if_pos (show ¬ ((0 ≤ r ∧ r ≤ 47) ∧ (0 ≤ p ∧ p ≤ 2)) from fun h => hp h.2), show (!decide (0 ≤ p ∧ p ≤ 2)) = true by simp [hp]]
          exact herr
      · rw [if_neg hr, if_pos (show ¬ ((0 ≤ r ∧ r ≤ 47) ∧ (0 ≤ p ∧ p ≤ 2)) from fun h => hr h.1)]; exact herr
    · rw [if_neg hc, if_pos hc]; rfl
  · rw [if_neg hn, if_pos hn]; rfl
theorem eqInt64S_l0 (l : List Int) (hl : l.length ≤ 1000000000000) : ∀ (d k : Nat) (i : Int), (l.length : Int) - i = d → 0 ≤ i → d < k → laws_eqInt64S.l0 k l l i = some true := by
  intro d
  induction d with
  | zero =>
    intro k i hd h0 hk
    obtain ⟨k, rfl⟩ : ∃ m, k = m + 1 := ⟨k - 1, by omega⟩
    simp only [laws_eqInt64S.l0]; rw [if_neg (by omega)]
  | succ d ih =>
    intro k i hd h0 hk
    obtain ⟨k, rfl⟩ : ∃ m, k = m + 1 := ⟨k - 1, by omega⟩
    simp only [laws_eqInt64S.l0]
    rw [if_pos (by omega), if_pos h0, if_pos (by omega), if_pos True.intro, w64 (by omega) (by omega)]
    exact ih k (i + 1) (by omega) (by omega) (by omega)
theorem eqInt64S_self (l : List Int) (hl : l.length ≤ 1000000000000) (k : Nat) (hk : l.length < k) : laws_eqInt64S.f k l l = some true := by
  unfold laws_eqInt64S.f; rw [if_pos rfl]; exact eqInt64S_l0 l hl l.length k 0 (by omega) (by omega) hk
theorem rdL1_right (P Q : List (List Int)) (i : Int) (h : i = (P.length : Int)) (x : List Int) (R : List (List Int)) (hQ : Q = x :: R) : rd_L1 (P ++ Q) i = x := by
  subst hQ; unfold rd_L1; rw [h, Int.toNat_natCast, List.getD_eq_getElem?_getD, List.getElem?_append_right (Nat.le_refl _)]; simp
theorem eqInt64SS_l0 (L : List (List Int)) (hL : L.length ≤ 1000000000) (hLL : ∀ p ∈ L, p.length ≤ 1048576) : ∀ (d k : Nat) (i : Int), (L.length : Int) - i = d → 0 ≤ i → d + 1048580 < k → laws_eqInt64SS.l0 k L L i = some true := by
  intro d
  induction d with
  | zero =>
    intro k i hd h0 hk
    obtain ⟨k, rfl⟩ : ∃ m, k = m + 1 := ⟨k - 1, by omega⟩
    simp only [laws_eqInt64SS.l0]; rw [if_neg (by omega)]
  | succ d ih =>
    intro k i hd h0 hk
    obtain ⟨k, rfl⟩ : ∃ m, k = m + 1 := ⟨k - 1, by omega⟩
    have hmem : (rd_L1 L i).length ≤ 1048576 := by
      apply hLL
      unfold rd_L1
      rw [List.getD_eq_getElem?_getD, List.getElem?_eq_getElem (show i.toNat < L.length by omega)]
      exact List.getElem_mem _
    simp only [laws_eqInt64SS.l0]
    rw [if_pos (by omega), if_pos h0, if_pos (by omega), eqInt64S_self _ (by omega) k (by omega)]
    simp only [Option.bind_some, if_true]
    rw [w64 (n := i + 1) (by omega) (by omega)]
    exact ih k (i + 1) (by omega) (by omega) (by omega)
theorem eqInt64SS_self (L : List (List Int)) (hL : L.length ≤ 1048576) (hLL : ∀ p ∈ L, p.length ≤ 1048576) (k : Nat) (hk : 2097160 < k) : laws_eqInt64SS.f k L L = some true := by
  unfold laws_eqInt64SS.f
  rw [if_pos rfl]; exact eqInt64SS_l0 L (by omega) hLL L.length k 0 (by omega) (by omega) (by omega)
theorem eqFrame_self (a b c d e : Int) (l m : List Int) (L : List (List Int)) (hl : l.length ≤ 1048576) (hm : m.length ≤ 1048576) (hL : L.length ≤ 1048576) (hLL : ∀ p ∈ L, p.length ≤ 1048576) (K : Nat) (hK : 2097160 < K) : laws_eqFrame.f K a b c d e l m L a b c d e l m L = some true := by
  unfold laws_eqFrame.f
  simp only [if_true]
  rw [eqInt64S_self l (by omega) K (by omega)]; simp only [Option.bind_some, if_true]
  rw [eqInt64S_self m (by omega) K (by omega)]; simp only [Option.bind_some, if_true]
  rw [eqInt64SS_self L hL hLL K hK]; rfl
/-- So many numbers from x on. -/
def iv : Nat → Int → List Int
  | 0, _ => []
  | n + 1, x => x :: iv n (x + 1)
theorem iv_length : ∀ (n : Nat) (x : Int), (iv n x).length = n
  | 0, _ => rfl
  | n + 1, x => by simp [iv, iv_length n]
theorem mem_iv : ∀ (n : Nat) (x y : Int), y ∈ iv n x → x ≤ y ∧ y < x + n
  | 0, _, _, h => by simp [iv] at h
  | n + 1, x, y, h => by
    simp only [iv, List.mem_cons] at h
    rcases h with rfl | h
    · omega
    · have := mem_iv n (x + 1) y h; omega
theorem markInt64S_l0 : ∀ (rest pre : List Int) (a i : Int) (k : Nat), (pre.length : Int) = i → rest.length < k → 0 ≤ a → a + rest.length ≤ 4000000000000000000 → i + rest.length ≤ 4000000000000000000 →
    laws_markInt64S.l0 k (pre ++ rest) a i = some (a + rest.length, pre ++ iv rest.length a) := by
  intro rest
  induction rest with
  | nil =>
    intro pre a i k hi hk h0 h1 h2
    obtain ⟨k, rfl⟩ : ∃ m, k = m + 1 := ⟨k - 1, by omega⟩
    simp only [laws_markInt64S.l0]
    rw [if_neg (by simp; omega)]; simp [iv]
  | cons x rest ih =>
    intro pre a i k hi hk h0 h1 h2
    obtain ⟨k, rfl⟩ : ∃ m, k = m + 1 := ⟨k - 1, by omega⟩
    simp only [List.length_cons] at hk h1 h2
    simp only [laws_markInt64S.l0]
    rw [if_pos (by simp; omega), if_pos (by omega), w64 (n := a + 1) (by omega) (by omega), w64 (n := i + 1) (by omega) (by omega)]
    have e : (pre ++ x :: rest).set i.toNat a = (pre ++ [a]) ++ rest := by
      have hn : i.toNat = pre.length := by omega
      rw [hn, List.set_append_right _ _ (Nat.le_refl _)]; simp
    rw [e, ih (pre ++ [a]) (a + 1) (i + 1) k (by simp; omega) (by omega) (by omega) (by omega) (by omega)]
    simp [iv]; omega
theorem markInt64S_eq (l : List Int) (a : Int) (k : Nat) (hk : l.length < k) (h0 : 0 ≤ a) (h1 : a + l.length ≤ 4000000000000000000) : laws_markInt64S.f k l a = some (a + l.length, iv l.length a) := by
  unfold laws_markInt64S.f
  have := markInt64S_l0 l [] a 0 k rfl hk h0 h1 (by omega)
  simpa using this
/-- How many numbers rows have. -/
def tot : List (List Int) → Nat
  | [] => 0
  | l :: L => l.length + tot L
/-- The rows marked from a on. -/
def ivs : List (List Int) → Int → List (List Int)
  | [], _ => []
  | l :: L, a => iv l.length a :: ivs L (a + l.length)
theorem tot_le (B : Nat) : ∀ (L : List (List Int)), (∀ p ∈ L, p.length ≤ B) → tot L ≤ B * L.length
  | [], _ => by simp [tot]
  | l :: L, h => by
    have h1 := tot_le B L (fun p hp => h p (List.mem_cons_of_mem _ hp))
    have h2 := h l List.mem_cons_self
    simp only [tot, List.length_cons, Nat.mul_succ]; omega
theorem markInt64SS_l0 (B : Nat) : ∀ (rest pre : List (List Int)) (a i : Int) (K : Nat), (pre.length : Int) = i → (∀ p ∈ rest, p.length ≤ B) → rest.length + B + 10 ≤ K → 0 ≤ a → a + tot rest ≤ 4000000000000000000 → i + rest.length ≤ 1000000000000 →
    laws_markInt64SS.l0 K (pre ++ rest) a i = some (a + tot rest, pre ++ ivs rest a) := by
  intro rest
  induction rest with
  | nil =>
    intro pre a i K hi hB hK h0 h1 h2
    obtain ⟨K, rfl⟩ : ∃ z, K = z + 1 := ⟨K - 1, by omega⟩
    rw [laws_markInt64SS.l0, if_neg (by simp; omega)]; simp [tot, ivs]
  | cons l rest ih =>
    intro pre a i K hi hB hK h0 h1 h2
    obtain ⟨K, rfl⟩ : ∃ z, K = z + 1 := ⟨K - 1, by omega⟩
    simp only [List.length_cons, tot] at hK h1 h2
    have hl := hB l List.mem_cons_self
    have e1 : rd_L1 (pre ++ l :: rest) i = l := rdL1_right pre (l :: rest) i hi.symm l rest rfl
    rw [laws_markInt64SS.l0, if_pos (by simp; omega), if_pos (by omega), e1, markInt64S_eq l a K (by omega) h0 (by omega)]; simp only [Option.bind_some]
    have e2 : (pre ++ l :: rest).set i.toNat (iv l.length a) = (pre ++ [iv l.length a]) ++ rest := by
      rw [← hi, Int.toNat_natCast]; simp
    rw [e2, w64 (n := i + 1) (by omega) (by omega), ih (pre ++ [iv l.length a]) (a + l.length) (i + 1) K (by simp; omega) (fun p hp => hB p (List.mem_cons_of_mem _ hp)) (by omega) (by omega) (by omega) (by omega)]
    simp only [tot, ivs, List.append_assoc, List.singleton_append]
    congr 2; push_cast; omega
theorem markInt64SS_eq (L : List (List Int)) (a : Int) (hL : L.length ≤ 1048576) (hLL : ∀ p ∈ L, p.length ≤ 1048576) (h0 : 0 ≤ a) (h1 : a ≤ 1000000000000) (K : Nat) (hK : 2097200 ≤ K) : laws_markInt64SS.f K L a = some (a + tot L, ivs L a) := by
  unfold laws_markInt64SS.f
  have h := tot_le 1048576 L hLL
  have h2 : 1048576 * L.length ≤ 1048576 * 1048576 := Nat.mul_le_mul_left _ hL
  have := markInt64SS_l0 1048576 L [] a 0 K rfl hLL (by omega) h0 (by omega) (by omega)
  simpa using this
theorem markFrame_ok (n s r m p : Int) (l g : List Int) (L : List (List Int)) (a : Int) (hl : l.length ≤ 1048576) (hg : g.length ≤ 1048576) (hL : L.length ≤ 1048576) (hLL : ∀ p ∈ L, p.length ≤ 1048576) (h0 : 0 ≤ a) (h1 : a ≤ 10000000000) (K : Nat) (hK : 2097200 ≤ K) :
    laws_markFrame.f K n s r m p l g L a = some (a + l.length + g.length + tot L, iv l.length a, iv g.length (a + l.length), ivs L (a + l.length + g.length)) := by
  unfold laws_markFrame.f
  rw [markInt64S_eq l a K (by omega) h0 (by omega)]; simp only [Option.bind_some]
  rw [markInt64S_eq g _ K (by omega) (by omega) (by omega)]; simp only [Option.bind_some]
  rw [markInt64SS_eq L _ hL hLL (by omega) (by omega) K hK]; rfl
theorem heldInt64S_l0 : ∀ (n : Nat) (pre : List Int) (a i : Int) (k : Nat), (pre.length : Int) = i → n < k → 0 ≤ a → a + n ≤ 1000000000000 → i + n ≤ 1000000000000 →
    laws_heldInt64S.l0 k (pre ++ iv n a) a i = some (a + n) := by
  intro n
  induction n with
  | zero =>
    intro pre a i k hi hk h0 h1 h2
    obtain ⟨k, rfl⟩ : ∃ m, k = m + 1 := ⟨k - 1, by omega⟩
    simp only [laws_heldInt64S.l0]
    rw [if_neg (by simp [iv]; omega)]; simp
  | succ n ih =>
    intro pre a i k hi hk h0 h1 h2
    obtain ⟨k, rfl⟩ : ∃ m, k = m + 1 := ⟨k - 1, by omega⟩
    simp only [laws_heldInt64S.l0]
    rw [if_pos (by simp [iv_length]; omega), if_pos (by omega), if_pos (rd_append_right pre (iv (n + 1) a) i hi.symm a (iv n (a + 1)) rfl), w64 (n := a + 1) (by omega) (by omega), w64 (n := i + 1) (by omega) (by omega)]
    have e : pre ++ iv (n + 1) a = (pre ++ [a]) ++ iv n (a + 1) := by simp [iv]
    rw [e, ih (pre ++ [a]) (a + 1) (i + 1) k (by simp; omega) (by omega) (by omega) (by omega) (by omega)]
    congr 1; omega
theorem heldInt64S_eq (n : Nat) (a : Int) (k : Nat) (hk : n < k) (h0 : 0 ≤ a) (h1 : a + n ≤ 1000000000000) : laws_heldInt64S.f k (iv n a) a = some (a + n) := by
  unfold laws_heldInt64S.f
  have := heldInt64S_l0 n [] a 0 k rfl hk h0 h1 (by omega)
  simpa using this
theorem heldInt64SS_l0 (B : Nat) : ∀ (L : List (List Int)) (pre : List (List Int)) (a i : Int) (K : Nat), (pre.length : Int) = i → (∀ p ∈ L, p.length ≤ B) → L.length + B + 10 ≤ K → 0 ≤ a → a + tot L ≤ 1000000000000 → i + L.length ≤ 1000000000000 →
    laws_heldInt64SS.l0 K (pre ++ ivs L a) a i = some (a + tot L) := by
  intro L
  induction L with
  | nil =>
    intro pre a i K hi hB hK h0 h1 h2
    obtain ⟨K, rfl⟩ : ∃ z, K = z + 1 := ⟨K - 1, by omega⟩
    rw [laws_heldInt64SS.l0, if_neg (by simp [ivs]; omega)]; simp [tot]
  | cons l L ih =>
    intro pre a i K hi hB hK h0 h1 h2
    obtain ⟨K, rfl⟩ : ∃ z, K = z + 1 := ⟨K - 1, by omega⟩
    simp only [List.length_cons, tot] at hK h1 h2
    have hl := hB l List.mem_cons_self
    have e1 : rd_L1 (pre ++ ivs (l :: L) a) i = iv l.length a := rdL1_right pre (ivs (l :: L) a) i hi.symm _ (ivs L (a + l.length)) rfl
    have hlen : ((pre ++ ivs (l :: L) a).length : Int) = i + (1 + (ivs L (a + l.length)).length : Nat) := by simp [ivs]; omega
    rw [laws_heldInt64SS.l0, if_pos (by rw [hlen]; omega), if_pos (by omega), e1, heldInt64S_eq l.length a K (by omega) h0 (by omega)]
    simp only [Option.bind_some]
    rw [if_neg (by omega), w64 (n := i + 1) (by omega) (by omega)]
    have e2 : pre ++ ivs (l :: L) a = (pre ++ [iv l.length a]) ++ ivs L (a + l.length) := by simp [ivs]
    rw [e2, ih (pre ++ [iv l.length a]) (a + l.length) (i + 1) K (by simp; omega) (fun p hp => hB p (List.mem_cons_of_mem _ hp)) (by omega) (by omega) (by omega) (by omega)]
    simp only [tot]; congr 1; push_cast; omega
theorem heldInt64SS_eq (L : List (List Int)) (a : Int) (hL : L.length ≤ 1048576) (hLL : ∀ p ∈ L, p.length ≤ 1048576) (h0 : 0 ≤ a) (h1 : a + tot L ≤ 1000000000000) (K : Nat) (hK : 2097200 ≤ K) : laws_heldInt64SS.f K (ivs L a) a = some (a + tot L) := by
  unfold laws_heldInt64SS.f
  have := heldInt64SS_l0 1048576 L [] a 0 K rfl hLL (by omega) h0 h1 (by omega)
  simpa using this
theorem eqFrameResult_self (c n s r m p : Int) (l g : List Int) (L : List (List Int)) (hl : l.length ≤ 1048576) (hg : g.length ≤ 1048576) (hL : L.length ≤ 1048576) (hLL : ∀ p ∈ L, p.length ≤ 1048576) (K : Nat) (hK : 2097160 < K) : laws_eqFrameResult.f K c n s r m p l g L c n s r m p l g L = some true := by
  unfold laws_eqFrameResult.f; rw [if_pos rfl, eqFrame_self n s r m p l g L hl hg hL hLL K hK]; rfl
theorem heldFrame_ok (n s r m p : Int) (l g : List Int) (L : List (List Int)) (a : Int) (hl : l.length ≤ 1048576) (hg : g.length ≤ 1048576) (hL : L.length ≤ 1048576) (hLL : ∀ p ∈ L, p.length ≤ 1048576) (h0 : 0 ≤ a) (h1 : a + l.length + g.length + tot L ≤ 1000000000000) (K : Nat) (hK : 2097200 ≤ K) :
    laws_heldFrame.f K n s r m p (iv l.length a) (iv g.length (a + l.length)) (ivs L (a + l.length + g.length)) a = some (a + l.length + g.length + tot L) := by
  unfold laws_heldFrame.f
  rw [heldInt64S_eq l.length a K (by omega) h0 (by omega)]; simp only [Option.bind_some]
  rw [if_neg (by omega), heldInt64S_eq g.length _ K (by omega) (by omega) (by omega)]; simp only [Option.bind_some]
  rw [if_neg (by omega), heldInt64SS_eq L _ hL hLL (by omega) h1 K hK]; simp only [Option.bind_some]
  rw [if_neg (by omega)]
theorem mkR_len (a n : Int) (l : List Int) (r p : Int) (hl : l.length ≤ 1048576) : (mkR a n l r p).2.2.2.2.2.2.1.length ≤ 1048576 ∧ (mkR a n l r p).2.2.2.2.2.2.2.1.length ≤ 1048576 ∧ (mkR a n l r p).2.2.2.2.2.2.2.2.length ≤ 4 ∧ ∀ q ∈ (mkR a n l r p).2.2.2.2.2.2.2.2, q.length ≤ 1048576 := by
  have he : ∀ c : Int, (frErr c).2.2.2.2.2.2.1.length ≤ 1048576 ∧ (frErr c).2.2.2.2.2.2.2.1.length ≤ 1048576 ∧ (frErr c).2.2.2.2.2.2.2.2.length ≤ 4 ∧ ∀ q ∈ (frErr c).2.2.2.2.2.2.2.2, q.length ≤ 1048576 := fun c => by simp [frErr]
  unfold mkR
  by_cases hn : 0 ≤ n ∧ n ≤ 9999
  · rw [if_neg (fun h => h hn)]
    by_cases hc : cfR a l = 0
    · rw [if_neg (fun h => h hc)]
      obtain ⟨ha, hlen, hw⟩ := cfR_0 hc
      have hB : (bnds a).length ≤ 2 := by rcases bnds_cases a with ⟨_, e⟩ | ⟨_, e⟩ | ⟨_, _, e⟩ <;> rw [e] <;> simp
      split
      · exact he 3
      · unfold mkEnd
        split
        · exact ⟨by simp only []; unfold mkLows; rw [List.length_map, List.length_take]; omega, by simp only []; rw [List.length_map]; omega, by simp only []; rw [List.length_map]; omega, mkPls_len _ a l ha hlen⟩
        · exact he _
    · rw [if_pos hc]; exact he _
  · rw [if_pos hn]; exact he 3
theorem toInt64S_l0 (l : List Int) (hl : l.length ≤ 1000000000000) : ∀ (rest pre : List Int) (i : Int) (k : Nat) (z : List Int), l = pre ++ rest → (pre.length : Int) = i → rest.length < k → z.length = rest.length →
    laws_toInt64S.l0 k l (pre ++ z) i = some l := by
  intro rest
  induction rest with
  | nil =>
    intro pre i k z hl2 hi hk hz
    obtain ⟨k, rfl⟩ : ∃ m, k = m + 1 := ⟨k - 1, by omega⟩
    have : z = [] := List.eq_nil_of_length_eq_zero hz
    subst this
    simp only [laws_toInt64S.l0]
    rw [if_neg (by rw [hl2]; simp; omega), hl2]
  | cons x rest ih =>
    intro pre i k z hl2 hi hk hz
    obtain ⟨k, rfl⟩ : ∃ m, k = m + 1 := ⟨k - 1, by omega⟩
    obtain ⟨y, z, rfl⟩ : ∃ y z', z = y :: z' := by cases z with | nil => simp at hz | cons y z => exact ⟨y, z, rfl⟩
    simp only [List.length_cons] at hk hz
    have hlen : l.length = pre.length + (rest.length + 1) := by rw [hl2]; simp
    simp only [laws_toInt64S.l0]
    have hr : rd l i = x := by rw [hl2]; exact rd_append_right pre (x :: rest) i hi.symm x rest rfl
    rw [if_pos (by omega), if_pos (by omega), if_pos (by simp; omega), hr, w64 (n := i + 1) (by omega) (by omega)]
    have e : (pre ++ y :: z).set i.toNat x = (pre ++ [x]) ++ z := by
      have hn : i.toNat = pre.length := by omega
      rw [hn, List.set_append_right _ _ (Nat.le_refl _)]; simp
    rw [e]
    exact ih (pre ++ [x]) (i + 1) k z (by rw [hl2]; simp) (by simp; omega) (by omega) (by omega)
theorem toInt64S_eq (l : List Int) (hl : l.length ≤ 1000000000) (k : Nat) (hk : l.length < k) : laws_toInt64S.f k l = some l := by
  unfold laws_toInt64S.f
  rw [if_pos (by omega), if_pos (by omega)]
  have := toInt64S_l0 l (by omega) l [] 0 k (List.replicate ((l.length : Int)).toNat 0) rfl rfl hk (by simp)
  simpa using this
theorem FnExactMakeFrame : laws_FnExactMakeFrame.Pure := by
  intro a n l r p _ _ hl _ _ _
  refine ⟨3000000, ?_⟩
  unfold laws_FnExactMakeFrame.f
  by_cases hbig : (l.length : Int) > 1048576
  · rw [if_pos hbig]
  rw [if_neg hbig, toInt64S_eq l (by omega) 3000000 (by omega)]; simp only [Option.bind_some]
  rw [specMakeFrame_eq a n l r p (by omega) 3000000 (by omega)]; simp only [Option.bind_some]
  rw [MakeFrame_eq a n l r p 3000000 (by omega)]
  have hR := mkR_len a n l r p (by omega)
  generalize mkR a n l r p = R at hR ⊢
  obtain ⟨c0, n1, s1, r1, m1, p1, l1, g1, L1⟩ := R
  obtain ⟨k1, k2, k3, k4⟩ := hR
  simp only [] at k1 k2 k3 k4
  have ht := tot_le 1048576 L1 k4
  have ht2 : 1048576 * L1.length ≤ 1048576 * 4 := Nat.mul_le_mul_left _ k3
  simp only [Option.bind_some]
  rw [eqFrameResult_self _ _ _ _ _ _ l1 g1 L1 k1 k2 (by omega) k4 3000000 (by omega)]; simp only [Option.bind_some, if_true]
  rw [eqInt64S_self l (by omega) 3000000 (by omega)]; simp only [Option.bind_some, if_true]
  rw [markInt64S_eq l 1 3000000 (by omega) (by omega) (by omega)]; simp only [Option.bind_some]
  rw [if_neg (by omega)]
  unfold laws_markFrameResult.f laws_heldFrameResult.f
  rw [markFrame_ok _ _ _ _ _ l1 g1 L1 1 k1 k2 (by omega) k4 (by omega) (by omega) 3000000 (by omega)]; simp only [Option.bind_some]
  rw [heldFrame_ok _ _ _ _ _ l1 g1 L1 1 k1 k2 (by omega) k4 (by omega) (by omega) 3000000 (by omega)]; simp only [Option.bind_some]
  rw [if_neg (by omega)]; simp only [Option.bind_some]
  rw [if_neg (by omega)]; simp

end Go.Proofs.Ythehhncokikgcaa.Pure
