/- The program's PartOf returns what the reference's returns, for all arguments. -/
import Derived.Test.YthehhncokikgcaaPFnExactPartOfx16
set_option linter.unusedVariables false
set_option linter.unusedSimpArgs false
namespace Go.Proofs.Ythehhncokikgcaa.Pure
open Go.RowKit Go.Proofs.Ythehhncokikgcaa.PFnExactPartOf Go.Proofs.YthehhncokikgcaaW.PrintWords Go.Proofs.YthehhncokikgcaaW.PrintLast

theorem w64 {n : Int} (h1 : -9223372036854775808 ≤ n) (h2 : n ≤ 9223372036854775807) : wrap64 n = n := by unfold wrap64; omega
theorem maxLen_eq : maxLen = 9223372036854775807 := rfl
theorem szInt64S_eq (l : List Int) (a : Int) (h0 : 0 ≤ a) (h1 : a ≤ 1048576) (hl : l.length ≤ maxLen) : laws_szInt64S.f l a = some (if a - (l.length : Int) < 0 then -1 else a - (l.length : Int)) := by
  rw [maxLen_eq] at hl
  unfold laws_szInt64S.f
  rw [w64 (n := a - (l.length : Int)) (by omega) (by omega)]
  split <;> rfl
theorem szInt64SS_l0 (L : List (List Int)) (hL : L.length ≤ 1048576) (hm : ∀ l ∈ L, l.length ≤ maxLen) : ∀ (n : Nat) (i a : Int) (K : Nat), i + n = L.length → 0 ≤ i → 0 ≤ a → a ≤ 1048576 → n < K →
    ∃ t, laws_szInt64SS.l0 K L a i = some t ∧ t ≤ 1048576 ∧ (t < 0 ∨ ∀ j : Int, i ≤ j → j < L.length → ((rd_L1 L j).length : Int) ≤ 1048576) := by
  intro n
  induction n with
  | zero =>
    intro i a K hi h0 h1 h2 hK
    obtain ⟨K, rfl⟩ : ∃ m, K = m + 1 := ⟨K - 1, by omega⟩
    simp only [laws_szInt64SS.l0]
    rw [if_neg (by omega)]
    exact ⟨a, rfl, h2, Or.inr fun j h3 h4 => by omega⟩
  | succ n ih =>
    intro i a K hi h0 h1 h2 hK
    obtain ⟨K, rfl⟩ : ∃ m, K = m + 1 := ⟨K - 1, by omega⟩
    simp only [laws_szInt64SS.l0]
    have hmem : (rd_L1 L i).length ≤ maxLen := by
      apply hm
      unfold rd_L1
      rw [List.getD_eq_getElem?_getD, List.getElem?_eq_getElem (show i.toNat < L.length by omega)]
      exact List.getElem_mem _
    rw [if_pos (by omega), if_pos h0, szInt64S_eq _ a h1 h2 hmem]
    simp only [Option.bind_some]
    by_cases c : a - ((rd_L1 L i).length : Int) < 0
    · rw [if_pos c, if_pos (by omega)]
      exact ⟨-1, rfl, by omega, Or.inl (by omega)⟩
    · rw [if_neg c, if_neg c, w64 (n := i + 1) (by omega) (by omega)]
      obtain ⟨t, ht, h5, h6⟩ := ih (i + 1) (a - ((rd_L1 L i).length : Int)) K (by omega) (by omega) (by omega) (by omega) (by omega)
      refine ⟨t, ht, h5, h6.imp id fun h7 j h8 h9 => ?_⟩
      by_cases e : j = i
      · subst e; omega
      · exact h7 j (by omega) h9
theorem szInt64SS_eq (L : List (List Int)) (a : Int) (h1 : 0 ≤ a) (h2 : a ≤ 1048576) (hl : L.length ≤ maxLen) (hm : ∀ l ∈ L, l.length ≤ maxLen) (K : Nat) (hK : 1048577 ≤ K) :
    ∃ t, laws_szInt64SS.f K L a = some t ∧ t ≤ 1048576 ∧ (t < 0 ∨ (L.length ≤ 1048576 ∧ ∀ l ∈ L, l.length ≤ 1048576)) := by
  rw [maxLen_eq] at hl
  unfold laws_szInt64SS.f
  rw [w64 (n := a - (L.length : Int)) (by omega) (by omega)]
  by_cases c : a - (L.length : Int) < 0
  · rw [if_pos c]; exact ⟨-1, rfl, by omega, Or.inl (by omega)⟩
  · rw [if_neg c]
    obtain ⟨t, ht, h5, h6⟩ := szInt64SS_l0 L (by omega) hm L.length 0 (a - (L.length : Int)) K (by omega) (by omega) (by omega) (by omega) (by omega)
    refine ⟨t, ht, h5, h6.imp id fun h7 => ⟨by omega, fun l hl => ?_⟩⟩
    obtain ⟨j, hj, rfl⟩ := List.getElem_of_mem hl
    have := h7 (j : Int) (by omega) (by omega)
    unfold rd_L1 at this
    rw [Int.toNat_natCast, List.getD_eq_getElem?_getD, List.getElem?_eq_getElem hj] at this
    simp only [Option.getD_some] at this
    omega
theorem szFrame_gen (a b c d e : Int) (l m : List Int) (L : List (List Int)) (q : Int) (q0 : 0 ≤ q) (q1 : q ≤ 1048576) (hl : l.length ≤ maxLen) (hm : m.length ≤ maxLen) (hL : L.length ≤ maxLen) (hLL : ∀ p ∈ L, p.length ≤ maxLen) (K : Nat) (hK : 1048577 ≤ K) :
    ∃ t, laws_szFrame.f K a b c d e l m L q = some t ∧ t ≤ 1048576 ∧ (t < 0 ∨ (l.length ≤ 1048576 ∧ m.length ≤ 1048576 ∧ L.length ≤ 1048576 ∧ ∀ p ∈ L, p.length ≤ 1048576)) := by
  unfold laws_szFrame.f
  rw [szInt64S_eq l q (by omega) (by omega) hl]; simp only [Option.bind_some]
  by_cases c1 : q - (l.length : Int) < 0
  · rw [if_pos c1, if_pos (by omega)]; exact ⟨-1, rfl, by omega, Or.inl (by omega)⟩
  rw [if_neg c1, if_neg c1, szInt64S_eq m _ (by omega) (by omega) hm]; simp only [Option.bind_some]
  by_cases c2 : q - (l.length : Int) - (m.length : Int) < 0
  · rw [if_pos c2, if_pos (by omega)]; exact ⟨-1, rfl, by omega, Or.inl (by omega)⟩
  rw [if_neg c2, if_neg c2]
  obtain ⟨t, ht, h5, h6⟩ := szInt64SS_eq L (q - (l.length : Int) - (m.length : Int)) (by omega) (by omega) hL hLL K hK
  rw [ht]; simp only [Option.bind_some]
  by_cases c3 : t < 0
  · rw [if_pos c3]; exact ⟨-1, rfl, by omega, Or.inl (by omega)⟩
  · rw [if_neg c3]
    rcases h6 with h6 | ⟨h7, h8⟩
    · omega
    · exact ⟨t, rfl, h5, Or.inr ⟨by omega, by omega, h7, h8⟩⟩
theorem szFrame_eq (a b c d e : Int) (l m : List Int) (L : List (List Int)) (hl : l.length ≤ maxLen) (hm : m.length ≤ maxLen) (hL : L.length ≤ maxLen) (hLL : ∀ p ∈ L, p.length ≤ maxLen) (K : Nat) (hK : 1048577 ≤ K) :
    ∃ t, laws_szFrame.f K a b c d e l m L 1048576 = some t ∧ (t < 0 ∨ (l.length ≤ 1048576 ∧ m.length ≤ 1048576 ∧ L.length ≤ 1048576 ∧ ∀ p ∈ L, p.length ≤ 1048576)) := by
  obtain ⟨t, h1, _, h3⟩ := szFrame_gen a b c d e l m L 1048576 (by omega) (by omega) hl hm hL hLL K hK
  exact ⟨t, h1, h3⟩
theorem rd_append_right (P Q : List Int) (i : Int) (h : i = (P.length : Int)) (x : Int) (R : List Int) (hQ : Q = x :: R) : rd (P ++ Q) i = x := by
  subst hQ; unfold rd; rw [h, Int.toNat_natCast, List.getD_eq_getElem?_getD, List.getElem?_append_right (Nat.le_refl _)]; simp
theorem rd_get (l : List Int) (i : Int) (h0 : 0 ≤ i) (h1 : i < (l.length : Int)) : rd l i = l[i.toNat]'(by omega) := by
  unfold rd; rw [List.getD_eq_getElem?_getD, List.getElem?_eq_getElem (by omega)]; rfl
theorem toInt64S_l0 (l : List Int) (hl : l.length ≤ 1000000000000) : ∀ (rest pre : List Int) (i : Int) (k : Nat) (z : List Int), l = pre ++ rest → (pre.length : Int) = i → rest.length < k → z.length = rest.length →
    laws_toInt64S.l0 k l (pre ++ z) i = some l := by
  intro rest
  induction rest with
  | nil =>
    intro pre i k z hl2 hi hk hz
    obtain ⟨k, rfl⟩ : ∃ m, k = m + 1 := ⟨k - 1, by omega⟩
    have : z = [] := List.eq_nil_of_length_eq_zero hz
    subst this
    simp only [laws_toInt64S.l0]
    rw [if_neg (by rw [hl2]; simp; omega), hl2]
  | cons x rest ih =>
    intro pre i k z hl2 hi hk hz
    obtain ⟨k, rfl⟩ : ∃ m, k = m + 1 := ⟨k - 1, by omega⟩
    obtain ⟨y, z, rfl⟩ : ∃ y z', z = y :: z' := by cases z with | nil => simp at hz | cons y z => exact ⟨y, z, rfl⟩
    simp only [List.length_cons] at hk hz
    have hlen : l.length = pre.length + (rest.length + 1) := by rw [hl2]; simp
    simp only [laws_toInt64S.l0]
    have hr : rd l i = x := by rw [hl2]; exact rd_append_right pre (x :: rest) i hi.symm x rest rfl
    rw [if_pos (by omega), if_pos (by omega), if_pos (by simp; omega), hr, w64 (n := i + 1) (by omega) (by omega)]
    have e : (pre ++ y :: z).set i.toNat x = (pre ++ [x]) ++ z := by
      have hn : i.toNat = pre.length := by omega
      rw [hn, List.set_append_right _ _ (Nat.le_refl _)]; simp
    rw [e]
    exact ih (pre ++ [x]) (i + 1) k z (by rw [hl2]; simp) (by simp; omega) (by omega) (by omega)
theorem toInt64S_eq (l : List Int) (hl : l.length ≤ 1000000000) (k : Nat) (hk : l.length < k) : laws_toInt64S.f k l = some l := by
  unfold laws_toInt64S.f
  rw [if_pos (by omega), if_pos (by omega)]
  have := toInt64S_l0 l (by omega) l [] 0 k (List.replicate ((l.length : Int)).toNat 0) rfl rfl hk (by simp)
  simpa using this
theorem rdL1_right (P Q : List (List Int)) (i : Int) (h : i = (P.length : Int)) (x : List Int) (R : List (List Int)) (hQ : Q = x :: R) : rd_L1 (P ++ Q) i = x := by
  subst hQ; unfold rd_L1; rw [h, Int.toNat_natCast, List.getD_eq_getElem?_getD, List.getElem?_append_right (Nat.le_refl _)]; simp
theorem toInt64SS_l0 (L : List (List Int)) (hL : L.length ≤ 1000000000) (hLL : ∀ p ∈ L, p.length ≤ 1048576) : ∀ (rest pre : List (List Int)) (i : Int) (k : Nat) (z : List (List Int)), L = pre ++ rest → (pre.length : Int) = i → rest.length + 1048580 < k → z.length = rest.length →
    laws_toInt64SS.l0 k L (pre ++ z) i = some L := by
  intro rest
  induction rest with
  | nil =>
    intro pre i k z hl2 hi hk hz
    obtain ⟨k, rfl⟩ : ∃ m, k = m + 1 := ⟨k - 1, by omega⟩
    have : z = [] := List.eq_nil_of_length_eq_zero hz
    subst this
    simp only [laws_toInt64SS.l0]
    rw [if_neg (by rw [hl2]; simp; omega), hl2]
  | cons x rest ih =>
    intro pre i k z hl2 hi hk hz
    obtain ⟨k, rfl⟩ : ∃ m, k = m + 1 := ⟨k - 1, by omega⟩
    obtain ⟨y, z, rfl⟩ : ∃ y z', z = y :: z' := by cases z with | nil => simp at hz | cons y z => exact ⟨y, z, rfl⟩
    simp only [List.length_cons] at hk hz
    have hlen : L.length = pre.length + (rest.length + 1) := by rw [hl2]; simp
    have hx : x.length ≤ 1048576 := hLL x (by rw [hl2]; simp)
    simp only [laws_toInt64SS.l0]
    have hr : rd_L1 L i = x := by rw [hl2]; exact rdL1_right pre (x :: rest) i hi.symm x rest rfl
    rw [if_pos (by omega), if_pos (by omega), hr, toInt64S_eq x (by omega) k (by omega)]
    simp only [Option.bind_some]
    rw [if_pos (by simp; omega), w64 (n := i + 1) (by omega) (by omega)]
    have e : (pre ++ y :: z).set i.toNat x = (pre ++ [x]) ++ z := by
      have hn : i.toNat = pre.length := by omega
      rw [hn, List.set_append_right _ _ (Nat.le_refl _)]; simp
    rw [e]
    exact ih (pre ++ [x]) (i + 1) k z (by rw [hl2]; simp) (by simp; omega) (by omega) (by omega)
theorem toInt64SS_eq (L : List (List Int)) (hL : L.length ≤ 1048576) (hLL : ∀ p ∈ L, p.length ≤ 1048576) (k : Nat) (hk : 2097160 < k) : laws_toInt64SS.f k L = some L := by
  unfold laws_toInt64SS.f
  rw [if_pos (by omega), if_pos (by omega)]
  have := toInt64SS_l0 L (by omega) hLL L [] 0 k (List.replicate ((L.length : Int)).toNat []) rfl rfl (by omega) (by simp)
  simpa using this
theorem toFrame_eq (a b c d e : Int) (l m : List Int) (L : List (List Int)) (hl : l.length ≤ 1048576) (hm : m.length ≤ 1048576) (hL : L.length ≤ 1048576) (hLL : ∀ p ∈ L, p.length ≤ 1048576) (K : Nat) (hK : 2097160 < K) : laws_toFrame.f K a b c d e l m L = some (a, b, c, d, e, l, m, L) := by
  unfold laws_toFrame.f
  rw [toInt64S_eq l (by omega) K (by omega)]; simp only [Option.bind_some]
  rw [toInt64S_eq m (by omega) K (by omega)]; simp only [Option.bind_some]
  rw [toInt64SS_eq L hL hLL K hK]; rfl
theorem eqInt64S_l0 (l : List Int) (hl : l.length ≤ 1000000000000) : ∀ (d k : Nat) (i : Int), (l.length : Int) - i = d → 0 ≤ i → d < k → laws_eqInt64S.l0 k l l i = some true := by
  intro d
  induction d with
  | zero =>
    intro k i hd h0 hk
    obtain ⟨k, rfl⟩ : ∃ m, k = m + 1 := ⟨k - 1, by omega⟩
    simp only [laws_eqInt64S.l0]; rw [if_neg (by omega)]
  | succ d ih =>
    intro k i hd h0 hk
    obtain ⟨k, rfl⟩ : ∃ m, k = m + 1 := ⟨k - 1, by omega⟩
    simp only [laws_eqInt64S.l0]
    rw [if_pos (by omega), if_pos h0, if_pos (by omega), if_pos True.intro, w64 (by omega) (by omega)]
    exact ih k (i + 1) (by omega) (by omega) (by omega)
theorem eqInt64S_self (l : List Int) (hl : l.length ≤ 1000000000000) (k : Nat) (hk : l.length < k) : laws_eqInt64S.f k l l = some true := by
  unfold laws_eqInt64S.f; rw [if_pos rfl]; exact eqInt64S_l0 l hl l.length k 0 (by omega) (by omega) hk
theorem eqInt64SS_l0 (L : List (List Int)) (hL : L.length ≤ 1000000000) (hLL : ∀ p ∈ L, p.length ≤ 1048576) : ∀ (d k : Nat) (i : Int), (L.length : Int) - i = d → 0 ≤ i → d + 1048580 < k → laws_eqInt64SS.l0 k L L i = some true := by
  intro d
  induction d with
  | zero =>
    intro k i hd h0 hk
    obtain ⟨k, rfl⟩ : ∃ m, k = m + 1 := ⟨k - 1, by omega⟩
    simp only [laws_eqInt64SS.l0]; rw [if_neg (by omega)]
  | succ d ih =>
    intro k i hd h0 hk
    obtain ⟨k, rfl⟩ : ∃ m, k = m + 1 := ⟨k - 1, by omega⟩
    have hmem : (rd_L1 L i).length ≤ 1048576 := by
      apply hLL
      unfold rd_L1
      rw [List.getD_eq_getElem?_getD, List.getElem?_eq_getElem (show i.toNat < L.length by omega)]
      exact List.getElem_mem _
    simp only [laws_eqInt64SS.l0]
    rw [if_pos (by omega), if_pos h0, if_pos (by omega), eqInt64S_self _ (by omega) k (by omega)]
    simp only [Option.bind_some, if_true]
    rw [w64 (n := i + 1) (by omega) (by omega)]
    exact ih k (i + 1) (by omega) (by omega) (by omega)
theorem eqInt64SS_self (L : List (List Int)) (hL : L.length ≤ 1048576) (hLL : ∀ p ∈ L, p.length ≤ 1048576) (k : Nat) (hk : 2097160 < k) : laws_eqInt64SS.f k L L = some true := by
  unfold laws_eqInt64SS.f
  rw [if_pos rfl]; exact eqInt64SS_l0 L (by omega) hLL L.length k 0 (by omega) (by omega) (by omega)
theorem eqFrame_self (a b c d e : Int) (l m : List Int) (L : List (List Int)) (hl : l.length ≤ 1048576) (hm : m.length ≤ 1048576) (hL : L.length ≤ 1048576) (hLL : ∀ p ∈ L, p.length ≤ 1048576) (K : Nat) (hK : 2097160 < K) : laws_eqFrame.f K a b c d e l m L a b c d e l m L = some true := by
  unfold laws_eqFrame.f
  simp only [if_true]
  rw [eqInt64S_self l (by omega) K (by omega)]; simp only [Option.bind_some, if_true]
  rw [eqInt64S_self m (by omega) K (by omega)]; simp only [Option.bind_some, if_true]
  rw [eqInt64SS_self L hL hLL K hK]; rfl
/-- The code of a size. -/
def szR (a : Int) : Int := if a = 4 ∨ a = 8 ∨ a = 16 then 0 else 3
theorem SizeFault_eq (a : Int) : impl_SizeFault.f a = some (szR a) := by
  unfold impl_SizeFault.f szR
  by_cases h1 : a = 4
  · simp [h1]
  · by_cases h2 : a = 8
    · simp [h2]
    · by_cases h3 : a = 16
      · simp [h3]
      · simp [h1, h2, h3]
theorem szR_0 {a : Int} : szR a = 0 ↔ (a = 4 ∨ a = 8 ∨ a = 16) := by unfold szR; split <;> simp_all
theorem szR_no {a : Int} (h : ¬ (a = 4 ∨ a = 8 ∨ a = 16)) : szR a = 3 := by unfold szR; rw [if_neg h]
theorem szR_yes {a : Int} (h : a = 4 ∨ a = 8 ∨ a = 16) : szR a = 0 := by unfold szR; rw [if_pos h]
/-- The code of what frames and parts have in common. -/
def headR (n s r m p : Int) : Int := if ¬ (0 ≤ n ∧ n ≤ 9999) then 3 else if szR s ≠ 0 then szR s else if (0 ≤ r ∧ r ≤ 47) ∧ (0 ≤ m ∧ m ≤ 3) ∧ (0 ≤ p ∧ p ≤ 2) then 0 else 3
theorem headR_0 {n s r m p : Int} (h : headR n s r m p = 0) : (0 ≤ n ∧ n ≤ 9999) ∧ (s = 4 ∨ s = 8 ∨ s = 16) ∧ (0 ≤ r ∧ r ≤ 47) ∧ (0 ≤ m ∧ m ≤ 3) ∧ (0 ≤ p ∧ p ≤ 2) := by
  unfold headR at h
  by_cases h1 : 0 ≤ n ∧ n ≤ 9999
  · rw [if_neg (show ¬ ¬ (0 ≤ n ∧ n ≤ 9999) from fun g => g h1)] at h
    by_cases h2 : szR s = 0
    · rw [if_neg (show ¬ szR s ≠ 0 from fun g => g h2)] at h
      by_cases h3 : (0 ≤ r ∧ r ≤ 47) ∧ (0 ≤ m ∧ m ≤ 3) ∧ (0 ≤ p ∧ p ≤ 2)
      · exact ⟨h1, szR_0.mp h2, h3⟩
      · rw [if_neg h3] at h; simp at h
    · rw [if_pos h2] at h; exact absurd h h2
  · rw [if_pos h1] at h; simp at h
/-- The bands of a size. -/
def bnds (s : Int) : List S93 := if s = 4 then [⟨2, 2⟩] else if s = 8 then [⟨4, 2⟩, ⟨6, 2⟩] else [⟨8, 4⟩, ⟨12, 4⟩]
theorem bandsOf_eq (s : Int) : impl_bandsOf.f s = some (bnds s) := by unfold impl_bandsOf.f bnds; split <;> (try rfl); split <;> rfl
theorem bnds_cases (s : Int) : (s = 4 ∧ bnds s = [⟨2, 2⟩]) ∨ (s = 8 ∧ bnds s = [⟨4, 2⟩, ⟨6, 2⟩]) ∨ (s ≠ 4 ∧ s ≠ 8 ∧ bnds s = [⟨8, 4⟩, ⟨12, 4⟩]) := by
  unfold bnds
  by_cases h1 : s = 4
  · exact Or.inl ⟨h1, by rw [if_pos h1]⟩
  · by_cases h2 : s = 8
    · exact Or.inr (Or.inl ⟨h2, by rw [if_neg h1, if_pos h2]⟩)
    · exact Or.inr (Or.inr ⟨h1, h2, by rw [if_neg h1, if_neg h2]⟩)
/-- The code of how many Lows, Gains and Pulses there are. -/
def cntR (s : Int) (l m : List Int) (L : List (List Int)) : Int := if (l.length : Int) = s / 2 ∧ m.length = (bnds s).length ∧ L.length = (bnds s).length then 0 else 2
/-- The step of a rung. -/
def stp (r : Int) : Int := if r ≤ 0 then 1 else if r % 2 = 1 then 2 ^ ((r + 1) / 2).toNat else 3 * 2 ^ (r / 2 - 1).toNat
theorem stp_pos (r : Int) (h0 : 0 ≤ r) (h1 : r ≤ 47) : 1 ≤ stp r ∧ stp r ≤ 16777216 := by
  have key : ∀ n : Nat, n < 48 → 1 ≤ stp (n : Int) ∧ stp (n : Int) ≤ 16777216 := by decide +kernel
  have := key r.toNat (by omega)
  rwa [Int.toNat_of_nonneg h0] at this
theorem stp_lt (r : Int) (h0 : 0 ≤ r) (h1 : r < 47) : stp r < stp (r + 1) := by
  have key : ∀ n : Nat, n < 47 → stp (n : Int) < stp ((n : Int) + 1) := by decide +kernel
  have := key r.toNat (by omega)
  rwa [Int.toNat_of_nonneg h0] at this
/-- Is an index of a rung right: it and what it restores. -/
def lowB (r q : Int) : Bool := decide ((-30000 ≤ q ∧ q ≤ 30000) ∧ (-16777216 ≤ q * stp r ∧ q * stp r ≤ 16777216))
def gainB (r q : Int) : Bool := decide ((0 ≤ q ∧ q ≤ 65535) ∧ (-16777216 ≤ q * stp r ∧ q * stp r ≤ 16777216))
/-- The rung of gains. -/
def grg (r m : Int) : Int := if r + 2 * m ≤ 47 then r + 2 * m else 47
theorem grg_range {r m : Int} (hr : 0 ≤ r ∧ r ≤ 47) (hm : 0 ≤ m ∧ m ≤ 3) : 0 ≤ grg r m ∧ grg r m ≤ 47 := by unfold grg; split <;> omega
theorem inRange_eq (a b c : Int) : impl_inRange.f a b c = some (decide (b ≤ a ∧ a ≤ c)) := by
  unfold impl_inRange.f
  by_cases h : b ≤ a
  · rw [if_pos h]; simp [h]
  · rw [if_neg h]; simp [h]
theorem isDim_eq (a : Int) : impl_isDim.f a = some (decide (1 ≤ a ∧ a ≤ 4)) := by unfold impl_isDim.f; rw [inRange_eq]; rfl
theorem isPulses_eq (a : Int) : impl_isPulses.f a = some (decide (0 ≤ a ∧ a ≤ 8)) := by unfold impl_isPulses.f; rw [inRange_eq]; rfl
theorem codeIf_eq (b : Bool) (c : Int) : impl_codeIf.f b c = some (if b = true then c else 0) := by unfold impl_codeIf.f; split <;> rfl
theorem idxP_any (p : Int → Option Bool) (q : Int → Bool) : ∀ (l : List Int) (i : Int), 0 ≤ i → (∀ x ∈ l, p x = some (q x)) → ∃ r, idxP p l i = some r ∧ decide (0 ≤ r) = l.any q
  | [], i, _, _ => ⟨-1, rfl, by simp⟩
  | x :: l, i, hi, h => by
    obtain ⟨r, hr, hq⟩ := idxP_any p q l (i + 1) (by omega) (fun y hy => h y (by simp [hy]))
    simp only [idxP]
    rw [h x (by simp)]
    simp only [Option.bind_some]
    cases hx : q x with
    | true => exact ⟨i, by simp, by simp [hx, hi]⟩
    | false => exact ⟨r, by simp [hr], by simp [hx, hq]⟩
theorem anyP_eq (p : Int → Option Bool) (q : Int → Bool) (l : List Int) (h : ∀ x ∈ l, p x = some (q x)) : anyP p l = some (l.any q) := by
  obtain ⟨r, hr, hq⟩ := idxP_any p q l 0 (by omega) h
  unfold anyP; rw [hr]; simp only [Option.bind_some]; rw [hq]
/-- All of a list lie between two bounds. -/
def allW (l : List Int) (a b : Int) : Bool := l.all fun x => decide (a ≤ x ∧ x ≤ b)
theorem allW_cons (x : Int) (l : List Int) (a b : Int) : allW (x :: l) a b = (decide (a ≤ x ∧ x ≤ b) && allW l a b) := by simp [allW]
theorem allW_mem {l : List Int} {a b : Int} (h : allW l a b = true) {x : Int} (hx : x ∈ l) : a ≤ x ∧ x ≤ b := by
  unfold allW at h; rw [List.all_eq_true] at h; simpa using h x hx
theorem allW_mk {l : List Int} {a b : Int} (h : ∀ x ∈ l, a ≤ x ∧ x ≤ b) : allW l a b = true := by
  unfold allW; rw [List.all_eq_true]; intro x hx; simpa using h x hx
theorem within_eq (a b : Int) (h0 : 0 ≤ b) (h1 : b ≤ 9223372036854775807) : impl_within.f a b = some (decide (-b ≤ a ∧ a ≤ b)) := by
  unfold impl_within.f; rw [w64 (by omega) (by omega), inRange_eq]; rfl
theorem allWithin_eq (l : List Int) (m : Int) (h0 : 0 ≤ m) (h1 : m ≤ 9223372036854775807) : impl_allWithin.f l m = some (allW l (-m) m) := by
  unfold impl_allWithin.f
  rw [anyP_eq (notWithinP m) (fun x => !decide (-m ≤ x ∧ x ≤ m)) l (fun x _ => by unfold notWithinP; rw [within_eq x m h0 h1]; rfl)]
  simp only [Option.bind_some]
  congr 1
  unfold allW
  rw [List.any_eq_not_all_not]; simp
/-- The sum of the absolute values. -/
def nrm : List Int → Nat
  | [] => 0
  | x :: l => x.natAbs + nrm l
theorem nrm_append : ∀ (a b : List Int), nrm (a ++ b) = nrm a + nrm b
  | [], b => by simp [nrm]
  | x :: a, b => by simp only [List.cons_append, nrm, nrm_append a b]; omega
theorem nrm_le (M : Nat) : ∀ (l : List Int), (∀ x ∈ l, x.natAbs ≤ M) → nrm l ≤ M * l.length
  | [], _ => by simp [nrm]
  | x :: l, h => by
    have h1 := nrm_le M l (fun y hy => h y (by simp [hy]))
    have h2 := h x (by simp)
    simp only [nrm, List.length_cons, Nat.mul_add, Nat.mul_one]; omega
theorem nrm_mem : ∀ {l : List Int} {x : Int}, x ∈ l → x.natAbs ≤ nrm l
  | y :: l, x, h => by
    simp only [nrm]
    rcases List.mem_cons.1 h with rfl | h
    · omega
    · have := nrm_mem h; omega
theorem allW_nrm {l : List Int} {M : Nat} (h : allW l (-(M : Int)) M = true) : nrm l ≤ M * l.length :=
  nrm_le M l (fun x hx => by have := allW_mem h hx; omega)
theorem abs_eq (x : Int) (h0 : -9223372036854775807 ≤ x) (h1 : x ≤ 9223372036854775807) : impl_abs.f x = some (x.natAbs : Int) := by
  unfold impl_abs.f mx; rw [w64 (by omega) (by omega)]; congr 1; split <;> omega
theorem normOf_l0 (l : List Int) (hl : l.length ≤ 2000000) (hb : ∀ x ∈ l, x.natAbs ≤ 1099511627776) : ∀ (rest pre : List Int) (i s : Int) (k : Nat), l = pre ++ rest → (pre.length : Int) = i → rest.length < k → s = (nrm pre : Int) → impl_normOf.l0 k s l (l.length : Int) i = some (nrm l : Int) := by
  intro rest
  induction rest with
  | nil =>
    intro pre i s k h1 hi hk hs
    obtain ⟨k, rfl⟩ : ∃ m, k = m + 1 := ⟨k - 1, by omega⟩
    simp only [impl_normOf.l0]
    rw [if_neg (by rw [h1]; simp; omega), hs, h1]; simp
  | cons x rest ih =>
    intro pre i s k h1 hi hk hs
    obtain ⟨k, rfl⟩ : ∃ m, k = m + 1 := ⟨k - 1, by omega⟩
    simp only [List.length_cons] at hk
    have hlen : l.length = pre.length + (rest.length + 1) := by rw [h1]; simp
    have hx := hb x (by rw [h1]; simp)
    have hp := nrm_le 1099511627776 pre (fun y hy => hb y (by rw [h1]; simp [hy]))
    have hp2 : 1099511627776 * pre.length ≤ 1099511627776 * 2000000 := Nat.mul_le_mul_left _ (by omega)
    simp only [impl_normOf.l0]
    have hr : rd l i = x := by rw [h1]; exact rd_append_right pre (x :: rest) i hi.symm x rest rfl
    rw [if_pos (by omega), if_pos (by omega), if_pos (by omega), hr, abs_eq x (by omega) (by omega)]
    simp only [Option.bind_some]
    rw [w64 (n := s + _) (by omega) (by omega), w64 (n := i + 1) (by omega) (by omega)]
    exact ih (pre ++ [x]) (i + 1) _ k (by rw [h1]; simp) (by simp; omega) (by omega) (by rw [nrm_append]; simp only [nrm]; omega)
theorem normOf_eq (l : List Int) (hl : l.length ≤ 2000000) (hb : ∀ x ∈ l, x.natAbs ≤ 1099511627776) (k : Nat) (hk : l.length < k) : impl_normOf.f k l = some (nrm l : Int) := by
  unfold impl_normOf.f; exact normOf_l0 l hl hb l [] 0 0 k rfl rfl hk rfl
/-- The first code that is not 0. -/
def fst0 : List Int → Int
  | [] => 0
  | x :: l => if x = 0 then fst0 l else x
theorem first_l0 (l : List Int) (hl : l.length ≤ 2000000) : ∀ (rest pre : List Int) (i : Int) (k : Nat), l = pre ++ rest → (pre.length : Int) = i → rest.length < k → impl_first.l0 k l (l.length : Int) i = some (fst0 rest) := by
  intro rest
  induction rest with
  | nil =>
    intro pre i k h1 hi hk
    obtain ⟨k, rfl⟩ : ∃ m, k = m + 1 := ⟨k - 1, by omega⟩
    simp only [impl_first.l0]
    rw [if_neg (by rw [h1]; simp; omega)]; rfl
  | cons x rest ih =>
    intro pre i k h1 hi hk
    obtain ⟨k, rfl⟩ : ∃ m, k = m + 1 := ⟨k - 1, by omega⟩
    simp only [List.length_cons] at hk
    have hlen : l.length = pre.length + (rest.length + 1) := by rw [h1]; simp
    simp only [impl_first.l0]
    have hr : rd l i = x := by rw [h1]; exact rd_append_right pre (x :: rest) i hi.symm x rest rfl
    rw [if_pos (by omega), if_pos (by omega), if_pos (by omega), hr, w64 (n := i + 1) (by omega) (by omega)]
    simp only [fst0]
    by_cases c : x = 0
    · rw [if_pos c, if_pos c]; exact ih (pre ++ [x]) (i + 1) k (by rw [h1]; simp) (by simp; omega) (by omega)
    · rw [if_neg c, if_neg c]
theorem first_eq (l : List Int) (hl : l.length ≤ 1000) (k : Nat) (hk : l.length < k) : impl_first.f k l = some (fst0 l) := by
  unfold impl_first.f; exact first_l0 l (by omega) l [] 0 k rfl rfl hk
/-- The code of pulses. -/
def pfR (l : List Int) (k : Int) : Int := if ¬ (1 ≤ (l.length : Int) ∧ (l.length : Int) ≤ 4) then 2 else if ¬ (0 ≤ k ∧ k ≤ 8) then 3 else if allW l (-8) 8 = true ∧ (nrm l : Int) = k then 0 else 1
theorem allW8_nat {l : List Int} (h : allW l (-8) 8 = true) : ∀ x ∈ l, x.natAbs ≤ 1099511627776 := fun x hx => by have := allW_mem h hx; omega
theorem PulsesFault_eq (l : List Int) (a : Int) (hl : l.length ≤ 2000000) (k : Nat) (hk : l.length + 10 < k) : impl_PulsesFault.f k l a = some (pfR l a) := by
  unfold impl_PulsesFault.f
  simp only [isDim_eq, isPulses_eq, codeIf_eq, Option.bind_some]
  rw [allWithin_eq l 8 (by omega) (by omega)]
  simp only [Option.bind_some]
  unfold pfR
  by_cases hw : allW l (-8) 8 = true
  · rw [if_pos hw, normOf_eq l hl (allW8_nat hw) k (by omega)]
    simp only [Option.bind_some]
    rw [first_eq _ (by simp) k (by simp; omega)]
    by_cases h1 : 1 ≤ (l.length : Int) ∧ (l.length : Int) ≤ 4
    · by_cases h2 : 0 ≤ a ∧ a ≤ 8
      · by_cases h3 : (nrm l : Int) = a
        · simp [h1, h2, h3, hw, fst0]
        · simp [h1, h2, h3, hw, fst0]
      · simp [h1, h2, fst0]
    · simp [h1, fst0]
  · rw [if_neg hw]
    simp only [if_true, Option.bind_some]
    rw [first_eq _ (by simp) k (by simp; omega)]
    by_cases h1 : 1 ≤ (l.length : Int) ∧ (l.length : Int) ≤ 4
    · by_cases h2 : 0 ≤ a ∧ a ≤ 8
      · simp [h1, h2, hw, fst0]
      · simp [h1, h2, fst0]
    · simp [h1, fst0]
/-- The code of the pulses of a band of so many dimensions. -/
def bandR (d m : Int) (p : List Int) : Int := if (p.length : Int) ≠ d then 2 else pfR p (8 - 2 * m)
theorem pq_bound (p x : Int) (hp : 0 ≤ p ∧ p ≤ 2) (hx : -30000 ≤ x ∧ x ≤ 30000) : -90000 ≤ (p + 1) * x ∧ (p + 1) * x ≤ 90000 := by
  have : p = 0 ∨ p = 1 ∨ p = 2 := by omega
  rcases this with rfl | rfl | rfl <;> omega
/-- Is a low of a part right: it and what it restores. -/
def plowB (r p q : Int) : Bool := decide ((-30000 ≤ q ∧ q ≤ 30000) ∧ (-16777216 ≤ ((p + 1) * q) * stp r ∧ ((p + 1) * q) * stp r ≤ 16777216))
/-- The code of the pulses of a band in a part. -/
def pbandR (n side m i d : Int) (p : List Int) : Int := if Int.tmod (n + i) 2 = side then bandR d m p else if (p.length : Int) > 0 then 1 else 0
def pbandsR (n side m : Int) : Int → List S93 → List (List Int) → Int
  | i, b :: bs, p :: ps => if pbandR n side m i b.f1 p = 0 then pbandsR n side m (i + 1) bs ps else pbandR n side m i b.f1 p
  | _, _, _ => 0
/-- The code of a part. -/
def partR (n s r m p d : Int) (l g : List Int) (L : List (List Int)) : Int := if headR n s r m p ≠ 0 then headR n s r m p else if ¬ (0 ≤ d ∧ d ≤ 1) then 3 else if cntR s l g L ≠ 0 then 2 else if l.all (plowB r p) = true then (if g.all (gainB (grg r m)) = true then pbandsR n d m 0 (bnds s) L else 3) else 3
/-- The code of the pulses of the bands, one by one. -/
def bandsR (m : Int) : List S93 → List (List Int) → Int
  | b :: bs, p :: ps => if bandR b.f1 m p = 0 then bandsR m bs ps else bandR b.f1 m p
  | _, _ => 0
/-- The code of a frame. -/
def ffR (n s r m p : Int) (l g : List Int) (L : List (List Int)) : Int := if headR n s r m p ≠ 0 then headR n s r m p else if cntR s l g L ≠ 0 then 2 else if l.all (lowB r) = true then (if g.all (gainB (grg r m)) = true then bandsR m (bnds s) L else 3) else 3
theorem bnds_two (s : Int) (L : List (List Int)) (h : L.length = (bnds s).length) : (∃ b p, bnds s = [b] ∧ L = [p]) ∨ (∃ b c p q, bnds s = [b, c] ∧ L = [p, q]) := by
  rcases bnds_cases s with ⟨_, e⟩ | ⟨_, e⟩ | ⟨_, _, e⟩ <;> rw [e] at h ⊢
  · match L, h with
    | [p], _ => exact Or.inl ⟨_, p, rfl, rfl⟩
  · match L, h with
    | [p, q], _ => exact Or.inr ⟨_, _, p, q, rfl, rfl⟩
  · match L, h with
    | [p, q], _ => exact Or.inr ⟨_, _, p, q, rfl, rfl⟩
theorem pfR_0 {l : List Int} {k : Int} (h : pfR l k = 0) : (1 ≤ (l.length : Int) ∧ (l.length : Int) ≤ 4) ∧ (0 ≤ k ∧ k ≤ 8) ∧ allW l (-8) 8 = true ∧ (nrm l : Int) = k := by
  unfold pfR at h
  by_cases h1 : 1 ≤ (l.length : Int) ∧ (l.length : Int) ≤ 4
  · by_cases h2 : 0 ≤ k ∧ k ≤ 8
    · by_cases h3 : allW l (-8) 8 = true ∧ (nrm l : Int) = k
      · exact ⟨h1, h2, h3⟩
      · rw [if_neg (by simpa using h1), if_neg (by simpa using h2), if_neg h3] at h; simp at h
    · rw [if_neg (by simpa using h1), if_pos (by simpa using h2)] at h; simp at h
  · rw [if_pos h1] at h; simp at h
theorem pf_use {q : List Int} {k : Int} (h : pfR q k = 0) : q.length ≤ 4 ∧ 1 ≤ q.length ∧ (∀ x ∈ q, -8 ≤ x ∧ x ≤ 8) := by
  have := pfR_0 h
  exact ⟨by omega, by omega, fun x hx => allW_mem this.2.2.1 hx⟩
theorem cntR_0 {s : Int} {l g : List Int} {L : List (List Int)} (h : cntR s l g L = 0) : (l.length : Int) = s / 2 ∧ g.length = (bnds s).length ∧ L.length = (bnds s).length := by
  unfold cntR at h
  by_cases c : (l.length : Int) = s / 2 ∧ g.length = (bnds s).length ∧ L.length = (bnds s).length
  · exact c
  · rw [if_neg c] at h; omega
theorem ffR_0 {n s r m p : Int} {l g : List Int} {L : List (List Int)} (h : ffR n s r m p l g L = 0) : headR n s r m p = 0 ∧ cntR s l g L = 0 ∧ l.all (lowB r) = true ∧ g.all (gainB (grg r m)) = true ∧ bandsR m (bnds s) L = 0 := by
  unfold ffR at h
  by_cases h1 : headR n s r m p = 0
  · rw [if_neg (fun q => q h1)] at h
    by_cases h2 : cntR s l g L = 0
    · rw [if_neg (fun q => q h2)] at h
      by_cases h3 : l.all (lowB r) = true
      · rw [if_pos h3] at h
        by_cases h4 : g.all (gainB (grg r m)) = true
        · rw [if_pos h4] at h; exact ⟨h1, h2, h3, h4, h⟩
        · rw [if_neg h4] at h; omega
      · rw [if_neg h3] at h; omega
    · rw [if_pos h2] at h; omega
  · rw [if_pos h1] at h; exact absurd h h1
theorem bandsR_0 {m : Int} : ∀ (bs : List S93) (ps : List (List Int)), bs.length = ps.length → bandsR m bs ps = 0 → ∀ q ∈ ps, pfR q (8 - 2 * m) = 0
  | [], [], _, _, q, hq => by simp at hq
  | b :: bs, p :: ps, hl, h, q, hq => by
    simp only [bandsR] at h
    by_cases c : bandR b.f1 m p = 0
    · rw [if_pos c] at h
      rcases List.mem_cons.1 hq with rfl | hq
      · unfold bandR at c
        by_cases c2 : (q.length : Int) ≠ b.f1
        · rw [if_pos c2] at c; omega
        · rw [if_neg c2] at c; exact c
      · exact bandsR_0 bs ps (by simpa using hl) h q hq
    · rw [if_neg c] at h; exact absurd h c
theorem bnds_le (s : Int) : (bnds s).length ≤ 2 ∧ 1 ≤ (bnds s).length := by rcases bnds_cases s with ⟨_, e⟩ | ⟨_, e⟩ | ⟨_, _, e⟩ <;> rw [e] <;> simp
theorem bnds_two' (s : Int) (L : List (List Int)) (h : L.length = (bnds s).length) : (∃ b p, bnds s = [b] ∧ L = [p]) ∨ (∃ b c p q, bnds s = [b, c] ∧ L = [p, q]) := by
  rcases bnds_cases s with ⟨_, e⟩ | ⟨_, e⟩ | ⟨_, _, e⟩ <;> rw [e] at h ⊢
  · match L, h with
    | [p], _ => exact Or.inl ⟨_, p, rfl, rfl⟩
  · match L, h with
    | [p, q], _ => exact Or.inr ⟨_, _, p, q, rfl, rfl⟩
  · match L, h with
    | [p, q], _ => exact Or.inr ⟨_, _, p, q, rfl, rfl⟩
theorem partR_0 {n s r m p d : Int} {l g : List Int} {L : List (List Int)} (h : partR n s r m p d l g L = 0) : headR n s r m p = 0 ∧ (0 ≤ d ∧ d ≤ 1) ∧ cntR s l g L = 0 ∧ l.all (plowB r p) = true ∧ g.all (gainB (grg r m)) = true ∧ pbandsR n d m 0 (bnds s) L = 0 := by
  unfold partR at h
  by_cases h1 : headR n s r m p = 0
  · rw [if_neg (fun q => q h1)] at h
    by_cases h0 : 0 ≤ d ∧ d ≤ 1
    · rw [if_neg (fun q => q h0)] at h
      by_cases h2 : cntR s l g L = 0
      · rw [if_neg (fun q => q h2)] at h
        by_cases h3 : l.all (plowB r p) = true
        · rw [if_pos h3] at h
          by_cases h4 : g.all (gainB (grg r m)) = true
          · rw [if_pos h4] at h; exact ⟨h1, h0, h2, h3, h4, h⟩
          · rw [if_neg h4] at h; omega
        · rw [if_neg h3] at h; omega
      · rw [if_pos h2] at h; omega
    · rw [if_pos h0] at h; omega
  · rw [if_pos h1] at h; exact absurd h h1
theorem pbandR_0 {n d m i x : Int} {p : List Int} (h : pbandR n d m i x p = 0) : (Int.tmod (n + i) 2 = d → pfR p (8 - 2 * m) = 0 ∧ (p.length : Int) = x) ∧ (¬ Int.tmod (n + i) 2 = d → p = []) := by
  unfold pbandR at h
  refine ⟨fun o => ?_, fun o => ?_⟩
  · rw [if_pos o] at h
    unfold bandR at h
    by_cases c2 : (p.length : Int) ≠ x
    · rw [if_pos c2] at h; omega
    · rw [if_neg c2] at h; exact ⟨h, by omega⟩
  · rw [if_neg o] at h
    by_cases c2 : (p.length : Int) > 0
    · rw [if_pos c2] at h; omega
    · exact List.length_eq_zero_iff.1 (by omega)
theorem plow_use {r p x : Int} (h : plowB r p x = true) (hp : 0 ≤ p ∧ p ≤ 2) : (-30000 ≤ x ∧ x ≤ 30000) ∧ (-90000 ≤ (p + 1) * x ∧ (p + 1) * x ≤ 90000) ∧ (-16777216 ≤ ((p + 1) * x) * stp r ∧ ((p + 1) * x) * stp r ≤ 16777216) := by
  unfold plowB at h
  have := of_decide_eq_true h
  exact ⟨this.1, pq_bound p x hp this.1, this.2⟩
/-- The two numbers of an index, rounded down. -/
def spl (q k : Int) (t : Bool) : Int × Int :=
  let p : Int × Int := if k = 1 then ((q + 1) / 2, q / 2) else if k = 2 then (if q % 3 = 1 then (q / 3, q / 3 + 1) else if q % 3 = 2 then (q / 3 + 1, q / 3) else (q / 3, q / 3)) else (q, q)
  if t = true then (p.2, p.1) else p
theorem spl_bound (q k : Int) (t : Bool) (h0 : -100000 ≤ q) (h1 : q ≤ 100000) : -100001 ≤ (spl q k t).1 ∧ (spl q k t).1 ≤ 100001 ∧ -100001 ≤ (spl q k t).2 ∧ (spl q k t).2 ≤ 100001 := by
  unfold spl
  by_cases c1 : k = 1
  · cases t <;> simp only [c1, if_true, Bool.false_eq_true, if_false] <;> omega
  · by_cases c2 : k = 2
    · by_cases c3 : q % 3 = 1
      · cases t <;> simp [c1, c2, c3] <;> omega
      · by_cases c4 : q % 3 = 2
        · cases t <;> simp [c1, c2, c3, c4] <;> omega
        · cases t <;> simp [c1, c2, c3, c4] <;> omega
    · cases t <;> simp [c1, c2] <;> omega
/-- The integer nearest to a / b; of two, the one farther from 0. -/
def rdv (a b : Int) : Int := if a < 0 then -((2 * -a + b) / (2 * b)) else (2 * a + b) / (2 * b)
theorem rdq (a b : Int) (ha : 0 ≤ a) (hb : 1 ≤ b) : 0 ≤ (2 * a + b) / (2 * b) ∧ (2 * a + b) / (2 * b) ≤ a + 1 := by
  refine ⟨Int.ediv_nonneg (by omega) (by omega), ?_⟩
  have h : (2 * a + b) / (2 * b) < a + 2 := by
    apply Int.ediv_lt_of_lt_mul (by omega)
    have h2 : (a + 2) * (2 * b) = 2 * (a * b) + 4 * b := by rw [Int.add_mul]; rw [show a * (2 * b) = 2 * (a * b) by rw [← Int.mul_assoc, Int.mul_comm a 2, Int.mul_assoc]]; omega
    have h3 : a * 1 ≤ a * b := Int.mul_le_mul_of_nonneg_left hb ha
    omega
  omega
theorem rdv_bound (a b : Int) (hb : 1 ≤ b) : (a < 0 → a - 1 ≤ rdv a b ∧ rdv a b ≤ 0) ∧ (0 ≤ a → 0 ≤ rdv a b ∧ rdv a b ≤ a + 1) := by
  unfold rdv
  refine ⟨fun h => ?_, fun h => ?_⟩
  · rw [if_pos h]; have := rdq (-a) b (by omega) hb; omega
  · rw [if_neg (by omega)]; exact rdq a b h hb
theorem rdv_neg (a b : Int) (h : 0 < a) : rdv (-a) b = -rdv a b := by
  unfold rdv; rw [if_pos (by omega), if_neg (by omega), Int.neg_neg]
/-- Pulses with a gain. -/
def shpl (l : List Int) (k g : Int) : List Int := l.map fun p => rdv (g * p) k
theorem mulb (g p : Int) (h0 : 0 ≤ g ∧ g ≤ 1000000000000) (h1 : -8 ≤ p ∧ p ≤ 8) : -8000000000000 ≤ g * p ∧ g * p ≤ 8000000000000 := by
  have a : g * p ≤ g * 8 := Int.mul_le_mul_of_nonneg_left h1.2 h0.1
  have b : g * -8 ≤ g * p := Int.mul_le_mul_of_nonneg_left h1.1 h0.1
  omega
/-- The coefficients of the bands, one by one. -/
def shapes (m st : Int) : List Int → List (List Int) → List Int
  | g :: gs, p :: ps => shpl p (8 - 2 * m) (g * st) ++ shapes m st gs ps
  | _, _ => []
theorem shpl_len (l : List Int) (k g : Int) : (shpl l k g).length = l.length := by simp [shpl]
theorem gain_use {r x : Int} (h : gainB r x = true) (hr : 0 ≤ r ∧ r ≤ 47) : 0 ≤ x ∧ x ≤ 65535 ∧ 0 ≤ x * stp r ∧ x * stp r ≤ 16777216 := by
  unfold gainB at h
  have := of_decide_eq_true h
  have h2 := stp_pos r hr.1 hr.2
  exact ⟨by omega, by omega, Int.mul_nonneg (by omega) (by omega), by omega⟩
theorem low_use {r x : Int} (h : lowB r x = true) : -30000 ≤ x ∧ x ≤ 30000 ∧ -16777216 ≤ x * stp r ∧ x * stp r ≤ 16777216 := by
  unfold lowB at h
  have := of_decide_eq_true h
  omega
/-- The numbers of a side. -/
def sideL (p d : Int) : Int → List Int → List Int
  | _, [] => []
  | i, q :: qs => (if d = 1 then (spl q p (Int.tmod i 2 == 1)).2 else (spl q p (Int.tmod i 2 == 1)).1) :: sideL p d (i + 1) qs
theorem sideL_len (p d : Int) : ∀ (l : List Int) (i : Int), (sideL p d i l).length = l.length
  | [], _ => rfl
  | q :: qs, i => by simp [sideL, sideL_len p d qs]
/-- The pulses that a part carries. -/
def ownL (n d : Int) : Int → List (List Int) → List (List Int)
  | _, [] => []
  | i, p :: ps => (if Int.tmod (n + i) 2 = d then p else []) :: ownL n d (i + 1) ps
theorem ownL_len (n d : Int) : ∀ (L : List (List Int)) (i : Int), (ownL n d i L).length = L.length
  | [], _ => rfl
  | q :: qs, i => by simp [ownL, ownL_len n d qs]
theorem ownL_le (n d : Int) (B : Nat) : ∀ (L : List (List Int)) (i : Int), (∀ p ∈ L, p.length ≤ B) → ∀ p ∈ ownL n d i L, p.length ≤ B
  | [], _, _, p, hp => by simp [ownL] at hp
  | q :: qs, i, h, p, hp => by
    simp only [ownL, List.mem_cons] at hp
    rcases hp with rfl | hp
    · split
      · exact h q List.mem_cons_self
      · simp
    · exact ownL_le n d B qs (i + 1) (fun p hp => h p (List.mem_cons_of_mem _ hp)) p hp
/-- What PartOf answers: the part's code and the part. -/
def poR (n s r m p : Int) (l g : List Int) (L : List (List Int)) (d : Int) : Int × Int × Int × Int × Int × Int × Int × List Int × List Int × List (List Int) :=
  if ffR n s r m p l g L ≠ 0 then (ffR n s r m p l g L, 0, 0, 0, 0, 0, 0, [], [], [])
  else if ¬ (0 ≤ d ∧ d ≤ 1) then (3, 0, 0, 0, 0, 0, 0, [], [], [])
  else if partR n s r m p d (sideL p d 0 l) g (ownL n d 0 L) = 0 then (0, n, s, r, m, p, d, sideL p d 0 l, g, ownL n d 0 L)
  else (partR n s r m p d (sideL p d 0 l) g (ownL n d 0 L), 0, 0, 0, 0, 0, 0, [], [], [])
theorem cat_one {α : Type} (a : List α) (x : α) (b : List α) : (a ++ [x]) ++ b = a ++ x :: b := by simp
theorem floorDiv_eq (a b : Int) (hb : 1 ≤ b) (h0 : -9223372036854775807 ≤ a) (h1 : a ≤ 9223372036854775807) (hb1 : b ≤ 9223372036854775807) : impl_floorDiv.f a b = some (a / b) := by
  unfold impl_floorDiv.f
  rw [if_neg (by omega)]
  have hq : -9223372036854775807 ≤ a / b ∧ a / b ≤ 9223372036854775807 := by
    have hm := Int.mul_ediv_add_emod a b
    have hr0 := Int.emod_nonneg a (show b ≠ 0 by omega)
    have hr1 := Int.emod_lt_of_pos a (show 0 < b by omega)
    rcases Int.lt_or_le a 0 with hneg | hpos
    · have h3 : a / b < 0 := Int.ediv_neg_of_neg_of_pos hneg (by omega)
      have h4 : a ≤ a / b := Int.le_ediv_of_mul_le (by omega) (by
        have : a * b ≤ a * 1 := Int.mul_le_mul_of_nonpos_left (by omega) (by omega)
        omega)
      omega
    · have h3 := Int.ediv_nonneg hpos (show 0 ≤ b by omega)
      have h4 := Int.ediv_le_self b hpos
      omega
  have hqr := Int.mul_tdiv_add_tmod a b
  have hm := Int.mul_ediv_add_emod a b
  have hr0 := Int.emod_nonneg a (show b ≠ 0 by omega)
  have hr1 := Int.emod_lt_of_pos a (show 0 < b by omega)
  rw [Int.tmod_eq_emod, Int.tdiv_eq_ediv]
  by_cases hc : 0 ≤ a ∨ b ∣ a
  · rw [if_pos hc, if_pos hc]
    simp only [Int.sub_zero, Int.add_zero]
    rw [if_neg (by have := hr0; omega)]
    rw [w64 (by omega) (by omega)]
  · rw [if_neg hc, if_neg hc]
    have hs : b.sign = 1 := Int.sign_eq_one_of_pos (by omega)
    have hbn : (b.natAbs : Int) = b := by omega
    rw [hs]
    rw [if_pos (by omega)]
    have : wrap64 (a / b + 1) = a / b + 1 := w64 (by omega) (by
      rcases Int.lt_or_le a 0 with hneg | hpos
      · have h3 : a / b < 0 := Int.ediv_neg_of_neg_of_pos hneg (by omega)
        omega
      · exact absurd (Or.inl hpos) hc)
    rw [this, w64 (by omega) (by omega)]
    congr 1; omega
theorem splitIndex_eq (q k : Int) (t : Bool) (h0 : -100000 ≤ q) (h1 : q ≤ 100000) : impl_splitIndex.f q k t = some (spl q k t) := by
  unfold impl_splitIndex.f spl
  by_cases c1 : k = 1
  · rw [if_pos c1, w64 (n := q + 1) (by omega) (by omega), floorDiv_eq (q + 1) 2 (by omega) (by omega) (by omega) (by omega), floorDiv_eq q 2 (by omega) (by omega) (by omega) (by omega)]
    cases t <;> simp [c1]
  · rw [if_neg c1]
    by_cases c2 : k = 2
    · rw [if_pos c2, floorDiv_eq q 3 (by omega) (by omega) (by omega) (by omega)]
      simp only [Option.bind_some]
      rw [w64 (n := 3 * (q / 3)) (by omega) (by omega), w64 (n := q - 3 * (q / 3)) (by omega) (by omega), w64 (n := q / 3 + 1) (by omega) (by omega)]
      have e : q - 3 * (q / 3) = q % 3 := by omega
      rw [e]
      by_cases c3 : q % 3 = 1
      · cases t <;> simp [c1, c2, c3]
      · by_cases c4 : q % 3 = 2
        · cases t <;> simp [c1, c2, c3, c4]
        · cases t <;> simp [c1, c2, c3, c4]
    · cases t <;> simp [c1, c2]
theorem isNumber_eq (a : Int) : impl_isNumber.f a = some (decide (0 ≤ a ∧ a ≤ 9999)) := by unfold impl_isNumber.f; rw [inRange_eq]; rfl
theorem isRung_eq (a : Int) : impl_isRung.f a = some (decide (0 ≤ a ∧ a ≤ 47)) := by unfold impl_isRung.f; rw [inRange_eq]; rfl
theorem isMask_eq (a : Int) : impl_isMask.f a = some (decide (0 ≤ a ∧ a ≤ 3)) := by unfold impl_isMask.f; rw [inRange_eq]; rfl
theorem isSpread_eq (a : Int) : impl_isSpread.f a = some (decide (0 ≤ a ∧ a ≤ 2)) := by unfold impl_isSpread.f; rw [inRange_eq]; rfl
theorem headFault_eq (n s r m p : Int) (K : Nat) (hK : 10 ≤ K) : impl_headFault.f K n s r m p = some (headR n s r m p) := by
  unfold impl_headFault.f headR
  simp only [isNumber_eq, codeIf_eq, SizeFault_eq, isRung_eq, isMask_eq, isSpread_eq, Option.bind_some, decide_eq_true_eq]
  have f3 : ∀ a b c : Int, impl_first.f K [a, b, c] = some (fst0 [a, b, c]) := fun a b c => first_eq _ (by simp) K (by simp; omega)
  simp only [f3, Option.bind_some, fst0]
  by_cases h1 : 0 ≤ n ∧ n ≤ 9999
  · by_cases h2 : szR s = 0
    · by_cases h3 : 0 ≤ r ∧ r ≤ 47
      · by_cases h4 : 0 ≤ m ∧ m ≤ 3
        · by_cases h5 : 0 ≤ p ∧ p ≤ 2
          · simp [h1, h2, h3, h4, h5]
          · simp [h1, h2, h3, h4, h5]
        · simp [h1, h2, h3, h4]
      · simp [h1, h2, h3]
    · by_cases h3 : 0 ≤ r ∧ r ≤ 47
      · by_cases h4 : 0 ≤ m ∧ m ≤ 3
        · simp [h1, h2, h3, h4]
        · simp [h1, h2, h3, h4]
      · simp [h1, h2, h3]
  · by_cases h3 : 0 ≤ r ∧ r ≤ 47
    · by_cases h4 : 0 ≤ m ∧ m ≤ 3
      · simp [h1, h3, h4]
      · simp [h1, h3, h4]
    · simp [h1, h3]
theorem isIndexOf_eq (a : Int) : impl_isIndexOf.f a = some (decide (-30000 ≤ a ∧ a ≤ 30000)) := by unfold impl_isIndexOf.f; rw [within_eq _ _ (by decide) (by decide)]; rfl
theorem isCoef_eq (a : Int) : impl_isCoef.f a = some (decide (-16777216 ≤ a ∧ a ≤ 16777216)) := by unfold impl_isCoef.f; rw [within_eq _ _ (by decide) (by decide)]; rfl
theorem stepOf_eq (r : Int) (h0 : 0 ≤ r) (h1 : r ≤ 47) : impl_stepOf.f r = some (stp r) := by
  have key : ∀ n : Nat, n < 48 → impl_stepOf.f (n : Int) = some (stp (n : Int)) := by decide +kernel
  have := key r.toNat (by omega)
  rwa [Int.toNat_of_nonneg h0] at this
def restR (q r : Int) : Int × Int := if (0 ≤ r ∧ r ≤ 47) ∧ (-16777216 ≤ q ∧ q ≤ 16777216) ∧ (-16777216 ≤ q * stp r ∧ q * stp r ≤ 16777216) then (0, q * stp r) else (3, 0)
theorem restR_w (q r : Int) (h1 : 0 ≤ r ∧ r ≤ 47) (h2 : -16777216 ≤ q ∧ q ≤ 16777216) : wrap64 (q * stp r) = q * stp r := by
  have hs := stp_pos r h1.1 h1.2
  have b1 : q * stp r ≤ 16777216 * stp r := Int.mul_le_mul_of_nonneg_right h2.2 (by omega)
  have b2 : -16777216 * stp r ≤ q * stp r := Int.mul_le_mul_of_nonneg_right h2.1 (by omega)
  unfold wrap64; omega
theorem Restore_eq (q r : Int) : impl_Restore.f q r = some (restR q r) := by
  unfold impl_Restore.f restR
  simp only [isRung_eq, isCoef_eq, Option.bind_some, decide_eq_true_eq]
  by_cases h1 : 0 ≤ r ∧ r ≤ 47
  · rw [if_pos h1, stepOf_eq r h1.1 h1.2]
    simp only [Option.bind_some]
    by_cases h2 : -16777216 ≤ q ∧ q ≤ 16777216
    · rw [if_pos h2, restR_w q r h1 h2]
      by_cases h3 : -16777216 ≤ q * stp r ∧ q * stp r ≤ 16777216
      · rw [if_pos h3, if_pos ⟨h1, h2, h3⟩]
      · rw [if_neg h3, if_neg (fun h => h3 h.2.2)]
    · rw [if_neg h2, if_neg (fun h => h2 h.2.1)]
  · rw [if_neg h1, if_neg (fun h => h1 h.1)]
theorem frameLows_eq (l : List Int) (r : Int) (hr : 0 ≤ r ∧ r ≤ 47) : impl_FrameFault_1_any.f l r = some (!l.all (lowB r)) := by
  unfold impl_FrameFault_1_any.f
  rw [anyP_eq (frameP r) (fun x => !lowB r x) l (fun x _ => ?_)]
  · rw [show l.any (fun x => !lowB r x) = !l.all (lowB r) by rw [List.any_eq_not_all_not]; simp]
  · unfold frameP lowB
    rw [isIndexOf_eq]; simp only [Option.bind_some, decide_eq_true_eq]
    by_cases h1 : -30000 ≤ x ∧ x ≤ 30000
    · rw [if_pos h1, Restore_eq]
      simp only [Option.bind_some]
      unfold restR
      by_cases h2 : -16777216 ≤ x * stp r ∧ x * stp r ≤ 16777216
      · rw [if_pos ⟨hr, by omega, h2⟩]; simp [h1, h2]
      · rw [if_neg (fun h => h2 h.2.2)]; simp [h1, h2]
    · rw [if_neg h1]; simp [h1]
theorem countFault_eq (s : Int) (hs : s = 4 ∨ s = 8 ∨ s = 16) (l m : List Int) (L : List (List Int)) : impl_countFault.f s l m L = some (cntR s l m L) := by
  unfold impl_countFault.f impl_halfOf.f cntR
  rw [bandsOf_eq]; simp only [Option.bind_some, codeIf_eq]
  rw [Int.tdiv_eq_ediv_of_nonneg (by omega), w64 (n := s / 2) (by omega) (by omega)]
  by_cases h1 : (l.length : Int) = s / 2
  · rw [if_pos (by simpa using h1)]
    by_cases h2 : m.length = (bnds s).length
    · rw [if_pos (by omega)]
      by_cases h3 : L.length = (bnds s).length
      · simp [h1, h2, h3]
      · have : ¬ (L.length : Int) = ((bnds s).length : Int) := by omega
        simp [h1, h2, h3, this]
    · rw [if_neg (by omega)]; simp [h1, h2]
  · rw [if_neg (by simpa using h1)]; simp [h1]
theorem gainsFault_eq (l : List Int) (r m : Int) (hr : 0 ≤ r ∧ r ≤ 47) (hm : 0 ≤ m ∧ m ≤ 3) : impl_gainsFault.f l r m = some (if l.all (gainB (grg r m)) = true then 0 else 3) := by
  unfold impl_gainsFault.f
  have hg := grg_range hr hm
  rw [anyP_eq (gainsP r m) (fun x => !gainB (grg r m) x) l (fun x _ => ?_)]
  · simp only [Option.bind_some, codeIf_eq]
    rw [show l.any (fun x => !gainB (grg r m) x) = !l.all (gainB (grg r m)) by rw [List.any_eq_not_all_not]; simp]
    cases l.all (gainB (grg r m)) <;> rfl
  · unfold gainsP gainB impl_gainRung.f mn
    rw [inRange_eq]; simp only [Option.bind_some, decide_eq_true_eq]
    rw [w64 (n := 2 * m) (by omega) (by omega), w64 (n := r + 2 * m) (by omega) (by omega)]
    have eg : (if 47 < r + 2 * m then 47 else r + 2 * m) = grg r m := by unfold grg; split <;> split <;> omega
    by_cases h1 : 0 ≤ x ∧ x ≤ 65535
    · rw [if_pos h1]
      rw [eg]
      try simp only [Option.bind_some]
      rw [Restore_eq]
      simp only [Option.bind_some]
      unfold restR
      by_cases h2 : -16777216 ≤ x * stp (grg r m) ∧ x * stp (grg r m) ≤ 16777216
      · rw [if_pos ⟨hg, by omega, h2⟩]; simp [h1, h2]
      · rw [if_neg (fun h => h2 h.2.2)]; simp [h1, h2]
    · rw [if_neg h1]; simp [h1]
theorem bandFault_eq (f d m : Int) (p : List Int) (hm : 0 ≤ m ∧ m ≤ 3) (hp : p.length ≤ 1048576) (K : Nat) (hK : 1048600 ≤ K) : impl_bandFault.f K f d p m = some (bandR d m p) := by
  unfold impl_bandFault.f impl_pulsesFor.f bandR
  simp only [codeIf_eq, Option.bind_some]
  rw [w64 (n := 2 * m) (by omega) (by omega), w64 (n := 8 - 2 * m) (by omega) (by omega), PulsesFault_eq p _ (by omega) K (by omega)]
  simp only [Option.bind_some]
  rw [first_eq _ (by simp) K (by simp; omega)]
  by_cases h1 : (p.length : Int) = d
  · by_cases h2 : pfR p (8 - 2 * m) = 0
    · simp [h1, h2, fst0]
    · simp [h1, h2, fst0]
  · simp [h1, fst0]
theorem FrameFault_eq (n s r m p : Int) (l g : List Int) (L : List (List Int)) (hLL : ∀ p ∈ L, p.length ≤ 1048576) (K : Nat) (hK : 1048700 ≤ K) : impl_FrameFault.f K n s r m p l g L = some (ffR n s r m p l g L) := by
  unfold impl_FrameFault.f ffR
  rw [headFault_eq n s r m p K (by omega)]; simp only [Option.bind_some]
  by_cases h0 : headR n s r m p = 0
  · obtain ⟨_, hs, hr, hm, _⟩ := headR_0 h0
    rw [if_pos h0, if_neg (show ¬ headR n s r m p ≠ 0 from fun h => h h0), frameLows_eq l r hr, countFault_eq s hs l g L]
    simp only [Option.bind_some, codeIf_eq]
    rw [gainsFault_eq g r m hr hm]; simp only [Option.bind_some]
    rw [first_eq _ (by simp) K (by simp; omega)]; simp only [Option.bind_some, fst0]
    by_cases h1 : cntR s l g L = 0
    · have hLn : L.length = (bnds s).length := by
        unfold cntR at h1
        by_cases c : (l.length : Int) = s / 2 ∧ g.length = (bnds s).length ∧ L.length = (bnds s).length
        · exact c.2.2
        · rw [if_neg c] at h1; simp at h1
      rw [if_neg (show ¬ cntR s l g L ≠ 0 from fun h => h h1)]
      simp only [h1, if_true]
      by_cases h2 : l.all (lowB r) = true
      · rw [if_pos h2]
        simp only [h2, Bool.not_true, Bool.false_eq_true, if_false, if_true]
        by_cases h3 : g.all (gainB (grg r m)) = true
        · rw [if_pos h3, if_pos h3]
          simp only [if_true]
          rw [bandsOf_eq]; simp only [Option.bind_some]
          have step : ∀ (B : List S93) (i : Int) (K : Nat), 1048650 ≤ K → 0 ≤ i → i < B.length → i < L.length → i ≤ 1000 → impl_FrameFault.l0 (K + 1) B (B.length : Int) i n s r m p l g L = if bandR (rd_T93 B i).f1 m (rd_L1 L i) = 0 then impl_FrameFault.l0 K B (B.length : Int) (i + 1) n s r m p l g L else some (bandR (rd_T93 B i).f1 m (rd_L1 L i)) := by
            intro B i K hK i0 i1 i2 i3
            have hmem : (rd_L1 L i).length ≤ 1048576 := by
              apply hLL
              unfold rd_L1
              rw [List.getD_eq_getElem?_getD, List.getElem?_eq_getElem (show i.toNat < L.length by omega)]
              exact List.getElem_mem _
            rw [impl_FrameFault.l0, if_pos i1, if_pos i0, if_pos i1, if_pos i2, bandFault_eq _ _ m _ hm hmem K (by omega)]
            simp only [Option.bind_some]
            rw [w64 (n := i + 1) (by omega) (by omega)]
          have done : ∀ (B : List S93) (i : Int) (K : Nat), ¬ i < B.length → impl_FrameFault.l0 (K + 1) B (B.length : Int) i n s r m p l g L = some 0 := by
            intro B i K hi
            rw [impl_FrameFault.l0, if_neg hi]
          obtain ⟨K, rfl⟩ : ∃ z, K = z + 3 := ⟨K - 3, by omega⟩
          rcases bnds_two s L hLn with ⟨b, q, e1, rfl⟩ | ⟨b, c, q, q2, e1, rfl⟩
          · rw [e1, step [b] 0 (K + 2) (by omega) (by omega) (by simp) (by simp) (by omega), done [b] (0 + 1) (K + 1) (by simp)]
            simp only [bandsR]
            show (if bandR b.f1 m q = 0 then some 0 else some (bandR b.f1 m q)) = _
            split <;> rfl
          · rw [e1, step [b, c] 0 (K + 2) (by omega) (by omega) (by simp) (by simp) (by omega), step [b, c] (0 + 1) (K + 1) (by omega) (by omega) (by simp) (by simp) (by omega), done [b, c] (0 + 1 + 1) K (by simp)]
            simp only [bandsR]
            show (if bandR b.f1 m q = 0 then (if bandR c.f1 m q2 = 0 then some 0 else some (bandR c.f1 m q2)) else some (bandR b.f1 m q)) = _
            split
            · split <;> rfl
            · rfl
        · simp [h3]
      · simp [h2]
    · have h2 : cntR s l g L = 2 := by unfold cntR at h1 ⊢; split at h1 <;> simp_all
      simp [h2]
  · rw [if_neg h0, if_pos h0]
theorem isSide_eq (a : Int) : impl_isSide.f a = some (decide (0 ≤ a ∧ a ≤ 1)) := by unfold impl_isSide.f; rw [inRange_eq]; rfl
theorem partLows_eq (l : List Int) (r p : Int) (hr : 0 ≤ r ∧ r ≤ 47) (hp : 0 ≤ p ∧ p ≤ 2) : impl_PartFault_1_any.f l r p = some (!l.all (plowB r p)) := by
  unfold impl_PartFault_1_any.f
  rw [anyP_eq (partP r p) (fun x => !plowB r p x) l (fun x _ => ?_)]
  · rw [show l.any (fun x => !plowB r p x) = !l.all (plowB r p) by rw [List.any_eq_not_all_not]; simp]
  · unfold partP plowB
    rw [isIndexOf_eq]; simp only [Option.bind_some, decide_eq_true_eq]
    by_cases h1 : -30000 ≤ x ∧ x ≤ 30000
    · have hb := pq_bound p x hp h1
      rw [if_pos h1, w64 (n := p + 1) (by omega) (by omega), w64 (n := (p + 1) * x) (by omega) (by omega), Restore_eq]
      simp only [Option.bind_some]
      unfold restR
      by_cases h2 : -16777216 ≤ ((p + 1) * x) * stp r ∧ ((p + 1) * x) * stp r ≤ 16777216
      · rw [if_pos ⟨hr, by omega, h2⟩]; simp [h1, h2]
      · rw [if_neg (fun h => h2 h.2.2)]; simp [h1, h2]
    · rw [if_neg h1]; simp [h1]
theorem PartFault_eq (n s r m p d : Int) (l g : List Int) (L : List (List Int)) (hLL : ∀ p ∈ L, p.length ≤ 1048576) (K : Nat) (hK : 1048700 ≤ K) : impl_PartFault.f K n s r m p d l g L = some (partR n s r m p d l g L) := by
  obtain ⟨K, rfl⟩ : ∃ z, K = z + 4 := ⟨K - 4, by omega⟩
  unfold impl_PartFault.f partR
  rw [headFault_eq n s r m p (K + 4) (by omega)]; simp only [Option.bind_some, isSide_eq, codeIf_eq]
  rw [first_eq _ (by simp) (K + 4) (by simp)]; simp only [Option.bind_some, fst0]
  by_cases h0 : headR n s r m p = 0
  · obtain ⟨hn, hs, hr, hm, hp⟩ := headR_0 h0
    rw [if_neg (show ¬ headR n s r m p ≠ 0 from fun h => h h0)]
    simp only [h0, if_true]
    by_cases hd : 0 ≤ d ∧ d ≤ 1
    · rw [if_neg (show ¬ ¬ (0 ≤ d ∧ d ≤ 1) from fun h => h hd)]
      simp only [hd, and_self, decide_true, Bool.not_true, Bool.false_eq_true, if_false, if_true]
      rw [countFault_eq s hs l g L]; simp only [Option.bind_some]
      simp only [impl_PartFault.j0]
      by_cases h1 : cntR s l g L = 0
      · have hLn : L.length = (bnds s).length := by
          unfold cntR at h1
          by_cases c : (l.length : Int) = s / 2 ∧ g.length = (bnds s).length ∧ L.length = (bnds s).length
          · exact c.2.2
          · rw [if_neg c] at h1; simp at h1
        rw [if_pos h1, if_neg (show ¬ cntR s l g L ≠ 0 from fun h => h h1), partLows_eq l r p hr hp]
        simp only [Option.bind_some, codeIf_eq]
        rw [gainsFault_eq g r m hr hm]; simp only [Option.bind_some]
        rw [first_eq _ (by simp) (K + 3) (by simp)]; simp only [Option.bind_some, fst0]
        by_cases h2 : l.all (plowB r p) = true
        · rw [if_pos h2]
          simp only [h2, Bool.not_true, Bool.false_eq_true, if_false, if_true]
          by_cases h3 : g.all (gainB (grg r m)) = true
          · rw [if_pos h3, if_pos h3]
            simp only [if_true]
            rw [bandsOf_eq]; simp only [Option.bind_some]
            have step : ∀ (B : List S93) (i : Int) (K : Nat), 1048650 ≤ K → 0 ≤ i → i < B.length → i < L.length → i ≤ 1000 → impl_PartFault.l0 (K + 1) B (B.length : Int) i n s r m p d l g L = if pbandR n d m i (rd_T93 B i).f1 (rd_L1 L i) = 0 then impl_PartFault.l0 K B (B.length : Int) (i + 1) n s r m p d l g L else some (pbandR n d m i (rd_T93 B i).f1 (rd_L1 L i)) := by
              intro B i K hK i0 i1 i2 i3
              have hmem : (rd_L1 L i).length ≤ 1048576 := by
                apply hLL
                unfold rd_L1
                rw [List.getD_eq_getElem?_getD, List.getElem?_eq_getElem (show i.toNat < L.length by omega)]
                exact List.getElem_mem _
              rw [impl_PartFault.l0, if_pos i1, if_pos i0, if_pos i1, if_pos i2]
              simp only [codeIf_eq, Option.bind_some]
              unfold impl_Part_owns.f impl_ownerOf.f pbandR
              rw [w64 (n := n + i) (by omega) (by omega), w64 (n := i + 1) (by omega) (by omega)]
              simp only [Option.bind_some, beq_iff_eq]
              by_cases o : Int.tmod (n + i) 2 = d
              · rw [if_pos o, if_pos o, bandFault_eq _ _ m _ hm hmem K (by omega)]
                simp only [Option.bind_some]
              · rw [if_neg o, if_neg o]
                by_cases e : ((rd_L1 L i).length : Int) > 0
                · simp [e]
                · simp [e]
            have done : ∀ (B : List S93) (i : Int) (K : Nat), ¬ i < B.length → impl_PartFault.l0 (K + 1) B (B.length : Int) i n s r m p d l g L = some 0 := by
              intro B i K hi
              rw [impl_PartFault.l0, if_neg hi]
            rcases bnds_two' s L hLn with ⟨b, q, e1, rfl⟩ | ⟨b, c, q, q2, e1, rfl⟩
            · rw [e1, step [b] 0 (K + 2) (by omega) (by omega) (by simp) (by simp) (by omega), done [b] (0 + 1) (K + 1) (by simp)]
              simp only [pbandsR]
              show (if pbandR n d m 0 b.f1 q = 0 then some 0 else some (pbandR n d m 0 b.f1 q)) = _
              split <;> rfl
            · rw [e1, step [b, c] 0 (K + 2) (by omega) (by omega) (by simp) (by simp) (by omega), step [b, c] (0 + 1) (K + 1) (by omega) (by omega) (by simp) (by simp) (by omega), done [b, c] (0 + 1 + 1) K (by simp)]
              simp only [pbandsR]
              show (if pbandR n d m 0 b.f1 q = 0 then (if pbandR n d m (0 + 1) c.f1 q2 = 0 then some 0 else some (pbandR n d m (0 + 1) c.f1 q2)) else some (pbandR n d m 0 b.f1 q)) = _
              split
              · split <;> rfl
              · rfl
          · simp [h3]
        · simp [h2]
      · have h2 : cntR s l g L = 2 := by unfold cntR at h1 ⊢; split at h1 <;> simp_all
        simp [h2]
    · simp [hd, impl_PartFault.j0]
  · simp [h0, impl_PartFault.j0]
theorem PartOf_l1 (n s r m p d n0 : Int) (l g : List Int) (R : Option (Int × Int × Int × Int × Int × Int × Int × List Int × List Int × (List (List Int)))) : ∀ (rest pre acc : List (List Int)) (i : Int) (K : Nat), (pre.length : Int) = i → (∀ p ∈ rest, p.length ≤ 1048576) → (0 ≤ n ∧ n ≤ 9999) → i + rest.length ≤ 1000000 → acc.length + rest.length ≤ 1000000 → rest.length + n0.toNat + 1 ≤ K →
    (∀ K, n0.toNat + 1 ≤ K → impl_PartOf.l1 K (pre ++ rest) ((pre ++ rest).length : Int) ((pre ++ rest).length : Int) n s r m p d l g (acc ++ ownL n d i rest) = R) → impl_PartOf.l1 K (pre ++ rest) ((pre ++ rest).length : Int) i n s r m p d l g acc = R := by
  intro rest
  induction rest with
  | nil =>
    intro pre acc i K hi hb hn h1 h2 hK h
    have := h K (by simp at hK; omega)
    simp only [List.append_nil, ownL] at this ⊢
    rw [← hi]; exact this
  | cons x rest ih =>
    intro pre acc i K hi hb hn h1 h2 hK h
    obtain ⟨K, rfl⟩ : ∃ z, K = z + 1 := ⟨K - 1, by omega⟩
    simp only [List.length_cons] at h1 h2 hK
    have hx := hb x List.mem_cons_self
    have e1 : rd_L1 (pre ++ x :: rest) i = x := rdL1_right pre (x :: rest) i hi.symm x rest rfl
    rw [impl_PartOf.l1, if_pos (by simp; omega), if_pos (by omega), if_pos (by simp; omega), e1]
    unfold impl_Part_owns.f impl_ownerOf.f slices_Clone_int64_int64.f
    rw [w64 (n := n + i) (by omega) (by omega), w64 (n := i + 1) (by omega) (by omega)]
    simp only [Option.bind_some, beq_iff_eq]
    have hx2 : x.length * 8 ≤ 140737488355328 := by omega
    have go := fun y => ih (pre ++ [x]) (acc ++ [y]) (i + 1) K (by simp; omega) (fun p hp => hb p (List.mem_cons_of_mem _ hp)) hn (by omega) (by simp; omega) (by omega)
    simp only [cat_one] at go
    by_cases c : Int.tmod (n + i) 2 = d
    · rw [if_pos c, if_pos hx2]; simp only [Option.bind_some]
      rw [if_pos (by omega)]
      exact go x (fun K hK => by have := h K hK; simp only [ownL, if_pos c] at this; exact this)
    · rw [if_neg c, if_pos (by omega)]
      exact go [] (fun K hK => by have := h K hK; simp only [ownL, if_neg c] at this; exact this)
theorem PartOf_l0 (n s r m p d n0 : Int) (l0 g0 g : List Int) (L : List (List Int)) (R : Option (Int × Int × Int × Int × Int × Int × Int × List Int × List Int × (List (List Int)))) (hd : 0 ≤ d ∧ d ≤ 1) : ∀ (rest pre acc : List Int) (i : Int) (K : Nat), (pre.length : Int) = i → (∀ x ∈ rest, -30000 ≤ x ∧ x ≤ 30000) → i + rest.length ≤ 1000000 → acc.length + rest.length ≤ 1000000 → rest.length + n0.toNat + 1 ≤ K →
    (∀ K, n0.toNat ≤ K → impl_PartOf.l1 K L (L.length : Int) 0 n s r m p d (acc ++ sideL p d i rest) g [] = R) → impl_PartOf.l0 K d (pre ++ rest) ((pre ++ rest).length : Int) i n s r m p l0 g0 L n s r m p d acc g = R := by
  intro rest
  induction rest with
  | nil =>
    intro pre acc i K hi hb h1 h2 hK h
    obtain ⟨K, rfl⟩ : ∃ z, K = z + 1 := ⟨K - 1, by omega⟩
    rw [impl_PartOf.l0, if_neg (by simp; omega)]
    have := h K (by simp at hK; omega)
    simpa only [List.append_nil, sideL] using this
  | cons x rest ih =>
    intro pre acc i K hi hb h1 h2 hK h
    obtain ⟨K, rfl⟩ : ∃ z, K = z + 1 := ⟨K - 1, by omega⟩
    simp only [List.length_cons] at h1 h2 hK
    have hx := hb x List.mem_cons_self
    have e1 : rd (pre ++ x :: rest) i = x := rd_append_right pre (x :: rest) i hi.symm x rest rfl
    rw [impl_PartOf.l0, if_pos (by simp; omega), if_pos (by omega), if_pos (by simp; omega), e1]
    unfold impl_isTurned.f
    simp only [Option.bind_some]
    rw [splitIndex_eq x p _ (by omega) (by omega)]
    simp only [Option.bind_some]
    rw [if_pos hd.1, if_pos (by omega), if_pos (by omega), w64 (n := i + 1) (by omega) (by omega)]
    have e2 : idx2 (spl x p (Int.tmod i 2 == 1)).1 (spl x p (Int.tmod i 2 == 1)).2 d = if d = 1 then (spl x p (Int.tmod i 2 == 1)).2 else (spl x p (Int.tmod i 2 == 1)).1 := by
      unfold idx2
      by_cases c : d = 1
      · rw [if_pos c, if_neg (by omega)]
      · rw [if_neg c, if_pos (by omega)]
    rw [e2]
    have go := ih (pre ++ [x]) (acc ++ [if d = 1 then (spl x p (Int.tmod i 2 == 1)).2 else (spl x p (Int.tmod i 2 == 1)).1]) (i + 1) K (by simp; omega) (fun y hy => hb y (List.mem_cons_of_mem _ hy)) (by omega) (by simp; omega) (by omega)
    simp only [cat_one] at go
    exact go (fun K hK => by have := h K hK; simp only [sideL] at this; exact this)
theorem PartOf_eq (n s r m p : Int) (l g : List Int) (L : List (List Int)) (d : Int) (hLL : ∀ p ∈ L, p.length ≤ 1048576) (K : Nat) (hK : 2000000 ≤ K) : impl_PartOf.f K n s r m p l g L d = some (poR n s r m p l g L d) := by
  unfold impl_PartOf.f poR
  rw [FrameFault_eq n s r m p l g L hLL K (by omega)]; simp only [Option.bind_some, isSide_eq, codeIf_eq]
  rw [first_eq _ (by simp) K (by simp; omega)]; simp only [Option.bind_some, fst0]
  by_cases h0 : ffR n s r m p l g L = 0
  · rw [if_neg (show ¬ ffR n s r m p l g L ≠ 0 from fun q => q h0)]
    simp only [h0, if_true]
    by_cases hd : 0 ≤ d ∧ d ≤ 1
    · rw [if_neg (show ¬ ¬ (0 ≤ d ∧ d ≤ 1) from fun q => q hd)]
      simp only [hd, and_self, decide_true, Bool.not_true, Bool.false_eq_true, if_false, if_true]
      obtain ⟨h1, h2, h3, h4, h5⟩ := ffR_0 h0
      obtain ⟨hn, hs, hr, hm, hp⟩ := headR_0 h1
      have hc := cntR_0 h2
      have hb := bnds_le s
      unfold slices_Clone_int64_int64.f
      rw [if_pos (by omega)]; simp only [Option.bind_some]
      have e := PartOf_l0 n s r m p d 1500000 l g g L (some (if partR n s r m p d (sideL p d 0 l) g (ownL n d 0 L) = 0 then (0, n, s, r, m, p, d, sideL p d 0 l, g, ownL n d 0 L) else (partR n s r m p d (sideL p d 0 l) g (ownL n d 0 L), 0, 0, 0, 0, 0, 0, [], [], []))) hd l [] [] 0 K rfl (fun x hx => by have := low_use (List.all_eq_true.1 h3 x hx); omega) (by omega) (by simp; omega) (by omega)
      simp only [List.nil_append] at e
      refine (e ?_).trans ?_
      · intro K hK
        have e2 := PartOf_l1 n s r m p d 1200000 (sideL p d 0 l) g (some (if partR n s r m p d (sideL p d 0 l) g (ownL n d 0 L) = 0 then (0, n, s, r, m, p, d, sideL p d 0 l, g, ownL n d 0 L) else (partR n s r m p d (sideL p d 0 l) g (ownL n d 0 L), 0, 0, 0, 0, 0, 0, [], [], []))) L [] [] 0 K rfl hLL hn (by omega) (by simp; omega) (by omega)
        simp only [List.nil_append] at e2
        refine e2 ?_
        intro K hK
        obtain ⟨K, rfl⟩ : ∃ z, K = z + 1 := ⟨K - 1, by omega⟩
        rw [impl_PartOf.l1, if_neg (by omega), PartFault_eq n s r m p d _ g _ (ownL_le n d 1048576 L 0 hLL) K (by omega)]
        simp only [Option.bind_some]
        split <;> rfl
      · rfl
    · simp [hd]
  · simp [h0]
theorem ceil_alt (a b : Int) (hb : 1 ≤ b) : (a + b - 1) / b = -(-a / b) := by
  have h1 := Int.mul_ediv_add_emod (-a) b
  have hr0 := Int.emod_nonneg (-a) (show b ≠ 0 by omega)
  have hr1 := Int.emod_lt_of_pos (-a) (show 0 < b by omega)
  have e : a + b - 1 = (b - 1 - (-a) % b) + b * (-(-a / b)) := by
    have : b * (-(-a / b)) = -(b * (-a / b)) := by rw [Int.mul_neg]
    omega
  rw [e, Int.add_mul_ediv_left _ _ (by omega), Int.ediv_eq_zero_of_lt (by omega) (by omega)]
  omega
theorem l1Ceil_eq (a b : Int) (hb : 1 ≤ b) (h0 : 0 ≤ a) (h1 : a ≤ 4611686018427387904) (hb1 : b ≤ 4611686018427387903) : spec_l1Ceil.f a b = some (-(-a / b)) := by
  unfold spec_l1Ceil.f
  rw [if_neg (by omega), w64 (n := a + b) (by omega) (by omega), w64 (n := a + b - 1) (by omega) (by omega), Int.tdiv_eq_ediv_of_nonneg (by omega), ceil_alt a b hb]
  have hq : -a / b ≤ 0 := by have := Int.ediv_le_ediv (show 0 < b by omega) (show -a ≤ 0 by omega); simpa using this
  have h4 : -a ≤ -a / b := Int.le_ediv_of_mul_le (by omega) (by
        have : -a * b ≤ -a * 1 := Int.mul_le_mul_of_nonpos_left (by omega) (by omega)
        omega)
  rw [w64 (by omega) (by omega)]
theorem l1Floor_eq (a b : Int) (hb : 1 ≤ b) (h0 : -4611686018427387904 ≤ a) (h1 : a ≤ 4611686018427387904) (hb1 : b ≤ 4611686018427387903) : spec_l1Floor.f a b = some (a / b) := by
  unfold spec_l1Floor.f
  by_cases ha : a < 0
  · rw [if_pos ha, w64 (n := -a) (by omega) (by omega), l1Ceil_eq (-a) b hb (by omega) (by omega) hb1]
    simp only [Option.bind_some, Int.neg_neg]
    have h3 : a / b < 0 := Int.ediv_neg_of_neg_of_pos ha (by omega)
    have h4 : a ≤ a / b := Int.le_ediv_of_mul_le (by omega) (by
        have : a * b ≤ a * 1 := Int.mul_le_mul_of_nonpos_left (by omega) (by omega)
        omega)
    rw [w64 (by omega) (by omega)]
  · rw [if_neg ha, if_neg (by omega), Int.tdiv_eq_ediv_of_nonneg (by omega)]
    have h3 := Int.ediv_nonneg (show 0 ≤ a by omega) (show 0 ≤ b by omega)
    have h4 := Int.ediv_le_self b (show 0 ≤ a by omega)
    rw [w64 (by omega) (by omega)]
theorem l10Split_eq (q k : Int) (t : Bool) (h0 : -100000 ≤ q) (h1 : q ≤ 100000) (K : Nat) (hK : 1 ≤ K) : spec_l10Split.f K q k t = some (spl q k t) := by
  obtain ⟨K, rfl⟩ : ∃ m, K = m + 1 := ⟨K - 1, by omega⟩
  unfold spec_l10Split.f spl
  by_cases c1 : k = 1
  · rw [if_pos c1, w64 (n := q + 1) (by omega) (by omega), l1Floor_eq (q + 1) 2 (by omega) (by omega) (by omega) (by omega), l1Floor_eq q 2 (by omega) (by omega) (by omega) (by omega)]
    cases t <;> simp [c1]
  · rw [if_neg c1]
    by_cases c2 : k = 2
    · rw [if_pos c2, l1Floor_eq q 3 (by omega) (by omega) (by omega) (by omega)]
      simp only [Option.bind_some]
      rw [w64 (n := 3 * (q / 3)) (by omega) (by omega), w64 (n := 3 * (q / 3) + 1) (by omega) (by omega), w64 (n := q / 3 + 1) (by omega) (by omega)]
      simp only [spec_l10Split.j0]
      rw [w64 (n := 3 * (q / 3)) (by omega) (by omega), w64 (n := 3 * (q / 3) + 2) (by omega) (by omega), w64 (n := q / 3 + 1) (by omega) (by omega)]
      by_cases c3 : q % 3 = 1
      · rw [if_pos (show q = 3 * (q / 3) + 1 by omega), if_neg (show ¬ q = 3 * (q / 3) + 2 by omega)]
        cases t <;> simp [c1, c2, c3]
      · rw [if_neg (show ¬ q = 3 * (q / 3) + 1 by omega)]
        by_cases c4 : q % 3 = 2
        · rw [if_pos (show q = 3 * (q / 3) + 2 by omega)]
          cases t <;> simp [c1, c2, c3, c4]
        · rw [if_neg (show ¬ q = 3 * (q / 3) + 2 by omega)]
          cases t <;> simp [c1, c2, c3, c4]
    · cases t <;> simp [c1, c2]
theorem l1In_eq (a b c : Int) : spec_l1In.f a b c = some (decide (b ≤ a ∧ a ≤ c)) := by
  unfold spec_l1In.f
  by_cases h : a ≥ b
  · rw [if_pos h]; congr 1; have : b ≤ a := h; simp [this]
  · rw [if_neg h]; have : ¬ b ≤ a := h; simp [this]
theorem l14Number_eq (a : Int) : spec_l14Number.f a = some (decide (0 ≤ a ∧ a ≤ 9999)) := by unfold spec_l14Number.f; rw [l1In_eq]; rfl
theorem specSizeFault_eq (a : Int) : spec_SizeFault.f a = some (szR a) := by
  unfold spec_SizeFault.f szR
  by_cases h1 : a = 4
  · simp [h1]
  · by_cases h2 : a = 8
    · simp [h2]
    · by_cases h3 : a = 16
      · simp [h3]
      · simp [h1, h2, h3]
theorem l9Rung_eq (a : Int) : spec_l9Rung.f a = some (decide (0 ≤ a ∧ a ≤ 47)) := by unfold spec_l9Rung.f; rw [l1In_eq]; rfl
theorem l13Is_eq (a : Int) : spec_l13Is.f a = some (decide (0 ≤ a ∧ a ≤ 3)) := by unfold spec_l13Is.f; rw [l1In_eq]; rfl
theorem l10Spread_eq (a : Int) : spec_l10Spread.f a = some (decide (0 ≤ a ∧ a ≤ 2)) := by unfold spec_l10Spread.f; rw [l1In_eq]; rfl
theorem l14Head_eq (n s r m p : Int) : spec_l14Head.f n s r m p = some (headR n s r m p) := by
  unfold spec_l14Head.f headR
  simp only [l14Number_eq, specSizeFault_eq, l9Rung_eq, l13Is_eq, l10Spread_eq, Option.bind_some, decide_eq_true_eq]
  by_cases h1 : 0 ≤ n ∧ n ≤ 9999
  · by_cases h2 : szR s = 0
    · by_cases h3 : 0 ≤ r ∧ r ≤ 47
      · by_cases h4 : 0 ≤ m ∧ m ≤ 3
        · by_cases h5 : 0 ≤ p ∧ p ≤ 2
          · simp [h1, h2, h3, h4, h5]
          · simp [h1, h2, h3, h4, h5]
        · simp [h1, h2, h3, h4]
      · simp [h1, h2, h3]
    · simp [h1, h2]
  · simp [h1]
theorem l13Bands_eq (s : Int) : spec_l13Bands.f s = some (bnds s) := by unfold spec_l13Bands.f bnds; split <;> (try rfl); split <;> rfl
theorem l10Index_eq (a : Int) : spec_l10Index.f a = some (decide (-30000 ≤ a ∧ a ≤ 30000)) := by unfold spec_l10Index.f; rw [l1In_eq]; rfl
theorem l9Step_eq (r : Int) (h0 : 0 ≤ r) (h1 : r ≤ 47) (k : Nat) (hk : 30 ≤ k) : spec_l9Step.f k r = some (stp r) := by
  have key : ∀ n : Nat, n < 48 → spec_l9Step.f 30 (n : Int) = some (stp (n : Int)) := by decide +kernel
  have := key r.toNat (by omega)
  rw [Int.toNat_of_nonneg h0] at this
  exact at_rounds (g := fun k => spec_l9Step.f k r) (spec_l9Step.mono r) hk this

theorem l9Coef_eq (a : Int) : spec_l9Coef.f a = some (decide (-16777216 ≤ a ∧ a ≤ 16777216)) := by unfold spec_l9Coef.f; rw [l1In_eq]; rfl
theorem l14Fits_eq (q r : Int) (hq : -100000 ≤ q ∧ q ≤ 100000) (hr : 0 ≤ r ∧ r ≤ 47) (K : Nat) (hK : 30 ≤ K) : spec_l14Fits.f K q r = some (decide (-16777216 ≤ q * stp r ∧ q * stp r ≤ 16777216)) := by
  unfold spec_l14Fits.f
  have hs := stp_pos r hr.1 hr.2
  have b1 : q * stp r ≤ 100000 * stp r := Int.mul_le_mul_of_nonneg_right hq.2 (by omega)
  have b2 : -100000 * stp r ≤ q * stp r := Int.mul_le_mul_of_nonneg_right hq.1 (by omega)
  rw [l9Step_eq r hr.1 hr.2 K hK]; simp only [Option.bind_some]
  rw [w64 (n := q * stp r) (by omega) (by omega), l9Coef_eq]; rfl
theorem l14Gains_l0 (g : List Int) (r : Int) (hr : 0 ≤ r ∧ r ≤ 47) (hg : g.length ≤ 1048576) : ∀ (rest pre : List Int) (i : Int) (K : Nat), g = pre ++ rest → (pre.length : Int) = i → rest.length + 40 ≤ K → spec_l14Gains.l0 K g r i = some (rest.all (gainB r)) := by
  intro rest
  induction rest with
  | nil =>
    intro pre i K h1 hi hK
    obtain ⟨K, rfl⟩ : ∃ z, K = z + 1 := ⟨K - 1, by omega⟩
    simp only [spec_l14Gains.l0]
    rw [if_neg (by rw [h1]; simp; omega)]; rfl
  | cons x rest ih =>
    intro pre i K h1 hi hK
    obtain ⟨K, rfl⟩ : ∃ z, K = z + 1 := ⟨K - 1, by omega⟩
    simp only [List.length_cons] at hK
    have hlen : g.length = pre.length + (rest.length + 1) := by rw [h1]; simp
    have hr2 : rd g i = x := by rw [h1]; exact rd_append_right pre (x :: rest) i hi.symm x rest rfl
    simp only [spec_l14Gains.l0]
    rw [if_pos (by omega), if_pos (by omega), hr2, l1In_eq]
    simp only [Option.bind_some, decide_eq_true_eq, List.all_cons]
    have hgb : gainB r x = decide ((0 ≤ x ∧ x ≤ 65535) ∧ (-16777216 ≤ x * stp r ∧ x * stp r ≤ 16777216)) := rfl
    by_cases h2 : 0 ≤ x ∧ x ≤ 65535
    · rw [if_pos h2, l14Fits_eq x r (by omega) hr K (by omega)]
      simp only [Option.bind_some, decide_eq_true_eq]
      by_cases h3 : -16777216 ≤ x * stp r ∧ x * stp r ≤ 16777216
      · rw [if_pos h3, w64 (n := i + 1) (by omega) (by omega), ih (pre ++ [x]) (i + 1) K (by rw [h1]; simp) (by simp; omega) (by omega), hgb]
        simp [h2, h3]
      · rw [if_neg h3, hgb]; simp [h3]
    · rw [if_neg h2, hgb]; simp [h2]
theorem l14Gains_eq (g : List Int) (r : Int) (hr : 0 ≤ r ∧ r ≤ 47) (hg : g.length ≤ 1048576) (K : Nat) (hK : 1048700 ≤ K) : spec_l14Gains.f K g r = some (g.all (gainB r)) := by
  unfold spec_l14Gains.f; exact l14Gains_l0 g r hr hg g [] 0 K rfl rfl (by omega)
theorem l13Rung2_eq (r m : Int) (hr : 0 ≤ r ∧ r ≤ 47) (hm : 0 ≤ m ∧ m ≤ 3) : spec_l13Rung.f r m = some (grg r m) := by
  unfold spec_l13Rung.f spec_l1Min.f grg
  rw [w64 (n := 2 * m) (by omega) (by omega), w64 (n := r + 2 * m) (by omega) (by omega)]
  by_cases h : r + 2 * m ≤ 47
  · rw [if_pos h]
    split
    · simp only [Option.bind_some]; congr 1; omega
    · rfl
  · rw [if_neg h]
    split
    · rfl
    · simp only [Option.bind_some]; congr 1; omega
theorem l1All_l0 (a b : Int) : ∀ (rest pre : List Int) (i : Int) (k : Nat), (pre.length : Int) = i → rest.length < k → pre.length + rest.length ≤ 1000000000 → spec_l1All.l0 k (pre ++ rest) a b i = some (allW rest a b) := by
  intro rest
  induction rest with
  | nil =>
    intro pre i k hi hk hl
    obtain ⟨k, rfl⟩ : ∃ m, k = m + 1 := ⟨k - 1, by omega⟩
    simp only [spec_l1All.l0]
    rw [if_neg (by simp; omega)]; rfl
  | cons x rest ih =>
    intro pre i k hi hk hl
    obtain ⟨k, rfl⟩ : ∃ m, k = m + 1 := ⟨k - 1, by omega⟩
    simp only [List.length_cons] at hk hl
    simp only [spec_l1All.l0]
    rw [if_pos (by simp; omega), if_pos (by omega), rd_append_right pre (x :: rest) i hi.symm x rest rfl, l1In_eq, w64 (n := i + 1) (by omega) (by omega)]
    have e : pre ++ x :: rest = (pre ++ [x]) ++ rest := by simp
    rw [e, ih (pre ++ [x]) (i + 1) k (by simp; omega) (by omega) (by simp; omega), allW_cons]
    by_cases c : a ≤ x ∧ x ≤ b <;> simp [c]
theorem l1All_eq (l : List Int) (a b : Int) (k : Nat) (hk : l.length < k) (hl : l.length ≤ 1000000000) : spec_l1All.f k l a b = some (allW l a b) := by
  unfold spec_l1All.f; have := l1All_l0 a b l [] 0 k rfl hk (by simpa using hl); simpa using this
theorem l1Abs_eq (x : Int) (h0 : -9223372036854775807 ≤ x) (h1 : x ≤ 9223372036854775807) : spec_l1Abs.f x = some (x.natAbs : Int) := by
  unfold spec_l1Abs.f
  by_cases h : x < 0
  · rw [if_pos h, w64 (by omega) (by omega)]; congr 1; omega
  · rw [if_neg h]; congr 1; omega
theorem l1Norm_l0 (l : List Int) (hl : l.length ≤ 2000000) (hb : ∀ x ∈ l, x.natAbs ≤ 1099511627776) : ∀ (rest pre : List Int) (i s : Int) (k : Nat), l = pre ++ rest → (pre.length : Int) = i → rest.length < k → s = (nrm pre : Int) → spec_l1Norm.l0 k l s i = some (nrm l : Int) := by
  intro rest
  induction rest with
  | nil =>
    intro pre i s k h1 hi hk hs
    obtain ⟨k, rfl⟩ : ∃ m, k = m + 1 := ⟨k - 1, by omega⟩
    simp only [spec_l1Norm.l0]
    rw [if_neg (by rw [h1]; simp; omega), hs, h1]; simp
  | cons x rest ih =>
    intro pre i s k h1 hi hk hs
    obtain ⟨k, rfl⟩ : ∃ m, k = m + 1 := ⟨k - 1, by omega⟩
    simp only [List.length_cons] at hk
    have hlen : l.length = pre.length + (rest.length + 1) := by rw [h1]; simp
    have hx := hb x (by rw [h1]; simp)
    have hp := nrm_le 1099511627776 pre (fun y hy => hb y (by rw [h1]; simp [hy]))
    have hp2 : 1099511627776 * pre.length ≤ 1099511627776 * 2000000 := Nat.mul_le_mul_left _ (by omega)
    simp only [spec_l1Norm.l0]
    have hr : rd l i = x := by rw [h1]; exact rd_append_right pre (x :: rest) i hi.symm x rest rfl
    rw [if_pos (by omega), if_pos (by omega), hr, l1Abs_eq x (by omega) (by omega)]
    simp only [Option.bind_some]
    rw [w64 (n := s + _) (by omega) (by omega), w64 (n := i + 1) (by omega) (by omega)]
    exact ih (pre ++ [x]) (i + 1) _ k (by rw [h1]; simp) (by simp; omega) (by omega) (by rw [nrm_append]; simp only [nrm]; omega)
theorem l1Norm_eq (l : List Int) (hl : l.length ≤ 2000000) (hb : ∀ x ∈ l, x.natAbs ≤ 1099511627776) (k : Nat) (hk : l.length < k) : spec_l1Norm.f k l = some (nrm l : Int) := by
  unfold spec_l1Norm.f; exact l1Norm_l0 l hl hb l [] 0 0 k rfl rfl hk rfl
theorem allW_k {l : List Int} {k : Int} (hk : 0 ≤ k ∧ k ≤ 8) : (allW l (-k) k = true ∧ (nrm l : Int) = k) ↔ (allW l (-8) 8 = true ∧ (nrm l : Int) = k) := by
  constructor
  · rintro ⟨h1, h2⟩; exact ⟨allW_mk fun x hx => by have := allW_mem h1 hx; omega, h2⟩
  · rintro ⟨h1, h2⟩; exact ⟨allW_mk fun x hx => by have := nrm_mem hx; omega, h2⟩
theorem specPulsesFault_eq (l : List Int) (a : Int) (hl : l.length ≤ 2000000) (k : Nat) (hk : l.length + 10 < k) : spec_PulsesFault.f k l a = some (pfR l a) := by
  obtain ⟨k, rfl⟩ : ∃ m, k = m + 1 := ⟨k - 1, by omega⟩
  unfold spec_PulsesFault.f pfR
  by_cases h0 : (l.length : Int) < 1
  · rw [if_pos h0, if_pos (by omega)]; simp only [spec_PulsesFault.j0, if_true]
  · rw [if_neg h0]
    by_cases h1 : (l.length : Int) > 4
    · rw [decide_eq_true h1, if_pos (by omega)]; simp only [spec_PulsesFault.j0, if_true]
    · rw [decide_eq_false h1, if_neg (by omega)]
      simp only [spec_PulsesFault.j0]
      rw [if_neg (by simp), l1In_eq]
      simp only [Option.bind_some, decide_eq_true_eq]
      by_cases h2 : 0 ≤ a ∧ a ≤ 8
      · rw [if_pos h2, if_neg (by simp [h2]), w64 (n := -a) (by omega) (by omega), l1All_eq l (-a) a k (by omega) (by omega)]
        simp only [Option.bind_some]
        simp only [← allW_k h2]
        by_cases h3 : allW l (-a) a = true
        · have h4 : ∀ x ∈ l, x.natAbs ≤ 1099511627776 := fun x hx => by have := allW_mem h3 hx; omega
          rw [if_pos h3, l1Norm_eq l hl h4 k (by omega)]
          simp only [Option.bind_some]
          by_cases h5 : (nrm l : Int) = a
          · rw [if_pos h5, if_pos ⟨h3, h5⟩]
          · rw [if_neg h5, if_neg (fun h => h5 h.2)]
        · rw [if_neg h3, if_neg (fun h => h3 h.1)]
      · rw [if_neg h2, if_pos (by simpa using h2)]
theorem specFrameFault_eq (n s r m p : Int) (l g : List Int) (L : List (List Int)) (hl : l.length ≤ 1048576) (hg : g.length ≤ 1048576) (hLL : ∀ p ∈ L, p.length ≤ 1048576) (K : Nat) (hK : 2200000 ≤ K) : spec_FrameFault.f K n s r m p l g L = some (ffR n s r m p l g L) := by
  unfold spec_FrameFault.f ffR
  rw [l14Head_eq n s r m p]; simp only [Option.bind_some]
  by_cases h0 : headR n s r m p = 0
  · obtain ⟨_, hs, hr, hm, _⟩ := headR_0 h0
    rw [if_pos h0, if_neg (show ¬ headR n s r m p ≠ 0 from fun h => h h0), l13Bands_eq]
    simp only [Option.bind_some]
    rw [Int.tdiv_eq_ediv_of_nonneg (by omega), w64 (n := s / 2) (by omega) (by omega)]
    obtain ⟨K, rfl⟩ : ∃ z, K = z + 1 := ⟨K - 1, by omega⟩
    by_cases h1 : cntR s l g L = 0
    · obtain ⟨c1, c2, c3⟩ : (l.length : Int) = s / 2 ∧ g.length = (bnds s).length ∧ L.length = (bnds s).length := by
        unfold cntR at h1
        by_cases c : (l.length : Int) = s / 2 ∧ g.length = (bnds s).length ∧ L.length = (bnds s).length
        · exact c
        · rw [if_neg c] at h1; simp at h1
      have e3 : ((L.length : Int) != ((bnds s).length : Int)) = false := by simp [c3]
      rw [if_neg (show ¬ cntR s l g L ≠ 0 from fun h => h h1), if_pos c1, if_pos (by omega), e3]
      simp only [spec_FrameFault.j0, Bool.false_eq_true, if_false]
      have hpl : spec_FrameFault.l1 1048700 (bnds s) 0 n s r m p l g L = some (bandsR m (bnds s) L) := by
        have step : ∀ (B : List S93) (i : Int) (K : Nat), 1048650 ≤ K → 0 ≤ i → i < B.length → i < L.length → i ≤ 1000 → spec_FrameFault.l1 (K + 1) B i n s r m p l g L = if bandR (rd_T93 B i).f1 m (rd_L1 L i) = 0 then spec_FrameFault.l1 K B (i + 1) n s r m p l g L else some (bandR (rd_T93 B i).f1 m (rd_L1 L i)) := by
          intro B i K hK i0 i1 i2 i3
          have hmem : (rd_L1 L i).length ≤ 1048576 := by
            apply hLL
            unfold rd_L1
            rw [List.getD_eq_getElem?_getD, List.getElem?_eq_getElem (show i.toNat < L.length by omega)]
            exact List.getElem_mem _
          rw [spec_FrameFault.l1, if_pos i1, if_pos i0, if_pos i2, w64 (n := i + 1) (by omega) (by omega), w64 (n := 2 * m) (by omega) (by omega), w64 (n := 8 - 2 * m) (by omega) (by omega)]
          unfold bandR
          by_cases d : ((rd_L1 L i).length : Int) = (rd_T93 B i).f1
          · rw [if_pos d, if_neg (show ¬ ((rd_L1 L i).length : Int) ≠ (rd_T93 B i).f1 from fun h => h d), specPulsesFault_eq _ _ (by omega) K (by omega)]
            simp only [Option.bind_some]
          · rw [if_neg d, if_pos d]; simp
        have done : ∀ (B : List S93) (i : Int) (K : Nat), ¬ i < B.length → spec_FrameFault.l1 (K + 1) B i n s r m p l g L = some 0 := by
          intro B i K hi
          rw [spec_FrameFault.l1, if_neg hi]
        rcases bnds_two s L c3 with ⟨b, q, e1, rfl⟩ | ⟨b, c, q, q2, e1, rfl⟩
        · rw [e1, step [b] 0 1048699 (by omega) (by omega) (by simp) (by simp) (by omega), done [b] (0 + 1) 1048698 (by simp)]
          simp only [bandsR]
          show (if bandR b.f1 m q = 0 then some 0 else some (bandR b.f1 m q)) = _
          split <;> rfl
        · rw [e1, step [b, c] 0 1048699 (by omega) (by omega) (by simp) (by simp) (by omega), step [b, c] (0 + 1) 1048698 (by omega) (by omega) (by simp) (by simp) (by omega), done [b, c] (0 + 1 + 1) 1048697 (by simp)]
          simp only [bandsR]
          show (if bandR b.f1 m q = 0 then (if bandR c.f1 m q2 = 0 then some 0 else some (bandR c.f1 m q2)) else some (bandR b.f1 m q)) = _
          split
          · split <;> rfl
          · rfl
      have main : ∀ (rest pre : List Int) (i : Int) (K : Nat), l = pre ++ rest → (pre.length : Int) = i → rest.length + 1048701 ≤ K → spec_FrameFault.l0 K (bnds s) i n s r m p l g L = some (if rest.all (lowB r) = true then (if g.all (gainB (grg r m)) = true then bandsR m (bnds s) L else 3) else 3) := by
        intro rest
        induction rest with
        | nil =>
          intro pre i K e hi hK
          obtain ⟨K, rfl⟩ : ∃ z, K = z + 1 := ⟨K - 1, by omega⟩
          simp only [spec_FrameFault.l0]
          rw [if_neg (by rw [e]; simp; omega), l13Rung2_eq r m hr hm]
          simp only [Option.bind_some]
          rw [l14Gains_eq g _ (grg_range hr hm) hg K (by omega)]
          simp only [Option.bind_some, List.all_nil, if_true]
          by_cases hgg : g.all (gainB (grg r m)) = true
          · rw [if_pos hgg, if_pos hgg]
            exact at_rounds (g := fun K => spec_FrameFault.l1 K _ _ _ _ _ _ _ _ _ _) (fun K => (spec_FrameFault.mono_l K).2.2 _ _ _ _ _ _ _ _ _ _) (show 1048700 ≤ K by omega) hpl
          · rw [if_neg hgg, if_neg hgg]
        | cons x rest ih =>
          intro pre i K e hi hK
          obtain ⟨K, rfl⟩ : ∃ z, K = z + 1 := ⟨K - 1, by omega⟩
          simp only [List.length_cons] at hK
          have hlen : l.length = pre.length + (rest.length + 1) := by rw [e]; simp
          have hr2 : rd l i = x := by rw [e]; exact rd_append_right pre (x :: rest) i hi.symm x rest rfl
          simp only [spec_FrameFault.l0]
          rw [if_pos (by omega), if_pos (by omega), hr2, l10Index_eq]
          simp only [Option.bind_some, decide_eq_true_eq]
          have hgb : lowB r x = decide ((-30000 ≤ x ∧ x ≤ 30000) ∧ (-16777216 ≤ x * stp r ∧ x * stp r ≤ 16777216)) := rfl
          by_cases h2 : -30000 ≤ x ∧ x ≤ 30000
          · rw [if_pos h2, l14Fits_eq x r (by omega) hr K (by omega)]
            simp only [Option.bind_some, decide_eq_true_eq]
            by_cases h3 : -16777216 ≤ x * stp r ∧ x * stp r ≤ 16777216
            · have hx : lowB r x = true := by rw [hgb]; simp [h2, h3]
              rw [if_pos h3, w64 (n := i + 1) (by omega) (by omega), ih (pre ++ [x]) (i + 1) K (by rw [e]; simp) (by simp; omega) (by omega)]
              simp [List.all_cons, hx]
            · have hx : lowB r x = false := by rw [hgb]; simp [h3]
              rw [if_neg h3]; simp [List.all_cons, hx]
          · have hx : lowB r x = false := by rw [hgb]; simp [h2]
            rw [if_neg h2]; simp [List.all_cons, hx]
      exact main l [] 0 K rfl rfl (by omega)
    · rw [if_pos h1]
      unfold cntR at h1
      by_cases c1 : (l.length : Int) = s / 2
      · rw [if_pos c1]
        by_cases c2 : (g.length : Int) = ((bnds s).length : Int)
        · rw [if_pos c2]
          have c3 : ¬ L.length = (bnds s).length := fun h => h1 (by rw [if_pos ⟨c1, by omega, h⟩])
          have e3 : ((L.length : Int) != ((bnds s).length : Int)) = true := by simp; omega
          rw [e3]; simp only [spec_FrameFault.j0, if_true]
        · rw [if_neg c2]; simp only [spec_FrameFault.j0, if_true]
      · rw [if_neg c1]; simp only [spec_FrameFault.j0, if_true]
  · rw [if_neg h0, if_pos h0]
theorem specPartFault_eq (n s r m p d : Int) (l g : List Int) (L : List (List Int)) (hl : l.length ≤ 1048576) (hg : g.length ≤ 1048576) (hLL : ∀ p ∈ L, p.length ≤ 1048576) (K : Nat) (hK : 2200000 ≤ K) : spec_PartFault.f K n s r m p d l g L = some (partR n s r m p d l g L) := by
  unfold spec_PartFault.f partR
  rw [l14Head_eq n s r m p]; simp only [Option.bind_some, l1In_eq, decide_eq_true_eq]
  by_cases h0 : headR n s r m p = 0
  · obtain ⟨hn, hs, hr, hm, hp⟩ := headR_0 h0
    rw [if_pos h0, if_neg (show ¬ headR n s r m p ≠ 0 from fun h => h h0)]
    by_cases hd : 0 ≤ d ∧ d ≤ 1
    · rw [if_pos hd, if_neg (show ¬ ¬ (0 ≤ d ∧ d ≤ 1) from fun h => h hd), l13Bands_eq]
      simp only [Option.bind_some]
      rw [Int.tdiv_eq_ediv_of_nonneg (by omega), w64 (n := s / 2) (by omega) (by omega)]
      obtain ⟨K, rfl⟩ : ∃ z, K = z + 1 := ⟨K - 1, by omega⟩
      by_cases h1 : cntR s l g L = 0
      · obtain ⟨c1, c2, c3⟩ : (l.length : Int) = s / 2 ∧ g.length = (bnds s).length ∧ L.length = (bnds s).length := by
          unfold cntR at h1
          by_cases c : (l.length : Int) = s / 2 ∧ g.length = (bnds s).length ∧ L.length = (bnds s).length
          · exact c
          · rw [if_neg c] at h1; simp at h1
        have e3 : ((L.length : Int) != ((bnds s).length : Int)) = false := by simp [c3]
        rw [if_neg (show ¬ cntR s l g L ≠ 0 from fun h => h h1), if_pos c1, if_pos (by omega), e3]
        simp only [spec_PartFault.j0, Bool.false_eq_true, if_false]
        have hpl : spec_PartFault.l1 1048700 (bnds s) 0 n s r m p d l g L = some (pbandsR n d m 0 (bnds s) L) := by
          have step : ∀ (B : List S93) (i : Int) (K : Nat), 1048650 ≤ K → 0 ≤ i → i < B.length → i < L.length → i ≤ 1000 → spec_PartFault.l1 (K + 1) B i n s r m p d l g L = if pbandR n d m i (rd_T93 B i).f1 (rd_L1 L i) = 0 then spec_PartFault.l1 K B (i + 1) n s r m p d l g L else some (pbandR n d m i (rd_T93 B i).f1 (rd_L1 L i)) := by
            intro B i K hK i0 i1 i2 i3
            have hmem : (rd_L1 L i).length ≤ 1048576 := by
              apply hLL
              unfold rd_L1
              rw [List.getD_eq_getElem?_getD, List.getElem?_eq_getElem (show i.toNat < L.length by omega)]
              exact List.getElem_mem _
            rw [spec_PartFault.l1, if_pos i1]
            unfold spec_l15Mine_any.f pbandR bandR
            rw [w64 (n := n + i) (by omega) (by omega), w64 (n := i + 1) (by omega) (by omega), w64 (n := 2 * m) (by omega) (by omega), w64 (n := 8 - 2 * m) (by omega) (by omega)]
            simp only [Option.bind_some, beq_iff_eq]
            by_cases o : Int.tmod (n + i) 2 = d
            · rw [if_pos o, if_pos o, if_pos i0, if_pos i2]
              by_cases dd : ((rd_L1 L i).length : Int) = (rd_T93 B i).f1
              · rw [if_pos dd, if_neg (show ¬ ((rd_L1 L i).length : Int) ≠ (rd_T93 B i).f1 from fun h => h dd), specPulsesFault_eq _ _ (by omega) K (by omega)]
                simp only [Option.bind_some]
              · rw [if_neg dd, if_pos dd]; simp
            · rw [if_neg o, if_neg o, if_pos i0, if_pos i2]
              by_cases e : ((rd_L1 L i).length : Int) > 0
              · rw [if_pos e, if_pos e]; rfl
              · rw [if_neg e, if_neg e]; rfl
          have done : ∀ (B : List S93) (i : Int) (K : Nat), ¬ i < B.length → spec_PartFault.l1 (K + 1) B i n s r m p d l g L = some 0 := by
            intro B i K hi
            rw [spec_PartFault.l1, if_neg hi]
          rcases bnds_two' s L c3 with ⟨b, q, e1, rfl⟩ | ⟨b, c, q, q2, e1, rfl⟩
          · rw [e1, step [b] 0 1048699 (by omega) (by omega) (by simp) (by simp) (by omega), done [b] (0 + 1) 1048698 (by simp)]
            simp only [pbandsR]
            show (if pbandR n d m 0 b.f1 q = 0 then some 0 else some (pbandR n d m 0 b.f1 q)) = _
            split <;> rfl
          · rw [e1, step [b, c] 0 1048699 (by omega) (by omega) (by simp) (by simp) (by omega), step [b, c] (0 + 1) 1048698 (by omega) (by omega) (by simp) (by simp) (by omega), done [b, c] (0 + 1 + 1) 1048697 (by simp)]
            simp only [pbandsR]
            show (if pbandR n d m 0 b.f1 q = 0 then (if pbandR n d m (0 + 1) c.f1 q2 = 0 then some 0 else some (pbandR n d m (0 + 1) c.f1 q2)) else some (pbandR n d m 0 b.f1 q)) = _
            split
            · split <;> rfl
            · rfl
        have main : ∀ (rest pre : List Int) (i : Int) (K : Nat), l = pre ++ rest → (pre.length : Int) = i → rest.length + 1048701 ≤ K → spec_PartFault.l0 K (bnds s) i n s r m p d l g L = some (if rest.all (plowB r p) = true then (if g.all (gainB (grg r m)) = true then pbandsR n d m 0 (bnds s) L else 3) else 3) := by
          intro rest
          induction rest with
          | nil =>
            intro pre i K e hi hK
            obtain ⟨K, rfl⟩ : ∃ z, K = z + 1 := ⟨K - 1, by omega⟩
            simp only [spec_PartFault.l0]
            rw [if_neg (by rw [e]; simp; omega), l13Rung2_eq r m hr hm]
            simp only [Option.bind_some]
            rw [l14Gains_eq g _ (grg_range hr hm) hg K (by omega)]
            simp only [Option.bind_some, List.all_nil, if_true]
            by_cases hgg : g.all (gainB (grg r m)) = true
            · rw [if_pos hgg, if_pos hgg]
              exact at_rounds (g := fun K => spec_PartFault.l1 K _ _ _ _ _ _ _ _ _ _ _) (fun K => (spec_PartFault.mono_l K).2.2 _ _ _ _ _ _ _ _ _ _ _) (show 1048700 ≤ K by omega) hpl
            · rw [if_neg hgg, if_neg hgg]
          | cons x rest ih =>
            intro pre i K e hi hK
            obtain ⟨K, rfl⟩ : ∃ z, K = z + 1 := ⟨K - 1, by omega⟩
            simp only [List.length_cons] at hK
            have hlen : l.length = pre.length + (rest.length + 1) := by rw [e]; simp
            have hr2 : rd l i = x := by rw [e]; exact rd_append_right pre (x :: rest) i hi.symm x rest rfl
            simp only [spec_PartFault.l0]
            rw [if_pos (by omega), if_pos (by omega), hr2, l10Index_eq]
            simp only [Option.bind_some, decide_eq_true_eq]
            have hgb : plowB r p x = decide ((-30000 ≤ x ∧ x ≤ 30000) ∧ (-16777216 ≤ ((p + 1) * x) * stp r ∧ ((p + 1) * x) * stp r ≤ 16777216)) := rfl
            by_cases h2 : -30000 ≤ x ∧ x ≤ 30000
            · have hb := pq_bound p x hp h2
              rw [if_pos h2, w64 (n := p + 1) (by omega) (by omega), w64 (n := (p + 1) * x) (by omega) (by omega), l14Fits_eq _ r (by omega) hr K (by omega)]
              simp only [Option.bind_some, decide_eq_true_eq]
              by_cases h3 : -16777216 ≤ ((p + 1) * x) * stp r ∧ ((p + 1) * x) * stp r ≤ 16777216
              · have hx : plowB r p x = true := by rw [hgb]; simp [h2, h3]
                rw [if_pos h3, w64 (n := i + 1) (by omega) (by omega), ih (pre ++ [x]) (i + 1) K (by rw [e]; simp) (by simp; omega) (by omega)]
                simp [List.all_cons, hx]
              · have hx : plowB r p x = false := by rw [hgb]; simp [h3]
                rw [if_neg h3]; simp [List.all_cons, hx]
            · have hx : plowB r p x = false := by rw [hgb]; simp [h2]
              rw [if_neg h2]; simp [List.all_cons, hx]
        exact main l [] 0 K rfl rfl (by omega)
      · rw [if_pos h1]
        unfold cntR at h1
        by_cases c1 : (l.length : Int) = s / 2
        · rw [if_pos c1]
          by_cases c2 : (g.length : Int) = ((bnds s).length : Int)
          · rw [if_pos c2]
            have c3 : ¬ L.length = (bnds s).length := fun h => h1 (by rw [if_pos ⟨c1, by omega, h⟩])
            have e3 : ((L.length : Int) != ((bnds s).length : Int)) = true := by simp; omega
            rw [e3]; simp only [spec_PartFault.j0, if_true]
          · rw [if_neg c2]; simp only [spec_PartFault.j0, if_true]
        · rw [if_neg c1]; simp only [spec_PartFault.j0, if_true]
    · rw [if_neg hd, if_pos hd]
  · rw [if_neg h0, if_pos h0]
theorem sPartOf_l1 (n s r m p d n0 : Int) (fl fg l g : List Int) (R : Option (Int × Int × Int × Int × Int × Int × List Int × List Int × (List (List Int)))) : ∀ (rest pre acc : List (List Int)) (i : Int) (K : Nat), (pre.length : Int) = i → (∀ p ∈ rest, p.length ≤ 1048576) → (0 ≤ n ∧ n ≤ 9999) → i + rest.length ≤ 1000000 → acc.length + rest.length ≤ 1000000 → rest.length + n0.toNat + 1 ≤ K →
    (∀ K, n0.toNat + 1 ≤ K → spec_l15Of.l1 K ((pre ++ rest).length : Int) n s r m p fl fg (pre ++ rest) n s r m p d l g (acc ++ ownL n d i rest) = R) → spec_l15Of.l1 K i n s r m p fl fg (pre ++ rest) n s r m p d l g acc = R := by
  intro rest
  induction rest with
  | nil =>
    intro pre acc i K hi hb hn h1 h2 hK h
    have := h K (by simp at hK; omega)
    simp only [List.append_nil, ownL] at this ⊢
    rw [← hi]; exact this
  | cons x rest ih =>
    intro pre acc i K hi hb hn h1 h2 hK h
    obtain ⟨K, rfl⟩ : ∃ z, K = z + 1 := ⟨K - 1, by omega⟩
    simp only [List.length_cons] at h1 h2 hK
    have hx := hb x List.mem_cons_self
    have e1 : rd_L1 (pre ++ x :: rest) i = x := rdL1_right pre (x :: rest) i hi.symm x rest rfl
    rw [spec_l15Of.l1, if_pos (by simp; omega), e1]
    unfold spec_l15Mine_any.f spec_l1Ints.f
    rw [w64 (n := n + i) (by omega) (by omega), w64 (n := i + 1) (by omega) (by omega)]
    simp only [Option.bind_some, beq_iff_eq, List.nil_append]
    have go := fun y => ih (pre ++ [x]) (acc ++ [y]) (i + 1) K (by simp; omega) (fun p hp => hb p (List.mem_cons_of_mem _ hp)) hn (by omega) (by simp; omega) (by omega)
    simp only [cat_one] at go
    by_cases c : Int.tmod (n + i) 2 = d
    · rw [if_pos c, if_pos (by omega), if_pos (by simp; omega)]; simp only [Option.bind_some]
      rw [if_pos (by omega)]
      exact go x (fun K hK => by have := h K hK; simp only [ownL, if_pos c] at this; exact this)
    · rw [if_neg c, if_pos (by omega)]
      exact go [] (fun K hK => by have := h K hK; simp only [ownL, if_neg c] at this; exact this)
theorem sPartOf_l0 (n s r m p d n0 : Int) (fg g : List Int) (L : List (List Int)) (R : Option (Int × Int × Int × Int × Int × Int × List Int × List Int × (List (List Int)))) (hd : 0 ≤ d ∧ d ≤ 1) : ∀ (rest pre acc : List Int) (i : Int) (K : Nat), (pre.length : Int) = i → (∀ x ∈ rest, -30000 ≤ x ∧ x ≤ 30000) → i + rest.length ≤ 1000000 → acc.length + rest.length ≤ 1000000 → rest.length + n0.toNat + 2 ≤ K →
    (∀ K, n0.toNat ≤ K → spec_l15Of.l1 K 0 n s r m p (pre ++ rest) fg L n s r m p d (acc ++ sideL p d i rest) g [] = R) → spec_l15Of.l0 K d i n s r m p (pre ++ rest) fg L n s r m p d acc g = R := by
  intro rest
  induction rest with
  | nil =>
    intro pre acc i K hi hb h1 h2 hK h
    obtain ⟨K, rfl⟩ : ∃ z, K = z + 1 := ⟨K - 1, by omega⟩
    rw [spec_l15Of.l0, if_neg (by simp; omega)]
    have := h K (by simp at hK; omega)
    simpa only [List.append_nil, sideL] using this
  | cons x rest ih =>
    intro pre acc i K hi hb h1 h2 hK h
    obtain ⟨K, rfl⟩ : ∃ z, K = z + 1 := ⟨K - 1, by omega⟩
    simp only [List.length_cons] at h1 h2 hK
    have hx := hb x List.mem_cons_self
    have e1 : rd (pre ++ x :: rest) i = x := rd_append_right pre (x :: rest) i hi.symm x rest rfl
    rw [spec_l15Of.l0, if_pos (by simp; omega), if_pos (by omega), e1]
    rw [l10Split_eq x p _ (by omega) (by omega) K (by omega)]
    simp only [Option.bind_some]
    rw [w64 (n := i + 1) (by omega) (by omega)]
    have go := fun y => ih (pre ++ [x]) (acc ++ [y]) (i + 1) K (by simp; omega) (fun y hy => hb y (List.mem_cons_of_mem _ hy)) (by omega) (by simp; omega) (by omega)
    simp only [cat_one] at go
    by_cases c : d = 1
    · rw [if_pos c, if_pos (show acc.length < 17592186044416 by omega)]
      exact go _ (fun K hK => by have := h K hK; simp only [sideL, if_pos c] at this; exact this)
    · rw [if_neg c, if_pos (show acc.length < 17592186044416 by omega)]
      exact go _ (fun K hK => by have := h K hK; simp only [sideL, if_neg c] at this; exact this)
theorem specPartOf_eq (n s r m p : Int) (l g : List Int) (L : List (List Int)) (d : Int) (hl : l.length ≤ 1048576) (hg : g.length ≤ 1048576) (hLL : ∀ p ∈ L, p.length ≤ 1048576) (K : Nat) (hK : 2500000 ≤ K) : spec_PartOf.f K n s r m p l g L d = some (poR n s r m p l g L d) := by
  unfold spec_PartOf.f poR
  rw [specFrameFault_eq n s r m p l g L hl hg hLL K (by omega)]; simp only [Option.bind_some, l1In_eq]
  by_cases h0 : ffR n s r m p l g L = 0
  · rw [if_neg (show ¬ ffR n s r m p l g L ≠ 0 from fun q => q h0)]
    simp only [h0, if_true]
    by_cases hd : 0 ≤ d ∧ d ≤ 1
    · rw [if_neg (show ¬ ¬ (0 ≤ d ∧ d ≤ 1) from fun q => q hd)]
      simp only [hd, and_self, decide_true, if_true]
      obtain ⟨h1, h2, h3, h4, h5⟩ := ffR_0 h0
      obtain ⟨hn, hs, hr, hm, hp⟩ := headR_0 h1
      have hc := cntR_0 h2
      have hb := bnds_le s
      have e0 : spec_l15Of.f K n s r m p l g L d = some (n, s, r, m, p, d, sideL p d 0 l, g, ownL n d 0 L) := by
        unfold spec_l15Of.f spec_l1Ints.f
        simp only [Option.bind_some, List.nil_append]
        rw [if_pos (by simp; omega)]; simp only [Option.bind_some]
        have e := sPartOf_l0 n s r m p d 1500000 g g L (some (n, s, r, m, p, d, sideL p d 0 l, g, ownL n d 0 L)) hd l [] [] 0 K rfl (fun x hx => by have := low_use (List.all_eq_true.1 h3 x hx); omega) (by omega) (by simp; omega) (by omega)
        simp only [List.nil_append] at e
        refine e ?_
        intro K hK
        have e2 := sPartOf_l1 n s r m p d 1200000 l g (sideL p d 0 l) g (some (n, s, r, m, p, d, sideL p d 0 l, g, ownL n d 0 L)) L [] [] 0 K rfl hLL hn (by omega) (by simp; omega) (by omega)
        simp only [List.nil_append] at e2
        refine e2 ?_
        intro K hK
        obtain ⟨K, rfl⟩ : ∃ z, K = z + 1 := ⟨K - 1, by omega⟩
        rw [spec_l15Of.l1, if_neg (by omega)]
      rw [e0]
      simp only [Option.bind_some]
      rw [specPartFault_eq n s r m p d _ g _ (by rw [sideL_len]; omega) hg (ownL_le n d 1048576 L 0 hLL) K (by omega)]
      simp only [Option.bind_some]
      split <;> rfl
    · simp [hd]
  · simp [h0]
theorem eqPart_self (a b c d e f : Int) (l m : List Int) (L : List (List Int)) (hl : l.length ≤ 1048576) (hm : m.length ≤ 1048576) (hL : L.length ≤ 1048576) (hLL : ∀ p ∈ L, p.length ≤ 1048576) (K : Nat) (hK : 2097160 < K) : laws_eqPart.f K a b c d e f l m L a b c d e f l m L = some true := by
  unfold laws_eqPart.f
  simp only [if_true]
  rw [eqInt64S_self l (by omega) K (by omega)]; simp only [Option.bind_some, if_true]
  rw [eqInt64S_self m (by omega) K (by omega)]; simp only [Option.bind_some, if_true]
  rw [eqInt64SS_self L hL hLL K hK]; rfl

/-- So many numbers from x on. -/
def iv : Nat → Int → List Int
  | 0, _ => []
  | n + 1, x => x :: iv n (x + 1)
theorem iv_length : ∀ (n : Nat) (x : Int), (iv n x).length = n
  | 0, _ => rfl
  | n + 1, x => by simp [iv, iv_length n]
theorem mem_iv : ∀ (n : Nat) (x y : Int), y ∈ iv n x → x ≤ y ∧ y < x + n
  | 0, _, _, h => by simp [iv] at h
  | n + 1, x, y, h => by
    simp only [iv, List.mem_cons] at h
    rcases h with rfl | h
    · omega
    · have := mem_iv n (x + 1) y h; omega
theorem markInt64S_l0 : ∀ (rest pre : List Int) (a i : Int) (k : Nat), (pre.length : Int) = i → rest.length < k → 0 ≤ a → a + rest.length ≤ 4000000000000000000 → i + rest.length ≤ 4000000000000000000 →
    laws_markInt64S.l0 k (pre ++ rest) a i = some (a + rest.length, pre ++ iv rest.length a) := by
  intro rest
  induction rest with
  | nil =>
    intro pre a i k hi hk h0 h1 h2
    obtain ⟨k, rfl⟩ : ∃ m, k = m + 1 := ⟨k - 1, by omega⟩
    simp only [laws_markInt64S.l0]
    rw [if_neg (by simp; omega)]; simp [iv]
  | cons x rest ih =>
    intro pre a i k hi hk h0 h1 h2
    obtain ⟨k, rfl⟩ : ∃ m, k = m + 1 := ⟨k - 1, by omega⟩
    simp only [List.length_cons] at hk h1 h2
    simp only [laws_markInt64S.l0]
    rw [if_pos (by simp; omega), if_pos (by omega), w64 (n := a + 1) (by omega) (by omega), w64 (n := i + 1) (by omega) (by omega)]
    have e : (pre ++ x :: rest).set i.toNat a = (pre ++ [a]) ++ rest := by
      have hn : i.toNat = pre.length := by omega
      rw [hn, List.set_append_right _ _ (Nat.le_refl _)]; simp
    rw [e, ih (pre ++ [a]) (a + 1) (i + 1) k (by simp; omega) (by omega) (by omega) (by omega) (by omega)]
    simp [iv]; omega
theorem markInt64S_eq (l : List Int) (a : Int) (k : Nat) (hk : l.length < k) (h0 : 0 ≤ a) (h1 : a + l.length ≤ 4000000000000000000) : laws_markInt64S.f k l a = some (a + l.length, iv l.length a) := by
  unfold laws_markInt64S.f
  have := markInt64S_l0 l [] a 0 k rfl hk h0 h1 (by omega)
  simpa using this
/-- How many numbers rows have. -/
def tot : List (List Int) → Nat
  | [] => 0
  | l :: L => l.length + tot L
/-- The rows marked from a on. -/
def ivs : List (List Int) → Int → List (List Int)
  | [], _ => []
  | l :: L, a => iv l.length a :: ivs L (a + l.length)
theorem tot_le (B : Nat) : ∀ (L : List (List Int)), (∀ p ∈ L, p.length ≤ B) → tot L ≤ B * L.length
  | [], _ => by simp [tot]
  | l :: L, h => by
    have h1 := tot_le B L (fun p hp => h p (List.mem_cons_of_mem _ hp))
    have h2 := h l List.mem_cons_self
    simp only [tot, List.length_cons, Nat.mul_succ]; omega
theorem markInt64SS_l0 (B : Nat) : ∀ (rest pre : List (List Int)) (a i : Int) (K : Nat), (pre.length : Int) = i → (∀ p ∈ rest, p.length ≤ B) → rest.length + B + 10 ≤ K → 0 ≤ a → a + tot rest ≤ 4000000000000000000 → i + rest.length ≤ 1000000000000 →
    laws_markInt64SS.l0 K (pre ++ rest) a i = some (a + tot rest, pre ++ ivs rest a) := by
  intro rest
  induction rest with
  | nil =>
    intro pre a i K hi hB hK h0 h1 h2
    obtain ⟨K, rfl⟩ : ∃ z, K = z + 1 := ⟨K - 1, by omega⟩
    rw [laws_markInt64SS.l0, if_neg (by simp; omega)]; simp [tot, ivs]
  | cons l rest ih =>
    intro pre a i K hi hB hK h0 h1 h2
    obtain ⟨K, rfl⟩ : ∃ z, K = z + 1 := ⟨K - 1, by omega⟩
    simp only [List.length_cons, tot] at hK h1 h2
    have hl := hB l List.mem_cons_self
    have e1 : rd_L1 (pre ++ l :: rest) i = l := rdL1_right pre (l :: rest) i hi.symm l rest rfl
    rw [laws_markInt64SS.l0, if_pos (by simp; omega), if_pos (by omega), e1, markInt64S_eq l a K (by omega) h0 (by omega)]; simp only [Option.bind_some]
    have e2 : (pre ++ l :: rest).set i.toNat (iv l.length a) = (pre ++ [iv l.length a]) ++ rest := by
      rw [← hi, Int.toNat_natCast]; simp
    rw [e2, w64 (n := i + 1) (by omega) (by omega), ih (pre ++ [iv l.length a]) (a + l.length) (i + 1) K (by simp; omega) (fun p hp => hB p (List.mem_cons_of_mem _ hp)) (by omega) (by omega) (by omega) (by omega)]
    simp only [tot, ivs, List.append_assoc, List.singleton_append]
    congr 2; push_cast; omega
theorem markInt64SS_eq (L : List (List Int)) (a : Int) (hL : L.length ≤ 1048576) (hLL : ∀ p ∈ L, p.length ≤ 1048576) (h0 : 0 ≤ a) (h1 : a ≤ 1000000000000) (K : Nat) (hK : 2097200 ≤ K) : laws_markInt64SS.f K L a = some (a + tot L, ivs L a) := by
  unfold laws_markInt64SS.f
  have h := tot_le 1048576 L hLL
  have h2 : 1048576 * L.length ≤ 1048576 * 1048576 := Nat.mul_le_mul_left _ hL
  have := markInt64SS_l0 1048576 L [] a 0 K rfl hLL (by omega) h0 (by omega) (by omega)
  simpa using this
theorem markPart_ok (n s r m p d : Int) (l g : List Int) (L : List (List Int)) (a : Int) (hl : l.length ≤ 1048576) (hg : g.length ≤ 1048576) (hL : L.length ≤ 1048576) (hLL : ∀ p ∈ L, p.length ≤ 1048576) (h0 : 0 ≤ a) (h1 : a ≤ 10000000000) (K : Nat) (hK : 2097200 ≤ K) :
    laws_markPart.f K n s r m p d l g L a = some (a + l.length + g.length + tot L, iv l.length a, iv g.length (a + l.length), ivs L (a + l.length + g.length)) := by
  unfold laws_markPart.f
  rw [markInt64S_eq l a K (by omega) h0 (by omega)]; simp only [Option.bind_some]
  rw [markInt64S_eq g _ K (by omega) (by omega) (by omega)]; simp only [Option.bind_some]
  rw [markInt64SS_eq L _ hL hLL (by omega) (by omega) K hK]; rfl
theorem heldInt64S_l0 : ∀ (n : Nat) (pre : List Int) (a i : Int) (k : Nat), (pre.length : Int) = i → n < k → 0 ≤ a → a + n ≤ 1000000000000 → i + n ≤ 1000000000000 →
    laws_heldInt64S.l0 k (pre ++ iv n a) a i = some (a + n) := by
  intro n
  induction n with
  | zero =>
    intro pre a i k hi hk h0 h1 h2
    obtain ⟨k, rfl⟩ : ∃ m, k = m + 1 := ⟨k - 1, by omega⟩
    simp only [laws_heldInt64S.l0]
    rw [if_neg (by simp [iv]; omega)]; simp
  | succ n ih =>
    intro pre a i k hi hk h0 h1 h2
    obtain ⟨k, rfl⟩ : ∃ m, k = m + 1 := ⟨k - 1, by omega⟩
    simp only [laws_heldInt64S.l0]
    rw [if_pos (by simp [iv_length]; omega), if_pos (by omega), if_pos (rd_append_right pre (iv (n + 1) a) i hi.symm a (iv n (a + 1)) rfl), w64 (n := a + 1) (by omega) (by omega), w64 (n := i + 1) (by omega) (by omega)]
    have e : pre ++ iv (n + 1) a = (pre ++ [a]) ++ iv n (a + 1) := by simp [iv]
    rw [e, ih (pre ++ [a]) (a + 1) (i + 1) k (by simp; omega) (by omega) (by omega) (by omega) (by omega)]
    congr 1; omega
theorem heldInt64S_eq (n : Nat) (a : Int) (k : Nat) (hk : n < k) (h0 : 0 ≤ a) (h1 : a + n ≤ 1000000000000) : laws_heldInt64S.f k (iv n a) a = some (a + n) := by
  unfold laws_heldInt64S.f
  have := heldInt64S_l0 n [] a 0 k rfl hk h0 h1 (by omega)
  simpa using this
theorem heldInt64SS_l0 (B : Nat) : ∀ (L : List (List Int)) (pre : List (List Int)) (a i : Int) (K : Nat), (pre.length : Int) = i → (∀ p ∈ L, p.length ≤ B) → L.length + B + 10 ≤ K → 0 ≤ a → a + tot L ≤ 1000000000000 → i + L.length ≤ 1000000000000 →
    laws_heldInt64SS.l0 K (pre ++ ivs L a) a i = some (a + tot L) := by
  intro L
  induction L with
  | nil =>
    intro pre a i K hi hB hK h0 h1 h2
    obtain ⟨K, rfl⟩ : ∃ z, K = z + 1 := ⟨K - 1, by omega⟩
    rw [laws_heldInt64SS.l0, if_neg (by simp [ivs]; omega)]; simp [tot]
  | cons l L ih =>
    intro pre a i K hi hB hK h0 h1 h2
    obtain ⟨K, rfl⟩ : ∃ z, K = z + 1 := ⟨K - 1, by omega⟩
    simp only [List.length_cons, tot] at hK h1 h2
    have hl := hB l List.mem_cons_self
    have e1 : rd_L1 (pre ++ ivs (l :: L) a) i = iv l.length a := rdL1_right pre (ivs (l :: L) a) i hi.symm _ (ivs L (a + l.length)) rfl
    have hlen : ((pre ++ ivs (l :: L) a).length : Int) = i + (1 + (ivs L (a + l.length)).length : Nat) := by simp [ivs]; omega
    rw [laws_heldInt64SS.l0, if_pos (by rw [hlen]; omega), if_pos (by omega), e1, heldInt64S_eq l.length a K (by omega) h0 (by omega)]
    simp only [Option.bind_some]
    rw [if_neg (by omega), w64 (n := i + 1) (by omega) (by omega)]
    have e2 : pre ++ ivs (l :: L) a = (pre ++ [iv l.length a]) ++ ivs L (a + l.length) := by simp [ivs]
    rw [e2, ih (pre ++ [iv l.length a]) (a + l.length) (i + 1) K (by simp; omega) (fun p hp => hB p (List.mem_cons_of_mem _ hp)) (by omega) (by omega) (by omega) (by omega)]
    simp only [tot]; congr 1; push_cast; omega
theorem heldInt64SS_eq (L : List (List Int)) (a : Int) (hL : L.length ≤ 1048576) (hLL : ∀ p ∈ L, p.length ≤ 1048576) (h0 : 0 ≤ a) (h1 : a + tot L ≤ 1000000000000) (K : Nat) (hK : 2097200 ≤ K) : laws_heldInt64SS.f K (ivs L a) a = some (a + tot L) := by
  unfold laws_heldInt64SS.f
  have := heldInt64SS_l0 1048576 L [] a 0 K rfl hLL (by omega) h0 h1 (by omega)
  simpa using this
theorem eqPartResult_self (c n s r m p d : Int) (l g : List Int) (L : List (List Int)) (hl : l.length ≤ 1048576) (hg : g.length ≤ 1048576) (hL : L.length ≤ 1048576) (hLL : ∀ p ∈ L, p.length ≤ 1048576) (K : Nat) (hK : 2097160 < K) : laws_eqPartResult.f K c n s r m p d l g L c n s r m p d l g L = some true := by
  unfold laws_eqPartResult.f; rw [if_pos rfl, eqPart_self n s r m p d l g L hl hg hL hLL K hK]; rfl
theorem heldPart_ok (n s r m p d : Int) (l g : List Int) (L : List (List Int)) (a : Int) (hl : l.length ≤ 1048576) (hg : g.length ≤ 1048576) (hL : L.length ≤ 1048576) (hLL : ∀ p ∈ L, p.length ≤ 1048576) (h0 : 0 ≤ a) (h1 : a + l.length + g.length + tot L ≤ 1000000000000) (K : Nat) (hK : 2097200 ≤ K) :
    laws_heldPart.f K n s r m p d (iv l.length a) (iv g.length (a + l.length)) (ivs L (a + l.length + g.length)) a = some (a + l.length + g.length + tot L) := by
  unfold laws_heldPart.f
  rw [heldInt64S_eq l.length a K (by omega) h0 (by omega)]; simp only [Option.bind_some]
  rw [if_neg (by omega), heldInt64S_eq g.length _ K (by omega) (by omega) (by omega)]; simp only [Option.bind_some]
  rw [if_neg (by omega), heldInt64SS_eq L _ hL hLL (by omega) h1 K hK]; simp only [Option.bind_some]
  rw [if_neg (by omega)]
theorem poR_len (n s r m p : Int) (l g : List Int) (L : List (List Int)) (d : Int) (hl : l.length ≤ 1048576) (hg : g.length ≤ 1048576) (hL : L.length ≤ 1048576) (hLL : ∀ p ∈ L, p.length ≤ 1048576) : (poR n s r m p l g L d).2.2.2.2.2.2.2.1.length ≤ 1048576 ∧ (poR n s r m p l g L d).2.2.2.2.2.2.2.2.1.length ≤ 1048576 ∧ (poR n s r m p l g L d).2.2.2.2.2.2.2.2.2.length ≤ 4 ∧ ∀ q ∈ (poR n s r m p l g L d).2.2.2.2.2.2.2.2.2, q.length ≤ 1048576 := by
  unfold poR
  by_cases h0 : ffR n s r m p l g L = 0
  · have hc := cntR_0 (ffR_0 h0).2.1
    have hb := bnds_le s
    rw [if_neg (fun q => q h0)]
    by_cases hd : 0 ≤ d ∧ d ≤ 1
    · rw [if_neg (fun q => q hd)]
      split
      · exact ⟨by simp only [sideL_len]; omega, hg, by simp only [ownL_len]; omega, fun q hq => ownL_le n d 1048576 L 0 hLL q hq⟩
      · simp
    · rw [if_pos hd]; simp
  · rw [if_pos h0]; simp
theorem markFrame_ok (n s r m p : Int) (l g : List Int) (L : List (List Int)) (a : Int) (hl : l.length ≤ 1048576) (hg : g.length ≤ 1048576) (hL : L.length ≤ 1048576) (hLL : ∀ p ∈ L, p.length ≤ 1048576) (h0 : 0 ≤ a) (h1 : a ≤ 10000000000) (K : Nat) (hK : 2097200 ≤ K) :
    laws_markFrame.f K n s r m p l g L a = some (a + l.length + g.length + tot L, iv l.length a, iv g.length (a + l.length), ivs L (a + l.length + g.length)) := by
  unfold laws_markFrame.f
  rw [markInt64S_eq l a K (by omega) h0 (by omega)]; simp only [Option.bind_some]
  rw [markInt64S_eq g _ K (by omega) (by omega) (by omega)]; simp only [Option.bind_some]
  rw [markInt64SS_eq L _ hL hLL (by omega) (by omega) K hK]; rfl
theorem FnExactPartOf : laws_FnExactPartOf.Pure := by
  intro n s r m p l g L d _ _ _ _ _ hl _ hg _ hL hLL _
  refine ⟨3000000, ?_⟩
  unfold laws_FnExactPartOf.f
  obtain ⟨t, ht, h⟩ := szFrame_eq n s r m p l g L hl hg hL (fun q hq => (hLL q hq).1) 3000000 (by omega)
  rw [ht]; simp only [Option.bind_some]
  by_cases c : t < 0
  · rw [if_pos c]
  rcases h with h | ⟨h1, h2, h3, h4⟩
  · exact absurd h c
  rw [if_neg c, toFrame_eq n s r m p l g L h1 h2 h3 h4 3000000 (by omega)]
  simp only [Option.bind_some]
  rw [specPartOf_eq n s r m p l g L d h1 h2 h4 3000000 (by omega), PartOf_eq n s r m p l g L d h4 3000000 (by omega)]
  have hR := poR_len n s r m p l g L d h1 h2 h3 h4
  generalize poR n s r m p l g L d = R at hR ⊢
  obtain ⟨c0, n1, s1, r1, m1, p1, d1, l1, g1, L1⟩ := R
  obtain ⟨k1, k2, k3, k4⟩ := hR
  simp only [] at k1 k2 k3 k4
  have ht := tot_le 1048576 L1 k4
  have ht2 : 1048576 * L1.length ≤ 1048576 * 4 := Nat.mul_le_mul_left _ k3
  simp only [Option.bind_some]
  rw [eqPartResult_self _ _ _ _ _ _ _ l1 g1 L1 k1 k2 (by omega) k4 3000000 (by omega)]; simp only [Option.bind_some, if_true]
  rw [eqFrame_self n s r m p l g L h1 h2 h3 h4 3000000 (by omega)]; simp only [Option.bind_some, if_true]
  rw [markFrame_ok n s r m p l g L 1 h1 h2 h3 h4 (by omega) (by omega) 3000000 (by omega)]; simp only [Option.bind_some]
  rw [if_neg (by omega)]
  unfold laws_markPartResult.f laws_heldPartResult.f
  rw [markPart_ok _ _ _ _ _ _ l1 g1 L1 1 k1 k2 (by omega) k4 (by omega) (by omega) 3000000 (by omega)]; simp only [Option.bind_some]
  rw [heldPart_ok _ _ _ _ _ _ l1 g1 L1 1 k1 k2 (by omega) k4 (by omega) (by omega) 3000000 (by omega)]; simp only [Option.bind_some]
  rw [if_neg (by omega)]; simp only [Option.bind_some]
  rw [if_neg (by omega)]; simp

end Go.Proofs.Ythehhncokikgcaa.Pure
