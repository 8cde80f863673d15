/- The program's SameParts returns what the reference's returns, for all arguments. -/
import Derived.Test.YtoepnammegcjeaaPFnExactSamePartsx4
set_option linter.unusedVariables false
set_option linter.unusedSimpArgs false
namespace Go.Proofs.Ytoepnammegcjeaa.Pure
open Go.RowKit Go.Proofs.Ytoepnammegcjeaa.PFnExactSameParts Go.Proofs.YtoepnammegcjeaaW.PrintWords Go.Proofs.YtoepnammegcjeaaW.PrintLast

theorem w64 {n : Int} (h1 : -9223372036854775808 ≤ n) (h2 : n ≤ 9223372036854775807) : wrap64 n = n := by unfold wrap64; omega
theorem maxLen_eq : maxLen = 9223372036854775807 := rfl
theorem szInt64S_eq (l : List Int) (a : Int) (h0 : 0 ≤ a) (h1 : a ≤ 1048576) (hl : l.length ≤ maxLen) : laws_szInt64S.f l a = some (if a - (l.length : Int) < 0 then -1 else a - (l.length : Int)) := by
  rw [maxLen_eq] at hl
  unfold laws_szInt64S.f
  rw [w64 (n := a - (l.length : Int)) (by omega) (by omega)]
  split <;> rfl
theorem szInt64SS_l0 (L : List (List Int)) (hL : L.length ≤ 1048576) (hm : ∀ l ∈ L, l.length ≤ maxLen) : ∀ (n : Nat) (i a : Int) (K : Nat), i + n = L.length → 0 ≤ i → 0 ≤ a → a ≤ 1048576 → n < K →
    ∃ t, laws_szInt64SS.l0 K L a i = some t ∧ t ≤ 1048576 ∧ (t < 0 ∨ ∀ j : Int, i ≤ j → j < L.length → ((rd_L1 L j).length : Int) ≤ 1048576) := by
  intro n
  induction n with
  | zero =>
    intro i a K hi h0 h1 h2 hK
    obtain ⟨K, rfl⟩ : ∃ m, K = m + 1 := ⟨K - 1, by omega⟩
    simp only [laws_szInt64SS.l0]
    rw [if_neg (by omega)]
    exact ⟨a, rfl, h2, Or.inr fun j h3 h4 => by omega⟩
  | succ n ih =>
    intro i a K hi h0 h1 h2 hK
    obtain ⟨K, rfl⟩ : ∃ m, K = m + 1 := ⟨K - 1, by omega⟩
    simp only [laws_szInt64SS.l0]
    have hmem : (rd_L1 L i).length ≤ maxLen := by
      apply hm
      unfold rd_L1
      rw [List.getD_eq_getElem?_getD, List.getElem?_eq_getElem (show i.toNat < L.length by omega)]
      exact List.getElem_mem _
    rw [if_pos (by omega), if_pos h0, szInt64S_eq _ a h1 h2 hmem]
    simp only [Option.bind_some]
    by_cases c : a - ((rd_L1 L i).length : Int) < 0
    · rw [if_pos c, if_pos (by omega)]
      exact ⟨-1, rfl, by omega, Or.inl (by omega)⟩
    · rw [if_neg c, if_neg c, w64 (n := i + 1) (by omega) (by omega)]
      obtain ⟨t, ht, h5, h6⟩ := ih (i + 1) (a - ((rd_L1 L i).length : Int)) K (by omega) (by omega) (by omega) (by omega) (by omega)
      refine ⟨t, ht, h5, h6.imp id fun h7 j h8 h9 => ?_⟩
      by_cases e : j = i
      · subst e; omega
      · exact h7 j (by omega) h9
theorem szInt64SS_eq (L : List (List Int)) (a : Int) (h1 : 0 ≤ a) (h2 : a ≤ 1048576) (hl : L.length ≤ maxLen) (hm : ∀ l ∈ L, l.length ≤ maxLen) (K : Nat) (hK : 1048577 ≤ K) :
    ∃ t, laws_szInt64SS.f K L a = some t ∧ t ≤ 1048576 ∧ (t < 0 ∨ (L.length ≤ 1048576 ∧ ∀ l ∈ L, l.length ≤ 1048576)) := by
  rw [maxLen_eq] at hl
  unfold laws_szInt64SS.f
  rw [w64 (n := a - (L.length : Int)) (by omega) (by omega)]
  by_cases c : a - (L.length : Int) < 0
  · rw [if_pos c]; exact ⟨-1, rfl, by omega, Or.inl (by omega)⟩
  · rw [if_neg c]
    obtain ⟨t, ht, h5, h6⟩ := szInt64SS_l0 L (by omega) hm L.length 0 (a - (L.length : Int)) K (by omega) (by omega) (by omega) (by omega) (by omega)
    refine ⟨t, ht, h5, h6.imp id fun h7 => ⟨by omega, fun l hl => ?_⟩⟩
    obtain ⟨j, hj, rfl⟩ := List.getElem_of_mem hl
    have := h7 (j : Int) (by omega) (by omega)
    unfold rd_L1 at this
    rw [Int.toNat_natCast, List.getD_eq_getElem?_getD, List.getElem?_eq_getElem hj] at this
    simp only [Option.getD_some] at this
    omega
theorem szPart_gen (a b c d e f : Int) (l m : List Int) (L : List (List Int)) (q : Int) (q0 : 0 ≤ q) (q1 : q ≤ 1048576) (hl : l.length ≤ maxLen) (hm : m.length ≤ maxLen) (hL : L.length ≤ maxLen) (hLL : ∀ p ∈ L, p.length ≤ maxLen) (K : Nat) (hK : 1048577 ≤ K) :
    ∃ t, laws_szPart.f K a b c d e f l m L q = some t ∧ t ≤ 1048576 ∧ (t < 0 ∨ (l.length ≤ 1048576 ∧ m.length ≤ 1048576 ∧ L.length ≤ 1048576 ∧ ∀ p ∈ L, p.length ≤ 1048576)) := by
  unfold laws_szPart.f
  rw [szInt64S_eq l q (by omega) (by omega) hl]; simp only [Option.bind_some]
  by_cases c1 : q - (l.length : Int) < 0
  · rw [if_pos c1, if_pos (by omega)]; exact ⟨-1, rfl, by omega, Or.inl (by omega)⟩
  rw [if_neg c1, if_neg c1, szInt64S_eq m _ (by omega) (by omega) hm]; simp only [Option.bind_some]
  by_cases c2 : q - (l.length : Int) - (m.length : Int) < 0
  · rw [if_pos c2, if_pos (by omega)]; exact ⟨-1, rfl, by omega, Or.inl (by omega)⟩
  rw [if_neg c2, if_neg c2]
  obtain ⟨t, ht, h5, h6⟩ := szInt64SS_eq L (q - (l.length : Int) - (m.length : Int)) (by omega) (by omega) hL hLL K hK
  rw [ht]; simp only [Option.bind_some]
  by_cases c3 : t < 0
  · rw [if_pos c3]; exact ⟨-1, rfl, by omega, Or.inl (by omega)⟩
  · rw [if_neg c3]
    rcases h6 with h6 | ⟨h7, h8⟩
    · omega
    · exact ⟨t, rfl, h5, Or.inr ⟨by omega, by omega, h7, h8⟩⟩
theorem szPart_eq (a b c d e f : Int) (l m : List Int) (L : List (List Int)) (hl : l.length ≤ maxLen) (hm : m.length ≤ maxLen) (hL : L.length ≤ maxLen) (hLL : ∀ p ∈ L, p.length ≤ maxLen) (K : Nat) (hK : 1048577 ≤ K) :
    ∃ t, laws_szPart.f K a b c d e f l m L 1048576 = some t ∧ (t < 0 ∨ (l.length ≤ 1048576 ∧ m.length ≤ 1048576 ∧ L.length ≤ 1048576 ∧ ∀ p ∈ L, p.length ≤ 1048576)) := by
  obtain ⟨t, h1, _, h3⟩ := szPart_gen a b c d e f l m L 1048576 (by omega) (by omega) hl hm hL hLL K hK
  exact ⟨t, h1, h3⟩
theorem rd_append_right (P Q : List Int) (i : Int) (h : i = (P.length : Int)) (x : Int) (R : List Int) (hQ : Q = x :: R) : rd (P ++ Q) i = x := by
  subst hQ; unfold rd; rw [h, Int.toNat_natCast, List.getD_eq_getElem?_getD, List.getElem?_append_right (Nat.le_refl _)]; simp
theorem rd_get (l : List Int) (i : Int) (h0 : 0 ≤ i) (h1 : i < (l.length : Int)) : rd l i = l[i.toNat]'(by omega) := by
  unfold rd; rw [List.getD_eq_getElem?_getD, List.getElem?_eq_getElem (by omega)]; rfl
theorem toInt64S_l0 (l : List Int) (hl : l.length ≤ 1000000000000) : ∀ (rest pre : List Int) (i : Int) (k : Nat) (z : List Int), l = pre ++ rest → (pre.length : Int) = i → rest.length < k → z.length = rest.length →
    laws_toInt64S.l0 k l (pre ++ z) i = some l := by
  intro rest
  induction rest with
  | nil =>
    intro pre i k z hl2 hi hk hz
    obtain ⟨k, rfl⟩ : ∃ m, k = m + 1 := ⟨k - 1, by omega⟩
    have : z = [] := List.eq_nil_of_length_eq_zero hz
    subst this
    simp only [laws_toInt64S.l0]
    rw [if_neg (by rw [hl2]; simp; omega), hl2]
  | cons x rest ih =>
    intro pre i k z hl2 hi hk hz
    obtain ⟨k, rfl⟩ : ∃ m, k = m + 1 := ⟨k - 1, by omega⟩
    obtain ⟨y, z, rfl⟩ : ∃ y z', z = y :: z' := by cases z with | nil => simp at hz | cons y z => exact ⟨y, z, rfl⟩
    simp only [List.length_cons] at hk hz
    have hlen : l.length = pre.length + (rest.length + 1) := by rw [hl2]; simp
    simp only [laws_toInt64S.l0]
    have hr : rd l i = x := by rw [hl2]; exact rd_append_right pre (x :: rest) i hi.symm x rest rfl
    rw [if_pos (by omega), if_pos (by omega), if_pos (by simp; omega), hr, w64 (n := i + 1) (by omega) (by omega)]
    have e : (pre ++ y :: z).set i.toNat x = (pre ++ [x]) ++ z := by
      have hn : i.toNat = pre.length := by omega
      rw [hn, List.set_append_right _ _ (Nat.le_refl _)]; simp
    rw [e]
    exact ih (pre ++ [x]) (i + 1) k z (by rw [hl2]; simp) (by simp; omega) (by omega) (by omega)
theorem toInt64S_eq (l : List Int) (hl : l.length ≤ 1000000000) (k : Nat) (hk : l.length < k) : laws_toInt64S.f k l = some l := by
  unfold laws_toInt64S.f
  rw [if_pos (by omega), if_pos (by omega)]
  have := toInt64S_l0 l (by omega) l [] 0 k (List.replicate ((l.length : Int)).toNat 0) rfl rfl hk (by simp)
  simpa using this
theorem rdL1_right (P Q : List (List Int)) (i : Int) (h : i = (P.length : Int)) (x : List Int) (R : List (List Int)) (hQ : Q = x :: R) : rd_L1 (P ++ Q) i = x := by
  subst hQ; unfold rd_L1; rw [h, Int.toNat_natCast, List.getD_eq_getElem?_getD, List.getElem?_append_right (Nat.le_refl _)]; simp
theorem toInt64SS_l0 (L : List (List Int)) (hL : L.length ≤ 1000000000) (hLL : ∀ p ∈ L, p.length ≤ 1048576) : ∀ (rest pre : List (List Int)) (i : Int) (k : Nat) (z : List (List Int)), L = pre ++ rest → (pre.length : Int) = i → rest.length + 1048580 < k → z.length = rest.length →
    laws_toInt64SS.l0 k L (pre ++ z) i = some L := by
  intro rest
  induction rest with
  | nil =>
    intro pre i k z hl2 hi hk hz
    obtain ⟨k, rfl⟩ : ∃ m, k = m + 1 := ⟨k - 1, by omega⟩
    have : z = [] := List.eq_nil_of_length_eq_zero hz
    subst this
    simp only [laws_toInt64SS.l0]
    rw [if_neg (by rw [hl2]; simp; omega), hl2]
  | cons x rest ih =>
    intro pre i k z hl2 hi hk hz
    obtain ⟨k, rfl⟩ : ∃ m, k = m + 1 := ⟨k - 1, by omega⟩
    obtain ⟨y, z, rfl⟩ : ∃ y z', z = y :: z' := by cases z with | nil => simp at hz | cons y z => exact ⟨y, z, rfl⟩
    simp only [List.length_cons] at hk hz
    have hlen : L.length = pre.length + (rest.length + 1) := by rw [hl2]; simp
    have hx : x.length ≤ 1048576 := hLL x (by rw [hl2]; simp)
    simp only [laws_toInt64SS.l0]
    have hr : rd_L1 L i = x := by rw [hl2]; exact rdL1_right pre (x :: rest) i hi.symm x rest rfl
    rw [if_pos (by omega), if_pos (by omega), hr, toInt64S_eq x (by omega) k (by omega)]
    simp only [Option.bind_some]
    rw [if_pos (by simp; omega), w64 (n := i + 1) (by omega) (by omega)]
    have e : (pre ++ y :: z).set i.toNat x = (pre ++ [x]) ++ z := by
      have hn : i.toNat = pre.length := by omega
      rw [hn, List.set_append_right _ _ (Nat.le_refl _)]; simp
    rw [e]
    exact ih (pre ++ [x]) (i + 1) k z (by rw [hl2]; simp) (by simp; omega) (by omega) (by omega)
theorem toInt64SS_eq (L : List (List Int)) (hL : L.length ≤ 1048576) (hLL : ∀ p ∈ L, p.length ≤ 1048576) (k : Nat) (hk : 2097160 < k) : laws_toInt64SS.f k L = some L := by
  unfold laws_toInt64SS.f
  rw [if_pos (by omega), if_pos (by omega)]
  have := toInt64SS_l0 L (by omega) hLL L [] 0 k (List.replicate ((L.length : Int)).toNat []) rfl rfl (by omega) (by simp)
  simpa using this
theorem toPart_eq (a b c d e f : Int) (l m : List Int) (L : List (List Int)) (hl : l.length ≤ 1048576) (hm : m.length ≤ 1048576) (hL : L.length ≤ 1048576) (hLL : ∀ p ∈ L, p.length ≤ 1048576) (K : Nat) (hK : 2097160 < K) : laws_toPart.f K a b c d e f l m L = some (a, b, c, d, e, f, l, m, L) := by
  unfold laws_toPart.f
  rw [toInt64S_eq l (by omega) K (by omega)]; simp only [Option.bind_some]
  rw [toInt64S_eq m (by omega) K (by omega)]; simp only [Option.bind_some]
  rw [toInt64SS_eq L hL hLL K hK]; rfl
theorem eqInt64S_l0 (l : List Int) (hl : l.length ≤ 1000000000000) : ∀ (d k : Nat) (i : Int), (l.length : Int) - i = d → 0 ≤ i → d < k → laws_eqInt64S.l0 k l l i = some true := by
  intro d
  induction d with
  | zero =>
    intro k i hd h0 hk
    obtain ⟨k, rfl⟩ : ∃ m, k = m + 1 := ⟨k - 1, by omega⟩
    simp only [laws_eqInt64S.l0]; rw [if_neg (by omega)]
  | succ d ih =>
    intro k i hd h0 hk
    obtain ⟨k, rfl⟩ : ∃ m, k = m + 1 := ⟨k - 1, by omega⟩
    simp only [laws_eqInt64S.l0]
    rw [if_pos (by omega), if_pos h0, if_pos (by omega), if_pos True.intro, w64 (by omega) (by omega)]
    exact ih k (i + 1) (by omega) (by omega) (by omega)
theorem eqInt64S_self (l : List Int) (hl : l.length ≤ 1000000000000) (k : Nat) (hk : l.length < k) : laws_eqInt64S.f k l l = some true := by
  unfold laws_eqInt64S.f; rw [if_pos rfl]; exact eqInt64S_l0 l hl l.length k 0 (by omega) (by omega) hk
theorem eqInt64SS_l0 (L : List (List Int)) (hL : L.length ≤ 1000000000) (hLL : ∀ p ∈ L, p.length ≤ 1048576) : ∀ (d k : Nat) (i : Int), (L.length : Int) - i = d → 0 ≤ i → d + 1048580 < k → laws_eqInt64SS.l0 k L L i = some true := by
  intro d
  induction d with
  | zero =>
    intro k i hd h0 hk
    obtain ⟨k, rfl⟩ : ∃ m, k = m + 1 := ⟨k - 1, by omega⟩
    simp only [laws_eqInt64SS.l0]; rw [if_neg (by omega)]
  | succ d ih =>
    intro k i hd h0 hk
    obtain ⟨k, rfl⟩ : ∃ m, k = m + 1 := ⟨k - 1, by omega⟩
    have hmem : (rd_L1 L i).length ≤ 1048576 := by
      apply hLL
      unfold rd_L1
      rw [List.getD_eq_getElem?_getD, List.getElem?_eq_getElem (show i.toNat < L.length by omega)]
      exact List.getElem_mem _
    simp only [laws_eqInt64SS.l0]
    rw [if_pos (by omega), if_pos h0, if_pos (by omega), eqInt64S_self _ (by omega) k (by omega)]
    simp only [Option.bind_some, if_true]
    rw [w64 (n := i + 1) (by omega) (by omega)]
    exact ih k (i + 1) (by omega) (by omega) (by omega)
theorem eqInt64SS_self (L : List (List Int)) (hL : L.length ≤ 1048576) (hLL : ∀ p ∈ L, p.length ≤ 1048576) (k : Nat) (hk : 2097160 < k) : laws_eqInt64SS.f k L L = some true := by
  unfold laws_eqInt64SS.f
  rw [if_pos rfl]; exact eqInt64SS_l0 L (by omega) hLL L.length k 0 (by omega) (by omega) (by omega)
theorem eqPart_self (a b c d e f : Int) (l m : List Int) (L : List (List Int)) (hl : l.length ≤ 1048576) (hm : m.length ≤ 1048576) (hL : L.length ≤ 1048576) (hLL : ∀ p ∈ L, p.length ≤ 1048576) (K : Nat) (hK : 2097160 < K) : laws_eqPart.f K a b c d e f l m L a b c d e f l m L = some true := by
  unfold laws_eqPart.f
  simp only [if_true]
  rw [eqInt64S_self l (by omega) K (by omega)]; simp only [Option.bind_some, if_true]
  rw [eqInt64S_self m (by omega) K (by omega)]; simp only [Option.bind_some, if_true]
  rw [eqInt64SS_self L hL hLL K hK]; rfl

theorem slicesEqual_l0 (A : List Int) : ∀ (a b pa pb : List Int) (i : Int) (k : Nat), A = pa ++ a → a.length = b.length → (pa.length : Int) = i → (pb.length : Int) = i → a.length < k → pa.length + a.length ≤ 1000000000 → slices_Equal_int64_int64.l0 k A (pb ++ b) (A.length : Int) i = some (decide (a = b)) := by
  intro a
  induction a with
  | nil =>
    intro b pa pb i k hA hl h1 h2 hk hn
    obtain ⟨k, rfl⟩ : ∃ m, k = m + 1 := ⟨k - 1, by omega⟩
    have : b = [] := List.eq_nil_of_length_eq_zero (by simpa using hl.symm)
    subst this
    simp only [slices_Equal_int64_int64.l0]
    rw [if_neg (by rw [hA]; simp; omega)]; simp
  | cons x a ih =>
    intro b pa pb i k hA hl h1 h2 hk hn
    obtain ⟨k, rfl⟩ : ∃ m, k = m + 1 := ⟨k - 1, by omega⟩
    obtain ⟨y, b, rfl⟩ : ∃ y b', b = y :: b' := by cases b with | nil => simp at hl | cons y b => exact ⟨y, b, rfl⟩
    simp only [List.length_cons] at hl hk hn
    have hAl : A.length = pa.length + (a.length + 1) := by rw [hA]; simp
    have hr : rd A i = x := by rw [hA]; exact rd_append_right pa (x :: a) i h1.symm x a rfl
    simp only [slices_Equal_int64_int64.l0]
    rw [if_pos (by omega), if_pos (by omega), if_pos (by omega), if_pos (by simp; omega), hr, rd_append_right pb (y :: b) i h2.symm y b rfl, w64 (n := i + 1) (by omega) (by omega)]
    by_cases c : x = y
    · rw [if_pos c]
      have e2 : pb ++ y :: b = (pb ++ [y]) ++ b := by simp
      rw [e2, ih b (pa ++ [x]) (pb ++ [y]) (i + 1) k (by rw [hA]; simp) (by omega) (by simp; omega) (by simp; omega) (by omega) (by simp; omega)]
      simp [c]
    · rw [if_neg c]; simp [c]
theorem slicesEqual_eq (a b : List Int) (k : Nat) (hk : a.length < k) (hl : a.length ≤ 1000000000) : slices_Equal_int64_int64.f k a b = some (decide (a = b)) := by
  unfold slices_Equal_int64_int64.f
  by_cases h : (a.length : Int) = (b.length : Int)
  · rw [if_pos h]
    have := slicesEqual_l0 a a b [] [] 0 k rfl (by omega) rfl rfl hk (by simpa using hl)
    simpa using this
  · rw [if_neg h]
    have : a ≠ b := fun e => h (by rw [e])
    simp [this]
theorem eqRows_eq : ∀ (a b : List (List Int)), a.length = b.length → (∀ p ∈ a, p.length ≤ 1048576) → eqRows a b = some (decide (a = b))
  | [], [], _, _ => rfl
  | [], y :: b, h, _ => by simp at h
  | x :: a, [], h, _ => by simp at h
  | x :: a, y :: b, h, hm => by
    have hx := hm x (by simp)
    simp only [eqRows]
    rw [slicesEqual_eq x y (x.length + 1) (by omega) (by omega)]
    simp only [Option.bind_some, decide_eq_true_eq]
    by_cases c : x = y
    · rw [if_pos c, eqRows_eq a b (by simpa using h) (fun p hp => hm p (by simp [hp]))]; simp [c]
    · rw [if_neg c]; simp [c]
theorem equalFunc_eq (a b : List (List Int)) (hm : ∀ p ∈ a, p.length ≤ 1048576) : slices_EqualFunc_int64_int64_int64_int64_any.f a b = some (decide (a = b)) := by
  unfold slices_EqualFunc_int64_int64_int64_int64_any.f
  by_cases c : a.length = b.length
  · rw [if_pos c, eqRows_eq a b c hm]
  · rw [if_neg c]
    have : a ≠ b := fun e => c (by rw [e])
    simp [this]
theorem l1Same_l0 : ∀ (a b pa pb : List Int) (i : Int) (k : Nat), a.length = b.length → (pa.length : Int) = i → (pb.length : Int) = i → a.length < k → pa.length + a.length ≤ 1000000000 → spec_l1Same.l0 k (pa ++ a) (pb ++ b) i = some (decide (a = b)) := by
  intro a
  induction a with
  | nil =>
    intro b pa pb i k hl h1 h2 hk hn
    obtain ⟨k, rfl⟩ : ∃ m, k = m + 1 := ⟨k - 1, by omega⟩
    have : b = [] := List.eq_nil_of_length_eq_zero (by simpa using hl.symm)
    subst this
    simp only [spec_l1Same.l0]
    rw [if_neg (by simp; omega)]; simp
  | cons x a ih =>
    intro b pa pb i k hl h1 h2 hk hn
    obtain ⟨k, rfl⟩ : ∃ m, k = m + 1 := ⟨k - 1, by omega⟩
    obtain ⟨y, b, rfl⟩ : ∃ y b', b = y :: b' := by cases b with | nil => simp at hl | cons y b => exact ⟨y, b, rfl⟩
    simp only [List.length_cons] at hl hk hn
    simp only [spec_l1Same.l0]
    rw [if_pos (by simp; omega), if_pos (by omega), if_pos (by simp; omega), rd_append_right pa (x :: a) i h1.symm x a rfl, rd_append_right pb (y :: b) i h2.symm y b rfl, w64 (n := i + 1) (by omega) (by omega)]
    by_cases c : x = y
    · rw [if_pos c]
      have e1 : pa ++ x :: a = (pa ++ [x]) ++ a := by simp
      have e2 : pb ++ y :: b = (pb ++ [y]) ++ b := by simp
      rw [e1, e2, ih b (pa ++ [x]) (pb ++ [y]) (i + 1) k (by omega) (by simp; omega) (by simp; omega) (by omega) (by simp; omega)]
      simp [c]
    · rw [if_neg c]; simp [c]
theorem l1Same_eq (a b : List Int) (k : Nat) (hk : a.length < k) (hl : a.length ≤ 1000000000) : spec_l1Same.f k a b = some (decide (a = b)) := by
  unfold spec_l1Same.f
  by_cases h : (a.length : Int) = (b.length : Int)
  · rw [if_pos h]
    have := l1Same_l0 a b [] [] 0 k (by omega) rfl rfl hk (by simpa using hl)
    simpa using this
  · rw [if_neg h]
    have : a ≠ b := fun e => h (by rw [e])
    simp [this]
theorem l14Lists_l0 : ∀ (a b pa pb : List (List Int)) (i : Int) (k : Nat), a.length = b.length → (pa.length : Int) = i → (pb.length : Int) = i → a.length + 1048580 < k → pa.length + a.length ≤ 1000000000 → (∀ p ∈ a, p.length ≤ 1048576) → spec_l14Lists.l0 k (pa ++ a) (pb ++ b) i = some (decide (a = b)) := by
  intro a
  induction a with
  | nil =>
    intro b pa pb i k hl h1 h2 hk hn hm
    obtain ⟨k, rfl⟩ : ∃ m, k = m + 1 := ⟨k - 1, by omega⟩
    have : b = [] := List.eq_nil_of_length_eq_zero (by simpa using hl.symm)
    subst this
    simp only [spec_l14Lists.l0]
    rw [if_neg (by simp; omega)]; simp
  | cons x a ih =>
    intro b pa pb i k hl h1 h2 hk hn hm
    obtain ⟨k, rfl⟩ : ∃ m, k = m + 1 := ⟨k - 1, by omega⟩
    obtain ⟨y, b, rfl⟩ : ∃ y b', b = y :: b' := by cases b with | nil => simp at hl | cons y b => exact ⟨y, b, rfl⟩
    simp only [List.length_cons] at hl hk hn
    have hx := hm x (by simp)
    simp only [spec_l14Lists.l0]
    rw [if_pos (by simp; omega), if_pos (by omega), if_pos (by simp; omega), rdL1_right pa (x :: a) i h1.symm x a rfl, rdL1_right pb (y :: b) i h2.symm y b rfl, w64 (n := i + 1) (by omega) (by omega), l1Same_eq x y k (by omega) (by omega)]
    simp only [Option.bind_some, decide_eq_true_eq]
    by_cases c : x = y
    · rw [if_pos c]
      have e1 : pa ++ x :: a = (pa ++ [x]) ++ a := by simp
      have e2 : pb ++ y :: b = (pb ++ [y]) ++ b := by simp
      rw [e1, e2, ih b (pa ++ [x]) (pb ++ [y]) (i + 1) k (by omega) (by simp; omega) (by simp; omega) (by omega) (by simp; omega) (fun p hp => hm p (by simp [hp]))]
      simp [c]
    · rw [if_neg c]; simp [c]
theorem l14Lists_eq (a b : List (List Int)) (k : Nat) (hk : 2200000 ≤ k) (ha : a.length ≤ 1048576) (hm : ∀ p ∈ a, p.length ≤ 1048576) : spec_l14Lists.f k a b = some (decide (a = b)) := by
  unfold spec_l14Lists.f
  by_cases h : (a.length : Int) = (b.length : Int)
  · rw [if_pos h]
    have := l14Lists_l0 a b [] [] 0 k (by omega) rfl rfl (by omega) (by simp; omega) hm
    simpa using this
  · rw [if_neg h]
    have : a ≠ b := fun e => h (by rw [e])
    simp [this]
theorem FnExactSameParts : laws_FnExactSameParts.Pure := by
  intro n s r m p d l g L n' s' r' m' p' d' l' g' L' _ _ _ _ _ _ hl _ hg _ hL hLL _ _ _ _ _ _ hl' _ hg' _ hL' hLL'
  refine ⟨3000000, ?_⟩
  unfold laws_FnExactSameParts.f
  obtain ⟨t, ht, t1, h⟩ := szPart_gen n s r m p d l g L 1048576 (by omega) (by omega) hl hg hL (fun q hq => (hLL q hq).1) 3000000 (by omega)
  rw [ht]; simp only [Option.bind_some]
  by_cases c : t < 0
  · rw [if_pos c]
  rcases h with h | ⟨h1, h2, h3, h4⟩
  · exact absurd h c
  obtain ⟨t', ht', _, h'⟩ := szPart_gen n' s' r' m' p' d' l' g' L' t (by omega) (by omega) hl' hg' hL' (fun q hq => (hLL' q hq).1) 3000000 (by omega)
  rw [if_neg c, ht']; simp only [Option.bind_some]
  by_cases c' : t' < 0
  · rw [if_pos c']
  rcases h' with h' | ⟨h1', h2', h3', h4'⟩
  · exact absurd h' c'
  rw [if_neg c', toPart_eq n s r m p d l g L h1 h2 h3 h4 3000000 (by omega), toPart_eq n' s' r' m' p' d' l' g' L' h1' h2' h3' h4' 3000000 (by omega)]
  simp only [Option.bind_some]
  have e1 : spec_SameParts.f 3000000 n s r m p d l g L n' s' r' m' p' d' l' g' L' = impl_SameParts.f 3000000 n s r m p d l g L n' s' r' m' p' d' l' g' L' := by
    unfold spec_SameParts.f impl_SameParts.f
    rw [l1Same_eq l l' 3000000 (by omega) (by omega), l1Same_eq g g' 3000000 (by omega) (by omega), slicesEqual_eq l l' 3000000 (by omega) (by omega), slicesEqual_eq g g' 3000000 (by omega) (by omega), l14Lists_eq L L' 3000000 (by omega) h3 h4, equalFunc_eq L L' h4]
  obtain ⟨b, hb⟩ : ∃ b, impl_SameParts.f 3000000 n s r m p d l g L n' s' r' m' p' d' l' g' L' = some b := by
    unfold impl_SameParts.f
    rw [slicesEqual_eq l l' 3000000 (by omega) (by omega), slicesEqual_eq g g' 3000000 (by omega) (by omega), equalFunc_eq L L' h4]
    simp only [Option.bind_some]
    repeat' split
    all_goals exact ⟨_, rfl⟩
  rw [e1, hb]
  simp only [Option.bind_some]
  rw [if_neg (by simp), eqPart_self n s r m p d l g L h1 h2 h3 h4 3000000 (by omega), eqPart_self n' s' r' m' p' d' l' g' L' h1' h2' h3' h4' 3000000 (by omega)]
  rfl

end Go.Proofs.Ytoepnammegcjeaa.Pure
