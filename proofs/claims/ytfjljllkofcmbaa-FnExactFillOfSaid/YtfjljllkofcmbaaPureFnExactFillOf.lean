/- The program's FillOf returns what the reference's returns, for all arguments. -/
import Derived.Test.YtfjljllkofcmbaaPFnExactFillOfx2
set_option linter.unusedVariables false
set_option linter.unusedSimpArgs false
namespace Go.Proofs.Ytfjljllkofcmbaa.Pure
open Go.RowKit Go.Proofs.Ytfjljllkofcmbaa.PFnExactFillOf Go.Proofs.YtfjljllkofcmbaaW.PrintWords Go.Proofs.YtfjljllkofcmbaaW.PrintLast

theorem inRange_eq (a b c : Int) : impl_inRange.f a b c = some (decide (b ≤ a ∧ a ≤ c)) := by
  unfold impl_inRange.f
  by_cases h : b ≤ a
  · rw [if_pos h]; simp [h]
  · rw [if_neg h]; simp [h]
theorem isDim_eq (a : Int) : impl_isDim.f a = some (decide (1 ≤ a ∧ a ≤ 4)) := by unfold impl_isDim.f; rw [inRange_eq]; rfl
theorem isGain_eq (a : Int) : impl_isGain.f a = some (decide (0 ≤ a ∧ a ≤ 67108864)) := by unfold impl_isGain.f; rw [inRange_eq]; rfl
/-- Number i of a gain's fill of d numbers. -/
def fil (d g i : Int) : Int := if Int.tmod i 2 = 1 then -(g / d + if i < g % d then 1 else 0) else g / d + if i < g % d then 1 else 0
def filL (d g : Int) : Nat → Int → List Int
  | 0, _ => []
  | n + 1, i => fil d g i :: filL d g n (i + 1)
theorem filL_length (d g : Int) : ∀ (n : Nat) (i : Int), (filL d g n i).length = n
  | 0, _ => rfl
  | n + 1, i => by simp [filL, filL_length d g n]
theorem fil_q (d g : Int) (hd : 1 ≤ d) (h0 : 0 ≤ g) (h1 : g ≤ 100000000000000) : 0 ≤ g / d ∧ g / d ≤ g := ⟨Int.ediv_nonneg h0 (by omega), Int.ediv_le_self _ h0⟩
theorem w64 {n : Int} (h1 : -9223372036854775808 ≤ n) (h2 : n ≤ 9223372036854775807) : wrap64 n = n := by unfold wrap64; omega
theorem fillOf_l0 (d g : Int) (hd : 1 ≤ d) (hd1 : d ≤ 1000) (h0 : 0 ≤ g) (h1 : g ≤ 100000000000000) : ∀ (n : Nat) (acc : List Int) (i : Int) (k : Nat), d - i = n → 0 ≤ i → n < k → acc.length + n ≤ 100000 →
    impl_fillOf.l0 k d g acc d i = some (acc ++ filL d g n i) := by
  have hq := fil_q d g hd h0 h1
  have e1 : Int.tmod g d = g % d := Int.tmod_eq_emod_of_nonneg h0
  have e2 : Int.tdiv g d = g / d := Int.tdiv_eq_ediv_of_nonneg h0
  intro n
  induction n with
  | zero =>
    intro acc i k hn hi hk ha
    obtain ⟨k, rfl⟩ : ∃ m, k = m + 1 := ⟨k - 1, by omega⟩
    simp only [impl_fillOf.l0]; rw [if_neg (by omega)]; simp [filL]
  | succ n ih =>
    intro acc i k hn hi hk ha
    obtain ⟨k, rfl⟩ : ∃ m, k = m + 1 := ⟨k - 1, by omega⟩
    have go := fun v : Int => ih (acc ++ [v]) (i + 1) k (by omega) (by omega) (by omega) (by simp; omega)
    simp only [impl_fillOf.l0]
    rw [if_pos (by omega), if_neg (by omega), e1, e2, w64 (n := g / d) (by omega) (by omega), w64 (n := g / d + 1) (by omega) (by omega), w64 (n := -(g / d + 1)) (by omega) (by omega), w64 (n := -(g / d)) (by omega) (by omega), w64 (n := i + 1) (by omega) (by omega)]
    have hlim : acc.length < 17592186044416 := by omega
    simp only [if_pos hlim, go, filL, fil]
    by_cases c1 : i < g % d <;> by_cases c2 : Int.tmod i 2 = 1 <;> simp [c1, c2]
theorem fillOf_eq (d g : Int) (hd : 1 ≤ d) (hd1 : d ≤ 1000) (h0 : 0 ≤ g) (h1 : g ≤ 100000000000000) (k : Nat) (hk : d.toNat < k) : impl_fillOf.f k d g = some (filL d g d.toNat 0) := by
  unfold impl_fillOf.f; have := fillOf_l0 d g hd hd1 h0 h1 d.toNat [] 0 k (by omega) (by omega) hk (by simp; omega); simpa using this
/-- What FillOf answers. -/
def fillR (d g : Int) : Int × List Int := if (1 ≤ d ∧ d ≤ 4) ∧ (0 ≤ g ∧ g ≤ 67108864) then (0, filL d g d.toNat 0) else (3, [])
theorem fillR_length (d g : Int) : (fillR d g).2.length ≤ 4 := by
  unfold fillR; split
  · simp only [filL_length]; omega
  · simp
theorem FillOf_eq (d g : Int) (k : Nat) (hk : 10 ≤ k) : impl_FillOf.f k d g = some (fillR d g) := by
  unfold impl_FillOf.f fillR
  simp only [isDim_eq, isGain_eq, Option.bind_some, decide_eq_true_eq]
  by_cases h1 : 1 ≤ d ∧ d ≤ 4
  · by_cases h2 : 0 ≤ g ∧ g ≤ 67108864
    · simp [h1, h2, fillOf_eq d g h1.1 (by omega) h2.1 (by omega) k (by omega)]
    · simp [h1, h2]
  · simp [h1]
theorem l1In_eq (a b c : Int) : spec_l1In.f a b c = some (decide (b ≤ a ∧ a ≤ c)) := by
  unfold spec_l1In.f
  by_cases h : a ≥ b
  · rw [if_pos h]; congr 1; have : b ≤ a := h; simp [this]
  · rw [if_neg h]; have : ¬ b ≤ a := h; simp [this]
theorem l12Gain_eq (a : Int) : spec_l12Gain.f a = some (decide (0 ≤ a ∧ a ≤ 67108864)) := by unfold spec_l12Gain.f; rw [l1In_eq]; rfl
theorem l12Fill_l0 (d g : Int) (hd : 1 ≤ d) (hd1 : d ≤ 1000) (h0 : 0 ≤ g) (h1 : g ≤ 100000000000000) : ∀ (n : Nat) (acc : List Int) (i : Int) (k : Nat), d - i = n → 0 ≤ i → n < k → acc.length + n ≤ 100000 →
    spec_l12Fill.l0 k d g acc i = some (acc ++ filL d g n i) := by
  have hq := fil_q d g hd h0 h1
  have e1 : Int.tmod g d = g % d := Int.tmod_eq_emod_of_nonneg h0
  have e2 : Int.tdiv g d = g / d := Int.tdiv_eq_ediv_of_nonneg h0
  intro n
  induction n with
  | zero =>
    intro acc i k hn hi hk ha
    obtain ⟨k, rfl⟩ : ∃ m, k = m + 1 := ⟨k - 1, by omega⟩
    simp only [spec_l12Fill.l0]; rw [if_neg (by omega)]; simp [filL]
  | succ n ih =>
    intro acc i k hn hi hk ha
    obtain ⟨k, rfl⟩ : ∃ m, k = m + 1 := ⟨k - 1, by omega⟩
    have go := fun v : Int => ih (acc ++ [v]) (i + 1) k (by omega) (by omega) (by omega) (by simp; omega)
    simp only [spec_l12Fill.l0]
    rw [if_pos (by omega), if_neg (by omega), e1, e2, w64 (n := g / d) (by omega) (by omega), w64 (n := g / d + 1) (by omega) (by omega), w64 (n := -(g / d + 1)) (by omega) (by omega), w64 (n := -(g / d)) (by omega) (by omega), w64 (n := i + 1) (by omega) (by omega)]
    have hlim : acc.length < 17592186044416 := by omega
    simp only [if_pos hlim, go, filL, fil]
    by_cases c1 : i < g % d <;> by_cases c2 : Int.tmod i 2 = 1 <;> simp [c1, c2]
theorem l12Fill_eq (d g : Int) (hd : 1 ≤ d) (hd1 : d ≤ 1000) (h0 : 0 ≤ g) (h1 : g ≤ 100000000000000) (k : Nat) (hk : d.toNat < k) : spec_l12Fill.f k d g = some (filL d g d.toNat 0) := by
  unfold spec_l12Fill.f; have := l12Fill_l0 d g hd hd1 h0 h1 d.toNat [] 0 k (by omega) (by omega) hk (by simp; omega); simpa using this
theorem specFillOf_eq (d g : Int) (k : Nat) (hk : 10 ≤ k) : spec_FillOf.f k d g = some (fillR d g) := by
  unfold spec_FillOf.f fillR
  simp only [l1In_eq, l12Gain_eq, Option.bind_some, decide_eq_true_eq]
  by_cases h1 : 1 ≤ d ∧ d ≤ 4
  · by_cases h2 : 0 ≤ g ∧ g ≤ 67108864
    · simp [h1, h2, l12Fill_eq d g h1.1 (by omega) h2.1 (by omega) k (by omega)]
    · simp [h1, h2]
  · simp [h1]
theorem eqInt64S_l0 (l : List Int) (hl : l.length ≤ 1000000000000) : ∀ (d k : Nat) (i : Int), (l.length : Int) - i = d → 0 ≤ i → d < k → laws_eqInt64S.l0 k l l i = some true := by
  intro d
  induction d with
  | zero =>
    intro k i hd h0 hk
    obtain ⟨k, rfl⟩ : ∃ m, k = m + 1 := ⟨k - 1, by omega⟩
    simp only [laws_eqInt64S.l0]; rw [if_neg (by omega)]
  | succ d ih =>
    intro k i hd h0 hk
    obtain ⟨k, rfl⟩ : ∃ m, k = m + 1 := ⟨k - 1, by omega⟩
    simp only [laws_eqInt64S.l0]
    rw [if_pos (by omega), if_pos h0, if_pos (by omega), if_pos True.intro, w64 (by omega) (by omega)]
    exact ih k (i + 1) (by omega) (by omega) (by omega)
theorem eqInt64S_self (l : List Int) (hl : l.length ≤ 1000000000000) (k : Nat) (hk : l.length < k) : laws_eqInt64S.f k l l = some true := by
  unfold laws_eqInt64S.f; rw [if_pos rfl]; exact eqInt64S_l0 l hl l.length k 0 (by omega) (by omega) hk
/-- So many numbers from x on. -/
def iv : Nat → Int → List Int
  | 0, _ => []
  | n + 1, x => x :: iv n (x + 1)
theorem iv_length : ∀ (n : Nat) (x : Int), (iv n x).length = n
  | 0, _ => rfl
  | n + 1, x => by simp [iv, iv_length n]
theorem markInt64S_l0 : ∀ (rest pre : List Int) (a i : Int) (k : Nat), (pre.length : Int) = i → rest.length < k → 0 ≤ a → a + rest.length ≤ 1000000000000 → i + rest.length ≤ 1000000000000 →
    laws_markInt64S.l0 k (pre ++ rest) a i = some (a + rest.length, pre ++ iv rest.length a) := by
  intro rest
  induction rest with
  | nil =>
    intro pre a i k hi hk h0 h1 h2
    obtain ⟨k, rfl⟩ : ∃ m, k = m + 1 := ⟨k - 1, by omega⟩
    simp only [laws_markInt64S.l0]
    rw [if_neg (by simp; omega)]; simp [iv]
  | cons x rest ih =>
    intro pre a i k hi hk h0 h1 h2
    obtain ⟨k, rfl⟩ : ∃ m, k = m + 1 := ⟨k - 1, by omega⟩
    simp only [List.length_cons] at hk h1 h2
    simp only [laws_markInt64S.l0]
    rw [if_pos (by simp; omega), if_pos (by omega), w64 (n := a + 1) (by omega) (by omega), w64 (n := i + 1) (by omega) (by omega)]
    have e : (pre ++ x :: rest).set i.toNat a = (pre ++ [a]) ++ rest := by
      have hn : i.toNat = pre.length := by omega
      rw [hn, List.set_append_right _ _ (Nat.le_refl _)]; simp
    rw [e, ih (pre ++ [a]) (a + 1) (i + 1) k (by simp; omega) (by omega) (by omega) (by omega) (by omega)]
    simp [iv]; omega
theorem markInt64S_eq (l : List Int) (a : Int) (k : Nat) (hk : l.length < k) (h0 : 0 ≤ a) (h1 : a + l.length ≤ 1000000000000) : laws_markInt64S.f k l a = some (a + l.length, iv l.length a) := by
  unfold laws_markInt64S.f
  have := markInt64S_l0 l [] a 0 k rfl hk h0 h1 (by omega)
  simpa using this
theorem rd_append_right (P Q : List Int) (i : Int) (h : i = (P.length : Int)) (x : Int) (R : List Int) (hQ : Q = x :: R) : rd (P ++ Q) i = x := by
  subst hQ; unfold rd; rw [h, Int.toNat_natCast, List.getD_eq_getElem?_getD, List.getElem?_append_right (Nat.le_refl _)]; simp
theorem rd_get (l : List Int) (i : Int) (h0 : 0 ≤ i) (h1 : i < (l.length : Int)) : rd l i = l[i.toNat]'(by omega) := by
  unfold rd; rw [List.getD_eq_getElem?_getD, List.getElem?_eq_getElem (by omega)]; rfl
theorem heldInt64S_l0 : ∀ (n : Nat) (pre : List Int) (a i : Int) (k : Nat), (pre.length : Int) = i → n < k → 0 ≤ a → a + n ≤ 1000000000000 → i + n ≤ 1000000000000 →
    laws_heldInt64S.l0 k (pre ++ iv n a) a i = some (a + n) := by
  intro n
  induction n with
  | zero =>
    intro pre a i k hi hk h0 h1 h2
    obtain ⟨k, rfl⟩ : ∃ m, k = m + 1 := ⟨k - 1, by omega⟩
    simp only [laws_heldInt64S.l0]
    rw [if_neg (by simp [iv]; omega)]; simp
  | succ n ih =>
    intro pre a i k hi hk h0 h1 h2
    obtain ⟨k, rfl⟩ : ∃ m, k = m + 1 := ⟨k - 1, by omega⟩
    simp only [laws_heldInt64S.l0]
    rw [if_pos (by simp [iv_length]; omega), if_pos (by omega), if_pos (rd_append_right pre (iv (n + 1) a) i hi.symm a (iv n (a + 1)) rfl), w64 (n := a + 1) (by omega) (by omega), w64 (n := i + 1) (by omega) (by omega)]
    have e : pre ++ iv (n + 1) a = (pre ++ [a]) ++ iv n (a + 1) := by simp [iv]
    rw [e, ih (pre ++ [a]) (a + 1) (i + 1) k (by simp; omega) (by omega) (by omega) (by omega) (by omega)]
    congr 1; omega
theorem heldInt64S_eq (n : Nat) (a : Int) (k : Nat) (hk : n < k) (h0 : 0 ≤ a) (h1 : a + n ≤ 1000000000000) : laws_heldInt64S.f k (iv n a) a = some (a + n) := by
  unfold laws_heldInt64S.f
  have := heldInt64S_l0 n [] a 0 k rfl hk h0 h1 (by omega)
  simpa using this
theorem eqIntsResult_self (c : Int) (l : List Int) (hl : l.length ≤ 1000000) (k : Nat) (hk : l.length < k) : laws_eqIntsResult.f k c l c l = some true := by
  unfold laws_eqIntsResult.f; rw [if_pos rfl, eqInt64S_self l (by omega) k hk]; rfl
theorem markIntsResult_eq (c : Int) (l : List Int) (a : Int) (k : Nat) (hk : l.length < k) (h0 : 0 ≤ a) (h1 : a + l.length ≤ 1000000000000) : laws_markIntsResult.f k c l a = some (a + l.length, iv l.length a) := by
  unfold laws_markIntsResult.f; rw [markInt64S_eq l a k hk h0 h1]; rfl
theorem heldIntsResult_eq (c : Int) (n : Nat) (a : Int) (k : Nat) (hk : n < k) (h0 : 0 ≤ a) (h1 : a + n ≤ 1000000000000) : laws_heldIntsResult.f k c (iv n a) a = some (a + n) := by
  unfold laws_heldIntsResult.f; rw [heldInt64S_eq n a k hk h0 h1]; simp only [Option.bind_some]; rw [if_neg (by omega)]
theorem FnExactFillOf : laws_FnExactFillOf.Pure := by
  intro a b _ _
  refine ⟨20, ?_⟩
  unfold laws_FnExactFillOf.f
  rw [FillOf_eq a b 20 (by omega), specFillOf_eq a b 20 (by omega)]
  have hl := fillR_length a b
  simp only [Option.bind_some, if_true]
  rw [eqIntsResult_self _ _ (by omega) 20 (by omega), markIntsResult_eq _ _ 1 20 (by omega) (by omega) (by omega)]
  simp only [Option.bind_some, if_true]
  rw [heldIntsResult_eq _ _ 1 20 (by omega) (by omega) (by omega)]
  simp only [Option.bind_some, if_true]
  rw [if_neg (by omega), if_neg (by omega)]

end Go.Proofs.Ytfjljllkofcmbaa.Pure
