/- The fill of a gain has this norm and is as accurate as stated, whatever arguments are drawn. -/
import Derived.Test.YtoepnammegcjeaaPFnFillsx4
set_option linter.unusedVariables false
set_option linter.unusedSimpArgs false
namespace Go.Proofs.Ytoepnammegcjeaa.Pure
open Go.RowKit Go.Proofs.Ytoepnammegcjeaa.PFnFills Go.Proofs.YtoepnammegcjeaaW.PrintWords Go.Proofs.YtoepnammegcjeaaW.PrintLast

theorem w64 {n : Int} (h1 : -9223372036854775808 ≤ n) (h2 : n ≤ 9223372036854775807) : wrap64 n = n := by unfold wrap64; omega
theorem rd_mem (L : List Int) (i : Int) (h0 : 0 ≤ i) (h1 : i < (L.length : Int)) : rd L i ∈ L := by
  unfold rd
  rw [List.getD_eq_getElem?_getD, List.getElem?_eq_getElem (by omega)]
  exact List.getElem_mem _
/-- All of a list are bytes. -/
def Bytes8 (l : List Int) : Prop := ∀ x ∈ l, (Lit.int .u8 x).wf = true
theorem Bytes8.rdb {l : List Int} (h : Bytes8 l) (i : Int) : 0 ≤ rd l i ∧ rd l i ≤ 255 := by
  by_cases hi : i.toNat < l.length
  · have hm : rd l i ∈ l := by
      unfold rd
      rw [List.getD_eq_getElem?_getD, List.getElem?_eq_getElem hi]
      exact List.getElem_mem _
    have := h _ hm
    simp only [Lit.wf, Bool.and_eq_true, decide_eq_true_eq] at this
    have e1 : IntKind.u8.min = 0 := by decide
    have e2 : IntKind.u8.max = 255 := by decide
    rw [e1, e2] at this; exact this
  · unfold rd
    rw [List.getD_eq_getElem?_getD, List.getElem?_eq_none (by omega)]
    simp
theorem tmod_in (s m : Int) (hs : 0 ≤ s) (hm : 1 ≤ m) : 0 ≤ Int.tmod s m ∧ Int.tmod s m < m := by
  rw [Int.tmod_eq_emod_of_nonneg hs]
  exact ⟨Int.emod_nonneg s (by omega), Int.emod_lt_of_pos s (by omega)⟩
theorem next_ok {l : List Int} (hb : Bytes8 l) (s n : Int) (h0 : 0 ≤ s) (h1 : s ≤ 10000000) :
    ∃ v, spec_l1Next.f l s n = some (v, s + 1) ∧ 0 ≤ v ∧ (n < 1 → v = 0) ∧ (1 ≤ n → v < n) := by
  unfold spec_l1Next.f
  by_cases hn : n < 1
  · rw [if_pos hn, w64 (by omega) (by omega)]
    exact ⟨0, rfl, by omega, fun _ => rfl, fun h => by omega⟩
  rw [if_neg hn]
  have hn0 : ¬ n = 0 := by omega
  have e1 : wrap64 (s + 1) = s + 1 := w64 (by omega) (by omega)
  have e2 : wrap64 (s + 1 - 1) = s := by rw [w64 (by omega) (by omega)]; omega
  have e3 : wrap64 (s + 2) = s + 2 := w64 (by omega) (by omega)
  simp only [e1, e2, e3]
  by_cases hl : (l.length : Int) = 0
  · rw [if_pos hl, if_neg hn0]
    have := tmod_in (wrap64 (s * 7)) n (by rw [w64 (by omega) (by omega)]; omega) (by omega)
    exact ⟨_, rfl, this.1, fun h => by omega, fun _ => this.2⟩
  rw [if_neg hl]
  have hm : 1 ≤ (l.length : Int) := by omega
  have t0 := tmod_in s (l.length : Int) h0 hm
  have t1 := tmod_in (s + 1) (l.length : Int) (by omega) hm
  have t2 := tmod_in (s + 2) (l.length : Int) (by omega) hm
  rw [if_pos t0.1, if_pos t0.2]
  simp only [if_pos t1.1, if_pos t1.2, if_pos t2.1, if_pos t2.2, if_neg hn0]
  have r0 := hb.rdb (Int.tmod s (l.length : Int))
  have r1 := hb.rdb (Int.tmod (s + 1) (l.length : Int))
  have r2 := hb.rdb (Int.tmod (s + 2) (l.length : Int))
  have q : 0 ≤ Int.tdiv s (l.length : Int) ∧ Int.tdiv s (l.length : Int) ≤ s := by
    rw [Int.tdiv_eq_ediv_of_nonneg h0]
    exact ⟨Int.ediv_nonneg h0 (by omega), Int.ediv_le_self _ h0⟩
  generalize rd l (Int.tmod s (l.length : Int)) = b0 at *
  generalize rd l (Int.tmod (s + 1) (l.length : Int)) = b1 at *
  generalize rd l (Int.tmod (s + 2) (l.length : Int)) = b2 at *
  generalize Int.tdiv s (l.length : Int) = d at *
  have f0 : wrap64 b0 = b0 := w64 (by omega) (by omega)
  have f1 : wrap64 b1 = b1 := w64 (by omega) (by omega)
  have f2 : wrap64 b2 = b2 := w64 (by omega) (by omega)
  have f3 : wrap64 d = d := w64 (by omega) (by omega)
  have f4 : wrap64 (d * 37) = d * 37 := w64 (by omega) (by omega)
  have f5 : wrap64 (b0 + d * 37) = b0 + d * 37 := w64 (by omega) (by omega)
  have f6 : wrap64 ((b0 + d * 37) * 251) = (b0 + d * 37) * 251 := w64 (by omega) (by omega)
  have f7 : wrap64 (b1 * 13) = b1 * 13 := w64 (by omega) (by omega)
  have f8 : wrap64 ((b0 + d * 37) * 251 + b1 * 13) = (b0 + d * 37) * 251 + b1 * 13 := w64 (by omega) (by omega)
  have f9 : wrap64 ((b0 + d * 37) * 251 + b1 * 13 + s) = (b0 + d * 37) * 251 + b1 * 13 + s := w64 (by omega) (by omega)
  have f10 : wrap64 (((b0 + d * 37) * 251 + b1 * 13 + s) * 257) = ((b0 + d * 37) * 251 + b1 * 13 + s) * 257 := w64 (by omega) (by omega)
  have f11 : wrap64 ((b0 + d * 37) * 257) = (b0 + d * 37) * 257 := w64 (by omega) (by omega)
  simp only [f0, f1, f2, f3, f4, f5, f6, f7, f8, f9, f10, f11]
  have fin : ∀ X : Int, 0 ≤ X → ∃ v, (some (Int.tmod X n, s + 1) : Option (Int × Int)) = some (v, s + 1) ∧ 0 ≤ v ∧ (n < 1 → v = 0) ∧ (1 ≤ n → v < n) := fun X hX =>
    ⟨_, rfl, (tmod_in X n hX (by omega)).1, fun h => by omega, fun _ => (tmod_in X n hX (by omega)).2⟩
  by_cases c1 : n > 200
  · rw [if_pos c1]
    by_cases c2 : n > 60000
    · rw [if_pos c2]; exact fin _ (by rw [w64 (by omega) (by omega)]; omega)
    · rw [if_neg c2]; exact fin _ (by omega)
  · rw [if_neg c1, if_neg (by omega)]; exact fin _ (by omega)
theorem pick_ok {l : List Int} (hb : Bytes8 l) (s : Int) (L : List Int) (h0 : 0 ≤ s) (h1 : s ≤ 10000000) (hL : 0 < L.length) :
    ∃ v, spec_l1Pick.f l s L = some (v, s + 1) ∧ v ∈ L := by
  unfold spec_l1Pick.f
  obtain ⟨v, hv, hv0, _, hv1⟩ := next_ok hb s (L.length : Int) h0 h1
  rw [hv]; simp only [Option.bind_some]
  have := hv1 (by omega)
  rw [if_pos hv0, if_pos this]
  exact ⟨_, rfl, rd_mem L v hv0 this⟩
theorem l12DrawGain_ok {l : List Int} (hb : Bytes8 l) (s : Int) (h0 : 0 ≤ s) (h1 : s ≤ 9000000) : ∃ g, spec_l12DrawGain.f l s = some (g, s + 4) ∧ -1 ≤ g ∧ g ≤ 67108865 := by
  unfold spec_l12DrawGain.f
  obtain ⟨v, hv, v0, _, v1⟩ := next_ok hb s 500 (by omega) (by omega)
  rw [hv]; simp only [Option.bind_some]
  obtain ⟨u, hu, u0, _, u1⟩ := next_ok hb (s + 1) 500 (by omega) (by omega)
  rw [hu]; simp only [Option.bind_some]
  obtain ⟨x, hx, x0, _, x1⟩ := next_ok hb (s + 1 + 1) 300000 (by omega) (by omega)
  rw [hx]; simp only [Option.bind_some]
  obtain ⟨z, hz, hm⟩ := pick_ok hb (s + 1 + 1 + 1) [0, 1, 7, v, u, x, 67108864, 67108865, -1] (by omega) (by omega) (by simp)
  rw [hz]; simp only [Option.bind_some]
  have v1 := v1 (by omega)
  have u1 := u1 (by omega)
  have x1 := x1 (by omega)
  refine ⟨z, by rw [show s + 1 + 1 + 1 + 1 = s + 4 by omega], ?_⟩
  simp only [List.mem_cons, List.not_mem_nil, or_false] at hm
  omega
theorem DrawFillOf_ok {l : List Int} (hb : Bytes8 l) : ∃ d g, spec_DrawFillOf.f l = some (d, g) := by
  unfold spec_DrawFillOf.f spec_l1Source.f
  simp only [Option.bind_some]
  obtain ⟨v, hv, _⟩ := pick_ok hb 0 [1, 2, 3, 4, 2, 4, 0, 5] (by omega) (by omega) (by simp)
  rw [hv]; simp only [Option.bind_some]
  obtain ⟨u, hu, _⟩ := l12DrawGain_ok hb (0 + 1) (by omega) (by omega)
  rw [hu]; exact ⟨_, _, rfl⟩
theorem DrawFillBound_ok {l : List Int} (hb : Bytes8 l) : ∃ d g, spec_DrawFillBound.f l = some (d, g) := by
  unfold spec_DrawFillBound.f spec_l1Source.f
  simp only [Option.bind_some]
  obtain ⟨v, hv, _⟩ := l12DrawGain_ok hb 0 (by omega) (by omega)
  rw [hv]; simp only [Option.bind_some]
  obtain ⟨u, hu, _⟩ := l12DrawGain_ok hb (0 + 4) (by omega) (by omega)
  rw [hu]; exact ⟨_, _, rfl⟩
theorem inRange_eq (a b c : Int) : impl_inRange.f a b c = some (decide (b ≤ a ∧ a ≤ c)) := by
  unfold impl_inRange.f
  by_cases h : b ≤ a
  · rw [if_pos h]; simp [h]
  · rw [if_neg h]; simp [h]
theorem isDim_eq (a : Int) : impl_isDim.f a = some (decide (1 ≤ a ∧ a ≤ 4)) := by unfold impl_isDim.f; rw [inRange_eq]; rfl
theorem isGain_eq (a : Int) : impl_isGain.f a = some (decide (0 ≤ a ∧ a ≤ 67108864)) := by unfold impl_isGain.f; rw [inRange_eq]; rfl
/-- Number i of a gain's fill of d numbers. -/
def fil (d g i : Int) : Int := if Int.tmod i 2 = 1 then -(g / d + if i < g % d then 1 else 0) else g / d + if i < g % d then 1 else 0
def filL (d g : Int) : Nat → Int → List Int
  | 0, _ => []
  | n + 1, i => fil d g i :: filL d g n (i + 1)
theorem filL_length (d g : Int) : ∀ (n : Nat) (i : Int), (filL d g n i).length = n
  | 0, _ => rfl
  | n + 1, i => by simp [filL, filL_length d g n]
theorem fil_q (d g : Int) (hd : 1 ≤ d) (h0 : 0 ≤ g) (h1 : g ≤ 100000000000000) : 0 ≤ g / d ∧ g / d ≤ g := ⟨Int.ediv_nonneg h0 (by omega), Int.ediv_le_self _ h0⟩
theorem fillOf_l0 (d g : Int) (hd : 1 ≤ d) (hd1 : d ≤ 1000) (h0 : 0 ≤ g) (h1 : g ≤ 100000000000000) : ∀ (n : Nat) (acc : List Int) (i : Int) (k : Nat), d - i = n → 0 ≤ i → n < k → acc.length + n ≤ 100000 →
    impl_fillOf.l0 k d g acc d i = some (acc ++ filL d g n i) := by
  have hq := fil_q d g hd h0 h1
  have e1 : Int.tmod g d = g % d := Int.tmod_eq_emod_of_nonneg h0
  have e2 : Int.tdiv g d = g / d := Int.tdiv_eq_ediv_of_nonneg h0
  intro n
  induction n with
  | zero =>
    intro acc i k hn hi hk ha
    obtain ⟨k, rfl⟩ : ∃ m, k = m + 1 := ⟨k - 1, by omega⟩
    simp only [impl_fillOf.l0]; rw [if_neg (by omega)]; simp [filL]
  | succ n ih =>
    intro acc i k hn hi hk ha
    obtain ⟨k, rfl⟩ : ∃ m, k = m + 1 := ⟨k - 1, by omega⟩
    have go := fun v : Int => ih (acc ++ [v]) (i + 1) k (by omega) (by omega) (by omega) (by simp; omega)
    simp only [impl_fillOf.l0]
    rw [if_pos (by omega), if_neg (by omega), e1, e2, w64 (n := g / d) (by omega) (by omega), w64 (n := g / d + 1) (by omega) (by omega), w64 (n := -(g / d + 1)) (by omega) (by omega), w64 (n := -(g / d)) (by omega) (by omega), w64 (n := i + 1) (by omega) (by omega)]
    have hlim : acc.length < 17592186044416 := by omega
    simp only [if_pos hlim, go, filL, fil]
    by_cases c1 : i < g % d <;> by_cases c2 : Int.tmod i 2 = 1 <;> simp [c1, c2]
theorem fillOf_eq (d g : Int) (hd : 1 ≤ d) (hd1 : d ≤ 1000) (h0 : 0 ≤ g) (h1 : g ≤ 100000000000000) (k : Nat) (hk : d.toNat < k) : impl_fillOf.f k d g = some (filL d g d.toNat 0) := by
  unfold impl_fillOf.f; have := fillOf_l0 d g hd hd1 h0 h1 d.toNat [] 0 k (by omega) (by omega) hk (by simp; omega); simpa using this
/-- What FillOf answers. -/
def fillR (d g : Int) : Int × List Int := if (1 ≤ d ∧ d ≤ 4) ∧ (0 ≤ g ∧ g ≤ 67108864) then (0, filL d g d.toNat 0) else (3, [])
theorem fillR_length (d g : Int) : (fillR d g).2.length ≤ 4 := by
  unfold fillR; split
  · simp only [filL_length]; omega
  · simp
theorem FillOf_eq (d g : Int) (k : Nat) (hk : 10 ≤ k) : impl_FillOf.f k d g = some (fillR d g) := by
  unfold impl_FillOf.f fillR
  simp only [isDim_eq, isGain_eq, Option.bind_some, decide_eq_true_eq]
  by_cases h1 : 1 ≤ d ∧ d ≤ 4
  · by_cases h2 : 0 ≤ g ∧ g ≤ 67108864
    · simp [h1, h2, fillOf_eq d g h1.1 (by omega) h2.1 (by omega) k (by omega)]
    · simp [h1, h2]
  · simp [h1]
theorem l1In_eq (a b c : Int) : spec_l1In.f a b c = some (decide (b ≤ a ∧ a ≤ c)) := by
  unfold spec_l1In.f
  by_cases h : a ≥ b
  · rw [if_pos h]; congr 1; have : b ≤ a := h; simp [this]
  · rw [if_neg h]; have : ¬ b ≤ a := h; simp [this]
theorem l12Gain_eq (a : Int) : spec_l12Gain.f a = some (decide (0 ≤ a ∧ a ≤ 67108864)) := by unfold spec_l12Gain.f; rw [l1In_eq]; rfl
theorem l12Fill_l0 (d g : Int) (hd : 1 ≤ d) (hd1 : d ≤ 1000) (h0 : 0 ≤ g) (h1 : g ≤ 100000000000000) : ∀ (n : Nat) (acc : List Int) (i : Int) (k : Nat), d - i = n → 0 ≤ i → n < k → acc.length + n ≤ 100000 →
    spec_l12Fill.l0 k d g acc i = some (acc ++ filL d g n i) := by
  have hq := fil_q d g hd h0 h1
  have e1 : Int.tmod g d = g % d := Int.tmod_eq_emod_of_nonneg h0
  have e2 : Int.tdiv g d = g / d := Int.tdiv_eq_ediv_of_nonneg h0
  intro n
  induction n with
  | zero =>
    intro acc i k hn hi hk ha
    obtain ⟨k, rfl⟩ : ∃ m, k = m + 1 := ⟨k - 1, by omega⟩
    simp only [spec_l12Fill.l0]; rw [if_neg (by omega)]; simp [filL]
  | succ n ih =>
    intro acc i k hn hi hk ha
    obtain ⟨k, rfl⟩ : ∃ m, k = m + 1 := ⟨k - 1, by omega⟩
    have go := fun v : Int => ih (acc ++ [v]) (i + 1) k (by omega) (by omega) (by omega) (by simp; omega)
    simp only [spec_l12Fill.l0]
    rw [if_pos (by omega), if_neg (by omega), e1, e2, w64 (n := g / d) (by omega) (by omega), w64 (n := g / d + 1) (by omega) (by omega), w64 (n := -(g / d + 1)) (by omega) (by omega), w64 (n := -(g / d)) (by omega) (by omega), w64 (n := i + 1) (by omega) (by omega)]
    have hlim : acc.length < 17592186044416 := by omega
    simp only [if_pos hlim, go, filL, fil]
    by_cases c1 : i < g % d <;> by_cases c2 : Int.tmod i 2 = 1 <;> simp [c1, c2]
theorem l12Fill_eq (d g : Int) (hd : 1 ≤ d) (hd1 : d ≤ 1000) (h0 : 0 ≤ g) (h1 : g ≤ 100000000000000) (k : Nat) (hk : d.toNat < k) : spec_l12Fill.f k d g = some (filL d g d.toNat 0) := by
  unfold spec_l12Fill.f; have := l12Fill_l0 d g hd hd1 h0 h1 d.toNat [] 0 k (by omega) (by omega) hk (by simp; omega); simpa using this
theorem specFillOf_eq (d g : Int) (k : Nat) (hk : 10 ≤ k) : spec_FillOf.f k d g = some (fillR d g) := by
  unfold spec_FillOf.f fillR
  simp only [l1In_eq, l12Gain_eq, Option.bind_some, decide_eq_true_eq]
  by_cases h1 : 1 ≤ d ∧ d ≤ 4
  · by_cases h2 : 0 ≤ g ∧ g ≤ 67108864
    · simp [h1, h2, l12Fill_eq d g h1.1 (by omega) h2.1 (by omega) k (by omega)]
    · simp [h1, h2]
  · simp [h1]
def fbR (a b : Int) : Int × Int := if (0 ≤ a ∧ a ≤ 67108864) ∧ (0 ≤ b ∧ b ≤ 67108864) then (0, a + b) else (3, 0)
theorem FillBound_eq (a b : Int) : impl_FillBound.f a b = some (fbR a b) := by
  unfold impl_FillBound.f fbR
  simp only [isGain_eq, Option.bind_some, decide_eq_true_eq]
  by_cases h1 : 0 ≤ a ∧ a ≤ 67108864
  · by_cases h2 : 0 ≤ b ∧ b ≤ 67108864
    · rw [if_pos h1, if_pos h2, if_pos ⟨h1, h2⟩, w64 (by omega) (by omega)]
    · rw [if_pos h1, if_neg h2, if_neg (fun h => h2 h.2)]
  · rw [if_neg h1, if_neg (fun h => h1 h.1)]
theorem specFillBound_eq (a b : Int) : spec_FillBound.f a b = some (fbR a b) := by
  unfold spec_FillBound.f fbR
  simp only [l12Gain_eq, Option.bind_some, decide_eq_true_eq]
  by_cases h1 : 0 ≤ a ∧ a ≤ 67108864
  · by_cases h2 : 0 ≤ b ∧ b ≤ 67108864
    · rw [if_pos h1, if_pos h2, if_pos ⟨h1, h2⟩, w64 (by omega) (by omega)]
    · rw [if_pos h1, if_neg h2, if_neg (fun h => h2 h.2)]
  · rw [if_neg h1, if_neg (fun h => h1 h.1)]
/-- All of a list lie between two bounds. -/
def allW (l : List Int) (a b : Int) : Bool := l.all fun x => decide (a ≤ x ∧ x ≤ b)
theorem allW_cons (x : Int) (l : List Int) (a b : Int) : allW (x :: l) a b = (decide (a ≤ x ∧ x ≤ b) && allW l a b) := by simp [allW]
theorem allW_mem {l : List Int} {a b : Int} (h : allW l a b = true) {x : Int} (hx : x ∈ l) : a ≤ x ∧ x ≤ b := by
  unfold allW at h; rw [List.all_eq_true] at h; simpa using h x hx
theorem allW_mk {l : List Int} {a b : Int} (h : ∀ x ∈ l, a ≤ x ∧ x ≤ b) : allW l a b = true := by
  unfold allW; rw [List.all_eq_true]; intro x hx; simpa using h x hx
/-- The sum of the absolute values. -/
def nrm : List Int → Nat
  | [] => 0
  | x :: l => x.natAbs + nrm l
theorem nrm_append : ∀ (a b : List Int), nrm (a ++ b) = nrm a + nrm b
  | [], b => by simp [nrm]
  | x :: a, b => by simp only [List.cons_append, nrm, nrm_append a b]; omega
theorem nrm_le (M : Nat) : ∀ (l : List Int), (∀ x ∈ l, x.natAbs ≤ M) → nrm l ≤ M * l.length
  | [], _ => by simp [nrm]
  | x :: l, h => by
    have h1 := nrm_le M l (fun y hy => h y (by simp [hy]))
    have h2 := h x (by simp)
    simp only [nrm, List.length_cons, Nat.mul_add, Nat.mul_one]; omega
theorem nrm_mem : ∀ {l : List Int} {x : Int}, x ∈ l → x.natAbs ≤ nrm l
  | y :: l, x, h => by
    simp only [nrm]
    rcases List.mem_cons.1 h with rfl | h
    · omega
    · have := nrm_mem h; omega
theorem allW_nrm {l : List Int} {M : Nat} (h : allW l (-(M : Int)) M = true) : nrm l ≤ M * l.length :=
  nrm_le M l (fun x hx => by have := allW_mem h hx; omega)
def fa (d g i : Int) : Int := g / d + if i < g % d then 1 else 0
theorem fa_bound (d g i : Int) (hd : 1 ≤ d) (h0 : 0 ≤ g) : 0 ≤ fa d g i ∧ fa d g i ≤ g / d + 1 ∧ g / d ≤ fa d g i := by
  have := Int.ediv_nonneg h0 (show 0 ≤ d by omega)
  unfold fa; split <;> omega
theorem fil_abs (d g i : Int) (hd : 1 ≤ d) (h0 : 0 ≤ g) : ((fil d g i).natAbs : Int) = fa d g i := by
  have := fa_bound d g i hd h0
  unfold fil
  show (((if Int.tmod i 2 = 1 then -(fa d g i) else fa d g i)).natAbs : Int) = fa d g i
  split <;> omega
theorem rd_filL (d g : Int) : ∀ (n : Nat) (i j : Int), 0 ≤ j → j < n → rd (filL d g n i) j = fil d g (i + j) := by
  intro n
  induction n with
  | zero => intro i j h0 h1; omega
  | succ n ih =>
    intro i j h0 h1
    simp only [filL]
    by_cases e : j = 0
    · subst e; simp [rd]
    · have := ih (i + 1) (j - 1) (by omega) (by omega)
      unfold rd at this ⊢
      rw [show j.toNat = (j - 1).toNat + 1 by omega, List.getD_cons_succ, this]; congr 1; omega
theorem nrm_filL (d g : Int) (hd : 1 ≤ d) (h0 : 0 ≤ g) : ∀ (n : Nat) (i : Int), i + n = d → 0 ≤ i → (nrm (filL d g n i) : Int) = n * (g / d) + (if i < g % d then g % d - i else 0) := by
  have hr0 := Int.emod_nonneg g (show d ≠ 0 by omega)
  have hr1 := Int.emod_lt_of_pos g (show 0 < d by omega)
  intro n
  induction n with
  | zero => intro i hi h1; simp only [filL, nrm]; rw [if_neg (by omega)]; simp
  | succ n ih =>
    intro i hi h1
    have h := ih (i + 1) (by omega) (by omega)
    have ha := fil_abs d g i hd h0
    simp only [filL, nrm]
    rw [show (((fil d g i).natAbs + nrm (filL d g n (i + 1)) : Nat) : Int) = ((fil d g i).natAbs : Int) + (nrm (filL d g n (i + 1)) : Int) by omega, h, ha]
    unfold fa
    have e : ((n + 1 : Nat) : Int) * (g / d) = n * (g / d) + g / d := by rw [Int.natCast_add, Int.add_mul]; simp
    rw [e]
    split <;> split <;> omega
theorem idxP_any (p : Int → Option Bool) (q : Int → Bool) : ∀ (l : List Int) (i : Int), 0 ≤ i → (∀ x ∈ l, p x = some (q x)) → ∃ r, idxP p l i = some r ∧ decide (0 ≤ r) = l.any q
  | [], i, _, _ => ⟨-1, rfl, by simp⟩
  | x :: l, i, hi, h => by
    obtain ⟨r, hr, hq⟩ := idxP_any p q l (i + 1) (by omega) (fun y hy => h y (by simp [hy]))
    simp only [idxP]
    rw [h x (by simp)]
    simp only [Option.bind_some]
    cases hx : q x with
    | true => exact ⟨i, by simp, by simp [hx, hi]⟩
    | false => exact ⟨r, by simp [hr], by simp [hx, hq]⟩
theorem anyP_eq (p : Int → Option Bool) (q : Int → Bool) (l : List Int) (h : ∀ x ∈ l, p x = some (q x)) : anyP p l = some (l.any q) := by
  obtain ⟨r, hr, hq⟩ := idxP_any p q l 0 (by omega) h
  unfold anyP; rw [hr]; simp only [Option.bind_some]; rw [hq]
theorem within_eq (a b : Int) (h0 : 0 ≤ b) (h1 : b ≤ 9223372036854775807) : impl_within.f a b = some (decide (-b ≤ a ∧ a ≤ b)) := by
  unfold impl_within.f; rw [w64 (by omega) (by omega), inRange_eq]; rfl
theorem allWithin_eq (l : List Int) (m : Int) (h0 : 0 ≤ m) (h1 : m ≤ 9223372036854775807) : impl_allWithin.f l m = some (allW l (-m) m) := by
  unfold impl_allWithin.f
  rw [anyP_eq (notWithinP m) (fun x => !decide (-m ≤ x ∧ x ≤ m)) l (fun x _ => by unfold notWithinP; rw [within_eq x m h0 h1]; rfl)]
  simp only [Option.bind_some]
  congr 1
  unfold allW
  rw [List.any_eq_not_all_not]; simp
theorem abs_eq (x : Int) (h0 : -9223372036854775807 ≤ x) (h1 : x ≤ 9223372036854775807) : impl_abs.f x = some (x.natAbs : Int) := by
  unfold impl_abs.f mx; rw [w64 (by omega) (by omega)]; congr 1; split <;> omega
theorem rd_append_right (P Q : List Int) (i : Int) (h : i = (P.length : Int)) (x : Int) (R : List Int) (hQ : Q = x :: R) : rd (P ++ Q) i = x := by
  subst hQ; unfold rd; rw [h, Int.toNat_natCast, List.getD_eq_getElem?_getD, List.getElem?_append_right (Nat.le_refl _)]; simp
theorem rd_get (l : List Int) (i : Int) (h0 : 0 ≤ i) (h1 : i < (l.length : Int)) : rd l i = l[i.toNat]'(by omega) := by
  unfold rd; rw [List.getD_eq_getElem?_getD, List.getElem?_eq_getElem (by omega)]; rfl
theorem normOf_l0 (l : List Int) (hl : l.length ≤ 2000000) (hb : ∀ x ∈ l, x.natAbs ≤ 1099511627776) : ∀ (rest pre : List Int) (i s : Int) (k : Nat), l = pre ++ rest → (pre.length : Int) = i → rest.length < k → s = (nrm pre : Int) → impl_normOf.l0 k s l (l.length : Int) i = some (nrm l : Int) := by
  intro rest
  induction rest with
  | nil =>
    intro pre i s k h1 hi hk hs
    obtain ⟨k, rfl⟩ : ∃ m, k = m + 1 := ⟨k - 1, by omega⟩
    simp only [impl_normOf.l0]
    rw [if_neg (by rw [h1]; simp; omega), hs, h1]; simp
  | cons x rest ih =>
    intro pre i s k h1 hi hk hs
    obtain ⟨k, rfl⟩ : ∃ m, k = m + 1 := ⟨k - 1, by omega⟩
    simp only [List.length_cons] at hk
    have hlen : l.length = pre.length + (rest.length + 1) := by rw [h1]; simp
    have hx := hb x (by rw [h1]; simp)
    have hp := nrm_le 1099511627776 pre (fun y hy => hb y (by rw [h1]; simp [hy]))
    have hp2 : 1099511627776 * pre.length ≤ 1099511627776 * 2000000 := Nat.mul_le_mul_left _ (by omega)
    simp only [impl_normOf.l0]
    have hr : rd l i = x := by rw [h1]; exact rd_append_right pre (x :: rest) i hi.symm x rest rfl
    rw [if_pos (by omega), if_pos (by omega), if_pos (by omega), hr, abs_eq x (by omega) (by omega)]
    simp only [Option.bind_some]
    rw [w64 (n := s + _) (by omega) (by omega), w64 (n := i + 1) (by omega) (by omega)]
    exact ih (pre ++ [x]) (i + 1) _ k (by rw [h1]; simp) (by simp; omega) (by omega) (by rw [nrm_append]; simp only [nrm]; omega)
theorem normOf_eq (l : List Int) (hl : l.length ≤ 2000000) (hb : ∀ x ∈ l, x.natAbs ≤ 1099511627776) (k : Nat) (hk : l.length < k) : impl_normOf.f k l = some (nrm l : Int) := by
  unfold impl_normOf.f; exact normOf_l0 l hl hb l [] 0 0 k rfl rfl hk rfl
def normR (l : List Int) : Int × Int := if (l.length : Int) > 64 then (2, 0) else if allW l (-1099511627776) 1099511627776 = true then (0, (nrm l : Int)) else (3, 0)
theorem NormOf_eq (l : List Int) (k : Nat) (hk : 70 ≤ k) : impl_NormOf.f k l = some (normR l) := by
  unfold impl_NormOf.f normR
  by_cases h : (l.length : Int) > 64
  · rw [if_pos h, if_pos h]
  · rw [if_neg h, if_neg h, allWithin_eq l _ (by omega) (by omega)]
    simp only [Option.bind_some]
    by_cases hw : allW l (-1099511627776) 1099511627776 = true
    · rw [if_pos hw, if_pos hw, normOf_eq l (by omega) (fun x hx => by have := allW_mem hw hx; omega) k (by omega)]; rfl
    · rw [if_neg hw, if_neg hw]
theorem lwAbs_eq (x : Int) (h0 : -9223372036854775807 ≤ x) (h1 : x ≤ 9223372036854775807) : laws_lwAbs.f x = some (if x < 0 then -x else x) := by
  unfold laws_lwAbs.f
  by_cases h : x < 0
  · rw [if_pos h, if_pos h, w64 (by omega) (by omega)]
  · rw [if_neg h, if_neg h]
theorem lwBig_eq (l : List Int) : laws_lwBig.f l = some (decide ((l.length : Int) > 1048576)) := rfl
theorem FnFills : laws_FnFills.Pure := by
  intro l hm hl hb
  refine ⟨200, ?_⟩
  unfold laws_FnFills.f
  rw [lwBig_eq]; simp only [Option.bind_some, decide_eq_true_eq]
  by_cases hbig : (l.length : Int) > 1048576
  · rw [if_pos hbig]
  rw [if_neg hbig]
  obtain ⟨d, g, hd⟩ := DrawFillOf_ok hb
  obtain ⟨a, b, hf⟩ := DrawFillBound_ok hb
  rw [hd]; simp only [Option.bind_some]
  rw [FillOf_eq d g 200 (by omega)]; simp only [Option.bind_some]
  rw [hf]; simp only [Option.bind_some]
  rw [FillBound_eq, specFillOf_eq d g 200 (by omega)]; simp only [Option.bind_some, if_true]
  rw [specFillBound_eq]; simp only [Option.bind_some, beq_self_eq_true, Bool.not_true, Bool.or_self]
  simp only [laws_FnFills.j0]
  rw [if_neg (by simp)]
  by_cases h : (1 ≤ d ∧ d ≤ 4) ∧ (0 ≤ g ∧ g ≤ 67108864)
  · have e : fillR d g = (0, filL d g d.toNat 0) := by unfold fillR; rw [if_pos h]
    rw [e]; simp only [if_true]
    obtain ⟨⟨d0, d1⟩, g0, g1⟩ := h
    have hq := fil_q d g d0 g0 (by omega)
    have hlen : (filL d g d.toNat 0).length = d.toNat := filL_length d g _ _
    have hn := nrm_filL d g d0 g0 d.toNat 0 (by omega) (by omega)
    have hgd := Int.mul_ediv_add_emod g d
    have hr0 := Int.emod_nonneg g (show d ≠ 0 by omega)
    have hsum : (nrm (filL d g d.toNat 0) : Int) = g := by
      rw [hn, Int.toNat_of_nonneg (by omega)]
      split <;> omega
    have hN : normR (filL d g d.toNat 0) = (0, g) := by
      unfold normR
      rw [if_neg (by omega), if_pos, hsum]
      exact allW_mk fun x hx => by have := nrm_mem hx; omega
    have main : ∀ (n : Nat) (i : Int) (K : Nat), i + n = d → 1 ≤ i → n + 100 ≤ K → laws_FnFills.l0 K d g i 0 (filL d g d.toNat 0) = some true := by
      intro n
      induction n with
      | zero =>
        intro i K hi h1 hK
        obtain ⟨K, rfl⟩ : ∃ z, K = z + 1 := ⟨K - 1, by omega⟩
        simp only [laws_FnFills.l0]
        rw [if_neg (by omega), if_pos (by omega), NormOf_eq _ K (by omega), hN]
        simp
      | succ n ih =>
        intro i K hi h1 hK
        obtain ⟨K, rfl⟩ : ∃ z, K = z + 1 := ⟨K - 1, by omega⟩
        have r1 := rd_filL d g d.toNat 0 i (by omega) (by omega)
        have r2 := rd_filL d g d.toNat 0 (i - 1) (by omega) (by omega)
        have a1 := fil_abs d g (0 + i) d0 g0
        have a2 := fil_abs d g (0 + (i - 1)) d0 g0
        have b1 := fa_bound d g (0 + i) d0 g0
        have b2 := fa_bound d g (0 + (i - 1)) d0 g0
        have mono : fa d g (0 + i) ≤ fa d g (0 + (i - 1)) := by unfold fa; split <;> split <;> omega
        have ab : ∀ x : Int, (if x < 0 then -x else x) = (x.natAbs : Int) := fun x => by split <;> omega
        simp only [laws_FnFills.l0]
        rw [if_pos (by omega), if_pos (by omega), r1, lwAbs_eq _ (by omega) (by omega)]
        simp only [Option.bind_some]
        rw [w64 (n := i - 1) (by omega) (by omega), if_pos (by omega), if_pos (by omega), r2, lwAbs_eq _ (by omega) (by omega)]
        simp only [Option.bind_some, ab, a1, a2]
        rw [if_neg (by omega), w64 (n := fa d g (0 + (i - 1)) - fa d g (0 + i)) (by omega) (by omega), if_neg (by omega), w64 (n := i + 1) (by omega) (by omega)]
        exact ih (i + 1) K (by omega) (by omega) (by omega)
    exact main (d - 1).toNat 1 199 (by omega) (by omega) (by omega)
  · have e : fillR d g = (3, []) := by unfold fillR; rw [if_neg h]
    rw [e]; simp

end Go.Proofs.Ytoepnammegcjeaa.Pure
