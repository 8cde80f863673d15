/- The number of pulses satisfies the recurrence over the length and the sum, whatever arguments are drawn. -/
import Derived.Test.YtfjljllkofcmbaaPFnCountsx3
set_option linter.unusedVariables false
set_option linter.unusedSimpArgs false
namespace Go.Proofs.Ytfjljllkofcmbaa.Pure
open Go.RowKit Go.Proofs.Ytfjljllkofcmbaa.PFnCounts Go.Proofs.YtfjljllkofcmbaaW.PrintWords Go.Proofs.YtfjljllkofcmbaaW.PrintLast

theorem w64 {n : Int} (h1 : -9223372036854775808 ≤ n) (h2 : n ≤ 9223372036854775807) : wrap64 n = n := by unfold wrap64; omega
theorem rd_mem (L : List Int) (i : Int) (h0 : 0 ≤ i) (h1 : i < (L.length : Int)) : rd L i ∈ L := by
  unfold rd
  rw [List.getD_eq_getElem?_getD, List.getElem?_eq_getElem (by omega)]
  exact List.getElem_mem _
/-- All of a list are bytes. -/
def Bytes8 (l : List Int) : Prop := ∀ x ∈ l, (Lit.int .u8 x).wf = true
theorem Bytes8.rdb {l : List Int} (h : Bytes8 l) (i : Int) : 0 ≤ rd l i ∧ rd l i ≤ 255 := by
  by_cases hi : i.toNat < l.length
  · have hm : rd l i ∈ l := by
      unfold rd
      rw [List.getD_eq_getElem?_getD, List.getElem?_eq_getElem hi]
      exact List.getElem_mem _
    have := h _ hm
    simp only [Lit.wf, Bool.and_eq_true, decide_eq_true_eq] at this
    have e1 : IntKind.u8.min = 0 := by decide
    have e2 : IntKind.u8.max = 255 := by decide
    rw [e1, e2] at this; exact this
  · unfold rd
    rw [List.getD_eq_getElem?_getD, List.getElem?_eq_none (by omega)]
    simp
theorem tmod_in (s m : Int) (hs : 0 ≤ s) (hm : 1 ≤ m) : 0 ≤ Int.tmod s m ∧ Int.tmod s m < m := by
  rw [Int.tmod_eq_emod_of_nonneg hs]
  exact ⟨Int.emod_nonneg s (by omega), Int.emod_lt_of_pos s (by omega)⟩
theorem next_ok {l : List Int} (hb : Bytes8 l) (s n : Int) (h0 : 0 ≤ s) (h1 : s ≤ 10000000) :
    ∃ v, spec_l1Next.f l s n = some (v, s + 1) ∧ 0 ≤ v ∧ (n < 1 → v = 0) ∧ (1 ≤ n → v < n) := by
  unfold spec_l1Next.f
  by_cases hn : n < 1
  · rw [if_pos hn, w64 (by omega) (by omega)]
    exact ⟨0, rfl, by omega, fun _ => rfl, fun h => by omega⟩
  rw [if_neg hn]
  have hn0 : ¬ n = 0 := by omega
  have e1 : wrap64 (s + 1) = s + 1 := w64 (by omega) (by omega)
  have e2 : wrap64 (s + 1 - 1) = s := by rw [w64 (by omega) (by omega)]; omega
  have e3 : wrap64 (s + 2) = s + 2 := w64 (by omega) (by omega)
  simp only [e1, e2, e3]
  by_cases hl : (l.length : Int) = 0
  · rw [if_pos hl, if_neg hn0]
    have := tmod_in (wrap64 (s * 7)) n (by rw [w64 (by omega) (by omega)]; omega) (by omega)
    exact ⟨_, rfl, this.1, fun h => by omega, fun _ => this.2⟩
  rw [if_neg hl]
  have hm : 1 ≤ (l.length : Int) := by omega
  have t0 := tmod_in s (l.length : Int) h0 hm
  have t1 := tmod_in (s + 1) (l.length : Int) (by omega) hm
  have t2 := tmod_in (s + 2) (l.length : Int) (by omega) hm
  rw [if_pos t0.1, if_pos t0.2]
  simp only [if_pos t1.1, if_pos t1.2, if_pos t2.1, if_pos t2.2, if_neg hn0]
  have r0 := hb.rdb (Int.tmod s (l.length : Int))
  have r1 := hb.rdb (Int.tmod (s + 1) (l.length : Int))
  have r2 := hb.rdb (Int.tmod (s + 2) (l.length : Int))
  have q : 0 ≤ Int.tdiv s (l.length : Int) ∧ Int.tdiv s (l.length : Int) ≤ s := by
    rw [Int.tdiv_eq_ediv_of_nonneg h0]
    exact ⟨Int.ediv_nonneg h0 (by omega), Int.ediv_le_self _ h0⟩
  generalize rd l (Int.tmod s (l.length : Int)) = b0 at *
  generalize rd l (Int.tmod (s + 1) (l.length : Int)) = b1 at *
  generalize rd l (Int.tmod (s + 2) (l.length : Int)) = b2 at *
  generalize Int.tdiv s (l.length : Int) = d at *
  have f0 : wrap64 b0 = b0 := w64 (by omega) (by omega)
  have f1 : wrap64 b1 = b1 := w64 (by omega) (by omega)
  have f2 : wrap64 b2 = b2 := w64 (by omega) (by omega)
  have f3 : wrap64 d = d := w64 (by omega) (by omega)
  have f4 : wrap64 (d * 37) = d * 37 := w64 (by omega) (by omega)
  have f5 : wrap64 (b0 + d * 37) = b0 + d * 37 := w64 (by omega) (by omega)
  have f6 : wrap64 ((b0 + d * 37) * 251) = (b0 + d * 37) * 251 := w64 (by omega) (by omega)
  have f7 : wrap64 (b1 * 13) = b1 * 13 := w64 (by omega) (by omega)
  have f8 : wrap64 ((b0 + d * 37) * 251 + b1 * 13) = (b0 + d * 37) * 251 + b1 * 13 := w64 (by omega) (by omega)
  have f9 : wrap64 ((b0 + d * 37) * 251 + b1 * 13 + s) = (b0 + d * 37) * 251 + b1 * 13 + s := w64 (by omega) (by omega)
  have f10 : wrap64 (((b0 + d * 37) * 251 + b1 * 13 + s) * 257) = ((b0 + d * 37) * 251 + b1 * 13 + s) * 257 := w64 (by omega) (by omega)
  have f11 : wrap64 ((b0 + d * 37) * 257) = (b0 + d * 37) * 257 := w64 (by omega) (by omega)
  simp only [f0, f1, f2, f3, f4, f5, f6, f7, f8, f9, f10, f11]
  have fin : ∀ X : Int, 0 ≤ X → ∃ v, (some (Int.tmod X n, s + 1) : Option (Int × Int)) = some (v, s + 1) ∧ 0 ≤ v ∧ (n < 1 → v = 0) ∧ (1 ≤ n → v < n) := fun X hX =>
    ⟨_, rfl, (tmod_in X n hX (by omega)).1, fun h => by omega, fun _ => (tmod_in X n hX (by omega)).2⟩
  by_cases c1 : n > 200
  · rw [if_pos c1]
    by_cases c2 : n > 60000
    · rw [if_pos c2]; exact fin _ (by rw [w64 (by omega) (by omega)]; omega)
    · rw [if_neg c2]; exact fin _ (by omega)
  · rw [if_neg c1, if_neg (by omega)]; exact fin _ (by omega)
theorem pick_ok {l : List Int} (hb : Bytes8 l) (s : Int) (L : List Int) (h0 : 0 ≤ s) (h1 : s ≤ 10000000) (hL : 0 < L.length) :
    ∃ v, spec_l1Pick.f l s L = some (v, s + 1) ∧ v ∈ L := by
  unfold spec_l1Pick.f
  obtain ⟨v, hv, hv0, _, hv1⟩ := next_ok hb s (L.length : Int) h0 h1
  rw [hv]; simp only [Option.bind_some]
  have := hv1 (by omega)
  rw [if_pos hv0, if_pos this]
  exact ⟨_, rfl, rd_mem L v hv0 this⟩
theorem DrawCountPulses_ok {l : List Int} (hb : Bytes8 l) : ∃ d k, spec_DrawCountPulses.f l = some (d, k) := by
  unfold spec_DrawCountPulses.f spec_l1Source.f
  simp only [Option.bind_some]
  obtain ⟨v, hv, _⟩ := pick_ok hb 0 [1, 2, 3, 4, 2, 4, 5, 0] (by omega) (by omega) (by simp)
  rw [hv]; simp only [Option.bind_some]
  obtain ⟨u, hu, _⟩ := pick_ok hb (0 + 1) [0, 1, 2, 4, 6, 8, 8, 9, -1] (by omega) (by omega) (by simp)
  rw [hu]; exact ⟨_, _, rfl⟩
theorem inRange_eq (a b c : Int) : impl_inRange.f a b c = some (decide (b ≤ a ∧ a ≤ c)) := by
  unfold impl_inRange.f
  by_cases h : b ≤ a
  · rw [if_pos h]; simp [h]
  · rw [if_neg h]; simp [h]
theorem isDim_eq (a : Int) : impl_isDim.f a = some (decide (1 ≤ a ∧ a ≤ 4)) := by unfold impl_isDim.f; rw [inRange_eq]; rfl
theorem isPulses_eq (a : Int) : impl_isPulses.f a = some (decide (0 ≤ a ∧ a ≤ 8)) := by unfold impl_isPulses.f; rw [inRange_eq]; rfl
/-- How many pulses of k there are of a length. -/
def cnt : Nat → Nat → Nat
  | 0, k => if k = 0 then 1 else 0
  | d + 1, k => cnt d k + 2 * ((List.range k).map (cnt d)).sum
theorem countPulses_eq (d k : Int) (hd0 : 0 ≤ d) (hd1 : d ≤ 4) (hk0 : 0 ≤ k) (hk1 : k ≤ 8) (K : Nat) (hK : 120 ≤ K) : impl_countPulses.f K d k = some (cnt d.toNat k.toNat : Int) := by
  have key : ∀ d : Nat, d < 5 → ∀ k : Nat, k < 9 → impl_countPulses.f 120 (d : Int) (k : Int) = some (cnt d k : Int) := by decide +kernel
  have := key d.toNat (by omega) k.toNat (by omega)
  rw [Int.toNat_of_nonneg hd0, Int.toNat_of_nonneg hk0] at this
  exact at_rounds (g := fun K => impl_countPulses.f K d k) (impl_countPulses.mono d k) hK this
/-- What CountPulses answers. -/
def countR (d k : Int) : Int × Int := if (1 ≤ d ∧ d ≤ 4) ∧ (0 ≤ k ∧ k ≤ 8) then (0, (cnt d.toNat k.toNat : Int)) else (3, 0)
theorem CountPulses_eq (d k : Int) (K : Nat) (hK : 120 ≤ K) : impl_CountPulses.f K d k = some (countR d k) := by
  unfold impl_CountPulses.f countR
  simp only [isDim_eq, isPulses_eq, Option.bind_some, decide_eq_true_eq]
  by_cases h1 : 1 ≤ d ∧ d ≤ 4
  · by_cases h2 : 0 ≤ k ∧ k ≤ 8
    · simp [h1, h2, countPulses_eq d k (by omega) h1.2 h2.1 h2.2 K hK]
    · simp [h1, h2]
  · simp [h1]
theorem l1In_eq (a b c : Int) : spec_l1In.f a b c = some (decide (b ≤ a ∧ a ≤ c)) := by
  unfold spec_l1In.f
  by_cases h : a ≥ b
  · rw [if_pos h]; congr 1; have : b ≤ a := h; simp [this]
  · rw [if_neg h]; have : ¬ b ≤ a := h; simp [this]
theorem l11Ask_eq (a b : Int) : spec_l11Ask.f a b = some (decide ((1 ≤ a ∧ a ≤ 4) ∧ (0 ≤ b ∧ b ≤ 8))) := by
  unfold spec_l11Ask.f; simp only [l1In_eq, Option.bind_some]; by_cases h : 1 ≤ a ∧ a ≤ 4 <;> simp [h]
theorem l11Count_eq (d k : Int) (hd0 : 0 ≤ d) (hd1 : d ≤ 4) (hk0 : 0 ≤ k) (hk1 : k ≤ 8) (K : Nat) (hK : 120 ≤ K) : spec_l11Count.f K d k = some (cnt d.toNat k.toNat : Int) := by
  have key : ∀ d : Nat, d < 5 → ∀ k : Nat, k < 9 → spec_l11Count.f 120 (d : Int) (k : Int) = some (cnt d k : Int) := by decide +kernel
  have := key d.toNat (by omega) k.toNat (by omega)
  rw [Int.toNat_of_nonneg hd0, Int.toNat_of_nonneg hk0] at this
  exact at_rounds (g := fun K => spec_l11Count.f K d k) (spec_l11Count.mono d k) hK this
theorem specCountPulses_eq (d k : Int) (K : Nat) (hK : 120 ≤ K) : spec_CountPulses.f K d k = some (countR d k) := by
  unfold spec_CountPulses.f countR
  simp only [l11Ask_eq, Option.bind_some, decide_eq_true_eq]
  by_cases h1 : 1 ≤ d ∧ d ≤ 4
  · by_cases h2 : 0 ≤ k ∧ k ≤ 8
    · simp [h1, h2, l11Count_eq d k (by omega) h1.2 h2.1 h2.2 K hK]
    · simp [h1, h2]
  · simp [h1]
theorem lwBig_eq (l : List Int) : laws_lwBig.f l = some (decide ((l.length : Int) > 1048576)) := rfl
theorem FnCounts : laws_FnCounts.Pure := by
  intro l hm hl hb
  refine ⟨120, ?_⟩
  unfold laws_FnCounts.f
  rw [lwBig_eq]; simp only [Option.bind_some, decide_eq_true_eq]
  by_cases hbig : (l.length : Int) > 1048576
  · rw [if_pos hbig]
  rw [if_neg hbig]
  obtain ⟨d, k, hd⟩ := DrawCountPulses_ok hb
  rw [hd]; simp only [Option.bind_some]
  rw [CountPulses_eq d k 120 (by omega), specCountPulses_eq d k 120 (by omega)]
  simp only [Option.bind_some, if_true]
  by_cases h : (1 ≤ d ∧ d ≤ 4) ∧ (0 ≤ k ∧ k ≤ 8)
  · have e : countR d k = (0, (cnt d.toNat k.toNat : Int)) := by unfold countR; rw [if_pos h]
    rw [e]; simp only [if_true]
    obtain ⟨⟨h1, h2⟩, h3, h4⟩ := h
    obtain ⟨D, rfl⟩ : ∃ D : Nat, d = D := ⟨d.toNat, by omega⟩
    obtain ⟨Kk, rfl⟩ : ∃ Kk : Nat, k = Kk := ⟨k.toNat, by omega⟩
    simp only [Int.toNat_natCast]
    by_cases k0 : (Kk : Int) = 0
    · rw [if_pos k0]
      have : ∀ D : Nat, D < 5 → 1 ≤ D → cnt D 0 = 1 := by decide +kernel
      obtain rfl : Kk = 0 := by omega
      rw [this D (by omega) (by omega)]; rfl
    · rw [if_neg k0]
      by_cases d1 : (D : Int) = 1
      · rw [if_pos d1]
        obtain rfl : D = 1 := by omega
        have : ∀ k : Nat, k < 9 → 1 ≤ k → cnt 1 k = 2 := by decide +kernel
        rw [this Kk (by omega) (by omega)]; rfl
      · rw [if_neg d1, w64 (n := (D : Int) - 1) (by omega) (by omega), w64 (n := (Kk : Int) - 1) (by omega) (by omega)]
        rw [CountPulses_eq _ _ 120 (by omega), CountPulses_eq _ _ 120 (by omega), CountPulses_eq _ _ 120 (by omega)]
        simp only [Option.bind_some]
        unfold countR
        rw [if_pos (by omega), if_pos (by omega), if_pos (by omega)]
        have t1 : ((D : Int) - 1).toNat = D - 1 := by omega
        have t2 : ((Kk : Int) - 1).toNat = Kk - 1 := by omega
        simp only [t1, t2, Int.toNat_natCast]
        have key : ∀ d : Nat, d < 5 → ∀ k : Nat, k < 9 → 2 ≤ d ∧ 1 ≤ k → cnt d k = cnt (d - 1) k + cnt d (k - 1) + cnt (d - 1) (k - 1) ∧ cnt (d - 1) k ≤ 100000 ∧ cnt d (k - 1) ≤ 100000 ∧ cnt (d - 1) (k - 1) ≤ 100000 := by decide +kernel
        obtain ⟨e1, b1, b2, b3⟩ := key D (by omega) Kk (by omega) (by omega)
        rw [w64 (n := (cnt (D - 1) Kk : Int) + (cnt D (Kk - 1) : Int)) (by omega) (by omega), w64 (by omega) (by omega), e1]
        simp
  · have e : countR d k = (3, 0) := by unfold countR; rw [if_neg h]
    rw [e]; simp

end Go.Proofs.Ytfjljllkofcmbaa.Pure
