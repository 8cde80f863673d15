/- A search's pulses, with a gain near the norm, give a shape as near as is told. -/
import Derived.Test.YtpbkbibjlbbkbaaPFnShapesx9
set_option linter.unusedVariables false
set_option linter.unusedSimpArgs false
namespace Go.Proofs.Ytpbkbibjlbbkbaa.Pure
open Go.RowKit Go.Proofs.Ytpbkbibjlbbkbaa.PFnShapes Go.Proofs.YtpbkbibjlbbkbaaW.PrintWords Go.Proofs.YtpbkbibjlbbkbaaW.PrintLast

theorem w64 {n : Int} (h1 : -9223372036854775808 ≤ n) (h2 : n ≤ 9223372036854775807) : wrap64 n = n := by unfold wrap64; omega
theorem rd_mem (L : List Int) (i : Int) (h0 : 0 ≤ i) (h1 : i < (L.length : Int)) : rd L i ∈ L := by
  unfold rd
  rw [List.getD_eq_getElem?_getD, List.getElem?_eq_getElem (by omega)]
  exact List.getElem_mem _
/-- All of a list are bytes. -/
def Bytes8 (l : List Int) : Prop := ∀ x ∈ l, (Lit.int .u8 x).wf = true
theorem Bytes8.rdb {l : List Int} (h : Bytes8 l) (i : Int) : 0 ≤ rd l i ∧ rd l i ≤ 255 := by
  by_cases hi : i.toNat < l.length
  · have hm : rd l i ∈ l := by
      unfold rd
      rw [List.getD_eq_getElem?_getD, List.getElem?_eq_getElem hi]
      exact List.getElem_mem _
    have := h _ hm
    simp only [Lit.wf, Bool.and_eq_true, decide_eq_true_eq] at this
    have e1 : IntKind.u8.min = 0 := by decide
    have e2 : IntKind.u8.max = 255 := by decide
    rw [e1, e2] at this; exact this
  · unfold rd
    rw [List.getD_eq_getElem?_getD, List.getElem?_eq_none (by omega)]
    simp
theorem tmod_in (s m : Int) (hs : 0 ≤ s) (hm : 1 ≤ m) : 0 ≤ Int.tmod s m ∧ Int.tmod s m < m := by
  rw [Int.tmod_eq_emod_of_nonneg hs]
  exact ⟨Int.emod_nonneg s (by omega), Int.emod_lt_of_pos s (by omega)⟩
theorem next_ok {l : List Int} (hb : Bytes8 l) (s n : Int) (h0 : 0 ≤ s) (h1 : s ≤ 10000000) :
    ∃ v, spec_l1Next.f l s n = some (v, s + 1) ∧ 0 ≤ v ∧ (n < 1 → v = 0) ∧ (1 ≤ n → v < n) := by
  unfold spec_l1Next.f
  by_cases hn : n < 1
  · rw [if_pos hn, w64 (by omega) (by omega)]
    exact ⟨0, rfl, by omega, fun _ => rfl, fun h => by omega⟩
  rw [if_neg hn]
  have hn0 : ¬ n = 0 := by omega
  have e1 : wrap64 (s + 1) = s + 1 := w64 (by omega) (by omega)
  have e2 : wrap64 (s + 1 - 1) = s := by rw [w64 (by omega) (by omega)]; omega
  have e3 : wrap64 (s + 2) = s + 2 := w64 (by omega) (by omega)
  simp only [e1, e2, e3]
  by_cases hl : (l.length : Int) = 0
  · rw [if_pos hl, if_neg hn0]
    have := tmod_in (wrap64 (s * 7)) n (by rw [w64 (by omega) (by omega)]; omega) (by omega)
    exact ⟨_, rfl, this.1, fun h => by omega, fun _ => this.2⟩
  rw [if_neg hl]
  have hm : 1 ≤ (l.length : Int) := by omega
  have t0 := tmod_in s (l.length : Int) h0 hm
  have t1 := tmod_in (s + 1) (l.length : Int) (by omega) hm
  have t2 := tmod_in (s + 2) (l.length : Int) (by omega) hm
  rw [if_pos t0.1, if_pos t0.2]
  simp only [if_pos t1.1, if_pos t1.2, if_pos t2.1, if_pos t2.2, if_neg hn0]
  have r0 := hb.rdb (Int.tmod s (l.length : Int))
  have r1 := hb.rdb (Int.tmod (s + 1) (l.length : Int))
  have r2 := hb.rdb (Int.tmod (s + 2) (l.length : Int))
  have q : 0 ≤ Int.tdiv s (l.length : Int) ∧ Int.tdiv s (l.length : Int) ≤ s := by
    rw [Int.tdiv_eq_ediv_of_nonneg h0]
    exact ⟨Int.ediv_nonneg h0 (by omega), Int.ediv_le_self _ h0⟩
  generalize rd l (Int.tmod s (l.length : Int)) = b0 at *
  generalize rd l (Int.tmod (s + 1) (l.length : Int)) = b1 at *
  generalize rd l (Int.tmod (s + 2) (l.length : Int)) = b2 at *
  generalize Int.tdiv s (l.length : Int) = d at *
  have f0 : wrap64 b0 = b0 := w64 (by omega) (by omega)
  have f1 : wrap64 b1 = b1 := w64 (by omega) (by omega)
  have f2 : wrap64 b2 = b2 := w64 (by omega) (by omega)
  have f3 : wrap64 d = d := w64 (by omega) (by omega)
  have f4 : wrap64 (d * 37) = d * 37 := w64 (by omega) (by omega)
  have f5 : wrap64 (b0 + d * 37) = b0 + d * 37 := w64 (by omega) (by omega)
  have f6 : wrap64 ((b0 + d * 37) * 251) = (b0 + d * 37) * 251 := w64 (by omega) (by omega)
  have f7 : wrap64 (b1 * 13) = b1 * 13 := w64 (by omega) (by omega)
  have f8 : wrap64 ((b0 + d * 37) * 251 + b1 * 13) = (b0 + d * 37) * 251 + b1 * 13 := w64 (by omega) (by omega)
  have f9 : wrap64 ((b0 + d * 37) * 251 + b1 * 13 + s) = (b0 + d * 37) * 251 + b1 * 13 + s := w64 (by omega) (by omega)
  have f10 : wrap64 (((b0 + d * 37) * 251 + b1 * 13 + s) * 257) = ((b0 + d * 37) * 251 + b1 * 13 + s) * 257 := w64 (by omega) (by omega)
  have f11 : wrap64 ((b0 + d * 37) * 257) = (b0 + d * 37) * 257 := w64 (by omega) (by omega)
  simp only [f0, f1, f2, f3, f4, f5, f6, f7, f8, f9, f10, f11]
  have fin : ∀ X : Int, 0 ≤ X → ∃ v, (some (Int.tmod X n, s + 1) : Option (Int × Int)) = some (v, s + 1) ∧ 0 ≤ v ∧ (n < 1 → v = 0) ∧ (1 ≤ n → v < n) := fun X hX =>
    ⟨_, rfl, (tmod_in X n hX (by omega)).1, fun h => by omega, fun _ => (tmod_in X n hX (by omega)).2⟩
  by_cases c1 : n > 200
  · rw [if_pos c1]
    by_cases c2 : n > 60000
    · rw [if_pos c2]; exact fin _ (by rw [w64 (by omega) (by omega)]; omega)
    · rw [if_neg c2]; exact fin _ (by omega)
  · rw [if_neg c1, if_neg (by omega)]; exact fin _ (by omega)
theorem pick_ok {l : List Int} (hb : Bytes8 l) (s : Int) (L : List Int) (h0 : 0 ≤ s) (h1 : s ≤ 10000000) (hL : 0 < L.length) :
    ∃ v, spec_l1Pick.f l s L = some (v, s + 1) ∧ v ∈ L := by
  unfold spec_l1Pick.f
  obtain ⟨v, hv, hv0, _, hv1⟩ := next_ok hb s (L.length : Int) h0 h1
  rw [hv]; simp only [Option.bind_some]
  have := hv1 (by omega)
  rw [if_pos hv0, if_pos this]
  exact ⟨_, rfl, rd_mem L v hv0 this⟩
theorem signed_ok {l : List Int} (hb : Bytes8 l) (s m : Int) (h0 : 0 ≤ s) (h1 : s ≤ 10000000) (hm0 : 0 ≤ m) (hm : m ≤ 1000000000) :
    ∃ v, spec_l1Signed.f l s m = some (v, s + 1) ∧ -m ≤ v ∧ v ≤ m := by
  unfold spec_l1Signed.f
  have e1 : wrap64 (2 * m) = 2 * m := w64 (by omega) (by omega)
  have e2 : wrap64 (2 * m + 1) = 2 * m + 1 := w64 (by omega) (by omega)
  simp only [e1, e2]
  obtain ⟨v, hv, hv0, _, hv1⟩ := next_ok hb s (2 * m + 1) h0 h1
  rw [hv]; simp only [Option.bind_some]
  have := hv1 (by omega)
  rw [w64 (by omega) (by omega)]
  exact ⟨_, rfl, by omega, by omega⟩

theorem l12Draw_l0 {l : List Int} (hb : Bytes8 l) : ∀ (n : Nat) (L : List Int) (s : Int) (K : Nat), L.length + n ≤ 10 → 0 ≤ s → s + 4 * n ≤ 1000000 → n + 1 ≤ K → ∃ R s', spec_l12Draw.l0 K L (n : Int) l s = some (R, s') ∧ R.length = L.length + n ∧ s ≤ s' ∧ s' ≤ s + 4 * n := by
  intro n
  induction n with
  | zero =>
    intro L s K h1 h3 h4 hK
    obtain ⟨K, rfl⟩ : ∃ q, K = q + 1 := ⟨K - 1, by omega⟩
    simp only [spec_l12Draw.l0]
    rw [if_neg (by omega)]
    exact ⟨_, _, rfl, by omega, by omega, by omega⟩
  | succ n ih =>
    intro L s K h1 h3 h4 hK
    obtain ⟨K, rfl⟩ : ∃ q, K = q + 1 := ⟨K - 1, by omega⟩
    simp only [spec_l12Draw.l0]
    rw [if_pos (by omega)]
    obtain ⟨a, ha, _⟩ := signed_ok hb s 9 h3 (by omega) (by omega) (by omega)
    obtain ⟨b, hb', _⟩ := signed_ok hb (s + 1) 900 (by omega) (by omega) (by omega) (by omega)
    obtain ⟨c, hc, _⟩ := signed_ok hb (s + 1 + 1) 200000 (by omega) (by omega) (by omega) (by omega)
    obtain ⟨d, hd, _⟩ := pick_ok hb (s + 1 + 1 + 1) [0, a, b, c] (by omega) (by omega) (by simp)
    rw [ha]; simp only [Option.bind_some]
    rw [hb']; simp only [Option.bind_some]
    rw [hc]; simp only [Option.bind_some]
    rw [hd]; simp only [Option.bind_some]
    rw [if_pos (by omega), w64 (n := ((n + 1 : Nat) : Int) - 1) (by omega) (by omega), show ((n + 1 : Nat) : Int) - 1 = (n : Int) by omega]
    have hlen : (L ++ [d]).length = L.length + 1 := by simp
    obtain ⟨R, s', g1, g2, g3, g4⟩ := ih (L ++ [d]) (s + 1 + 1 + 1 + 1) K (by omega) (by omega) (by omega) (by omega)
    exact ⟨R, s', g1, by omega, by omega, by omega⟩
theorem DrawSearchPulses_l0 {l : List Int} (hb : Bytes8 l) : ∀ (n : Nat) (L : List Int) (s i : Int) (K : Nat), L.length ≤ 10 → 0 ≤ i → i + n = L.length → 0 ≤ s → s + n ≤ 1000000 → n + 1 ≤ K → ∃ R k, spec_DrawSearchPulses.l0 K L (L.length : Int) i l s = some (R, k) ∧ R.length = L.length := by
  intro n
  induction n with
  | zero =>
    intro L s i K h0 h1 h2 h3 h4 hK
    obtain ⟨K, rfl⟩ : ∃ q, K = q + 1 := ⟨K - 1, by omega⟩
    simp only [spec_DrawSearchPulses.l0]
    obtain ⟨k, hk, _⟩ := pick_ok hb s [8, 6, 4, 2, 1, 3, 0, 9] (by omega) (by omega) (by simp)
    rw [if_neg (by omega), hk]
    exact ⟨_, _, rfl, rfl⟩
  | succ n ih =>
    intro L s i K h0 h1 h2 h3 h4 hK
    obtain ⟨K, rfl⟩ : ∃ q, K = q + 1 := ⟨K - 1, by omega⟩
    simp only [spec_DrawSearchPulses.l0]
    obtain ⟨v, hv, _⟩ := pick_ok hb s [0, 5] (by omega) (by omega) (by simp)
    rw [if_pos (by omega), hv]; simp only [Option.bind_some]
    rw [if_pos h1, if_pos (by omega), w64 (n := i + 1) (by omega) (by omega)]
    obtain ⟨R, k, g1, g2⟩ := ih (L.set i.toNat v) (s + 1) (i + 1) K (by simpa using h0) (by omega) (by rw [List.length_set]; omega) (by omega) (by omega) (by omega)
    rw [List.length_set] at g1 g2
    exact ⟨R, k, g1, g2⟩
theorem DrawSearchPulses_ok {l : List Int} (hb : Bytes8 l) (K : Nat) (hK : 100 ≤ K) : ∃ L k, spec_DrawSearchPulses.f K l = some (L, k) ∧ L.length ≤ 10 := by
  unfold spec_DrawSearchPulses.f spec_l1Source.f spec_l12Draw.f
  simp only [Option.bind_some]
  obtain ⟨d, hd, dm⟩ := pick_ok hb 0 [1, 2, 3, 4, 2, 4] (by omega) (by omega) (by simp)
  rw [hd]; simp only [Option.bind_some]
  have hd2 : 1 ≤ d ∧ d ≤ 4 := by simp only [List.mem_cons, List.not_mem_nil, or_false] at dm; omega
  obtain ⟨R, s, hR, hRl, s0, s1⟩ := l12Draw_l0 hb d.toNat [] (0 + 1) K (by simp; omega) (by omega) (by omega) (by omega)
  rw [Int.toNat_of_nonneg (by omega)] at hR
  rw [List.length_nil] at hRl
  rw [hR]; simp only [Option.bind_some]
  obtain ⟨e, he, _⟩ := next_ok hb s 14 (by omega) (by omega)
  rw [he]; simp only [Option.bind_some]
  have pk : ∀ s : Int, 0 ≤ s → s ≤ 1000 → ∃ k, spec_l1Pick.f l s [8, 6, 4, 2, 1, 3, 0, 9] = some (k, s + 1) := fun s h0 h1 => by
    obtain ⟨k, hk, _⟩ := pick_ok hb s [8, 6, 4, 2, 1, 3, 0, 9] h0 (by omega) (by simp)
    exact ⟨k, hk⟩
  obtain ⟨k1, hk1⟩ := pk (s + 1) (by omega) (by omega)
  by_cases c0 : e = 0
  · obtain ⟨f, hf, _⟩ := pick_ok hb (s + 1) [16777216, -16777216, 16777217] (by omega) (by omega) (by simp)
    obtain ⟨k2, hk2⟩ := pk (s + 1 + 1) (by omega) (by omega)
    rw [if_pos c0, hf]; simp only [Option.bind_some]
    rw [if_pos (by omega), hk2]
    exact ⟨_, _, rfl, by simp; omega⟩
  · rw [if_neg c0]
    by_cases c1 : e = 1
    · rw [if_pos c1]
      rw [if_pos (by simp; omega), hk1]
      exact ⟨_, _, rfl, by simp; omega⟩
    · rw [if_neg c1]
      by_cases c2 : e = 2
      · rw [if_pos c2, hk1]
        exact ⟨_, _, rfl, by simp⟩
      · rw [if_neg c2]
        by_cases c3 : e = 3
        · rw [if_pos c3]
          obtain ⟨R2, k, g1, g2⟩ := DrawSearchPulses_l0 hb R.length R (s + 1) 0 K (by omega) (by omega) (by omega) (by omega) (by omega) (by omega)
          exact ⟨R2, k, g1, by omega⟩
        · rw [if_neg c3, hk1]; exact ⟨_, _, rfl, by omega⟩
theorem lwAt_ok {l : List Int} (hb : Bytes8 l) (i n : Int) (hi : 0 ≤ i ∧ i ≤ 10) (hn : 2 ≤ n ∧ n ≤ 1000) : ∃ v, laws_lwAt.f l i n = some v ∧ 0 ≤ v ∧ v < n := by
  unfold laws_lwAt.f
  have hn0 : ¬ n = 0 := by omega
  have fin : ∀ X : Int, 0 ≤ X → ∃ v, (some (Int.tmod X n) : Option Int) = some v ∧ 0 ≤ v ∧ v < n := fun X hX => ⟨_, rfl, (tmod_in X n hX (by omega)).1, (tmod_in X n hX (by omega)).2⟩
  rw [if_neg (by omega)]
  have e1 : wrap64 (i + 1) = i + 1 := w64 (by omega) (by omega)
  by_cases hl : (l.length : Int) = 0
  · rw [if_pos hl, if_neg hn0, w64 (n := i * 7) (by omega) (by omega)]; exact fin _ (by omega)
  rw [if_neg hl]
  have hm : 1 ≤ (l.length : Int) := by omega
  simp only [e1]
  have t0 := tmod_in i (l.length : Int) hi.1 hm
  have t1 := tmod_in (i + 1) (l.length : Int) (by omega) hm
  rw [if_pos t0.1, if_pos t0.2]
  simp only [if_pos t1.1, if_pos t1.2, if_neg hn0]
  have r0 := hb.rdb (Int.tmod i (l.length : Int))
  have r1 := hb.rdb (Int.tmod (i + 1) (l.length : Int))
  have q : 0 ≤ Int.tdiv i (l.length : Int) ∧ Int.tdiv i (l.length : Int) ≤ i := by
    rw [Int.tdiv_eq_ediv_of_nonneg hi.1]
    exact ⟨Int.ediv_nonneg hi.1 (by omega), Int.ediv_le_self _ hi.1⟩
  generalize rd l (Int.tmod i (l.length : Int)) = b0 at *
  generalize rd l (Int.tmod (i + 1) (l.length : Int)) = b1 at *
  generalize Int.tdiv i (l.length : Int) = d at *
  have f0 : wrap64 b0 = b0 := w64 (by omega) (by omega)
  have f1 : wrap64 b1 = b1 := w64 (by omega) (by omega)
  have f3 : wrap64 d = d := w64 (by omega) (by omega)
  have f4 : wrap64 (d * 3) = d * 3 := w64 (by omega) (by omega)
  have f5 : wrap64 (b0 + d * 3) = b0 + d * 3 := w64 (by omega) (by omega)
  have f6 : wrap64 ((b0 + d * 3) * 251) = (b0 + d * 3) * 251 := w64 (by omega) (by omega)
  have f8 : wrap64 ((b0 + d * 3) * 251 + b1) = (b0 + d * 3) * 251 + b1 := w64 (by omega) (by omega)
  simp only [f0, f1, f3, f4, f5, f6, f8]
  by_cases c1 : n > 200
  · rw [if_pos c1]; exact fin _ (by omega)
  · rw [if_neg c1]; exact fin _ (by omega)
/-- All of a list lie between two bounds. -/
def allW (l : List Int) (a b : Int) : Bool := l.all fun x => decide (a ≤ x ∧ x ≤ b)
theorem allW_cons (x : Int) (l : List Int) (a b : Int) : allW (x :: l) a b = (decide (a ≤ x ∧ x ≤ b) && allW l a b) := by simp [allW]
theorem allW_mem {l : List Int} {a b : Int} (h : allW l a b = true) {x : Int} (hx : x ∈ l) : a ≤ x ∧ x ≤ b := by
  unfold allW at h; rw [List.all_eq_true] at h; simpa using h x hx
theorem allW_mk {l : List Int} {a b : Int} (h : ∀ x ∈ l, a ≤ x ∧ x ≤ b) : allW l a b = true := by
  unfold allW; rw [List.all_eq_true]; intro x hx; simpa using h x hx
/-- The sum of the absolute values. -/
def nrm : List Int → Nat
  | [] => 0
  | x :: l => x.natAbs + nrm l
theorem nrm_append : ∀ (a b : List Int), nrm (a ++ b) = nrm a + nrm b
  | [], b => by simp [nrm]
  | x :: a, b => by simp only [List.cons_append, nrm, nrm_append a b]; omega
theorem nrm_le (M : Nat) : ∀ (l : List Int), (∀ x ∈ l, x.natAbs ≤ M) → nrm l ≤ M * l.length
  | [], _ => by simp [nrm]
  | x :: l, h => by
    have h1 := nrm_le M l (fun y hy => h y (by simp [hy]))
    have h2 := h x (by simp)
    simp only [nrm, List.length_cons, Nat.mul_add, Nat.mul_one]; omega
theorem nrm_mem : ∀ {l : List Int} {x : Int}, x ∈ l → x.natAbs ≤ nrm l
  | y :: l, x, h => by
    simp only [nrm]
    rcases List.mem_cons.1 h with rfl | h
    · omega
    · have := nrm_mem h; omega
theorem allW_nrm {l : List Int} {M : Nat} (h : allW l (-(M : Int)) M = true) : nrm l ≤ M * l.length :=
  nrm_le M l (fun x hx => by have := allW_mem h hx; omega)
theorem abs_eq (x : Int) (h0 : -9223372036854775807 ≤ x) (h1 : x ≤ 9223372036854775807) : impl_abs.f x = some (x.natAbs : Int) := by
  unfold impl_abs.f mx; rw [w64 (by omega) (by omega)]; congr 1; split <;> omega
theorem rd_append_right (P Q : List Int) (i : Int) (h : i = (P.length : Int)) (x : Int) (R : List Int) (hQ : Q = x :: R) : rd (P ++ Q) i = x := by
  subst hQ; unfold rd; rw [h, Int.toNat_natCast, List.getD_eq_getElem?_getD, List.getElem?_append_right (Nat.le_refl _)]; simp
theorem rd_get (l : List Int) (i : Int) (h0 : 0 ≤ i) (h1 : i < (l.length : Int)) : rd l i = l[i.toNat]'(by omega) := by
  unfold rd; rw [List.getD_eq_getElem?_getD, List.getElem?_eq_getElem (by omega)]; rfl
theorem absI_nat (x : Int) : absI x = (x.natAbs : Int) := by unfold absI; split <;> omega
theorem rd_at (l : List Int) (i : Nat) (h : i < l.length) : rd l (i : Int) = l[i] := by unfold rd; rw [Int.toNat_natCast, List.getD_eq_getElem?_getD, List.getElem?_eq_getElem h]; rfl
theorem nrm_take (l : List Int) (i : Nat) (h : i < l.length) : nrm (l.take (i + 1)) = nrm (l.take i) + (rd l (i : Int)).natAbs := by
  rw [List.take_succ_eq_append_getElem h, nrm_append, rd_at l i h]; simp [nrm]
theorem nrm_take_le (l : List Int) (i : Nat) : nrm (l.take i) ≤ nrm l := by
  have := nrm_append (l.take i) (l.drop i); rw [List.take_append_drop] at this; omega
/-- What number i has for certain, and its rest. -/
theorem sr_split (l : List Int) (k : Int) (hk : 0 ≤ k) (nm : Nat) (i : Nat) : (nm : Int) * srBase l k nm i + srRest l k nm i = k * ((rd l (i : Int)).natAbs : Int) ∧ 0 ≤ srRest l k nm i ∧ (nm ≠ 0 → srRest l k nm i < nm) ∧ 0 ≤ srBase l k nm i := by
  unfold srBase srRest
  have h0 : 0 ≤ k * ((rd l (i : Int)).natAbs : Int) := Int.mul_nonneg hk (by omega)
  rw [absI_nat, Int.tdiv_eq_ediv_of_nonneg h0, Int.tmod_eq_emod_of_nonneg h0]
  refine ⟨Int.mul_ediv_add_emod _ _, ?_, ?_, Int.ediv_nonneg h0 (by omega)⟩
  · by_cases h : nm = 0
    · subst h; simpa using h0
    · exact Int.emod_nonneg _ (by omega)
  · intro h; exact Int.emod_lt_of_pos _ (by omega)
theorem sr_low (l : List Int) (k : Int) (hk : 0 ≤ k) (nm : Nat) (hnm : nm = nrm l) : ∀ i, i ≤ l.length → k * ((nm : Int) - (nrm (l.take i) : Int)) ≤ (nm : Int) * srMiss l k nm i
  | 0, _ => by simp [nrm, srMiss, Int.mul_comm]
  | i + 1, h => by
    have ih := sr_low l k hk nm hnm i (by omega)
    have hs := sr_split l k hk nm i
    have hn := nrm_take l i (by omega)
    rw [hn]
    show _ ≤ (nm : Int) * (srMiss l k nm i - srBase l k nm i)
    rw [Int.mul_sub (nm : Int) (srMiss l k nm i)]
    have e : k * ((nm : Int) - ((nrm (l.take i) + (rd l (i : Int)).natAbs : Nat) : Int)) = k * ((nm : Int) - (nrm (l.take i) : Int)) - k * ((rd l (i : Int)).natAbs : Int) := by rw [← Int.mul_sub]; congr 1; omega
    rw [e]; omega
theorem sr_high (l : List Int) (k : Int) (hk : 0 ≤ k) (nm : Nat) (hnm : nm = nrm l) (h0 : nm ≠ 0) : ∀ i, i ≤ l.length → (nm : Int) * srMiss l k nm i ≤ k * ((nm : Int) - (nrm (l.take i) : Int)) + (i : Int) * ((nm : Int) - 1)
  | 0, _ => by simp [nrm, srMiss, Int.mul_comm]
  | i + 1, h => by
    have ih := sr_high l k hk nm hnm h0 i (by omega)
    have hs := sr_split l k hk nm i
    have hn := nrm_take l i (by omega)
    have hr := hs.2.2.1 h0
    rw [hn]
    show (nm : Int) * (srMiss l k nm i - srBase l k nm i) ≤ _
    rw [Int.mul_sub (nm : Int) (srMiss l k nm i)]
    have e : k * ((nm : Int) - ((nrm (l.take i) + (rd l (i : Int)).natAbs : Nat) : Int)) = k * ((nm : Int) - (nrm (l.take i) : Int)) - k * ((rd l (i : Int)).natAbs : Int) := by rw [← Int.mul_sub]; congr 1; omega
    have e2 : ((i + 1 : Nat) : Int) * ((nm : Int) - 1) = (i : Int) * ((nm : Int) - 1) + ((nm : Int) - 1) := by rw [show ((i + 1 : Nat) : Int) = (i : Int) + 1 by omega, Int.add_mul]; omega
    rw [e, e2]; omega
theorem srMiss_bd (l : List Int) (k : Int) (hk : 0 ≤ k) : (∀ i, i ≤ l.length → 0 ≤ srMiss l k (nrm l) i) ∧ (nrm l ≠ 0 → 1 ≤ l.length → srMiss l k (nrm l) l.length < l.length) ∧ (∀ i, i ≤ l.length → srMiss l k (nrm l) i ≤ k) := by
  refine ⟨fun i hi => ?_, fun h0 h1 => ?_, ?_⟩
  · by_cases h0 : nrm l = 0
    · have hz : ∀ j, srMiss l k (nrm l) j = k := by
        intro j
        induction j with
        | zero => rfl
        | succ j ih => show srMiss l k (nrm l) j - srBase l k (nrm l) j = k; rw [ih]; unfold srBase; rw [h0]; simp
      rw [hz]; exact hk
    · have h := sr_low l k hk (nrm l) rfl i hi
      have h2 := nrm_take_le l i
      have h3 : 0 ≤ k * (((nrm l : Nat) : Int) - (nrm (l.take i) : Int)) := Int.mul_nonneg hk (by omega)
      exact Int.le_of_mul_le_mul_left (a := ((nrm l : Nat) : Int)) (by rw [Int.mul_zero]; omega) (by omega)
  · have h := sr_high l k hk (nrm l) rfl h0 l.length (Nat.le_refl _)
    rw [List.take_length, Int.sub_self, Int.mul_zero, Int.zero_add] at h
    have h2 : (l.length : Int) * (((nrm l : Nat) : Int) - 1) < ((nrm l : Nat) : Int) * (l.length : Int) := by rw [Int.mul_sub, Int.mul_comm]; omega
    exact Int.lt_of_mul_lt_mul_left (a := ((nrm l : Nat) : Int)) (by omega) (by omega)
  · intro i
    induction i with
    | zero => intro _; exact Int.le_refl _
    | succ i ih =>
      intro hi
      have := ih (by omega)
      have hs := (sr_split l k hk (nrm l) i).2.2.2
      show srMiss l k (nrm l) i - srBase l k (nrm l) i ≤ k
      omega
theorem normOf_l0 (l : List Int) (hl : l.length ≤ 2000000) (hb : ∀ x ∈ l, x.natAbs ≤ 1099511627776) : ∀ (rest pre : List Int) (i s : Int) (k : Nat), l = pre ++ rest → (pre.length : Int) = i → rest.length < k → s = (nrm pre : Int) → impl_normOf.l0 k s l (l.length : Int) i = some (nrm l : Int) := by
  intro rest
  induction rest with
  | nil =>
    intro pre i s k h1 hi hk hs
    obtain ⟨k, rfl⟩ : ∃ m, k = m + 1 := ⟨k - 1, by omega⟩
    simp only [impl_normOf.l0]
    rw [if_neg (by rw [h1]; simp; omega), hs, h1]; simp
  | cons x rest ih =>
    intro pre i s k h1 hi hk hs
    obtain ⟨k, rfl⟩ : ∃ m, k = m + 1 := ⟨k - 1, by omega⟩
    simp only [List.length_cons] at hk
    have hlen : l.length = pre.length + (rest.length + 1) := by rw [h1]; simp
    have hx := hb x (by rw [h1]; simp)
    have hp := nrm_le 1099511627776 pre (fun y hy => hb y (by rw [h1]; simp [hy]))
    have hp2 : 1099511627776 * pre.length ≤ 1099511627776 * 2000000 := Nat.mul_le_mul_left _ (by omega)
    simp only [impl_normOf.l0]
    have hr : rd l i = x := by rw [h1]; exact rd_append_right pre (x :: rest) i hi.symm x rest rfl
    rw [if_pos (by omega), if_pos (by omega), if_pos (by omega), hr, abs_eq x (by omega) (by omega)]
    simp only [Option.bind_some]
    rw [w64 (n := s + _) (by omega) (by omega), w64 (n := i + 1) (by omega) (by omega)]
    exact ih (pre ++ [x]) (i + 1) _ k (by rw [h1]; simp) (by simp; omega) (by omega) (by rw [nrm_append]; simp only [nrm]; omega)
theorem normOf_eq (l : List Int) (hl : l.length ≤ 2000000) (hb : ∀ x ∈ l, x.natAbs ≤ 1099511627776) (k : Nat) (hk : l.length < k) : impl_normOf.f k l = some (nrm l : Int) := by
  unfold impl_normOf.f; exact normOf_l0 l hl hb l [] 0 0 k rfl rfl hk rfl
theorem bd_nat {l : List Int} (hl : ∀ x ∈ l, -16777216 ≤ x ∧ x ≤ 16777216) : ∀ x ∈ l, x.natAbs ≤ 1099511627776 := fun x hx => by have := hl x hx; omega
theorem searchPulses_eq (l : List Int) (k : Int) (h1 : 1 ≤ l.length ∧ l.length ≤ 4) (hk : 0 ≤ k ∧ k ≤ 8) (hl : ∀ x ∈ l, -16777216 ≤ x ∧ x ≤ 16777216) : impl_searchPulses.f l k = some (srch l k (nrm l)) := by
  unfold impl_searchPulses.f
  rw [if_pos ⟨h1, hk, hl⟩, normOf_eq l (by omega) (bd_nat hl) 10 (by omega)]
  simp only [Option.bind_some]
  have hm := srMiss_bd l k hk.1
  rw [if_pos ⟨⟨by omega, hm.1⟩, fun h0 => by have := hm.2.1 (by omega) h1.1; omega⟩]
theorem inRange_eq (a b c : Int) : impl_inRange.f a b c = some (decide (b ≤ a ∧ a ≤ c)) := by
  unfold impl_inRange.f
  by_cases h : b ≤ a
  · rw [if_pos h]; simp [h]
  · rw [if_neg h]; simp [h]
theorem isDim_eq (a : Int) : impl_isDim.f a = some (decide (1 ≤ a ∧ a ≤ 4)) := by unfold impl_isDim.f; rw [inRange_eq]; rfl
theorem codeIf_eq (b : Bool) (c : Int) : impl_codeIf.f b c = some (if b = true then c else 0) := by unfold impl_codeIf.f; split <;> rfl
theorem idxP_any (p : Int → Option Bool) (q : Int → Bool) : ∀ (l : List Int) (i : Int), 0 ≤ i → (∀ x ∈ l, p x = some (q x)) → ∃ r, idxP p l i = some r ∧ decide (0 ≤ r) = l.any q
  | [], i, _, _ => ⟨-1, rfl, by simp⟩
  | x :: l, i, hi, h => by
    obtain ⟨r, hr, hq⟩ := idxP_any p q l (i + 1) (by omega) (fun y hy => h y (by simp [hy]))
    simp only [idxP]
    rw [h x (by simp)]
    simp only [Option.bind_some]
    cases hx : q x with
    | true => exact ⟨i, by simp, by simp [hx, hi]⟩
    | false => exact ⟨r, by simp [hr], by simp [hx, hq]⟩
theorem anyP_eq (p : Int → Option Bool) (q : Int → Bool) (l : List Int) (h : ∀ x ∈ l, p x = some (q x)) : anyP p l = some (l.any q) := by
  obtain ⟨r, hr, hq⟩ := idxP_any p q l 0 (by omega) h
  unfold anyP; rw [hr]; simp only [Option.bind_some]; rw [hq]
theorem within_eq (a b : Int) (h0 : 0 ≤ b) (h1 : b ≤ 9223372036854775807) : impl_within.f a b = some (decide (-b ≤ a ∧ a ≤ b)) := by
  unfold impl_within.f; rw [w64 (by omega) (by omega), inRange_eq]; rfl
theorem allWithin_eq (l : List Int) (m : Int) (h0 : 0 ≤ m) (h1 : m ≤ 9223372036854775807) : impl_allWithin.f l m = some (allW l (-m) m) := by
  unfold impl_allWithin.f
  rw [anyP_eq (notWithinP m) (fun x => !decide (-m ≤ x ∧ x ≤ m)) l (fun x _ => by unfold notWithinP; rw [within_eq x m h0 h1]; rfl)]
  simp only [Option.bind_some]
  congr 1
  unfold allW
  rw [List.any_eq_not_all_not]; simp
/-- The first code that is not 0. -/
def fst0 : List Int → Int
  | [] => 0
  | x :: l => if x = 0 then fst0 l else x
theorem first_l0 (l : List Int) (hl : l.length ≤ 2000000) : ∀ (rest pre : List Int) (i : Int) (k : Nat), l = pre ++ rest → (pre.length : Int) = i → rest.length < k → impl_first.l0 k l (l.length : Int) i = some (fst0 rest) := by
  intro rest
  induction rest with
  | nil =>
    intro pre i k h1 hi hk
    obtain ⟨k, rfl⟩ : ∃ m, k = m + 1 := ⟨k - 1, by omega⟩
    simp only [impl_first.l0]
    rw [if_neg (by rw [h1]; simp; omega)]; rfl
  | cons x rest ih =>
    intro pre i k h1 hi hk
    obtain ⟨k, rfl⟩ : ∃ m, k = m + 1 := ⟨k - 1, by omega⟩
    simp only [List.length_cons] at hk
    have hlen : l.length = pre.length + (rest.length + 1) := by rw [h1]; simp
    simp only [impl_first.l0]
    have hr : rd l i = x := by rw [h1]; exact rd_append_right pre (x :: rest) i hi.symm x rest rfl
    rw [if_pos (by omega), if_pos (by omega), if_pos (by omega), hr, w64 (n := i + 1) (by omega) (by omega)]
    simp only [fst0]
    by_cases c : x = 0
    · rw [if_pos c, if_pos c]; exact ih (pre ++ [x]) (i + 1) k (by rw [h1]; simp) (by simp; omega) (by omega)
    · rw [if_neg c, if_neg c]
theorem first_eq (l : List Int) (hl : l.length ≤ 1000) (k : Nat) (hk : l.length < k) : impl_first.f k l = some (fst0 l) := by
  unfold impl_first.f; exact first_l0 l (by omega) l [] 0 k rfl rfl hk
/-- What SearchPulses answers. -/
def spR (l : List Int) (k : Int) : Int × List Int := if ¬ (1 ≤ l.length ∧ l.length ≤ 4) then (2, []) else if (1 ≤ k ∧ k ≤ 8) ∧ allW l (-16777216) 16777216 = true then (0, srch l k (nrm l)) else (3, [])
theorem srch_len (l : List Int) (k nm : Int) : (srch l k nm).length = l.length := by unfold srch; split <;> simp
theorem spR_len (l : List Int) (k : Int) : (spR l k).2.length ≤ 4 := by
  unfold spR
  by_cases h1 : 1 ≤ l.length ∧ l.length ≤ 4
  · rw [if_neg (fun h => h h1)]
    split
    · rw [srch_len]; exact h1.2
    · simp
  · rw [if_pos h1]; simp
theorem spR_a {l : List Int} (k : Int) (h : ¬ (1 ≤ l.length ∧ l.length ≤ 4)) : spR l k = (2, []) := by unfold spR; rw [if_pos h]
theorem spR_b {l : List Int} {k : Int} (h1 : 1 ≤ l.length ∧ l.length ≤ 4) (h2 : (1 ≤ k ∧ k ≤ 8) ∧ allW l (-16777216) 16777216 = true) : spR l k = (0, srch l k (nrm l)) := by unfold spR; rw [if_neg (fun h => h h1), if_pos h2]
theorem spR_c {l : List Int} {k : Int} (h1 : 1 ≤ l.length ∧ l.length ≤ 4) (h2 : ¬ ((1 ≤ k ∧ k ≤ 8) ∧ allW l (-16777216) 16777216 = true)) : spR l k = (3, []) := by unfold spR; rw [if_neg (fun h => h h1), if_neg h2]
theorem SearchPulses_eq (l : List Int) (k : Int) (hl : l.length ≤ 1048576) (K : Nat) (hK : 10 ≤ K) : impl_SearchPulses.f K l k = some (spR l k) := by
  unfold impl_SearchPulses.f
  simp only [isDim_eq, codeIf_eq, inRange_eq, Option.bind_some, decide_eq_true_eq]
  by_cases h1 : 1 ≤ l.length ∧ l.length ≤ 4
  · have h1' : 1 ≤ (l.length : Int) ∧ (l.length : Int) ≤ 4 := by omega
    by_cases h2 : 1 ≤ k ∧ k ≤ 8
    · rw [if_pos h2, allWithin_eq l _ (by omega) (by omega)]; simp only [Option.bind_some]
      rw [first_eq _ (by simp) K (by simp; omega)]; simp only [Option.bind_some]
      by_cases h3 : allW l (-16777216) 16777216 = true
      · rw [spR_b h1 ⟨h2, h3⟩]
        simp only [h1', h3, and_self, decide_true, Bool.not_true, Bool.false_eq_true, if_false, fst0, if_true]
        rw [searchPulses_eq l k h1 (by omega) (fun x hx => allW_mem h3 hx)]; rfl
      · rw [spR_c h1 (fun h => h3 h.2)]
        simp [h1', h3, fst0]
    · rw [if_neg h2, spR_c h1 (fun h => h2 h.1), first_eq _ (by simp) K (by simp; omega)]
      simp [h1', fst0]
  · have h1' : ¬ (1 ≤ (l.length : Int) ∧ (l.length : Int) ≤ 4) := by omega
    rw [spR_a k h1]
    by_cases h2 : 1 ≤ k ∧ k ≤ 8
    · rw [if_pos h2, allWithin_eq l _ (by omega) (by omega)]; simp only [Option.bind_some]
      rw [first_eq _ (by simp) K (by simp; omega)]
      simp [h1', fst0]
    · rw [if_neg h2, first_eq _ (by simp) K (by simp; omega)]
      simp [h1', fst0]
theorem l1Abs_eq (x : Int) (h0 : -9223372036854775807 ≤ x) (h1 : x ≤ 9223372036854775807) : spec_l1Abs.f x = some (x.natAbs : Int) := by
  unfold spec_l1Abs.f
  by_cases h : x < 0
  · rw [if_pos h, w64 (by omega) (by omega)]; congr 1; omega
  · rw [if_neg h]; congr 1; omega
theorem l1Norm_l0 (l : List Int) (hl : l.length ≤ 2000000) (hb : ∀ x ∈ l, x.natAbs ≤ 1099511627776) : ∀ (rest pre : List Int) (i s : Int) (k : Nat), l = pre ++ rest → (pre.length : Int) = i → rest.length < k → s = (nrm pre : Int) → spec_l1Norm.l0 k l s i = some (nrm l : Int) := by
  intro rest
  induction rest with
  | nil =>
    intro pre i s k h1 hi hk hs
    obtain ⟨k, rfl⟩ : ∃ m, k = m + 1 := ⟨k - 1, by omega⟩
    simp only [spec_l1Norm.l0]
    rw [if_neg (by rw [h1]; simp; omega), hs, h1]; simp
  | cons x rest ih =>
    intro pre i s k h1 hi hk hs
    obtain ⟨k, rfl⟩ : ∃ m, k = m + 1 := ⟨k - 1, by omega⟩
    simp only [List.length_cons] at hk
    have hlen : l.length = pre.length + (rest.length + 1) := by rw [h1]; simp
    have hx := hb x (by rw [h1]; simp)
    have hp := nrm_le 1099511627776 pre (fun y hy => hb y (by rw [h1]; simp [hy]))
    have hp2 : 1099511627776 * pre.length ≤ 1099511627776 * 2000000 := Nat.mul_le_mul_left _ (by omega)
    simp only [spec_l1Norm.l0]
    have hr : rd l i = x := by rw [h1]; exact rd_append_right pre (x :: rest) i hi.symm x rest rfl
    rw [if_pos (by omega), if_pos (by omega), hr, l1Abs_eq x (by omega) (by omega)]
    simp only [Option.bind_some]
    rw [w64 (n := s + _) (by omega) (by omega), w64 (n := i + 1) (by omega) (by omega)]
    exact ih (pre ++ [x]) (i + 1) _ k (by rw [h1]; simp) (by simp; omega) (by omega) (by rw [nrm_append]; simp only [nrm]; omega)
theorem l1Norm_eq (l : List Int) (hl : l.length ≤ 2000000) (hb : ∀ x ∈ l, x.natAbs ≤ 1099511627776) (k : Nat) (hk : l.length < k) : spec_l1Norm.f k l = some (nrm l : Int) := by
  unfold spec_l1Norm.f; exact l1Norm_l0 l hl hb l [] 0 0 k rfl rfl hk rfl
/-- The best so far of those that are not in D. -/
def Bst (r : Nat → Int) (D : List Nat) (i : Nat) (b : Int) : Prop := (b = -1 ∧ ∀ j, j < i → j ∈ D) ∨ ∃ p : Nat, b = p ∧ p < i ∧ p ∉ D ∧ ∀ j, j < i → j ∉ D → j ≠ p → prc r p j
/-- Which ones are done. -/
def dns (n : Nat) (D : List Nat) : List Bool := (List.range n).map fun i => decide (i ∈ D)
theorem dns_rd (n : Nat) (D : List Nat) (i : Nat) (h : i < n) : rdOf false (dns n D) (i : Int) = decide (i ∈ D) := by
  unfold rdOf dns; rw [Int.toNat_natCast, List.getD_eq_getElem?_getD]; simp [h]
theorem dns_set (n : Nat) (D : List Nat) (i : Nat) : (dns n D).set i true = dns n (D ++ [i]) := by
  unfold dns
  apply List.ext_getElem?
  intro j
  rw [List.getElem?_set]
  by_cases hj : j < n
  · by_cases e : i = j
    · subst e; simp [hj]
    · rw [if_neg e]; simp [hj, Ne.symm e]
  · have hno : ∀ f : Nat → Bool, ((List.range n).map f)[j]? = none := fun f => List.getElem?_eq_none (by simpa using hj)
    rw [hno, hno]
    split
    · split
      · rename_i h; simp at h; omega
      · rfl
    · rfl
theorem Bst.end_ {r : Nat → Int} {n t : Nat} {b : Int} (h : Bst r ((srtd r n).take t) n b) (ht : t < n) : ∃ p : Nat, b = p ∧ p < n ∧ p ∉ (srtd r n).take t ∧ (srtd r n).take (t + 1) = (srtd r n).take t ++ [p] := by
  have hP := srtd_perm r n
  have hS := srtd_srt r n
  have hlen : (srtd r n).length = n := by have := hP.length_eq; simpa using this
  have htl : t < (srtd r n).length := by omega
  obtain ⟨q, hq⟩ : ∃ q, (srtd r n)[t] = q := ⟨_, rfl⟩
  have htk : (srtd r n).take (t + 1) = (srtd r n).take t ++ [q] := by rw [List.take_succ_eq_append_getElem htl, hq]
  have hqn : q < n := by
    have : q ∈ List.range n := hP.subset (by rw [← hq]; exact List.getElem_mem _)
    simpa using this
  have hqt : q ∉ (srtd r n).take t := by
    intro hm
    obtain ⟨u, hu, hue⟩ := List.mem_iff_getElem.1 hm
    rw [List.length_take] at hu
    rw [List.getElem_take] at hue
    have := List.pairwise_iff_getElem.1 hS u t (by omega) htl (by omega)
    rw [hue, hq] at this
    exact prc_irr this
  rcases h with ⟨_, h⟩ | ⟨p, rfl, hp, hpD, h⟩
  · exact absurd (h q hqn) hqt
  · by_cases e : q = p
    · subst e; exact ⟨q, rfl, hp, hpD, htk⟩
    · have h1 := h q hqn hqt e
      have hpm : p ∈ srtd r n := hP.symm.subset (by simpa using hp)
      obtain ⟨u, hu, hue⟩ := List.mem_iff_getElem.1 hpm
      have hut : t < u := by
        rcases Nat.lt_trichotomy u t with h2 | h2 | h2
        · exact absurd (List.mem_iff_getElem.2 ⟨u, by rw [List.length_take]; omega, by rw [List.getElem_take]; exact hue⟩) hpD
        · subst h2; exact absurd (hq.symm.trans hue) e
        · exact h2
      have h2 := List.pairwise_iff_getElem.1 hS t u htl hu hut
      rw [hq, hue] at h2
      exact absurd (prc_trans h1 h2) prc_irr
theorem l12_l3 (l : List Int) (xs : List Int) (hx : xs.length = l.length) (hb : ∀ i : Nat, i < l.length → 0 ≤ rd xs (i : Int) ∧ rd xs (i : Int) ≤ 1000000000000) (hn : l.length ≤ 1000000) : ∀ (d i K : Nat), i + d = l.length → d < K → spec_l12Search.l3 K l (srSign l xs i) (i : Int) = some (srSign l xs l.length) := by
  intro d
  induction d with
  | zero =>
    intro i K hi hK
    obtain ⟨K, rfl⟩ : ∃ z, K = z + 1 := ⟨K - 1, by omega⟩
    rw [spec_l12Search.l3, if_neg (by omega)]; rw [show i = l.length by omega]
  | succ d ih =>
    intro i K hi hK
    obtain ⟨K, rfl⟩ : ∃ z, K = z + 1 := ⟨K - 1, by omega⟩
    have hil : i < l.length := by omega
    have hlen : (srSign l xs i).length = l.length := by simp [srSign]
    have e := srSign_step l xs i hil
    have hr : rd (srSign l xs i) (i : Int) = rd xs (i : Int) := by unfold srSign; rw [rd_map _ _ _ hil]; simp
    have hbi := hb i hil
    rw [spec_l12Search.l3, if_pos (by omega), if_pos (by omega), w64 (n := (i : Int) + 1) (by omega) (by omega)]
    have go := ih (i + 1) K (by omega) (by omega)
    rw [show ((i + 1 : Nat) : Int) = (i : Int) + 1 by omega] at go
    by_cases c : rd l (i : Int) < 0
    · rw [if_pos c, if_pos (by rw [hlen]; omega), hr, w64 (by omega) (by omega), ← go, e, if_pos c, hr, Int.toNat_natCast]
    · rw [if_neg c, ← go, e, if_neg c]
theorem l12_l2 (l : List Int) (k : Int) (nm : Nat) (hk : 0 ≤ k ∧ k ≤ 8) (hl : ∀ x ∈ l, -16777216 ≤ x ∧ x ≤ 16777216) (hn : l.length ≤ 1000000) (h0 : nm ≠ 0) (out : List Int) (left : Int) (D : List Nat) (K0 : Nat) (R : Option (List Int))
    (hend : ∀ (b : Int) (K : Nat), Bst (srRest l k nm) D l.length b → K0 ≤ K → spec_l12Search.l2 (K + 1) l k nm out left (dns l.length D) b (l.length : Int) = R) :
    ∀ (d i K : Nat) (b : Int), i + d = l.length → Bst (srRest l k nm) D i b → K0 + d < K → spec_l12Search.l2 K l k nm out left (dns l.length D) b (i : Int) = R := by
  have hrest : ∀ j : Nat, j < l.length → Int.tmod (wrap64 (k * ((rd l (j : Int)).natAbs : Int))) (nm : Int) = srRest l k nm j := by
    intro j hj
    have hm : rd l (j : Int) ∈ l := by rw [rd_at l j hj]; exact List.getElem_mem _
    have := hl _ hm
    have h1 := Int.mul_nonneg hk.1 (show 0 ≤ ((rd l (j : Int)).natAbs : Int) by omega)
    have h2 : k * ((rd l (j : Int)).natAbs : Int) ≤ 8 * ((rd l (j : Int)).natAbs : Int) := Int.mul_le_mul_of_nonneg_right hk.2 (by omega)
    unfold srRest
    rw [absI_nat, w64 (by omega) (by omega)]
  intro d
  induction d with
  | zero =>
    intro i K b hi hB hK
    obtain ⟨K, rfl⟩ : ∃ z, K = z + 1 := ⟨K - 1, by omega⟩
    obtain rfl : i = l.length := by omega
    exact hend b K hB (by omega)
  | succ d ih =>
    intro i K b hi hB hK
    obtain ⟨K, rfl⟩ : ∃ z, K = z + 1 := ⟨K - 1, by omega⟩
    have hil : i < l.length := by omega
    have hmi : rd l (i : Int) ∈ l := by rw [rd_at l i hil]; exact List.getElem_mem _
    have hbi := hl _ hmi
    have hlen : (dns l.length D).length = l.length := by simp [dns]
    rw [spec_l12Search.l2, if_pos (by omega), if_pos (by omega), if_pos (by rw [hlen]; omega), dns_rd _ _ _ hil, w64 (n := (i : Int) + 1) (by omega) (by omega)]
    have go := fun b h => ih (i + 1) K b (by omega) h (by omega)
    rw [show ((i + 1 : Nat) : Int) = (i : Int) + 1 by omega] at go
    by_cases c : i ∈ D
    · rw [if_pos (by simpa using c)]
      refine go b ?_
      rcases hB with ⟨h1, h2⟩ | ⟨p, h1, h2, h3, h4⟩
      · exact Or.inl ⟨h1, fun j hj => by by_cases e : j = i; exact e ▸ c; exact h2 j (by omega)⟩
      · exact Or.inr ⟨p, h1, by omega, h3, fun j hj hjD hjp => h4 j (by have : j ≠ i := fun e => hjD (e ▸ c); omega) hjD hjp⟩
    · rw [if_neg (by simpa using c)]
      rcases hB with ⟨h1, h2⟩ | ⟨p, h1, h2, h3, h4⟩
      · rw [if_pos (by omega)]
        exact go (i : Int) (Or.inr ⟨i, rfl, by omega, c, fun j hj hjD hji => absurd (h2 j (by omega)) hjD⟩)
      · subst h1
        have hmp : rd l (p : Int) ∈ l := by rw [rd_at l p (by omega)]; exact List.getElem_mem _
        have hbp := hl _ hmp
        rw [if_neg (by omega), l1Abs_eq _ (by omega) (by omega)]; simp only [Option.bind_some]
        rw [if_neg (by omega), if_pos (by omega), if_pos (by omega), l1Abs_eq _ (by omega) (by omega)]; simp only [Option.bind_some]
        rw [hrest i hil, hrest p (by omega)]
        by_cases c2 : srRest l k nm i > srRest l k nm p
        · rw [if_pos c2]
          refine go (i : Int) (Or.inr ⟨i, rfl, by omega, c, fun j hj hjD hji => ?_⟩)
          have hip : prc (srRest l k nm) i p := Or.inl c2
          by_cases e : j = p
          · subst e; exact hip
          · exact prc_trans hip (h4 j (by omega) hjD e)
        · rw [if_neg c2]
          refine go (p : Int) (Or.inr ⟨p, rfl, by omega, h3, fun j hj hjD hjp => ?_⟩)
          by_cases e : j = i
          · subst e; unfold prc; omega
          · exact h4 j (by omega) hjD hjp
theorem l12_l1 (l : List Int) (k : Int) (nm : Nat) (hk : 0 ≤ k ∧ k ≤ 8) (hl : ∀ x ∈ l, -16777216 ≤ x ∧ x ≤ 16777216) (hn : l.length ≤ 1000000) (h0 : nm ≠ 0) (m : Nat) (hm : m ≤ l.length) :
    ∀ (d t K : Nat), t + d = m → (d + 1) * (l.length + 3) < K →
    spec_l12Search.l1 K l k nm (srAdd l k nm ((srtd (srRest l k nm) l.length).take t)) ((m - t : Nat) : Int) (dns l.length ((srtd (srRest l k nm) l.length).take t)) = some (srSign l (srAdd l k nm ((srtd (srRest l k nm) l.length).take m)) l.length) := by
  have hbase : ∀ i : Nat, i < l.length → 0 ≤ srBase l k nm i ∧ srBase l k nm i ≤ 134217728 := fun i hi => srBase_bd l k nm hk hl (by omega) i hi
  have hrd : ∀ (D : List Nat) (i : Nat), i < l.length → rd (srAdd l k nm D) (i : Int) = srBase l k nm i + if i ∈ D then 1 else 0 := fun D i hi => by unfold srAdd; rw [rd_map _ _ _ hi]
  have hlen : ∀ D, (srAdd l k nm D).length = l.length := fun D => by simp [srAdd]
  intro d
  induction d with
  | zero =>
    intro t K ht hK
    obtain ⟨K, rfl⟩ : ∃ z, K = z + 1 := ⟨K - 1, by omega⟩
    obtain rfl : t = m := by omega
    rw [spec_l12Search.l1, if_neg (by omega)]
    have := l12_l3 l (srAdd l k nm ((srtd (srRest l k nm) l.length).take t)) (hlen _) (fun i hi => by rw [hrd _ _ hi]; have := hbase i hi; split <;> omega) hn l.length 0 K (by omega) (by simp at hK; omega)
    rw [srSign_0 _ _ (hlen _)] at this
    exact this
  | succ d ih =>
    intro t K ht hK
    obtain ⟨K, rfl⟩ : ∃ z, K = z + 1 := ⟨K - 1, by omega⟩
    rw [spec_l12Search.l1, if_pos (by omega)]
    have hmul : (d + 1 + 1) * (l.length + 3) = (d + 1) * (l.length + 3) + (l.length + 3) := by rw [Nat.add_mul (d + 1) 1]; omega
    refine l12_l2 l k nm hk hl hn h0 _ _ ((srtd (srRest l k nm) l.length).take t) ((d + 1) * (l.length + 3) + 1) _ ?_ l.length 0 K (-1) (by omega) (Or.inl ⟨rfl, fun j hj => by omega⟩) (by omega)
    intro b K hB hK
    obtain ⟨p, rfl, hp, hpD, htk⟩ := hB.end_ (by omega)
    have hdl : (dns l.length ((srtd (srRest l k nm) l.length).take t)).length = l.length := by simp [dns]
    rw [spec_l12Search.l2, if_neg (by omega), if_pos (by omega), if_pos (by omega), if_pos (by rw [hdl]; omega), if_pos (by rw [hlen]; omega), hrd _ _ hp, if_neg hpD]
    have hb := hbase p hp
    rw [w64 (n := srBase l k nm p + 0 + 1) (by omega) (by omega), w64 (n := ((m - t : Nat) : Int) - 1) (by omega) (by omega), Int.toNat_natCast, Int.add_zero, srAdd_set _ _ _ _ _ hpD, dns_set, ← htk]
    have := ih (t + 1) K (by omega) (by omega)
    rw [← this]; congr 1; omega
theorem l12_l0 (l : List Int) (k : Int) (nm : Nat) (hk : 0 ≤ k ∧ k ≤ 8) (hl : ∀ x ∈ l, -16777216 ≤ x ∧ x ≤ 16777216) (hn : l.length ≤ 1000000) (h0 : nm ≠ 0) (hnm : nm = nrm l) (K0 : Nat) (R : Option (List Int))
    (hend : ∀ K, K0 ≤ K → spec_l12Search.l1 K l k nm (srOuts l k nm l.length l.length) (srMiss l k nm l.length) (List.replicate l.length false) = R) :
    ∀ (d i K : Nat), i + d = l.length → K0 + d < K → spec_l12Search.l0 K l k nm (srOuts l k nm l.length i) (srMiss l k nm i) (i : Int) = R := by
  intro d
  induction d with
  | zero =>
    intro i K hi hK
    obtain ⟨K, rfl⟩ : ∃ z, K = z + 1 := ⟨K - 1, by omega⟩
    obtain rfl : i = l.length := by omega
    rw [spec_l12Search.l0, if_neg (by omega), if_pos (by omega), if_pos (by omega), Int.toNat_natCast]
    exact hend K (by omega)
  | succ d ih =>
    intro i K hi hK
    obtain ⟨K, rfl⟩ : ∃ z, K = z + 1 := ⟨K - 1, by omega⟩
    have hil : i < l.length := by omega
    have hmi : rd l (i : Int) ∈ l := by rw [rd_at l i hil]; exact List.getElem_mem _
    have hbi := hl _ hmi
    have h1 := Int.mul_nonneg hk.1 (show 0 ≤ ((rd l (i : Int)).natAbs : Int) by omega)
    have h2 : k * ((rd l (i : Int)).natAbs : Int) ≤ 8 * ((rd l (i : Int)).natAbs : Int) := Int.mul_le_mul_of_nonneg_right hk.2 (by omega)
    have hb := srBase_bd l k nm hk hl (by omega) i hil
    have hm := (srMiss_bd l k hk.1).1 (i + 1) (by omega)
    have hm2 := (srMiss_bd l k hk.1).2.2 i (by omega)
    rw [← hnm] at hm hm2
    have hms : srMiss l k nm (i + 1) = srMiss l k nm i - srBase l k nm i := rfl
    have hlen : (srOuts l k nm l.length i).length = l.length := by simp [srOuts]; omega
    rw [spec_l12Search.l0, if_pos (by omega), if_pos (by omega), l1Abs_eq _ (by omega) (by omega)]; simp only [Option.bind_some]
    rw [if_neg (by omega), if_pos (by rw [hlen]; omega), w64 (n := k * _) (by omega) (by omega)]
    have e : Int.tdiv (k * ((rd l (i : Int)).natAbs : Int)) (nm : Int) = srBase l k nm i := by unfold srBase; rw [absI_nat]
    rw [e, w64 (n := srBase l k nm i) (by omega) (by omega), Int.toNat_natCast, srOuts_set l k nm l.length i hil, srOuts_rd l k nm l.length i hil, w64 (n := srMiss l k nm i - _) (by omega) (by omega), w64 (n := (i : Int) + 1) (by omega) (by omega)]
    have := ih (i + 1) K (by omega) (by omega)
    rw [hms] at this
    rw [← this]; congr 1
theorem l12Search_eq (l : List Int) (k : Int) (h1 : 1 ≤ l.length ∧ l.length ≤ 4) (hk : 0 ≤ k ∧ k ≤ 8) (hl : ∀ x ∈ l, -16777216 ≤ x ∧ x ≤ 16777216) (K : Nat) (hK : 100 ≤ K) : spec_l12Search.f K l k = some (srch l k (nrm l)) := by
  unfold spec_l12Search.f spec_l1Zeros.f
  rw [l1Norm_eq l (by omega) (fun x hx => by have := hl x hx; omega) K (by omega)]; simp only [Option.bind_some]
  rw [if_pos (by omega), if_pos (by omega)]; simp only [Option.bind_some, Int.toNat_natCast]
  by_cases h0 : nrm l = 0
  · rw [if_pos (by omega), if_pos (by simp; omega)]
    unfold srch
    rw [h0, if_pos (show ((0 : Nat) : Int) = 0 from rfl)]; rfl
  · rw [if_neg (by omega)]
    have hm := srMiss_bd l k hk.1
    have hm1 := hm.1 l.length (Nat.le_refl _)
    have hm2 := hm.2.1 h0 h1.1
    have hz : srOuts l k (nrm l) l.length 0 = List.replicate l.length 0 := by unfold srOuts; simp
    have hd0 : dns l.length [] = List.replicate l.length false := List.eq_replicate_iff.2 ⟨by simp [dns], fun b hb => by obtain ⟨x, _, rfl⟩ := List.mem_map.1 hb; simp⟩
    obtain ⟨m, hmm⟩ := Int.eq_ofNat_of_zero_le hm1
    have go := l12_l0 l k (nrm l) hk hl (by omega) h0 rfl 60 (some (srch l k (nrm l))) (fun K hK => by
      rw [srOuts_end, hmm, ← hd0]
      have hb : (m + 1) * (l.length + 3) ≤ 5 * 7 := Nat.mul_le_mul (by omega) (by omega)
      have := l12_l1 l k (nrm l) hk hl (by omega) h0 m (by omega) m 0 K (by omega) (by omega)
      rw [List.take_zero] at this
      rw [srch_eq l k _ (by omega), hmm, Int.toNat_natCast, ← this]; congr 1) l.length 0 K (by omega) (by omega)
    rw [hz] at go
    exact go
theorem l1In_eq (a b c : Int) : spec_l1In.f a b c = some (decide (b ≤ a ∧ a ≤ c)) := by
  unfold spec_l1In.f
  by_cases h : a ≥ b
  · rw [if_pos h]; congr 1; have : b ≤ a := h; simp [this]
  · rw [if_neg h]; have : ¬ b ≤ a := h; simp [this]
theorem l1All_l0 (a b : Int) : ∀ (rest pre : List Int) (i : Int) (k : Nat), (pre.length : Int) = i → rest.length < k → pre.length + rest.length ≤ 1000000000 → spec_l1All.l0 k (pre ++ rest) a b i = some (allW rest a b) := by
  intro rest
  induction rest with
  | nil =>
    intro pre i k hi hk hl
    obtain ⟨k, rfl⟩ : ∃ m, k = m + 1 := ⟨k - 1, by omega⟩
    simp only [spec_l1All.l0]
    rw [if_neg (by simp; omega)]; rfl
  | cons x rest ih =>
    intro pre i k hi hk hl
    obtain ⟨k, rfl⟩ : ∃ m, k = m + 1 := ⟨k - 1, by omega⟩
    simp only [List.length_cons] at hk hl
    simp only [spec_l1All.l0]
    rw [if_pos (by simp; omega), if_pos (by omega), rd_append_right pre (x :: rest) i hi.symm x rest rfl, l1In_eq, w64 (n := i + 1) (by omega) (by omega)]
    have e : pre ++ x :: rest = (pre ++ [x]) ++ rest := by simp
    rw [e, ih (pre ++ [x]) (i + 1) k (by simp; omega) (by omega) (by simp; omega), allW_cons]
    by_cases c : a ≤ x ∧ x ≤ b <;> simp [c]
theorem l1All_eq (l : List Int) (a b : Int) (k : Nat) (hk : l.length < k) (hl : l.length ≤ 1000000000) : spec_l1All.f k l a b = some (allW l a b) := by
  unfold spec_l1All.f; have := l1All_l0 a b l [] 0 k rfl hk (by simpa using hl); simpa using this
theorem specSearchPulses_eq (l : List Int) (k : Int) (hl : l.length ≤ 1048576) (K : Nat) (hK : 1048700 ≤ K) : spec_SearchPulses.f K l k = some (spR l k) := by
  obtain ⟨K, rfl⟩ : ∃ z, K = z + 1 := ⟨K - 1, by omega⟩
  unfold spec_SearchPulses.f
  by_cases h1 : 1 ≤ l.length ∧ l.length ≤ 4
  · rw [if_neg (by omega), show decide ((l.length : Int) > 4) = false from decide_eq_false (by omega), spec_SearchPulses.j0, if_neg (by simp), l1In_eq]
    simp only [Option.bind_some, decide_eq_true_eq]
    by_cases h2 : 1 ≤ k ∧ k ≤ 8
    · rw [if_pos h2, l1All_eq l _ _ K (by omega) (by omega)]; simp only [Option.bind_some]
      by_cases h3 : allW l (-16777216) 16777216 = true
      · rw [if_pos h3, spR_b h1 ⟨h2, h3⟩, l12Search_eq l k h1 (by omega) (fun x hx => allW_mem h3 hx) K (by omega)]; rfl
      · rw [if_neg h3, spR_c h1 (fun h => h3 h.2)]
    · rw [if_neg h2, spR_c h1 (fun h => h2 h.1)]
  · rw [spR_a k h1]
    by_cases h2 : (l.length : Int) < 1
    · rw [if_pos h2, spec_SearchPulses.j0, if_pos rfl]
    · rw [if_neg h2, show decide ((l.length : Int) > 4) = true from decide_eq_true (by omega), spec_SearchPulses.j0, if_pos rfl]
def normR (l : List Int) : Int × Int := if (l.length : Int) > 64 then (2, 0) else if allW l (-1099511627776) 1099511627776 = true then (0, (nrm l : Int)) else (3, 0)
theorem NormOf_eq (l : List Int) (k : Nat) (hk : 70 ≤ k) : impl_NormOf.f k l = some (normR l) := by
  unfold impl_NormOf.f normR
  by_cases h : (l.length : Int) > 64
  · rw [if_pos h, if_pos h]
  · rw [if_neg h, if_neg h, allWithin_eq l _ (by omega) (by omega)]
    simp only [Option.bind_some]
    by_cases hw : allW l (-1099511627776) 1099511627776 = true
    · rw [if_pos hw, if_pos hw, normOf_eq l (by omega) (fun x hx => by have := allW_mem hw hx; omega) k (by omega)]; rfl
    · rw [if_neg hw, if_neg hw]
theorem isPulses_eq (a : Int) : impl_isPulses.f a = some (decide (0 ≤ a ∧ a ≤ 8)) := by unfold impl_isPulses.f; rw [inRange_eq]; rfl
/-- The code of pulses. -/
def pfR (l : List Int) (k : Int) : Int := if ¬ (1 ≤ (l.length : Int) ∧ (l.length : Int) ≤ 4) then 2 else if ¬ (0 ≤ k ∧ k ≤ 8) then 3 else if allW l (-8) 8 = true ∧ (nrm l : Int) = k then 0 else 1
theorem allW8_nat {l : List Int} (h : allW l (-8) 8 = true) : ∀ x ∈ l, x.natAbs ≤ 1099511627776 := fun x hx => by have := allW_mem h hx; omega
theorem PulsesFault_eq (l : List Int) (a : Int) (hl : l.length ≤ 2000000) (k : Nat) (hk : l.length + 10 < k) : impl_PulsesFault.f k l a = some (pfR l a) := by
  unfold impl_PulsesFault.f
  simp only [isDim_eq, isPulses_eq, codeIf_eq, Option.bind_some]
  rw [allWithin_eq l 8 (by omega) (by omega)]
  simp only [Option.bind_some]
  unfold pfR
  by_cases hw : allW l (-8) 8 = true
  · rw [if_pos hw, normOf_eq l hl (allW8_nat hw) k (by omega)]
    simp only [Option.bind_some]
    rw [first_eq _ (by simp) k (by simp; omega)]
    by_cases h1 : 1 ≤ (l.length : Int) ∧ (l.length : Int) ≤ 4
    · by_cases h2 : 0 ≤ a ∧ a ≤ 8
      · by_cases h3 : (nrm l : Int) = a
        · simp [h1, h2, h3, hw, fst0]
        · simp [h1, h2, h3, hw, fst0]
      · simp [h1, h2, fst0]
    · simp [h1, fst0]
  · rw [if_neg hw]
    simp only [if_true, Option.bind_some]
    rw [first_eq _ (by simp) k (by simp; omega)]
    by_cases h1 : 1 ≤ (l.length : Int) ∧ (l.length : Int) ≤ 4
    · by_cases h2 : 0 ≤ a ∧ a ≤ 8
      · simp [h1, h2, hw, fst0]
      · simp [h1, h2, fst0]
    · simp [h1, fst0]
theorem pfR_0 {l : List Int} {k : Int} (h : pfR l k = 0) : (1 ≤ (l.length : Int) ∧ (l.length : Int) ≤ 4) ∧ (0 ≤ k ∧ k ≤ 8) ∧ allW l (-8) 8 = true ∧ (nrm l : Int) = k := by
  unfold pfR at h
  by_cases h1 : 1 ≤ (l.length : Int) ∧ (l.length : Int) ≤ 4
  · by_cases h2 : 0 ≤ k ∧ k ≤ 8
    · by_cases h3 : allW l (-8) 8 = true ∧ (nrm l : Int) = k
      · exact ⟨h1, h2, h3⟩
      · rw [if_neg (by simpa using h1), if_neg (by simpa using h2), if_neg h3] at h; simp at h
    · rw [if_neg (by simpa using h1), if_pos (by simpa using h2)] at h; simp at h
  · rw [if_pos h1] at h; simp at h
theorem isGain_eq (a : Int) : impl_isGain.f a = some (decide (0 ≤ a ∧ a ≤ 67108864)) := by unfold impl_isGain.f; rw [inRange_eq]; rfl
/-- The integer nearest to a / b; of two, the one farther from 0. -/
def rdv (a b : Int) : Int := if a < 0 then -((2 * -a + b) / (2 * b)) else (2 * a + b) / (2 * b)
theorem rdq (a b : Int) (ha : 0 ≤ a) (hb : 1 ≤ b) : 0 ≤ (2 * a + b) / (2 * b) ∧ (2 * a + b) / (2 * b) ≤ a + 1 := by
  refine ⟨Int.ediv_nonneg (by omega) (by omega), ?_⟩
  have h : (2 * a + b) / (2 * b) < a + 2 := by
    apply Int.ediv_lt_of_lt_mul (by omega)
    have h2 : (a + 2) * (2 * b) = 2 * (a * b) + 4 * b := by rw [Int.add_mul]; rw [show a * (2 * b) = 2 * (a * b) by rw [← Int.mul_assoc, Int.mul_comm a 2, Int.mul_assoc]]; omega
    have h3 : a * 1 ≤ a * b := Int.mul_le_mul_of_nonneg_left hb ha
    omega
  omega
theorem rdv_bound (a b : Int) (hb : 1 ≤ b) : (a < 0 → a - 1 ≤ rdv a b ∧ rdv a b ≤ 0) ∧ (0 ≤ a → 0 ≤ rdv a b ∧ rdv a b ≤ a + 1) := by
  unfold rdv
  refine ⟨fun h => ?_, fun h => ?_⟩
  · rw [if_pos h]; have := rdq (-a) b (by omega) hb; omega
  · rw [if_neg (by omega)]; exact rdq a b h hb
theorem rdv_neg (a b : Int) (h : 0 < a) : rdv (-a) b = -rdv a b := by
  unfold rdv; rw [if_pos (by omega), if_neg (by omega), Int.neg_neg]
/-- Pulses with a gain. -/
def shpl (l : List Int) (k g : Int) : List Int := l.map fun p => rdv (g * p) k
theorem mulb (g p : Int) (h0 : 0 ≤ g ∧ g ≤ 1000000000000) (h1 : -8 ≤ p ∧ p ≤ 8) : -8000000000000 ≤ g * p ∧ g * p ≤ 8000000000000 := by
  have a : g * p ≤ g * 8 := Int.mul_le_mul_of_nonneg_left h1.2 h0.1
  have b : g * -8 ≤ g * p := Int.mul_le_mul_of_nonneg_left h1.1 h0.1
  omega
theorem roundDiv_eq (a b : Int) (h0 : -1000000000000000000 ≤ a) (h1 : a ≤ 1000000000000000000) (hb0 : 1 ≤ b) (hb1 : b ≤ 1000000000000000000) (k : Nat) (hk : 2 ≤ k) : impl_roundDiv.f k a b = some (rdv a b) := by
  have pos : ∀ (k : Nat) (a : Int), 0 ≤ a → a ≤ 1000000000000000000 → 1 ≤ k → impl_roundDiv.f k a b = some ((2 * a + b) / (2 * b)) := by
    intro k a ha ha1 hk
    obtain ⟨k, rfl⟩ : ∃ m, k = m + 1 := ⟨k - 1, by omega⟩
    unfold impl_roundDiv.f
    have hq := rdq a b ha hb0
    rw [if_neg (by omega), w64 (n := 2 * b) (by omega) (by omega), if_neg (by omega), w64 (n := 2 * a) (by omega) (by omega), w64 (n := 2 * a + b) (by omega) (by omega), Int.tdiv_eq_ediv_of_nonneg (by omega), w64 (by omega) (by omega)]
  obtain ⟨k, rfl⟩ : ∃ m, k = m + 1 := ⟨k - 1, by omega⟩
  unfold rdv
  by_cases ha : a < 0
  · unfold impl_roundDiv.f
    rw [if_pos ha, w64 (n := -a) (by omega) (by omega), pos k (-a) (by omega) (by omega) (by omega), if_pos ha]
    have hq := rdq (-a) b (by omega) hb0
    simp only [Option.bind_some]
    rw [w64 (by omega) (by omega)]
  · rw [if_neg ha]; exact pos _ a (by omega) h1 (by omega)
theorem shapeOf_l0 (k g : Int) (hk : 1 ≤ k ∧ k ≤ 8) (hg : 0 ≤ g ∧ g ≤ 1000000000000) (l : List Int) (hl : l.length ≤ 1000) (hw : ∀ x ∈ l, -8 ≤ x ∧ x ≤ 8) : ∀ (rest pre acc : List Int) (i : Int) (K : Nat), l = pre ++ rest → (pre.length : Int) = i → rest.length + 3 ≤ K → acc.length + rest.length ≤ 100000 →
    impl_shapeOf.l0 K k g acc l (l.length : Int) i = some (acc ++ shpl rest k g) := by
  intro rest
  induction rest with
  | nil =>
    intro pre acc i K h1 hi hK ha
    obtain ⟨K, rfl⟩ : ∃ q, K = q + 1 := ⟨K - 1, by omega⟩
    simp only [impl_shapeOf.l0]
    rw [if_neg (by rw [h1]; simp; omega)]; simp [shpl]
  | cons x rest ih =>
    intro pre acc i K h1 hi hK ha
    obtain ⟨K, rfl⟩ : ∃ q, K = q + 1 := ⟨K - 1, by omega⟩
    simp only [List.length_cons] at hK ha
    have hlen : l.length = pre.length + (rest.length + 1) := by rw [h1]; simp
    have hx := hw x (by rw [h1]; simp)
    have hr2 : rd l i = x := by rw [h1]; exact rd_append_right pre (x :: rest) i hi.symm x rest rfl
    have hm := mulb g x hg hx
    simp only [impl_shapeOf.l0]
    rw [if_pos (by omega), if_pos (by omega), if_pos (by omega), hr2, w64 (n := g * x) (by omega) (by omega), roundDiv_eq _ k (by omega) (by omega) hk.1 (by omega) K (by omega)]
    simp only [Option.bind_some]
    rw [if_pos (by omega), w64 (n := i + 1) (by omega) (by omega), ih (pre ++ [x]) (acc ++ [rdv (g * x) k]) (i + 1) K (by rw [h1]; simp) (by simp; omega) (by omega) (by simp; omega)]
    simp [shpl]
theorem shapeOf_eq (l : List Int) (k g : Int) (hk : 1 ≤ k ∧ k ≤ 8) (hg : 0 ≤ g ∧ g ≤ 1000000000000) (hl : l.length ≤ 1000) (hw : ∀ x ∈ l, -8 ≤ x ∧ x ≤ 8) (K : Nat) (hK : l.length + 3 ≤ K) : impl_shapeOf.f K l k g = some (shpl l k g) := by
  unfold impl_shapeOf.f
  rw [shapeOf_l0 k g hk hg l hl hw l [] [] 0 K rfl rfl hK (by simp; omega)]; simp
def shapeR (l : List Int) (k g : Int) : Int × List Int := if pfR l k ≠ 0 then (pfR l k, []) else if k = 0 ∨ ¬ (0 ≤ g ∧ g ≤ 67108864) then (3, []) else (0, shpl l k g)
theorem shapeR_length (l : List Int) (k g : Int) : (shapeR l k g).2.length ≤ 4 := by
  unfold shapeR
  by_cases h : pfR l k = 0
  · rw [if_neg (by simpa using h)]
    have := pfR_0 h
    split
    · simp
    · simp only [shpl, List.length_map]; omega
  · rw [if_pos h]; simp
theorem ShapeOf_eq (l : List Int) (k g : Int) (hl : l.length ≤ 2000000) (K : Nat) (hK : l.length + 1000 ≤ K) : impl_ShapeOf.f K l k g = some (shapeR l k g) := by
  unfold impl_ShapeOf.f shapeR
  rw [PulsesFault_eq l k hl K (by omega)]
  simp only [Option.bind_some, codeIf_eq, isGain_eq]
  by_cases h : pfR l k = 0
  · obtain ⟨h1, h2, h3, h4⟩ := pfR_0 h
    rw [if_neg (show ¬ pfR l k ≠ 0 by simpa using h)]
    by_cases hk : k = 0
    · rw [if_pos hk, if_pos (Or.inl hk)]
      simp only [if_true]
      rw [first_eq _ (by simp) K (by simp; omega)]
      simp [fst0, h]
    · rw [if_neg hk]
      rw [first_eq _ (by simp) K (by simp; omega)]
      by_cases hg : 0 ≤ g ∧ g ≤ 67108864
      · rw [if_neg (show ¬ (k = 0 ∨ ¬ (0 ≤ g ∧ g ≤ 67108864)) by simp [hk, hg])]
        simp only [hg, and_self, decide_true, Bool.not_true, Bool.false_eq_true, if_false, fst0, h, if_true, Option.bind_some]
        rw [shapeOf_eq l k g (by omega) (by omega) (by omega) (fun x hx => allW_mem h3 hx) K (by omega)]
        rfl
      · rw [if_pos (show (k = 0 ∨ ¬ (0 ≤ g ∧ g ≤ 67108864)) from Or.inr hg)]
        simp [fst0, h, hg]
  · rw [if_pos h]
    by_cases hk : k = 0
    · rw [if_pos hk]
      simp only [if_true]
      rw [first_eq _ (by simp) K (by simp; omega)]
      simp [fst0, h]
    · rw [if_neg hk, first_eq _ (by simp) K (by simp; omega)]
      simp [fst0, h]
theorem allW_k {l : List Int} {k : Int} (hk : 0 ≤ k ∧ k ≤ 8) : (allW l (-k) k = true ∧ (nrm l : Int) = k) ↔ (allW l (-8) 8 = true ∧ (nrm l : Int) = k) := by
  constructor
  · rintro ⟨h1, h2⟩; exact ⟨allW_mk fun x hx => by have := allW_mem h1 hx; omega, h2⟩
  · rintro ⟨h1, h2⟩; exact ⟨allW_mk fun x hx => by have := nrm_mem hx; omega, h2⟩
theorem specPulsesFault_eq (l : List Int) (a : Int) (hl : l.length ≤ 2000000) (k : Nat) (hk : l.length + 10 < k) : spec_PulsesFault.f k l a = some (pfR l a) := by
  obtain ⟨k, rfl⟩ : ∃ m, k = m + 1 := ⟨k - 1, by omega⟩
  unfold spec_PulsesFault.f pfR
  by_cases h0 : (l.length : Int) < 1
  · rw [if_pos h0, if_pos (by omega)]; simp only [spec_PulsesFault.j0, if_true]
  · rw [if_neg h0]
    by_cases h1 : (l.length : Int) > 4
    · rw [decide_eq_true h1, if_pos (by omega)]; simp only [spec_PulsesFault.j0, if_true]
    · rw [decide_eq_false h1, if_neg (by omega)]
      simp only [spec_PulsesFault.j0]
      rw [if_neg (by simp), l1In_eq]
      simp only [Option.bind_some, decide_eq_true_eq]
      by_cases h2 : 0 ≤ a ∧ a ≤ 8
      · rw [if_pos h2, if_neg (by simp [h2]), w64 (n := -a) (by omega) (by omega), l1All_eq l (-a) a k (by omega) (by omega)]
        simp only [Option.bind_some]
        simp only [← allW_k h2]
        by_cases h3 : allW l (-a) a = true
        · have h4 : ∀ x ∈ l, x.natAbs ≤ 1099511627776 := fun x hx => by have := allW_mem h3 hx; omega
          rw [if_pos h3, l1Norm_eq l hl h4 k (by omega)]
          simp only [Option.bind_some]
          by_cases h5 : (nrm l : Int) = a
          · rw [if_pos h5, if_pos ⟨h3, h5⟩]
          · rw [if_neg h5, if_neg (fun h => h5 h.2)]
        · rw [if_neg h3, if_neg (fun h => h3 h.1)]
      · rw [if_neg h2, if_pos (by simpa using h2)]
theorem l12Gain_eq (a : Int) : spec_l12Gain.f a = some (decide (0 ≤ a ∧ a ≤ 67108864)) := by unfold spec_l12Gain.f; rw [l1In_eq]; rfl
theorem l1Round_eq (a b : Int) (h0 : -1000000000000000000 ≤ a) (h1 : a ≤ 1000000000000000000) (hb0 : 1 ≤ b) (hb1 : b ≤ 1000000000000000000) (k : Nat) (hk : 2 ≤ k) : spec_l1Round.f k a b = some (rdv a b) := by
  have pos : ∀ (k : Nat) (a : Int), 0 ≤ a → a ≤ 1000000000000000000 → 1 ≤ k → spec_l1Round.f k a b = some ((2 * a + b) / (2 * b)) := by
    intro k a ha ha1 hk
    obtain ⟨k, rfl⟩ : ∃ m, k = m + 1 := ⟨k - 1, by omega⟩
    unfold spec_l1Round.f
    have hq := rdq a b ha hb0
    rw [if_neg (by omega), w64 (n := 2 * b) (by omega) (by omega), if_neg (by omega), w64 (n := 2 * a) (by omega) (by omega), w64 (n := 2 * a + b) (by omega) (by omega), Int.tdiv_eq_ediv_of_nonneg (by omega), w64 (by omega) (by omega)]
  obtain ⟨k, rfl⟩ : ∃ m, k = m + 1 := ⟨k - 1, by omega⟩
  unfold rdv
  by_cases ha : a < 0
  · unfold spec_l1Round.f
    rw [if_pos ha, w64 (n := -a) (by omega) (by omega), pos k (-a) (by omega) (by omega) (by omega), if_pos ha]
    have hq := rdq (-a) b (by omega) hb0
    simp only [Option.bind_some]
    rw [w64 (by omega) (by omega)]
  · rw [if_neg ha]; exact pos _ a (by omega) h1 (by omega)
theorem l12Shape_l0 (k g : Int) (hk : 1 ≤ k ∧ k ≤ 8) (hg : 0 ≤ g ∧ g ≤ 1000000000000) (l : List Int) (hl : l.length ≤ 1000) (hw : ∀ x ∈ l, -8 ≤ x ∧ x ≤ 8) : ∀ (rest pre acc : List Int) (i : Int) (K : Nat), l = pre ++ rest → (pre.length : Int) = i → rest.length + 3 ≤ K → acc.length + rest.length ≤ 100000 →
    spec_l12Shape.l0 K l k g acc i = some (acc ++ shpl rest k g) := by
  intro rest
  induction rest with
  | nil =>
    intro pre acc i K h1 hi hK ha
    obtain ⟨K, rfl⟩ : ∃ q, K = q + 1 := ⟨K - 1, by omega⟩
    simp only [spec_l12Shape.l0]
    rw [if_neg (by rw [h1]; simp; omega)]; simp [shpl]
  | cons x rest ih =>
    intro pre acc i K h1 hi hK ha
    obtain ⟨K, rfl⟩ : ∃ q, K = q + 1 := ⟨K - 1, by omega⟩
    simp only [List.length_cons] at hK ha
    have hlen : l.length = pre.length + (rest.length + 1) := by rw [h1]; simp
    have hx := hw x (by rw [h1]; simp)
    have hr2 : rd l i = x := by rw [h1]; exact rd_append_right pre (x :: rest) i hi.symm x rest rfl
    have hm := mulb g x hg hx
    simp only [spec_l12Shape.l0]
    rw [if_pos (by omega), if_pos (by omega), hr2, w64 (n := g * x) (by omega) (by omega), l1Round_eq _ k (by omega) (by omega) hk.1 (by omega) K (by omega)]
    simp only [Option.bind_some]
    rw [if_pos (by omega), w64 (n := i + 1) (by omega) (by omega), ih (pre ++ [x]) (acc ++ [rdv (g * x) k]) (i + 1) K (by rw [h1]; simp) (by simp; omega) (by omega) (by simp; omega)]
    simp [shpl]
theorem l12Shape_eq (l : List Int) (k g : Int) (hk : 1 ≤ k ∧ k ≤ 8) (hg : 0 ≤ g ∧ g ≤ 1000000000000) (hl : l.length ≤ 1000) (hw : ∀ x ∈ l, -8 ≤ x ∧ x ≤ 8) (K : Nat) (hK : l.length + 3 ≤ K) : spec_l12Shape.f K l k g = some (shpl l k g) := by
  unfold spec_l12Shape.f
  rw [l12Shape_l0 k g hk hg l hl hw l [] [] 0 K rfl rfl hK (by simp; omega)]; simp
theorem specShapeOf_eq (l : List Int) (k g : Int) (hl : l.length ≤ 2000000) (K : Nat) (hK : l.length + 1000 ≤ K) : spec_ShapeOf.f K l k g = some (shapeR l k g) := by
  unfold spec_ShapeOf.f shapeR
  rw [specPulsesFault_eq l k hl K (by omega)]
  simp only [Option.bind_some, l12Gain_eq, decide_eq_true_eq]
  by_cases h : pfR l k = 0
  · obtain ⟨h1, h2, h3, h4⟩ := pfR_0 h
    rw [if_pos h, if_neg (show ¬ pfR l k ≠ 0 by simpa using h)]
    by_cases hk : k = 0
    · rw [if_pos hk, if_pos (Or.inl hk)]
    · rw [if_neg hk]
      by_cases hg : 0 ≤ g ∧ g ≤ 67108864
      · rw [if_pos hg, if_neg (show ¬ (k = 0 ∨ ¬ (0 ≤ g ∧ g ≤ 67108864)) by simp [hk, hg]), l12Shape_eq l k g (by omega) (by omega) (by omega) (fun x hx => allW_mem h3 hx) K (by omega)]; rfl
      · rw [if_neg hg, if_pos (Or.inr hg)]
  · rw [if_neg h, if_pos h]
theorem floorDiv_eq (a b : Int) (hb : 1 ≤ b) (h0 : -9223372036854775807 ≤ a) (h1 : a ≤ 9223372036854775807) (hb1 : b ≤ 9223372036854775807) : impl_floorDiv.f a b = some (a / b) := by
  unfold impl_floorDiv.f
  rw [if_neg (by omega)]
  have hq : -9223372036854775807 ≤ a / b ∧ a / b ≤ 9223372036854775807 := by
    have hm := Int.mul_ediv_add_emod a b
    have hr0 := Int.emod_nonneg a (show b ≠ 0 by omega)
    have hr1 := Int.emod_lt_of_pos a (show 0 < b by omega)
    rcases Int.lt_or_le a 0 with hneg | hpos
    · have h3 : a / b < 0 := Int.ediv_neg_of_neg_of_pos hneg (by omega)
      have h4 : a ≤ a / b := Int.le_ediv_of_mul_le (by omega) (by
        have : a * b ≤ a * 1 := Int.mul_le_mul_of_nonpos_left (by omega) (by omega)
        omega)
      omega
    · have h3 := Int.ediv_nonneg hpos (show 0 ≤ b by omega)
      have h4 := Int.ediv_le_self b hpos
      omega
  have hqr := Int.mul_tdiv_add_tmod a b
  have hm := Int.mul_ediv_add_emod a b
  have hr0 := Int.emod_nonneg a (show b ≠ 0 by omega)
  have hr1 := Int.emod_lt_of_pos a (show 0 < b by omega)
  rw [Int.tmod_eq_emod, Int.tdiv_eq_ediv]
  by_cases hc : 0 ≤ a ∨ b ∣ a
  · rw [if_pos hc, if_pos hc]
    simp only [Int.sub_zero, Int.add_zero]
    rw [if_neg (by have := hr0; omega)]
    rw [w64 (by omega) (by omega)]
  · rw [if_neg hc, if_neg hc]
    have hs : b.sign = 1 := Int.sign_eq_one_of_pos (by omega)
    have hbn : (b.natAbs : Int) = b := by omega
    rw [hs]
    rw [if_pos (by omega)]
    have : wrap64 (a / b + 1) = a / b + 1 := w64 (by omega) (by
      rcases Int.lt_or_le a 0 with hneg | hpos
      · have h3 : a / b < 0 := Int.ediv_neg_of_neg_of_pos hneg (by omega)
        omega
      · exact absurd (Or.inl hpos) hc)
    rw [this, w64 (by omega) (by omega)]
    congr 1; omega
theorem ceilDiv_eq (a b : Int) (hb : 1 ≤ b) (h0 : 0 ≤ a) (h1 : a ≤ 9223372036854775807) (hb1 : b ≤ 9223372036854775807) : impl_ceilDiv.f a b = some (-(-a / b)) := by
  unfold impl_ceilDiv.f
  rw [w64 (by omega) (by omega), floorDiv_eq (-a) b hb (by omega) (by omega) hb1]
  simp only [Option.bind_some]
  have hq : -a / b ≤ 0 := by have := Int.ediv_le_ediv (show 0 < b by omega) (show -a ≤ 0 by omega); simpa using this
  have h4 : -a ≤ -a / b := Int.le_ediv_of_mul_le (by omega) (by
        have : -a * b ≤ -a * 1 := Int.mul_le_mul_of_nonpos_left (by omega) (by omega)
        omega)
  rw [w64 (by omega) (by omega)]
theorem ceil_alt (a b : Int) (hb : 1 ≤ b) : (a + b - 1) / b = -(-a / b) := by
  have h1 := Int.mul_ediv_add_emod (-a) b
  have hr0 := Int.emod_nonneg (-a) (show b ≠ 0 by omega)
  have hr1 := Int.emod_lt_of_pos (-a) (show 0 < b by omega)
  have e : a + b - 1 = (b - 1 - (-a) % b) + b * (-(-a / b)) := by
    have : b * (-(-a / b)) = -(b * (-a / b)) := by rw [Int.mul_neg]
    omega
  rw [e, Int.add_mul_ediv_left _ _ (by omega), Int.ediv_eq_zero_of_lt (by omega) (by omega)]
  omega
theorem l1Ceil_eq (a b : Int) (hb : 1 ≤ b) (h0 : 0 ≤ a) (h1 : a ≤ 4611686018427387904) (hb1 : b ≤ 4611686018427387903) : spec_l1Ceil.f a b = some (-(-a / b)) := by
  unfold spec_l1Ceil.f
  rw [if_neg (by omega), w64 (n := a + b) (by omega) (by omega), w64 (n := a + b - 1) (by omega) (by omega), Int.tdiv_eq_ediv_of_nonneg (by omega), ceil_alt a b hb]
  have hq : -a / b ≤ 0 := by have := Int.ediv_le_ediv (show 0 < b by omega) (show -a ≤ 0 by omega); simpa using this
  have h4 : -a ≤ -a / b := Int.le_ediv_of_mul_le (by omega) (by
        have : -a * b ≤ -a * 1 := Int.mul_le_mul_of_nonpos_left (by omega) (by omega)
        omega)
  rw [w64 (by omega) (by omega)]
theorem ceil_pos (a b : Int) (hb : 1 ≤ b) (h0 : 0 ≤ a) : 0 ≤ -(-a / b) ∧ -(-a / b) ≤ a := by
  have hq : -a / b ≤ 0 := by have := Int.ediv_le_ediv (show 0 < b by omega) (show -a ≤ 0 by omega); simpa using this
  have h4 : -a ≤ -a / b := Int.le_ediv_of_mul_le (by omega) (by
        have : -a * b ≤ -a * 1 := Int.mul_le_mul_of_nonpos_left (by omega) (by omega)
        omega)
  omega
theorem ShapeBound_eq (a b c : Int) (h1 : 0 ≤ a ∧ a ≤ 67108864) (h2 : 0 ≤ c ∧ c ≤ 67108864) (h3 : 1 ≤ b ∧ b ≤ 8) : impl_ShapeBound.f a b c = some (0, -(-a / b) + c + 1) := by
  have hc := ceil_pos a b h3.1 h1.1
  unfold impl_ShapeBound.f impl_shapeBound.f
  simp only [isGain_eq, inRange_eq, Option.bind_some, decide_eq_true_eq]
  rw [if_pos h1, if_pos h2, if_pos h3, ceilDiv_eq a b h3.1 h1.1 (by omega) (by omega)]; simp only [Option.bind_some]
  rw [w64 (n := _ + c) (by omega) (by omega), w64 (by omega) (by omega)]
theorem specShapeBound_eq (a b c : Int) (h1 : 0 ≤ a ∧ a ≤ 67108864) (h2 : 0 ≤ c ∧ c ≤ 67108864) (h3 : 1 ≤ b ∧ b ≤ 8) : spec_ShapeBound.f a b c = some (0, -(-a / b) + c + 1) := by
  have hc := ceil_pos a b h3.1 h1.1
  unfold spec_ShapeBound.f
  simp only [l12Gain_eq, l1In_eq, Option.bind_some, decide_eq_true_eq]
  rw [if_pos h1, if_pos h2, if_pos h3, l1Ceil_eq a b h3.1 h1.1 (by omega) (by omega)]; simp only [Option.bind_some]
  rw [w64 (n := _ + c) (by omega) (by omega), w64 (by omega) (by omega)]
theorem IsWithin_l0 (a c b : List Int) (h1 : a.length = c.length) (h2 : a.length = b.length) (hn : a.length ≤ 1000) (hb : ∀ i : Nat, i < a.length → -3000000000000 ≤ rd a (i : Int) - rd c (i : Int) ∧ rd a (i : Int) - rd c (i : Int) ≤ 3000000000000 ∧ ((rd a (i : Int) - rd c (i : Int)).natAbs : Int) ≤ rd b (i : Int)) : ∀ (d i K : Nat), i + d = a.length → d < K → impl_IsWithin.l0 K a c b (a.length : Int) (i : Int) = some true := by
  intro d
  induction d with
  | zero =>
    intro i K hi hK
    obtain ⟨K, rfl⟩ : ∃ z, K = z + 1 := ⟨K - 1, by omega⟩
    rw [impl_IsWithin.l0, if_neg (by omega)]
  | succ d ih =>
    intro i K hi hK
    obtain ⟨K, rfl⟩ : ∃ z, K = z + 1 := ⟨K - 1, by omega⟩
    have hbi := hb i (by omega)
    rw [impl_IsWithin.l0, if_pos (by omega), if_pos (by omega), if_pos (by omega), if_pos (by omega), w64 (n := rd a (i : Int) - rd c (i : Int)) (by omega) (by omega), abs_eq _ (by omega) (by omega)]
    simp only [Option.bind_some]
    rw [if_pos (by omega), if_neg (by omega), w64 (n := (i : Int) + 1) (by omega) (by omega)]
    exact ih (i + 1) K (by omega) (by omega)
theorem IsWithin_ok (a c b : List Int) (h1 : a.length = c.length) (h2 : a.length = b.length) (hn : a.length ≤ 1000) (ha : allW a (-1099511627776) 1099511627776 = true) (hc : allW c (-1099511627776) 1099511627776 = true) (hb : ∀ i : Nat, i < a.length → ((rd a (i : Int) - rd c (i : Int)).natAbs : Int) ≤ rd b (i : Int)) (K : Nat) (hK : a.length + 10 ≤ K) : impl_IsWithin.f K a c b = some true := by
  obtain ⟨K, rfl⟩ : ∃ z, K = z + 1 := ⟨K - 1, by omega⟩
  unfold impl_IsWithin.f
  rw [if_pos (by omega), if_pos (by omega), allWithin_eq a _ (by omega) (by omega)]; simp only [Option.bind_some]
  rw [if_pos ha, allWithin_eq c _ (by omega) (by omega)]; simp only [Option.bind_some]
  rw [show (!allW c (-1099511627776) 1099511627776) = false by rw [hc]; rfl, impl_IsWithin.j0, if_neg (by simp)]
  refine IsWithin_l0 a c b h1 h2 hn (fun i hi => ?_) a.length 0 K (by omega) (by omega)
  have m1 := allW_mem ha (rd_mem a (i : Int) (by omega) (by omega))
  have m2 := allW_mem hc (rd_mem c (i : Int) (by omega) (by omega))
  exact ⟨by omega, by omega, hb i hi⟩
theorem rdv_near (a b : Int) (hb : 1 ≤ b) : -b ≤ 2 * (rdv a b * b - a) ∧ 2 * (rdv a b * b - a) ≤ b := by
  have pos : ∀ a : Int, 0 ≤ a → -b ≤ 2 * ((2 * a + b) / (2 * b) * b - a) ∧ 2 * ((2 * a + b) / (2 * b) * b - a) ≤ b := by
    intro a ha
    have h1 := Int.mul_ediv_add_emod (2 * a + b) (2 * b)
    have h2 := Int.emod_nonneg (2 * a + b) (show 2 * b ≠ 0 by omega)
    have h3 := Int.emod_lt_of_pos (2 * a + b) (show 0 < 2 * b by omega)
    generalize (2 * a + b) / (2 * b) = q at *
    generalize (2 * a + b) % (2 * b) = m at *
    have h4 : 2 * b * q = 2 * (q * b) := by rw [Int.mul_assoc, Int.mul_comm b q]
    omega
  unfold rdv
  by_cases h : a < 0
  · rw [if_pos h]
    have := pos (-a) (by omega)
    rw [Int.neg_mul]; omega
  · rw [if_neg h]; exact pos a (by omega)
theorem rdv_mul (q b : Int) (hb : 1 ≤ b) : rdv (q * b) b = q := by
  have e : ∀ x : Int, (2 * (x * b) + b) / (2 * b) = x := by
    intro x
    have : 2 * (x * b) + b = b + 2 * b * x := by rw [Int.mul_assoc, Int.mul_comm b x]; omega
    rw [this, Int.add_mul_ediv_left _ _ (by omega), Int.ediv_eq_zero_of_lt (by omega) (by omega)]; omega
  unfold rdv
  by_cases h : q * b < 0
  · rw [if_pos h, ← Int.neg_mul, e]; omega
  · rw [if_neg h, e]
theorem nrm_set : ∀ (xs : List Int) (i : Nat) (v : Int), i < xs.length → nrm (xs.set i v) + (rd xs (i : Int)).natAbs = nrm xs + v.natAbs
  | x :: xs, 0, v, _ => by simp [nrm, rd]; omega
  | x :: xs, i + 1, v, h => by
    have ih := nrm_set xs i v (by simpa using h)
    have e : rd (x :: xs) ((i + 1 : Nat) : Int) = rd xs (i : Int) := by unfold rd; simp
    rw [e]; simp only [List.set_cons_succ, nrm]; omega
theorem nrm_base (l : List Int) (k nm : Int) (h : ∀ i : Nat, i < l.length → 0 ≤ srBase l k nm i) : ∀ j : Nat, j ≤ l.length → (nrm ((List.range j).map (srBase l k nm)) : Int) = k - srMiss l k nm j
  | 0, _ => by simp [nrm, srMiss]
  | j + 1, hj => by
    have ih := nrm_base l k nm h j (by omega)
    have hb := h j (by omega)
    rw [List.range_succ, List.map_append, nrm_append]
    have e : nrm (List.map (srBase l k nm) [j]) = (srBase l k nm j).natAbs := by simp [nrm]
    rw [e]
    show _ = k - (srMiss l k nm j - srBase l k nm j)
    omega
theorem srAdd_len (l : List Int) (k nm : Int) (c : List Nat) : (srAdd l k nm c).length = l.length := by simp [srAdd]
theorem srAdd_rd (l : List Int) (k nm : Int) (c : List Nat) (i : Nat) (h : i < l.length) : rd (srAdd l k nm c) (i : Int) = srBase l k nm i + if i ∈ c then 1 else 0 := by unfold srAdd; rw [rd_map _ _ _ h]
theorem nrm_srAdd (l : List Int) (k nm : Int) (h : ∀ i : Nat, i < l.length → 0 ≤ srBase l k nm i) (c : List Nat) (hn : c.Nodup) (hc : ∀ i ∈ c, i < l.length) : ∀ t : Nat, t ≤ c.length → (nrm (srAdd l k nm (c.take t)) : Int) = k - srMiss l k nm l.length + t
  | 0, _ => by
    have := nrm_base l k nm h l.length (Nat.le_refl _)
    have e : srAdd l k nm (c.take 0) = (List.range l.length).map (srBase l k nm) := by simp [srAdd]
    rw [e, this]; simp
  | t + 1, ht => by
    have ih := nrm_srAdd l k nm h c hn hc t (by omega)
    have htl : t < c.length := by omega
    obtain ⟨q, hq⟩ : ∃ q, c[t] = q := ⟨_, rfl⟩
    have hqn := hc q (by rw [← hq]; exact List.getElem_mem _)
    have htk : c.take (t + 1) = c.take t ++ [q] := by rw [List.take_succ_eq_append_getElem htl, hq]
    have hqt : q ∉ c.take t := by
      intro hm
      obtain ⟨u, hu, hue⟩ := List.mem_iff_getElem.1 hm
      rw [List.length_take] at hu
      rw [List.getElem_take] at hue
      have := (List.getElem_inj (h₀ := by omega) (h₁ := htl) hn).1 (hue.trans hq.symm)
      omega
    have hb := h q hqn
    have hs := nrm_set (srAdd l k nm (c.take t)) q (srBase l k nm q + 1) (by rw [srAdd_len]; exact hqn)
    rw [srAdd_set _ _ _ _ _ hqt, ← htk, srAdd_rd _ _ _ _ _ hqn, if_neg hqt] at hs
    omega
theorem nrm_srSign (l xs : List Int) (hx : xs.length = l.length) : ∀ j : Nat, j ≤ l.length → nrm (srSign l xs j) = nrm xs
  | 0, _ => by rw [srSign_0 l xs hx]
  | j + 1, hj => by
    have ih := nrm_srSign l xs hx j (by omega)
    rw [srSign_step l xs j (by omega)]
    split
    · have := nrm_set (srSign l xs j) j (-(rd (srSign l xs j) (j : Int))) (by simp [srSign]; omega)
      omega
    · exact ih
theorem nrm_rep0 (n : Nat) : nrm (List.replicate n (0 : Int)) = 0 := by
  induction n with
  | zero => rfl
  | succ n ih => rw [List.replicate_succ]; simp only [nrm, ih]; rfl
theorem nrm_zero {l : List Int} (h : nrm l = 0) (i : Nat) (hi : i < l.length) : rd l (i : Int) = 0 := by
  have hm : rd l (i : Int) ∈ l := by rw [rd_at l i hi]; exact List.getElem_mem _
  have := nrm_mem hm; omega
/-- The pulses that are found are k, and each is near. -/
theorem srch_ok (l : List Int) (k : Int) (h1 : 1 ≤ l.length ∧ l.length ≤ 4) (hk : 1 ≤ k ∧ k ≤ 8) (hl : ∀ x ∈ l, -16777216 ≤ x ∧ x ≤ 16777216) : (nrm (srch l k (nrm l)) : Int) = k ∧ ∀ i : Nat, i < l.length → -(nrm l : Int) ≤ (nrm l : Int) * rd (srch l k (nrm l)) (i : Int) - k * rd l (i : Int) ∧ (nrm l : Int) * rd (srch l k (nrm l)) (i : Int) - k * rd l (i : Int) ≤ (nrm l : Int) := by
  by_cases h0 : nrm l = 0
  · have e : srch l k (nrm l) = (List.replicate l.length (0 : Int)).set 0 k := by unfold srch; rw [if_pos (by omega)]
    refine ⟨?_, fun i hi => ?_⟩
    · have hs := nrm_set (List.replicate l.length (0 : Int)) 0 k (by simp; omega)
      have hr : rd (List.replicate l.length (0 : Int)) ((0 : Nat) : Int) = 0 := nrm_zero (nrm_rep0 _) 0 (by simp; omega)
      rw [e]; rw [hr, nrm_rep0] at hs; omega
    · rw [nrm_zero h0 i hi, h0]; simp
  · have hm := srMiss_bd l k (by omega)
    have hm1 := hm.1 l.length (Nat.le_refl _)
    have hm2 := hm.2.1 h0 h1.1
    have hb : ∀ i : Nat, i < l.length → 0 ≤ srBase l k (nrm l) i := fun i hi => (srBase_bd l k (nrm l) (by omega) hl (by omega) i hi).1
    have hP := srtd_perm (srRest l k (nrm l)) l.length
    have hlen : (srtd (srRest l k (nrm l)) l.length).length = l.length := by have := hP.length_eq; simpa using this
    have hnd : (srtd (srRest l k (nrm l)) l.length).Nodup := hP.nodup_iff.2 List.nodup_range
    have hsub : ∀ i ∈ srtd (srRest l k (nrm l)) l.length, i < l.length := fun i hi => by simpa using hP.subset hi
    rw [srch_eq l k _ (by omega)]
    generalize srtd (srRest l k (nrm l)) l.length = c at *
    refine ⟨?_, fun i hi => ?_⟩
    · rw [nrm_srSign l _ (srAdd_len _ _ _ _) _ (Nat.le_refl _), nrm_srAdd l k (nrm l) hb c hnd hsub _ (by omega)]; omega
    · have hs := sr_split l k (by omega) (nrm l) i
      have hr := hs.2.2.1 h0
      have er : rd (srSign l (srAdd l k (nrm l) (c.take (srMiss l k (nrm l) l.length).toNat)) l.length) (i : Int) = if rd l (i : Int) < 0 then -(srBase l k (nrm l) i + if i ∈ c.take (srMiss l k (nrm l) l.length).toNat then 1 else 0) else srBase l k (nrm l) i + if i ∈ c.take (srMiss l k (nrm l) l.length).toNat then 1 else 0 := by
        unfold srSign
        rw [rd_map _ _ _ hi, srAdd_rd _ _ _ _ _ hi]
        by_cases c1 : rd l (i : Int) < 0
        · rw [if_pos ⟨hi, c1⟩, if_pos c1]
        · rw [if_neg (fun h => c1 h.2), if_neg c1]
      rw [er]
      have hd : (if i ∈ c.take (srMiss l k (nrm l) l.length).toNat then (1 : Int) else 0) = 0 ∨ (if i ∈ c.take (srMiss l k (nrm l) l.length).toNat then (1 : Int) else 0) = 1 := by split; exact Or.inr rfl; exact Or.inl rfl
      generalize (if i ∈ c.take (srMiss l k (nrm l) l.length).toNat then (1 : Int) else 0) = d at *
      have hs1 := hs.1
      have hs2 := hs.2.1
      generalize srBase l k (nrm l) i = B at *
      generalize srRest l k (nrm l) i = r at *
      generalize rd l (i : Int) = x at *
      generalize ((nrm l : Nat) : Int) = N at *
      have e2 : N * (B + d) = N * B + N * d := Int.mul_add _ _ _
      have e3 : N * d = 0 ∨ N * d = N := by rcases hd with rfl | rfl; exact Or.inl (by simp); exact Or.inr (by simp)
      by_cases c1 : x < 0
      · rw [if_pos c1, Int.mul_neg]
        have : k * (x.natAbs : Int) = -(k * x) := by rw [show (x.natAbs : Int) = -x by omega, Int.mul_neg]
        omega
      · rw [if_neg c1]
        have : k * (x.natAbs : Int) = k * x := by rw [show (x.natAbs : Int) = x by omega]
        omega
theorem near_of (N k g gap c p : Int) (hk : 1 ≤ k ∧ k ≤ 8) (hg : 0 ≤ gap) (h : -gap ≤ g - N ∧ g - N ≤ gap) (hp : -k ≤ p ∧ p ≤ k) (hn : -N ≤ N * p - k * c ∧ N * p - k * c ≤ N) : -(-(-N / k) + gap + 1) ≤ rdv (g * p) k - c ∧ rdv (g * p) k - c ≤ -(-N / k) + gap + 1 := by
  have hr := rdv_near (g * p) k hk.1
  generalize rdv (g * p) k = r at *
  have hc := Int.mul_ediv_add_emod (-N) k
  have hc0 := Int.emod_nonneg (-N) (show k ≠ 0 by omega)
  have hgp : (((g - N) * p).natAbs : Int) ≤ gap * k := by
    rw [Int.natAbs_mul]
    have : (g - N).natAbs * p.natAbs ≤ gap.natAbs * k.natAbs := Nat.mul_le_mul (by omega) (by omega)
    have e : ((gap.natAbs * k.natAbs : Nat) : Int) = gap * k := by rw [Int.natCast_mul]; congr 1 <;> omega
    omega
  have e1 : (g - N) * p = g * p - N * p := Int.sub_mul _ _ _
  have e2 : r * k = k * r := Int.mul_comm _ _
  have e3 : gap * k = k * gap := Int.mul_comm _ _
  generalize -N / k = q at *
  have e4 : k * (-q + gap + 1) = -(k * q) + k * gap + k := by rw [Int.mul_add, Int.mul_add, Int.mul_neg]; omega
  have e5 : k * (r - c) = k * r - k * c := Int.mul_sub _ _ _
  constructor
  · refine Int.le_of_mul_le_mul_left (a := k) ?_ (by omega)
    rw [Int.mul_neg, e4, e5]; omega
  · refine Int.le_of_mul_le_mul_left (a := k) ?_ (by omega)
    rw [e4, e5]; omega
theorem lwBig_eq (l : List Int) : laws_lwBig.f l = some (decide ((l.length : Int) > 1048576)) := rfl
theorem FnShapes : laws_FnShapes.Pure := by
  intro l0 hm hl hb0
  have hb : Bytes8 l0 := hb0
  refine ⟨3000000, ?_⟩
  unfold laws_FnShapes.f
  rw [lwBig_eq]; simp only [Option.bind_some, decide_eq_true_eq]
  by_cases hbig : (l0.length : Int) > 1048576
  · rw [if_pos hbig]
  rw [if_neg hbig]
  obtain ⟨l, k, hd, hlen⟩ := DrawSearchPulses_ok hb 3000000 (by omega)
  rw [hd]; simp only [Option.bind_some]
  rw [SearchPulses_eq l k (by omega) 3000000 (by omega)]; simp only [Option.bind_some]
  rw [specSearchPulses_eq l k (by omega) 3000000 (by omega)]; simp only [Option.bind_some, if_true]
  by_cases h1 : 1 ≤ l.length ∧ l.length ≤ 4
  · by_cases h2 : (1 ≤ k ∧ k ≤ 8) ∧ allW l (-16777216) 16777216 = true
    · rw [spR_b h1 h2]; simp only [if_true]
      obtain ⟨hk, hw⟩ := h2
      have hwl : ∀ x ∈ l, -16777216 ≤ x ∧ x ≤ 16777216 := fun x hx => allW_mem hw hx
      obtain ⟨hnk, hnear⟩ := srch_ok l k h1 hk hwl
      have hsl := srch_len l k (nrm l)
      generalize srch l k (nrm l) = p at *
      have hw40 : allW l (-1099511627776) 1099511627776 = true := allW_mk fun x hx => by have := hwl x hx; omega
      have hN : nrm l ≤ 67108864 := by
        have := nrm_le 16777216 l (fun x hx => by have := hwl x hx; omega)
        have h4 : 16777216 * l.length ≤ 16777216 * 4 := Nat.mul_le_mul_left _ h1.2
        omega
      rw [NormOf_eq l 3000000 (by omega)]; simp only [Option.bind_some]
      have eN : normR l = (0, (nrm l : Int)) := by unfold normR; rw [if_neg (by omega), if_pos hw40]
      rw [eN]
      obtain ⟨gap, hg, g0, g1⟩ := lwAt_ok hb 2 400 (by omega) (by omega)
      obtain ⟨si, hs, _, _⟩ := lwAt_ok hb 3 2 (by omega) (by omega)
      rw [hg]; simp only [Option.bind_some]
      rw [hs]; simp only [Option.bind_some]
      have hp8 : ∀ x ∈ p, -k ≤ x ∧ x ≤ k := fun x hx => by have := nrm_mem hx; omega
      have hpf : pfR p k = 0 := by
        unfold pfR
        rw [if_neg (by omega), if_neg (by omega), if_pos ⟨allW_mk fun x hx => by have := hp8 x hx; omega, hnk⟩]
      have hC := ceil_pos (nrm l : Int) k hk.1 (by omega)
      have hB := ShapeBound_eq (nrm l : Int) k gap (by omega) (by omega) hk
      have hSB := specShapeBound_eq (nrm l : Int) k gap (by omega) (by omega) hk
      have main : ∀ (g : Int) (K : Nat), 2000000 ≤ K → 0 ≤ g → -gap ≤ g - (nrm l : Int) → g - (nrm l : Int) ≤ gap → laws_FnShapes.j1 K l k (nrm l : Int) gap g 0 p = some true := by
        intro g K hK hg0 hga hgb
        obtain ⟨K, rfl⟩ : ∃ z, K = z + 1 := ⟨K - 1, by omega⟩
        obtain ⟨K, rfl⟩ : ∃ z, K = z + 1 := ⟨K - 1, by omega⟩
        rw [laws_FnShapes.j1, ShapeOf_eq p k g (by omega) (K + 1) (by omega)]; simp only [Option.bind_some]
        rw [hB]; simp only [Option.bind_some]
        by_cases hgM : g ≤ 67108864
        · have eS : shapeR p k g = (0, shpl p k g) := by
            unfold shapeR
            rw [if_neg (show ¬ pfR p k ≠ 0 by simpa using hpf), if_neg (by omega)]
          rw [eS]; simp only [if_true]
          rw [show ((0 : Int) != 0) = false from rfl, laws_FnShapes.j2, if_neg (by simp)]
          have lp : ∀ (d i K : Nat), i + d = l.length → d < K → 1000000 + d < K → laws_FnShapes.l0 K l k (nrm l : Int) gap (List.replicate i (-(-(nrm l : Int) / k) + gap + 1)) (i : Int) 0 p 0 (shpl p k g) 0 (-(-(nrm l : Int) / k) + gap + 1) = some true := by
            intro d
            induction d with
            | zero =>
              intro i K hi hK hK2
              obtain ⟨K, rfl⟩ : ∃ z, K = z + 1 := ⟨K - 1, by omega⟩
              have hil : i = l.length := by omega
              rw [laws_FnShapes.l0, if_neg (by omega), PulsesFault_eq p k (by omega) K (by omega)]; simp only [Option.bind_some]
              rw [if_pos hpf]
              have hshl : (shpl p k g).length = p.length := by simp [shpl]
              rw [IsWithin_ok (shpl p k g) l _ (by omega) (by simp; omega) (by omega) ?_ hw40 ?_ K (by omega)]
              · simp only [Option.bind_some, if_true]
                rw [hSB]; simp
              · refine allW_mk fun x hx => ?_
                obtain ⟨y, hy, rfl⟩ := List.mem_map.1 hx
                have hy8 := hp8 y hy
                have hm : -1000000000 ≤ g * y ∧ g * y ≤ 1000000000 := by
                  have h8 : (g * y).natAbs ≤ 67108864 * 8 := by rw [Int.natAbs_mul]; exact Nat.mul_le_mul (by omega) (by omega)
                  omega
                have hr := rdv_bound (g * y) k hk.1
                by_cases c : g * y < 0
                · have := hr.1 c; omega
                · have := hr.2 (by omega); omega
              · intro j hj
                rw [hshl, hsl] at hj
                have e1 : rd (shpl p k g) (j : Int) = rdv (g * rd p (j : Int)) k := by
                  rw [rd_at _ j (by omega), rd_at p j (by omega)]; simp [shpl]
                have e2 : rd (List.replicate i (-(-(nrm l : Int) / k) + gap + 1)) (j : Int) = -(-(nrm l : Int) / k) + gap + 1 := by
                  rw [rd_at _ j (by simp; omega)]; simp
                have hpj := hp8 _ (rd_mem p (j : Int) (by omega) (by omega))
                have := near_of (nrm l : Int) k g gap (rd l (j : Int)) (rd p (j : Int)) hk g0 ⟨hga, hgb⟩ hpj (hnear j hj)
                rw [e1, e2]; omega
            | succ d ih =>
              intro i K hi hK hK2
              obtain ⟨K, rfl⟩ : ∃ z, K = z + 1 := ⟨K - 1, by omega⟩
              rw [laws_FnShapes.l0, if_pos (by omega), if_pos (by simp; omega), w64 (n := (i : Int) + 1) (by omega) (by omega)]
              have := ih (i + 1) K (by omega) (by omega) (by omega)
              rw [List.replicate_succ'] at this
              exact this
          exact lp l.length 0 K (by omega) (by omega) (by omega)
        · have eS : shapeR p k g = (3, []) := by
            unfold shapeR
            rw [if_neg (show ¬ pfR p k ≠ 0 by simpa using hpf), if_pos (Or.inr (fun h => hgM h.2))]
          rw [eS]; simp only []
          rw [if_neg (by omega), laws_FnShapes.j2, if_pos rfl, specShapeOf_eq p k g (by omega) K (by omega), eS]; simp only [Option.bind_some, if_true]
          rw [hSB]; simp
      have e1 : wrap64 ((nrm l : Int) + gap) = (nrm l : Int) + gap := w64 (by omega) (by omega)
      have e2 : wrap64 ((nrm l : Int) - gap) = (nrm l : Int) - gap := w64 (by omega) (by omega)
      have j : ∀ b : Bool, (b = true → gap ≤ (nrm l : Int)) → laws_FnShapes.j0 3000000 l k (nrm l : Int) gap (wrap64 ((nrm l : Int) + gap)) b 0 p = some true := by
        intro b hbb
        rw [show (3000000 : Nat) = 2999999 + 1 from rfl, laws_FnShapes.j0, e1, e2]
        by_cases c : b = true
        · have := hbb c
          rw [if_pos c]; exact main _ _ (by omega) (by omega) (by omega) (by omega)
        · rw [if_neg c]; exact main _ _ (by omega) (by omega) (by omega) (by omega)
      by_cases c : si = 0
      · rw [if_pos c]; exact j _ (fun h => by simpa using h)
      · rw [if_neg c]; exact j _ (fun h => by simp at h)
    · rw [spR_c h1 h2]; simp
  · rw [spR_a k h1]; simp

end Go.Proofs.Ytpbkbibjlbbkbaa.Pure
