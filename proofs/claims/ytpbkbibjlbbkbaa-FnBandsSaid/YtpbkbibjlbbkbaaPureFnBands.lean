/- The bands are consecutive and cover the upper half, and their norms sum to its norm, whatever the code. -/
import Derived.Test.YtpbkbibjlbbkbaaPFnBandsx10
set_option linter.unusedVariables false
set_option linter.unusedSimpArgs false
namespace Go.Proofs.Ytpbkbibjlbbkbaa.Pure
open Go.RowKit Go.Proofs.Ytpbkbibjlbbkbaa.PFnBands Go.Proofs.YtpbkbibjlbbkbaaW.PrintWords Go.Proofs.YtpbkbibjlbbkbaaW.PrintLast

theorem ite_some {α : Type} {c : Prop} [Decidable c] {x y : Option α} (hx : ∃ r, x = some r) (hy : ∃ r, y = some r) : ∃ r, (if c then x else y) = some r := by
  split
  · exact hx
  · exact hy
theorem l1CeilT (a b : Int) (hb : b ≠ 0) : ∃ r, spec_l1Ceil.f a b = some r := by
  unfold spec_l1Ceil.f; rw [if_neg hb]; exact ⟨_, rfl⟩
theorem l1FloorT (a b : Int) (hb : b ≠ 0) : ∃ r, spec_l1Floor.f a b = some r := by
  unfold spec_l1Floor.f
  refine ite_some ?_ ?_
  · obtain ⟨r, hr⟩ := l1CeilT (wrap64 (-a)) b hb
    rw [hr]; exact ⟨_, rfl⟩
  · rw [if_neg hb]; exact ⟨_, rfl⟩
theorem l1TenT (a : Int) : ∃ r, spec_l1Ten.f a = some r := by
  unfold spec_l1Ten.f
  obtain ⟨r, hr⟩ := l1FloorT (wrap64 (a + 512)) 1024 (by decide)
  rw [hr]; exact ⟨_, rfl⟩
theorem l5PT (a b : Int) : ∃ r, spec_l5P.f a b = some r := by
  unfold spec_l5P.f
  repeat' first | refine ite_some ?_ ?_ | exact ⟨_, rfl⟩
theorem l5UT (a b : Int) : ∃ r, spec_l5U.f a b = some r := by
  unfold spec_l5U.f
  repeat' first | refine ite_some ?_ ?_ | exact ⟨_, rfl⟩
theorem l5TurnT (a b c d : Int) : ∃ x y, spec_l5Turn.f a b c d = some (x, y) := by
  unfold spec_l5Turn.f
  obtain ⟨p, hp⟩ := l5PT a b
  obtain ⟨u, hu⟩ := l5UT a b
  rw [hp, hu]; simp only [Option.bind_some]
  obtain ⟨t1, h1⟩ := l1TenT (wrap64 (p * d))
  rw [h1]; simp only [Option.bind_some]
  obtain ⟨t2, h2⟩ := l1TenT (wrap64 (u * (wrap64 (c - t1))))
  rw [h2]; simp only [Option.bind_some]
  obtain ⟨t3, h3⟩ := l1TenT (wrap64 (p * (wrap64 (d + t2))))
  rw [h3]; exact ⟨_, _, rfl⟩
theorem l5MixT (a b : Int) : ∃ x y, spec_l5Mix.f a b = some (x, y) := by
  unfold spec_l5Mix.f
  obtain ⟨r, hr⟩ := l1FloorT (wrap64 (a - b)) 2 (by decide)
  rw [hr]; exact ⟨_, _, rfl⟩
theorem l5BackT (a b c d : Int) : ∃ x y, spec_l5Back.f a b c d = some (x, y) := by
  unfold spec_l5Back.f
  obtain ⟨p, hp⟩ := l5PT a b
  obtain ⟨u, hu⟩ := l5UT a b
  rw [hp, hu]; simp only [Option.bind_some]
  obtain ⟨t1, h1⟩ := l1TenT (wrap64 (p * d))
  rw [h1]; simp only [Option.bind_some]
  obtain ⟨t2, h2⟩ := l1TenT (wrap64 (u * (wrap64 (c + t1))))
  rw [h2]; simp only [Option.bind_some]
  obtain ⟨t3, h3⟩ := l1TenT (wrap64 (p * (wrap64 (d - t2))))
  rw [h3]; exact ⟨_, _, rfl⟩
/-- Half of a size. -/
theorem half_of {a : Int} (ha : a = 4 ∨ a = 8 ∨ a = 16) : ∃ h : Int, wrap64 (Int.tdiv a 2) = h ∧ 2 * h = a ∧ 2 ≤ h ∧ h ≤ 8 := by
  rcases ha with rfl | rfl | rfl
  · exact ⟨2, by decide +kernel, by omega, by omega, by omega⟩
  · exact ⟨4, by decide +kernel, by omega, by omega, by omega⟩
  · exact ⟨8, by decide +kernel, by omega, by omega, by omega⟩
theorem w64 {n : Int} (h1 : -9223372036854775808 ≤ n) (h2 : n ≤ 9223372036854775807) : wrap64 n = n := by unfold wrap64; omega
theorem l1ZerosE (n : Int) (h0 : 0 ≤ n) (h1 : n ≤ 1000) : spec_l1Zeros.f n = some (List.replicate n.toNat 0) := by
  unfold spec_l1Zeros.f; rw [if_pos h0, if_pos (by omega)]
theorem l1IntsE (l : List Int) (h1 : l.length ≤ 1000000) : spec_l1Ints.f l = some l := by
  unfold spec_l1Ints.f; simp only [Option.bind_some]; rw [if_pos (by simp; omega)]; rfl
theorem l7Seam_l0 (a : Int) (l1 l2 : List Int) (b : Bool) (h : Int) (hh : 0 ≤ h ∧ h ≤ 100) (e1 : h ≤ l1.length) (e2 : h ≤ l2.length) :
    ∀ (n : Nat) (x y : List Int) (i : Int) (K : Nat), i + n = h → 0 ≤ i → (x.length : Int) = h → (y.length : Int) = h → n + 1 ≤ K →
      ∃ x' y', spec_l7Seam.l0 K a l1 l2 b h x y i = some (x', y') ∧ (x'.length : Int) = h ∧ (y'.length : Int) = h := by
  intro n
  induction n with
  | zero =>
    intro x y i K hi i0 hx hy hK
    obtain ⟨K, rfl⟩ : ∃ z, K = z + 1 := ⟨K - 1, by omega⟩
    rw [spec_l7Seam.l0, if_neg (by omega)]
    exact ⟨x, y, rfl, hx, hy⟩
  | succ n ih =>
    intro x y i K hi i0 hx hy hK
    obtain ⟨K, rfl⟩ : ∃ z, K = z + 1 := ⟨K - 1, by omega⟩
    have e : wrap64 (wrap64 (h - 1) - i) = h - 1 - i := by rw [w64 (n := h - 1) (by omega) (by omega), w64 (by omega) (by omega)]
    rw [spec_l7Seam.l0, if_pos (by omega)]
    simp only [e]
    cases b with
    | true =>
      rw [if_pos rfl, if_pos (by omega), if_pos (by omega), if_pos (by omega), if_pos (by omega)]
      obtain ⟨p, q, hr⟩ := l5BackT a i (rd l1 (h - 1 - i)) (rd l2 i)
      rw [hr]; simp only [Option.bind_some]
      rw [if_pos (by omega), if_pos (by omega), w64 (n := i + 1) (by omega) (by omega)]
      exact ih _ _ (i + 1) K (by omega) (by omega) (by simpa using hx) (by simpa using hy) (by omega)
    | false =>
      rw [if_neg (by simp), if_pos (by omega), if_pos (by omega), if_pos (by omega), if_pos (by omega)]
      obtain ⟨p, q, hr⟩ := l5TurnT a i (rd l1 (h - 1 - i)) (rd l2 i)
      rw [hr]; simp only [Option.bind_some]
      rw [if_pos (by omega), if_pos (by omega), w64 (n := i + 1) (by omega) (by omega)]
      exact ih _ _ (i + 1) K (by omega) (by omega) (by simpa using hx) (by simpa using hy) (by omega)
theorem l7Seam_ok {a : Int} (ha : a = 4 ∨ a = 8 ∨ a = 16) (l1 l2 : List Int) (b : Bool) (e1 : a ≤ 2 * l1.length) (e2 : a ≤ 2 * l2.length) (K : Nat) (hK : 20 ≤ K) :
    ∃ x y, spec_l7Seam.f K a l1 l2 b = some (x, y) ∧ 2 * (x.length : Int) = a ∧ 2 * (y.length : Int) = a := by
  obtain ⟨h, hh, h2, h3, h4⟩ := half_of ha
  unfold spec_l7Seam.f
  simp only [hh]
  rw [l1ZerosE h (by omega) (by omega)]; simp only [Option.bind_some]
  obtain ⟨x, y, e, hx, hy⟩ := l7Seam_l0 a l1 l2 b h ⟨by omega, by omega⟩ (by omega) (by omega) h.toNat (List.replicate h.toNat 0) (List.replicate h.toNat 0) 0 K (by omega) (by omega) (by simp; omega) (by simp; omega) (by omega)
  exact ⟨x, y, e, by omega, by omega⟩
theorem l6Halve_l1 (n m q : Int) (hm : wrap64 (Int.tdiv n 2) = m) (hq : wrap64 (Int.tdiv n 4) = q) (hmq : 2 * q ≤ m ∧ m ≤ 8 ∧ 0 ≤ q) (x5 : List Int) :
    ∀ (j : Nat) (x6 : List Int) (i : Int) (K : Nat), i + j = q → 0 ≤ i → (x6.length : Int) = m → j + 1 ≤ K →
      ∃ y, spec_l6Halve.l1 K n x5 x6 i = some (x5, y) ∧ y.length = x6.length := by
  intro j
  induction j with
  | zero =>
    intro x6 i K hi i0 hx hK
    obtain ⟨K, rfl⟩ : ∃ z, K = z + 1 := ⟨K - 1, by omega⟩
    rw [spec_l6Halve.l1, hq, if_neg (by omega)]
    exact ⟨x6, rfl, rfl⟩
  | succ j ih =>
    intro x6 i K hi i0 hx hK
    obtain ⟨K, rfl⟩ : ∃ z, K = z + 1 := ⟨K - 1, by omega⟩
    have e : wrap64 (wrap64 (m - 1) - i) = m - 1 - i := by rw [w64 (n := m - 1) (by omega) (by omega), w64 (by omega) (by omega)]
    rw [spec_l6Halve.l1, hq, hm, e, if_pos (by omega), if_pos (by omega), if_pos (by omega), if_pos (by omega), if_pos (by omega)]
    obtain ⟨p, r, hr⟩ := l5TurnT n i (rd x6 i) (rd x6 (m - 1 - i))
    rw [hr]; simp only [Option.bind_some]
    rw [w64 (n := i + 1) (by omega) (by omega)]
    obtain ⟨y, e1, e2⟩ := ih ((x6.set i.toNat p).set (m - 1 - i).toNat r) (i + 1) K (by omega) (by omega) (by simpa using hx) (by omega)
    exact ⟨y, e1, by simpa using e2⟩
theorem l6Halve_l0 (l : List Int) (m q : Int) (hm : wrap64 (Int.tdiv (l.length : Int) 2) = m) (hq : wrap64 (Int.tdiv (l.length : Int) 4) = q) (hl : (l.length : Int) = 2 * m) (hmq : 2 * q ≤ m ∧ m ≤ 8 ∧ 0 ≤ q) :
    ∀ (j : Nat) (x5 x6 : List Int) (i : Int) (K : Nat), i + j = m → 0 ≤ i → (x5.length : Int) = i → (x6.length : Int) = i → j + 20 ≤ K →
      ∃ s d, spec_l6Halve.l0 K l (l.length : Int) x5 x6 i = some (s, d) ∧ (s.length : Int) = m ∧ (d.length : Int) = m := by
  intro j
  induction j with
  | zero =>
    intro x5 x6 i K hi i0 h5 h6 hK
    obtain ⟨K, rfl⟩ : ∃ z, K = z + 1 := ⟨K - 1, by omega⟩
    rw [spec_l6Halve.l0, hm, if_neg (by omega)]
    by_cases h2 : (l.length : Int) > 2
    · rw [if_pos h2]
      obtain ⟨y, e1, e2⟩ := l6Halve_l1 (l.length : Int) m q hm hq hmq x5 q.toNat x6 0 K (by omega) (by omega) (by omega) (by omega)
      exact ⟨x5, y, e1, by omega, by omega⟩
    · rw [if_neg h2]; exact ⟨x5, x6, rfl, by omega, by omega⟩
  | succ j ih =>
    intro x5 x6 i K hi i0 h5 h6 hK
    obtain ⟨K, rfl⟩ : ∃ z, K = z + 1 := ⟨K - 1, by omega⟩
    have e : wrap64 (wrap64 ((l.length : Int) - 1) - i) = (l.length : Int) - 1 - i := by rw [w64 (n := (l.length : Int) - 1) (by omega) (by omega), w64 (by omega) (by omega)]
    rw [spec_l6Halve.l0, hm, e, if_pos (by omega), if_pos (by omega), if_pos (by omega), if_pos (by omega), if_pos (by omega)]
    obtain ⟨p, r, hr⟩ := l5MixT (rd l i) (rd l ((l.length : Int) - 1 - i))
    rw [hr]; simp only [Option.bind_some]
    rw [if_pos (by omega), if_pos (by omega), w64 (n := i + 1) (by omega) (by omega)]
    exact ih _ _ (i + 1) K (by omega) (by omega) (by simp; omega) (by simp; omega) (by omega)
theorem l6Halve_ok (l : List Int) (hl : l.length = 2 ∨ l.length = 4 ∨ l.length = 8 ∨ l.length = 16) (K : Nat) (hK : 40 ≤ K) : ∃ s d, spec_l6Halve.f K l = some (s, d) ∧ 2 * s.length = l.length ∧ 2 * d.length = l.length := by
  unfold spec_l6Halve.f
  have hq : ∃ m q : Int, wrap64 (Int.tdiv (l.length : Int) 2) = m ∧ wrap64 (Int.tdiv (l.length : Int) 4) = q ∧ (l.length : Int) = 2 * m ∧ 2 * q ≤ m ∧ m ≤ 8 ∧ 0 ≤ q := by
    rcases hl with h | h | h | h <;> rw [h]
    · exact ⟨1, 0, by decide +kernel, by decide +kernel, by decide, by omega, by omega, by omega⟩
    · exact ⟨2, 1, by decide +kernel, by decide +kernel, by decide, by omega, by omega, by omega⟩
    · exact ⟨4, 2, by decide +kernel, by decide +kernel, by decide, by omega, by omega, by omega⟩
    · exact ⟨8, 4, by decide +kernel, by decide +kernel, by decide, by omega, by omega, by omega⟩
  obtain ⟨m, q, h1, h2, h3, h4⟩ := hq
  obtain ⟨s, d, e, hs, hd⟩ := l6Halve_l0 l m q h1 h2 h3 h4 m.toNat [] [] 0 K (by omega) (by omega) (by simp) (by simp) (by omega)
  exact ⟨s, d, e, by omega, by omega⟩
theorem l6Spread_l0 (a b : List Int) (hab : b.length = a.length) (ha : a.length ≤ 100) : ∀ (j : Nat) (acc : List Int) (i : Int) (K : Nat), i + j = a.length → 0 ≤ i → acc.length + 2 * j ≤ 1000 → j + 1 ≤ K →
    ∃ r, spec_l6Spread.l0 K a b acc i = some r ∧ r.length = acc.length + 2 * j := by
  intro j
  induction j with
  | zero =>
    intro acc i K hi i0 hc hK
    obtain ⟨K, rfl⟩ : ∃ z, K = z + 1 := ⟨K - 1, by omega⟩
    rw [spec_l6Spread.l0, if_neg (by omega)]
    exact ⟨acc, rfl, by omega⟩
  | succ j ih =>
    intro acc i K hi i0 hc hK
    obtain ⟨K, rfl⟩ : ∃ z, K = z + 1 := ⟨K - 1, by omega⟩
    rw [spec_l6Spread.l0, if_pos (by omega), if_pos (by omega), if_pos (by omega)]
    simp only [Option.bind_some]
    rw [if_pos (by simp; omega), w64 (n := i + 1) (by omega) (by omega)]
    obtain ⟨r, e, hr⟩ := ih (acc ++ [rd a i, rd b i]) (i + 1) K (by omega) (by omega) (by simp; omega) (by omega)
    exact ⟨r, e, by rw [hr]; simp; omega⟩
theorem l6Spread_ok : ∀ (e : Nat) (l : List Int) (K : Nat), e ≤ 4 → l.length = 2 ^ e → 50 + e ≤ K → ∃ r, spec_l6Spread.f K l = some r ∧ r.length = l.length := by
  intro e
  induction e with
  | zero =>
    intro l K _ hl hK
    obtain ⟨K, rfl⟩ : ∃ z, K = z + 1 := ⟨K - 1, by omega⟩
    rw [spec_l6Spread.f, if_pos (by omega), l1IntsE l (by omega)]
    exact ⟨l, rfl, rfl⟩
  | succ e ih =>
    intro l K he hl hK
    obtain ⟨K, rfl⟩ : ∃ z, K = z + 1 := ⟨K - 1, by omega⟩
    have h16 : l.length = 2 ∨ l.length = 4 ∨ l.length = 8 ∨ l.length = 16 := by
      have : e = 0 ∨ e = 1 ∨ e = 2 ∨ e = 3 := by omega
      rcases this with rfl | rfl | rfl | rfl <;> simp at hl <;> omega
    rw [spec_l6Spread.f, if_neg (by omega)]
    obtain ⟨s, d, e1, hs, hd⟩ := l6Halve_ok l h16 K (by omega)
    rw [e1]; simp only [Option.bind_some]
    have hp : 2 ^ (e + 1) = 2 * 2 ^ e := by rw [Nat.pow_succ]; omega
    obtain ⟨a, e2, ha⟩ := ih s K (by omega) (by omega) (by omega)
    rw [e2]; simp only [Option.bind_some]
    obtain ⟨b, e3, hb⟩ := ih d K (by omega) (by omega) (by omega)
    rw [e3]; simp only [Option.bind_some]
    obtain ⟨r, e4, hr⟩ := l6Spread_l0 a b (by omega) (by omega) a.length [] 0 K (by omega) (by omega) (by simp; omega) (by omega)
    exact ⟨r, e4, by rw [hr]; simp; omega⟩
theorem pow_of {a : Int} (ha : a = 4 ∨ a = 8 ∨ a = 16) {l : List Int} (hl : (l.length : Int) = a) : ∃ e, e ≤ 4 ∧ l.length = 2 ^ e := by
  rcases ha with rfl | rfl | rfl
  · exact ⟨2, by omega, by simp; omega⟩
  · exact ⟨3, by omega, by simp; omega⟩
  · exact ⟨4, by omega, by simp; omega⟩
theorem l7Feed_ok {a : Int} (ha : a = 4 ∨ a = 8 ∨ a = 16) (hf rs fr : List Int) (h1 : 2 * (hf.length : Int) = a) (h2 : 2 * (rs.length : Int) = a) (h3 : (fr.length : Int) = a) (K : Nat) (hK : 60 ≤ K) :
    ∃ hf' rs' c, spec_l7Feed.f K a hf rs fr = some (a, hf', rs', c) ∧ 2 * (hf'.length : Int) = a ∧ 2 * (rs'.length : Int) = a ∧ (c.length : Int) = a := by
  obtain ⟨h, hh, h4, h5, h6⟩ := half_of ha
  unfold spec_l7Feed.f
  simp only [hh]
  rw [if_pos (by omega), if_pos (by omega)]
  obtain ⟨x, y, e, hx, hy⟩ := l7Seam_ok ha rs (fr.take h.toNat) false (by omega) (by rw [List.length_take]; omega) K (by omega)
  rw [e]; simp only [Option.bind_some]
  rw [l1IntsE hf (by omega)]; simp only [Option.bind_some]
  rw [if_pos (by omega), l1IntsE (fr.drop h.toNat) (by rw [List.length_drop]; omega)]; simp only [Option.bind_some]
  obtain ⟨ex, he, hp⟩ := pow_of ha (l := hf ++ x) (by rw [List.length_append]; omega)
  obtain ⟨r, e2, hr⟩ := l6Spread_ok ex (hf ++ x) K he hp (by omega)
  rw [e2]; simp only [Option.bind_some]
  exact ⟨y, fr.drop h.toNat, r, rfl, hy, by rw [List.length_drop]; omega, by rw [hr, List.length_append]; omega⟩
theorem rd_mem (L : List Int) (i : Int) (h0 : 0 ≤ i) (h1 : i < (L.length : Int)) : rd L i ∈ L := by
  unfold rd
  rw [List.getD_eq_getElem?_getD, List.getElem?_eq_getElem (by omega)]
  exact List.getElem_mem _
/-- All of a list are bytes. -/
def Bytes8 (l : List Int) : Prop := ∀ x ∈ l, (Lit.int .u8 x).wf = true
theorem Bytes8.rdb {l : List Int} (h : Bytes8 l) (i : Int) : 0 ≤ rd l i ∧ rd l i ≤ 255 := by
  by_cases hi : i.toNat < l.length
  · have hm : rd l i ∈ l := by
      unfold rd
      rw [List.getD_eq_getElem?_getD, List.getElem?_eq_getElem hi]
      exact List.getElem_mem _
    have := h _ hm
    simp only [Lit.wf, Bool.and_eq_true, decide_eq_true_eq] at this
    have e1 : IntKind.u8.min = 0 := by decide
    have e2 : IntKind.u8.max = 255 := by decide
    rw [e1, e2] at this; exact this
  · unfold rd
    rw [List.getD_eq_getElem?_getD, List.getElem?_eq_none (by omega)]
    simp
theorem tmod_in (s m : Int) (hs : 0 ≤ s) (hm : 1 ≤ m) : 0 ≤ Int.tmod s m ∧ Int.tmod s m < m := by
  rw [Int.tmod_eq_emod_of_nonneg hs]
  exact ⟨Int.emod_nonneg s (by omega), Int.emod_lt_of_pos s (by omega)⟩
theorem next_ok {l : List Int} (hb : Bytes8 l) (s n : Int) (h0 : 0 ≤ s) (h1 : s ≤ 10000000) :
    ∃ v, spec_l1Next.f l s n = some (v, s + 1) ∧ 0 ≤ v ∧ (n < 1 → v = 0) ∧ (1 ≤ n → v < n) := by
  unfold spec_l1Next.f
  by_cases hn : n < 1
  · rw [if_pos hn, w64 (by omega) (by omega)]
    exact ⟨0, rfl, by omega, fun _ => rfl, fun h => by omega⟩
  rw [if_neg hn]
  have hn0 : ¬ n = 0 := by omega
  have e1 : wrap64 (s + 1) = s + 1 := w64 (by omega) (by omega)
  have e2 : wrap64 (s + 1 - 1) = s := by rw [w64 (by omega) (by omega)]; omega
  have e3 : wrap64 (s + 2) = s + 2 := w64 (by omega) (by omega)
  simp only [e1, e2, e3]
  by_cases hl : (l.length : Int) = 0
  · rw [if_pos hl, if_neg hn0]
    have := tmod_in (wrap64 (s * 7)) n (by rw [w64 (by omega) (by omega)]; omega) (by omega)
    exact ⟨_, rfl, this.1, fun h => by omega, fun _ => this.2⟩
  rw [if_neg hl]
  have hm : 1 ≤ (l.length : Int) := by omega
  have t0 := tmod_in s (l.length : Int) h0 hm
  have t1 := tmod_in (s + 1) (l.length : Int) (by omega) hm
  have t2 := tmod_in (s + 2) (l.length : Int) (by omega) hm
  rw [if_pos t0.1, if_pos t0.2]
  simp only [if_pos t1.1, if_pos t1.2, if_pos t2.1, if_pos t2.2, if_neg hn0]
  have r0 := hb.rdb (Int.tmod s (l.length : Int))
  have r1 := hb.rdb (Int.tmod (s + 1) (l.length : Int))
  have r2 := hb.rdb (Int.tmod (s + 2) (l.length : Int))
  have q : 0 ≤ Int.tdiv s (l.length : Int) ∧ Int.tdiv s (l.length : Int) ≤ s := by
    rw [Int.tdiv_eq_ediv_of_nonneg h0]
    exact ⟨Int.ediv_nonneg h0 (by omega), Int.ediv_le_self _ h0⟩
  generalize rd l (Int.tmod s (l.length : Int)) = b0 at *
  generalize rd l (Int.tmod (s + 1) (l.length : Int)) = b1 at *
  generalize rd l (Int.tmod (s + 2) (l.length : Int)) = b2 at *
  generalize Int.tdiv s (l.length : Int) = d at *
  have f0 : wrap64 b0 = b0 := w64 (by omega) (by omega)
  have f1 : wrap64 b1 = b1 := w64 (by omega) (by omega)
  have f2 : wrap64 b2 = b2 := w64 (by omega) (by omega)
  have f3 : wrap64 d = d := w64 (by omega) (by omega)
  have f4 : wrap64 (d * 37) = d * 37 := w64 (by omega) (by omega)
  have f5 : wrap64 (b0 + d * 37) = b0 + d * 37 := w64 (by omega) (by omega)
  have f6 : wrap64 ((b0 + d * 37) * 251) = (b0 + d * 37) * 251 := w64 (by omega) (by omega)
  have f7 : wrap64 (b1 * 13) = b1 * 13 := w64 (by omega) (by omega)
  have f8 : wrap64 ((b0 + d * 37) * 251 + b1 * 13) = (b0 + d * 37) * 251 + b1 * 13 := w64 (by omega) (by omega)
  have f9 : wrap64 ((b0 + d * 37) * 251 + b1 * 13 + s) = (b0 + d * 37) * 251 + b1 * 13 + s := w64 (by omega) (by omega)
  have f10 : wrap64 (((b0 + d * 37) * 251 + b1 * 13 + s) * 257) = ((b0 + d * 37) * 251 + b1 * 13 + s) * 257 := w64 (by omega) (by omega)
  have f11 : wrap64 ((b0 + d * 37) * 257) = (b0 + d * 37) * 257 := w64 (by omega) (by omega)
  simp only [f0, f1, f2, f3, f4, f5, f6, f7, f8, f9, f10, f11]
  have fin : ∀ X : Int, 0 ≤ X → ∃ v, (some (Int.tmod X n, s + 1) : Option (Int × Int)) = some (v, s + 1) ∧ 0 ≤ v ∧ (n < 1 → v = 0) ∧ (1 ≤ n → v < n) := fun X hX =>
    ⟨_, rfl, (tmod_in X n hX (by omega)).1, fun h => by omega, fun _ => (tmod_in X n hX (by omega)).2⟩
  by_cases c1 : n > 200
  · rw [if_pos c1]
    by_cases c2 : n > 60000
    · rw [if_pos c2]; exact fin _ (by rw [w64 (by omega) (by omega)]; omega)
    · rw [if_neg c2]; exact fin _ (by omega)
  · rw [if_neg c1, if_neg (by omega)]; exact fin _ (by omega)
theorem signed_ok {l : List Int} (hb : Bytes8 l) (s m : Int) (h0 : 0 ≤ s) (h1 : s ≤ 10000000) (hm0 : 0 ≤ m) (hm : m ≤ 1000000000) :
    ∃ v, spec_l1Signed.f l s m = some (v, s + 1) ∧ -m ≤ v ∧ v ≤ m := by
  unfold spec_l1Signed.f
  have e1 : wrap64 (2 * m) = 2 * m := w64 (by omega) (by omega)
  have e2 : wrap64 (2 * m + 1) = 2 * m + 1 := w64 (by omega) (by omega)
  simp only [e1, e2]
  obtain ⟨v, hv, hv0, _, hv1⟩ := next_ok hb s (2 * m + 1) h0 h1
  rw [hv]; simp only [Option.bind_some]
  have := hv1 (by omega)
  rw [w64 (by omega) (by omega)]
  exact ⟨_, rfl, by omega, by omega⟩

theorem pick_ok {l : List Int} (hb : Bytes8 l) (s : Int) (L : List Int) (h0 : 0 ≤ s) (h1 : s ≤ 10000000) (hL : 0 < L.length) :
    ∃ v, spec_l1Pick.f l s L = some (v, s + 1) ∧ v ∈ L := by
  unfold spec_l1Pick.f
  obtain ⟨v, hv, hv0, _, hv1⟩ := next_ok hb s (L.length : Int) h0 h1
  rw [hv]; simp only [Option.bind_some]
  have := hv1 (by omega)
  rw [if_pos hv0, if_pos this]
  exact ⟨_, rfl, rd_mem L v hv0 this⟩
theorem Clamp16T (v : Int) : ∃ r, spec_Clamp16.f v = some r := by
  unfold spec_Clamp16.f
  repeat' first | refine ite_some ?_ ?_ | exact ⟨_, rfl⟩
theorem l1Samples_l0 {l : List Int} (hb : Bytes8 l) (a base step kind : Int) (ha : a ≤ 100) : ∀ (n : Nat) (acc : List Int) (i s : Int) (K : Nat), i + n = a → 0 ≤ i → (acc.length : Int) = i → 0 ≤ s → s + n ≤ 1000000 → n + 1 ≤ K →
    ∃ r s', spec_l1Samples.l0 K a acc base step kind i l s = some (r, s') ∧ (r.length : Int) = a ∧ s ≤ s' ∧ s' ≤ s + n := by
  intro n
  induction n with
  | zero =>
    intro acc i s K hi i0 hc s0 s1 hK
    obtain ⟨K, rfl⟩ : ∃ z, K = z + 1 := ⟨K - 1, by omega⟩
    rw [spec_l1Samples.l0, if_neg (by omega)]
    exact ⟨acc, s, rfl, by omega, by omega, by omega⟩
  | succ n ih =>
    intro acc i s K hi i0 hc s0 s1 hK
    obtain ⟨K, rfl⟩ : ∃ z, K = z + 1 := ⟨K - 1, by omega⟩
    rw [spec_l1Samples.l0, if_pos (by omega), w64 (n := i + 1) (by omega) (by omega)]
    have go : ∀ (x s' : Int), s ≤ s' → s' ≤ s + 1 → ∃ r s2, spec_l1Samples.l0 K a (acc ++ [x]) base step kind (i + 1) l s' = some (r, s2) ∧ (r.length : Int) = a ∧ s ≤ s2 ∧ s2 ≤ s + (n + 1 : Nat) := by
      intro x s' h1 h2
      obtain ⟨r, s2, e, e1, e2, e3⟩ := ih (acc ++ [x]) (i + 1) s' K (by omega) (by omega) (by simp; omega) (by omega) (by omega) (by omega)
      exact ⟨r, s2, e, e1, by omega, by omega⟩
    have hlen : acc.length < 17592186044416 := by omega
    by_cases c0 : kind = 0
    · rw [if_pos c0]
      obtain ⟨z, hz⟩ := Clamp16T 0
      rw [hz]; simp only [Option.bind_some]; rw [if_pos hlen]; exact go z s (by omega) (by omega)
    rw [if_neg c0]
    by_cases c1 : kind = 1
    · rw [if_pos c1]
      obtain ⟨v, hv, _⟩ := signed_ok hb s 32767 s0 (by omega) (by omega) (by omega)
      rw [hv]; simp only [Option.bind_some]
      obtain ⟨z, hz⟩ := Clamp16T v
      rw [hz]; simp only [Option.bind_some]; rw [if_pos hlen]; exact go z (s + 1) (by omega) (by omega)
    rw [if_neg c1]
    by_cases c2 : kind = 2
    · rw [if_pos c2]
      obtain ⟨v, hv, _⟩ := pick_ok hb s [32767, (-32768), 0] s0 (by omega) (by simp)
      rw [hv]; simp only [Option.bind_some]
      obtain ⟨z, hz⟩ := Clamp16T v
      rw [hz]; simp only [Option.bind_some]; rw [if_pos hlen]; exact go z (s + 1) (by omega) (by omega)
    rw [if_neg c2]
    by_cases c3 : kind = 3
    · rw [if_pos c3]
      obtain ⟨v, hv, _⟩ := signed_ok hb s 20 s0 (by omega) (by omega) (by omega)
      rw [hv]; simp only [Option.bind_some]
      obtain ⟨z, hz⟩ := Clamp16T (wrap64 ((wrap64 (base + (wrap64 (step * i)))) + v))
      rw [hz]; simp only [Option.bind_some]; rw [if_pos hlen]; exact go z (s + 1) (by omega) (by omega)
    rw [if_neg c3]
    obtain ⟨z, hz⟩ := Clamp16T (wrap64 (base + (wrap64 (step * i))))
    rw [hz]; simp only [Option.bind_some]; rw [if_pos hlen]; exact go z s (by omega) (by omega)
theorem l1Samples_ok {l : List Int} (hb : Bytes8 l) (s a : Int) (h0 : 0 ≤ s) (h1 : s ≤ 900000) (ha : 0 ≤ a ∧ a ≤ 100) (K : Nat) (hK : 110 ≤ K) :
    ∃ r s', spec_l1Samples.f K l s a = some (r, s') ∧ (r.length : Int) = a ∧ s ≤ s' ∧ s' ≤ s + 110 := by
  unfold spec_l1Samples.f
  obtain ⟨v, hv, _⟩ := signed_ok hb s 20000 h0 (by omega) (by omega) (by omega)
  rw [hv]; simp only [Option.bind_some]
  obtain ⟨u, hu, _⟩ := pick_ok hb (s + 1) [0, 1, 50, 700, (-300)] (by omega) (by omega) (by simp)
  rw [hu]; simp only [Option.bind_some]
  obtain ⟨t, ht, _⟩ := next_ok hb (s + 1 + 1) 5 (by omega) (by omega)
  rw [ht]; simp only [Option.bind_some]
  obtain ⟨r, s', e, e1, e2, e3⟩ := l1Samples_l0 hb a v u t (by omega) a.toNat [] 0 (s + 1 + 1 + 1) K (by omega) (by omega) (by simp) (by omega) (by omega) (by omega)
  exact ⟨r, s', e, e1, by omega, by omega⟩
theorem l1DrawList_l0 {l : List Int} (hb : Bytes8 l) (m : Int) (hm : 0 ≤ m ∧ m ≤ 1000000) : ∀ (n : Nat) (acc : List Int) (s : Int) (K : Nat), 0 ≤ s → s + n ≤ 1000000 → acc.length + n ≤ 100000 → n + 1 ≤ K →
    ∃ r, spec_l1DrawList.l0 K (n : Int) m acc l s = some (r, s + n) ∧ r.length = acc.length + n ∧ ((∀ x ∈ acc, -m ≤ x ∧ x ≤ m) → ∀ x ∈ r, -m ≤ x ∧ x ≤ m) := by
  intro n
  induction n with
  | zero =>
    intro acc s K s0 s1 hc hK
    obtain ⟨K, rfl⟩ : ∃ z, K = z + 1 := ⟨K - 1, by omega⟩
    rw [spec_l1DrawList.l0, if_neg (by omega)]
    exact ⟨acc, by simp, by omega, fun h => h⟩
  | succ n ih =>
    intro acc s K s0 s1 hc hK
    obtain ⟨K, rfl⟩ : ∃ z, K = z + 1 := ⟨K - 1, by omega⟩
    rw [spec_l1DrawList.l0, if_pos (by omega)]
    obtain ⟨v, hv, v0, v1⟩ := signed_ok hb s m s0 (by omega) (by omega) (by omega)
    rw [hv]; simp only [Option.bind_some]
    rw [if_pos (by omega), w64 (by omega) (by omega), show ((n + 1 : Nat) : Int) - 1 = (n : Int) by omega]
    obtain ⟨r, e, e1, e2⟩ := ih (acc ++ [v]) (s + 1) K (by omega) (by omega) (by simp; omega) (by omega)
    refine ⟨r, by rw [e]; congr 2; omega, by rw [e1]; simp; omega, fun h => e2 ?_⟩
    intro x hx
    rcases List.mem_append.1 hx with hx | hx
    · exact h x hx
    · rw [List.mem_singleton.1 hx]; exact ⟨v0, v1⟩
theorem l1DrawList_ok {l : List Int} (hb : Bytes8 l) (s a m : Int) (h0 : 0 ≤ s) (h1 : s ≤ 900000) (ha : 0 ≤ a ∧ a ≤ 1000) (hm : 0 ≤ m ∧ m ≤ 1000000) (K : Nat) (hK : 1010 ≤ K) :
    ∃ r, spec_l1DrawList.f K l s a m = some (r, s + a) ∧ (r.length : Int) = a ∧ ∀ x ∈ r, -m ≤ x ∧ x ≤ m := by
  unfold spec_l1DrawList.f
  obtain ⟨r, e, e1, e2⟩ := l1DrawList_l0 hb m hm a.toNat [] s K h0 (by omega) (by simp; omega) (by omega)
  rw [Int.toNat_of_nonneg ha.1] at e
  exact ⟨r, e, by rw [e1]; simp; omega, e2 (by simp)⟩
theorem chance_ok {l : List Int} (hb : Bytes8 l) (s n : Int) (h0 : 0 ≤ s) (h1 : s ≤ 10000000) : ∃ b, spec_l1Chance.f l s n = some (b, s + 1) := by
  unfold spec_l1Chance.f
  obtain ⟨v, hv, _⟩ := next_ok hb s n h0 h1
  rw [hv]; exact ⟨_, rfl⟩
theorem l13Draw_ok {l : List Int} (hb : Bytes8 l) (s a : Int) (h0 : 0 ≤ s) (h1 : s ≤ 800000) (ha : a = 4 ∨ a = 8 ∨ a = 16) (K : Nat) (hK : 1100 ≤ K) :
    ∃ r s', spec_l13Draw.f K l s a = some (r, s') ∧ (r.length : Int) = a ∧ s ≤ s' ∧ s' ≤ s + 300 := by
  unfold spec_l13Draw.f
  obtain ⟨b, hb1⟩ := chance_ok hb s 3 h0 (by omega)
  rw [hb1]; simp only [Option.bind_some]
  cases b with
  | true =>
    rw [if_pos rfl]
    obtain ⟨m, hm, hm2⟩ := pick_ok hb (s + 1) [3, 300, 9000, 100000] (by omega) (by omega) (by simp)
    rw [hm]; simp only [Option.bind_some]
    have hr : 0 ≤ m ∧ m ≤ 100000 := by simp only [List.mem_cons, List.not_mem_nil, or_false] at hm2; omega
    obtain ⟨r, e, e1, _⟩ := l1DrawList_ok hb (s + 1 + 1) a m (by omega) (by omega) (by omega) (by omega) K (by omega)
    rw [e]; simp only [Option.bind_some]
    exact ⟨r, _, rfl, e1, by omega, by omega⟩
  | false =>
    rw [if_neg (by simp)]
    obtain ⟨h, hh, h4, h5, h6⟩ := half_of ha
    unfold spec_l7New.f
    simp only [hh]
    rw [l1ZerosE h (by omega) (by omega)]; simp only [Option.bind_some]
    obtain ⟨f1, s1, e1, e2, e3, e4⟩ := l1Samples_ok hb (s + 1) a (by omega) (by omega) (by omega) K (by omega)
    rw [e1]; simp only [Option.bind_some]
    obtain ⟨p1, p2, p3, g1, g2, g3, g4⟩ := l7Feed_ok ha (List.replicate h.toNat 0) (List.replicate h.toNat 0) f1 (by simp; omega) (by simp; omega) e2 K (by omega)
    rw [g1]; simp only [Option.bind_some]
    obtain ⟨f2, s2, e5, e6, e7, e8⟩ := l1Samples_ok hb s1 a (by omega) (by omega) (by omega) K (by omega)
    rw [e5]; simp only [Option.bind_some]
    obtain ⟨q1, q2, q3, k1, k2, k3, k4⟩ := l7Feed_ok ha p1 p2 f2 g2 g3 e6 K (by omega)
    rw [k1]; simp only [Option.bind_some]
    exact ⟨q3, s2, rfl, k4, by omega, by omega⟩
/-- The code of a size. -/
def szR (a : Int) : Int := if a = 4 ∨ a = 8 ∨ a = 16 then 0 else 3
theorem SizeFault_eq (a : Int) : impl_SizeFault.f a = some (szR a) := by
  unfold impl_SizeFault.f szR
  by_cases h1 : a = 4
  · simp [h1]
  · by_cases h2 : a = 8
    · simp [h2]
    · by_cases h3 : a = 16
      · simp [h3]
      · simp [h1, h2, h3]
theorem szR_0 {a : Int} : szR a = 0 ↔ (a = 4 ∨ a = 8 ∨ a = 16) := by unfold szR; split <;> simp_all
theorem szR_no {a : Int} (h : ¬ (a = 4 ∨ a = 8 ∨ a = 16)) : szR a = 3 := by unfold szR; rw [if_neg h]
theorem szR_yes {a : Int} (h : a = 4 ∨ a = 8 ∨ a = 16) : szR a = 0 := by unfold szR; rw [if_pos h]
theorem specSizeFault_eq (a : Int) : spec_SizeFault.f a = some (szR a) := by
  unfold spec_SizeFault.f szR
  by_cases h1 : a = 4
  · simp [h1]
  · by_cases h2 : a = 8
    · simp [h2]
    · by_cases h3 : a = 16
      · simp [h3]
      · simp [h1, h2, h3]
theorem DrawBandNorms_l0 (a n : Int) (L : List Int) (hL : (L.length : Int) = n) (hn : n ≤ 1000) : ∀ (j : Nat) (i : Int) (L : List Int) (K : Nat), (L.length : Int) = n → i + j = n → 0 ≤ i → j + 1 ≤ K → ∃ R, spec_DrawBandNorms.l0 K a L n i = some (a, R) ∧ R.length = L.length := by
  intro j
  induction j with
  | zero =>
    intro i L K hL hi i0 hK
    obtain ⟨K, rfl⟩ : ∃ z, K = z + 1 := ⟨K - 1, by omega⟩
    rw [spec_DrawBandNorms.l0, if_neg (by omega)]
    exact ⟨L, rfl, rfl⟩
  | succ j ih =>
    intro i L K hL hi i0 hK
    obtain ⟨K, rfl⟩ : ∃ z, K = z + 1 := ⟨K - 1, by omega⟩
    rw [spec_DrawBandNorms.l0, if_pos (by omega), if_pos (by omega), if_pos (by omega), w64 (n := i + 1) (by omega) (by omega)]
    obtain ⟨R, e, e1⟩ := ih (i + 1) (L.set i.toNat 0) K (by simpa using hL) (by omega) (by omega) (by omega)
    exact ⟨R, e, by simpa using e1⟩
theorem DrawBandNorms_ok {l : List Int} (hb : Bytes8 l) (K : Nat) (hK : 1200 ≤ K) : ∃ a L, spec_DrawBandNorms.f K l = some (a, L) ∧ L.length ≤ 20 ∧ (a ∈ [4, 8, 16, 0, 5, 32] ∧ (¬ (a = 4 ∨ a = 8 ∨ a = 16) → L = [])) := by
  unfold spec_DrawBandNorms.f spec_l1Source.f spec_l1BentSize.f
  simp only [Option.bind_some]
  obtain ⟨a, ha, hm⟩ := pick_ok hb 0 [4, 8, 16, 8, 4, 8, 16, 8, 4, 8, 16, 8, 0, 5, 32] (by omega) (by omega) (by simp)
  rw [ha]; simp only [Option.bind_some]
  have hm' : a ∈ ([4, 8, 16, 0, 5, 32] : List Int) := by simp only [List.mem_cons, List.not_mem_nil, or_false] at hm ⊢; omega
  rw [specSizeFault_eq]; simp only [Option.bind_some]
  by_cases h : szR a = 0
  · have hs := szR_0.1 h
    have ha16 : a ≤ 16 := by omega
    rw [if_pos h]
    obtain ⟨c, s', e, hc, s0, s1⟩ := l13Draw_ok hb (0 + 1) a (by omega) (by omega) hs K (by omega)
    rw [e]; simp only [Option.bind_some]
    obtain ⟨v, hv, _⟩ := next_ok hb s' 14 (by omega) (by omega)
    rw [hv]; simp only [Option.bind_some]
    by_cases c0 : v = 0
    · rw [if_pos c0, if_pos (by omega)]; exact ⟨a, _, rfl, by simp; omega, hm', fun hq => absurd hs hq⟩
    rw [if_neg c0]
    by_cases c1 : v = 1
    · rw [if_pos c1]
      obtain ⟨x, hx, _⟩ := pick_ok hb (s' + 1) [16777216, 16777217] (by omega) (by omega) (by simp)
      rw [hx]; simp only [Option.bind_some]
      rw [if_pos (by omega)]; exact ⟨a, _, rfl, by simp; omega, hm', fun hq => absurd hs hq⟩
    rw [if_neg c1]
    by_cases c2 : v = 2
    · rw [if_pos c2]
      obtain ⟨R, e1, e2⟩ := DrawBandNorms_l0 a (c.length : Int) c rfl (by omega) c.length 0 c K rfl (by omega) (by omega) (by omega)
      rw [e1]; exact ⟨a, R, rfl, by omega, hm', fun hq => absurd hs hq⟩
    · rw [if_neg c2]; exact ⟨a, c, rfl, by omega, hm', fun hq => absurd hs hq⟩
  · rw [if_neg h]; exact ⟨a, [], rfl, by simp, hm', fun _ => rfl⟩
theorem codeIf_eq (b : Bool) (c : Int) : impl_codeIf.f b c = some (if b = true then c else 0) := by unfold impl_codeIf.f; split <;> rfl
theorem idxP_any (p : Int → Option Bool) (q : Int → Bool) : ∀ (l : List Int) (i : Int), 0 ≤ i → (∀ x ∈ l, p x = some (q x)) → ∃ r, idxP p l i = some r ∧ decide (0 ≤ r) = l.any q
  | [], i, _, _ => ⟨-1, rfl, by simp⟩
  | x :: l, i, hi, h => by
    obtain ⟨r, hr, hq⟩ := idxP_any p q l (i + 1) (by omega) (fun y hy => h y (by simp [hy]))
    simp only [idxP]
    rw [h x (by simp)]
    simp only [Option.bind_some]
    cases hx : q x with
    | true => exact ⟨i, by simp, by simp [hx, hi]⟩
    | false => exact ⟨r, by simp [hr], by simp [hx, hq]⟩
theorem anyP_eq (p : Int → Option Bool) (q : Int → Bool) (l : List Int) (h : ∀ x ∈ l, p x = some (q x)) : anyP p l = some (l.any q) := by
  obtain ⟨r, hr, hq⟩ := idxP_any p q l 0 (by omega) h
  unfold anyP; rw [hr]; simp only [Option.bind_some]; rw [hq]
/-- All of a list lie between two bounds. -/
def allW (l : List Int) (a b : Int) : Bool := l.all fun x => decide (a ≤ x ∧ x ≤ b)
theorem allW_cons (x : Int) (l : List Int) (a b : Int) : allW (x :: l) a b = (decide (a ≤ x ∧ x ≤ b) && allW l a b) := by simp [allW]
theorem allW_mem {l : List Int} {a b : Int} (h : allW l a b = true) {x : Int} (hx : x ∈ l) : a ≤ x ∧ x ≤ b := by
  unfold allW at h; rw [List.all_eq_true] at h; simpa using h x hx
theorem allW_mk {l : List Int} {a b : Int} (h : ∀ x ∈ l, a ≤ x ∧ x ≤ b) : allW l a b = true := by
  unfold allW; rw [List.all_eq_true]; intro x hx; simpa using h x hx
theorem inRange_eq (a b c : Int) : impl_inRange.f a b c = some (decide (b ≤ a ∧ a ≤ c)) := by
  unfold impl_inRange.f
  by_cases h : b ≤ a
  · rw [if_pos h]; simp [h]
  · rw [if_neg h]; simp [h]
theorem within_eq (a b : Int) (h0 : 0 ≤ b) (h1 : b ≤ 9223372036854775807) : impl_within.f a b = some (decide (-b ≤ a ∧ a ≤ b)) := by
  unfold impl_within.f; rw [w64 (by omega) (by omega), inRange_eq]; rfl
theorem allWithin_eq (l : List Int) (m : Int) (h0 : 0 ≤ m) (h1 : m ≤ 9223372036854775807) : impl_allWithin.f l m = some (allW l (-m) m) := by
  unfold impl_allWithin.f
  rw [anyP_eq (notWithinP m) (fun x => !decide (-m ≤ x ∧ x ≤ m)) l (fun x _ => by unfold notWithinP; rw [within_eq x m h0 h1]; rfl)]
  simp only [Option.bind_some]
  congr 1
  unfold allW
  rw [List.any_eq_not_all_not]; simp
theorem rd_append_right (P Q : List Int) (i : Int) (h : i = (P.length : Int)) (x : Int) (R : List Int) (hQ : Q = x :: R) : rd (P ++ Q) i = x := by
  subst hQ; unfold rd; rw [h, Int.toNat_natCast, List.getD_eq_getElem?_getD, List.getElem?_append_right (Nat.le_refl _)]; simp
theorem rd_get (l : List Int) (i : Int) (h0 : 0 ≤ i) (h1 : i < (l.length : Int)) : rd l i = l[i.toNat]'(by omega) := by
  unfold rd; rw [List.getD_eq_getElem?_getD, List.getElem?_eq_getElem (by omega)]; rfl
/-- The first code that is not 0. -/
def fst0 : List Int → Int
  | [] => 0
  | x :: l => if x = 0 then fst0 l else x
theorem first_l0 (l : List Int) (hl : l.length ≤ 2000000) : ∀ (rest pre : List Int) (i : Int) (k : Nat), l = pre ++ rest → (pre.length : Int) = i → rest.length < k → impl_first.l0 k l (l.length : Int) i = some (fst0 rest) := by
  intro rest
  induction rest with
  | nil =>
    intro pre i k h1 hi hk
    obtain ⟨k, rfl⟩ : ∃ m, k = m + 1 := ⟨k - 1, by omega⟩
    simp only [impl_first.l0]
    rw [if_neg (by rw [h1]; simp; omega)]; rfl
  | cons x rest ih =>
    intro pre i k h1 hi hk
    obtain ⟨k, rfl⟩ : ∃ m, k = m + 1 := ⟨k - 1, by omega⟩
    simp only [List.length_cons] at hk
    have hlen : l.length = pre.length + (rest.length + 1) := by rw [h1]; simp
    simp only [impl_first.l0]
    have hr : rd l i = x := by rw [h1]; exact rd_append_right pre (x :: rest) i hi.symm x rest rfl
    rw [if_pos (by omega), if_pos (by omega), if_pos (by omega), hr, w64 (n := i + 1) (by omega) (by omega)]
    simp only [fst0]
    by_cases c : x = 0
    · rw [if_pos c, if_pos c]; exact ih (pre ++ [x]) (i + 1) k (by rw [h1]; simp) (by simp; omega) (by omega)
    · rw [if_neg c, if_neg c]
theorem first_eq (l : List Int) (hl : l.length ≤ 1000) (k : Nat) (hk : l.length < k) : impl_first.f k l = some (fst0 l) := by
  unfold impl_first.f; exact first_l0 l (by omega) l [] 0 k rfl rfl hk
/-- The code of coefficients of a size. -/
def cfR (a : Int) (l : List Int) : Int := if szR a ≠ 0 then szR a else if (l.length : Int) ≠ a then 2 else if allW l (-16777216) 16777216 = true then 0 else 3
theorem coefsFault_eq (a : Int) (l : List Int) (k : Nat) (hk : 10 ≤ k) : impl_coefsFault.f k a l = some (cfR a l) := by
  unfold impl_coefsFault.f
  rw [SizeFault_eq]
  simp only [codeIf_eq, Option.bind_some]
  rw [allWithin_eq l 16777216 (by omega) (by omega)]
  simp only [Option.bind_some]
  rw [first_eq _ (by simp) k (by simp; omega)]
  unfold cfR
  by_cases h1 : szR a = 0
  · by_cases h2 : (l.length : Int) = a
    · by_cases h3 : allW l (-16777216) 16777216 = true
      · simp [h1, h2, h3, fst0]
      · simp [h1, h2, h3, fst0]
    · simp [h1, h2, fst0]
  · simp [h1, fst0]
theorem cfR_0 {a : Int} {l : List Int} (h : cfR a l = 0) : (a = 4 ∨ a = 8 ∨ a = 16) ∧ (l.length : Int) = a ∧ allW l (-16777216) 16777216 = true := by
  unfold cfR at h
  by_cases h1 : szR a = 0
  · by_cases h2 : (l.length : Int) = a
    · by_cases h3 : allW l (-16777216) 16777216 = true
      · exact ⟨szR_0.1 h1, h2, h3⟩
      · simp [h1, h2, h3] at h
    · simp [h1, h2] at h
  · simp [h1] at h
/-- The bands of a size. -/
def bnds (s : Int) : List S83 := if s = 4 then [⟨2, 2⟩] else if s = 8 then [⟨4, 2⟩, ⟨6, 2⟩] else [⟨8, 4⟩, ⟨12, 4⟩]
theorem bandsOf_eq (s : Int) : impl_bandsOf.f s = some (bnds s) := by unfold impl_bandsOf.f bnds; split <;> (try rfl); split <;> rfl
theorem bnds_cases (s : Int) : (s = 4 ∧ bnds s = [⟨2, 2⟩]) ∨ (s = 8 ∧ bnds s = [⟨4, 2⟩, ⟨6, 2⟩]) ∨ (s ≠ 4 ∧ s ≠ 8 ∧ bnds s = [⟨8, 4⟩, ⟨12, 4⟩]) := by
  unfold bnds
  by_cases h1 : s = 4
  · exact Or.inl ⟨h1, by rw [if_pos h1]⟩
  · by_cases h2 : s = 8
    · exact Or.inr (Or.inl ⟨h2, by rw [if_neg h1, if_pos h2]⟩)
    · exact Or.inr (Or.inr ⟨h1, h2, by rw [if_neg h1, if_neg h2]⟩)
/-- The sum of the absolute values. -/
def nrm : List Int → Nat
  | [] => 0
  | x :: l => x.natAbs + nrm l
theorem nrm_append : ∀ (a b : List Int), nrm (a ++ b) = nrm a + nrm b
  | [], b => by simp [nrm]
  | x :: a, b => by simp only [List.cons_append, nrm, nrm_append a b]; omega
theorem nrm_le (M : Nat) : ∀ (l : List Int), (∀ x ∈ l, x.natAbs ≤ M) → nrm l ≤ M * l.length
  | [], _ => by simp [nrm]
  | x :: l, h => by
    have h1 := nrm_le M l (fun y hy => h y (by simp [hy]))
    have h2 := h x (by simp)
    simp only [nrm, List.length_cons, Nat.mul_add, Nat.mul_one]; omega
theorem nrm_mem : ∀ {l : List Int} {x : Int}, x ∈ l → x.natAbs ≤ nrm l
  | y :: l, x, h => by
    simp only [nrm]
    rcases List.mem_cons.1 h with rfl | h
    · omega
    · have := nrm_mem h; omega
theorem allW_nrm {l : List Int} {M : Nat} (h : allW l (-(M : Int)) M = true) : nrm l ≤ M * l.length :=
  nrm_le M l (fun x hx => by have := allW_mem h hx; omega)
/-- A band's coefficients. -/
def cutB (b : S83) (l : List Int) : List Int := (l.take (b.f0 + b.f1).toNat).drop b.f0.toNat
theorem cutB_mem {b : S83} {l : List Int} {x : Int} (h : x ∈ cutB b l) : x ∈ l := List.mem_of_mem_take (List.mem_of_mem_drop h)
theorem cutB_len (b : S83) (l : List Int) : (cutB b l).length ≤ l.length := by unfold cutB; rw [List.length_drop, List.length_take]; omega
/-- What BandNorms answers. -/
def bnR (a : Int) (l : List Int) : Int × List Int := if cfR a l ≠ 0 then (cfR a l, []) else (0, (bnds a).map fun b => (nrm (cutB b l) : Int))
theorem bnR_length (a : Int) (l : List Int) : (bnR a l).2.length ≤ 2 := by
  unfold bnR
  split
  · simp
  · rcases bnds_cases a with ⟨_, e⟩ | ⟨_, e⟩ | ⟨_, _, e⟩ <;> simp [e]
theorem abs_eq (x : Int) (h0 : -9223372036854775807 ≤ x) (h1 : x ≤ 9223372036854775807) : impl_abs.f x = some (x.natAbs : Int) := by
  unfold impl_abs.f mx; rw [w64 (by omega) (by omega)]; congr 1; split <;> omega
theorem normOf_l0 (l : List Int) (hl : l.length ≤ 2000000) (hb : ∀ x ∈ l, x.natAbs ≤ 1099511627776) : ∀ (rest pre : List Int) (i s : Int) (k : Nat), l = pre ++ rest → (pre.length : Int) = i → rest.length < k → s = (nrm pre : Int) → impl_normOf.l0 k s l (l.length : Int) i = some (nrm l : Int) := by
  intro rest
  induction rest with
  | nil =>
    intro pre i s k h1 hi hk hs
    obtain ⟨k, rfl⟩ : ∃ m, k = m + 1 := ⟨k - 1, by omega⟩
    simp only [impl_normOf.l0]
    rw [if_neg (by rw [h1]; simp; omega), hs, h1]; simp
  | cons x rest ih =>
    intro pre i s k h1 hi hk hs
    obtain ⟨k, rfl⟩ : ∃ m, k = m + 1 := ⟨k - 1, by omega⟩
    simp only [List.length_cons] at hk
    have hlen : l.length = pre.length + (rest.length + 1) := by rw [h1]; simp
    have hx := hb x (by rw [h1]; simp)
    have hp := nrm_le 1099511627776 pre (fun y hy => hb y (by rw [h1]; simp [hy]))
    have hp2 : 1099511627776 * pre.length ≤ 1099511627776 * 2000000 := Nat.mul_le_mul_left _ (by omega)
    simp only [impl_normOf.l0]
    have hr : rd l i = x := by rw [h1]; exact rd_append_right pre (x :: rest) i hi.symm x rest rfl
    rw [if_pos (by omega), if_pos (by omega), if_pos (by omega), hr, abs_eq x (by omega) (by omega)]
    simp only [Option.bind_some]
    rw [w64 (n := s + _) (by omega) (by omega), w64 (n := i + 1) (by omega) (by omega)]
    exact ih (pre ++ [x]) (i + 1) _ k (by rw [h1]; simp) (by simp; omega) (by omega) (by rw [nrm_append]; simp only [nrm]; omega)
theorem normOf_eq (l : List Int) (hl : l.length ≤ 2000000) (hb : ∀ x ∈ l, x.natAbs ≤ 1099511627776) (k : Nat) (hk : l.length < k) : impl_normOf.f k l = some (nrm l : Int) := by
  unfold impl_normOf.f; exact normOf_l0 l hl hb l [] 0 0 k rfl rfl hk rfl
theorem BandNorms_eq (a : Int) (l : List Int) (hl : l.length ≤ 1048576) (K : Nat) (hK : 200 ≤ K) : impl_BandNorms.f K a l = some (bnR a l) := by
  unfold impl_BandNorms.f bnR
  rw [coefsFault_eq a l K (by omega)]; simp only [Option.bind_some]
  by_cases h : cfR a l = 0
  · obtain ⟨ha, hlen, hw⟩ := cfR_0 h
    rw [if_pos h, if_neg (show ¬ cfR a l ≠ 0 from fun g => g h), bandsOf_eq]; simp only [Option.bind_some]
    have step : ∀ (B : List S83) (i : Int) (out : List Int) (K : Nat), 100 ≤ K → 0 ≤ i → i < B.length → i ≤ 1000 → out.length ≤ 100 → 0 ≤ (rd_T83 B i).f0 → 0 ≤ (rd_T83 B i).f1 → (rd_T83 B i).f0 + (rd_T83 B i).f1 ≤ l.length → impl_BandNorms.l0 (K + 1) l B (B.length : Int) i 0 out = impl_BandNorms.l0 K l B (B.length : Int) (i + 1) 0 (out ++ [(nrm (cutB (rd_T83 B i) l) : Int)]) := by
      intro B i out K hK i0 i1 i2 ho f0 f1 f2
      have hcl := cutB_len (rd_T83 B i) l
      rw [impl_BandNorms.l0, if_pos i1, if_pos i0, if_pos i1, w64 (n := (rd_T83 B i).f0 + (rd_T83 B i).f1) (by omega) (by omega), if_pos f0, if_pos (by omega), if_pos f2]
      unfold impl_Band_of_any.f
      simp only [Option.bind_some]
      have hn := normOf_eq (cutB (rd_T83 B i) l) (by omega) (fun x hx => by have := allW_mem hw (cutB_mem hx); omega) K (by omega)
      unfold cutB at hn
      rw [hn]; simp only [Option.bind_some]
      rw [if_pos (by omega), w64 (n := i + 1) (by omega) (by omega)]
      rfl
    have done : ∀ (B : List S83) (i : Int) (out : List Int) (K : Nat), ¬ i < B.length → impl_BandNorms.l0 (K + 1) l B (B.length : Int) i 0 out = some (0, out) := by
      intro B i out K hi
      rw [impl_BandNorms.l0, if_neg hi]
    obtain ⟨K, rfl⟩ : ∃ z, K = z + 3 := ⟨K - 3, by omega⟩
    rcases bnds_cases a with ⟨e, e1⟩ | ⟨e, e1⟩ | ⟨e, e', e1⟩
    · rw [e1, step [⟨2, 2⟩] 0 [] (K + 2) (by omega) (by omega) (by simp) (by omega) (by simp) (by decide) (by decide) (by show (4 : Int) ≤ _; omega), done [⟨2, 2⟩] (0 + 1) _ (K + 1) (by simp)]
      rfl
    · rw [e1, step [⟨4, 2⟩, ⟨6, 2⟩] 0 [] (K + 2) (by omega) (by omega) (by simp) (by omega) (by simp) (by decide) (by decide) (by show (6 : Int) ≤ _; omega), step [⟨4, 2⟩, ⟨6, 2⟩] (0 + 1) _ (K + 1) (by omega) (by omega) (by simp) (by omega) (by simp) (by decide) (by decide) (by show (8 : Int) ≤ _; omega), done [⟨4, 2⟩, ⟨6, 2⟩] (0 + 1 + 1) _ K (by simp)]
      rfl
    · have h16 : a = 16 := by omega
      rw [e1, step [⟨8, 4⟩, ⟨12, 4⟩] 0 [] (K + 2) (by omega) (by omega) (by simp) (by omega) (by simp) (by decide) (by decide) (by show (12 : Int) ≤ _; omega), step [⟨8, 4⟩, ⟨12, 4⟩] (0 + 1) _ (K + 1) (by omega) (by omega) (by simp) (by omega) (by simp) (by decide) (by decide) (by show (16 : Int) ≤ _; omega), done [⟨8, 4⟩, ⟨12, 4⟩] (0 + 1 + 1) _ K (by simp)]
      rfl
  · rw [if_neg h, if_pos h]
theorem l1In_eq (a b c : Int) : spec_l1In.f a b c = some (decide (b ≤ a ∧ a ≤ c)) := by
  unfold spec_l1In.f
  by_cases h : a ≥ b
  · rw [if_pos h]; congr 1; have : b ≤ a := h; simp [this]
  · rw [if_neg h]; have : ¬ b ≤ a := h; simp [this]
theorem l1All_l0 (a b : Int) : ∀ (rest pre : List Int) (i : Int) (k : Nat), (pre.length : Int) = i → rest.length < k → pre.length + rest.length ≤ 1000000000 → spec_l1All.l0 k (pre ++ rest) a b i = some (allW rest a b) := by
  intro rest
  induction rest with
  | nil =>
    intro pre i k hi hk hl
    obtain ⟨k, rfl⟩ : ∃ m, k = m + 1 := ⟨k - 1, by omega⟩
    simp only [spec_l1All.l0]
    rw [if_neg (by simp; omega)]; rfl
  | cons x rest ih =>
    intro pre i k hi hk hl
    obtain ⟨k, rfl⟩ : ∃ m, k = m + 1 := ⟨k - 1, by omega⟩
    simp only [List.length_cons] at hk hl
    simp only [spec_l1All.l0]
    rw [if_pos (by simp; omega), if_pos (by omega), rd_append_right pre (x :: rest) i hi.symm x rest rfl, l1In_eq, w64 (n := i + 1) (by omega) (by omega)]
    have e : pre ++ x :: rest = (pre ++ [x]) ++ rest := by simp
    rw [e, ih (pre ++ [x]) (i + 1) k (by simp; omega) (by omega) (by simp; omega), allW_cons]
    by_cases c : a ≤ x ∧ x ≤ b <;> simp [c]
theorem l1All_eq (l : List Int) (a b : Int) (k : Nat) (hk : l.length < k) (hl : l.length ≤ 1000000000) : spec_l1All.f k l a b = some (allW l a b) := by
  unfold spec_l1All.f; have := l1All_l0 a b l [] 0 k rfl hk (by simpa using hl); simpa using this
theorem l13Coefs_eq (a : Int) (l : List Int) (k : Nat) (hk : l.length + 2 < k) (hl : l.length ≤ 1000000000) : spec_l13Coefs.f k a l = some (cfR a l) := by
  unfold spec_l13Coefs.f spec_l6Ask.f cfR
  rw [specSizeFault_eq]
  simp only [Option.bind_some]
  by_cases h1 : szR a = 0
  · rw [if_pos h1, if_neg (show ¬ szR a ≠ 0 by simp [h1])]
    by_cases h2 : (l.length : Int) = a
    · rw [if_pos h2, if_neg (show ¬ (l.length : Int) ≠ a by simp [h2])]
      simp only [specSizeFault_eq, Option.bind_some]
      rw [if_pos (show szR (l.length : Int) = 0 by rw [h2]; exact h1), w64 (n := -16777216) (by omega) (by omega), l1All_eq l _ _ k (by omega) hl]
      simp only [Option.bind_some]
      by_cases h3 : allW l (-16777216) 16777216 = true
      · simp [h3]
      · simp [h3]
    · rw [if_neg h2, if_pos h2]
  · rw [if_neg h1, if_pos h1]
theorem l13Bands_eq (s : Int) : spec_l13Bands.f s = some (bnds s) := by unfold spec_l13Bands.f bnds; split <;> (try rfl); split <;> rfl
theorem l1Abs_eq (x : Int) (h0 : -9223372036854775807 ≤ x) (h1 : x ≤ 9223372036854775807) : spec_l1Abs.f x = some (x.natAbs : Int) := by
  unfold spec_l1Abs.f
  by_cases h : x < 0
  · rw [if_pos h, w64 (by omega) (by omega)]; congr 1; omega
  · rw [if_neg h]; congr 1; omega
theorem l1Norm_l0 (l : List Int) (hl : l.length ≤ 2000000) (hb : ∀ x ∈ l, x.natAbs ≤ 1099511627776) : ∀ (rest pre : List Int) (i s : Int) (k : Nat), l = pre ++ rest → (pre.length : Int) = i → rest.length < k → s = (nrm pre : Int) → spec_l1Norm.l0 k l s i = some (nrm l : Int) := by
  intro rest
  induction rest with
  | nil =>
    intro pre i s k h1 hi hk hs
    obtain ⟨k, rfl⟩ : ∃ m, k = m + 1 := ⟨k - 1, by omega⟩
    simp only [spec_l1Norm.l0]
    rw [if_neg (by rw [h1]; simp; omega), hs, h1]; simp
  | cons x rest ih =>
    intro pre i s k h1 hi hk hs
    obtain ⟨k, rfl⟩ : ∃ m, k = m + 1 := ⟨k - 1, by omega⟩
    simp only [List.length_cons] at hk
    have hlen : l.length = pre.length + (rest.length + 1) := by rw [h1]; simp
    have hx := hb x (by rw [h1]; simp)
    have hp := nrm_le 1099511627776 pre (fun y hy => hb y (by rw [h1]; simp [hy]))
    have hp2 : 1099511627776 * pre.length ≤ 1099511627776 * 2000000 := Nat.mul_le_mul_left _ (by omega)
    simp only [spec_l1Norm.l0]
    have hr : rd l i = x := by rw [h1]; exact rd_append_right pre (x :: rest) i hi.symm x rest rfl
    rw [if_pos (by omega), if_pos (by omega), hr, l1Abs_eq x (by omega) (by omega)]
    simp only [Option.bind_some]
    rw [w64 (n := s + _) (by omega) (by omega), w64 (n := i + 1) (by omega) (by omega)]
    exact ih (pre ++ [x]) (i + 1) _ k (by rw [h1]; simp) (by simp; omega) (by omega) (by rw [nrm_append]; simp only [nrm]; omega)
theorem l1Norm_eq (l : List Int) (hl : l.length ≤ 2000000) (hb : ∀ x ∈ l, x.natAbs ≤ 1099511627776) (k : Nat) (hk : l.length < k) : spec_l1Norm.f k l = some (nrm l : Int) := by
  unfold spec_l1Norm.f; exact l1Norm_l0 l hl hb l [] 0 0 k rfl rfl hk rfl
theorem l13Norms_eq (a : Int) (l : List Int) (ha : a = 4 ∨ a = 8 ∨ a = 16) (hlen : (l.length : Int) = a) (hw : allW l (-16777216) 16777216 = true) (K : Nat) (hK : 200 ≤ K) : spec_l13Norms.f K a l = some ((bnds a).map fun b => (nrm (cutB b l) : Int)) := by
  unfold spec_l13Norms.f
  rw [l13Bands_eq]; simp only [Option.bind_some]
  have step : ∀ (B : List S83) (i : Int) (out : List Int) (K : Nat), 100 ≤ K → 0 ≤ i → i < B.length → i ≤ 1000 → out.length ≤ 100 → 0 ≤ (rd_T83 B i).f0 → 0 ≤ (rd_T83 B i).f1 → (rd_T83 B i).f0 + (rd_T83 B i).f1 ≤ l.length → spec_l13Norms.l0 (K + 1) l out B i = spec_l13Norms.l0 K l (out ++ [(nrm (cutB (rd_T83 B i) l) : Int)]) B (i + 1) := by
    intro B i out K hK i0 i1 i2 ho f0 f1 f2
    have hcl := cutB_len (rd_T83 B i) l
    rw [spec_l13Norms.l0, if_pos i1, if_pos i0, w64 (n := (rd_T83 B i).f0 + (rd_T83 B i).f1) (by omega) (by omega), if_pos f0, if_pos (by omega), if_pos f2]
    unfold spec_l13Of_any.f
    simp only [Option.bind_some]
    have hn := l1Norm_eq (cutB (rd_T83 B i) l) (by omega) (fun x hx => by have := allW_mem hw (cutB_mem hx); omega) K (by omega)
    unfold cutB at hn
    rw [hn]; simp only [Option.bind_some]
    rw [if_pos (by omega), w64 (n := i + 1) (by omega) (by omega)]
    rfl
  have done : ∀ (B : List S83) (i : Int) (out : List Int) (K : Nat), ¬ i < B.length → spec_l13Norms.l0 (K + 1) l out B i = some out := by
    intro B i out K hi
    rw [spec_l13Norms.l0, if_neg hi]
  obtain ⟨K, rfl⟩ : ∃ z, K = z + 3 := ⟨K - 3, by omega⟩
  rcases bnds_cases a with ⟨e, e1⟩ | ⟨e, e1⟩ | ⟨e, e', e1⟩
  · rw [e1, step [⟨2, 2⟩] 0 [] (K + 2) (by omega) (by omega) (by simp) (by omega) (by simp) (by decide) (by decide) (by show (4 : Int) ≤ _; omega), done [⟨2, 2⟩] (0 + 1) _ (K + 1) (by simp)]
    rfl
  · rw [e1, step [⟨4, 2⟩, ⟨6, 2⟩] 0 [] (K + 2) (by omega) (by omega) (by simp) (by omega) (by simp) (by decide) (by decide) (by show (6 : Int) ≤ _; omega), step [⟨4, 2⟩, ⟨6, 2⟩] (0 + 1) _ (K + 1) (by omega) (by omega) (by simp) (by omega) (by simp) (by decide) (by decide) (by show (8 : Int) ≤ _; omega), done [⟨4, 2⟩, ⟨6, 2⟩] (0 + 1 + 1) _ K (by simp)]
    rfl
  · have h16 : a = 16 := by omega
    rw [e1, step [⟨8, 4⟩, ⟨12, 4⟩] 0 [] (K + 2) (by omega) (by omega) (by simp) (by omega) (by simp) (by decide) (by decide) (by show (12 : Int) ≤ _; omega), step [⟨8, 4⟩, ⟨12, 4⟩] (0 + 1) _ (K + 1) (by omega) (by omega) (by simp) (by omega) (by simp) (by decide) (by decide) (by show (16 : Int) ≤ _; omega), done [⟨8, 4⟩, ⟨12, 4⟩] (0 + 1 + 1) _ K (by simp)]
    rfl
theorem specBandNorms_eq (a : Int) (l : List Int) (hl : l.length ≤ 1048576) (K : Nat) (hK : l.length + 300 ≤ K) : spec_BandNorms.f K a l = some (bnR a l) := by
  unfold spec_BandNorms.f bnR
  rw [l13Coefs_eq a l K (by omega) (by omega)]; simp only [Option.bind_some]
  by_cases h : cfR a l = 0
  · obtain ⟨ha, hlen, hw⟩ := cfR_0 h
    rw [if_pos h, if_neg (show ¬ cfR a l ≠ 0 from fun g => g h), l13Norms_eq a l ha hlen hw K (by omega)]; rfl
  · rw [if_neg h, if_pos h]
/-- The mask of two norms, from one on. -/
def mskv (l h : Nat) : Int := if l ≤ 4 * h then 0 else if l ≤ 16 * h then 1 else if l ≤ 64 * h then 2 else 3
theorem mskv_range (l h : Nat) : 0 ≤ mskv l h ∧ mskv l h ≤ 3 := by unfold mskv; repeat' split <;> omega
theorem maskOf_l0 (L H : Nat) (hL : L ≤ 1000000000000) (hH : H ≤ 1000000000000) (k : Nat) (hk : 6 ≤ k) : impl_maskOf.l0 k (L : Int) (H : Int) 0 4 = some (mskv L H) := by
  obtain ⟨k, rfl⟩ : ∃ m, k = m + 4 := ⟨k - 4, by omega⟩
  have e1 : wrap64 (4 * (H : Int)) = 4 * H := w64 (by omega) (by omega)
  have e2 : wrap64 (16 * (H : Int)) = 16 * H := w64 (by omega) (by omega)
  have e3 : wrap64 (64 * (H : Int)) = 64 * H := w64 (by omega) (by omega)
  have n1 : wrap64 (0 + 1) = 1 := w64 (by omega) (by omega)
  have n2 : wrap64 (1 + 1) = 2 := w64 (by omega) (by omega)
  have n3 : wrap64 (2 + 1) = 3 := w64 (by omega) (by omega)
  have m1 : wrap64 (4 * 4) = 16 := w64 (by omega) (by omega)
  have m2 : wrap64 (16 * 4) = 64 := w64 (by omega) (by omega)
  have m3 : wrap64 (64 * 4) = 256 := w64 (by omega) (by omega)
  unfold mskv
  simp only [impl_maskOf.l0, e1, n1, m1, e2, n2, m2, e3, n3, m3]
  by_cases c1 : L ≤ 4 * H
  · rw [if_pos (by omega), if_neg (by omega), if_pos c1]
  · rw [if_pos (by omega), if_pos (by omega), if_neg c1]
    by_cases c2 : L ≤ 16 * H
    · rw [if_pos (by omega), if_neg (by omega), if_pos c2]
    · rw [if_pos (by omega), if_pos (by omega), if_neg c2]
      by_cases c3 : L ≤ 64 * H
      · rw [if_pos (by omega), if_neg (by omega), if_pos c3]
      · rw [if_pos (by omega), if_pos (by omega), if_neg c3, if_neg (by omega)]
/-- The mask of coefficients of a size. -/
def mskL (l : List Int) : Int := mskv (nrm (l.take (l.length / 2))) (nrm (l.drop (l.length / 2)))
theorem coef_nat {l : List Int} (h : allW l (-16777216) 16777216 = true) : ∀ x ∈ l, x.natAbs ≤ 16777216 := fun x hx => by have := allW_mem h hx; omega
theorem maskOf_eq (l : List Int) (hl : l.length ≤ 64) (hw : allW l (-16777216) 16777216 = true) (k : Nat) (hk : 80 ≤ k) : impl_maskOf.f k l = some (mskL l) := by
  unfold impl_maskOf.f
  have hb := coef_nat hw
  have e : wrap64 ((l.length : Int) / 2) = (l.length : Int) / 2 := w64 (by omega) (by omega)
  have et : ((l.length : Int) / 2).toNat = l.length / 2 := by omega
  rw [e, if_pos (by omega), if_pos (by omega), et]
  have b1 : ∀ x ∈ l.take (l.length / 2), x.natAbs ≤ 16777216 := fun x hx => hb x (List.mem_of_mem_take hx)
  have b2 : ∀ x ∈ l.drop (l.length / 2), x.natAbs ≤ 16777216 := fun x hx => hb x (List.mem_of_mem_drop hx)
  have l1 : (l.take (l.length / 2)).length ≤ 64 := by rw [List.length_take]; omega
  have l2 : (l.drop (l.length / 2)).length ≤ 64 := by rw [List.length_drop]; omega
  have n1 := nrm_le 16777216 _ b1
  have n2 := nrm_le 16777216 _ b2
  have m1 : 16777216 * (l.take (l.length / 2)).length ≤ 16777216 * 64 := Nat.mul_le_mul_left _ l1
  have m2 : 16777216 * (l.drop (l.length / 2)).length ≤ 16777216 * 64 := Nat.mul_le_mul_left _ l2
  rw [normOf_eq _ (by omega) (fun x hx => by have := b1 x hx; omega) k (by omega)]
  simp only [Option.bind_some]
  rw [normOf_eq _ (by omega) (fun x hx => by have := b2 x hx; omega) k (by omega)]
  simp only [Option.bind_some]
  rw [maskOf_l0 _ _ (by omega) (by omega) k (by omega)]; rfl
def maskR (a : Int) (l : List Int) : Int × Int := if cfR a l = 0 then (0, mskL l) else (cfR a l, 0)
theorem MaskOf_eq (a : Int) (l : List Int) (k : Nat) (hk : 80 ≤ k) : impl_MaskOf.f k a l = some (maskR a l) := by
  unfold impl_MaskOf.f maskR
  rw [coefsFault_eq a l k (by omega)]
  simp only [Option.bind_some]
  by_cases h : cfR a l = 0
  · have := cfR_0 h
    rw [if_pos h, if_pos h, maskOf_eq l (by omega) this.2.2 k hk]; rfl
  · rw [if_neg h, if_neg h]
theorem l13Mask_l0 (L H : Nat) (hL : L ≤ 1000000000000) (hH : H ≤ 1000000000000) (k : Nat) (hk : 6 ≤ k) : spec_l13Mask.l0 k (L : Int) (H : Int) 0 4 = some (mskv L H) := by
  obtain ⟨k, rfl⟩ : ∃ m, k = m + 4 := ⟨k - 4, by omega⟩
  have e1 : wrap64 (4 * (H : Int)) = 4 * H := w64 (by omega) (by omega)
  have e2 : wrap64 (16 * (H : Int)) = 16 * H := w64 (by omega) (by omega)
  have e3 : wrap64 (64 * (H : Int)) = 64 * H := w64 (by omega) (by omega)
  have n1 : wrap64 (0 + 1) = 1 := w64 (by omega) (by omega)
  have n2 : wrap64 (1 + 1) = 2 := w64 (by omega) (by omega)
  have n3 : wrap64 (2 + 1) = 3 := w64 (by omega) (by omega)
  have m1 : wrap64 (4 * 4) = 16 := w64 (by omega) (by omega)
  have m2 : wrap64 (16 * 4) = 64 := w64 (by omega) (by omega)
  have m3 : wrap64 (64 * 4) = 256 := w64 (by omega) (by omega)
  unfold mskv
  simp only [spec_l13Mask.l0, e1, n1, m1, e2, n2, m2, e3, n3, m3]
  by_cases c1 : L ≤ 4 * H
  · rw [if_pos (by omega), if_neg (by omega), if_pos c1]
  · rw [if_pos (by omega), if_pos (by omega), if_neg c1]
    by_cases c2 : L ≤ 16 * H
    · rw [if_pos (by omega), if_neg (by omega), if_pos c2]
    · rw [if_pos (by omega), if_pos (by omega), if_neg c2]
      by_cases c3 : L ≤ 64 * H
      · rw [if_pos (by omega), if_neg (by omega), if_pos c3]
      · rw [if_pos (by omega), if_pos (by omega), if_neg c3, if_neg (by omega)]
theorem l13Mask_eq (a : Int) (l : List Int) (hl : l.length ≤ 64) (ha : (l.length : Int) = a) (hw : allW l (-16777216) 16777216 = true) (k : Nat) (hk : 80 ≤ k) : spec_l13Mask.f k a l = some (mskL l) := by
  unfold spec_l13Mask.f
  have hb := coef_nat hw
  have e : wrap64 (Int.tdiv a 2) = (l.length : Int) / 2 := by rw [← ha, Int.tdiv_eq_ediv_of_nonneg (by omega), w64 (by omega) (by omega)]
  have et : ((l.length : Int) / 2).toNat = l.length / 2 := by omega
  rw [e, if_pos (by omega), if_pos (by omega), et]
  have b1 : ∀ x ∈ l.take (l.length / 2), x.natAbs ≤ 16777216 := fun x hx => hb x (List.mem_of_mem_take hx)
  have b2 : ∀ x ∈ l.drop (l.length / 2), x.natAbs ≤ 16777216 := fun x hx => hb x (List.mem_of_mem_drop hx)
  have l1 : (l.take (l.length / 2)).length ≤ 64 := by rw [List.length_take]; omega
  have l2 : (l.drop (l.length / 2)).length ≤ 64 := by rw [List.length_drop]; omega
  have n1 := nrm_le 16777216 _ b1
  have n2 := nrm_le 16777216 _ b2
  have m1 : 16777216 * (l.take (l.length / 2)).length ≤ 16777216 * 64 := Nat.mul_le_mul_left _ l1
  have m2 : 16777216 * (l.drop (l.length / 2)).length ≤ 16777216 * 64 := Nat.mul_le_mul_left _ l2
  rw [l1Norm_eq _ (by omega) (fun x hx => by have := b1 x hx; omega) k (by omega)]
  simp only [Option.bind_some]
  rw [l1Norm_eq _ (by omega) (fun x hx => by have := b2 x hx; omega) k (by omega)]
  simp only [Option.bind_some]
  rw [l13Mask_l0 _ _ (by omega) (by omega) k (by omega)]; rfl
theorem specMaskOf_eq (a : Int) (l : List Int) (k : Nat) (hk : l.length + 80 ≤ k) (hl : l.length ≤ 1000000000) : spec_MaskOf.f k a l = some (maskR a l) := by
  unfold spec_MaskOf.f maskR
  rw [l13Coefs_eq a l k (by omega) hl]
  simp only [Option.bind_some]
  by_cases h : cfR a l = 0
  · have := cfR_0 h
    rw [if_pos h, if_pos h, l13Mask_eq a l (by omega) this.2.1 this.2.2 k (by omega)]; rfl
  · rw [if_neg h, if_neg h]
def normR (l : List Int) : Int × Int := if (l.length : Int) > 64 then (2, 0) else if allW l (-1099511627776) 1099511627776 = true then (0, (nrm l : Int)) else (3, 0)
theorem NormOf_eq (l : List Int) (k : Nat) (hk : 70 ≤ k) : impl_NormOf.f k l = some (normR l) := by
  unfold impl_NormOf.f normR
  by_cases h : (l.length : Int) > 64
  · rw [if_pos h, if_pos h]
  · rw [if_neg h, if_neg h, allWithin_eq l _ (by omega) (by omega)]
    simp only [Option.bind_some]
    by_cases hw : allW l (-1099511627776) 1099511627776 = true
    · rw [if_pos hw, if_pos hw, normOf_eq l (by omega) (fun x hx => by have := allW_mem hw hx; omega) k (by omega)]; rfl
    · rw [if_neg hw, if_neg hw]
theorem lwBig_eq (l : List Int) : laws_lwBig.f l = some (decide ((l.length : Int) > 1048576)) := rfl
theorem cut_one (L : List Int) (p q : Nat) (h : L.length = q) : nrm ((L.take q).drop p) = nrm (L.drop p) := by rw [List.take_of_length_le (by omega)]
theorem cut_two (L : List Int) (p q r : Nat) (h : L.length = r) (hpq : p ≤ q) : nrm (L.drop p) = nrm ((L.take q).drop p) + nrm ((L.take r).drop q) := by
  rw [← nrm_append, List.take_of_length_le (by omega : L.length ≤ r), List.drop_take]
  congr 1
  rw [show L.drop q = (L.drop p).drop (q - p) by rw [List.drop_drop]; congr 1; omega]
  exact (List.take_append_drop (q - p) (L.drop p)).symm

theorem FnBands_l1 (a : Int) (L : List Int) (x9 : Int) (N : List Int) (B : List S83) (c0 d0 e0 low : Int) (hx : x9 = a) (hlen : (N.length : Int) = (B.length : Int)) (hl0 : 0 ≤ low) (hl1 : low ≤ (L.length : Int)) (R : Int × Int) (hR : ∀ K, 100 ≤ K → impl_NormOf.f K (L.drop low.toNat) = some R) (hN : ∀ x ∈ N, 0 ≤ x ∧ x ≤ 1000000000000) (hNl : N.length ≤ 10) :
    ∀ (rest pre : List Int) (s i : Int) (K : Nat), N = pre ++ rest → (pre.length : Int) = i → 0 ≤ s → s ≤ 1000000000000 * pre.length → s + rest.sum = R.2 → 110 + rest.length ≤ K → laws_FnBands.l1 K a L x9 s i c0 N d0 B e0 low = some true := by
  intro rest
  induction rest with
  | nil =>
    intro pre s i K hN' hi s0 s1 hs hK
    obtain ⟨K, rfl⟩ : ∃ z, K = z + 1 := ⟨K - 1, by omega⟩
    rw [List.append_nil] at hN'
    subst hN'
    rw [laws_FnBands.l1, if_neg (by omega), if_pos hx, if_pos hlen, if_pos hl0, if_pos hl1, hR K (by simp at hK; omega)]
    simp only [Option.bind_some, List.sum_nil] at hs ⊢
    rw [show s = R.2 by omega]; simp
  | cons x rest ih =>
    intro pre s i K hN' hi s0 s1 hs hK
    obtain ⟨K, rfl⟩ : ∃ z, K = z + 1 := ⟨K - 1, by omega⟩
    have hxm := hN x (by rw [hN']; simp)
    have hpl : pre.length + (rest.length + 1) = N.length := by rw [hN']; simp
    have hrd : rd N i = x := by rw [hN']; exact rd_append_right pre (x :: rest) i hi.symm x rest rfl
    rw [laws_FnBands.l1, if_pos (by omega), if_pos (by omega), hrd, w64 (n := s + x) (by omega) (by omega), w64 (n := i + 1) (by omega) (by omega)]
    refine ih (pre ++ [x]) (s + x) (i + 1) K (by rw [hN']; simp) (by simp; omega) (by omega) (by simp; omega) ?_ (by simp at hK; omega)
    simp only [List.sum_cons] at hs
    omega
theorem FnBands : laws_FnBands.Pure := by
  intro l _ _ hb
  refine ⟨2000, ?_⟩
  unfold laws_FnBands.f
  rw [lwBig_eq]; simp only [Option.bind_some]
  by_cases hbig : (l.length : Int) > 1048576
  · rw [if_pos (by simpa using hbig)]
  rw [if_neg (by simpa using hbig)]
  obtain ⟨a, L, e, hL, _⟩ := DrawBandNorms_ok (l := l) hb 2000 (by omega)
  rw [e]; simp only [Option.bind_some]
  rw [BandNorms_eq a L (by omega) 2000 (by omega), MaskOf_eq a L 2000 (by omega)]; simp only [Option.bind_some]
  unfold impl_BandsOf.f impl_LowCount.f
  rw [SizeFault_eq]; simp only [Option.bind_some]
  rw [specBandNorms_eq a L (by omega) 2000 (by omega), specMaskOf_eq a L 2000 (by omega) (by omega), specSizeFault_eq, bandsOf_eq]
  simp only [Option.bind_some]
  by_cases hs : szR a = 0
  · rw [if_pos hs, if_pos hs]
    simp only [Option.bind_some, if_true, beq_self_eq_true, Bool.not_true, Bool.or_self, Bool.false_eq_true, if_false, hs, bne_self_eq_false]
    have hs' := szR_0.1 hs
    obtain ⟨h, hh, h2, h3, h4⟩ := half_of hs'
    rw [hh, laws_FnBands.j0, if_neg (by simp)]
    by_cases hc : cfR a L = 0
    · have hbn : bnR a L = (0, (bnds a).map fun b => (nrm (cutB b L) : Int)) := by unfold bnR; rw [if_neg (show ¬ cfR a L ≠ 0 from fun g => g hc)]
      obtain ⟨_, hlen, hw⟩ := cfR_0 hc
      rw [hbn]
      simp only [if_true]
      rw [w64 (n := h * 2) (by omega) (by omega), if_pos (by omega)]
      have hR : ∀ K, 100 ≤ K → impl_NormOf.f K (L.drop h.toNat) = some (0, (nrm (L.drop h.toNat) : Int)) := by
        intro K hK
        rw [NormOf_eq _ K (by omega)]
        unfold normR
        rw [if_neg (by rw [List.length_drop]; omega), if_pos (allW_mk fun x hx => by have := allW_mem hw (List.mem_of_mem_drop hx); omega)]
      have hnle : ∀ b : S83, 0 ≤ ((nrm (cutB b L) : Nat) : Int) ∧ ((nrm (cutB b L) : Nat) : Int) ≤ 1000000000000 := by
        intro b
        have h1 := nrm_le 16777216 (cutB b L) (fun x hx => by have := allW_mem hw (cutB_mem hx); omega)
        have h2 := cutB_len b L
        have h3 : 16777216 * (cutB b L).length ≤ 16777216 * 20 := Nat.mul_le_mul_left _ (by omega)
        omega
      rcases bnds_cases a with ⟨ea, e1⟩ | ⟨ea, e1⟩ | ⟨ea, ea', e1⟩
      · rw [e1]
        have hh2 : h = 2 := by omega
        subst hh2
        have hsum := cut_one L 2 4 (by omega)
        rw [laws_FnBands.l0, if_pos (by simp), if_pos (by omega), if_pos (by rfl), if_neg (by show ¬ (2 : Int) < 1; omega), if_neg (by show ¬ (2 : Int) > 4; omega), show wrap64 (2 + (rd_T83 [⟨2, 2⟩] 0).f1) = 4 by decide +kernel, show wrap64 (0 + 1) = 1 by decide +kernel, laws_FnBands.l0, if_neg (by simp)]
        refine FnBands_l1 a L 4 _ [⟨2, 2⟩] 0 0 0 2 (by omega) (by simp) (by omega) (by omega) _ hR ?_ (by simp) _ [] 0 0 _ rfl rfl (by omega) (by simp) ?_ (by simp)
        · intro x hx; simp only [List.map_cons, List.map_nil, List.mem_singleton] at hx; rw [hx]; exact hnle _
        · simp only [List.map_cons, List.map_nil, List.sum_cons, List.sum_nil]
          show (0 : Int) + ((nrm ((L.take 4).drop 2) : Int) + 0) = _
          rw [hsum]; simp
      · rw [e1]
        have hh2 : h = 4 := by omega
        subst hh2
        have hsum := cut_two L 4 6 8 (by omega) (by omega)
        rw [laws_FnBands.l0, if_pos (by simp), if_pos (by omega), if_pos (by rfl), if_neg (by show ¬ (2 : Int) < 1; omega), if_neg (by show ¬ (2 : Int) > 4; omega), show wrap64 (4 + (rd_T83 [⟨4, 2⟩, ⟨6, 2⟩] 0).f1) = 6 by decide +kernel, show wrap64 (0 + 1) = 1 by decide +kernel,
          laws_FnBands.l0, if_pos (by simp), if_pos (by omega), if_pos (by rfl), if_neg (by show ¬ (2 : Int) < 1; omega), if_neg (by show ¬ (2 : Int) > 4; omega), show wrap64 (6 + (rd_T83 [⟨4, 2⟩, ⟨6, 2⟩] 1).f1) = 8 by decide +kernel, show wrap64 (1 + 1) = 2 by decide +kernel, laws_FnBands.l0, if_neg (by simp)]
        refine FnBands_l1 a L 8 _ [⟨4, 2⟩, ⟨6, 2⟩] 0 0 0 4 (by omega) (by simp) (by omega) (by omega) _ hR ?_ (by simp) _ [] 0 0 _ rfl rfl (by omega) (by simp) ?_ (by simp)
        · intro x hx; simp only [List.map_cons, List.map_nil, List.mem_cons, List.not_mem_nil, or_false] at hx; rcases hx with hx | hx <;> rw [hx] <;> exact hnle _
        · simp only [List.map_cons, List.map_nil, List.sum_cons, List.sum_nil]
          show (0 : Int) + ((nrm ((L.take 6).drop 4) : Int) + ((nrm ((L.take 8).drop 6) : Int) + 0)) = _
          rw [show ((nrm (L.drop (4 : Int).toNat) : Nat) : Int) = ((nrm ((L.take 6).drop 4) + nrm ((L.take 8).drop 6) : Nat) : Int) by rw [← hsum]; rfl]; simp
      · have h16 : a = 16 := by omega
        rw [e1]
        have hh2 : h = 8 := by omega
        subst hh2
        have hsum := cut_two L 8 12 16 (by omega) (by omega)
        rw [laws_FnBands.l0, if_pos (by simp), if_pos (by omega), if_pos (by rfl), if_neg (by show ¬ (4 : Int) < 1; omega), if_neg (by show ¬ (4 : Int) > 4; omega), show wrap64 (8 + (rd_T83 [⟨8, 4⟩, ⟨12, 4⟩] 0).f1) = 12 by decide +kernel, show wrap64 (0 + 1) = 1 by decide +kernel,
          laws_FnBands.l0, if_pos (by simp), if_pos (by omega), if_pos (by rfl), if_neg (by show ¬ (4 : Int) < 1; omega), if_neg (by show ¬ (4 : Int) > 4; omega), show wrap64 (12 + (rd_T83 [⟨8, 4⟩, ⟨12, 4⟩] 1).f1) = 16 by decide +kernel, show wrap64 (1 + 1) = 2 by decide +kernel, laws_FnBands.l0, if_neg (by simp)]
        refine FnBands_l1 a L 16 _ [⟨8, 4⟩, ⟨12, 4⟩] 0 0 0 8 (by omega) (by simp) (by omega) (by omega) _ hR ?_ (by simp) _ [] 0 0 _ rfl rfl (by omega) (by simp) ?_ (by simp)
        · intro x hx; simp only [List.map_cons, List.map_nil, List.mem_cons, List.not_mem_nil, or_false] at hx; rcases hx with hx | hx <;> rw [hx] <;> exact hnle _
        · simp only [List.map_cons, List.map_nil, List.sum_cons, List.sum_nil]
          show (0 : Int) + ((nrm ((L.take 12).drop 8) : Int) + ((nrm ((L.take 16).drop 12) : Int) + 0)) = _
          rw [show ((nrm (L.drop (8 : Int).toNat) : Nat) : Int) = ((nrm ((L.take 12).drop 8) + nrm ((L.take 16).drop 12) : Nat) : Int) by rw [← hsum]; rfl]; simp
    · have hbn : (bnR a L).1 = cfR a L := by unfold bnR; rw [if_pos hc]
      rw [if_neg (by rw [hbn]; exact hc)]
  · have hc : cfR a L = szR a := by unfold cfR; rw [if_pos hs]
    have hbn : (bnR a L).1 = szR a := by unfold bnR; rw [if_pos (by rw [hc]; exact hs), hc]
    rw [if_neg hs, if_neg hs]
    simp only [Option.bind_some, if_true, beq_self_eq_true, Bool.not_true, Bool.or_self, Bool.false_eq_true, if_false, bne_self_eq_false]
    rw [laws_FnBands.j0, if_neg (by simp), if_neg (by rw [hbn]; exact hs)]

end Go.Proofs.Ytpbkbibjlbbkbaa.Pure
