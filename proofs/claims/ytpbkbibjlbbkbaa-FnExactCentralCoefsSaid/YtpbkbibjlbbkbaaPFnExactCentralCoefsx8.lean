-- Contracts of the functions that the law reaches, written by wip/xprint.py of this repo.
import Derived.Test.YtpbkbibjlbbkbaaPFnExactCentralCoefsx0
import Derived.Test.YtpbkbibjlbbkbaaPFnExactCentralCoefsx1
import Derived.Test.YtpbkbibjlbbkbaaPFnExactCentralCoefsx7
namespace Go.Proofs.Ytpbkbibjlbbkbaa.PFnExactCentralCoefs
open Go.RowKit Go.Proofs.YtpbkbibjlbbkbaaW.PrintWords Go.Proofs.YtpbkbibjlbbkbaaW.PrintLast Go.Proofs.YtpbkbibjlbbkbaaW.PrintMore
attribute [local go_sem] max2_int min2_int max_two min_two max_three min_three max_four min_four   -- for this text's walks alone
set_option linter.unusedVariables false
set_option linter.unusedSimpArgs false

/-! ### impl_gainsFault: function 144 -/
/-- The closure: is a gain out of its range. -/
def gainsP (rung mask x : Int) : Option Bool := (impl_inRange.f x 0 65535).bind fun b => if b = true then ((impl_gainRung.f rung mask).bind fun q => (impl_Restore.f x q).bind fun p => some (!decide (p.1 = 0))) else some true
def impl_gainsFault.f (l0 : List Int) (a1 : Int) (a2 : Int) : Option (Int) := (anyP (gainsP a1 a2) l0).bind fun b => impl_codeIf.f b 3
set_option maxHeartbeats 2000000 in
theorem gains_asks (rung mask : Int) (B B2 : Nat) (w : World) (hB : B < w.heap.size) (hB2 : B2 < w.heap.size) (hcell : w.cell? ⟨B, 0, none⟩ = some (.int .i64 rung)) (hcell2 : w.cell? ⟨B2, 0, none⟩ = some (.int .i64 mask)) :
    Asks 199 #[.pointer (some ⟨B, 0, none⟩), .pointer (some ⟨B2, 0, none⟩)] (gainsP rung mask) w := fun x b W hb hx => by
  have hc1 : W.cell? ⟨B, 0, none⟩ = some (.int .i64 rung) := (hb.cell (p := ⟨B, 0, none⟩) hB).trans hcell
  have hc2 : W.cell? ⟨B2, 0, none⟩ = some (.int .i64 mask) := (hb.cell (p := ⟨B2, 0, none⟩) hB2).trans hcell2
  have s1 := Aside0.mk (Nat.lt_of_lt_of_le hB (below_size hb))
  have s2 := Aside0.mk (Nat.lt_of_lt_of_le hB2 (below_size hb))
  have S1 := Aside0.mk hc1
  have S2 := Aside0.mk hc2
  unfold gainsP at hx
  replace hx := Option.bind_eq_some_iff.mp hx
  obtain ⟨b1, h1, hx⟩ := hx
  have H1 := Aside0.mk h1
  clear h1 hcell hcell2 hb hB hB2 hc1 hc2
  show Calls Try.prog 199 #[.int .i64 x, .pointer (some ⟨B, 0, none⟩), .pointer (some ⟨B2, 0, none⟩)] W _
  have hfd : ∀ (x0 x1 : Int) (W : World), (Instr.field 31 (.agg #[.int .i64 x0, .int .i64 x1]) 0).run Try.prog W = .ok (.int .i64 x0) W := fun _ _ _ => by kernel_rfl
  cases b1 with
  | true =>
    rw [if_pos rfl] at hx
    replace hx := Option.bind_eq_some_iff.mp hx
    obtain ⟨q, h3, hx⟩ := hx
    have H3 := Aside0.mk h3
    replace hx := Option.bind_eq_some_iff.mp hx
    obtain ⟨⟨p1, p2⟩, h2, hx⟩ := hx
    have H2 := Aside0.mk h2
    obtain rfl := Option.some.inj hx
    clear h2 h3 hx
    go_enter Try.func199, Try.ntmps199
    go_wp2_with (first | (go_at_call 125; refine (impl_inRange.calls x 0 65535 true _ H1.out).mono ?_; rintro e w' ⟨rfl, hd⟩; have hc1 : w'.cell? ⟨B, 0, none⟩ = some (.int .i64 rung) := (hd.below.cell (p := ⟨B, 0, none⟩) s1.out).trans S1.out; have hc2 : w'.cell? ⟨B2, 0, none⟩ = some (.int .i64 mask) := (hd.below.cell (p := ⟨B2, 0, none⟩) s2.out).trans S2.out; have HB1 := Aside0.mk hd.below; clear hd) | (go_at_call 200; refine (impl_gainRung.calls rung mask q _ H3.out).mono ?_; rintro e w' ⟨rfl, hd⟩; have HB2 := Aside0.mk (below_step HB1.out (by first | exact hd.below | exact hd)); clear hd) | (go_at_call 142; refine (impl_Restore.calls x q p1 p2 _ H2.out).mono ?_; rintro e w' ⟨rfl, hd⟩; have HB3 := Aside0.mk (below_step HB2.out hd)))
    go_ret
    exact ⟨by first | rfl | simp_all, HB3.out⟩
  | false =>
    rw [if_neg (by simp)] at hx
    obtain rfl := Option.some.inj hx
    clear hx
    go_enter Try.func199, Try.ntmps199
    go_wp2_with (go_at_call 125; refine (impl_inRange.calls x 0 65535 false _ H1.out).mono ?_; rintro e w' ⟨rfl, hd⟩)
    go_ret
    exact ⟨by first | rfl | simp_all, hd.below⟩
set_option maxHeartbeats 1000000 in
set_option maxRecDepth 100000 in
theorem impl_gainsFault.calls (A0 : Option Addr) (c0 : Nat) (l0 : List Int) (a1 : Int) (a2 : Int) (r : Int) (w : World) (hr0 : Kd.C (Kd.int .i64) w A0 l0.length l0) (hc0 : l0.length ≤ c0) (h : impl_gainsFault.f l0 a1 a2 = some r) :
    Calls Try.prog 144 #[.slice A0 l0.length c0, .int .i64 a1, .int .i64 a2] w fun e w' => e = .returned (.int .i64 r) ∧ Below w.heap.size w w' := by
  unfold impl_gainsFault.f at h
  replace h := Option.bind_eq_some_iff.mp h
  obtain ⟨b, hb, h⟩ := h
  have H9 := Aside0.mk h
  clear h
  have eg : ∀ args w, (callFunc 199 args).run Try.prog w = .ok (.enter 199 args) w := enters_of Try.func199 (by kernel_rfl) rfl
  have HC0 := (contains_calls (gainsP a1 a2) 199 #[.pointer (some ⟨w.heap.size, 0, none⟩), .pointer (some ⟨(w.alloc (.cells #[.int .i64 a1] 2)).heap.size, 0, none⟩)] eg A0 c0 l0 b ((w.alloc (.cells #[.int .i64 a1] 2)).alloc (.cells #[.int .i64 a2] 2))
    (gains_asks a1 a2 _ _ _ (by simp <;> omega) (by simp <;> omega) (by simp) (by simp)) (Kd.C_alloc (Kd.C_alloc hr0 _) _) hc0 hb)
  rw [show (w.alloc (.cells #[.int .i64 a1] 2)).heap.size = w.heap.size + 1 by simp] at HC0
  have HC := Aside0.mk HC0
  clear hr0 hc0 hb eg HC0
  go_enter Try.func144, Try.ntmps144
  go_wp2_with (first | (go_at_call 140; refine HC.out.mono ?_; rintro e w' ⟨rfl, hb⟩; have HB1 := Aside0.mk hb; clear hb) | (go_at_call 118; refine (impl_codeIf.calls b 3 r _ H9.out).mono ?_; rintro e w' ⟨rfl, hd⟩))
  go_ret
  exact ⟨rfl, below_then (((Below.refl _ w).alloc (Nat.le_refl _) _).alloc (by simp <;> omega) _) (by simp <;> omega) (below_step HB1.out (by first | exact hd.below | exact hd))⟩

/-! ### impl_abs: function 162 -/
def impl_abs.f (a0 : Int) : Option (Int) := some (mx a0 (wrap64 (-a0)))
set_option maxHeartbeats 8000000 in
set_option maxRecDepth 100000 in
theorem impl_abs.calls (a0 : Int) (r : Int) (w : World) (h : impl_abs.f a0 = some r) :
  Calls Try.prog 162 #[.int .i64 a0] w fun e w' => e = .returned (.int .i64 r) ∧ Below w.heap.size w w' := by
 have HB := Aside0.mk (Below.refl w.heap.size w)
 have H : (some (mx a0 (wrap64 (-a0)))) = some r := h
 clear h
 obtain ⟨ji2, hji2⟩ : ∃ j_ : Int, (mx a0 (wrap64 (-a0))) = j_ := ⟨_, rfl⟩
 replace H : (some ji2) = some r := by first | (rw [hji2] at H; exact H) | (simp only [hji2] at H ⊢; exact H)
 have hji2_ : (if a0 < (wrap64 (-a0)) then (wrap64 (-a0)) else a0) = ji2 := hji2
 obtain rfl := Option.some.inj H
 go_enter Try.func162, Try.ntmps162
 go_wp2
 go_ret
 exact ⟨by first | rfl | (simp [errW_none, errW_some] <;> rfl) | (simp only [← hji2]; first | rfl | (simp [errW_none, errW_some] <;> rfl)) | (simp [*, errW_none, errW_some] <;> rfl), bnw⟩

/-! ### impl_normOf: function 98 -/
def impl_normOf.l0 : Nat → Int → List Int → Int → Int → Option (Int)
 | 0, _, _, _, _ => none
 | k + 1, x3, x6, x7, x8 => if x8 < x7 then (if 0 ≤ x8 then (if x8 < (x6.length : Int) then ((impl_abs.f (rd x6 x8)).bind fun t288 => (impl_normOf.l0 k (wrap64 (x3 + t288)) x6 x7 (wrap64 (x8 + 1)))) else (none)) else (none)) else (some x3)
def impl_normOf.f (k : Nat) (l0 : List Int) : Option (Int) := impl_normOf.l0 k 0 l0 (l0.length : Int) 0
theorem impl_normOf.mono_l : ∀ k, (∀ y0 y1 y2 y3, LeO (impl_normOf.l0 k y0 y1 y2 y3) (impl_normOf.l0 (k + 1) y0 y1 y2 y3))
 | 0 => fun _ _ _ _ r h => by simp [impl_normOf.l0] at h
 | k + 1 => by
  have ih0 := impl_normOf.mono_l k
  ·intro y0 y1 y2 y3
   unfold impl_normOf.l0
   repeat' first
   | (with_reducible exact ih0 _ _ _ _)
   | (with_reducible exact LeO.refl _)
   | (with_reducible exact LeO.none _)
   | (with_reducible refine LeO.ite ?_ ?_)
   | (with_reducible refine LeO.bind ?_ (fun _ => ?_))
   | exact ih0 _ _ _ _
   | exact LeO.none _
   | refine LeO.ite ?_ ?_
   | refine LeO.bind ?_ (fun _ => ?_)
theorem impl_normOf.mono : ∀ a0 k, LeO (impl_normOf.f k a0) (impl_normOf.f (k + 1) a0) := by
 intro a0 k
 have ih0 := impl_normOf.mono_l k
 unfold impl_normOf.f
 repeat' first
   | (with_reducible exact ih0 _ _ _ _)
   | (with_reducible exact LeO.refl _)
   | (with_reducible exact LeO.none _)
   | (with_reducible refine LeO.ite ?_ ?_)
   | (with_reducible refine LeO.bind ?_ (fun _ => ?_))
   | exact ih0 _ _ _ _
   | exact LeO.none _
   | refine LeO.ite ?_ ?_
   | refine LeO.bind ?_ (fun _ => ?_)
set_option maxHeartbeats 8000000 in
set_option maxRecDepth 100000 in
theorem impl_normOf.calls (k : Nat) (A0 : Option Addr) (c0 : Nat) (l0 : List Int) (r : Int) (w : World) (hr0 : Kd.C (Kd.int .i64) w A0 l0.length l0) (hc0 : l0.length ≤ c0) (h : impl_normOf.f k l0 = some r) :
  Calls Try.prog 98 #[.slice A0 l0.length c0] w fun e w' => e = .returned (.int .i64 r) ∧ Below w.heap.size w w' := by
 have HR0 := Aside0.mk hr0
 have HC0 := Aside0.mk hc0
 clear hr0 hc0
 have HB := Aside0.mk (Below.refl w.heap.size w)
 have H : (impl_normOf.l0 k 0 l0 (l0.length : Int) 0) = some r := h
 clear h
 have H' := Aside0.mk H
 clear H
 go_enter Try.func98, Try.ntmps98
 go_wp2
 go_loopg [3, 8] k (fun kq v3 v8 w' => ∃ (x3_1 : Int) (x8_1 : Int), v3 = .int .i64 x3_1 ∧ v8 = .int .i64 x8_1 ∧ Aside0 (impl_normOf.l0 kq x3_1 l0 (l0.length : Int) x8_1 = some r) ∧ Aside0 (kq ≤ k) ∧ Aside0 (Below w.heap.size w w'))
 case atStart => exact ⟨(0), (0), (by first | rfl | (simp; done) | (simp [*]; done)), (by first | rfl | (simp; done) | (simp [*]; done)), H', ⟨Nat.le_refl _⟩, ⟨bnw⟩⟩
 case round =>
  clear H'
  obtain ⟨x3_1, x8_1, rfl, rfl, HA, HK1, HB⟩ := hrel
  cases gk with
  | zero => exact absurd HA.out (by simp [impl_normOf.l0])
  | succ k1 =>
   have H := HA.out
   clear HA
   simp only [impl_normOf.l0] at H
   by_cases c2 : x8_1 < (l0.length : Int)
   ·rw [if_pos c2] at H
    have c2b0 : decide (x8_1 < (l0.length : Int)) = true := decide_eq_true c2
    clear c2
    by_cases c3 : 0 ≤ x8_1
    ·rw [if_pos c3] at H
     have c3b0 : decide (0 ≤ x8_1) = true := decide_eq_true c3
     clear c3
     by_cases c4 : x8_1 < (l0.length : Int)
     ·rw [if_pos c4] at H
      have c4b0 : decide (x8_1 < (l0.length : Int)) = true := decide_eq_true c4
      clear c4
      replace H := Option.bind_eq_some_iff.mp H
      obtain ⟨t288, A50, H⟩ := H
      have A5 := Aside0.mk A50
      clear A50
      have H' := Aside0.mk H
      clear H
      have p287 : 0 ≤ (x8_1 : Int) := dta
      have q287 : x8_1 < (l0.length : Int) := dta
      obtain ⟨ad287, e287, hx287_0⟩ := Kd.at_int HR0.out x8_1 p287 q287
      cases e287
      replace hx287_0 := (HB.out.cell (World.block_lt_of_cell? w _ hx287_0)).trans hx287_0
      replace p287 := eq_true p287
      replace q287 := eq_true q287
      go_wp2_with (first | ((with_reducible refine gate_callee (f := 162) rfl ?_); refine goesL_ (some 14) rfl rfl Try.func162 (by kernel_rfl) rfl #[.int .i64 (rd l0 x8_1)] rfl arq ?_; (with_reducible refine (impl_abs.calls (rd l0 x8_1) t288 _ A5.out).mono ?_); rintro e w6 ⟨rfl, hb⟩; refine ⟨_, rfl, ?_⟩; have n0_ := Aside0.mk (below_step bnw hb); clear HB; have HB := n0_; clear n0_; (try clear hb); (try clear hb2); (try clear hk); (try clear hi)))
      go_roundg k1
      case measure => have := HK1.out; omega
      case rel => exact ⟨(wrap64 (x3_1 + t288)), (wrap64 (x8_1 + 1)), (by first | rfl | (simp; done) | (simp [*]; done)), (by first | rfl | (simp; done) | (simp [*]; done)), H', ⟨by have := HK1.out; omega⟩, ⟨bnw⟩⟩
     ·rw [if_neg c4] at H
      exact absurd H (by simp)
    ·rw [if_neg c3] at H
     exact absurd H (by simp)
   ·rw [if_neg c2] at H
    have c2b0 : decide (x8_1 < (l0.length : Int)) = false := decide_eq_false c2
    clear c2
    obtain rfl := Option.some.inj H
    go_wp2
    go_ret
    exact ⟨enq, bnw⟩

/-! ### impl_isDim: function 119 -/
def impl_isDim.f (a0 : Int) : Option (Bool) := (impl_inRange.f a0 1 4).bind fun t289 => (some t289)
set_option maxHeartbeats 8000000 in
set_option maxRecDepth 100000 in
theorem impl_isDim.calls (a0 : Int) (r : Bool) (w : World) (h : impl_isDim.f a0 = some r) :
  Calls Try.prog 119 #[.int .i64 a0] w fun e w' => e = .returned (.bool r) ∧ Drawn0 w w' := by
 have H : ((impl_inRange.f a0 1 4).bind fun t289 => (some t289)) = some r := h
 clear h
 replace H := Option.bind_eq_some_iff.mp H
 obtain ⟨t289, A20, H⟩ := H
 have A2 := Aside0.mk A20
 clear A20
 obtain rfl := Option.some.inj H
 go_enter Try.func119, Try.ntmps119
 go_wp2_with (first | ((with_reducible refine gate_callee (f := 125) rfl ?_); refine goesL_ (some 4) rfl rfl Try.func125 (by kernel_rfl) rfl #[.int .i64 a0, .int .i64 1, .int .i64 4] rfl arq ?_; (with_reducible refine (impl_inRange.calls a0 1 4 t289 _ A2.out).mono ?_); rintro e w' ⟨rfl, ⟨nd, rfl⟩⟩; refine ⟨_, rfl, ?_⟩))
 go_ret
 exact ⟨by first | rfl | (simp; done) | (simp [*]; done), by repeat (first | exact Drawn0.refl _ | apply Drawn0.step)⟩

/-! ### impl_isPulses: function 120 -/
def impl_isPulses.f (a0 : Int) : Option (Bool) := (impl_inRange.f a0 0 8).bind fun t290 => (some t290)
set_option maxHeartbeats 8000000 in
set_option maxRecDepth 100000 in
theorem impl_isPulses.calls (a0 : Int) (r : Bool) (w : World) (h : impl_isPulses.f a0 = some r) :
  Calls Try.prog 120 #[.int .i64 a0] w fun e w' => e = .returned (.bool r) ∧ Drawn0 w w' := by
 have H : ((impl_inRange.f a0 0 8).bind fun t290 => (some t290)) = some r := h
 clear h
 replace H := Option.bind_eq_some_iff.mp H
 obtain ⟨t290, A20, H⟩ := H
 have A2 := Aside0.mk A20
 clear A20
 obtain rfl := Option.some.inj H
 go_enter Try.func120, Try.ntmps120
 go_wp2_with (first | ((with_reducible refine gate_callee (f := 125) rfl ?_); refine goesL_ (some 4) rfl rfl Try.func125 (by kernel_rfl) rfl #[.int .i64 a0, .int .i64 0, .int .i64 8] rfl arq ?_; (with_reducible refine (impl_inRange.calls a0 0 8 t290 _ A2.out).mono ?_); rintro e w' ⟨rfl, ⟨nd, rfl⟩⟩; refine ⟨_, rfl, ?_⟩))
 go_ret
 exact ⟨by first | rfl | (simp; done) | (simp [*]; done), by repeat (first | exact Drawn0.refl _ | apply Drawn0.step)⟩

-- NOT PRINTED: function 181 (impl_allWithin_1)

/-! ### impl_allWithin: function 121 -/
/-- The closure: is a number not from -most to most. -/
def notWithinP (m x : Int) : Option Bool := (impl_within.f x m).bind fun b => some (!b)
def impl_allWithin.f (l0 : List Int) (a1 : Int) : Option (Bool) := (anyP (notWithinP a1) l0).bind fun b => some (!b)
theorem notWithin_asks (m : Int) (B : Nat) (w : World) (hB : B < w.heap.size) (hcell : w.cell? ⟨B, 0, none⟩ = some (.int .i64 m)) :
    Asks 181 #[.pointer (some ⟨B, 0, none⟩)] (notWithinP m) w := fun x b W hb hx => by
  have hc : W.cell? ⟨B, 0, none⟩ = some (.int .i64 m) := (hb.cell (p := ⟨B, 0, none⟩) hB).trans hcell
  unfold notWithinP at hx
  replace hx := Option.bind_eq_some_iff.mp hx
  obtain ⟨b1, h1, hx⟩ := hx
  obtain rfl := Option.some.inj hx
  clear hx hcell hb
  have H1 := Aside0.mk h1
  clear h1
  show Calls Try.prog 181 #[.int .i64 x, .pointer (some ⟨B, 0, none⟩)] W _
  go_enter Try.func181, Try.ntmps181
  go_wp2_with (go_at_call 174; refine (impl_within.calls x m b1 _ H1.out).mono ?_; rintro e w' ⟨rfl, hd⟩)
  go_ret
  exact ⟨rfl, hd.below⟩
set_option maxHeartbeats 1000000 in
theorem impl_allWithin.calls (A0 : Option Addr) (c0 : Nat) (l0 : List Int) (a1 : Int) (r : Bool) (w : World) (hr0 : Kd.C (Kd.int .i64) w A0 l0.length l0) (hc0 : l0.length ≤ c0) (h : impl_allWithin.f l0 a1 = some r) :
    Calls Try.prog 121 #[.slice A0 l0.length c0, .int .i64 a1] w fun e w' => e = .returned (.bool r) ∧ Below w.heap.size w w' := by
  unfold impl_allWithin.f at h
  replace h := Option.bind_eq_some_iff.mp h
  obtain ⟨b, hb, h⟩ := h
  obtain rfl := Option.some.inj h
  clear h
  have eg : ∀ args w, (callFunc 181 args).run Try.prog w = .ok (.enter 181 args) w := enters_of Try.func181 (by kernel_rfl) rfl
  have HC := Aside0.mk (contains_calls (notWithinP a1) 181 #[.pointer (some ⟨w.heap.size, 0, none⟩)] eg A0 c0 l0 b (w.alloc (.cells #[.int .i64 a1] 2))
    (notWithin_asks a1 w.heap.size _ (by simp) (by simp)) (Kd.C_alloc hr0 _) hc0 hb)
  clear hr0 hc0 hb eg
  go_enter Try.func121, Try.ntmps121
  go_wp2_with (go_at_call 140; refine HC.out.mono ?_; rintro e w' ⟨rfl, hb⟩)
  go_ret
  exact ⟨rfl, below_then ((Below.refl _ w).alloc (Nat.le_refl _) _) (by simp) hb⟩

/-! ### impl_PulsesFault: function 42 -/
def impl_PulsesFault.f (k : Nat) (l0 : List Int) (a1 : Int) : Option (Int) := (impl_isDim.f (l0.length : Int)).bind fun t291 => ((impl_codeIf.f (!t291) 2).bind fun t292 => ((impl_isPulses.f a1).bind fun t293 => ((impl_codeIf.f (!t293) 3).bind fun t294 => ((impl_allWithin.f l0 8).bind fun t295 => (if t295 = true then ((impl_normOf.f k l0).bind fun t296 => ((impl_codeIf.f (t296 != a1) 1).bind fun t297 => ((impl_first.f k (([t292, t294, t297] : List Int))).bind fun t301 => (some t301)))) else ((impl_codeIf.f true 1).bind fun t302 => ((impl_first.f k (([t292, t294, t302] : List Int))).bind fun t306 => (some t306))))))))
theorem impl_PulsesFault.mono : ∀ a0 a1 k, LeO (impl_PulsesFault.f k a0 a1) (impl_PulsesFault.f (k + 1) a0 a1) := by
 intro a0 a1 k
 unfold impl_PulsesFault.f
 repeat' first
   | (with_reducible exact impl_first.mono _ _)
   | (with_reducible exact impl_normOf.mono _ _)
   | (with_reducible exact LeO.refl _)
   | (with_reducible exact LeO.none _)
   | (with_reducible refine LeO.ite ?_ ?_)
   | (with_reducible refine LeO.bind ?_ (fun _ => ?_))
   | exact impl_first.mono _ _
   | exact impl_normOf.mono _ _
   | exact LeO.none _
   | refine LeO.ite ?_ ?_
   | refine LeO.bind ?_ (fun _ => ?_)
set_option maxHeartbeats 8000000 in
set_option maxRecDepth 100000 in
theorem impl_PulsesFault.calls (k : Nat) (A0 : Option Addr) (c0 : Nat) (l0 : List Int) (a1 : Int) (r : Int) (w : World) (hr0 : Kd.C (Kd.int .i64) w A0 l0.length l0) (hc0 : l0.length ≤ c0) (h : impl_PulsesFault.f k l0 a1 = some r) :
  Calls Try.prog 42 #[.slice A0 l0.length c0, .int .i64 a1] w fun e w' => e = .returned (.int .i64 r) ∧ Below w.heap.size w w' := by
 have HR0 := Aside0.mk hr0
 have HC0 := Aside0.mk hc0
 clear hr0 hc0
 have HB := Aside0.mk (Below.refl w.heap.size w)
 have H : ((impl_isDim.f (l0.length : Int)).bind fun t291 => ((impl_codeIf.f (!t291) 2).bind fun t292 => ((impl_isPulses.f a1).bind fun t293 => ((impl_codeIf.f (!t293) 3).bind fun t294 => ((impl_allWithin.f l0 8).bind fun t295 => (if t295 = true then ((impl_normOf.f k l0).bind fun t296 => ((impl_codeIf.f (t296 != a1) 1).bind fun t297 => ((impl_first.f k (([t292, t294, t297] : List Int))).bind fun t301 => (some t301)))) else ((impl_codeIf.f true 1).bind fun t302 => ((impl_first.f k (([t292, t294, t302] : List Int))).bind fun t306 => (some t306))))))))) = some r := h
 clear h
 replace H := Option.bind_eq_some_iff.mp H
 obtain ⟨t291, A30, H⟩ := H
 have A3 := Aside0.mk A30
 clear A30
 replace H := Option.bind_eq_some_iff.mp H
 obtain ⟨t292, A40, H⟩ := H
 have A4 := Aside0.mk A40
 clear A40
 replace H := Option.bind_eq_some_iff.mp H
 obtain ⟨t293, A50, H⟩ := H
 have A5 := Aside0.mk A50
 clear A50
 replace H := Option.bind_eq_some_iff.mp H
 obtain ⟨t294, A60, H⟩ := H
 have A6 := Aside0.mk A60
 clear A60
 replace H := Option.bind_eq_some_iff.mp H
 obtain ⟨t295, A70, H⟩ := H
 have A7 := Aside0.mk A70
 clear A70
 by_cases c8 : t295 = true
 ·subst c8
  replace H : ((impl_normOf.f k l0).bind fun t296 => ((impl_codeIf.f (t296 != a1) 1).bind fun t297 => ((impl_first.f k (([t292, t294, t297] : List Int))).bind fun t301 => (some t301)))) = some r := by rw [if_pos rfl] at H; exact H
  replace H := Option.bind_eq_some_iff.mp H
  obtain ⟨t296, A90, H⟩ := H
  have A9 := Aside0.mk A90
  clear A90
  replace H := Option.bind_eq_some_iff.mp H
  obtain ⟨t297, A100, H⟩ := H
  have A10 := Aside0.mk A100
  clear A100
  obtain ⟨y298, hy298⟩ : ∃ y_ : List Int, y_ = (([t292, t294, t297] : List Int)) := ⟨_, rfl⟩
  replace H : ((impl_first.f k y298).bind fun t301 => (some t301)) = some r := by first | (rw [hy298]; with_reducible exact H) | (have H2_ := (Option.bind_some _ _).symm.trans H; rw [hy298]; with_reducible exact H2_) | (have H2_ := (Option.bind_some _ _).symm.trans H; with_reducible exact H2_) | with_reducible exact H | (rw [hy298]; exact H) | exact H
  have Ny298 := Aside0.mk hy298
  clear hy298
  replace H := Option.bind_eq_some_iff.mp H
  obtain ⟨t301, A110, H⟩ := H
  have A11 := Aside0.mk A110
  clear A110
  obtain rfl := Option.some.inj H
  go_enter Try.func42, Try.ntmps42
  go_wp2_with (first | ((with_reducible refine gate_callee (f := 119) rfl ?_); refine goesL_ (some 7) rfl rfl Try.func119 (by kernel_rfl) rfl #[.int .i64 (l0.length : Int)] rfl arq ?_; (with_reducible refine (impl_isDim.calls (l0.length : Int) t291 _ A3.out).mono ?_); rintro e w' ⟨rfl, ⟨nd, rfl⟩⟩; refine ⟨_, rfl, ?_⟩) | ((with_reducible refine gate_callee (f := 118) rfl ?_); refine goesL_ (some 9) rfl rfl Try.func118 (by kernel_rfl) rfl #[.bool (!t291), .int .i64 2] rfl arq ?_; (with_reducible refine (impl_codeIf.calls (!t291) 2 t292 _ A4.out).mono ?_); rintro e w' ⟨rfl, ⟨nd, rfl⟩⟩; refine ⟨_, rfl, ?_⟩) | ((with_reducible refine gate_callee (f := 120) rfl ?_); refine goesL_ (some 11) rfl rfl Try.func120 (by kernel_rfl) rfl #[.int .i64 a1] rfl arq ?_; (with_reducible refine (impl_isPulses.calls a1 t293 _ A5.out).mono ?_); rintro e w' ⟨rfl, ⟨nd, rfl⟩⟩; refine ⟨_, rfl, ?_⟩) | ((with_reducible refine gate_callee (f := 118) rfl ?_); refine goesL_ (some 13) rfl rfl Try.func118 (by kernel_rfl) rfl #[.bool (!t293), .int .i64 3] rfl arq ?_; (with_reducible refine (impl_codeIf.calls (!t293) 3 t294 _ A6.out).mono ?_); rintro e w' ⟨rfl, ⟨nd, rfl⟩⟩; refine ⟨_, rfl, ?_⟩) | ((with_reducible refine gate_callee (f := 121) rfl ?_); refine goesL_ (some 15) rfl rfl Try.func121 (by kernel_rfl) rfl #[.slice A0 l0.length c0, .int .i64 8] rfl arq ?_; (with_reducible refine (impl_allWithin.calls _ _ l0 8 true _ ?side1 ?side2 A7.out).mono ?_); (case side1 => repeat (first | exact HR0.out | (with_reducible refine Kd.C_alloc ?_ _) | (with_reducible refine Kd.C_drewN ?_ _) | (with_reducible refine Kd.C_drew ?_))); (case side2 => exact HC0.out); rintro e w12 ⟨rfl, hb⟩; refine ⟨_, rfl, ?_⟩; have n0_ := Aside0.mk (below_step bnw hb); clear HB; have HB := n0_; clear n0_; (try clear hb); (try clear hb2); (try clear hk); (try clear hi)) | (go_at_call 98; (with_reducible refine (impl_normOf.calls k _ _ l0 t296 _ ?side1 ?side2 A9.out).mono ?_); (case side1 => repeat (first | exact (Kd.C_below HR0.out HB.out) | (with_reducible refine Kd.C_alloc ?_ _) | (with_reducible refine Kd.C_drewN ?_ _) | (with_reducible refine Kd.C_drew ?_))); (case side2 => exact HC0.out); rintro e w13 ⟨rfl, hb⟩; have n0_ := Aside0.mk (below_step bnw hb); clear HB; have HB := n0_; clear n0_; (try clear hb); (try clear hb2); (try clear hk); (try clear hi)) | ((with_reducible refine gate_callee (f := 118) rfl ?_); refine goesL_ (some 23) rfl rfl Try.func118 (by kernel_rfl) rfl #[.bool (t296 != a1), .int .i64 1] rfl arq ?_; (with_reducible refine (impl_codeIf.calls (t296 != a1) 1 t297 _ A10.out).mono ?_); rintro e w' ⟨rfl, ⟨nd, rfl⟩⟩; refine ⟨_, rfl, ?_⟩) | ((with_reducible refine gate_dst (N := 24) rfl ?_); refine Kd.R_lit (Kd.int .i64) _ 2 ?hg (N := 24) ?hd (xs := ([t292, t294, t297] : List Int)) (inner := [.int .i64 t292, .int .i64 t294, .int .i64 t297]) (ok := fun _ => True) (okp := fun _ => True) ?hr ?hp (fun _ hk => hk) trivial (Below.refl _ _) (Nat.le_refl _) (by simp) ?_; (case hd => rfl); (case hg => rfl); (case hr => first | (go_simp; done) | (go_simp; rfl)); (case hp => exact (Reps.one (show Kd.M (Kd.int .i64) _ _ _ t292 [.int .i64 t292] from rfl) (Reps.one (show Kd.M (Kd.int .i64) _ _ _ t294 [.int .i64 t294] from rfl) (Reps.one (show Kd.M (Kd.int .i64) _ _ _ t297 [.int .i64 t297] from rfl) (Reps.none _ _))))); intro v299 w14 ho15 hb hg_ hnew_; clear hg_ hnew_; (first | rw [← Ny298.out] at ho15 | (simp only [Int.reduceToNat] at ho15; rw [← Ny298.out] at ho15)); have n0_ := Aside0.mk (Kd.R_lower ho15 (below_size bnw)); have n1_ := Aside0.mk (below_step bnw hb); clear HB; have HO300 := n0_; have HB := n1_; clear n0_ n1_; clear hb ho15; obtain ⟨Ao16, co16, eo16⟩ := Kd.R_slice HO300.out; subst eo16) | ((with_reducible refine gate_callee (f := 117) rfl ?_); refine goesL_ (some 25) rfl rfl Try.func117 (by kernel_rfl) rfl #[.slice Ao16 y298.length co16] rfl arq ?_; (with_reducible refine (impl_first.calls k _ _ y298 t301 _ ?side1 ?side2 A11.out).mono ?_); (case side1 => repeat (first | exact (Kd.R_reads' HO300.out).2.2 | (with_reducible refine Kd.C_alloc ?_ _) | (with_reducible refine Kd.C_drewN ?_ _) | (with_reducible refine Kd.C_drew ?_))); (case side2 => exact (Kd.R_reads' HO300.out).2.1); rintro e w' ⟨rfl, ⟨nd, rfl⟩⟩; refine ⟨_, rfl, ?_⟩))
  go_ret
  exact ⟨enq, bnw⟩
 ·replace c8 := Bool.eq_false_iff.mpr c8
  subst c8
  replace H : ((impl_codeIf.f true 1).bind fun t302 => ((impl_first.f k (([t292, t294, t302] : List Int))).bind fun t306 => (some t306))) = some r := by rw [if_neg (show ¬ (false = true) by decide)] at H; exact H
  replace H := Option.bind_eq_some_iff.mp H
  obtain ⟨t302, A170, H⟩ := H
  have A17 := Aside0.mk A170
  clear A170
  obtain ⟨y303, hy303⟩ : ∃ y_ : List Int, y_ = (([t292, t294, t302] : List Int)) := ⟨_, rfl⟩
  replace H : ((impl_first.f k y303).bind fun t306 => (some t306)) = some r := by first | (rw [hy303]; with_reducible exact H) | (have H2_ := (Option.bind_some _ _).symm.trans H; rw [hy303]; with_reducible exact H2_) | (have H2_ := (Option.bind_some _ _).symm.trans H; with_reducible exact H2_) | with_reducible exact H | (rw [hy303]; exact H) | exact H
  have Ny303 := Aside0.mk hy303
  clear hy303
  replace H := Option.bind_eq_some_iff.mp H
  obtain ⟨t306, A180, H⟩ := H
  have A18 := Aside0.mk A180
  clear A180
  obtain rfl := Option.some.inj H
  go_enter Try.func42, Try.ntmps42
  go_wp2_with (first | ((with_reducible refine gate_callee (f := 119) rfl ?_); refine goesL_ (some 7) rfl rfl Try.func119 (by kernel_rfl) rfl #[.int .i64 (l0.length : Int)] rfl arq ?_; (with_reducible refine (impl_isDim.calls (l0.length : Int) t291 _ A3.out).mono ?_); rintro e w' ⟨rfl, ⟨nd, rfl⟩⟩; refine ⟨_, rfl, ?_⟩) | ((with_reducible refine gate_callee (f := 118) rfl ?_); refine goesL_ (some 9) rfl rfl Try.func118 (by kernel_rfl) rfl #[.bool (!t291), .int .i64 2] rfl arq ?_; (with_reducible refine (impl_codeIf.calls (!t291) 2 t292 _ A4.out).mono ?_); rintro e w' ⟨rfl, ⟨nd, rfl⟩⟩; refine ⟨_, rfl, ?_⟩) | ((with_reducible refine gate_callee (f := 120) rfl ?_); refine goesL_ (some 11) rfl rfl Try.func120 (by kernel_rfl) rfl #[.int .i64 a1] rfl arq ?_; (with_reducible refine (impl_isPulses.calls a1 t293 _ A5.out).mono ?_); rintro e w' ⟨rfl, ⟨nd, rfl⟩⟩; refine ⟨_, rfl, ?_⟩) | ((with_reducible refine gate_callee (f := 118) rfl ?_); refine goesL_ (some 13) rfl rfl Try.func118 (by kernel_rfl) rfl #[.bool (!t293), .int .i64 3] rfl arq ?_; (with_reducible refine (impl_codeIf.calls (!t293) 3 t294 _ A6.out).mono ?_); rintro e w' ⟨rfl, ⟨nd, rfl⟩⟩; refine ⟨_, rfl, ?_⟩) | ((with_reducible refine gate_callee (f := 121) rfl ?_); refine goesL_ (some 15) rfl rfl Try.func121 (by kernel_rfl) rfl #[.slice A0 l0.length c0, .int .i64 8] rfl arq ?_; (with_reducible refine (impl_allWithin.calls _ _ l0 8 false _ ?side1 ?side2 A7.out).mono ?_); (case side1 => repeat (first | exact HR0.out | (with_reducible refine Kd.C_alloc ?_ _) | (with_reducible refine Kd.C_drewN ?_ _) | (with_reducible refine Kd.C_drew ?_))); (case side2 => exact HC0.out); rintro e w19 ⟨rfl, hb⟩; refine ⟨_, rfl, ?_⟩; have n0_ := Aside0.mk (below_step bnw hb); clear HB; have HB := n0_; clear n0_; (try clear hb); (try clear hb2); (try clear hk); (try clear hi)) | ((with_reducible refine gate_callee (f := 118) rfl ?_); refine goesL_ (some 23) rfl rfl Try.func118 (by kernel_rfl) rfl #[.bool true, .int .i64 1] rfl arq ?_; (with_reducible refine (impl_codeIf.calls true 1 t302 _ A17.out).mono ?_); rintro e w' ⟨rfl, ⟨nd, rfl⟩⟩; refine ⟨_, rfl, ?_⟩) | ((with_reducible refine gate_dst (N := 24) rfl ?_); refine Kd.R_lit (Kd.int .i64) _ 2 ?hg (N := 24) ?hd (xs := ([t292, t294, t302] : List Int)) (inner := [.int .i64 t292, .int .i64 t294, .int .i64 t302]) (ok := fun _ => True) (okp := fun _ => True) ?hr ?hp (fun _ hk => hk) trivial (Below.refl _ _) (Nat.le_refl _) (by simp) ?_; (case hd => rfl); (case hg => rfl); (case hr => first | (go_simp; done) | (go_simp; rfl)); (case hp => exact (Reps.one (show Kd.M (Kd.int .i64) _ _ _ t292 [.int .i64 t292] from rfl) (Reps.one (show Kd.M (Kd.int .i64) _ _ _ t294 [.int .i64 t294] from rfl) (Reps.one (show Kd.M (Kd.int .i64) _ _ _ t302 [.int .i64 t302] from rfl) (Reps.none _ _))))); intro v304 w20 ho21 hb hg_ hnew_; clear hg_ hnew_; (first | rw [← Ny303.out] at ho21 | (simp only [Int.reduceToNat] at ho21; rw [← Ny303.out] at ho21)); have n0_ := Aside0.mk (Kd.R_lower ho21 (below_size bnw)); have n1_ := Aside0.mk (below_step bnw hb); clear HB; have HO305 := n0_; have HB := n1_; clear n0_ n1_; clear hb ho21; obtain ⟨Ao22, co22, eo22⟩ := Kd.R_slice HO305.out; subst eo22) | ((with_reducible refine gate_callee (f := 117) rfl ?_); refine goesL_ (some 25) rfl rfl Try.func117 (by kernel_rfl) rfl #[.slice Ao22 y303.length co22] rfl arq ?_; (with_reducible refine (impl_first.calls k _ _ y303 t306 _ ?side1 ?side2 A18.out).mono ?_); (case side1 => repeat (first | exact (Kd.R_reads' HO305.out).2.2 | (with_reducible refine Kd.C_alloc ?_ _) | (with_reducible refine Kd.C_drewN ?_ _) | (with_reducible refine Kd.C_drew ?_))); (case side2 => exact (Kd.R_reads' HO305.out).2.1); rintro e w' ⟨rfl, ⟨nd, rfl⟩⟩; refine ⟨_, rfl, ?_⟩))
  go_ret
  exact ⟨enq, bnw⟩

/-! ### impl_pulsesFor: function 165 -/
def impl_pulsesFor.f (a0 : Int) : Option (Int) := some (wrap64 (8 - (wrap64 (2 * a0))))
set_option maxHeartbeats 8000000 in
set_option maxRecDepth 100000 in
theorem impl_pulsesFor.calls (a0 : Int) (r : Int) (w : World) (h : impl_pulsesFor.f a0 = some r) :
  Calls Try.prog 165 #[.int .i64 a0] w fun e w' => e = .returned (.int .i64 r) ∧ Drawn0 w w' := by
 have H : (some (wrap64 (8 - (wrap64 (2 * a0))))) = some r := h
 clear h
 obtain rfl := Option.some.inj H
 go_enter Try.func165, Try.ntmps165
 go_wp2
 go_ret
 exact ⟨by first | rfl | (simp; done) | (simp [*]; done), by repeat (first | exact Drawn0.refl _ | apply Drawn0.step)⟩

/-! ### impl_bandFault: function 145 -/
def impl_bandFault.f (k : Nat) (a0_0 : Int) (a0_1 : Int) (l1 : List Int) (a2 : Int) : Option (Int) := (impl_codeIf.f ((l1.length : Int) != a0_1) 2).bind fun t308 => ((impl_pulsesFor.f a2).bind fun t309 => ((impl_PulsesFault.f k l1 t309).bind fun t310 => ((impl_first.f k (([t308, t310] : List Int))).bind fun t314 => (some t314))))
theorem impl_bandFault.mono : ∀ a0 a1 a2 a3 k, LeO (impl_bandFault.f k a0 a1 a2 a3) (impl_bandFault.f (k + 1) a0 a1 a2 a3) := by
 intro a0 a1 a2 a3 k
 unfold impl_bandFault.f
 repeat' first
   | (with_reducible exact impl_PulsesFault.mono _ _ _)
   | (with_reducible exact impl_first.mono _ _)
   | (with_reducible exact LeO.refl _)
   | (with_reducible exact LeO.none _)
   | (with_reducible refine LeO.ite ?_ ?_)
   | (with_reducible refine LeO.bind ?_ (fun _ => ?_))
   | exact impl_PulsesFault.mono _ _ _
   | exact impl_first.mono _ _
   | exact LeO.none _
   | refine LeO.ite ?_ ?_
   | refine LeO.bind ?_ (fun _ => ?_)
set_option maxHeartbeats 8000000 in
set_option maxRecDepth 100000 in
theorem impl_bandFault.calls (k : Nat) (a0_0 : Int) (a0_1 : Int) (A1 : Option Addr) (c1 : Nat) (l1 : List Int) (a2 : Int) (r : Int) (w : World) (hr1 : Kd.C (Kd.int .i64) w A1 l1.length l1) (hc1 : l1.length ≤ c1) (h : impl_bandFault.f k a0_0 a0_1 l1 a2 = some r) :
  Calls Try.prog 145 #[.agg #[.int .i64 a0_0, .int .i64 a0_1], .slice A1 l1.length c1, .int .i64 a2] w fun e w' => e = .returned (.int .i64 r) ∧ Below w.heap.size w w' := by
 have hu83 := Try.underlying83
 have HR1 := Aside0.mk hr1
 have HC1 := Aside0.mk hc1
 clear hr1 hc1
 have HB := Aside0.mk (Below.refl w.heap.size w)
 have H : ((impl_codeIf.f ((l1.length : Int) != a0_1) 2).bind fun t308 => ((impl_pulsesFor.f a2).bind fun t309 => ((impl_PulsesFault.f k l1 t309).bind fun t310 => ((impl_first.f k (([t308, t310] : List Int))).bind fun t314 => (some t314))))) = some r := h
 clear h
 replace H := Option.bind_eq_some_iff.mp H
 obtain ⟨t308, A40, H⟩ := H
 have A4 := Aside0.mk A40
 clear A40
 replace H := Option.bind_eq_some_iff.mp H
 obtain ⟨t309, A50, H⟩ := H
 have A5 := Aside0.mk A50
 clear A50
 replace H := Option.bind_eq_some_iff.mp H
 obtain ⟨t310, A60, H⟩ := H
 have A6 := Aside0.mk A60
 clear A60
 obtain ⟨y311, hy311⟩ : ∃ y_ : List Int, y_ = (([t308, t310] : List Int)) := ⟨_, rfl⟩
 replace H : ((impl_first.f k y311).bind fun t314 => (some t314)) = some r := by first | (rw [hy311]; with_reducible exact H) | (have H2_ := (Option.bind_some _ _).symm.trans H; rw [hy311]; with_reducible exact H2_) | (have H2_ := (Option.bind_some _ _).symm.trans H; with_reducible exact H2_) | with_reducible exact H | (rw [hy311]; exact H) | exact H
 have Ny311 := Aside0.mk hy311
 clear hy311
 replace H := Option.bind_eq_some_iff.mp H
 obtain ⟨t314, A70, H⟩ := H
 have A7 := Aside0.mk A70
 clear A70
 obtain rfl := Option.some.inj H
 go_enter Try.func145, Try.ntmps145
 go_wp2_with (first | ((with_reducible refine gate_dst (N := 3) rfl ?_); refine box_event ?hg (N := 3) ?hd (cs := #[.int .i64 a0_0, .int .i64 a0_1]) (t := 83) ?hr ?_; (case hd => rfl); (case hg => rfl); (case hr => first | (go_simp; done) | (go_simp; rfl)); intro gb307 hg w8 hbox hb; have n0_ := Aside0.mk (below_step bnw hb); have n1_ := Aside0.mk (hbox); have n2_ := Aside0.mk ((by rw [hg]; exact (below_size bnw) : w.heap.size ≤ gb307)); have n3_ := Aside0.mk ((by rw [hg]; exact (below_size bnw) : w.heap.size ≤ gb307)); clear HB; have HB := n0_; have BK307 := n1_; have GW307 := n2_; have GE307 := n3_; clear n0_ n1_ n2_ n3_; clear hb hbox hg; have hcz9_0 : w8.cell? ⟨gb307, 0, none⟩ = some (.int .i64 a0_0) := (blk_cell BK307.out 0).trans rfl; have hcz9_1 : w8.cell? ⟨gb307, 1, none⟩ = some (.int .i64 a0_1) := (blk_cell BK307.out 1).trans rfl; have hfz9_0 := blk_frozen BK307.out 0; have hfz9_1 := blk_frozen BK307.out 1) | ((with_reducible refine gate_callee (f := 118) rfl ?_); refine goesL_ (some 12) rfl rfl Try.func118 (by kernel_rfl) rfl #[.bool ((l1.length : Int) != a0_1), .int .i64 2] rfl arq ?_; (with_reducible refine (impl_codeIf.calls ((l1.length : Int) != a0_1) 2 t308 _ A4.out).mono ?_); rintro e w' ⟨rfl, ⟨nd, rfl⟩⟩; refine ⟨_, rfl, ?_⟩) | ((with_reducible refine gate_callee (f := 165) rfl ?_); refine goesL_ (some 15) rfl rfl Try.func165 (by kernel_rfl) rfl #[.int .i64 a2] rfl arq ?_; (with_reducible refine (impl_pulsesFor.calls a2 t309 _ A5.out).mono ?_); rintro e w' ⟨rfl, ⟨nd, rfl⟩⟩; refine ⟨_, rfl, ?_⟩) | ((with_reducible refine gate_callee (f := 42) rfl ?_); refine goesL_ (some 16) rfl rfl Try.func42 (by kernel_rfl) rfl #[.slice A1 l1.length c1, .int .i64 t309] rfl arq ?_; (with_reducible refine (impl_PulsesFault.calls k _ _ l1 t309 t310 _ ?side1 ?side2 A6.out).mono ?_); (case side1 => repeat (first | exact (Kd.C_below HR1.out (by repeat (first | (with_reducible first | exact HB.out | apply below_alloc | apply pw_below_drewN | apply below_drew1 | refine below_set ?_ GE307.out) | exact HB.out))) | (with_reducible refine Kd.C_alloc ?_ _) | (with_reducible refine Kd.C_drewN ?_ _) | (with_reducible refine Kd.C_drew ?_))); (case side2 => exact HC1.out); rintro e w10 ⟨rfl, hb⟩; refine ⟨_, rfl, ?_⟩; have n0_ := Aside0.mk (blk_below (g := gb307) (o := .cells #[.int .i64 a0_0, .int .i64 a0_1] 83 (0, 0)) (bpl BK307.out) hb); have n1_ := Aside0.mk (below_step (by repeat (first | (with_reducible first | exact HB.out | apply below_alloc | apply pw_below_drewN | apply below_drew1 | refine below_set ?_ GE307.out) | exact HB.out)) hb); clear BK307; clear HB; have BK307 := n0_; have HB := n1_; clear n0_ n1_; (try clear hb); (try clear hb2); (try clear hk); (try clear hi)) | ((with_reducible refine gate_dst (N := 17) rfl ?_); refine Kd.R_lit (Kd.int .i64) _ 2 ?hg (N := 17) ?hd (xs := ([t308, t310] : List Int)) (inner := [.int .i64 t308, .int .i64 t310]) (ok := fun _ => True) (okp := fun _ => True) ?hr ?hp (fun _ hk => hk) trivial (Below.refl _ _) (Nat.le_refl _) (by simp) ?_; (case hd => rfl); (case hg => rfl); (case hr => first | (go_simp; done) | (go_simp; rfl)); (case hp => exact (Reps.one (show Kd.M (Kd.int .i64) _ _ _ t308 [.int .i64 t308] from rfl) (Reps.one (show Kd.M (Kd.int .i64) _ _ _ t310 [.int .i64 t310] from rfl) (Reps.none _ _)))); intro v312 w11 ho12 hb hg_ hnew_; clear hg_ hnew_; (first | rw [← Ny311.out] at ho12 | (simp only [Int.reduceToNat] at ho12; rw [← Ny311.out] at ho12)); have n0_ := Aside0.mk (Kd.R_lower ho12 (below_size (by repeat (first | (with_reducible first | exact HB.out | apply below_alloc | apply pw_below_drewN | apply below_drew1 | refine below_set ?_ GE307.out) | exact HB.out)))); have n1_ := Aside0.mk (blk_below (g := gb307) (o := .cells #[.int .i64 a0_0, .int .i64 a0_1] 83 (0, 0)) (bpl BK307.out) hb); have n2_ := Aside0.mk (below_step (by repeat (first | (with_reducible first | exact HB.out | apply below_alloc | apply pw_below_drewN | apply below_drew1 | refine below_set ?_ GE307.out) | exact HB.out)) hb); clear BK307; clear HB; have HO313 := n0_; have BK307 := n1_; have HB := n2_; clear n0_ n1_ n2_; clear hb ho12; obtain ⟨Ao13, co13, eo13⟩ := Kd.R_slice HO313.out; subst eo13) | ((with_reducible refine gate_callee (f := 117) rfl ?_); refine goesL_ (some 18) rfl rfl Try.func117 (by kernel_rfl) rfl #[.slice Ao13 y311.length co13] rfl arq ?_; (with_reducible refine (impl_first.calls k _ _ y311 t314 _ ?side1 ?side2 A7.out).mono ?_); (case side1 => repeat (first | exact (Kd.R_reads' HO313.out).2.2 | (with_reducible refine Kd.C_alloc ?_ _) | (with_reducible refine Kd.C_drewN ?_ _) | (with_reducible refine Kd.C_drew ?_))); (case side2 => exact (Kd.R_reads' HO313.out).2.1); rintro e w' ⟨rfl, ⟨nd, rfl⟩⟩; refine ⟨_, rfl, ?_⟩))
 go_ret
 exact ⟨enq, by repeat (first | (with_reducible first | exact HB.out | apply below_alloc | apply pw_below_drewN | apply below_drew1 | refine below_set ?_ GE307.out) | exact HB.out)⟩

/-! ### impl_FrameFault_1_any: function 141 -/
/-- The closure: is a low out of its range. -/
def frameP (rung x : Int) : Option Bool := (impl_isIndexOf.f x).bind fun b => if b = true then ((impl_Restore.f x rung).bind fun p => some (!decide (p.1 = 0))) else some true
def impl_FrameFault_1_any.f (l0 : List Int) (a1 : Int) : Option Bool := anyP (frameP a1) l0
set_option maxHeartbeats 2000000 in
theorem frame_asks (rung : Int) (B t : Nat) (cs : Array Value) (w : World) (hb0 : w.heap[B]? = some (.cells cs t (0, 0))) (hcs : cs[2]? = some (.int .i64 rung)) : Asks 141 #[.pointer (some ⟨B, 0, none⟩)] (frameP rung) w := fun x b W hb hx => by
  have hW := Aside0.mk (blk_below hb0 hb)
  have hS := Aside0.mk hcs
  unfold frameP at hx
  replace hx := Option.bind_eq_some_iff.mp hx
  obtain ⟨b1, h1, hx⟩ := hx
  have H1 := Aside0.mk h1
  clear h1 hb0 hcs hb
  show Calls Try.prog 141 #[.int .i64 x, .pointer (some ⟨B, 0, none⟩)] W _
  have hfd : ∀ (x0 x1 : Int) (W : World), (Instr.field 31 (.agg #[.int .i64 x0, .int .i64 x1]) 0).run Try.prog W = .ok (.int .i64 x0) W := fun _ _ _ => by kernel_rfl
  cases b1 with
  | true =>
    rw [if_pos rfl] at hx
    replace hx := Option.bind_eq_some_iff.mp hx
    obtain ⟨⟨p1, p2⟩, h2, hx⟩ := hx
    have H2 := Aside0.mk h2
    obtain rfl := Option.some.inj hx
    clear h2 hx
    go_enter Try.func141, Try.ntmps141
    go_wp2_with (first | (go_at_call 86; refine (impl_isIndexOf.calls x true _ H1.out).mono ?_; rintro e w' ⟨rfl, hd⟩; have hq1 := Aside0.mk hd; have hc : w'.cell? ⟨B, 2, none⟩ = some (.int .i64 rung) := (blk_cell (blk_below hW.out hd.below) 2).trans hS.out; clear hd) | (go_at_call 142; refine (impl_Restore.calls x rung p1 p2 _ H2.out).mono ?_; rintro e w' ⟨rfl, hd⟩))
    go_ret
    exact ⟨by first | rfl | simp_all, below_step hq1.out.below hd⟩
  | false =>
    rw [if_neg (by simp)] at hx
    obtain rfl := Option.some.inj hx
    clear hx
    go_enter Try.func141, Try.ntmps141
    go_wp2_with (go_at_call 86; refine (impl_isIndexOf.calls x false _ H1.out).mono ?_; rintro e w' ⟨rfl, hd⟩)
    go_ret
    exact ⟨by first | rfl | simp_all, hd.below⟩
theorem impl_FrameFault_1_any.calls {B : Nat} (A0 : Option Addr) (c0 : Nat) (l0 : List Int) (a1 : Int) (r : Bool) (w : World) (hbx : Aside0 (∃ (t : Nat) (cs : Array Value), w.heap[B]? = some (.cells cs t (0, 0)) ∧ cs[2]? = some (.int .i64 a1))) (hr0 : Kd.C (Kd.int .i64) w A0 l0.length l0) (hc0 : l0.length ≤ c0) (h : impl_FrameFault_1_any.f l0 a1 = some r) :
    Calls Try.prog 140 #[.slice A0 l0.length c0, .func (.func 141) #[] #[.pointer (some ⟨B, 0, none⟩)]] w fun e w' => e = .returned (.bool r) ∧ Below w.heap.size w w' :=
  match hbx.out with | ⟨t, cs, hb, hcs⟩ => contains_calls (frameP a1) 141 #[.pointer (some ⟨B, 0, none⟩)] (enters_of Try.func141 (by kernel_rfl) rfl) A0 c0 l0 r w (frame_asks a1 B t cs w hb hcs) hr0 hc0 h

end Go.Proofs.Ytpbkbibjlbbkbaa.PFnExactCentralCoefs
