-- Contracts of the functions that the law reaches, written by wip/xprint.py of this repo.
import Derived.Test.YthehhncokikgcaaPFnExactMakeFramex0
import Derived.Test.YthehhncokikgcaaPFnExactMakeFramex1
import Derived.Test.YthehhncokikgcaaPFnExactMakeFramex7
import Derived.Test.YthehhncokikgcaaPFnExactMakeFramex13
import Derived.Test.YthehhncokikgcaaPFnExactMakeFramex14
namespace Go.Proofs.Ythehhncokikgcaa.PFnExactMakeFrame
open Go.RowKit Go.Proofs.YthehhncokikgcaaW.PrintWords Go.Proofs.YthehhncokikgcaaW.PrintLast Go.Proofs.YthehhncokikgcaaW.PrintMore
attribute [local go_sem] max2_int min2_int max_two min_two max_three min_three max_four min_four   -- for this text's walks alone
set_option linter.unusedVariables false
set_option linter.unusedSimpArgs false

/-! ### laws_heldInt64SS: function 170 -/
def laws_heldInt64SS.l0 : Nat → List (List Int) → Int → Int → Option (Int)
 | 0, _, _, _ => none
 | k + 1, x0, x1, x5 => if x5 < (x0.length : Int) then (if 0 ≤ x5 then ((laws_heldInt64S.f k (rd_L1 x0 x5) x1).bind fun t443 => (if t443 < 0 then (none) else (laws_heldInt64SS.l0 k x0 t443 (wrap64 (x5 + 1))))) else (none)) else (some x1)
def laws_heldInt64SS.f (k : Nat) (l0 : List (List Int)) (a1 : Int) : Option (Int) := laws_heldInt64SS.l0 k l0 a1 0
theorem laws_heldInt64SS.mono_l : ∀ k, (∀ y0 y1 y2, LeO (laws_heldInt64SS.l0 k y0 y1 y2) (laws_heldInt64SS.l0 (k + 1) y0 y1 y2))
 | 0 => fun _ _ _ r h => by simp [laws_heldInt64SS.l0] at h
 | k + 1 => by
  have ih0 := laws_heldInt64SS.mono_l k
  ·intro y0 y1 y2
   unfold laws_heldInt64SS.l0
   repeat' first
   | (with_reducible exact ih0 _ _ _)
   | (with_reducible exact laws_heldInt64S.mono _ _ _)
   | (with_reducible exact LeO.refl _)
   | (with_reducible exact LeO.none _)
   | (with_reducible refine LeO.ite ?_ ?_)
   | (with_reducible refine LeO.bind ?_ (fun _ => ?_))
   | exact ih0 _ _ _
   | exact laws_heldInt64S.mono _ _ _
   | exact LeO.none _
   | refine LeO.ite ?_ ?_
   | refine LeO.bind ?_ (fun _ => ?_)
theorem laws_heldInt64SS.mono : ∀ a0 a1 k, LeO (laws_heldInt64SS.f k a0 a1) (laws_heldInt64SS.f (k + 1) a0 a1) := by
 intro a0 a1 k
 have ih0 := laws_heldInt64SS.mono_l k
 unfold laws_heldInt64SS.f
 repeat' first
   | (with_reducible exact ih0 _ _ _)
   | (with_reducible exact laws_heldInt64S.mono _ _ _)
   | (with_reducible exact LeO.refl _)
   | (with_reducible exact LeO.none _)
   | (with_reducible refine LeO.ite ?_ ?_)
   | (with_reducible refine LeO.bind ?_ (fun _ => ?_))
   | exact ih0 _ _ _
   | exact laws_heldInt64S.mono _ _ _
   | exact LeO.none _
   | refine LeO.ite ?_ ?_
   | refine LeO.bind ?_ (fun _ => ?_)
set_option maxHeartbeats 8000000 in
set_option maxRecDepth 100000 in
theorem laws_heldInt64SS.calls (k : Nat) (A0 : Option Addr) (c0 : Nat) (l0 : List (List Int)) (a1 : Int) (r : Int) (w : World) (hr0 : Kd.C (Kd.slice 2 (Kd.int .i64)) w A0 l0.length l0) (hc0 : l0.length ≤ c0) (h : laws_heldInt64SS.f k l0 a1 = some r) :
  Calls Try.prog 170 #[.slice A0 l0.length c0, .int .i64 a1] w fun e w' => e = .returned (.int .i64 r) ∧ Drawn0 w w' := by
 have HR0 := Aside0.mk hr0
 have HC0 := Aside0.mk hc0
 clear hr0 hc0
 have H : (laws_heldInt64SS.l0 k l0 a1 0) = some r := h
 clear h
 have H' := Aside0.mk H
 clear H
 go_enter Try.func170, Try.ntmps170
 go_wp2
 go_loopg [1, 5] k (fun kq v1 v5 w' => ∃ (x1_1 : Int) (x5_1 : Int), v1 = .int .i64 x1_1 ∧ v5 = .int .i64 x5_1 ∧ Aside0 (laws_heldInt64SS.l0 kq l0 x1_1 x5_1 = some r) ∧ Aside0 (kq ≤ k) ∧ Drawn0 w w')
 case atStart => exact ⟨(a1), (0), rq, rq, H', ⟨Nat.le_refl _⟩, by repeat (first | exact Drawn0.refl _ | apply Drawn0.step)⟩
 case round =>
  clear H'
  try clear c1
  try clear p2
  obtain ⟨x1_1, x5_1, rfl, rfl, HA, HK1, ⟨m1, rfl⟩⟩ := hrel
  cases gk with
  | zero => exact absurd HA.out (by simp [laws_heldInt64SS.l0])
  | succ k1 =>
   have H := HA.out
   clear HA
   simp only [laws_heldInt64SS.l0] at H
   by_cases c3 : x5_1 < (l0.length : Int)
   ·rw [if_pos c3] at H
    have c3b0 : decide (x5_1 < (l0.length : Int)) = true := decide_eq_true c3
    clear c3
    by_cases c4 : 0 ≤ x5_1
    ·rw [if_pos c4] at H
     have c4b0 : decide (0 ≤ x5_1) = true := decide_eq_true c4
     clear c4
     replace H := bnd H
     obtain ⟨t443, A5, H⟩ := H
     by_cases c6 : t443 < 0
     ·rw [if_pos c6] at H
      exact absurd H (by simp)
     ·rw [if_neg c6] at H
      have c6b0 : decide (t443 < 0) = false := decide_eq_false c6
      clear c6
      have H' := Aside0.mk H
      clear H
      have p442 : 0 ≤ (x5_1 : Int) := dta
      have q442 : x5_1 < (l0.length : Int) := dta
      obtain ⟨ad442, A442_0, c442_0, e442, hx442_0, hl442_0, hi442_0⟩ := at_L1 HR0.out x5_1 p442 q442
      cases e442
      have HR442_0 := Aside0.mk hi442_0
      have HC442_0 := Aside0.mk hl442_0
      clear hi442_0 hl442_0
      replace p442 := eq_true p442
      replace q442 := eq_true q442
      go_wp2_with (first | ((with_reducible refine gate_callee (f := 83) rfl ?_); refine gl_ 17 Try.func83 #[.slice A442_0 (rd_L1 l0 x5_1).length c442_0, .int .i64 x1_1] ?_; (with_reducible refine (laws_heldInt64S.calls k1 _ _ (rd_L1 l0 x5_1) x1_1 t443 _ ?side1 ?side2 A5.out).mono ?_); (case side1 => repeat (first | exact HR442_0.out | (with_reducible refine Kd.C_alloc ?_ _) | (with_reducible refine Kd.C_drewN ?_ _) | (with_reducible refine Kd.C_drew ?_))); (case side2 => exact HC442_0.out); rintro e w' ⟨rfl, ⟨nd, rfl⟩⟩; refine ⟨_, rfl, ?_⟩))
      go_roundg k1
      case measure => have := HK1.out; omega
      case rel => exact ⟨(t443), (wrap64 (x5_1 + 1)), rq, rq, H', ⟨by have := HK1.out; omega⟩, by repeat (first | exact Drawn0.refl _ | apply Drawn0.step)⟩
    ·rw [if_neg c4] at H
     exact absurd H (by simp)
   ·rw [if_neg c3] at H
    have c3b0 : decide (x5_1 < (l0.length : Int)) = false := decide_eq_false c3
    clear c3
    obtain rfl := Option.some.inj H
    go_wp2
    go_ret
    exact dsq

/-! ### laws_heldFrame: function 119 -/
def laws_heldFrame.f (k : Nat) (a0_0 : Int) (a0_1 : Int) (a0_2 : Int) (a0_3 : Int) (a0_4 : Int) (l0_5 : List Int) (l0_6 : List Int) (l0_7 : List (List Int)) (a1 : Int) : Option (Int) := (laws_heldInt64S.f k l0_5 a1).bind fun t445 => (if t445 < 0 then (none) else ((laws_heldInt64S.f k l0_6 t445).bind fun t446 => (if t446 < 0 then (none) else ((laws_heldInt64SS.f k l0_7 t446).bind fun t447 => (if t447 < 0 then (none) else (some t447))))))
theorem laws_heldFrame.mono : ∀ a0 a1 a2 a3 a4 a5 a6 a7 a8 k, LeO (laws_heldFrame.f k a0 a1 a2 a3 a4 a5 a6 a7 a8) (laws_heldFrame.f (k + 1) a0 a1 a2 a3 a4 a5 a6 a7 a8) := by
 intro a0 a1 a2 a3 a4 a5 a6 a7 a8 k
 unfold laws_heldFrame.f
 repeat' first
   | (with_reducible exact laws_heldInt64S.mono _ _ _)
   | (with_reducible exact laws_heldInt64SS.mono _ _ _)
   | (with_reducible exact LeO.refl _)
   | (with_reducible exact LeO.none _)
   | (with_reducible refine LeO.ite ?_ ?_)
   | (with_reducible refine LeO.bind ?_ (fun _ => ?_))
   | exact laws_heldInt64S.mono _ _ _
   | exact laws_heldInt64SS.mono _ _ _
   | exact LeO.none _
   | refine LeO.ite ?_ ?_
   | refine LeO.bind ?_ (fun _ => ?_)
set_option maxHeartbeats 8000000 in
set_option maxRecDepth 100000 in
theorem laws_heldFrame.calls (k : Nat) (a0_0 : Int) (a0_1 : Int) (a0_2 : Int) (a0_3 : Int) (a0_4 : Int) (A0_5 : Option Addr) (c0_5 : Nat) (l0_5 : List Int) (A0_6 : Option Addr) (c0_6 : Nat) (l0_6 : List Int) (A0_7 : Option Addr) (c0_7 : Nat) (l0_7 : List (List Int)) (a1 : Int) (r : Int) (w : World) (hr0_5 : Kd.C (Kd.int .i64) w A0_5 l0_5.length l0_5) (hc0_5 : l0_5.length ≤ c0_5) (hr0_6 : Kd.C (Kd.int .i64) w A0_6 l0_6.length l0_6) (hc0_6 : l0_6.length ≤ c0_6) (hr0_7 : Kd.C (Kd.slice 2 (Kd.int .i64)) w A0_7 l0_7.length l0_7) (hc0_7 : l0_7.length ≤ c0_7) (h : laws_heldFrame.f k a0_0 a0_1 a0_2 a0_3 a0_4 l0_5 l0_6 l0_7 a1 = some r) :
  Calls Try.prog 119 #[.agg #[.int .i64 a0_0, .int .i64 a0_1, .int .i64 a0_2, .int .i64 a0_3, .int .i64 a0_4, .slice A0_5 l0_5.length c0_5, .slice A0_6 l0_6.length c0_6, .slice A0_7 l0_7.length c0_7], .int .i64 a1] w fun e w' => e = .returned (.int .i64 r) ∧ Below w.heap.size w w' := by
 have hu36 := Try.underlying36
 have HR0_5 := Aside0.mk hr0_5
 have HC0_5 := Aside0.mk hc0_5
 clear hr0_5 hc0_5
 have HR0_6 := Aside0.mk hr0_6
 have HC0_6 := Aside0.mk hc0_6
 clear hr0_6 hc0_6
 have HR0_7 := Aside0.mk hr0_7
 have HC0_7 := Aside0.mk hc0_7
 clear hr0_7 hc0_7
 have HB := Aside0.mk (Below.refl w.heap.size w)
 have H : ((laws_heldInt64S.f k l0_5 a1).bind fun t445 => (if t445 < 0 then (none) else ((laws_heldInt64S.f k l0_6 t445).bind fun t446 => (if t446 < 0 then (none) else ((laws_heldInt64SS.f k l0_7 t446).bind fun t447 => (if t447 < 0 then (none) else (some t447))))))) = some r := h
 clear h
 replace H := bnd H
 obtain ⟨t445, A3, H⟩ := H
 by_cases c4 : t445 < 0
 ·rw [if_pos c4] at H
  exact absurd H (by simp)
 ·rw [if_neg c4] at H
  have c4b0 : decide (t445 < 0) = false := decide_eq_false c4
  clear c4
  replace H := bnd H
  obtain ⟨t446, A5, H⟩ := H
  by_cases c6 : t446 < 0
  ·rw [if_pos c6] at H
   exact absurd H (by simp)
  ·rw [if_neg c6] at H
   have c6b0 : decide (t446 < 0) = false := decide_eq_false c6
   clear c6
   replace H := bnd H
   obtain ⟨t447, A7, H⟩ := H
   by_cases c8 : t447 < 0
   ·rw [if_pos c8] at H
    exact absurd H (by simp)
   ·rw [if_neg c8] at H
    have c8b0 : decide (t447 < 0) = false := decide_eq_false c8
    clear c8
    obtain rfl := Option.some.inj H
    go_enter Try.func119, Try.ntmps119
    go_wp2_with (first | ((with_reducible refine gate_dst (N := 2) rfl ?_); refine bev 2 36 #[.int .i64 a0_0, .int .i64 a0_1, .int .i64 a0_2, .int .i64 a0_3, .int .i64 a0_4, .slice A0_5 l0_5.length c0_5, .slice A0_6 l0_6.length c0_6, .slice A0_7 l0_7.length c0_7] ?_; intro gb444 hg w9 hbox hb; have BK444 := am hbox; have GW444 := gwe hg; have GE444 := gwe hg; replace HB := hbs hb; clear hb hbox hg; obtain ⟨hcz10_0, hcz10_1, hcz10_2, hcz10_3, hcz10_4, hcz10_5, hcz10_6, hcz10_7, hfz10_0, hfz10_1, hfz10_2, hfz10_3, hfz10_4, hfz10_5, hfz10_6, hfz10_7⟩ := cf8 (W := w9) BK444.out) | ((with_reducible refine gate_callee (f := 83) rfl ?_); refine gl_ 8 Try.func83 #[.slice A0_5 l0_5.length c0_5, .int .i64 a1] ?_; (with_reducible refine (laws_heldInt64S.calls k _ _ l0_5 a1 t445 _ ?_ ?_ A3.out).mono ?_); exact cpl HR0_5.out; exact HC0_5.out; rintro e w' ⟨rfl, ⟨nd, rfl⟩⟩; refine ⟨_, rfl, ?_⟩) | ((with_reducible refine gate_callee (f := 83) rfl ?_); refine gl_ 14 Try.func83 #[.slice A0_6 l0_6.length c0_6, .int .i64 t445] ?_; (with_reducible refine (laws_heldInt64S.calls k _ _ l0_6 t445 t446 _ ?side1 ?side2 A5.out).mono ?_); (case side1 => repeat (first | exact (Kd.C_below HR0_6.out bnx) | (with_reducible refine Kd.C_alloc ?_ _) | (with_reducible refine Kd.C_drewN ?_ _) | (with_reducible refine Kd.C_drew ?_))); (case side2 => exact HC0_6.out); rintro e w' ⟨rfl, ⟨nd, rfl⟩⟩; refine ⟨_, rfl, ?_⟩) | ((with_reducible refine gate_callee (f := 170) rfl ?_); refine gl_ 20 Try.func170 #[.slice A0_7 l0_7.length c0_7, .int .i64 t446] ?_; (with_reducible refine (laws_heldInt64SS.calls k _ _ l0_7 t446 t447 _ ?side1 ?side2 A7.out).mono ?_); (case side1 => repeat (first | exact (Kd.C_below HR0_7.out bnx) | (with_reducible refine Kd.C_alloc ?_ _) | (with_reducible refine Kd.C_drewN ?_ _) | (with_reducible refine Kd.C_drew ?_))); (case side2 => exact HC0_7.out); rintro e w' ⟨rfl, ⟨nd, rfl⟩⟩; refine ⟨_, rfl, ?_⟩))
    go_ret
    exact ⟨enq, bnx⟩

/-! ### laws_heldFrameResult: function 48 -/
def laws_heldFrameResult.f (k : Nat) (a0_0 : Int) (a0_1 : Int) (a0_2 : Int) (a0_3 : Int) (a0_4 : Int) (a0_5 : Int) (l0_6 : List Int) (l0_7 : List Int) (l0_8 : List (List Int)) (a1 : Int) : Option (Int) := (laws_heldFrame.f k a0_1 a0_2 a0_3 a0_4 a0_5 l0_6 l0_7 l0_8 a1).bind fun t449 => (if t449 < 0 then (none) else (some t449))
theorem laws_heldFrameResult.mono : ∀ a0 a1 a2 a3 a4 a5 a6 a7 a8 a9 k, LeO (laws_heldFrameResult.f k a0 a1 a2 a3 a4 a5 a6 a7 a8 a9) (laws_heldFrameResult.f (k + 1) a0 a1 a2 a3 a4 a5 a6 a7 a8 a9) := by
 intro a0 a1 a2 a3 a4 a5 a6 a7 a8 a9 k
 unfold laws_heldFrameResult.f
 repeat' first
   | (with_reducible exact laws_heldFrame.mono _ _ _ _ _ _ _ _ _ _)
   | (with_reducible exact LeO.refl _)
   | (with_reducible exact LeO.none _)
   | (with_reducible refine LeO.ite ?_ ?_)
   | (with_reducible refine LeO.bind ?_ (fun _ => ?_))
   | exact laws_heldFrame.mono _ _ _ _ _ _ _ _ _ _
   | exact LeO.none _
   | refine LeO.ite ?_ ?_
   | refine LeO.bind ?_ (fun _ => ?_)
set_option maxHeartbeats 8000000 in
set_option maxRecDepth 100000 in
theorem laws_heldFrameResult.calls (k : Nat) (a0_0 : Int) (a0_1 : Int) (a0_2 : Int) (a0_3 : Int) (a0_4 : Int) (a0_5 : Int) (A0_6 : Option Addr) (c0_6 : Nat) (l0_6 : List Int) (A0_7 : Option Addr) (c0_7 : Nat) (l0_7 : List Int) (A0_8 : Option Addr) (c0_8 : Nat) (l0_8 : List (List Int)) (a1 : Int) (r : Int) (w : World) (hr0_6 : Kd.C (Kd.int .i64) w A0_6 l0_6.length l0_6) (hc0_6 : l0_6.length ≤ c0_6) (hr0_7 : Kd.C (Kd.int .i64) w A0_7 l0_7.length l0_7) (hc0_7 : l0_7.length ≤ c0_7) (hr0_8 : Kd.C (Kd.slice 2 (Kd.int .i64)) w A0_8 l0_8.length l0_8) (hc0_8 : l0_8.length ≤ c0_8) (h : laws_heldFrameResult.f k a0_0 a0_1 a0_2 a0_3 a0_4 a0_5 l0_6 l0_7 l0_8 a1 = some r) :
  Calls Try.prog 48 #[.agg #[.int .i64 a0_0, .int .i64 a0_1, .int .i64 a0_2, .int .i64 a0_3, .int .i64 a0_4, .int .i64 a0_5, .slice A0_6 l0_6.length c0_6, .slice A0_7 l0_7.length c0_7, .slice A0_8 l0_8.length c0_8], .int .i64 a1] w fun e w' => e = .returned (.int .i64 r) ∧ Below w.heap.size w w' := by
 have hu59 := Try.underlying59
 have hu36 := Try.underlying36
 have HR0_6 := Aside0.mk hr0_6
 have HC0_6 := Aside0.mk hc0_6
 clear hr0_6 hc0_6
 have HR0_7 := Aside0.mk hr0_7
 have HC0_7 := Aside0.mk hc0_7
 clear hr0_7 hc0_7
 have HR0_8 := Aside0.mk hr0_8
 have HC0_8 := Aside0.mk hc0_8
 clear hr0_8 hc0_8
 have HB := Aside0.mk (Below.refl w.heap.size w)
 have H : ((laws_heldFrame.f k a0_1 a0_2 a0_3 a0_4 a0_5 l0_6 l0_7 l0_8 a1).bind fun t449 => (if t449 < 0 then (none) else (some t449))) = some r := h
 clear h
 replace H := bnd H
 obtain ⟨t449, A3, H⟩ := H
 by_cases c4 : t449 < 0
 ·rw [if_pos c4] at H
  exact absurd H (by simp)
 ·rw [if_neg c4] at H
  have c4b0 : decide (t449 < 0) = false := decide_eq_false c4
  clear c4
  obtain rfl := Option.some.inj H
  go_enter Try.func48, Try.ntmps48
  go_wp2_with (first | ((with_reducible refine gate_dst (N := 2) rfl ?_); refine bev 2 59 #[.int .i64 a0_0, .int .i64 a0_1, .int .i64 a0_2, .int .i64 a0_3, .int .i64 a0_4, .int .i64 a0_5, .slice A0_6 l0_6.length c0_6, .slice A0_7 l0_7.length c0_7, .slice A0_8 l0_8.length c0_8] ?_; intro gb448 hg w5 hbox hb; have BK448 := am hbox; have GW448 := gwe hg; have GE448 := gwe hg; replace HB := hbs hb; clear hb hbox hg; obtain ⟨hcz6_0, hcz6_1, hcz6_2, hcz6_3, hcz6_4, hcz6_5, hcz6_6, hcz6_7, hcz6_8, hfz6_0, hfz6_1, hfz6_2, hfz6_3, hfz6_4, hfz6_5, hfz6_6, hfz6_7, hfz6_8⟩ := cf9 (W := w5) BK448.out) | ((with_reducible refine gate_callee (f := 119) rfl ?_); refine gl_ 8 Try.func119 #[.agg #[.int .i64 a0_1, .int .i64 a0_2, .int .i64 a0_3, .int .i64 a0_4, .int .i64 a0_5, .slice A0_6 l0_6.length c0_6, .slice A0_7 l0_7.length c0_7, .slice A0_8 l0_8.length c0_8], .int .i64 a1] ?_; (with_reducible refine (laws_heldFrame.calls k a0_1 a0_2 a0_3 a0_4 a0_5 _ _ l0_6 _ _ l0_7 _ _ l0_8 a1 t449 _ ?_ ?_ ?_ ?_ ?_ ?_ A3.out).mono ?_); exact cpl HR0_6.out; exact HC0_6.out; exact cpl HR0_7.out; exact HC0_7.out; exact cpl HR0_8.out; exact HC0_8.out; rintro e w7 ⟨rfl, hb⟩; refine ⟨_, rfl, ?_⟩; replace BK448 := bkb BK448 hb; replace HB := hbs hb; (try clear hb)))
  go_ret
  exact ⟨enq, bnx⟩

/-! What a law keeps: the blocks that lie between two marks. -/
section
variable {α : Type} {d : Kd α} {e base a b : Nat} {ok : Nat → Prop} {w W : World} {v : Value} {xs : List α}
theorem lw_Rcap (h : d.R e w base ok v xs) : d.R e w base (fun k_ => ok k_ ∧ base ≤ k_ ∧ k_ < w.heap.size) v xs := Kd.R_mono (Kd.R_bound h) (fun _ hk => ⟨hk.1, hk.2.1, hk.2.2.1⟩)
theorem lw_Scap (h : Kd.S d e w base ok v xs) : Kd.S d e w base (fun k_ => ok k_ ∧ base ≤ k_ ∧ k_ < w.heap.size) v xs := Kd.S_mono (Kd.S_bound h) (fun _ hk => ⟨hk.1, hk.2.1, hk.2.2.1⟩)
theorem lw_Rheld (h : d.R e w base (fun k_ => ok k_ ∧ a ≤ k_ ∧ k_ < b) v xs) (hk : Kept w W (fun k_ => ¬ (a ≤ k_ ∧ k_ < b))) : d.R e W base (fun k_ => ok k_ ∧ a ≤ k_ ∧ k_ < b) v xs := Kd.R_kept h hk (fun _ ho hn => hn ho.2)
theorem lw_Sheld (h : Kd.S d e w base (fun k_ => ok k_ ∧ a ≤ k_ ∧ k_ < b) v xs) (hk : Kept w W (fun k_ => ¬ (a ≤ k_ ∧ k_ < b))) : Kd.S d e W base (fun k_ => ok k_ ∧ a ≤ k_ ∧ k_ < b) v xs := Kd.S_kept h hk (fun _ ho hn => hn ho.2)
theorem lw_Rlen {A : Option Addr} {n c : Nat} (h : d.R e w base ok (.slice A n c) xs) : xs.length ≤ c := by have h_ := Kd.R_reads' h; have := h_.1; have := h_.2.1; omega
theorem lw_Slen {A : Option Addr} {n c : Nat} (h : Kd.S d e w base ok (.slice A n c) xs) : xs.length ≤ c := by have h_ := Kd.S_reads' h; have := h_.1; have := h_.2.1; omega
end
theorem lw_cells9 {W : World} {g T : Nat} {a0 a1 a2 a3 a4 a5 a6 a7 a8 : Value} (hb : W.heap[g]? = some (.cells #[a0, a1, a2, a3, a4, a5, a6, a7, a8] T (0, 0))) : W.cell? ⟨g, 0, none⟩ = some a0 ∧ W.cell? ⟨g, 1, none⟩ = some a1 ∧ W.cell? ⟨g, 2, none⟩ = some a2 ∧ W.cell? ⟨g, 3, none⟩ = some a3 ∧ W.cell? ⟨g, 4, none⟩ = some a4 ∧ W.cell? ⟨g, 5, none⟩ = some a5 ∧ W.cell? ⟨g, 6, none⟩ = some a6 ∧ W.cell? ⟨g, 7, none⟩ = some a7 ∧ W.cell? ⟨g, 8, none⟩ = some a8 := ⟨(blk_cell hb 0).trans rfl, (blk_cell hb 1).trans rfl, (blk_cell hb 2).trans rfl, (blk_cell hb 3).trans rfl, (blk_cell hb 4).trans rfl, (blk_cell hb 5).trans rfl, (blk_cell hb 6).trans rfl, (blk_cell hb 7).trans rfl, (blk_cell hb 8).trans rfl⟩
theorem lw_frz9 {W : World} {g T : Nat} {cs : Array Value} (hb : W.heap[g]? = some (.cells cs T (0, 0))) : W.frozen? ⟨g, 0, none⟩ = false ∧ W.frozen? ⟨g, 1, none⟩ = false ∧ W.frozen? ⟨g, 2, none⟩ = false ∧ W.frozen? ⟨g, 3, none⟩ = false ∧ W.frozen? ⟨g, 4, none⟩ = false ∧ W.frozen? ⟨g, 5, none⟩ = false ∧ W.frozen? ⟨g, 6, none⟩ = false ∧ W.frozen? ⟨g, 7, none⟩ = false ∧ W.frozen? ⟨g, 8, none⟩ = false := ⟨blk_frozen hb 0, blk_frozen hb 1, blk_frozen hb 2, blk_frozen hb 3, blk_frozen hb 4, blk_frozen hb 5, blk_frozen hb 6, blk_frozen hb 7, blk_frozen hb 8⟩
theorem lw_put9 {W : World} {g T : Nat} {z0 z1 z2 z3 z4 z5 z6 z7 z8 : Value} (hb : W.heap[g]? = some (.cells #[z0, z1, z2, z3, z4, z5, z6, z7, z8] T (0, 0))) (a0 a1 a2 a3 a4 a5 a6 a7 a8 : Value) : (((((((((W.setCell ⟨g, 0, none⟩ a0).setCell ⟨g, 1, none⟩ a1).setCell ⟨g, 2, none⟩ a2).setCell ⟨g, 3, none⟩ a3).setCell ⟨g, 4, none⟩ a4).setCell ⟨g, 5, none⟩ a5).setCell ⟨g, 6, none⟩ a6).setCell ⟨g, 7, none⟩ a7).setCell ⟨g, 8, none⟩ a8).heap[g]? = some (.cells #[a0, a1, a2, a3, a4, a5, a6, a7, a8] T (0, 0)) := by
  refine blk_put (cs := #[a0, a1, a2, a3, a4, a5, a6, a7, z8]) ?_ 8 _ rfl
  refine blk_put (cs := #[a0, a1, a2, a3, a4, a5, a6, z7, z8]) ?_ 7 _ rfl
  refine blk_put (cs := #[a0, a1, a2, a3, a4, a5, z6, z7, z8]) ?_ 6 _ rfl
  refine blk_put (cs := #[a0, a1, a2, a3, a4, z5, z6, z7, z8]) ?_ 5 _ rfl
  refine blk_put (cs := #[a0, a1, a2, a3, z4, z5, z6, z7, z8]) ?_ 4 _ rfl
  refine blk_put (cs := #[a0, a1, a2, z3, z4, z5, z6, z7, z8]) ?_ 3 _ rfl
  refine blk_put (cs := #[a0, a1, z2, z3, z4, z5, z6, z7, z8]) ?_ 2 _ rfl
  refine blk_put (cs := #[a0, z1, z2, z3, z4, z5, z6, z7, z8]) ?_ 1 _ rfl
  refine blk_put (cs := #[z0, z1, z2, z3, z4, z5, z6, z7, z8]) ?_ 0 _ rfl
  exact hb
theorem lw_set9 {W : World} {g : Nat} (a0 a1 a2 a3 a4 a5 a6 a7 a8 : Value) : W.setCells g 0 [a0, a1, a2, a3, a4, a5, a6, a7, a8] = (((((((((W.setCell ⟨g, 0, none⟩ a0).setCell ⟨g, 1, none⟩ a1).setCell ⟨g, 2, none⟩ a2).setCell ⟨g, 3, none⟩ a3).setCell ⟨g, 4, none⟩ a4).setCell ⟨g, 5, none⟩ a5).setCell ⟨g, 6, none⟩ a6).setCell ⟨g, 7, none⟩ a7).setCell ⟨g, 8, none⟩ a8) := rfl
theorem lw_putk9 {w W : World} {S : Nat → Prop} {g : Nat} (hk : Kept w W S) (hg : S g ∨ w.heap.size ≤ g) (a0 a1 a2 a3 a4 a5 a6 a7 a8 : Value) : Kept w (((((((((W.setCell ⟨g, 0, none⟩ a0).setCell ⟨g, 1, none⟩ a1).setCell ⟨g, 2, none⟩ a2).setCell ⟨g, 3, none⟩ a3).setCell ⟨g, 4, none⟩ a4).setCell ⟨g, 5, none⟩ a5).setCell ⟨g, 6, none⟩ a6).setCell ⟨g, 7, none⟩ a7).setCell ⟨g, 8, none⟩ a8) S := Kept.setCell (p := ⟨g, 8, none⟩) (Kept.setCell (p := ⟨g, 7, none⟩) (Kept.setCell (p := ⟨g, 6, none⟩) (Kept.setCell (p := ⟨g, 5, none⟩) (Kept.setCell (p := ⟨g, 4, none⟩) (Kept.setCell (p := ⟨g, 3, none⟩) (Kept.setCell (p := ⟨g, 2, none⟩) (Kept.setCell (p := ⟨g, 1, none⟩) (Kept.setCell (p := ⟨g, 0, none⟩) (hk) hg a0) hg a1) hg a2) hg a3) hg a4) hg a5) hg a6) hg a7) hg a8
theorem lw_putb9 {w W : World} {g : Nat} (hk : Below w.heap.size w W) (hg : w.heap.size ≤ g) (a0 a1 a2 a3 a4 a5 a6 a7 a8 : Value) : Below w.heap.size w (((((((((W.setCell ⟨g, 0, none⟩ a0).setCell ⟨g, 1, none⟩ a1).setCell ⟨g, 2, none⟩ a2).setCell ⟨g, 3, none⟩ a3).setCell ⟨g, 4, none⟩ a4).setCell ⟨g, 5, none⟩ a5).setCell ⟨g, 6, none⟩ a6).setCell ⟨g, 7, none⟩ a7).setCell ⟨g, 8, none⟩ a8) := below_set (below_set (below_set (below_set (below_set (below_set (below_set (below_set (below_set (hk) hg) hg) hg) hg) hg) hg) hg) hg) hg

/-! ### laws_FnExactMakeFrame: function 8 -/
def laws_FnExactMakeFrame.f (k : Nat) (a0 : Int) (a1 : Int) (l2 : List Int) (a3 : Int) (a4 : Int) : Option (Bool) := if (l2.length : Int) > 1048576 then some true else (laws_toInt64S.f k l2).bind fun b1 => (spec_MakeFrame.f k a0 a1 b1 a3 a4).bind fun b2 => (impl_MakeFrame.f k a0 a1 b1 a3 a4).bind fun b3 => (laws_eqFrameResult.f k b3.1 b3.2.1 b3.2.2.1 b3.2.2.2.1 b3.2.2.2.2.1 b3.2.2.2.2.2.1 b3.2.2.2.2.2.2.1 b3.2.2.2.2.2.2.2.1 b3.2.2.2.2.2.2.2.2 b2.1 b2.2.1 b2.2.2.1 b2.2.2.2.1 b2.2.2.2.2.1 b2.2.2.2.2.2.1 b2.2.2.2.2.2.2.1 b2.2.2.2.2.2.2.2.1 b2.2.2.2.2.2.2.2.2).bind fun b4 => if b4 = true then (laws_eqInt64S.f k b1 b1).bind fun b5 => if b5 = true then (laws_markInt64S.f k b1 1).bind fun b6 => if b6.1 < 0 then none else (laws_markFrameResult.f k b3.1 b3.2.1 b3.2.2.1 b3.2.2.2.1 b3.2.2.2.2.1 b3.2.2.2.2.2.1 b3.2.2.2.2.2.2.1 b3.2.2.2.2.2.2.2.1 b3.2.2.2.2.2.2.2.2 1).bind fun b8 => (laws_heldFrameResult.f k b3.1 b3.2.1 b3.2.2.1 b3.2.2.2.1 b3.2.2.2.2.1 b3.2.2.2.2.2.1 b8.2.1 b8.2.2.1 b8.2.2.2 1).bind fun b9 => if b9 < 0 then none else if b9 = b8.1 then some true else none else none else none
set_option maxHeartbeats 8000000 in
set_option maxRecDepth 100000 in
theorem laws_FnExactMakeFrame.calls (k : Nat) (a0 : Int) (a1 : Int) (A2 : Option Addr) (c2 : Nat) (l2 : List Int) (a3 : Int) (a4 : Int) (r : Bool) (w : World) (hr2 : Kd.C (Kd.int .i64) w A2 l2.length l2) (hc2 : l2.length ≤ c2) (h : laws_FnExactMakeFrame.f k a0 a1 l2 a3 a4 = some r) :
    Calls Try.prog 8 #[.int .i64 a0, .int .i64 a1, .slice A2 l2.length c2, .int .i64 a3, .int .i64 a4] w fun e w' => e = .returned (.bool r) ∧ Below w.heap.size w w' := by
  have hu59 := Try.underlying59
  have HR2 := Aside0.mk hr2
  have HC2 := Aside0.mk hc2
  clear hr2 hc2
  have HB := Aside0.mk (Below.refl w.heap.size w)
  unfold laws_FnExactMakeFrame.f at h
  by_cases c_ : (l2.length : Int) > 1048576
  · rw [if_pos c_] at h
    obtain rfl := Option.some.inj h
    have c1_ : decide (1048576 < (l2.length : Int)) = true := decide_eq_true c_
    have c2_ : decide (1048576 < l2.length) = true := decide_eq_true (by omega)
    clear c_ h
    go_enter Try.func8, Try.ntmps8
    go_wp2
    go_ret
    exact ⟨by first | rfl | (simp; done) | (simp [*]; done), HB.out⟩
  rw [if_neg c_] at h
  have c1_ : decide (1048576 < (l2.length : Int)) = false := decide_eq_false c_
  have c2_ : decide (1048576 < l2.length) = false := decide_eq_false (by omega)
  clear c_
  replace h := Option.bind_eq_some_iff.mp h
  obtain ⟨x2_0, e_, h⟩ := h
  have Eto2 := Aside0.mk e_
  clear e_
  try dsimp only at h
  replace h := Option.bind_eq_some_iff.mp h
  obtain ⟨⟨y0, y1, y2, y3, y4, y5, y6, y7, y8⟩, e_, h⟩ := h
  have Ey := Aside0.mk e_
  clear e_
  try dsimp only at h
  replace h := Option.bind_eq_some_iff.mp h
  obtain ⟨⟨z0, z1, z2, z3, z4, z5, z6, z7, z8⟩, e_, h⟩ := h
  have Ez := Aside0.mk e_
  clear e_
  try dsimp only at h
  replace h := Option.bind_eq_some_iff.mp h
  obtain ⟨er, e_, h⟩ := h
  have Er := Aside0.mk e_
  clear e_
  try dsimp only at h
  by_cases c_ : er = true
  rotate_left
  · rw [if_neg c_] at h; cases h
  rw [if_pos c_] at h
  subst c_
  replace h := Option.bind_eq_some_iff.mp h
  obtain ⟨ep2, e_, h⟩ := h
  have Ep2 := Aside0.mk e_
  clear e_
  try dsimp only at h
  by_cases c_ : ep2 = true
  rotate_left
  · rw [if_neg c_] at h; cases h
  rw [if_pos c_] at h
  subst c_
  replace h := Option.bind_eq_some_iff.mp h
  obtain ⟨⟨k2, xm2_0⟩, e_, h⟩ := h
  have Em2 := Aside0.mk e_
  clear e_
  try dsimp only at h
  by_cases c_ : k2 < 0
  · rw [if_pos c_] at h; cases h
  rw [if_neg c_] at h
  have d0_ := decide_eq_false c_
  clear c_
  replace h := Option.bind_eq_some_iff.mp h
  obtain ⟨⟨m, zm6, zm7, zm8⟩, e_, h⟩ := h
  have Emr := Aside0.mk e_
  clear e_
  try dsimp only at h
  replace h := Option.bind_eq_some_iff.mp h
  obtain ⟨q, e_, h⟩ := h
  have Eh := Aside0.mk e_
  clear e_
  try dsimp only at h
  by_cases c_ : q < 0
  · rw [if_pos c_] at h; cases h
  rw [if_neg c_] at h
  have d1_ := decide_eq_false c_
  clear c_
  by_cases c_ : q = m
  rotate_left
  · rw [if_neg c_] at h; cases h
  rw [if_pos c_] at h
  subst c_
  obtain rfl := Option.some.inj h
  clear h
  go_enter Try.func8, Try.ntmps8
  go_wp2_with (first | ((with_reducible refine gate_callee (f := 42) rfl ?_); refine goesL_ (some 24) rfl rfl Try.func42 (by kernel_rfl) rfl #[.slice A2 l2.length c2] rfl (by (try simp only [List.map_toArray, List.map_cons, List.map_nil]); first | done | rfl) ?_; refine (laws_toInt64S.calls k A2 c2 l2 x2_0 _ (Kd.C_below HR2.out HB.out) HC2.out Eto2.out).mono ?_; rintro e w1 ⟨v0, rfl, ho0, hb⟩; refine ⟨_, rfl, ?_⟩; have OBCh2 := Aside0.mk (show w.heap.size ≤ w.heap.size from HB.out.size); obtain ⟨A3, c3, rfl⟩ := Kd.R_slice ho0; have RX3 := Aside0.mk (lw_Rcap ho0); clear ho0; have q0 := Aside0.mk (below_step HB.out hb); clear HB; have HB := q0; clear q0 hb; have Ch2 := Aside0.mk (Kept.refl w1 (fun k_ => ¬ (w.heap.size ≤ k_ ∧ k_ < w1.heap.size)))) | ((with_reducible refine gate_callee (f := 41) rfl ?_); refine goesL_ (some 27) rfl rfl Try.func41 (by kernel_rfl) rfl #[.int .i64 a0, .int .i64 a1, .slice A3 x2_0.length c3, .int .i64 a3, .int .i64 a4] rfl (by (try simp only [List.map_toArray, List.map_cons, List.map_nil]); first | done | rfl) ?_; refine (spec_MakeFrame.calls k a0 a1 A3 c3 x2_0 a3 a4 y0 y1 y2 y3 y4 y5 y6 y7 y8 _ (Kd.R_reads' (lw_Rheld RX3.out Ch2.out)).2.2 (lw_Rlen (lw_Rheld RX3.out Ch2.out)) Ey.out).mono ?_; rintro e w5 ⟨v6, v7, v8, rfl, ho6, ho7, ho8, hb⟩; refine ⟨_, rfl, ?_⟩; have OCh2_Ch6 := Aside0.mk (show w1.heap.size ≤ w1.heap.size from Ch2.out.1); have OBCh6 := Aside0.mk (show w.heap.size ≤ w1.heap.size from HB.out.size); obtain ⟨A7, c7, rfl⟩ := Kd.R_slice ho6; have RX7 := Aside0.mk (lw_Rcap ho6); obtain ⟨A8, c8, rfl⟩ := Kd.R_slice ho7; have RX8 := Aside0.mk (lw_Rcap ho7); obtain ⟨A9, c9, rfl⟩ := Kd.S_slice ho8; have RX9 := Aside0.mk (lw_Scap ho8); clear ho6 ho7 ho8; have q0 := Aside0.mk (below_step HB.out hb); have q1 := Aside0.mk (Kept.below Ch2.out hb); clear HB Ch2; have HB := q0; have Ch2 := q1; clear q0 q1 hb; have Ch6 := Aside0.mk (Kept.refl w5 (fun k_ => ¬ (w1.heap.size ≤ k_ ∧ k_ < w5.heap.size))); clear Ch2) | ((with_reducible refine gate_dst (N := 11) rfl ?_); refine bev 11 59 #[.int .i64 0, .int .i64 0, .int .i64 0, .int .i64 0, .int .i64 0, .int .i64 0, .slice none 0 0, .slice none 0 0, .slice none 0 0] ?_; intro gb11 hg w12 hbox hb; have GBgb11 := Aside0.mk (show w.heap.size ≤ gb11 by rw [hg]; exact HB.out.size); have GCh6_gb11 := Aside0.mk (show w5.heap.size ≤ gb11 by rw [hg]; exact Ch6.out.1); have q0 := Aside0.mk (below_step HB.out hb); have q1 := Aside0.mk (Kept.below Ch6.out hb); clear HB Ch6; have HB := q0; have Ch6 := q1; clear q0 q1 hb; have BZ := Aside0.mk hbox; obtain ⟨cz0, cz1, cz2, cz3, cz4, cz5, cz6, cz7, cz8⟩ := lw_cells9 hbox; obtain ⟨cf0, cf1, cf2, cf3, cf4, cf5, cf6, cf7, cf8⟩ := lw_frz9 hbox; clear hbox hg) | ((with_reducible refine gate_store (t := 59) (p := 11) rfl ?_); refine store_event (t := 59) (p := 11) (v := ?vo_w13) (w1 := (((((((((w12.setCell ⟨gb11, 0, none⟩ (.int .i64 y0)).setCell ⟨gb11, 1, none⟩ (.int .i64 y1)).setCell ⟨gb11, 2, none⟩ (.int .i64 y2)).setCell ⟨gb11, 3, none⟩ (.int .i64 y3)).setCell ⟨gb11, 4, none⟩ (.int .i64 y4)).setCell ⟨gb11, 5, none⟩ (.int .i64 y5)).setCell ⟨gb11, 6, none⟩ (.slice A7 y6.length c7)).setCell ⟨gb11, 7, none⟩ (.slice A8 y7.length c8)).setCell ⟨gb11, 8, none⟩ (.slice A9 y8.length c9))) ?hg ?ho ?hn ?hr ?_; (case ho => rfl); (case hg => rfl); (case hn => rfl); (case hr => first | (go_simp; done) | (go_simp; rfl)); intro w13 hw; have q0 := Aside0.mk (show Below w.heap.size w w13 by rw [hw]; exact lw_putb9 HB.out GBgb11.out (.int .i64 y0) (.int .i64 y1) (.int .i64 y2) (.int .i64 y3) (.int .i64 y4) (.int .i64 y5) (.slice A7 y6.length c7) (.slice A8 y7.length c8) (.slice A9 y8.length c9)); have q1 := Aside0.mk (show Kept w5 w13 (fun k_ => ¬ (w1.heap.size ≤ k_ ∧ k_ < w5.heap.size)) by rw [hw]; exact lw_putk9 Ch6.out (.inr GCh6_gb11.out) (.int .i64 y0) (.int .i64 y1) (.int .i64 y2) (.int .i64 y3) (.int .i64 y4) (.int .i64 y5) (.slice A7 y6.length c7) (.slice A8 y7.length c8) (.slice A9 y8.length c9)); clear HB Ch6; have HB := q0; have Ch6 := q1; clear q0 q1; have BKgb11 := Aside0.mk (show w13.heap[gb11]? = some (.cells #[.int .i64 y0, .int .i64 y1, .int .i64 y2, .int .i64 y3, .int .i64 y4, .int .i64 y5, .slice A7 y6.length c7, .slice A8 y7.length c8, .slice A9 y8.length c9] 59 (0, 0)) by rw [hw]; exact lw_put9 BZ.out (.int .i64 y0) (.int .i64 y1) (.int .i64 y2) (.int .i64 y3) (.int .i64 y4) (.int .i64 y5) (.slice A7 y6.length c7) (.slice A8 y7.length c8) (.slice A9 y8.length c9)); clear hw BZ; have Ch14 := Aside0.mk (Kept.refl w13 (fun k_ => ¬ k_ = gb11)); clear cz0 cz1 cz2 cz3 cz4 cz5 cz6 cz7 cz8 cf0 cf1 cf2 cf3 cf4 cf5 cf6 cf7 cf8) | ((with_reducible refine gate_callee (f := 42) rfl ?_); refine goesL_ (some 29) rfl rfl Try.func42 (by kernel_rfl) rfl #[.slice A2 l2.length c2] rfl (by (try simp only [List.map_toArray, List.map_cons, List.map_nil]); first | done | rfl) ?_; refine (laws_toInt64S.calls k A2 c2 l2 x2_0 _ (Kd.C_below HR2.out HB.out) HC2.out Eto2.out).mono ?_; rintro e w16 ⟨v0, rfl, ho0, hb⟩; refine ⟨_, rfl, ?_⟩; have OCh6_Ch17 := Aside0.mk (show w5.heap.size ≤ w13.heap.size from Ch6.out.1); have OCh14_Ch17 := Aside0.mk (show gb11 < w13.heap.size from Nat.lt_of_lt_of_le (blk_lt BKgb11.out) Ch14.out.1); have OBCh17 := Aside0.mk (show w.heap.size ≤ w13.heap.size from HB.out.size); obtain ⟨A18, c18, rfl⟩ := Kd.R_slice ho0; have RX18 := Aside0.mk (lw_Rcap ho0); clear ho0; have q0 := Aside0.mk (below_step HB.out hb); have q1 := Aside0.mk (Kept.below Ch6.out hb); have q2 := Aside0.mk (Kept.below Ch14.out hb); clear HB Ch6 Ch14; have HB := q0; have Ch6 := q1; have Ch14 := q2; clear q0 q1 q2 hb; have Ch17 := Aside0.mk (Kept.refl w16 (fun k_ => ¬ (w13.heap.size ≤ k_ ∧ k_ < w16.heap.size)))) | ((with_reducible refine gate_callee (f := 43) rfl ?_); refine goesL_ (some 35) rfl rfl Try.func43 (by kernel_rfl) rfl #[.int .i64 a0, .int .i64 a1, .slice A18 x2_0.length c18, .int .i64 a3, .int .i64 a4] rfl (by (try simp only [List.map_toArray, List.map_cons, List.map_nil]); first | done | rfl) ?_; refine (impl_MakeFrame.calls k a0 a1 A18 c18 x2_0 a3 a4 z0 z1 z2 z3 z4 z5 z6 z7 z8 _ (Kd.R_reads' (lw_Rheld RX18.out Ch17.out)).2.2 (lw_Rlen (lw_Rheld RX18.out Ch17.out)) Ez.out).mono ?_; rintro e w20 ⟨v6, v7, v8, rfl, ho6, ho7, ho8, hb⟩; refine ⟨_, rfl, ?_⟩; have OCh6_Ch21 := Aside0.mk (show w5.heap.size ≤ w16.heap.size from Ch6.out.1); have OCh14_Ch21 := Aside0.mk (show gb11 < w16.heap.size from Nat.lt_of_lt_of_le (blk_lt BKgb11.out) Ch14.out.1); have OCh17_Ch21 := Aside0.mk (show w16.heap.size ≤ w16.heap.size from Ch17.out.1); have OBCh21 := Aside0.mk (show w.heap.size ≤ w16.heap.size from HB.out.size); obtain ⟨A22, c22, rfl⟩ := Kd.R_slice ho6; have RX22 := Aside0.mk (lw_Rcap ho6); obtain ⟨A23, c23, rfl⟩ := Kd.R_slice ho7; have RX23 := Aside0.mk (lw_Rcap ho7); obtain ⟨A24, c24, rfl⟩ := Kd.S_slice ho8; have RX24 := Aside0.mk (lw_Scap ho8); clear ho6 ho7 ho8; have q0 := Aside0.mk (below_step HB.out hb); have q1 := Aside0.mk (Kept.below Ch6.out hb); have q2 := Aside0.mk (Kept.below Ch14.out hb); have q3 := Aside0.mk (Kept.below Ch17.out hb); clear HB Ch6 Ch14 Ch17; have HB := q0; have Ch6 := q1; have Ch14 := q2; have Ch17 := q3; clear q0 q1 q2 q3 hb; have Ch21 := Aside0.mk (Kept.refl w20 (fun k_ => ¬ (w16.heap.size ≤ k_ ∧ k_ < w20.heap.size)))) | ((with_reducible refine gate_dst (N := 13) rfl ?_); refine bev 13 59 #[.int .i64 0, .int .i64 0, .int .i64 0, .int .i64 0, .int .i64 0, .int .i64 0, .slice none 0 0, .slice none 0 0, .slice none 0 0] ?_; intro gb26 hg w27 hbox hb; have GBgb26 := Aside0.mk (show w.heap.size ≤ gb26 by rw [hg]; exact HB.out.size); have GCh6_gb26 := Aside0.mk (show w5.heap.size ≤ gb26 by rw [hg]; exact Ch6.out.1); have GCh14_gb26 := Aside0.mk (show w13.heap.size ≤ gb26 by rw [hg]; exact Ch14.out.1); have GCh17_gb26 := Aside0.mk (show w16.heap.size ≤ gb26 by rw [hg]; exact Ch17.out.1); have GCh21_gb26 := Aside0.mk (show w20.heap.size ≤ gb26 by rw [hg]; exact Ch21.out.1); have q0 := Aside0.mk (below_step HB.out hb); have q1 := Aside0.mk (Kept.below Ch6.out hb); have q2 := Aside0.mk (Kept.below Ch14.out hb); have q3 := Aside0.mk (Kept.below Ch17.out hb); have q4 := Aside0.mk (Kept.below Ch21.out hb); clear HB Ch6 Ch14 Ch17 Ch21; have HB := q0; have Ch6 := q1; have Ch14 := q2; have Ch17 := q3; have Ch21 := q4; clear q0 q1 q2 q3 q4 hb; have BZ := Aside0.mk hbox; obtain ⟨cz0, cz1, cz2, cz3, cz4, cz5, cz6, cz7, cz8⟩ := lw_cells9 hbox; obtain ⟨cf0, cf1, cf2, cf3, cf4, cf5, cf6, cf7, cf8⟩ := lw_frz9 hbox; clear hbox hg) | ((with_reducible refine gate_store (t := 59) (p := 13) rfl ?_); refine store_event (t := 59) (p := 13) (v := ?vo_w28) (w1 := (((((((((w27.setCell ⟨gb26, 0, none⟩ (.int .i64 z0)).setCell ⟨gb26, 1, none⟩ (.int .i64 z1)).setCell ⟨gb26, 2, none⟩ (.int .i64 z2)).setCell ⟨gb26, 3, none⟩ (.int .i64 z3)).setCell ⟨gb26, 4, none⟩ (.int .i64 z4)).setCell ⟨gb26, 5, none⟩ (.int .i64 z5)).setCell ⟨gb26, 6, none⟩ (.slice A22 z6.length c22)).setCell ⟨gb26, 7, none⟩ (.slice A23 z7.length c23)).setCell ⟨gb26, 8, none⟩ (.slice A24 z8.length c24))) ?hg ?ho ?hn ?hr ?_; (case ho => rfl); (case hg => rfl); (case hn => rfl); (case hr => first | (go_simp; done) | (go_simp; rfl)); intro w28 hw; have q0 := Aside0.mk (show Below w.heap.size w w28 by rw [hw]; exact lw_putb9 HB.out GBgb26.out (.int .i64 z0) (.int .i64 z1) (.int .i64 z2) (.int .i64 z3) (.int .i64 z4) (.int .i64 z5) (.slice A22 z6.length c22) (.slice A23 z7.length c23) (.slice A24 z8.length c24)); have q1 := Aside0.mk (show Kept w5 w28 (fun k_ => ¬ (w1.heap.size ≤ k_ ∧ k_ < w5.heap.size)) by rw [hw]; exact lw_putk9 Ch6.out (.inr GCh6_gb26.out) (.int .i64 z0) (.int .i64 z1) (.int .i64 z2) (.int .i64 z3) (.int .i64 z4) (.int .i64 z5) (.slice A22 z6.length c22) (.slice A23 z7.length c23) (.slice A24 z8.length c24)); have q2 := Aside0.mk (show Kept w13 w28 (fun k_ => ¬ k_ = gb11) by rw [hw]; exact lw_putk9 Ch14.out (.inr GCh14_gb26.out) (.int .i64 z0) (.int .i64 z1) (.int .i64 z2) (.int .i64 z3) (.int .i64 z4) (.int .i64 z5) (.slice A22 z6.length c22) (.slice A23 z7.length c23) (.slice A24 z8.length c24)); have q3 := Aside0.mk (show Kept w16 w28 (fun k_ => ¬ (w13.heap.size ≤ k_ ∧ k_ < w16.heap.size)) by rw [hw]; exact lw_putk9 Ch17.out (.inr GCh17_gb26.out) (.int .i64 z0) (.int .i64 z1) (.int .i64 z2) (.int .i64 z3) (.int .i64 z4) (.int .i64 z5) (.slice A22 z6.length c22) (.slice A23 z7.length c23) (.slice A24 z8.length c24)); have q4 := Aside0.mk (show Kept w20 w28 (fun k_ => ¬ (w16.heap.size ≤ k_ ∧ k_ < w20.heap.size)) by rw [hw]; exact lw_putk9 Ch21.out (.inr GCh21_gb26.out) (.int .i64 z0) (.int .i64 z1) (.int .i64 z2) (.int .i64 z3) (.int .i64 z4) (.int .i64 z5) (.slice A22 z6.length c22) (.slice A23 z7.length c23) (.slice A24 z8.length c24)); clear HB Ch6 Ch14 Ch17 Ch21; have HB := q0; have Ch6 := q1; have Ch14 := q2; have Ch17 := q3; have Ch21 := q4; clear q0 q1 q2 q3 q4; have BKgb26 := Aside0.mk (show w28.heap[gb26]? = some (.cells #[.int .i64 z0, .int .i64 z1, .int .i64 z2, .int .i64 z3, .int .i64 z4, .int .i64 z5, .slice A22 z6.length c22, .slice A23 z7.length c23, .slice A24 z8.length c24] 59 (0, 0)) by rw [hw]; exact lw_put9 BZ.out (.int .i64 z0) (.int .i64 z1) (.int .i64 z2) (.int .i64 z3) (.int .i64 z4) (.int .i64 z5) (.slice A22 z6.length c22) (.slice A23 z7.length c23) (.slice A24 z8.length c24)); clear hw BZ; have Ch29 := Aside0.mk (Kept.refl w28 (fun k_ => ¬ k_ = gb26)); clear cz0 cz1 cz2 cz3 cz4 cz5 cz6 cz7 cz8 cf0 cf1 cf2 cf3 cf4 cf5 cf6 cf7 cf8; obtain ⟨ccgb26_0, ccgb26_1, ccgb26_2, ccgb26_3, ccgb26_4, ccgb26_5, ccgb26_6, ccgb26_7, ccgb26_8⟩ := lw_cells9 (blk_kept BKgb26.out Ch29.out (fun h_ => h_ rfl)); obtain ⟨ccgb11_0, ccgb11_1, ccgb11_2, ccgb11_3, ccgb11_4, ccgb11_5, ccgb11_6, ccgb11_7, ccgb11_8⟩ := lw_cells9 (blk_kept BKgb11.out Ch14.out (fun h_ => h_ rfl))) | ((with_reducible refine gate_callee (f := 44) rfl ?_); refine goesL_ (some 38) rfl rfl Try.func44 (by kernel_rfl) rfl #[.agg #[.int .i64 z0, .int .i64 z1, .int .i64 z2, .int .i64 z3, .int .i64 z4, .int .i64 z5, .slice A22 z6.length c22, .slice A23 z7.length c23, .slice A24 z8.length c24], .agg #[.int .i64 y0, .int .i64 y1, .int .i64 y2, .int .i64 y3, .int .i64 y4, .int .i64 y5, .slice A7 y6.length c7, .slice A8 y7.length c8, .slice A9 y8.length c9]] rfl (by (try simp only [List.map_toArray, List.map_cons, List.map_nil]); first | done | rfl) ?_; refine (laws_eqFrameResult.calls k z0 z1 z2 z3 z4 z5 A22 c22 z6 A23 c23 z7 A24 c24 z8 y0 y1 y2 y3 y4 y5 A7 c7 y6 A8 c8 y7 A9 c9 y8 true _ (Kd.R_reads' (lw_Rheld RX22.out Ch21.out)).2.2 (lw_Rlen (lw_Rheld RX22.out Ch21.out)) (Kd.R_reads' (lw_Rheld RX23.out Ch21.out)).2.2 (lw_Rlen (lw_Rheld RX23.out Ch21.out)) (Kd.S_reads' (lw_Sheld RX24.out Ch21.out)).2.2 (lw_Slen (lw_Sheld RX24.out Ch21.out)) (Kd.R_reads' (lw_Rheld RX7.out Ch6.out)).2.2 (lw_Rlen (lw_Rheld RX7.out Ch6.out)) (Kd.R_reads' (lw_Rheld RX8.out Ch6.out)).2.2 (lw_Rlen (lw_Rheld RX8.out Ch6.out)) (Kd.S_reads' (lw_Sheld RX9.out Ch6.out)).2.2 (lw_Slen (lw_Sheld RX9.out Ch6.out)) Er.out).mono ?_; rintro e w31 ⟨rfl, hb⟩; refine ⟨_, rfl, ?_⟩; have q0 := Aside0.mk (below_step HB.out hb); have q1 := Aside0.mk (Kept.below Ch6.out hb); have q2 := Aside0.mk (Kept.below Ch14.out hb); have q3 := Aside0.mk (Kept.below Ch17.out hb); have q4 := Aside0.mk (Kept.below Ch21.out hb); have q5 := Aside0.mk (Kept.below Ch29.out hb); clear HB Ch6 Ch14 Ch17 Ch21 Ch29; have HB := q0; have Ch6 := q1; have Ch14 := q2; have Ch17 := q3; have Ch21 := q4; have Ch29 := q5; clear q0 q1 q2 q3 q4 q5 hb ccgb26_0 ccgb26_1 ccgb26_2 ccgb26_3 ccgb26_4 ccgb26_5 ccgb26_6 ccgb26_7 ccgb26_8 ccgb11_0 ccgb11_1 ccgb11_2 ccgb11_3 ccgb11_4 ccgb11_5 ccgb11_6 ccgb11_7 ccgb11_8) | ((with_reducible refine gate_callee (f := 42) rfl ?_); refine goesL_ (some 42) rfl rfl Try.func42 (by kernel_rfl) rfl #[.slice A2 l2.length c2] rfl (by (try simp only [List.map_toArray, List.map_cons, List.map_nil]); first | done | rfl) ?_; refine (laws_toInt64S.calls k A2 c2 l2 x2_0 _ (Kd.C_below HR2.out HB.out) HC2.out Eto2.out).mono ?_; rintro e w32 ⟨v0, rfl, ho0, hb⟩; refine ⟨_, rfl, ?_⟩; have OCh6_Ch33 := Aside0.mk (show w5.heap.size ≤ w31.heap.size from Ch6.out.1); have OCh14_Ch33 := Aside0.mk (show gb11 < w31.heap.size from Nat.lt_of_lt_of_le (blk_lt BKgb11.out) Ch14.out.1); have OCh17_Ch33 := Aside0.mk (show w16.heap.size ≤ w31.heap.size from Ch17.out.1); have OCh21_Ch33 := Aside0.mk (show w20.heap.size ≤ w31.heap.size from Ch21.out.1); have OCh29_Ch33 := Aside0.mk (show gb26 < w31.heap.size from Nat.lt_of_lt_of_le (blk_lt BKgb26.out) Ch29.out.1); have OBCh33 := Aside0.mk (show w.heap.size ≤ w31.heap.size from HB.out.size); obtain ⟨A34, c34, rfl⟩ := Kd.R_slice ho0; have RX34 := Aside0.mk (lw_Rcap ho0); clear ho0; have q0 := Aside0.mk (below_step HB.out hb); have q1 := Aside0.mk (Kept.below Ch6.out hb); have q2 := Aside0.mk (Kept.below Ch14.out hb); have q3 := Aside0.mk (Kept.below Ch17.out hb); have q4 := Aside0.mk (Kept.below Ch21.out hb); have q5 := Aside0.mk (Kept.below Ch29.out hb); clear HB Ch6 Ch14 Ch17 Ch21 Ch29; have HB := q0; have Ch6 := q1; have Ch14 := q2; have Ch17 := q3; have Ch21 := q4; have Ch29 := q5; clear q0 q1 q2 q3 q4 q5 hb; have Ch33 := Aside0.mk (Kept.refl w32 (fun k_ => ¬ (w31.heap.size ≤ k_ ∧ k_ < w32.heap.size)))) | ((with_reducible refine gate_callee (f := 45) rfl ?_); refine goesL_ (some 43) rfl rfl Try.func45 (by kernel_rfl) rfl #[.slice A18 x2_0.length c18, .slice A34 x2_0.length c34] rfl (by (try simp only [List.map_toArray, List.map_cons, List.map_nil]); first | done | rfl) ?_; refine (laws_eqInt64S.calls k A18 c18 x2_0 A34 c34 x2_0 true _ (Kd.R_reads' (lw_Rheld RX18.out Ch17.out)).2.2 (lw_Rlen (lw_Rheld RX18.out Ch17.out)) (Kd.R_reads' (lw_Rheld RX34.out Ch33.out)).2.2 (lw_Rlen (lw_Rheld RX34.out Ch33.out)) Ep2.out).mono ?_; rintro e w36 ⟨rfl, hd⟩; have hb := hd.below; clear hd; refine ⟨_, rfl, ?_⟩; have q0 := Aside0.mk (below_step HB.out hb); have q1 := Aside0.mk (Kept.below Ch6.out hb); have q2 := Aside0.mk (Kept.below Ch14.out hb); have q3 := Aside0.mk (Kept.below Ch17.out hb); have q4 := Aside0.mk (Kept.below Ch21.out hb); have q5 := Aside0.mk (Kept.below Ch29.out hb); have q6 := Aside0.mk (Kept.below Ch33.out hb); clear HB Ch6 Ch14 Ch17 Ch21 Ch29 Ch33; have HB := q0; have Ch6 := q1; have Ch14 := q2; have Ch17 := q3; have Ch21 := q4; have Ch29 := q5; have Ch33 := q6; clear q0 q1 q2 q3 q4 q5 q6 hb Ch33) | ((with_reducible refine gate_callee (f := 46) rfl ?_); refine goesL_ (some 47) rfl rfl Try.func46 (by kernel_rfl) rfl #[.slice A18 x2_0.length c18, .int .i64 1] rfl (by (try simp only [List.map_toArray, List.map_cons, List.map_nil]); first | done | rfl) ?_; refine (laws_markInt64S.calls k _ _ x2_0 1 k2 xm2_0 w _ HB.out (Kd.R_lower (Kd.R_tight rfl (lw_Rheld RX18.out Ch17.out)) OBCh17.out) Em2.out).mono ?_; rintro e w37 ⟨rfl, hy0, hb, hkp⟩; refine ⟨_, rfl, ?_⟩; have hkr := Kept.mono hkp (S' := fun k_ => w13.heap.size ≤ k_ ∧ k_ < w16.heap.size) (fun k_ hs => (RX18.out.1 k_ hs.symm).2); have q0 := Aside0.mk hb; have q1 := Aside0.mk (Kept.then_ Ch6.out hkr (fun k_ hk_ => .inl (fun hc_ => by have h_ := OCh6_Ch17.out; omega))); have q2 := Aside0.mk (Kept.then_ Ch14.out hkr (fun k_ hk_ => .inl (fun hc_ => by have h_ := OCh14_Ch17.out; omega))); have q3 := Aside0.mk (Kept.then_ Ch21.out hkr (fun k_ hk_ => .inl (fun hc_ => by have h_ := OCh17_Ch21.out; omega))); have q4 := Aside0.mk (Kept.then_ Ch29.out hkr (fun k_ hk_ => .inl (fun hc_ => by have h_ := GCh17_gb26.out; omega))); clear HB Ch6 Ch14 Ch21 Ch29; have HB := q0; have Ch6 := q1; have Ch14 := q2; have Ch21 := q3; have Ch29 := q4; clear q0 q1 q2 q3 q4 Ch17 hb hkp hkr hy0; obtain ⟨ccgb26_0, ccgb26_1, ccgb26_2, ccgb26_3, ccgb26_4, ccgb26_5, ccgb26_6, ccgb26_7, ccgb26_8⟩ := lw_cells9 (blk_kept BKgb26.out Ch29.out (fun h_ => h_ rfl)); obtain ⟨ccgb11_0, ccgb11_1, ccgb11_2, ccgb11_3, ccgb11_4, ccgb11_5, ccgb11_6, ccgb11_7, ccgb11_8⟩ := lw_cells9 (blk_kept BKgb11.out Ch14.out (fun h_ => h_ rfl))) | (go_at_call 44; refine (laws_eqFrameResult.calls k z0 z1 z2 z3 z4 z5 A22 c22 z6 A23 c23 z7 A24 c24 z8 y0 y1 y2 y3 y4 y5 A7 c7 y6 A8 c8 y7 A9 c9 y8 true _ (Kd.R_reads' (lw_Rheld RX22.out Ch21.out)).2.2 (lw_Rlen (lw_Rheld RX22.out Ch21.out)) (Kd.R_reads' (lw_Rheld RX23.out Ch21.out)).2.2 (lw_Rlen (lw_Rheld RX23.out Ch21.out)) (Kd.S_reads' (lw_Sheld RX24.out Ch21.out)).2.2 (lw_Slen (lw_Sheld RX24.out Ch21.out)) (Kd.R_reads' (lw_Rheld RX7.out Ch6.out)).2.2 (lw_Rlen (lw_Rheld RX7.out Ch6.out)) (Kd.R_reads' (lw_Rheld RX8.out Ch6.out)).2.2 (lw_Rlen (lw_Rheld RX8.out Ch6.out)) (Kd.S_reads' (lw_Sheld RX9.out Ch6.out)).2.2 (lw_Slen (lw_Sheld RX9.out Ch6.out)) Er.out).mono ?_; rintro e w38 ⟨rfl, hb⟩; have q0 := Aside0.mk (below_step HB.out hb); have q1 := Aside0.mk (Kept.below Ch6.out hb); have q2 := Aside0.mk (Kept.below Ch14.out hb); have q3 := Aside0.mk (Kept.below Ch21.out hb); have q4 := Aside0.mk (Kept.below Ch29.out hb); clear HB Ch6 Ch14 Ch21 Ch29; have HB := q0; have Ch6 := q1; have Ch14 := q2; have Ch21 := q3; have Ch29 := q4; clear q0 q1 q2 q3 q4 hb ccgb26_0 ccgb26_1 ccgb26_2 ccgb26_3 ccgb26_4 ccgb26_5 ccgb26_6 ccgb26_7 ccgb26_8 ccgb11_0 ccgb11_1 ccgb11_2 ccgb11_3 ccgb11_4 ccgb11_5 ccgb11_6 ccgb11_7 ccgb11_8; obtain ⟨ccgb26_0, ccgb26_1, ccgb26_2, ccgb26_3, ccgb26_4, ccgb26_5, ccgb26_6, ccgb26_7, ccgb26_8⟩ := lw_cells9 (blk_kept BKgb26.out Ch29.out (fun h_ => h_ rfl))) | ((with_reducible refine gate_callee (f := 47) rfl ?_); refine goesL_ (some 58) rfl rfl Try.func47 (by kernel_rfl) rfl #[.agg #[.int .i64 z0, .int .i64 z1, .int .i64 z2, .int .i64 z3, .int .i64 z4, .int .i64 z5, .slice A22 z6.length c22, .slice A23 z7.length c23, .slice A24 z8.length c24], .int .i64 1] rfl (by (try simp only [List.map_toArray, List.map_cons, List.map_nil]); first | done | rfl) ?_; refine (laws_markFrameResult.calls k _ _ _ _ _ _ z0 z1 z2 z3 z4 z5 z6 z7 z8 1 q zm6 zm7 zm8 w _ HB.out (Kd.R_lower (Kd.R_tight rfl (lw_Rheld RX22.out Ch21.out)) OBCh21.out) (Kd.R_lower (Kd.R_tight rfl (lw_Rheld RX23.out Ch21.out)) OBCh21.out) (Kd.S_lower (lw_Sheld RX24.out Ch21.out) OBCh21.out) (fun k_ hi hj => (RX22.out.1 k_ hi.symm).1 hj) (fun k_ hi hs => hs.1.1 hi) (fun k_ hi hs => hs.1.2 hi) Emr.out).mono ?_; rintro e w39 ⟨rfl, hy0, hy1, hy2, hb, hkp⟩; refine ⟨_, rfl, ?_⟩; have hkr := Kept.mono hkp (S' := fun k_ => w16.heap.size ≤ k_ ∧ k_ < w20.heap.size) (fun k_ hs => Or.elim hs (fun h1_ => (RX22.out.1 k_ h1_.symm).2) (fun h2_ => Or.elim h2_ (fun h3_ => (RX23.out.1 k_ h3_.symm).2) (fun h4_ => h4_.2))); have q0 := Aside0.mk hb; have q1 := Aside0.mk (Kept.then_ Ch6.out hkr (fun k_ hk_ => .inl (fun hc_ => by have h_ := OCh6_Ch21.out; omega))); have q2 := Aside0.mk (Kept.then_ Ch14.out hkr (fun k_ hk_ => .inl (fun hc_ => by have h_ := OCh14_Ch21.out; omega))); have q3 := Aside0.mk (Kept.then_ Ch29.out hkr (fun k_ hk_ => .inl (fun hc_ => by have h_ := GCh21_gb26.out; omega))); clear HB Ch6 Ch14 Ch29; have HB := q0; have Ch6 := q1; have Ch14 := q2; have Ch29 := q3; clear q0 q1 q2 q3 Ch21 hb hkp hkr; have RX41 := Aside0.mk (lw_Rcap hy0); have RX42 := Aside0.mk (lw_Rcap hy1); have RX43 := Aside0.mk (lw_Scap hy2); have Ch40 := Aside0.mk (Kept.refl w39 (fun k_ => ¬ (w.heap.size ≤ k_ ∧ k_ < w39.heap.size))); have HL0 := (Kd.R_reads' hy0).1; have HL1 := (Kd.R_reads' hy1).1; have HL2 := (Kd.S_reads' hy2).1; clear hy0 hy1 hy2; have BKgb26' := Aside0.mk (show w28.heap[gb26]? = some (.cells #[.int .i64 z0, .int .i64 z1, .int .i64 z2, .int .i64 z3, .int .i64 z4, .int .i64 z5, .slice A22 zm6.length c22, .slice A23 zm7.length c23, .slice A24 zm8.length c24] 59 (0, 0)) by have h_ := BKgb26.out; rw [HL0] at h_; rw [HL1] at h_; rw [HL2] at h_; exact h_); clear BKgb26; have BKgb26 := BKgb26'; clear BKgb26' HL0 HL1 HL2 ccgb26_0 ccgb26_1 ccgb26_2 ccgb26_3 ccgb26_4 ccgb26_5 ccgb26_6 ccgb26_7 ccgb26_8; obtain ⟨ccgb26_0, ccgb26_1, ccgb26_2, ccgb26_3, ccgb26_4, ccgb26_5, ccgb26_6, ccgb26_7, ccgb26_8⟩ := lw_cells9 (blk_kept BKgb26.out Ch29.out (fun h_ => h_ rfl))) | ((with_reducible refine gate_callee (f := 48) rfl ?_); refine goesL_ (some 61) rfl rfl Try.func48 (by kernel_rfl) rfl #[.agg #[.int .i64 z0, .int .i64 z1, .int .i64 z2, .int .i64 z3, .int .i64 z4, .int .i64 z5, .slice A22 zm6.length c22, .slice A23 zm7.length c23, .slice A24 zm8.length c24], .int .i64 1] rfl (by (try simp only [List.map_toArray, List.map_cons, List.map_nil]); first | done | rfl) ?_; refine (laws_heldFrameResult.calls k z0 z1 z2 z3 z4 z5 A22 c22 zm6 A23 c23 zm7 A24 c24 zm8 1 q _ (Kd.R_reads' (lw_Rheld RX41.out Ch40.out)).2.2 (lw_Rlen (lw_Rheld RX41.out Ch40.out)) (Kd.R_reads' (lw_Rheld RX42.out Ch40.out)).2.2 (lw_Rlen (lw_Rheld RX42.out Ch40.out)) (Kd.S_reads' (lw_Sheld RX43.out Ch40.out)).2.2 (lw_Slen (lw_Sheld RX43.out Ch40.out)) Eh.out).mono ?_; rintro e w45 ⟨rfl, hb⟩; refine ⟨_, rfl, ?_⟩; have q0 := Aside0.mk (below_step HB.out hb); have q1 := Aside0.mk (Kept.below Ch6.out hb); have q2 := Aside0.mk (Kept.below Ch14.out hb); have q3 := Aside0.mk (Kept.below Ch29.out hb); have q4 := Aside0.mk (Kept.below Ch40.out hb); clear HB Ch6 Ch14 Ch29 Ch40; have HB := q0; have Ch6 := q1; have Ch14 := q2; have Ch29 := q3; have Ch40 := q4; clear q0 q1 q2 q3 q4 hb ccgb26_0 ccgb26_1 ccgb26_2 ccgb26_3 ccgb26_4 ccgb26_5 ccgb26_6 ccgb26_7 ccgb26_8) | ((with_reducible refine gate_callee (f := 42) rfl ?_); refine goesL_ (some 70) rfl rfl Try.func42 (by kernel_rfl) rfl #[.slice A2 l2.length c2] rfl (by (try simp only [List.map_toArray, List.map_cons, List.map_nil]); first | done | rfl) ?_; refine (laws_toInt64S.calls k A2 c2 l2 x2_0 _ (Kd.C_below HR2.out HB.out) HC2.out Eto2.out).mono ?_; rintro e w46 ⟨v0, rfl, ho0, hb⟩; refine ⟨_, rfl, ?_⟩; have OCh6_Ch47 := Aside0.mk (show w5.heap.size ≤ w45.heap.size from Ch6.out.1); have OCh14_Ch47 := Aside0.mk (show gb11 < w45.heap.size from Nat.lt_of_lt_of_le (blk_lt BKgb11.out) Ch14.out.1); have OCh29_Ch47 := Aside0.mk (show gb26 < w45.heap.size from Nat.lt_of_lt_of_le (blk_lt BKgb26.out) Ch29.out.1); have OCh40_Ch47 := Aside0.mk (show w39.heap.size ≤ w45.heap.size from Ch40.out.1); have OBCh47 := Aside0.mk (show w.heap.size ≤ w45.heap.size from HB.out.size); obtain ⟨A48, c48, rfl⟩ := Kd.R_slice ho0; have RX48 := Aside0.mk (lw_Rcap ho0); clear ho0; have q0 := Aside0.mk (below_step HB.out hb); have q1 := Aside0.mk (Kept.below Ch6.out hb); have q2 := Aside0.mk (Kept.below Ch14.out hb); have q3 := Aside0.mk (Kept.below Ch29.out hb); have q4 := Aside0.mk (Kept.below Ch40.out hb); clear HB Ch6 Ch14 Ch29 Ch40; have HB := q0; have Ch6 := q1; have Ch14 := q2; have Ch29 := q3; have Ch40 := q4; clear q0 q1 q2 q3 q4 hb; have Ch47 := Aside0.mk (Kept.refl w46 (fun k_ => ¬ (w45.heap.size ≤ k_ ∧ k_ < w46.heap.size)))) | ((with_reducible refine gate_callee (f := 43) rfl ?_); refine goesL_ (some 73) rfl rfl Try.func43 (by kernel_rfl) rfl #[.int .i64 a0, .int .i64 a1, .slice A48 x2_0.length c48, .int .i64 a3, .int .i64 a4] rfl (by (try simp only [List.map_toArray, List.map_cons, List.map_nil]); first | done | rfl) ?_; refine (impl_MakeFrame.calls k a0 a1 A48 c48 x2_0 a3 a4 z0 z1 z2 z3 z4 z5 z6 z7 z8 _ (Kd.R_reads' (lw_Rheld RX48.out Ch47.out)).2.2 (lw_Rlen (lw_Rheld RX48.out Ch47.out)) Ez.out).mono ?_; rintro e w50 ⟨v6, v7, v8, rfl, ho6, ho7, ho8, hb⟩; refine ⟨_, rfl, ?_⟩; have OCh6_Ch51 := Aside0.mk (show w5.heap.size ≤ w46.heap.size from Ch6.out.1); have OCh14_Ch51 := Aside0.mk (show gb11 < w46.heap.size from Nat.lt_of_lt_of_le (blk_lt BKgb11.out) Ch14.out.1); have OCh29_Ch51 := Aside0.mk (show gb26 < w46.heap.size from Nat.lt_of_lt_of_le (blk_lt BKgb26.out) Ch29.out.1); have OCh40_Ch51 := Aside0.mk (show w39.heap.size ≤ w46.heap.size from Ch40.out.1); have OCh47_Ch51 := Aside0.mk (show w46.heap.size ≤ w46.heap.size from Ch47.out.1); have OBCh51 := Aside0.mk (show w.heap.size ≤ w46.heap.size from HB.out.size); obtain ⟨A52, c52, rfl⟩ := Kd.R_slice ho6; have RX52 := Aside0.mk (lw_Rcap ho6); obtain ⟨A53, c53, rfl⟩ := Kd.R_slice ho7; have RX53 := Aside0.mk (lw_Rcap ho7); obtain ⟨A54, c54, rfl⟩ := Kd.S_slice ho8; have RX54 := Aside0.mk (lw_Scap ho8); clear ho6 ho7 ho8; have q0 := Aside0.mk (below_step HB.out hb); have q1 := Aside0.mk (Kept.below Ch6.out hb); have q2 := Aside0.mk (Kept.below Ch14.out hb); have q3 := Aside0.mk (Kept.below Ch29.out hb); have q4 := Aside0.mk (Kept.below Ch40.out hb); have q5 := Aside0.mk (Kept.below Ch47.out hb); clear HB Ch6 Ch14 Ch29 Ch40 Ch47; have HB := q0; have Ch6 := q1; have Ch14 := q2; have Ch29 := q3; have Ch40 := q4; have Ch47 := q5; clear q0 q1 q2 q3 q4 q5 hb; have Ch51 := Aside0.mk (Kept.refl w50 (fun k_ => ¬ (w46.heap.size ≤ k_ ∧ k_ < w50.heap.size))); clear Ch47) | ((with_reducible refine gate_dst (N := 17) rfl ?_); refine bev 17 59 #[.int .i64 0, .int .i64 0, .int .i64 0, .int .i64 0, .int .i64 0, .int .i64 0, .slice none 0 0, .slice none 0 0, .slice none 0 0] ?_; intro gb56 hg w57 hbox hb; have GBgb56 := Aside0.mk (show w.heap.size ≤ gb56 by rw [hg]; exact HB.out.size); have GCh6_gb56 := Aside0.mk (show w5.heap.size ≤ gb56 by rw [hg]; exact Ch6.out.1); have GCh14_gb56 := Aside0.mk (show w13.heap.size ≤ gb56 by rw [hg]; exact Ch14.out.1); have GCh29_gb56 := Aside0.mk (show w28.heap.size ≤ gb56 by rw [hg]; exact Ch29.out.1); have GCh40_gb56 := Aside0.mk (show w39.heap.size ≤ gb56 by rw [hg]; exact Ch40.out.1); have GCh51_gb56 := Aside0.mk (show w50.heap.size ≤ gb56 by rw [hg]; exact Ch51.out.1); have q0 := Aside0.mk (below_step HB.out hb); have q1 := Aside0.mk (Kept.below Ch6.out hb); have q2 := Aside0.mk (Kept.below Ch14.out hb); have q3 := Aside0.mk (Kept.below Ch29.out hb); have q4 := Aside0.mk (Kept.below Ch40.out hb); have q5 := Aside0.mk (Kept.below Ch51.out hb); clear HB Ch6 Ch14 Ch29 Ch40 Ch51; have HB := q0; have Ch6 := q1; have Ch14 := q2; have Ch29 := q3; have Ch40 := q4; have Ch51 := q5; clear q0 q1 q2 q3 q4 q5 hb; have BZ := Aside0.mk hbox; obtain ⟨cz0, cz1, cz2, cz3, cz4, cz5, cz6, cz7, cz8⟩ := lw_cells9 hbox; obtain ⟨cf0, cf1, cf2, cf3, cf4, cf5, cf6, cf7, cf8⟩ := lw_frz9 hbox; clear hbox hg) | ((with_reducible refine gate_store (t := 59) (p := 17) rfl ?_); refine store_event (t := 59) (p := 17) (v := ?vo_w58) (w1 := (((((((((w57.setCell ⟨gb56, 0, none⟩ (.int .i64 z0)).setCell ⟨gb56, 1, none⟩ (.int .i64 z1)).setCell ⟨gb56, 2, none⟩ (.int .i64 z2)).setCell ⟨gb56, 3, none⟩ (.int .i64 z3)).setCell ⟨gb56, 4, none⟩ (.int .i64 z4)).setCell ⟨gb56, 5, none⟩ (.int .i64 z5)).setCell ⟨gb56, 6, none⟩ (.slice A52 z6.length c52)).setCell ⟨gb56, 7, none⟩ (.slice A53 z7.length c53)).setCell ⟨gb56, 8, none⟩ (.slice A54 z8.length c54))) ?hg ?ho ?hn ?hr ?_; (case ho => rfl); (case hg => rfl); (case hn => rfl); (case hr => first | (go_simp; done) | (go_simp; rfl)); intro w58 hw; have q0 := Aside0.mk (show Below w.heap.size w w58 by rw [hw]; exact lw_putb9 HB.out GBgb56.out (.int .i64 z0) (.int .i64 z1) (.int .i64 z2) (.int .i64 z3) (.int .i64 z4) (.int .i64 z5) (.slice A52 z6.length c52) (.slice A53 z7.length c53) (.slice A54 z8.length c54)); have q1 := Aside0.mk (show Kept w5 w58 (fun k_ => ¬ (w1.heap.size ≤ k_ ∧ k_ < w5.heap.size)) by rw [hw]; exact lw_putk9 Ch6.out (.inr GCh6_gb56.out) (.int .i64 z0) (.int .i64 z1) (.int .i64 z2) (.int .i64 z3) (.int .i64 z4) (.int .i64 z5) (.slice A52 z6.length c52) (.slice A53 z7.length c53) (.slice A54 z8.length c54)); have q2 := Aside0.mk (show Kept w13 w58 (fun k_ => ¬ k_ = gb11) by rw [hw]; exact lw_putk9 Ch14.out (.inr GCh14_gb56.out) (.int .i64 z0) (.int .i64 z1) (.int .i64 z2) (.int .i64 z3) (.int .i64 z4) (.int .i64 z5) (.slice A52 z6.length c52) (.slice A53 z7.length c53) (.slice A54 z8.length c54)); have q3 := Aside0.mk (show Kept w28 w58 (fun k_ => ¬ k_ = gb26) by rw [hw]; exact lw_putk9 Ch29.out (.inr GCh29_gb56.out) (.int .i64 z0) (.int .i64 z1) (.int .i64 z2) (.int .i64 z3) (.int .i64 z4) (.int .i64 z5) (.slice A52 z6.length c52) (.slice A53 z7.length c53) (.slice A54 z8.length c54)); have q4 := Aside0.mk (show Kept w39 w58 (fun k_ => ¬ (w.heap.size ≤ k_ ∧ k_ < w39.heap.size)) by rw [hw]; exact lw_putk9 Ch40.out (.inr GCh40_gb56.out) (.int .i64 z0) (.int .i64 z1) (.int .i64 z2) (.int .i64 z3) (.int .i64 z4) (.int .i64 z5) (.slice A52 z6.length c52) (.slice A53 z7.length c53) (.slice A54 z8.length c54)); have q5 := Aside0.mk (show Kept w50 w58 (fun k_ => ¬ (w46.heap.size ≤ k_ ∧ k_ < w50.heap.size)) by rw [hw]; exact lw_putk9 Ch51.out (.inr GCh51_gb56.out) (.int .i64 z0) (.int .i64 z1) (.int .i64 z2) (.int .i64 z3) (.int .i64 z4) (.int .i64 z5) (.slice A52 z6.length c52) (.slice A53 z7.length c53) (.slice A54 z8.length c54)); clear HB Ch6 Ch14 Ch29 Ch40 Ch51; have HB := q0; have Ch6 := q1; have Ch14 := q2; have Ch29 := q3; have Ch40 := q4; have Ch51 := q5; clear q0 q1 q2 q3 q4 q5; have BKgb56 := Aside0.mk (show w58.heap[gb56]? = some (.cells #[.int .i64 z0, .int .i64 z1, .int .i64 z2, .int .i64 z3, .int .i64 z4, .int .i64 z5, .slice A52 z6.length c52, .slice A53 z7.length c53, .slice A54 z8.length c54] 59 (0, 0)) by rw [hw]; exact lw_put9 BZ.out (.int .i64 z0) (.int .i64 z1) (.int .i64 z2) (.int .i64 z3) (.int .i64 z4) (.int .i64 z5) (.slice A52 z6.length c52) (.slice A53 z7.length c53) (.slice A54 z8.length c54)); clear hw BZ; have Ch59 := Aside0.mk (Kept.refl w58 (fun k_ => ¬ k_ = gb56)); clear cz0 cz1 cz2 cz3 cz4 cz5 cz6 cz7 cz8 cf0 cf1 cf2 cf3 cf4 cf5 cf6 cf7 cf8; obtain ⟨ccgb56_0, ccgb56_1, ccgb56_2, ccgb56_3, ccgb56_4, ccgb56_5, ccgb56_6, ccgb56_7, ccgb56_8⟩ := lw_cells9 (blk_kept BKgb56.out Ch59.out (fun h_ => h_ rfl)); obtain ⟨ccgb11_0, ccgb11_1, ccgb11_2, ccgb11_3, ccgb11_4, ccgb11_5, ccgb11_6, ccgb11_7, ccgb11_8⟩ := lw_cells9 (blk_kept BKgb11.out Ch14.out (fun h_ => h_ rfl))) | ((with_reducible refine gate_callee (f := 44) rfl ?_); refine goesL_ (some 76) rfl rfl Try.func44 (by kernel_rfl) rfl #[.agg #[.int .i64 z0, .int .i64 z1, .int .i64 z2, .int .i64 z3, .int .i64 z4, .int .i64 z5, .slice A52 z6.length c52, .slice A53 z7.length c53, .slice A54 z8.length c54], .agg #[.int .i64 y0, .int .i64 y1, .int .i64 y2, .int .i64 y3, .int .i64 y4, .int .i64 y5, .slice A7 y6.length c7, .slice A8 y7.length c8, .slice A9 y8.length c9]] rfl (by (try simp only [List.map_toArray, List.map_cons, List.map_nil]); first | done | rfl) ?_; refine (laws_eqFrameResult.calls k z0 z1 z2 z3 z4 z5 A52 c52 z6 A53 c53 z7 A54 c54 z8 y0 y1 y2 y3 y4 y5 A7 c7 y6 A8 c8 y7 A9 c9 y8 true _ (Kd.R_reads' (lw_Rheld RX52.out Ch51.out)).2.2 (lw_Rlen (lw_Rheld RX52.out Ch51.out)) (Kd.R_reads' (lw_Rheld RX53.out Ch51.out)).2.2 (lw_Rlen (lw_Rheld RX53.out Ch51.out)) (Kd.S_reads' (lw_Sheld RX54.out Ch51.out)).2.2 (lw_Slen (lw_Sheld RX54.out Ch51.out)) (Kd.R_reads' (lw_Rheld RX7.out Ch6.out)).2.2 (lw_Rlen (lw_Rheld RX7.out Ch6.out)) (Kd.R_reads' (lw_Rheld RX8.out Ch6.out)).2.2 (lw_Rlen (lw_Rheld RX8.out Ch6.out)) (Kd.S_reads' (lw_Sheld RX9.out Ch6.out)).2.2 (lw_Slen (lw_Sheld RX9.out Ch6.out)) Er.out).mono ?_; rintro e w61 ⟨rfl, hb⟩; refine ⟨_, rfl, ?_⟩; have q0 := Aside0.mk (below_step HB.out hb); have q1 := Aside0.mk (Kept.below Ch6.out hb); have q2 := Aside0.mk (Kept.below Ch14.out hb); have q3 := Aside0.mk (Kept.below Ch29.out hb); have q4 := Aside0.mk (Kept.below Ch40.out hb); have q5 := Aside0.mk (Kept.below Ch51.out hb); have q6 := Aside0.mk (Kept.below Ch59.out hb); clear HB Ch6 Ch14 Ch29 Ch40 Ch51 Ch59; have HB := q0; have Ch6 := q1; have Ch14 := q2; have Ch29 := q3; have Ch40 := q4; have Ch51 := q5; have Ch59 := q6; clear q0 q1 q2 q3 q4 q5 q6 hb ccgb56_0 ccgb56_1 ccgb56_2 ccgb56_3 ccgb56_4 ccgb56_5 ccgb56_6 ccgb56_7 ccgb56_8 ccgb11_0 ccgb11_1 ccgb11_2 ccgb11_3 ccgb11_4 ccgb11_5 ccgb11_6 ccgb11_7 ccgb11_8; obtain ⟨ccgb26_0, ccgb26_1, ccgb26_2, ccgb26_3, ccgb26_4, ccgb26_5, ccgb26_6, ccgb26_7, ccgb26_8⟩ := lw_cells9 (blk_kept BKgb26.out Ch29.out (fun h_ => h_ rfl))) | ((with_reducible refine gate_callee (f := 48) rfl ?_); refine goesL_ (some 80) rfl rfl Try.func48 (by kernel_rfl) rfl #[.agg #[.int .i64 z0, .int .i64 z1, .int .i64 z2, .int .i64 z3, .int .i64 z4, .int .i64 z5, .slice A22 zm6.length c22, .slice A23 zm7.length c23, .slice A24 zm8.length c24], .int .i64 1] rfl (by (try simp only [List.map_toArray, List.map_cons, List.map_nil]); first | done | rfl) ?_; refine (laws_heldFrameResult.calls k z0 z1 z2 z3 z4 z5 A22 c22 zm6 A23 c23 zm7 A24 c24 zm8 1 q _ (Kd.R_reads' (lw_Rheld RX41.out Ch40.out)).2.2 (lw_Rlen (lw_Rheld RX41.out Ch40.out)) (Kd.R_reads' (lw_Rheld RX42.out Ch40.out)).2.2 (lw_Rlen (lw_Rheld RX42.out Ch40.out)) (Kd.S_reads' (lw_Sheld RX43.out Ch40.out)).2.2 (lw_Slen (lw_Sheld RX43.out Ch40.out)) Eh.out).mono ?_; rintro e w62 ⟨rfl, hb⟩; refine ⟨_, rfl, ?_⟩; have q0 := Aside0.mk (below_step HB.out hb); have q1 := Aside0.mk (Kept.below Ch6.out hb); have q2 := Aside0.mk (Kept.below Ch14.out hb); have q3 := Aside0.mk (Kept.below Ch29.out hb); have q4 := Aside0.mk (Kept.below Ch40.out hb); have q5 := Aside0.mk (Kept.below Ch51.out hb); have q6 := Aside0.mk (Kept.below Ch59.out hb); clear HB Ch6 Ch14 Ch29 Ch40 Ch51 Ch59; have HB := q0; have Ch6 := q1; have Ch14 := q2; have Ch29 := q3; have Ch40 := q4; have Ch51 := q5; have Ch59 := q6; clear q0 q1 q2 q3 q4 q5 q6 hb ccgb26_0 ccgb26_1 ccgb26_2 ccgb26_3 ccgb26_4 ccgb26_5 ccgb26_6 ccgb26_7 ccgb26_8))
  go_ret
  exact ⟨by first | rfl | (simp; done) | (simp [*]; done), HB.out⟩

/-- THE ONE PURE STATEMENT of laws_FnExactMakeFrame. -/
def laws_FnExactMakeFrame.Pure : Prop := ∀ (a0 : Int) (a1 : Int) (l2 : List Int) (a3 : Int) (a4 : Int), (Lit.int .i64 a0).wf = true → (Lit.int .i64 a1).wf = true → l2.length ≤ maxLen → (∀ x ∈ l2, (Lit.int .i64 x).wf = true) → (Lit.int .i64 a3).wf = true → (Lit.int .i64 a4).wf = true → ∃ k, laws_FnExactMakeFrame.f k a0 a1 l2 a3 a4 = some true
theorem laws_FnExactMakeFrame.walk (P : laws_FnExactMakeFrame.Pure) (a0 : Int) (a1 : Int) (A2 : Option Addr) (c2 : Nat) (l2 : List Int) (a3 : Int) (a4 : Int) (w : World) (w0_0 : (Lit.int .i64 a0).wf = true) (w1_0 : (Lit.int .i64 a1).wf = true) (w2_0 : l2.length ≤ maxLen) (w2_1 : (∀ x ∈ l2, (Lit.int .i64 x).wf = true)) (w3_0 : (Lit.int .i64 a3).wf = true) (w4_0 : (Lit.int .i64 a4).wf = true) (hr2 : Kd.C (Kd.int .i64) w A2 l2.length l2) (hc2 : l2.length ≤ c2) :
    Calls Try.prog 8 #[.int .i64 a0, .int .i64 a1, .slice A2 l2.length c2, .int .i64 a3, .int .i64 a4] w fun e w' => e = .returned (.bool true) ∧ Below w.heap.size w w' := by
  obtain ⟨k, h⟩ := P a0 a1 l2 a3 a4 w0_0 w1_0 w2_0 w2_1 w3_0 w4_0
  refine (laws_FnExactMakeFrame.calls k a0 a1 A2 c2 l2 a3 a4 true w hr2 hc2 h).mono ?_
  rintro e w' ⟨rfl, hd⟩
  exact ⟨rfl, hd⟩

end Go.Proofs.Ythehhncokikgcaa.PFnExactMakeFrame
