-- Contracts of the functions that the law reaches, written by wip/xprint.py of this repo.
import Derived.Test.YtpbkbibjlbbkbaaPFnShapesx0
import Derived.Test.YtpbkbibjlbbkbaaPFnShapesx1
import Derived.Test.YtpbkbibjlbbkbaaPFnShapesx2
namespace Go.Proofs.Ytpbkbibjlbbkbaa.PFnShapes
open Go.RowKit Go.Proofs.YtpbkbibjlbbkbaaW.PrintWords Go.Proofs.YtpbkbibjlbbkbaaW.PrintLast Go.Proofs.YtpbkbibjlbbkbaaW.PrintMore
attribute [local go_sem] max2_int min2_int max_two min_two max_three min_three max_four min_four   -- for this text's walks alone
set_option linter.unusedVariables false
set_option linter.unusedSimpArgs false

/-! ### spec_SearchPulses: function 48 -/
def spec_SearchPulses.j0 : Nat → List Int → Int → Bool → Option (Int × List Int)
 | 0, _, _, _ => none
 | k + 1, x0, x1, x12 => if x12 = true then (some (2, ([] : List Int))) else ((spec_l1In.f x1 1 8).bind fun t154 => (if t154 = true then ((spec_l1All.f k x0 (-16777216) 16777216).bind fun t155 => (if t155 = true then ((spec_l12Search.f k x0 x1).bind fun t156 => (some (0, t156))) else (some (3, ([] : List Int))))) else (some (3, ([] : List Int)))))
def spec_SearchPulses.f (k : Nat) (l0 : List Int) (a1 : Int) : Option (Int × List Int) := if (l0.length : Int) < 1 then (spec_SearchPulses.j0 k l0 a1 true) else (spec_SearchPulses.j0 k l0 a1 (decide ((l0.length : Int) > 4)))
theorem spec_SearchPulses.mono_l : ∀ k, (∀ y0 y1 y2, LeO (spec_SearchPulses.j0 k y0 y1 y2) (spec_SearchPulses.j0 (k + 1) y0 y1 y2))
 | 0 => fun _ _ _ r h => by simp [spec_SearchPulses.j0] at h
 | k + 1 => by
  have ih0 := spec_SearchPulses.mono_l k
  ·intro y0 y1 y2
   unfold spec_SearchPulses.j0
   repeat' first
   | (with_reducible exact ih0 _ _ _)
   | (with_reducible exact spec_l12Search.mono _ _ _)
   | (with_reducible exact spec_l1All.mono _ _ _ _)
   | (with_reducible exact LeO.refl _)
   | (with_reducible exact LeO.none _)
   | (with_reducible refine LeO.ite ?_ ?_)
   | (with_reducible refine LeO.bind ?_ (fun _ => ?_))
   | exact ih0 _ _ _
   | exact spec_l12Search.mono _ _ _
   | exact spec_l1All.mono _ _ _ _
   | exact LeO.none _
   | refine LeO.ite ?_ ?_
   | refine LeO.bind ?_ (fun _ => ?_)
theorem spec_SearchPulses.mono : ∀ a0 a1 k, LeO (spec_SearchPulses.f k a0 a1) (spec_SearchPulses.f (k + 1) a0 a1) := by
 intro a0 a1 k
 have ih0 := spec_SearchPulses.mono_l k
 unfold spec_SearchPulses.f
 repeat' first
   | (with_reducible exact ih0 _ _ _)
   | (with_reducible exact spec_l12Search.mono _ _ _)
   | (with_reducible exact spec_l1All.mono _ _ _ _)
   | (with_reducible exact LeO.refl _)
   | (with_reducible exact LeO.none _)
   | (with_reducible refine LeO.ite ?_ ?_)
   | (with_reducible refine LeO.bind ?_ (fun _ => ?_))
   | exact ih0 _ _ _
   | exact spec_l12Search.mono _ _ _
   | exact spec_l1All.mono _ _ _ _
   | exact LeO.none _
   | refine LeO.ite ?_ ?_
   | refine LeO.bind ?_ (fun _ => ?_)
set_option maxHeartbeats 8000000 in
set_option maxRecDepth 100000 in
theorem spec_SearchPulses.calls (k : Nat) (A0 : Option Addr) (c0 : Nat) (l0 : List Int) (a1 : Int) (r1 : Int) (r2 : List Int) (w : World) (hr0 : Kd.C (Kd.int .i64) w A0 l0.length l0) (hc0 : l0.length ≤ c0) (h : spec_SearchPulses.f k l0 a1 = some (r1, r2)) :
  Calls Try.prog 48 #[.slice A0 l0.length c0, .int .i64 a1] w fun e w' => ∃ v1_ : Value, e = .returned (.agg #[.int .i64 r1, v1_]) ∧ Kd.R (Kd.int .i64) 2 w' w.heap.size (fun _ => True) v1_ r2 ∧ Below w.heap.size w w' := by
 have hu28 := Try.underlying28
 have HR0 := Aside0.mk hr0
 have HC0 := Aside0.mk hc0
 clear hr0 hc0
 have HB := Aside0.mk (Below.refl w.heap.size w)
 have H : (if (l0.length : Int) < 1 then (spec_SearchPulses.j0 k l0 a1 true) else (spec_SearchPulses.j0 k l0 a1 (decide ((l0.length : Int) > 4)))) = some (r1, r2) := h
 clear h
 have HC3 := Aside0.mk H
 clear H
 go_enter Try.func48, Try.ntmps48
 go_upto_region 1 with (first | ((with_reducible refine gate_dst (N := 4) rfl ?_); (try (refine gate_guard (by rfl) ?_; dsimp only)); refine bev 4 28 #[.int .i64 0, .slice none 0 0] ?_; intro gb153 hg w4 hbox hb; have BK153 := am hbox; have GW153 := gwe hg; have GE153 := gwe hg; replace HB := hbs hb; clear hb hbox hg))
 (try simp only [Act.put, List.setIfInBounds_toArray, List.set_cons_zero, List.set_cons_succ])
 go_cut [12] (fun v12 wc => ∃ (kq : Nat) (x12_2 : Bool), v12 = .bool x12_2 ∧ Aside0 (spec_SearchPulses.j0 kq l0 a1 x12_2 = some (r1, r2)) ∧ Aside0 (kq ≤ k) ∧ Aside0 (wc.heap[gb153]? = some (.cells #[.int .i64 0, (.slice none 0 0)] 28 (0, 0))) ∧ Aside0 (Below w.heap.size w wc))
 case first =>
  have H := HC3.out
  clear HC3
  by_cases c5 : (l0.length : Int) < 1
  ·rw [if_pos c5] at H
   have c5b0 : decide ((l0.length : Int) < 1) = true := decide_eq_true c5
   have c5b1 : decide (l0.length < 1) = true := decide_eq_true (by omega)
   clear c5
   (first | rw [c5b0] | (simp only [i64_w, i32_w]; rw [c5b0]) | skip)
   have H' := Aside0.mk H
   clear H
   go_wp2
   go_meet
   case rel => exact ⟨_, (true), rq, H', ⟨by first | omega | exact Nat.le_refl _⟩, ⟨bpl BK153.out⟩, ⟨bnx⟩⟩
  ·rw [if_neg c5] at H
   have c5b0 : decide ((l0.length : Int) < 1) = false := decide_eq_false c5
   have c5b1 : decide (l0.length < 1) = false := decide_eq_false (by omega)
   clear c5
   (first | rw [c5b0] | (simp only [i64_w, i32_w]; rw [c5b0]) | skip)
   have H' := Aside0.mk H
   clear H
   go_wp2
   go_meet
   case rel => exact ⟨_, (decide ((l0.length : Int) > 4)), rq, H', ⟨by first | omega | exact Nat.le_refl _⟩, ⟨bpl BK153.out⟩, ⟨bnx⟩⟩
 case rest =>
  clear HC3
  try clear p2
  try clear c4
  try clear c5
  try clear c5b0
  try clear c5b1
  obtain ⟨kq, x12_2, rfl, HA, HJ2, BK153, HB⟩ := hcut
  cases kq with
  | zero => exact absurd HA.out (by simp [spec_SearchPulses.j0])
  | succ kj2 =>
   have H := HA.out
   clear HA
   simp only [spec_SearchPulses.j0] at H
   by_cases c6 : x12_2 = true
   ·subst c6
    replace H : (some (2, ([] : List Int))) = some (r1, r2) := by rw [if_pos rfl] at H; exact H
    simp only [Option.some.injEq, Prod.mk.injEq] at H
    obtain ⟨rfl, rfl⟩ := H
    obtain ⟨hcz7_0, hcz7_1, hfz7_0, hfz7_1⟩ := cf2 (W := wc) BK153.out
    go_wp2
    refine bodyPost_ret (results_cell_row rfl _ _ gb153 28 #[.int .i64 2, .slice none 0 0] (0, 0) _ rfl (by (with_reducible repeat (first | refine blk_drewN ?_ _ | refine blk_drew ?_ | refine blk_alloc ?_ _)); refine blk_put (cs := #[.int .i64 2, .slice none 0 0]) ?_ 1 _ rfl; (with_reducible repeat (first | refine blk_drewN ?_ _ | refine blk_drew ?_ | refine blk_alloc ?_ _)); refine blk_put (cs := #[.int .i64 0, .slice none 0 0]) ?_ 0 _ rfl; exact bpl BK153.out) Try.underlying28 rfl (by kernel_rfl)) rfl ?_
    exact ⟨_, enq, by first | exact Kd.R_nil _ _ _ _ _ | exact Kd.N_nil _ _ _ _ _ | exact Kd.V_nil _ _ _ _ _ | exact Kd.Q_nil _ _ _ _ _ | exact Kd.S_nil _ _ _ _ _, bnx⟩
   ·replace c6 := Bool.eq_false_iff.mpr c6
    subst c6
    replace H : ((spec_l1In.f a1 1 8).bind fun t154 => (if t154 = true then ((spec_l1All.f kj2 l0 (-16777216) 16777216).bind fun t155 => (if t155 = true then ((spec_l12Search.f kj2 l0 a1).bind fun t156 => (some (0, t156))) else (some (3, ([] : List Int))))) else (some (3, ([] : List Int))))) = some (r1, r2) := by rw [if_neg (show ¬ (false = true) by decide)] at H; exact H
    replace H := bnd H
    obtain ⟨t154, A8, H⟩ := H
    by_cases c9 : t154 = true
    ·subst c9
     replace H : ((spec_l1All.f kj2 l0 (-16777216) 16777216).bind fun t155 => (if t155 = true then ((spec_l12Search.f kj2 l0 a1).bind fun t156 => (some (0, t156))) else (some (3, ([] : List Int))))) = some (r1, r2) := by rw [if_pos rfl] at H; exact H
     replace H := bnd H
     obtain ⟨t155, A10, H⟩ := H
     by_cases c11 : t155 = true
     ·subst c11
      replace H : ((spec_l12Search.f kj2 l0 a1).bind fun t156 => (some (0, t156))) = some (r1, r2) := by rw [if_pos rfl] at H; exact H
      replace H := bnd H
      obtain ⟨t156, A12, H⟩ := H
      simp only [Option.some.injEq, Prod.mk.injEq] at H
      obtain ⟨rfl, rfl⟩ := H
      go_wp2_with (first | ((with_reducible refine gate_callee (f := 114) rfl ?_); refine gl_ 15 Try.func114 #[.int .i64 a1, .int .i64 1, .int .i64 8] ?_; (with_reducible refine (spec_l1In.calls a1 1 8 true _ A8.out).mono ?_); rintro e w' ⟨rfl, ⟨nd, rfl⟩⟩; refine ⟨_, rfl, ?_⟩; (try ((repeat rw [World.drewN_drewN wc]); rw [drewN_self wc]; generalize hq_ : World.drewN wc _ = wc; have n0_ : Aside0 (wc.heap[gb153]? = some (.cells #[.int .i64 0, .slice none 0 0] 28 (0, 0))) := ⟨by rw [← hq_]; exact (bpl BK153.out)⟩; have n1_ : Aside0 (Below w.heap.size w wc) := ⟨by rw [← hq_]; exact bnx⟩; clear BK153 HB hq_; have BK153 := n0_; have HB := n1_; clear n0_ n1_))) | (go_at_call 115; (with_reducible refine (spec_l1All.calls kj2 _ _ l0 (-16777216) 16777216 true _ ?_ ?_ A10.out).mono ?_); exact cpl HR0.out; exact HC0.out; rintro e w' ⟨rfl, ⟨nd, rfl⟩⟩; (try ((repeat rw [World.drewN_drewN wc]); rw [drewN_self wc]; generalize hq_ : World.drewN wc _ = wc; have n0_ : Aside0 (wc.heap[gb153]? = some (.cells #[.int .i64 0, .slice none 0 0] 28 (0, 0))) := ⟨by rw [← hq_]; exact (bpl BK153.out)⟩; have n1_ : Aside0 (Below w.heap.size w wc) := ⟨by rw [← hq_]; exact bnx⟩; clear BK153 HB hq_; have BK153 := n0_; have HB := n1_; clear n0_ n1_))) | ((with_reducible refine gate_callee (f := 129) rfl ?_); refine gl_ 25 Try.func129 #[.slice A0 l0.length c0, .int .i64 a1] ?_; (with_reducible refine (spec_l12Search.calls kj2 _ _ l0 a1 t156 _ ?_ ?_ A12.out).mono ?_); exact cpl HR0.out; exact HC0.out; rintro e w13 ⟨v157, rfl, ho0, hb⟩; refine ⟨_, rfl, ?_⟩; have HO158 := rlw ho0; replace BK153 := bkb BK153 hb; replace HB := hbs hb; (try clear hb); (try clear ho0); obtain ⟨Ao14, co14, eo14⟩ := Kd.R_slice HO158.out; subst eo14; obtain ⟨hcz15_0, hcz15_1, hfz15_0, hfz15_1⟩ := cf2 (W := w13) BK153.out))
      refine bodyPost_ret (results_cell_row rfl _ _ gb153 28 #[.int .i64 0, .slice Ao14 t156.length co14] (0, 0) _ rfl (by (with_reducible repeat (first | refine blk_drewN ?_ _ | refine blk_drew ?_ | refine blk_alloc ?_ _)); refine blk_put (cs := #[.int .i64 0, .slice none 0 0]) ?_ 1 _ rfl; (with_reducible repeat (first | refine blk_drewN ?_ _ | refine blk_drew ?_ | refine blk_alloc ?_ _)); refine blk_put (cs := #[.int .i64 0, .slice none 0 0]) ?_ 0 _ rfl; exact bpl BK153.out) Try.underlying28 rfl (by kernel_rfl)) rfl ?_
      exact ⟨_, enq, by (with_reducible repeat (first | apply Kd.R_alloc | apply Kd.R_drewN | apply Kd.R_drew)); exact Kd.R_mono (Kd.R_far (p := ⟨gb153, 1, none⟩) (Kd.R_far (p := ⟨gb153, 0, none⟩) (Kd.R_types HO158.out BK153.out (by decide)) (fun _ hk => hk.2) (.int .i64 0)) (fun _ hk => hk.2) (.slice Ao14 t156.length co14)) (fun _ hk => trivial), bnx⟩
     ·replace c11 := Bool.eq_false_iff.mpr c11
      subst c11
      replace H : (some (3, ([] : List Int))) = some (r1, r2) := by rw [if_neg (show ¬ (false = true) by decide)] at H; exact H
      simp only [Option.some.injEq, Prod.mk.injEq] at H
      obtain ⟨rfl, rfl⟩ := H
      go_wp2_with (first | ((with_reducible refine gate_callee (f := 114) rfl ?_); refine gl_ 15 Try.func114 #[.int .i64 a1, .int .i64 1, .int .i64 8] ?_; (with_reducible refine (spec_l1In.calls a1 1 8 true _ A8.out).mono ?_); rintro e w' ⟨rfl, ⟨nd, rfl⟩⟩; refine ⟨_, rfl, ?_⟩; (try ((repeat rw [World.drewN_drewN wc]); rw [drewN_self wc]; generalize hq_ : World.drewN wc _ = wc; have n0_ : Aside0 (wc.heap[gb153]? = some (.cells #[.int .i64 0, .slice none 0 0] 28 (0, 0))) := ⟨by rw [← hq_]; exact (bpl BK153.out)⟩; have n1_ : Aside0 (Below w.heap.size w wc) := ⟨by rw [← hq_]; exact bnx⟩; clear BK153 HB hq_; have BK153 := n0_; have HB := n1_; clear n0_ n1_))) | (go_at_call 115; (with_reducible refine (spec_l1All.calls kj2 _ _ l0 (-16777216) 16777216 false _ ?_ ?_ A10.out).mono ?_); exact cpl HR0.out; exact HC0.out; rintro e w' ⟨rfl, ⟨nd, rfl⟩⟩; (try ((repeat rw [World.drewN_drewN wc]); rw [drewN_self wc]; generalize hq_ : World.drewN wc _ = wc; have n0_ : Aside0 (wc.heap[gb153]? = some (.cells #[.int .i64 0, .slice none 0 0] 28 (0, 0))) := ⟨by rw [← hq_]; exact (bpl BK153.out)⟩; have n1_ : Aside0 (Below w.heap.size w wc) := ⟨by rw [← hq_]; exact bnx⟩; clear BK153 HB hq_; have BK153 := n0_; have HB := n1_; clear n0_ n1_)); obtain ⟨hcz16_0, hcz16_1, hfz16_0, hfz16_1⟩ := cf2 (W := wc) BK153.out))
      refine bodyPost_ret (results_cell_row rfl _ _ gb153 28 #[.int .i64 3, .slice none 0 0] (0, 0) _ rfl (by (with_reducible repeat (first | refine blk_drewN ?_ _ | refine blk_drew ?_ | refine blk_alloc ?_ _)); refine blk_put (cs := #[.int .i64 3, .slice none 0 0]) ?_ 1 _ rfl; (with_reducible repeat (first | refine blk_drewN ?_ _ | refine blk_drew ?_ | refine blk_alloc ?_ _)); refine blk_put (cs := #[.int .i64 0, .slice none 0 0]) ?_ 0 _ rfl; exact bpl BK153.out) Try.underlying28 rfl (by kernel_rfl)) rfl ?_
      exact ⟨_, enq, by first | exact Kd.R_nil _ _ _ _ _ | exact Kd.N_nil _ _ _ _ _ | exact Kd.V_nil _ _ _ _ _ | exact Kd.Q_nil _ _ _ _ _ | exact Kd.S_nil _ _ _ _ _, bnx⟩
    ·replace c9 := Bool.eq_false_iff.mpr c9
     subst c9
     replace H : (some (3, ([] : List Int))) = some (r1, r2) := by rw [if_neg (show ¬ (false = true) by decide)] at H; exact H
     simp only [Option.some.injEq, Prod.mk.injEq] at H
     obtain ⟨rfl, rfl⟩ := H
     go_wp2_with (first | ((with_reducible refine gate_callee (f := 114) rfl ?_); refine gl_ 15 Try.func114 #[.int .i64 a1, .int .i64 1, .int .i64 8] ?_; (with_reducible refine (spec_l1In.calls a1 1 8 false _ A8.out).mono ?_); rintro e w' ⟨rfl, ⟨nd, rfl⟩⟩; refine ⟨_, rfl, ?_⟩; (try ((repeat rw [World.drewN_drewN wc]); rw [drewN_self wc]; generalize hq_ : World.drewN wc _ = wc; have n0_ : Aside0 (wc.heap[gb153]? = some (.cells #[.int .i64 0, .slice none 0 0] 28 (0, 0))) := ⟨by rw [← hq_]; exact (bpl BK153.out)⟩; have n1_ : Aside0 (Below w.heap.size w wc) := ⟨by rw [← hq_]; exact bnx⟩; clear BK153 HB hq_; have BK153 := n0_; have HB := n1_; clear n0_ n1_)); obtain ⟨hcz17_0, hcz17_1, hfz17_0, hfz17_1⟩ := cf2 (W := wc) BK153.out))
     refine bodyPost_ret (results_cell_row rfl _ _ gb153 28 #[.int .i64 3, .slice none 0 0] (0, 0) _ rfl (by (with_reducible repeat (first | refine blk_drewN ?_ _ | refine blk_drew ?_ | refine blk_alloc ?_ _)); refine blk_put (cs := #[.int .i64 3, .slice none 0 0]) ?_ 1 _ rfl; (with_reducible repeat (first | refine blk_drewN ?_ _ | refine blk_drew ?_ | refine blk_alloc ?_ _)); refine blk_put (cs := #[.int .i64 0, .slice none 0 0]) ?_ 0 _ rfl; exact bpl BK153.out) Try.underlying28 rfl (by kernel_rfl)) rfl ?_
     exact ⟨_, enq, by first | exact Kd.R_nil _ _ _ _ _ | exact Kd.N_nil _ _ _ _ _ | exact Kd.V_nil _ _ _ _ _ | exact Kd.Q_nil _ _ _ _ _ | exact Kd.S_nil _ _ _ _ _, bnx⟩

-- NOT PRINTED: function 183 (impl_searchPulses_1)

-- NOT PRINTED: function 216 (slices_insertionSortCmpFunc_int)

-- NOT PRINTED: function 226 (slices_swapRangeCmpFunc_int)

-- NOT PRINTED: function 221 (slices_rotateCmpFunc_int)

-- NOT PRINTED: function 217 (slices_symMergeCmpFunc_int)

-- NOT PRINTED: function 210 (slices_stableCmpFunc_int)

-- NOT PRINTED: function 184 (slices_SortStableFunc_int_int)

/-! ### cmp_isNaN_int64: function 211 -/
def cmp_isNaN_int64.f (a0 : Int) : Option (Bool) := some (a0 != a0)
set_option maxHeartbeats 8000000 in
set_option maxRecDepth 100000 in
theorem cmp_isNaN_int64.calls (a0 : Int) (r : Bool) (w : World) (h : cmp_isNaN_int64.f a0 = some r) :
  Calls Try.prog 211 #[.int .i64 a0] w fun e w' => e = .returned (.bool r) ∧ Drawn0 w w' := by
 have H : (some (a0 != a0)) = some r := h
 clear h
 obtain rfl := Option.some.inj H
 go_enter Try.func211, Try.ntmps211
 go_wp2
 go_ret
 exact dsq

/-! ### cmp_Compare_int64: function 186 -/
def cmp_Compare_int64.f (a0 : Int) (a1 : Int) : Option (Int) := (cmp_isNaN_int64.f a0).bind fun t159 => ((cmp_isNaN_int64.f a1).bind fun t160 => (if t159 = true then (if t160 = true then (some 0) else (some (-1))) else (if t160 = true then (some 1) else (if a0 < a1 then (some (-1)) else (if a0 > a1 then (some 1) else (some 0))))))
set_option maxHeartbeats 8000000 in
set_option maxRecDepth 100000 in
theorem cmp_Compare_int64.calls (a0 : Int) (a1 : Int) (r : Int) (w : World) (h : cmp_Compare_int64.f a0 a1 = some r) :
  Calls Try.prog 186 #[.int .i64 a0, .int .i64 a1] w fun e w' => e = .returned (.int .i64 r) ∧ Drawn0 w w' := by
 have H : ((cmp_isNaN_int64.f a0).bind fun t159 => ((cmp_isNaN_int64.f a1).bind fun t160 => (if t159 = true then (if t160 = true then (some 0) else (some (-1))) else (if t160 = true then (some 1) else (if a0 < a1 then (some (-1)) else (if a0 > a1 then (some 1) else (some 0))))))) = some r := h
 clear h
 replace H := bnd H
 obtain ⟨t159, A3, H⟩ := H
 replace H := bnd H
 obtain ⟨t160, A4, H⟩ := H
 by_cases c5 : t159 = true
 ·subst c5
  replace H : (if t160 = true then (some 0) else (some (-1))) = some r := by rw [if_pos rfl] at H; exact H
  by_cases c6 : t160 = true
  ·subst c6
   replace H : (some 0) = some r := by rw [if_pos rfl] at H; exact H
   obtain rfl := Option.some.inj H
   go_enter Try.func186, Try.ntmps186
   go_wp2_with (first | ((with_reducible refine gate_callee (f := 211) rfl ?_); refine gl_ 8 Try.func211 #[.int .i64 a0] ?_; (with_reducible refine (cmp_isNaN_int64.calls a0 true _ A3.out).mono ?_); rintro e w' ⟨rfl, ⟨nd, rfl⟩⟩; refine ⟨_, rfl, ?_⟩) | ((with_reducible refine gate_callee (f := 211) rfl ?_); refine gl_ 10 Try.func211 #[.int .i64 a1] ?_; (with_reducible refine (cmp_isNaN_int64.calls a1 true _ A4.out).mono ?_); rintro e w' ⟨rfl, ⟨nd, rfl⟩⟩; refine ⟨_, rfl, ?_⟩))
   go_ret
   exact dsq
  ·replace c6 := Bool.eq_false_iff.mpr c6
   subst c6
   replace H : (some (-1)) = some r := by rw [if_neg (show ¬ (false = true) by decide)] at H; exact H
   obtain rfl := Option.some.inj H
   go_enter Try.func186, Try.ntmps186
   go_wp2_with (first | ((with_reducible refine gate_callee (f := 211) rfl ?_); refine gl_ 8 Try.func211 #[.int .i64 a0] ?_; (with_reducible refine (cmp_isNaN_int64.calls a0 true _ A3.out).mono ?_); rintro e w' ⟨rfl, ⟨nd, rfl⟩⟩; refine ⟨_, rfl, ?_⟩) | ((with_reducible refine gate_callee (f := 211) rfl ?_); refine gl_ 10 Try.func211 #[.int .i64 a1] ?_; (with_reducible refine (cmp_isNaN_int64.calls a1 false _ A4.out).mono ?_); rintro e w' ⟨rfl, ⟨nd, rfl⟩⟩; refine ⟨_, rfl, ?_⟩))
   go_ret
   exact dsq
 ·replace c5 := Bool.eq_false_iff.mpr c5
  subst c5
  replace H : (if t160 = true then (some 1) else (if a0 < a1 then (some (-1)) else (if a0 > a1 then (some 1) else (some 0)))) = some r := by rw [if_neg (show ¬ (false = true) by decide)] at H; exact H
  by_cases c7 : t160 = true
  ·subst c7
   replace H : (some 1) = some r := by rw [if_pos rfl] at H; exact H
   obtain rfl := Option.some.inj H
   go_enter Try.func186, Try.ntmps186
   go_wp2_with (first | ((with_reducible refine gate_callee (f := 211) rfl ?_); refine gl_ 8 Try.func211 #[.int .i64 a0] ?_; (with_reducible refine (cmp_isNaN_int64.calls a0 false _ A3.out).mono ?_); rintro e w' ⟨rfl, ⟨nd, rfl⟩⟩; refine ⟨_, rfl, ?_⟩) | ((with_reducible refine gate_callee (f := 211) rfl ?_); refine gl_ 10 Try.func211 #[.int .i64 a1] ?_; (with_reducible refine (cmp_isNaN_int64.calls a1 true _ A4.out).mono ?_); rintro e w' ⟨rfl, ⟨nd, rfl⟩⟩; refine ⟨_, rfl, ?_⟩))
   go_ret
   exact dsq
  ·replace c7 := Bool.eq_false_iff.mpr c7
   subst c7
   replace H : (if a0 < a1 then (some (-1)) else (if a0 > a1 then (some 1) else (some 0))) = some r := by rw [if_neg (show ¬ (false = true) by decide)] at H; exact H
   by_cases c8 : a0 < a1
   ·rw [if_pos c8] at H
    have c8b0 : decide (a0 < a1) = true := decide_eq_true c8
    clear c8
    obtain rfl := Option.some.inj H
    go_enter Try.func186, Try.ntmps186
    go_wp2_with (first | ((with_reducible refine gate_callee (f := 211) rfl ?_); refine gl_ 8 Try.func211 #[.int .i64 a0] ?_; (with_reducible refine (cmp_isNaN_int64.calls a0 false _ A3.out).mono ?_); rintro e w' ⟨rfl, ⟨nd, rfl⟩⟩; refine ⟨_, rfl, ?_⟩) | ((with_reducible refine gate_callee (f := 211) rfl ?_); refine gl_ 10 Try.func211 #[.int .i64 a1] ?_; (with_reducible refine (cmp_isNaN_int64.calls a1 false _ A4.out).mono ?_); rintro e w' ⟨rfl, ⟨nd, rfl⟩⟩; refine ⟨_, rfl, ?_⟩))
    go_ret
    exact dsq
   ·rw [if_neg c8] at H
    have c8b0 : decide (a0 < a1) = false := decide_eq_false c8
    clear c8
    by_cases c9 : a0 > a1
    ·rw [if_pos c9] at H
     have c9b0 : decide (a1 < a0) = true := decide_eq_true c9
     clear c9
     obtain rfl := Option.some.inj H
     go_enter Try.func186, Try.ntmps186
     go_wp2_with (first | ((with_reducible refine gate_callee (f := 211) rfl ?_); refine gl_ 8 Try.func211 #[.int .i64 a0] ?_; (with_reducible refine (cmp_isNaN_int64.calls a0 false _ A3.out).mono ?_); rintro e w' ⟨rfl, ⟨nd, rfl⟩⟩; refine ⟨_, rfl, ?_⟩) | ((with_reducible refine gate_callee (f := 211) rfl ?_); refine gl_ 10 Try.func211 #[.int .i64 a1] ?_; (with_reducible refine (cmp_isNaN_int64.calls a1 false _ A4.out).mono ?_); rintro e w' ⟨rfl, ⟨nd, rfl⟩⟩; refine ⟨_, rfl, ?_⟩))
     go_ret
     exact dsq
    ·rw [if_neg c9] at H
     have c9b0 : decide (a1 < a0) = false := decide_eq_false c9
     clear c9
     obtain rfl := Option.some.inj H
     go_enter Try.func186, Try.ntmps186
     go_wp2_with (first | ((with_reducible refine gate_callee (f := 211) rfl ?_); refine gl_ 8 Try.func211 #[.int .i64 a0] ?_; (with_reducible refine (cmp_isNaN_int64.calls a0 false _ A3.out).mono ?_); rintro e w' ⟨rfl, ⟨nd, rfl⟩⟩; refine ⟨_, rfl, ?_⟩) | ((with_reducible refine gate_callee (f := 211) rfl ?_); refine gl_ 10 Try.func211 #[.int .i64 a1] ?_; (with_reducible refine (cmp_isNaN_int64.calls a1 false _ A4.out).mono ?_); rintro e w' ⟨rfl, ⟨nd, rfl⟩⟩; refine ⟨_, rfl, ?_⟩))
     go_ret
     exact dsq

-- NOT PRINTED: function 185 (impl_searchPulses_2)

end Go.Proofs.Ytpbkbibjlbbkbaa.PFnShapes
