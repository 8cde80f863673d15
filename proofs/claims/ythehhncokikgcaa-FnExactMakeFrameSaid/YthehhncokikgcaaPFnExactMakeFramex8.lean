-- Contracts of the functions that the law reaches, written by wip/xprint.py of this repo.
import Derived.Test.YthehhncokikgcaaPFnExactMakeFramex0
import Derived.Test.YthehhncokikgcaaPFnExactMakeFramex1
import Derived.Test.YthehhncokikgcaaPFnExactMakeFramex7
namespace Go.Proofs.Ythehhncokikgcaa.PFnExactMakeFrame
open Go.RowKit Go.Proofs.YthehhncokikgcaaW.PrintWords Go.Proofs.YthehhncokikgcaaW.PrintLast Go.Proofs.YthehhncokikgcaaW.PrintMore
attribute [local go_sem] max2_int min2_int max_two min_two max_three min_three max_four min_four   -- for this text's walks alone
set_option linter.unusedVariables false
set_option linter.unusedSimpArgs false

/-! ### impl_isCoef: function 197 -/
def impl_isCoef.f (a0 : Int) : Option (Bool) := (impl_within.f a0 16777216).bind fun t299 => (some t299)
set_option maxHeartbeats 8000000 in
set_option maxRecDepth 100000 in
theorem impl_isCoef.calls (a0 : Int) (r : Bool) (w : World) (h : impl_isCoef.f a0 = some r) :
  Calls Try.prog 197 #[.int .i64 a0] w fun e w' => e = .returned (.bool r) ∧ Drawn0 w w' := by
 have H : ((impl_within.f a0 16777216).bind fun t299 => (some t299)) = some r := h
 clear h
 replace H := bnd H
 obtain ⟨t299, A2, H⟩ := H
 obtain rfl := Option.some.inj H
 go_enter Try.func197, Try.ntmps197
 go_wp2_with (first | ((with_reducible refine gate_callee (f := 143) rfl ?_); refine gl_ 4 Try.func143 #[.int .i64 a0, .int .i64 16777216] ?_; (with_reducible refine (impl_within.calls a0 16777216 t299 _ A2.out).mono ?_); rintro e w' ⟨rfl, ⟨nd, rfl⟩⟩; refine ⟨_, rfl, ?_⟩))
 go_ret
 exact dsq

/-! ### impl_Restore: function 156 -/
def impl_Restore.f (a0 : Int) (a1 : Int) : Option (Int × Int) := (impl_isRung.f a1).bind fun t301 => (if t301 = true then ((impl_isCoef.f a0).bind fun t302 => (if t302 = true then ((impl_stepOf.f a1).bind fun t303 => ((impl_isCoef.f (wrap64 (a0 * t303))).bind fun t304 => (if t304 = true then ((impl_stepOf.f a1).bind fun t305 => (some (0, wrap64 (a0 * t305)))) else (some (3, 0))))) else (some (3, 0)))) else (some (3, 0)))
set_option maxHeartbeats 8000000 in
set_option maxRecDepth 100000 in
theorem impl_Restore.calls (a0 : Int) (a1 : Int) (r1 : Int) (r2 : Int) (w : World) (h : impl_Restore.f a0 a1 = some (r1, r2)) :
  Calls Try.prog 156 #[.int .i64 a0, .int .i64 a1] w fun e w' => e = .returned (.agg #[.int .i64 r1, .int .i64 r2]) ∧ Below w.heap.size w w' := by
 have hu129 := Try.underlying129
 have HB := Aside0.mk (Below.refl w.heap.size w)
 have H : ((impl_isRung.f a1).bind fun t301 => (if t301 = true then ((impl_isCoef.f a0).bind fun t302 => (if t302 = true then ((impl_stepOf.f a1).bind fun t303 => ((impl_isCoef.f (wrap64 (a0 * t303))).bind fun t304 => (if t304 = true then ((impl_stepOf.f a1).bind fun t305 => (some (0, wrap64 (a0 * t305)))) else (some (3, 0))))) else (some (3, 0)))) else (some (3, 0)))) = some (r1, r2) := h
 clear h
 replace H := bnd H
 obtain ⟨t301, A3, H⟩ := H
 by_cases c4 : t301 = true
 ·subst c4
  replace H : ((impl_isCoef.f a0).bind fun t302 => (if t302 = true then ((impl_stepOf.f a1).bind fun t303 => ((impl_isCoef.f (wrap64 (a0 * t303))).bind fun t304 => (if t304 = true then ((impl_stepOf.f a1).bind fun t305 => (some (0, wrap64 (a0 * t305)))) else (some (3, 0))))) else (some (3, 0)))) = some (r1, r2) := by rw [if_pos rfl] at H; exact H
  replace H := bnd H
  obtain ⟨t302, A5, H⟩ := H
  by_cases c6 : t302 = true
  ·subst c6
   replace H : ((impl_stepOf.f a1).bind fun t303 => ((impl_isCoef.f (wrap64 (a0 * t303))).bind fun t304 => (if t304 = true then ((impl_stepOf.f a1).bind fun t305 => (some (0, wrap64 (a0 * t305)))) else (some (3, 0))))) = some (r1, r2) := by rw [if_pos rfl] at H; exact H
   replace H := bnd H
   obtain ⟨t303, A7, H⟩ := H
   replace H := bnd H
   obtain ⟨t304, A8, H⟩ := H
   by_cases c9 : t304 = true
   ·subst c9
    replace H : ((impl_stepOf.f a1).bind fun t305 => (some (0, wrap64 (a0 * t305)))) = some (r1, r2) := by rw [if_pos rfl] at H; exact H
    replace H := bnd H
    obtain ⟨t305, A10, H⟩ := H
    simp only [Option.some.injEq, Prod.mk.injEq] at H
    obtain ⟨rfl, rfl⟩ := H
    go_enter Try.func156, Try.ntmps156
    go_wp2_with (first | ((with_reducible refine gate_dst (N := 4) rfl ?_); refine bev 4 129 #[.int .i64 0, .int .i64 0] ?_; intro gb300 hg w11 hbox hb; have BK300 := am hbox; have GW300 := gwe hg; have GE300 := gwe hg; replace HB := hbs hb; clear hb hbox hg) | ((with_reducible refine gate_callee (f := 111) rfl ?_); refine gl_ 6 Try.func111 #[.int .i64 a1] ?_; (with_reducible refine (impl_isRung.calls a1 true _ A3.out).mono ?_); rintro e w' ⟨rfl, ⟨nd, rfl⟩⟩; refine ⟨_, rfl, ?_⟩; (try ((repeat rw [World.drewN_drewN w11]); rw [drewN_self w11]; generalize hq_ : World.drewN w11 _ = w11; have n0_ : Aside0 (w11.heap[gb300]? = some (.cells #[.int .i64 0, .int .i64 0] 129 (0, 0))) := ⟨by rw [← hq_]; exact (bpl BK300.out)⟩; have n1_ : Aside0 (Below w.heap.size w w11) := ⟨by rw [← hq_]; exact bnx⟩; clear BK300 HB hq_; have BK300 := n0_; have HB := n1_; clear n0_ n1_))) | (go_at_call 197; (with_reducible refine (impl_isCoef.calls a0 true _ A5.out).mono ?_); rintro e w' ⟨rfl, ⟨nd, rfl⟩⟩; (try ((repeat rw [World.drewN_drewN w11]); rw [drewN_self w11]; generalize hq_ : World.drewN w11 _ = w11; have n0_ : Aside0 (w11.heap[gb300]? = some (.cells #[.int .i64 0, .int .i64 0] 129 (0, 0))) := ⟨by rw [← hq_]; exact (bpl BK300.out)⟩; have n1_ : Aside0 (Below w.heap.size w w11) := ⟨by rw [← hq_]; exact bnx⟩; clear BK300 HB hq_; have BK300 := n0_; have HB := n1_; clear n0_ n1_)); (try clear A5)) | (go_at_call 78; (with_reducible refine (impl_stepOf.calls a1 t303 _ A7.out).mono ?_); rintro e w' ⟨rfl, ⟨nd, rfl⟩⟩; (try ((repeat rw [World.drewN_drewN w11]); rw [drewN_self w11]; generalize hq_ : World.drewN w11 _ = w11; have n0_ : Aside0 (w11.heap[gb300]? = some (.cells #[.int .i64 0, .int .i64 0] 129 (0, 0))) := ⟨by rw [← hq_]; exact (bpl BK300.out)⟩; have n1_ : Aside0 (Below w.heap.size w w11) := ⟨by rw [← hq_]; exact bnx⟩; clear BK300 HB hq_; have BK300 := n0_; have HB := n1_; clear n0_ n1_))) | (go_at_call 197; (with_reducible refine (impl_isCoef.calls (wrap64 (a0 * t303)) true _ A8.out).mono ?_); rintro e w' ⟨rfl, ⟨nd, rfl⟩⟩; (try ((repeat rw [World.drewN_drewN w11]); rw [drewN_self w11]; generalize hq_ : World.drewN w11 _ = w11; have n0_ : Aside0 (w11.heap[gb300]? = some (.cells #[.int .i64 0, .int .i64 0] 129 (0, 0))) := ⟨by rw [← hq_]; exact (bpl BK300.out)⟩; have n1_ : Aside0 (Below w.heap.size w w11) := ⟨by rw [← hq_]; exact bnx⟩; clear BK300 HB hq_; have BK300 := n0_; have HB := n1_; clear n0_ n1_)); (try clear A8)) | ((with_reducible refine gate_callee (f := 78) rfl ?_); refine gl_ 24 Try.func78 #[.int .i64 a1] ?_; (with_reducible refine (impl_stepOf.calls a1 t305 _ A10.out).mono ?_); rintro e w' ⟨rfl, ⟨nd, rfl⟩⟩; refine ⟨_, rfl, ?_⟩; (try ((repeat rw [World.drewN_drewN w11]); rw [drewN_self w11]; generalize hq_ : World.drewN w11 _ = w11; have n0_ : Aside0 (w11.heap[gb300]? = some (.cells #[.int .i64 0, .int .i64 0] 129 (0, 0))) := ⟨by rw [← hq_]; exact (bpl BK300.out)⟩; have n1_ : Aside0 (Below w.heap.size w w11) := ⟨by rw [← hq_]; exact bnx⟩; clear BK300 HB hq_; have BK300 := n0_; have HB := n1_; clear n0_ n1_)); obtain ⟨hcz12_0, hcz12_1, hfz12_0, hfz12_1⟩ := cf2 (W := w11) BK300.out))
    refine bodyPost_ret (results_cell_row rfl _ _ gb300 129 #[.int .i64 0, .int .i64 (wrap64 (a0 * t305))] (0, 0) _ rfl (by (with_reducible repeat (first | refine blk_drewN ?_ _ | refine blk_drew ?_ | refine blk_alloc ?_ _)); refine blk_put (cs := #[.int .i64 0, .int .i64 0]) ?_ 1 _ rfl; (with_reducible repeat (first | refine blk_drewN ?_ _ | refine blk_drew ?_ | refine blk_alloc ?_ _)); refine blk_put (cs := #[.int .i64 0, .int .i64 0]) ?_ 0 _ rfl; exact bpl BK300.out) Try.underlying129 rfl (by kernel_rfl)) rfl ?_
    exact ⟨enq, bnx⟩
   ·replace c9 := Bool.eq_false_iff.mpr c9
    subst c9
    replace H : (some (3, 0)) = some (r1, r2) := by rw [if_neg (show ¬ (false = true) by decide)] at H; exact H
    simp only [Option.some.injEq, Prod.mk.injEq] at H
    obtain ⟨rfl, rfl⟩ := H
    go_enter Try.func156, Try.ntmps156
    go_wp2_with (first | ((with_reducible refine gate_dst (N := 4) rfl ?_); refine bev 4 129 #[.int .i64 0, .int .i64 0] ?_; intro gb300 hg w13 hbox hb; have BK300 := am hbox; have GW300 := gwe hg; have GE300 := gwe hg; replace HB := hbs hb; clear hb hbox hg) | ((with_reducible refine gate_callee (f := 111) rfl ?_); refine gl_ 6 Try.func111 #[.int .i64 a1] ?_; (with_reducible refine (impl_isRung.calls a1 true _ A3.out).mono ?_); rintro e w' ⟨rfl, ⟨nd, rfl⟩⟩; refine ⟨_, rfl, ?_⟩; (try ((repeat rw [World.drewN_drewN w13]); rw [drewN_self w13]; generalize hq_ : World.drewN w13 _ = w13; have n0_ : Aside0 (w13.heap[gb300]? = some (.cells #[.int .i64 0, .int .i64 0] 129 (0, 0))) := ⟨by rw [← hq_]; exact (bpl BK300.out)⟩; have n1_ : Aside0 (Below w.heap.size w w13) := ⟨by rw [← hq_]; exact bnx⟩; clear BK300 HB hq_; have BK300 := n0_; have HB := n1_; clear n0_ n1_))) | (go_at_call 197; (with_reducible refine (impl_isCoef.calls a0 true _ A5.out).mono ?_); rintro e w' ⟨rfl, ⟨nd, rfl⟩⟩; (try ((repeat rw [World.drewN_drewN w13]); rw [drewN_self w13]; generalize hq_ : World.drewN w13 _ = w13; have n0_ : Aside0 (w13.heap[gb300]? = some (.cells #[.int .i64 0, .int .i64 0] 129 (0, 0))) := ⟨by rw [← hq_]; exact (bpl BK300.out)⟩; have n1_ : Aside0 (Below w.heap.size w w13) := ⟨by rw [← hq_]; exact bnx⟩; clear BK300 HB hq_; have BK300 := n0_; have HB := n1_; clear n0_ n1_)); (try clear A5)) | (go_at_call 78; (with_reducible refine (impl_stepOf.calls a1 t303 _ A7.out).mono ?_); rintro e w' ⟨rfl, ⟨nd, rfl⟩⟩; (try ((repeat rw [World.drewN_drewN w13]); rw [drewN_self w13]; generalize hq_ : World.drewN w13 _ = w13; have n0_ : Aside0 (w13.heap[gb300]? = some (.cells #[.int .i64 0, .int .i64 0] 129 (0, 0))) := ⟨by rw [← hq_]; exact (bpl BK300.out)⟩; have n1_ : Aside0 (Below w.heap.size w w13) := ⟨by rw [← hq_]; exact bnx⟩; clear BK300 HB hq_; have BK300 := n0_; have HB := n1_; clear n0_ n1_))) | (go_at_call 197; (with_reducible refine (impl_isCoef.calls (wrap64 (a0 * t303)) false _ A8.out).mono ?_); rintro e w' ⟨rfl, ⟨nd, rfl⟩⟩; (try ((repeat rw [World.drewN_drewN w13]); rw [drewN_self w13]; generalize hq_ : World.drewN w13 _ = w13; have n0_ : Aside0 (w13.heap[gb300]? = some (.cells #[.int .i64 0, .int .i64 0] 129 (0, 0))) := ⟨by rw [← hq_]; exact (bpl BK300.out)⟩; have n1_ : Aside0 (Below w.heap.size w w13) := ⟨by rw [← hq_]; exact bnx⟩; clear BK300 HB hq_; have BK300 := n0_; have HB := n1_; clear n0_ n1_)); obtain ⟨hcz14_0, hcz14_1, hfz14_0, hfz14_1⟩ := cf2 (W := w13) BK300.out; (try clear A8)))
    refine bodyPost_ret (results_cell_row rfl _ _ gb300 129 #[.int .i64 3, .int .i64 0] (0, 0) _ rfl (by (with_reducible repeat (first | refine blk_drewN ?_ _ | refine blk_drew ?_ | refine blk_alloc ?_ _)); refine blk_put (cs := #[.int .i64 3, .int .i64 0]) ?_ 1 _ rfl; (with_reducible repeat (first | refine blk_drewN ?_ _ | refine blk_drew ?_ | refine blk_alloc ?_ _)); refine blk_put (cs := #[.int .i64 0, .int .i64 0]) ?_ 0 _ rfl; exact bpl BK300.out) Try.underlying129 rfl (by kernel_rfl)) rfl ?_
    exact ⟨enq, bnx⟩
  ·replace c6 := Bool.eq_false_iff.mpr c6
   subst c6
   replace H : (some (3, 0)) = some (r1, r2) := by rw [if_neg (show ¬ (false = true) by decide)] at H; exact H
   simp only [Option.some.injEq, Prod.mk.injEq] at H
   obtain ⟨rfl, rfl⟩ := H
   go_enter Try.func156, Try.ntmps156
   go_wp2_with (first | ((with_reducible refine gate_dst (N := 4) rfl ?_); refine bev 4 129 #[.int .i64 0, .int .i64 0] ?_; intro gb300 hg w15 hbox hb; have BK300 := am hbox; have GW300 := gwe hg; have GE300 := gwe hg; replace HB := hbs hb; clear hb hbox hg) | ((with_reducible refine gate_callee (f := 111) rfl ?_); refine gl_ 6 Try.func111 #[.int .i64 a1] ?_; (with_reducible refine (impl_isRung.calls a1 true _ A3.out).mono ?_); rintro e w' ⟨rfl, ⟨nd, rfl⟩⟩; refine ⟨_, rfl, ?_⟩; (try ((repeat rw [World.drewN_drewN w15]); rw [drewN_self w15]; generalize hq_ : World.drewN w15 _ = w15; have n0_ : Aside0 (w15.heap[gb300]? = some (.cells #[.int .i64 0, .int .i64 0] 129 (0, 0))) := ⟨by rw [← hq_]; exact (bpl BK300.out)⟩; have n1_ : Aside0 (Below w.heap.size w w15) := ⟨by rw [← hq_]; exact bnx⟩; clear BK300 HB hq_; have BK300 := n0_; have HB := n1_; clear n0_ n1_))) | (go_at_call 197; (with_reducible refine (impl_isCoef.calls a0 false _ A5.out).mono ?_); rintro e w' ⟨rfl, ⟨nd, rfl⟩⟩; (try ((repeat rw [World.drewN_drewN w15]); rw [drewN_self w15]; generalize hq_ : World.drewN w15 _ = w15; have n0_ : Aside0 (w15.heap[gb300]? = some (.cells #[.int .i64 0, .int .i64 0] 129 (0, 0))) := ⟨by rw [← hq_]; exact (bpl BK300.out)⟩; have n1_ : Aside0 (Below w.heap.size w w15) := ⟨by rw [← hq_]; exact bnx⟩; clear BK300 HB hq_; have BK300 := n0_; have HB := n1_; clear n0_ n1_)); obtain ⟨hcz16_0, hcz16_1, hfz16_0, hfz16_1⟩ := cf2 (W := w15) BK300.out))
   refine bodyPost_ret (results_cell_row rfl _ _ gb300 129 #[.int .i64 3, .int .i64 0] (0, 0) _ rfl (by (with_reducible repeat (first | refine blk_drewN ?_ _ | refine blk_drew ?_ | refine blk_alloc ?_ _)); refine blk_put (cs := #[.int .i64 3, .int .i64 0]) ?_ 1 _ rfl; (with_reducible repeat (first | refine blk_drewN ?_ _ | refine blk_drew ?_ | refine blk_alloc ?_ _)); refine blk_put (cs := #[.int .i64 0, .int .i64 0]) ?_ 0 _ rfl; exact bpl BK300.out) Try.underlying129 rfl (by kernel_rfl)) rfl ?_
   exact ⟨enq, bnx⟩
 ·replace c4 := Bool.eq_false_iff.mpr c4
  subst c4
  replace H : (some (3, 0)) = some (r1, r2) := by rw [if_neg (show ¬ (false = true) by decide)] at H; exact H
  simp only [Option.some.injEq, Prod.mk.injEq] at H
  obtain ⟨rfl, rfl⟩ := H
  go_enter Try.func156, Try.ntmps156
  go_wp2_with (first | ((with_reducible refine gate_dst (N := 4) rfl ?_); refine bev 4 129 #[.int .i64 0, .int .i64 0] ?_; intro gb300 hg w17 hbox hb; have BK300 := am hbox; have GW300 := gwe hg; have GE300 := gwe hg; replace HB := hbs hb; clear hb hbox hg) | ((with_reducible refine gate_callee (f := 111) rfl ?_); refine gl_ 6 Try.func111 #[.int .i64 a1] ?_; (with_reducible refine (impl_isRung.calls a1 false _ A3.out).mono ?_); rintro e w' ⟨rfl, ⟨nd, rfl⟩⟩; refine ⟨_, rfl, ?_⟩; (try ((repeat rw [World.drewN_drewN w17]); rw [drewN_self w17]; generalize hq_ : World.drewN w17 _ = w17; have n0_ : Aside0 (w17.heap[gb300]? = some (.cells #[.int .i64 0, .int .i64 0] 129 (0, 0))) := ⟨by rw [← hq_]; exact (bpl BK300.out)⟩; have n1_ : Aside0 (Below w.heap.size w w17) := ⟨by rw [← hq_]; exact bnx⟩; clear BK300 HB hq_; have BK300 := n0_; have HB := n1_; clear n0_ n1_)); obtain ⟨hcz18_0, hcz18_1, hfz18_0, hfz18_1⟩ := cf2 (W := w17) BK300.out))
  refine bodyPost_ret (results_cell_row rfl _ _ gb300 129 #[.int .i64 3, .int .i64 0] (0, 0) _ rfl (by (with_reducible repeat (first | refine blk_drewN ?_ _ | refine blk_drew ?_ | refine blk_alloc ?_ _)); refine blk_put (cs := #[.int .i64 3, .int .i64 0]) ?_ 1 _ rfl; (with_reducible repeat (first | refine blk_drewN ?_ _ | refine blk_drew ?_ | refine blk_alloc ?_ _)); refine blk_put (cs := #[.int .i64 0, .int .i64 0]) ?_ 0 _ rfl; exact bpl BK300.out) Try.underlying129 rfl (by kernel_rfl)) rfl ?_
  exact ⟨enq, bnx⟩

-- NOT PRINTED: function 154 (impl_FrameFault_1)

/-! ### impl_halfOf: function 198 -/
def impl_halfOf.f (l0 : List Int) (a1 : Int) : Option (Bool) := some ((l0.length : Int) == (wrap64 (Int.tdiv a1 2)))
set_option maxHeartbeats 8000000 in
set_option maxRecDepth 100000 in
theorem impl_halfOf.calls (A0 : Option Addr) (c0 : Nat) (l0 : List Int) (a1 : Int) (r : Bool) (w : World) (hr0 : Kd.C (Kd.int .i64) w A0 l0.length l0) (hc0 : l0.length ≤ c0) (h : impl_halfOf.f l0 a1 = some r) :
  Calls Try.prog 198 #[.slice A0 l0.length c0, .int .i64 a1] w fun e w' => e = .returned (.bool r) ∧ Drawn0 w w' := by
 have HR0 := Aside0.mk hr0
 have HC0 := Aside0.mk hc0
 clear hr0 hc0
 have H : (some ((l0.length : Int) == (wrap64 (Int.tdiv a1 2)))) = some r := h
 clear h
 obtain rfl := Option.some.inj H
 go_enter Try.func198, Try.ntmps198
 go_wp2
 go_ret
 exact dsq

/-! ### impl_countFault: function 157 -/
def impl_countFault.f (a0 : Int) (l1 : List Int) (l2 : List Int) (l3 : List (List Int)) : Option (Int) := (impl_bandsOf.f a0).bind fun t306 => ((impl_halfOf.f l1 a0).bind fun t309 => (if t309 = true then (if (l2.length : Int) = (t306.length : Int) then ((impl_codeIf.f ((l3.length : Int) != (t306.length : Int)) 2).bind fun t310 => (some t310)) else ((impl_codeIf.f true 2).bind fun t311 => (some t311))) else ((impl_codeIf.f true 2).bind fun t312 => (some t312))))
set_option maxHeartbeats 8000000 in
set_option maxRecDepth 100000 in
theorem impl_countFault.calls (a0 : Int) (A1 : Option Addr) (c1 : Nat) (l1 : List Int) (A2 : Option Addr) (c2 : Nat) (l2 : List Int) (A3 : Option Addr) (c3 : Nat) (l3 : List (List Int)) (r : Int) (w : World) (hr1 : Kd.C (Kd.int .i64) w A1 l1.length l1) (hc1 : l1.length ≤ c1) (hr2 : Kd.C (Kd.int .i64) w A2 l2.length l2) (hc2 : l2.length ≤ c2) (hr3 : Kd.C (Kd.slice 2 (Kd.int .i64)) w A3 l3.length l3) (hc3 : l3.length ≤ c3) (h : impl_countFault.f a0 l1 l2 l3 = some r) :
  Calls Try.prog 157 #[.int .i64 a0, .slice A1 l1.length c1, .slice A2 l2.length c2, .slice A3 l3.length c3] w fun e w' => e = .returned (.int .i64 r) ∧ Below w.heap.size w w' := by
 have HR1 := Aside0.mk hr1
 have HC1 := Aside0.mk hc1
 clear hr1 hc1
 have HR2 := Aside0.mk hr2
 have HC2 := Aside0.mk hc2
 clear hr2 hc2
 have HR3 := Aside0.mk hr3
 have HC3 := Aside0.mk hc3
 clear hr3 hc3
 have HB := Aside0.mk (Below.refl w.heap.size w)
 have H : ((impl_bandsOf.f a0).bind fun t306 => ((impl_halfOf.f l1 a0).bind fun t309 => (if t309 = true then (if (l2.length : Int) = (t306.length : Int) then ((impl_codeIf.f ((l3.length : Int) != (t306.length : Int)) 2).bind fun t310 => (some t310)) else ((impl_codeIf.f true 2).bind fun t311 => (some t311))) else ((impl_codeIf.f true 2).bind fun t312 => (some t312))))) = some r := h
 clear h
 replace H := bnd H
 obtain ⟨t306, A5, H⟩ := H
 replace H := bnd H
 obtain ⟨t309, A6, H⟩ := H
 by_cases c7 : t309 = true
 ·subst c7
  replace H : (if (l2.length : Int) = (t306.length : Int) then ((impl_codeIf.f ((l3.length : Int) != (t306.length : Int)) 2).bind fun t310 => (some t310)) else ((impl_codeIf.f true 2).bind fun t311 => (some t311))) = some r := by rw [if_pos rfl] at H; exact H
  by_cases c8 : (l2.length : Int) = (t306.length : Int)
  ·rw [if_pos c8] at H
   have c8b0 : ((l2.length : Int) == (t306.length : Int)) = true := beq_iff_eq.mpr c8
   have c8b1 : ((l2.length : Int) != (t306.length : Int)) = false := bne_eq_false_iff_eq.mpr c8
   have c8b2 : (l2.length == t306.length) = true := by first | simpa using c8 | (simp at c8 ⊢; omega)
   clear c8
   replace H := bnd H
   obtain ⟨t310, A9, H⟩ := H
   obtain rfl := Option.some.inj H
   go_enter Try.func157, Try.ntmps157
   go_wp2_with (first | ((with_reducible refine gate_callee (f := 79) rfl ?_); refine gl_ 11 Try.func79 #[.int .i64 a0] ?_; (with_reducible refine (impl_bandsOf.calls a0 t306 _ A5.out).mono ?_); rintro e w10 ⟨v307, rfl, ho0, hb⟩; refine ⟨_, rfl, ?_⟩; have HO308 := rlw ho0; replace HB := hbs hb; (try clear hb); (try clear ho0); obtain ⟨Ao11, co11, eo11⟩ := Kd.R_slice HO308.out; subst eo11) | ((with_reducible refine gate_callee (f := 198) rfl ?_); refine gl_ 15 Try.func198 #[.slice A1 l1.length c1, .int .i64 a0] ?_; (with_reducible refine (impl_halfOf.calls _ _ l1 a0 true _ ?_ ?_ A6.out).mono ?_); exact cpl HR1.out; exact HC1.out; rintro e w' ⟨rfl, ⟨nd, rfl⟩⟩; refine ⟨_, rfl, ?_⟩) | ((with_reducible refine gate_callee (f := 99) rfl ?_); refine gl_ 29 Try.func99 #[.bool ((l3.length : Int) != (t306.length : Int)), .int .i64 2] ?_; (with_reducible refine (impl_codeIf.calls ((l3.length : Int) != (t306.length : Int)) 2 t310 _ A9.out).mono ?_); rintro e w' ⟨rfl, ⟨nd, rfl⟩⟩; refine ⟨_, rfl, ?_⟩))
   go_ret
   exact ⟨enq, bnw⟩
  ·rw [if_neg c8] at H
   have c8b0 : ((l2.length : Int) == (t306.length : Int)) = false := beq_eq_false_iff_ne.mpr c8
   have c8b1 : ((l2.length : Int) != (t306.length : Int)) = true := bne_iff_ne.mpr c8
   have c8b2 : (l2.length == t306.length) = false := by first | simpa using c8 | (simp at c8 ⊢; omega)
   replace H := bnd H
   obtain ⟨t311, A12, H⟩ := H
   obtain rfl := Option.some.inj H
   go_enter Try.func157, Try.ntmps157
   go_wp2_with (first | ((with_reducible refine gate_callee (f := 79) rfl ?_); refine gl_ 11 Try.func79 #[.int .i64 a0] ?_; (with_reducible refine (impl_bandsOf.calls a0 t306 _ A5.out).mono ?_); rintro e w13 ⟨v307, rfl, ho0, hb⟩; refine ⟨_, rfl, ?_⟩; have HO308 := rlw ho0; replace HB := hbs hb; (try clear hb); (try clear ho0); obtain ⟨Ao14, co14, eo14⟩ := Kd.R_slice HO308.out; subst eo14) | ((with_reducible refine gate_callee (f := 198) rfl ?_); refine gl_ 15 Try.func198 #[.slice A1 l1.length c1, .int .i64 a0] ?_; (with_reducible refine (impl_halfOf.calls _ _ l1 a0 true _ ?_ ?_ A6.out).mono ?_); exact cpl HR1.out; exact HC1.out; rintro e w' ⟨rfl, ⟨nd, rfl⟩⟩; refine ⟨_, rfl, ?_⟩) | ((with_reducible refine gate_callee (f := 99) rfl ?_); refine gl_ 29 Try.func99 #[.bool true, .int .i64 2] ?_; (with_reducible refine (impl_codeIf.calls true 2 t311 _ A12.out).mono ?_); rintro e w' ⟨rfl, ⟨nd, rfl⟩⟩; refine ⟨_, rfl, ?_⟩))
   go_ret
   exact ⟨enq, bnw⟩
 ·replace c7 := Bool.eq_false_iff.mpr c7
  subst c7
  replace H : ((impl_codeIf.f true 2).bind fun t312 => (some t312)) = some r := by rw [if_neg (show ¬ (false = true) by decide)] at H; exact H
  replace H := bnd H
  obtain ⟨t312, A15, H⟩ := H
  obtain rfl := Option.some.inj H
  go_enter Try.func157, Try.ntmps157
  go_wp2_with (first | ((with_reducible refine gate_callee (f := 79) rfl ?_); refine gl_ 11 Try.func79 #[.int .i64 a0] ?_; (with_reducible refine (impl_bandsOf.calls a0 t306 _ A5.out).mono ?_); rintro e w16 ⟨v307, rfl, ho0, hb⟩; refine ⟨_, rfl, ?_⟩; have HO308 := rlw ho0; replace HB := hbs hb; (try clear hb); (try clear ho0); obtain ⟨Ao17, co17, eo17⟩ := Kd.R_slice HO308.out; subst eo17) | ((with_reducible refine gate_callee (f := 198) rfl ?_); refine gl_ 15 Try.func198 #[.slice A1 l1.length c1, .int .i64 a0] ?_; (with_reducible refine (impl_halfOf.calls _ _ l1 a0 false _ ?_ ?_ A6.out).mono ?_); exact cpl HR1.out; exact HC1.out; rintro e w' ⟨rfl, ⟨nd, rfl⟩⟩; refine ⟨_, rfl, ?_⟩) | ((with_reducible refine gate_callee (f := 99) rfl ?_); refine gl_ 29 Try.func99 #[.bool true, .int .i64 2] ?_; (with_reducible refine (impl_codeIf.calls true 2 t312 _ A15.out).mono ?_); rintro e w' ⟨rfl, ⟨nd, rfl⟩⟩; refine ⟨_, rfl, ?_⟩))
  go_ret
  exact ⟨enq, bnw⟩

/-! ### impl_gainRung: function 117 -/
def impl_gainRung.f (a0 : Int) (a1 : Int) : Option (Int) := some (mn (wrap64 (a0 + (wrap64 (2 * a1)))) 47)
set_option maxHeartbeats 8000000 in
set_option maxRecDepth 100000 in
theorem impl_gainRung.calls (a0 : Int) (a1 : Int) (r : Int) (w : World) (h : impl_gainRung.f a0 a1 = some r) :
  Calls Try.prog 117 #[.int .i64 a0, .int .i64 a1] w fun e w' => e = .returned (.int .i64 r) ∧ Below w.heap.size w w' := by
 have HB := Aside0.mk (Below.refl w.heap.size w)
 have H : (some (mn (wrap64 (a0 + (wrap64 (2 * a1)))) 47)) = some r := h
 clear h
 obtain ⟨ji3, hji3⟩ : ∃ j_ : Int, (mn (wrap64 (a0 + (wrap64 (2 * a1)))) 47) = j_ := ⟨_, rfl⟩
 replace H : (some ji3) = some r := by first | (rw [hji3] at H; exact H) | (simp only [hji3] at H ⊢; exact H)
 (try (have hji3h : ji3 ≤ 47 := by (rw [← hji3]; unfold mn; (repeat' split) <;> omega)))
 (try (have hji3g : ji3 ≤ 64 := by omega))
 have hji3_ : (if 47 < (wrap64 (a0 + (wrap64 (2 * a1)))) then 47 else (wrap64 (a0 + (wrap64 (2 * a1))))) = ji3 := hji3
 obtain rfl := Option.some.inj H
 go_enter Try.func117, Try.ntmps117
 go_wp2
 go_ret
 exact ⟨by first | rfl | (simp [errW_none, errW_some] <;> rfl) | (simp only [← hji3]; first | rfl | (simp [errW_none, errW_some] <;> rfl)) | (simp [*, errW_none, errW_some] <;> rfl), bnw⟩

-- NOT PRINTED: function 199 (impl_gainsFault_1)

/-! slices.IndexFunc and slices.ContainsFunc over []int64, for whatever function value -/
/-- Where the first number stands of which p holds, counted from i; -1: nowhere. -/
def idxP (p : Int → Option Bool) : List Int → Int → Option Int
  | [], _ => some (-1)
  | x :: xs, i => (p x).bind fun b => if b = true then some i else idxP p xs (i + 1)
/-- Does p hold of any. -/
def anyP (p : Int → Option Bool) (l : List Int) : Option Bool := (idxP p l 0).bind fun i => some (decide (0 ≤ i))
/-- What is asked of a function value: it answers p, and turns nothing that lay in w. -/
def Asks (g : Nat) (lb : Array Value) (p : Int → Option Bool) (w : World) : Prop :=
  ∀ (x : Int) (b : Bool) (W : World), Below w.heap.size w W → p x = some b → Calls Try.prog g (#[.int .i64 x] ++ lb) W fun e w' => e = .returned (.bool b) ∧ Below W.heap.size W w'
theorem drop_rd (l : List Int) (k : Nat) (h : k < l.length) : l.drop k = rd l (k : Int) :: l.drop (k + 1) := by
  rw [List.drop_eq_getElem_cons h]; unfold rd; rw [Int.toNat_natCast, List.getD_eq_getElem?_getD, List.getElem?_eq_getElem h]; rfl
set_option maxHeartbeats 2000000 in
theorem idxfunc_calls (p : Int → Option Bool) (g : Nat) (lb : Array Value) (eg : ∀ args w, (callFunc g args).run Try.prog w = .ok (.enter g args) w) (A0 : Option Addr) (c0 : Nat) (l0 : List Int) (r : Int) (w : World)
    (hp : Asks g lb p w) (hr0 : Kd.C (Kd.int .i64) w A0 l0.length l0) (hc0 : l0.length ≤ c0) (h : idxP p l0 0 = some r) :
    Calls Try.prog 182 #[.slice A0 l0.length c0, .func (.func g) #[] lb] w fun e w' => e = .returned (.int .i64 r) ∧ Below w.heap.size w w' := by
  have HR := Aside0.mk hr0
  have HP := Aside0.mk hp
  have hn := hr0.2.1
  have H' := Aside0.mk h
  clear hr0 hp h
  go_enter Try.func182, Try.ntmps182
  go_wp2
  go_loopg [5, 8] l0.length (fun gg _ s8 wr => ∃ kk : Nat, kk ≤ l0.length ∧ l0.length - kk ≤ gg ∧ s8 = .int .i64 kk ∧ Aside0 (Below w.heap.size w wr) ∧ Aside0 (idxP p (l0.drop kk) kk = some r))
  case atStart => exact ⟨0, Nat.zero_le _, by omega, rfl, ⟨Below.refl _ _⟩, H'⟩
  case round =>
    clear H'
    obtain ⟨kk, hkk, hg, rfl, HB, HA⟩ := hrel
    by_cases hlt : kk < l0.length
    · have hltz : (kk : Int) < (l0.length : Int) := by omega
      have HQ := HA.out
      rw [drop_rd l0 kk hlt] at HQ
      simp only [idxP] at HQ
      replace HQ := Option.bind_eq_some_iff.mp HQ
      obtain ⟨b, hb, HQ⟩ := HQ
      have HR2 := Aside0.mk (Kd.C_below HR.out HB.out)
      obtain ⟨ad, e1, hx⟩ := Kd.at_int HR2.out (kk : Int) (by omega) hltz
      cases e1
      rw [Int.toNat_natCast] at hx
      have hcall := fun (W : World) (hW : Below w.heap.size w W) => HP.out (rd l0 (kk : Int)) b W hW hb
      have HC := Aside0.mk hcall
      clear hcall hb
      cases b with
      | true =>
        rw [if_pos rfl] at HQ
        obtain rfl := Option.some.inj HQ
        clear HQ HA
        go_wp2_with (go_at_fn g; refine (HC.out _ HB.out).mono ?_; rintro e w' ⟨rfl, hb⟩)
        go_ret
        exact ⟨rfl, below_step HB.out hb⟩
      | false =>
        rw [if_neg (by simp)] at HQ
        have HQ2 := Aside0.mk HQ
        clear HQ HA
        go_wp2_with (go_at_fn g; refine (HC.out _ HB.out).mono ?_; rintro e w' ⟨rfl, hb⟩; have HB2 := Aside0.mk (below_step HB.out hb); clear hb)
        go_roundg (l0.length - (kk + 1))
        case measure => omega
        case rel => exact ⟨kk + 1, by omega, by omega, by go_num, HB2, by simpa using HQ2⟩
    · have hltz : ¬ (kk : Int) < (l0.length : Int) := by omega
      have hk : kk = l0.length := by omega
      subst hk
      have HQ := HA.out
      rw [List.drop_length] at HQ
      obtain rfl := Option.some.inj HQ
      clear HQ HA
      go_wp2
      go_ret
      exact ⟨rfl, HB.out⟩
set_option maxHeartbeats 1000000 in
theorem contains_calls (p : Int → Option Bool) (g : Nat) (lb : Array Value) (eg : ∀ args w, (callFunc g args).run Try.prog w = .ok (.enter g args) w) (A0 : Option Addr) (c0 : Nat) (l0 : List Int) (r : Bool) (w : World)
    (hp : Asks g lb p w) (hr0 : Kd.C (Kd.int .i64) w A0 l0.length l0) (hc0 : l0.length ≤ c0) (h : anyP p l0 = some r) :
    Calls Try.prog 123 #[.slice A0 l0.length c0, .func (.func g) #[] lb] w fun e w' => e = .returned (.bool r) ∧ Below w.heap.size w w' := by
  unfold anyP at h
  replace h := Option.bind_eq_some_iff.mp h
  obtain ⟨i, hi, h⟩ := h
  obtain rfl := Option.some.inj h
  clear h
  have HC := Aside0.mk (fun W => idxfunc_calls p g lb eg A0 c0 l0 i W)
  have H1 := Aside0.mk hp
  have H2 := Aside0.mk hr0
  have H3 := Aside0.mk hc0
  have H4 := Aside0.mk hi
  clear hp hr0 hc0 hi
  go_enter Try.func123, Try.ntmps123
  go_wp2_with (go_at_call 182; refine (HC.out _ H1.out H2.out H3.out H4.out).mono ?_; rintro e w' ⟨rfl, hb⟩)
  all_goals (go_ret; exact ⟨by first | rfl | simp_all, hb⟩)

/-! ### impl_gainsFault: function 158 -/
/-- The closure: is a gain out of its range. -/
def gainsP (rung mask x : Int) : Option Bool := (impl_inRange.f x 0 65535).bind fun b => if b = true then ((impl_gainRung.f rung mask).bind fun q => (impl_Restore.f x q).bind fun p => some (!decide (p.1 = 0))) else some true
def impl_gainsFault.f (l0 : List Int) (a1 : Int) (a2 : Int) : Option (Int) := (anyP (gainsP a1 a2) l0).bind fun b => impl_codeIf.f b 3
set_option maxHeartbeats 2000000 in
theorem gains_asks (rung mask : Int) (B B2 : Nat) (w : World) (hB : B < w.heap.size) (hB2 : B2 < w.heap.size) (hcell : w.cell? ⟨B, 0, none⟩ = some (.int .i64 rung)) (hcell2 : w.cell? ⟨B2, 0, none⟩ = some (.int .i64 mask)) :
    Asks 199 #[.pointer (some ⟨B, 0, none⟩), .pointer (some ⟨B2, 0, none⟩)] (gainsP rung mask) w := fun x b W hb hx => by
  have hc1 : W.cell? ⟨B, 0, none⟩ = some (.int .i64 rung) := (hb.cell (p := ⟨B, 0, none⟩) hB).trans hcell
  have hc2 : W.cell? ⟨B2, 0, none⟩ = some (.int .i64 mask) := (hb.cell (p := ⟨B2, 0, none⟩) hB2).trans hcell2
  have s1 := Aside0.mk (Nat.lt_of_lt_of_le hB (below_size hb))
  have s2 := Aside0.mk (Nat.lt_of_lt_of_le hB2 (below_size hb))
  have S1 := Aside0.mk hc1
  have S2 := Aside0.mk hc2
  unfold gainsP at hx
  replace hx := Option.bind_eq_some_iff.mp hx
  obtain ⟨b1, h1, hx⟩ := hx
  have H1 := Aside0.mk h1
  clear h1 hcell hcell2 hb hB hB2 hc1 hc2
  show Calls Try.prog 199 #[.int .i64 x, .pointer (some ⟨B, 0, none⟩), .pointer (some ⟨B2, 0, none⟩)] W _
  have hfd : ∀ (x0 x1 : Int) (W : World), (Instr.field 129 (.agg #[.int .i64 x0, .int .i64 x1]) 0).run Try.prog W = .ok (.int .i64 x0) W := fun _ _ _ => by kernel_rfl
  cases b1 with
  | true =>
    rw [if_pos rfl] at hx
    replace hx := Option.bind_eq_some_iff.mp hx
    obtain ⟨q, h3, hx⟩ := hx
    have H3 := Aside0.mk h3
    replace hx := Option.bind_eq_some_iff.mp hx
    obtain ⟨⟨p1, p2⟩, h2, hx⟩ := hx
    have H2 := Aside0.mk h2
    obtain rfl := Option.some.inj hx
    clear h2 h3 hx
    go_enter Try.func199, Try.ntmps199
    go_wp2_with (first | (go_at_call 125; refine (impl_inRange.calls x 0 65535 true _ H1.out).mono ?_; rintro e w' ⟨rfl, hd⟩; have hc1 : w'.cell? ⟨B, 0, none⟩ = some (.int .i64 rung) := (hd.below.cell (p := ⟨B, 0, none⟩) s1.out).trans S1.out; have hc2 : w'.cell? ⟨B2, 0, none⟩ = some (.int .i64 mask) := (hd.below.cell (p := ⟨B2, 0, none⟩) s2.out).trans S2.out; have HB1 := Aside0.mk hd.below; clear hd) | (go_at_call 117; refine (impl_gainRung.calls rung mask q _ H3.out).mono ?_; rintro e w' ⟨rfl, hd⟩; have HB2 := Aside0.mk (below_step HB1.out (by first | exact hd.below | exact hd)); clear hd) | (go_at_call 156; refine (impl_Restore.calls x q p1 p2 _ H2.out).mono ?_; rintro e w' ⟨rfl, hd⟩; have HB3 := Aside0.mk (below_step HB2.out hd)))
    go_ret
    exact ⟨by first | rfl | simp_all, HB3.out⟩
  | false =>
    rw [if_neg (by simp)] at hx
    obtain rfl := Option.some.inj hx
    clear hx
    go_enter Try.func199, Try.ntmps199
    go_wp2_with (go_at_call 125; refine (impl_inRange.calls x 0 65535 false _ H1.out).mono ?_; rintro e w' ⟨rfl, hd⟩)
    go_ret
    exact ⟨by first | rfl | simp_all, hd.below⟩
set_option maxHeartbeats 1000000 in
set_option maxRecDepth 100000 in
theorem impl_gainsFault.calls (A0 : Option Addr) (c0 : Nat) (l0 : List Int) (a1 : Int) (a2 : Int) (r : Int) (w : World) (hr0 : Kd.C (Kd.int .i64) w A0 l0.length l0) (hc0 : l0.length ≤ c0) (h : impl_gainsFault.f l0 a1 a2 = some r) :
    Calls Try.prog 158 #[.slice A0 l0.length c0, .int .i64 a1, .int .i64 a2] w fun e w' => e = .returned (.int .i64 r) ∧ Below w.heap.size w w' := by
  unfold impl_gainsFault.f at h
  replace h := Option.bind_eq_some_iff.mp h
  obtain ⟨b, hb, h⟩ := h
  have H9 := Aside0.mk h
  clear h
  have eg : ∀ args w, (callFunc 199 args).run Try.prog w = .ok (.enter 199 args) w := enters_of Try.func199 (by kernel_rfl) rfl
  have HC0 := (contains_calls (gainsP a1 a2) 199 #[.pointer (some ⟨w.heap.size, 0, none⟩), .pointer (some ⟨(w.alloc (.cells #[.int .i64 a1] 2)).heap.size, 0, none⟩)] eg A0 c0 l0 b ((w.alloc (.cells #[.int .i64 a1] 2)).alloc (.cells #[.int .i64 a2] 2))
    (gains_asks a1 a2 _ _ _ (by simp <;> omega) (by simp <;> omega) (by simp) (by simp)) (Kd.C_alloc (Kd.C_alloc hr0 _) _) hc0 hb)
  rw [show (w.alloc (.cells #[.int .i64 a1] 2)).heap.size = w.heap.size + 1 by simp] at HC0
  have HC := Aside0.mk HC0
  clear hr0 hc0 hb eg HC0
  go_enter Try.func158, Try.ntmps158
  go_wp2_with (first | (go_at_call 123; refine HC.out.mono ?_; rintro e w' ⟨rfl, hb⟩; have HB1 := Aside0.mk hb; clear hb) | (go_at_call 99; refine (impl_codeIf.calls b 3 r _ H9.out).mono ?_; rintro e w' ⟨rfl, hd⟩))
  go_ret
  exact ⟨rfl, below_then (((Below.refl _ w).alloc (Nat.le_refl _) _).alloc (by simp <;> omega) _) (by simp <;> omega) (below_step HB1.out (by first | exact hd.below | exact hd))⟩

/-! ### impl_pulsesFor: function 90 -/
def impl_pulsesFor.f (a0 : Int) : Option (Int) := some (wrap64 (8 - (wrap64 (2 * a0))))
set_option maxHeartbeats 8000000 in
set_option maxRecDepth 100000 in
theorem impl_pulsesFor.calls (a0 : Int) (r : Int) (w : World) (h : impl_pulsesFor.f a0 = some r) :
  Calls Try.prog 90 #[.int .i64 a0] w fun e w' => e = .returned (.int .i64 r) ∧ Drawn0 w w' := by
 have H : (some (wrap64 (8 - (wrap64 (2 * a0))))) = some r := h
 clear h
 obtain rfl := Option.some.inj H
 go_enter Try.func90, Try.ntmps90
 go_wp2
 go_ret
 exact dsq

-- NOT PRINTED: function 142 (impl_allWithin_1)

/-! ### impl_allWithin: function 67 -/
/-- The closure: is a number not from -most to most. -/
def notWithinP (m x : Int) : Option Bool := (impl_within.f x m).bind fun b => some (!b)
def impl_allWithin.f (l0 : List Int) (a1 : Int) : Option (Bool) := (anyP (notWithinP a1) l0).bind fun b => some (!b)
theorem notWithin_asks (m : Int) (B : Nat) (w : World) (hB : B < w.heap.size) (hcell : w.cell? ⟨B, 0, none⟩ = some (.int .i64 m)) :
    Asks 142 #[.pointer (some ⟨B, 0, none⟩)] (notWithinP m) w := fun x b W hb hx => by
  have hc : W.cell? ⟨B, 0, none⟩ = some (.int .i64 m) := (hb.cell (p := ⟨B, 0, none⟩) hB).trans hcell
  unfold notWithinP at hx
  replace hx := Option.bind_eq_some_iff.mp hx
  obtain ⟨b1, h1, hx⟩ := hx
  obtain rfl := Option.some.inj hx
  clear hx hcell hb
  have H1 := Aside0.mk h1
  clear h1
  show Calls Try.prog 142 #[.int .i64 x, .pointer (some ⟨B, 0, none⟩)] W _
  go_enter Try.func142, Try.ntmps142
  go_wp2_with (go_at_call 143; refine (impl_within.calls x m b1 _ H1.out).mono ?_; rintro e w' ⟨rfl, hd⟩)
  go_ret
  exact ⟨rfl, hd.below⟩
set_option maxHeartbeats 1000000 in
theorem impl_allWithin.calls (A0 : Option Addr) (c0 : Nat) (l0 : List Int) (a1 : Int) (r : Bool) (w : World) (hr0 : Kd.C (Kd.int .i64) w A0 l0.length l0) (hc0 : l0.length ≤ c0) (h : impl_allWithin.f l0 a1 = some r) :
    Calls Try.prog 67 #[.slice A0 l0.length c0, .int .i64 a1] w fun e w' => e = .returned (.bool r) ∧ Below w.heap.size w w' := by
  unfold impl_allWithin.f at h
  replace h := Option.bind_eq_some_iff.mp h
  obtain ⟨b, hb, h⟩ := h
  obtain rfl := Option.some.inj h
  clear h
  have eg : ∀ args w, (callFunc 142 args).run Try.prog w = .ok (.enter 142 args) w := enters_of Try.func142 (by kernel_rfl) rfl
  have HC := Aside0.mk (contains_calls (notWithinP a1) 142 #[.pointer (some ⟨w.heap.size, 0, none⟩)] eg A0 c0 l0 b (w.alloc (.cells #[.int .i64 a1] 2))
    (notWithin_asks a1 w.heap.size _ (by simp) (by simp)) (Kd.C_alloc hr0 _) hc0 hb)
  clear hr0 hc0 hb eg
  go_enter Try.func67, Try.ntmps67
  go_wp2_with (go_at_call 123; refine HC.out.mono ?_; rintro e w' ⟨rfl, hb⟩)
  go_ret
  exact ⟨rfl, below_then ((Below.refl _ w).alloc (Nat.le_refl _) _) (by simp) hb⟩

/-! ### impl_abs: function 68 -/
def impl_abs.f (a0 : Int) : Option (Int) := some (mx a0 (wrap64 (-a0)))
set_option maxHeartbeats 8000000 in
set_option maxRecDepth 100000 in
theorem impl_abs.calls (a0 : Int) (r : Int) (w : World) (h : impl_abs.f a0 = some r) :
  Calls Try.prog 68 #[.int .i64 a0] w fun e w' => e = .returned (.int .i64 r) ∧ Below w.heap.size w w' := by
 have HB := Aside0.mk (Below.refl w.heap.size w)
 have H : (some (mx a0 (wrap64 (-a0)))) = some r := h
 clear h
 obtain ⟨ji2, hji2⟩ : ∃ j_ : Int, (mx a0 (wrap64 (-a0))) = j_ := ⟨_, rfl⟩
 replace H : (some ji2) = some r := by first | (rw [hji2] at H; exact H) | (simp only [hji2] at H ⊢; exact H)
 have hji2_ : (if a0 < (wrap64 (-a0)) then (wrap64 (-a0)) else a0) = ji2 := hji2
 obtain rfl := Option.some.inj H
 go_enter Try.func68, Try.ntmps68
 go_wp2
 go_ret
 exact ⟨by first | rfl | (simp [errW_none, errW_some] <;> rfl) | (simp only [← hji2]; first | rfl | (simp [errW_none, errW_some] <;> rfl)) | (simp [*, errW_none, errW_some] <;> rfl), bnw⟩

/-! ### impl_normOf: function 115 -/
def impl_normOf.l0 : Nat → Int → List Int → Int → Int → Option (Int)
 | 0, _, _, _, _ => none
 | k + 1, x3, x6, x7, x8 => if x8 < x7 then (if 0 ≤ x8 then (if x8 < (x6.length : Int) then ((impl_abs.f (rd x6 x8)).bind fun t314 => (impl_normOf.l0 k (wrap64 (x3 + t314)) x6 x7 (wrap64 (x8 + 1)))) else (none)) else (none)) else (some x3)
def impl_normOf.f (k : Nat) (l0 : List Int) : Option (Int) := impl_normOf.l0 k 0 l0 (l0.length : Int) 0
theorem impl_normOf.mono_l : ∀ k, (∀ y0 y1 y2 y3, LeO (impl_normOf.l0 k y0 y1 y2 y3) (impl_normOf.l0 (k + 1) y0 y1 y2 y3))
 | 0 => fun _ _ _ _ r h => by simp [impl_normOf.l0] at h
 | k + 1 => by
  have ih0 := impl_normOf.mono_l k
  ·intro y0 y1 y2 y3
   unfold impl_normOf.l0
   repeat' first
   | (with_reducible exact ih0 _ _ _ _)
   | (with_reducible exact LeO.refl _)
   | (with_reducible exact LeO.none _)
   | (with_reducible refine LeO.ite ?_ ?_)
   | (with_reducible refine LeO.bind ?_ (fun _ => ?_))
   | exact ih0 _ _ _ _
   | exact LeO.none _
   | refine LeO.ite ?_ ?_
   | refine LeO.bind ?_ (fun _ => ?_)
theorem impl_normOf.mono : ∀ a0 k, LeO (impl_normOf.f k a0) (impl_normOf.f (k + 1) a0) := by
 intro a0 k
 have ih0 := impl_normOf.mono_l k
 unfold impl_normOf.f
 repeat' first
   | (with_reducible exact ih0 _ _ _ _)
   | (with_reducible exact LeO.refl _)
   | (with_reducible exact LeO.none _)
   | (with_reducible refine LeO.ite ?_ ?_)
   | (with_reducible refine LeO.bind ?_ (fun _ => ?_))
   | exact ih0 _ _ _ _
   | exact LeO.none _
   | refine LeO.ite ?_ ?_
   | refine LeO.bind ?_ (fun _ => ?_)
set_option maxHeartbeats 8000000 in
set_option maxRecDepth 100000 in
theorem impl_normOf.calls (k : Nat) (A0 : Option Addr) (c0 : Nat) (l0 : List Int) (r : Int) (w : World) (hr0 : Kd.C (Kd.int .i64) w A0 l0.length l0) (hc0 : l0.length ≤ c0) (h : impl_normOf.f k l0 = some r) :
  Calls Try.prog 115 #[.slice A0 l0.length c0] w fun e w' => e = .returned (.int .i64 r) ∧ Below w.heap.size w w' := by
 have HR0 := Aside0.mk hr0
 have HC0 := Aside0.mk hc0
 clear hr0 hc0
 have HB := Aside0.mk (Below.refl w.heap.size w)
 have H : (impl_normOf.l0 k 0 l0 (l0.length : Int) 0) = some r := h
 clear h
 have H' := Aside0.mk H
 clear H
 go_enter Try.func115, Try.ntmps115
 go_wp2
 go_loopg [3, 8] k (fun kq v3 v8 w' => ∃ (x3_1 : Int) (x8_1 : Int), v3 = .int .i64 x3_1 ∧ v8 = .int .i64 x8_1 ∧ Aside0 (impl_normOf.l0 kq x3_1 l0 (l0.length : Int) x8_1 = some r) ∧ Aside0 (kq ≤ k) ∧ Aside0 (Below w.heap.size w w'))
 case atStart => exact ⟨(0), (0), rq, rq, H', ⟨Nat.le_refl _⟩, ⟨bnw⟩⟩
 case round =>
  clear H'
  try clear c1
  obtain ⟨x3_1, x8_1, rfl, rfl, HA, HK1, HB⟩ := hrel
  cases gk with
  | zero => exact absurd HA.out (by simp [impl_normOf.l0])
  | succ k1 =>
   have H := HA.out
   clear HA
   simp only [impl_normOf.l0] at H
   by_cases c2 : x8_1 < (l0.length : Int)
   ·rw [if_pos c2] at H
    have c2b0 : decide (x8_1 < (l0.length : Int)) = true := decide_eq_true c2
    clear c2
    by_cases c3 : 0 ≤ x8_1
    ·rw [if_pos c3] at H
     have c3b0 : decide (0 ≤ x8_1) = true := decide_eq_true c3
     clear c3
     by_cases c4 : x8_1 < (l0.length : Int)
     ·rw [if_pos c4] at H
      have c4b0 : decide (x8_1 < (l0.length : Int)) = true := decide_eq_true c4
      clear c4
      replace H := bnd H
      obtain ⟨t314, A5, H⟩ := H
      have H' := Aside0.mk H
      clear H
      have p313 : 0 ≤ (x8_1 : Int) := dta
      have q313 : x8_1 < (l0.length : Int) := dta
      obtain ⟨ad313, e313, hx313_0⟩ := Kd.at_int HR0.out x8_1 p313 q313
      cases e313
      replace hx313_0 := (HB.out.cell (World.block_lt_of_cell? w _ hx313_0)).trans hx313_0
      replace p313 := eq_true p313
      replace q313 := eq_true q313
      go_wp2_with (first | ((with_reducible refine gate_callee (f := 68) rfl ?_); refine gl_ 14 Try.func68 #[.int .i64 (rd l0 x8_1)] ?_; (with_reducible refine (impl_abs.calls (rd l0 x8_1) t314 _ A5.out).mono ?_); rintro e w6 ⟨rfl, hb⟩; refine ⟨_, rfl, ?_⟩; replace HB := hbs hb; (try clear hb)))
      go_roundg k1
      case measure => have := HK1.out; omega
      case rel => exact ⟨(wrap64 (x3_1 + t314)), (wrap64 (x8_1 + 1)), rq, rq, H', ⟨by have := HK1.out; omega⟩, ⟨bnw⟩⟩
     ·rw [if_neg c4] at H
      exact absurd H (by simp)
    ·rw [if_neg c3] at H
     exact absurd H (by simp)
   ·rw [if_neg c2] at H
    have c2b0 : decide (x8_1 < (l0.length : Int)) = false := decide_eq_false c2
    clear c2
    obtain rfl := Option.some.inj H
    go_wp2
    go_ret
    exact ⟨enq, bnw⟩

/-! ### impl_isDim: function 209 -/
def impl_isDim.f (a0 : Int) : Option (Bool) := (impl_inRange.f a0 1 4).bind fun t315 => (some t315)
set_option maxHeartbeats 8000000 in
set_option maxRecDepth 100000 in
theorem impl_isDim.calls (a0 : Int) (r : Bool) (w : World) (h : impl_isDim.f a0 = some r) :
  Calls Try.prog 209 #[.int .i64 a0] w fun e w' => e = .returned (.bool r) ∧ Drawn0 w w' := by
 have H : ((impl_inRange.f a0 1 4).bind fun t315 => (some t315)) = some r := h
 clear h
 replace H := bnd H
 obtain ⟨t315, A2, H⟩ := H
 obtain rfl := Option.some.inj H
 go_enter Try.func209, Try.ntmps209
 go_wp2_with (first | ((with_reducible refine gate_callee (f := 125) rfl ?_); refine gl_ 4 Try.func125 #[.int .i64 a0, .int .i64 1, .int .i64 4] ?_; (with_reducible refine (impl_inRange.calls a0 1 4 t315 _ A2.out).mono ?_); rintro e w' ⟨rfl, ⟨nd, rfl⟩⟩; refine ⟨_, rfl, ?_⟩))
 go_ret
 exact dsq

/-! ### impl_isPulses: function 210 -/
def impl_isPulses.f (a0 : Int) : Option (Bool) := (impl_inRange.f a0 0 8).bind fun t316 => (some t316)
set_option maxHeartbeats 8000000 in
set_option maxRecDepth 100000 in
theorem impl_isPulses.calls (a0 : Int) (r : Bool) (w : World) (h : impl_isPulses.f a0 = some r) :
  Calls Try.prog 210 #[.int .i64 a0] w fun e w' => e = .returned (.bool r) ∧ Drawn0 w w' := by
 have H : ((impl_inRange.f a0 0 8).bind fun t316 => (some t316)) = some r := h
 clear h
 replace H := bnd H
 obtain ⟨t316, A2, H⟩ := H
 obtain rfl := Option.some.inj H
 go_enter Try.func210, Try.ntmps210
 go_wp2_with (first | ((with_reducible refine gate_callee (f := 125) rfl ?_); refine gl_ 4 Try.func125 #[.int .i64 a0, .int .i64 0, .int .i64 8] ?_; (with_reducible refine (impl_inRange.calls a0 0 8 t316 _ A2.out).mono ?_); rintro e w' ⟨rfl, ⟨nd, rfl⟩⟩; refine ⟨_, rfl, ?_⟩))
 go_ret
 exact dsq

/-! ### impl_PulsesFault: function 200 -/
def impl_PulsesFault.f (k : Nat) (l0 : List Int) (a1 : Int) : Option (Int) := (impl_isDim.f (l0.length : Int)).bind fun t317 => ((impl_codeIf.f (!t317) 2).bind fun t318 => ((impl_isPulses.f a1).bind fun t319 => ((impl_codeIf.f (!t319) 3).bind fun t320 => ((impl_allWithin.f l0 8).bind fun t321 => (if t321 = true then ((impl_normOf.f k l0).bind fun t322 => ((impl_codeIf.f (t322 != a1) 1).bind fun t323 => ((impl_first.f k (([t318, t320, t323] : List Int))).bind fun t327 => (some t327)))) else ((impl_codeIf.f true 1).bind fun t328 => ((impl_first.f k (([t318, t320, t328] : List Int))).bind fun t332 => (some t332))))))))
theorem impl_PulsesFault.mono : ∀ a0 a1 k, LeO (impl_PulsesFault.f k a0 a1) (impl_PulsesFault.f (k + 1) a0 a1) := by
 intro a0 a1 k
 unfold impl_PulsesFault.f
 repeat' first
   | (with_reducible exact impl_first.mono _ _)
   | (with_reducible exact impl_normOf.mono _ _)
   | (with_reducible exact LeO.refl _)
   | (with_reducible exact LeO.none _)
   | (with_reducible refine LeO.ite ?_ ?_)
   | (with_reducible refine LeO.bind ?_ (fun _ => ?_))
   | exact impl_first.mono _ _
   | exact impl_normOf.mono _ _
   | exact LeO.none _
   | refine LeO.ite ?_ ?_
   | refine LeO.bind ?_ (fun _ => ?_)
set_option maxHeartbeats 8000000 in
set_option maxRecDepth 100000 in
theorem impl_PulsesFault.calls (k : Nat) (A0 : Option Addr) (c0 : Nat) (l0 : List Int) (a1 : Int) (r : Int) (w : World) (hr0 : Kd.C (Kd.int .i64) w A0 l0.length l0) (hc0 : l0.length ≤ c0) (h : impl_PulsesFault.f k l0 a1 = some r) :
  Calls Try.prog 200 #[.slice A0 l0.length c0, .int .i64 a1] w fun e w' => e = .returned (.int .i64 r) ∧ Below w.heap.size w w' := by
 have HR0 := Aside0.mk hr0
 have HC0 := Aside0.mk hc0
 clear hr0 hc0
 have HB := Aside0.mk (Below.refl w.heap.size w)
 have H : ((impl_isDim.f (l0.length : Int)).bind fun t317 => ((impl_codeIf.f (!t317) 2).bind fun t318 => ((impl_isPulses.f a1).bind fun t319 => ((impl_codeIf.f (!t319) 3).bind fun t320 => ((impl_allWithin.f l0 8).bind fun t321 => (if t321 = true then ((impl_normOf.f k l0).bind fun t322 => ((impl_codeIf.f (t322 != a1) 1).bind fun t323 => ((impl_first.f k (([t318, t320, t323] : List Int))).bind fun t327 => (some t327)))) else ((impl_codeIf.f true 1).bind fun t328 => ((impl_first.f k (([t318, t320, t328] : List Int))).bind fun t332 => (some t332))))))))) = some r := h
 clear h
 replace H := bnd H
 obtain ⟨t317, A3, H⟩ := H
 replace H := bnd H
 obtain ⟨t318, A4, H⟩ := H
 replace H := bnd H
 obtain ⟨t319, A5, H⟩ := H
 replace H := bnd H
 obtain ⟨t320, A6, H⟩ := H
 replace H := bnd H
 obtain ⟨t321, A7, H⟩ := H
 by_cases c8 : t321 = true
 ·subst c8
  replace H : ((impl_normOf.f k l0).bind fun t322 => ((impl_codeIf.f (t322 != a1) 1).bind fun t323 => ((impl_first.f k (([t318, t320, t323] : List Int))).bind fun t327 => (some t327)))) = some r := by rw [if_pos rfl] at H; exact H
  replace H := bnd H
  obtain ⟨t322, A9, H⟩ := H
  replace H := bnd H
  obtain ⟨t323, A10, H⟩ := H
  obtain ⟨y324, hy324⟩ : ∃ y_ : List Int, y_ = (([t318, t320, t323] : List Int)) := ⟨_, rfl⟩
  replace H : ((impl_first.f k y324).bind fun t327 => (some t327)) = some r := by first | (rw [hy324]; with_reducible exact H) | (have H2_ := (Option.bind_some _ _).symm.trans H; rw [hy324]; with_reducible exact H2_) | (have H2_ := (Option.bind_some _ _).symm.trans H; with_reducible exact H2_) | with_reducible exact H | (rw [hy324]; exact H) | exact H
  have Ny324 := Aside0.mk hy324
  clear hy324
  replace H := bnd H
  obtain ⟨t327, A11, H⟩ := H
  obtain rfl := Option.some.inj H
  go_enter Try.func200, Try.ntmps200
  go_wp2_with (first | ((with_reducible refine gate_callee (f := 209) rfl ?_); refine gl_ 7 Try.func209 #[.int .i64 (l0.length : Int)] ?_; (with_reducible refine (impl_isDim.calls (l0.length : Int) t317 _ A3.out).mono ?_); rintro e w' ⟨rfl, ⟨nd, rfl⟩⟩; refine ⟨_, rfl, ?_⟩) | ((with_reducible refine gate_callee (f := 99) rfl ?_); refine gl_ 9 Try.func99 #[.bool (!t317), .int .i64 2] ?_; (with_reducible refine (impl_codeIf.calls (!t317) 2 t318 _ A4.out).mono ?_); rintro e w' ⟨rfl, ⟨nd, rfl⟩⟩; refine ⟨_, rfl, ?_⟩) | ((with_reducible refine gate_callee (f := 210) rfl ?_); refine gl_ 11 Try.func210 #[.int .i64 a1] ?_; (with_reducible refine (impl_isPulses.calls a1 t319 _ A5.out).mono ?_); rintro e w' ⟨rfl, ⟨nd, rfl⟩⟩; refine ⟨_, rfl, ?_⟩) | ((with_reducible refine gate_callee (f := 99) rfl ?_); refine gl_ 13 Try.func99 #[.bool (!t319), .int .i64 3] ?_; (with_reducible refine (impl_codeIf.calls (!t319) 3 t320 _ A6.out).mono ?_); rintro e w' ⟨rfl, ⟨nd, rfl⟩⟩; refine ⟨_, rfl, ?_⟩) | ((with_reducible refine gate_callee (f := 67) rfl ?_); refine gl_ 15 Try.func67 #[.slice A0 l0.length c0, .int .i64 8] ?_; (with_reducible refine (impl_allWithin.calls _ _ l0 8 true _ ?side1 ?side2 A7.out).mono ?_); (case side1 => repeat (first | exact HR0.out | (with_reducible refine Kd.C_alloc ?_ _) | (with_reducible refine Kd.C_drewN ?_ _) | (with_reducible refine Kd.C_drew ?_))); (case side2 => exact HC0.out); rintro e w12 ⟨rfl, hb⟩; refine ⟨_, rfl, ?_⟩; replace HB := hbs hb; (try clear hb)) | (go_at_call 115; (with_reducible refine (impl_normOf.calls k _ _ l0 t322 _ ?_ ?_ A9.out).mono ?_); exact cpl HR0.out; exact HC0.out; rintro e w13 ⟨rfl, hb⟩; replace HB := hbs hb; (try clear hb)) | ((with_reducible refine gate_callee (f := 99) rfl ?_); refine gl_ 23 Try.func99 #[.bool (t322 != a1), .int .i64 1] ?_; (with_reducible refine (impl_codeIf.calls (t322 != a1) 1 t323 _ A10.out).mono ?_); rintro e w' ⟨rfl, ⟨nd, rfl⟩⟩; refine ⟨_, rfl, ?_⟩) | ((with_reducible refine gate_dst (N := 24) rfl ?_); refine Kd.R_lit (Kd.int .i64) _ 2 ?hg (N := 24) ?hd (xs := ([t318, t320, t323] : List Int)) (inner := [.int .i64 t318, .int .i64 t320, .int .i64 t323]) (ok := fun _ => True) (okp := fun _ => True) ?hr ?hp (fun _ hk => hk) trivial (Below.refl _ _) (Nat.le_refl _) (by simp) ?_; (case hd => rfl); (case hg => rfl); (case hr => first | (go_simp; done) | (go_simp; rfl)); (case hp => exact (Reps.one (show Kd.M (Kd.int .i64) _ _ _ t318 [.int .i64 t318] from rfl) (Reps.one (show Kd.M (Kd.int .i64) _ _ _ t320 [.int .i64 t320] from rfl) (Reps.one (show Kd.M (Kd.int .i64) _ _ _ t323 [.int .i64 t323] from rfl) (Reps.none _ _))))); intro v325 w14 ho15 hb hg_ hnew_; clear hg_ hnew_; (first | rw [← Ny324.out] at ho15 | (simp only [Int.reduceToNat] at ho15; rw [← Ny324.out] at ho15)); have HO326 := rlw ho15; replace HB := hbs hb; clear hb ho15; obtain ⟨Ao16, co16, eo16⟩ := Kd.R_slice HO326.out; subst eo16) | ((with_reducible refine gate_callee (f := 98) rfl ?_); refine gl_ 25 Try.func98 #[.slice Ao16 y324.length co16] ?_; (with_reducible refine (impl_first.calls k _ _ y324 t327 _ ?_ ?_ A11.out).mono ?_); exact crd HO326; exact (Kd.R_reads' HO326.out).2.1; rintro e w' ⟨rfl, ⟨nd, rfl⟩⟩; refine ⟨_, rfl, ?_⟩))
  go_ret
  exact ⟨enq, bnw⟩
 ·replace c8 := Bool.eq_false_iff.mpr c8
  subst c8
  replace H : ((impl_codeIf.f true 1).bind fun t328 => ((impl_first.f k (([t318, t320, t328] : List Int))).bind fun t332 => (some t332))) = some r := by rw [if_neg (show ¬ (false = true) by decide)] at H; exact H
  replace H := bnd H
  obtain ⟨t328, A17, H⟩ := H
  obtain ⟨y329, hy329⟩ : ∃ y_ : List Int, y_ = (([t318, t320, t328] : List Int)) := ⟨_, rfl⟩
  replace H : ((impl_first.f k y329).bind fun t332 => (some t332)) = some r := by first | (rw [hy329]; with_reducible exact H) | (have H2_ := (Option.bind_some _ _).symm.trans H; rw [hy329]; with_reducible exact H2_) | (have H2_ := (Option.bind_some _ _).symm.trans H; with_reducible exact H2_) | with_reducible exact H | (rw [hy329]; exact H) | exact H
  have Ny329 := Aside0.mk hy329
  clear hy329
  replace H := bnd H
  obtain ⟨t332, A18, H⟩ := H
  obtain rfl := Option.some.inj H
  go_enter Try.func200, Try.ntmps200
  go_wp2_with (first | ((with_reducible refine gate_callee (f := 209) rfl ?_); refine gl_ 7 Try.func209 #[.int .i64 (l0.length : Int)] ?_; (with_reducible refine (impl_isDim.calls (l0.length : Int) t317 _ A3.out).mono ?_); rintro e w' ⟨rfl, ⟨nd, rfl⟩⟩; refine ⟨_, rfl, ?_⟩) | ((with_reducible refine gate_callee (f := 99) rfl ?_); refine gl_ 9 Try.func99 #[.bool (!t317), .int .i64 2] ?_; (with_reducible refine (impl_codeIf.calls (!t317) 2 t318 _ A4.out).mono ?_); rintro e w' ⟨rfl, ⟨nd, rfl⟩⟩; refine ⟨_, rfl, ?_⟩) | ((with_reducible refine gate_callee (f := 210) rfl ?_); refine gl_ 11 Try.func210 #[.int .i64 a1] ?_; (with_reducible refine (impl_isPulses.calls a1 t319 _ A5.out).mono ?_); rintro e w' ⟨rfl, ⟨nd, rfl⟩⟩; refine ⟨_, rfl, ?_⟩) | ((with_reducible refine gate_callee (f := 99) rfl ?_); refine gl_ 13 Try.func99 #[.bool (!t319), .int .i64 3] ?_; (with_reducible refine (impl_codeIf.calls (!t319) 3 t320 _ A6.out).mono ?_); rintro e w' ⟨rfl, ⟨nd, rfl⟩⟩; refine ⟨_, rfl, ?_⟩) | ((with_reducible refine gate_callee (f := 67) rfl ?_); refine gl_ 15 Try.func67 #[.slice A0 l0.length c0, .int .i64 8] ?_; (with_reducible refine (impl_allWithin.calls _ _ l0 8 false _ ?side1 ?side2 A7.out).mono ?_); (case side1 => repeat (first | exact HR0.out | (with_reducible refine Kd.C_alloc ?_ _) | (with_reducible refine Kd.C_drewN ?_ _) | (with_reducible refine Kd.C_drew ?_))); (case side2 => exact HC0.out); rintro e w19 ⟨rfl, hb⟩; refine ⟨_, rfl, ?_⟩; replace HB := hbs hb; (try clear hb)) | ((with_reducible refine gate_callee (f := 99) rfl ?_); refine gl_ 23 Try.func99 #[.bool true, .int .i64 1] ?_; (with_reducible refine (impl_codeIf.calls true 1 t328 _ A17.out).mono ?_); rintro e w' ⟨rfl, ⟨nd, rfl⟩⟩; refine ⟨_, rfl, ?_⟩) | ((with_reducible refine gate_dst (N := 24) rfl ?_); refine Kd.R_lit (Kd.int .i64) _ 2 ?hg (N := 24) ?hd (xs := ([t318, t320, t328] : List Int)) (inner := [.int .i64 t318, .int .i64 t320, .int .i64 t328]) (ok := fun _ => True) (okp := fun _ => True) ?hr ?hp (fun _ hk => hk) trivial (Below.refl _ _) (Nat.le_refl _) (by simp) ?_; (case hd => rfl); (case hg => rfl); (case hr => first | (go_simp; done) | (go_simp; rfl)); (case hp => exact (Reps.one (show Kd.M (Kd.int .i64) _ _ _ t318 [.int .i64 t318] from rfl) (Reps.one (show Kd.M (Kd.int .i64) _ _ _ t320 [.int .i64 t320] from rfl) (Reps.one (show Kd.M (Kd.int .i64) _ _ _ t328 [.int .i64 t328] from rfl) (Reps.none _ _))))); intro v330 w20 ho21 hb hg_ hnew_; clear hg_ hnew_; (first | rw [← Ny329.out] at ho21 | (simp only [Int.reduceToNat] at ho21; rw [← Ny329.out] at ho21)); have HO331 := rlw ho21; replace HB := hbs hb; clear hb ho21; obtain ⟨Ao22, co22, eo22⟩ := Kd.R_slice HO331.out; subst eo22) | ((with_reducible refine gate_callee (f := 98) rfl ?_); refine gl_ 25 Try.func98 #[.slice Ao22 y329.length co22] ?_; (with_reducible refine (impl_first.calls k _ _ y329 t332 _ ?_ ?_ A18.out).mono ?_); exact crd HO331; exact (Kd.R_reads' HO331.out).2.1; rintro e w' ⟨rfl, ⟨nd, rfl⟩⟩; refine ⟨_, rfl, ?_⟩))
  go_ret
  exact ⟨enq, bnw⟩

/-! ### impl_bandFault: function 159 -/
def impl_bandFault.f (k : Nat) (a0_0 : Int) (a0_1 : Int) (l1 : List Int) (a2 : Int) : Option (Int) := (impl_codeIf.f ((l1.length : Int) != a0_1) 2).bind fun t334 => ((impl_pulsesFor.f a2).bind fun t335 => ((impl_PulsesFault.f k l1 t335).bind fun t336 => ((impl_first.f k (([t334, t336] : List Int))).bind fun t340 => (some t340))))
theorem impl_bandFault.mono : ∀ a0 a1 a2 a3 k, LeO (impl_bandFault.f k a0 a1 a2 a3) (impl_bandFault.f (k + 1) a0 a1 a2 a3) := by
 intro a0 a1 a2 a3 k
 unfold impl_bandFault.f
 repeat' first
   | (with_reducible exact impl_PulsesFault.mono _ _ _)
   | (with_reducible exact impl_first.mono _ _)
   | (with_reducible exact LeO.refl _)
   | (with_reducible exact LeO.none _)
   | (with_reducible refine LeO.ite ?_ ?_)
   | (with_reducible refine LeO.bind ?_ (fun _ => ?_))
   | exact impl_PulsesFault.mono _ _ _
   | exact impl_first.mono _ _
   | exact LeO.none _
   | refine LeO.ite ?_ ?_
   | refine LeO.bind ?_ (fun _ => ?_)
set_option maxHeartbeats 8000000 in
set_option maxRecDepth 100000 in
theorem impl_bandFault.calls (k : Nat) (a0_0 : Int) (a0_1 : Int) (A1 : Option Addr) (c1 : Nat) (l1 : List Int) (a2 : Int) (r : Int) (w : World) (hr1 : Kd.C (Kd.int .i64) w A1 l1.length l1) (hc1 : l1.length ≤ c1) (h : impl_bandFault.f k a0_0 a0_1 l1 a2 = some r) :
  Calls Try.prog 159 #[.agg #[.int .i64 a0_0, .int .i64 a0_1], .slice A1 l1.length c1, .int .i64 a2] w fun e w' => e = .returned (.int .i64 r) ∧ Below w.heap.size w w' := by
 have hu93 := Try.underlying93
 have HR1 := Aside0.mk hr1
 have HC1 := Aside0.mk hc1
 clear hr1 hc1
 have HB := Aside0.mk (Below.refl w.heap.size w)
 have H : ((impl_codeIf.f ((l1.length : Int) != a0_1) 2).bind fun t334 => ((impl_pulsesFor.f a2).bind fun t335 => ((impl_PulsesFault.f k l1 t335).bind fun t336 => ((impl_first.f k (([t334, t336] : List Int))).bind fun t340 => (some t340))))) = some r := h
 clear h
 replace H := bnd H
 obtain ⟨t334, A4, H⟩ := H
 replace H := bnd H
 obtain ⟨t335, A5, H⟩ := H
 replace H := bnd H
 obtain ⟨t336, A6, H⟩ := H
 obtain ⟨y337, hy337⟩ : ∃ y_ : List Int, y_ = (([t334, t336] : List Int)) := ⟨_, rfl⟩
 replace H : ((impl_first.f k y337).bind fun t340 => (some t340)) = some r := by first | (rw [hy337]; with_reducible exact H) | (have H2_ := (Option.bind_some _ _).symm.trans H; rw [hy337]; with_reducible exact H2_) | (have H2_ := (Option.bind_some _ _).symm.trans H; with_reducible exact H2_) | with_reducible exact H | (rw [hy337]; exact H) | exact H
 have Ny337 := Aside0.mk hy337
 clear hy337
 replace H := bnd H
 obtain ⟨t340, A7, H⟩ := H
 obtain rfl := Option.some.inj H
 go_enter Try.func159, Try.ntmps159
 go_wp2_with (first | ((with_reducible refine gate_dst (N := 3) rfl ?_); refine bev 3 93 #[.int .i64 a0_0, .int .i64 a0_1] ?_; intro gb333 hg w8 hbox hb; have BK333 := am hbox; have GW333 := gwe hg; have GE333 := gwe hg; replace HB := hbs hb; clear hb hbox hg; obtain ⟨hcz9_0, hcz9_1, hfz9_0, hfz9_1⟩ := cf2 (W := w8) BK333.out) | ((with_reducible refine gate_callee (f := 99) rfl ?_); refine gl_ 12 Try.func99 #[.bool ((l1.length : Int) != a0_1), .int .i64 2] ?_; (with_reducible refine (impl_codeIf.calls ((l1.length : Int) != a0_1) 2 t334 _ A4.out).mono ?_); rintro e w' ⟨rfl, ⟨nd, rfl⟩⟩; refine ⟨_, rfl, ?_⟩) | ((with_reducible refine gate_callee (f := 90) rfl ?_); refine gl_ 15 Try.func90 #[.int .i64 a2] ?_; (with_reducible refine (impl_pulsesFor.calls a2 t335 _ A5.out).mono ?_); rintro e w' ⟨rfl, ⟨nd, rfl⟩⟩; refine ⟨_, rfl, ?_⟩) | ((with_reducible refine gate_callee (f := 200) rfl ?_); refine gl_ 16 Try.func200 #[.slice A1 l1.length c1, .int .i64 t335] ?_; (with_reducible refine (impl_PulsesFault.calls k _ _ l1 t335 t336 _ ?side1 ?side2 A6.out).mono ?_); (case side1 => repeat (first | exact (Kd.C_below HR1.out bnx) | (with_reducible refine Kd.C_alloc ?_ _) | (with_reducible refine Kd.C_drewN ?_ _) | (with_reducible refine Kd.C_drew ?_))); (case side2 => exact HC1.out); rintro e w10 ⟨rfl, hb⟩; refine ⟨_, rfl, ?_⟩; replace BK333 := bkb BK333 hb; replace HB := hbs hb; (try clear hb)) | ((with_reducible refine gate_dst (N := 17) rfl ?_); refine Kd.R_lit (Kd.int .i64) _ 2 ?hg (N := 17) ?hd (xs := ([t334, t336] : List Int)) (inner := [.int .i64 t334, .int .i64 t336]) (ok := fun _ => True) (okp := fun _ => True) ?hr ?hp (fun _ hk => hk) trivial (Below.refl _ _) (Nat.le_refl _) (by simp) ?_; (case hd => rfl); (case hg => rfl); (case hr => first | (go_simp; done) | (go_simp; rfl)); (case hp => exact (Reps.one (show Kd.M (Kd.int .i64) _ _ _ t334 [.int .i64 t334] from rfl) (Reps.one (show Kd.M (Kd.int .i64) _ _ _ t336 [.int .i64 t336] from rfl) (Reps.none _ _)))); intro v338 w11 ho12 hb hg_ hnew_; clear hg_ hnew_; (first | rw [← Ny337.out] at ho12 | (simp only [Int.reduceToNat] at ho12; rw [← Ny337.out] at ho12)); have HO339 := rlw ho12; replace BK333 := bkb BK333 hb; replace HB := hbs hb; clear hb ho12; obtain ⟨Ao13, co13, eo13⟩ := Kd.R_slice HO339.out; subst eo13) | ((with_reducible refine gate_callee (f := 98) rfl ?_); refine gl_ 18 Try.func98 #[.slice Ao13 y337.length co13] ?_; (with_reducible refine (impl_first.calls k _ _ y337 t340 _ ?_ ?_ A7.out).mono ?_); exact crd HO339; exact (Kd.R_reads' HO339.out).2.1; rintro e w' ⟨rfl, ⟨nd, rfl⟩⟩; refine ⟨_, rfl, ?_⟩))
 go_ret
 exact ⟨enq, bnx⟩

/-! ### impl_FrameFault_1_any: function 154 -/
/-- The closure: is a low out of its range. -/
def frameP (rung x : Int) : Option Bool := (impl_isIndexOf.f x).bind fun b => if b = true then ((impl_Restore.f x rung).bind fun p => some (!decide (p.1 = 0))) else some true
def impl_FrameFault_1_any.f (l0 : List Int) (a1 : Int) : Option Bool := anyP (frameP a1) l0
set_option maxHeartbeats 2000000 in
theorem frame_asks (rung : Int) (B t : Nat) (cs : Array Value) (w : World) (hb0 : w.heap[B]? = some (.cells cs t (0, 0))) (hcs : cs[2]? = some (.int .i64 rung)) : Asks 154 #[.pointer (some ⟨B, 0, none⟩)] (frameP rung) w := fun x b W hb hx => by
  have hW := Aside0.mk (blk_below hb0 hb)
  have hS := Aside0.mk hcs
  unfold frameP at hx
  replace hx := Option.bind_eq_some_iff.mp hx
  obtain ⟨b1, h1, hx⟩ := hx
  have H1 := Aside0.mk h1
  clear h1 hb0 hcs hb
  show Calls Try.prog 154 #[.int .i64 x, .pointer (some ⟨B, 0, none⟩)] W _
  have hfd : ∀ (x0 x1 : Int) (W : World), (Instr.field 129 (.agg #[.int .i64 x0, .int .i64 x1]) 0).run Try.prog W = .ok (.int .i64 x0) W := fun _ _ _ => by kernel_rfl
  cases b1 with
  | true =>
    rw [if_pos rfl] at hx
    replace hx := Option.bind_eq_some_iff.mp hx
    obtain ⟨⟨p1, p2⟩, h2, hx⟩ := hx
    have H2 := Aside0.mk h2
    obtain rfl := Option.some.inj hx
    clear h2 hx
    go_enter Try.func154, Try.ntmps154
    go_wp2_with (first | (go_at_call 155; refine (impl_isIndexOf.calls x true _ H1.out).mono ?_; rintro e w' ⟨rfl, hd⟩; have hq1 := Aside0.mk hd; have hc : w'.cell? ⟨B, 2, none⟩ = some (.int .i64 rung) := (blk_cell (blk_below hW.out hd.below) 2).trans hS.out; clear hd) | (go_at_call 156; refine (impl_Restore.calls x rung p1 p2 _ H2.out).mono ?_; rintro e w' ⟨rfl, hd⟩))
    go_ret
    exact ⟨by first | rfl | simp_all, below_step hq1.out.below hd⟩
  | false =>
    rw [if_neg (by simp)] at hx
    obtain rfl := Option.some.inj hx
    clear hx
    go_enter Try.func154, Try.ntmps154
    go_wp2_with (go_at_call 155; refine (impl_isIndexOf.calls x false _ H1.out).mono ?_; rintro e w' ⟨rfl, hd⟩)
    go_ret
    exact ⟨by first | rfl | simp_all, hd.below⟩
theorem impl_FrameFault_1_any.calls {B : Nat} (A0 : Option Addr) (c0 : Nat) (l0 : List Int) (a1 : Int) (r : Bool) (w : World) (hbx : Aside0 (∃ (t : Nat) (cs : Array Value), w.heap[B]? = some (.cells cs t (0, 0)) ∧ cs[2]? = some (.int .i64 a1))) (hr0 : Kd.C (Kd.int .i64) w A0 l0.length l0) (hc0 : l0.length ≤ c0) (h : impl_FrameFault_1_any.f l0 a1 = some r) :
    Calls Try.prog 123 #[.slice A0 l0.length c0, .func (.func 154) #[] #[.pointer (some ⟨B, 0, none⟩)]] w fun e w' => e = .returned (.bool r) ∧ Below w.heap.size w w' :=
  match hbx.out with | ⟨t, cs, hb, hcs⟩ => contains_calls (frameP a1) 154 #[.pointer (some ⟨B, 0, none⟩)] (enters_of Try.func154 (by kernel_rfl) rfl) A0 c0 l0 r w (frame_asks a1 B t cs w hb hcs) hr0 hc0 h

end Go.Proofs.Ythehhncokikgcaa.PFnExactMakeFrame
