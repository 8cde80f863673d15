-- Contracts of the functions that the law reaches, written by wip/xprint.py of this repo.
import Derived.Test.YtoepnammegcjeaaPFnExactReadHeadx0
import Derived.Test.YtoepnammegcjeaaPFnExactReadHeadx1
import Derived.Test.YtoepnammegcjeaaPFnExactReadHeadx2
namespace Go.Proofs.Ytoepnammegcjeaa.PFnExactReadHead
open Go.RowKit Go.Proofs.YtoepnammegcjeaaW.PrintWords Go.Proofs.YtoepnammegcjeaaW.PrintLast Go.Proofs.YtoepnammegcjeaaW.PrintMore
attribute [local go_sem] max2_int min2_int max_two min_two max_three min_three max_four min_four   -- for this text's walks alone
set_option linter.unusedVariables false
set_option linter.unusedSimpArgs false

/-! ### spec_ReadHead: function 38 -/
def spec_ReadHead.f (k : Nat) (l0 : List Int) : Option (Int × Int × Int × Int × Int × Int × Bool) := (spec_OpenBytes.f k l0).bind fun bt128 => (if bt128.1 = 0 then (if (bt128.2.length : Int) < 3 then (some (5, 0, 0, 0, 0, 0, false)) else (if 2 < (bt128.2.length : Int) then (if 0 < (bt128.2.length : Int) then (if 1 < (bt128.2.length : Int) then (if (wrap64 (Int.tdiv (wrap64 (rd bt128.2 2)) 64)) = 0 then (if (wrap64 ((wrap64 ((wrap64 (rd bt128.2 0)) * 256)) + (wrap64 (rd bt128.2 1)))) > 9999 then (some (5, 0, 0, 0, 0, 0, false)) else (if (Int.tmod (wrap64 (Int.tdiv (wrap64 (rd bt128.2 2)) 4)) 4) > 2 then (some (5, 0, 0, 0, 0, 0, false)) else (if 4 = 0 then (some (5, 0, 0, 0, 0, 0, false)) else (some (0, wrap64 ((wrap64 ((wrap64 (rd bt128.2 0)) * 256)) + (wrap64 (rd bt128.2 1))), 4, Int.tmod (wrap64 (rd bt128.2 2)) 2, Int.tmod (wrap64 (Int.tdiv (wrap64 (rd bt128.2 2)) 4)) 4, Int.tmod (wrap64 (Int.tdiv (wrap64 (rd bt128.2 2)) 16)) 4, ((Int.tmod (wrap64 (Int.tdiv (wrap64 (rd bt128.2 2)) 2)) 2) == 1)))))) else (if (wrap64 (Int.tdiv (wrap64 (rd bt128.2 2)) 64)) = 1 then (if (wrap64 ((wrap64 ((wrap64 (rd bt128.2 0)) * 256)) + (wrap64 (rd bt128.2 1)))) > 9999 then (some (5, 0, 0, 0, 0, 0, false)) else (if (Int.tmod (wrap64 (Int.tdiv (wrap64 (rd bt128.2 2)) 4)) 4) > 2 then (some (5, 0, 0, 0, 0, 0, false)) else (if 8 = 0 then (some (5, 0, 0, 0, 0, 0, false)) else (some (0, wrap64 ((wrap64 ((wrap64 (rd bt128.2 0)) * 256)) + (wrap64 (rd bt128.2 1))), 8, Int.tmod (wrap64 (rd bt128.2 2)) 2, Int.tmod (wrap64 (Int.tdiv (wrap64 (rd bt128.2 2)) 4)) 4, Int.tmod (wrap64 (Int.tdiv (wrap64 (rd bt128.2 2)) 16)) 4, ((Int.tmod (wrap64 (Int.tdiv (wrap64 (rd bt128.2 2)) 2)) 2) == 1)))))) else (if (wrap64 (Int.tdiv (wrap64 (rd bt128.2 2)) 64)) = 2 then (if (wrap64 ((wrap64 ((wrap64 (rd bt128.2 0)) * 256)) + (wrap64 (rd bt128.2 1)))) > 9999 then (some (5, 0, 0, 0, 0, 0, false)) else (if (Int.tmod (wrap64 (Int.tdiv (wrap64 (rd bt128.2 2)) 4)) 4) > 2 then (some (5, 0, 0, 0, 0, 0, false)) else (if 16 = 0 then (some (5, 0, 0, 0, 0, 0, false)) else (some (0, wrap64 ((wrap64 ((wrap64 (rd bt128.2 0)) * 256)) + (wrap64 (rd bt128.2 1))), 16, Int.tmod (wrap64 (rd bt128.2 2)) 2, Int.tmod (wrap64 (Int.tdiv (wrap64 (rd bt128.2 2)) 4)) 4, Int.tmod (wrap64 (Int.tdiv (wrap64 (rd bt128.2 2)) 16)) 4, ((Int.tmod (wrap64 (Int.tdiv (wrap64 (rd bt128.2 2)) 2)) 2) == 1)))))) else (if (wrap64 ((wrap64 ((wrap64 (rd bt128.2 0)) * 256)) + (wrap64 (rd bt128.2 1)))) > 9999 then (some (5, 0, 0, 0, 0, 0, false)) else (if (Int.tmod (wrap64 (Int.tdiv (wrap64 (rd bt128.2 2)) 4)) 4) > 2 then (some (5, 0, 0, 0, 0, 0, false)) else (if 0 = 0 then (some (5, 0, 0, 0, 0, 0, false)) else (some (0, wrap64 ((wrap64 ((wrap64 (rd bt128.2 0)) * 256)) + (wrap64 (rd bt128.2 1))), 0, Int.tmod (wrap64 (rd bt128.2 2)) 2, Int.tmod (wrap64 (Int.tdiv (wrap64 (rd bt128.2 2)) 4)) 4, Int.tmod (wrap64 (Int.tdiv (wrap64 (rd bt128.2 2)) 16)) 4, ((Int.tmod (wrap64 (Int.tdiv (wrap64 (rd bt128.2 2)) 2)) 2) == 1))))))))) else (none)) else (none)) else (none))) else (some (bt128.1, 0, 0, 0, 0, 0, false)))
theorem spec_ReadHead.mono : ∀ a0 k, LeO (spec_ReadHead.f k a0) (spec_ReadHead.f (k + 1) a0) := by
 intro a0 k
 unfold spec_ReadHead.f
 repeat' first
   | (with_reducible exact spec_OpenBytes.mono _ _)
   | (with_reducible exact LeO.refl _)
   | (with_reducible exact LeO.none _)
   | (with_reducible refine LeO.ite ?_ ?_)
   | (with_reducible refine LeO.bind ?_ (fun _ => ?_))
   | exact spec_OpenBytes.mono _ _
   | exact LeO.none _
   | refine LeO.ite ?_ ?_
   | refine LeO.bind ?_ (fun _ => ?_)
def spec_ReadHead.T8 : Bool × List (List Nat × List Nat) := (true, [([], []), ([0], [0]), ([1], [1]), ([2], [2]), ([3], [3]), ([], []), ([5], [5]), ([6], [6]), ([7], [7]), ([4, 8], [4, 8]), ([], []), ([10], [10]), ([], []), ([12], [12]), ([13], [13]), ([14], [14]), ([], []), ([16], [16]), ([17], [17]), ([], []), ([19], [19]), ([20], [20]), ([9, 11, 15, 18, 21], [9, 11, 15, 18, 21]), ([], []), ([23, 22, 0, 1, 2, 3, 4, 5, 6, 7, 8, 9, 10, 11, 12, 13, 14, 15, 16, 17, 18, 19, 20, 21, 22, 23], [22, 23])])
def spec_ReadHead.B8 : List Nat := [0, 1, 3, 7, 15, 0, 32, 96, 224, 511, 0, 1024, 0, 4096, 12288, 28672, 0, 65536, 196608, 0, 524288, 1572864, 4194303, 0, 16777215]
theorem spec_ReadHead.tab8 : rtab .any (opsOf Try.f38 8) = spec_ReadHead.T8 := by kernel_rfl
theorem spec_ReadHead.bits8 : waitsOk spec_ReadHead.T8.2 spec_ReadHead.B8 = true := by kernel_rfl
set_option maxHeartbeats 60000000 in
set_option maxRecDepth 100000 in
theorem spec_ReadHead.calls (k : Nat) (A0 : Option Addr) (c0 : Nat) (l0 : List Int) (r1 : Int) (r2 : Int) (r3 : Int) (r4 : Int) (r5 : Int) (r6 : Int) (r7 : Bool) (w : World) (hr0 : Kd.C (Kd.int .u8) w A0 l0.length l0) (hc0 : l0.length ≤ c0) (h : spec_ReadHead.f k l0 = some (r1, r2, r3, r4, r5, r6, r7)) :
  Calls Try.prog 38 #[.slice A0 l0.length c0] w fun e w' => e = .returned (.agg #[.int .i64 r1, .int .i64 r2, .int .i64 r3, .int .i64 r4, .int .i64 r5, .int .i64 r6, .bool r7]) ∧ Below w.heap.size w w' := by
 have hu51 := Try.underlying51
 have hu108 := Try.underlying108
 have hu49 := Try.underlying49
 have HR0 := Aside0.mk hr0
 have HC0 := Aside0.mk hc0
 clear hr0 hc0
 have HB := Aside0.mk (Below.refl w.heap.size w)
 have H : ((spec_OpenBytes.f k l0).bind fun bt128 => (if bt128.1 = 0 then (if (bt128.2.length : Int) < 3 then (some (5, 0, 0, 0, 0, 0, false)) else (if 2 < (bt128.2.length : Int) then (if 0 < (bt128.2.length : Int) then (if 1 < (bt128.2.length : Int) then (if (wrap64 (Int.tdiv (wrap64 (rd bt128.2 2)) 64)) = 0 then (if (wrap64 ((wrap64 ((wrap64 (rd bt128.2 0)) * 256)) + (wrap64 (rd bt128.2 1)))) > 9999 then (some (5, 0, 0, 0, 0, 0, false)) else (if (Int.tmod (wrap64 (Int.tdiv (wrap64 (rd bt128.2 2)) 4)) 4) > 2 then (some (5, 0, 0, 0, 0, 0, false)) else (if 4 = 0 then (some (5, 0, 0, 0, 0, 0, false)) else (some (0, wrap64 ((wrap64 ((wrap64 (rd bt128.2 0)) * 256)) + (wrap64 (rd bt128.2 1))), 4, Int.tmod (wrap64 (rd bt128.2 2)) 2, Int.tmod (wrap64 (Int.tdiv (wrap64 (rd bt128.2 2)) 4)) 4, Int.tmod (wrap64 (Int.tdiv (wrap64 (rd bt128.2 2)) 16)) 4, ((Int.tmod (wrap64 (Int.tdiv (wrap64 (rd bt128.2 2)) 2)) 2) == 1)))))) else (if (wrap64 (Int.tdiv (wrap64 (rd bt128.2 2)) 64)) = 1 then (if (wrap64 ((wrap64 ((wrap64 (rd bt128.2 0)) * 256)) + (wrap64 (rd bt128.2 1)))) > 9999 then (some (5, 0, 0, 0, 0, 0, false)) else (if (Int.tmod (wrap64 (Int.tdiv (wrap64 (rd bt128.2 2)) 4)) 4) > 2 then (some (5, 0, 0, 0, 0, 0, false)) else (if 8 = 0 then (some (5, 0, 0, 0, 0, 0, false)) else (some (0, wrap64 ((wrap64 ((wrap64 (rd bt128.2 0)) * 256)) + (wrap64 (rd bt128.2 1))), 8, Int.tmod (wrap64 (rd bt128.2 2)) 2, Int.tmod (wrap64 (Int.tdiv (wrap64 (rd bt128.2 2)) 4)) 4, Int.tmod (wrap64 (Int.tdiv (wrap64 (rd bt128.2 2)) 16)) 4, ((Int.tmod (wrap64 (Int.tdiv (wrap64 (rd bt128.2 2)) 2)) 2) == 1)))))) else (if (wrap64 (Int.tdiv (wrap64 (rd bt128.2 2)) 64)) = 2 then (if (wrap64 ((wrap64 ((wrap64 (rd bt128.2 0)) * 256)) + (wrap64 (rd bt128.2 1)))) > 9999 then (some (5, 0, 0, 0, 0, 0, false)) else (if (Int.tmod (wrap64 (Int.tdiv (wrap64 (rd bt128.2 2)) 4)) 4) > 2 then (some (5, 0, 0, 0, 0, 0, false)) else (if 16 = 0 then (some (5, 0, 0, 0, 0, 0, false)) else (some (0, wrap64 ((wrap64 ((wrap64 (rd bt128.2 0)) * 256)) + (wrap64 (rd bt128.2 1))), 16, Int.tmod (wrap64 (rd bt128.2 2)) 2, Int.tmod (wrap64 (Int.tdiv (wrap64 (rd bt128.2 2)) 4)) 4, Int.tmod (wrap64 (Int.tdiv (wrap64 (rd bt128.2 2)) 16)) 4, ((Int.tmod (wrap64 (Int.tdiv (wrap64 (rd bt128.2 2)) 2)) 2) == 1)))))) else (if (wrap64 ((wrap64 ((wrap64 (rd bt128.2 0)) * 256)) + (wrap64 (rd bt128.2 1)))) > 9999 then (some (5, 0, 0, 0, 0, 0, false)) else (if (Int.tmod (wrap64 (Int.tdiv (wrap64 (rd bt128.2 2)) 4)) 4) > 2 then (some (5, 0, 0, 0, 0, 0, false)) else (if 0 = 0 then (some (5, 0, 0, 0, 0, 0, false)) else (some (0, wrap64 ((wrap64 ((wrap64 (rd bt128.2 0)) * 256)) + (wrap64 (rd bt128.2 1))), 0, Int.tmod (wrap64 (rd bt128.2 2)) 2, Int.tmod (wrap64 (Int.tdiv (wrap64 (rd bt128.2 2)) 4)) 4, Int.tmod (wrap64 (Int.tdiv (wrap64 (rd bt128.2 2)) 16)) 4, ((Int.tmod (wrap64 (Int.tdiv (wrap64 (rd bt128.2 2)) 2)) 2) == 1))))))))) else (none)) else (none)) else (none))) else (some (bt128.1, 0, 0, 0, 0, 0, false)))) = some (r1, r2, r3, r4, r5, r6, r7) := h
 clear h
 replace H := bnd H
 obtain ⟨⟨t128, t129⟩, A2, H⟩ := H
 replace H : (if t128 = 0 then (if (t129.length : Int) < 3 then (some (5, 0, 0, 0, 0, 0, false)) else (if 2 < (t129.length : Int) then (if 0 < (t129.length : Int) then (if 1 < (t129.length : Int) then (if (wrap64 (Int.tdiv (wrap64 (rd t129 2)) 64)) = 0 then (if (wrap64 ((wrap64 ((wrap64 (rd t129 0)) * 256)) + (wrap64 (rd t129 1)))) > 9999 then (some (5, 0, 0, 0, 0, 0, false)) else (if (Int.tmod (wrap64 (Int.tdiv (wrap64 (rd t129 2)) 4)) 4) > 2 then (some (5, 0, 0, 0, 0, 0, false)) else (if 4 = 0 then (some (5, 0, 0, 0, 0, 0, false)) else (some (0, wrap64 ((wrap64 ((wrap64 (rd t129 0)) * 256)) + (wrap64 (rd t129 1))), 4, Int.tmod (wrap64 (rd t129 2)) 2, Int.tmod (wrap64 (Int.tdiv (wrap64 (rd t129 2)) 4)) 4, Int.tmod (wrap64 (Int.tdiv (wrap64 (rd t129 2)) 16)) 4, ((Int.tmod (wrap64 (Int.tdiv (wrap64 (rd t129 2)) 2)) 2) == 1)))))) else (if (wrap64 (Int.tdiv (wrap64 (rd t129 2)) 64)) = 1 then (if (wrap64 ((wrap64 ((wrap64 (rd t129 0)) * 256)) + (wrap64 (rd t129 1)))) > 9999 then (some (5, 0, 0, 0, 0, 0, false)) else (if (Int.tmod (wrap64 (Int.tdiv (wrap64 (rd t129 2)) 4)) 4) > 2 then (some (5, 0, 0, 0, 0, 0, false)) else (if 8 = 0 then (some (5, 0, 0, 0, 0, 0, false)) else (some (0, wrap64 ((wrap64 ((wrap64 (rd t129 0)) * 256)) + (wrap64 (rd t129 1))), 8, Int.tmod (wrap64 (rd t129 2)) 2, Int.tmod (wrap64 (Int.tdiv (wrap64 (rd t129 2)) 4)) 4, Int.tmod (wrap64 (Int.tdiv (wrap64 (rd t129 2)) 16)) 4, ((Int.tmod (wrap64 (Int.tdiv (wrap64 (rd t129 2)) 2)) 2) == 1)))))) else (if (wrap64 (Int.tdiv (wrap64 (rd t129 2)) 64)) = 2 then (if (wrap64 ((wrap64 ((wrap64 (rd t129 0)) * 256)) + (wrap64 (rd t129 1)))) > 9999 then (some (5, 0, 0, 0, 0, 0, false)) else (if (Int.tmod (wrap64 (Int.tdiv (wrap64 (rd t129 2)) 4)) 4) > 2 then (some (5, 0, 0, 0, 0, 0, false)) else (if 16 = 0 then (some (5, 0, 0, 0, 0, 0, false)) else (some (0, wrap64 ((wrap64 ((wrap64 (rd t129 0)) * 256)) + (wrap64 (rd t129 1))), 16, Int.tmod (wrap64 (rd t129 2)) 2, Int.tmod (wrap64 (Int.tdiv (wrap64 (rd t129 2)) 4)) 4, Int.tmod (wrap64 (Int.tdiv (wrap64 (rd t129 2)) 16)) 4, ((Int.tmod (wrap64 (Int.tdiv (wrap64 (rd t129 2)) 2)) 2) == 1)))))) else (if (wrap64 ((wrap64 ((wrap64 (rd t129 0)) * 256)) + (wrap64 (rd t129 1)))) > 9999 then (some (5, 0, 0, 0, 0, 0, false)) else (if (Int.tmod (wrap64 (Int.tdiv (wrap64 (rd t129 2)) 4)) 4) > 2 then (some (5, 0, 0, 0, 0, 0, false)) else (if 0 = 0 then (some (5, 0, 0, 0, 0, 0, false)) else (some (0, wrap64 ((wrap64 ((wrap64 (rd t129 0)) * 256)) + (wrap64 (rd t129 1))), 0, Int.tmod (wrap64 (rd t129 2)) 2, Int.tmod (wrap64 (Int.tdiv (wrap64 (rd t129 2)) 4)) 4, Int.tmod (wrap64 (Int.tdiv (wrap64 (rd t129 2)) 16)) 4, ((Int.tmod (wrap64 (Int.tdiv (wrap64 (rd t129 2)) 2)) 2) == 1))))))))) else (none)) else (none)) else (none))) else (some (t128, 0, 0, 0, 0, 0, false))) = some (r1, r2, r3, r4, r5, r6, r7) := H
 by_cases c3 : t128 = 0
 ·rw [if_pos c3] at H
  have c3b0 : (t128 == 0) = true := beq_iff_eq.mpr c3
  have c3b1 : (t128 != 0) = false := bne_eq_false_iff_eq.mpr c3
  clear c3
  by_cases c4 : (t129.length : Int) < 3
  ·rw [if_pos c4] at H
   have c4b0 : decide ((t129.length : Int) < 3) = true := decide_eq_true c4
   have c4b1 : decide (t129.length < 3) = true := decide_eq_true (by omega)
   clear c4
   simp only [Option.some.injEq, Prod.mk.injEq] at H
   obtain ⟨rfl, rfl, rfl, rfl, rfl, rfl, rfl⟩ := H
   go_enter Try.func38, Try.ntmps38
   go_wp2_with (first | ((with_reducible refine gate_dst (N := 2) rfl ?_); refine bev 2 51 #[.int .i64 0, .int .i64 0, .int .i64 0, .int .i64 0, .int .i64 0, .int .i64 0, .bool false] ?_; intro gb127 hg w5 hbox hb; have BK127 := am hbox; have GW127 := gwe hg; have GE127 := gwe hg; replace HB := hbs hb; clear hb hbox hg) | ((with_reducible refine gate_callee (f := 102) rfl ?_); refine gl_ 8 Try.func102 #[.slice A0 l0.length c0] ?_; (with_reducible refine (spec_OpenBytes.calls k _ _ l0 t128 t129 _ ?_ ?_ A2.out).mono ?_); exact cpl HR0.out; exact HC0.out; rintro e w6 ⟨v130, rfl, ho0, hb⟩; refine ⟨_, rfl, ?_⟩; have HO131 := rlw ho0; replace BK127 := bkb BK127 hb; replace HB := hbs hb; (try clear hb); (try clear ho0)) | ((with_reducible refine gate_dst (N := 3) rfl ?_); refine bev 3 108 #[.int .i64 0, .slice none 0 0] ?_; intro gb132 hg w7 hbox hb; replace HO131 := rbl HO131 hb; have BK132 := am hbox; have GW132 := gwe hg; have GE132 := gwe hg; replace HB := hbs hb; have NB127_132 := nbl hg BK127; have NB132_127 := nbg hg BK127; replace BK127 := bkb BK127 hb; clear hb hbox hg; have hnb8 := NB132_127.out; have hnc8 := NB127_132.out; obtain ⟨hcz9_0, hcz9_1, hfz9_0, hfz9_1⟩ := cf2 (W := w7) BK132.out; obtain ⟨Ao10, co10, eo10⟩ := Kd.R_slice HO131.out; subst eo10; obtain ⟨hcz11_0, hcz11_1, hcz11_2, hcz11_3, hcz11_4, hcz11_5, hcz11_6, hfz11_0, hfz11_1, hfz11_2, hfz11_3, hfz11_4, hfz11_5, hfz11_6⟩ := cf7 (W := w7) BK127.out))
   refine bodyPost_ret (results_cell_row rfl _ _ gb127 51 #[.int .i64 5, .int .i64 0, .int .i64 0, .int .i64 0, .int .i64 0, .int .i64 0, .bool false] (0, 0) _ rfl (by (with_reducible repeat (first | refine blk_drewN ?_ _ | refine blk_drew ?_ | refine blk_alloc ?_ _)); refine blk_put (cs := #[.int .i64 5, .int .i64 0, .int .i64 0, .int .i64 0, .int .i64 0, .int .i64 0, .bool false]) ?_ 6 _ rfl; refine blk_put (cs := #[.int .i64 5, .int .i64 0, .int .i64 0, .int .i64 0, .int .i64 0, .int .i64 0, .bool false]) ?_ 5 _ rfl; refine blk_put (cs := #[.int .i64 5, .int .i64 0, .int .i64 0, .int .i64 0, .int .i64 0, .int .i64 0, .bool false]) ?_ 4 _ rfl; refine blk_put (cs := #[.int .i64 5, .int .i64 0, .int .i64 0, .int .i64 0, .int .i64 0, .int .i64 0, .bool false]) ?_ 3 _ rfl; refine blk_put (cs := #[.int .i64 5, .int .i64 0, .int .i64 0, .int .i64 0, .int .i64 0, .int .i64 0, .bool false]) ?_ 2 _ rfl; refine blk_put (cs := #[.int .i64 5, .int .i64 0, .int .i64 0, .int .i64 0, .int .i64 0, .int .i64 0, .bool false]) ?_ 1 _ rfl; refine blk_put (cs := #[.int .i64 0, .int .i64 0, .int .i64 0, .int .i64 0, .int .i64 0, .int .i64 0, .bool false]) ?_ 0 _ rfl; (with_reducible repeat (first | refine blk_drewN ?_ _ | refine blk_drew ?_ | refine blk_alloc ?_ _)); refine blk_far ?_ NB127_132.out _; (with_reducible repeat (first | refine blk_drewN ?_ _ | refine blk_drew ?_ | refine blk_alloc ?_ _)); refine blk_far ?_ NB127_132.out _; (with_reducible repeat (first | refine blk_drewN ?_ _ | refine blk_drew ?_ | refine blk_alloc ?_ _)); exact BK127.out) Try.underlying51 rfl (by kernel_rfl)) rfl ?_
   exact ⟨enq, bnx⟩
  ·rw [if_neg c4] at H
   have c4b0 : decide ((t129.length : Int) < 3) = false := decide_eq_false c4
   have c4b1 : decide (t129.length < 3) = false := decide_eq_false (by omega)
   clear c4
   by_cases c12 : 2 < (t129.length : Int)
   ·rw [if_pos c12] at H
    have c12b0 : decide (2 < (t129.length : Int)) = true := decide_eq_true c12
    have c12b1 : decide (2 < t129.length) = true := decide_eq_true (by omega)
    clear c12
    by_cases c13 : 0 < (t129.length : Int)
    ·rw [if_pos c13] at H
     have c13b0 : decide (0 < (t129.length : Int)) = true := decide_eq_true c13
     have c13b1 : decide (0 < t129.length) = true := decide_eq_true (by omega)
     clear c13
     by_cases c14 : 1 < (t129.length : Int)
     ·rw [if_pos c14] at H
      have c14b0 : decide (1 < (t129.length : Int)) = true := decide_eq_true c14
      have c14b1 : decide (1 < t129.length) = true := decide_eq_true (by omega)
      clear c14
      by_cases c15 : (wrap64 (Int.tdiv (wrap64 (rd t129 2)) 64)) = 0
      ·rw [if_pos c15] at H
       have c15b0 : ((wrap64 (Int.tdiv (wrap64 (rd t129 2)) 64)) == 0) = true := beq_iff_eq.mpr c15
       have c15b1 : ((wrap64 (Int.tdiv (wrap64 (rd t129 2)) 64)) != 0) = false := bne_eq_false_iff_eq.mpr c15
       clear c15
       by_cases c16 : (wrap64 ((wrap64 ((wrap64 (rd t129 0)) * 256)) + (wrap64 (rd t129 1)))) > 9999
       ·rw [if_pos c16] at H
        have c16b0 : decide (9999 < (wrap64 ((wrap64 ((wrap64 (rd t129 0)) * 256)) + (wrap64 (rd t129 1))))) = true := decide_eq_true c16
        clear c16
        simp only [Option.some.injEq, Prod.mk.injEq] at H
        obtain ⟨rfl, rfl, rfl, rfl, rfl, rfl, rfl⟩ := H
        go_enter Try.func38, Try.ntmps38
        try go_wp2_with (first | ((with_reducible refine gate_dst (N := 2) rfl ?_); refine bev 2 51 #[.int .i64 0, .int .i64 0, .int .i64 0, .int .i64 0, .int .i64 0, .int .i64 0, .bool false] ?_; intro gb127 hg w17 hbox hb; have BK127 := am hbox; have GW127 := gwe hg; have GE127 := gwe hg; replace HB := hbs hb; clear hb hbox hg) | ((with_reducible refine gate_callee (f := 102) rfl ?_); refine gl_ 8 Try.func102 #[.slice A0 l0.length c0] ?_; (with_reducible refine (spec_OpenBytes.calls k _ _ l0 t128 t129 _ ?_ ?_ A2.out).mono ?_); exact cpl HR0.out; exact HC0.out; rintro e w18 ⟨v130, rfl, ho0, hb⟩; refine ⟨_, rfl, ?_⟩; have HO131 := rlw ho0; replace BK127 := bkb BK127 hb; replace HB := hbs hb; (try clear hb); (try clear ho0)) | ((with_reducible refine gate_dst (N := 3) rfl ?_); refine bev 3 108 #[.int .i64 0, .slice none 0 0] ?_; intro gb132 hg w19 hbox hb; replace HO131 := rbl HO131 hb; have BK132 := am hbox; have GW132 := gwe hg; have GE132 := gwe hg; replace HB := hbs hb; have NB127_132 := nbl hg BK127; have NB132_127 := nbg hg BK127; replace BK127 := bkb BK127 hb; clear hb hbox hg; have hnb20 := NB132_127.out; have hnc20 := NB127_132.out; obtain ⟨hcz21_0, hcz21_1, hfz21_0, hfz21_1⟩ := cf2 (W := w19) BK132.out; obtain ⟨Ao22, co22, eo22⟩ := Kd.R_slice HO131.out; subst eo22; have p133 : 0 ≤ (2 : Int) := (by omega); have q133 : 2 < (t129.length : Int) := dta; obtain ⟨ad133, e133, hx133_0⟩ := Kd.at_int (Kd.R_reads' HO131.out).2.2 2 p133 q133; cases e133; (try simp only [show (2 : Int).toNat = 2 from rfl, Nat.reduceMul, Nat.reduceEqDiff, Go.Addr.add, ↓reduceIte] at hx133_0); have qi133 : (2 < t129.length) = True := eq_true (by omega); (try rw [show ((2 : Int)).toNat = 2 from rfl] at hx133_0); have hn133_0 : ad133.block ≠ gb132 := Kd.own_blk (Kd.R_ne HO131.out BK132.out (by decide)); have hn133_1 : ad133.block ≠ gb132 := Kd.own_blk (Kd.R_ne HO131.out BK132.out (by decide)); replace hx133_0 := (cell_far (p := ⟨gb132, 0, none⟩) (by first | (rw [add_block]; exact hn133_0) | (show (Addr.add _ _).block ≠ _; rw [add_block]; exact hn133_0) | exact hn133_0) (.int .i64 t128)).trans hx133_0; replace hx133_0 := (cell_far (p := ⟨gb132, 1, none⟩) (by first | (rw [add_block]; exact hn133_1) | (show (Addr.add _ _).block ≠ _; rw [add_block]; exact hn133_1) | exact hn133_1) (.slice (some ad133) t129.length co22)).trans hx133_0; clear hn133_0 hn133_1; replace p133 := eq_true p133; replace q133 := eq_true q133))
        have n0_ : Aside0 (Kd.R (Kd.int .u8) 5 ((w19.setCell ⟨gb132, 0, none⟩ (.int .i64 t128)).setCell ⟨gb132, 1, none⟩ (.slice (some ad133) t129.length co22)) w.heap.size (fun _ => True) (.slice (some ad133) t129.length co22) t129) := ⟨by (with_reducible repeat (first | apply Kd.R_alloc | apply Kd.R_drewN | apply Kd.R_drew)); exact Kd.R_mono (Kd.R_far (p := ⟨gb132, 1, none⟩) (Kd.R_far (p := ⟨gb132, 0, none⟩) (Kd.R_types HO131.out BK132.out (by decide)) (fun _ hk => hk.2) (.int .i64 t128)) (fun _ hk => hk.2) (.slice (some ad133) t129.length co22)) (fun _ hk => trivial)⟩
        have n1_ : Aside0 (((w19.setCell ⟨gb132, 0, none⟩ (.int .i64 t128)).setCell ⟨gb132, 1, none⟩ (.slice (some ad133) t129.length co22)).heap[gb127]? = some (.cells #[.int .i64 0, .int .i64 0, .int .i64 0, .int .i64 0, .int .i64 0, .int .i64 0, .bool false] 51 (0, 0))) := ⟨by (with_reducible repeat (first | refine blk_drewN ?_ _ | refine blk_drew ?_ | refine blk_alloc ?_ _)); refine blk_far ?_ NB127_132.out _; (with_reducible repeat (first | refine blk_drewN ?_ _ | refine blk_drew ?_ | refine blk_alloc ?_ _)); refine blk_far ?_ NB127_132.out _; (with_reducible repeat (first | refine blk_drewN ?_ _ | refine blk_drew ?_ | refine blk_alloc ?_ _)); exact BK127.out⟩
        have n2_ : Aside0 (((w19.setCell ⟨gb132, 0, none⟩ (.int .i64 t128)).setCell ⟨gb132, 1, none⟩ (.slice (some ad133) t129.length co22)).heap[gb132]? = some (.cells #[.int .i64 t128, .slice (some ad133) t129.length co22] 108 (0, 0))) := ⟨by (with_reducible repeat (first | refine blk_drewN ?_ _ | refine blk_drew ?_ | refine blk_alloc ?_ _)); refine blk_put (cs := #[.int .i64 t128, .slice none 0 0]) ?_ 1 _ rfl; refine blk_put (cs := #[.int .i64 0, .slice none 0 0]) ?_ 0 _ rfl; exact bpl BK132.out⟩
        have n3_ : Aside0 (Below w.heap.size w ((w19.setCell ⟨gb132, 0, none⟩ (.int .i64 t128)).setCell ⟨gb132, 1, none⟩ (.slice (some ad133) t129.length co22))) := ⟨bnx⟩
        (try clear HO131)
        (try clear BK127)
        (try clear BK132)
        (try clear HB)
        generalize ((w19.setCell ⟨gb132, 0, none⟩ (.int .i64 t128)).setCell ⟨gb132, 1, none⟩ (.slice (some ad133) t129.length co22)) = w23 at n0_ n1_ n2_ n3_ ⊢
        have HO131 := n0_
        have BK127 := n1_
        have BK132 := n2_
        have HB := n3_
        clear n0_ n1_ n2_ n3_
        replace HO131 := am (Kd.R_drew HO131.out)
        replace BK127 := am (blk_drew BK127.out)
        replace BK132 := am (blk_drew BK132.out)
        replace HB := am (below_drew1 HB.out)
        have p134 : 0 ≤ (0 : Int) := (by omega)
        have q134 : 0 < (t129.length : Int) := dta
        obtain ⟨ad134, e134, hx134_0⟩ := Kd.at_int (Kd.R_reads' HO131.out).2.2 0 p134 q134
        obtain rfl : ad133 = ad134 := (by injection e134)
        have qi134 : (0 < t129.length) = True := eq_true (by omega)
        (try rw [show ((0 : Int)).toNat = 0 from rfl] at hx134_0)
        (try rw [Addr.add_zero'] at hx134_0)
        replace p134 := eq_true p134
        replace q134 := eq_true q134
        have p135 : 0 ≤ (1 : Int) := (by omega)
        have q135 : 1 < (t129.length : Int) := dta
        obtain ⟨ad135, e135, hx135_0⟩ := Kd.at_int (Kd.R_reads' HO131.out).2.2 1 p135 q135
        obtain rfl : ad133 = ad135 := (by injection e135)
        (try simp only [show (1 : Int).toNat = 1 from rfl, Nat.reduceMul, Nat.reduceEqDiff, Go.Addr.add, ↓reduceIte] at hx135_0)
        have qi135 : (1 < t129.length) = True := eq_true (by omega)
        (try rw [show ((1 : Int)).toNat = 1 from rfl] at hx135_0)
        replace p135 := eq_true p135
        replace q135 := eq_true q135
        refine start_ (n := 25) (S := fun w' => w'.cell? ad133 = some (.int .u8 (rd t129 0)) ∧ w'.cell? ⟨ad133.block, ad133.off + 1, none⟩ = some (.int .u8 (rd t129 1))) (ds := []) #[false, false, false, false, false, false, false, false, false, false, false, false, false, false, false, false, false, false, false, false, false, false, false, false, false] (by kernel_rfl) rfl rfl ⟨hx134_0, hx135_0⟩ (fun hHeld => ?_); refine with_tabW spec_ReadHead.tab8 spec_ReadHead.bits8 (fun HT_ HW_ => ?_)
        generalize w23.drew = w24 at HO131 BK127 BK132 HB hx134_0 hx135_0 hHeld ⊢
        refine pu_ 0 25 HT_ ?_
        refine pu_ 1 26 HT_ ?_
        refine pu_ 5 30 HT_ ?_
        refine pu_ 6 31 HT_ ?_
        refine pu_ 10 35 HT_ ?_
        refine pu_ 11 36 HT_ ?_
        refine pu_ 12 37 HT_ ?_
        refine pu_ 13 38 HT_ ?_
        refine pu_ 14 39 HT_ ?_
        refine pu_ 15 40 HT_ ?_
        refine pu_ 16 41 HT_ ?_
        refine pu_ 17 42 HT_ ?_
        refine pu_ 18 43 HT_ ?_
        refine pu_ 19 44 HT_ ?_
        refine pu_ 20 45 HT_ ?_
        refine pu_ 21 46 HT_ ?_
        refine tk_ 2 27 HT_ HW_ hHeld ?_
        refine pu_ 3 28 HT_ ?_
        refine pu_ 4 29 HT_ ?_
        refine tk_ 7 32 HT_ HW_ hHeld ?_
        refine pu_ 8 33 HT_ ?_
        refine pu_ 9 34 HT_ ?_
        refine pu_ 22 47 HT_ ?_
        refine on_ 23 HT_ (fun K hK => ?_)
        refine bst 6 49 #[.int .i64 0, .int .i64 0, .int .i64 0, .int .i64 0, .int .i64 0, .bool false] ?_
        intro gb136 hg w25 hbox hb
        have HS0_ := (hb.cell (World.block_lt_of_cell? _ _ (hHeld.1))).trans (hHeld.1)
        have HS1_ := (hb.cell (World.block_lt_of_cell? _ _ (hHeld.2))).trans (hHeld.2)
        replace HO131 := rbl HO131 hb
        have BK136 := am hbox
        have GW136 := gwe hg
        have GE136 := gwe hg
        replace HB := hbs hb
        have NB127_136 := nbl hg BK127
        have NB136_127 := nbg hg BK127
        replace BK127 := bkb BK127 hb
        have NB132_136 := nbl hg BK132
        have NB136_132 := nbg hg BK132
        replace BK132 := bkb BK132 hb
        clear hb hbox hg
        refine hK.out _ _ ⟨HS0_, HS1_⟩ (fun hHeld => ?_)
        clear hK K
        refine nm_ 6 ?_
        refine on_ 24 HT_ (fun K hK => ?_)
        have hs26 : w25.cell? ⟨gb136, 0, none⟩ = some (.int .i64 0) := (blk_cell BK136.out 0).trans rfl
        have hfs26 := blk_frozen BK136.out 0
        have hns26_0 := NB127_136.out
        have hns26_1 := NB132_136.out
        have hms26_0 := NB136_127.out
        have hms26_1 := NB136_132.out
        have hs27 : w25.cell? ⟨gb136, 1, none⟩ = some (.int .i64 0) := (blk_cell BK136.out 1).trans rfl
        have hfs27 := blk_frozen BK136.out 1
        have hns27_0 := NB127_136.out
        have hns27_1 := NB132_136.out
        have hms27_0 := NB136_127.out
        have hms27_1 := NB136_132.out
        have hs28 : w25.cell? ⟨gb136, 2, none⟩ = some (.int .i64 0) := (blk_cell BK136.out 2).trans rfl
        have hfs28 := blk_frozen BK136.out 2
        have hns28_0 := NB127_136.out
        have hns28_1 := NB132_136.out
        have hms28_0 := NB136_127.out
        have hms28_1 := NB136_132.out
        have hs29 : w25.cell? ⟨gb136, 3, none⟩ = some (.int .i64 0) := (blk_cell BK136.out 3).trans rfl
        have hfs29 := blk_frozen BK136.out 3
        have hns29_0 := NB127_136.out
        have hns29_1 := NB132_136.out
        have hms29_0 := NB136_127.out
        have hms29_1 := NB136_132.out
        have hs30 : w25.cell? ⟨gb136, 4, none⟩ = some (.int .i64 0) := (blk_cell BK136.out 4).trans rfl
        have hfs30 := blk_frozen BK136.out 4
        have hns30_0 := NB127_136.out
        have hns30_1 := NB132_136.out
        have hms30_0 := NB136_127.out
        have hms30_1 := NB136_132.out
        have hs31 : w25.cell? ⟨gb136, 5, none⟩ = some (.bool false) := (blk_cell BK136.out 5).trans rfl
        have hfs31 := blk_frozen BK136.out 5
        have hns31_0 := NB127_136.out
        have hns31_1 := NB132_136.out
        have hms31_0 := NB136_127.out
        have hms31_1 := NB136_132.out
        refine skip_ (w1 := ?_) (by rfl) rfl ?_ ?_
        rotate_left
        ·go_simp
         rfl
        refine hK.out _ _ ⟨((cfr (Kd.own_blk (Kd.R_ne HO131.out BK136.out (by decide)))).trans (((cfr (Kd.own_blk (Kd.R_ne HO131.out BK136.out (by decide)))).trans (((cfr (Kd.own_blk (Kd.R_ne HO131.out BK136.out (by decide)))).trans (((cfr (Kd.own_blk (Kd.R_ne HO131.out BK136.out (by decide)))).trans (((cfr (Kd.own_blk (Kd.R_ne HO131.out BK136.out (by decide)))).trans (((cfr (Kd.own_blk (Kd.R_ne HO131.out BK136.out (by decide)))).trans (hHeld.1)))))))))))), ((cfr (Kd.own_blk (Kd.R_ne HO131.out BK136.out (by decide)))).trans (((cfr (Kd.own_blk (Kd.R_ne HO131.out BK136.out (by decide)))).trans (((cfr (Kd.own_blk (Kd.R_ne HO131.out BK136.out (by decide)))).trans (((cfr (Kd.own_blk (Kd.R_ne HO131.out BK136.out (by decide)))).trans (((cfr (Kd.own_blk (Kd.R_ne HO131.out BK136.out (by decide)))).trans (((cfr (Kd.own_blk (Kd.R_ne HO131.out BK136.out (by decide)))).trans (hHeld.2))))))))))))⟩ (fun hHeld => ?_)
        clear hK K
        refine done_ (done_of HT_.out (by kernel_rfl)) ?_
        have hnb32 := NB136_127.out
        have hnc32 := NB127_136.out
        have hnb33 := NB136_132.out
        have hnc33 := NB132_136.out
        obtain ⟨hcz34_0, hcz34_1, hcz34_2, hcz34_3, hcz34_4, hcz34_5, hfz34_0, hfz34_1, hfz34_2, hfz34_3, hfz34_4, hfz34_5⟩ := cf6 (W := w25) BK136.out
        obtain ⟨hcz35_0, hcz35_1, hcz35_2, hcz35_3, hcz35_4, hcz35_5, hcz35_6, hfz35_0, hfz35_1, hfz35_2, hfz35_3, hfz35_4, hfz35_5, hfz35_6⟩ := cf7 (W := w25) BK127.out
        try go_wp2
        refine bodyPost_ret (results_cell_row rfl _ _ gb127 51 #[.int .i64 5, .int .i64 0, .int .i64 0, .int .i64 0, .int .i64 0, .int .i64 0, .bool false] (0, 0) _ rfl (by (with_reducible repeat (first | refine blk_drewN ?_ _ | refine blk_drew ?_ | refine blk_alloc ?_ _)); refine blk_put (cs := #[.int .i64 5, .int .i64 0, .int .i64 0, .int .i64 0, .int .i64 0, .int .i64 0, .bool false]) ?_ 6 _ rfl; refine blk_put (cs := #[.int .i64 5, .int .i64 0, .int .i64 0, .int .i64 0, .int .i64 0, .int .i64 0, .bool false]) ?_ 5 _ rfl; refine blk_put (cs := #[.int .i64 5, .int .i64 0, .int .i64 0, .int .i64 0, .int .i64 0, .int .i64 0, .bool false]) ?_ 4 _ rfl; refine blk_put (cs := #[.int .i64 5, .int .i64 0, .int .i64 0, .int .i64 0, .int .i64 0, .int .i64 0, .bool false]) ?_ 3 _ rfl; refine blk_put (cs := #[.int .i64 5, .int .i64 0, .int .i64 0, .int .i64 0, .int .i64 0, .int .i64 0, .bool false]) ?_ 2 _ rfl; refine blk_put (cs := #[.int .i64 5, .int .i64 0, .int .i64 0, .int .i64 0, .int .i64 0, .int .i64 0, .bool false]) ?_ 1 _ rfl; refine blk_put (cs := #[.int .i64 0, .int .i64 0, .int .i64 0, .int .i64 0, .int .i64 0, .int .i64 0, .bool false]) ?_ 0 _ rfl; (with_reducible repeat (first | refine blk_drewN ?_ _ | refine blk_drew ?_ | refine blk_alloc ?_ _)); refine blk_far ?_ NB127_136.out _; (with_reducible repeat (first | refine blk_drewN ?_ _ | refine blk_drew ?_ | refine blk_alloc ?_ _)); refine blk_far ?_ NB127_136.out _; (with_reducible repeat (first | refine blk_drewN ?_ _ | refine blk_drew ?_ | refine blk_alloc ?_ _)); refine blk_far ?_ NB127_136.out _; (with_reducible repeat (first | refine blk_drewN ?_ _ | refine blk_drew ?_ | refine blk_alloc ?_ _)); refine blk_far ?_ NB127_136.out _; (with_reducible repeat (first | refine blk_drewN ?_ _ | refine blk_drew ?_ | refine blk_alloc ?_ _)); refine blk_far ?_ NB127_136.out _; (with_reducible repeat (first | refine blk_drewN ?_ _ | refine blk_drew ?_ | refine blk_alloc ?_ _)); refine blk_far ?_ NB127_136.out _; (with_reducible repeat (first | refine blk_drewN ?_ _ | refine blk_drew ?_ | refine blk_alloc ?_ _)); refine blk_far ?_ NB127_136.out _; (with_reducible repeat (first | refine blk_drewN ?_ _ | refine blk_drew ?_ | refine blk_alloc ?_ _)); exact BK127.out) Try.underlying51 rfl (by kernel_rfl)) rfl ?_
        exact ⟨enq, bnx⟩
       ·rw [if_neg c16] at H
        have c16b0 : decide (9999 < (wrap64 ((wrap64 ((wrap64 (rd t129 0)) * 256)) + (wrap64 (rd t129 1))))) = false := decide_eq_false c16
        clear c16
        by_cases c36 : (Int.tmod (wrap64 (Int.tdiv (wrap64 (rd t129 2)) 4)) 4) > 2
        ·rw [if_pos c36] at H
         have c36b0 : decide (2 < (Int.tmod (wrap64 (Int.tdiv (wrap64 (rd t129 2)) 4)) 4)) = true := decide_eq_true c36
         clear c36
         simp only [Option.some.injEq, Prod.mk.injEq] at H
         obtain ⟨rfl, rfl, rfl, rfl, rfl, rfl, rfl⟩ := H
         go_enter Try.func38, Try.ntmps38
         try go_wp2_with (first | ((with_reducible refine gate_dst (N := 2) rfl ?_); refine bev 2 51 #[.int .i64 0, .int .i64 0, .int .i64 0, .int .i64 0, .int .i64 0, .int .i64 0, .bool false] ?_; intro gb127 hg w37 hbox hb; have BK127 := am hbox; have GW127 := gwe hg; have GE127 := gwe hg; replace HB := hbs hb; clear hb hbox hg) | ((with_reducible refine gate_callee (f := 102) rfl ?_); refine gl_ 8 Try.func102 #[.slice A0 l0.length c0] ?_; (with_reducible refine (spec_OpenBytes.calls k _ _ l0 t128 t129 _ ?_ ?_ A2.out).mono ?_); exact cpl HR0.out; exact HC0.out; rintro e w38 ⟨v130, rfl, ho0, hb⟩; refine ⟨_, rfl, ?_⟩; have HO131 := rlw ho0; replace BK127 := bkb BK127 hb; replace HB := hbs hb; (try clear hb); (try clear ho0)) | ((with_reducible refine gate_dst (N := 3) rfl ?_); refine bev 3 108 #[.int .i64 0, .slice none 0 0] ?_; intro gb132 hg w39 hbox hb; replace HO131 := rbl HO131 hb; have BK132 := am hbox; have GW132 := gwe hg; have GE132 := gwe hg; replace HB := hbs hb; have NB127_132 := nbl hg BK127; have NB132_127 := nbg hg BK127; replace BK127 := bkb BK127 hb; clear hb hbox hg; have hnb40 := NB132_127.out; have hnc40 := NB127_132.out; obtain ⟨hcz41_0, hcz41_1, hfz41_0, hfz41_1⟩ := cf2 (W := w39) BK132.out; obtain ⟨Ao42, co42, eo42⟩ := Kd.R_slice HO131.out; subst eo42; have p133 : 0 ≤ (2 : Int) := (by omega); have q133 : 2 < (t129.length : Int) := dta; obtain ⟨ad133, e133, hx133_0⟩ := Kd.at_int (Kd.R_reads' HO131.out).2.2 2 p133 q133; cases e133; (try simp only [show (2 : Int).toNat = 2 from rfl, Nat.reduceMul, Nat.reduceEqDiff, Go.Addr.add, ↓reduceIte] at hx133_0); have qi133 : (2 < t129.length) = True := eq_true (by omega); (try rw [show ((2 : Int)).toNat = 2 from rfl] at hx133_0); have hn133_0 : ad133.block ≠ gb132 := Kd.own_blk (Kd.R_ne HO131.out BK132.out (by decide)); have hn133_1 : ad133.block ≠ gb132 := Kd.own_blk (Kd.R_ne HO131.out BK132.out (by decide)); replace hx133_0 := (cell_far (p := ⟨gb132, 0, none⟩) (by first | (rw [add_block]; exact hn133_0) | (show (Addr.add _ _).block ≠ _; rw [add_block]; exact hn133_0) | exact hn133_0) (.int .i64 t128)).trans hx133_0; replace hx133_0 := (cell_far (p := ⟨gb132, 1, none⟩) (by first | (rw [add_block]; exact hn133_1) | (show (Addr.add _ _).block ≠ _; rw [add_block]; exact hn133_1) | exact hn133_1) (.slice (some ad133) t129.length co42)).trans hx133_0; clear hn133_0 hn133_1; replace p133 := eq_true p133; replace q133 := eq_true q133))
         have n0_ : Aside0 (Kd.R (Kd.int .u8) 5 ((w39.setCell ⟨gb132, 0, none⟩ (.int .i64 t128)).setCell ⟨gb132, 1, none⟩ (.slice (some ad133) t129.length co42)) w.heap.size (fun _ => True) (.slice (some ad133) t129.length co42) t129) := ⟨by (with_reducible repeat (first | apply Kd.R_alloc | apply Kd.R_drewN | apply Kd.R_drew)); exact Kd.R_mono (Kd.R_far (p := ⟨gb132, 1, none⟩) (Kd.R_far (p := ⟨gb132, 0, none⟩) (Kd.R_types HO131.out BK132.out (by decide)) (fun _ hk => hk.2) (.int .i64 t128)) (fun _ hk => hk.2) (.slice (some ad133) t129.length co42)) (fun _ hk => trivial)⟩
         have n1_ : Aside0 (((w39.setCell ⟨gb132, 0, none⟩ (.int .i64 t128)).setCell ⟨gb132, 1, none⟩ (.slice (some ad133) t129.length co42)).heap[gb127]? = some (.cells #[.int .i64 0, .int .i64 0, .int .i64 0, .int .i64 0, .int .i64 0, .int .i64 0, .bool false] 51 (0, 0))) := ⟨by (with_reducible repeat (first | refine blk_drewN ?_ _ | refine blk_drew ?_ | refine blk_alloc ?_ _)); refine blk_far ?_ NB127_132.out _; (with_reducible repeat (first | refine blk_drewN ?_ _ | refine blk_drew ?_ | refine blk_alloc ?_ _)); refine blk_far ?_ NB127_132.out _; (with_reducible repeat (first | refine blk_drewN ?_ _ | refine blk_drew ?_ | refine blk_alloc ?_ _)); exact BK127.out⟩
         have n2_ : Aside0 (((w39.setCell ⟨gb132, 0, none⟩ (.int .i64 t128)).setCell ⟨gb132, 1, none⟩ (.slice (some ad133) t129.length co42)).heap[gb132]? = some (.cells #[.int .i64 t128, .slice (some ad133) t129.length co42] 108 (0, 0))) := ⟨by (with_reducible repeat (first | refine blk_drewN ?_ _ | refine blk_drew ?_ | refine blk_alloc ?_ _)); refine blk_put (cs := #[.int .i64 t128, .slice none 0 0]) ?_ 1 _ rfl; refine blk_put (cs := #[.int .i64 0, .slice none 0 0]) ?_ 0 _ rfl; exact bpl BK132.out⟩
         have n3_ : Aside0 (Below w.heap.size w ((w39.setCell ⟨gb132, 0, none⟩ (.int .i64 t128)).setCell ⟨gb132, 1, none⟩ (.slice (some ad133) t129.length co42))) := ⟨bnx⟩
         (try clear HO131)
         (try clear BK127)
         (try clear BK132)
         (try clear HB)
         generalize ((w39.setCell ⟨gb132, 0, none⟩ (.int .i64 t128)).setCell ⟨gb132, 1, none⟩ (.slice (some ad133) t129.length co42)) = w43 at n0_ n1_ n2_ n3_ ⊢
         have HO131 := n0_
         have BK127 := n1_
         have BK132 := n2_
         have HB := n3_
         clear n0_ n1_ n2_ n3_
         replace HO131 := am (Kd.R_drew HO131.out)
         replace BK127 := am (blk_drew BK127.out)
         replace BK132 := am (blk_drew BK132.out)
         replace HB := am (below_drew1 HB.out)
         have p134 : 0 ≤ (0 : Int) := (by omega)
         have q134 : 0 < (t129.length : Int) := dta
         obtain ⟨ad134, e134, hx134_0⟩ := Kd.at_int (Kd.R_reads' HO131.out).2.2 0 p134 q134
         obtain rfl : ad133 = ad134 := (by injection e134)
         have qi134 : (0 < t129.length) = True := eq_true (by omega)
         (try rw [show ((0 : Int)).toNat = 0 from rfl] at hx134_0)
         (try rw [Addr.add_zero'] at hx134_0)
         replace p134 := eq_true p134
         replace q134 := eq_true q134
         have p135 : 0 ≤ (1 : Int) := (by omega)
         have q135 : 1 < (t129.length : Int) := dta
         obtain ⟨ad135, e135, hx135_0⟩ := Kd.at_int (Kd.R_reads' HO131.out).2.2 1 p135 q135
         obtain rfl : ad133 = ad135 := (by injection e135)
         (try simp only [show (1 : Int).toNat = 1 from rfl, Nat.reduceMul, Nat.reduceEqDiff, Go.Addr.add, ↓reduceIte] at hx135_0)
         have qi135 : (1 < t129.length) = True := eq_true (by omega)
         (try rw [show ((1 : Int)).toNat = 1 from rfl] at hx135_0)
         replace p135 := eq_true p135
         replace q135 := eq_true q135
         refine start_ (n := 25) (S := fun w' => w'.cell? ad133 = some (.int .u8 (rd t129 0)) ∧ w'.cell? ⟨ad133.block, ad133.off + 1, none⟩ = some (.int .u8 (rd t129 1))) (ds := []) #[false, false, false, false, false, false, false, false, false, false, false, false, false, false, false, false, false, false, false, false, false, false, false, false, false] (by kernel_rfl) rfl rfl ⟨hx134_0, hx135_0⟩ (fun hHeld => ?_); refine with_tabW spec_ReadHead.tab8 spec_ReadHead.bits8 (fun HT_ HW_ => ?_)
         generalize w43.drew = w44 at HO131 BK127 BK132 HB hx134_0 hx135_0 hHeld ⊢
         refine pu_ 0 25 HT_ ?_
         refine pu_ 1 26 HT_ ?_
         refine pu_ 5 30 HT_ ?_
         refine pu_ 6 31 HT_ ?_
         refine pu_ 10 35 HT_ ?_
         refine pu_ 11 36 HT_ ?_
         refine pu_ 12 37 HT_ ?_
         refine pu_ 13 38 HT_ ?_
         refine pu_ 14 39 HT_ ?_
         refine pu_ 15 40 HT_ ?_
         refine pu_ 16 41 HT_ ?_
         refine pu_ 17 42 HT_ ?_
         refine pu_ 18 43 HT_ ?_
         refine pu_ 19 44 HT_ ?_
         refine pu_ 20 45 HT_ ?_
         refine pu_ 21 46 HT_ ?_
         refine tk_ 2 27 HT_ HW_ hHeld ?_
         refine pu_ 3 28 HT_ ?_
         refine pu_ 4 29 HT_ ?_
         refine tk_ 7 32 HT_ HW_ hHeld ?_
         refine pu_ 8 33 HT_ ?_
         refine pu_ 9 34 HT_ ?_
         refine pu_ 22 47 HT_ ?_
         refine on_ 23 HT_ (fun K hK => ?_)
         refine bst 6 49 #[.int .i64 0, .int .i64 0, .int .i64 0, .int .i64 0, .int .i64 0, .bool false] ?_
         intro gb136 hg w45 hbox hb
         have HS0_ := (hb.cell (World.block_lt_of_cell? _ _ (hHeld.1))).trans (hHeld.1)
         have HS1_ := (hb.cell (World.block_lt_of_cell? _ _ (hHeld.2))).trans (hHeld.2)
         replace HO131 := rbl HO131 hb
         have BK136 := am hbox
         have GW136 := gwe hg
         have GE136 := gwe hg
         replace HB := hbs hb
         have NB127_136 := nbl hg BK127
         have NB136_127 := nbg hg BK127
         replace BK127 := bkb BK127 hb
         have NB132_136 := nbl hg BK132
         have NB136_132 := nbg hg BK132
         replace BK132 := bkb BK132 hb
         clear hb hbox hg
         refine hK.out _ _ ⟨HS0_, HS1_⟩ (fun hHeld => ?_)
         clear hK K
         refine nm_ 6 ?_
         refine on_ 24 HT_ (fun K hK => ?_)
         have hs46 : w45.cell? ⟨gb136, 0, none⟩ = some (.int .i64 0) := (blk_cell BK136.out 0).trans rfl
         have hfs46 := blk_frozen BK136.out 0
         have hns46_0 := NB127_136.out
         have hns46_1 := NB132_136.out
         have hms46_0 := NB136_127.out
         have hms46_1 := NB136_132.out
         have hs47 : w45.cell? ⟨gb136, 1, none⟩ = some (.int .i64 0) := (blk_cell BK136.out 1).trans rfl
         have hfs47 := blk_frozen BK136.out 1
         have hns47_0 := NB127_136.out
         have hns47_1 := NB132_136.out
         have hms47_0 := NB136_127.out
         have hms47_1 := NB136_132.out
         have hs48 : w45.cell? ⟨gb136, 2, none⟩ = some (.int .i64 0) := (blk_cell BK136.out 2).trans rfl
         have hfs48 := blk_frozen BK136.out 2
         have hns48_0 := NB127_136.out
         have hns48_1 := NB132_136.out
         have hms48_0 := NB136_127.out
         have hms48_1 := NB136_132.out
         have hs49 : w45.cell? ⟨gb136, 3, none⟩ = some (.int .i64 0) := (blk_cell BK136.out 3).trans rfl
         have hfs49 := blk_frozen BK136.out 3
         have hns49_0 := NB127_136.out
         have hns49_1 := NB132_136.out
         have hms49_0 := NB136_127.out
         have hms49_1 := NB136_132.out
         have hs50 : w45.cell? ⟨gb136, 4, none⟩ = some (.int .i64 0) := (blk_cell BK136.out 4).trans rfl
         have hfs50 := blk_frozen BK136.out 4
         have hns50_0 := NB127_136.out
         have hns50_1 := NB132_136.out
         have hms50_0 := NB136_127.out
         have hms50_1 := NB136_132.out
         have hs51 : w45.cell? ⟨gb136, 5, none⟩ = some (.bool false) := (blk_cell BK136.out 5).trans rfl
         have hfs51 := blk_frozen BK136.out 5
         have hns51_0 := NB127_136.out
         have hns51_1 := NB132_136.out
         have hms51_0 := NB136_127.out
         have hms51_1 := NB136_132.out
         refine skip_ (w1 := ?_) (by rfl) rfl ?_ ?_
         rotate_left
         ·go_simp
          rfl
         refine hK.out _ _ ⟨((cfr (Kd.own_blk (Kd.R_ne HO131.out BK136.out (by decide)))).trans (((cfr (Kd.own_blk (Kd.R_ne HO131.out BK136.out (by decide)))).trans (((cfr (Kd.own_blk (Kd.R_ne HO131.out BK136.out (by decide)))).trans (((cfr (Kd.own_blk (Kd.R_ne HO131.out BK136.out (by decide)))).trans (((cfr (Kd.own_blk (Kd.R_ne HO131.out BK136.out (by decide)))).trans (((cfr (Kd.own_blk (Kd.R_ne HO131.out BK136.out (by decide)))).trans (hHeld.1)))))))))))), ((cfr (Kd.own_blk (Kd.R_ne HO131.out BK136.out (by decide)))).trans (((cfr (Kd.own_blk (Kd.R_ne HO131.out BK136.out (by decide)))).trans (((cfr (Kd.own_blk (Kd.R_ne HO131.out BK136.out (by decide)))).trans (((cfr (Kd.own_blk (Kd.R_ne HO131.out BK136.out (by decide)))).trans (((cfr (Kd.own_blk (Kd.R_ne HO131.out BK136.out (by decide)))).trans (((cfr (Kd.own_blk (Kd.R_ne HO131.out BK136.out (by decide)))).trans (hHeld.2))))))))))))⟩ (fun hHeld => ?_)
         clear hK K
         refine done_ (done_of HT_.out (by kernel_rfl)) ?_
         have hnb52 := NB136_127.out
         have hnc52 := NB127_136.out
         have hnb53 := NB136_132.out
         have hnc53 := NB132_136.out
         obtain ⟨hcz54_0, hcz54_1, hcz54_2, hcz54_3, hcz54_4, hcz54_5, hfz54_0, hfz54_1, hfz54_2, hfz54_3, hfz54_4, hfz54_5⟩ := cf6 (W := w45) BK136.out
         obtain ⟨hcz55_0, hcz55_1, hcz55_2, hcz55_3, hcz55_4, hcz55_5, hcz55_6, hfz55_0, hfz55_1, hfz55_2, hfz55_3, hfz55_4, hfz55_5, hfz55_6⟩ := cf7 (W := w45) BK127.out
         try go_wp2
         refine bodyPost_ret (results_cell_row rfl _ _ gb127 51 #[.int .i64 5, .int .i64 0, .int .i64 0, .int .i64 0, .int .i64 0, .int .i64 0, .bool false] (0, 0) _ rfl (by (with_reducible repeat (first | refine blk_drewN ?_ _ | refine blk_drew ?_ | refine blk_alloc ?_ _)); refine blk_put (cs := #[.int .i64 5, .int .i64 0, .int .i64 0, .int .i64 0, .int .i64 0, .int .i64 0, .bool false]) ?_ 6 _ rfl; refine blk_put (cs := #[.int .i64 5, .int .i64 0, .int .i64 0, .int .i64 0, .int .i64 0, .int .i64 0, .bool false]) ?_ 5 _ rfl; refine blk_put (cs := #[.int .i64 5, .int .i64 0, .int .i64 0, .int .i64 0, .int .i64 0, .int .i64 0, .bool false]) ?_ 4 _ rfl; refine blk_put (cs := #[.int .i64 5, .int .i64 0, .int .i64 0, .int .i64 0, .int .i64 0, .int .i64 0, .bool false]) ?_ 3 _ rfl; refine blk_put (cs := #[.int .i64 5, .int .i64 0, .int .i64 0, .int .i64 0, .int .i64 0, .int .i64 0, .bool false]) ?_ 2 _ rfl; refine blk_put (cs := #[.int .i64 5, .int .i64 0, .int .i64 0, .int .i64 0, .int .i64 0, .int .i64 0, .bool false]) ?_ 1 _ rfl; refine blk_put (cs := #[.int .i64 0, .int .i64 0, .int .i64 0, .int .i64 0, .int .i64 0, .int .i64 0, .bool false]) ?_ 0 _ rfl; (with_reducible repeat (first | refine blk_drewN ?_ _ | refine blk_drew ?_ | refine blk_alloc ?_ _)); refine blk_far ?_ NB127_136.out _; (with_reducible repeat (first | refine blk_drewN ?_ _ | refine blk_drew ?_ | refine blk_alloc ?_ _)); refine blk_far ?_ NB127_136.out _; (with_reducible repeat (first | refine blk_drewN ?_ _ | refine blk_drew ?_ | refine blk_alloc ?_ _)); refine blk_far ?_ NB127_136.out _; (with_reducible repeat (first | refine blk_drewN ?_ _ | refine blk_drew ?_ | refine blk_alloc ?_ _)); refine blk_far ?_ NB127_136.out _; (with_reducible repeat (first | refine blk_drewN ?_ _ | refine blk_drew ?_ | refine blk_alloc ?_ _)); refine blk_far ?_ NB127_136.out _; (with_reducible repeat (first | refine blk_drewN ?_ _ | refine blk_drew ?_ | refine blk_alloc ?_ _)); refine blk_far ?_ NB127_136.out _; (with_reducible repeat (first | refine blk_drewN ?_ _ | refine blk_drew ?_ | refine blk_alloc ?_ _)); refine blk_far ?_ NB127_136.out _; (with_reducible repeat (first | refine blk_drewN ?_ _ | refine blk_drew ?_ | refine blk_alloc ?_ _)); exact BK127.out) Try.underlying51 rfl (by kernel_rfl)) rfl ?_
         exact ⟨enq, bnx⟩
        ·rw [if_neg c36] at H
         have c36b0 : decide (2 < (Int.tmod (wrap64 (Int.tdiv (wrap64 (rd t129 2)) 4)) 4)) = false := decide_eq_false c36
         clear c36
         by_cases c56 : 4 = 0
         ·exact absurd c56 (by decide)
         ·rw [if_neg c56] at H
          have c56b0 : (4 == 0) = false := beq_eq_false_iff_ne.mpr c56
          have c56b1 : (4 != 0) = true := bne_iff_ne.mpr c56
          simp only [Option.some.injEq, Prod.mk.injEq] at H
          obtain ⟨rfl, rfl, rfl, rfl, rfl, rfl, rfl⟩ := H
          go_enter Try.func38, Try.ntmps38
          try go_wp2_with (first | ((with_reducible refine gate_dst (N := 2) rfl ?_); refine bev 2 51 #[.int .i64 0, .int .i64 0, .int .i64 0, .int .i64 0, .int .i64 0, .int .i64 0, .bool false] ?_; intro gb127 hg w76 hbox hb; have BK127 := am hbox; have GW127 := gwe hg; have GE127 := gwe hg; replace HB := hbs hb; clear hb hbox hg) | ((with_reducible refine gate_callee (f := 102) rfl ?_); refine gl_ 8 Try.func102 #[.slice A0 l0.length c0] ?_; (with_reducible refine (spec_OpenBytes.calls k _ _ l0 t128 t129 _ ?_ ?_ A2.out).mono ?_); exact cpl HR0.out; exact HC0.out; rintro e w77 ⟨v130, rfl, ho0, hb⟩; refine ⟨_, rfl, ?_⟩; have HO131 := rlw ho0; replace BK127 := bkb BK127 hb; replace HB := hbs hb; (try clear hb); (try clear ho0)) | ((with_reducible refine gate_dst (N := 3) rfl ?_); refine bev 3 108 #[.int .i64 0, .slice none 0 0] ?_; intro gb132 hg w78 hbox hb; replace HO131 := rbl HO131 hb; have BK132 := am hbox; have GW132 := gwe hg; have GE132 := gwe hg; replace HB := hbs hb; have NB127_132 := nbl hg BK127; have NB132_127 := nbg hg BK127; replace BK127 := bkb BK127 hb; clear hb hbox hg; have hnb79 := NB132_127.out; have hnc79 := NB127_132.out; obtain ⟨hcz80_0, hcz80_1, hfz80_0, hfz80_1⟩ := cf2 (W := w78) BK132.out; obtain ⟨Ao81, co81, eo81⟩ := Kd.R_slice HO131.out; subst eo81; have p133 : 0 ≤ (2 : Int) := (by omega); have q133 : 2 < (t129.length : Int) := dta; obtain ⟨ad133, e133, hx133_0⟩ := Kd.at_int (Kd.R_reads' HO131.out).2.2 2 p133 q133; cases e133; (try simp only [show (2 : Int).toNat = 2 from rfl, Nat.reduceMul, Nat.reduceEqDiff, Go.Addr.add, ↓reduceIte] at hx133_0); have qi133 : (2 < t129.length) = True := eq_true (by omega); (try rw [show ((2 : Int)).toNat = 2 from rfl] at hx133_0); have hn133_0 : ad133.block ≠ gb132 := Kd.own_blk (Kd.R_ne HO131.out BK132.out (by decide)); have hn133_1 : ad133.block ≠ gb132 := Kd.own_blk (Kd.R_ne HO131.out BK132.out (by decide)); replace hx133_0 := (cell_far (p := ⟨gb132, 0, none⟩) (by first | (rw [add_block]; exact hn133_0) | (show (Addr.add _ _).block ≠ _; rw [add_block]; exact hn133_0) | exact hn133_0) (.int .i64 t128)).trans hx133_0; replace hx133_0 := (cell_far (p := ⟨gb132, 1, none⟩) (by first | (rw [add_block]; exact hn133_1) | (show (Addr.add _ _).block ≠ _; rw [add_block]; exact hn133_1) | exact hn133_1) (.slice (some ad133) t129.length co81)).trans hx133_0; clear hn133_0 hn133_1; replace p133 := eq_true p133; replace q133 := eq_true q133))
          have n0_ : Aside0 (Kd.R (Kd.int .u8) 5 ((w78.setCell ⟨gb132, 0, none⟩ (.int .i64 t128)).setCell ⟨gb132, 1, none⟩ (.slice (some ad133) t129.length co81)) w.heap.size (fun _ => True) (.slice (some ad133) t129.length co81) t129) := ⟨by (with_reducible repeat (first | apply Kd.R_alloc | apply Kd.R_drewN | apply Kd.R_drew)); exact Kd.R_mono (Kd.R_far (p := ⟨gb132, 1, none⟩) (Kd.R_far (p := ⟨gb132, 0, none⟩) (Kd.R_types HO131.out BK132.out (by decide)) (fun _ hk => hk.2) (.int .i64 t128)) (fun _ hk => hk.2) (.slice (some ad133) t129.length co81)) (fun _ hk => trivial)⟩
          have n1_ : Aside0 (((w78.setCell ⟨gb132, 0, none⟩ (.int .i64 t128)).setCell ⟨gb132, 1, none⟩ (.slice (some ad133) t129.length co81)).heap[gb127]? = some (.cells #[.int .i64 0, .int .i64 0, .int .i64 0, .int .i64 0, .int .i64 0, .int .i64 0, .bool false] 51 (0, 0))) := ⟨by (with_reducible repeat (first | refine blk_drewN ?_ _ | refine blk_drew ?_ | refine blk_alloc ?_ _)); refine blk_far ?_ NB127_132.out _; (with_reducible repeat (first | refine blk_drewN ?_ _ | refine blk_drew ?_ | refine blk_alloc ?_ _)); refine blk_far ?_ NB127_132.out _; (with_reducible repeat (first | refine blk_drewN ?_ _ | refine blk_drew ?_ | refine blk_alloc ?_ _)); exact BK127.out⟩
          have n2_ : Aside0 (((w78.setCell ⟨gb132, 0, none⟩ (.int .i64 t128)).setCell ⟨gb132, 1, none⟩ (.slice (some ad133) t129.length co81)).heap[gb132]? = some (.cells #[.int .i64 t128, .slice (some ad133) t129.length co81] 108 (0, 0))) := ⟨by (with_reducible repeat (first | refine blk_drewN ?_ _ | refine blk_drew ?_ | refine blk_alloc ?_ _)); refine blk_put (cs := #[.int .i64 t128, .slice none 0 0]) ?_ 1 _ rfl; refine blk_put (cs := #[.int .i64 0, .slice none 0 0]) ?_ 0 _ rfl; exact bpl BK132.out⟩
          have n3_ : Aside0 (Below w.heap.size w ((w78.setCell ⟨gb132, 0, none⟩ (.int .i64 t128)).setCell ⟨gb132, 1, none⟩ (.slice (some ad133) t129.length co81))) := ⟨bnx⟩
          (try clear HO131)
          (try clear BK127)
          (try clear BK132)
          (try clear HB)
          generalize ((w78.setCell ⟨gb132, 0, none⟩ (.int .i64 t128)).setCell ⟨gb132, 1, none⟩ (.slice (some ad133) t129.length co81)) = w82 at n0_ n1_ n2_ n3_ ⊢
          have HO131 := n0_
          have BK127 := n1_
          have BK132 := n2_
          have HB := n3_
          clear n0_ n1_ n2_ n3_
          replace HO131 := am (Kd.R_drew HO131.out)
          replace BK127 := am (blk_drew BK127.out)
          replace BK132 := am (blk_drew BK132.out)
          replace HB := am (below_drew1 HB.out)
          have p134 : 0 ≤ (0 : Int) := (by omega)
          have q134 : 0 < (t129.length : Int) := dta
          obtain ⟨ad134, e134, hx134_0⟩ := Kd.at_int (Kd.R_reads' HO131.out).2.2 0 p134 q134
          obtain rfl : ad133 = ad134 := (by injection e134)
          have qi134 : (0 < t129.length) = True := eq_true (by omega)
          (try rw [show ((0 : Int)).toNat = 0 from rfl] at hx134_0)
          (try rw [Addr.add_zero'] at hx134_0)
          replace p134 := eq_true p134
          replace q134 := eq_true q134
          have p135 : 0 ≤ (1 : Int) := (by omega)
          have q135 : 1 < (t129.length : Int) := dta
          obtain ⟨ad135, e135, hx135_0⟩ := Kd.at_int (Kd.R_reads' HO131.out).2.2 1 p135 q135
          obtain rfl : ad133 = ad135 := (by injection e135)
          (try simp only [show (1 : Int).toNat = 1 from rfl, Nat.reduceMul, Nat.reduceEqDiff, Go.Addr.add, ↓reduceIte] at hx135_0)
          have qi135 : (1 < t129.length) = True := eq_true (by omega)
          (try rw [show ((1 : Int)).toNat = 1 from rfl] at hx135_0)
          replace p135 := eq_true p135
          replace q135 := eq_true q135
          refine start_ (n := 25) (S := fun w' => w'.cell? ad133 = some (.int .u8 (rd t129 0)) ∧ w'.cell? ⟨ad133.block, ad133.off + 1, none⟩ = some (.int .u8 (rd t129 1))) (ds := []) #[false, false, false, false, false, false, false, false, false, false, false, false, false, false, false, false, false, false, false, false, false, false, false, false, false] (by kernel_rfl) rfl rfl ⟨hx134_0, hx135_0⟩ (fun hHeld => ?_); refine with_tabW spec_ReadHead.tab8 spec_ReadHead.bits8 (fun HT_ HW_ => ?_)
          generalize w82.drew = w83 at HO131 BK127 BK132 HB hx134_0 hx135_0 hHeld ⊢
          refine pu_ 0 25 HT_ ?_
          refine pu_ 1 26 HT_ ?_
          refine pu_ 5 30 HT_ ?_
          refine pu_ 6 31 HT_ ?_
          refine pu_ 10 35 HT_ ?_
          refine pu_ 11 36 HT_ ?_
          refine pu_ 12 37 HT_ ?_
          refine pu_ 13 38 HT_ ?_
          refine pu_ 14 39 HT_ ?_
          refine pu_ 15 40 HT_ ?_
          refine pu_ 16 41 HT_ ?_
          refine pu_ 17 42 HT_ ?_
          refine pu_ 18 43 HT_ ?_
          refine pu_ 19 44 HT_ ?_
          refine pu_ 20 45 HT_ ?_
          refine pu_ 21 46 HT_ ?_
          refine tk_ 2 27 HT_ HW_ hHeld ?_
          refine pu_ 3 28 HT_ ?_
          refine pu_ 4 29 HT_ ?_
          refine tk_ 7 32 HT_ HW_ hHeld ?_
          refine pu_ 8 33 HT_ ?_
          refine pu_ 9 34 HT_ ?_
          refine pu_ 22 47 HT_ ?_
          refine on_ 23 HT_ (fun K hK => ?_)
          refine bst 6 49 #[.int .i64 0, .int .i64 0, .int .i64 0, .int .i64 0, .int .i64 0, .bool false] ?_
          intro gb136 hg w84 hbox hb
          have HS0_ := (hb.cell (World.block_lt_of_cell? _ _ (hHeld.1))).trans (hHeld.1)
          have HS1_ := (hb.cell (World.block_lt_of_cell? _ _ (hHeld.2))).trans (hHeld.2)
          replace HO131 := rbl HO131 hb
          have BK136 := am hbox
          have GW136 := gwe hg
          have GE136 := gwe hg
          replace HB := hbs hb
          have NB127_136 := nbl hg BK127
          have NB136_127 := nbg hg BK127
          replace BK127 := bkb BK127 hb
          have NB132_136 := nbl hg BK132
          have NB136_132 := nbg hg BK132
          replace BK132 := bkb BK132 hb
          clear hb hbox hg
          refine hK.out _ _ ⟨HS0_, HS1_⟩ (fun hHeld => ?_)
          clear hK K
          refine nm_ 6 ?_
          refine on_ 24 HT_ (fun K hK => ?_)
          have hs85 : w84.cell? ⟨gb136, 0, none⟩ = some (.int .i64 0) := (blk_cell BK136.out 0).trans rfl
          have hfs85 := blk_frozen BK136.out 0
          have hns85_0 := NB127_136.out
          have hns85_1 := NB132_136.out
          have hms85_0 := NB136_127.out
          have hms85_1 := NB136_132.out
          have hs86 : w84.cell? ⟨gb136, 1, none⟩ = some (.int .i64 0) := (blk_cell BK136.out 1).trans rfl
          have hfs86 := blk_frozen BK136.out 1
          have hns86_0 := NB127_136.out
          have hns86_1 := NB132_136.out
          have hms86_0 := NB136_127.out
          have hms86_1 := NB136_132.out
          have hs87 : w84.cell? ⟨gb136, 2, none⟩ = some (.int .i64 0) := (blk_cell BK136.out 2).trans rfl
          have hfs87 := blk_frozen BK136.out 2
          have hns87_0 := NB127_136.out
          have hns87_1 := NB132_136.out
          have hms87_0 := NB136_127.out
          have hms87_1 := NB136_132.out
          have hs88 : w84.cell? ⟨gb136, 3, none⟩ = some (.int .i64 0) := (blk_cell BK136.out 3).trans rfl
          have hfs88 := blk_frozen BK136.out 3
          have hns88_0 := NB127_136.out
          have hns88_1 := NB132_136.out
          have hms88_0 := NB136_127.out
          have hms88_1 := NB136_132.out
          have hs89 : w84.cell? ⟨gb136, 4, none⟩ = some (.int .i64 0) := (blk_cell BK136.out 4).trans rfl
          have hfs89 := blk_frozen BK136.out 4
          have hns89_0 := NB127_136.out
          have hns89_1 := NB132_136.out
          have hms89_0 := NB136_127.out
          have hms89_1 := NB136_132.out
          have hs90 : w84.cell? ⟨gb136, 5, none⟩ = some (.bool false) := (blk_cell BK136.out 5).trans rfl
          have hfs90 := blk_frozen BK136.out 5
          have hns90_0 := NB127_136.out
          have hns90_1 := NB132_136.out
          have hms90_0 := NB136_127.out
          have hms90_1 := NB136_132.out
          refine skip_ (w1 := ((((((w84.setCell ⟨gb136, 0, none⟩ (.int .i64 (wrap64 ((wrap64 ((wrap64 (rd t129 0)) * 256)) + (wrap64 (rd t129 1)))))).setCell ⟨gb136, 1, none⟩ (.int .i64 0)).setCell ⟨gb136, 2, none⟩ (.int .i64 (Int.tmod (wrap64 (rd t129 2)) 2))).setCell ⟨gb136, 3, none⟩ (.int .i64 (Int.tmod (wrap64 (Int.tdiv (wrap64 (rd t129 2)) 4)) 4))).setCell ⟨gb136, 4, none⟩ (.int .i64 (Int.tmod (wrap64 (Int.tdiv (wrap64 (rd t129 2)) 16)) 4))).setCell ⟨gb136, 5, none⟩ (.bool ((Int.tmod (wrap64 (Int.tdiv (wrap64 (rd t129 2)) 2)) 2) == 1)))) (by rfl) rfl (by first | (go_simp; done) | (go_simp; rfl)) ?_
          obtain ⟨wz, hch_⟩ : ∃ W_, W_ = ((((((w84.setCell ⟨gb136, 0, none⟩ (.int .i64 (wrap64 ((wrap64 ((wrap64 (rd t129 0)) * 256)) + (wrap64 (rd t129 1)))))).setCell ⟨gb136, 1, none⟩ (.int .i64 0)).setCell ⟨gb136, 2, none⟩ (.int .i64 (Int.tmod (wrap64 (rd t129 2)) 2))).setCell ⟨gb136, 3, none⟩ (.int .i64 (Int.tmod (wrap64 (Int.tdiv (wrap64 (rd t129 2)) 4)) 4))).setCell ⟨gb136, 4, none⟩ (.int .i64 (Int.tmod (wrap64 (Int.tdiv (wrap64 (rd t129 2)) 16)) 4))).setCell ⟨gb136, 5, none⟩ (.bool ((Int.tmod (wrap64 (Int.tdiv (wrap64 (rd t129 2)) 2)) 2) == 1))) := ⟨_, rfl⟩
          rw [← hch_]
          have HSz_ : wz.cell? ad133 = some (.int .u8 (rd t129 0)) ∧ wz.cell? ⟨ad133.block, ad133.off + 1, none⟩ = some (.int .u8 (rd t129 1)) := by rw [hch_]; exact ⟨((cfr (Kd.own_blk (Kd.R_ne HO131.out BK136.out (by decide)))).trans (((cfr (Kd.own_blk (Kd.R_ne HO131.out BK136.out (by decide)))).trans (((cfr (Kd.own_blk (Kd.R_ne HO131.out BK136.out (by decide)))).trans (((cfr (Kd.own_blk (Kd.R_ne HO131.out BK136.out (by decide)))).trans (((cfr (Kd.own_blk (Kd.R_ne HO131.out BK136.out (by decide)))).trans (((cfr (Kd.own_blk (Kd.R_ne HO131.out BK136.out (by decide)))).trans (hHeld.1)))))))))))), ((cfr (Kd.own_blk (Kd.R_ne HO131.out BK136.out (by decide)))).trans (((cfr (Kd.own_blk (Kd.R_ne HO131.out BK136.out (by decide)))).trans (((cfr (Kd.own_blk (Kd.R_ne HO131.out BK136.out (by decide)))).trans (((cfr (Kd.own_blk (Kd.R_ne HO131.out BK136.out (by decide)))).trans (((cfr (Kd.own_blk (Kd.R_ne HO131.out BK136.out (by decide)))).trans (((cfr (Kd.own_blk (Kd.R_ne HO131.out BK136.out (by decide)))).trans (hHeld.2))))))))))))⟩
          have n0_ : Aside0 (wz.heap[gb127]? = some (.cells #[.int .i64 0, .int .i64 0, .int .i64 0, .int .i64 0, .int .i64 0, .int .i64 0, .bool false] 51 (0, 0))) := ⟨by rw [hch_]; (iterate 6 refine blk_far ?_ NB127_136.out _); exact BK127.out⟩
          have n1_ : Aside0 (wz.heap[gb136]? = some (.cells #[.int .i64 (wrap64 ((wrap64 ((wrap64 (rd t129 0)) * 256)) + (wrap64 (rd t129 1)))), .int .i64 0, .int .i64 (Int.tmod (wrap64 (rd t129 2)) 2), .int .i64 (Int.tmod (wrap64 (Int.tdiv (wrap64 (rd t129 2)) 4)) 4), .int .i64 (Int.tmod (wrap64 (Int.tdiv (wrap64 (rd t129 2)) 16)) 4), .bool ((Int.tmod (wrap64 (Int.tdiv (wrap64 (rd t129 2)) 2)) 2) == 1)] 49 (0, 0))) := ⟨by rw [hch_]; refine blk_put (cs := #[.int .i64 (wrap64 ((wrap64 ((wrap64 (rd t129 0)) * 256)) + (wrap64 (rd t129 1)))), .int .i64 0, .int .i64 (Int.tmod (wrap64 (rd t129 2)) 2), .int .i64 (Int.tmod (wrap64 (Int.tdiv (wrap64 (rd t129 2)) 4)) 4), .int .i64 (Int.tmod (wrap64 (Int.tdiv (wrap64 (rd t129 2)) 16)) 4), .bool false]) ?_ 5 _ rfl; refine blk_put (cs := #[.int .i64 (wrap64 ((wrap64 ((wrap64 (rd t129 0)) * 256)) + (wrap64 (rd t129 1)))), .int .i64 0, .int .i64 (Int.tmod (wrap64 (rd t129 2)) 2), .int .i64 (Int.tmod (wrap64 (Int.tdiv (wrap64 (rd t129 2)) 4)) 4), .int .i64 0, .bool false]) ?_ 4 _ rfl; refine blk_put (cs := #[.int .i64 (wrap64 ((wrap64 ((wrap64 (rd t129 0)) * 256)) + (wrap64 (rd t129 1)))), .int .i64 0, .int .i64 (Int.tmod (wrap64 (rd t129 2)) 2), .int .i64 0, .int .i64 0, .bool false]) ?_ 3 _ rfl; refine blk_put (cs := #[.int .i64 (wrap64 ((wrap64 ((wrap64 (rd t129 0)) * 256)) + (wrap64 (rd t129 1)))), .int .i64 0, .int .i64 0, .int .i64 0, .int .i64 0, .bool false]) ?_ 2 _ rfl; refine blk_put (cs := #[.int .i64 (wrap64 ((wrap64 ((wrap64 (rd t129 0)) * 256)) + (wrap64 (rd t129 1)))), .int .i64 0, .int .i64 0, .int .i64 0, .int .i64 0, .bool false]) ?_ 1 _ rfl; refine blk_put (cs := #[.int .i64 0, .int .i64 0, .int .i64 0, .int .i64 0, .int .i64 0, .bool false]) ?_ 0 _ rfl; exact BK136.out⟩
          have n2_ : Aside0 (Below w.heap.size w wz) := ⟨by rw [hch_]; exact bnx⟩
          refine hK.out _ _ HSz_ (fun hHeld => ?_)
          clear HSz_ hch_ BK127 BK136 HB
          have BK127 := n0_
          have BK136 := n1_
          have HB := n2_
          clear n0_ n1_ n2_
          clear hK K
          refine done_ (done_of HT_.out (by kernel_rfl)) ?_
          have hnb91 := NB136_127.out
          have hnc91 := NB127_136.out
          have hnb92 := NB136_132.out
          have hnc92 := NB132_136.out
          obtain ⟨hcz93_0, hcz93_1, hcz93_2, hcz93_3, hcz93_4, hcz93_5, hfz93_0, hfz93_1, hfz93_2, hfz93_3, hfz93_4, hfz93_5⟩ := cf6 (W := wz) BK136.out
          obtain ⟨hcz94_0, hcz94_1, hcz94_2, hcz94_3, hcz94_4, hcz94_5, hcz94_6, hfz94_0, hfz94_1, hfz94_2, hfz94_3, hfz94_4, hfz94_5, hfz94_6⟩ := cf7 (W := wz) BK127.out
          try go_wp2
          refine bodyPost_ret (results_cell_row rfl _ _ gb127 51 #[.int .i64 0, .int .i64 (wrap64 ((wrap64 ((wrap64 (rd t129 0)) * 256)) + (wrap64 (rd t129 1)))), .int .i64 4, .int .i64 (Int.tmod (wrap64 (rd t129 2)) 2), .int .i64 (Int.tmod (wrap64 (Int.tdiv (wrap64 (rd t129 2)) 4)) 4), .int .i64 (Int.tmod (wrap64 (Int.tdiv (wrap64 (rd t129 2)) 16)) 4), .bool ((Int.tmod (wrap64 (Int.tdiv (wrap64 (rd t129 2)) 2)) 2) == 1)] (0, 0) _ rfl (by (with_reducible repeat (first | refine blk_drewN ?_ _ | refine blk_drew ?_ | refine blk_alloc ?_ _)); refine blk_put (cs := #[.int .i64 0, .int .i64 (wrap64 ((wrap64 ((wrap64 (rd t129 0)) * 256)) + (wrap64 (rd t129 1)))), .int .i64 4, .int .i64 (Int.tmod (wrap64 (rd t129 2)) 2), .int .i64 (Int.tmod (wrap64 (Int.tdiv (wrap64 (rd t129 2)) 4)) 4), .int .i64 (Int.tmod (wrap64 (Int.tdiv (wrap64 (rd t129 2)) 16)) 4), .bool false]) ?_ 6 _ rfl; refine blk_put (cs := #[.int .i64 0, .int .i64 (wrap64 ((wrap64 ((wrap64 (rd t129 0)) * 256)) + (wrap64 (rd t129 1)))), .int .i64 4, .int .i64 (Int.tmod (wrap64 (rd t129 2)) 2), .int .i64 (Int.tmod (wrap64 (Int.tdiv (wrap64 (rd t129 2)) 4)) 4), .int .i64 0, .bool false]) ?_ 5 _ rfl; refine blk_put (cs := #[.int .i64 0, .int .i64 (wrap64 ((wrap64 ((wrap64 (rd t129 0)) * 256)) + (wrap64 (rd t129 1)))), .int .i64 4, .int .i64 (Int.tmod (wrap64 (rd t129 2)) 2), .int .i64 0, .int .i64 0, .bool false]) ?_ 4 _ rfl; refine blk_put (cs := #[.int .i64 0, .int .i64 (wrap64 ((wrap64 ((wrap64 (rd t129 0)) * 256)) + (wrap64 (rd t129 1)))), .int .i64 4, .int .i64 0, .int .i64 0, .int .i64 0, .bool false]) ?_ 3 _ rfl; refine blk_put (cs := #[.int .i64 0, .int .i64 (wrap64 ((wrap64 ((wrap64 (rd t129 0)) * 256)) + (wrap64 (rd t129 1)))), .int .i64 0, .int .i64 0, .int .i64 0, .int .i64 0, .bool false]) ?_ 2 _ rfl; refine blk_put (cs := #[.int .i64 0, .int .i64 0, .int .i64 0, .int .i64 0, .int .i64 0, .int .i64 0, .bool false]) ?_ 1 _ rfl; refine blk_put (cs := #[.int .i64 0, .int .i64 0, .int .i64 0, .int .i64 0, .int .i64 0, .int .i64 0, .bool false]) ?_ 0 _ rfl; (with_reducible repeat (first | refine blk_drewN ?_ _ | refine blk_drew ?_ | refine blk_alloc ?_ _)); refine blk_far ?_ NB127_136.out _; (with_reducible repeat (first | refine blk_drewN ?_ _ | refine blk_drew ?_ | refine blk_alloc ?_ _)); exact BK127.out) Try.underlying51 rfl (by kernel_rfl)) rfl ?_
          exact ⟨enq, bnx⟩
      ·rw [if_neg c15] at H
       have c15b0 : ((wrap64 (Int.tdiv (wrap64 (rd t129 2)) 64)) == 0) = false := beq_eq_false_iff_ne.mpr c15
       have c15b1 : ((wrap64 (Int.tdiv (wrap64 (rd t129 2)) 64)) != 0) = true := bne_iff_ne.mpr c15
       by_cases c95 : (wrap64 (Int.tdiv (wrap64 (rd t129 2)) 64)) = 1
       ·rw [if_pos c95] at H
        have c95b0 : ((wrap64 (Int.tdiv (wrap64 (rd t129 2)) 64)) == 1) = true := beq_iff_eq.mpr c95
        have c95b1 : ((wrap64 (Int.tdiv (wrap64 (rd t129 2)) 64)) != 1) = false := bne_eq_false_iff_eq.mpr c95
        clear c95
        by_cases c96 : (wrap64 ((wrap64 ((wrap64 (rd t129 0)) * 256)) + (wrap64 (rd t129 1)))) > 9999
        ·rw [if_pos c96] at H
         have c96b0 : decide (9999 < (wrap64 ((wrap64 ((wrap64 (rd t129 0)) * 256)) + (wrap64 (rd t129 1))))) = true := decide_eq_true c96
         clear c96
         simp only [Option.some.injEq, Prod.mk.injEq] at H
         obtain ⟨rfl, rfl, rfl, rfl, rfl, rfl, rfl⟩ := H
         go_enter Try.func38, Try.ntmps38
         try go_wp2_with (first | ((with_reducible refine gate_dst (N := 2) rfl ?_); refine bev 2 51 #[.int .i64 0, .int .i64 0, .int .i64 0, .int .i64 0, .int .i64 0, .int .i64 0, .bool false] ?_; intro gb127 hg w97 hbox hb; have BK127 := am hbox; have GW127 := gwe hg; have GE127 := gwe hg; replace HB := hbs hb; clear hb hbox hg) | ((with_reducible refine gate_callee (f := 102) rfl ?_); refine gl_ 8 Try.func102 #[.slice A0 l0.length c0] ?_; (with_reducible refine (spec_OpenBytes.calls k _ _ l0 t128 t129 _ ?_ ?_ A2.out).mono ?_); exact cpl HR0.out; exact HC0.out; rintro e w98 ⟨v130, rfl, ho0, hb⟩; refine ⟨_, rfl, ?_⟩; have HO131 := rlw ho0; replace BK127 := bkb BK127 hb; replace HB := hbs hb; (try clear hb); (try clear ho0)) | ((with_reducible refine gate_dst (N := 3) rfl ?_); refine bev 3 108 #[.int .i64 0, .slice none 0 0] ?_; intro gb132 hg w99 hbox hb; replace HO131 := rbl HO131 hb; have BK132 := am hbox; have GW132 := gwe hg; have GE132 := gwe hg; replace HB := hbs hb; have NB127_132 := nbl hg BK127; have NB132_127 := nbg hg BK127; replace BK127 := bkb BK127 hb; clear hb hbox hg; have hnb100 := NB132_127.out; have hnc100 := NB127_132.out; obtain ⟨hcz101_0, hcz101_1, hfz101_0, hfz101_1⟩ := cf2 (W := w99) BK132.out; obtain ⟨Ao102, co102, eo102⟩ := Kd.R_slice HO131.out; subst eo102; have p133 : 0 ≤ (2 : Int) := (by omega); have q133 : 2 < (t129.length : Int) := dta; obtain ⟨ad133, e133, hx133_0⟩ := Kd.at_int (Kd.R_reads' HO131.out).2.2 2 p133 q133; cases e133; (try simp only [show (2 : Int).toNat = 2 from rfl, Nat.reduceMul, Nat.reduceEqDiff, Go.Addr.add, ↓reduceIte] at hx133_0); have qi133 : (2 < t129.length) = True := eq_true (by omega); (try rw [show ((2 : Int)).toNat = 2 from rfl] at hx133_0); have hn133_0 : ad133.block ≠ gb132 := Kd.own_blk (Kd.R_ne HO131.out BK132.out (by decide)); have hn133_1 : ad133.block ≠ gb132 := Kd.own_blk (Kd.R_ne HO131.out BK132.out (by decide)); replace hx133_0 := (cell_far (p := ⟨gb132, 0, none⟩) (by first | (rw [add_block]; exact hn133_0) | (show (Addr.add _ _).block ≠ _; rw [add_block]; exact hn133_0) | exact hn133_0) (.int .i64 t128)).trans hx133_0; replace hx133_0 := (cell_far (p := ⟨gb132, 1, none⟩) (by first | (rw [add_block]; exact hn133_1) | (show (Addr.add _ _).block ≠ _; rw [add_block]; exact hn133_1) | exact hn133_1) (.slice (some ad133) t129.length co102)).trans hx133_0; clear hn133_0 hn133_1; replace p133 := eq_true p133; replace q133 := eq_true q133))
         have n0_ : Aside0 (Kd.R (Kd.int .u8) 5 ((w99.setCell ⟨gb132, 0, none⟩ (.int .i64 t128)).setCell ⟨gb132, 1, none⟩ (.slice (some ad133) t129.length co102)) w.heap.size (fun _ => True) (.slice (some ad133) t129.length co102) t129) := ⟨by (with_reducible repeat (first | apply Kd.R_alloc | apply Kd.R_drewN | apply Kd.R_drew)); exact Kd.R_mono (Kd.R_far (p := ⟨gb132, 1, none⟩) (Kd.R_far (p := ⟨gb132, 0, none⟩) (Kd.R_types HO131.out BK132.out (by decide)) (fun _ hk => hk.2) (.int .i64 t128)) (fun _ hk => hk.2) (.slice (some ad133) t129.length co102)) (fun _ hk => trivial)⟩
         have n1_ : Aside0 (((w99.setCell ⟨gb132, 0, none⟩ (.int .i64 t128)).setCell ⟨gb132, 1, none⟩ (.slice (some ad133) t129.length co102)).heap[gb127]? = some (.cells #[.int .i64 0, .int .i64 0, .int .i64 0, .int .i64 0, .int .i64 0, .int .i64 0, .bool false] 51 (0, 0))) := ⟨by (with_reducible repeat (first | refine blk_drewN ?_ _ | refine blk_drew ?_ | refine blk_alloc ?_ _)); refine blk_far ?_ NB127_132.out _; (with_reducible repeat (first | refine blk_drewN ?_ _ | refine blk_drew ?_ | refine blk_alloc ?_ _)); refine blk_far ?_ NB127_132.out _; (with_reducible repeat (first | refine blk_drewN ?_ _ | refine blk_drew ?_ | refine blk_alloc ?_ _)); exact BK127.out⟩
         have n2_ : Aside0 (((w99.setCell ⟨gb132, 0, none⟩ (.int .i64 t128)).setCell ⟨gb132, 1, none⟩ (.slice (some ad133) t129.length co102)).heap[gb132]? = some (.cells #[.int .i64 t128, .slice (some ad133) t129.length co102] 108 (0, 0))) := ⟨by (with_reducible repeat (first | refine blk_drewN ?_ _ | refine blk_drew ?_ | refine blk_alloc ?_ _)); refine blk_put (cs := #[.int .i64 t128, .slice none 0 0]) ?_ 1 _ rfl; refine blk_put (cs := #[.int .i64 0, .slice none 0 0]) ?_ 0 _ rfl; exact bpl BK132.out⟩
         have n3_ : Aside0 (Below w.heap.size w ((w99.setCell ⟨gb132, 0, none⟩ (.int .i64 t128)).setCell ⟨gb132, 1, none⟩ (.slice (some ad133) t129.length co102))) := ⟨bnx⟩
         (try clear HO131)
         (try clear BK127)
         (try clear BK132)
         (try clear HB)
         generalize ((w99.setCell ⟨gb132, 0, none⟩ (.int .i64 t128)).setCell ⟨gb132, 1, none⟩ (.slice (some ad133) t129.length co102)) = w103 at n0_ n1_ n2_ n3_ ⊢
         have HO131 := n0_
         have BK127 := n1_
         have BK132 := n2_
         have HB := n3_
         clear n0_ n1_ n2_ n3_
         replace HO131 := am (Kd.R_drew HO131.out)
         replace BK127 := am (blk_drew BK127.out)
         replace BK132 := am (blk_drew BK132.out)
         replace HB := am (below_drew1 HB.out)
         have p134 : 0 ≤ (0 : Int) := (by omega)
         have q134 : 0 < (t129.length : Int) := dta
         obtain ⟨ad134, e134, hx134_0⟩ := Kd.at_int (Kd.R_reads' HO131.out).2.2 0 p134 q134
         obtain rfl : ad133 = ad134 := (by injection e134)
         have qi134 : (0 < t129.length) = True := eq_true (by omega)
         (try rw [show ((0 : Int)).toNat = 0 from rfl] at hx134_0)
         (try rw [Addr.add_zero'] at hx134_0)
         replace p134 := eq_true p134
         replace q134 := eq_true q134
         have p135 : 0 ≤ (1 : Int) := (by omega)
         have q135 : 1 < (t129.length : Int) := dta
         obtain ⟨ad135, e135, hx135_0⟩ := Kd.at_int (Kd.R_reads' HO131.out).2.2 1 p135 q135
         obtain rfl : ad133 = ad135 := (by injection e135)
         (try simp only [show (1 : Int).toNat = 1 from rfl, Nat.reduceMul, Nat.reduceEqDiff, Go.Addr.add, ↓reduceIte] at hx135_0)
         have qi135 : (1 < t129.length) = True := eq_true (by omega)
         (try rw [show ((1 : Int)).toNat = 1 from rfl] at hx135_0)
         replace p135 := eq_true p135
         replace q135 := eq_true q135
         refine start_ (n := 25) (S := fun w' => w'.cell? ad133 = some (.int .u8 (rd t129 0)) ∧ w'.cell? ⟨ad133.block, ad133.off + 1, none⟩ = some (.int .u8 (rd t129 1))) (ds := []) #[false, false, false, false, false, false, false, false, false, false, false, false, false, false, false, false, false, false, false, false, false, false, false, false, false] (by kernel_rfl) rfl rfl ⟨hx134_0, hx135_0⟩ (fun hHeld => ?_); refine with_tabW spec_ReadHead.tab8 spec_ReadHead.bits8 (fun HT_ HW_ => ?_)
         generalize w103.drew = w104 at HO131 BK127 BK132 HB hx134_0 hx135_0 hHeld ⊢
         refine pu_ 0 25 HT_ ?_
         refine pu_ 1 26 HT_ ?_
         refine pu_ 5 30 HT_ ?_
         refine pu_ 6 31 HT_ ?_
         refine pu_ 10 35 HT_ ?_
         refine pu_ 11 36 HT_ ?_
         refine pu_ 12 37 HT_ ?_
         refine pu_ 13 38 HT_ ?_
         refine pu_ 14 39 HT_ ?_
         refine pu_ 15 40 HT_ ?_
         refine pu_ 16 41 HT_ ?_
         refine pu_ 17 42 HT_ ?_
         refine pu_ 18 43 HT_ ?_
         refine pu_ 19 44 HT_ ?_
         refine pu_ 20 45 HT_ ?_
         refine pu_ 21 46 HT_ ?_
         refine tk_ 2 27 HT_ HW_ hHeld ?_
         refine pu_ 3 28 HT_ ?_
         refine pu_ 4 29 HT_ ?_
         refine tk_ 7 32 HT_ HW_ hHeld ?_
         refine pu_ 8 33 HT_ ?_
         refine pu_ 9 34 HT_ ?_
         refine pu_ 22 47 HT_ ?_
         refine on_ 23 HT_ (fun K hK => ?_)
         refine bst 6 49 #[.int .i64 0, .int .i64 0, .int .i64 0, .int .i64 0, .int .i64 0, .bool false] ?_
         intro gb136 hg w105 hbox hb
         have HS0_ := (hb.cell (World.block_lt_of_cell? _ _ (hHeld.1))).trans (hHeld.1)
         have HS1_ := (hb.cell (World.block_lt_of_cell? _ _ (hHeld.2))).trans (hHeld.2)
         replace HO131 := rbl HO131 hb
         have BK136 := am hbox
         have GW136 := gwe hg
         have GE136 := gwe hg
         replace HB := hbs hb
         have NB127_136 := nbl hg BK127
         have NB136_127 := nbg hg BK127
         replace BK127 := bkb BK127 hb
         have NB132_136 := nbl hg BK132
         have NB136_132 := nbg hg BK132
         replace BK132 := bkb BK132 hb
         clear hb hbox hg
         refine hK.out _ _ ⟨HS0_, HS1_⟩ (fun hHeld => ?_)
         clear hK K
         refine nm_ 6 ?_
         refine on_ 24 HT_ (fun K hK => ?_)
         have hs106 : w105.cell? ⟨gb136, 0, none⟩ = some (.int .i64 0) := (blk_cell BK136.out 0).trans rfl
         have hfs106 := blk_frozen BK136.out 0
         have hns106_0 := NB127_136.out
         have hns106_1 := NB132_136.out
         have hms106_0 := NB136_127.out
         have hms106_1 := NB136_132.out
         have hs107 : w105.cell? ⟨gb136, 1, none⟩ = some (.int .i64 0) := (blk_cell BK136.out 1).trans rfl
         have hfs107 := blk_frozen BK136.out 1
         have hns107_0 := NB127_136.out
         have hns107_1 := NB132_136.out
         have hms107_0 := NB136_127.out
         have hms107_1 := NB136_132.out
         have hs108 : w105.cell? ⟨gb136, 2, none⟩ = some (.int .i64 0) := (blk_cell BK136.out 2).trans rfl
         have hfs108 := blk_frozen BK136.out 2
         have hns108_0 := NB127_136.out
         have hns108_1 := NB132_136.out
         have hms108_0 := NB136_127.out
         have hms108_1 := NB136_132.out
         have hs109 : w105.cell? ⟨gb136, 3, none⟩ = some (.int .i64 0) := (blk_cell BK136.out 3).trans rfl
         have hfs109 := blk_frozen BK136.out 3
         have hns109_0 := NB127_136.out
         have hns109_1 := NB132_136.out
         have hms109_0 := NB136_127.out
         have hms109_1 := NB136_132.out
         have hs110 : w105.cell? ⟨gb136, 4, none⟩ = some (.int .i64 0) := (blk_cell BK136.out 4).trans rfl
         have hfs110 := blk_frozen BK136.out 4
         have hns110_0 := NB127_136.out
         have hns110_1 := NB132_136.out
         have hms110_0 := NB136_127.out
         have hms110_1 := NB136_132.out
         have hs111 : w105.cell? ⟨gb136, 5, none⟩ = some (.bool false) := (blk_cell BK136.out 5).trans rfl
         have hfs111 := blk_frozen BK136.out 5
         have hns111_0 := NB127_136.out
         have hns111_1 := NB132_136.out
         have hms111_0 := NB136_127.out
         have hms111_1 := NB136_132.out
         refine skip_ (w1 := ?_) (by rfl) rfl ?_ ?_
         rotate_left
         ·go_simp
          rfl
         refine hK.out _ _ ⟨((cfr (Kd.own_blk (Kd.R_ne HO131.out BK136.out (by decide)))).trans (((cfr (Kd.own_blk (Kd.R_ne HO131.out BK136.out (by decide)))).trans (((cfr (Kd.own_blk (Kd.R_ne HO131.out BK136.out (by decide)))).trans (((cfr (Kd.own_blk (Kd.R_ne HO131.out BK136.out (by decide)))).trans (((cfr (Kd.own_blk (Kd.R_ne HO131.out BK136.out (by decide)))).trans (((cfr (Kd.own_blk (Kd.R_ne HO131.out BK136.out (by decide)))).trans (hHeld.1)))))))))))), ((cfr (Kd.own_blk (Kd.R_ne HO131.out BK136.out (by decide)))).trans (((cfr (Kd.own_blk (Kd.R_ne HO131.out BK136.out (by decide)))).trans (((cfr (Kd.own_blk (Kd.R_ne HO131.out BK136.out (by decide)))).trans (((cfr (Kd.own_blk (Kd.R_ne HO131.out BK136.out (by decide)))).trans (((cfr (Kd.own_blk (Kd.R_ne HO131.out BK136.out (by decide)))).trans (((cfr (Kd.own_blk (Kd.R_ne HO131.out BK136.out (by decide)))).trans (hHeld.2))))))))))))⟩ (fun hHeld => ?_)
         clear hK K
         refine done_ (done_of HT_.out (by kernel_rfl)) ?_
         have hnb112 := NB136_127.out
         have hnc112 := NB127_136.out
         have hnb113 := NB136_132.out
         have hnc113 := NB132_136.out
         obtain ⟨hcz114_0, hcz114_1, hcz114_2, hcz114_3, hcz114_4, hcz114_5, hfz114_0, hfz114_1, hfz114_2, hfz114_3, hfz114_4, hfz114_5⟩ := cf6 (W := w105) BK136.out
         obtain ⟨hcz115_0, hcz115_1, hcz115_2, hcz115_3, hcz115_4, hcz115_5, hcz115_6, hfz115_0, hfz115_1, hfz115_2, hfz115_3, hfz115_4, hfz115_5, hfz115_6⟩ := cf7 (W := w105) BK127.out
         try go_wp2
         refine bodyPost_ret (results_cell_row rfl _ _ gb127 51 #[.int .i64 5, .int .i64 0, .int .i64 0, .int .i64 0, .int .i64 0, .int .i64 0, .bool false] (0, 0) _ rfl (by (with_reducible repeat (first | refine blk_drewN ?_ _ | refine blk_drew ?_ | refine blk_alloc ?_ _)); refine blk_put (cs := #[.int .i64 5, .int .i64 0, .int .i64 0, .int .i64 0, .int .i64 0, .int .i64 0, .bool false]) ?_ 6 _ rfl; refine blk_put (cs := #[.int .i64 5, .int .i64 0, .int .i64 0, .int .i64 0, .int .i64 0, .int .i64 0, .bool false]) ?_ 5 _ rfl; refine blk_put (cs := #[.int .i64 5, .int .i64 0, .int .i64 0, .int .i64 0, .int .i64 0, .int .i64 0, .bool false]) ?_ 4 _ rfl; refine blk_put (cs := #[.int .i64 5, .int .i64 0, .int .i64 0, .int .i64 0, .int .i64 0, .int .i64 0, .bool false]) ?_ 3 _ rfl; refine blk_put (cs := #[.int .i64 5, .int .i64 0, .int .i64 0, .int .i64 0, .int .i64 0, .int .i64 0, .bool false]) ?_ 2 _ rfl; refine blk_put (cs := #[.int .i64 5, .int .i64 0, .int .i64 0, .int .i64 0, .int .i64 0, .int .i64 0, .bool false]) ?_ 1 _ rfl; refine blk_put (cs := #[.int .i64 0, .int .i64 0, .int .i64 0, .int .i64 0, .int .i64 0, .int .i64 0, .bool false]) ?_ 0 _ rfl; (with_reducible repeat (first | refine blk_drewN ?_ _ | refine blk_drew ?_ | refine blk_alloc ?_ _)); refine blk_far ?_ NB127_136.out _; (with_reducible repeat (first | refine blk_drewN ?_ _ | refine blk_drew ?_ | refine blk_alloc ?_ _)); refine blk_far ?_ NB127_136.out _; (with_reducible repeat (first | refine blk_drewN ?_ _ | refine blk_drew ?_ | refine blk_alloc ?_ _)); refine blk_far ?_ NB127_136.out _; (with_reducible repeat (first | refine blk_drewN ?_ _ | refine blk_drew ?_ | refine blk_alloc ?_ _)); refine blk_far ?_ NB127_136.out _; (with_reducible repeat (first | refine blk_drewN ?_ _ | refine blk_drew ?_ | refine blk_alloc ?_ _)); refine blk_far ?_ NB127_136.out _; (with_reducible repeat (first | refine blk_drewN ?_ _ | refine blk_drew ?_ | refine blk_alloc ?_ _)); refine blk_far ?_ NB127_136.out _; (with_reducible repeat (first | refine blk_drewN ?_ _ | refine blk_drew ?_ | refine blk_alloc ?_ _)); refine blk_far ?_ NB127_136.out _; (with_reducible repeat (first | refine blk_drewN ?_ _ | refine blk_drew ?_ | refine blk_alloc ?_ _)); exact BK127.out) Try.underlying51 rfl (by kernel_rfl)) rfl ?_
         exact ⟨enq, bnx⟩
        ·rw [if_neg c96] at H
         have c96b0 : decide (9999 < (wrap64 ((wrap64 ((wrap64 (rd t129 0)) * 256)) + (wrap64 (rd t129 1))))) = false := decide_eq_false c96
         clear c96
         by_cases c116 : (Int.tmod (wrap64 (Int.tdiv (wrap64 (rd t129 2)) 4)) 4) > 2
         ·rw [if_pos c116] at H
          have c116b0 : decide (2 < (Int.tmod (wrap64 (Int.tdiv (wrap64 (rd t129 2)) 4)) 4)) = true := decide_eq_true c116
          clear c116
          simp only [Option.some.injEq, Prod.mk.injEq] at H
          obtain ⟨rfl, rfl, rfl, rfl, rfl, rfl, rfl⟩ := H
          go_enter Try.func38, Try.ntmps38
          try go_wp2_with (first | ((with_reducible refine gate_dst (N := 2) rfl ?_); refine bev 2 51 #[.int .i64 0, .int .i64 0, .int .i64 0, .int .i64 0, .int .i64 0, .int .i64 0, .bool false] ?_; intro gb127 hg w117 hbox hb; have BK127 := am hbox; have GW127 := gwe hg; have GE127 := gwe hg; replace HB := hbs hb; clear hb hbox hg) | ((with_reducible refine gate_callee (f := 102) rfl ?_); refine gl_ 8 Try.func102 #[.slice A0 l0.length c0] ?_; (with_reducible refine (spec_OpenBytes.calls k _ _ l0 t128 t129 _ ?_ ?_ A2.out).mono ?_); exact cpl HR0.out; exact HC0.out; rintro e w118 ⟨v130, rfl, ho0, hb⟩; refine ⟨_, rfl, ?_⟩; have HO131 := rlw ho0; replace BK127 := bkb BK127 hb; replace HB := hbs hb; (try clear hb); (try clear ho0)) | ((with_reducible refine gate_dst (N := 3) rfl ?_); refine bev 3 108 #[.int .i64 0, .slice none 0 0] ?_; intro gb132 hg w119 hbox hb; replace HO131 := rbl HO131 hb; have BK132 := am hbox; have GW132 := gwe hg; have GE132 := gwe hg; replace HB := hbs hb; have NB127_132 := nbl hg BK127; have NB132_127 := nbg hg BK127; replace BK127 := bkb BK127 hb; clear hb hbox hg; have hnb120 := NB132_127.out; have hnc120 := NB127_132.out; obtain ⟨hcz121_0, hcz121_1, hfz121_0, hfz121_1⟩ := cf2 (W := w119) BK132.out; obtain ⟨Ao122, co122, eo122⟩ := Kd.R_slice HO131.out; subst eo122; have p133 : 0 ≤ (2 : Int) := (by omega); have q133 : 2 < (t129.length : Int) := dta; obtain ⟨ad133, e133, hx133_0⟩ := Kd.at_int (Kd.R_reads' HO131.out).2.2 2 p133 q133; cases e133; (try simp only [show (2 : Int).toNat = 2 from rfl, Nat.reduceMul, Nat.reduceEqDiff, Go.Addr.add, ↓reduceIte] at hx133_0); have qi133 : (2 < t129.length) = True := eq_true (by omega); (try rw [show ((2 : Int)).toNat = 2 from rfl] at hx133_0); have hn133_0 : ad133.block ≠ gb132 := Kd.own_blk (Kd.R_ne HO131.out BK132.out (by decide)); have hn133_1 : ad133.block ≠ gb132 := Kd.own_blk (Kd.R_ne HO131.out BK132.out (by decide)); replace hx133_0 := (cell_far (p := ⟨gb132, 0, none⟩) (by first | (rw [add_block]; exact hn133_0) | (show (Addr.add _ _).block ≠ _; rw [add_block]; exact hn133_0) | exact hn133_0) (.int .i64 t128)).trans hx133_0; replace hx133_0 := (cell_far (p := ⟨gb132, 1, none⟩) (by first | (rw [add_block]; exact hn133_1) | (show (Addr.add _ _).block ≠ _; rw [add_block]; exact hn133_1) | exact hn133_1) (.slice (some ad133) t129.length co122)).trans hx133_0; clear hn133_0 hn133_1; replace p133 := eq_true p133; replace q133 := eq_true q133))
          have n0_ : Aside0 (Kd.R (Kd.int .u8) 5 ((w119.setCell ⟨gb132, 0, none⟩ (.int .i64 t128)).setCell ⟨gb132, 1, none⟩ (.slice (some ad133) t129.length co122)) w.heap.size (fun _ => True) (.slice (some ad133) t129.length co122) t129) := ⟨by (with_reducible repeat (first | apply Kd.R_alloc | apply Kd.R_drewN | apply Kd.R_drew)); exact Kd.R_mono (Kd.R_far (p := ⟨gb132, 1, none⟩) (Kd.R_far (p := ⟨gb132, 0, none⟩) (Kd.R_types HO131.out BK132.out (by decide)) (fun _ hk => hk.2) (.int .i64 t128)) (fun _ hk => hk.2) (.slice (some ad133) t129.length co122)) (fun _ hk => trivial)⟩
          have n1_ : Aside0 (((w119.setCell ⟨gb132, 0, none⟩ (.int .i64 t128)).setCell ⟨gb132, 1, none⟩ (.slice (some ad133) t129.length co122)).heap[gb127]? = some (.cells #[.int .i64 0, .int .i64 0, .int .i64 0, .int .i64 0, .int .i64 0, .int .i64 0, .bool false] 51 (0, 0))) := ⟨by (with_reducible repeat (first | refine blk_drewN ?_ _ | refine blk_drew ?_ | refine blk_alloc ?_ _)); refine blk_far ?_ NB127_132.out _; (with_reducible repeat (first | refine blk_drewN ?_ _ | refine blk_drew ?_ | refine blk_alloc ?_ _)); refine blk_far ?_ NB127_132.out _; (with_reducible repeat (first | refine blk_drewN ?_ _ | refine blk_drew ?_ | refine blk_alloc ?_ _)); exact BK127.out⟩
          have n2_ : Aside0 (((w119.setCell ⟨gb132, 0, none⟩ (.int .i64 t128)).setCell ⟨gb132, 1, none⟩ (.slice (some ad133) t129.length co122)).heap[gb132]? = some (.cells #[.int .i64 t128, .slice (some ad133) t129.length co122] 108 (0, 0))) := ⟨by (with_reducible repeat (first | refine blk_drewN ?_ _ | refine blk_drew ?_ | refine blk_alloc ?_ _)); refine blk_put (cs := #[.int .i64 t128, .slice none 0 0]) ?_ 1 _ rfl; refine blk_put (cs := #[.int .i64 0, .slice none 0 0]) ?_ 0 _ rfl; exact bpl BK132.out⟩
          have n3_ : Aside0 (Below w.heap.size w ((w119.setCell ⟨gb132, 0, none⟩ (.int .i64 t128)).setCell ⟨gb132, 1, none⟩ (.slice (some ad133) t129.length co122))) := ⟨bnx⟩
          (try clear HO131)
          (try clear BK127)
          (try clear BK132)
          (try clear HB)
          generalize ((w119.setCell ⟨gb132, 0, none⟩ (.int .i64 t128)).setCell ⟨gb132, 1, none⟩ (.slice (some ad133) t129.length co122)) = w123 at n0_ n1_ n2_ n3_ ⊢
          have HO131 := n0_
          have BK127 := n1_
          have BK132 := n2_
          have HB := n3_
          clear n0_ n1_ n2_ n3_
          replace HO131 := am (Kd.R_drew HO131.out)
          replace BK127 := am (blk_drew BK127.out)
          replace BK132 := am (blk_drew BK132.out)
          replace HB := am (below_drew1 HB.out)
          have p134 : 0 ≤ (0 : Int) := (by omega)
          have q134 : 0 < (t129.length : Int) := dta
          obtain ⟨ad134, e134, hx134_0⟩ := Kd.at_int (Kd.R_reads' HO131.out).2.2 0 p134 q134
          obtain rfl : ad133 = ad134 := (by injection e134)
          have qi134 : (0 < t129.length) = True := eq_true (by omega)
          (try rw [show ((0 : Int)).toNat = 0 from rfl] at hx134_0)
          (try rw [Addr.add_zero'] at hx134_0)
          replace p134 := eq_true p134
          replace q134 := eq_true q134
          have p135 : 0 ≤ (1 : Int) := (by omega)
          have q135 : 1 < (t129.length : Int) := dta
          obtain ⟨ad135, e135, hx135_0⟩ := Kd.at_int (Kd.R_reads' HO131.out).2.2 1 p135 q135
          obtain rfl : ad133 = ad135 := (by injection e135)
          (try simp only [show (1 : Int).toNat = 1 from rfl, Nat.reduceMul, Nat.reduceEqDiff, Go.Addr.add, ↓reduceIte] at hx135_0)
          have qi135 : (1 < t129.length) = True := eq_true (by omega)
          (try rw [show ((1 : Int)).toNat = 1 from rfl] at hx135_0)
          replace p135 := eq_true p135
          replace q135 := eq_true q135
          refine start_ (n := 25) (S := fun w' => w'.cell? ad133 = some (.int .u8 (rd t129 0)) ∧ w'.cell? ⟨ad133.block, ad133.off + 1, none⟩ = some (.int .u8 (rd t129 1))) (ds := []) #[false, false, false, false, false, false, false, false, false, false, false, false, false, false, false, false, false, false, false, false, false, false, false, false, false] (by kernel_rfl) rfl rfl ⟨hx134_0, hx135_0⟩ (fun hHeld => ?_); refine with_tabW spec_ReadHead.tab8 spec_ReadHead.bits8 (fun HT_ HW_ => ?_)
          generalize w123.drew = w124 at HO131 BK127 BK132 HB hx134_0 hx135_0 hHeld ⊢
          refine pu_ 0 25 HT_ ?_
          refine pu_ 1 26 HT_ ?_
          refine pu_ 5 30 HT_ ?_
          refine pu_ 6 31 HT_ ?_
          refine pu_ 10 35 HT_ ?_
          refine pu_ 11 36 HT_ ?_
          refine pu_ 12 37 HT_ ?_
          refine pu_ 13 38 HT_ ?_
          refine pu_ 14 39 HT_ ?_
          refine pu_ 15 40 HT_ ?_
          refine pu_ 16 41 HT_ ?_
          refine pu_ 17 42 HT_ ?_
          refine pu_ 18 43 HT_ ?_
          refine pu_ 19 44 HT_ ?_
          refine pu_ 20 45 HT_ ?_
          refine pu_ 21 46 HT_ ?_
          refine tk_ 2 27 HT_ HW_ hHeld ?_
          refine pu_ 3 28 HT_ ?_
          refine pu_ 4 29 HT_ ?_
          refine tk_ 7 32 HT_ HW_ hHeld ?_
          refine pu_ 8 33 HT_ ?_
          refine pu_ 9 34 HT_ ?_
          refine pu_ 22 47 HT_ ?_
          refine on_ 23 HT_ (fun K hK => ?_)
          refine bst 6 49 #[.int .i64 0, .int .i64 0, .int .i64 0, .int .i64 0, .int .i64 0, .bool false] ?_
          intro gb136 hg w125 hbox hb
          have HS0_ := (hb.cell (World.block_lt_of_cell? _ _ (hHeld.1))).trans (hHeld.1)
          have HS1_ := (hb.cell (World.block_lt_of_cell? _ _ (hHeld.2))).trans (hHeld.2)
          replace HO131 := rbl HO131 hb
          have BK136 := am hbox
          have GW136 := gwe hg
          have GE136 := gwe hg
          replace HB := hbs hb
          have NB127_136 := nbl hg BK127
          have NB136_127 := nbg hg BK127
          replace BK127 := bkb BK127 hb
          have NB132_136 := nbl hg BK132
          have NB136_132 := nbg hg BK132
          replace BK132 := bkb BK132 hb
          clear hb hbox hg
          refine hK.out _ _ ⟨HS0_, HS1_⟩ (fun hHeld => ?_)
          clear hK K
          refine nm_ 6 ?_
          refine on_ 24 HT_ (fun K hK => ?_)
          have hs126 : w125.cell? ⟨gb136, 0, none⟩ = some (.int .i64 0) := (blk_cell BK136.out 0).trans rfl
          have hfs126 := blk_frozen BK136.out 0
          have hns126_0 := NB127_136.out
          have hns126_1 := NB132_136.out
          have hms126_0 := NB136_127.out
          have hms126_1 := NB136_132.out
          have hs127 : w125.cell? ⟨gb136, 1, none⟩ = some (.int .i64 0) := (blk_cell BK136.out 1).trans rfl
          have hfs127 := blk_frozen BK136.out 1
          have hns127_0 := NB127_136.out
          have hns127_1 := NB132_136.out
          have hms127_0 := NB136_127.out
          have hms127_1 := NB136_132.out
          have hs128 : w125.cell? ⟨gb136, 2, none⟩ = some (.int .i64 0) := (blk_cell BK136.out 2).trans rfl
          have hfs128 := blk_frozen BK136.out 2
          have hns128_0 := NB127_136.out
          have hns128_1 := NB132_136.out
          have hms128_0 := NB136_127.out
          have hms128_1 := NB136_132.out
          have hs129 : w125.cell? ⟨gb136, 3, none⟩ = some (.int .i64 0) := (blk_cell BK136.out 3).trans rfl
          have hfs129 := blk_frozen BK136.out 3
          have hns129_0 := NB127_136.out
          have hns129_1 := NB132_136.out
          have hms129_0 := NB136_127.out
          have hms129_1 := NB136_132.out
          have hs130 : w125.cell? ⟨gb136, 4, none⟩ = some (.int .i64 0) := (blk_cell BK136.out 4).trans rfl
          have hfs130 := blk_frozen BK136.out 4
          have hns130_0 := NB127_136.out
          have hns130_1 := NB132_136.out
          have hms130_0 := NB136_127.out
          have hms130_1 := NB136_132.out
          have hs131 : w125.cell? ⟨gb136, 5, none⟩ = some (.bool false) := (blk_cell BK136.out 5).trans rfl
          have hfs131 := blk_frozen BK136.out 5
          have hns131_0 := NB127_136.out
          have hns131_1 := NB132_136.out
          have hms131_0 := NB136_127.out
          have hms131_1 := NB136_132.out
          refine skip_ (w1 := ?_) (by rfl) rfl ?_ ?_
          rotate_left
          ·go_simp
           rfl
          refine hK.out _ _ ⟨((cfr (Kd.own_blk (Kd.R_ne HO131.out BK136.out (by decide)))).trans (((cfr (Kd.own_blk (Kd.R_ne HO131.out BK136.out (by decide)))).trans (((cfr (Kd.own_blk (Kd.R_ne HO131.out BK136.out (by decide)))).trans (((cfr (Kd.own_blk (Kd.R_ne HO131.out BK136.out (by decide)))).trans (((cfr (Kd.own_blk (Kd.R_ne HO131.out BK136.out (by decide)))).trans (((cfr (Kd.own_blk (Kd.R_ne HO131.out BK136.out (by decide)))).trans (hHeld.1)))))))))))), ((cfr (Kd.own_blk (Kd.R_ne HO131.out BK136.out (by decide)))).trans (((cfr (Kd.own_blk (Kd.R_ne HO131.out BK136.out (by decide)))).trans (((cfr (Kd.own_blk (Kd.R_ne HO131.out BK136.out (by decide)))).trans (((cfr (Kd.own_blk (Kd.R_ne HO131.out BK136.out (by decide)))).trans (((cfr (Kd.own_blk (Kd.R_ne HO131.out BK136.out (by decide)))).trans (((cfr (Kd.own_blk (Kd.R_ne HO131.out BK136.out (by decide)))).trans (hHeld.2))))))))))))⟩ (fun hHeld => ?_)
          clear hK K
          refine done_ (done_of HT_.out (by kernel_rfl)) ?_
          have hnb132 := NB136_127.out
          have hnc132 := NB127_136.out
          have hnb133 := NB136_132.out
          have hnc133 := NB132_136.out
          obtain ⟨hcz134_0, hcz134_1, hcz134_2, hcz134_3, hcz134_4, hcz134_5, hfz134_0, hfz134_1, hfz134_2, hfz134_3, hfz134_4, hfz134_5⟩ := cf6 (W := w125) BK136.out
          obtain ⟨hcz135_0, hcz135_1, hcz135_2, hcz135_3, hcz135_4, hcz135_5, hcz135_6, hfz135_0, hfz135_1, hfz135_2, hfz135_3, hfz135_4, hfz135_5, hfz135_6⟩ := cf7 (W := w125) BK127.out
          try go_wp2
          refine bodyPost_ret (results_cell_row rfl _ _ gb127 51 #[.int .i64 5, .int .i64 0, .int .i64 0, .int .i64 0, .int .i64 0, .int .i64 0, .bool false] (0, 0) _ rfl (by (with_reducible repeat (first | refine blk_drewN ?_ _ | refine blk_drew ?_ | refine blk_alloc ?_ _)); refine blk_put (cs := #[.int .i64 5, .int .i64 0, .int .i64 0, .int .i64 0, .int .i64 0, .int .i64 0, .bool false]) ?_ 6 _ rfl; refine blk_put (cs := #[.int .i64 5, .int .i64 0, .int .i64 0, .int .i64 0, .int .i64 0, .int .i64 0, .bool false]) ?_ 5 _ rfl; refine blk_put (cs := #[.int .i64 5, .int .i64 0, .int .i64 0, .int .i64 0, .int .i64 0, .int .i64 0, .bool false]) ?_ 4 _ rfl; refine blk_put (cs := #[.int .i64 5, .int .i64 0, .int .i64 0, .int .i64 0, .int .i64 0, .int .i64 0, .bool false]) ?_ 3 _ rfl; refine blk_put (cs := #[.int .i64 5, .int .i64 0, .int .i64 0, .int .i64 0, .int .i64 0, .int .i64 0, .bool false]) ?_ 2 _ rfl; refine blk_put (cs := #[.int .i64 5, .int .i64 0, .int .i64 0, .int .i64 0, .int .i64 0, .int .i64 0, .bool false]) ?_ 1 _ rfl; refine blk_put (cs := #[.int .i64 0, .int .i64 0, .int .i64 0, .int .i64 0, .int .i64 0, .int .i64 0, .bool false]) ?_ 0 _ rfl; (with_reducible repeat (first | refine blk_drewN ?_ _ | refine blk_drew ?_ | refine blk_alloc ?_ _)); refine blk_far ?_ NB127_136.out _; (with_reducible repeat (first | refine blk_drewN ?_ _ | refine blk_drew ?_ | refine blk_alloc ?_ _)); refine blk_far ?_ NB127_136.out _; (with_reducible repeat (first | refine blk_drewN ?_ _ | refine blk_drew ?_ | refine blk_alloc ?_ _)); refine blk_far ?_ NB127_136.out _; (with_reducible repeat (first | refine blk_drewN ?_ _ | refine blk_drew ?_ | refine blk_alloc ?_ _)); refine blk_far ?_ NB127_136.out _; (with_reducible repeat (first | refine blk_drewN ?_ _ | refine blk_drew ?_ | refine blk_alloc ?_ _)); refine blk_far ?_ NB127_136.out _; (with_reducible repeat (first | refine blk_drewN ?_ _ | refine blk_drew ?_ | refine blk_alloc ?_ _)); refine blk_far ?_ NB127_136.out _; (with_reducible repeat (first | refine blk_drewN ?_ _ | refine blk_drew ?_ | refine blk_alloc ?_ _)); refine blk_far ?_ NB127_136.out _; (with_reducible repeat (first | refine blk_drewN ?_ _ | refine blk_drew ?_ | refine blk_alloc ?_ _)); exact BK127.out) Try.underlying51 rfl (by kernel_rfl)) rfl ?_
          exact ⟨enq, bnx⟩
         ·rw [if_neg c116] at H
          have c116b0 : decide (2 < (Int.tmod (wrap64 (Int.tdiv (wrap64 (rd t129 2)) 4)) 4)) = false := decide_eq_false c116
          clear c116
          by_cases c136 : 8 = 0
          ·exact absurd c136 (by decide)
          ·rw [if_neg c136] at H
           have c136b0 : (8 == 0) = false := beq_eq_false_iff_ne.mpr c136
           have c136b1 : (8 != 0) = true := bne_iff_ne.mpr c136
           simp only [Option.some.injEq, Prod.mk.injEq] at H
           obtain ⟨rfl, rfl, rfl, rfl, rfl, rfl, rfl⟩ := H
           go_enter Try.func38, Try.ntmps38
           try go_wp2_with (first | ((with_reducible refine gate_dst (N := 2) rfl ?_); refine bev 2 51 #[.int .i64 0, .int .i64 0, .int .i64 0, .int .i64 0, .int .i64 0, .int .i64 0, .bool false] ?_; intro gb127 hg w156 hbox hb; have BK127 := am hbox; have GW127 := gwe hg; have GE127 := gwe hg; replace HB := hbs hb; clear hb hbox hg) | ((with_reducible refine gate_callee (f := 102) rfl ?_); refine gl_ 8 Try.func102 #[.slice A0 l0.length c0] ?_; (with_reducible refine (spec_OpenBytes.calls k _ _ l0 t128 t129 _ ?_ ?_ A2.out).mono ?_); exact cpl HR0.out; exact HC0.out; rintro e w157 ⟨v130, rfl, ho0, hb⟩; refine ⟨_, rfl, ?_⟩; have HO131 := rlw ho0; replace BK127 := bkb BK127 hb; replace HB := hbs hb; (try clear hb); (try clear ho0)) | ((with_reducible refine gate_dst (N := 3) rfl ?_); refine bev 3 108 #[.int .i64 0, .slice none 0 0] ?_; intro gb132 hg w158 hbox hb; replace HO131 := rbl HO131 hb; have BK132 := am hbox; have GW132 := gwe hg; have GE132 := gwe hg; replace HB := hbs hb; have NB127_132 := nbl hg BK127; have NB132_127 := nbg hg BK127; replace BK127 := bkb BK127 hb; clear hb hbox hg; have hnb159 := NB132_127.out; have hnc159 := NB127_132.out; obtain ⟨hcz160_0, hcz160_1, hfz160_0, hfz160_1⟩ := cf2 (W := w158) BK132.out; obtain ⟨Ao161, co161, eo161⟩ := Kd.R_slice HO131.out; subst eo161; have p133 : 0 ≤ (2 : Int) := (by omega); have q133 : 2 < (t129.length : Int) := dta; obtain ⟨ad133, e133, hx133_0⟩ := Kd.at_int (Kd.R_reads' HO131.out).2.2 2 p133 q133; cases e133; (try simp only [show (2 : Int).toNat = 2 from rfl, Nat.reduceMul, Nat.reduceEqDiff, Go.Addr.add, ↓reduceIte] at hx133_0); have qi133 : (2 < t129.length) = True := eq_true (by omega); (try rw [show ((2 : Int)).toNat = 2 from rfl] at hx133_0); have hn133_0 : ad133.block ≠ gb132 := Kd.own_blk (Kd.R_ne HO131.out BK132.out (by decide)); have hn133_1 : ad133.block ≠ gb132 := Kd.own_blk (Kd.R_ne HO131.out BK132.out (by decide)); replace hx133_0 := (cell_far (p := ⟨gb132, 0, none⟩) (by first | (rw [add_block]; exact hn133_0) | (show (Addr.add _ _).block ≠ _; rw [add_block]; exact hn133_0) | exact hn133_0) (.int .i64 t128)).trans hx133_0; replace hx133_0 := (cell_far (p := ⟨gb132, 1, none⟩) (by first | (rw [add_block]; exact hn133_1) | (show (Addr.add _ _).block ≠ _; rw [add_block]; exact hn133_1) | exact hn133_1) (.slice (some ad133) t129.length co161)).trans hx133_0; clear hn133_0 hn133_1; replace p133 := eq_true p133; replace q133 := eq_true q133))
           have n0_ : Aside0 (Kd.R (Kd.int .u8) 5 ((w158.setCell ⟨gb132, 0, none⟩ (.int .i64 t128)).setCell ⟨gb132, 1, none⟩ (.slice (some ad133) t129.length co161)) w.heap.size (fun _ => True) (.slice (some ad133) t129.length co161) t129) := ⟨by (with_reducible repeat (first | apply Kd.R_alloc | apply Kd.R_drewN | apply Kd.R_drew)); exact Kd.R_mono (Kd.R_far (p := ⟨gb132, 1, none⟩) (Kd.R_far (p := ⟨gb132, 0, none⟩) (Kd.R_types HO131.out BK132.out (by decide)) (fun _ hk => hk.2) (.int .i64 t128)) (fun _ hk => hk.2) (.slice (some ad133) t129.length co161)) (fun _ hk => trivial)⟩
           have n1_ : Aside0 (((w158.setCell ⟨gb132, 0, none⟩ (.int .i64 t128)).setCell ⟨gb132, 1, none⟩ (.slice (some ad133) t129.length co161)).heap[gb127]? = some (.cells #[.int .i64 0, .int .i64 0, .int .i64 0, .int .i64 0, .int .i64 0, .int .i64 0, .bool false] 51 (0, 0))) := ⟨by (with_reducible repeat (first | refine blk_drewN ?_ _ | refine blk_drew ?_ | refine blk_alloc ?_ _)); refine blk_far ?_ NB127_132.out _; (with_reducible repeat (first | refine blk_drewN ?_ _ | refine blk_drew ?_ | refine blk_alloc ?_ _)); refine blk_far ?_ NB127_132.out _; (with_reducible repeat (first | refine blk_drewN ?_ _ | refine blk_drew ?_ | refine blk_alloc ?_ _)); exact BK127.out⟩
           have n2_ : Aside0 (((w158.setCell ⟨gb132, 0, none⟩ (.int .i64 t128)).setCell ⟨gb132, 1, none⟩ (.slice (some ad133) t129.length co161)).heap[gb132]? = some (.cells #[.int .i64 t128, .slice (some ad133) t129.length co161] 108 (0, 0))) := ⟨by (with_reducible repeat (first | refine blk_drewN ?_ _ | refine blk_drew ?_ | refine blk_alloc ?_ _)); refine blk_put (cs := #[.int .i64 t128, .slice none 0 0]) ?_ 1 _ rfl; refine blk_put (cs := #[.int .i64 0, .slice none 0 0]) ?_ 0 _ rfl; exact bpl BK132.out⟩
           have n3_ : Aside0 (Below w.heap.size w ((w158.setCell ⟨gb132, 0, none⟩ (.int .i64 t128)).setCell ⟨gb132, 1, none⟩ (.slice (some ad133) t129.length co161))) := ⟨bnx⟩
           (try clear HO131)
           (try clear BK127)
           (try clear BK132)
           (try clear HB)
           generalize ((w158.setCell ⟨gb132, 0, none⟩ (.int .i64 t128)).setCell ⟨gb132, 1, none⟩ (.slice (some ad133) t129.length co161)) = w162 at n0_ n1_ n2_ n3_ ⊢
           have HO131 := n0_
           have BK127 := n1_
           have BK132 := n2_
           have HB := n3_
           clear n0_ n1_ n2_ n3_
           replace HO131 := am (Kd.R_drew HO131.out)
           replace BK127 := am (blk_drew BK127.out)
           replace BK132 := am (blk_drew BK132.out)
           replace HB := am (below_drew1 HB.out)
           have p134 : 0 ≤ (0 : Int) := (by omega)
           have q134 : 0 < (t129.length : Int) := dta
           obtain ⟨ad134, e134, hx134_0⟩ := Kd.at_int (Kd.R_reads' HO131.out).2.2 0 p134 q134
           obtain rfl : ad133 = ad134 := (by injection e134)
           have qi134 : (0 < t129.length) = True := eq_true (by omega)
           (try rw [show ((0 : Int)).toNat = 0 from rfl] at hx134_0)
           (try rw [Addr.add_zero'] at hx134_0)
           replace p134 := eq_true p134
           replace q134 := eq_true q134
           have p135 : 0 ≤ (1 : Int) := (by omega)
           have q135 : 1 < (t129.length : Int) := dta
           obtain ⟨ad135, e135, hx135_0⟩ := Kd.at_int (Kd.R_reads' HO131.out).2.2 1 p135 q135
           obtain rfl : ad133 = ad135 := (by injection e135)
           (try simp only [show (1 : Int).toNat = 1 from rfl, Nat.reduceMul, Nat.reduceEqDiff, Go.Addr.add, ↓reduceIte] at hx135_0)
           have qi135 : (1 < t129.length) = True := eq_true (by omega)
           (try rw [show ((1 : Int)).toNat = 1 from rfl] at hx135_0)
           replace p135 := eq_true p135
           replace q135 := eq_true q135
           refine start_ (n := 25) (S := fun w' => w'.cell? ad133 = some (.int .u8 (rd t129 0)) ∧ w'.cell? ⟨ad133.block, ad133.off + 1, none⟩ = some (.int .u8 (rd t129 1))) (ds := []) #[false, false, false, false, false, false, false, false, false, false, false, false, false, false, false, false, false, false, false, false, false, false, false, false, false] (by kernel_rfl) rfl rfl ⟨hx134_0, hx135_0⟩ (fun hHeld => ?_); refine with_tabW spec_ReadHead.tab8 spec_ReadHead.bits8 (fun HT_ HW_ => ?_)
           generalize w162.drew = w163 at HO131 BK127 BK132 HB hx134_0 hx135_0 hHeld ⊢
           refine pu_ 0 25 HT_ ?_
           refine pu_ 1 26 HT_ ?_
           refine pu_ 5 30 HT_ ?_
           refine pu_ 6 31 HT_ ?_
           refine pu_ 10 35 HT_ ?_
           refine pu_ 11 36 HT_ ?_
           refine pu_ 12 37 HT_ ?_
           refine pu_ 13 38 HT_ ?_
           refine pu_ 14 39 HT_ ?_
           refine pu_ 15 40 HT_ ?_
           refine pu_ 16 41 HT_ ?_
           refine pu_ 17 42 HT_ ?_
           refine pu_ 18 43 HT_ ?_
           refine pu_ 19 44 HT_ ?_
           refine pu_ 20 45 HT_ ?_
           refine pu_ 21 46 HT_ ?_
           refine tk_ 2 27 HT_ HW_ hHeld ?_
           refine pu_ 3 28 HT_ ?_
           refine pu_ 4 29 HT_ ?_
           refine tk_ 7 32 HT_ HW_ hHeld ?_
           refine pu_ 8 33 HT_ ?_
           refine pu_ 9 34 HT_ ?_
           refine pu_ 22 47 HT_ ?_
           refine on_ 23 HT_ (fun K hK => ?_)
           refine bst 6 49 #[.int .i64 0, .int .i64 0, .int .i64 0, .int .i64 0, .int .i64 0, .bool false] ?_
           intro gb136 hg w164 hbox hb
           have HS0_ := (hb.cell (World.block_lt_of_cell? _ _ (hHeld.1))).trans (hHeld.1)
           have HS1_ := (hb.cell (World.block_lt_of_cell? _ _ (hHeld.2))).trans (hHeld.2)
           replace HO131 := rbl HO131 hb
           have BK136 := am hbox
           have GW136 := gwe hg
           have GE136 := gwe hg
           replace HB := hbs hb
           have NB127_136 := nbl hg BK127
           have NB136_127 := nbg hg BK127
           replace BK127 := bkb BK127 hb
           have NB132_136 := nbl hg BK132
           have NB136_132 := nbg hg BK132
           replace BK132 := bkb BK132 hb
           clear hb hbox hg
           refine hK.out _ _ ⟨HS0_, HS1_⟩ (fun hHeld => ?_)
           clear hK K
           refine nm_ 6 ?_
           refine on_ 24 HT_ (fun K hK => ?_)
           have hs165 : w164.cell? ⟨gb136, 0, none⟩ = some (.int .i64 0) := (blk_cell BK136.out 0).trans rfl
           have hfs165 := blk_frozen BK136.out 0
           have hns165_0 := NB127_136.out
           have hns165_1 := NB132_136.out
           have hms165_0 := NB136_127.out
           have hms165_1 := NB136_132.out
           have hs166 : w164.cell? ⟨gb136, 1, none⟩ = some (.int .i64 0) := (blk_cell BK136.out 1).trans rfl
           have hfs166 := blk_frozen BK136.out 1
           have hns166_0 := NB127_136.out
           have hns166_1 := NB132_136.out
           have hms166_0 := NB136_127.out
           have hms166_1 := NB136_132.out
           have hs167 : w164.cell? ⟨gb136, 2, none⟩ = some (.int .i64 0) := (blk_cell BK136.out 2).trans rfl
           have hfs167 := blk_frozen BK136.out 2
           have hns167_0 := NB127_136.out
           have hns167_1 := NB132_136.out
           have hms167_0 := NB136_127.out
           have hms167_1 := NB136_132.out
           have hs168 : w164.cell? ⟨gb136, 3, none⟩ = some (.int .i64 0) := (blk_cell BK136.out 3).trans rfl
           have hfs168 := blk_frozen BK136.out 3
           have hns168_0 := NB127_136.out
           have hns168_1 := NB132_136.out
           have hms168_0 := NB136_127.out
           have hms168_1 := NB136_132.out
           have hs169 : w164.cell? ⟨gb136, 4, none⟩ = some (.int .i64 0) := (blk_cell BK136.out 4).trans rfl
           have hfs169 := blk_frozen BK136.out 4
           have hns169_0 := NB127_136.out
           have hns169_1 := NB132_136.out
           have hms169_0 := NB136_127.out
           have hms169_1 := NB136_132.out
           have hs170 : w164.cell? ⟨gb136, 5, none⟩ = some (.bool false) := (blk_cell BK136.out 5).trans rfl
           have hfs170 := blk_frozen BK136.out 5
           have hns170_0 := NB127_136.out
           have hns170_1 := NB132_136.out
           have hms170_0 := NB136_127.out
           have hms170_1 := NB136_132.out
           refine skip_ (w1 := ((((((w164.setCell ⟨gb136, 0, none⟩ (.int .i64 (wrap64 ((wrap64 ((wrap64 (rd t129 0)) * 256)) + (wrap64 (rd t129 1)))))).setCell ⟨gb136, 1, none⟩ (.int .i64 0)).setCell ⟨gb136, 2, none⟩ (.int .i64 (Int.tmod (wrap64 (rd t129 2)) 2))).setCell ⟨gb136, 3, none⟩ (.int .i64 (Int.tmod (wrap64 (Int.tdiv (wrap64 (rd t129 2)) 4)) 4))).setCell ⟨gb136, 4, none⟩ (.int .i64 (Int.tmod (wrap64 (Int.tdiv (wrap64 (rd t129 2)) 16)) 4))).setCell ⟨gb136, 5, none⟩ (.bool ((Int.tmod (wrap64 (Int.tdiv (wrap64 (rd t129 2)) 2)) 2) == 1)))) (by rfl) rfl (by first | (go_simp; done) | (go_simp; rfl)) ?_
           obtain ⟨wz, hch_⟩ : ∃ W_, W_ = ((((((w164.setCell ⟨gb136, 0, none⟩ (.int .i64 (wrap64 ((wrap64 ((wrap64 (rd t129 0)) * 256)) + (wrap64 (rd t129 1)))))).setCell ⟨gb136, 1, none⟩ (.int .i64 0)).setCell ⟨gb136, 2, none⟩ (.int .i64 (Int.tmod (wrap64 (rd t129 2)) 2))).setCell ⟨gb136, 3, none⟩ (.int .i64 (Int.tmod (wrap64 (Int.tdiv (wrap64 (rd t129 2)) 4)) 4))).setCell ⟨gb136, 4, none⟩ (.int .i64 (Int.tmod (wrap64 (Int.tdiv (wrap64 (rd t129 2)) 16)) 4))).setCell ⟨gb136, 5, none⟩ (.bool ((Int.tmod (wrap64 (Int.tdiv (wrap64 (rd t129 2)) 2)) 2) == 1))) := ⟨_, rfl⟩
           rw [← hch_]
           have HSz_ : wz.cell? ad133 = some (.int .u8 (rd t129 0)) ∧ wz.cell? ⟨ad133.block, ad133.off + 1, none⟩ = some (.int .u8 (rd t129 1)) := by rw [hch_]; exact ⟨((cfr (Kd.own_blk (Kd.R_ne HO131.out BK136.out (by decide)))).trans (((cfr (Kd.own_blk (Kd.R_ne HO131.out BK136.out (by decide)))).trans (((cfr (Kd.own_blk (Kd.R_ne HO131.out BK136.out (by decide)))).trans (((cfr (Kd.own_blk (Kd.R_ne HO131.out BK136.out (by decide)))).trans (((cfr (Kd.own_blk (Kd.R_ne HO131.out BK136.out (by decide)))).trans (((cfr (Kd.own_blk (Kd.R_ne HO131.out BK136.out (by decide)))).trans (hHeld.1)))))))))))), ((cfr (Kd.own_blk (Kd.R_ne HO131.out BK136.out (by decide)))).trans (((cfr (Kd.own_blk (Kd.R_ne HO131.out BK136.out (by decide)))).trans (((cfr (Kd.own_blk (Kd.R_ne HO131.out BK136.out (by decide)))).trans (((cfr (Kd.own_blk (Kd.R_ne HO131.out BK136.out (by decide)))).trans (((cfr (Kd.own_blk (Kd.R_ne HO131.out BK136.out (by decide)))).trans (((cfr (Kd.own_blk (Kd.R_ne HO131.out BK136.out (by decide)))).trans (hHeld.2))))))))))))⟩
           have n0_ : Aside0 (wz.heap[gb127]? = some (.cells #[.int .i64 0, .int .i64 0, .int .i64 0, .int .i64 0, .int .i64 0, .int .i64 0, .bool false] 51 (0, 0))) := ⟨by rw [hch_]; (iterate 6 refine blk_far ?_ NB127_136.out _); exact BK127.out⟩
           have n1_ : Aside0 (wz.heap[gb136]? = some (.cells #[.int .i64 (wrap64 ((wrap64 ((wrap64 (rd t129 0)) * 256)) + (wrap64 (rd t129 1)))), .int .i64 0, .int .i64 (Int.tmod (wrap64 (rd t129 2)) 2), .int .i64 (Int.tmod (wrap64 (Int.tdiv (wrap64 (rd t129 2)) 4)) 4), .int .i64 (Int.tmod (wrap64 (Int.tdiv (wrap64 (rd t129 2)) 16)) 4), .bool ((Int.tmod (wrap64 (Int.tdiv (wrap64 (rd t129 2)) 2)) 2) == 1)] 49 (0, 0))) := ⟨by rw [hch_]; refine blk_put (cs := #[.int .i64 (wrap64 ((wrap64 ((wrap64 (rd t129 0)) * 256)) + (wrap64 (rd t129 1)))), .int .i64 0, .int .i64 (Int.tmod (wrap64 (rd t129 2)) 2), .int .i64 (Int.tmod (wrap64 (Int.tdiv (wrap64 (rd t129 2)) 4)) 4), .int .i64 (Int.tmod (wrap64 (Int.tdiv (wrap64 (rd t129 2)) 16)) 4), .bool false]) ?_ 5 _ rfl; refine blk_put (cs := #[.int .i64 (wrap64 ((wrap64 ((wrap64 (rd t129 0)) * 256)) + (wrap64 (rd t129 1)))), .int .i64 0, .int .i64 (Int.tmod (wrap64 (rd t129 2)) 2), .int .i64 (Int.tmod (wrap64 (Int.tdiv (wrap64 (rd t129 2)) 4)) 4), .int .i64 0, .bool false]) ?_ 4 _ rfl; refine blk_put (cs := #[.int .i64 (wrap64 ((wrap64 ((wrap64 (rd t129 0)) * 256)) + (wrap64 (rd t129 1)))), .int .i64 0, .int .i64 (Int.tmod (wrap64 (rd t129 2)) 2), .int .i64 0, .int .i64 0, .bool false]) ?_ 3 _ rfl; refine blk_put (cs := #[.int .i64 (wrap64 ((wrap64 ((wrap64 (rd t129 0)) * 256)) + (wrap64 (rd t129 1)))), .int .i64 0, .int .i64 0, .int .i64 0, .int .i64 0, .bool false]) ?_ 2 _ rfl; refine blk_put (cs := #[.int .i64 (wrap64 ((wrap64 ((wrap64 (rd t129 0)) * 256)) + (wrap64 (rd t129 1)))), .int .i64 0, .int .i64 0, .int .i64 0, .int .i64 0, .bool false]) ?_ 1 _ rfl; refine blk_put (cs := #[.int .i64 0, .int .i64 0, .int .i64 0, .int .i64 0, .int .i64 0, .bool false]) ?_ 0 _ rfl; exact BK136.out⟩
           have n2_ : Aside0 (Below w.heap.size w wz) := ⟨by rw [hch_]; exact bnx⟩
           refine hK.out _ _ HSz_ (fun hHeld => ?_)
           clear HSz_ hch_ BK127 BK136 HB
           have BK127 := n0_
           have BK136 := n1_
           have HB := n2_
           clear n0_ n1_ n2_
           clear hK K
           refine done_ (done_of HT_.out (by kernel_rfl)) ?_
           have hnb171 := NB136_127.out
           have hnc171 := NB127_136.out
           have hnb172 := NB136_132.out
           have hnc172 := NB132_136.out
           obtain ⟨hcz173_0, hcz173_1, hcz173_2, hcz173_3, hcz173_4, hcz173_5, hfz173_0, hfz173_1, hfz173_2, hfz173_3, hfz173_4, hfz173_5⟩ := cf6 (W := wz) BK136.out
           obtain ⟨hcz174_0, hcz174_1, hcz174_2, hcz174_3, hcz174_4, hcz174_5, hcz174_6, hfz174_0, hfz174_1, hfz174_2, hfz174_3, hfz174_4, hfz174_5, hfz174_6⟩ := cf7 (W := wz) BK127.out
           try go_wp2
           refine bodyPost_ret (results_cell_row rfl _ _ gb127 51 #[.int .i64 0, .int .i64 (wrap64 ((wrap64 ((wrap64 (rd t129 0)) * 256)) + (wrap64 (rd t129 1)))), .int .i64 8, .int .i64 (Int.tmod (wrap64 (rd t129 2)) 2), .int .i64 (Int.tmod (wrap64 (Int.tdiv (wrap64 (rd t129 2)) 4)) 4), .int .i64 (Int.tmod (wrap64 (Int.tdiv (wrap64 (rd t129 2)) 16)) 4), .bool ((Int.tmod (wrap64 (Int.tdiv (wrap64 (rd t129 2)) 2)) 2) == 1)] (0, 0) _ rfl (by (with_reducible repeat (first | refine blk_drewN ?_ _ | refine blk_drew ?_ | refine blk_alloc ?_ _)); refine blk_put (cs := #[.int .i64 0, .int .i64 (wrap64 ((wrap64 ((wrap64 (rd t129 0)) * 256)) + (wrap64 (rd t129 1)))), .int .i64 8, .int .i64 (Int.tmod (wrap64 (rd t129 2)) 2), .int .i64 (Int.tmod (wrap64 (Int.tdiv (wrap64 (rd t129 2)) 4)) 4), .int .i64 (Int.tmod (wrap64 (Int.tdiv (wrap64 (rd t129 2)) 16)) 4), .bool false]) ?_ 6 _ rfl; refine blk_put (cs := #[.int .i64 0, .int .i64 (wrap64 ((wrap64 ((wrap64 (rd t129 0)) * 256)) + (wrap64 (rd t129 1)))), .int .i64 8, .int .i64 (Int.tmod (wrap64 (rd t129 2)) 2), .int .i64 (Int.tmod (wrap64 (Int.tdiv (wrap64 (rd t129 2)) 4)) 4), .int .i64 0, .bool false]) ?_ 5 _ rfl; refine blk_put (cs := #[.int .i64 0, .int .i64 (wrap64 ((wrap64 ((wrap64 (rd t129 0)) * 256)) + (wrap64 (rd t129 1)))), .int .i64 8, .int .i64 (Int.tmod (wrap64 (rd t129 2)) 2), .int .i64 0, .int .i64 0, .bool false]) ?_ 4 _ rfl; refine blk_put (cs := #[.int .i64 0, .int .i64 (wrap64 ((wrap64 ((wrap64 (rd t129 0)) * 256)) + (wrap64 (rd t129 1)))), .int .i64 8, .int .i64 0, .int .i64 0, .int .i64 0, .bool false]) ?_ 3 _ rfl; refine blk_put (cs := #[.int .i64 0, .int .i64 (wrap64 ((wrap64 ((wrap64 (rd t129 0)) * 256)) + (wrap64 (rd t129 1)))), .int .i64 0, .int .i64 0, .int .i64 0, .int .i64 0, .bool false]) ?_ 2 _ rfl; refine blk_put (cs := #[.int .i64 0, .int .i64 0, .int .i64 0, .int .i64 0, .int .i64 0, .int .i64 0, .bool false]) ?_ 1 _ rfl; refine blk_put (cs := #[.int .i64 0, .int .i64 0, .int .i64 0, .int .i64 0, .int .i64 0, .int .i64 0, .bool false]) ?_ 0 _ rfl; (with_reducible repeat (first | refine blk_drewN ?_ _ | refine blk_drew ?_ | refine blk_alloc ?_ _)); refine blk_far ?_ NB127_136.out _; (with_reducible repeat (first | refine blk_drewN ?_ _ | refine blk_drew ?_ | refine blk_alloc ?_ _)); exact BK127.out) Try.underlying51 rfl (by kernel_rfl)) rfl ?_
           exact ⟨enq, bnx⟩
       ·rw [if_neg c95] at H
        have c95b0 : ((wrap64 (Int.tdiv (wrap64 (rd t129 2)) 64)) == 1) = false := beq_eq_false_iff_ne.mpr c95
        have c95b1 : ((wrap64 (Int.tdiv (wrap64 (rd t129 2)) 64)) != 1) = true := bne_iff_ne.mpr c95
        by_cases c175 : (wrap64 (Int.tdiv (wrap64 (rd t129 2)) 64)) = 2
        ·rw [if_pos c175] at H
         have c175b0 : ((wrap64 (Int.tdiv (wrap64 (rd t129 2)) 64)) == 2) = true := beq_iff_eq.mpr c175
         have c175b1 : ((wrap64 (Int.tdiv (wrap64 (rd t129 2)) 64)) != 2) = false := bne_eq_false_iff_eq.mpr c175
         clear c175
         by_cases c176 : (wrap64 ((wrap64 ((wrap64 (rd t129 0)) * 256)) + (wrap64 (rd t129 1)))) > 9999
         ·rw [if_pos c176] at H
          have c176b0 : decide (9999 < (wrap64 ((wrap64 ((wrap64 (rd t129 0)) * 256)) + (wrap64 (rd t129 1))))) = true := decide_eq_true c176
          clear c176
          simp only [Option.some.injEq, Prod.mk.injEq] at H
          obtain ⟨rfl, rfl, rfl, rfl, rfl, rfl, rfl⟩ := H
          go_enter Try.func38, Try.ntmps38
          try go_wp2_with (first | ((with_reducible refine gate_dst (N := 2) rfl ?_); refine bev 2 51 #[.int .i64 0, .int .i64 0, .int .i64 0, .int .i64 0, .int .i64 0, .int .i64 0, .bool false] ?_; intro gb127 hg w177 hbox hb; have BK127 := am hbox; have GW127 := gwe hg; have GE127 := gwe hg; replace HB := hbs hb; clear hb hbox hg) | ((with_reducible refine gate_callee (f := 102) rfl ?_); refine gl_ 8 Try.func102 #[.slice A0 l0.length c0] ?_; (with_reducible refine (spec_OpenBytes.calls k _ _ l0 t128 t129 _ ?_ ?_ A2.out).mono ?_); exact cpl HR0.out; exact HC0.out; rintro e w178 ⟨v130, rfl, ho0, hb⟩; refine ⟨_, rfl, ?_⟩; have HO131 := rlw ho0; replace BK127 := bkb BK127 hb; replace HB := hbs hb; (try clear hb); (try clear ho0)) | ((with_reducible refine gate_dst (N := 3) rfl ?_); refine bev 3 108 #[.int .i64 0, .slice none 0 0] ?_; intro gb132 hg w179 hbox hb; replace HO131 := rbl HO131 hb; have BK132 := am hbox; have GW132 := gwe hg; have GE132 := gwe hg; replace HB := hbs hb; have NB127_132 := nbl hg BK127; have NB132_127 := nbg hg BK127; replace BK127 := bkb BK127 hb; clear hb hbox hg; have hnb180 := NB132_127.out; have hnc180 := NB127_132.out; obtain ⟨hcz181_0, hcz181_1, hfz181_0, hfz181_1⟩ := cf2 (W := w179) BK132.out; obtain ⟨Ao182, co182, eo182⟩ := Kd.R_slice HO131.out; subst eo182; have p133 : 0 ≤ (2 : Int) := (by omega); have q133 : 2 < (t129.length : Int) := dta; obtain ⟨ad133, e133, hx133_0⟩ := Kd.at_int (Kd.R_reads' HO131.out).2.2 2 p133 q133; cases e133; (try simp only [show (2 : Int).toNat = 2 from rfl, Nat.reduceMul, Nat.reduceEqDiff, Go.Addr.add, ↓reduceIte] at hx133_0); have qi133 : (2 < t129.length) = True := eq_true (by omega); (try rw [show ((2 : Int)).toNat = 2 from rfl] at hx133_0); have hn133_0 : ad133.block ≠ gb132 := Kd.own_blk (Kd.R_ne HO131.out BK132.out (by decide)); have hn133_1 : ad133.block ≠ gb132 := Kd.own_blk (Kd.R_ne HO131.out BK132.out (by decide)); replace hx133_0 := (cell_far (p := ⟨gb132, 0, none⟩) (by first | (rw [add_block]; exact hn133_0) | (show (Addr.add _ _).block ≠ _; rw [add_block]; exact hn133_0) | exact hn133_0) (.int .i64 t128)).trans hx133_0; replace hx133_0 := (cell_far (p := ⟨gb132, 1, none⟩) (by first | (rw [add_block]; exact hn133_1) | (show (Addr.add _ _).block ≠ _; rw [add_block]; exact hn133_1) | exact hn133_1) (.slice (some ad133) t129.length co182)).trans hx133_0; clear hn133_0 hn133_1; replace p133 := eq_true p133; replace q133 := eq_true q133))
          have n0_ : Aside0 (Kd.R (Kd.int .u8) 5 ((w179.setCell ⟨gb132, 0, none⟩ (.int .i64 t128)).setCell ⟨gb132, 1, none⟩ (.slice (some ad133) t129.length co182)) w.heap.size (fun _ => True) (.slice (some ad133) t129.length co182) t129) := ⟨by (with_reducible repeat (first | apply Kd.R_alloc | apply Kd.R_drewN | apply Kd.R_drew)); exact Kd.R_mono (Kd.R_far (p := ⟨gb132, 1, none⟩) (Kd.R_far (p := ⟨gb132, 0, none⟩) (Kd.R_types HO131.out BK132.out (by decide)) (fun _ hk => hk.2) (.int .i64 t128)) (fun _ hk => hk.2) (.slice (some ad133) t129.length co182)) (fun _ hk => trivial)⟩
          have n1_ : Aside0 (((w179.setCell ⟨gb132, 0, none⟩ (.int .i64 t128)).setCell ⟨gb132, 1, none⟩ (.slice (some ad133) t129.length co182)).heap[gb127]? = some (.cells #[.int .i64 0, .int .i64 0, .int .i64 0, .int .i64 0, .int .i64 0, .int .i64 0, .bool false] 51 (0, 0))) := ⟨by (with_reducible repeat (first | refine blk_drewN ?_ _ | refine blk_drew ?_ | refine blk_alloc ?_ _)); refine blk_far ?_ NB127_132.out _; (with_reducible repeat (first | refine blk_drewN ?_ _ | refine blk_drew ?_ | refine blk_alloc ?_ _)); refine blk_far ?_ NB127_132.out _; (with_reducible repeat (first | refine blk_drewN ?_ _ | refine blk_drew ?_ | refine blk_alloc ?_ _)); exact BK127.out⟩
          have n2_ : Aside0 (((w179.setCell ⟨gb132, 0, none⟩ (.int .i64 t128)).setCell ⟨gb132, 1, none⟩ (.slice (some ad133) t129.length co182)).heap[gb132]? = some (.cells #[.int .i64 t128, .slice (some ad133) t129.length co182] 108 (0, 0))) := ⟨by (with_reducible repeat (first | refine blk_drewN ?_ _ | refine blk_drew ?_ | refine blk_alloc ?_ _)); refine blk_put (cs := #[.int .i64 t128, .slice none 0 0]) ?_ 1 _ rfl; refine blk_put (cs := #[.int .i64 0, .slice none 0 0]) ?_ 0 _ rfl; exact bpl BK132.out⟩
          have n3_ : Aside0 (Below w.heap.size w ((w179.setCell ⟨gb132, 0, none⟩ (.int .i64 t128)).setCell ⟨gb132, 1, none⟩ (.slice (some ad133) t129.length co182))) := ⟨bnx⟩
          (try clear HO131)
          (try clear BK127)
          (try clear BK132)
          (try clear HB)
          generalize ((w179.setCell ⟨gb132, 0, none⟩ (.int .i64 t128)).setCell ⟨gb132, 1, none⟩ (.slice (some ad133) t129.length co182)) = w183 at n0_ n1_ n2_ n3_ ⊢
          have HO131 := n0_
          have BK127 := n1_
          have BK132 := n2_
          have HB := n3_
          clear n0_ n1_ n2_ n3_
          replace HO131 := am (Kd.R_drew HO131.out)
          replace BK127 := am (blk_drew BK127.out)
          replace BK132 := am (blk_drew BK132.out)
          replace HB := am (below_drew1 HB.out)
          have p134 : 0 ≤ (0 : Int) := (by omega)
          have q134 : 0 < (t129.length : Int) := dta
          obtain ⟨ad134, e134, hx134_0⟩ := Kd.at_int (Kd.R_reads' HO131.out).2.2 0 p134 q134
          obtain rfl : ad133 = ad134 := (by injection e134)
          have qi134 : (0 < t129.length) = True := eq_true (by omega)
          (try rw [show ((0 : Int)).toNat = 0 from rfl] at hx134_0)
          (try rw [Addr.add_zero'] at hx134_0)
          replace p134 := eq_true p134
          replace q134 := eq_true q134
          have p135 : 0 ≤ (1 : Int) := (by omega)
          have q135 : 1 < (t129.length : Int) := dta
          obtain ⟨ad135, e135, hx135_0⟩ := Kd.at_int (Kd.R_reads' HO131.out).2.2 1 p135 q135
          obtain rfl : ad133 = ad135 := (by injection e135)
          (try simp only [show (1 : Int).toNat = 1 from rfl, Nat.reduceMul, Nat.reduceEqDiff, Go.Addr.add, ↓reduceIte] at hx135_0)
          have qi135 : (1 < t129.length) = True := eq_true (by omega)
          (try rw [show ((1 : Int)).toNat = 1 from rfl] at hx135_0)
          replace p135 := eq_true p135
          replace q135 := eq_true q135
          refine start_ (n := 25) (S := fun w' => w'.cell? ad133 = some (.int .u8 (rd t129 0)) ∧ w'.cell? ⟨ad133.block, ad133.off + 1, none⟩ = some (.int .u8 (rd t129 1))) (ds := []) #[false, false, false, false, false, false, false, false, false, false, false, false, false, false, false, false, false, false, false, false, false, false, false, false, false] (by kernel_rfl) rfl rfl ⟨hx134_0, hx135_0⟩ (fun hHeld => ?_); refine with_tabW spec_ReadHead.tab8 spec_ReadHead.bits8 (fun HT_ HW_ => ?_)
          generalize w183.drew = w184 at HO131 BK127 BK132 HB hx134_0 hx135_0 hHeld ⊢
          refine pu_ 0 25 HT_ ?_
          refine pu_ 1 26 HT_ ?_
          refine pu_ 5 30 HT_ ?_
          refine pu_ 6 31 HT_ ?_
          refine pu_ 10 35 HT_ ?_
          refine pu_ 11 36 HT_ ?_
          refine pu_ 12 37 HT_ ?_
          refine pu_ 13 38 HT_ ?_
          refine pu_ 14 39 HT_ ?_
          refine pu_ 15 40 HT_ ?_
          refine pu_ 16 41 HT_ ?_
          refine pu_ 17 42 HT_ ?_
          refine pu_ 18 43 HT_ ?_
          refine pu_ 19 44 HT_ ?_
          refine pu_ 20 45 HT_ ?_
          refine pu_ 21 46 HT_ ?_
          refine tk_ 2 27 HT_ HW_ hHeld ?_
          refine pu_ 3 28 HT_ ?_
          refine pu_ 4 29 HT_ ?_
          refine tk_ 7 32 HT_ HW_ hHeld ?_
          refine pu_ 8 33 HT_ ?_
          refine pu_ 9 34 HT_ ?_
          refine pu_ 22 47 HT_ ?_
          refine on_ 23 HT_ (fun K hK => ?_)
          refine bst 6 49 #[.int .i64 0, .int .i64 0, .int .i64 0, .int .i64 0, .int .i64 0, .bool false] ?_
          intro gb136 hg w185 hbox hb
          have HS0_ := (hb.cell (World.block_lt_of_cell? _ _ (hHeld.1))).trans (hHeld.1)
          have HS1_ := (hb.cell (World.block_lt_of_cell? _ _ (hHeld.2))).trans (hHeld.2)
          replace HO131 := rbl HO131 hb
          have BK136 := am hbox
          have GW136 := gwe hg
          have GE136 := gwe hg
          replace HB := hbs hb
          have NB127_136 := nbl hg BK127
          have NB136_127 := nbg hg BK127
          replace BK127 := bkb BK127 hb
          have NB132_136 := nbl hg BK132
          have NB136_132 := nbg hg BK132
          replace BK132 := bkb BK132 hb
          clear hb hbox hg
          refine hK.out _ _ ⟨HS0_, HS1_⟩ (fun hHeld => ?_)
          clear hK K
          refine nm_ 6 ?_
          refine on_ 24 HT_ (fun K hK => ?_)
          have hs186 : w185.cell? ⟨gb136, 0, none⟩ = some (.int .i64 0) := (blk_cell BK136.out 0).trans rfl
          have hfs186 := blk_frozen BK136.out 0
          have hns186_0 := NB127_136.out
          have hns186_1 := NB132_136.out
          have hms186_0 := NB136_127.out
          have hms186_1 := NB136_132.out
          have hs187 : w185.cell? ⟨gb136, 1, none⟩ = some (.int .i64 0) := (blk_cell BK136.out 1).trans rfl
          have hfs187 := blk_frozen BK136.out 1
          have hns187_0 := NB127_136.out
          have hns187_1 := NB132_136.out
          have hms187_0 := NB136_127.out
          have hms187_1 := NB136_132.out
          have hs188 : w185.cell? ⟨gb136, 2, none⟩ = some (.int .i64 0) := (blk_cell BK136.out 2).trans rfl
          have hfs188 := blk_frozen BK136.out 2
          have hns188_0 := NB127_136.out
          have hns188_1 := NB132_136.out
          have hms188_0 := NB136_127.out
          have hms188_1 := NB136_132.out
          have hs189 : w185.cell? ⟨gb136, 3, none⟩ = some (.int .i64 0) := (blk_cell BK136.out 3).trans rfl
          have hfs189 := blk_frozen BK136.out 3
          have hns189_0 := NB127_136.out
          have hns189_1 := NB132_136.out
          have hms189_0 := NB136_127.out
          have hms189_1 := NB136_132.out
          have hs190 : w185.cell? ⟨gb136, 4, none⟩ = some (.int .i64 0) := (blk_cell BK136.out 4).trans rfl
          have hfs190 := blk_frozen BK136.out 4
          have hns190_0 := NB127_136.out
          have hns190_1 := NB132_136.out
          have hms190_0 := NB136_127.out
          have hms190_1 := NB136_132.out
          have hs191 : w185.cell? ⟨gb136, 5, none⟩ = some (.bool false) := (blk_cell BK136.out 5).trans rfl
          have hfs191 := blk_frozen BK136.out 5
          have hns191_0 := NB127_136.out
          have hns191_1 := NB132_136.out
          have hms191_0 := NB136_127.out
          have hms191_1 := NB136_132.out
          refine skip_ (w1 := ?_) (by rfl) rfl ?_ ?_
          rotate_left
          ·go_simp
           rfl
          refine hK.out _ _ ⟨((cfr (Kd.own_blk (Kd.R_ne HO131.out BK136.out (by decide)))).trans (((cfr (Kd.own_blk (Kd.R_ne HO131.out BK136.out (by decide)))).trans (((cfr (Kd.own_blk (Kd.R_ne HO131.out BK136.out (by decide)))).trans (((cfr (Kd.own_blk (Kd.R_ne HO131.out BK136.out (by decide)))).trans (((cfr (Kd.own_blk (Kd.R_ne HO131.out BK136.out (by decide)))).trans (((cfr (Kd.own_blk (Kd.R_ne HO131.out BK136.out (by decide)))).trans (hHeld.1)))))))))))), ((cfr (Kd.own_blk (Kd.R_ne HO131.out BK136.out (by decide)))).trans (((cfr (Kd.own_blk (Kd.R_ne HO131.out BK136.out (by decide)))).trans (((cfr (Kd.own_blk (Kd.R_ne HO131.out BK136.out (by decide)))).trans (((cfr (Kd.own_blk (Kd.R_ne HO131.out BK136.out (by decide)))).trans (((cfr (Kd.own_blk (Kd.R_ne HO131.out BK136.out (by decide)))).trans (((cfr (Kd.own_blk (Kd.R_ne HO131.out BK136.out (by decide)))).trans (hHeld.2))))))))))))⟩ (fun hHeld => ?_)
          clear hK K
          refine done_ (done_of HT_.out (by kernel_rfl)) ?_
          have hnb192 := NB136_127.out
          have hnc192 := NB127_136.out
          have hnb193 := NB136_132.out
          have hnc193 := NB132_136.out
          obtain ⟨hcz194_0, hcz194_1, hcz194_2, hcz194_3, hcz194_4, hcz194_5, hfz194_0, hfz194_1, hfz194_2, hfz194_3, hfz194_4, hfz194_5⟩ := cf6 (W := w185) BK136.out
          obtain ⟨hcz195_0, hcz195_1, hcz195_2, hcz195_3, hcz195_4, hcz195_5, hcz195_6, hfz195_0, hfz195_1, hfz195_2, hfz195_3, hfz195_4, hfz195_5, hfz195_6⟩ := cf7 (W := w185) BK127.out
          try go_wp2
          refine bodyPost_ret (results_cell_row rfl _ _ gb127 51 #[.int .i64 5, .int .i64 0, .int .i64 0, .int .i64 0, .int .i64 0, .int .i64 0, .bool false] (0, 0) _ rfl (by (with_reducible repeat (first | refine blk_drewN ?_ _ | refine blk_drew ?_ | refine blk_alloc ?_ _)); refine blk_put (cs := #[.int .i64 5, .int .i64 0, .int .i64 0, .int .i64 0, .int .i64 0, .int .i64 0, .bool false]) ?_ 6 _ rfl; refine blk_put (cs := #[.int .i64 5, .int .i64 0, .int .i64 0, .int .i64 0, .int .i64 0, .int .i64 0, .bool false]) ?_ 5 _ rfl; refine blk_put (cs := #[.int .i64 5, .int .i64 0, .int .i64 0, .int .i64 0, .int .i64 0, .int .i64 0, .bool false]) ?_ 4 _ rfl; refine blk_put (cs := #[.int .i64 5, .int .i64 0, .int .i64 0, .int .i64 0, .int .i64 0, .int .i64 0, .bool false]) ?_ 3 _ rfl; refine blk_put (cs := #[.int .i64 5, .int .i64 0, .int .i64 0, .int .i64 0, .int .i64 0, .int .i64 0, .bool false]) ?_ 2 _ rfl; refine blk_put (cs := #[.int .i64 5, .int .i64 0, .int .i64 0, .int .i64 0, .int .i64 0, .int .i64 0, .bool false]) ?_ 1 _ rfl; refine blk_put (cs := #[.int .i64 0, .int .i64 0, .int .i64 0, .int .i64 0, .int .i64 0, .int .i64 0, .bool false]) ?_ 0 _ rfl; (with_reducible repeat (first | refine blk_drewN ?_ _ | refine blk_drew ?_ | refine blk_alloc ?_ _)); refine blk_far ?_ NB127_136.out _; (with_reducible repeat (first | refine blk_drewN ?_ _ | refine blk_drew ?_ | refine blk_alloc ?_ _)); refine blk_far ?_ NB127_136.out _; (with_reducible repeat (first | refine blk_drewN ?_ _ | refine blk_drew ?_ | refine blk_alloc ?_ _)); refine blk_far ?_ NB127_136.out _; (with_reducible repeat (first | refine blk_drewN ?_ _ | refine blk_drew ?_ | refine blk_alloc ?_ _)); refine blk_far ?_ NB127_136.out _; (with_reducible repeat (first | refine blk_drewN ?_ _ | refine blk_drew ?_ | refine blk_alloc ?_ _)); refine blk_far ?_ NB127_136.out _; (with_reducible repeat (first | refine blk_drewN ?_ _ | refine blk_drew ?_ | refine blk_alloc ?_ _)); refine blk_far ?_ NB127_136.out _; (with_reducible repeat (first | refine blk_drewN ?_ _ | refine blk_drew ?_ | refine blk_alloc ?_ _)); refine blk_far ?_ NB127_136.out _; (with_reducible repeat (first | refine blk_drewN ?_ _ | refine blk_drew ?_ | refine blk_alloc ?_ _)); exact BK127.out) Try.underlying51 rfl (by kernel_rfl)) rfl ?_
          exact ⟨enq, bnx⟩
         ·rw [if_neg c176] at H
          have c176b0 : decide (9999 < (wrap64 ((wrap64 ((wrap64 (rd t129 0)) * 256)) + (wrap64 (rd t129 1))))) = false := decide_eq_false c176
          clear c176
          by_cases c196 : (Int.tmod (wrap64 (Int.tdiv (wrap64 (rd t129 2)) 4)) 4) > 2
          ·rw [if_pos c196] at H
           have c196b0 : decide (2 < (Int.tmod (wrap64 (Int.tdiv (wrap64 (rd t129 2)) 4)) 4)) = true := decide_eq_true c196
           clear c196
           simp only [Option.some.injEq, Prod.mk.injEq] at H
           obtain ⟨rfl, rfl, rfl, rfl, rfl, rfl, rfl⟩ := H
           go_enter Try.func38, Try.ntmps38
           try go_wp2_with (first | ((with_reducible refine gate_dst (N := 2) rfl ?_); refine bev 2 51 #[.int .i64 0, .int .i64 0, .int .i64 0, .int .i64 0, .int .i64 0, .int .i64 0, .bool false] ?_; intro gb127 hg w197 hbox hb; have BK127 := am hbox; have GW127 := gwe hg; have GE127 := gwe hg; replace HB := hbs hb; clear hb hbox hg) | ((with_reducible refine gate_callee (f := 102) rfl ?_); refine gl_ 8 Try.func102 #[.slice A0 l0.length c0] ?_; (with_reducible refine (spec_OpenBytes.calls k _ _ l0 t128 t129 _ ?_ ?_ A2.out).mono ?_); exact cpl HR0.out; exact HC0.out; rintro e w198 ⟨v130, rfl, ho0, hb⟩; refine ⟨_, rfl, ?_⟩; have HO131 := rlw ho0; replace BK127 := bkb BK127 hb; replace HB := hbs hb; (try clear hb); (try clear ho0)) | ((with_reducible refine gate_dst (N := 3) rfl ?_); refine bev 3 108 #[.int .i64 0, .slice none 0 0] ?_; intro gb132 hg w199 hbox hb; replace HO131 := rbl HO131 hb; have BK132 := am hbox; have GW132 := gwe hg; have GE132 := gwe hg; replace HB := hbs hb; have NB127_132 := nbl hg BK127; have NB132_127 := nbg hg BK127; replace BK127 := bkb BK127 hb; clear hb hbox hg; have hnb200 := NB132_127.out; have hnc200 := NB127_132.out; obtain ⟨hcz201_0, hcz201_1, hfz201_0, hfz201_1⟩ := cf2 (W := w199) BK132.out; obtain ⟨Ao202, co202, eo202⟩ := Kd.R_slice HO131.out; subst eo202; have p133 : 0 ≤ (2 : Int) := (by omega); have q133 : 2 < (t129.length : Int) := dta; obtain ⟨ad133, e133, hx133_0⟩ := Kd.at_int (Kd.R_reads' HO131.out).2.2 2 p133 q133; cases e133; (try simp only [show (2 : Int).toNat = 2 from rfl, Nat.reduceMul, Nat.reduceEqDiff, Go.Addr.add, ↓reduceIte] at hx133_0); have qi133 : (2 < t129.length) = True := eq_true (by omega); (try rw [show ((2 : Int)).toNat = 2 from rfl] at hx133_0); have hn133_0 : ad133.block ≠ gb132 := Kd.own_blk (Kd.R_ne HO131.out BK132.out (by decide)); have hn133_1 : ad133.block ≠ gb132 := Kd.own_blk (Kd.R_ne HO131.out BK132.out (by decide)); replace hx133_0 := (cell_far (p := ⟨gb132, 0, none⟩) (by first | (rw [add_block]; exact hn133_0) | (show (Addr.add _ _).block ≠ _; rw [add_block]; exact hn133_0) | exact hn133_0) (.int .i64 t128)).trans hx133_0; replace hx133_0 := (cell_far (p := ⟨gb132, 1, none⟩) (by first | (rw [add_block]; exact hn133_1) | (show (Addr.add _ _).block ≠ _; rw [add_block]; exact hn133_1) | exact hn133_1) (.slice (some ad133) t129.length co202)).trans hx133_0; clear hn133_0 hn133_1; replace p133 := eq_true p133; replace q133 := eq_true q133))
           have n0_ : Aside0 (Kd.R (Kd.int .u8) 5 ((w199.setCell ⟨gb132, 0, none⟩ (.int .i64 t128)).setCell ⟨gb132, 1, none⟩ (.slice (some ad133) t129.length co202)) w.heap.size (fun _ => True) (.slice (some ad133) t129.length co202) t129) := ⟨by (with_reducible repeat (first | apply Kd.R_alloc | apply Kd.R_drewN | apply Kd.R_drew)); exact Kd.R_mono (Kd.R_far (p := ⟨gb132, 1, none⟩) (Kd.R_far (p := ⟨gb132, 0, none⟩) (Kd.R_types HO131.out BK132.out (by decide)) (fun _ hk => hk.2) (.int .i64 t128)) (fun _ hk => hk.2) (.slice (some ad133) t129.length co202)) (fun _ hk => trivial)⟩
           have n1_ : Aside0 (((w199.setCell ⟨gb132, 0, none⟩ (.int .i64 t128)).setCell ⟨gb132, 1, none⟩ (.slice (some ad133) t129.length co202)).heap[gb127]? = some (.cells #[.int .i64 0, .int .i64 0, .int .i64 0, .int .i64 0, .int .i64 0, .int .i64 0, .bool false] 51 (0, 0))) := ⟨by (with_reducible repeat (first | refine blk_drewN ?_ _ | refine blk_drew ?_ | refine blk_alloc ?_ _)); refine blk_far ?_ NB127_132.out _; (with_reducible repeat (first | refine blk_drewN ?_ _ | refine blk_drew ?_ | refine blk_alloc ?_ _)); refine blk_far ?_ NB127_132.out _; (with_reducible repeat (first | refine blk_drewN ?_ _ | refine blk_drew ?_ | refine blk_alloc ?_ _)); exact BK127.out⟩
           have n2_ : Aside0 (((w199.setCell ⟨gb132, 0, none⟩ (.int .i64 t128)).setCell ⟨gb132, 1, none⟩ (.slice (some ad133) t129.length co202)).heap[gb132]? = some (.cells #[.int .i64 t128, .slice (some ad133) t129.length co202] 108 (0, 0))) := ⟨by (with_reducible repeat (first | refine blk_drewN ?_ _ | refine blk_drew ?_ | refine blk_alloc ?_ _)); refine blk_put (cs := #[.int .i64 t128, .slice none 0 0]) ?_ 1 _ rfl; refine blk_put (cs := #[.int .i64 0, .slice none 0 0]) ?_ 0 _ rfl; exact bpl BK132.out⟩
           have n3_ : Aside0 (Below w.heap.size w ((w199.setCell ⟨gb132, 0, none⟩ (.int .i64 t128)).setCell ⟨gb132, 1, none⟩ (.slice (some ad133) t129.length co202))) := ⟨bnx⟩
           (try clear HO131)
           (try clear BK127)
           (try clear BK132)
           (try clear HB)
           generalize ((w199.setCell ⟨gb132, 0, none⟩ (.int .i64 t128)).setCell ⟨gb132, 1, none⟩ (.slice (some ad133) t129.length co202)) = w203 at n0_ n1_ n2_ n3_ ⊢
           have HO131 := n0_
           have BK127 := n1_
           have BK132 := n2_
           have HB := n3_
           clear n0_ n1_ n2_ n3_
           replace HO131 := am (Kd.R_drew HO131.out)
           replace BK127 := am (blk_drew BK127.out)
           replace BK132 := am (blk_drew BK132.out)
           replace HB := am (below_drew1 HB.out)
           have p134 : 0 ≤ (0 : Int) := (by omega)
           have q134 : 0 < (t129.length : Int) := dta
           obtain ⟨ad134, e134, hx134_0⟩ := Kd.at_int (Kd.R_reads' HO131.out).2.2 0 p134 q134
           obtain rfl : ad133 = ad134 := (by injection e134)
           have qi134 : (0 < t129.length) = True := eq_true (by omega)
           (try rw [show ((0 : Int)).toNat = 0 from rfl] at hx134_0)
           (try rw [Addr.add_zero'] at hx134_0)
           replace p134 := eq_true p134
           replace q134 := eq_true q134
           have p135 : 0 ≤ (1 : Int) := (by omega)
           have q135 : 1 < (t129.length : Int) := dta
           obtain ⟨ad135, e135, hx135_0⟩ := Kd.at_int (Kd.R_reads' HO131.out).2.2 1 p135 q135
           obtain rfl : ad133 = ad135 := (by injection e135)
           (try simp only [show (1 : Int).toNat = 1 from rfl, Nat.reduceMul, Nat.reduceEqDiff, Go.Addr.add, ↓reduceIte] at hx135_0)
           have qi135 : (1 < t129.length) = True := eq_true (by omega)
           (try rw [show ((1 : Int)).toNat = 1 from rfl] at hx135_0)
           replace p135 := eq_true p135
           replace q135 := eq_true q135
           refine start_ (n := 25) (S := fun w' => w'.cell? ad133 = some (.int .u8 (rd t129 0)) ∧ w'.cell? ⟨ad133.block, ad133.off + 1, none⟩ = some (.int .u8 (rd t129 1))) (ds := []) #[false, false, false, false, false, false, false, false, false, false, false, false, false, false, false, false, false, false, false, false, false, false, false, false, false] (by kernel_rfl) rfl rfl ⟨hx134_0, hx135_0⟩ (fun hHeld => ?_); refine with_tabW spec_ReadHead.tab8 spec_ReadHead.bits8 (fun HT_ HW_ => ?_)
           generalize w203.drew = w204 at HO131 BK127 BK132 HB hx134_0 hx135_0 hHeld ⊢
           refine pu_ 0 25 HT_ ?_
           refine pu_ 1 26 HT_ ?_
           refine pu_ 5 30 HT_ ?_
           refine pu_ 6 31 HT_ ?_
           refine pu_ 10 35 HT_ ?_
           refine pu_ 11 36 HT_ ?_
           refine pu_ 12 37 HT_ ?_
           refine pu_ 13 38 HT_ ?_
           refine pu_ 14 39 HT_ ?_
           refine pu_ 15 40 HT_ ?_
           refine pu_ 16 41 HT_ ?_
           refine pu_ 17 42 HT_ ?_
           refine pu_ 18 43 HT_ ?_
           refine pu_ 19 44 HT_ ?_
           refine pu_ 20 45 HT_ ?_
           refine pu_ 21 46 HT_ ?_
           refine tk_ 2 27 HT_ HW_ hHeld ?_
           refine pu_ 3 28 HT_ ?_
           refine pu_ 4 29 HT_ ?_
           refine tk_ 7 32 HT_ HW_ hHeld ?_
           refine pu_ 8 33 HT_ ?_
           refine pu_ 9 34 HT_ ?_
           refine pu_ 22 47 HT_ ?_
           refine on_ 23 HT_ (fun K hK => ?_)
           refine bst 6 49 #[.int .i64 0, .int .i64 0, .int .i64 0, .int .i64 0, .int .i64 0, .bool false] ?_
           intro gb136 hg w205 hbox hb
           have HS0_ := (hb.cell (World.block_lt_of_cell? _ _ (hHeld.1))).trans (hHeld.1)
           have HS1_ := (hb.cell (World.block_lt_of_cell? _ _ (hHeld.2))).trans (hHeld.2)
           replace HO131 := rbl HO131 hb
           have BK136 := am hbox
           have GW136 := gwe hg
           have GE136 := gwe hg
           replace HB := hbs hb
           have NB127_136 := nbl hg BK127
           have NB136_127 := nbg hg BK127
           replace BK127 := bkb BK127 hb
           have NB132_136 := nbl hg BK132
           have NB136_132 := nbg hg BK132
           replace BK132 := bkb BK132 hb
           clear hb hbox hg
           refine hK.out _ _ ⟨HS0_, HS1_⟩ (fun hHeld => ?_)
           clear hK K
           refine nm_ 6 ?_
           refine on_ 24 HT_ (fun K hK => ?_)
           have hs206 : w205.cell? ⟨gb136, 0, none⟩ = some (.int .i64 0) := (blk_cell BK136.out 0).trans rfl
           have hfs206 := blk_frozen BK136.out 0
           have hns206_0 := NB127_136.out
           have hns206_1 := NB132_136.out
           have hms206_0 := NB136_127.out
           have hms206_1 := NB136_132.out
           have hs207 : w205.cell? ⟨gb136, 1, none⟩ = some (.int .i64 0) := (blk_cell BK136.out 1).trans rfl
           have hfs207 := blk_frozen BK136.out 1
           have hns207_0 := NB127_136.out
           have hns207_1 := NB132_136.out
           have hms207_0 := NB136_127.out
           have hms207_1 := NB136_132.out
           have hs208 : w205.cell? ⟨gb136, 2, none⟩ = some (.int .i64 0) := (blk_cell BK136.out 2).trans rfl
           have hfs208 := blk_frozen BK136.out 2
           have hns208_0 := NB127_136.out
           have hns208_1 := NB132_136.out
           have hms208_0 := NB136_127.out
           have hms208_1 := NB136_132.out
           have hs209 : w205.cell? ⟨gb136, 3, none⟩ = some (.int .i64 0) := (blk_cell BK136.out 3).trans rfl
           have hfs209 := blk_frozen BK136.out 3
           have hns209_0 := NB127_136.out
           have hns209_1 := NB132_136.out
           have hms209_0 := NB136_127.out
           have hms209_1 := NB136_132.out
           have hs210 : w205.cell? ⟨gb136, 4, none⟩ = some (.int .i64 0) := (blk_cell BK136.out 4).trans rfl
           have hfs210 := blk_frozen BK136.out 4
           have hns210_0 := NB127_136.out
           have hns210_1 := NB132_136.out
           have hms210_0 := NB136_127.out
           have hms210_1 := NB136_132.out
           have hs211 : w205.cell? ⟨gb136, 5, none⟩ = some (.bool false) := (blk_cell BK136.out 5).trans rfl
           have hfs211 := blk_frozen BK136.out 5
           have hns211_0 := NB127_136.out
           have hns211_1 := NB132_136.out
           have hms211_0 := NB136_127.out
           have hms211_1 := NB136_132.out
           refine skip_ (w1 := ?_) (by rfl) rfl ?_ ?_
           rotate_left
           ·go_simp
            rfl
           refine hK.out _ _ ⟨((cfr (Kd.own_blk (Kd.R_ne HO131.out BK136.out (by decide)))).trans (((cfr (Kd.own_blk (Kd.R_ne HO131.out BK136.out (by decide)))).trans (((cfr (Kd.own_blk (Kd.R_ne HO131.out BK136.out (by decide)))).trans (((cfr (Kd.own_blk (Kd.R_ne HO131.out BK136.out (by decide)))).trans (((cfr (Kd.own_blk (Kd.R_ne HO131.out BK136.out (by decide)))).trans (((cfr (Kd.own_blk (Kd.R_ne HO131.out BK136.out (by decide)))).trans (hHeld.1)))))))))))), ((cfr (Kd.own_blk (Kd.R_ne HO131.out BK136.out (by decide)))).trans (((cfr (Kd.own_blk (Kd.R_ne HO131.out BK136.out (by decide)))).trans (((cfr (Kd.own_blk (Kd.R_ne HO131.out BK136.out (by decide)))).trans (((cfr (Kd.own_blk (Kd.R_ne HO131.out BK136.out (by decide)))).trans (((cfr (Kd.own_blk (Kd.R_ne HO131.out BK136.out (by decide)))).trans (((cfr (Kd.own_blk (Kd.R_ne HO131.out BK136.out (by decide)))).trans (hHeld.2))))))))))))⟩ (fun hHeld => ?_)
           clear hK K
           refine done_ (done_of HT_.out (by kernel_rfl)) ?_
           have hnb212 := NB136_127.out
           have hnc212 := NB127_136.out
           have hnb213 := NB136_132.out
           have hnc213 := NB132_136.out
           obtain ⟨hcz214_0, hcz214_1, hcz214_2, hcz214_3, hcz214_4, hcz214_5, hfz214_0, hfz214_1, hfz214_2, hfz214_3, hfz214_4, hfz214_5⟩ := cf6 (W := w205) BK136.out
           obtain ⟨hcz215_0, hcz215_1, hcz215_2, hcz215_3, hcz215_4, hcz215_5, hcz215_6, hfz215_0, hfz215_1, hfz215_2, hfz215_3, hfz215_4, hfz215_5, hfz215_6⟩ := cf7 (W := w205) BK127.out
           try go_wp2
           refine bodyPost_ret (results_cell_row rfl _ _ gb127 51 #[.int .i64 5, .int .i64 0, .int .i64 0, .int .i64 0, .int .i64 0, .int .i64 0, .bool false] (0, 0) _ rfl (by (with_reducible repeat (first | refine blk_drewN ?_ _ | refine blk_drew ?_ | refine blk_alloc ?_ _)); refine blk_put (cs := #[.int .i64 5, .int .i64 0, .int .i64 0, .int .i64 0, .int .i64 0, .int .i64 0, .bool false]) ?_ 6 _ rfl; refine blk_put (cs := #[.int .i64 5, .int .i64 0, .int .i64 0, .int .i64 0, .int .i64 0, .int .i64 0, .bool false]) ?_ 5 _ rfl; refine blk_put (cs := #[.int .i64 5, .int .i64 0, .int .i64 0, .int .i64 0, .int .i64 0, .int .i64 0, .bool false]) ?_ 4 _ rfl; refine blk_put (cs := #[.int .i64 5, .int .i64 0, .int .i64 0, .int .i64 0, .int .i64 0, .int .i64 0, .bool false]) ?_ 3 _ rfl; refine blk_put (cs := #[.int .i64 5, .int .i64 0, .int .i64 0, .int .i64 0, .int .i64 0, .int .i64 0, .bool false]) ?_ 2 _ rfl; refine blk_put (cs := #[.int .i64 5, .int .i64 0, .int .i64 0, .int .i64 0, .int .i64 0, .int .i64 0, .bool false]) ?_ 1 _ rfl; refine blk_put (cs := #[.int .i64 0, .int .i64 0, .int .i64 0, .int .i64 0, .int .i64 0, .int .i64 0, .bool false]) ?_ 0 _ rfl; (with_reducible repeat (first | refine blk_drewN ?_ _ | refine blk_drew ?_ | refine blk_alloc ?_ _)); refine blk_far ?_ NB127_136.out _; (with_reducible repeat (first | refine blk_drewN ?_ _ | refine blk_drew ?_ | refine blk_alloc ?_ _)); refine blk_far ?_ NB127_136.out _; (with_reducible repeat (first | refine blk_drewN ?_ _ | refine blk_drew ?_ | refine blk_alloc ?_ _)); refine blk_far ?_ NB127_136.out _; (with_reducible repeat (first | refine blk_drewN ?_ _ | refine blk_drew ?_ | refine blk_alloc ?_ _)); refine blk_far ?_ NB127_136.out _; (with_reducible repeat (first | refine blk_drewN ?_ _ | refine blk_drew ?_ | refine blk_alloc ?_ _)); refine blk_far ?_ NB127_136.out _; (with_reducible repeat (first | refine blk_drewN ?_ _ | refine blk_drew ?_ | refine blk_alloc ?_ _)); refine blk_far ?_ NB127_136.out _; (with_reducible repeat (first | refine blk_drewN ?_ _ | refine blk_drew ?_ | refine blk_alloc ?_ _)); refine blk_far ?_ NB127_136.out _; (with_reducible repeat (first | refine blk_drewN ?_ _ | refine blk_drew ?_ | refine blk_alloc ?_ _)); exact BK127.out) Try.underlying51 rfl (by kernel_rfl)) rfl ?_
           exact ⟨enq, bnx⟩
          ·rw [if_neg c196] at H
           have c196b0 : decide (2 < (Int.tmod (wrap64 (Int.tdiv (wrap64 (rd t129 2)) 4)) 4)) = false := decide_eq_false c196
           clear c196
           by_cases c216 : 16 = 0
           ·exact absurd c216 (by decide)
           ·rw [if_neg c216] at H
            have c216b0 : (16 == 0) = false := beq_eq_false_iff_ne.mpr c216
            have c216b1 : (16 != 0) = true := bne_iff_ne.mpr c216
            simp only [Option.some.injEq, Prod.mk.injEq] at H
            obtain ⟨rfl, rfl, rfl, rfl, rfl, rfl, rfl⟩ := H
            go_enter Try.func38, Try.ntmps38
            try go_wp2_with (first | ((with_reducible refine gate_dst (N := 2) rfl ?_); refine bev 2 51 #[.int .i64 0, .int .i64 0, .int .i64 0, .int .i64 0, .int .i64 0, .int .i64 0, .bool false] ?_; intro gb127 hg w236 hbox hb; have BK127 := am hbox; have GW127 := gwe hg; have GE127 := gwe hg; replace HB := hbs hb; clear hb hbox hg) | ((with_reducible refine gate_callee (f := 102) rfl ?_); refine gl_ 8 Try.func102 #[.slice A0 l0.length c0] ?_; (with_reducible refine (spec_OpenBytes.calls k _ _ l0 t128 t129 _ ?_ ?_ A2.out).mono ?_); exact cpl HR0.out; exact HC0.out; rintro e w237 ⟨v130, rfl, ho0, hb⟩; refine ⟨_, rfl, ?_⟩; have HO131 := rlw ho0; replace BK127 := bkb BK127 hb; replace HB := hbs hb; (try clear hb); (try clear ho0)) | ((with_reducible refine gate_dst (N := 3) rfl ?_); refine bev 3 108 #[.int .i64 0, .slice none 0 0] ?_; intro gb132 hg w238 hbox hb; replace HO131 := rbl HO131 hb; have BK132 := am hbox; have GW132 := gwe hg; have GE132 := gwe hg; replace HB := hbs hb; have NB127_132 := nbl hg BK127; have NB132_127 := nbg hg BK127; replace BK127 := bkb BK127 hb; clear hb hbox hg; have hnb239 := NB132_127.out; have hnc239 := NB127_132.out; obtain ⟨hcz240_0, hcz240_1, hfz240_0, hfz240_1⟩ := cf2 (W := w238) BK132.out; obtain ⟨Ao241, co241, eo241⟩ := Kd.R_slice HO131.out; subst eo241; have p133 : 0 ≤ (2 : Int) := (by omega); have q133 : 2 < (t129.length : Int) := dta; obtain ⟨ad133, e133, hx133_0⟩ := Kd.at_int (Kd.R_reads' HO131.out).2.2 2 p133 q133; cases e133; (try simp only [show (2 : Int).toNat = 2 from rfl, Nat.reduceMul, Nat.reduceEqDiff, Go.Addr.add, ↓reduceIte] at hx133_0); have qi133 : (2 < t129.length) = True := eq_true (by omega); (try rw [show ((2 : Int)).toNat = 2 from rfl] at hx133_0); have hn133_0 : ad133.block ≠ gb132 := Kd.own_blk (Kd.R_ne HO131.out BK132.out (by decide)); have hn133_1 : ad133.block ≠ gb132 := Kd.own_blk (Kd.R_ne HO131.out BK132.out (by decide)); replace hx133_0 := (cell_far (p := ⟨gb132, 0, none⟩) (by first | (rw [add_block]; exact hn133_0) | (show (Addr.add _ _).block ≠ _; rw [add_block]; exact hn133_0) | exact hn133_0) (.int .i64 t128)).trans hx133_0; replace hx133_0 := (cell_far (p := ⟨gb132, 1, none⟩) (by first | (rw [add_block]; exact hn133_1) | (show (Addr.add _ _).block ≠ _; rw [add_block]; exact hn133_1) | exact hn133_1) (.slice (some ad133) t129.length co241)).trans hx133_0; clear hn133_0 hn133_1; replace p133 := eq_true p133; replace q133 := eq_true q133))
            have n0_ : Aside0 (Kd.R (Kd.int .u8) 5 ((w238.setCell ⟨gb132, 0, none⟩ (.int .i64 t128)).setCell ⟨gb132, 1, none⟩ (.slice (some ad133) t129.length co241)) w.heap.size (fun _ => True) (.slice (some ad133) t129.length co241) t129) := ⟨by (with_reducible repeat (first | apply Kd.R_alloc | apply Kd.R_drewN | apply Kd.R_drew)); exact Kd.R_mono (Kd.R_far (p := ⟨gb132, 1, none⟩) (Kd.R_far (p := ⟨gb132, 0, none⟩) (Kd.R_types HO131.out BK132.out (by decide)) (fun _ hk => hk.2) (.int .i64 t128)) (fun _ hk => hk.2) (.slice (some ad133) t129.length co241)) (fun _ hk => trivial)⟩
            have n1_ : Aside0 (((w238.setCell ⟨gb132, 0, none⟩ (.int .i64 t128)).setCell ⟨gb132, 1, none⟩ (.slice (some ad133) t129.length co241)).heap[gb127]? = some (.cells #[.int .i64 0, .int .i64 0, .int .i64 0, .int .i64 0, .int .i64 0, .int .i64 0, .bool false] 51 (0, 0))) := ⟨by (with_reducible repeat (first | refine blk_drewN ?_ _ | refine blk_drew ?_ | refine blk_alloc ?_ _)); refine blk_far ?_ NB127_132.out _; (with_reducible repeat (first | refine blk_drewN ?_ _ | refine blk_drew ?_ | refine blk_alloc ?_ _)); refine blk_far ?_ NB127_132.out _; (with_reducible repeat (first | refine blk_drewN ?_ _ | refine blk_drew ?_ | refine blk_alloc ?_ _)); exact BK127.out⟩
            have n2_ : Aside0 (((w238.setCell ⟨gb132, 0, none⟩ (.int .i64 t128)).setCell ⟨gb132, 1, none⟩ (.slice (some ad133) t129.length co241)).heap[gb132]? = some (.cells #[.int .i64 t128, .slice (some ad133) t129.length co241] 108 (0, 0))) := ⟨by (with_reducible repeat (first | refine blk_drewN ?_ _ | refine blk_drew ?_ | refine blk_alloc ?_ _)); refine blk_put (cs := #[.int .i64 t128, .slice none 0 0]) ?_ 1 _ rfl; refine blk_put (cs := #[.int .i64 0, .slice none 0 0]) ?_ 0 _ rfl; exact bpl BK132.out⟩
            have n3_ : Aside0 (Below w.heap.size w ((w238.setCell ⟨gb132, 0, none⟩ (.int .i64 t128)).setCell ⟨gb132, 1, none⟩ (.slice (some ad133) t129.length co241))) := ⟨bnx⟩
            (try clear HO131)
            (try clear BK127)
            (try clear BK132)
            (try clear HB)
            generalize ((w238.setCell ⟨gb132, 0, none⟩ (.int .i64 t128)).setCell ⟨gb132, 1, none⟩ (.slice (some ad133) t129.length co241)) = w242 at n0_ n1_ n2_ n3_ ⊢
            have HO131 := n0_
            have BK127 := n1_
            have BK132 := n2_
            have HB := n3_
            clear n0_ n1_ n2_ n3_
            replace HO131 := am (Kd.R_drew HO131.out)
            replace BK127 := am (blk_drew BK127.out)
            replace BK132 := am (blk_drew BK132.out)
            replace HB := am (below_drew1 HB.out)
            have p134 : 0 ≤ (0 : Int) := (by omega)
            have q134 : 0 < (t129.length : Int) := dta
            obtain ⟨ad134, e134, hx134_0⟩ := Kd.at_int (Kd.R_reads' HO131.out).2.2 0 p134 q134
            obtain rfl : ad133 = ad134 := (by injection e134)
            have qi134 : (0 < t129.length) = True := eq_true (by omega)
            (try rw [show ((0 : Int)).toNat = 0 from rfl] at hx134_0)
            (try rw [Addr.add_zero'] at hx134_0)
            replace p134 := eq_true p134
            replace q134 := eq_true q134
            have p135 : 0 ≤ (1 : Int) := (by omega)
            have q135 : 1 < (t129.length : Int) := dta
            obtain ⟨ad135, e135, hx135_0⟩ := Kd.at_int (Kd.R_reads' HO131.out).2.2 1 p135 q135
            obtain rfl : ad133 = ad135 := (by injection e135)
            (try simp only [show (1 : Int).toNat = 1 from rfl, Nat.reduceMul, Nat.reduceEqDiff, Go.Addr.add, ↓reduceIte] at hx135_0)
            have qi135 : (1 < t129.length) = True := eq_true (by omega)
            (try rw [show ((1 : Int)).toNat = 1 from rfl] at hx135_0)
            replace p135 := eq_true p135
            replace q135 := eq_true q135
            refine start_ (n := 25) (S := fun w' => w'.cell? ad133 = some (.int .u8 (rd t129 0)) ∧ w'.cell? ⟨ad133.block, ad133.off + 1, none⟩ = some (.int .u8 (rd t129 1))) (ds := []) #[false, false, false, false, false, false, false, false, false, false, false, false, false, false, false, false, false, false, false, false, false, false, false, false, false] (by kernel_rfl) rfl rfl ⟨hx134_0, hx135_0⟩ (fun hHeld => ?_); refine with_tabW spec_ReadHead.tab8 spec_ReadHead.bits8 (fun HT_ HW_ => ?_)
            generalize w242.drew = w243 at HO131 BK127 BK132 HB hx134_0 hx135_0 hHeld ⊢
            refine pu_ 0 25 HT_ ?_
            refine pu_ 1 26 HT_ ?_
            refine pu_ 5 30 HT_ ?_
            refine pu_ 6 31 HT_ ?_
            refine pu_ 10 35 HT_ ?_
            refine pu_ 11 36 HT_ ?_
            refine pu_ 12 37 HT_ ?_
            refine pu_ 13 38 HT_ ?_
            refine pu_ 14 39 HT_ ?_
            refine pu_ 15 40 HT_ ?_
            refine pu_ 16 41 HT_ ?_
            refine pu_ 17 42 HT_ ?_
            refine pu_ 18 43 HT_ ?_
            refine pu_ 19 44 HT_ ?_
            refine pu_ 20 45 HT_ ?_
            refine pu_ 21 46 HT_ ?_
            refine tk_ 2 27 HT_ HW_ hHeld ?_
            refine pu_ 3 28 HT_ ?_
            refine pu_ 4 29 HT_ ?_
            refine tk_ 7 32 HT_ HW_ hHeld ?_
            refine pu_ 8 33 HT_ ?_
            refine pu_ 9 34 HT_ ?_
            refine pu_ 22 47 HT_ ?_
            refine on_ 23 HT_ (fun K hK => ?_)
            refine bst 6 49 #[.int .i64 0, .int .i64 0, .int .i64 0, .int .i64 0, .int .i64 0, .bool false] ?_
            intro gb136 hg w244 hbox hb
            have HS0_ := (hb.cell (World.block_lt_of_cell? _ _ (hHeld.1))).trans (hHeld.1)
            have HS1_ := (hb.cell (World.block_lt_of_cell? _ _ (hHeld.2))).trans (hHeld.2)
            replace HO131 := rbl HO131 hb
            have BK136 := am hbox
            have GW136 := gwe hg
            have GE136 := gwe hg
            replace HB := hbs hb
            have NB127_136 := nbl hg BK127
            have NB136_127 := nbg hg BK127
            replace BK127 := bkb BK127 hb
            have NB132_136 := nbl hg BK132
            have NB136_132 := nbg hg BK132
            replace BK132 := bkb BK132 hb
            clear hb hbox hg
            refine hK.out _ _ ⟨HS0_, HS1_⟩ (fun hHeld => ?_)
            clear hK K
            refine nm_ 6 ?_
            refine on_ 24 HT_ (fun K hK => ?_)
            have hs245 : w244.cell? ⟨gb136, 0, none⟩ = some (.int .i64 0) := (blk_cell BK136.out 0).trans rfl
            have hfs245 := blk_frozen BK136.out 0
            have hns245_0 := NB127_136.out
            have hns245_1 := NB132_136.out
            have hms245_0 := NB136_127.out
            have hms245_1 := NB136_132.out
            have hs246 : w244.cell? ⟨gb136, 1, none⟩ = some (.int .i64 0) := (blk_cell BK136.out 1).trans rfl
            have hfs246 := blk_frozen BK136.out 1
            have hns246_0 := NB127_136.out
            have hns246_1 := NB132_136.out
            have hms246_0 := NB136_127.out
            have hms246_1 := NB136_132.out
            have hs247 : w244.cell? ⟨gb136, 2, none⟩ = some (.int .i64 0) := (blk_cell BK136.out 2).trans rfl
            have hfs247 := blk_frozen BK136.out 2
            have hns247_0 := NB127_136.out
            have hns247_1 := NB132_136.out
            have hms247_0 := NB136_127.out
            have hms247_1 := NB136_132.out
            have hs248 : w244.cell? ⟨gb136, 3, none⟩ = some (.int .i64 0) := (blk_cell BK136.out 3).trans rfl
            have hfs248 := blk_frozen BK136.out 3
            have hns248_0 := NB127_136.out
            have hns248_1 := NB132_136.out
            have hms248_0 := NB136_127.out
            have hms248_1 := NB136_132.out
            have hs249 : w244.cell? ⟨gb136, 4, none⟩ = some (.int .i64 0) := (blk_cell BK136.out 4).trans rfl
            have hfs249 := blk_frozen BK136.out 4
            have hns249_0 := NB127_136.out
            have hns249_1 := NB132_136.out
            have hms249_0 := NB136_127.out
            have hms249_1 := NB136_132.out
            have hs250 : w244.cell? ⟨gb136, 5, none⟩ = some (.bool false) := (blk_cell BK136.out 5).trans rfl
            have hfs250 := blk_frozen BK136.out 5
            have hns250_0 := NB127_136.out
            have hns250_1 := NB132_136.out
            have hms250_0 := NB136_127.out
            have hms250_1 := NB136_132.out
            refine skip_ (w1 := ((((((w244.setCell ⟨gb136, 0, none⟩ (.int .i64 (wrap64 ((wrap64 ((wrap64 (rd t129 0)) * 256)) + (wrap64 (rd t129 1)))))).setCell ⟨gb136, 1, none⟩ (.int .i64 0)).setCell ⟨gb136, 2, none⟩ (.int .i64 (Int.tmod (wrap64 (rd t129 2)) 2))).setCell ⟨gb136, 3, none⟩ (.int .i64 (Int.tmod (wrap64 (Int.tdiv (wrap64 (rd t129 2)) 4)) 4))).setCell ⟨gb136, 4, none⟩ (.int .i64 (Int.tmod (wrap64 (Int.tdiv (wrap64 (rd t129 2)) 16)) 4))).setCell ⟨gb136, 5, none⟩ (.bool ((Int.tmod (wrap64 (Int.tdiv (wrap64 (rd t129 2)) 2)) 2) == 1)))) (by rfl) rfl (by first | (go_simp; done) | (go_simp; rfl)) ?_
            obtain ⟨wz, hch_⟩ : ∃ W_, W_ = ((((((w244.setCell ⟨gb136, 0, none⟩ (.int .i64 (wrap64 ((wrap64 ((wrap64 (rd t129 0)) * 256)) + (wrap64 (rd t129 1)))))).setCell ⟨gb136, 1, none⟩ (.int .i64 0)).setCell ⟨gb136, 2, none⟩ (.int .i64 (Int.tmod (wrap64 (rd t129 2)) 2))).setCell ⟨gb136, 3, none⟩ (.int .i64 (Int.tmod (wrap64 (Int.tdiv (wrap64 (rd t129 2)) 4)) 4))).setCell ⟨gb136, 4, none⟩ (.int .i64 (Int.tmod (wrap64 (Int.tdiv (wrap64 (rd t129 2)) 16)) 4))).setCell ⟨gb136, 5, none⟩ (.bool ((Int.tmod (wrap64 (Int.tdiv (wrap64 (rd t129 2)) 2)) 2) == 1))) := ⟨_, rfl⟩
            rw [← hch_]
            have HSz_ : wz.cell? ad133 = some (.int .u8 (rd t129 0)) ∧ wz.cell? ⟨ad133.block, ad133.off + 1, none⟩ = some (.int .u8 (rd t129 1)) := by rw [hch_]; exact ⟨((cfr (Kd.own_blk (Kd.R_ne HO131.out BK136.out (by decide)))).trans (((cfr (Kd.own_blk (Kd.R_ne HO131.out BK136.out (by decide)))).trans (((cfr (Kd.own_blk (Kd.R_ne HO131.out BK136.out (by decide)))).trans (((cfr (Kd.own_blk (Kd.R_ne HO131.out BK136.out (by decide)))).trans (((cfr (Kd.own_blk (Kd.R_ne HO131.out BK136.out (by decide)))).trans (((cfr (Kd.own_blk (Kd.R_ne HO131.out BK136.out (by decide)))).trans (hHeld.1)))))))))))), ((cfr (Kd.own_blk (Kd.R_ne HO131.out BK136.out (by decide)))).trans (((cfr (Kd.own_blk (Kd.R_ne HO131.out BK136.out (by decide)))).trans (((cfr (Kd.own_blk (Kd.R_ne HO131.out BK136.out (by decide)))).trans (((cfr (Kd.own_blk (Kd.R_ne HO131.out BK136.out (by decide)))).trans (((cfr (Kd.own_blk (Kd.R_ne HO131.out BK136.out (by decide)))).trans (((cfr (Kd.own_blk (Kd.R_ne HO131.out BK136.out (by decide)))).trans (hHeld.2))))))))))))⟩
            have n0_ : Aside0 (wz.heap[gb127]? = some (.cells #[.int .i64 0, .int .i64 0, .int .i64 0, .int .i64 0, .int .i64 0, .int .i64 0, .bool false] 51 (0, 0))) := ⟨by rw [hch_]; (iterate 6 refine blk_far ?_ NB127_136.out _); exact BK127.out⟩
            have n1_ : Aside0 (wz.heap[gb136]? = some (.cells #[.int .i64 (wrap64 ((wrap64 ((wrap64 (rd t129 0)) * 256)) + (wrap64 (rd t129 1)))), .int .i64 0, .int .i64 (Int.tmod (wrap64 (rd t129 2)) 2), .int .i64 (Int.tmod (wrap64 (Int.tdiv (wrap64 (rd t129 2)) 4)) 4), .int .i64 (Int.tmod (wrap64 (Int.tdiv (wrap64 (rd t129 2)) 16)) 4), .bool ((Int.tmod (wrap64 (Int.tdiv (wrap64 (rd t129 2)) 2)) 2) == 1)] 49 (0, 0))) := ⟨by rw [hch_]; refine blk_put (cs := #[.int .i64 (wrap64 ((wrap64 ((wrap64 (rd t129 0)) * 256)) + (wrap64 (rd t129 1)))), .int .i64 0, .int .i64 (Int.tmod (wrap64 (rd t129 2)) 2), .int .i64 (Int.tmod (wrap64 (Int.tdiv (wrap64 (rd t129 2)) 4)) 4), .int .i64 (Int.tmod (wrap64 (Int.tdiv (wrap64 (rd t129 2)) 16)) 4), .bool false]) ?_ 5 _ rfl; refine blk_put (cs := #[.int .i64 (wrap64 ((wrap64 ((wrap64 (rd t129 0)) * 256)) + (wrap64 (rd t129 1)))), .int .i64 0, .int .i64 (Int.tmod (wrap64 (rd t129 2)) 2), .int .i64 (Int.tmod (wrap64 (Int.tdiv (wrap64 (rd t129 2)) 4)) 4), .int .i64 0, .bool false]) ?_ 4 _ rfl; refine blk_put (cs := #[.int .i64 (wrap64 ((wrap64 ((wrap64 (rd t129 0)) * 256)) + (wrap64 (rd t129 1)))), .int .i64 0, .int .i64 (Int.tmod (wrap64 (rd t129 2)) 2), .int .i64 0, .int .i64 0, .bool false]) ?_ 3 _ rfl; refine blk_put (cs := #[.int .i64 (wrap64 ((wrap64 ((wrap64 (rd t129 0)) * 256)) + (wrap64 (rd t129 1)))), .int .i64 0, .int .i64 0, .int .i64 0, .int .i64 0, .bool false]) ?_ 2 _ rfl; refine blk_put (cs := #[.int .i64 (wrap64 ((wrap64 ((wrap64 (rd t129 0)) * 256)) + (wrap64 (rd t129 1)))), .int .i64 0, .int .i64 0, .int .i64 0, .int .i64 0, .bool false]) ?_ 1 _ rfl; refine blk_put (cs := #[.int .i64 0, .int .i64 0, .int .i64 0, .int .i64 0, .int .i64 0, .bool false]) ?_ 0 _ rfl; exact BK136.out⟩
            have n2_ : Aside0 (Below w.heap.size w wz) := ⟨by rw [hch_]; exact bnx⟩
            refine hK.out _ _ HSz_ (fun hHeld => ?_)
            clear HSz_ hch_ BK127 BK136 HB
            have BK127 := n0_
            have BK136 := n1_
            have HB := n2_
            clear n0_ n1_ n2_
            clear hK K
            refine done_ (done_of HT_.out (by kernel_rfl)) ?_
            have hnb251 := NB136_127.out
            have hnc251 := NB127_136.out
            have hnb252 := NB136_132.out
            have hnc252 := NB132_136.out
            obtain ⟨hcz253_0, hcz253_1, hcz253_2, hcz253_3, hcz253_4, hcz253_5, hfz253_0, hfz253_1, hfz253_2, hfz253_3, hfz253_4, hfz253_5⟩ := cf6 (W := wz) BK136.out
            obtain ⟨hcz254_0, hcz254_1, hcz254_2, hcz254_3, hcz254_4, hcz254_5, hcz254_6, hfz254_0, hfz254_1, hfz254_2, hfz254_3, hfz254_4, hfz254_5, hfz254_6⟩ := cf7 (W := wz) BK127.out
            try go_wp2
            refine bodyPost_ret (results_cell_row rfl _ _ gb127 51 #[.int .i64 0, .int .i64 (wrap64 ((wrap64 ((wrap64 (rd t129 0)) * 256)) + (wrap64 (rd t129 1)))), .int .i64 16, .int .i64 (Int.tmod (wrap64 (rd t129 2)) 2), .int .i64 (Int.tmod (wrap64 (Int.tdiv (wrap64 (rd t129 2)) 4)) 4), .int .i64 (Int.tmod (wrap64 (Int.tdiv (wrap64 (rd t129 2)) 16)) 4), .bool ((Int.tmod (wrap64 (Int.tdiv (wrap64 (rd t129 2)) 2)) 2) == 1)] (0, 0) _ rfl (by (with_reducible repeat (first | refine blk_drewN ?_ _ | refine blk_drew ?_ | refine blk_alloc ?_ _)); refine blk_put (cs := #[.int .i64 0, .int .i64 (wrap64 ((wrap64 ((wrap64 (rd t129 0)) * 256)) + (wrap64 (rd t129 1)))), .int .i64 16, .int .i64 (Int.tmod (wrap64 (rd t129 2)) 2), .int .i64 (Int.tmod (wrap64 (Int.tdiv (wrap64 (rd t129 2)) 4)) 4), .int .i64 (Int.tmod (wrap64 (Int.tdiv (wrap64 (rd t129 2)) 16)) 4), .bool false]) ?_ 6 _ rfl; refine blk_put (cs := #[.int .i64 0, .int .i64 (wrap64 ((wrap64 ((wrap64 (rd t129 0)) * 256)) + (wrap64 (rd t129 1)))), .int .i64 16, .int .i64 (Int.tmod (wrap64 (rd t129 2)) 2), .int .i64 (Int.tmod (wrap64 (Int.tdiv (wrap64 (rd t129 2)) 4)) 4), .int .i64 0, .bool false]) ?_ 5 _ rfl; refine blk_put (cs := #[.int .i64 0, .int .i64 (wrap64 ((wrap64 ((wrap64 (rd t129 0)) * 256)) + (wrap64 (rd t129 1)))), .int .i64 16, .int .i64 (Int.tmod (wrap64 (rd t129 2)) 2), .int .i64 0, .int .i64 0, .bool false]) ?_ 4 _ rfl; refine blk_put (cs := #[.int .i64 0, .int .i64 (wrap64 ((wrap64 ((wrap64 (rd t129 0)) * 256)) + (wrap64 (rd t129 1)))), .int .i64 16, .int .i64 0, .int .i64 0, .int .i64 0, .bool false]) ?_ 3 _ rfl; refine blk_put (cs := #[.int .i64 0, .int .i64 (wrap64 ((wrap64 ((wrap64 (rd t129 0)) * 256)) + (wrap64 (rd t129 1)))), .int .i64 0, .int .i64 0, .int .i64 0, .int .i64 0, .bool false]) ?_ 2 _ rfl; refine blk_put (cs := #[.int .i64 0, .int .i64 0, .int .i64 0, .int .i64 0, .int .i64 0, .int .i64 0, .bool false]) ?_ 1 _ rfl; refine blk_put (cs := #[.int .i64 0, .int .i64 0, .int .i64 0, .int .i64 0, .int .i64 0, .int .i64 0, .bool false]) ?_ 0 _ rfl; (with_reducible repeat (first | refine blk_drewN ?_ _ | refine blk_drew ?_ | refine blk_alloc ?_ _)); refine blk_far ?_ NB127_136.out _; (with_reducible repeat (first | refine blk_drewN ?_ _ | refine blk_drew ?_ | refine blk_alloc ?_ _)); exact BK127.out) Try.underlying51 rfl (by kernel_rfl)) rfl ?_
            exact ⟨enq, bnx⟩
        ·rw [if_neg c175] at H
         have c175b0 : ((wrap64 (Int.tdiv (wrap64 (rd t129 2)) 64)) == 2) = false := beq_eq_false_iff_ne.mpr c175
         have c175b1 : ((wrap64 (Int.tdiv (wrap64 (rd t129 2)) 64)) != 2) = true := bne_iff_ne.mpr c175
         by_cases c255 : (wrap64 ((wrap64 ((wrap64 (rd t129 0)) * 256)) + (wrap64 (rd t129 1)))) > 9999
         ·rw [if_pos c255] at H
          have c255b0 : decide (9999 < (wrap64 ((wrap64 ((wrap64 (rd t129 0)) * 256)) + (wrap64 (rd t129 1))))) = true := decide_eq_true c255
          clear c255
          simp only [Option.some.injEq, Prod.mk.injEq] at H
          obtain ⟨rfl, rfl, rfl, rfl, rfl, rfl, rfl⟩ := H
          go_enter Try.func38, Try.ntmps38
          try go_wp2_with (first | ((with_reducible refine gate_dst (N := 2) rfl ?_); refine bev 2 51 #[.int .i64 0, .int .i64 0, .int .i64 0, .int .i64 0, .int .i64 0, .int .i64 0, .bool false] ?_; intro gb127 hg w256 hbox hb; have BK127 := am hbox; have GW127 := gwe hg; have GE127 := gwe hg; replace HB := hbs hb; clear hb hbox hg) | ((with_reducible refine gate_callee (f := 102) rfl ?_); refine gl_ 8 Try.func102 #[.slice A0 l0.length c0] ?_; (with_reducible refine (spec_OpenBytes.calls k _ _ l0 t128 t129 _ ?_ ?_ A2.out).mono ?_); exact cpl HR0.out; exact HC0.out; rintro e w257 ⟨v130, rfl, ho0, hb⟩; refine ⟨_, rfl, ?_⟩; have HO131 := rlw ho0; replace BK127 := bkb BK127 hb; replace HB := hbs hb; (try clear hb); (try clear ho0)) | ((with_reducible refine gate_dst (N := 3) rfl ?_); refine bev 3 108 #[.int .i64 0, .slice none 0 0] ?_; intro gb132 hg w258 hbox hb; replace HO131 := rbl HO131 hb; have BK132 := am hbox; have GW132 := gwe hg; have GE132 := gwe hg; replace HB := hbs hb; have NB127_132 := nbl hg BK127; have NB132_127 := nbg hg BK127; replace BK127 := bkb BK127 hb; clear hb hbox hg; have hnb259 := NB132_127.out; have hnc259 := NB127_132.out; obtain ⟨hcz260_0, hcz260_1, hfz260_0, hfz260_1⟩ := cf2 (W := w258) BK132.out; obtain ⟨Ao261, co261, eo261⟩ := Kd.R_slice HO131.out; subst eo261; have p133 : 0 ≤ (2 : Int) := (by omega); have q133 : 2 < (t129.length : Int) := dta; obtain ⟨ad133, e133, hx133_0⟩ := Kd.at_int (Kd.R_reads' HO131.out).2.2 2 p133 q133; cases e133; (try simp only [show (2 : Int).toNat = 2 from rfl, Nat.reduceMul, Nat.reduceEqDiff, Go.Addr.add, ↓reduceIte] at hx133_0); have qi133 : (2 < t129.length) = True := eq_true (by omega); (try rw [show ((2 : Int)).toNat = 2 from rfl] at hx133_0); have hn133_0 : ad133.block ≠ gb132 := Kd.own_blk (Kd.R_ne HO131.out BK132.out (by decide)); have hn133_1 : ad133.block ≠ gb132 := Kd.own_blk (Kd.R_ne HO131.out BK132.out (by decide)); replace hx133_0 := (cell_far (p := ⟨gb132, 0, none⟩) (by first | (rw [add_block]; exact hn133_0) | (show (Addr.add _ _).block ≠ _; rw [add_block]; exact hn133_0) | exact hn133_0) (.int .i64 t128)).trans hx133_0; replace hx133_0 := (cell_far (p := ⟨gb132, 1, none⟩) (by first | (rw [add_block]; exact hn133_1) | (show (Addr.add _ _).block ≠ _; rw [add_block]; exact hn133_1) | exact hn133_1) (.slice (some ad133) t129.length co261)).trans hx133_0; clear hn133_0 hn133_1; replace p133 := eq_true p133; replace q133 := eq_true q133))
          have n0_ : Aside0 (Kd.R (Kd.int .u8) 5 ((w258.setCell ⟨gb132, 0, none⟩ (.int .i64 t128)).setCell ⟨gb132, 1, none⟩ (.slice (some ad133) t129.length co261)) w.heap.size (fun _ => True) (.slice (some ad133) t129.length co261) t129) := ⟨by (with_reducible repeat (first | apply Kd.R_alloc | apply Kd.R_drewN | apply Kd.R_drew)); exact Kd.R_mono (Kd.R_far (p := ⟨gb132, 1, none⟩) (Kd.R_far (p := ⟨gb132, 0, none⟩) (Kd.R_types HO131.out BK132.out (by decide)) (fun _ hk => hk.2) (.int .i64 t128)) (fun _ hk => hk.2) (.slice (some ad133) t129.length co261)) (fun _ hk => trivial)⟩
          have n1_ : Aside0 (((w258.setCell ⟨gb132, 0, none⟩ (.int .i64 t128)).setCell ⟨gb132, 1, none⟩ (.slice (some ad133) t129.length co261)).heap[gb127]? = some (.cells #[.int .i64 0, .int .i64 0, .int .i64 0, .int .i64 0, .int .i64 0, .int .i64 0, .bool false] 51 (0, 0))) := ⟨by (with_reducible repeat (first | refine blk_drewN ?_ _ | refine blk_drew ?_ | refine blk_alloc ?_ _)); refine blk_far ?_ NB127_132.out _; (with_reducible repeat (first | refine blk_drewN ?_ _ | refine blk_drew ?_ | refine blk_alloc ?_ _)); refine blk_far ?_ NB127_132.out _; (with_reducible repeat (first | refine blk_drewN ?_ _ | refine blk_drew ?_ | refine blk_alloc ?_ _)); exact BK127.out⟩
          have n2_ : Aside0 (((w258.setCell ⟨gb132, 0, none⟩ (.int .i64 t128)).setCell ⟨gb132, 1, none⟩ (.slice (some ad133) t129.length co261)).heap[gb132]? = some (.cells #[.int .i64 t128, .slice (some ad133) t129.length co261] 108 (0, 0))) := ⟨by (with_reducible repeat (first | refine blk_drewN ?_ _ | refine blk_drew ?_ | refine blk_alloc ?_ _)); refine blk_put (cs := #[.int .i64 t128, .slice none 0 0]) ?_ 1 _ rfl; refine blk_put (cs := #[.int .i64 0, .slice none 0 0]) ?_ 0 _ rfl; exact bpl BK132.out⟩
          have n3_ : Aside0 (Below w.heap.size w ((w258.setCell ⟨gb132, 0, none⟩ (.int .i64 t128)).setCell ⟨gb132, 1, none⟩ (.slice (some ad133) t129.length co261))) := ⟨bnx⟩
          (try clear HO131)
          (try clear BK127)
          (try clear BK132)
          (try clear HB)
          generalize ((w258.setCell ⟨gb132, 0, none⟩ (.int .i64 t128)).setCell ⟨gb132, 1, none⟩ (.slice (some ad133) t129.length co261)) = w262 at n0_ n1_ n2_ n3_ ⊢
          have HO131 := n0_
          have BK127 := n1_
          have BK132 := n2_
          have HB := n3_
          clear n0_ n1_ n2_ n3_
          replace HO131 := am (Kd.R_drew HO131.out)
          replace BK127 := am (blk_drew BK127.out)
          replace BK132 := am (blk_drew BK132.out)
          replace HB := am (below_drew1 HB.out)
          have p134 : 0 ≤ (0 : Int) := (by omega)
          have q134 : 0 < (t129.length : Int) := dta
          obtain ⟨ad134, e134, hx134_0⟩ := Kd.at_int (Kd.R_reads' HO131.out).2.2 0 p134 q134
          obtain rfl : ad133 = ad134 := (by injection e134)
          have qi134 : (0 < t129.length) = True := eq_true (by omega)
          (try rw [show ((0 : Int)).toNat = 0 from rfl] at hx134_0)
          (try rw [Addr.add_zero'] at hx134_0)
          replace p134 := eq_true p134
          replace q134 := eq_true q134
          have p135 : 0 ≤ (1 : Int) := (by omega)
          have q135 : 1 < (t129.length : Int) := dta
          obtain ⟨ad135, e135, hx135_0⟩ := Kd.at_int (Kd.R_reads' HO131.out).2.2 1 p135 q135
          obtain rfl : ad133 = ad135 := (by injection e135)
          (try simp only [show (1 : Int).toNat = 1 from rfl, Nat.reduceMul, Nat.reduceEqDiff, Go.Addr.add, ↓reduceIte] at hx135_0)
          have qi135 : (1 < t129.length) = True := eq_true (by omega)
          (try rw [show ((1 : Int)).toNat = 1 from rfl] at hx135_0)
          replace p135 := eq_true p135
          replace q135 := eq_true q135
          refine start_ (n := 25) (S := fun w' => w'.cell? ad133 = some (.int .u8 (rd t129 0)) ∧ w'.cell? ⟨ad133.block, ad133.off + 1, none⟩ = some (.int .u8 (rd t129 1))) (ds := []) #[false, false, false, false, false, false, false, false, false, false, false, false, false, false, false, false, false, false, false, false, false, false, false, false, false] (by kernel_rfl) rfl rfl ⟨hx134_0, hx135_0⟩ (fun hHeld => ?_); refine with_tabW spec_ReadHead.tab8 spec_ReadHead.bits8 (fun HT_ HW_ => ?_)
          generalize w262.drew = w263 at HO131 BK127 BK132 HB hx134_0 hx135_0 hHeld ⊢
          refine pu_ 0 25 HT_ ?_
          refine pu_ 1 26 HT_ ?_
          refine pu_ 5 30 HT_ ?_
          refine pu_ 6 31 HT_ ?_
          refine pu_ 10 35 HT_ ?_
          refine pu_ 11 36 HT_ ?_
          refine pu_ 12 37 HT_ ?_
          refine pu_ 13 38 HT_ ?_
          refine pu_ 14 39 HT_ ?_
          refine pu_ 15 40 HT_ ?_
          refine pu_ 16 41 HT_ ?_
          refine pu_ 17 42 HT_ ?_
          refine pu_ 18 43 HT_ ?_
          refine pu_ 19 44 HT_ ?_
          refine pu_ 20 45 HT_ ?_
          refine pu_ 21 46 HT_ ?_
          refine tk_ 2 27 HT_ HW_ hHeld ?_
          refine pu_ 3 28 HT_ ?_
          refine pu_ 4 29 HT_ ?_
          refine tk_ 7 32 HT_ HW_ hHeld ?_
          refine pu_ 8 33 HT_ ?_
          refine pu_ 9 34 HT_ ?_
          refine pu_ 22 47 HT_ ?_
          refine on_ 23 HT_ (fun K hK => ?_)
          refine bst 6 49 #[.int .i64 0, .int .i64 0, .int .i64 0, .int .i64 0, .int .i64 0, .bool false] ?_
          intro gb136 hg w264 hbox hb
          have HS0_ := (hb.cell (World.block_lt_of_cell? _ _ (hHeld.1))).trans (hHeld.1)
          have HS1_ := (hb.cell (World.block_lt_of_cell? _ _ (hHeld.2))).trans (hHeld.2)
          replace HO131 := rbl HO131 hb
          have BK136 := am hbox
          have GW136 := gwe hg
          have GE136 := gwe hg
          replace HB := hbs hb
          have NB127_136 := nbl hg BK127
          have NB136_127 := nbg hg BK127
          replace BK127 := bkb BK127 hb
          have NB132_136 := nbl hg BK132
          have NB136_132 := nbg hg BK132
          replace BK132 := bkb BK132 hb
          clear hb hbox hg
          refine hK.out _ _ ⟨HS0_, HS1_⟩ (fun hHeld => ?_)
          clear hK K
          refine nm_ 6 ?_
          refine on_ 24 HT_ (fun K hK => ?_)
          have hs265 : w264.cell? ⟨gb136, 0, none⟩ = some (.int .i64 0) := (blk_cell BK136.out 0).trans rfl
          have hfs265 := blk_frozen BK136.out 0
          have hns265_0 := NB127_136.out
          have hns265_1 := NB132_136.out
          have hms265_0 := NB136_127.out
          have hms265_1 := NB136_132.out
          have hs266 : w264.cell? ⟨gb136, 1, none⟩ = some (.int .i64 0) := (blk_cell BK136.out 1).trans rfl
          have hfs266 := blk_frozen BK136.out 1
          have hns266_0 := NB127_136.out
          have hns266_1 := NB132_136.out
          have hms266_0 := NB136_127.out
          have hms266_1 := NB136_132.out
          have hs267 : w264.cell? ⟨gb136, 2, none⟩ = some (.int .i64 0) := (blk_cell BK136.out 2).trans rfl
          have hfs267 := blk_frozen BK136.out 2
          have hns267_0 := NB127_136.out
          have hns267_1 := NB132_136.out
          have hms267_0 := NB136_127.out
          have hms267_1 := NB136_132.out
          have hs268 : w264.cell? ⟨gb136, 3, none⟩ = some (.int .i64 0) := (blk_cell BK136.out 3).trans rfl
          have hfs268 := blk_frozen BK136.out 3
          have hns268_0 := NB127_136.out
          have hns268_1 := NB132_136.out
          have hms268_0 := NB136_127.out
          have hms268_1 := NB136_132.out
          have hs269 : w264.cell? ⟨gb136, 4, none⟩ = some (.int .i64 0) := (blk_cell BK136.out 4).trans rfl
          have hfs269 := blk_frozen BK136.out 4
          have hns269_0 := NB127_136.out
          have hns269_1 := NB132_136.out
          have hms269_0 := NB136_127.out
          have hms269_1 := NB136_132.out
          have hs270 : w264.cell? ⟨gb136, 5, none⟩ = some (.bool false) := (blk_cell BK136.out 5).trans rfl
          have hfs270 := blk_frozen BK136.out 5
          have hns270_0 := NB127_136.out
          have hns270_1 := NB132_136.out
          have hms270_0 := NB136_127.out
          have hms270_1 := NB136_132.out
          refine skip_ (w1 := ?_) (by rfl) rfl ?_ ?_
          rotate_left
          ·go_simp
           rfl
          refine hK.out _ _ ⟨((cfr (Kd.own_blk (Kd.R_ne HO131.out BK136.out (by decide)))).trans (((cfr (Kd.own_blk (Kd.R_ne HO131.out BK136.out (by decide)))).trans (((cfr (Kd.own_blk (Kd.R_ne HO131.out BK136.out (by decide)))).trans (((cfr (Kd.own_blk (Kd.R_ne HO131.out BK136.out (by decide)))).trans (((cfr (Kd.own_blk (Kd.R_ne HO131.out BK136.out (by decide)))).trans (((cfr (Kd.own_blk (Kd.R_ne HO131.out BK136.out (by decide)))).trans (hHeld.1)))))))))))), ((cfr (Kd.own_blk (Kd.R_ne HO131.out BK136.out (by decide)))).trans (((cfr (Kd.own_blk (Kd.R_ne HO131.out BK136.out (by decide)))).trans (((cfr (Kd.own_blk (Kd.R_ne HO131.out BK136.out (by decide)))).trans (((cfr (Kd.own_blk (Kd.R_ne HO131.out BK136.out (by decide)))).trans (((cfr (Kd.own_blk (Kd.R_ne HO131.out BK136.out (by decide)))).trans (((cfr (Kd.own_blk (Kd.R_ne HO131.out BK136.out (by decide)))).trans (hHeld.2))))))))))))⟩ (fun hHeld => ?_)
          clear hK K
          refine done_ (done_of HT_.out (by kernel_rfl)) ?_
          have hnb271 := NB136_127.out
          have hnc271 := NB127_136.out
          have hnb272 := NB136_132.out
          have hnc272 := NB132_136.out
          obtain ⟨hcz273_0, hcz273_1, hcz273_2, hcz273_3, hcz273_4, hcz273_5, hfz273_0, hfz273_1, hfz273_2, hfz273_3, hfz273_4, hfz273_5⟩ := cf6 (W := w264) BK136.out
          obtain ⟨hcz274_0, hcz274_1, hcz274_2, hcz274_3, hcz274_4, hcz274_5, hcz274_6, hfz274_0, hfz274_1, hfz274_2, hfz274_3, hfz274_4, hfz274_5, hfz274_6⟩ := cf7 (W := w264) BK127.out
          try go_wp2
          refine bodyPost_ret (results_cell_row rfl _ _ gb127 51 #[.int .i64 5, .int .i64 0, .int .i64 0, .int .i64 0, .int .i64 0, .int .i64 0, .bool false] (0, 0) _ rfl (by (with_reducible repeat (first | refine blk_drewN ?_ _ | refine blk_drew ?_ | refine blk_alloc ?_ _)); refine blk_put (cs := #[.int .i64 5, .int .i64 0, .int .i64 0, .int .i64 0, .int .i64 0, .int .i64 0, .bool false]) ?_ 6 _ rfl; refine blk_put (cs := #[.int .i64 5, .int .i64 0, .int .i64 0, .int .i64 0, .int .i64 0, .int .i64 0, .bool false]) ?_ 5 _ rfl; refine blk_put (cs := #[.int .i64 5, .int .i64 0, .int .i64 0, .int .i64 0, .int .i64 0, .int .i64 0, .bool false]) ?_ 4 _ rfl; refine blk_put (cs := #[.int .i64 5, .int .i64 0, .int .i64 0, .int .i64 0, .int .i64 0, .int .i64 0, .bool false]) ?_ 3 _ rfl; refine blk_put (cs := #[.int .i64 5, .int .i64 0, .int .i64 0, .int .i64 0, .int .i64 0, .int .i64 0, .bool false]) ?_ 2 _ rfl; refine blk_put (cs := #[.int .i64 5, .int .i64 0, .int .i64 0, .int .i64 0, .int .i64 0, .int .i64 0, .bool false]) ?_ 1 _ rfl; refine blk_put (cs := #[.int .i64 0, .int .i64 0, .int .i64 0, .int .i64 0, .int .i64 0, .int .i64 0, .bool false]) ?_ 0 _ rfl; (with_reducible repeat (first | refine blk_drewN ?_ _ | refine blk_drew ?_ | refine blk_alloc ?_ _)); refine blk_far ?_ NB127_136.out _; (with_reducible repeat (first | refine blk_drewN ?_ _ | refine blk_drew ?_ | refine blk_alloc ?_ _)); refine blk_far ?_ NB127_136.out _; (with_reducible repeat (first | refine blk_drewN ?_ _ | refine blk_drew ?_ | refine blk_alloc ?_ _)); refine blk_far ?_ NB127_136.out _; (with_reducible repeat (first | refine blk_drewN ?_ _ | refine blk_drew ?_ | refine blk_alloc ?_ _)); refine blk_far ?_ NB127_136.out _; (with_reducible repeat (first | refine blk_drewN ?_ _ | refine blk_drew ?_ | refine blk_alloc ?_ _)); refine blk_far ?_ NB127_136.out _; (with_reducible repeat (first | refine blk_drewN ?_ _ | refine blk_drew ?_ | refine blk_alloc ?_ _)); refine blk_far ?_ NB127_136.out _; (with_reducible repeat (first | refine blk_drewN ?_ _ | refine blk_drew ?_ | refine blk_alloc ?_ _)); exact BK127.out) Try.underlying51 rfl (by kernel_rfl)) rfl ?_
          exact ⟨enq, bnx⟩
         ·rw [if_neg c255] at H
          have c255b0 : decide (9999 < (wrap64 ((wrap64 ((wrap64 (rd t129 0)) * 256)) + (wrap64 (rd t129 1))))) = false := decide_eq_false c255
          clear c255
          by_cases c275 : (Int.tmod (wrap64 (Int.tdiv (wrap64 (rd t129 2)) 4)) 4) > 2
          ·rw [if_pos c275] at H
           have c275b0 : decide (2 < (Int.tmod (wrap64 (Int.tdiv (wrap64 (rd t129 2)) 4)) 4)) = true := decide_eq_true c275
           clear c275
           simp only [Option.some.injEq, Prod.mk.injEq] at H
           obtain ⟨rfl, rfl, rfl, rfl, rfl, rfl, rfl⟩ := H
           go_enter Try.func38, Try.ntmps38
           try go_wp2_with (first | ((with_reducible refine gate_dst (N := 2) rfl ?_); refine bev 2 51 #[.int .i64 0, .int .i64 0, .int .i64 0, .int .i64 0, .int .i64 0, .int .i64 0, .bool false] ?_; intro gb127 hg w276 hbox hb; have BK127 := am hbox; have GW127 := gwe hg; have GE127 := gwe hg; replace HB := hbs hb; clear hb hbox hg) | ((with_reducible refine gate_callee (f := 102) rfl ?_); refine gl_ 8 Try.func102 #[.slice A0 l0.length c0] ?_; (with_reducible refine (spec_OpenBytes.calls k _ _ l0 t128 t129 _ ?_ ?_ A2.out).mono ?_); exact cpl HR0.out; exact HC0.out; rintro e w277 ⟨v130, rfl, ho0, hb⟩; refine ⟨_, rfl, ?_⟩; have HO131 := rlw ho0; replace BK127 := bkb BK127 hb; replace HB := hbs hb; (try clear hb); (try clear ho0)) | ((with_reducible refine gate_dst (N := 3) rfl ?_); refine bev 3 108 #[.int .i64 0, .slice none 0 0] ?_; intro gb132 hg w278 hbox hb; replace HO131 := rbl HO131 hb; have BK132 := am hbox; have GW132 := gwe hg; have GE132 := gwe hg; replace HB := hbs hb; have NB127_132 := nbl hg BK127; have NB132_127 := nbg hg BK127; replace BK127 := bkb BK127 hb; clear hb hbox hg; have hnb279 := NB132_127.out; have hnc279 := NB127_132.out; obtain ⟨hcz280_0, hcz280_1, hfz280_0, hfz280_1⟩ := cf2 (W := w278) BK132.out; obtain ⟨Ao281, co281, eo281⟩ := Kd.R_slice HO131.out; subst eo281; have p133 : 0 ≤ (2 : Int) := (by omega); have q133 : 2 < (t129.length : Int) := dta; obtain ⟨ad133, e133, hx133_0⟩ := Kd.at_int (Kd.R_reads' HO131.out).2.2 2 p133 q133; cases e133; (try simp only [show (2 : Int).toNat = 2 from rfl, Nat.reduceMul, Nat.reduceEqDiff, Go.Addr.add, ↓reduceIte] at hx133_0); have qi133 : (2 < t129.length) = True := eq_true (by omega); (try rw [show ((2 : Int)).toNat = 2 from rfl] at hx133_0); have hn133_0 : ad133.block ≠ gb132 := Kd.own_blk (Kd.R_ne HO131.out BK132.out (by decide)); have hn133_1 : ad133.block ≠ gb132 := Kd.own_blk (Kd.R_ne HO131.out BK132.out (by decide)); replace hx133_0 := (cell_far (p := ⟨gb132, 0, none⟩) (by first | (rw [add_block]; exact hn133_0) | (show (Addr.add _ _).block ≠ _; rw [add_block]; exact hn133_0) | exact hn133_0) (.int .i64 t128)).trans hx133_0; replace hx133_0 := (cell_far (p := ⟨gb132, 1, none⟩) (by first | (rw [add_block]; exact hn133_1) | (show (Addr.add _ _).block ≠ _; rw [add_block]; exact hn133_1) | exact hn133_1) (.slice (some ad133) t129.length co281)).trans hx133_0; clear hn133_0 hn133_1; replace p133 := eq_true p133; replace q133 := eq_true q133))
           have n0_ : Aside0 (Kd.R (Kd.int .u8) 5 ((w278.setCell ⟨gb132, 0, none⟩ (.int .i64 t128)).setCell ⟨gb132, 1, none⟩ (.slice (some ad133) t129.length co281)) w.heap.size (fun _ => True) (.slice (some ad133) t129.length co281) t129) := ⟨by (with_reducible repeat (first | apply Kd.R_alloc | apply Kd.R_drewN | apply Kd.R_drew)); exact Kd.R_mono (Kd.R_far (p := ⟨gb132, 1, none⟩) (Kd.R_far (p := ⟨gb132, 0, none⟩) (Kd.R_types HO131.out BK132.out (by decide)) (fun _ hk => hk.2) (.int .i64 t128)) (fun _ hk => hk.2) (.slice (some ad133) t129.length co281)) (fun _ hk => trivial)⟩
           have n1_ : Aside0 (((w278.setCell ⟨gb132, 0, none⟩ (.int .i64 t128)).setCell ⟨gb132, 1, none⟩ (.slice (some ad133) t129.length co281)).heap[gb127]? = some (.cells #[.int .i64 0, .int .i64 0, .int .i64 0, .int .i64 0, .int .i64 0, .int .i64 0, .bool false] 51 (0, 0))) := ⟨by (with_reducible repeat (first | refine blk_drewN ?_ _ | refine blk_drew ?_ | refine blk_alloc ?_ _)); refine blk_far ?_ NB127_132.out _; (with_reducible repeat (first | refine blk_drewN ?_ _ | refine blk_drew ?_ | refine blk_alloc ?_ _)); refine blk_far ?_ NB127_132.out _; (with_reducible repeat (first | refine blk_drewN ?_ _ | refine blk_drew ?_ | refine blk_alloc ?_ _)); exact BK127.out⟩
           have n2_ : Aside0 (((w278.setCell ⟨gb132, 0, none⟩ (.int .i64 t128)).setCell ⟨gb132, 1, none⟩ (.slice (some ad133) t129.length co281)).heap[gb132]? = some (.cells #[.int .i64 t128, .slice (some ad133) t129.length co281] 108 (0, 0))) := ⟨by (with_reducible repeat (first | refine blk_drewN ?_ _ | refine blk_drew ?_ | refine blk_alloc ?_ _)); refine blk_put (cs := #[.int .i64 t128, .slice none 0 0]) ?_ 1 _ rfl; refine blk_put (cs := #[.int .i64 0, .slice none 0 0]) ?_ 0 _ rfl; exact bpl BK132.out⟩
           have n3_ : Aside0 (Below w.heap.size w ((w278.setCell ⟨gb132, 0, none⟩ (.int .i64 t128)).setCell ⟨gb132, 1, none⟩ (.slice (some ad133) t129.length co281))) := ⟨bnx⟩
           (try clear HO131)
           (try clear BK127)
           (try clear BK132)
           (try clear HB)
           generalize ((w278.setCell ⟨gb132, 0, none⟩ (.int .i64 t128)).setCell ⟨gb132, 1, none⟩ (.slice (some ad133) t129.length co281)) = w282 at n0_ n1_ n2_ n3_ ⊢
           have HO131 := n0_
           have BK127 := n1_
           have BK132 := n2_
           have HB := n3_
           clear n0_ n1_ n2_ n3_
           replace HO131 := am (Kd.R_drew HO131.out)
           replace BK127 := am (blk_drew BK127.out)
           replace BK132 := am (blk_drew BK132.out)
           replace HB := am (below_drew1 HB.out)
           have p134 : 0 ≤ (0 : Int) := (by omega)
           have q134 : 0 < (t129.length : Int) := dta
           obtain ⟨ad134, e134, hx134_0⟩ := Kd.at_int (Kd.R_reads' HO131.out).2.2 0 p134 q134
           obtain rfl : ad133 = ad134 := (by injection e134)
           have qi134 : (0 < t129.length) = True := eq_true (by omega)
           (try rw [show ((0 : Int)).toNat = 0 from rfl] at hx134_0)
           (try rw [Addr.add_zero'] at hx134_0)
           replace p134 := eq_true p134
           replace q134 := eq_true q134
           have p135 : 0 ≤ (1 : Int) := (by omega)
           have q135 : 1 < (t129.length : Int) := dta
           obtain ⟨ad135, e135, hx135_0⟩ := Kd.at_int (Kd.R_reads' HO131.out).2.2 1 p135 q135
           obtain rfl : ad133 = ad135 := (by injection e135)
           (try simp only [show (1 : Int).toNat = 1 from rfl, Nat.reduceMul, Nat.reduceEqDiff, Go.Addr.add, ↓reduceIte] at hx135_0)
           have qi135 : (1 < t129.length) = True := eq_true (by omega)
           (try rw [show ((1 : Int)).toNat = 1 from rfl] at hx135_0)
           replace p135 := eq_true p135
           replace q135 := eq_true q135
           refine start_ (n := 25) (S := fun w' => w'.cell? ad133 = some (.int .u8 (rd t129 0)) ∧ w'.cell? ⟨ad133.block, ad133.off + 1, none⟩ = some (.int .u8 (rd t129 1))) (ds := []) #[false, false, false, false, false, false, false, false, false, false, false, false, false, false, false, false, false, false, false, false, false, false, false, false, false] (by kernel_rfl) rfl rfl ⟨hx134_0, hx135_0⟩ (fun hHeld => ?_); refine with_tabW spec_ReadHead.tab8 spec_ReadHead.bits8 (fun HT_ HW_ => ?_)
           generalize w282.drew = w283 at HO131 BK127 BK132 HB hx134_0 hx135_0 hHeld ⊢
           refine pu_ 0 25 HT_ ?_
           refine pu_ 1 26 HT_ ?_
           refine pu_ 5 30 HT_ ?_
           refine pu_ 6 31 HT_ ?_
           refine pu_ 10 35 HT_ ?_
           refine pu_ 11 36 HT_ ?_
           refine pu_ 12 37 HT_ ?_
           refine pu_ 13 38 HT_ ?_
           refine pu_ 14 39 HT_ ?_
           refine pu_ 15 40 HT_ ?_
           refine pu_ 16 41 HT_ ?_
           refine pu_ 17 42 HT_ ?_
           refine pu_ 18 43 HT_ ?_
           refine pu_ 19 44 HT_ ?_
           refine pu_ 20 45 HT_ ?_
           refine pu_ 21 46 HT_ ?_
           refine tk_ 2 27 HT_ HW_ hHeld ?_
           refine pu_ 3 28 HT_ ?_
           refine pu_ 4 29 HT_ ?_
           refine tk_ 7 32 HT_ HW_ hHeld ?_
           refine pu_ 8 33 HT_ ?_
           refine pu_ 9 34 HT_ ?_
           refine pu_ 22 47 HT_ ?_
           refine on_ 23 HT_ (fun K hK => ?_)
           refine bst 6 49 #[.int .i64 0, .int .i64 0, .int .i64 0, .int .i64 0, .int .i64 0, .bool false] ?_
           intro gb136 hg w284 hbox hb
           have HS0_ := (hb.cell (World.block_lt_of_cell? _ _ (hHeld.1))).trans (hHeld.1)
           have HS1_ := (hb.cell (World.block_lt_of_cell? _ _ (hHeld.2))).trans (hHeld.2)
           replace HO131 := rbl HO131 hb
           have BK136 := am hbox
           have GW136 := gwe hg
           have GE136 := gwe hg
           replace HB := hbs hb
           have NB127_136 := nbl hg BK127
           have NB136_127 := nbg hg BK127
           replace BK127 := bkb BK127 hb
           have NB132_136 := nbl hg BK132
           have NB136_132 := nbg hg BK132
           replace BK132 := bkb BK132 hb
           clear hb hbox hg
           refine hK.out _ _ ⟨HS0_, HS1_⟩ (fun hHeld => ?_)
           clear hK K
           refine nm_ 6 ?_
           refine on_ 24 HT_ (fun K hK => ?_)
           have hs285 : w284.cell? ⟨gb136, 0, none⟩ = some (.int .i64 0) := (blk_cell BK136.out 0).trans rfl
           have hfs285 := blk_frozen BK136.out 0
           have hns285_0 := NB127_136.out
           have hns285_1 := NB132_136.out
           have hms285_0 := NB136_127.out
           have hms285_1 := NB136_132.out
           have hs286 : w284.cell? ⟨gb136, 1, none⟩ = some (.int .i64 0) := (blk_cell BK136.out 1).trans rfl
           have hfs286 := blk_frozen BK136.out 1
           have hns286_0 := NB127_136.out
           have hns286_1 := NB132_136.out
           have hms286_0 := NB136_127.out
           have hms286_1 := NB136_132.out
           have hs287 : w284.cell? ⟨gb136, 2, none⟩ = some (.int .i64 0) := (blk_cell BK136.out 2).trans rfl
           have hfs287 := blk_frozen BK136.out 2
           have hns287_0 := NB127_136.out
           have hns287_1 := NB132_136.out
           have hms287_0 := NB136_127.out
           have hms287_1 := NB136_132.out
           have hs288 : w284.cell? ⟨gb136, 3, none⟩ = some (.int .i64 0) := (blk_cell BK136.out 3).trans rfl
           have hfs288 := blk_frozen BK136.out 3
           have hns288_0 := NB127_136.out
           have hns288_1 := NB132_136.out
           have hms288_0 := NB136_127.out
           have hms288_1 := NB136_132.out
           have hs289 : w284.cell? ⟨gb136, 4, none⟩ = some (.int .i64 0) := (blk_cell BK136.out 4).trans rfl
           have hfs289 := blk_frozen BK136.out 4
           have hns289_0 := NB127_136.out
           have hns289_1 := NB132_136.out
           have hms289_0 := NB136_127.out
           have hms289_1 := NB136_132.out
           have hs290 : w284.cell? ⟨gb136, 5, none⟩ = some (.bool false) := (blk_cell BK136.out 5).trans rfl
           have hfs290 := blk_frozen BK136.out 5
           have hns290_0 := NB127_136.out
           have hns290_1 := NB132_136.out
           have hms290_0 := NB136_127.out
           have hms290_1 := NB136_132.out
           refine skip_ (w1 := ?_) (by rfl) rfl ?_ ?_
           rotate_left
           ·go_simp
            rfl
           refine hK.out _ _ ⟨((cfr (Kd.own_blk (Kd.R_ne HO131.out BK136.out (by decide)))).trans (((cfr (Kd.own_blk (Kd.R_ne HO131.out BK136.out (by decide)))).trans (((cfr (Kd.own_blk (Kd.R_ne HO131.out BK136.out (by decide)))).trans (((cfr (Kd.own_blk (Kd.R_ne HO131.out BK136.out (by decide)))).trans (((cfr (Kd.own_blk (Kd.R_ne HO131.out BK136.out (by decide)))).trans (((cfr (Kd.own_blk (Kd.R_ne HO131.out BK136.out (by decide)))).trans (hHeld.1)))))))))))), ((cfr (Kd.own_blk (Kd.R_ne HO131.out BK136.out (by decide)))).trans (((cfr (Kd.own_blk (Kd.R_ne HO131.out BK136.out (by decide)))).trans (((cfr (Kd.own_blk (Kd.R_ne HO131.out BK136.out (by decide)))).trans (((cfr (Kd.own_blk (Kd.R_ne HO131.out BK136.out (by decide)))).trans (((cfr (Kd.own_blk (Kd.R_ne HO131.out BK136.out (by decide)))).trans (((cfr (Kd.own_blk (Kd.R_ne HO131.out BK136.out (by decide)))).trans (hHeld.2))))))))))))⟩ (fun hHeld => ?_)
           clear hK K
           refine done_ (done_of HT_.out (by kernel_rfl)) ?_
           have hnb291 := NB136_127.out
           have hnc291 := NB127_136.out
           have hnb292 := NB136_132.out
           have hnc292 := NB132_136.out
           obtain ⟨hcz293_0, hcz293_1, hcz293_2, hcz293_3, hcz293_4, hcz293_5, hfz293_0, hfz293_1, hfz293_2, hfz293_3, hfz293_4, hfz293_5⟩ := cf6 (W := w284) BK136.out
           obtain ⟨hcz294_0, hcz294_1, hcz294_2, hcz294_3, hcz294_4, hcz294_5, hcz294_6, hfz294_0, hfz294_1, hfz294_2, hfz294_3, hfz294_4, hfz294_5, hfz294_6⟩ := cf7 (W := w284) BK127.out
           try go_wp2
           refine bodyPost_ret (results_cell_row rfl _ _ gb127 51 #[.int .i64 5, .int .i64 0, .int .i64 0, .int .i64 0, .int .i64 0, .int .i64 0, .bool false] (0, 0) _ rfl (by (with_reducible repeat (first | refine blk_drewN ?_ _ | refine blk_drew ?_ | refine blk_alloc ?_ _)); refine blk_put (cs := #[.int .i64 5, .int .i64 0, .int .i64 0, .int .i64 0, .int .i64 0, .int .i64 0, .bool false]) ?_ 6 _ rfl; refine blk_put (cs := #[.int .i64 5, .int .i64 0, .int .i64 0, .int .i64 0, .int .i64 0, .int .i64 0, .bool false]) ?_ 5 _ rfl; refine blk_put (cs := #[.int .i64 5, .int .i64 0, .int .i64 0, .int .i64 0, .int .i64 0, .int .i64 0, .bool false]) ?_ 4 _ rfl; refine blk_put (cs := #[.int .i64 5, .int .i64 0, .int .i64 0, .int .i64 0, .int .i64 0, .int .i64 0, .bool false]) ?_ 3 _ rfl; refine blk_put (cs := #[.int .i64 5, .int .i64 0, .int .i64 0, .int .i64 0, .int .i64 0, .int .i64 0, .bool false]) ?_ 2 _ rfl; refine blk_put (cs := #[.int .i64 5, .int .i64 0, .int .i64 0, .int .i64 0, .int .i64 0, .int .i64 0, .bool false]) ?_ 1 _ rfl; refine blk_put (cs := #[.int .i64 0, .int .i64 0, .int .i64 0, .int .i64 0, .int .i64 0, .int .i64 0, .bool false]) ?_ 0 _ rfl; (with_reducible repeat (first | refine blk_drewN ?_ _ | refine blk_drew ?_ | refine blk_alloc ?_ _)); refine blk_far ?_ NB127_136.out _; (with_reducible repeat (first | refine blk_drewN ?_ _ | refine blk_drew ?_ | refine blk_alloc ?_ _)); refine blk_far ?_ NB127_136.out _; (with_reducible repeat (first | refine blk_drewN ?_ _ | refine blk_drew ?_ | refine blk_alloc ?_ _)); refine blk_far ?_ NB127_136.out _; (with_reducible repeat (first | refine blk_drewN ?_ _ | refine blk_drew ?_ | refine blk_alloc ?_ _)); refine blk_far ?_ NB127_136.out _; (with_reducible repeat (first | refine blk_drewN ?_ _ | refine blk_drew ?_ | refine blk_alloc ?_ _)); refine blk_far ?_ NB127_136.out _; (with_reducible repeat (first | refine blk_drewN ?_ _ | refine blk_drew ?_ | refine blk_alloc ?_ _)); refine blk_far ?_ NB127_136.out _; (with_reducible repeat (first | refine blk_drewN ?_ _ | refine blk_drew ?_ | refine blk_alloc ?_ _)); exact BK127.out) Try.underlying51 rfl (by kernel_rfl)) rfl ?_
           exact ⟨enq, bnx⟩
          ·rw [if_neg c275] at H
           have c275b0 : decide (2 < (Int.tmod (wrap64 (Int.tdiv (wrap64 (rd t129 2)) 4)) 4)) = false := decide_eq_false c275
           clear c275
           by_cases c295 : 0 = 0
           ·rw [if_pos c295] at H
            have c295b0 : (0 == 0) = true := beq_iff_eq.mpr c295
            have c295b1 : (0 != 0) = false := bne_eq_false_iff_eq.mpr c295
            clear c295
            simp only [Option.some.injEq, Prod.mk.injEq] at H
            obtain ⟨rfl, rfl, rfl, rfl, rfl, rfl, rfl⟩ := H
            go_enter Try.func38, Try.ntmps38
            try go_wp2_with (first | ((with_reducible refine gate_dst (N := 2) rfl ?_); refine bev 2 51 #[.int .i64 0, .int .i64 0, .int .i64 0, .int .i64 0, .int .i64 0, .int .i64 0, .bool false] ?_; intro gb127 hg w296 hbox hb; have BK127 := am hbox; have GW127 := gwe hg; have GE127 := gwe hg; replace HB := hbs hb; clear hb hbox hg) | ((with_reducible refine gate_callee (f := 102) rfl ?_); refine gl_ 8 Try.func102 #[.slice A0 l0.length c0] ?_; (with_reducible refine (spec_OpenBytes.calls k _ _ l0 t128 t129 _ ?_ ?_ A2.out).mono ?_); exact cpl HR0.out; exact HC0.out; rintro e w297 ⟨v130, rfl, ho0, hb⟩; refine ⟨_, rfl, ?_⟩; have HO131 := rlw ho0; replace BK127 := bkb BK127 hb; replace HB := hbs hb; (try clear hb); (try clear ho0)) | ((with_reducible refine gate_dst (N := 3) rfl ?_); refine bev 3 108 #[.int .i64 0, .slice none 0 0] ?_; intro gb132 hg w298 hbox hb; replace HO131 := rbl HO131 hb; have BK132 := am hbox; have GW132 := gwe hg; have GE132 := gwe hg; replace HB := hbs hb; have NB127_132 := nbl hg BK127; have NB132_127 := nbg hg BK127; replace BK127 := bkb BK127 hb; clear hb hbox hg; have hnb299 := NB132_127.out; have hnc299 := NB127_132.out; obtain ⟨hcz300_0, hcz300_1, hfz300_0, hfz300_1⟩ := cf2 (W := w298) BK132.out; obtain ⟨Ao301, co301, eo301⟩ := Kd.R_slice HO131.out; subst eo301; have p133 : 0 ≤ (2 : Int) := (by omega); have q133 : 2 < (t129.length : Int) := dta; obtain ⟨ad133, e133, hx133_0⟩ := Kd.at_int (Kd.R_reads' HO131.out).2.2 2 p133 q133; cases e133; (try simp only [show (2 : Int).toNat = 2 from rfl, Nat.reduceMul, Nat.reduceEqDiff, Go.Addr.add, ↓reduceIte] at hx133_0); have qi133 : (2 < t129.length) = True := eq_true (by omega); (try rw [show ((2 : Int)).toNat = 2 from rfl] at hx133_0); have hn133_0 : ad133.block ≠ gb132 := Kd.own_blk (Kd.R_ne HO131.out BK132.out (by decide)); have hn133_1 : ad133.block ≠ gb132 := Kd.own_blk (Kd.R_ne HO131.out BK132.out (by decide)); replace hx133_0 := (cell_far (p := ⟨gb132, 0, none⟩) (by first | (rw [add_block]; exact hn133_0) | (show (Addr.add _ _).block ≠ _; rw [add_block]; exact hn133_0) | exact hn133_0) (.int .i64 t128)).trans hx133_0; replace hx133_0 := (cell_far (p := ⟨gb132, 1, none⟩) (by first | (rw [add_block]; exact hn133_1) | (show (Addr.add _ _).block ≠ _; rw [add_block]; exact hn133_1) | exact hn133_1) (.slice (some ad133) t129.length co301)).trans hx133_0; clear hn133_0 hn133_1; replace p133 := eq_true p133; replace q133 := eq_true q133))
            have n0_ : Aside0 (Kd.R (Kd.int .u8) 5 ((w298.setCell ⟨gb132, 0, none⟩ (.int .i64 t128)).setCell ⟨gb132, 1, none⟩ (.slice (some ad133) t129.length co301)) w.heap.size (fun _ => True) (.slice (some ad133) t129.length co301) t129) := ⟨by (with_reducible repeat (first | apply Kd.R_alloc | apply Kd.R_drewN | apply Kd.R_drew)); exact Kd.R_mono (Kd.R_far (p := ⟨gb132, 1, none⟩) (Kd.R_far (p := ⟨gb132, 0, none⟩) (Kd.R_types HO131.out BK132.out (by decide)) (fun _ hk => hk.2) (.int .i64 t128)) (fun _ hk => hk.2) (.slice (some ad133) t129.length co301)) (fun _ hk => trivial)⟩
            have n1_ : Aside0 (((w298.setCell ⟨gb132, 0, none⟩ (.int .i64 t128)).setCell ⟨gb132, 1, none⟩ (.slice (some ad133) t129.length co301)).heap[gb127]? = some (.cells #[.int .i64 0, .int .i64 0, .int .i64 0, .int .i64 0, .int .i64 0, .int .i64 0, .bool false] 51 (0, 0))) := ⟨by (with_reducible repeat (first | refine blk_drewN ?_ _ | refine blk_drew ?_ | refine blk_alloc ?_ _)); refine blk_far ?_ NB127_132.out _; (with_reducible repeat (first | refine blk_drewN ?_ _ | refine blk_drew ?_ | refine blk_alloc ?_ _)); refine blk_far ?_ NB127_132.out _; (with_reducible repeat (first | refine blk_drewN ?_ _ | refine blk_drew ?_ | refine blk_alloc ?_ _)); exact BK127.out⟩
            have n2_ : Aside0 (((w298.setCell ⟨gb132, 0, none⟩ (.int .i64 t128)).setCell ⟨gb132, 1, none⟩ (.slice (some ad133) t129.length co301)).heap[gb132]? = some (.cells #[.int .i64 t128, .slice (some ad133) t129.length co301] 108 (0, 0))) := ⟨by (with_reducible repeat (first | refine blk_drewN ?_ _ | refine blk_drew ?_ | refine blk_alloc ?_ _)); refine blk_put (cs := #[.int .i64 t128, .slice none 0 0]) ?_ 1 _ rfl; refine blk_put (cs := #[.int .i64 0, .slice none 0 0]) ?_ 0 _ rfl; exact bpl BK132.out⟩
            have n3_ : Aside0 (Below w.heap.size w ((w298.setCell ⟨gb132, 0, none⟩ (.int .i64 t128)).setCell ⟨gb132, 1, none⟩ (.slice (some ad133) t129.length co301))) := ⟨bnx⟩
            (try clear HO131)
            (try clear BK127)
            (try clear BK132)
            (try clear HB)
            generalize ((w298.setCell ⟨gb132, 0, none⟩ (.int .i64 t128)).setCell ⟨gb132, 1, none⟩ (.slice (some ad133) t129.length co301)) = w302 at n0_ n1_ n2_ n3_ ⊢
            have HO131 := n0_
            have BK127 := n1_
            have BK132 := n2_
            have HB := n3_
            clear n0_ n1_ n2_ n3_
            replace HO131 := am (Kd.R_drew HO131.out)
            replace BK127 := am (blk_drew BK127.out)
            replace BK132 := am (blk_drew BK132.out)
            replace HB := am (below_drew1 HB.out)
            have p134 : 0 ≤ (0 : Int) := (by omega)
            have q134 : 0 < (t129.length : Int) := dta
            obtain ⟨ad134, e134, hx134_0⟩ := Kd.at_int (Kd.R_reads' HO131.out).2.2 0 p134 q134
            obtain rfl : ad133 = ad134 := (by injection e134)
            have qi134 : (0 < t129.length) = True := eq_true (by omega)
            (try rw [show ((0 : Int)).toNat = 0 from rfl] at hx134_0)
            (try rw [Addr.add_zero'] at hx134_0)
            replace p134 := eq_true p134
            replace q134 := eq_true q134
            have p135 : 0 ≤ (1 : Int) := (by omega)
            have q135 : 1 < (t129.length : Int) := dta
            obtain ⟨ad135, e135, hx135_0⟩ := Kd.at_int (Kd.R_reads' HO131.out).2.2 1 p135 q135
            obtain rfl : ad133 = ad135 := (by injection e135)
            (try simp only [show (1 : Int).toNat = 1 from rfl, Nat.reduceMul, Nat.reduceEqDiff, Go.Addr.add, ↓reduceIte] at hx135_0)
            have qi135 : (1 < t129.length) = True := eq_true (by omega)
            (try rw [show ((1 : Int)).toNat = 1 from rfl] at hx135_0)
            replace p135 := eq_true p135
            replace q135 := eq_true q135
            refine start_ (n := 25) (S := fun w' => w'.cell? ad133 = some (.int .u8 (rd t129 0)) ∧ w'.cell? ⟨ad133.block, ad133.off + 1, none⟩ = some (.int .u8 (rd t129 1))) (ds := []) #[false, false, false, false, false, false, false, false, false, false, false, false, false, false, false, false, false, false, false, false, false, false, false, false, false] (by kernel_rfl) rfl rfl ⟨hx134_0, hx135_0⟩ (fun hHeld => ?_); refine with_tabW spec_ReadHead.tab8 spec_ReadHead.bits8 (fun HT_ HW_ => ?_)
            generalize w302.drew = w303 at HO131 BK127 BK132 HB hx134_0 hx135_0 hHeld ⊢
            refine pu_ 0 25 HT_ ?_
            refine pu_ 1 26 HT_ ?_
            refine pu_ 5 30 HT_ ?_
            refine pu_ 6 31 HT_ ?_
            refine pu_ 10 35 HT_ ?_
            refine pu_ 11 36 HT_ ?_
            refine pu_ 12 37 HT_ ?_
            refine pu_ 13 38 HT_ ?_
            refine pu_ 14 39 HT_ ?_
            refine pu_ 15 40 HT_ ?_
            refine pu_ 16 41 HT_ ?_
            refine pu_ 17 42 HT_ ?_
            refine pu_ 18 43 HT_ ?_
            refine pu_ 19 44 HT_ ?_
            refine pu_ 20 45 HT_ ?_
            refine pu_ 21 46 HT_ ?_
            refine tk_ 2 27 HT_ HW_ hHeld ?_
            refine pu_ 3 28 HT_ ?_
            refine pu_ 4 29 HT_ ?_
            refine tk_ 7 32 HT_ HW_ hHeld ?_
            refine pu_ 8 33 HT_ ?_
            refine pu_ 9 34 HT_ ?_
            refine pu_ 22 47 HT_ ?_
            refine on_ 23 HT_ (fun K hK => ?_)
            refine bst 6 49 #[.int .i64 0, .int .i64 0, .int .i64 0, .int .i64 0, .int .i64 0, .bool false] ?_
            intro gb136 hg w304 hbox hb
            have HS0_ := (hb.cell (World.block_lt_of_cell? _ _ (hHeld.1))).trans (hHeld.1)
            have HS1_ := (hb.cell (World.block_lt_of_cell? _ _ (hHeld.2))).trans (hHeld.2)
            replace HO131 := rbl HO131 hb
            have BK136 := am hbox
            have GW136 := gwe hg
            have GE136 := gwe hg
            replace HB := hbs hb
            have NB127_136 := nbl hg BK127
            have NB136_127 := nbg hg BK127
            replace BK127 := bkb BK127 hb
            have NB132_136 := nbl hg BK132
            have NB136_132 := nbg hg BK132
            replace BK132 := bkb BK132 hb
            clear hb hbox hg
            refine hK.out _ _ ⟨HS0_, HS1_⟩ (fun hHeld => ?_)
            clear hK K
            refine nm_ 6 ?_
            refine on_ 24 HT_ (fun K hK => ?_)
            have hs305 : w304.cell? ⟨gb136, 0, none⟩ = some (.int .i64 0) := (blk_cell BK136.out 0).trans rfl
            have hfs305 := blk_frozen BK136.out 0
            have hns305_0 := NB127_136.out
            have hns305_1 := NB132_136.out
            have hms305_0 := NB136_127.out
            have hms305_1 := NB136_132.out
            have hs306 : w304.cell? ⟨gb136, 1, none⟩ = some (.int .i64 0) := (blk_cell BK136.out 1).trans rfl
            have hfs306 := blk_frozen BK136.out 1
            have hns306_0 := NB127_136.out
            have hns306_1 := NB132_136.out
            have hms306_0 := NB136_127.out
            have hms306_1 := NB136_132.out
            have hs307 : w304.cell? ⟨gb136, 2, none⟩ = some (.int .i64 0) := (blk_cell BK136.out 2).trans rfl
            have hfs307 := blk_frozen BK136.out 2
            have hns307_0 := NB127_136.out
            have hns307_1 := NB132_136.out
            have hms307_0 := NB136_127.out
            have hms307_1 := NB136_132.out
            have hs308 : w304.cell? ⟨gb136, 3, none⟩ = some (.int .i64 0) := (blk_cell BK136.out 3).trans rfl
            have hfs308 := blk_frozen BK136.out 3
            have hns308_0 := NB127_136.out
            have hns308_1 := NB132_136.out
            have hms308_0 := NB136_127.out
            have hms308_1 := NB136_132.out
            have hs309 : w304.cell? ⟨gb136, 4, none⟩ = some (.int .i64 0) := (blk_cell BK136.out 4).trans rfl
            have hfs309 := blk_frozen BK136.out 4
            have hns309_0 := NB127_136.out
            have hns309_1 := NB132_136.out
            have hms309_0 := NB136_127.out
            have hms309_1 := NB136_132.out
            have hs310 : w304.cell? ⟨gb136, 5, none⟩ = some (.bool false) := (blk_cell BK136.out 5).trans rfl
            have hfs310 := blk_frozen BK136.out 5
            have hns310_0 := NB127_136.out
            have hns310_1 := NB132_136.out
            have hms310_0 := NB136_127.out
            have hms310_1 := NB136_132.out
            refine skip_ (w1 := ?_) (by rfl) rfl ?_ ?_
            rotate_left
            ·go_simp
             rfl
            refine hK.out _ _ ⟨((cfr (Kd.own_blk (Kd.R_ne HO131.out BK136.out (by decide)))).trans (((cfr (Kd.own_blk (Kd.R_ne HO131.out BK136.out (by decide)))).trans (((cfr (Kd.own_blk (Kd.R_ne HO131.out BK136.out (by decide)))).trans (((cfr (Kd.own_blk (Kd.R_ne HO131.out BK136.out (by decide)))).trans (((cfr (Kd.own_blk (Kd.R_ne HO131.out BK136.out (by decide)))).trans (((cfr (Kd.own_blk (Kd.R_ne HO131.out BK136.out (by decide)))).trans (hHeld.1)))))))))))), ((cfr (Kd.own_blk (Kd.R_ne HO131.out BK136.out (by decide)))).trans (((cfr (Kd.own_blk (Kd.R_ne HO131.out BK136.out (by decide)))).trans (((cfr (Kd.own_blk (Kd.R_ne HO131.out BK136.out (by decide)))).trans (((cfr (Kd.own_blk (Kd.R_ne HO131.out BK136.out (by decide)))).trans (((cfr (Kd.own_blk (Kd.R_ne HO131.out BK136.out (by decide)))).trans (((cfr (Kd.own_blk (Kd.R_ne HO131.out BK136.out (by decide)))).trans (hHeld.2))))))))))))⟩ (fun hHeld => ?_)
            clear hK K
            refine done_ (done_of HT_.out (by kernel_rfl)) ?_
            have hnb311 := NB136_127.out
            have hnc311 := NB127_136.out
            have hnb312 := NB136_132.out
            have hnc312 := NB132_136.out
            obtain ⟨hcz313_0, hcz313_1, hcz313_2, hcz313_3, hcz313_4, hcz313_5, hfz313_0, hfz313_1, hfz313_2, hfz313_3, hfz313_4, hfz313_5⟩ := cf6 (W := w304) BK136.out
            obtain ⟨hcz314_0, hcz314_1, hcz314_2, hcz314_3, hcz314_4, hcz314_5, hcz314_6, hfz314_0, hfz314_1, hfz314_2, hfz314_3, hfz314_4, hfz314_5, hfz314_6⟩ := cf7 (W := w304) BK127.out
            try go_wp2
            refine bodyPost_ret (results_cell_row rfl _ _ gb127 51 #[.int .i64 5, .int .i64 0, .int .i64 0, .int .i64 0, .int .i64 0, .int .i64 0, .bool false] (0, 0) _ rfl (by (with_reducible repeat (first | refine blk_drewN ?_ _ | refine blk_drew ?_ | refine blk_alloc ?_ _)); refine blk_put (cs := #[.int .i64 5, .int .i64 0, .int .i64 0, .int .i64 0, .int .i64 0, .int .i64 0, .bool false]) ?_ 6 _ rfl; refine blk_put (cs := #[.int .i64 5, .int .i64 0, .int .i64 0, .int .i64 0, .int .i64 0, .int .i64 0, .bool false]) ?_ 5 _ rfl; refine blk_put (cs := #[.int .i64 5, .int .i64 0, .int .i64 0, .int .i64 0, .int .i64 0, .int .i64 0, .bool false]) ?_ 4 _ rfl; refine blk_put (cs := #[.int .i64 5, .int .i64 0, .int .i64 0, .int .i64 0, .int .i64 0, .int .i64 0, .bool false]) ?_ 3 _ rfl; refine blk_put (cs := #[.int .i64 5, .int .i64 0, .int .i64 0, .int .i64 0, .int .i64 0, .int .i64 0, .bool false]) ?_ 2 _ rfl; refine blk_put (cs := #[.int .i64 5, .int .i64 0, .int .i64 0, .int .i64 0, .int .i64 0, .int .i64 0, .bool false]) ?_ 1 _ rfl; refine blk_put (cs := #[.int .i64 0, .int .i64 0, .int .i64 0, .int .i64 0, .int .i64 0, .int .i64 0, .bool false]) ?_ 0 _ rfl; (with_reducible repeat (first | refine blk_drewN ?_ _ | refine blk_drew ?_ | refine blk_alloc ?_ _)); refine blk_far ?_ NB127_136.out _; (with_reducible repeat (first | refine blk_drewN ?_ _ | refine blk_drew ?_ | refine blk_alloc ?_ _)); refine blk_far ?_ NB127_136.out _; (with_reducible repeat (first | refine blk_drewN ?_ _ | refine blk_drew ?_ | refine blk_alloc ?_ _)); refine blk_far ?_ NB127_136.out _; (with_reducible repeat (first | refine blk_drewN ?_ _ | refine blk_drew ?_ | refine blk_alloc ?_ _)); refine blk_far ?_ NB127_136.out _; (with_reducible repeat (first | refine blk_drewN ?_ _ | refine blk_drew ?_ | refine blk_alloc ?_ _)); refine blk_far ?_ NB127_136.out _; (with_reducible repeat (first | refine blk_drewN ?_ _ | refine blk_drew ?_ | refine blk_alloc ?_ _)); refine blk_far ?_ NB127_136.out _; (with_reducible repeat (first | refine blk_drewN ?_ _ | refine blk_drew ?_ | refine blk_alloc ?_ _)); exact BK127.out) Try.underlying51 rfl (by kernel_rfl)) rfl ?_
            exact ⟨enq, bnx⟩
           ·exact absurd rfl c295
     ·rw [if_neg c14] at H
      exact absurd H (by simp)
    ·rw [if_neg c13] at H
     exact absurd H (by simp)
   ·rw [if_neg c12] at H
    exact absurd H (by simp)
 ·rw [if_neg c3] at H
  have c3b0 : (t128 == 0) = false := beq_eq_false_iff_ne.mpr c3
  have c3b1 : (t128 != 0) = true := bne_iff_ne.mpr c3
  simp only [Option.some.injEq, Prod.mk.injEq] at H
  obtain ⟨rfl, rfl, rfl, rfl, rfl, rfl, rfl⟩ := H
  go_enter Try.func38, Try.ntmps38
  go_wp2_with (first | ((with_reducible refine gate_dst (N := 2) rfl ?_); refine bev 2 51 #[.int .i64 0, .int .i64 0, .int .i64 0, .int .i64 0, .int .i64 0, .int .i64 0, .bool false] ?_; intro gb127 hg w334 hbox hb; have BK127 := am hbox; have GW127 := gwe hg; have GE127 := gwe hg; replace HB := hbs hb; clear hb hbox hg) | ((with_reducible refine gate_callee (f := 102) rfl ?_); refine gl_ 8 Try.func102 #[.slice A0 l0.length c0] ?_; (with_reducible refine (spec_OpenBytes.calls k _ _ l0 t128 t129 _ ?_ ?_ A2.out).mono ?_); exact cpl HR0.out; exact HC0.out; rintro e w335 ⟨v130, rfl, ho0, hb⟩; refine ⟨_, rfl, ?_⟩; have HO131 := rlw ho0; replace BK127 := bkb BK127 hb; replace HB := hbs hb; (try clear hb); (try clear ho0)) | ((with_reducible refine gate_dst (N := 3) rfl ?_); refine bev 3 108 #[.int .i64 0, .slice none 0 0] ?_; intro gb132 hg w336 hbox hb; replace HO131 := rbl HO131 hb; have BK132 := am hbox; have GW132 := gwe hg; have GE132 := gwe hg; replace HB := hbs hb; have NB127_132 := nbl hg BK127; have NB132_127 := nbg hg BK127; replace BK127 := bkb BK127 hb; clear hb hbox hg; have hnb337 := NB132_127.out; have hnc337 := NB127_132.out; obtain ⟨hcz338_0, hcz338_1, hfz338_0, hfz338_1⟩ := cf2 (W := w336) BK132.out; obtain ⟨Ao339, co339, eo339⟩ := Kd.R_slice HO131.out; subst eo339; obtain ⟨hcz340_0, hcz340_1, hcz340_2, hcz340_3, hcz340_4, hcz340_5, hcz340_6, hfz340_0, hfz340_1, hfz340_2, hfz340_3, hfz340_4, hfz340_5, hfz340_6⟩ := cf7 (W := w336) BK127.out))
  refine bodyPost_ret (results_cell_row rfl _ _ gb127 51 #[.int .i64 t128, .int .i64 0, .int .i64 0, .int .i64 0, .int .i64 0, .int .i64 0, .bool false] (0, 0) _ rfl (by (with_reducible repeat (first | refine blk_drewN ?_ _ | refine blk_drew ?_ | refine blk_alloc ?_ _)); refine blk_put (cs := #[.int .i64 t128, .int .i64 0, .int .i64 0, .int .i64 0, .int .i64 0, .int .i64 0, .bool false]) ?_ 6 _ rfl; refine blk_put (cs := #[.int .i64 t128, .int .i64 0, .int .i64 0, .int .i64 0, .int .i64 0, .int .i64 0, .bool false]) ?_ 5 _ rfl; refine blk_put (cs := #[.int .i64 t128, .int .i64 0, .int .i64 0, .int .i64 0, .int .i64 0, .int .i64 0, .bool false]) ?_ 4 _ rfl; refine blk_put (cs := #[.int .i64 t128, .int .i64 0, .int .i64 0, .int .i64 0, .int .i64 0, .int .i64 0, .bool false]) ?_ 3 _ rfl; refine blk_put (cs := #[.int .i64 t128, .int .i64 0, .int .i64 0, .int .i64 0, .int .i64 0, .int .i64 0, .bool false]) ?_ 2 _ rfl; refine blk_put (cs := #[.int .i64 t128, .int .i64 0, .int .i64 0, .int .i64 0, .int .i64 0, .int .i64 0, .bool false]) ?_ 1 _ rfl; refine blk_put (cs := #[.int .i64 0, .int .i64 0, .int .i64 0, .int .i64 0, .int .i64 0, .int .i64 0, .bool false]) ?_ 0 _ rfl; (with_reducible repeat (first | refine blk_drewN ?_ _ | refine blk_drew ?_ | refine blk_alloc ?_ _)); refine blk_far ?_ NB127_132.out _; (with_reducible repeat (first | refine blk_drewN ?_ _ | refine blk_drew ?_ | refine blk_alloc ?_ _)); refine blk_far ?_ NB127_132.out _; (with_reducible repeat (first | refine blk_drewN ?_ _ | refine blk_drew ?_ | refine blk_alloc ?_ _)); exact BK127.out) Try.underlying51 rfl (by kernel_rfl)) rfl ?_
  exact ⟨enq, bnx⟩

end Go.Proofs.Ytoepnammegcjeaa.PFnExactReadHead
