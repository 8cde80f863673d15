-- Contracts of the functions that the law reaches, written by wip/xprint.py of this repo.
import Derived.Test.YtoepnammegcjeaaPFnExactReadHeadx0
import Derived.Test.YtoepnammegcjeaaPFnExactReadHeadx1
import Derived.Test.YtoepnammegcjeaaPFnExactReadHeadx4
namespace Go.Proofs.Ytoepnammegcjeaa.PFnExactReadHead
open Go.RowKit Go.Proofs.YtoepnammegcjeaaW.PrintWords Go.Proofs.YtoepnammegcjeaaW.PrintLast Go.Proofs.YtoepnammegcjeaaW.PrintMore
attribute [local go_sem] max2_int min2_int max_two min_two max_three min_three max_four min_four   -- for this text's walks alone
set_option linter.unusedVariables false
set_option linter.unusedSimpArgs false

/-! ### impl_readHead: function 104 -/
def impl_readHead.f (l0 : List Int) : Option (Int × Int × Int × Int × Int × Bool × Bool) := if (l0.length : Int) < 3 then (some (0, 0, 0, 0, 0, false, false)) else (if 2 < (l0.length : Int) then (if 0 < (l0.length : Int) then (if 1 < (l0.length : Int) then (if 0 ≤ ((wrap64 (rd l0 2)) / 64) then ((impl_isNumber.f (Go.bits .or .i64 (wrap64 ((wrap64 (rd l0 0)) * 256)) (wrap64 (rd l0 1)))).bind fun t166 => (if t166 = true then ((impl_isSpread.f (Go.bits .and .i64 ((wrap64 (rd l0 2)) / 4) 3)).bind fun t167 => (if t167 = true then (some (Go.bits .or .i64 (wrap64 ((wrap64 (rd l0 0)) * 256)) (wrap64 (rd l0 1)), shl .i64 4 ((wrap64 (rd l0 2)) / 64), Go.bits .and .i64 (wrap64 (rd l0 2)) 1, Go.bits .and .i64 ((wrap64 (rd l0 2)) / 4) 3, Go.bits .and .i64 ((wrap64 (rd l0 2)) / 16) 3, decide ((Go.bits .and .i64 (wrap64 (rd l0 2)) 2) > 0), decide (((wrap64 (rd l0 2)) / 64) < 3))) else (some (Go.bits .or .i64 (wrap64 ((wrap64 (rd l0 0)) * 256)) (wrap64 (rd l0 1)), shl .i64 4 ((wrap64 (rd l0 2)) / 64), Go.bits .and .i64 (wrap64 (rd l0 2)) 1, Go.bits .and .i64 ((wrap64 (rd l0 2)) / 4) 3, Go.bits .and .i64 ((wrap64 (rd l0 2)) / 16) 3, decide ((Go.bits .and .i64 (wrap64 (rd l0 2)) 2) > 0), false)))) else (some (Go.bits .or .i64 (wrap64 ((wrap64 (rd l0 0)) * 256)) (wrap64 (rd l0 1)), shl .i64 4 ((wrap64 (rd l0 2)) / 64), Go.bits .and .i64 (wrap64 (rd l0 2)) 1, Go.bits .and .i64 ((wrap64 (rd l0 2)) / 4) 3, Go.bits .and .i64 ((wrap64 (rd l0 2)) / 16) 3, decide ((Go.bits .and .i64 (wrap64 (rd l0 2)) 2) > 0), false)))) else (none)) else (none)) else (none)) else (none))
def impl_readHead.T4 : Bool × List (List Nat × List Nat) := (true, [([], []), ([0], [0]), ([1], [1]), ([2], [2]), ([3], [3]), ([], []), ([5], [5]), ([6], [6]), ([7], [7]), ([4, 8], [4, 8]), ([], []), ([10], [10]), ([], []), ([12], [12]), ([13], [13]), ([], []), ([15], [15]), ([16], [16]), ([], []), ([18], [18]), ([19], [19]), ([], []), ([21], [21]), ([22], [22]), ([9, 11, 14, 17, 20, 23], [9, 11, 14, 17, 20, 23]), ([], []), ([25, 24, 0, 1, 2, 3, 4, 5, 6, 7, 8, 9, 10, 11, 12, 13, 14, 15, 16, 17, 18, 19, 20, 21, 22, 23, 24, 25], [24, 25])])
def impl_readHead.B4 : List Nat := [0, 1, 3, 7, 15, 0, 32, 96, 224, 511, 0, 1024, 0, 4096, 12288, 0, 32768, 98304, 0, 262144, 786432, 0, 2097152, 6291456, 16777215, 0, 67108863]
theorem impl_readHead.tab4 : rtab .any (opsOf Try.f104 4) = impl_readHead.T4 := by kernel_rfl
theorem impl_readHead.bits4 : waitsOk impl_readHead.T4.2 impl_readHead.B4 = true := by kernel_rfl
def impl_readHead.T5 : Bool × List (List Nat × List Nat) := (true, [([], []), ([], []), ([1], [1]), ([2], [2]), ([3, 3], [3]), ([4], [4]), ([5, 4], [4, 5]), ([6, 4, 4], [4, 6]), ([4, 7], [4, 7]), ([8, 7], [8]), ([9], [9]), ([10, 9], [9, 10]), ([11, 9], [9, 11]), ([9, 12], [9, 12]), ([0, 9, 0], [0]), ([13, 14, 0, 1, 2, 3, 4, 5, 6, 7, 8, 9, 10, 11, 12, 13, 14], [13])])
def impl_readHead.B5 : List Nat := [0, 0, 2, 6, 14, 30, 62, 126, 254, 510, 1022, 2046, 4094, 8190, 1023, 32767]
theorem impl_readHead.tab5 : rtab .any (opsOf Try.f104 5) = impl_readHead.T5 := by kernel_rfl
theorem impl_readHead.bits5 : waitsOk impl_readHead.T5.2 impl_readHead.B5 = true := by kernel_rfl
theorem bkq {w wq : World} {n g t : Nat} {cs : Array Value} (h : Aside0 (w.heap[g]? = some (.cells cs t (0, 0)))) (hq : World.drewN w n = wq) : Aside0 (wq.heap[g]? = some (.cells cs t (0, 0))) := ⟨by subst hq; exact blk_drewN h.out n⟩
theorem blq {w0 w wq : World} {n : Nat} (h : Aside0 (Below w0.heap.size w0 w)) (hq : World.drewN w n = wq) : Aside0 (Below w0.heap.size w0 wq) := ⟨by subst hq; repeat (first | exact h.out | apply pw_below_drewN)⟩
set_option maxHeartbeats 8000000 in
set_option maxRecDepth 100000 in
theorem impl_readHead.calls (A0 : Option Addr) (c0 : Nat) (l0 : List Int) (r1 : Int) (r2 : Int) (r3 : Int) (r4 : Int) (r5 : Int) (r6 : Bool) (r7 : Bool) (w : World) (hr0 : Kd.C (Kd.int .u8) w A0 l0.length l0) (hc0 : l0.length ≤ c0) (h : impl_readHead.f l0 = some (r1, r2, r3, r4, r5, r6, r7)) :
  Calls Try.prog 104 #[.slice A0 l0.length c0] w fun e w' => e = .returned (.tuple #[.agg #[.int .i64 r1, .int .i64 r2, .int .i64 r3, .int .i64 r4, .int .i64 r5, .bool r6], .bool r7]) ∧ Below w.heap.size w w' := by
 have hu49 := Try.underlying49
 have HR0 := Aside0.mk hr0
 have HC0 := Aside0.mk hc0
 clear hr0 hc0
 have HB := Aside0.mk (Below.refl w.heap.size w)
 have H : (if (l0.length : Int) < 3 then (some (0, 0, 0, 0, 0, false, false)) else (if 2 < (l0.length : Int) then (if 0 < (l0.length : Int) then (if 1 < (l0.length : Int) then (if 0 ≤ ((wrap64 (rd l0 2)) / 64) then ((impl_isNumber.f (Go.bits .or .i64 (wrap64 ((wrap64 (rd l0 0)) * 256)) (wrap64 (rd l0 1)))).bind fun t166 => (if t166 = true then ((impl_isSpread.f (Go.bits .and .i64 ((wrap64 (rd l0 2)) / 4) 3)).bind fun t167 => (if t167 = true then (some (Go.bits .or .i64 (wrap64 ((wrap64 (rd l0 0)) * 256)) (wrap64 (rd l0 1)), shl .i64 4 ((wrap64 (rd l0 2)) / 64), Go.bits .and .i64 (wrap64 (rd l0 2)) 1, Go.bits .and .i64 ((wrap64 (rd l0 2)) / 4) 3, Go.bits .and .i64 ((wrap64 (rd l0 2)) / 16) 3, decide ((Go.bits .and .i64 (wrap64 (rd l0 2)) 2) > 0), decide (((wrap64 (rd l0 2)) / 64) < 3))) else (some (Go.bits .or .i64 (wrap64 ((wrap64 (rd l0 0)) * 256)) (wrap64 (rd l0 1)), shl .i64 4 ((wrap64 (rd l0 2)) / 64), Go.bits .and .i64 (wrap64 (rd l0 2)) 1, Go.bits .and .i64 ((wrap64 (rd l0 2)) / 4) 3, Go.bits .and .i64 ((wrap64 (rd l0 2)) / 16) 3, decide ((Go.bits .and .i64 (wrap64 (rd l0 2)) 2) > 0), false)))) else (some (Go.bits .or .i64 (wrap64 ((wrap64 (rd l0 0)) * 256)) (wrap64 (rd l0 1)), shl .i64 4 ((wrap64 (rd l0 2)) / 64), Go.bits .and .i64 (wrap64 (rd l0 2)) 1, Go.bits .and .i64 ((wrap64 (rd l0 2)) / 4) 3, Go.bits .and .i64 ((wrap64 (rd l0 2)) / 16) 3, decide ((Go.bits .and .i64 (wrap64 (rd l0 2)) 2) > 0), false)))) else (none)) else (none)) else (none)) else (none))) = some (r1, r2, r3, r4, r5, r6, r7) := h
 clear h
 by_cases c2 : (l0.length : Int) < 3
 ·rw [if_pos c2] at H
  have c2b0 : decide ((l0.length : Int) < 3) = true := decide_eq_true c2
  have c2b1 : decide (l0.length < 3) = true := decide_eq_true (by omega)
  clear c2
  simp only [Option.some.injEq, Prod.mk.injEq] at H
  obtain ⟨rfl, rfl, rfl, rfl, rfl, rfl, rfl⟩ := H
  go_enter Try.func104, Try.ntmps104
  go_wp2_with (first | ((with_reducible refine gate_dst (N := 2) rfl ?_); refine bev 2 49 #[.int .i64 0, .int .i64 0, .int .i64 0, .int .i64 0, .int .i64 0, .bool false] ?_; intro gb161 hg w3 hbox hb; have BK161 := am hbox; have GW161 := gwe hg; have GE161 := gwe hg; replace HB := hbs hb; clear hb hbox hg; obtain ⟨hcz4_0, hcz4_1, hcz4_2, hcz4_3, hcz4_4, hcz4_5, hfz4_0, hfz4_1, hfz4_2, hfz4_3, hfz4_4, hfz4_5⟩ := cf6 (W := w3) BK161.out))
  refine bodyPost_ret (results_ct rfl _ _ gb161 49 #[.int .i64 0, .int .i64 0, .int .i64 0, .int .i64 0, .int .i64 0, .bool false] (0, 0) _ rfl (by (with_reducible repeat (first | refine blk_drewN ?_ _ | refine blk_drew ?_ | refine blk_alloc ?_ _)); refine blk_put (cs := #[.int .i64 0, .int .i64 0, .int .i64 0, .int .i64 0, .int .i64 0, .bool false]) ?_ 5 _ rfl; refine blk_put (cs := #[.int .i64 0, .int .i64 0, .int .i64 0, .int .i64 0, .int .i64 0, .bool false]) ?_ 4 _ rfl; refine blk_put (cs := #[.int .i64 0, .int .i64 0, .int .i64 0, .int .i64 0, .int .i64 0, .bool false]) ?_ 3 _ rfl; refine blk_put (cs := #[.int .i64 0, .int .i64 0, .int .i64 0, .int .i64 0, .int .i64 0, .bool false]) ?_ 2 _ rfl; refine blk_put (cs := #[.int .i64 0, .int .i64 0, .int .i64 0, .int .i64 0, .int .i64 0, .bool false]) ?_ 1 _ rfl; refine blk_put (cs := #[.int .i64 0, .int .i64 0, .int .i64 0, .int .i64 0, .int .i64 0, .bool false]) ?_ 0 _ rfl; exact bpl BK161.out) Try.underlying49 rfl (by kernel_rfl)) rfl ?_
  exact ⟨enq, bnx⟩
 ·rw [if_neg c2] at H
  have c2b0 : decide ((l0.length : Int) < 3) = false := decide_eq_false c2
  have c2b1 : decide (l0.length < 3) = false := decide_eq_false (by omega)
  clear c2
  by_cases c5 : 2 < (l0.length : Int)
  ·rw [if_pos c5] at H
   have c5b0 : decide (2 < (l0.length : Int)) = true := decide_eq_true c5
   have c5b1 : decide (2 < l0.length) = true := decide_eq_true (by omega)
   clear c5
   by_cases c6 : 0 < (l0.length : Int)
   ·rw [if_pos c6] at H
    have c6b0 : decide (0 < (l0.length : Int)) = true := decide_eq_true c6
    have c6b1 : decide (0 < l0.length) = true := decide_eq_true (by omega)
    clear c6
    by_cases c7 : 1 < (l0.length : Int)
    ·rw [if_pos c7] at H
     have c7b0 : decide (1 < (l0.length : Int)) = true := decide_eq_true c7
     have c7b1 : decide (1 < l0.length) = true := decide_eq_true (by omega)
     clear c7
     obtain ⟨ji8, hji8⟩ : ∃ j_ : Int, ((wrap64 (rd l0 2)) / 64) = j_ := ⟨_, rfl⟩
     replace H : (if 0 ≤ (ji8) then ((impl_isNumber.f (Go.bits .or .i64 (wrap64 ((wrap64 (rd l0 0)) * 256)) (wrap64 (rd l0 1)))).bind fun t166 => (if t166 = true then ((impl_isSpread.f (Go.bits .and .i64 ((wrap64 (rd l0 2)) / 4) 3)).bind fun t167 => (if t167 = true then (some (Go.bits .or .i64 (wrap64 ((wrap64 (rd l0 0)) * 256)) (wrap64 (rd l0 1)), shl .i64 4 (ji8), Go.bits .and .i64 (wrap64 (rd l0 2)) 1, Go.bits .and .i64 ((wrap64 (rd l0 2)) / 4) 3, Go.bits .and .i64 ((wrap64 (rd l0 2)) / 16) 3, decide ((Go.bits .and .i64 (wrap64 (rd l0 2)) 2) > 0), decide ((ji8) < 3))) else (some (Go.bits .or .i64 (wrap64 ((wrap64 (rd l0 0)) * 256)) (wrap64 (rd l0 1)), shl .i64 4 (ji8), Go.bits .and .i64 (wrap64 (rd l0 2)) 1, Go.bits .and .i64 ((wrap64 (rd l0 2)) / 4) 3, Go.bits .and .i64 ((wrap64 (rd l0 2)) / 16) 3, decide ((Go.bits .and .i64 (wrap64 (rd l0 2)) 2) > 0), false)))) else (some (Go.bits .or .i64 (wrap64 ((wrap64 (rd l0 0)) * 256)) (wrap64 (rd l0 1)), shl .i64 4 (ji8), Go.bits .and .i64 (wrap64 (rd l0 2)) 1, Go.bits .and .i64 ((wrap64 (rd l0 2)) / 4) 3, Go.bits .and .i64 ((wrap64 (rd l0 2)) / 16) 3, decide ((Go.bits .and .i64 (wrap64 (rd l0 2)) 2) > 0), false)))) else (none)) = some (r1, r2, r3, r4, r5, r6, r7) := by first | (rw [hji8] at H; exact H) | (simp only [hji8] at H ⊢; exact H)
     by_cases c9 : 0 ≤ (ji8)
     ·rw [if_pos c9] at H
      have c9b0 := eq_true c9
      have c9b1 : decide (0 ≤ (ji8)) = true := decide_eq_true c9
      clear c9
      obtain ⟨ji10, hji10⟩ : ∃ j_ : Int, (shl .i64 4 (ji8)) = j_ := ⟨_, rfl⟩
      replace H : ((impl_isNumber.f (Go.bits .or .i64 (wrap64 ((wrap64 (rd l0 0)) * 256)) (wrap64 (rd l0 1)))).bind fun t166 => (if t166 = true then ((impl_isSpread.f (Go.bits .and .i64 ((wrap64 (rd l0 2)) / 4) 3)).bind fun t167 => (if t167 = true then (some (Go.bits .or .i64 (wrap64 ((wrap64 (rd l0 0)) * 256)) (wrap64 (rd l0 1)), ji10, Go.bits .and .i64 (wrap64 (rd l0 2)) 1, Go.bits .and .i64 ((wrap64 (rd l0 2)) / 4) 3, Go.bits .and .i64 ((wrap64 (rd l0 2)) / 16) 3, decide ((Go.bits .and .i64 (wrap64 (rd l0 2)) 2) > 0), decide ((ji8) < 3))) else (some (Go.bits .or .i64 (wrap64 ((wrap64 (rd l0 0)) * 256)) (wrap64 (rd l0 1)), ji10, Go.bits .and .i64 (wrap64 (rd l0 2)) 1, Go.bits .and .i64 ((wrap64 (rd l0 2)) / 4) 3, Go.bits .and .i64 ((wrap64 (rd l0 2)) / 16) 3, decide ((Go.bits .and .i64 (wrap64 (rd l0 2)) 2) > 0), false)))) else (some (Go.bits .or .i64 (wrap64 ((wrap64 (rd l0 0)) * 256)) (wrap64 (rd l0 1)), ji10, Go.bits .and .i64 (wrap64 (rd l0 2)) 1, Go.bits .and .i64 ((wrap64 (rd l0 2)) / 4) 3, Go.bits .and .i64 ((wrap64 (rd l0 2)) / 16) 3, decide ((Go.bits .and .i64 (wrap64 (rd l0 2)) 2) > 0), false)))) = some (r1, r2, r3, r4, r5, r6, r7) := by first | (rw [hji10] at H; exact H) | (simp only [hji10] at H ⊢; exact H)
      have hji10_ : (IntKind.i64.wrap (4 * 2 ^ min (ji8).toNat 64)) = ji10 := hji10
      have hji10z : (ji8) ≤ 64 → (IntKind.i64.wrap (4 * 2 ^ (ji8).toNat)) = ji10 := shl_small hji10
      have hji10y : (wrap64 (4 * 2 ^ min (ji8).toNat 64)) = ji10 := (i64_w _).symm.trans hji10_
      have hji10x : (ji8) ≤ 64 → (wrap64 (4 * 2 ^ (ji8).toNat)) = ji10 := fun h_ => (i64_w _).symm.trans (hji10z h_)
      replace H := bnd H
      obtain ⟨t166, A11, H⟩ := H
      by_cases c12 : t166 = true
      ·subst c12
       replace H : ((impl_isSpread.f (Go.bits .and .i64 ((wrap64 (rd l0 2)) / 4) 3)).bind fun t167 => (if t167 = true then (some (Go.bits .or .i64 (wrap64 ((wrap64 (rd l0 0)) * 256)) (wrap64 (rd l0 1)), ji10, Go.bits .and .i64 (wrap64 (rd l0 2)) 1, Go.bits .and .i64 ((wrap64 (rd l0 2)) / 4) 3, Go.bits .and .i64 ((wrap64 (rd l0 2)) / 16) 3, decide ((Go.bits .and .i64 (wrap64 (rd l0 2)) 2) > 0), decide ((ji8) < 3))) else (some (Go.bits .or .i64 (wrap64 ((wrap64 (rd l0 0)) * 256)) (wrap64 (rd l0 1)), ji10, Go.bits .and .i64 (wrap64 (rd l0 2)) 1, Go.bits .and .i64 ((wrap64 (rd l0 2)) / 4) 3, Go.bits .and .i64 ((wrap64 (rd l0 2)) / 16) 3, decide ((Go.bits .and .i64 (wrap64 (rd l0 2)) 2) > 0), false)))) = some (r1, r2, r3, r4, r5, r6, r7) := by rw [if_pos rfl] at H; exact H
       replace H := bnd H
       obtain ⟨t167, A13, H⟩ := H
       by_cases c14 : t167 = true
       ·subst c14
        replace H : (some (Go.bits .or .i64 (wrap64 ((wrap64 (rd l0 0)) * 256)) (wrap64 (rd l0 1)), ji10, Go.bits .and .i64 (wrap64 (rd l0 2)) 1, Go.bits .and .i64 ((wrap64 (rd l0 2)) / 4) 3, Go.bits .and .i64 ((wrap64 (rd l0 2)) / 16) 3, decide ((Go.bits .and .i64 (wrap64 (rd l0 2)) 2) > 0), decide ((ji8) < 3))) = some (r1, r2, r3, r4, r5, r6, r7) := by rw [if_pos rfl] at H; exact H
        simp only [Option.some.injEq, Prod.mk.injEq] at H
        obtain ⟨rfl, rfl, rfl, rfl, rfl, rfl, rfl⟩ := H
        go_enter Try.func104, Try.ntmps104
        try go_wp2_with (first | ((with_reducible refine gate_dst (N := 2) rfl ?_); refine bev 2 49 #[.int .i64 0, .int .i64 0, .int .i64 0, .int .i64 0, .int .i64 0, .bool false] ?_; intro gb161 hg w15 hbox hb; have BK161 := am hbox; have GW161 := gwe hg; have GE161 := gwe hg; replace HB := hbs hb; clear hb hbox hg; have p162 : 0 ≤ (2 : Int) := (by omega); have q162 : 2 < (l0.length : Int) := dta; obtain ⟨ad162, e162, hx162_0⟩ := Kd.at_int HR0.out 2 p162 q162; cases e162; (try simp only [show (2 : Int).toNat = 2 from rfl, Nat.reduceMul, Nat.reduceEqDiff, Go.Addr.add, ↓reduceIte] at hx162_0); have qi162 : (2 < l0.length) = True := eq_true (by omega); (try rw [show ((2 : Int)).toNat = 2 from rfl] at hx162_0); replace hx162_0 := (HB.out.cell (World.block_lt_of_cell? w _ hx162_0)).trans hx162_0; replace p162 := eq_true p162; replace q162 := eq_true q162))
        replace BK161 := am (blk_drew BK161.out)
        replace HB := am (below_drew1 HB.out)
        have p163 : 0 ≤ (0 : Int) := (by omega)
        have q163 : 0 < (l0.length : Int) := dta
        obtain ⟨ad163, e163, hx163_0⟩ := Kd.at_int HR0.out 0 p163 q163
        have hw163_0 := hx163_0
        (try rw [show ((0 : Int)).toNat = 0 from rfl] at hw163_0)
        (try rw [show 0 * 1 = 0 from rfl] at hw163_0)
        (try rw [Addr.add_zero'] at hw163_0)
        obtain rfl : ad162 = ad163 := (by injection e163)
        have qi163 : (0 < l0.length) = True := eq_true (by omega)
        (try rw [show ((0 : Int)).toNat = 0 from rfl] at hx163_0)
        (try rw [Addr.add_zero'] at hx163_0)
        replace hx163_0 := (HB.out.cell (World.block_lt_of_cell? w _ hx163_0)).trans hx163_0
        replace p163 := eq_true p163
        replace q163 := eq_true q163
        have p164 : 0 ≤ (1 : Int) := (by omega)
        have q164 : 1 < (l0.length : Int) := dta
        obtain ⟨ad164, e164, hx164_0⟩ := Kd.at_int HR0.out 1 p164 q164
        have hw164_0 := hx164_0
        (try rw [show ((1 : Int)).toNat = 1 from rfl] at hw164_0)
        (try rw [show 1 * 1 = 1 from rfl] at hw164_0)
        (try simp only [Nat.reduceMul, Nat.reduceEqDiff, Go.Addr.add, ↓reduceIte] at hw164_0)
        obtain rfl : ad162 = ad164 := (by injection e164)
        (try simp only [show (1 : Int).toNat = 1 from rfl, Nat.reduceMul, Nat.reduceEqDiff, Go.Addr.add, ↓reduceIte] at hx164_0)
        have qi164 : (1 < l0.length) = True := eq_true (by omega)
        (try rw [show ((1 : Int)).toNat = 1 from rfl] at hx164_0)
        replace hx164_0 := (HB.out.cell (World.block_lt_of_cell? w _ hx164_0)).trans hx164_0
        replace p164 := eq_true p164
        replace q164 := eq_true q164
        refine start_ (n := 27) (S := fun w' => w'.cell? ad162 = some (.int .u8 (rd l0 0)) ∧ w'.cell? ⟨ad162.block, ad162.off + 1, none⟩ = some (.int .u8 (rd l0 1))) (ds := []) #[false, false, false, false, false, false, false, false, false, false, false, false, false, false, false, false, false, false, false, false, false, false, false, false, false, false, false] (by kernel_rfl) rfl rfl ⟨((HB.out.cell (World.block_lt_of_cell? w _ hw163_0)).trans hw163_0), ((HB.out.cell (World.block_lt_of_cell? w _ hw164_0)).trans hw164_0)⟩ (fun hHeld => ?_); refine with_tabW impl_readHead.tab4 impl_readHead.bits4 (fun HT_ HW_ => ?_)
        generalize w15.drew = w16 at BK161 HB hx163_0 hx164_0 hHeld ⊢
        refine pu_ 0 14 HT_ ?_
        refine pu_ 1 15 HT_ ?_
        refine pu_ 5 19 HT_ ?_
        refine pu_ 6 20 HT_ ?_
        refine pu_ 10 24 HT_ ?_
        refine pu_ 11 25 HT_ ?_
        refine pu_ 12 26 HT_ ?_
        refine pu_ 13 27 HT_ ?_
        refine pu_ 14 28 HT_ ?_
        refine pu_ 15 29 HT_ ?_
        refine pu_ 16 30 HT_ ?_
        refine pu_ 17 31 HT_ ?_
        refine pu_ 18 32 HT_ ?_
        refine pu_ 19 33 HT_ ?_
        refine pu_ 20 34 HT_ ?_
        refine pu_ 21 35 HT_ ?_
        refine pu_ 22 36 HT_ ?_
        refine pu_ 23 37 HT_ ?_
        refine tk_ 2 16 HT_ HW_ hHeld ?_
        refine pu_ 3 17 HT_ ?_
        refine pu_ 4 18 HT_ ?_
        refine tk_ 7 21 HT_ HW_ hHeld ?_
        refine pu_ 8 22 HT_ ?_
        refine pu_ 9 23 HT_ ?_
        refine pu_ 24 38 HT_ ?_
        refine on_ 25 HT_ (fun K hK => ?_)
        refine bst 5 49 #[.int .i64 0, .int .i64 0, .int .i64 0, .int .i64 0, .int .i64 0, .bool false] ?_
        intro gb165 hg w17 hbox hb
        have BK165 := am hbox
        have GW165 := gwe hg
        have GE165 := gwe hg
        replace HB := hbs hb
        have NB161_165 := nbl hg BK161
        have NB165_161 := nbg hg BK161
        replace BK161 := bkb BK161 hb
        clear hb hbox hg
        refine hK.out _ _ ⟨((HB.out.cell (World.block_lt_of_cell? w _ hw163_0)).trans hw163_0), ((HB.out.cell (World.block_lt_of_cell? w _ hw164_0)).trans hw164_0)⟩ (fun hHeld => ?_)
        clear hK K
        refine nm_ 5 ?_
        refine on_ 26 HT_ (fun K hK => ?_)
        have hs18 : w17.cell? ⟨gb165, 0, none⟩ = some (.int .i64 0) := (blk_cell BK165.out 0).trans rfl
        have hfs18 := blk_frozen BK165.out 0
        have hns18_0 := NB161_165.out
        have hms18_0 := NB165_161.out
        have hs19 : w17.cell? ⟨gb165, 1, none⟩ = some (.int .i64 0) := (blk_cell BK165.out 1).trans rfl
        have hfs19 := blk_frozen BK165.out 1
        have hns19_0 := NB161_165.out
        have hms19_0 := NB165_161.out
        have hs20 : w17.cell? ⟨gb165, 2, none⟩ = some (.int .i64 0) := (blk_cell BK165.out 2).trans rfl
        have hfs20 := blk_frozen BK165.out 2
        have hns20_0 := NB161_165.out
        have hms20_0 := NB165_161.out
        have hs21 : w17.cell? ⟨gb165, 3, none⟩ = some (.int .i64 0) := (blk_cell BK165.out 3).trans rfl
        have hfs21 := blk_frozen BK165.out 3
        have hns21_0 := NB161_165.out
        have hms21_0 := NB165_161.out
        have hs22 : w17.cell? ⟨gb165, 4, none⟩ = some (.int .i64 0) := (blk_cell BK165.out 4).trans rfl
        have hfs22 := blk_frozen BK165.out 4
        have hns22_0 := NB161_165.out
        have hms22_0 := NB165_161.out
        have hs23 : w17.cell? ⟨gb165, 5, none⟩ = some (.bool false) := (blk_cell BK165.out 5).trans rfl
        have hfs23 := blk_frozen BK165.out 5
        have hns23_0 := NB161_165.out
        have hms23_0 := NB165_161.out
        refine skip_ (w1 := ?_) (by rfl) rfl ?_ ?_
        rotate_left
        ·go_simp
         rfl
        refine hK.out _ _ ⟨((cell_far (p := ⟨gb165, _, none⟩) (by first | exact Nat.ne_of_lt (Nat.lt_of_lt_of_le (by have := World.block_lt_of_cell? _ _ hw163_0; first | rwa [add_block] at this | exact this) GW165.out) | (rw [add_block]; exact Nat.ne_of_lt (Nat.lt_of_lt_of_le (by have := World.block_lt_of_cell? _ _ hw163_0; first | rwa [add_block] at this | exact this) GW165.out)) | (show (Addr.add _ _).block ≠ _; rw [add_block]; exact Nat.ne_of_lt (Nat.lt_of_lt_of_le (by have := World.block_lt_of_cell? _ _ hw163_0; first | rwa [add_block] at this | exact this) GW165.out)) | (dsimp only; exact Nat.ne_of_lt (Nat.lt_of_lt_of_le (by have := World.block_lt_of_cell? _ _ hw163_0; first | rwa [add_block] at this | exact this) GW165.out))) _).trans (((cell_far (p := ⟨gb165, _, none⟩) (by first | exact Nat.ne_of_lt (Nat.lt_of_lt_of_le (by have := World.block_lt_of_cell? _ _ hw163_0; first | rwa [add_block] at this | exact this) GW165.out) | (rw [add_block]; exact Nat.ne_of_lt (Nat.lt_of_lt_of_le (by have := World.block_lt_of_cell? _ _ hw163_0; first | rwa [add_block] at this | exact this) GW165.out)) | (show (Addr.add _ _).block ≠ _; rw [add_block]; exact Nat.ne_of_lt (Nat.lt_of_lt_of_le (by have := World.block_lt_of_cell? _ _ hw163_0; first | rwa [add_block] at this | exact this) GW165.out)) | (dsimp only; exact Nat.ne_of_lt (Nat.lt_of_lt_of_le (by have := World.block_lt_of_cell? _ _ hw163_0; first | rwa [add_block] at this | exact this) GW165.out))) _).trans (((cell_far (p := ⟨gb165, _, none⟩) (by first | exact Nat.ne_of_lt (Nat.lt_of_lt_of_le (by have := World.block_lt_of_cell? _ _ hw163_0; first | rwa [add_block] at this | exact this) GW165.out) | (rw [add_block]; exact Nat.ne_of_lt (Nat.lt_of_lt_of_le (by have := World.block_lt_of_cell? _ _ hw163_0; first | rwa [add_block] at this | exact this) GW165.out)) | (show (Addr.add _ _).block ≠ _; rw [add_block]; exact Nat.ne_of_lt (Nat.lt_of_lt_of_le (by have := World.block_lt_of_cell? _ _ hw163_0; first | rwa [add_block] at this | exact this) GW165.out)) | (dsimp only; exact Nat.ne_of_lt (Nat.lt_of_lt_of_le (by have := World.block_lt_of_cell? _ _ hw163_0; first | rwa [add_block] at this | exact this) GW165.out))) _).trans (((cell_far (p := ⟨gb165, _, none⟩) (by first | exact Nat.ne_of_lt (Nat.lt_of_lt_of_le (by have := World.block_lt_of_cell? _ _ hw163_0; first | rwa [add_block] at this | exact this) GW165.out) | (rw [add_block]; exact Nat.ne_of_lt (Nat.lt_of_lt_of_le (by have := World.block_lt_of_cell? _ _ hw163_0; first | rwa [add_block] at this | exact this) GW165.out)) | (show (Addr.add _ _).block ≠ _; rw [add_block]; exact Nat.ne_of_lt (Nat.lt_of_lt_of_le (by have := World.block_lt_of_cell? _ _ hw163_0; first | rwa [add_block] at this | exact this) GW165.out)) | (dsimp only; exact Nat.ne_of_lt (Nat.lt_of_lt_of_le (by have := World.block_lt_of_cell? _ _ hw163_0; first | rwa [add_block] at this | exact this) GW165.out))) _).trans (((cell_far (p := ⟨gb165, _, none⟩) (by first | exact Nat.ne_of_lt (Nat.lt_of_lt_of_le (by have := World.block_lt_of_cell? _ _ hw163_0; first | rwa [add_block] at this | exact this) GW165.out) | (rw [add_block]; exact Nat.ne_of_lt (Nat.lt_of_lt_of_le (by have := World.block_lt_of_cell? _ _ hw163_0; first | rwa [add_block] at this | exact this) GW165.out)) | (show (Addr.add _ _).block ≠ _; rw [add_block]; exact Nat.ne_of_lt (Nat.lt_of_lt_of_le (by have := World.block_lt_of_cell? _ _ hw163_0; first | rwa [add_block] at this | exact this) GW165.out)) | (dsimp only; exact Nat.ne_of_lt (Nat.lt_of_lt_of_le (by have := World.block_lt_of_cell? _ _ hw163_0; first | rwa [add_block] at this | exact this) GW165.out))) _).trans (((cell_far (p := ⟨gb165, _, none⟩) (by first | exact Nat.ne_of_lt (Nat.lt_of_lt_of_le (by have := World.block_lt_of_cell? _ _ hw163_0; first | rwa [add_block] at this | exact this) GW165.out) | (rw [add_block]; exact Nat.ne_of_lt (Nat.lt_of_lt_of_le (by have := World.block_lt_of_cell? _ _ hw163_0; first | rwa [add_block] at this | exact this) GW165.out)) | (show (Addr.add _ _).block ≠ _; rw [add_block]; exact Nat.ne_of_lt (Nat.lt_of_lt_of_le (by have := World.block_lt_of_cell? _ _ hw163_0; first | rwa [add_block] at this | exact this) GW165.out)) | (dsimp only; exact Nat.ne_of_lt (Nat.lt_of_lt_of_le (by have := World.block_lt_of_cell? _ _ hw163_0; first | rwa [add_block] at this | exact this) GW165.out))) _).trans (hHeld.1)))))))))))), ((cell_far (p := ⟨gb165, _, none⟩) (by first | exact Nat.ne_of_lt (Nat.lt_of_lt_of_le (by have := World.block_lt_of_cell? _ _ hw164_0; first | rwa [add_block] at this | exact this) GW165.out) | (rw [add_block]; exact Nat.ne_of_lt (Nat.lt_of_lt_of_le (by have := World.block_lt_of_cell? _ _ hw164_0; first | rwa [add_block] at this | exact this) GW165.out)) | (show (Addr.add _ _).block ≠ _; rw [add_block]; exact Nat.ne_of_lt (Nat.lt_of_lt_of_le (by have := World.block_lt_of_cell? _ _ hw164_0; first | rwa [add_block] at this | exact this) GW165.out)) | (dsimp only; exact Nat.ne_of_lt (Nat.lt_of_lt_of_le (by have := World.block_lt_of_cell? _ _ hw164_0; first | rwa [add_block] at this | exact this) GW165.out))) _).trans (((cell_far (p := ⟨gb165, _, none⟩) (by first | exact Nat.ne_of_lt (Nat.lt_of_lt_of_le (by have := World.block_lt_of_cell? _ _ hw164_0; first | rwa [add_block] at this | exact this) GW165.out) | (rw [add_block]; exact Nat.ne_of_lt (Nat.lt_of_lt_of_le (by have := World.block_lt_of_cell? _ _ hw164_0; first | rwa [add_block] at this | exact this) GW165.out)) | (show (Addr.add _ _).block ≠ _; rw [add_block]; exact Nat.ne_of_lt (Nat.lt_of_lt_of_le (by have := World.block_lt_of_cell? _ _ hw164_0; first | rwa [add_block] at this | exact this) GW165.out)) | (dsimp only; exact Nat.ne_of_lt (Nat.lt_of_lt_of_le (by have := World.block_lt_of_cell? _ _ hw164_0; first | rwa [add_block] at this | exact this) GW165.out))) _).trans (((cell_far (p := ⟨gb165, _, none⟩) (by first | exact Nat.ne_of_lt (Nat.lt_of_lt_of_le (by have := World.block_lt_of_cell? _ _ hw164_0; first | rwa [add_block] at this | exact this) GW165.out) | (rw [add_block]; exact Nat.ne_of_lt (Nat.lt_of_lt_of_le (by have := World.block_lt_of_cell? _ _ hw164_0; first | rwa [add_block] at this | exact this) GW165.out)) | (show (Addr.add _ _).block ≠ _; rw [add_block]; exact Nat.ne_of_lt (Nat.lt_of_lt_of_le (by have := World.block_lt_of_cell? _ _ hw164_0; first | rwa [add_block] at this | exact this) GW165.out)) | (dsimp only; exact Nat.ne_of_lt (Nat.lt_of_lt_of_le (by have := World.block_lt_of_cell? _ _ hw164_0; first | rwa [add_block] at this | exact this) GW165.out))) _).trans (((cell_far (p := ⟨gb165, _, none⟩) (by first | exact Nat.ne_of_lt (Nat.lt_of_lt_of_le (by have := World.block_lt_of_cell? _ _ hw164_0; first | rwa [add_block] at this | exact this) GW165.out) | (rw [add_block]; exact Nat.ne_of_lt (Nat.lt_of_lt_of_le (by have := World.block_lt_of_cell? _ _ hw164_0; first | rwa [add_block] at this | exact this) GW165.out)) | (show (Addr.add _ _).block ≠ _; rw [add_block]; exact Nat.ne_of_lt (Nat.lt_of_lt_of_le (by have := World.block_lt_of_cell? _ _ hw164_0; first | rwa [add_block] at this | exact this) GW165.out)) | (dsimp only; exact Nat.ne_of_lt (Nat.lt_of_lt_of_le (by have := World.block_lt_of_cell? _ _ hw164_0; first | rwa [add_block] at this | exact this) GW165.out))) _).trans (((cell_far (p := ⟨gb165, _, none⟩) (by first | exact Nat.ne_of_lt (Nat.lt_of_lt_of_le (by have := World.block_lt_of_cell? _ _ hw164_0; first | rwa [add_block] at this | exact this) GW165.out) | (rw [add_block]; exact Nat.ne_of_lt (Nat.lt_of_lt_of_le (by have := World.block_lt_of_cell? _ _ hw164_0; first | rwa [add_block] at this | exact this) GW165.out)) | (show (Addr.add _ _).block ≠ _; rw [add_block]; exact Nat.ne_of_lt (Nat.lt_of_lt_of_le (by have := World.block_lt_of_cell? _ _ hw164_0; first | rwa [add_block] at this | exact this) GW165.out)) | (dsimp only; exact Nat.ne_of_lt (Nat.lt_of_lt_of_le (by have := World.block_lt_of_cell? _ _ hw164_0; first | rwa [add_block] at this | exact this) GW165.out))) _).trans (((cell_far (p := ⟨gb165, _, none⟩) (by first | exact Nat.ne_of_lt (Nat.lt_of_lt_of_le (by have := World.block_lt_of_cell? _ _ hw164_0; first | rwa [add_block] at this | exact this) GW165.out) | (rw [add_block]; exact Nat.ne_of_lt (Nat.lt_of_lt_of_le (by have := World.block_lt_of_cell? _ _ hw164_0; first | rwa [add_block] at this | exact this) GW165.out)) | (show (Addr.add _ _).block ≠ _; rw [add_block]; exact Nat.ne_of_lt (Nat.lt_of_lt_of_le (by have := World.block_lt_of_cell? _ _ hw164_0; first | rwa [add_block] at this | exact this) GW165.out)) | (dsimp only; exact Nat.ne_of_lt (Nat.lt_of_lt_of_le (by have := World.block_lt_of_cell? _ _ hw164_0; first | rwa [add_block] at this | exact this) GW165.out))) _).trans (hHeld.2))))))))))))⟩ (fun hHeld => ?_)
        clear hK K
        refine done_ (done_of HT_.out (by kernel_rfl)) ?_
        try go_wp2
        have n0_ : Aside0 (((((((w17.setCell ⟨gb165, 0, none⟩ (.int .i64 (Go.bits .or .i64 (wrap64 ((wrap64 (rd l0 0)) * 256)) (wrap64 (rd l0 1))))).setCell ⟨gb165, 1, none⟩ (.int .i64 ji10)).setCell ⟨gb165, 2, none⟩ (.int .i64 (Go.bits .and .i64 (wrap64 (rd l0 2)) 1))).setCell ⟨gb165, 3, none⟩ (.int .i64 (Go.bits .and .i64 ((wrap64 (rd l0 2)) / 4) 3))).setCell ⟨gb165, 4, none⟩ (.int .i64 (Go.bits .and .i64 ((wrap64 (rd l0 2)) / 16) 3))).setCell ⟨gb165, 5, none⟩ (.bool (decide ((Go.bits .and .i64 (wrap64 (rd l0 2)) 2) > 0)))).heap[gb161]? = some (.cells #[.int .i64 0, .int .i64 0, .int .i64 0, .int .i64 0, .int .i64 0, .bool false] 49 (0, 0))) := ⟨by (with_reducible repeat (first | refine blk_drewN ?_ _ | refine blk_drew ?_ | refine blk_alloc ?_ _)); refine blk_far ?_ NB161_165.out _; (with_reducible repeat (first | refine blk_drewN ?_ _ | refine blk_drew ?_ | refine blk_alloc ?_ _)); refine blk_far ?_ NB161_165.out _; (with_reducible repeat (first | refine blk_drewN ?_ _ | refine blk_drew ?_ | refine blk_alloc ?_ _)); refine blk_far ?_ NB161_165.out _; (with_reducible repeat (first | refine blk_drewN ?_ _ | refine blk_drew ?_ | refine blk_alloc ?_ _)); refine blk_far ?_ NB161_165.out _; (with_reducible repeat (first | refine blk_drewN ?_ _ | refine blk_drew ?_ | refine blk_alloc ?_ _)); refine blk_far ?_ NB161_165.out _; (with_reducible repeat (first | refine blk_drewN ?_ _ | refine blk_drew ?_ | refine blk_alloc ?_ _)); refine blk_far ?_ NB161_165.out _; (with_reducible repeat (first | refine blk_drewN ?_ _ | refine blk_drew ?_ | refine blk_alloc ?_ _)); exact BK161.out⟩
        have n1_ : Aside0 (((((((w17.setCell ⟨gb165, 0, none⟩ (.int .i64 (Go.bits .or .i64 (wrap64 ((wrap64 (rd l0 0)) * 256)) (wrap64 (rd l0 1))))).setCell ⟨gb165, 1, none⟩ (.int .i64 ji10)).setCell ⟨gb165, 2, none⟩ (.int .i64 (Go.bits .and .i64 (wrap64 (rd l0 2)) 1))).setCell ⟨gb165, 3, none⟩ (.int .i64 (Go.bits .and .i64 ((wrap64 (rd l0 2)) / 4) 3))).setCell ⟨gb165, 4, none⟩ (.int .i64 (Go.bits .and .i64 ((wrap64 (rd l0 2)) / 16) 3))).setCell ⟨gb165, 5, none⟩ (.bool (decide ((Go.bits .and .i64 (wrap64 (rd l0 2)) 2) > 0)))).heap[gb165]? = some (.cells #[.int .i64 (Go.bits .or .i64 (wrap64 ((wrap64 (rd l0 0)) * 256)) (wrap64 (rd l0 1))), .int .i64 ji10, .int .i64 (Go.bits .and .i64 (wrap64 (rd l0 2)) 1), .int .i64 (Go.bits .and .i64 ((wrap64 (rd l0 2)) / 4) 3), .int .i64 (Go.bits .and .i64 ((wrap64 (rd l0 2)) / 16) 3), .bool (decide ((Go.bits .and .i64 (wrap64 (rd l0 2)) 2) > 0))] 49 (0, 0))) := ⟨by (with_reducible repeat (first | refine blk_drewN ?_ _ | refine blk_drew ?_ | refine blk_alloc ?_ _)); refine blk_put (cs := #[.int .i64 (Go.bits .or .i64 (wrap64 ((wrap64 (rd l0 0)) * 256)) (wrap64 (rd l0 1))), .int .i64 ji10, .int .i64 (Go.bits .and .i64 (wrap64 (rd l0 2)) 1), .int .i64 (Go.bits .and .i64 ((wrap64 (rd l0 2)) / 4) 3), .int .i64 (Go.bits .and .i64 ((wrap64 (rd l0 2)) / 16) 3), .bool false]) ?_ 5 _ rfl; refine blk_put (cs := #[.int .i64 (Go.bits .or .i64 (wrap64 ((wrap64 (rd l0 0)) * 256)) (wrap64 (rd l0 1))), .int .i64 ji10, .int .i64 (Go.bits .and .i64 (wrap64 (rd l0 2)) 1), .int .i64 (Go.bits .and .i64 ((wrap64 (rd l0 2)) / 4) 3), .int .i64 0, .bool false]) ?_ 4 _ rfl; refine blk_put (cs := #[.int .i64 (Go.bits .or .i64 (wrap64 ((wrap64 (rd l0 0)) * 256)) (wrap64 (rd l0 1))), .int .i64 ji10, .int .i64 (Go.bits .and .i64 (wrap64 (rd l0 2)) 1), .int .i64 0, .int .i64 0, .bool false]) ?_ 3 _ rfl; refine blk_put (cs := #[.int .i64 (Go.bits .or .i64 (wrap64 ((wrap64 (rd l0 0)) * 256)) (wrap64 (rd l0 1))), .int .i64 ji10, .int .i64 0, .int .i64 0, .int .i64 0, .bool false]) ?_ 2 _ rfl; refine blk_put (cs := #[.int .i64 (Go.bits .or .i64 (wrap64 ((wrap64 (rd l0 0)) * 256)) (wrap64 (rd l0 1))), .int .i64 0, .int .i64 0, .int .i64 0, .int .i64 0, .bool false]) ?_ 1 _ rfl; refine blk_put (cs := #[.int .i64 0, .int .i64 0, .int .i64 0, .int .i64 0, .int .i64 0, .bool false]) ?_ 0 _ rfl; exact bpl BK165.out⟩
        have n2_ : Aside0 (Below w.heap.size w ((((((w17.setCell ⟨gb165, 0, none⟩ (.int .i64 (Go.bits .or .i64 (wrap64 ((wrap64 (rd l0 0)) * 256)) (wrap64 (rd l0 1))))).setCell ⟨gb165, 1, none⟩ (.int .i64 ji10)).setCell ⟨gb165, 2, none⟩ (.int .i64 (Go.bits .and .i64 (wrap64 (rd l0 2)) 1))).setCell ⟨gb165, 3, none⟩ (.int .i64 (Go.bits .and .i64 ((wrap64 (rd l0 2)) / 4) 3))).setCell ⟨gb165, 4, none⟩ (.int .i64 (Go.bits .and .i64 ((wrap64 (rd l0 2)) / 16) 3))).setCell ⟨gb165, 5, none⟩ (.bool (decide ((Go.bits .and .i64 (wrap64 (rd l0 2)) 2) > 0))))) := ⟨bnx⟩
        (try clear BK161)
        (try clear BK165)
        (try clear HB)
        generalize ((((((w17.setCell ⟨gb165, 0, none⟩ (.int .i64 (Go.bits .or .i64 (wrap64 ((wrap64 (rd l0 0)) * 256)) (wrap64 (rd l0 1))))).setCell ⟨gb165, 1, none⟩ (.int .i64 ji10)).setCell ⟨gb165, 2, none⟩ (.int .i64 (Go.bits .and .i64 (wrap64 (rd l0 2)) 1))).setCell ⟨gb165, 3, none⟩ (.int .i64 (Go.bits .and .i64 ((wrap64 (rd l0 2)) / 4) 3))).setCell ⟨gb165, 4, none⟩ (.int .i64 (Go.bits .and .i64 ((wrap64 (rd l0 2)) / 16) 3))).setCell ⟨gb165, 5, none⟩ (.bool (decide ((Go.bits .and .i64 (wrap64 (rd l0 2)) 2) > 0)))) = w24 at n0_ n1_ n2_ ⊢
        have BK161 := n0_
        have BK165 := n1_
        have HB := n2_
        clear n0_ n1_ n2_
        replace BK161 := am (blk_drew BK161.out)
        replace BK165 := am (blk_drew BK165.out)
        replace HB := am (below_drew1 HB.out)
        refine start_ (n := 16) (S := fun w' => w'.cell? ⟨gb165, 0, none⟩ = some (.int .i64 (Go.bits .or .i64 (wrap64 ((wrap64 (rd l0 0)) * 256)) (wrap64 (rd l0 1)))) ∧ w'.cell? ⟨gb165, 1, none⟩ = some (.int .i64 ji10) ∧ w'.cell? ⟨gb165, 2, none⟩ = some (.int .i64 (Go.bits .and .i64 (wrap64 (rd l0 2)) 1)) ∧ w'.cell? ⟨gb165, 3, none⟩ = some (.int .i64 (Go.bits .and .i64 ((wrap64 (rd l0 2)) / 4) 3)) ∧ w'.cell? ⟨gb165, 4, none⟩ = some (.int .i64 (Go.bits .and .i64 ((wrap64 (rd l0 2)) / 16) 3)) ∧ w'.cell? ⟨gb165, 5, none⟩ = some (.bool (decide ((Go.bits .and .i64 (wrap64 (rd l0 2)) 2) > 0)))) (ds := []) #[false, false, false, false, false, false, false, false, false, false, false, false, false, false, false, false] (by kernel_rfl) rfl rfl ⟨(blk_cell BK165.out 0).trans rfl, (blk_cell BK165.out 1).trans rfl, (blk_cell BK165.out 2).trans rfl, (blk_cell BK165.out 3).trans rfl, (blk_cell BK165.out 4).trans rfl, (blk_cell BK165.out 5).trans rfl⟩ (fun hHeld => ?_); refine with_tabW impl_readHead.tab5 impl_readHead.bits5 (fun HT_ HW_ => ?_)
        generalize w24.drew = w25 at BK161 BK165 HB hHeld ⊢
        refine pu_ 1 40 HT_ ?_
        refine tk_ 0 39 HT_ HW_ hHeld ?_
        refine tk_ 2 41 HT_ HW_ hHeld ?_
        refine on_ 3 HT_ (fun K hK => ?_)
        refine gs_ Try.func155 #[.int .i64 (Go.bits .or .i64 (wrap64 ((wrap64 (rd l0 0)) * 256)) (wrap64 (rd l0 1)))] ?_
        with_reducible refine (impl_isNumber.calls (Go.bits .or .i64 (wrap64 ((wrap64 (rd l0 0)) * 256)) (wrap64 (rd l0 1))) true _ A11.out).mono ?_
        rintro e w' ⟨rfl, ⟨nd, rfl⟩⟩
        refine ⟨_, rfl, ?_⟩
        refine hK.out _ _ ⟨(blk_cell (blk_drewN BK165.out _) 0).trans rfl, (blk_cell (blk_drewN BK165.out _) 1).trans rfl, (blk_cell (blk_drewN BK165.out _) 2).trans rfl, (blk_cell (blk_drewN BK165.out _) 3).trans rfl, (blk_cell (blk_drewN BK165.out _) 4).trans rfl, (blk_cell (blk_drewN BK165.out _) 5).trans rfl⟩ (fun hHeld => ?_)
        clear hK K
        refine nm_ 42 ?_
        refine pu_ 4 43 HT_ ?_
        refine pu_ 5 44 HT_ ?_
        refine tk_ 6 45 HT_ HW_ hHeld ?_
        refine on_ 7 HT_ (fun K hK => ?_)
        refine gs_ Try.func141 #[.int .i64 (Go.bits .and .i64 ((wrap64 (rd l0 2)) / 4) 3)] ?_
        with_reducible refine (impl_isSpread.calls (Go.bits .and .i64 ((wrap64 (rd l0 2)) / 4) 3) true _ A13.out).mono ?_
        rintro e w' ⟨rfl, ⟨nd, rfl⟩⟩
        refine ⟨_, rfl, ?_⟩
        refine hK.out _ _ ⟨(blk_cell (blk_drewN (blk_drewN BK165.out _) _) 0).trans rfl, (blk_cell (blk_drewN (blk_drewN BK165.out _) _) 1).trans rfl, (blk_cell (blk_drewN (blk_drewN BK165.out _) _) 2).trans rfl, (blk_cell (blk_drewN (blk_drewN BK165.out _) _) 3).trans rfl, (blk_cell (blk_drewN (blk_drewN BK165.out _) _) 4).trans rfl, (blk_cell (blk_drewN (blk_drewN BK165.out _) _) 5).trans rfl⟩ (fun hHeld => ?_)
        clear hK K
        refine nm_ 46 ?_
        (repeat rw [World.drewN_drewN w25])
        rw [drewN_self w25]
        generalize hq_ : World.drewN w25 _ = wq
        replace BK161 := bkq BK161 hq_
        replace BK165 := bkq BK165 hq_
        replace HB := blq HB hq_
        clear hq_
        refine pu_ 8 47 HT_ ?_
        refine pu_ 9 48 HT_ ?_
        refine pu_ 10 49 HT_ ?_
        refine pu_ 11 50 HT_ ?_
        refine pu_ 12 51 HT_ ?_
        refine pu_ 13 52 HT_ ?_
        refine on_ 14 HT_ (fun K hK => ?_)
        have hs26 : wq.cell? ⟨gb161, 0, none⟩ = some (.int .i64 0) := (blk_cell BK161.out 0).trans rfl
        have hfs26 := blk_frozen BK161.out 0
        have hns26_1 := NB165_161.out
        have hms26_1 := NB161_165.out
        have hs27 : wq.cell? ⟨gb161, 1, none⟩ = some (.int .i64 0) := (blk_cell BK161.out 1).trans rfl
        have hfs27 := blk_frozen BK161.out 1
        have hns27_1 := NB165_161.out
        have hms27_1 := NB161_165.out
        have hs28 : wq.cell? ⟨gb161, 2, none⟩ = some (.int .i64 0) := (blk_cell BK161.out 2).trans rfl
        have hfs28 := blk_frozen BK161.out 2
        have hns28_1 := NB165_161.out
        have hms28_1 := NB161_165.out
        have hs29 : wq.cell? ⟨gb161, 3, none⟩ = some (.int .i64 0) := (blk_cell BK161.out 3).trans rfl
        have hfs29 := blk_frozen BK161.out 3
        have hns29_1 := NB165_161.out
        have hms29_1 := NB161_165.out
        have hs30 : wq.cell? ⟨gb161, 4, none⟩ = some (.int .i64 0) := (blk_cell BK161.out 4).trans rfl
        have hfs30 := blk_frozen BK161.out 4
        have hns30_1 := NB165_161.out
        have hms30_1 := NB161_165.out
        have hs31 : wq.cell? ⟨gb161, 5, none⟩ = some (.bool false) := (blk_cell BK161.out 5).trans rfl
        have hfs31 := blk_frozen BK161.out 5
        have hns31_1 := NB165_161.out
        have hms31_1 := NB161_165.out
        refine skip_ (w1 := ?_) (by rfl) rfl ?_ ?_
        rotate_left
        ·go_simp
         rfl
        refine hK.out _ _ ⟨((cell_far (p := ⟨gb161, _, none⟩) NB165_161.out _).trans (((cell_far (p := ⟨gb161, _, none⟩) NB165_161.out _).trans (((cell_far (p := ⟨gb161, _, none⟩) NB165_161.out _).trans (((cell_far (p := ⟨gb161, _, none⟩) NB165_161.out _).trans (((cell_far (p := ⟨gb161, _, none⟩) NB165_161.out _).trans (((cell_far (p := ⟨gb161, _, none⟩) NB165_161.out _).trans ((blk_cell BK165.out 0).trans rfl)))))))))))), ((cell_far (p := ⟨gb161, _, none⟩) NB165_161.out _).trans (((cell_far (p := ⟨gb161, _, none⟩) NB165_161.out _).trans (((cell_far (p := ⟨gb161, _, none⟩) NB165_161.out _).trans (((cell_far (p := ⟨gb161, _, none⟩) NB165_161.out _).trans (((cell_far (p := ⟨gb161, _, none⟩) NB165_161.out _).trans (((cell_far (p := ⟨gb161, _, none⟩) NB165_161.out _).trans ((blk_cell BK165.out 1).trans rfl)))))))))))), ((cell_far (p := ⟨gb161, _, none⟩) NB165_161.out _).trans (((cell_far (p := ⟨gb161, _, none⟩) NB165_161.out _).trans (((cell_far (p := ⟨gb161, _, none⟩) NB165_161.out _).trans (((cell_far (p := ⟨gb161, _, none⟩) NB165_161.out _).trans (((cell_far (p := ⟨gb161, _, none⟩) NB165_161.out _).trans (((cell_far (p := ⟨gb161, _, none⟩) NB165_161.out _).trans ((blk_cell BK165.out 2).trans rfl)))))))))))), ((cell_far (p := ⟨gb161, _, none⟩) NB165_161.out _).trans (((cell_far (p := ⟨gb161, _, none⟩) NB165_161.out _).trans (((cell_far (p := ⟨gb161, _, none⟩) NB165_161.out _).trans (((cell_far (p := ⟨gb161, _, none⟩) NB165_161.out _).trans (((cell_far (p := ⟨gb161, _, none⟩) NB165_161.out _).trans (((cell_far (p := ⟨gb161, _, none⟩) NB165_161.out _).trans ((blk_cell BK165.out 3).trans rfl)))))))))))), ((cell_far (p := ⟨gb161, _, none⟩) NB165_161.out _).trans (((cell_far (p := ⟨gb161, _, none⟩) NB165_161.out _).trans (((cell_far (p := ⟨gb161, _, none⟩) NB165_161.out _).trans (((cell_far (p := ⟨gb161, _, none⟩) NB165_161.out _).trans (((cell_far (p := ⟨gb161, _, none⟩) NB165_161.out _).trans (((cell_far (p := ⟨gb161, _, none⟩) NB165_161.out _).trans ((blk_cell BK165.out 4).trans rfl)))))))))))), ((cell_far (p := ⟨gb161, _, none⟩) NB165_161.out _).trans (((cell_far (p := ⟨gb161, _, none⟩) NB165_161.out _).trans (((cell_far (p := ⟨gb161, _, none⟩) NB165_161.out _).trans (((cell_far (p := ⟨gb161, _, none⟩) NB165_161.out _).trans (((cell_far (p := ⟨gb161, _, none⟩) NB165_161.out _).trans (((cell_far (p := ⟨gb161, _, none⟩) NB165_161.out _).trans ((blk_cell BK165.out 5).trans rfl))))))))))))⟩ (fun hHeld => ?_)
        clear hK K
        refine pu_ 15 3 HT_ ?_
        refine done_ (done_of HT_.out (by kernel_rfl)) ?_
        try go_wp2
        refine bodyPost_ret (results_ct rfl _ _ gb161 49 #[.int .i64 (Go.bits .or .i64 (wrap64 ((wrap64 (rd l0 0)) * 256)) (wrap64 (rd l0 1))), .int .i64 ji10, .int .i64 (Go.bits .and .i64 (wrap64 (rd l0 2)) 1), .int .i64 (Go.bits .and .i64 ((wrap64 (rd l0 2)) / 4) 3), .int .i64 (Go.bits .and .i64 ((wrap64 (rd l0 2)) / 16) 3), .bool (decide ((Go.bits .and .i64 (wrap64 (rd l0 2)) 2) > 0))] (0, 0) _ rfl (by (with_reducible repeat (first | refine blk_drewN ?_ _ | refine blk_drew ?_ | refine blk_alloc ?_ _)); refine blk_put (cs := #[.int .i64 (Go.bits .or .i64 (wrap64 ((wrap64 (rd l0 0)) * 256)) (wrap64 (rd l0 1))), .int .i64 ji10, .int .i64 (Go.bits .and .i64 (wrap64 (rd l0 2)) 1), .int .i64 (Go.bits .and .i64 ((wrap64 (rd l0 2)) / 4) 3), .int .i64 (Go.bits .and .i64 ((wrap64 (rd l0 2)) / 16) 3), .bool false]) ?_ 5 _ rfl; refine blk_put (cs := #[.int .i64 (Go.bits .or .i64 (wrap64 ((wrap64 (rd l0 0)) * 256)) (wrap64 (rd l0 1))), .int .i64 ji10, .int .i64 (Go.bits .and .i64 (wrap64 (rd l0 2)) 1), .int .i64 (Go.bits .and .i64 ((wrap64 (rd l0 2)) / 4) 3), .int .i64 0, .bool false]) ?_ 4 _ rfl; refine blk_put (cs := #[.int .i64 (Go.bits .or .i64 (wrap64 ((wrap64 (rd l0 0)) * 256)) (wrap64 (rd l0 1))), .int .i64 ji10, .int .i64 (Go.bits .and .i64 (wrap64 (rd l0 2)) 1), .int .i64 0, .int .i64 0, .bool false]) ?_ 3 _ rfl; refine blk_put (cs := #[.int .i64 (Go.bits .or .i64 (wrap64 ((wrap64 (rd l0 0)) * 256)) (wrap64 (rd l0 1))), .int .i64 ji10, .int .i64 0, .int .i64 0, .int .i64 0, .bool false]) ?_ 2 _ rfl; refine blk_put (cs := #[.int .i64 (Go.bits .or .i64 (wrap64 ((wrap64 (rd l0 0)) * 256)) (wrap64 (rd l0 1))), .int .i64 0, .int .i64 0, .int .i64 0, .int .i64 0, .bool false]) ?_ 1 _ rfl; refine blk_put (cs := #[.int .i64 0, .int .i64 0, .int .i64 0, .int .i64 0, .int .i64 0, .bool false]) ?_ 0 _ rfl; exact bpl BK161.out) Try.underlying49 rfl (by kernel_rfl)) rfl ?_
        exact ⟨by first | rfl | (simp [errW_none, errW_some] <;> rfl) | (simp only [← hji8, ← hji10]; first | rfl | (simp [errW_none, errW_some] <;> rfl)) | (simp [*, errW_none, errW_some] <;> rfl), bnx⟩
       ·replace c14 := Bool.eq_false_iff.mpr c14
        subst c14
        replace H : (some (Go.bits .or .i64 (wrap64 ((wrap64 (rd l0 0)) * 256)) (wrap64 (rd l0 1)), ji10, Go.bits .and .i64 (wrap64 (rd l0 2)) 1, Go.bits .and .i64 ((wrap64 (rd l0 2)) / 4) 3, Go.bits .and .i64 ((wrap64 (rd l0 2)) / 16) 3, decide ((Go.bits .and .i64 (wrap64 (rd l0 2)) 2) > 0), false)) = some (r1, r2, r3, r4, r5, r6, r7) := by rw [if_neg (show ¬ (false = true) by decide)] at H; exact H
        simp only [Option.some.injEq, Prod.mk.injEq] at H
        obtain ⟨rfl, rfl, rfl, rfl, rfl, rfl, rfl⟩ := H
        go_enter Try.func104, Try.ntmps104
        try go_wp2_with (first | ((with_reducible refine gate_dst (N := 2) rfl ?_); refine bev 2 49 #[.int .i64 0, .int .i64 0, .int .i64 0, .int .i64 0, .int .i64 0, .bool false] ?_; intro gb161 hg w32 hbox hb; have BK161 := am hbox; have GW161 := gwe hg; have GE161 := gwe hg; replace HB := hbs hb; clear hb hbox hg; have p162 : 0 ≤ (2 : Int) := (by omega); have q162 : 2 < (l0.length : Int) := dta; obtain ⟨ad162, e162, hx162_0⟩ := Kd.at_int HR0.out 2 p162 q162; cases e162; (try simp only [show (2 : Int).toNat = 2 from rfl, Nat.reduceMul, Nat.reduceEqDiff, Go.Addr.add, ↓reduceIte] at hx162_0); have qi162 : (2 < l0.length) = True := eq_true (by omega); (try rw [show ((2 : Int)).toNat = 2 from rfl] at hx162_0); replace hx162_0 := (HB.out.cell (World.block_lt_of_cell? w _ hx162_0)).trans hx162_0; replace p162 := eq_true p162; replace q162 := eq_true q162))
        replace BK161 := am (blk_drew BK161.out)
        replace HB := am (below_drew1 HB.out)
        have p163 : 0 ≤ (0 : Int) := (by omega)
        have q163 : 0 < (l0.length : Int) := dta
        obtain ⟨ad163, e163, hx163_0⟩ := Kd.at_int HR0.out 0 p163 q163
        have hw163_0 := hx163_0
        (try rw [show ((0 : Int)).toNat = 0 from rfl] at hw163_0)
        (try rw [show 0 * 1 = 0 from rfl] at hw163_0)
        (try rw [Addr.add_zero'] at hw163_0)
        obtain rfl : ad162 = ad163 := (by injection e163)
        have qi163 : (0 < l0.length) = True := eq_true (by omega)
        (try rw [show ((0 : Int)).toNat = 0 from rfl] at hx163_0)
        (try rw [Addr.add_zero'] at hx163_0)
        replace hx163_0 := (HB.out.cell (World.block_lt_of_cell? w _ hx163_0)).trans hx163_0
        replace p163 := eq_true p163
        replace q163 := eq_true q163
        have p164 : 0 ≤ (1 : Int) := (by omega)
        have q164 : 1 < (l0.length : Int) := dta
        obtain ⟨ad164, e164, hx164_0⟩ := Kd.at_int HR0.out 1 p164 q164
        have hw164_0 := hx164_0
        (try rw [show ((1 : Int)).toNat = 1 from rfl] at hw164_0)
        (try rw [show 1 * 1 = 1 from rfl] at hw164_0)
        (try simp only [Nat.reduceMul, Nat.reduceEqDiff, Go.Addr.add, ↓reduceIte] at hw164_0)
        obtain rfl : ad162 = ad164 := (by injection e164)
        (try simp only [show (1 : Int).toNat = 1 from rfl, Nat.reduceMul, Nat.reduceEqDiff, Go.Addr.add, ↓reduceIte] at hx164_0)
        have qi164 : (1 < l0.length) = True := eq_true (by omega)
        (try rw [show ((1 : Int)).toNat = 1 from rfl] at hx164_0)
        replace hx164_0 := (HB.out.cell (World.block_lt_of_cell? w _ hx164_0)).trans hx164_0
        replace p164 := eq_true p164
        replace q164 := eq_true q164
        refine start_ (n := 27) (S := fun w' => w'.cell? ad162 = some (.int .u8 (rd l0 0)) ∧ w'.cell? ⟨ad162.block, ad162.off + 1, none⟩ = some (.int .u8 (rd l0 1))) (ds := []) #[false, false, false, false, false, false, false, false, false, false, false, false, false, false, false, false, false, false, false, false, false, false, false, false, false, false, false] (by kernel_rfl) rfl rfl ⟨((HB.out.cell (World.block_lt_of_cell? w _ hw163_0)).trans hw163_0), ((HB.out.cell (World.block_lt_of_cell? w _ hw164_0)).trans hw164_0)⟩ (fun hHeld => ?_); refine with_tabW impl_readHead.tab4 impl_readHead.bits4 (fun HT_ HW_ => ?_)
        generalize w32.drew = w33 at BK161 HB hx163_0 hx164_0 hHeld ⊢
        refine pu_ 0 14 HT_ ?_
        refine pu_ 1 15 HT_ ?_
        refine pu_ 5 19 HT_ ?_
        refine pu_ 6 20 HT_ ?_
        refine pu_ 10 24 HT_ ?_
        refine pu_ 11 25 HT_ ?_
        refine pu_ 12 26 HT_ ?_
        refine pu_ 13 27 HT_ ?_
        refine pu_ 14 28 HT_ ?_
        refine pu_ 15 29 HT_ ?_
        refine pu_ 16 30 HT_ ?_
        refine pu_ 17 31 HT_ ?_
        refine pu_ 18 32 HT_ ?_
        refine pu_ 19 33 HT_ ?_
        refine pu_ 20 34 HT_ ?_
        refine pu_ 21 35 HT_ ?_
        refine pu_ 22 36 HT_ ?_
        refine pu_ 23 37 HT_ ?_
        refine tk_ 2 16 HT_ HW_ hHeld ?_
        refine pu_ 3 17 HT_ ?_
        refine pu_ 4 18 HT_ ?_
        refine tk_ 7 21 HT_ HW_ hHeld ?_
        refine pu_ 8 22 HT_ ?_
        refine pu_ 9 23 HT_ ?_
        refine pu_ 24 38 HT_ ?_
        refine on_ 25 HT_ (fun K hK => ?_)
        refine bst 5 49 #[.int .i64 0, .int .i64 0, .int .i64 0, .int .i64 0, .int .i64 0, .bool false] ?_
        intro gb165 hg w34 hbox hb
        have BK165 := am hbox
        have GW165 := gwe hg
        have GE165 := gwe hg
        replace HB := hbs hb
        have NB161_165 := nbl hg BK161
        have NB165_161 := nbg hg BK161
        replace BK161 := bkb BK161 hb
        clear hb hbox hg
        refine hK.out _ _ ⟨((HB.out.cell (World.block_lt_of_cell? w _ hw163_0)).trans hw163_0), ((HB.out.cell (World.block_lt_of_cell? w _ hw164_0)).trans hw164_0)⟩ (fun hHeld => ?_)
        clear hK K
        refine nm_ 5 ?_
        refine on_ 26 HT_ (fun K hK => ?_)
        have hs35 : w34.cell? ⟨gb165, 0, none⟩ = some (.int .i64 0) := (blk_cell BK165.out 0).trans rfl
        have hfs35 := blk_frozen BK165.out 0
        have hns35_0 := NB161_165.out
        have hms35_0 := NB165_161.out
        have hs36 : w34.cell? ⟨gb165, 1, none⟩ = some (.int .i64 0) := (blk_cell BK165.out 1).trans rfl
        have hfs36 := blk_frozen BK165.out 1
        have hns36_0 := NB161_165.out
        have hms36_0 := NB165_161.out
        have hs37 : w34.cell? ⟨gb165, 2, none⟩ = some (.int .i64 0) := (blk_cell BK165.out 2).trans rfl
        have hfs37 := blk_frozen BK165.out 2
        have hns37_0 := NB161_165.out
        have hms37_0 := NB165_161.out
        have hs38 : w34.cell? ⟨gb165, 3, none⟩ = some (.int .i64 0) := (blk_cell BK165.out 3).trans rfl
        have hfs38 := blk_frozen BK165.out 3
        have hns38_0 := NB161_165.out
        have hms38_0 := NB165_161.out
        have hs39 : w34.cell? ⟨gb165, 4, none⟩ = some (.int .i64 0) := (blk_cell BK165.out 4).trans rfl
        have hfs39 := blk_frozen BK165.out 4
        have hns39_0 := NB161_165.out
        have hms39_0 := NB165_161.out
        have hs40 : w34.cell? ⟨gb165, 5, none⟩ = some (.bool false) := (blk_cell BK165.out 5).trans rfl
        have hfs40 := blk_frozen BK165.out 5
        have hns40_0 := NB161_165.out
        have hms40_0 := NB165_161.out
        refine skip_ (w1 := ?_) (by rfl) rfl ?_ ?_
        rotate_left
        ·go_simp
         rfl
        refine hK.out _ _ ⟨((cell_far (p := ⟨gb165, _, none⟩) (by first | exact Nat.ne_of_lt (Nat.lt_of_lt_of_le (by have := World.block_lt_of_cell? _ _ hw163_0; first | rwa [add_block] at this | exact this) GW165.out) | (rw [add_block]; exact Nat.ne_of_lt (Nat.lt_of_lt_of_le (by have := World.block_lt_of_cell? _ _ hw163_0; first | rwa [add_block] at this | exact this) GW165.out)) | (show (Addr.add _ _).block ≠ _; rw [add_block]; exact Nat.ne_of_lt (Nat.lt_of_lt_of_le (by have := World.block_lt_of_cell? _ _ hw163_0; first | rwa [add_block] at this | exact this) GW165.out)) | (dsimp only; exact Nat.ne_of_lt (Nat.lt_of_lt_of_le (by have := World.block_lt_of_cell? _ _ hw163_0; first | rwa [add_block] at this | exact this) GW165.out))) _).trans (((cell_far (p := ⟨gb165, _, none⟩) (by first | exact Nat.ne_of_lt (Nat.lt_of_lt_of_le (by have := World.block_lt_of_cell? _ _ hw163_0; first | rwa [add_block] at this | exact this) GW165.out) | (rw [add_block]; exact Nat.ne_of_lt (Nat.lt_of_lt_of_le (by have := World.block_lt_of_cell? _ _ hw163_0; first | rwa [add_block] at this | exact this) GW165.out)) | (show (Addr.add _ _).block ≠ _; rw [add_block]; exact Nat.ne_of_lt (Nat.lt_of_lt_of_le (by have := World.block_lt_of_cell? _ _ hw163_0; first | rwa [add_block] at this | exact this) GW165.out)) | (dsimp only; exact Nat.ne_of_lt (Nat.lt_of_lt_of_le (by have := World.block_lt_of_cell? _ _ hw163_0; first | rwa [add_block] at this | exact this) GW165.out))) _).trans (((cell_far (p := ⟨gb165, _, none⟩) (by first | exact Nat.ne_of_lt (Nat.lt_of_lt_of_le (by have := World.block_lt_of_cell? _ _ hw163_0; first | rwa [add_block] at this | exact this) GW165.out) | (rw [add_block]; exact Nat.ne_of_lt (Nat.lt_of_lt_of_le (by have := World.block_lt_of_cell? _ _ hw163_0; first | rwa [add_block] at this | exact this) GW165.out)) | (show (Addr.add _ _).block ≠ _; rw [add_block]; exact Nat.ne_of_lt (Nat.lt_of_lt_of_le (by have := World.block_lt_of_cell? _ _ hw163_0; first | rwa [add_block] at this | exact this) GW165.out)) | (dsimp only; exact Nat.ne_of_lt (Nat.lt_of_lt_of_le (by have := World.block_lt_of_cell? _ _ hw163_0; first | rwa [add_block] at this | exact this) GW165.out))) _).trans (((cell_far (p := ⟨gb165, _, none⟩) (by first | exact Nat.ne_of_lt (Nat.lt_of_lt_of_le (by have := World.block_lt_of_cell? _ _ hw163_0; first | rwa [add_block] at this | exact this) GW165.out) | (rw [add_block]; exact Nat.ne_of_lt (Nat.lt_of_lt_of_le (by have := World.block_lt_of_cell? _ _ hw163_0; first | rwa [add_block] at this | exact this) GW165.out)) | (show (Addr.add _ _).block ≠ _; rw [add_block]; exact Nat.ne_of_lt (Nat.lt_of_lt_of_le (by have := World.block_lt_of_cell? _ _ hw163_0; first | rwa [add_block] at this | exact this) GW165.out)) | (dsimp only; exact Nat.ne_of_lt (Nat.lt_of_lt_of_le (by have := World.block_lt_of_cell? _ _ hw163_0; first | rwa [add_block] at this | exact this) GW165.out))) _).trans (((cell_far (p := ⟨gb165, _, none⟩) (by first | exact Nat.ne_of_lt (Nat.lt_of_lt_of_le (by have := World.block_lt_of_cell? _ _ hw163_0; first | rwa [add_block] at this | exact this) GW165.out) | (rw [add_block]; exact Nat.ne_of_lt (Nat.lt_of_lt_of_le (by have := World.block_lt_of_cell? _ _ hw163_0; first | rwa [add_block] at this | exact this) GW165.out)) | (show (Addr.add _ _).block ≠ _; rw [add_block]; exact Nat.ne_of_lt (Nat.lt_of_lt_of_le (by have := World.block_lt_of_cell? _ _ hw163_0; first | rwa [add_block] at this | exact this) GW165.out)) | (dsimp only; exact Nat.ne_of_lt (Nat.lt_of_lt_of_le (by have := World.block_lt_of_cell? _ _ hw163_0; first | rwa [add_block] at this | exact this) GW165.out))) _).trans (((cell_far (p := ⟨gb165, _, none⟩) (by first | exact Nat.ne_of_lt (Nat.lt_of_lt_of_le (by have := World.block_lt_of_cell? _ _ hw163_0; first | rwa [add_block] at this | exact this) GW165.out) | (rw [add_block]; exact Nat.ne_of_lt (Nat.lt_of_lt_of_le (by have := World.block_lt_of_cell? _ _ hw163_0; first | rwa [add_block] at this | exact this) GW165.out)) | (show (Addr.add _ _).block ≠ _; rw [add_block]; exact Nat.ne_of_lt (Nat.lt_of_lt_of_le (by have := World.block_lt_of_cell? _ _ hw163_0; first | rwa [add_block] at this | exact this) GW165.out)) | (dsimp only; exact Nat.ne_of_lt (Nat.lt_of_lt_of_le (by have := World.block_lt_of_cell? _ _ hw163_0; first | rwa [add_block] at this | exact this) GW165.out))) _).trans (hHeld.1)))))))))))), ((cell_far (p := ⟨gb165, _, none⟩) (by first | exact Nat.ne_of_lt (Nat.lt_of_lt_of_le (by have := World.block_lt_of_cell? _ _ hw164_0; first | rwa [add_block] at this | exact this) GW165.out) | (rw [add_block]; exact Nat.ne_of_lt (Nat.lt_of_lt_of_le (by have := World.block_lt_of_cell? _ _ hw164_0; first | rwa [add_block] at this | exact this) GW165.out)) | (show (Addr.add _ _).block ≠ _; rw [add_block]; exact Nat.ne_of_lt (Nat.lt_of_lt_of_le (by have := World.block_lt_of_cell? _ _ hw164_0; first | rwa [add_block] at this | exact this) GW165.out)) | (dsimp only; exact Nat.ne_of_lt (Nat.lt_of_lt_of_le (by have := World.block_lt_of_cell? _ _ hw164_0; first | rwa [add_block] at this | exact this) GW165.out))) _).trans (((cell_far (p := ⟨gb165, _, none⟩) (by first | exact Nat.ne_of_lt (Nat.lt_of_lt_of_le (by have := World.block_lt_of_cell? _ _ hw164_0; first | rwa [add_block] at this | exact this) GW165.out) | (rw [add_block]; exact Nat.ne_of_lt (Nat.lt_of_lt_of_le (by have := World.block_lt_of_cell? _ _ hw164_0; first | rwa [add_block] at this | exact this) GW165.out)) | (show (Addr.add _ _).block ≠ _; rw [add_block]; exact Nat.ne_of_lt (Nat.lt_of_lt_of_le (by have := World.block_lt_of_cell? _ _ hw164_0; first | rwa [add_block] at this | exact this) GW165.out)) | (dsimp only; exact Nat.ne_of_lt (Nat.lt_of_lt_of_le (by have := World.block_lt_of_cell? _ _ hw164_0; first | rwa [add_block] at this | exact this) GW165.out))) _).trans (((cell_far (p := ⟨gb165, _, none⟩) (by first | exact Nat.ne_of_lt (Nat.lt_of_lt_of_le (by have := World.block_lt_of_cell? _ _ hw164_0; first | rwa [add_block] at this | exact this) GW165.out) | (rw [add_block]; exact Nat.ne_of_lt (Nat.lt_of_lt_of_le (by have := World.block_lt_of_cell? _ _ hw164_0; first | rwa [add_block] at this | exact this) GW165.out)) | (show (Addr.add _ _).block ≠ _; rw [add_block]; exact Nat.ne_of_lt (Nat.lt_of_lt_of_le (by have := World.block_lt_of_cell? _ _ hw164_0; first | rwa [add_block] at this | exact this) GW165.out)) | (dsimp only; exact Nat.ne_of_lt (Nat.lt_of_lt_of_le (by have := World.block_lt_of_cell? _ _ hw164_0; first | rwa [add_block] at this | exact this) GW165.out))) _).trans (((cell_far (p := ⟨gb165, _, none⟩) (by first | exact Nat.ne_of_lt (Nat.lt_of_lt_of_le (by have := World.block_lt_of_cell? _ _ hw164_0; first | rwa [add_block] at this | exact this) GW165.out) | (rw [add_block]; exact Nat.ne_of_lt (Nat.lt_of_lt_of_le (by have := World.block_lt_of_cell? _ _ hw164_0; first | rwa [add_block] at this | exact this) GW165.out)) | (show (Addr.add _ _).block ≠ _; rw [add_block]; exact Nat.ne_of_lt (Nat.lt_of_lt_of_le (by have := World.block_lt_of_cell? _ _ hw164_0; first | rwa [add_block] at this | exact this) GW165.out)) | (dsimp only; exact Nat.ne_of_lt (Nat.lt_of_lt_of_le (by have := World.block_lt_of_cell? _ _ hw164_0; first | rwa [add_block] at this | exact this) GW165.out))) _).trans (((cell_far (p := ⟨gb165, _, none⟩) (by first | exact Nat.ne_of_lt (Nat.lt_of_lt_of_le (by have := World.block_lt_of_cell? _ _ hw164_0; first | rwa [add_block] at this | exact this) GW165.out) | (rw [add_block]; exact Nat.ne_of_lt (Nat.lt_of_lt_of_le (by have := World.block_lt_of_cell? _ _ hw164_0; first | rwa [add_block] at this | exact this) GW165.out)) | (show (Addr.add _ _).block ≠ _; rw [add_block]; exact Nat.ne_of_lt (Nat.lt_of_lt_of_le (by have := World.block_lt_of_cell? _ _ hw164_0; first | rwa [add_block] at this | exact this) GW165.out)) | (dsimp only; exact Nat.ne_of_lt (Nat.lt_of_lt_of_le (by have := World.block_lt_of_cell? _ _ hw164_0; first | rwa [add_block] at this | exact this) GW165.out))) _).trans (((cell_far (p := ⟨gb165, _, none⟩) (by first | exact Nat.ne_of_lt (Nat.lt_of_lt_of_le (by have := World.block_lt_of_cell? _ _ hw164_0; first | rwa [add_block] at this | exact this) GW165.out) | (rw [add_block]; exact Nat.ne_of_lt (Nat.lt_of_lt_of_le (by have := World.block_lt_of_cell? _ _ hw164_0; first | rwa [add_block] at this | exact this) GW165.out)) | (show (Addr.add _ _).block ≠ _; rw [add_block]; exact Nat.ne_of_lt (Nat.lt_of_lt_of_le (by have := World.block_lt_of_cell? _ _ hw164_0; first | rwa [add_block] at this | exact this) GW165.out)) | (dsimp only; exact Nat.ne_of_lt (Nat.lt_of_lt_of_le (by have := World.block_lt_of_cell? _ _ hw164_0; first | rwa [add_block] at this | exact this) GW165.out))) _).trans (hHeld.2))))))))))))⟩ (fun hHeld => ?_)
        clear hK K
        refine done_ (done_of HT_.out (by kernel_rfl)) ?_
        try go_wp2
        have n0_ : Aside0 (((((((w34.setCell ⟨gb165, 0, none⟩ (.int .i64 (Go.bits .or .i64 (wrap64 ((wrap64 (rd l0 0)) * 256)) (wrap64 (rd l0 1))))).setCell ⟨gb165, 1, none⟩ (.int .i64 ji10)).setCell ⟨gb165, 2, none⟩ (.int .i64 (Go.bits .and .i64 (wrap64 (rd l0 2)) 1))).setCell ⟨gb165, 3, none⟩ (.int .i64 (Go.bits .and .i64 ((wrap64 (rd l0 2)) / 4) 3))).setCell ⟨gb165, 4, none⟩ (.int .i64 (Go.bits .and .i64 ((wrap64 (rd l0 2)) / 16) 3))).setCell ⟨gb165, 5, none⟩ (.bool (decide ((Go.bits .and .i64 (wrap64 (rd l0 2)) 2) > 0)))).heap[gb161]? = some (.cells #[.int .i64 0, .int .i64 0, .int .i64 0, .int .i64 0, .int .i64 0, .bool false] 49 (0, 0))) := ⟨by (with_reducible repeat (first | refine blk_drewN ?_ _ | refine blk_drew ?_ | refine blk_alloc ?_ _)); refine blk_far ?_ NB161_165.out _; (with_reducible repeat (first | refine blk_drewN ?_ _ | refine blk_drew ?_ | refine blk_alloc ?_ _)); refine blk_far ?_ NB161_165.out _; (with_reducible repeat (first | refine blk_drewN ?_ _ | refine blk_drew ?_ | refine blk_alloc ?_ _)); refine blk_far ?_ NB161_165.out _; (with_reducible repeat (first | refine blk_drewN ?_ _ | refine blk_drew ?_ | refine blk_alloc ?_ _)); refine blk_far ?_ NB161_165.out _; (with_reducible repeat (first | refine blk_drewN ?_ _ | refine blk_drew ?_ | refine blk_alloc ?_ _)); refine blk_far ?_ NB161_165.out _; (with_reducible repeat (first | refine blk_drewN ?_ _ | refine blk_drew ?_ | refine blk_alloc ?_ _)); refine blk_far ?_ NB161_165.out _; (with_reducible repeat (first | refine blk_drewN ?_ _ | refine blk_drew ?_ | refine blk_alloc ?_ _)); exact BK161.out⟩
        have n1_ : Aside0 (((((((w34.setCell ⟨gb165, 0, none⟩ (.int .i64 (Go.bits .or .i64 (wrap64 ((wrap64 (rd l0 0)) * 256)) (wrap64 (rd l0 1))))).setCell ⟨gb165, 1, none⟩ (.int .i64 ji10)).setCell ⟨gb165, 2, none⟩ (.int .i64 (Go.bits .and .i64 (wrap64 (rd l0 2)) 1))).setCell ⟨gb165, 3, none⟩ (.int .i64 (Go.bits .and .i64 ((wrap64 (rd l0 2)) / 4) 3))).setCell ⟨gb165, 4, none⟩ (.int .i64 (Go.bits .and .i64 ((wrap64 (rd l0 2)) / 16) 3))).setCell ⟨gb165, 5, none⟩ (.bool (decide ((Go.bits .and .i64 (wrap64 (rd l0 2)) 2) > 0)))).heap[gb165]? = some (.cells #[.int .i64 (Go.bits .or .i64 (wrap64 ((wrap64 (rd l0 0)) * 256)) (wrap64 (rd l0 1))), .int .i64 ji10, .int .i64 (Go.bits .and .i64 (wrap64 (rd l0 2)) 1), .int .i64 (Go.bits .and .i64 ((wrap64 (rd l0 2)) / 4) 3), .int .i64 (Go.bits .and .i64 ((wrap64 (rd l0 2)) / 16) 3), .bool (decide ((Go.bits .and .i64 (wrap64 (rd l0 2)) 2) > 0))] 49 (0, 0))) := ⟨by (with_reducible repeat (first | refine blk_drewN ?_ _ | refine blk_drew ?_ | refine blk_alloc ?_ _)); refine blk_put (cs := #[.int .i64 (Go.bits .or .i64 (wrap64 ((wrap64 (rd l0 0)) * 256)) (wrap64 (rd l0 1))), .int .i64 ji10, .int .i64 (Go.bits .and .i64 (wrap64 (rd l0 2)) 1), .int .i64 (Go.bits .and .i64 ((wrap64 (rd l0 2)) / 4) 3), .int .i64 (Go.bits .and .i64 ((wrap64 (rd l0 2)) / 16) 3), .bool false]) ?_ 5 _ rfl; refine blk_put (cs := #[.int .i64 (Go.bits .or .i64 (wrap64 ((wrap64 (rd l0 0)) * 256)) (wrap64 (rd l0 1))), .int .i64 ji10, .int .i64 (Go.bits .and .i64 (wrap64 (rd l0 2)) 1), .int .i64 (Go.bits .and .i64 ((wrap64 (rd l0 2)) / 4) 3), .int .i64 0, .bool false]) ?_ 4 _ rfl; refine blk_put (cs := #[.int .i64 (Go.bits .or .i64 (wrap64 ((wrap64 (rd l0 0)) * 256)) (wrap64 (rd l0 1))), .int .i64 ji10, .int .i64 (Go.bits .and .i64 (wrap64 (rd l0 2)) 1), .int .i64 0, .int .i64 0, .bool false]) ?_ 3 _ rfl; refine blk_put (cs := #[.int .i64 (Go.bits .or .i64 (wrap64 ((wrap64 (rd l0 0)) * 256)) (wrap64 (rd l0 1))), .int .i64 ji10, .int .i64 0, .int .i64 0, .int .i64 0, .bool false]) ?_ 2 _ rfl; refine blk_put (cs := #[.int .i64 (Go.bits .or .i64 (wrap64 ((wrap64 (rd l0 0)) * 256)) (wrap64 (rd l0 1))), .int .i64 0, .int .i64 0, .int .i64 0, .int .i64 0, .bool false]) ?_ 1 _ rfl; refine blk_put (cs := #[.int .i64 0, .int .i64 0, .int .i64 0, .int .i64 0, .int .i64 0, .bool false]) ?_ 0 _ rfl; exact bpl BK165.out⟩
        have n2_ : Aside0 (Below w.heap.size w ((((((w34.setCell ⟨gb165, 0, none⟩ (.int .i64 (Go.bits .or .i64 (wrap64 ((wrap64 (rd l0 0)) * 256)) (wrap64 (rd l0 1))))).setCell ⟨gb165, 1, none⟩ (.int .i64 ji10)).setCell ⟨gb165, 2, none⟩ (.int .i64 (Go.bits .and .i64 (wrap64 (rd l0 2)) 1))).setCell ⟨gb165, 3, none⟩ (.int .i64 (Go.bits .and .i64 ((wrap64 (rd l0 2)) / 4) 3))).setCell ⟨gb165, 4, none⟩ (.int .i64 (Go.bits .and .i64 ((wrap64 (rd l0 2)) / 16) 3))).setCell ⟨gb165, 5, none⟩ (.bool (decide ((Go.bits .and .i64 (wrap64 (rd l0 2)) 2) > 0))))) := ⟨bnx⟩
        (try clear BK161)
        (try clear BK165)
        (try clear HB)
        generalize ((((((w34.setCell ⟨gb165, 0, none⟩ (.int .i64 (Go.bits .or .i64 (wrap64 ((wrap64 (rd l0 0)) * 256)) (wrap64 (rd l0 1))))).setCell ⟨gb165, 1, none⟩ (.int .i64 ji10)).setCell ⟨gb165, 2, none⟩ (.int .i64 (Go.bits .and .i64 (wrap64 (rd l0 2)) 1))).setCell ⟨gb165, 3, none⟩ (.int .i64 (Go.bits .and .i64 ((wrap64 (rd l0 2)) / 4) 3))).setCell ⟨gb165, 4, none⟩ (.int .i64 (Go.bits .and .i64 ((wrap64 (rd l0 2)) / 16) 3))).setCell ⟨gb165, 5, none⟩ (.bool (decide ((Go.bits .and .i64 (wrap64 (rd l0 2)) 2) > 0)))) = w41 at n0_ n1_ n2_ ⊢
        have BK161 := n0_
        have BK165 := n1_
        have HB := n2_
        clear n0_ n1_ n2_
        replace BK161 := am (blk_drew BK161.out)
        replace BK165 := am (blk_drew BK165.out)
        replace HB := am (below_drew1 HB.out)
        refine start_ (n := 16) (S := fun w' => w'.cell? ⟨gb165, 0, none⟩ = some (.int .i64 (Go.bits .or .i64 (wrap64 ((wrap64 (rd l0 0)) * 256)) (wrap64 (rd l0 1)))) ∧ w'.cell? ⟨gb165, 1, none⟩ = some (.int .i64 ji10) ∧ w'.cell? ⟨gb165, 2, none⟩ = some (.int .i64 (Go.bits .and .i64 (wrap64 (rd l0 2)) 1)) ∧ w'.cell? ⟨gb165, 3, none⟩ = some (.int .i64 (Go.bits .and .i64 ((wrap64 (rd l0 2)) / 4) 3)) ∧ w'.cell? ⟨gb165, 4, none⟩ = some (.int .i64 (Go.bits .and .i64 ((wrap64 (rd l0 2)) / 16) 3)) ∧ w'.cell? ⟨gb165, 5, none⟩ = some (.bool (decide ((Go.bits .and .i64 (wrap64 (rd l0 2)) 2) > 0)))) (ds := []) #[false, false, false, false, false, false, false, false, false, false, false, false, false, false, false, false] (by kernel_rfl) rfl rfl ⟨(blk_cell BK165.out 0).trans rfl, (blk_cell BK165.out 1).trans rfl, (blk_cell BK165.out 2).trans rfl, (blk_cell BK165.out 3).trans rfl, (blk_cell BK165.out 4).trans rfl, (blk_cell BK165.out 5).trans rfl⟩ (fun hHeld => ?_); refine with_tabW impl_readHead.tab5 impl_readHead.bits5 (fun HT_ HW_ => ?_)
        generalize w41.drew = w42 at BK161 BK165 HB hHeld ⊢
        refine pu_ 1 40 HT_ ?_
        refine tk_ 0 39 HT_ HW_ hHeld ?_
        refine tk_ 2 41 HT_ HW_ hHeld ?_
        refine on_ 3 HT_ (fun K hK => ?_)
        refine gs_ Try.func155 #[.int .i64 (Go.bits .or .i64 (wrap64 ((wrap64 (rd l0 0)) * 256)) (wrap64 (rd l0 1)))] ?_
        with_reducible refine (impl_isNumber.calls (Go.bits .or .i64 (wrap64 ((wrap64 (rd l0 0)) * 256)) (wrap64 (rd l0 1))) true _ A11.out).mono ?_
        rintro e w' ⟨rfl, ⟨nd, rfl⟩⟩
        refine ⟨_, rfl, ?_⟩
        refine hK.out _ _ ⟨(blk_cell (blk_drewN BK165.out _) 0).trans rfl, (blk_cell (blk_drewN BK165.out _) 1).trans rfl, (blk_cell (blk_drewN BK165.out _) 2).trans rfl, (blk_cell (blk_drewN BK165.out _) 3).trans rfl, (blk_cell (blk_drewN BK165.out _) 4).trans rfl, (blk_cell (blk_drewN BK165.out _) 5).trans rfl⟩ (fun hHeld => ?_)
        clear hK K
        refine nm_ 42 ?_
        refine pu_ 4 43 HT_ ?_
        refine pu_ 5 44 HT_ ?_
        refine tk_ 6 45 HT_ HW_ hHeld ?_
        refine on_ 7 HT_ (fun K hK => ?_)
        refine gs_ Try.func141 #[.int .i64 (Go.bits .and .i64 ((wrap64 (rd l0 2)) / 4) 3)] ?_
        with_reducible refine (impl_isSpread.calls (Go.bits .and .i64 ((wrap64 (rd l0 2)) / 4) 3) false _ A13.out).mono ?_
        rintro e w' ⟨rfl, ⟨nd, rfl⟩⟩
        refine ⟨_, rfl, ?_⟩
        refine hK.out _ _ ⟨(blk_cell (blk_drewN (blk_drewN BK165.out _) _) 0).trans rfl, (blk_cell (blk_drewN (blk_drewN BK165.out _) _) 1).trans rfl, (blk_cell (blk_drewN (blk_drewN BK165.out _) _) 2).trans rfl, (blk_cell (blk_drewN (blk_drewN BK165.out _) _) 3).trans rfl, (blk_cell (blk_drewN (blk_drewN BK165.out _) _) 4).trans rfl, (blk_cell (blk_drewN (blk_drewN BK165.out _) _) 5).trans rfl⟩ (fun hHeld => ?_)
        clear hK K
        refine nm_ 46 ?_
        (repeat rw [World.drewN_drewN w42])
        rw [drewN_self w42]
        generalize hq_ : World.drewN w42 _ = wq
        replace BK161 := bkq BK161 hq_
        replace BK165 := bkq BK165 hq_
        replace HB := blq HB hq_
        clear hq_
        refine pu_ 8 47 HT_ ?_
        refine pu_ 9 48 HT_ ?_
        refine pure_ (i := 10) (N := some 49) (v := undef) (a' := ?_) #[true, true, true, true, true, true, true, true, true, true, true, false, false, false, false, false] rfl rfl (any_of HT_.out (by kernel_rfl)) (fun _ _ _ h => h) (Or.inr ⟨by rfl, rfl⟩) ?_ ?_
        rotate_left
        ·exact apr
        refine pure_ (i := 11) (N := some 50) (v := undef) (a' := ?_) #[true, true, true, true, true, true, true, true, true, true, true, true, false, false, false, false] rfl rfl (any_of HT_.out (by kernel_rfl)) (fun _ _ _ h => h) (Or.inr ⟨by rfl, rfl⟩) ?_ ?_
        rotate_left
        ·exact apr
        refine pure_ (i := 12) (N := some 51) (v := undef) (a' := ?_) #[true, true, true, true, true, true, true, true, true, true, true, true, true, false, false, false] rfl rfl (any_of HT_.out (by kernel_rfl)) (fun _ _ _ h => h) (Or.inr ⟨by rfl, rfl⟩) ?_ ?_
        rotate_left
        ·exact apr
        refine pu_ 13 52 HT_ ?_
        refine on_ 14 HT_ (fun K hK => ?_)
        have hs43 : wq.cell? ⟨gb161, 0, none⟩ = some (.int .i64 0) := (blk_cell BK161.out 0).trans rfl
        have hfs43 := blk_frozen BK161.out 0
        have hns43_1 := NB165_161.out
        have hms43_1 := NB161_165.out
        have hs44 : wq.cell? ⟨gb161, 1, none⟩ = some (.int .i64 0) := (blk_cell BK161.out 1).trans rfl
        have hfs44 := blk_frozen BK161.out 1
        have hns44_1 := NB165_161.out
        have hms44_1 := NB161_165.out
        have hs45 : wq.cell? ⟨gb161, 2, none⟩ = some (.int .i64 0) := (blk_cell BK161.out 2).trans rfl
        have hfs45 := blk_frozen BK161.out 2
        have hns45_1 := NB165_161.out
        have hms45_1 := NB161_165.out
        have hs46 : wq.cell? ⟨gb161, 3, none⟩ = some (.int .i64 0) := (blk_cell BK161.out 3).trans rfl
        have hfs46 := blk_frozen BK161.out 3
        have hns46_1 := NB165_161.out
        have hms46_1 := NB161_165.out
        have hs47 : wq.cell? ⟨gb161, 4, none⟩ = some (.int .i64 0) := (blk_cell BK161.out 4).trans rfl
        have hfs47 := blk_frozen BK161.out 4
        have hns47_1 := NB165_161.out
        have hms47_1 := NB161_165.out
        have hs48 : wq.cell? ⟨gb161, 5, none⟩ = some (.bool false) := (blk_cell BK161.out 5).trans rfl
        have hfs48 := blk_frozen BK161.out 5
        have hns48_1 := NB165_161.out
        have hms48_1 := NB161_165.out
        refine skip_ (w1 := ?_) (by rfl) rfl ?_ ?_
        rotate_left
        ·go_simp
         rfl
        refine hK.out _ _ ⟨((cell_far (p := ⟨gb161, _, none⟩) NB165_161.out _).trans (((cell_far (p := ⟨gb161, _, none⟩) NB165_161.out _).trans (((cell_far (p := ⟨gb161, _, none⟩) NB165_161.out _).trans (((cell_far (p := ⟨gb161, _, none⟩) NB165_161.out _).trans (((cell_far (p := ⟨gb161, _, none⟩) NB165_161.out _).trans (((cell_far (p := ⟨gb161, _, none⟩) NB165_161.out _).trans ((blk_cell BK165.out 0).trans rfl)))))))))))), ((cell_far (p := ⟨gb161, _, none⟩) NB165_161.out _).trans (((cell_far (p := ⟨gb161, _, none⟩) NB165_161.out _).trans (((cell_far (p := ⟨gb161, _, none⟩) NB165_161.out _).trans (((cell_far (p := ⟨gb161, _, none⟩) NB165_161.out _).trans (((cell_far (p := ⟨gb161, _, none⟩) NB165_161.out _).trans (((cell_far (p := ⟨gb161, _, none⟩) NB165_161.out _).trans ((blk_cell BK165.out 1).trans rfl)))))))))))), ((cell_far (p := ⟨gb161, _, none⟩) NB165_161.out _).trans (((cell_far (p := ⟨gb161, _, none⟩) NB165_161.out _).trans (((cell_far (p := ⟨gb161, _, none⟩) NB165_161.out _).trans (((cell_far (p := ⟨gb161, _, none⟩) NB165_161.out _).trans (((cell_far (p := ⟨gb161, _, none⟩) NB165_161.out _).trans (((cell_far (p := ⟨gb161, _, none⟩) NB165_161.out _).trans ((blk_cell BK165.out 2).trans rfl)))))))))))), ((cell_far (p := ⟨gb161, _, none⟩) NB165_161.out _).trans (((cell_far (p := ⟨gb161, _, none⟩) NB165_161.out _).trans (((cell_far (p := ⟨gb161, _, none⟩) NB165_161.out _).trans (((cell_far (p := ⟨gb161, _, none⟩) NB165_161.out _).trans (((cell_far (p := ⟨gb161, _, none⟩) NB165_161.out _).trans (((cell_far (p := ⟨gb161, _, none⟩) NB165_161.out _).trans ((blk_cell BK165.out 3).trans rfl)))))))))))), ((cell_far (p := ⟨gb161, _, none⟩) NB165_161.out _).trans (((cell_far (p := ⟨gb161, _, none⟩) NB165_161.out _).trans (((cell_far (p := ⟨gb161, _, none⟩) NB165_161.out _).trans (((cell_far (p := ⟨gb161, _, none⟩) NB165_161.out _).trans (((cell_far (p := ⟨gb161, _, none⟩) NB165_161.out _).trans (((cell_far (p := ⟨gb161, _, none⟩) NB165_161.out _).trans ((blk_cell BK165.out 4).trans rfl)))))))))))), ((cell_far (p := ⟨gb161, _, none⟩) NB165_161.out _).trans (((cell_far (p := ⟨gb161, _, none⟩) NB165_161.out _).trans (((cell_far (p := ⟨gb161, _, none⟩) NB165_161.out _).trans (((cell_far (p := ⟨gb161, _, none⟩) NB165_161.out _).trans (((cell_far (p := ⟨gb161, _, none⟩) NB165_161.out _).trans (((cell_far (p := ⟨gb161, _, none⟩) NB165_161.out _).trans ((blk_cell BK165.out 5).trans rfl))))))))))))⟩ (fun hHeld => ?_)
        clear hK K
        refine pu_ 15 3 HT_ ?_
        refine done_ (done_of HT_.out (by kernel_rfl)) ?_
        try go_wp2
        refine bodyPost_ret (results_ct rfl _ _ gb161 49 #[.int .i64 (Go.bits .or .i64 (wrap64 ((wrap64 (rd l0 0)) * 256)) (wrap64 (rd l0 1))), .int .i64 ji10, .int .i64 (Go.bits .and .i64 (wrap64 (rd l0 2)) 1), .int .i64 (Go.bits .and .i64 ((wrap64 (rd l0 2)) / 4) 3), .int .i64 (Go.bits .and .i64 ((wrap64 (rd l0 2)) / 16) 3), .bool (decide ((Go.bits .and .i64 (wrap64 (rd l0 2)) 2) > 0))] (0, 0) _ rfl (by (with_reducible repeat (first | refine blk_drewN ?_ _ | refine blk_drew ?_ | refine blk_alloc ?_ _)); refine blk_put (cs := #[.int .i64 (Go.bits .or .i64 (wrap64 ((wrap64 (rd l0 0)) * 256)) (wrap64 (rd l0 1))), .int .i64 ji10, .int .i64 (Go.bits .and .i64 (wrap64 (rd l0 2)) 1), .int .i64 (Go.bits .and .i64 ((wrap64 (rd l0 2)) / 4) 3), .int .i64 (Go.bits .and .i64 ((wrap64 (rd l0 2)) / 16) 3), .bool false]) ?_ 5 _ rfl; refine blk_put (cs := #[.int .i64 (Go.bits .or .i64 (wrap64 ((wrap64 (rd l0 0)) * 256)) (wrap64 (rd l0 1))), .int .i64 ji10, .int .i64 (Go.bits .and .i64 (wrap64 (rd l0 2)) 1), .int .i64 (Go.bits .and .i64 ((wrap64 (rd l0 2)) / 4) 3), .int .i64 0, .bool false]) ?_ 4 _ rfl; refine blk_put (cs := #[.int .i64 (Go.bits .or .i64 (wrap64 ((wrap64 (rd l0 0)) * 256)) (wrap64 (rd l0 1))), .int .i64 ji10, .int .i64 (Go.bits .and .i64 (wrap64 (rd l0 2)) 1), .int .i64 0, .int .i64 0, .bool false]) ?_ 3 _ rfl; refine blk_put (cs := #[.int .i64 (Go.bits .or .i64 (wrap64 ((wrap64 (rd l0 0)) * 256)) (wrap64 (rd l0 1))), .int .i64 ji10, .int .i64 0, .int .i64 0, .int .i64 0, .bool false]) ?_ 2 _ rfl; refine blk_put (cs := #[.int .i64 (Go.bits .or .i64 (wrap64 ((wrap64 (rd l0 0)) * 256)) (wrap64 (rd l0 1))), .int .i64 0, .int .i64 0, .int .i64 0, .int .i64 0, .bool false]) ?_ 1 _ rfl; refine blk_put (cs := #[.int .i64 0, .int .i64 0, .int .i64 0, .int .i64 0, .int .i64 0, .bool false]) ?_ 0 _ rfl; exact bpl BK161.out) Try.underlying49 rfl (by kernel_rfl)) rfl ?_
        exact ⟨by first | rfl | (simp [errW_none, errW_some] <;> rfl) | (simp only [← hji8, ← hji10]; first | rfl | (simp [errW_none, errW_some] <;> rfl)) | (simp [*, errW_none, errW_some] <;> rfl), bnx⟩
      ·replace c12 := Bool.eq_false_iff.mpr c12
       subst c12
       replace H : (some (Go.bits .or .i64 (wrap64 ((wrap64 (rd l0 0)) * 256)) (wrap64 (rd l0 1)), ji10, Go.bits .and .i64 (wrap64 (rd l0 2)) 1, Go.bits .and .i64 ((wrap64 (rd l0 2)) / 4) 3, Go.bits .and .i64 ((wrap64 (rd l0 2)) / 16) 3, decide ((Go.bits .and .i64 (wrap64 (rd l0 2)) 2) > 0), false)) = some (r1, r2, r3, r4, r5, r6, r7) := by rw [if_neg (show ¬ (false = true) by decide)] at H; exact H
       simp only [Option.some.injEq, Prod.mk.injEq] at H
       obtain ⟨rfl, rfl, rfl, rfl, rfl, rfl, rfl⟩ := H
       go_enter Try.func104, Try.ntmps104
       try go_wp2_with (first | ((with_reducible refine gate_dst (N := 2) rfl ?_); refine bev 2 49 #[.int .i64 0, .int .i64 0, .int .i64 0, .int .i64 0, .int .i64 0, .bool false] ?_; intro gb161 hg w49 hbox hb; have BK161 := am hbox; have GW161 := gwe hg; have GE161 := gwe hg; replace HB := hbs hb; clear hb hbox hg; have p162 : 0 ≤ (2 : Int) := (by omega); have q162 : 2 < (l0.length : Int) := dta; obtain ⟨ad162, e162, hx162_0⟩ := Kd.at_int HR0.out 2 p162 q162; cases e162; (try simp only [show (2 : Int).toNat = 2 from rfl, Nat.reduceMul, Nat.reduceEqDiff, Go.Addr.add, ↓reduceIte] at hx162_0); have qi162 : (2 < l0.length) = True := eq_true (by omega); (try rw [show ((2 : Int)).toNat = 2 from rfl] at hx162_0); replace hx162_0 := (HB.out.cell (World.block_lt_of_cell? w _ hx162_0)).trans hx162_0; replace p162 := eq_true p162; replace q162 := eq_true q162))
       replace BK161 := am (blk_drew BK161.out)
       replace HB := am (below_drew1 HB.out)
       have p163 : 0 ≤ (0 : Int) := (by omega)
       have q163 : 0 < (l0.length : Int) := dta
       obtain ⟨ad163, e163, hx163_0⟩ := Kd.at_int HR0.out 0 p163 q163
       have hw163_0 := hx163_0
       (try rw [show ((0 : Int)).toNat = 0 from rfl] at hw163_0)
       (try rw [show 0 * 1 = 0 from rfl] at hw163_0)
       (try rw [Addr.add_zero'] at hw163_0)
       obtain rfl : ad162 = ad163 := (by injection e163)
       have qi163 : (0 < l0.length) = True := eq_true (by omega)
       (try rw [show ((0 : Int)).toNat = 0 from rfl] at hx163_0)
       (try rw [Addr.add_zero'] at hx163_0)
       replace hx163_0 := (HB.out.cell (World.block_lt_of_cell? w _ hx163_0)).trans hx163_0
       replace p163 := eq_true p163
       replace q163 := eq_true q163
       have p164 : 0 ≤ (1 : Int) := (by omega)
       have q164 : 1 < (l0.length : Int) := dta
       obtain ⟨ad164, e164, hx164_0⟩ := Kd.at_int HR0.out 1 p164 q164
       have hw164_0 := hx164_0
       (try rw [show ((1 : Int)).toNat = 1 from rfl] at hw164_0)
       (try rw [show 1 * 1 = 1 from rfl] at hw164_0)
       (try simp only [Nat.reduceMul, Nat.reduceEqDiff, Go.Addr.add, ↓reduceIte] at hw164_0)
       obtain rfl : ad162 = ad164 := (by injection e164)
       (try simp only [show (1 : Int).toNat = 1 from rfl, Nat.reduceMul, Nat.reduceEqDiff, Go.Addr.add, ↓reduceIte] at hx164_0)
       have qi164 : (1 < l0.length) = True := eq_true (by omega)
       (try rw [show ((1 : Int)).toNat = 1 from rfl] at hx164_0)
       replace hx164_0 := (HB.out.cell (World.block_lt_of_cell? w _ hx164_0)).trans hx164_0
       replace p164 := eq_true p164
       replace q164 := eq_true q164
       refine start_ (n := 27) (S := fun w' => w'.cell? ad162 = some (.int .u8 (rd l0 0)) ∧ w'.cell? ⟨ad162.block, ad162.off + 1, none⟩ = some (.int .u8 (rd l0 1))) (ds := []) #[false, false, false, false, false, false, false, false, false, false, false, false, false, false, false, false, false, false, false, false, false, false, false, false, false, false, false] (by kernel_rfl) rfl rfl ⟨((HB.out.cell (World.block_lt_of_cell? w _ hw163_0)).trans hw163_0), ((HB.out.cell (World.block_lt_of_cell? w _ hw164_0)).trans hw164_0)⟩ (fun hHeld => ?_); refine with_tabW impl_readHead.tab4 impl_readHead.bits4 (fun HT_ HW_ => ?_)
       generalize w49.drew = w50 at BK161 HB hx163_0 hx164_0 hHeld ⊢
       refine pu_ 0 14 HT_ ?_
       refine pu_ 1 15 HT_ ?_
       refine pu_ 5 19 HT_ ?_
       refine pu_ 6 20 HT_ ?_
       refine pu_ 10 24 HT_ ?_
       refine pu_ 11 25 HT_ ?_
       refine pu_ 12 26 HT_ ?_
       refine pu_ 13 27 HT_ ?_
       refine pu_ 14 28 HT_ ?_
       refine pu_ 15 29 HT_ ?_
       refine pu_ 16 30 HT_ ?_
       refine pu_ 17 31 HT_ ?_
       refine pu_ 18 32 HT_ ?_
       refine pu_ 19 33 HT_ ?_
       refine pu_ 20 34 HT_ ?_
       refine pu_ 21 35 HT_ ?_
       refine pu_ 22 36 HT_ ?_
       refine pu_ 23 37 HT_ ?_
       refine tk_ 2 16 HT_ HW_ hHeld ?_
       refine pu_ 3 17 HT_ ?_
       refine pu_ 4 18 HT_ ?_
       refine tk_ 7 21 HT_ HW_ hHeld ?_
       refine pu_ 8 22 HT_ ?_
       refine pu_ 9 23 HT_ ?_
       refine pu_ 24 38 HT_ ?_
       refine on_ 25 HT_ (fun K hK => ?_)
       refine bst 5 49 #[.int .i64 0, .int .i64 0, .int .i64 0, .int .i64 0, .int .i64 0, .bool false] ?_
       intro gb165 hg w51 hbox hb
       have BK165 := am hbox
       have GW165 := gwe hg
       have GE165 := gwe hg
       replace HB := hbs hb
       have NB161_165 := nbl hg BK161
       have NB165_161 := nbg hg BK161
       replace BK161 := bkb BK161 hb
       clear hb hbox hg
       refine hK.out _ _ ⟨((HB.out.cell (World.block_lt_of_cell? w _ hw163_0)).trans hw163_0), ((HB.out.cell (World.block_lt_of_cell? w _ hw164_0)).trans hw164_0)⟩ (fun hHeld => ?_)
       clear hK K
       refine nm_ 5 ?_
       refine on_ 26 HT_ (fun K hK => ?_)
       have hs52 : w51.cell? ⟨gb165, 0, none⟩ = some (.int .i64 0) := (blk_cell BK165.out 0).trans rfl
       have hfs52 := blk_frozen BK165.out 0
       have hns52_0 := NB161_165.out
       have hms52_0 := NB165_161.out
       have hs53 : w51.cell? ⟨gb165, 1, none⟩ = some (.int .i64 0) := (blk_cell BK165.out 1).trans rfl
       have hfs53 := blk_frozen BK165.out 1
       have hns53_0 := NB161_165.out
       have hms53_0 := NB165_161.out
       have hs54 : w51.cell? ⟨gb165, 2, none⟩ = some (.int .i64 0) := (blk_cell BK165.out 2).trans rfl
       have hfs54 := blk_frozen BK165.out 2
       have hns54_0 := NB161_165.out
       have hms54_0 := NB165_161.out
       have hs55 : w51.cell? ⟨gb165, 3, none⟩ = some (.int .i64 0) := (blk_cell BK165.out 3).trans rfl
       have hfs55 := blk_frozen BK165.out 3
       have hns55_0 := NB161_165.out
       have hms55_0 := NB165_161.out
       have hs56 : w51.cell? ⟨gb165, 4, none⟩ = some (.int .i64 0) := (blk_cell BK165.out 4).trans rfl
       have hfs56 := blk_frozen BK165.out 4
       have hns56_0 := NB161_165.out
       have hms56_0 := NB165_161.out
       have hs57 : w51.cell? ⟨gb165, 5, none⟩ = some (.bool false) := (blk_cell BK165.out 5).trans rfl
       have hfs57 := blk_frozen BK165.out 5
       have hns57_0 := NB161_165.out
       have hms57_0 := NB165_161.out
       refine skip_ (w1 := ?_) (by rfl) rfl ?_ ?_
       rotate_left
       ·go_simp
        rfl
       refine hK.out _ _ ⟨((cell_far (p := ⟨gb165, _, none⟩) (by first | exact Nat.ne_of_lt (Nat.lt_of_lt_of_le (by have := World.block_lt_of_cell? _ _ hw163_0; first | rwa [add_block] at this | exact this) GW165.out) | (rw [add_block]; exact Nat.ne_of_lt (Nat.lt_of_lt_of_le (by have := World.block_lt_of_cell? _ _ hw163_0; first | rwa [add_block] at this | exact this) GW165.out)) | (show (Addr.add _ _).block ≠ _; rw [add_block]; exact Nat.ne_of_lt (Nat.lt_of_lt_of_le (by have := World.block_lt_of_cell? _ _ hw163_0; first | rwa [add_block] at this | exact this) GW165.out)) | (dsimp only; exact Nat.ne_of_lt (Nat.lt_of_lt_of_le (by have := World.block_lt_of_cell? _ _ hw163_0; first | rwa [add_block] at this | exact this) GW165.out))) _).trans (((cell_far (p := ⟨gb165, _, none⟩) (by first | exact Nat.ne_of_lt (Nat.lt_of_lt_of_le (by have := World.block_lt_of_cell? _ _ hw163_0; first | rwa [add_block] at this | exact this) GW165.out) | (rw [add_block]; exact Nat.ne_of_lt (Nat.lt_of_lt_of_le (by have := World.block_lt_of_cell? _ _ hw163_0; first | rwa [add_block] at this | exact this) GW165.out)) | (show (Addr.add _ _).block ≠ _; rw [add_block]; exact Nat.ne_of_lt (Nat.lt_of_lt_of_le (by have := World.block_lt_of_cell? _ _ hw163_0; first | rwa [add_block] at this | exact this) GW165.out)) | (dsimp only; exact Nat.ne_of_lt (Nat.lt_of_lt_of_le (by have := World.block_lt_of_cell? _ _ hw163_0; first | rwa [add_block] at this | exact this) GW165.out))) _).trans (((cell_far (p := ⟨gb165, _, none⟩) (by first | exact Nat.ne_of_lt (Nat.lt_of_lt_of_le (by have := World.block_lt_of_cell? _ _ hw163_0; first | rwa [add_block] at this | exact this) GW165.out) | (rw [add_block]; exact Nat.ne_of_lt (Nat.lt_of_lt_of_le (by have := World.block_lt_of_cell? _ _ hw163_0; first | rwa [add_block] at this | exact this) GW165.out)) | (show (Addr.add _ _).block ≠ _; rw [add_block]; exact Nat.ne_of_lt (Nat.lt_of_lt_of_le (by have := World.block_lt_of_cell? _ _ hw163_0; first | rwa [add_block] at this | exact this) GW165.out)) | (dsimp only; exact Nat.ne_of_lt (Nat.lt_of_lt_of_le (by have := World.block_lt_of_cell? _ _ hw163_0; first | rwa [add_block] at this | exact this) GW165.out))) _).trans (((cell_far (p := ⟨gb165, _, none⟩) (by first | exact Nat.ne_of_lt (Nat.lt_of_lt_of_le (by have := World.block_lt_of_cell? _ _ hw163_0; first | rwa [add_block] at this | exact this) GW165.out) | (rw [add_block]; exact Nat.ne_of_lt (Nat.lt_of_lt_of_le (by have := World.block_lt_of_cell? _ _ hw163_0; first | rwa [add_block] at this | exact this) GW165.out)) | (show (Addr.add _ _).block ≠ _; rw [add_block]; exact Nat.ne_of_lt (Nat.lt_of_lt_of_le (by have := World.block_lt_of_cell? _ _ hw163_0; first | rwa [add_block] at this | exact this) GW165.out)) | (dsimp only; exact Nat.ne_of_lt (Nat.lt_of_lt_of_le (by have := World.block_lt_of_cell? _ _ hw163_0; first | rwa [add_block] at this | exact this) GW165.out))) _).trans (((cell_far (p := ⟨gb165, _, none⟩) (by first | exact Nat.ne_of_lt (Nat.lt_of_lt_of_le (by have := World.block_lt_of_cell? _ _ hw163_0; first | rwa [add_block] at this | exact this) GW165.out) | (rw [add_block]; exact Nat.ne_of_lt (Nat.lt_of_lt_of_le (by have := World.block_lt_of_cell? _ _ hw163_0; first | rwa [add_block] at this | exact this) GW165.out)) | (show (Addr.add _ _).block ≠ _; rw [add_block]; exact Nat.ne_of_lt (Nat.lt_of_lt_of_le (by have := World.block_lt_of_cell? _ _ hw163_0; first | rwa [add_block] at this | exact this) GW165.out)) | (dsimp only; exact Nat.ne_of_lt (Nat.lt_of_lt_of_le (by have := World.block_lt_of_cell? _ _ hw163_0; first | rwa [add_block] at this | exact this) GW165.out))) _).trans (((cell_far (p := ⟨gb165, _, none⟩) (by first | exact Nat.ne_of_lt (Nat.lt_of_lt_of_le (by have := World.block_lt_of_cell? _ _ hw163_0; first | rwa [add_block] at this | exact this) GW165.out) | (rw [add_block]; exact Nat.ne_of_lt (Nat.lt_of_lt_of_le (by have := World.block_lt_of_cell? _ _ hw163_0; first | rwa [add_block] at this | exact this) GW165.out)) | (show (Addr.add _ _).block ≠ _; rw [add_block]; exact Nat.ne_of_lt (Nat.lt_of_lt_of_le (by have := World.block_lt_of_cell? _ _ hw163_0; first | rwa [add_block] at this | exact this) GW165.out)) | (dsimp only; exact Nat.ne_of_lt (Nat.lt_of_lt_of_le (by have := World.block_lt_of_cell? _ _ hw163_0; first | rwa [add_block] at this | exact this) GW165.out))) _).trans (hHeld.1)))))))))))), ((cell_far (p := ⟨gb165, _, none⟩) (by first | exact Nat.ne_of_lt (Nat.lt_of_lt_of_le (by have := World.block_lt_of_cell? _ _ hw164_0; first | rwa [add_block] at this | exact this) GW165.out) | (rw [add_block]; exact Nat.ne_of_lt (Nat.lt_of_lt_of_le (by have := World.block_lt_of_cell? _ _ hw164_0; first | rwa [add_block] at this | exact this) GW165.out)) | (show (Addr.add _ _).block ≠ _; rw [add_block]; exact Nat.ne_of_lt (Nat.lt_of_lt_of_le (by have := World.block_lt_of_cell? _ _ hw164_0; first | rwa [add_block] at this | exact this) GW165.out)) | (dsimp only; exact Nat.ne_of_lt (Nat.lt_of_lt_of_le (by have := World.block_lt_of_cell? _ _ hw164_0; first | rwa [add_block] at this | exact this) GW165.out))) _).trans (((cell_far (p := ⟨gb165, _, none⟩) (by first | exact Nat.ne_of_lt (Nat.lt_of_lt_of_le (by have := World.block_lt_of_cell? _ _ hw164_0; first | rwa [add_block] at this | exact this) GW165.out) | (rw [add_block]; exact Nat.ne_of_lt (Nat.lt_of_lt_of_le (by have := World.block_lt_of_cell? _ _ hw164_0; first | rwa [add_block] at this | exact this) GW165.out)) | (show (Addr.add _ _).block ≠ _; rw [add_block]; exact Nat.ne_of_lt (Nat.lt_of_lt_of_le (by have := World.block_lt_of_cell? _ _ hw164_0; first | rwa [add_block] at this | exact this) GW165.out)) | (dsimp only; exact Nat.ne_of_lt (Nat.lt_of_lt_of_le (by have := World.block_lt_of_cell? _ _ hw164_0; first | rwa [add_block] at this | exact this) GW165.out))) _).trans (((cell_far (p := ⟨gb165, _, none⟩) (by first | exact Nat.ne_of_lt (Nat.lt_of_lt_of_le (by have := World.block_lt_of_cell? _ _ hw164_0; first | rwa [add_block] at this | exact this) GW165.out) | (rw [add_block]; exact Nat.ne_of_lt (Nat.lt_of_lt_of_le (by have := World.block_lt_of_cell? _ _ hw164_0; first | rwa [add_block] at this | exact this) GW165.out)) | (show (Addr.add _ _).block ≠ _; rw [add_block]; exact Nat.ne_of_lt (Nat.lt_of_lt_of_le (by have := World.block_lt_of_cell? _ _ hw164_0; first | rwa [add_block] at this | exact this) GW165.out)) | (dsimp only; exact Nat.ne_of_lt (Nat.lt_of_lt_of_le (by have := World.block_lt_of_cell? _ _ hw164_0; first | rwa [add_block] at this | exact this) GW165.out))) _).trans (((cell_far (p := ⟨gb165, _, none⟩) (by first | exact Nat.ne_of_lt (Nat.lt_of_lt_of_le (by have := World.block_lt_of_cell? _ _ hw164_0; first | rwa [add_block] at this | exact this) GW165.out) | (rw [add_block]; exact Nat.ne_of_lt (Nat.lt_of_lt_of_le (by have := World.block_lt_of_cell? _ _ hw164_0; first | rwa [add_block] at this | exact this) GW165.out)) | (show (Addr.add _ _).block ≠ _; rw [add_block]; exact Nat.ne_of_lt (Nat.lt_of_lt_of_le (by have := World.block_lt_of_cell? _ _ hw164_0; first | rwa [add_block] at this | exact this) GW165.out)) | (dsimp only; exact Nat.ne_of_lt (Nat.lt_of_lt_of_le (by have := World.block_lt_of_cell? _ _ hw164_0; first | rwa [add_block] at this | exact this) GW165.out))) _).trans (((cell_far (p := ⟨gb165, _, none⟩) (by first | exact Nat.ne_of_lt (Nat.lt_of_lt_of_le (by have := World.block_lt_of_cell? _ _ hw164_0; first | rwa [add_block] at this | exact this) GW165.out) | (rw [add_block]; exact Nat.ne_of_lt (Nat.lt_of_lt_of_le (by have := World.block_lt_of_cell? _ _ hw164_0; first | rwa [add_block] at this | exact this) GW165.out)) | (show (Addr.add _ _).block ≠ _; rw [add_block]; exact Nat.ne_of_lt (Nat.lt_of_lt_of_le (by have := World.block_lt_of_cell? _ _ hw164_0; first | rwa [add_block] at this | exact this) GW165.out)) | (dsimp only; exact Nat.ne_of_lt (Nat.lt_of_lt_of_le (by have := World.block_lt_of_cell? _ _ hw164_0; first | rwa [add_block] at this | exact this) GW165.out))) _).trans (((cell_far (p := ⟨gb165, _, none⟩) (by first | exact Nat.ne_of_lt (Nat.lt_of_lt_of_le (by have := World.block_lt_of_cell? _ _ hw164_0; first | rwa [add_block] at this | exact this) GW165.out) | (rw [add_block]; exact Nat.ne_of_lt (Nat.lt_of_lt_of_le (by have := World.block_lt_of_cell? _ _ hw164_0; first | rwa [add_block] at this | exact this) GW165.out)) | (show (Addr.add _ _).block ≠ _; rw [add_block]; exact Nat.ne_of_lt (Nat.lt_of_lt_of_le (by have := World.block_lt_of_cell? _ _ hw164_0; first | rwa [add_block] at this | exact this) GW165.out)) | (dsimp only; exact Nat.ne_of_lt (Nat.lt_of_lt_of_le (by have := World.block_lt_of_cell? _ _ hw164_0; first | rwa [add_block] at this | exact this) GW165.out))) _).trans (hHeld.2))))))))))))⟩ (fun hHeld => ?_)
       clear hK K
       refine done_ (done_of HT_.out (by kernel_rfl)) ?_
       try go_wp2
       have n0_ : Aside0 (((((((w51.setCell ⟨gb165, 0, none⟩ (.int .i64 (Go.bits .or .i64 (wrap64 ((wrap64 (rd l0 0)) * 256)) (wrap64 (rd l0 1))))).setCell ⟨gb165, 1, none⟩ (.int .i64 ji10)).setCell ⟨gb165, 2, none⟩ (.int .i64 (Go.bits .and .i64 (wrap64 (rd l0 2)) 1))).setCell ⟨gb165, 3, none⟩ (.int .i64 (Go.bits .and .i64 ((wrap64 (rd l0 2)) / 4) 3))).setCell ⟨gb165, 4, none⟩ (.int .i64 (Go.bits .and .i64 ((wrap64 (rd l0 2)) / 16) 3))).setCell ⟨gb165, 5, none⟩ (.bool (decide ((Go.bits .and .i64 (wrap64 (rd l0 2)) 2) > 0)))).heap[gb161]? = some (.cells #[.int .i64 0, .int .i64 0, .int .i64 0, .int .i64 0, .int .i64 0, .bool false] 49 (0, 0))) := ⟨by (with_reducible repeat (first | refine blk_drewN ?_ _ | refine blk_drew ?_ | refine blk_alloc ?_ _)); refine blk_far ?_ NB161_165.out _; (with_reducible repeat (first | refine blk_drewN ?_ _ | refine blk_drew ?_ | refine blk_alloc ?_ _)); refine blk_far ?_ NB161_165.out _; (with_reducible repeat (first | refine blk_drewN ?_ _ | refine blk_drew ?_ | refine blk_alloc ?_ _)); refine blk_far ?_ NB161_165.out _; (with_reducible repeat (first | refine blk_drewN ?_ _ | refine blk_drew ?_ | refine blk_alloc ?_ _)); refine blk_far ?_ NB161_165.out _; (with_reducible repeat (first | refine blk_drewN ?_ _ | refine blk_drew ?_ | refine blk_alloc ?_ _)); refine blk_far ?_ NB161_165.out _; (with_reducible repeat (first | refine blk_drewN ?_ _ | refine blk_drew ?_ | refine blk_alloc ?_ _)); refine blk_far ?_ NB161_165.out _; (with_reducible repeat (first | refine blk_drewN ?_ _ | refine blk_drew ?_ | refine blk_alloc ?_ _)); exact BK161.out⟩
       have n1_ : Aside0 (((((((w51.setCell ⟨gb165, 0, none⟩ (.int .i64 (Go.bits .or .i64 (wrap64 ((wrap64 (rd l0 0)) * 256)) (wrap64 (rd l0 1))))).setCell ⟨gb165, 1, none⟩ (.int .i64 ji10)).setCell ⟨gb165, 2, none⟩ (.int .i64 (Go.bits .and .i64 (wrap64 (rd l0 2)) 1))).setCell ⟨gb165, 3, none⟩ (.int .i64 (Go.bits .and .i64 ((wrap64 (rd l0 2)) / 4) 3))).setCell ⟨gb165, 4, none⟩ (.int .i64 (Go.bits .and .i64 ((wrap64 (rd l0 2)) / 16) 3))).setCell ⟨gb165, 5, none⟩ (.bool (decide ((Go.bits .and .i64 (wrap64 (rd l0 2)) 2) > 0)))).heap[gb165]? = some (.cells #[.int .i64 (Go.bits .or .i64 (wrap64 ((wrap64 (rd l0 0)) * 256)) (wrap64 (rd l0 1))), .int .i64 ji10, .int .i64 (Go.bits .and .i64 (wrap64 (rd l0 2)) 1), .int .i64 (Go.bits .and .i64 ((wrap64 (rd l0 2)) / 4) 3), .int .i64 (Go.bits .and .i64 ((wrap64 (rd l0 2)) / 16) 3), .bool (decide ((Go.bits .and .i64 (wrap64 (rd l0 2)) 2) > 0))] 49 (0, 0))) := ⟨by (with_reducible repeat (first | refine blk_drewN ?_ _ | refine blk_drew ?_ | refine blk_alloc ?_ _)); refine blk_put (cs := #[.int .i64 (Go.bits .or .i64 (wrap64 ((wrap64 (rd l0 0)) * 256)) (wrap64 (rd l0 1))), .int .i64 ji10, .int .i64 (Go.bits .and .i64 (wrap64 (rd l0 2)) 1), .int .i64 (Go.bits .and .i64 ((wrap64 (rd l0 2)) / 4) 3), .int .i64 (Go.bits .and .i64 ((wrap64 (rd l0 2)) / 16) 3), .bool false]) ?_ 5 _ rfl; refine blk_put (cs := #[.int .i64 (Go.bits .or .i64 (wrap64 ((wrap64 (rd l0 0)) * 256)) (wrap64 (rd l0 1))), .int .i64 ji10, .int .i64 (Go.bits .and .i64 (wrap64 (rd l0 2)) 1), .int .i64 (Go.bits .and .i64 ((wrap64 (rd l0 2)) / 4) 3), .int .i64 0, .bool false]) ?_ 4 _ rfl; refine blk_put (cs := #[.int .i64 (Go.bits .or .i64 (wrap64 ((wrap64 (rd l0 0)) * 256)) (wrap64 (rd l0 1))), .int .i64 ji10, .int .i64 (Go.bits .and .i64 (wrap64 (rd l0 2)) 1), .int .i64 0, .int .i64 0, .bool false]) ?_ 3 _ rfl; refine blk_put (cs := #[.int .i64 (Go.bits .or .i64 (wrap64 ((wrap64 (rd l0 0)) * 256)) (wrap64 (rd l0 1))), .int .i64 ji10, .int .i64 0, .int .i64 0, .int .i64 0, .bool false]) ?_ 2 _ rfl; refine blk_put (cs := #[.int .i64 (Go.bits .or .i64 (wrap64 ((wrap64 (rd l0 0)) * 256)) (wrap64 (rd l0 1))), .int .i64 0, .int .i64 0, .int .i64 0, .int .i64 0, .bool false]) ?_ 1 _ rfl; refine blk_put (cs := #[.int .i64 0, .int .i64 0, .int .i64 0, .int .i64 0, .int .i64 0, .bool false]) ?_ 0 _ rfl; exact bpl BK165.out⟩
       have n2_ : Aside0 (Below w.heap.size w ((((((w51.setCell ⟨gb165, 0, none⟩ (.int .i64 (Go.bits .or .i64 (wrap64 ((wrap64 (rd l0 0)) * 256)) (wrap64 (rd l0 1))))).setCell ⟨gb165, 1, none⟩ (.int .i64 ji10)).setCell ⟨gb165, 2, none⟩ (.int .i64 (Go.bits .and .i64 (wrap64 (rd l0 2)) 1))).setCell ⟨gb165, 3, none⟩ (.int .i64 (Go.bits .and .i64 ((wrap64 (rd l0 2)) / 4) 3))).setCell ⟨gb165, 4, none⟩ (.int .i64 (Go.bits .and .i64 ((wrap64 (rd l0 2)) / 16) 3))).setCell ⟨gb165, 5, none⟩ (.bool (decide ((Go.bits .and .i64 (wrap64 (rd l0 2)) 2) > 0))))) := ⟨bnx⟩
       (try clear BK161)
       (try clear BK165)
       (try clear HB)
       generalize ((((((w51.setCell ⟨gb165, 0, none⟩ (.int .i64 (Go.bits .or .i64 (wrap64 ((wrap64 (rd l0 0)) * 256)) (wrap64 (rd l0 1))))).setCell ⟨gb165, 1, none⟩ (.int .i64 ji10)).setCell ⟨gb165, 2, none⟩ (.int .i64 (Go.bits .and .i64 (wrap64 (rd l0 2)) 1))).setCell ⟨gb165, 3, none⟩ (.int .i64 (Go.bits .and .i64 ((wrap64 (rd l0 2)) / 4) 3))).setCell ⟨gb165, 4, none⟩ (.int .i64 (Go.bits .and .i64 ((wrap64 (rd l0 2)) / 16) 3))).setCell ⟨gb165, 5, none⟩ (.bool (decide ((Go.bits .and .i64 (wrap64 (rd l0 2)) 2) > 0)))) = w58 at n0_ n1_ n2_ ⊢
       have BK161 := n0_
       have BK165 := n1_
       have HB := n2_
       clear n0_ n1_ n2_
       replace BK161 := am (blk_drew BK161.out)
       replace BK165 := am (blk_drew BK165.out)
       replace HB := am (below_drew1 HB.out)
       refine start_ (n := 16) (S := fun w' => w'.cell? ⟨gb165, 0, none⟩ = some (.int .i64 (Go.bits .or .i64 (wrap64 ((wrap64 (rd l0 0)) * 256)) (wrap64 (rd l0 1)))) ∧ w'.cell? ⟨gb165, 1, none⟩ = some (.int .i64 ji10) ∧ w'.cell? ⟨gb165, 2, none⟩ = some (.int .i64 (Go.bits .and .i64 (wrap64 (rd l0 2)) 1)) ∧ w'.cell? ⟨gb165, 3, none⟩ = some (.int .i64 (Go.bits .and .i64 ((wrap64 (rd l0 2)) / 4) 3)) ∧ w'.cell? ⟨gb165, 4, none⟩ = some (.int .i64 (Go.bits .and .i64 ((wrap64 (rd l0 2)) / 16) 3)) ∧ w'.cell? ⟨gb165, 5, none⟩ = some (.bool (decide ((Go.bits .and .i64 (wrap64 (rd l0 2)) 2) > 0)))) (ds := []) #[false, false, false, false, false, false, false, false, false, false, false, false, false, false, false, false] (by kernel_rfl) rfl rfl ⟨(blk_cell BK165.out 0).trans rfl, (blk_cell BK165.out 1).trans rfl, (blk_cell BK165.out 2).trans rfl, (blk_cell BK165.out 3).trans rfl, (blk_cell BK165.out 4).trans rfl, (blk_cell BK165.out 5).trans rfl⟩ (fun hHeld => ?_); refine with_tabW impl_readHead.tab5 impl_readHead.bits5 (fun HT_ HW_ => ?_)
       generalize w58.drew = w59 at BK161 BK165 HB hHeld ⊢
       refine pu_ 1 40 HT_ ?_
       refine tk_ 0 39 HT_ HW_ hHeld ?_
       refine tk_ 2 41 HT_ HW_ hHeld ?_
       refine on_ 3 HT_ (fun K hK => ?_)
       refine gs_ Try.func155 #[.int .i64 (Go.bits .or .i64 (wrap64 ((wrap64 (rd l0 0)) * 256)) (wrap64 (rd l0 1)))] ?_
       with_reducible refine (impl_isNumber.calls (Go.bits .or .i64 (wrap64 ((wrap64 (rd l0 0)) * 256)) (wrap64 (rd l0 1))) false _ A11.out).mono ?_
       rintro e w' ⟨rfl, ⟨nd, rfl⟩⟩
       refine ⟨_, rfl, ?_⟩
       refine hK.out _ _ ⟨(blk_cell (blk_drewN BK165.out _) 0).trans rfl, (blk_cell (blk_drewN BK165.out _) 1).trans rfl, (blk_cell (blk_drewN BK165.out _) 2).trans rfl, (blk_cell (blk_drewN BK165.out _) 3).trans rfl, (blk_cell (blk_drewN BK165.out _) 4).trans rfl, (blk_cell (blk_drewN BK165.out _) 5).trans rfl⟩ (fun hHeld => ?_)
       clear hK K
       refine nm_ 42 ?_
       (repeat rw [World.drewN_drewN w59])
       rw [drewN_self w59]
       generalize hq_ : World.drewN w59 _ = wq
       replace BK161 := bkq BK161 hq_
       replace BK165 := bkq BK165 hq_
       replace HB := blq HB hq_
       clear hq_
       refine pu_ 4 43 HT_ ?_
       refine pure_ (i := 5) (N := some 44) (v := undef) (a' := ?_) #[true, true, true, true, true, true, false, false, false, false, false, false, false, false, false, false] rfl rfl (any_of HT_.out (by kernel_rfl)) (fun _ _ _ h => h) (Or.inr ⟨by rfl, rfl⟩) ?_ ?_
       rotate_left
       ·exact apr
       refine pure_ (i := 6) (N := some 45) (v := undef) (a' := ?_) #[true, true, true, true, true, true, true, false, false, false, false, false, false, false, false, false] rfl rfl (any_of HT_.out (by kernel_rfl)) (fun _ _ _ h => h) (Or.inr ⟨by rfl, rfl⟩) ?_ ?_
       rotate_left
       ·exact apr
       refine pure_ (i := 7) (N := some 46) (v := undef) (a' := ?_) #[true, true, true, true, true, true, true, true, false, false, false, false, false, false, false, false] rfl rfl (any_of HT_.out (by kernel_rfl)) (fun _ _ _ h => h) (Or.inr ⟨by rfl, rfl⟩) ?_ ?_
       rotate_left
       ·exact apr
       refine pu_ 8 47 HT_ ?_
       refine pu_ 9 48 HT_ ?_
       refine pure_ (i := 10) (N := some 49) (v := undef) (a' := ?_) #[true, true, true, true, true, true, true, true, true, true, true, false, false, false, false, false] rfl rfl (any_of HT_.out (by kernel_rfl)) (fun _ _ _ h => h) (Or.inr ⟨by rfl, rfl⟩) ?_ ?_
       rotate_left
       ·exact apr
       refine pure_ (i := 11) (N := some 50) (v := undef) (a' := ?_) #[true, true, true, true, true, true, true, true, true, true, true, true, false, false, false, false] rfl rfl (any_of HT_.out (by kernel_rfl)) (fun _ _ _ h => h) (Or.inr ⟨by rfl, rfl⟩) ?_ ?_
       rotate_left
       ·exact apr
       refine pure_ (i := 12) (N := some 51) (v := undef) (a' := ?_) #[true, true, true, true, true, true, true, true, true, true, true, true, true, false, false, false] rfl rfl (any_of HT_.out (by kernel_rfl)) (fun _ _ _ h => h) (Or.inr ⟨by rfl, rfl⟩) ?_ ?_
       rotate_left
       ·exact apr
       refine pu_ 13 52 HT_ ?_
       refine on_ 14 HT_ (fun K hK => ?_)
       have hs60 : wq.cell? ⟨gb161, 0, none⟩ = some (.int .i64 0) := (blk_cell BK161.out 0).trans rfl
       have hfs60 := blk_frozen BK161.out 0
       have hns60_1 := NB165_161.out
       have hms60_1 := NB161_165.out
       have hs61 : wq.cell? ⟨gb161, 1, none⟩ = some (.int .i64 0) := (blk_cell BK161.out 1).trans rfl
       have hfs61 := blk_frozen BK161.out 1
       have hns61_1 := NB165_161.out
       have hms61_1 := NB161_165.out
       have hs62 : wq.cell? ⟨gb161, 2, none⟩ = some (.int .i64 0) := (blk_cell BK161.out 2).trans rfl
       have hfs62 := blk_frozen BK161.out 2
       have hns62_1 := NB165_161.out
       have hms62_1 := NB161_165.out
       have hs63 : wq.cell? ⟨gb161, 3, none⟩ = some (.int .i64 0) := (blk_cell BK161.out 3).trans rfl
       have hfs63 := blk_frozen BK161.out 3
       have hns63_1 := NB165_161.out
       have hms63_1 := NB161_165.out
       have hs64 : wq.cell? ⟨gb161, 4, none⟩ = some (.int .i64 0) := (blk_cell BK161.out 4).trans rfl
       have hfs64 := blk_frozen BK161.out 4
       have hns64_1 := NB165_161.out
       have hms64_1 := NB161_165.out
       have hs65 : wq.cell? ⟨gb161, 5, none⟩ = some (.bool false) := (blk_cell BK161.out 5).trans rfl
       have hfs65 := blk_frozen BK161.out 5
       have hns65_1 := NB165_161.out
       have hms65_1 := NB161_165.out
       refine skip_ (w1 := ?_) (by rfl) rfl ?_ ?_
       rotate_left
       ·go_simp
        rfl
       refine hK.out _ _ ⟨((cell_far (p := ⟨gb161, _, none⟩) NB165_161.out _).trans (((cell_far (p := ⟨gb161, _, none⟩) NB165_161.out _).trans (((cell_far (p := ⟨gb161, _, none⟩) NB165_161.out _).trans (((cell_far (p := ⟨gb161, _, none⟩) NB165_161.out _).trans (((cell_far (p := ⟨gb161, _, none⟩) NB165_161.out _).trans (((cell_far (p := ⟨gb161, _, none⟩) NB165_161.out _).trans ((blk_cell BK165.out 0).trans rfl)))))))))))), ((cell_far (p := ⟨gb161, _, none⟩) NB165_161.out _).trans (((cell_far (p := ⟨gb161, _, none⟩) NB165_161.out _).trans (((cell_far (p := ⟨gb161, _, none⟩) NB165_161.out _).trans (((cell_far (p := ⟨gb161, _, none⟩) NB165_161.out _).trans (((cell_far (p := ⟨gb161, _, none⟩) NB165_161.out _).trans (((cell_far (p := ⟨gb161, _, none⟩) NB165_161.out _).trans ((blk_cell BK165.out 1).trans rfl)))))))))))), ((cell_far (p := ⟨gb161, _, none⟩) NB165_161.out _).trans (((cell_far (p := ⟨gb161, _, none⟩) NB165_161.out _).trans (((cell_far (p := ⟨gb161, _, none⟩) NB165_161.out _).trans (((cell_far (p := ⟨gb161, _, none⟩) NB165_161.out _).trans (((cell_far (p := ⟨gb161, _, none⟩) NB165_161.out _).trans (((cell_far (p := ⟨gb161, _, none⟩) NB165_161.out _).trans ((blk_cell BK165.out 2).trans rfl)))))))))))), ((cell_far (p := ⟨gb161, _, none⟩) NB165_161.out _).trans (((cell_far (p := ⟨gb161, _, none⟩) NB165_161.out _).trans (((cell_far (p := ⟨gb161, _, none⟩) NB165_161.out _).trans (((cell_far (p := ⟨gb161, _, none⟩) NB165_161.out _).trans (((cell_far (p := ⟨gb161, _, none⟩) NB165_161.out _).trans (((cell_far (p := ⟨gb161, _, none⟩) NB165_161.out _).trans ((blk_cell BK165.out 3).trans rfl)))))))))))), ((cell_far (p := ⟨gb161, _, none⟩) NB165_161.out _).trans (((cell_far (p := ⟨gb161, _, none⟩) NB165_161.out _).trans (((cell_far (p := ⟨gb161, _, none⟩) NB165_161.out _).trans (((cell_far (p := ⟨gb161, _, none⟩) NB165_161.out _).trans (((cell_far (p := ⟨gb161, _, none⟩) NB165_161.out _).trans (((cell_far (p := ⟨gb161, _, none⟩) NB165_161.out _).trans ((blk_cell BK165.out 4).trans rfl)))))))))))), ((cell_far (p := ⟨gb161, _, none⟩) NB165_161.out _).trans (((cell_far (p := ⟨gb161, _, none⟩) NB165_161.out _).trans (((cell_far (p := ⟨gb161, _, none⟩) NB165_161.out _).trans (((cell_far (p := ⟨gb161, _, none⟩) NB165_161.out _).trans (((cell_far (p := ⟨gb161, _, none⟩) NB165_161.out _).trans (((cell_far (p := ⟨gb161, _, none⟩) NB165_161.out _).trans ((blk_cell BK165.out 5).trans rfl))))))))))))⟩ (fun hHeld => ?_)
       clear hK K
       refine pu_ 15 3 HT_ ?_
       refine done_ (done_of HT_.out (by kernel_rfl)) ?_
       try go_wp2
       refine bodyPost_ret (results_ct rfl _ _ gb161 49 #[.int .i64 (Go.bits .or .i64 (wrap64 ((wrap64 (rd l0 0)) * 256)) (wrap64 (rd l0 1))), .int .i64 ji10, .int .i64 (Go.bits .and .i64 (wrap64 (rd l0 2)) 1), .int .i64 (Go.bits .and .i64 ((wrap64 (rd l0 2)) / 4) 3), .int .i64 (Go.bits .and .i64 ((wrap64 (rd l0 2)) / 16) 3), .bool (decide ((Go.bits .and .i64 (wrap64 (rd l0 2)) 2) > 0))] (0, 0) _ rfl (by (with_reducible repeat (first | refine blk_drewN ?_ _ | refine blk_drew ?_ | refine blk_alloc ?_ _)); refine blk_put (cs := #[.int .i64 (Go.bits .or .i64 (wrap64 ((wrap64 (rd l0 0)) * 256)) (wrap64 (rd l0 1))), .int .i64 ji10, .int .i64 (Go.bits .and .i64 (wrap64 (rd l0 2)) 1), .int .i64 (Go.bits .and .i64 ((wrap64 (rd l0 2)) / 4) 3), .int .i64 (Go.bits .and .i64 ((wrap64 (rd l0 2)) / 16) 3), .bool false]) ?_ 5 _ rfl; refine blk_put (cs := #[.int .i64 (Go.bits .or .i64 (wrap64 ((wrap64 (rd l0 0)) * 256)) (wrap64 (rd l0 1))), .int .i64 ji10, .int .i64 (Go.bits .and .i64 (wrap64 (rd l0 2)) 1), .int .i64 (Go.bits .and .i64 ((wrap64 (rd l0 2)) / 4) 3), .int .i64 0, .bool false]) ?_ 4 _ rfl; refine blk_put (cs := #[.int .i64 (Go.bits .or .i64 (wrap64 ((wrap64 (rd l0 0)) * 256)) (wrap64 (rd l0 1))), .int .i64 ji10, .int .i64 (Go.bits .and .i64 (wrap64 (rd l0 2)) 1), .int .i64 0, .int .i64 0, .bool false]) ?_ 3 _ rfl; refine blk_put (cs := #[.int .i64 (Go.bits .or .i64 (wrap64 ((wrap64 (rd l0 0)) * 256)) (wrap64 (rd l0 1))), .int .i64 ji10, .int .i64 0, .int .i64 0, .int .i64 0, .bool false]) ?_ 2 _ rfl; refine blk_put (cs := #[.int .i64 (Go.bits .or .i64 (wrap64 ((wrap64 (rd l0 0)) * 256)) (wrap64 (rd l0 1))), .int .i64 0, .int .i64 0, .int .i64 0, .int .i64 0, .bool false]) ?_ 1 _ rfl; refine blk_put (cs := #[.int .i64 0, .int .i64 0, .int .i64 0, .int .i64 0, .int .i64 0, .bool false]) ?_ 0 _ rfl; exact bpl BK161.out) Try.underlying49 rfl (by kernel_rfl)) rfl ?_
       exact ⟨by first | rfl | (simp [errW_none, errW_some] <;> rfl) | (simp only [← hji8, ← hji10]; first | rfl | (simp [errW_none, errW_some] <;> rfl)) | (simp [*, errW_none, errW_some] <;> rfl), bnx⟩
     ·rw [if_neg c9] at H
      exact absurd H (by simp)
    ·rw [if_neg c7] at H
     exact absurd H (by simp)
   ·rw [if_neg c6] at H
    exact absurd H (by simp)
  ·rw [if_neg c5] at H
   exact absurd H (by simp)

end Go.Proofs.Ytoepnammegcjeaa.PFnExactReadHead
