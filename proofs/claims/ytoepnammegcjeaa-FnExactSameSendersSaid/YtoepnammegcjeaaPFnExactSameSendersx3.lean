-- Contracts of the functions that the law reaches, written by wip/xprint.py of this repo.
import Derived.Test.YtoepnammegcjeaaPFnExactSameSendersx0
import Derived.Test.YtoepnammegcjeaaPFnExactSameSendersx1
import Derived.Test.YtoepnammegcjeaaPFnExactSameSendersx2
namespace Go.Proofs.Ytoepnammegcjeaa.PFnExactSameSenders
open Go.RowKit Go.Proofs.YtoepnammegcjeaaW.PrintWords Go.Proofs.YtoepnammegcjeaaW.PrintLast Go.Proofs.YtoepnammegcjeaaW.PrintMore
attribute [local go_sem] max2_int min2_int max_two min_two max_three min_three max_four min_four   -- for this text's walks alone
set_option linter.unusedVariables false
set_option linter.unusedSimpArgs false

/-! ### laws_eqSender: function 64 -/
def laws_eqSender.f (k : Nat) (a0_0 : Int) (a0_1 : Int) (a0_2 : Int) (a0_3 : Int) (a0_4 : Int) (l0_5 : List Int) (l0_6 : List Int) (a0_7 : Bool) (a0_8 : Int) (a0_9 : Int) (l0_10 : List Int) (a0_11 : Bool) (a0_12 : Int) (a0_13 : Int) (l0_14 : List Int) (a0_15 : Int) (a0_16 : Int) (a1_0 : Int) (a1_1 : Int) (a1_2 : Int) (a1_3 : Int) (a1_4 : Int) (l1_5 : List Int) (l1_6 : List Int) (a1_7 : Bool) (a1_8 : Int) (a1_9 : Int) (l1_10 : List Int) (a1_11 : Bool) (a1_12 : Int) (a1_13 : Int) (l1_14 : List Int) (a1_15 : Int) (a1_16 : Int) : Option (Bool) := if a0_0 = a1_0 then (if a0_1 = a1_1 then (if a0_2 = a1_2 then (if a0_3 = a1_3 then ((laws_eqLap.f k a0_4 l0_5 l0_6 a1_4 l1_5 l1_6).bind fun t191 => (if t191 = true then ((laws_eqAnchor.f k a0_7 a0_8 a0_9 l0_10 a1_7 a1_8 a1_9 l1_10).bind fun t192 => (if t192 = true then ((laws_eqAnchor.f k a0_11 a0_12 a0_13 l0_14 a1_11 a1_12 a1_13 l1_14).bind fun t193 => (if t193 = true then (if a0_15 = a1_15 then (if a0_16 = a1_16 then (some true) else (none)) else (none)) else (none))) else (none))) else (none))) else (none)) else (none)) else (none)) else (none)
theorem laws_eqSender.mono : ∀ a0 a1 a2 a3 a4 a5 a6 a7 a8 a9 a10 a11 a12 a13 a14 a15 a16 a17 a18 a19 a20 a21 a22 a23 a24 a25 a26 a27 a28 a29 a30 a31 a32 a33 k, LeO (laws_eqSender.f k a0 a1 a2 a3 a4 a5 a6 a7 a8 a9 a10 a11 a12 a13 a14 a15 a16 a17 a18 a19 a20 a21 a22 a23 a24 a25 a26 a27 a28 a29 a30 a31 a32 a33) (laws_eqSender.f (k + 1) a0 a1 a2 a3 a4 a5 a6 a7 a8 a9 a10 a11 a12 a13 a14 a15 a16 a17 a18 a19 a20 a21 a22 a23 a24 a25 a26 a27 a28 a29 a30 a31 a32 a33) := by
 intro a0 a1 a2 a3 a4 a5 a6 a7 a8 a9 a10 a11 a12 a13 a14 a15 a16 a17 a18 a19 a20 a21 a22 a23 a24 a25 a26 a27 a28 a29 a30 a31 a32 a33 k
 unfold laws_eqSender.f
 repeat' first
   | (with_reducible exact laws_eqAnchor.mono _ _ _ _ _ _ _ _ _)
   | (with_reducible exact laws_eqLap.mono _ _ _ _ _ _ _)
   | (with_reducible exact LeO.refl _)
   | (with_reducible exact LeO.none _)
   | (with_reducible refine LeO.ite ?_ ?_)
   | (with_reducible refine LeO.bind ?_ (fun _ => ?_))
   | exact laws_eqAnchor.mono _ _ _ _ _ _ _ _ _
   | exact laws_eqLap.mono _ _ _ _ _ _ _
   | exact LeO.none _
   | refine LeO.ite ?_ ?_
   | refine LeO.bind ?_ (fun _ => ?_)
set_option maxHeartbeats 8000000 in
set_option maxRecDepth 100000 in
theorem laws_eqSender.calls (k : Nat) (a0_0 : Int) (a0_1 : Int) (a0_2 : Int) (a0_3 : Int) (a0_4 : Int) (A0_5 : Option Addr) (c0_5 : Nat) (l0_5 : List Int) (A0_6 : Option Addr) (c0_6 : Nat) (l0_6 : List Int) (a0_7 : Bool) (a0_8 : Int) (a0_9 : Int) (A0_10 : Option Addr) (c0_10 : Nat) (l0_10 : List Int) (a0_11 : Bool) (a0_12 : Int) (a0_13 : Int) (A0_14 : Option Addr) (c0_14 : Nat) (l0_14 : List Int) (a0_15 : Int) (a0_16 : Int) (a1_0 : Int) (a1_1 : Int) (a1_2 : Int) (a1_3 : Int) (a1_4 : Int) (A1_5 : Option Addr) (c1_5 : Nat) (l1_5 : List Int) (A1_6 : Option Addr) (c1_6 : Nat) (l1_6 : List Int) (a1_7 : Bool) (a1_8 : Int) (a1_9 : Int) (A1_10 : Option Addr) (c1_10 : Nat) (l1_10 : List Int) (a1_11 : Bool) (a1_12 : Int) (a1_13 : Int) (A1_14 : Option Addr) (c1_14 : Nat) (l1_14 : List Int) (a1_15 : Int) (a1_16 : Int) (r : Bool) (w : World) (hr0_5 : Kd.C (Kd.int .i64) w A0_5 l0_5.length l0_5) (hc0_5 : l0_5.length ≤ c0_5) (hr0_6 : Kd.C (Kd.int .i64) w A0_6 l0_6.length l0_6) (hc0_6 : l0_6.length ≤ c0_6) (hr0_10 : Kd.C (Kd.int .i64) w A0_10 l0_10.length l0_10) (hc0_10 : l0_10.length ≤ c0_10) (hr0_14 : Kd.C (Kd.int .i64) w A0_14 l0_14.length l0_14) (hc0_14 : l0_14.length ≤ c0_14) (hr1_5 : Kd.C (Kd.int .i64) w A1_5 l1_5.length l1_5) (hc1_5 : l1_5.length ≤ c1_5) (hr1_6 : Kd.C (Kd.int .i64) w A1_6 l1_6.length l1_6) (hc1_6 : l1_6.length ≤ c1_6) (hr1_10 : Kd.C (Kd.int .i64) w A1_10 l1_10.length l1_10) (hc1_10 : l1_10.length ≤ c1_10) (hr1_14 : Kd.C (Kd.int .i64) w A1_14 l1_14.length l1_14) (hc1_14 : l1_14.length ≤ c1_14) (h : laws_eqSender.f k a0_0 a0_1 a0_2 a0_3 a0_4 l0_5 l0_6 a0_7 a0_8 a0_9 l0_10 a0_11 a0_12 a0_13 l0_14 a0_15 a0_16 a1_0 a1_1 a1_2 a1_3 a1_4 l1_5 l1_6 a1_7 a1_8 a1_9 l1_10 a1_11 a1_12 a1_13 l1_14 a1_15 a1_16 = some r) :
  Calls Try.prog 64 #[.agg #[.int .i64 a0_0, .int .i64 a0_1, .int .i64 a0_2, .int .i64 a0_3, .int .i64 a0_4, .slice A0_5 l0_5.length c0_5, .slice A0_6 l0_6.length c0_6, .bool a0_7, .int .i64 a0_8, .int .i64 a0_9, .slice A0_10 l0_10.length c0_10, .bool a0_11, .int .i64 a0_12, .int .i64 a0_13, .slice A0_14 l0_14.length c0_14, .int .i64 a0_15, .int .i64 a0_16], .agg #[.int .i64 a1_0, .int .i64 a1_1, .int .i64 a1_2, .int .i64 a1_3, .int .i64 a1_4, .slice A1_5 l1_5.length c1_5, .slice A1_6 l1_6.length c1_6, .bool a1_7, .int .i64 a1_8, .int .i64 a1_9, .slice A1_10 l1_10.length c1_10, .bool a1_11, .int .i64 a1_12, .int .i64 a1_13, .slice A1_14 l1_14.length c1_14, .int .i64 a1_15, .int .i64 a1_16]] w fun e w' => e = .returned (.bool r) ∧ Below w.heap.size w w' := by
 have hu87 := Try.underlying87
 have hu84 := Try.underlying84
 have hu85 := Try.underlying85
 have HR0_5 := Aside0.mk hr0_5
 have HC0_5 := Aside0.mk hc0_5
 clear hr0_5 hc0_5
 have HR0_6 := Aside0.mk hr0_6
 have HC0_6 := Aside0.mk hc0_6
 clear hr0_6 hc0_6
 have HR0_10 := Aside0.mk hr0_10
 have HC0_10 := Aside0.mk hc0_10
 clear hr0_10 hc0_10
 have HR0_14 := Aside0.mk hr0_14
 have HC0_14 := Aside0.mk hc0_14
 clear hr0_14 hc0_14
 have HR1_5 := Aside0.mk hr1_5
 have HC1_5 := Aside0.mk hc1_5
 clear hr1_5 hc1_5
 have HR1_6 := Aside0.mk hr1_6
 have HC1_6 := Aside0.mk hc1_6
 clear hr1_6 hc1_6
 have HR1_10 := Aside0.mk hr1_10
 have HC1_10 := Aside0.mk hc1_10
 clear hr1_10 hc1_10
 have HR1_14 := Aside0.mk hr1_14
 have HC1_14 := Aside0.mk hc1_14
 clear hr1_14 hc1_14
 have HB := Aside0.mk (Below.refl w.heap.size w)
 have H : (if a0_0 = a1_0 then (if a0_1 = a1_1 then (if a0_2 = a1_2 then (if a0_3 = a1_3 then ((laws_eqLap.f k a0_4 l0_5 l0_6 a1_4 l1_5 l1_6).bind fun t191 => (if t191 = true then ((laws_eqAnchor.f k a0_7 a0_8 a0_9 l0_10 a1_7 a1_8 a1_9 l1_10).bind fun t192 => (if t192 = true then ((laws_eqAnchor.f k a0_11 a0_12 a0_13 l0_14 a1_11 a1_12 a1_13 l1_14).bind fun t193 => (if t193 = true then (if a0_15 = a1_15 then (if a0_16 = a1_16 then (some true) else (none)) else (none)) else (none))) else (none))) else (none))) else (none)) else (none)) else (none)) else (none)) = some r := h
 clear h
 by_cases c3 : a0_0 = a1_0
 ·rw [if_pos c3] at H
  have c3b0 : (a0_0 == a1_0) = true := beq_iff_eq.mpr c3
  have c3b1 : (a0_0 != a1_0) = false := bne_eq_false_iff_eq.mpr c3
  clear c3
  by_cases c4 : a0_1 = a1_1
  ·rw [if_pos c4] at H
   have c4b0 : (a0_1 == a1_1) = true := beq_iff_eq.mpr c4
   have c4b1 : (a0_1 != a1_1) = false := bne_eq_false_iff_eq.mpr c4
   clear c4
   by_cases c5 : a0_2 = a1_2
   ·rw [if_pos c5] at H
    have c5b0 : (a0_2 == a1_2) = true := beq_iff_eq.mpr c5
    have c5b1 : (a0_2 != a1_2) = false := bne_eq_false_iff_eq.mpr c5
    clear c5
    by_cases c6 : a0_3 = a1_3
    ·rw [if_pos c6] at H
     have c6b0 : (a0_3 == a1_3) = true := beq_iff_eq.mpr c6
     have c6b1 : (a0_3 != a1_3) = false := bne_eq_false_iff_eq.mpr c6
     clear c6
     replace H := Option.bind_eq_some_iff.mp H
     obtain ⟨t191, A70, H⟩ := H
     have A7 := Aside0.mk A70
     clear A70
     by_cases c8 : t191 = true
     ·subst c8
      replace H : ((laws_eqAnchor.f k a0_7 a0_8 a0_9 l0_10 a1_7 a1_8 a1_9 l1_10).bind fun t192 => (if t192 = true then ((laws_eqAnchor.f k a0_11 a0_12 a0_13 l0_14 a1_11 a1_12 a1_13 l1_14).bind fun t193 => (if t193 = true then (if a0_15 = a1_15 then (if a0_16 = a1_16 then (some true) else (none)) else (none)) else (none))) else (none))) = some r := by rw [if_pos rfl] at H; exact H
      replace H := Option.bind_eq_some_iff.mp H
      obtain ⟨t192, A90, H⟩ := H
      have A9 := Aside0.mk A90
      clear A90
      by_cases c10 : t192 = true
      ·subst c10
       replace H : ((laws_eqAnchor.f k a0_11 a0_12 a0_13 l0_14 a1_11 a1_12 a1_13 l1_14).bind fun t193 => (if t193 = true then (if a0_15 = a1_15 then (if a0_16 = a1_16 then (some true) else (none)) else (none)) else (none))) = some r := by rw [if_pos rfl] at H; exact H
       replace H := Option.bind_eq_some_iff.mp H
       obtain ⟨t193, A110, H⟩ := H
       have A11 := Aside0.mk A110
       clear A110
       by_cases c12 : t193 = true
       ·subst c12
        replace H : (if a0_15 = a1_15 then (if a0_16 = a1_16 then (some true) else (none)) else (none)) = some r := by rw [if_pos rfl] at H; exact H
        by_cases c13 : a0_15 = a1_15
        ·rw [if_pos c13] at H
         have c13b0 : (a0_15 == a1_15) = true := beq_iff_eq.mpr c13
         have c13b1 : (a0_15 != a1_15) = false := bne_eq_false_iff_eq.mpr c13
         clear c13
         by_cases c14 : a0_16 = a1_16
         ·rw [if_pos c14] at H
          have c14b0 : (a0_16 == a1_16) = true := beq_iff_eq.mpr c14
          have c14b1 : (a0_16 != a1_16) = false := bne_eq_false_iff_eq.mpr c14
          clear c14
          obtain rfl := Option.some.inj H
          go_enter Try.func64, Try.ntmps64
          go_wp2_with (first | ((with_reducible refine gate_dst (N := 2) rfl ?_); refine box_event ?hg (N := 2) ?hd (cs := #[.int .i64 a0_0, .int .i64 a0_1, .int .i64 a0_2, .int .i64 a0_3, .int .i64 a0_4, .slice A0_5 l0_5.length c0_5, .slice A0_6 l0_6.length c0_6, .bool a0_7, .int .i64 a0_8, .int .i64 a0_9, .slice A0_10 l0_10.length c0_10, .bool a0_11, .int .i64 a0_12, .int .i64 a0_13, .slice A0_14 l0_14.length c0_14, .int .i64 a0_15, .int .i64 a0_16]) (t := 87) ?hr ?_; (case hd => rfl); (case hg => rfl); (case hr => first | (go_simp; done) | (go_simp; rfl)); intro gb189 hg w15 hbox hb; have n0_ := Aside0.mk (below_step bnw hb); have n1_ := Aside0.mk (hbox); have n2_ := Aside0.mk ((by rw [hg]; exact (below_size bnw) : w.heap.size ≤ gb189)); have n3_ := Aside0.mk ((by rw [hg]; exact (below_size bnw) : w.heap.size ≤ gb189)); clear HB; have HB := n0_; have BK189 := n1_; have GW189 := n2_; have GE189 := n3_; clear n0_ n1_ n2_ n3_; clear hb hbox hg) | ((with_reducible refine gate_dst (N := 3) rfl ?_); refine box_event ?hg (N := 3) ?hd (cs := #[.int .i64 a1_0, .int .i64 a1_1, .int .i64 a1_2, .int .i64 a1_3, .int .i64 a1_4, .slice A1_5 l1_5.length c1_5, .slice A1_6 l1_6.length c1_6, .bool a1_7, .int .i64 a1_8, .int .i64 a1_9, .slice A1_10 l1_10.length c1_10, .bool a1_11, .int .i64 a1_12, .int .i64 a1_13, .slice A1_14 l1_14.length c1_14, .int .i64 a1_15, .int .i64 a1_16]) (t := 87) ?hr ?_; (case hd => rfl); (case hg => rfl); (case hr => first | (go_simp; done) | (go_simp; rfl)); intro gb190 hg w16 hbox hb; have n0_ := Aside0.mk (blk_below (bpl BK189.out) hb); have n1_ := Aside0.mk (below_step bnx hb); have n2_ := Aside0.mk (hbox); have n3_ := Aside0.mk ((by rw [hg]; exact (below_size bnx) : w.heap.size ≤ gb190)); have n4_ := Aside0.mk ((by rw [hg]; exact (below_size bnx) : w.heap.size ≤ gb190)); have n5_ := Aside0.mk ((by rw [hg]; exact Nat.ne_of_lt (blk_lt (bpl BK189.out)) : gb189 ≠ gb190)); have n6_ := Aside0.mk ((by rw [hg]; exact Nat.ne_of_gt (blk_lt (bpl BK189.out)) : gb190 ≠ gb189)); clear BK189; clear HB; have BK189 := n0_; have HB := n1_; have BK190 := n2_; have GW190 := n3_; have GE190 := n4_; have NB189_190 := n5_; have NB190_189 := n6_; clear n0_ n1_ n2_ n3_ n4_ n5_ n6_; clear hb hbox hg; have hnb17 := NB189_190.out; have hnc17 := NB190_189.out; have hcz18_0 : w16.cell? _ = _ := bcl BK189.out 0 rfl; have hcz18_1 : w16.cell? _ = _ := bcl BK189.out 1 rfl; have hcz18_2 : w16.cell? _ = _ := bcl BK189.out 2 rfl; have hcz18_3 : w16.cell? _ = _ := bcl BK189.out 3 rfl; have hcz18_4 : w16.cell? _ = _ := bcl BK189.out 4 rfl; have hcz18_5 : w16.cell? _ = _ := bcl BK189.out 5 rfl; have hcz18_6 : w16.cell? _ = _ := bcl BK189.out 6 rfl; have hcz18_7 : w16.cell? _ = _ := bcl BK189.out 7 rfl; have hcz18_8 : w16.cell? _ = _ := bcl BK189.out 8 rfl; have hcz18_9 : w16.cell? _ = _ := bcl BK189.out 9 rfl; have hcz18_10 : w16.cell? _ = _ := bcl BK189.out 10 rfl; have hcz18_11 : w16.cell? _ = _ := bcl BK189.out 11 rfl; have hcz18_12 : w16.cell? _ = _ := bcl BK189.out 12 rfl; have hcz18_13 : w16.cell? _ = _ := bcl BK189.out 13 rfl; have hcz18_14 : w16.cell? _ = _ := bcl BK189.out 14 rfl; have hcz18_15 : w16.cell? _ = _ := bcl BK189.out 15 rfl; have hcz18_16 : w16.cell? _ = _ := bcl BK189.out 16 rfl; have hfz18_0 := blk_frozen BK189.out 0; have hfz18_1 := blk_frozen BK189.out 1; have hfz18_2 := blk_frozen BK189.out 2; have hfz18_3 := blk_frozen BK189.out 3; have hfz18_4 := blk_frozen BK189.out 4; have hfz18_5 := blk_frozen BK189.out 5; have hfz18_6 := blk_frozen BK189.out 6; have hfz18_7 := blk_frozen BK189.out 7; have hfz18_8 := blk_frozen BK189.out 8; have hfz18_9 := blk_frozen BK189.out 9; have hfz18_10 := blk_frozen BK189.out 10; have hfz18_11 := blk_frozen BK189.out 11; have hfz18_12 := blk_frozen BK189.out 12; have hfz18_13 := blk_frozen BK189.out 13; have hfz18_14 := blk_frozen BK189.out 14; have hfz18_15 := blk_frozen BK189.out 15; have hfz18_16 := blk_frozen BK189.out 16; have hcz19_0 : w16.cell? _ = _ := bcl BK190.out 0 rfl; have hcz19_1 : w16.cell? _ = _ := bcl BK190.out 1 rfl; have hcz19_2 : w16.cell? _ = _ := bcl BK190.out 2 rfl; have hcz19_3 : w16.cell? _ = _ := bcl BK190.out 3 rfl; have hcz19_4 : w16.cell? _ = _ := bcl BK190.out 4 rfl; have hcz19_5 : w16.cell? _ = _ := bcl BK190.out 5 rfl; have hcz19_6 : w16.cell? _ = _ := bcl BK190.out 6 rfl; have hcz19_7 : w16.cell? _ = _ := bcl BK190.out 7 rfl; have hcz19_8 : w16.cell? _ = _ := bcl BK190.out 8 rfl; have hcz19_9 : w16.cell? _ = _ := bcl BK190.out 9 rfl; have hcz19_10 : w16.cell? _ = _ := bcl BK190.out 10 rfl; have hcz19_11 : w16.cell? _ = _ := bcl BK190.out 11 rfl; have hcz19_12 : w16.cell? _ = _ := bcl BK190.out 12 rfl; have hcz19_13 : w16.cell? _ = _ := bcl BK190.out 13 rfl; have hcz19_14 : w16.cell? _ = _ := bcl BK190.out 14 rfl; have hcz19_15 : w16.cell? _ = _ := bcl BK190.out 15 rfl; have hcz19_16 : w16.cell? _ = _ := bcl BK190.out 16 rfl; have hfz19_0 := blk_frozen BK190.out 0; have hfz19_1 := blk_frozen BK190.out 1; have hfz19_2 := blk_frozen BK190.out 2; have hfz19_3 := blk_frozen BK190.out 3; have hfz19_4 := blk_frozen BK190.out 4; have hfz19_5 := blk_frozen BK190.out 5; have hfz19_6 := blk_frozen BK190.out 6; have hfz19_7 := blk_frozen BK190.out 7; have hfz19_8 := blk_frozen BK190.out 8; have hfz19_9 := blk_frozen BK190.out 9; have hfz19_10 := blk_frozen BK190.out 10; have hfz19_11 := blk_frozen BK190.out 11; have hfz19_12 := blk_frozen BK190.out 12; have hfz19_13 := blk_frozen BK190.out 13; have hfz19_14 := blk_frozen BK190.out 14; have hfz19_15 := blk_frozen BK190.out 15; have hfz19_16 := blk_frozen BK190.out 16) | ((with_reducible refine gate_callee (f := 131) rfl ?_); refine goesL_ (some 29) rfl rfl Try.func131 (by kernel_rfl) rfl #[.agg #[.int .i64 a0_4, .slice A0_5 l0_5.length c0_5, .slice A0_6 l0_6.length c0_6], .agg #[.int .i64 a1_4, .slice A1_5 l1_5.length c1_5, .slice A1_6 l1_6.length c1_6]] rfl arq ?_; (with_reducible refine (laws_eqLap.calls k a0_4 _ _ l0_5 _ _ l0_6 a1_4 _ _ l1_5 _ _ l1_6 true _ ?side1 ?side2 ?side3 ?side4 ?side5 ?side6 ?side7 ?side8 A7.out).mono ?_); (case side1 => exact cpl HR0_5.out); (case side2 => exact HC0_5.out); (case side3 => exact cpl HR0_6.out); (case side4 => exact HC0_6.out); (case side5 => exact cpl HR1_5.out); (case side6 => exact HC1_5.out); (case side7 => exact cpl HR1_6.out); (case side8 => exact HC1_6.out); rintro e w20 ⟨rfl, hb⟩; refine ⟨_, rfl, ?_⟩; have n0_ := Aside0.mk (blk_below (bpl BK189.out) hb); have n1_ := Aside0.mk (blk_below (bpl BK190.out) hb); have n2_ := Aside0.mk (below_step bnx hb); clear BK189; clear BK190; clear HB; have BK189 := n0_; have BK190 := n1_; have HB := n2_; clear n0_ n1_ n2_; (try clear hb); (try clear hb2); (try clear hk); (try clear hi); have hcz21_0 : w20.cell? _ = _ := bcl BK189.out 0 rfl; have hcz21_1 : w20.cell? _ = _ := bcl BK189.out 1 rfl; have hcz21_2 : w20.cell? _ = _ := bcl BK189.out 2 rfl; have hcz21_3 : w20.cell? _ = _ := bcl BK189.out 3 rfl; have hcz21_4 : w20.cell? _ = _ := bcl BK189.out 4 rfl; have hcz21_5 : w20.cell? _ = _ := bcl BK189.out 5 rfl; have hcz21_6 : w20.cell? _ = _ := bcl BK189.out 6 rfl; have hcz21_7 : w20.cell? _ = _ := bcl BK189.out 7 rfl; have hcz21_8 : w20.cell? _ = _ := bcl BK189.out 8 rfl; have hcz21_9 : w20.cell? _ = _ := bcl BK189.out 9 rfl; have hcz21_10 : w20.cell? _ = _ := bcl BK189.out 10 rfl; have hcz21_11 : w20.cell? _ = _ := bcl BK189.out 11 rfl; have hcz21_12 : w20.cell? _ = _ := bcl BK189.out 12 rfl; have hcz21_13 : w20.cell? _ = _ := bcl BK189.out 13 rfl; have hcz21_14 : w20.cell? _ = _ := bcl BK189.out 14 rfl; have hcz21_15 : w20.cell? _ = _ := bcl BK189.out 15 rfl; have hcz21_16 : w20.cell? _ = _ := bcl BK189.out 16 rfl; have hfz21_0 := blk_frozen BK189.out 0; have hfz21_1 := blk_frozen BK189.out 1; have hfz21_2 := blk_frozen BK189.out 2; have hfz21_3 := blk_frozen BK189.out 3; have hfz21_4 := blk_frozen BK189.out 4; have hfz21_5 := blk_frozen BK189.out 5; have hfz21_6 := blk_frozen BK189.out 6; have hfz21_7 := blk_frozen BK189.out 7; have hfz21_8 := blk_frozen BK189.out 8; have hfz21_9 := blk_frozen BK189.out 9; have hfz21_10 := blk_frozen BK189.out 10; have hfz21_11 := blk_frozen BK189.out 11; have hfz21_12 := blk_frozen BK189.out 12; have hfz21_13 := blk_frozen BK189.out 13; have hfz21_14 := blk_frozen BK189.out 14; have hfz21_15 := blk_frozen BK189.out 15; have hfz21_16 := blk_frozen BK189.out 16; have hcz22_0 : w20.cell? _ = _ := bcl BK190.out 0 rfl; have hcz22_1 : w20.cell? _ = _ := bcl BK190.out 1 rfl; have hcz22_2 : w20.cell? _ = _ := bcl BK190.out 2 rfl; have hcz22_3 : w20.cell? _ = _ := bcl BK190.out 3 rfl; have hcz22_4 : w20.cell? _ = _ := bcl BK190.out 4 rfl; have hcz22_5 : w20.cell? _ = _ := bcl BK190.out 5 rfl; have hcz22_6 : w20.cell? _ = _ := bcl BK190.out 6 rfl; have hcz22_7 : w20.cell? _ = _ := bcl BK190.out 7 rfl; have hcz22_8 : w20.cell? _ = _ := bcl BK190.out 8 rfl; have hcz22_9 : w20.cell? _ = _ := bcl BK190.out 9 rfl; have hcz22_10 : w20.cell? _ = _ := bcl BK190.out 10 rfl; have hcz22_11 : w20.cell? _ = _ := bcl BK190.out 11 rfl; have hcz22_12 : w20.cell? _ = _ := bcl BK190.out 12 rfl; have hcz22_13 : w20.cell? _ = _ := bcl BK190.out 13 rfl; have hcz22_14 : w20.cell? _ = _ := bcl BK190.out 14 rfl; have hcz22_15 : w20.cell? _ = _ := bcl BK190.out 15 rfl; have hcz22_16 : w20.cell? _ = _ := bcl BK190.out 16 rfl; have hfz22_0 := blk_frozen BK190.out 0; have hfz22_1 := blk_frozen BK190.out 1; have hfz22_2 := blk_frozen BK190.out 2; have hfz22_3 := blk_frozen BK190.out 3; have hfz22_4 := blk_frozen BK190.out 4; have hfz22_5 := blk_frozen BK190.out 5; have hfz22_6 := blk_frozen BK190.out 6; have hfz22_7 := blk_frozen BK190.out 7; have hfz22_8 := blk_frozen BK190.out 8; have hfz22_9 := blk_frozen BK190.out 9; have hfz22_10 := blk_frozen BK190.out 10; have hfz22_11 := blk_frozen BK190.out 11; have hfz22_12 := blk_frozen BK190.out 12; have hfz22_13 := blk_frozen BK190.out 13; have hfz22_14 := blk_frozen BK190.out 14; have hfz22_15 := blk_frozen BK190.out 15; have hfz22_16 := blk_frozen BK190.out 16) | ((with_reducible refine gate_callee (f := 132) rfl ?_); refine goesL_ (some 35) rfl rfl Try.func132 (by kernel_rfl) rfl #[.agg #[.bool a0_7, .int .i64 a0_8, .int .i64 a0_9, .slice A0_10 l0_10.length c0_10], .agg #[.bool a1_7, .int .i64 a1_8, .int .i64 a1_9, .slice A1_10 l1_10.length c1_10]] rfl arq ?_; (with_reducible refine (laws_eqAnchor.calls k a0_7 a0_8 a0_9 _ _ l0_10 a1_7 a1_8 a1_9 _ _ l1_10 true _ ?side1 ?side2 ?side3 ?side4 A9.out).mono ?_); (case side1 => exact cpl HR0_10.out); (case side2 => exact HC0_10.out); (case side3 => exact cpl HR1_10.out); (case side4 => exact HC1_10.out); rintro e w23 ⟨rfl, hb⟩; refine ⟨_, rfl, ?_⟩; have n0_ := Aside0.mk (blk_below (bpl BK189.out) hb); have n1_ := Aside0.mk (blk_below (bpl BK190.out) hb); have n2_ := Aside0.mk (below_step bnx hb); clear BK189; clear BK190; clear HB; have BK189 := n0_; have BK190 := n1_; have HB := n2_; clear n0_ n1_ n2_; (try clear hb); (try clear hb2); (try clear hk); (try clear hi); have hcz24_0 : w23.cell? _ = _ := bcl BK189.out 0 rfl; have hcz24_1 : w23.cell? _ = _ := bcl BK189.out 1 rfl; have hcz24_2 : w23.cell? _ = _ := bcl BK189.out 2 rfl; have hcz24_3 : w23.cell? _ = _ := bcl BK189.out 3 rfl; have hcz24_4 : w23.cell? _ = _ := bcl BK189.out 4 rfl; have hcz24_5 : w23.cell? _ = _ := bcl BK189.out 5 rfl; have hcz24_6 : w23.cell? _ = _ := bcl BK189.out 6 rfl; have hcz24_7 : w23.cell? _ = _ := bcl BK189.out 7 rfl; have hcz24_8 : w23.cell? _ = _ := bcl BK189.out 8 rfl; have hcz24_9 : w23.cell? _ = _ := bcl BK189.out 9 rfl; have hcz24_10 : w23.cell? _ = _ := bcl BK189.out 10 rfl; have hcz24_11 : w23.cell? _ = _ := bcl BK189.out 11 rfl; have hcz24_12 : w23.cell? _ = _ := bcl BK189.out 12 rfl; have hcz24_13 : w23.cell? _ = _ := bcl BK189.out 13 rfl; have hcz24_14 : w23.cell? _ = _ := bcl BK189.out 14 rfl; have hcz24_15 : w23.cell? _ = _ := bcl BK189.out 15 rfl; have hcz24_16 : w23.cell? _ = _ := bcl BK189.out 16 rfl; have hfz24_0 := blk_frozen BK189.out 0; have hfz24_1 := blk_frozen BK189.out 1; have hfz24_2 := blk_frozen BK189.out 2; have hfz24_3 := blk_frozen BK189.out 3; have hfz24_4 := blk_frozen BK189.out 4; have hfz24_5 := blk_frozen BK189.out 5; have hfz24_6 := blk_frozen BK189.out 6; have hfz24_7 := blk_frozen BK189.out 7; have hfz24_8 := blk_frozen BK189.out 8; have hfz24_9 := blk_frozen BK189.out 9; have hfz24_10 := blk_frozen BK189.out 10; have hfz24_11 := blk_frozen BK189.out 11; have hfz24_12 := blk_frozen BK189.out 12; have hfz24_13 := blk_frozen BK189.out 13; have hfz24_14 := blk_frozen BK189.out 14; have hfz24_15 := blk_frozen BK189.out 15; have hfz24_16 := blk_frozen BK189.out 16; have hcz25_0 : w23.cell? _ = _ := bcl BK190.out 0 rfl; have hcz25_1 : w23.cell? _ = _ := bcl BK190.out 1 rfl; have hcz25_2 : w23.cell? _ = _ := bcl BK190.out 2 rfl; have hcz25_3 : w23.cell? _ = _ := bcl BK190.out 3 rfl; have hcz25_4 : w23.cell? _ = _ := bcl BK190.out 4 rfl; have hcz25_5 : w23.cell? _ = _ := bcl BK190.out 5 rfl; have hcz25_6 : w23.cell? _ = _ := bcl BK190.out 6 rfl; have hcz25_7 : w23.cell? _ = _ := bcl BK190.out 7 rfl; have hcz25_8 : w23.cell? _ = _ := bcl BK190.out 8 rfl; have hcz25_9 : w23.cell? _ = _ := bcl BK190.out 9 rfl; have hcz25_10 : w23.cell? _ = _ := bcl BK190.out 10 rfl; have hcz25_11 : w23.cell? _ = _ := bcl BK190.out 11 rfl; have hcz25_12 : w23.cell? _ = _ := bcl BK190.out 12 rfl; have hcz25_13 : w23.cell? _ = _ := bcl BK190.out 13 rfl; have hcz25_14 : w23.cell? _ = _ := bcl BK190.out 14 rfl; have hcz25_15 : w23.cell? _ = _ := bcl BK190.out 15 rfl; have hcz25_16 : w23.cell? _ = _ := bcl BK190.out 16 rfl; have hfz25_0 := blk_frozen BK190.out 0; have hfz25_1 := blk_frozen BK190.out 1; have hfz25_2 := blk_frozen BK190.out 2; have hfz25_3 := blk_frozen BK190.out 3; have hfz25_4 := blk_frozen BK190.out 4; have hfz25_5 := blk_frozen BK190.out 5; have hfz25_6 := blk_frozen BK190.out 6; have hfz25_7 := blk_frozen BK190.out 7; have hfz25_8 := blk_frozen BK190.out 8; have hfz25_9 := blk_frozen BK190.out 9; have hfz25_10 := blk_frozen BK190.out 10; have hfz25_11 := blk_frozen BK190.out 11; have hfz25_12 := blk_frozen BK190.out 12; have hfz25_13 := blk_frozen BK190.out 13; have hfz25_14 := blk_frozen BK190.out 14; have hfz25_15 := blk_frozen BK190.out 15; have hfz25_16 := blk_frozen BK190.out 16) | ((with_reducible refine gate_callee (f := 132) rfl ?_); refine goesL_ (some 41) rfl rfl Try.func132 (by kernel_rfl) rfl #[.agg #[.bool a0_11, .int .i64 a0_12, .int .i64 a0_13, .slice A0_14 l0_14.length c0_14], .agg #[.bool a1_11, .int .i64 a1_12, .int .i64 a1_13, .slice A1_14 l1_14.length c1_14]] rfl arq ?_; (with_reducible refine (laws_eqAnchor.calls k a0_11 a0_12 a0_13 _ _ l0_14 a1_11 a1_12 a1_13 _ _ l1_14 true _ ?side1 ?side2 ?side3 ?side4 A11.out).mono ?_); (case side1 => exact cpl HR0_14.out); (case side2 => exact HC0_14.out); (case side3 => exact cpl HR1_14.out); (case side4 => exact HC1_14.out); rintro e w26 ⟨rfl, hb⟩; refine ⟨_, rfl, ?_⟩; have n0_ := Aside0.mk (blk_below (bpl BK189.out) hb); have n1_ := Aside0.mk (blk_below (bpl BK190.out) hb); have n2_ := Aside0.mk (below_step bnx hb); clear BK189; clear BK190; clear HB; have BK189 := n0_; have BK190 := n1_; have HB := n2_; clear n0_ n1_ n2_; (try clear hb); (try clear hb2); (try clear hk); (try clear hi); have hcz27_0 : w26.cell? _ = _ := bcl BK189.out 0 rfl; have hcz27_1 : w26.cell? _ = _ := bcl BK189.out 1 rfl; have hcz27_2 : w26.cell? _ = _ := bcl BK189.out 2 rfl; have hcz27_3 : w26.cell? _ = _ := bcl BK189.out 3 rfl; have hcz27_4 : w26.cell? _ = _ := bcl BK189.out 4 rfl; have hcz27_5 : w26.cell? _ = _ := bcl BK189.out 5 rfl; have hcz27_6 : w26.cell? _ = _ := bcl BK189.out 6 rfl; have hcz27_7 : w26.cell? _ = _ := bcl BK189.out 7 rfl; have hcz27_8 : w26.cell? _ = _ := bcl BK189.out 8 rfl; have hcz27_9 : w26.cell? _ = _ := bcl BK189.out 9 rfl; have hcz27_10 : w26.cell? _ = _ := bcl BK189.out 10 rfl; have hcz27_11 : w26.cell? _ = _ := bcl BK189.out 11 rfl; have hcz27_12 : w26.cell? _ = _ := bcl BK189.out 12 rfl; have hcz27_13 : w26.cell? _ = _ := bcl BK189.out 13 rfl; have hcz27_14 : w26.cell? _ = _ := bcl BK189.out 14 rfl; have hcz27_15 : w26.cell? _ = _ := bcl BK189.out 15 rfl; have hcz27_16 : w26.cell? _ = _ := bcl BK189.out 16 rfl; have hfz27_0 := blk_frozen BK189.out 0; have hfz27_1 := blk_frozen BK189.out 1; have hfz27_2 := blk_frozen BK189.out 2; have hfz27_3 := blk_frozen BK189.out 3; have hfz27_4 := blk_frozen BK189.out 4; have hfz27_5 := blk_frozen BK189.out 5; have hfz27_6 := blk_frozen BK189.out 6; have hfz27_7 := blk_frozen BK189.out 7; have hfz27_8 := blk_frozen BK189.out 8; have hfz27_9 := blk_frozen BK189.out 9; have hfz27_10 := blk_frozen BK189.out 10; have hfz27_11 := blk_frozen BK189.out 11; have hfz27_12 := blk_frozen BK189.out 12; have hfz27_13 := blk_frozen BK189.out 13; have hfz27_14 := blk_frozen BK189.out 14; have hfz27_15 := blk_frozen BK189.out 15; have hfz27_16 := blk_frozen BK189.out 16; have hcz28_0 : w26.cell? _ = _ := bcl BK190.out 0 rfl; have hcz28_1 : w26.cell? _ = _ := bcl BK190.out 1 rfl; have hcz28_2 : w26.cell? _ = _ := bcl BK190.out 2 rfl; have hcz28_3 : w26.cell? _ = _ := bcl BK190.out 3 rfl; have hcz28_4 : w26.cell? _ = _ := bcl BK190.out 4 rfl; have hcz28_5 : w26.cell? _ = _ := bcl BK190.out 5 rfl; have hcz28_6 : w26.cell? _ = _ := bcl BK190.out 6 rfl; have hcz28_7 : w26.cell? _ = _ := bcl BK190.out 7 rfl; have hcz28_8 : w26.cell? _ = _ := bcl BK190.out 8 rfl; have hcz28_9 : w26.cell? _ = _ := bcl BK190.out 9 rfl; have hcz28_10 : w26.cell? _ = _ := bcl BK190.out 10 rfl; have hcz28_11 : w26.cell? _ = _ := bcl BK190.out 11 rfl; have hcz28_12 : w26.cell? _ = _ := bcl BK190.out 12 rfl; have hcz28_13 : w26.cell? _ = _ := bcl BK190.out 13 rfl; have hcz28_14 : w26.cell? _ = _ := bcl BK190.out 14 rfl; have hcz28_15 : w26.cell? _ = _ := bcl BK190.out 15 rfl; have hcz28_16 : w26.cell? _ = _ := bcl BK190.out 16 rfl; have hfz28_0 := blk_frozen BK190.out 0; have hfz28_1 := blk_frozen BK190.out 1; have hfz28_2 := blk_frozen BK190.out 2; have hfz28_3 := blk_frozen BK190.out 3; have hfz28_4 := blk_frozen BK190.out 4; have hfz28_5 := blk_frozen BK190.out 5; have hfz28_6 := blk_frozen BK190.out 6; have hfz28_7 := blk_frozen BK190.out 7; have hfz28_8 := blk_frozen BK190.out 8; have hfz28_9 := blk_frozen BK190.out 9; have hfz28_10 := blk_frozen BK190.out 10; have hfz28_11 := blk_frozen BK190.out 11; have hfz28_12 := blk_frozen BK190.out 12; have hfz28_13 := blk_frozen BK190.out 13; have hfz28_14 := blk_frozen BK190.out 14; have hfz28_15 := blk_frozen BK190.out 15; have hfz28_16 := blk_frozen BK190.out 16))
          go_ret
          exact ⟨enq, bnx⟩
         ·rw [if_neg c14] at H
          exact absurd H (by simp)
        ·rw [if_neg c13] at H
         exact absurd H (by simp)
       ·replace c12 := Bool.eq_false_iff.mpr c12
        subst c12
        replace H : (none) = some r := by rw [if_neg (show ¬ (false = true) by decide)] at H; exact H
        exact absurd H (by simp)
      ·replace c10 := Bool.eq_false_iff.mpr c10
       subst c10
       replace H : (none) = some r := by rw [if_neg (show ¬ (false = true) by decide)] at H; exact H
       exact absurd H (by simp)
     ·replace c8 := Bool.eq_false_iff.mpr c8
      subst c8
      replace H : (none) = some r := by rw [if_neg (show ¬ (false = true) by decide)] at H; exact H
      exact absurd H (by simp)
    ·rw [if_neg c6] at H
     exact absurd H (by simp)
   ·rw [if_neg c5] at H
    exact absurd H (by simp)
  ·rw [if_neg c4] at H
   exact absurd H (by simp)
 ·rw [if_neg c3] at H
  exact absurd H (by simp)

/-! What a law keeps: the blocks that lie between two marks. -/
section
variable {α : Type} {d : Kd α} {e base a b : Nat} {ok : Nat → Prop} {w W : World} {v : Value} {xs : List α}
theorem lw_Rcap (h : d.R e w base ok v xs) : d.R e w base (fun k_ => ok k_ ∧ base ≤ k_ ∧ k_ < w.heap.size) v xs := Kd.R_mono (Kd.R_bound h) (fun _ hk => ⟨hk.1, hk.2.1, hk.2.2.1⟩)
theorem lw_Scap (h : Kd.S d e w base ok v xs) : Kd.S d e w base (fun k_ => ok k_ ∧ base ≤ k_ ∧ k_ < w.heap.size) v xs := Kd.S_mono (Kd.S_bound h) (fun _ hk => ⟨hk.1, hk.2.1, hk.2.2.1⟩)
theorem lw_Rheld (h : d.R e w base (fun k_ => ok k_ ∧ a ≤ k_ ∧ k_ < b) v xs) (hk : Kept w W (fun k_ => ¬ (a ≤ k_ ∧ k_ < b))) : d.R e W base (fun k_ => ok k_ ∧ a ≤ k_ ∧ k_ < b) v xs := Kd.R_kept h hk (fun _ ho hn => hn ho.2)
theorem lw_Sheld (h : Kd.S d e w base (fun k_ => ok k_ ∧ a ≤ k_ ∧ k_ < b) v xs) (hk : Kept w W (fun k_ => ¬ (a ≤ k_ ∧ k_ < b))) : Kd.S d e W base (fun k_ => ok k_ ∧ a ≤ k_ ∧ k_ < b) v xs := Kd.S_kept h hk (fun _ ho hn => hn ho.2)
theorem lw_Rlen {A : Option Addr} {n c : Nat} (h : d.R e w base ok (.slice A n c) xs) : xs.length ≤ c := by have h_ := Kd.R_reads' h; have := h_.1; have := h_.2.1; omega
theorem lw_Slen {A : Option Addr} {n c : Nat} (h : Kd.S d e w base ok (.slice A n c) xs) : xs.length ≤ c := by have h_ := Kd.S_reads' h; have := h_.1; have := h_.2.1; omega
end
theorem lw_cells17 {W : World} {g T : Nat} {a0 a1 a2 a3 a4 a5 a6 a7 a8 a9 a10 a11 a12 a13 a14 a15 a16 : Value} (hb : W.heap[g]? = some (.cells #[a0, a1, a2, a3, a4, a5, a6, a7, a8, a9, a10, a11, a12, a13, a14, a15, a16] T (0, 0))) : W.cell? ⟨g, 0, none⟩ = some a0 ∧ W.cell? ⟨g, 1, none⟩ = some a1 ∧ W.cell? ⟨g, 2, none⟩ = some a2 ∧ W.cell? ⟨g, 3, none⟩ = some a3 ∧ W.cell? ⟨g, 4, none⟩ = some a4 ∧ W.cell? ⟨g, 5, none⟩ = some a5 ∧ W.cell? ⟨g, 6, none⟩ = some a6 ∧ W.cell? ⟨g, 7, none⟩ = some a7 ∧ W.cell? ⟨g, 8, none⟩ = some a8 ∧ W.cell? ⟨g, 9, none⟩ = some a9 ∧ W.cell? ⟨g, 10, none⟩ = some a10 ∧ W.cell? ⟨g, 11, none⟩ = some a11 ∧ W.cell? ⟨g, 12, none⟩ = some a12 ∧ W.cell? ⟨g, 13, none⟩ = some a13 ∧ W.cell? ⟨g, 14, none⟩ = some a14 ∧ W.cell? ⟨g, 15, none⟩ = some a15 ∧ W.cell? ⟨g, 16, none⟩ = some a16 := ⟨(blk_cell hb 0).trans rfl, (blk_cell hb 1).trans rfl, (blk_cell hb 2).trans rfl, (blk_cell hb 3).trans rfl, (blk_cell hb 4).trans rfl, (blk_cell hb 5).trans rfl, (blk_cell hb 6).trans rfl, (blk_cell hb 7).trans rfl, (blk_cell hb 8).trans rfl, (blk_cell hb 9).trans rfl, (blk_cell hb 10).trans rfl, (blk_cell hb 11).trans rfl, (blk_cell hb 12).trans rfl, (blk_cell hb 13).trans rfl, (blk_cell hb 14).trans rfl, (blk_cell hb 15).trans rfl, (blk_cell hb 16).trans rfl⟩
theorem lw_frz17 {W : World} {g T : Nat} {cs : Array Value} (hb : W.heap[g]? = some (.cells cs T (0, 0))) : W.frozen? ⟨g, 0, none⟩ = false ∧ W.frozen? ⟨g, 1, none⟩ = false ∧ W.frozen? ⟨g, 2, none⟩ = false ∧ W.frozen? ⟨g, 3, none⟩ = false ∧ W.frozen? ⟨g, 4, none⟩ = false ∧ W.frozen? ⟨g, 5, none⟩ = false ∧ W.frozen? ⟨g, 6, none⟩ = false ∧ W.frozen? ⟨g, 7, none⟩ = false ∧ W.frozen? ⟨g, 8, none⟩ = false ∧ W.frozen? ⟨g, 9, none⟩ = false ∧ W.frozen? ⟨g, 10, none⟩ = false ∧ W.frozen? ⟨g, 11, none⟩ = false ∧ W.frozen? ⟨g, 12, none⟩ = false ∧ W.frozen? ⟨g, 13, none⟩ = false ∧ W.frozen? ⟨g, 14, none⟩ = false ∧ W.frozen? ⟨g, 15, none⟩ = false ∧ W.frozen? ⟨g, 16, none⟩ = false := ⟨blk_frozen hb 0, blk_frozen hb 1, blk_frozen hb 2, blk_frozen hb 3, blk_frozen hb 4, blk_frozen hb 5, blk_frozen hb 6, blk_frozen hb 7, blk_frozen hb 8, blk_frozen hb 9, blk_frozen hb 10, blk_frozen hb 11, blk_frozen hb 12, blk_frozen hb 13, blk_frozen hb 14, blk_frozen hb 15, blk_frozen hb 16⟩
theorem lw_put17 {W : World} {g T : Nat} {z0 z1 z2 z3 z4 z5 z6 z7 z8 z9 z10 z11 z12 z13 z14 z15 z16 : Value} (hb : W.heap[g]? = some (.cells #[z0, z1, z2, z3, z4, z5, z6, z7, z8, z9, z10, z11, z12, z13, z14, z15, z16] T (0, 0))) (a0 a1 a2 a3 a4 a5 a6 a7 a8 a9 a10 a11 a12 a13 a14 a15 a16 : Value) : (((((((((((((((((W.setCell ⟨g, 0, none⟩ a0).setCell ⟨g, 1, none⟩ a1).setCell ⟨g, 2, none⟩ a2).setCell ⟨g, 3, none⟩ a3).setCell ⟨g, 4, none⟩ a4).setCell ⟨g, 5, none⟩ a5).setCell ⟨g, 6, none⟩ a6).setCell ⟨g, 7, none⟩ a7).setCell ⟨g, 8, none⟩ a8).setCell ⟨g, 9, none⟩ a9).setCell ⟨g, 10, none⟩ a10).setCell ⟨g, 11, none⟩ a11).setCell ⟨g, 12, none⟩ a12).setCell ⟨g, 13, none⟩ a13).setCell ⟨g, 14, none⟩ a14).setCell ⟨g, 15, none⟩ a15).setCell ⟨g, 16, none⟩ a16).heap[g]? = some (.cells #[a0, a1, a2, a3, a4, a5, a6, a7, a8, a9, a10, a11, a12, a13, a14, a15, a16] T (0, 0)) := by
  refine blk_put (cs := #[a0, a1, a2, a3, a4, a5, a6, a7, a8, a9, a10, a11, a12, a13, a14, a15, z16]) ?_ 16 _ rfl
  refine blk_put (cs := #[a0, a1, a2, a3, a4, a5, a6, a7, a8, a9, a10, a11, a12, a13, a14, z15, z16]) ?_ 15 _ rfl
  refine blk_put (cs := #[a0, a1, a2, a3, a4, a5, a6, a7, a8, a9, a10, a11, a12, a13, z14, z15, z16]) ?_ 14 _ rfl
  refine blk_put (cs := #[a0, a1, a2, a3, a4, a5, a6, a7, a8, a9, a10, a11, a12, z13, z14, z15, z16]) ?_ 13 _ rfl
  refine blk_put (cs := #[a0, a1, a2, a3, a4, a5, a6, a7, a8, a9, a10, a11, z12, z13, z14, z15, z16]) ?_ 12 _ rfl
  refine blk_put (cs := #[a0, a1, a2, a3, a4, a5, a6, a7, a8, a9, a10, z11, z12, z13, z14, z15, z16]) ?_ 11 _ rfl
  refine blk_put (cs := #[a0, a1, a2, a3, a4, a5, a6, a7, a8, a9, z10, z11, z12, z13, z14, z15, z16]) ?_ 10 _ rfl
  refine blk_put (cs := #[a0, a1, a2, a3, a4, a5, a6, a7, a8, z9, z10, z11, z12, z13, z14, z15, z16]) ?_ 9 _ rfl
  refine blk_put (cs := #[a0, a1, a2, a3, a4, a5, a6, a7, z8, z9, z10, z11, z12, z13, z14, z15, z16]) ?_ 8 _ rfl
  refine blk_put (cs := #[a0, a1, a2, a3, a4, a5, a6, z7, z8, z9, z10, z11, z12, z13, z14, z15, z16]) ?_ 7 _ rfl
  refine blk_put (cs := #[a0, a1, a2, a3, a4, a5, z6, z7, z8, z9, z10, z11, z12, z13, z14, z15, z16]) ?_ 6 _ rfl
  refine blk_put (cs := #[a0, a1, a2, a3, a4, z5, z6, z7, z8, z9, z10, z11, z12, z13, z14, z15, z16]) ?_ 5 _ rfl
  refine blk_put (cs := #[a0, a1, a2, a3, z4, z5, z6, z7, z8, z9, z10, z11, z12, z13, z14, z15, z16]) ?_ 4 _ rfl
  refine blk_put (cs := #[a0, a1, a2, z3, z4, z5, z6, z7, z8, z9, z10, z11, z12, z13, z14, z15, z16]) ?_ 3 _ rfl
  refine blk_put (cs := #[a0, a1, z2, z3, z4, z5, z6, z7, z8, z9, z10, z11, z12, z13, z14, z15, z16]) ?_ 2 _ rfl
  refine blk_put (cs := #[a0, z1, z2, z3, z4, z5, z6, z7, z8, z9, z10, z11, z12, z13, z14, z15, z16]) ?_ 1 _ rfl
  refine blk_put (cs := #[z0, z1, z2, z3, z4, z5, z6, z7, z8, z9, z10, z11, z12, z13, z14, z15, z16]) ?_ 0 _ rfl
  exact hb
theorem lw_set17 {W : World} {g : Nat} (a0 a1 a2 a3 a4 a5 a6 a7 a8 a9 a10 a11 a12 a13 a14 a15 a16 : Value) : W.setCells g 0 [a0, a1, a2, a3, a4, a5, a6, a7, a8, a9, a10, a11, a12, a13, a14, a15, a16] = (((((((((((((((((W.setCell ⟨g, 0, none⟩ a0).setCell ⟨g, 1, none⟩ a1).setCell ⟨g, 2, none⟩ a2).setCell ⟨g, 3, none⟩ a3).setCell ⟨g, 4, none⟩ a4).setCell ⟨g, 5, none⟩ a5).setCell ⟨g, 6, none⟩ a6).setCell ⟨g, 7, none⟩ a7).setCell ⟨g, 8, none⟩ a8).setCell ⟨g, 9, none⟩ a9).setCell ⟨g, 10, none⟩ a10).setCell ⟨g, 11, none⟩ a11).setCell ⟨g, 12, none⟩ a12).setCell ⟨g, 13, none⟩ a13).setCell ⟨g, 14, none⟩ a14).setCell ⟨g, 15, none⟩ a15).setCell ⟨g, 16, none⟩ a16) := rfl
theorem lw_putk17 {w W : World} {S : Nat → Prop} {g : Nat} (hk : Kept w W S) (hg : S g ∨ w.heap.size ≤ g) (a0 a1 a2 a3 a4 a5 a6 a7 a8 a9 a10 a11 a12 a13 a14 a15 a16 : Value) : Kept w (((((((((((((((((W.setCell ⟨g, 0, none⟩ a0).setCell ⟨g, 1, none⟩ a1).setCell ⟨g, 2, none⟩ a2).setCell ⟨g, 3, none⟩ a3).setCell ⟨g, 4, none⟩ a4).setCell ⟨g, 5, none⟩ a5).setCell ⟨g, 6, none⟩ a6).setCell ⟨g, 7, none⟩ a7).setCell ⟨g, 8, none⟩ a8).setCell ⟨g, 9, none⟩ a9).setCell ⟨g, 10, none⟩ a10).setCell ⟨g, 11, none⟩ a11).setCell ⟨g, 12, none⟩ a12).setCell ⟨g, 13, none⟩ a13).setCell ⟨g, 14, none⟩ a14).setCell ⟨g, 15, none⟩ a15).setCell ⟨g, 16, none⟩ a16) S := Kept.setCell (p := ⟨g, 16, none⟩) (Kept.setCell (p := ⟨g, 15, none⟩) (Kept.setCell (p := ⟨g, 14, none⟩) (Kept.setCell (p := ⟨g, 13, none⟩) (Kept.setCell (p := ⟨g, 12, none⟩) (Kept.setCell (p := ⟨g, 11, none⟩) (Kept.setCell (p := ⟨g, 10, none⟩) (Kept.setCell (p := ⟨g, 9, none⟩) (Kept.setCell (p := ⟨g, 8, none⟩) (Kept.setCell (p := ⟨g, 7, none⟩) (Kept.setCell (p := ⟨g, 6, none⟩) (Kept.setCell (p := ⟨g, 5, none⟩) (Kept.setCell (p := ⟨g, 4, none⟩) (Kept.setCell (p := ⟨g, 3, none⟩) (Kept.setCell (p := ⟨g, 2, none⟩) (Kept.setCell (p := ⟨g, 1, none⟩) (Kept.setCell (p := ⟨g, 0, none⟩) (hk) hg a0) hg a1) hg a2) hg a3) hg a4) hg a5) hg a6) hg a7) hg a8) hg a9) hg a10) hg a11) hg a12) hg a13) hg a14) hg a15) hg a16
theorem lw_putb17 {w W : World} {g : Nat} (hk : Below w.heap.size w W) (hg : w.heap.size ≤ g) (a0 a1 a2 a3 a4 a5 a6 a7 a8 a9 a10 a11 a12 a13 a14 a15 a16 : Value) : Below w.heap.size w (((((((((((((((((W.setCell ⟨g, 0, none⟩ a0).setCell ⟨g, 1, none⟩ a1).setCell ⟨g, 2, none⟩ a2).setCell ⟨g, 3, none⟩ a3).setCell ⟨g, 4, none⟩ a4).setCell ⟨g, 5, none⟩ a5).setCell ⟨g, 6, none⟩ a6).setCell ⟨g, 7, none⟩ a7).setCell ⟨g, 8, none⟩ a8).setCell ⟨g, 9, none⟩ a9).setCell ⟨g, 10, none⟩ a10).setCell ⟨g, 11, none⟩ a11).setCell ⟨g, 12, none⟩ a12).setCell ⟨g, 13, none⟩ a13).setCell ⟨g, 14, none⟩ a14).setCell ⟨g, 15, none⟩ a15).setCell ⟨g, 16, none⟩ a16) := below_set (below_set (below_set (below_set (below_set (below_set (below_set (below_set (below_set (below_set (below_set (below_set (below_set (below_set (below_set (below_set (below_set (hk) hg) hg) hg) hg) hg) hg) hg) hg) hg) hg) hg) hg) hg) hg) hg) hg) hg

/-! ### laws_FnExactSameSenders: function 14 -/
/-- A whole struct is loaded out of its block. -/
theorem ld_ {w : World} {g : Nat} {t : TypeId} {cs : Array Value} {ty : TypeId} {d : TypeDesc} (h : w.heap[g]? = some (.cells cs t (0, 0))) (hu : Try.prog.underlying ty = some d) (hd : d.isRow = true) (hi : (Try.prog.info? ty).map (·.size) = some cs.size) : (Instr.loadAt ty (.pointer (some ⟨g, 0, none⟩))).run Try.prog w = .ok (.agg cs) w := by
  have := run_loadAt_mid (P := Try.prog) w g 0 ty cs.toList d (fun j v hv => by rw [Nat.zero_add, blk_cell h j]; simpa using hv) hu hd (by simpa using hi)
  simpa using this
theorem ldx_ {P : Program} {a : Act} {o : Oper} {W : World} {ty : TypeId} {x : Operand} {v p : Value} (ho : o.op = .load ty x) (hx : a.eval x = p) (h : (Instr.loadAt ty p).run P W = .ok v W) : (execOp a.eval o).run P W = .ok (.value v) W := by
  unfold execOp
  simp only [ho, hx, Sem.run_bind, Sem.run_pure, Result.andThen_ok, h]
theorem str_ {a : Act} {o : Oper} {w w1 : World} {ty : TypeId} {p x : Operand} {g : Nat} {t : TypeId} {cs vs : Array Value} (ho : o.op = .store ty p x) (hp : a.eval p = .pointer (some ⟨g, 0, none⟩)) (hx : a.eval x = .agg vs) (h : w.heap[g]? = some (.cells cs t (0, 0))) (hs : cs.size = vs.size) (hi : (Try.prog.info? ty).map (·.size) = some vs.size) (h1 : vs.toList.all (·.oneCell') = true) (hw : w.setCells g 0 vs.toList = w1) : (execOp a.eval o).run Try.prog w = .ok .skip w1 := by
  have ht : w.there g 0 vs.size := fun j hj => by rw [Nat.zero_add, blk_cell h j]; exact ⟨by simp; omega, blk_frozen h j⟩
  have := run_storeAt_mid (P := Try.prog) w g 0 ty vs ht hi (by simpa using h1)
  unfold execOp
  simp only [ho, hp, hx, Sem.run_bind, Sem.run_pure, Result.andThen_ok, this, hw]
theorem ldw_ {ops : Array Oper} {rest : List Oper} {o : Oper} {a : Act} {w : World} {Q : Exit → Act → World → Prop} (hgd : o.guard = none) (ty : TypeId) (x : Operand) (ho : o.op = .load ty x) {g : Nat} {t : TypeId} {cs : Array Value} {d : TypeDesc} (hx : a.eval x = .pointer (some ⟨g, 0, none⟩)) (h : w.heap[g]? = some (.cells cs t (0, 0))) (hu : Try.prog.underlying ty = some d) (hd : d.isRow = true) (hi : (Try.prog.info? ty).map (·.size) = some cs.size) (k : wpList Try.prog ops Q rest (a.put o.dst (.agg cs)) w) : wpList Try.prog ops Q (o :: rest) a w :=
  wpList_load_mid hgd ty x ho g 0 hx cs.toList d (fun j v hv => by rw [Nat.zero_add, blk_cell h j]; simpa using hv) hu hd (by simpa using hi) (by simpa using k)

def laws_FnExactSameSenders.f (k : Nat) (a0_0 : Int) (a0_1 : Int) (a0_2 : Int) (a0_3 : Int) (a0_4 : Int) (l0_5 : List Int) (l0_6 : List Int) (a0_7 : Bool) (a0_8 : Int) (a0_9 : Int) (l0_10 : List Int) (a0_11 : Bool) (a0_12 : Int) (a0_13 : Int) (l0_14 : List Int) (a0_15 : Int) (a0_16 : Int) (a1_0 : Int) (a1_1 : Int) (a1_2 : Int) (a1_3 : Int) (a1_4 : Int) (l1_5 : List Int) (l1_6 : List Int) (a1_7 : Bool) (a1_8 : Int) (a1_9 : Int) (l1_10 : List Int) (a1_11 : Bool) (a1_12 : Int) (a1_13 : Int) (l1_14 : List Int) (a1_15 : Int) (a1_16 : Int) : Option (Bool) := (laws_szSender.f a0_0 a0_1 a0_2 a0_3 a0_4 l0_5 l0_6 a0_7 a0_8 a0_9 l0_10 a0_11 a0_12 a0_13 l0_14 a0_15 a0_16 1048576).bind fun b0 => if b0 < 0 then some true else (laws_szSender.f a1_0 a1_1 a1_2 a1_3 a1_4 l1_5 l1_6 a1_7 a1_8 a1_9 l1_10 a1_11 a1_12 a1_13 l1_14 a1_15 a1_16 b0).bind fun b2 => if b2 < 0 then some true else (laws_toSender.f k a0_0 a0_1 a0_2 a0_3 a0_4 l0_5 l0_6 a0_7 a0_8 a0_9 l0_10 a0_11 a0_12 a0_13 l0_14 a0_15 a0_16).bind fun b4 => (laws_toSender.f k a1_0 a1_1 a1_2 a1_3 a1_4 l1_5 l1_6 a1_7 a1_8 a1_9 l1_10 a1_11 a1_12 a1_13 l1_14 a1_15 a1_16).bind fun b5 => (spec_SameSenders.f k b4.1 b4.2.1 b4.2.2.1 b4.2.2.2.1 b4.2.2.2.2.1 b4.2.2.2.2.2.1 b4.2.2.2.2.2.2.1 b4.2.2.2.2.2.2.2.1 b4.2.2.2.2.2.2.2.2.1 b4.2.2.2.2.2.2.2.2.2.1 b4.2.2.2.2.2.2.2.2.2.2.1 b4.2.2.2.2.2.2.2.2.2.2.2.1 b4.2.2.2.2.2.2.2.2.2.2.2.2.1 b4.2.2.2.2.2.2.2.2.2.2.2.2.2.1 b4.2.2.2.2.2.2.2.2.2.2.2.2.2.2.1 b4.2.2.2.2.2.2.2.2.2.2.2.2.2.2.2.1 b4.2.2.2.2.2.2.2.2.2.2.2.2.2.2.2.2 b5.1 b5.2.1 b5.2.2.1 b5.2.2.2.1 b5.2.2.2.2.1 b5.2.2.2.2.2.1 b5.2.2.2.2.2.2.1 b5.2.2.2.2.2.2.2.1 b5.2.2.2.2.2.2.2.2.1 b5.2.2.2.2.2.2.2.2.2.1 b5.2.2.2.2.2.2.2.2.2.2.1 b5.2.2.2.2.2.2.2.2.2.2.2.1 b5.2.2.2.2.2.2.2.2.2.2.2.2.1 b5.2.2.2.2.2.2.2.2.2.2.2.2.2.1 b5.2.2.2.2.2.2.2.2.2.2.2.2.2.2.1 b5.2.2.2.2.2.2.2.2.2.2.2.2.2.2.2.1 b5.2.2.2.2.2.2.2.2.2.2.2.2.2.2.2.2).bind fun b6 => (impl_SameSenders.f k b4.1 b4.2.1 b4.2.2.1 b4.2.2.2.1 b4.2.2.2.2.1 b4.2.2.2.2.2.1 b4.2.2.2.2.2.2.1 b4.2.2.2.2.2.2.2.1 b4.2.2.2.2.2.2.2.2.1 b4.2.2.2.2.2.2.2.2.2.1 b4.2.2.2.2.2.2.2.2.2.2.1 b4.2.2.2.2.2.2.2.2.2.2.2.1 b4.2.2.2.2.2.2.2.2.2.2.2.2.1 b4.2.2.2.2.2.2.2.2.2.2.2.2.2.1 b4.2.2.2.2.2.2.2.2.2.2.2.2.2.2.1 b4.2.2.2.2.2.2.2.2.2.2.2.2.2.2.2.1 b4.2.2.2.2.2.2.2.2.2.2.2.2.2.2.2.2 b5.1 b5.2.1 b5.2.2.1 b5.2.2.2.1 b5.2.2.2.2.1 b5.2.2.2.2.2.1 b5.2.2.2.2.2.2.1 b5.2.2.2.2.2.2.2.1 b5.2.2.2.2.2.2.2.2.1 b5.2.2.2.2.2.2.2.2.2.1 b5.2.2.2.2.2.2.2.2.2.2.1 b5.2.2.2.2.2.2.2.2.2.2.2.1 b5.2.2.2.2.2.2.2.2.2.2.2.2.1 b5.2.2.2.2.2.2.2.2.2.2.2.2.2.1 b5.2.2.2.2.2.2.2.2.2.2.2.2.2.2.1 b5.2.2.2.2.2.2.2.2.2.2.2.2.2.2.2.1 b5.2.2.2.2.2.2.2.2.2.2.2.2.2.2.2.2).bind fun b7 => if b7 = b6 then (laws_eqSender.f k b4.1 b4.2.1 b4.2.2.1 b4.2.2.2.1 b4.2.2.2.2.1 b4.2.2.2.2.2.1 b4.2.2.2.2.2.2.1 b4.2.2.2.2.2.2.2.1 b4.2.2.2.2.2.2.2.2.1 b4.2.2.2.2.2.2.2.2.2.1 b4.2.2.2.2.2.2.2.2.2.2.1 b4.2.2.2.2.2.2.2.2.2.2.2.1 b4.2.2.2.2.2.2.2.2.2.2.2.2.1 b4.2.2.2.2.2.2.2.2.2.2.2.2.2.1 b4.2.2.2.2.2.2.2.2.2.2.2.2.2.2.1 b4.2.2.2.2.2.2.2.2.2.2.2.2.2.2.2.1 b4.2.2.2.2.2.2.2.2.2.2.2.2.2.2.2.2 b4.1 b4.2.1 b4.2.2.1 b4.2.2.2.1 b4.2.2.2.2.1 b4.2.2.2.2.2.1 b4.2.2.2.2.2.2.1 b4.2.2.2.2.2.2.2.1 b4.2.2.2.2.2.2.2.2.1 b4.2.2.2.2.2.2.2.2.2.1 b4.2.2.2.2.2.2.2.2.2.2.1 b4.2.2.2.2.2.2.2.2.2.2.2.1 b4.2.2.2.2.2.2.2.2.2.2.2.2.1 b4.2.2.2.2.2.2.2.2.2.2.2.2.2.1 b4.2.2.2.2.2.2.2.2.2.2.2.2.2.2.1 b4.2.2.2.2.2.2.2.2.2.2.2.2.2.2.2.1 b4.2.2.2.2.2.2.2.2.2.2.2.2.2.2.2.2).bind fun b9 => if b9 = true then (laws_eqSender.f k b5.1 b5.2.1 b5.2.2.1 b5.2.2.2.1 b5.2.2.2.2.1 b5.2.2.2.2.2.1 b5.2.2.2.2.2.2.1 b5.2.2.2.2.2.2.2.1 b5.2.2.2.2.2.2.2.2.1 b5.2.2.2.2.2.2.2.2.2.1 b5.2.2.2.2.2.2.2.2.2.2.1 b5.2.2.2.2.2.2.2.2.2.2.2.1 b5.2.2.2.2.2.2.2.2.2.2.2.2.1 b5.2.2.2.2.2.2.2.2.2.2.2.2.2.1 b5.2.2.2.2.2.2.2.2.2.2.2.2.2.2.1 b5.2.2.2.2.2.2.2.2.2.2.2.2.2.2.2.1 b5.2.2.2.2.2.2.2.2.2.2.2.2.2.2.2.2 b5.1 b5.2.1 b5.2.2.1 b5.2.2.2.1 b5.2.2.2.2.1 b5.2.2.2.2.2.1 b5.2.2.2.2.2.2.1 b5.2.2.2.2.2.2.2.1 b5.2.2.2.2.2.2.2.2.1 b5.2.2.2.2.2.2.2.2.2.1 b5.2.2.2.2.2.2.2.2.2.2.1 b5.2.2.2.2.2.2.2.2.2.2.2.1 b5.2.2.2.2.2.2.2.2.2.2.2.2.1 b5.2.2.2.2.2.2.2.2.2.2.2.2.2.1 b5.2.2.2.2.2.2.2.2.2.2.2.2.2.2.1 b5.2.2.2.2.2.2.2.2.2.2.2.2.2.2.2.1 b5.2.2.2.2.2.2.2.2.2.2.2.2.2.2.2.2).bind fun b10 => if b10 = true then some true else none else none else none
set_option maxHeartbeats 8000000 in
set_option maxRecDepth 100000 in
theorem laws_FnExactSameSenders.calls (k : Nat) (a0_0 : Int) (a0_1 : Int) (a0_2 : Int) (a0_3 : Int) (a0_4 : Int) (A0_5 : Option Addr) (c0_5 : Nat) (l0_5 : List Int) (A0_6 : Option Addr) (c0_6 : Nat) (l0_6 : List Int) (a0_7 : Bool) (a0_8 : Int) (a0_9 : Int) (A0_10 : Option Addr) (c0_10 : Nat) (l0_10 : List Int) (a0_11 : Bool) (a0_12 : Int) (a0_13 : Int) (A0_14 : Option Addr) (c0_14 : Nat) (l0_14 : List Int) (a0_15 : Int) (a0_16 : Int) (a1_0 : Int) (a1_1 : Int) (a1_2 : Int) (a1_3 : Int) (a1_4 : Int) (A1_5 : Option Addr) (c1_5 : Nat) (l1_5 : List Int) (A1_6 : Option Addr) (c1_6 : Nat) (l1_6 : List Int) (a1_7 : Bool) (a1_8 : Int) (a1_9 : Int) (A1_10 : Option Addr) (c1_10 : Nat) (l1_10 : List Int) (a1_11 : Bool) (a1_12 : Int) (a1_13 : Int) (A1_14 : Option Addr) (c1_14 : Nat) (l1_14 : List Int) (a1_15 : Int) (a1_16 : Int) (r : Bool) (w : World) (hr0_5 : Kd.C (Kd.int .i64) w A0_5 l0_5.length l0_5) (hc0_5 : l0_5.length ≤ c0_5) (hr0_6 : Kd.C (Kd.int .i64) w A0_6 l0_6.length l0_6) (hc0_6 : l0_6.length ≤ c0_6) (hr0_10 : Kd.C (Kd.int .i64) w A0_10 l0_10.length l0_10) (hc0_10 : l0_10.length ≤ c0_10) (hr0_14 : Kd.C (Kd.int .i64) w A0_14 l0_14.length l0_14) (hc0_14 : l0_14.length ≤ c0_14) (hr1_5 : Kd.C (Kd.int .i64) w A1_5 l1_5.length l1_5) (hc1_5 : l1_5.length ≤ c1_5) (hr1_6 : Kd.C (Kd.int .i64) w A1_6 l1_6.length l1_6) (hc1_6 : l1_6.length ≤ c1_6) (hr1_10 : Kd.C (Kd.int .i64) w A1_10 l1_10.length l1_10) (hc1_10 : l1_10.length ≤ c1_10) (hr1_14 : Kd.C (Kd.int .i64) w A1_14 l1_14.length l1_14) (hc1_14 : l1_14.length ≤ c1_14) (h : laws_FnExactSameSenders.f k a0_0 a0_1 a0_2 a0_3 a0_4 l0_5 l0_6 a0_7 a0_8 a0_9 l0_10 a0_11 a0_12 a0_13 l0_14 a0_15 a0_16 a1_0 a1_1 a1_2 a1_3 a1_4 l1_5 l1_6 a1_7 a1_8 a1_9 l1_10 a1_11 a1_12 a1_13 l1_14 a1_15 a1_16 = some r) :
    Calls Try.prog 14 #[.agg #[.int .i64 a0_0, .int .i64 a0_1, .int .i64 a0_2, .int .i64 a0_3, .int .i64 a0_4, .slice A0_5 l0_5.length c0_5, .slice A0_6 l0_6.length c0_6, .bool a0_7, .int .i64 a0_8, .int .i64 a0_9, .slice A0_10 l0_10.length c0_10, .bool a0_11, .int .i64 a0_12, .int .i64 a0_13, .slice A0_14 l0_14.length c0_14, .int .i64 a0_15, .int .i64 a0_16], .agg #[.int .i64 a1_0, .int .i64 a1_1, .int .i64 a1_2, .int .i64 a1_3, .int .i64 a1_4, .slice A1_5 l1_5.length c1_5, .slice A1_6 l1_6.length c1_6, .bool a1_7, .int .i64 a1_8, .int .i64 a1_9, .slice A1_10 l1_10.length c1_10, .bool a1_11, .int .i64 a1_12, .int .i64 a1_13, .slice A1_14 l1_14.length c1_14, .int .i64 a1_15, .int .i64 a1_16]] w fun e w' => e = .returned (.bool r) ∧ Below w.heap.size w w' := by
  have hu81 := Try.underlying81
  have hu87 := Try.underlying87
  have HR0_5 := Aside0.mk hr0_5
  have HC0_5 := Aside0.mk hc0_5
  clear hr0_5 hc0_5
  have HR0_6 := Aside0.mk hr0_6
  have HC0_6 := Aside0.mk hc0_6
  clear hr0_6 hc0_6
  have HR0_10 := Aside0.mk hr0_10
  have HC0_10 := Aside0.mk hc0_10
  clear hr0_10 hc0_10
  have HR0_14 := Aside0.mk hr0_14
  have HC0_14 := Aside0.mk hc0_14
  clear hr0_14 hc0_14
  have HR1_5 := Aside0.mk hr1_5
  have HC1_5 := Aside0.mk hc1_5
  clear hr1_5 hc1_5
  have HR1_6 := Aside0.mk hr1_6
  have HC1_6 := Aside0.mk hc1_6
  clear hr1_6 hc1_6
  have HR1_10 := Aside0.mk hr1_10
  have HC1_10 := Aside0.mk hc1_10
  clear hr1_10 hc1_10
  have HR1_14 := Aside0.mk hr1_14
  have HC1_14 := Aside0.mk hc1_14
  clear hr1_14 hc1_14
  have HB := Aside0.mk (Below.refl w.heap.size w)
  unfold laws_FnExactSameSenders.f at h
  replace h := Option.bind_eq_some_iff.mp h
  obtain ⟨s0, e_, h⟩ := h
  have Esz0 := Aside0.mk e_
  clear e_
  try dsimp only at h
  by_cases c_ : s0 < 0
  · rw [if_pos c_] at h
    obtain rfl := Option.some.inj h
    have c1_ := decide_eq_true c_
    clear c_ h
    go_enter Try.func14, Try.ntmps14
    go_wp2_with (first | ((with_reducible refine gate_dst (N := 2) rfl ?_); refine box_event ?hg (N := 2) ?hd (cs := #[.int .i64 a0_0, .int .i64 a0_1, .int .i64 a0_2, .int .i64 a0_3, .int .i64 a0_4, .slice A0_5 l0_5.length c0_5, .slice A0_6 l0_6.length c0_6, .bool a0_7, .int .i64 a0_8, .int .i64 a0_9, .slice A0_10 l0_10.length c0_10, .bool a0_11, .int .i64 a0_12, .int .i64 a0_13, .slice A0_14 l0_14.length c0_14, .int .i64 a0_15, .int .i64 a0_16]) (t := 81) ?hr ?_; (case hd => rfl); (case hg => rfl); (case hr => first | (go_simp; done) | (go_simp; rfl)); intro gb1 hg w2 hbox hb; have q0 := Aside0.mk (below_step HB.out hb); clear HB; have HB := q0; clear q0; clear hb; have BKgb1 := Aside0.mk hbox; have Ch3 := Aside0.mk (Kept.refl w2 (fun k_ => ¬ k_ = gb1)); clear hbox hg) | ((with_reducible refine gate_dst (N := 3) rfl ?_); refine box_event ?hg (N := 3) ?hd (cs := #[.int .i64 a1_0, .int .i64 a1_1, .int .i64 a1_2, .int .i64 a1_3, .int .i64 a1_4, .slice A1_5 l1_5.length c1_5, .slice A1_6 l1_6.length c1_6, .bool a1_7, .int .i64 a1_8, .int .i64 a1_9, .slice A1_10 l1_10.length c1_10, .bool a1_11, .int .i64 a1_12, .int .i64 a1_13, .slice A1_14 l1_14.length c1_14, .int .i64 a1_15, .int .i64 a1_16]) (t := 81) ?hr ?_; (case hd => rfl); (case hg => rfl); (case hr => first | (go_simp; done) | (go_simp; rfl)); intro gb5 hg w6 hbox hb; have q0 := Aside0.mk (below_step HB.out hb); have q1 := Aside0.mk (Kept.below Ch3.out hb); clear HB Ch3; have HB := q0; have Ch3 := q1; clear q0 q1; clear hb; have BKgb5 := Aside0.mk hbox; have Ch7 := Aside0.mk (Kept.refl w6 (fun k_ => ¬ k_ = gb5)); clear hbox hg) | ((with_reducible refine gate_dst (N := 10) rfl ?_); (try simp only [Act.put, List.setIfInBounds_toArray, List.set_cons_zero, List.set_cons_succ]); refine ldw_ rfl 81 (.tmp 2) rfl rfl (blk_kept BKgb1.out Ch3.out (fun h_ => h_ rfl)) hu81 rfl (by kernel_rfl) ?_) | ((with_reducible refine gate_callee (f := 60) rfl ?_); refine goesL_ (some 12) rfl rfl Try.func60 (by kernel_rfl) rfl #[.agg #[.int .i64 a0_0, .int .i64 a0_1, .int .i64 a0_2, .int .i64 a0_3, .int .i64 a0_4, .slice A0_5 l0_5.length c0_5, .slice A0_6 l0_6.length c0_6, .bool a0_7, .int .i64 a0_8, .int .i64 a0_9, .slice A0_10 l0_10.length c0_10, .bool a0_11, .int .i64 a0_12, .int .i64 a0_13, .slice A0_14 l0_14.length c0_14, .int .i64 a0_15, .int .i64 a0_16], .int .i64 1048576] rfl (by (try simp only [List.map_toArray, List.map_cons, List.map_nil]); first | done | rfl) ?_; refine (laws_szSender.calls a0_0 a0_1 a0_2 a0_3 a0_4 A0_5 c0_5 l0_5 A0_6 c0_6 l0_6 a0_7 a0_8 a0_9 A0_10 c0_10 l0_10 a0_11 a0_12 a0_13 A0_14 c0_14 l0_14 a0_15 a0_16 1048576 s0 _ (Kd.C_below HR0_5.out HB.out) HC0_5.out (Kd.C_below HR0_6.out HB.out) HC0_6.out (Kd.C_below HR0_10.out HB.out) HC0_10.out (Kd.C_below HR0_14.out HB.out) HC0_14.out Esz0.out).mono ?_; rintro e w9 ⟨rfl, hb⟩; refine ⟨_, rfl, ?_⟩; have q0 := Aside0.mk (below_step HB.out hb); have q1 := Aside0.mk (Kept.below Ch3.out hb); have q2 := Aside0.mk (Kept.below Ch7.out hb); clear HB Ch3 Ch7; have HB := q0; have Ch3 := q1; have Ch7 := q2; clear q0 q1 q2; clear hb))
    try go_wp2
    go_ret
    exact ⟨by first | rfl | (simp; done) | (simp [*]; done), HB.out⟩
  rw [if_neg c_] at h
  have c11_ := decide_eq_false c_
  clear c_
  replace h := Option.bind_eq_some_iff.mp h
  obtain ⟨s1, e_, h⟩ := h
  have Esz1 := Aside0.mk e_
  clear e_
  try dsimp only at h
  by_cases c_ : s1 < 0
  · rw [if_pos c_] at h
    obtain rfl := Option.some.inj h
    have c1_ := decide_eq_true c_
    clear c_ h
    go_enter Try.func14, Try.ntmps14
    go_wp2_with (first | ((with_reducible refine gate_dst (N := 2) rfl ?_); refine box_event ?hg (N := 2) ?hd (cs := #[.int .i64 a0_0, .int .i64 a0_1, .int .i64 a0_2, .int .i64 a0_3, .int .i64 a0_4, .slice A0_5 l0_5.length c0_5, .slice A0_6 l0_6.length c0_6, .bool a0_7, .int .i64 a0_8, .int .i64 a0_9, .slice A0_10 l0_10.length c0_10, .bool a0_11, .int .i64 a0_12, .int .i64 a0_13, .slice A0_14 l0_14.length c0_14, .int .i64 a0_15, .int .i64 a0_16]) (t := 81) ?hr ?_; (case hd => rfl); (case hg => rfl); (case hr => first | (go_simp; done) | (go_simp; rfl)); intro gb10 hg w11 hbox hb; have q0 := Aside0.mk (below_step HB.out hb); clear HB; have HB := q0; clear q0; clear hb; have BKgb10 := Aside0.mk hbox; have Ch12 := Aside0.mk (Kept.refl w11 (fun k_ => ¬ k_ = gb10)); clear hbox hg) | ((with_reducible refine gate_dst (N := 3) rfl ?_); refine box_event ?hg (N := 3) ?hd (cs := #[.int .i64 a1_0, .int .i64 a1_1, .int .i64 a1_2, .int .i64 a1_3, .int .i64 a1_4, .slice A1_5 l1_5.length c1_5, .slice A1_6 l1_6.length c1_6, .bool a1_7, .int .i64 a1_8, .int .i64 a1_9, .slice A1_10 l1_10.length c1_10, .bool a1_11, .int .i64 a1_12, .int .i64 a1_13, .slice A1_14 l1_14.length c1_14, .int .i64 a1_15, .int .i64 a1_16]) (t := 81) ?hr ?_; (case hd => rfl); (case hg => rfl); (case hr => first | (go_simp; done) | (go_simp; rfl)); intro gb14 hg w15 hbox hb; have q0 := Aside0.mk (below_step HB.out hb); have q1 := Aside0.mk (Kept.below Ch12.out hb); clear HB Ch12; have HB := q0; have Ch12 := q1; clear q0 q1; clear hb; have BKgb14 := Aside0.mk hbox; have Ch16 := Aside0.mk (Kept.refl w15 (fun k_ => ¬ k_ = gb14)); clear hbox hg) | ((with_reducible refine gate_dst (N := 10) rfl ?_); (try simp only [Act.put, List.setIfInBounds_toArray, List.set_cons_zero, List.set_cons_succ]); refine ldw_ rfl 81 (.tmp 2) rfl rfl (blk_kept BKgb10.out Ch12.out (fun h_ => h_ rfl)) hu81 rfl (by kernel_rfl) ?_) | ((with_reducible refine gate_callee (f := 60) rfl ?_); refine goesL_ (some 12) rfl rfl Try.func60 (by kernel_rfl) rfl #[.agg #[.int .i64 a0_0, .int .i64 a0_1, .int .i64 a0_2, .int .i64 a0_3, .int .i64 a0_4, .slice A0_5 l0_5.length c0_5, .slice A0_6 l0_6.length c0_6, .bool a0_7, .int .i64 a0_8, .int .i64 a0_9, .slice A0_10 l0_10.length c0_10, .bool a0_11, .int .i64 a0_12, .int .i64 a0_13, .slice A0_14 l0_14.length c0_14, .int .i64 a0_15, .int .i64 a0_16], .int .i64 1048576] rfl (by (try simp only [List.map_toArray, List.map_cons, List.map_nil]); first | done | rfl) ?_; refine (laws_szSender.calls a0_0 a0_1 a0_2 a0_3 a0_4 A0_5 c0_5 l0_5 A0_6 c0_6 l0_6 a0_7 a0_8 a0_9 A0_10 c0_10 l0_10 a0_11 a0_12 a0_13 A0_14 c0_14 l0_14 a0_15 a0_16 1048576 s0 _ (Kd.C_below HR0_5.out HB.out) HC0_5.out (Kd.C_below HR0_6.out HB.out) HC0_6.out (Kd.C_below HR0_10.out HB.out) HC0_10.out (Kd.C_below HR0_14.out HB.out) HC0_14.out Esz0.out).mono ?_; rintro e w18 ⟨rfl, hb⟩; refine ⟨_, rfl, ?_⟩; have q0 := Aside0.mk (below_step HB.out hb); have q1 := Aside0.mk (Kept.below Ch12.out hb); have q2 := Aside0.mk (Kept.below Ch16.out hb); clear HB Ch12 Ch16; have HB := q0; have Ch12 := q1; have Ch16 := q2; clear q0 q1 q2; clear hb) | ((with_reducible refine gate_dst (N := 15) rfl ?_); (try simp only [Act.put, List.setIfInBounds_toArray, List.set_cons_zero, List.set_cons_succ]); refine ldw_ rfl 81 (.tmp 3) rfl rfl (blk_kept BKgb14.out Ch16.out (fun h_ => h_ rfl)) hu81 rfl (by kernel_rfl) ?_) | ((with_reducible refine gate_callee (f := 60) rfl ?_); refine goesL_ (some 17) rfl rfl Try.func60 (by kernel_rfl) rfl #[.agg #[.int .i64 a1_0, .int .i64 a1_1, .int .i64 a1_2, .int .i64 a1_3, .int .i64 a1_4, .slice A1_5 l1_5.length c1_5, .slice A1_6 l1_6.length c1_6, .bool a1_7, .int .i64 a1_8, .int .i64 a1_9, .slice A1_10 l1_10.length c1_10, .bool a1_11, .int .i64 a1_12, .int .i64 a1_13, .slice A1_14 l1_14.length c1_14, .int .i64 a1_15, .int .i64 a1_16], .int .i64 s0] rfl (by (try simp only [List.map_toArray, List.map_cons, List.map_nil]); first | done | rfl) ?_; refine (laws_szSender.calls a1_0 a1_1 a1_2 a1_3 a1_4 A1_5 c1_5 l1_5 A1_6 c1_6 l1_6 a1_7 a1_8 a1_9 A1_10 c1_10 l1_10 a1_11 a1_12 a1_13 A1_14 c1_14 l1_14 a1_15 a1_16 s0 s1 _ (Kd.C_below HR1_5.out HB.out) HC1_5.out (Kd.C_below HR1_6.out HB.out) HC1_6.out (Kd.C_below HR1_10.out HB.out) HC1_10.out (Kd.C_below HR1_14.out HB.out) HC1_14.out Esz1.out).mono ?_; rintro e w19 ⟨rfl, hb⟩; refine ⟨_, rfl, ?_⟩; have q0 := Aside0.mk (below_step HB.out hb); have q1 := Aside0.mk (Kept.below Ch12.out hb); have q2 := Aside0.mk (Kept.below Ch16.out hb); clear HB Ch12 Ch16; have HB := q0; have Ch12 := q1; have Ch16 := q2; clear q0 q1 q2; clear hb))
    try go_wp2
    go_ret
    exact ⟨by first | rfl | (simp; done) | (simp [*]; done), HB.out⟩
  rw [if_neg c_] at h
  have c12_ := decide_eq_false c_
  clear c_
  replace h := Option.bind_eq_some_iff.mp h
  obtain ⟨⟨x0_0, x0_1, x0_2, x0_3, x0_4, x0_5, x0_6, x0_7, x0_8, x0_9, x0_10, x0_11, x0_12, x0_13, x0_14, x0_15, x0_16⟩, e_, h⟩ := h
  have Eto0 := Aside0.mk e_
  clear e_
  try dsimp only at h
  replace h := Option.bind_eq_some_iff.mp h
  obtain ⟨⟨x1_0, x1_1, x1_2, x1_3, x1_4, x1_5, x1_6, x1_7, x1_8, x1_9, x1_10, x1_11, x1_12, x1_13, x1_14, x1_15, x1_16⟩, e_, h⟩ := h
  have Eto1 := Aside0.mk e_
  clear e_
  try dsimp only at h
  replace h := Option.bind_eq_some_iff.mp h
  obtain ⟨y0, e_, h⟩ := h
  have Ey := Aside0.mk e_
  clear e_
  try dsimp only at h
  replace h := Option.bind_eq_some_iff.mp h
  obtain ⟨z0, e_, h⟩ := h
  have Ez := Aside0.mk e_
  clear e_
  try dsimp only at h
  by_cases c_ : z0 = y0
  rotate_left
  · rw [if_neg c_] at h; cases h
  rw [if_pos c_] at h
  subst c_
  replace h := Option.bind_eq_some_iff.mp h
  obtain ⟨ep0, e_, h⟩ := h
  have Ep0 := Aside0.mk e_
  clear e_
  try dsimp only at h
  by_cases c_ : ep0 = true
  rotate_left
  · rw [if_neg c_] at h; cases h
  rw [if_pos c_] at h
  subst c_
  replace h := Option.bind_eq_some_iff.mp h
  obtain ⟨ep1, e_, h⟩ := h
  have Ep1 := Aside0.mk e_
  clear e_
  try dsimp only at h
  by_cases c_ : ep1 = true
  rotate_left
  · rw [if_neg c_] at h; cases h
  rw [if_pos c_] at h
  subst c_
  obtain rfl := Option.some.inj h
  clear h
  go_enter Try.func14, Try.ntmps14
  go_wp2_with (first | ((with_reducible refine gate_dst (N := 2) rfl ?_); refine box_event ?hg (N := 2) ?hd (cs := #[.int .i64 a0_0, .int .i64 a0_1, .int .i64 a0_2, .int .i64 a0_3, .int .i64 a0_4, .slice A0_5 l0_5.length c0_5, .slice A0_6 l0_6.length c0_6, .bool a0_7, .int .i64 a0_8, .int .i64 a0_9, .slice A0_10 l0_10.length c0_10, .bool a0_11, .int .i64 a0_12, .int .i64 a0_13, .slice A0_14 l0_14.length c0_14, .int .i64 a0_15, .int .i64 a0_16]) (t := 81) ?hr ?_; (case hd => rfl); (case hg => rfl); (case hr => first | (go_simp; done) | (go_simp; rfl)); intro gb20 hg w21 hbox hb; have q0 := Aside0.mk (below_step HB.out hb); clear HB; have HB := q0; clear q0; clear hb; have BKgb20 := Aside0.mk hbox; have Ch22 := Aside0.mk (Kept.refl w21 (fun k_ => ¬ k_ = gb20)); clear hbox hg) | ((with_reducible refine gate_dst (N := 3) rfl ?_); refine box_event ?hg (N := 3) ?hd (cs := #[.int .i64 a1_0, .int .i64 a1_1, .int .i64 a1_2, .int .i64 a1_3, .int .i64 a1_4, .slice A1_5 l1_5.length c1_5, .slice A1_6 l1_6.length c1_6, .bool a1_7, .int .i64 a1_8, .int .i64 a1_9, .slice A1_10 l1_10.length c1_10, .bool a1_11, .int .i64 a1_12, .int .i64 a1_13, .slice A1_14 l1_14.length c1_14, .int .i64 a1_15, .int .i64 a1_16]) (t := 81) ?hr ?_; (case hd => rfl); (case hg => rfl); (case hr => first | (go_simp; done) | (go_simp; rfl)); intro gb24 hg w25 hbox hb; have q0 := Aside0.mk (below_step HB.out hb); have q1 := Aside0.mk (Kept.below Ch22.out hb); clear HB Ch22; have HB := q0; have Ch22 := q1; clear q0 q1; clear hb; have BKgb24 := Aside0.mk hbox; have Ch26 := Aside0.mk (Kept.refl w25 (fun k_ => ¬ k_ = gb24)); clear hbox hg) | ((with_reducible refine gate_dst (N := 10) rfl ?_); (try simp only [Act.put, List.setIfInBounds_toArray, List.set_cons_zero, List.set_cons_succ]); refine ldw_ rfl 81 (.tmp 2) rfl rfl (blk_kept BKgb20.out Ch22.out (fun h_ => h_ rfl)) hu81 rfl (by kernel_rfl) ?_) | ((with_reducible refine gate_callee (f := 60) rfl ?_); refine goesL_ (some 12) rfl rfl Try.func60 (by kernel_rfl) rfl #[.agg #[.int .i64 a0_0, .int .i64 a0_1, .int .i64 a0_2, .int .i64 a0_3, .int .i64 a0_4, .slice A0_5 l0_5.length c0_5, .slice A0_6 l0_6.length c0_6, .bool a0_7, .int .i64 a0_8, .int .i64 a0_9, .slice A0_10 l0_10.length c0_10, .bool a0_11, .int .i64 a0_12, .int .i64 a0_13, .slice A0_14 l0_14.length c0_14, .int .i64 a0_15, .int .i64 a0_16], .int .i64 1048576] rfl (by (try simp only [List.map_toArray, List.map_cons, List.map_nil]); first | done | rfl) ?_; refine (laws_szSender.calls a0_0 a0_1 a0_2 a0_3 a0_4 A0_5 c0_5 l0_5 A0_6 c0_6 l0_6 a0_7 a0_8 a0_9 A0_10 c0_10 l0_10 a0_11 a0_12 a0_13 A0_14 c0_14 l0_14 a0_15 a0_16 1048576 s0 _ (Kd.C_below HR0_5.out HB.out) HC0_5.out (Kd.C_below HR0_6.out HB.out) HC0_6.out (Kd.C_below HR0_10.out HB.out) HC0_10.out (Kd.C_below HR0_14.out HB.out) HC0_14.out Esz0.out).mono ?_; rintro e w28 ⟨rfl, hb⟩; refine ⟨_, rfl, ?_⟩; have q0 := Aside0.mk (below_step HB.out hb); have q1 := Aside0.mk (Kept.below Ch22.out hb); have q2 := Aside0.mk (Kept.below Ch26.out hb); clear HB Ch22 Ch26; have HB := q0; have Ch22 := q1; have Ch26 := q2; clear q0 q1 q2; clear hb) | ((with_reducible refine gate_dst (N := 15) rfl ?_); (try simp only [Act.put, List.setIfInBounds_toArray, List.set_cons_zero, List.set_cons_succ]); refine ldw_ rfl 81 (.tmp 3) rfl rfl (blk_kept BKgb24.out Ch26.out (fun h_ => h_ rfl)) hu81 rfl (by kernel_rfl) ?_) | ((with_reducible refine gate_callee (f := 60) rfl ?_); refine goesL_ (some 17) rfl rfl Try.func60 (by kernel_rfl) rfl #[.agg #[.int .i64 a1_0, .int .i64 a1_1, .int .i64 a1_2, .int .i64 a1_3, .int .i64 a1_4, .slice A1_5 l1_5.length c1_5, .slice A1_6 l1_6.length c1_6, .bool a1_7, .int .i64 a1_8, .int .i64 a1_9, .slice A1_10 l1_10.length c1_10, .bool a1_11, .int .i64 a1_12, .int .i64 a1_13, .slice A1_14 l1_14.length c1_14, .int .i64 a1_15, .int .i64 a1_16], .int .i64 s0] rfl (by (try simp only [List.map_toArray, List.map_cons, List.map_nil]); first | done | rfl) ?_; refine (laws_szSender.calls a1_0 a1_1 a1_2 a1_3 a1_4 A1_5 c1_5 l1_5 A1_6 c1_6 l1_6 a1_7 a1_8 a1_9 A1_10 c1_10 l1_10 a1_11 a1_12 a1_13 A1_14 c1_14 l1_14 a1_15 a1_16 s0 s1 _ (Kd.C_below HR1_5.out HB.out) HC1_5.out (Kd.C_below HR1_6.out HB.out) HC1_6.out (Kd.C_below HR1_10.out HB.out) HC1_10.out (Kd.C_below HR1_14.out HB.out) HC1_14.out Esz1.out).mono ?_; rintro e w29 ⟨rfl, hb⟩; refine ⟨_, rfl, ?_⟩; have q0 := Aside0.mk (below_step HB.out hb); have q1 := Aside0.mk (Kept.below Ch22.out hb); have q2 := Aside0.mk (Kept.below Ch26.out hb); clear HB Ch22 Ch26; have HB := q0; have Ch22 := q1; have Ch26 := q2; clear q0 q1 q2; clear hb))
  try go_wp2
  have q0 := Aside0.mk (below_drew1 HB.out)
  have q1 := Aside0.mk (Kept.drew Ch22.out)
  have q2 := Aside0.mk (Kept.drew Ch26.out)
  clear HB Ch22 Ch26
  have HB := q0
  have Ch22 := q1
  have Ch26 := q2
  clear q0 q1 q2
  refine start_ (n := 6) (S := fun w' => (Instr.loadAt 81 (.pointer (some ⟨gb20, 0, none⟩))).run Try.prog w' = .ok (.agg #[.int .i64 a0_0, .int .i64 a0_1, .int .i64 a0_2, .int .i64 a0_3, .int .i64 a0_4, .slice A0_5 l0_5.length c0_5, .slice A0_6 l0_6.length c0_6, .bool a0_7, .int .i64 a0_8, .int .i64 a0_9, .slice A0_10 l0_10.length c0_10, .bool a0_11, .int .i64 a0_12, .int .i64 a0_13, .slice A0_14 l0_14.length c0_14, .int .i64 a0_15, .int .i64 a0_16]) w' ∧ (Instr.loadAt 81 (.pointer (some ⟨gb24, 0, none⟩))).run Try.prog w' = .ok (.agg #[.int .i64 a1_0, .int .i64 a1_1, .int .i64 a1_2, .int .i64 a1_3, .int .i64 a1_4, .slice A1_5 l1_5.length c1_5, .slice A1_6 l1_6.length c1_6, .bool a1_7, .int .i64 a1_8, .int .i64 a1_9, .slice A1_10 l1_10.length c1_10, .bool a1_11, .int .i64 a1_12, .int .i64 a1_13, .slice A1_14 l1_14.length c1_14, .int .i64 a1_15, .int .i64 a1_16]) w') (ds := []) #[false, false, false, false, false, false] (by kernel_rfl) rfl rfl ⟨(ld_ (ty := 81) (blk_kept BKgb20.out Ch22.out (fun h_ => h_ rfl)) hu81 rfl (by kernel_rfl)), (ld_ (ty := 81) (blk_kept BKgb24.out Ch26.out (fun h_ => h_ rfl)) hu81 rfl (by kernel_rfl))⟩ (fun hHeld => ?_)
  generalize w29.drew = w30 at HB Ch22 Ch26 hHeld ⊢
  refine take_ (i := 0) (N := some 20) (v := ?_) (a' := ?_) #[true, false, false, false, false, false] rfl rfl (by kernel_rfl) (fun _ _ _ h => h) (Or.inl ⟨by rfl, ?_⟩) hHeld ?_ ?_
  rotate_left
  · rintro w' ⟨s0, s1⟩
    refine Eq.trans (ldx_ (p := .pointer (some ⟨gb20, 0, none⟩)) rfl (by rfl) s0) ?_
    with_reducible rfl
  rotate_left
  · simp only [Act.put, List.setIfInBounds_toArray, List.set_cons_zero, List.set_cons_succ, i64_w, i32_w]
    rfl
  refine take_ (i := 2) (N := some 22) (v := ?_) (a' := ?_) #[true, false, true, false, false, false] rfl rfl (by kernel_rfl) (fun _ _ _ h => h) (Or.inl ⟨by rfl, ?_⟩) hHeld ?_ ?_
  rotate_left
  · rintro w' ⟨s0, s1⟩
    refine Eq.trans (ldx_ (p := .pointer (some ⟨gb24, 0, none⟩)) rfl (by rfl) s1) ?_
    with_reducible rfl
  rotate_left
  · simp only [Act.put, List.setIfInBounds_toArray, List.set_cons_zero, List.set_cons_succ, i64_w, i32_w]
    rfl
  refine one_ (i := 1) (N := some 21) #[true, true, true, false, false, false] rfl rfl (by kernel_rfl) (by decide) (fun K hK => ?_)
  refine goes_ Try.func62 (by kernel_rfl) rfl #[.agg #[.int .i64 a0_0, .int .i64 a0_1, .int .i64 a0_2, .int .i64 a0_3, .int .i64 a0_4, .slice A0_5 l0_5.length c0_5, .slice A0_6 l0_6.length c0_6, .bool a0_7, .int .i64 a0_8, .int .i64 a0_9, .slice A0_10 l0_10.length c0_10, .bool a0_11, .int .i64 a0_12, .int .i64 a0_13, .slice A0_14 l0_14.length c0_14, .int .i64 a0_15, .int .i64 a0_16]] (by rfl) rfl rfl (by (try simp only [List.map_toArray, List.map_cons, List.map_nil]); first | done | rfl) ?_
  refine (laws_toSender.calls k a0_0 a0_1 a0_2 a0_3 a0_4 A0_5 c0_5 l0_5 A0_6 c0_6 l0_6 a0_7 a0_8 a0_9 A0_10 c0_10 l0_10 a0_11 a0_12 a0_13 A0_14 c0_14 l0_14 a0_15 a0_16 x0_0 x0_1 x0_2 x0_3 x0_4 x0_5 x0_6 x0_7 x0_8 x0_9 x0_10 x0_11 x0_12 x0_13 x0_14 x0_15 x0_16 _ (Kd.C_below HR0_5.out HB.out) HC0_5.out (Kd.C_below HR0_6.out HB.out) HC0_6.out (Kd.C_below HR0_10.out HB.out) HC0_10.out (Kd.C_below HR0_14.out HB.out) HC0_14.out Eto0.out).mono ?_
  rintro e w31 ⟨v5, v6, v10, v14, rfl, ho5, ho6, ho10, ho14, hb⟩
  refine ⟨_, rfl, ?_⟩
  have OCh22_Ch32 := Aside0.mk (show gb20 < w30.heap.size from Nat.lt_of_lt_of_le (blk_lt BKgb20.out) Ch22.out.1)
  have OCh26_Ch32 := Aside0.mk (show gb24 < w30.heap.size from Nat.lt_of_lt_of_le (blk_lt BKgb24.out) Ch26.out.1)
  have OBCh32 := Aside0.mk (show w.heap.size ≤ w30.heap.size from HB.out.size)
  obtain ⟨A33, c33, rfl⟩ := Kd.R_slice ho5
  have RX33 := Aside0.mk (lw_Rcap ho5)
  obtain ⟨A34, c34, rfl⟩ := Kd.R_slice ho6
  have RX34 := Aside0.mk (lw_Rcap ho6)
  obtain ⟨A35, c35, rfl⟩ := Kd.R_slice ho10
  have RX35 := Aside0.mk (lw_Rcap ho10)
  obtain ⟨A36, c36, rfl⟩ := Kd.R_slice ho14
  have RX36 := Aside0.mk (lw_Rcap ho14)
  clear ho5 ho6 ho10 ho14
  have q0 := Aside0.mk (below_step HB.out hb)
  have q1 := Aside0.mk (Kept.below Ch22.out hb)
  have q2 := Aside0.mk (Kept.below Ch26.out hb)
  clear HB Ch22 Ch26
  have HB := q0
  have Ch22 := q1
  have Ch26 := q2
  clear q0 q1 q2
  clear hb
  have Ch32 := Aside0.mk (Kept.refl w31 (fun k_ => ¬ (w30.heap.size ≤ k_ ∧ k_ < w31.heap.size)))
  refine hK.out _ _ ⟨(ld_ (ty := 81) (blk_kept BKgb20.out Ch22.out (fun h_ => h_ rfl)) hu81 rfl (by kernel_rfl)), (ld_ (ty := 81) (blk_kept BKgb24.out Ch26.out (fun h_ => h_ rfl)) hu81 rfl (by kernel_rfl))⟩ (fun hHeld => ?_)
  clear hK K
  refine norm_ (a' := ?_) ?_ ?_
  rotate_left
  · show Act.put _ (some 21) _ = _
    simp only [Act.put, List.setIfInBounds_toArray, List.set_cons_zero, List.set_cons_succ, i64_w, i32_w]
    rfl
  refine one_ (i := 3) (N := some 23) #[true, true, true, true, false, false] rfl rfl (by kernel_rfl) (by decide) (fun K hK => ?_)
  refine goes_ Try.func62 (by kernel_rfl) rfl #[.agg #[.int .i64 a1_0, .int .i64 a1_1, .int .i64 a1_2, .int .i64 a1_3, .int .i64 a1_4, .slice A1_5 l1_5.length c1_5, .slice A1_6 l1_6.length c1_6, .bool a1_7, .int .i64 a1_8, .int .i64 a1_9, .slice A1_10 l1_10.length c1_10, .bool a1_11, .int .i64 a1_12, .int .i64 a1_13, .slice A1_14 l1_14.length c1_14, .int .i64 a1_15, .int .i64 a1_16]] (by rfl) rfl rfl (by (try simp only [List.map_toArray, List.map_cons, List.map_nil]); first | done | rfl) ?_
  refine (laws_toSender.calls k a1_0 a1_1 a1_2 a1_3 a1_4 A1_5 c1_5 l1_5 A1_6 c1_6 l1_6 a1_7 a1_8 a1_9 A1_10 c1_10 l1_10 a1_11 a1_12 a1_13 A1_14 c1_14 l1_14 a1_15 a1_16 x1_0 x1_1 x1_2 x1_3 x1_4 x1_5 x1_6 x1_7 x1_8 x1_9 x1_10 x1_11 x1_12 x1_13 x1_14 x1_15 x1_16 _ (Kd.C_below HR1_5.out HB.out) HC1_5.out (Kd.C_below HR1_6.out HB.out) HC1_6.out (Kd.C_below HR1_10.out HB.out) HC1_10.out (Kd.C_below HR1_14.out HB.out) HC1_14.out Eto1.out).mono ?_
  rintro e w38 ⟨v5, v6, v10, v14, rfl, ho5, ho6, ho10, ho14, hb⟩
  refine ⟨_, rfl, ?_⟩
  have OCh22_Ch39 := Aside0.mk (show gb20 < w31.heap.size from Nat.lt_of_lt_of_le (blk_lt BKgb20.out) Ch22.out.1)
  have OCh26_Ch39 := Aside0.mk (show gb24 < w31.heap.size from Nat.lt_of_lt_of_le (blk_lt BKgb24.out) Ch26.out.1)
  have OCh32_Ch39 := Aside0.mk (show w31.heap.size ≤ w31.heap.size from Ch32.out.1)
  have OBCh39 := Aside0.mk (show w.heap.size ≤ w31.heap.size from HB.out.size)
  obtain ⟨A40, c40, rfl⟩ := Kd.R_slice ho5
  have RX40 := Aside0.mk (lw_Rcap ho5)
  obtain ⟨A41, c41, rfl⟩ := Kd.R_slice ho6
  have RX41 := Aside0.mk (lw_Rcap ho6)
  obtain ⟨A42, c42, rfl⟩ := Kd.R_slice ho10
  have RX42 := Aside0.mk (lw_Rcap ho10)
  obtain ⟨A43, c43, rfl⟩ := Kd.R_slice ho14
  have RX43 := Aside0.mk (lw_Rcap ho14)
  clear ho5 ho6 ho10 ho14
  have q0 := Aside0.mk (below_step HB.out hb)
  have q1 := Aside0.mk (Kept.below Ch22.out hb)
  have q2 := Aside0.mk (Kept.below Ch26.out hb)
  have q3 := Aside0.mk (Kept.below Ch32.out hb)
  clear HB Ch22 Ch26 Ch32
  have HB := q0
  have Ch22 := q1
  have Ch26 := q2
  have Ch32 := q3
  clear q0 q1 q2 q3
  clear hb
  have Ch39 := Aside0.mk (Kept.refl w38 (fun k_ => ¬ (w31.heap.size ≤ k_ ∧ k_ < w38.heap.size)))
  refine hK.out _ _ ⟨(ld_ (ty := 81) (blk_kept BKgb20.out Ch22.out (fun h_ => h_ rfl)) hu81 rfl (by kernel_rfl)), (ld_ (ty := 81) (blk_kept BKgb24.out Ch26.out (fun h_ => h_ rfl)) hu81 rfl (by kernel_rfl))⟩ (fun hHeld => ?_)
  clear hK K
  refine norm_ (a' := ?_) ?_ ?_
  rotate_left
  · show Act.put _ (some 23) _ = _
    simp only [Act.put, List.setIfInBounds_toArray, List.set_cons_zero, List.set_cons_succ, i64_w, i32_w]
    rfl
  refine one_ (i := 4) (N := some 24) #[true, true, true, true, true, false] rfl rfl (by kernel_rfl) (by decide) (fun K hK => ?_)
  refine goes_ Try.func61 (by kernel_rfl) rfl #[.agg #[.int .i64 x0_0, .int .i64 x0_1, .int .i64 x0_2, .int .i64 x0_3, .int .i64 x0_4, .slice A33 x0_5.length c33, .slice A34 x0_6.length c34, .bool x0_7, .int .i64 x0_8, .int .i64 x0_9, .slice A35 x0_10.length c35, .bool x0_11, .int .i64 x0_12, .int .i64 x0_13, .slice A36 x0_14.length c36, .int .i64 x0_15, .int .i64 x0_16], .agg #[.int .i64 x1_0, .int .i64 x1_1, .int .i64 x1_2, .int .i64 x1_3, .int .i64 x1_4, .slice A40 x1_5.length c40, .slice A41 x1_6.length c41, .bool x1_7, .int .i64 x1_8, .int .i64 x1_9, .slice A42 x1_10.length c42, .bool x1_11, .int .i64 x1_12, .int .i64 x1_13, .slice A43 x1_14.length c43, .int .i64 x1_15, .int .i64 x1_16]] (by rfl) rfl rfl (by (try simp only [List.map_toArray, List.map_cons, List.map_nil]); first | done | rfl) ?_
  refine (spec_SameSenders.calls k x0_0 x0_1 x0_2 x0_3 x0_4 A33 c33 x0_5 A34 c34 x0_6 x0_7 x0_8 x0_9 A35 c35 x0_10 x0_11 x0_12 x0_13 A36 c36 x0_14 x0_15 x0_16 x1_0 x1_1 x1_2 x1_3 x1_4 A40 c40 x1_5 A41 c41 x1_6 x1_7 x1_8 x1_9 A42 c42 x1_10 x1_11 x1_12 x1_13 A43 c43 x1_14 x1_15 x1_16 z0 _ (Kd.R_reads' (lw_Rheld RX33.out Ch32.out)).2.2 (lw_Rlen (lw_Rheld RX33.out Ch32.out)) (Kd.R_reads' (lw_Rheld RX34.out Ch32.out)).2.2 (lw_Rlen (lw_Rheld RX34.out Ch32.out)) (Kd.R_reads' (lw_Rheld RX35.out Ch32.out)).2.2 (lw_Rlen (lw_Rheld RX35.out Ch32.out)) (Kd.R_reads' (lw_Rheld RX36.out Ch32.out)).2.2 (lw_Rlen (lw_Rheld RX36.out Ch32.out)) (Kd.R_reads' (lw_Rheld RX40.out Ch39.out)).2.2 (lw_Rlen (lw_Rheld RX40.out Ch39.out)) (Kd.R_reads' (lw_Rheld RX41.out Ch39.out)).2.2 (lw_Rlen (lw_Rheld RX41.out Ch39.out)) (Kd.R_reads' (lw_Rheld RX42.out Ch39.out)).2.2 (lw_Rlen (lw_Rheld RX42.out Ch39.out)) (Kd.R_reads' (lw_Rheld RX43.out Ch39.out)).2.2 (lw_Rlen (lw_Rheld RX43.out Ch39.out)) Ey.out).mono ?_
  rintro e w45 ⟨rfl, hb⟩
  refine ⟨_, rfl, ?_⟩
  have q0 := Aside0.mk (below_step HB.out hb)
  have q1 := Aside0.mk (Kept.below Ch22.out hb)
  have q2 := Aside0.mk (Kept.below Ch26.out hb)
  have q3 := Aside0.mk (Kept.below Ch32.out hb)
  have q4 := Aside0.mk (Kept.below Ch39.out hb)
  clear HB Ch22 Ch26 Ch32 Ch39
  have HB := q0
  have Ch22 := q1
  have Ch26 := q2
  have Ch32 := q3
  have Ch39 := q4
  clear q0 q1 q2 q3 q4
  clear hb
  refine hK.out _ _ ⟨(ld_ (ty := 81) (blk_kept BKgb20.out Ch22.out (fun h_ => h_ rfl)) hu81 rfl (by kernel_rfl)), (ld_ (ty := 81) (blk_kept BKgb24.out Ch26.out (fun h_ => h_ rfl)) hu81 rfl (by kernel_rfl))⟩ (fun hHeld => ?_)
  clear hK K
  refine norm_ (a' := ?_) ?_ ?_
  rotate_left
  · show Act.put _ (some 24) _ = _
    simp only [Act.put, List.setIfInBounds_toArray, List.set_cons_zero, List.set_cons_succ, i64_w, i32_w]
    rfl
  refine pure_ (i := 5) (N := some 6) (v := ?_) (a' := ?_) #[true, true, true, true, true, true] rfl rfl (by kernel_rfl) (fun _ _ _ h => h) (Or.inl ⟨by rfl, ?_⟩) ?_ ?_
  rotate_left
  · intro w'
    go_simp
    with_reducible rfl
  rotate_left
  · simp only [Act.put, List.setIfInBounds_toArray, List.set_cons_zero, List.set_cons_succ, i64_w, i32_w]
    rfl
  refine done_ (by kernel_rfl) ?_
  clear hHeld
  go_wp2_with (first | ((with_reducible refine gate_dst (N := 25) rfl ?_); (try simp only [Act.put, List.setIfInBounds_toArray, List.set_cons_zero, List.set_cons_succ]); refine ldw_ rfl 81 (.tmp 2) rfl rfl (blk_kept BKgb20.out Ch22.out (fun h_ => h_ rfl)) hu81 rfl (by kernel_rfl) ?_) | ((with_reducible refine gate_callee (f := 62) rfl ?_); refine goesL_ (some 26) rfl rfl Try.func62 (by kernel_rfl) rfl #[.agg #[.int .i64 a0_0, .int .i64 a0_1, .int .i64 a0_2, .int .i64 a0_3, .int .i64 a0_4, .slice A0_5 l0_5.length c0_5, .slice A0_6 l0_6.length c0_6, .bool a0_7, .int .i64 a0_8, .int .i64 a0_9, .slice A0_10 l0_10.length c0_10, .bool a0_11, .int .i64 a0_12, .int .i64 a0_13, .slice A0_14 l0_14.length c0_14, .int .i64 a0_15, .int .i64 a0_16]] rfl (by (try simp only [List.map_toArray, List.map_cons, List.map_nil]); first | done | rfl) ?_; refine (laws_toSender.calls k a0_0 a0_1 a0_2 a0_3 a0_4 A0_5 c0_5 l0_5 A0_6 c0_6 l0_6 a0_7 a0_8 a0_9 A0_10 c0_10 l0_10 a0_11 a0_12 a0_13 A0_14 c0_14 l0_14 a0_15 a0_16 x0_0 x0_1 x0_2 x0_3 x0_4 x0_5 x0_6 x0_7 x0_8 x0_9 x0_10 x0_11 x0_12 x0_13 x0_14 x0_15 x0_16 _ (Kd.C_below HR0_5.out HB.out) HC0_5.out (Kd.C_below HR0_6.out HB.out) HC0_6.out (Kd.C_below HR0_10.out HB.out) HC0_10.out (Kd.C_below HR0_14.out HB.out) HC0_14.out Eto0.out).mono ?_; rintro e w46 ⟨v5, v6, v10, v14, rfl, ho5, ho6, ho10, ho14, hb⟩; refine ⟨_, rfl, ?_⟩; have OCh22_Ch47 := Aside0.mk (show gb20 < w45.heap.size from Nat.lt_of_lt_of_le (blk_lt BKgb20.out) Ch22.out.1); have OCh26_Ch47 := Aside0.mk (show gb24 < w45.heap.size from Nat.lt_of_lt_of_le (blk_lt BKgb24.out) Ch26.out.1); have OBCh47 := Aside0.mk (show w.heap.size ≤ w45.heap.size from HB.out.size); obtain ⟨A48, c48, rfl⟩ := Kd.R_slice ho5; have RX48 := Aside0.mk (lw_Rcap ho5); obtain ⟨A49, c49, rfl⟩ := Kd.R_slice ho6; have RX49 := Aside0.mk (lw_Rcap ho6); obtain ⟨A50, c50, rfl⟩ := Kd.R_slice ho10; have RX50 := Aside0.mk (lw_Rcap ho10); obtain ⟨A51, c51, rfl⟩ := Kd.R_slice ho14; have RX51 := Aside0.mk (lw_Rcap ho14); clear ho5 ho6 ho10 ho14; have q0 := Aside0.mk (below_step HB.out hb); have q1 := Aside0.mk (Kept.below Ch22.out hb); have q2 := Aside0.mk (Kept.below Ch26.out hb); clear HB Ch22 Ch26; have HB := q0; have Ch22 := q1; have Ch26 := q2; clear q0 q1 q2; clear hb; have Ch47 := Aside0.mk (Kept.refl w46 (fun k_ => ¬ (w45.heap.size ≤ k_ ∧ k_ < w46.heap.size)))) | ((with_reducible refine gate_dst (N := 7) rfl ?_); refine box_event ?hg (N := 7) ?hd (cs := #[.int .i64 0, .int .i64 0, .int .i64 0, .int .i64 0, .int .i64 0, .slice none 0 0, .slice none 0 0, .bool false, .int .i64 0, .int .i64 0, .slice none 0 0, .bool false, .int .i64 0, .int .i64 0, .slice none 0 0, .int .i64 0, .int .i64 0]) (t := 87) ?hr ?_; (case hd => rfl); (case hg => rfl); (case hr => first | (go_simp; done) | (go_simp; rfl)); intro gb53 hg w54 hbox hb; have GBgb53 := Aside0.mk (show w.heap.size ≤ gb53 by rw [hg]; exact HB.out.size); have GCh22_gb53 := Aside0.mk (show w21.heap.size ≤ gb53 by rw [hg]; exact Ch22.out.1); have GCh26_gb53 := Aside0.mk (show w25.heap.size ≤ gb53 by rw [hg]; exact Ch26.out.1); have GCh47_gb53 := Aside0.mk (show w46.heap.size ≤ gb53 by rw [hg]; exact Ch47.out.1); have q0 := Aside0.mk (below_step HB.out hb); have q1 := Aside0.mk (Kept.below Ch22.out hb); have q2 := Aside0.mk (Kept.below Ch26.out hb); have q3 := Aside0.mk (Kept.below Ch47.out hb); clear HB Ch22 Ch26 Ch47; have HB := q0; have Ch22 := q1; have Ch26 := q2; have Ch47 := q3; clear q0 q1 q2 q3; clear hb; have BZ := Aside0.mk hbox; clear hbox hg) | ((with_reducible refine gate_store (t := 87) (p := 7) rfl ?_); (try simp only [Act.put, List.setIfInBounds_toArray, List.set_cons_zero, List.set_cons_succ]); refine store_event (t := 87) (p := 7) (v := ?vo_w55) (w1 := (((((((((((((((((w54.setCell ⟨gb53, 0, none⟩ (.int .i64 x0_0)).setCell ⟨gb53, 1, none⟩ (.int .i64 x0_1)).setCell ⟨gb53, 2, none⟩ (.int .i64 x0_2)).setCell ⟨gb53, 3, none⟩ (.int .i64 x0_3)).setCell ⟨gb53, 4, none⟩ (.int .i64 x0_4)).setCell ⟨gb53, 5, none⟩ (.slice A48 x0_5.length c48)).setCell ⟨gb53, 6, none⟩ (.slice A49 x0_6.length c49)).setCell ⟨gb53, 7, none⟩ (.bool x0_7)).setCell ⟨gb53, 8, none⟩ (.int .i64 x0_8)).setCell ⟨gb53, 9, none⟩ (.int .i64 x0_9)).setCell ⟨gb53, 10, none⟩ (.slice A50 x0_10.length c50)).setCell ⟨gb53, 11, none⟩ (.bool x0_11)).setCell ⟨gb53, 12, none⟩ (.int .i64 x0_12)).setCell ⟨gb53, 13, none⟩ (.int .i64 x0_13)).setCell ⟨gb53, 14, none⟩ (.slice A51 x0_14.length c51)).setCell ⟨gb53, 15, none⟩ (.int .i64 x0_15)).setCell ⟨gb53, 16, none⟩ (.int .i64 x0_16))) ?hg ?ho ?hn ?hr ?_; (case ho => rfl); (case hg => rfl); (case hn => rfl); (case hr => exact str_ rfl rfl rfl BZ.out rfl (by kernel_rfl) rfl (lw_set17 (W := w54) (g := gb53) (.int .i64 x0_0) (.int .i64 x0_1) (.int .i64 x0_2) (.int .i64 x0_3) (.int .i64 x0_4) (.slice A48 x0_5.length c48) (.slice A49 x0_6.length c49) (.bool x0_7) (.int .i64 x0_8) (.int .i64 x0_9) (.slice A50 x0_10.length c50) (.bool x0_11) (.int .i64 x0_12) (.int .i64 x0_13) (.slice A51 x0_14.length c51) (.int .i64 x0_15) (.int .i64 x0_16))); intro w55 hw; have q0 := Aside0.mk (show Below w.heap.size w w55 by rw [hw]; exact lw_putb17 HB.out GBgb53.out (.int .i64 x0_0) (.int .i64 x0_1) (.int .i64 x0_2) (.int .i64 x0_3) (.int .i64 x0_4) (.slice A48 x0_5.length c48) (.slice A49 x0_6.length c49) (.bool x0_7) (.int .i64 x0_8) (.int .i64 x0_9) (.slice A50 x0_10.length c50) (.bool x0_11) (.int .i64 x0_12) (.int .i64 x0_13) (.slice A51 x0_14.length c51) (.int .i64 x0_15) (.int .i64 x0_16)); have q1 := Aside0.mk (show Kept w21 w55 (fun k_ => ¬ k_ = gb20) by rw [hw]; exact lw_putk17 Ch22.out (.inr GCh22_gb53.out) (.int .i64 x0_0) (.int .i64 x0_1) (.int .i64 x0_2) (.int .i64 x0_3) (.int .i64 x0_4) (.slice A48 x0_5.length c48) (.slice A49 x0_6.length c49) (.bool x0_7) (.int .i64 x0_8) (.int .i64 x0_9) (.slice A50 x0_10.length c50) (.bool x0_11) (.int .i64 x0_12) (.int .i64 x0_13) (.slice A51 x0_14.length c51) (.int .i64 x0_15) (.int .i64 x0_16)); have q2 := Aside0.mk (show Kept w25 w55 (fun k_ => ¬ k_ = gb24) by rw [hw]; exact lw_putk17 Ch26.out (.inr GCh26_gb53.out) (.int .i64 x0_0) (.int .i64 x0_1) (.int .i64 x0_2) (.int .i64 x0_3) (.int .i64 x0_4) (.slice A48 x0_5.length c48) (.slice A49 x0_6.length c49) (.bool x0_7) (.int .i64 x0_8) (.int .i64 x0_9) (.slice A50 x0_10.length c50) (.bool x0_11) (.int .i64 x0_12) (.int .i64 x0_13) (.slice A51 x0_14.length c51) (.int .i64 x0_15) (.int .i64 x0_16)); have q3 := Aside0.mk (show Kept w46 w55 (fun k_ => ¬ (w45.heap.size ≤ k_ ∧ k_ < w46.heap.size)) by rw [hw]; exact lw_putk17 Ch47.out (.inr GCh47_gb53.out) (.int .i64 x0_0) (.int .i64 x0_1) (.int .i64 x0_2) (.int .i64 x0_3) (.int .i64 x0_4) (.slice A48 x0_5.length c48) (.slice A49 x0_6.length c49) (.bool x0_7) (.int .i64 x0_8) (.int .i64 x0_9) (.slice A50 x0_10.length c50) (.bool x0_11) (.int .i64 x0_12) (.int .i64 x0_13) (.slice A51 x0_14.length c51) (.int .i64 x0_15) (.int .i64 x0_16)); clear HB Ch22 Ch26 Ch47; have HB := q0; have Ch22 := q1; have Ch26 := q2; have Ch47 := q3; clear q0 q1 q2 q3; have BKgb53 := Aside0.mk (show w55.heap[gb53]? = some (.cells #[.int .i64 x0_0, .int .i64 x0_1, .int .i64 x0_2, .int .i64 x0_3, .int .i64 x0_4, .slice A48 x0_5.length c48, .slice A49 x0_6.length c49, .bool x0_7, .int .i64 x0_8, .int .i64 x0_9, .slice A50 x0_10.length c50, .bool x0_11, .int .i64 x0_12, .int .i64 x0_13, .slice A51 x0_14.length c51, .int .i64 x0_15, .int .i64 x0_16] 87 (0, 0)) by rw [hw]; exact lw_put17 BZ.out (.int .i64 x0_0) (.int .i64 x0_1) (.int .i64 x0_2) (.int .i64 x0_3) (.int .i64 x0_4) (.slice A48 x0_5.length c48) (.slice A49 x0_6.length c49) (.bool x0_7) (.int .i64 x0_8) (.int .i64 x0_9) (.slice A50 x0_10.length c50) (.bool x0_11) (.int .i64 x0_12) (.int .i64 x0_13) (.slice A51 x0_14.length c51) (.int .i64 x0_15) (.int .i64 x0_16)); clear hw BZ; have Ch56 := Aside0.mk (Kept.refl w55 (fun k_ => ¬ k_ = gb53))) | ((with_reducible refine gate_dst (N := 27) rfl ?_); (try simp only [Act.put, List.setIfInBounds_toArray, List.set_cons_zero, List.set_cons_succ]); refine ldw_ rfl 81 (.tmp 3) rfl rfl (blk_kept BKgb24.out Ch26.out (fun h_ => h_ rfl)) hu81 rfl (by kernel_rfl) ?_) | ((with_reducible refine gate_callee (f := 62) rfl ?_); refine goesL_ (some 28) rfl rfl Try.func62 (by kernel_rfl) rfl #[.agg #[.int .i64 a1_0, .int .i64 a1_1, .int .i64 a1_2, .int .i64 a1_3, .int .i64 a1_4, .slice A1_5 l1_5.length c1_5, .slice A1_6 l1_6.length c1_6, .bool a1_7, .int .i64 a1_8, .int .i64 a1_9, .slice A1_10 l1_10.length c1_10, .bool a1_11, .int .i64 a1_12, .int .i64 a1_13, .slice A1_14 l1_14.length c1_14, .int .i64 a1_15, .int .i64 a1_16]] rfl (by (try simp only [List.map_toArray, List.map_cons, List.map_nil]); first | done | rfl) ?_; refine (laws_toSender.calls k a1_0 a1_1 a1_2 a1_3 a1_4 A1_5 c1_5 l1_5 A1_6 c1_6 l1_6 a1_7 a1_8 a1_9 A1_10 c1_10 l1_10 a1_11 a1_12 a1_13 A1_14 c1_14 l1_14 a1_15 a1_16 x1_0 x1_1 x1_2 x1_3 x1_4 x1_5 x1_6 x1_7 x1_8 x1_9 x1_10 x1_11 x1_12 x1_13 x1_14 x1_15 x1_16 _ (Kd.C_below HR1_5.out HB.out) HC1_5.out (Kd.C_below HR1_6.out HB.out) HC1_6.out (Kd.C_below HR1_10.out HB.out) HC1_10.out (Kd.C_below HR1_14.out HB.out) HC1_14.out Eto1.out).mono ?_; rintro e w58 ⟨v5, v6, v10, v14, rfl, ho5, ho6, ho10, ho14, hb⟩; refine ⟨_, rfl, ?_⟩; have OCh22_Ch59 := Aside0.mk (show gb20 < w55.heap.size from Nat.lt_of_lt_of_le (blk_lt BKgb20.out) Ch22.out.1); have OCh26_Ch59 := Aside0.mk (show gb24 < w55.heap.size from Nat.lt_of_lt_of_le (blk_lt BKgb24.out) Ch26.out.1); have OCh47_Ch59 := Aside0.mk (show w46.heap.size ≤ w55.heap.size from Ch47.out.1); have OCh56_Ch59 := Aside0.mk (show gb53 < w55.heap.size from Nat.lt_of_lt_of_le (blk_lt BKgb53.out) Ch56.out.1); have OBCh59 := Aside0.mk (show w.heap.size ≤ w55.heap.size from HB.out.size); obtain ⟨A60, c60, rfl⟩ := Kd.R_slice ho5; have RX60 := Aside0.mk (lw_Rcap ho5); obtain ⟨A61, c61, rfl⟩ := Kd.R_slice ho6; have RX61 := Aside0.mk (lw_Rcap ho6); obtain ⟨A62, c62, rfl⟩ := Kd.R_slice ho10; have RX62 := Aside0.mk (lw_Rcap ho10); obtain ⟨A63, c63, rfl⟩ := Kd.R_slice ho14; have RX63 := Aside0.mk (lw_Rcap ho14); clear ho5 ho6 ho10 ho14; have q0 := Aside0.mk (below_step HB.out hb); have q1 := Aside0.mk (Kept.below Ch22.out hb); have q2 := Aside0.mk (Kept.below Ch26.out hb); have q3 := Aside0.mk (Kept.below Ch47.out hb); have q4 := Aside0.mk (Kept.below Ch56.out hb); clear HB Ch22 Ch26 Ch47 Ch56; have HB := q0; have Ch22 := q1; have Ch26 := q2; have Ch47 := q3; have Ch56 := q4; clear q0 q1 q2 q3 q4; clear hb; have Ch59 := Aside0.mk (Kept.refl w58 (fun k_ => ¬ (w55.heap.size ≤ k_ ∧ k_ < w58.heap.size)))) | ((with_reducible refine gate_dst (N := 8) rfl ?_); refine box_event ?hg (N := 8) ?hd (cs := #[.int .i64 0, .int .i64 0, .int .i64 0, .int .i64 0, .int .i64 0, .slice none 0 0, .slice none 0 0, .bool false, .int .i64 0, .int .i64 0, .slice none 0 0, .bool false, .int .i64 0, .int .i64 0, .slice none 0 0, .int .i64 0, .int .i64 0]) (t := 87) ?hr ?_; (case hd => rfl); (case hg => rfl); (case hr => first | (go_simp; done) | (go_simp; rfl)); intro gb65 hg w66 hbox hb; have GBgb65 := Aside0.mk (show w.heap.size ≤ gb65 by rw [hg]; exact HB.out.size); have GCh22_gb65 := Aside0.mk (show w21.heap.size ≤ gb65 by rw [hg]; exact Ch22.out.1); have GCh26_gb65 := Aside0.mk (show w25.heap.size ≤ gb65 by rw [hg]; exact Ch26.out.1); have GCh47_gb65 := Aside0.mk (show w46.heap.size ≤ gb65 by rw [hg]; exact Ch47.out.1); have GCh56_gb65 := Aside0.mk (show w55.heap.size ≤ gb65 by rw [hg]; exact Ch56.out.1); have GCh59_gb65 := Aside0.mk (show w58.heap.size ≤ gb65 by rw [hg]; exact Ch59.out.1); have q0 := Aside0.mk (below_step HB.out hb); have q1 := Aside0.mk (Kept.below Ch22.out hb); have q2 := Aside0.mk (Kept.below Ch26.out hb); have q3 := Aside0.mk (Kept.below Ch47.out hb); have q4 := Aside0.mk (Kept.below Ch56.out hb); have q5 := Aside0.mk (Kept.below Ch59.out hb); clear HB Ch22 Ch26 Ch47 Ch56 Ch59; have HB := q0; have Ch22 := q1; have Ch26 := q2; have Ch47 := q3; have Ch56 := q4; have Ch59 := q5; clear q0 q1 q2 q3 q4 q5; clear hb; have BZ := Aside0.mk hbox; clear hbox hg) | ((with_reducible refine gate_store (t := 87) (p := 8) rfl ?_); (try simp only [Act.put, List.setIfInBounds_toArray, List.set_cons_zero, List.set_cons_succ]); refine store_event (t := 87) (p := 8) (v := ?vo_w67) (w1 := (((((((((((((((((w66.setCell ⟨gb65, 0, none⟩ (.int .i64 x1_0)).setCell ⟨gb65, 1, none⟩ (.int .i64 x1_1)).setCell ⟨gb65, 2, none⟩ (.int .i64 x1_2)).setCell ⟨gb65, 3, none⟩ (.int .i64 x1_3)).setCell ⟨gb65, 4, none⟩ (.int .i64 x1_4)).setCell ⟨gb65, 5, none⟩ (.slice A60 x1_5.length c60)).setCell ⟨gb65, 6, none⟩ (.slice A61 x1_6.length c61)).setCell ⟨gb65, 7, none⟩ (.bool x1_7)).setCell ⟨gb65, 8, none⟩ (.int .i64 x1_8)).setCell ⟨gb65, 9, none⟩ (.int .i64 x1_9)).setCell ⟨gb65, 10, none⟩ (.slice A62 x1_10.length c62)).setCell ⟨gb65, 11, none⟩ (.bool x1_11)).setCell ⟨gb65, 12, none⟩ (.int .i64 x1_12)).setCell ⟨gb65, 13, none⟩ (.int .i64 x1_13)).setCell ⟨gb65, 14, none⟩ (.slice A63 x1_14.length c63)).setCell ⟨gb65, 15, none⟩ (.int .i64 x1_15)).setCell ⟨gb65, 16, none⟩ (.int .i64 x1_16))) ?hg ?ho ?hn ?hr ?_; (case ho => rfl); (case hg => rfl); (case hn => rfl); (case hr => exact str_ rfl rfl rfl BZ.out rfl (by kernel_rfl) rfl (lw_set17 (W := w66) (g := gb65) (.int .i64 x1_0) (.int .i64 x1_1) (.int .i64 x1_2) (.int .i64 x1_3) (.int .i64 x1_4) (.slice A60 x1_5.length c60) (.slice A61 x1_6.length c61) (.bool x1_7) (.int .i64 x1_8) (.int .i64 x1_9) (.slice A62 x1_10.length c62) (.bool x1_11) (.int .i64 x1_12) (.int .i64 x1_13) (.slice A63 x1_14.length c63) (.int .i64 x1_15) (.int .i64 x1_16))); intro w67 hw; have q0 := Aside0.mk (show Below w.heap.size w w67 by rw [hw]; exact lw_putb17 HB.out GBgb65.out (.int .i64 x1_0) (.int .i64 x1_1) (.int .i64 x1_2) (.int .i64 x1_3) (.int .i64 x1_4) (.slice A60 x1_5.length c60) (.slice A61 x1_6.length c61) (.bool x1_7) (.int .i64 x1_8) (.int .i64 x1_9) (.slice A62 x1_10.length c62) (.bool x1_11) (.int .i64 x1_12) (.int .i64 x1_13) (.slice A63 x1_14.length c63) (.int .i64 x1_15) (.int .i64 x1_16)); have q1 := Aside0.mk (show Kept w21 w67 (fun k_ => ¬ k_ = gb20) by rw [hw]; exact lw_putk17 Ch22.out (.inr GCh22_gb65.out) (.int .i64 x1_0) (.int .i64 x1_1) (.int .i64 x1_2) (.int .i64 x1_3) (.int .i64 x1_4) (.slice A60 x1_5.length c60) (.slice A61 x1_6.length c61) (.bool x1_7) (.int .i64 x1_8) (.int .i64 x1_9) (.slice A62 x1_10.length c62) (.bool x1_11) (.int .i64 x1_12) (.int .i64 x1_13) (.slice A63 x1_14.length c63) (.int .i64 x1_15) (.int .i64 x1_16)); have q2 := Aside0.mk (show Kept w25 w67 (fun k_ => ¬ k_ = gb24) by rw [hw]; exact lw_putk17 Ch26.out (.inr GCh26_gb65.out) (.int .i64 x1_0) (.int .i64 x1_1) (.int .i64 x1_2) (.int .i64 x1_3) (.int .i64 x1_4) (.slice A60 x1_5.length c60) (.slice A61 x1_6.length c61) (.bool x1_7) (.int .i64 x1_8) (.int .i64 x1_9) (.slice A62 x1_10.length c62) (.bool x1_11) (.int .i64 x1_12) (.int .i64 x1_13) (.slice A63 x1_14.length c63) (.int .i64 x1_15) (.int .i64 x1_16)); have q3 := Aside0.mk (show Kept w46 w67 (fun k_ => ¬ (w45.heap.size ≤ k_ ∧ k_ < w46.heap.size)) by rw [hw]; exact lw_putk17 Ch47.out (.inr GCh47_gb65.out) (.int .i64 x1_0) (.int .i64 x1_1) (.int .i64 x1_2) (.int .i64 x1_3) (.int .i64 x1_4) (.slice A60 x1_5.length c60) (.slice A61 x1_6.length c61) (.bool x1_7) (.int .i64 x1_8) (.int .i64 x1_9) (.slice A62 x1_10.length c62) (.bool x1_11) (.int .i64 x1_12) (.int .i64 x1_13) (.slice A63 x1_14.length c63) (.int .i64 x1_15) (.int .i64 x1_16)); have q4 := Aside0.mk (show Kept w55 w67 (fun k_ => ¬ k_ = gb53) by rw [hw]; exact lw_putk17 Ch56.out (.inr GCh56_gb65.out) (.int .i64 x1_0) (.int .i64 x1_1) (.int .i64 x1_2) (.int .i64 x1_3) (.int .i64 x1_4) (.slice A60 x1_5.length c60) (.slice A61 x1_6.length c61) (.bool x1_7) (.int .i64 x1_8) (.int .i64 x1_9) (.slice A62 x1_10.length c62) (.bool x1_11) (.int .i64 x1_12) (.int .i64 x1_13) (.slice A63 x1_14.length c63) (.int .i64 x1_15) (.int .i64 x1_16)); have q5 := Aside0.mk (show Kept w58 w67 (fun k_ => ¬ (w55.heap.size ≤ k_ ∧ k_ < w58.heap.size)) by rw [hw]; exact lw_putk17 Ch59.out (.inr GCh59_gb65.out) (.int .i64 x1_0) (.int .i64 x1_1) (.int .i64 x1_2) (.int .i64 x1_3) (.int .i64 x1_4) (.slice A60 x1_5.length c60) (.slice A61 x1_6.length c61) (.bool x1_7) (.int .i64 x1_8) (.int .i64 x1_9) (.slice A62 x1_10.length c62) (.bool x1_11) (.int .i64 x1_12) (.int .i64 x1_13) (.slice A63 x1_14.length c63) (.int .i64 x1_15) (.int .i64 x1_16)); clear HB Ch22 Ch26 Ch47 Ch56 Ch59; have HB := q0; have Ch22 := q1; have Ch26 := q2; have Ch47 := q3; have Ch56 := q4; have Ch59 := q5; clear q0 q1 q2 q3 q4 q5; have BKgb65 := Aside0.mk (show w67.heap[gb65]? = some (.cells #[.int .i64 x1_0, .int .i64 x1_1, .int .i64 x1_2, .int .i64 x1_3, .int .i64 x1_4, .slice A60 x1_5.length c60, .slice A61 x1_6.length c61, .bool x1_7, .int .i64 x1_8, .int .i64 x1_9, .slice A62 x1_10.length c62, .bool x1_11, .int .i64 x1_12, .int .i64 x1_13, .slice A63 x1_14.length c63, .int .i64 x1_15, .int .i64 x1_16] 87 (0, 0)) by rw [hw]; exact lw_put17 BZ.out (.int .i64 x1_0) (.int .i64 x1_1) (.int .i64 x1_2) (.int .i64 x1_3) (.int .i64 x1_4) (.slice A60 x1_5.length c60) (.slice A61 x1_6.length c61) (.bool x1_7) (.int .i64 x1_8) (.int .i64 x1_9) (.slice A62 x1_10.length c62) (.bool x1_11) (.int .i64 x1_12) (.int .i64 x1_13) (.slice A63 x1_14.length c63) (.int .i64 x1_15) (.int .i64 x1_16)); clear hw BZ; have Ch68 := Aside0.mk (Kept.refl w67 (fun k_ => ¬ k_ = gb65))) | ((with_reducible refine gate_dst (N := 29) rfl ?_); (try simp only [Act.put, List.setIfInBounds_toArray, List.set_cons_zero, List.set_cons_succ]); refine ldw_ rfl 87 (.tmp 7) rfl rfl (blk_kept BKgb53.out Ch56.out (fun h_ => h_ rfl)) hu87 rfl (by kernel_rfl) ?_) | ((with_reducible refine gate_dst (N := 30) rfl ?_); (try simp only [Act.put, List.setIfInBounds_toArray, List.set_cons_zero, List.set_cons_succ]); refine ldw_ rfl 87 (.tmp 8) rfl rfl (blk_kept BKgb65.out Ch68.out (fun h_ => h_ rfl)) hu87 rfl (by kernel_rfl) ?_) | ((with_reducible refine gate_callee (f := 63) rfl ?_); refine goesL_ (some 31) rfl rfl Try.func63 (by kernel_rfl) rfl #[.agg #[.int .i64 x0_0, .int .i64 x0_1, .int .i64 x0_2, .int .i64 x0_3, .int .i64 x0_4, .slice A48 x0_5.length c48, .slice A49 x0_6.length c49, .bool x0_7, .int .i64 x0_8, .int .i64 x0_9, .slice A50 x0_10.length c50, .bool x0_11, .int .i64 x0_12, .int .i64 x0_13, .slice A51 x0_14.length c51, .int .i64 x0_15, .int .i64 x0_16], .agg #[.int .i64 x1_0, .int .i64 x1_1, .int .i64 x1_2, .int .i64 x1_3, .int .i64 x1_4, .slice A60 x1_5.length c60, .slice A61 x1_6.length c61, .bool x1_7, .int .i64 x1_8, .int .i64 x1_9, .slice A62 x1_10.length c62, .bool x1_11, .int .i64 x1_12, .int .i64 x1_13, .slice A63 x1_14.length c63, .int .i64 x1_15, .int .i64 x1_16]] rfl (by (try simp only [List.map_toArray, List.map_cons, List.map_nil]); first | done | rfl) ?_; refine (impl_SameSenders.calls k x0_0 x0_1 x0_2 x0_3 x0_4 A48 c48 x0_5 A49 c49 x0_6 x0_7 x0_8 x0_9 A50 c50 x0_10 x0_11 x0_12 x0_13 A51 c51 x0_14 x0_15 x0_16 x1_0 x1_1 x1_2 x1_3 x1_4 A60 c60 x1_5 A61 c61 x1_6 x1_7 x1_8 x1_9 A62 c62 x1_10 x1_11 x1_12 x1_13 A63 c63 x1_14 x1_15 x1_16 z0 _ (Kd.R_reads' (lw_Rheld RX48.out Ch47.out)).2.2 (lw_Rlen (lw_Rheld RX48.out Ch47.out)) (Kd.R_reads' (lw_Rheld RX49.out Ch47.out)).2.2 (lw_Rlen (lw_Rheld RX49.out Ch47.out)) (Kd.R_reads' (lw_Rheld RX50.out Ch47.out)).2.2 (lw_Rlen (lw_Rheld RX50.out Ch47.out)) (Kd.R_reads' (lw_Rheld RX51.out Ch47.out)).2.2 (lw_Rlen (lw_Rheld RX51.out Ch47.out)) (Kd.R_reads' (lw_Rheld RX60.out Ch59.out)).2.2 (lw_Rlen (lw_Rheld RX60.out Ch59.out)) (Kd.R_reads' (lw_Rheld RX61.out Ch59.out)).2.2 (lw_Rlen (lw_Rheld RX61.out Ch59.out)) (Kd.R_reads' (lw_Rheld RX62.out Ch59.out)).2.2 (lw_Rlen (lw_Rheld RX62.out Ch59.out)) (Kd.R_reads' (lw_Rheld RX63.out Ch59.out)).2.2 (lw_Rlen (lw_Rheld RX63.out Ch59.out)) Ez.out).mono ?_; rintro e w70 ⟨rfl, hb⟩; refine ⟨_, rfl, ?_⟩; have q0 := Aside0.mk (below_step HB.out hb); have q1 := Aside0.mk (Kept.below Ch22.out hb); have q2 := Aside0.mk (Kept.below Ch26.out hb); have q3 := Aside0.mk (Kept.below Ch47.out hb); have q4 := Aside0.mk (Kept.below Ch56.out hb); have q5 := Aside0.mk (Kept.below Ch59.out hb); have q6 := Aside0.mk (Kept.below Ch68.out hb); clear HB Ch22 Ch26 Ch47 Ch56 Ch59 Ch68; have HB := q0; have Ch22 := q1; have Ch26 := q2; have Ch47 := q3; have Ch56 := q4; have Ch59 := q5; have Ch68 := q6; clear q0 q1 q2 q3 q4 q5 q6; clear hb))
  try go_wp2
  have q0 := Aside0.mk (below_drew1 HB.out)
  have q1 := Aside0.mk (Kept.drew Ch22.out)
  have q2 := Aside0.mk (Kept.drew Ch26.out)
  have q3 := Aside0.mk (Kept.drew Ch47.out)
  have q4 := Aside0.mk (Kept.drew Ch56.out)
  have q5 := Aside0.mk (Kept.drew Ch59.out)
  have q6 := Aside0.mk (Kept.drew Ch68.out)
  clear HB Ch22 Ch26 Ch47 Ch56 Ch59 Ch68
  have HB := q0
  have Ch22 := q1
  have Ch26 := q2
  have Ch47 := q3
  have Ch56 := q4
  have Ch59 := q5
  have Ch68 := q6
  clear q0 q1 q2 q3 q4 q5 q6
  refine start_ (n := 5) (S := fun w' => (Instr.loadAt 87 (.pointer (some ⟨gb53, 0, none⟩))).run Try.prog w' = .ok (.agg #[.int .i64 x0_0, .int .i64 x0_1, .int .i64 x0_2, .int .i64 x0_3, .int .i64 x0_4, .slice A48 x0_5.length c48, .slice A49 x0_6.length c49, .bool x0_7, .int .i64 x0_8, .int .i64 x0_9, .slice A50 x0_10.length c50, .bool x0_11, .int .i64 x0_12, .int .i64 x0_13, .slice A51 x0_14.length c51, .int .i64 x0_15, .int .i64 x0_16]) w' ∧ (Instr.loadAt 81 (.pointer (some ⟨gb20, 0, none⟩))).run Try.prog w' = .ok (.agg #[.int .i64 a0_0, .int .i64 a0_1, .int .i64 a0_2, .int .i64 a0_3, .int .i64 a0_4, .slice A0_5 l0_5.length c0_5, .slice A0_6 l0_6.length c0_6, .bool a0_7, .int .i64 a0_8, .int .i64 a0_9, .slice A0_10 l0_10.length c0_10, .bool a0_11, .int .i64 a0_12, .int .i64 a0_13, .slice A0_14 l0_14.length c0_14, .int .i64 a0_15, .int .i64 a0_16]) w') (ds := []) #[false, false, false, false, false] (by kernel_rfl) rfl rfl ⟨(ld_ (ty := 87) (blk_kept BKgb53.out Ch56.out (fun h_ => h_ rfl)) hu87 rfl (by kernel_rfl)), (ld_ (ty := 81) (blk_kept BKgb20.out Ch22.out (fun h_ => h_ rfl)) hu81 rfl (by kernel_rfl))⟩ (fun hHeld => ?_)
  generalize w70.drew = w71 at HB Ch22 Ch26 Ch47 Ch56 Ch59 Ch68 hHeld ⊢
  refine take_ (i := 0) (N := some 35) (v := ?_) (a' := ?_) #[true, false, false, false, false] rfl rfl (by kernel_rfl) (fun _ _ _ h => h) (Or.inl ⟨by rfl, ?_⟩) hHeld ?_ ?_
  rotate_left
  · rintro w' ⟨s0, s1⟩
    refine Eq.trans (ldx_ (p := .pointer (some ⟨gb53, 0, none⟩)) rfl (by rfl) s0) ?_
    with_reducible rfl
  rotate_left
  · simp only [Act.put, List.setIfInBounds_toArray, List.set_cons_zero, List.set_cons_succ, i64_w, i32_w]
    rfl
  refine take_ (i := 1) (N := some 36) (v := ?_) (a' := ?_) #[true, true, false, false, false] rfl rfl (by kernel_rfl) (fun _ _ _ h => h) (Or.inl ⟨by rfl, ?_⟩) hHeld ?_ ?_
  rotate_left
  · rintro w' ⟨s0, s1⟩
    refine Eq.trans (ldx_ (p := .pointer (some ⟨gb20, 0, none⟩)) rfl (by rfl) s1) ?_
    with_reducible rfl
  rotate_left
  · simp only [Act.put, List.setIfInBounds_toArray, List.set_cons_zero, List.set_cons_succ, i64_w, i32_w]
    rfl
  refine one_ (i := 2) (N := some 37) #[true, true, true, false, false] rfl rfl (by kernel_rfl) (by decide) (fun K hK => ?_)
  refine goes_ Try.func62 (by kernel_rfl) rfl #[.agg #[.int .i64 a0_0, .int .i64 a0_1, .int .i64 a0_2, .int .i64 a0_3, .int .i64 a0_4, .slice A0_5 l0_5.length c0_5, .slice A0_6 l0_6.length c0_6, .bool a0_7, .int .i64 a0_8, .int .i64 a0_9, .slice A0_10 l0_10.length c0_10, .bool a0_11, .int .i64 a0_12, .int .i64 a0_13, .slice A0_14 l0_14.length c0_14, .int .i64 a0_15, .int .i64 a0_16]] (by rfl) rfl rfl (by (try simp only [List.map_toArray, List.map_cons, List.map_nil]); first | done | rfl) ?_
  refine (laws_toSender.calls k a0_0 a0_1 a0_2 a0_3 a0_4 A0_5 c0_5 l0_5 A0_6 c0_6 l0_6 a0_7 a0_8 a0_9 A0_10 c0_10 l0_10 a0_11 a0_12 a0_13 A0_14 c0_14 l0_14 a0_15 a0_16 x0_0 x0_1 x0_2 x0_3 x0_4 x0_5 x0_6 x0_7 x0_8 x0_9 x0_10 x0_11 x0_12 x0_13 x0_14 x0_15 x0_16 _ (Kd.C_below HR0_5.out HB.out) HC0_5.out (Kd.C_below HR0_6.out HB.out) HC0_6.out (Kd.C_below HR0_10.out HB.out) HC0_10.out (Kd.C_below HR0_14.out HB.out) HC0_14.out Eto0.out).mono ?_
  rintro e w72 ⟨v5, v6, v10, v14, rfl, ho5, ho6, ho10, ho14, hb⟩
  refine ⟨_, rfl, ?_⟩
  have OCh22_Ch73 := Aside0.mk (show gb20 < w71.heap.size from Nat.lt_of_lt_of_le (blk_lt BKgb20.out) Ch22.out.1)
  have OCh26_Ch73 := Aside0.mk (show gb24 < w71.heap.size from Nat.lt_of_lt_of_le (blk_lt BKgb24.out) Ch26.out.1)
  have OCh47_Ch73 := Aside0.mk (show w46.heap.size ≤ w71.heap.size from Ch47.out.1)
  have OCh56_Ch73 := Aside0.mk (show gb53 < w71.heap.size from Nat.lt_of_lt_of_le (blk_lt BKgb53.out) Ch56.out.1)
  have OCh59_Ch73 := Aside0.mk (show w58.heap.size ≤ w71.heap.size from Ch59.out.1)
  have OCh68_Ch73 := Aside0.mk (show gb65 < w71.heap.size from Nat.lt_of_lt_of_le (blk_lt BKgb65.out) Ch68.out.1)
  have OBCh73 := Aside0.mk (show w.heap.size ≤ w71.heap.size from HB.out.size)
  obtain ⟨A74, c74, rfl⟩ := Kd.R_slice ho5
  have RX74 := Aside0.mk (lw_Rcap ho5)
  obtain ⟨A75, c75, rfl⟩ := Kd.R_slice ho6
  have RX75 := Aside0.mk (lw_Rcap ho6)
  obtain ⟨A76, c76, rfl⟩ := Kd.R_slice ho10
  have RX76 := Aside0.mk (lw_Rcap ho10)
  obtain ⟨A77, c77, rfl⟩ := Kd.R_slice ho14
  have RX77 := Aside0.mk (lw_Rcap ho14)
  clear ho5 ho6 ho10 ho14
  have q0 := Aside0.mk (below_step HB.out hb)
  have q1 := Aside0.mk (Kept.below Ch22.out hb)
  have q2 := Aside0.mk (Kept.below Ch26.out hb)
  have q3 := Aside0.mk (Kept.below Ch47.out hb)
  have q4 := Aside0.mk (Kept.below Ch56.out hb)
  have q5 := Aside0.mk (Kept.below Ch59.out hb)
  have q6 := Aside0.mk (Kept.below Ch68.out hb)
  clear HB Ch22 Ch26 Ch47 Ch56 Ch59 Ch68
  have HB := q0
  have Ch22 := q1
  have Ch26 := q2
  have Ch47 := q3
  have Ch56 := q4
  have Ch59 := q5
  have Ch68 := q6
  clear q0 q1 q2 q3 q4 q5 q6
  clear hb
  have Ch73 := Aside0.mk (Kept.refl w72 (fun k_ => ¬ (w71.heap.size ≤ k_ ∧ k_ < w72.heap.size)))
  refine hK.out _ _ ⟨(ld_ (ty := 87) (blk_kept BKgb53.out Ch56.out (fun h_ => h_ rfl)) hu87 rfl (by kernel_rfl)), (ld_ (ty := 81) (blk_kept BKgb20.out Ch22.out (fun h_ => h_ rfl)) hu81 rfl (by kernel_rfl))⟩ (fun hHeld => ?_)
  clear hK K
  refine norm_ (a' := ?_) ?_ ?_
  rotate_left
  · show Act.put _ (some 37) _ = _
    simp only [Act.put, List.setIfInBounds_toArray, List.set_cons_zero, List.set_cons_succ, i64_w, i32_w]
    rfl
  refine one_ (i := 3) (N := some 38) #[true, true, true, true, false] rfl rfl (by kernel_rfl) (by decide) (fun K hK => ?_)
  refine goes_ Try.func64 (by kernel_rfl) rfl #[.agg #[.int .i64 x0_0, .int .i64 x0_1, .int .i64 x0_2, .int .i64 x0_3, .int .i64 x0_4, .slice A48 x0_5.length c48, .slice A49 x0_6.length c49, .bool x0_7, .int .i64 x0_8, .int .i64 x0_9, .slice A50 x0_10.length c50, .bool x0_11, .int .i64 x0_12, .int .i64 x0_13, .slice A51 x0_14.length c51, .int .i64 x0_15, .int .i64 x0_16], .agg #[.int .i64 x0_0, .int .i64 x0_1, .int .i64 x0_2, .int .i64 x0_3, .int .i64 x0_4, .slice A74 x0_5.length c74, .slice A75 x0_6.length c75, .bool x0_7, .int .i64 x0_8, .int .i64 x0_9, .slice A76 x0_10.length c76, .bool x0_11, .int .i64 x0_12, .int .i64 x0_13, .slice A77 x0_14.length c77, .int .i64 x0_15, .int .i64 x0_16]] (by rfl) rfl rfl (by (try simp only [List.map_toArray, List.map_cons, List.map_nil]); first | done | rfl) ?_
  refine (laws_eqSender.calls k x0_0 x0_1 x0_2 x0_3 x0_4 A48 c48 x0_5 A49 c49 x0_6 x0_7 x0_8 x0_9 A50 c50 x0_10 x0_11 x0_12 x0_13 A51 c51 x0_14 x0_15 x0_16 x0_0 x0_1 x0_2 x0_3 x0_4 A74 c74 x0_5 A75 c75 x0_6 x0_7 x0_8 x0_9 A76 c76 x0_10 x0_11 x0_12 x0_13 A77 c77 x0_14 x0_15 x0_16 true _ (Kd.R_reads' (lw_Rheld RX48.out Ch47.out)).2.2 (lw_Rlen (lw_Rheld RX48.out Ch47.out)) (Kd.R_reads' (lw_Rheld RX49.out Ch47.out)).2.2 (lw_Rlen (lw_Rheld RX49.out Ch47.out)) (Kd.R_reads' (lw_Rheld RX50.out Ch47.out)).2.2 (lw_Rlen (lw_Rheld RX50.out Ch47.out)) (Kd.R_reads' (lw_Rheld RX51.out Ch47.out)).2.2 (lw_Rlen (lw_Rheld RX51.out Ch47.out)) (Kd.R_reads' (lw_Rheld RX74.out Ch73.out)).2.2 (lw_Rlen (lw_Rheld RX74.out Ch73.out)) (Kd.R_reads' (lw_Rheld RX75.out Ch73.out)).2.2 (lw_Rlen (lw_Rheld RX75.out Ch73.out)) (Kd.R_reads' (lw_Rheld RX76.out Ch73.out)).2.2 (lw_Rlen (lw_Rheld RX76.out Ch73.out)) (Kd.R_reads' (lw_Rheld RX77.out Ch73.out)).2.2 (lw_Rlen (lw_Rheld RX77.out Ch73.out)) Ep0.out).mono ?_
  rintro e w79 ⟨rfl, hb⟩
  refine ⟨_, rfl, ?_⟩
  have q0 := Aside0.mk (below_step HB.out hb)
  have q1 := Aside0.mk (Kept.below Ch22.out hb)
  have q2 := Aside0.mk (Kept.below Ch26.out hb)
  have q3 := Aside0.mk (Kept.below Ch47.out hb)
  have q4 := Aside0.mk (Kept.below Ch56.out hb)
  have q5 := Aside0.mk (Kept.below Ch59.out hb)
  have q6 := Aside0.mk (Kept.below Ch68.out hb)
  have q7 := Aside0.mk (Kept.below Ch73.out hb)
  clear HB Ch22 Ch26 Ch47 Ch56 Ch59 Ch68 Ch73
  have HB := q0
  have Ch22 := q1
  have Ch26 := q2
  have Ch47 := q3
  have Ch56 := q4
  have Ch59 := q5
  have Ch68 := q6
  have Ch73 := q7
  clear q0 q1 q2 q3 q4 q5 q6 q7
  clear hb
  refine hK.out _ _ ⟨(ld_ (ty := 87) (blk_kept BKgb53.out Ch56.out (fun h_ => h_ rfl)) hu87 rfl (by kernel_rfl)), (ld_ (ty := 81) (blk_kept BKgb20.out Ch22.out (fun h_ => h_ rfl)) hu81 rfl (by kernel_rfl))⟩ (fun hHeld => ?_)
  clear hK K
  refine norm_ (a' := ?_) ?_ ?_
  rotate_left
  · show Act.put _ (some 38) _ = _
    simp only [Act.put, List.setIfInBounds_toArray, List.set_cons_zero, List.set_cons_succ, i64_w, i32_w]
    rfl
  refine pure_ (i := 4) (N := some 39) (v := ?_) (a' := ?_) #[true, true, true, true, true] rfl rfl (by kernel_rfl) (fun _ _ _ h => h) (Or.inl ⟨by rfl, ?_⟩) ?_ ?_
  rotate_left
  · intro w'
    go_simp
    with_reducible rfl
  rotate_left
  · simp only [Act.put, List.setIfInBounds_toArray, List.set_cons_zero, List.set_cons_succ, i64_w, i32_w]
    rfl
  refine done_ (by kernel_rfl) ?_
  clear hHeld
  try go_wp2
  have q0 := Aside0.mk (below_drew1 HB.out)
  have q1 := Aside0.mk (Kept.drew Ch22.out)
  have q2 := Aside0.mk (Kept.drew Ch26.out)
  have q3 := Aside0.mk (Kept.drew Ch47.out)
  have q4 := Aside0.mk (Kept.drew Ch56.out)
  have q5 := Aside0.mk (Kept.drew Ch59.out)
  have q6 := Aside0.mk (Kept.drew Ch68.out)
  clear HB Ch22 Ch26 Ch47 Ch56 Ch59 Ch68
  have HB := q0
  have Ch22 := q1
  have Ch26 := q2
  have Ch47 := q3
  have Ch56 := q4
  have Ch59 := q5
  have Ch68 := q6
  clear q0 q1 q2 q3 q4 q5 q6
  refine start_ (n := 5) (S := fun w' => (Instr.loadAt 87 (.pointer (some ⟨gb65, 0, none⟩))).run Try.prog w' = .ok (.agg #[.int .i64 x1_0, .int .i64 x1_1, .int .i64 x1_2, .int .i64 x1_3, .int .i64 x1_4, .slice A60 x1_5.length c60, .slice A61 x1_6.length c61, .bool x1_7, .int .i64 x1_8, .int .i64 x1_9, .slice A62 x1_10.length c62, .bool x1_11, .int .i64 x1_12, .int .i64 x1_13, .slice A63 x1_14.length c63, .int .i64 x1_15, .int .i64 x1_16]) w' ∧ (Instr.loadAt 81 (.pointer (some ⟨gb24, 0, none⟩))).run Try.prog w' = .ok (.agg #[.int .i64 a1_0, .int .i64 a1_1, .int .i64 a1_2, .int .i64 a1_3, .int .i64 a1_4, .slice A1_5 l1_5.length c1_5, .slice A1_6 l1_6.length c1_6, .bool a1_7, .int .i64 a1_8, .int .i64 a1_9, .slice A1_10 l1_10.length c1_10, .bool a1_11, .int .i64 a1_12, .int .i64 a1_13, .slice A1_14 l1_14.length c1_14, .int .i64 a1_15, .int .i64 a1_16]) w') (ds := []) #[false, false, false, false, false] (by kernel_rfl) rfl rfl ⟨(ld_ (ty := 87) (blk_kept BKgb65.out Ch68.out (fun h_ => h_ rfl)) hu87 rfl (by kernel_rfl)), (ld_ (ty := 81) (blk_kept BKgb24.out Ch26.out (fun h_ => h_ rfl)) hu81 rfl (by kernel_rfl))⟩ (fun hHeld => ?_)
  generalize w79.drew = w80 at HB Ch22 Ch26 Ch47 Ch56 Ch59 Ch68 hHeld ⊢
  refine take_ (i := 0) (N := some 40) (v := ?_) (a' := ?_) #[true, false, false, false, false] rfl rfl (by kernel_rfl) (fun _ _ _ h => h) (Or.inl ⟨by rfl, ?_⟩) hHeld ?_ ?_
  rotate_left
  · rintro w' ⟨s0, s1⟩
    refine Eq.trans (ldx_ (p := .pointer (some ⟨gb65, 0, none⟩)) rfl (by rfl) s0) ?_
    with_reducible rfl
  rotate_left
  · simp only [Act.put, List.setIfInBounds_toArray, List.set_cons_zero, List.set_cons_succ, i64_w, i32_w]
    rfl
  refine take_ (i := 1) (N := some 41) (v := ?_) (a' := ?_) #[true, true, false, false, false] rfl rfl (by kernel_rfl) (fun _ _ _ h => h) (Or.inl ⟨by rfl, ?_⟩) hHeld ?_ ?_
  rotate_left
  · rintro w' ⟨s0, s1⟩
    refine Eq.trans (ldx_ (p := .pointer (some ⟨gb24, 0, none⟩)) rfl (by rfl) s1) ?_
    with_reducible rfl
  rotate_left
  · simp only [Act.put, List.setIfInBounds_toArray, List.set_cons_zero, List.set_cons_succ, i64_w, i32_w]
    rfl
  refine one_ (i := 2) (N := some 42) #[true, true, true, false, false] rfl rfl (by kernel_rfl) (by decide) (fun K hK => ?_)
  refine goes_ Try.func62 (by kernel_rfl) rfl #[.agg #[.int .i64 a1_0, .int .i64 a1_1, .int .i64 a1_2, .int .i64 a1_3, .int .i64 a1_4, .slice A1_5 l1_5.length c1_5, .slice A1_6 l1_6.length c1_6, .bool a1_7, .int .i64 a1_8, .int .i64 a1_9, .slice A1_10 l1_10.length c1_10, .bool a1_11, .int .i64 a1_12, .int .i64 a1_13, .slice A1_14 l1_14.length c1_14, .int .i64 a1_15, .int .i64 a1_16]] (by rfl) rfl rfl (by (try simp only [List.map_toArray, List.map_cons, List.map_nil]); first | done | rfl) ?_
  refine (laws_toSender.calls k a1_0 a1_1 a1_2 a1_3 a1_4 A1_5 c1_5 l1_5 A1_6 c1_6 l1_6 a1_7 a1_8 a1_9 A1_10 c1_10 l1_10 a1_11 a1_12 a1_13 A1_14 c1_14 l1_14 a1_15 a1_16 x1_0 x1_1 x1_2 x1_3 x1_4 x1_5 x1_6 x1_7 x1_8 x1_9 x1_10 x1_11 x1_12 x1_13 x1_14 x1_15 x1_16 _ (Kd.C_below HR1_5.out HB.out) HC1_5.out (Kd.C_below HR1_6.out HB.out) HC1_6.out (Kd.C_below HR1_10.out HB.out) HC1_10.out (Kd.C_below HR1_14.out HB.out) HC1_14.out Eto1.out).mono ?_
  rintro e w81 ⟨v5, v6, v10, v14, rfl, ho5, ho6, ho10, ho14, hb⟩
  refine ⟨_, rfl, ?_⟩
  have OCh22_Ch82 := Aside0.mk (show gb20 < w80.heap.size from Nat.lt_of_lt_of_le (blk_lt BKgb20.out) Ch22.out.1)
  have OCh26_Ch82 := Aside0.mk (show gb24 < w80.heap.size from Nat.lt_of_lt_of_le (blk_lt BKgb24.out) Ch26.out.1)
  have OCh47_Ch82 := Aside0.mk (show w46.heap.size ≤ w80.heap.size from Ch47.out.1)
  have OCh56_Ch82 := Aside0.mk (show gb53 < w80.heap.size from Nat.lt_of_lt_of_le (blk_lt BKgb53.out) Ch56.out.1)
  have OCh59_Ch82 := Aside0.mk (show w58.heap.size ≤ w80.heap.size from Ch59.out.1)
  have OCh68_Ch82 := Aside0.mk (show gb65 < w80.heap.size from Nat.lt_of_lt_of_le (blk_lt BKgb65.out) Ch68.out.1)
  have OBCh82 := Aside0.mk (show w.heap.size ≤ w80.heap.size from HB.out.size)
  obtain ⟨A83, c83, rfl⟩ := Kd.R_slice ho5
  have RX83 := Aside0.mk (lw_Rcap ho5)
  obtain ⟨A84, c84, rfl⟩ := Kd.R_slice ho6
  have RX84 := Aside0.mk (lw_Rcap ho6)
  obtain ⟨A85, c85, rfl⟩ := Kd.R_slice ho10
  have RX85 := Aside0.mk (lw_Rcap ho10)
  obtain ⟨A86, c86, rfl⟩ := Kd.R_slice ho14
  have RX86 := Aside0.mk (lw_Rcap ho14)
  clear ho5 ho6 ho10 ho14
  have q0 := Aside0.mk (below_step HB.out hb)
  have q1 := Aside0.mk (Kept.below Ch22.out hb)
  have q2 := Aside0.mk (Kept.below Ch26.out hb)
  have q3 := Aside0.mk (Kept.below Ch47.out hb)
  have q4 := Aside0.mk (Kept.below Ch56.out hb)
  have q5 := Aside0.mk (Kept.below Ch59.out hb)
  have q6 := Aside0.mk (Kept.below Ch68.out hb)
  clear HB Ch22 Ch26 Ch47 Ch56 Ch59 Ch68
  have HB := q0
  have Ch22 := q1
  have Ch26 := q2
  have Ch47 := q3
  have Ch56 := q4
  have Ch59 := q5
  have Ch68 := q6
  clear q0 q1 q2 q3 q4 q5 q6
  clear hb
  have Ch82 := Aside0.mk (Kept.refl w81 (fun k_ => ¬ (w80.heap.size ≤ k_ ∧ k_ < w81.heap.size)))
  refine hK.out _ _ ⟨(ld_ (ty := 87) (blk_kept BKgb65.out Ch68.out (fun h_ => h_ rfl)) hu87 rfl (by kernel_rfl)), (ld_ (ty := 81) (blk_kept BKgb24.out Ch26.out (fun h_ => h_ rfl)) hu81 rfl (by kernel_rfl))⟩ (fun hHeld => ?_)
  clear hK K
  refine norm_ (a' := ?_) ?_ ?_
  rotate_left
  · show Act.put _ (some 42) _ = _
    simp only [Act.put, List.setIfInBounds_toArray, List.set_cons_zero, List.set_cons_succ, i64_w, i32_w]
    rfl
  refine one_ (i := 3) (N := some 43) #[true, true, true, true, false] rfl rfl (by kernel_rfl) (by decide) (fun K hK => ?_)
  refine goes_ Try.func64 (by kernel_rfl) rfl #[.agg #[.int .i64 x1_0, .int .i64 x1_1, .int .i64 x1_2, .int .i64 x1_3, .int .i64 x1_4, .slice A60 x1_5.length c60, .slice A61 x1_6.length c61, .bool x1_7, .int .i64 x1_8, .int .i64 x1_9, .slice A62 x1_10.length c62, .bool x1_11, .int .i64 x1_12, .int .i64 x1_13, .slice A63 x1_14.length c63, .int .i64 x1_15, .int .i64 x1_16], .agg #[.int .i64 x1_0, .int .i64 x1_1, .int .i64 x1_2, .int .i64 x1_3, .int .i64 x1_4, .slice A83 x1_5.length c83, .slice A84 x1_6.length c84, .bool x1_7, .int .i64 x1_8, .int .i64 x1_9, .slice A85 x1_10.length c85, .bool x1_11, .int .i64 x1_12, .int .i64 x1_13, .slice A86 x1_14.length c86, .int .i64 x1_15, .int .i64 x1_16]] (by rfl) rfl rfl (by (try simp only [List.map_toArray, List.map_cons, List.map_nil]); first | done | rfl) ?_
  refine (laws_eqSender.calls k x1_0 x1_1 x1_2 x1_3 x1_4 A60 c60 x1_5 A61 c61 x1_6 x1_7 x1_8 x1_9 A62 c62 x1_10 x1_11 x1_12 x1_13 A63 c63 x1_14 x1_15 x1_16 x1_0 x1_1 x1_2 x1_3 x1_4 A83 c83 x1_5 A84 c84 x1_6 x1_7 x1_8 x1_9 A85 c85 x1_10 x1_11 x1_12 x1_13 A86 c86 x1_14 x1_15 x1_16 true _ (Kd.R_reads' (lw_Rheld RX60.out Ch59.out)).2.2 (lw_Rlen (lw_Rheld RX60.out Ch59.out)) (Kd.R_reads' (lw_Rheld RX61.out Ch59.out)).2.2 (lw_Rlen (lw_Rheld RX61.out Ch59.out)) (Kd.R_reads' (lw_Rheld RX62.out Ch59.out)).2.2 (lw_Rlen (lw_Rheld RX62.out Ch59.out)) (Kd.R_reads' (lw_Rheld RX63.out Ch59.out)).2.2 (lw_Rlen (lw_Rheld RX63.out Ch59.out)) (Kd.R_reads' (lw_Rheld RX83.out Ch82.out)).2.2 (lw_Rlen (lw_Rheld RX83.out Ch82.out)) (Kd.R_reads' (lw_Rheld RX84.out Ch82.out)).2.2 (lw_Rlen (lw_Rheld RX84.out Ch82.out)) (Kd.R_reads' (lw_Rheld RX85.out Ch82.out)).2.2 (lw_Rlen (lw_Rheld RX85.out Ch82.out)) (Kd.R_reads' (lw_Rheld RX86.out Ch82.out)).2.2 (lw_Rlen (lw_Rheld RX86.out Ch82.out)) Ep1.out).mono ?_
  rintro e w88 ⟨rfl, hb⟩
  refine ⟨_, rfl, ?_⟩
  have q0 := Aside0.mk (below_step HB.out hb)
  have q1 := Aside0.mk (Kept.below Ch22.out hb)
  have q2 := Aside0.mk (Kept.below Ch26.out hb)
  have q3 := Aside0.mk (Kept.below Ch47.out hb)
  have q4 := Aside0.mk (Kept.below Ch56.out hb)
  have q5 := Aside0.mk (Kept.below Ch59.out hb)
  have q6 := Aside0.mk (Kept.below Ch68.out hb)
  have q7 := Aside0.mk (Kept.below Ch82.out hb)
  clear HB Ch22 Ch26 Ch47 Ch56 Ch59 Ch68 Ch82
  have HB := q0
  have Ch22 := q1
  have Ch26 := q2
  have Ch47 := q3
  have Ch56 := q4
  have Ch59 := q5
  have Ch68 := q6
  have Ch82 := q7
  clear q0 q1 q2 q3 q4 q5 q6 q7
  clear hb
  refine hK.out _ _ ⟨(ld_ (ty := 87) (blk_kept BKgb65.out Ch68.out (fun h_ => h_ rfl)) hu87 rfl (by kernel_rfl)), (ld_ (ty := 81) (blk_kept BKgb24.out Ch26.out (fun h_ => h_ rfl)) hu81 rfl (by kernel_rfl))⟩ (fun hHeld => ?_)
  clear hK K
  refine norm_ (a' := ?_) ?_ ?_
  rotate_left
  · show Act.put _ (some 43) _ = _
    simp only [Act.put, List.setIfInBounds_toArray, List.set_cons_zero, List.set_cons_succ, i64_w, i32_w]
    rfl
  refine pure_ (i := 4) (N := some 44) (v := ?_) (a' := ?_) #[true, true, true, true, true] rfl rfl (by kernel_rfl) (fun _ _ _ h => h) (Or.inl ⟨by rfl, ?_⟩) ?_ ?_
  rotate_left
  · intro w'
    go_simp
    with_reducible rfl
  rotate_left
  · simp only [Act.put, List.setIfInBounds_toArray, List.set_cons_zero, List.set_cons_succ, i64_w, i32_w]
    rfl
  refine done_ (by kernel_rfl) ?_
  clear hHeld
  try go_wp2
  go_ret
  exact ⟨by first | rfl | (simp; done) | (simp [*]; done), HB.out⟩

/-- THE ONE PURE STATEMENT of laws_FnExactSameSenders. -/
def laws_FnExactSameSenders.Pure : Prop := ∀ (a0_0 : Int) (a0_1 : Int) (a0_2 : Int) (a0_3 : Int) (a0_4 : Int) (l0_5 : List Int) (l0_6 : List Int) (a0_7 : Bool) (a0_8 : Int) (a0_9 : Int) (l0_10 : List Int) (a0_11 : Bool) (a0_12 : Int) (a0_13 : Int) (l0_14 : List Int) (a0_15 : Int) (a0_16 : Int) (a1_0 : Int) (a1_1 : Int) (a1_2 : Int) (a1_3 : Int) (a1_4 : Int) (l1_5 : List Int) (l1_6 : List Int) (a1_7 : Bool) (a1_8 : Int) (a1_9 : Int) (l1_10 : List Int) (a1_11 : Bool) (a1_12 : Int) (a1_13 : Int) (l1_14 : List Int) (a1_15 : Int) (a1_16 : Int), (Lit.int .i64 a0_0).wf = true → (Lit.int .i64 a0_1).wf = true → (Lit.int .i64 a0_2).wf = true → (Lit.int .i64 a0_3).wf = true → (Lit.int .i64 a0_4).wf = true → l0_5.length ≤ maxLen → (∀ x ∈ l0_5, (Lit.int .i64 x).wf = true) → l0_6.length ≤ maxLen → (∀ x ∈ l0_6, (Lit.int .i64 x).wf = true) → (Lit.int .i64 a0_8).wf = true → (Lit.int .i64 a0_9).wf = true → l0_10.length ≤ maxLen → (∀ x ∈ l0_10, (Lit.int .i64 x).wf = true) → (Lit.int .i64 a0_12).wf = true → (Lit.int .i64 a0_13).wf = true → l0_14.length ≤ maxLen → (∀ x ∈ l0_14, (Lit.int .i64 x).wf = true) → (Lit.int .i64 a0_15).wf = true → (Lit.int .i64 a0_16).wf = true → (Lit.int .i64 a1_0).wf = true → (Lit.int .i64 a1_1).wf = true → (Lit.int .i64 a1_2).wf = true → (Lit.int .i64 a1_3).wf = true → (Lit.int .i64 a1_4).wf = true → l1_5.length ≤ maxLen → (∀ x ∈ l1_5, (Lit.int .i64 x).wf = true) → l1_6.length ≤ maxLen → (∀ x ∈ l1_6, (Lit.int .i64 x).wf = true) → (Lit.int .i64 a1_8).wf = true → (Lit.int .i64 a1_9).wf = true → l1_10.length ≤ maxLen → (∀ x ∈ l1_10, (Lit.int .i64 x).wf = true) → (Lit.int .i64 a1_12).wf = true → (Lit.int .i64 a1_13).wf = true → l1_14.length ≤ maxLen → (∀ x ∈ l1_14, (Lit.int .i64 x).wf = true) → (Lit.int .i64 a1_15).wf = true → (Lit.int .i64 a1_16).wf = true → ∃ k, laws_FnExactSameSenders.f k a0_0 a0_1 a0_2 a0_3 a0_4 l0_5 l0_6 a0_7 a0_8 a0_9 l0_10 a0_11 a0_12 a0_13 l0_14 a0_15 a0_16 a1_0 a1_1 a1_2 a1_3 a1_4 l1_5 l1_6 a1_7 a1_8 a1_9 l1_10 a1_11 a1_12 a1_13 l1_14 a1_15 a1_16 = some true
theorem laws_FnExactSameSenders.walk (P : laws_FnExactSameSenders.Pure) (a0_0 : Int) (a0_1 : Int) (a0_2 : Int) (a0_3 : Int) (a0_4 : Int) (A0_5 : Option Addr) (c0_5 : Nat) (l0_5 : List Int) (A0_6 : Option Addr) (c0_6 : Nat) (l0_6 : List Int) (a0_7 : Bool) (a0_8 : Int) (a0_9 : Int) (A0_10 : Option Addr) (c0_10 : Nat) (l0_10 : List Int) (a0_11 : Bool) (a0_12 : Int) (a0_13 : Int) (A0_14 : Option Addr) (c0_14 : Nat) (l0_14 : List Int) (a0_15 : Int) (a0_16 : Int) (a1_0 : Int) (a1_1 : Int) (a1_2 : Int) (a1_3 : Int) (a1_4 : Int) (A1_5 : Option Addr) (c1_5 : Nat) (l1_5 : List Int) (A1_6 : Option Addr) (c1_6 : Nat) (l1_6 : List Int) (a1_7 : Bool) (a1_8 : Int) (a1_9 : Int) (A1_10 : Option Addr) (c1_10 : Nat) (l1_10 : List Int) (a1_11 : Bool) (a1_12 : Int) (a1_13 : Int) (A1_14 : Option Addr) (c1_14 : Nat) (l1_14 : List Int) (a1_15 : Int) (a1_16 : Int) (w : World) (w0_0_0 : (Lit.int .i64 a0_0).wf = true) (w0_1_0 : (Lit.int .i64 a0_1).wf = true) (w0_2_0 : (Lit.int .i64 a0_2).wf = true) (w0_3_0 : (Lit.int .i64 a0_3).wf = true) (w0_4_0 : (Lit.int .i64 a0_4).wf = true) (w0_5_0 : l0_5.length ≤ maxLen) (w0_5_1 : (∀ x ∈ l0_5, (Lit.int .i64 x).wf = true)) (w0_6_0 : l0_6.length ≤ maxLen) (w0_6_1 : (∀ x ∈ l0_6, (Lit.int .i64 x).wf = true)) (w0_8_0 : (Lit.int .i64 a0_8).wf = true) (w0_9_0 : (Lit.int .i64 a0_9).wf = true) (w0_10_0 : l0_10.length ≤ maxLen) (w0_10_1 : (∀ x ∈ l0_10, (Lit.int .i64 x).wf = true)) (w0_12_0 : (Lit.int .i64 a0_12).wf = true) (w0_13_0 : (Lit.int .i64 a0_13).wf = true) (w0_14_0 : l0_14.length ≤ maxLen) (w0_14_1 : (∀ x ∈ l0_14, (Lit.int .i64 x).wf = true)) (w0_15_0 : (Lit.int .i64 a0_15).wf = true) (w0_16_0 : (Lit.int .i64 a0_16).wf = true) (w1_0_0 : (Lit.int .i64 a1_0).wf = true) (w1_1_0 : (Lit.int .i64 a1_1).wf = true) (w1_2_0 : (Lit.int .i64 a1_2).wf = true) (w1_3_0 : (Lit.int .i64 a1_3).wf = true) (w1_4_0 : (Lit.int .i64 a1_4).wf = true) (w1_5_0 : l1_5.length ≤ maxLen) (w1_5_1 : (∀ x ∈ l1_5, (Lit.int .i64 x).wf = true)) (w1_6_0 : l1_6.length ≤ maxLen) (w1_6_1 : (∀ x ∈ l1_6, (Lit.int .i64 x).wf = true)) (w1_8_0 : (Lit.int .i64 a1_8).wf = true) (w1_9_0 : (Lit.int .i64 a1_9).wf = true) (w1_10_0 : l1_10.length ≤ maxLen) (w1_10_1 : (∀ x ∈ l1_10, (Lit.int .i64 x).wf = true)) (w1_12_0 : (Lit.int .i64 a1_12).wf = true) (w1_13_0 : (Lit.int .i64 a1_13).wf = true) (w1_14_0 : l1_14.length ≤ maxLen) (w1_14_1 : (∀ x ∈ l1_14, (Lit.int .i64 x).wf = true)) (w1_15_0 : (Lit.int .i64 a1_15).wf = true) (w1_16_0 : (Lit.int .i64 a1_16).wf = true) (hr0_5 : Kd.C (Kd.int .i64) w A0_5 l0_5.length l0_5) (hc0_5 : l0_5.length ≤ c0_5) (hr0_6 : Kd.C (Kd.int .i64) w A0_6 l0_6.length l0_6) (hc0_6 : l0_6.length ≤ c0_6) (hr0_10 : Kd.C (Kd.int .i64) w A0_10 l0_10.length l0_10) (hc0_10 : l0_10.length ≤ c0_10) (hr0_14 : Kd.C (Kd.int .i64) w A0_14 l0_14.length l0_14) (hc0_14 : l0_14.length ≤ c0_14) (hr1_5 : Kd.C (Kd.int .i64) w A1_5 l1_5.length l1_5) (hc1_5 : l1_5.length ≤ c1_5) (hr1_6 : Kd.C (Kd.int .i64) w A1_6 l1_6.length l1_6) (hc1_6 : l1_6.length ≤ c1_6) (hr1_10 : Kd.C (Kd.int .i64) w A1_10 l1_10.length l1_10) (hc1_10 : l1_10.length ≤ c1_10) (hr1_14 : Kd.C (Kd.int .i64) w A1_14 l1_14.length l1_14) (hc1_14 : l1_14.length ≤ c1_14) :
    Calls Try.prog 14 #[.agg #[.int .i64 a0_0, .int .i64 a0_1, .int .i64 a0_2, .int .i64 a0_3, .int .i64 a0_4, .slice A0_5 l0_5.length c0_5, .slice A0_6 l0_6.length c0_6, .bool a0_7, .int .i64 a0_8, .int .i64 a0_9, .slice A0_10 l0_10.length c0_10, .bool a0_11, .int .i64 a0_12, .int .i64 a0_13, .slice A0_14 l0_14.length c0_14, .int .i64 a0_15, .int .i64 a0_16], .agg #[.int .i64 a1_0, .int .i64 a1_1, .int .i64 a1_2, .int .i64 a1_3, .int .i64 a1_4, .slice A1_5 l1_5.length c1_5, .slice A1_6 l1_6.length c1_6, .bool a1_7, .int .i64 a1_8, .int .i64 a1_9, .slice A1_10 l1_10.length c1_10, .bool a1_11, .int .i64 a1_12, .int .i64 a1_13, .slice A1_14 l1_14.length c1_14, .int .i64 a1_15, .int .i64 a1_16]] w fun e w' => e = .returned (.bool true) ∧ Below w.heap.size w w' := by
  obtain ⟨k, h⟩ := P a0_0 a0_1 a0_2 a0_3 a0_4 l0_5 l0_6 a0_7 a0_8 a0_9 l0_10 a0_11 a0_12 a0_13 l0_14 a0_15 a0_16 a1_0 a1_1 a1_2 a1_3 a1_4 l1_5 l1_6 a1_7 a1_8 a1_9 l1_10 a1_11 a1_12 a1_13 l1_14 a1_15 a1_16 w0_0_0 w0_1_0 w0_2_0 w0_3_0 w0_4_0 w0_5_0 w0_5_1 w0_6_0 w0_6_1 w0_8_0 w0_9_0 w0_10_0 w0_10_1 w0_12_0 w0_13_0 w0_14_0 w0_14_1 w0_15_0 w0_16_0 w1_0_0 w1_1_0 w1_2_0 w1_3_0 w1_4_0 w1_5_0 w1_5_1 w1_6_0 w1_6_1 w1_8_0 w1_9_0 w1_10_0 w1_10_1 w1_12_0 w1_13_0 w1_14_0 w1_14_1 w1_15_0 w1_16_0
  refine (laws_FnExactSameSenders.calls k a0_0 a0_1 a0_2 a0_3 a0_4 A0_5 c0_5 l0_5 A0_6 c0_6 l0_6 a0_7 a0_8 a0_9 A0_10 c0_10 l0_10 a0_11 a0_12 a0_13 A0_14 c0_14 l0_14 a0_15 a0_16 a1_0 a1_1 a1_2 a1_3 a1_4 A1_5 c1_5 l1_5 A1_6 c1_6 l1_6 a1_7 a1_8 a1_9 A1_10 c1_10 l1_10 a1_11 a1_12 a1_13 A1_14 c1_14 l1_14 a1_15 a1_16 true w hr0_5 hc0_5 hr0_6 hc0_6 hr0_10 hc0_10 hr0_14 hc0_14 hr1_5 hc1_5 hr1_6 hc1_6 hr1_10 hc1_10 hr1_14 hc1_14 h).mono ?_
  rintro e w' ⟨rfl, hd⟩
  exact ⟨rfl, hd⟩

end Go.Proofs.Ytoepnammegcjeaa.PFnExactSameSenders
