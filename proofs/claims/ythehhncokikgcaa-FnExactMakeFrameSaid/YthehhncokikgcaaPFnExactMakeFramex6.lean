-- Contracts of the functions that the law reaches, written by wip/xprint.py of this repo.
import Derived.Test.YthehhncokikgcaaPFnExactMakeFramex0
import Derived.Test.YthehhncokikgcaaPFnExactMakeFramex1
import Derived.Test.YthehhncokikgcaaPFnExactMakeFramex4
import Derived.Test.YthehhncokikgcaaPFnExactMakeFramex5
namespace Go.Proofs.Ythehhncokikgcaa.PFnExactMakeFrame
open Go.RowKit Go.Proofs.YthehhncokikgcaaW.PrintWords Go.Proofs.YthehhncokikgcaaW.PrintLast Go.Proofs.YthehhncokikgcaaW.PrintMore
attribute [local go_sem] max2_int min2_int max_two min_two max_three min_three max_four min_four   -- for this text's walks alone
set_option linter.unusedVariables false
set_option linter.unusedSimpArgs false

/-! ### spec_l14Make: function 108 -/
mutual
def spec_l14Make.l0 : Nat → Int → List Int → Int → Int → Int → Int → Int → Int → Int → List Int → Option (Int × Int × Int × Int × Int × List Int × List Int × (List (List Int)))
 | 0, _, _, _, _, _, _, _, _, _, _ => none
 | k + 1, x0, x2, x3, x12, x208000, x208001, x208002, x208003, x208004, x208005 => if x12 < (wrap64 (Int.tdiv x0 2)) then (if 0 ≤ x12 then (if x12 < (x2.length : Int) then ((spec_l9Step.f k x3).bind fun t209 => ((spec_l1Round.f k (rd x2 x12) t209).bind fun t210 => (if x208005.length < 17592186044416 then (spec_l14Make.l0 k x0 x2 x3 (wrap64 (x12 + 1)) x208000 x208001 x208002 x208003 x208004 (x208005 ++ [t210])) else (none)))) else (none)) else (none)) else ((spec_l13Bands.f x0).bind fun t214 => ((spec_l13Norms.f k x0 x2).bind fun t217 => ((spec_l13Rung.f x3 x208003).bind fun t220 => ((spec_l9Step.f k t220).bind fun t221 => (spec_l14Make.l1 k x2 t214 t217 t221 0 x208000 x208001 x208002 x208003 x208004 x208005 ([] : List Int) ([] : List (List Int)))))))
def spec_l14Make.l1 : Nat → List Int → List (S93) → List Int → Int → Int → Int → Int → Int → Int → Int → List Int → List Int → List (List Int) → Option (Int × Int × Int × Int × Int × List Int × List Int × (List (List Int)))
 | 0, _, _, _, _, _, _, _, _, _, _, _, _, _ => none
 | k + 1, x2, x13, x14, x15, x16, x208000, x208001, x208002, x208003, x208004, x208005, x208006, x208007 => if x16 < (x13.length : Int) then (if 0 ≤ x16 then (if x16 < (x14.length : Int) then ((spec_l1Round.f k (rd x14 x16) x15).bind fun t223 => (if x208006.length < 17592186044416 then (if 0 ≤ ((rd_T93 x13 x16).f0) then (if ((rd_T93 x13 x16).f0) ≤ (wrap64 (((rd_T93 x13 x16).f0) + ((rd_T93 x13 x16).f1))) then (if (wrap64 (((rd_T93 x13 x16).f0) + ((rd_T93 x13 x16).f1))) ≤ (x2.length : Int) then ((spec_l13Of_any.f ((rd_T93 x13 x16).f0) ((rd_T93 x13 x16).f1)).bind fun t229 => ((spec_l12Search.f k ((x2.take (wrap64 (((rd_T93 x13 x16).f0) + ((rd_T93 x13 x16).f1))).toNat).drop ((rd_T93 x13 x16).f0).toNat) (wrap64 (8 - (wrap64 (2 * x208003))))).bind fun t230 => (if x208007.length < 5864062014805 then (spec_l14Make.l1 k x2 x13 x14 x15 (wrap64 (x16 + 1)) x208000 x208001 x208002 x208003 x208004 x208005 (x208006 ++ [t223]) (x208007 ++ [t230])) else (none)))) else (none)) else (none)) else (none)) else (none))) else (none)) else (none)) else (some (x208000, x208001, x208002, x208003, x208004, x208005, x208006, x208007))
end
def spec_l14Make.f (k : Nat) (a0 : Int) (a1 : Int) (l2 : List Int) (a3 : Int) (a4 : Int) : Option (Int × Int × Int × Int × Int × List Int × List Int × (List (List Int))) := (spec_l13Mask.f k a0 l2).bind fun t206 => (spec_l14Make.l0 k a0 l2 a3 0 a1 a0 a3 t206 a4 ([] : List Int))
theorem spec_l14Make.mono_l : ∀ k, (∀ y0 y1 y2 y3 y4 y5 y6 y7 y8 y9, LeO (spec_l14Make.l0 k y0 y1 y2 y3 y4 y5 y6 y7 y8 y9) (spec_l14Make.l0 (k + 1) y0 y1 y2 y3 y4 y5 y6 y7 y8 y9)) ∧ (∀ y0 y1 y2 y3 y4 y5 y6 y7 y8 y9 y10 y11 y12, LeO (spec_l14Make.l1 k y0 y1 y2 y3 y4 y5 y6 y7 y8 y9 y10 y11 y12) (spec_l14Make.l1 (k + 1) y0 y1 y2 y3 y4 y5 y6 y7 y8 y9 y10 y11 y12))
 | 0 => ⟨fun _ _ _ _ _ _ _ _ _ _ r h => by simp [spec_l14Make.l0] at h, fun _ _ _ _ _ _ _ _ _ _ _ _ _ r h => by simp [spec_l14Make.l1] at h⟩
 | k + 1 => by
  obtain ⟨ih0, ih1⟩ := spec_l14Make.mono_l k
  refine ⟨?_, ?_⟩
  ·intro y0 y1 y2 y3 y4 y5 y6 y7 y8 y9
   unfold spec_l14Make.l0
   repeat' first
   | (with_reducible exact ih0 _ _ _ _ _ _ _ _ _ _)
   | (with_reducible exact ih1 _ _ _ _ _ _ _ _ _ _ _ _ _)
   | (with_reducible exact spec_l12Search.mono _ _ _)
   | (with_reducible exact spec_l13Mask.mono _ _ _)
   | (with_reducible exact spec_l13Norms.mono _ _ _)
   | (with_reducible exact spec_l1Round.mono _ _ _)
   | (with_reducible exact spec_l9Step.mono _ _)
   | (with_reducible exact LeO.refl _)
   | (with_reducible exact LeO.none _)
   | (with_reducible refine LeO.ite ?_ ?_)
   | (with_reducible refine LeO.bind ?_ (fun _ => ?_))
   | exact ih0 _ _ _ _ _ _ _ _ _ _
   | exact ih1 _ _ _ _ _ _ _ _ _ _ _ _ _
   | exact spec_l12Search.mono _ _ _
   | exact spec_l13Mask.mono _ _ _
   | exact spec_l13Norms.mono _ _ _
   | exact spec_l1Round.mono _ _ _
   | exact spec_l9Step.mono _ _
   | exact LeO.none _
   | refine LeO.ite ?_ ?_
   | refine LeO.bind ?_ (fun _ => ?_)
  ·intro y0 y1 y2 y3 y4 y5 y6 y7 y8 y9 y10 y11 y12
   unfold spec_l14Make.l1
   repeat' first
   | (with_reducible exact ih0 _ _ _ _ _ _ _ _ _ _)
   | (with_reducible exact ih1 _ _ _ _ _ _ _ _ _ _ _ _ _)
   | (with_reducible exact spec_l12Search.mono _ _ _)
   | (with_reducible exact spec_l13Mask.mono _ _ _)
   | (with_reducible exact spec_l13Norms.mono _ _ _)
   | (with_reducible exact spec_l1Round.mono _ _ _)
   | (with_reducible exact spec_l9Step.mono _ _)
   | (with_reducible exact LeO.refl _)
   | (with_reducible exact LeO.none _)
   | (with_reducible refine LeO.ite ?_ ?_)
   | (with_reducible refine LeO.bind ?_ (fun _ => ?_))
   | exact ih0 _ _ _ _ _ _ _ _ _ _
   | exact ih1 _ _ _ _ _ _ _ _ _ _ _ _ _
   | exact spec_l12Search.mono _ _ _
   | exact spec_l13Mask.mono _ _ _
   | exact spec_l13Norms.mono _ _ _
   | exact spec_l1Round.mono _ _ _
   | exact spec_l9Step.mono _ _
   | exact LeO.none _
   | refine LeO.ite ?_ ?_
   | refine LeO.bind ?_ (fun _ => ?_)
theorem spec_l14Make.mono : ∀ a0 a1 a2 a3 a4 k, LeO (spec_l14Make.f k a0 a1 a2 a3 a4) (spec_l14Make.f (k + 1) a0 a1 a2 a3 a4) := by
 intro a0 a1 a2 a3 a4 k
 obtain ⟨ih0, ih1⟩ := spec_l14Make.mono_l k
 unfold spec_l14Make.f
 repeat' first
   | (with_reducible exact ih0 _ _ _ _ _ _ _ _ _ _)
   | (with_reducible exact ih1 _ _ _ _ _ _ _ _ _ _ _ _ _)
   | (with_reducible exact spec_l12Search.mono _ _ _)
   | (with_reducible exact spec_l13Mask.mono _ _ _)
   | (with_reducible exact spec_l13Norms.mono _ _ _)
   | (with_reducible exact spec_l1Round.mono _ _ _)
   | (with_reducible exact spec_l9Step.mono _ _)
   | (with_reducible exact LeO.refl _)
   | (with_reducible exact LeO.none _)
   | (with_reducible refine LeO.ite ?_ ?_)
   | (with_reducible refine LeO.bind ?_ (fun _ => ?_))
   | exact ih0 _ _ _ _ _ _ _ _ _ _
   | exact ih1 _ _ _ _ _ _ _ _ _ _ _ _ _
   | exact spec_l12Search.mono _ _ _
   | exact spec_l13Mask.mono _ _ _
   | exact spec_l13Norms.mono _ _ _
   | exact spec_l1Round.mono _ _ _
   | exact spec_l9Step.mono _ _
   | exact LeO.none _
   | refine LeO.ite ?_ ?_
   | refine LeO.bind ?_ (fun _ => ?_)
def spec_l14Make.T5 : Bool × List (List Nat × List Nat) := (true, [([], []), ([0], [0]), ([], []), ([], []), ([2, 3], [2, 3]), ([4], [4]), ([], []), ([6], [6]), ([5, 7, 7], [5, 7]), ([8], [8]), ([1, 9, 8], [1, 9]), ([0, 1, 2, 3, 4, 5, 6, 7, 8, 9, 10], []), ([11, 10, 10, 0, 1, 2, 3, 4, 5, 6, 7, 8, 9, 10], [10, 11])])
def spec_l14Make.B5 : List Nat := [0, 1, 0, 0, 12, 28, 0, 64, 252, 508, 1023, 2047, 4095]
theorem spec_l14Make.tab5 : rtab .any (opsOf Try.f108 5) = spec_l14Make.T5 := by kernel_rfl
theorem spec_l14Make.bits5 : waitsOk spec_l14Make.T5.2 spec_l14Make.B5 = true := by kernel_rfl
def spec_l14Make.T12 : Bool × List (List Nat × List Nat) := (true, [([], []), ([0], [0]), ([], []), ([], []), ([2, 3], [2, 3]), ([4], [4]), ([], []), ([5, 6], [5, 6]), ([7], [7]), ([1, 8, 7], [1, 8]), ([0, 1, 2, 3, 4, 5, 6, 7, 8, 9], []), ([10, 9, 9, 0, 1, 2, 3, 4, 5, 6, 7, 8, 9], [9, 10])])
def spec_l14Make.B12 : List Nat := [0, 1, 0, 0, 12, 28, 0, 124, 252, 511, 1023, 2047]
theorem spec_l14Make.tab12 : rtab .any (opsOf Try.f108 12) = spec_l14Make.T12 := by kernel_rfl
theorem spec_l14Make.bits12 : waitsOk spec_l14Make.T12.2 spec_l14Make.B12 = true := by kernel_rfl
def spec_l14Make.T13 : Bool × List (List Nat × List Nat) := (true, [([], []), ([0], [0]), ([], []), ([], []), ([2, 3], [2, 3]), ([4], [4]), ([], []), ([5, 6], [5, 6]), ([], []), ([8], [8]), ([9], [9]), ([10], [10]), ([7, 11, 7], [7, 11]), ([12], [12]), ([1, 13, 12], [1, 13]), ([0, 1, 2, 3, 4, 5, 6, 7, 8, 9, 10, 11, 12, 13, 14], []), ([15, 14, 14, 0, 1, 2, 3, 4, 5, 6, 7, 8, 9, 10, 11, 12, 13, 14], [14, 15])])
def spec_l14Make.B13 : List Nat := [0, 1, 0, 0, 12, 28, 0, 124, 0, 256, 768, 1792, 4092, 8188, 16383, 32767, 65535]
theorem spec_l14Make.tab13 : rtab .any (opsOf Try.f108 13) = spec_l14Make.T13 := by kernel_rfl
theorem spec_l14Make.bits13 : waitsOk spec_l14Make.T13.2 spec_l14Make.B13 = true := by kernel_rfl
set_option maxHeartbeats 8000000 in
set_option maxRecDepth 100000 in
theorem spec_l14Make.calls (k : Nat) (a0 : Int) (a1 : Int) (A2 : Option Addr) (c2 : Nat) (l2 : List Int) (a3 : Int) (a4 : Int) (r1 : Int) (r2 : Int) (r3 : Int) (r4 : Int) (r5 : Int) (r6 : List Int) (r7 : List Int) (r8 : List (List Int)) (w : World) (hr2 : Kd.C (Kd.int .i64) w A2 l2.length l2) (hc2 : l2.length ≤ c2) (h : spec_l14Make.f k a0 a1 l2 a3 a4 = some (r1, r2, r3, r4, r5, r6, r7, r8)) :
  Calls Try.prog 108 #[.int .i64 a0, .int .i64 a1, .slice A2 l2.length c2, .int .i64 a3, .int .i64 a4] w fun e w' => ∃ v5_ v6_ v7_ : Value, e = .returned (.agg #[.int .i64 r1, .int .i64 r2, .int .i64 r3, .int .i64 r4, .int .i64 r5, v5_, v6_, v7_]) ∧ Kd.R (Kd.int .i64) 2 w' w.heap.size (fun k_ => some k_ ≠ (v6_ : Value).ownBlock) v5_ r6 ∧ Kd.R (Kd.int .i64) 2 w' w.heap.size (fun k_ => some k_ ≠ (v5_ : Value).ownBlock) v6_ r7 ∧ Kd.S (Kd.slice 2 (Kd.int .i64)) 24 w' w.heap.size (fun k_ => some k_ ≠ (v5_ : Value).ownBlock ∧ some k_ ≠ (v6_ : Value).ownBlock) v7_ r8 ∧ Below w.heap.size w w' := by
 have hu36 := Try.underlying36
 have hu93 := Try.underlying93
 have HR2 := Aside0.mk hr2
 have HC2 := Aside0.mk hc2
 clear hr2 hc2
 have HB := Aside0.mk (Below.refl w.heap.size w)
 have H : ((spec_l13Mask.f k a0 l2).bind fun t206 => (spec_l14Make.l0 k a0 l2 a3 0 a1 a0 a3 t206 a4 ([] : List Int))) = some (r1, r2, r3, r4, r5, r6, r7, r8) := h
 clear h
 replace H := bnd H
 obtain ⟨t206, A6, H⟩ := H
 have H' := Aside0.mk H
 clear H
 go_enter Try.func108, Try.ntmps108
 go_wp2_with (first | ((with_reducible refine gate_dst (N := 10) rfl ?_); refine bev 10 36 #[.int .i64 0, .int .i64 0, .int .i64 0, .int .i64 0, .int .i64 0, .slice none 0 0, .slice none 0 0, .slice none 0 0] ?_; intro gb205 hg w7 hbox hb; have BK205 := am hbox; have GW205 := gwe hg; have GE205 := gwe hg; replace HB := hbs hb; clear hb hbox hg) | ((with_reducible refine gate_callee (f := 171) rfl ?_); refine gl_ 23 Try.func171 #[.int .i64 a0, .slice A2 l2.length c2] ?_; (with_reducible refine (spec_l13Mask.calls k a0 _ _ l2 t206 _ ?_ ?_ A6.out).mono ?_); exact cpl HR2.out; exact HC2.out; rintro e w' ⟨rfl, ⟨nd, rfl⟩⟩; refine ⟨_, rfl, ?_⟩; (try ((repeat rw [World.drewN_drewN w7]); rw [drewN_self w7]; generalize hq_ : World.drewN w7 _ = w7; have n0_ : Aside0 (w7.heap[gb205]? = some (.cells #[.int .i64 0, .int .i64 0, .int .i64 0, .int .i64 0, .int .i64 0, .slice none 0 0, .slice none 0 0, .slice none 0 0] 36 (0, 0))) := ⟨by rw [← hq_]; exact (bpl BK205.out)⟩; have n1_ : Aside0 (Below w.heap.size w w7) := ⟨by rw [← hq_]; exact bnx⟩; clear BK205 HB hq_; have BK205 := n0_; have HB := n1_; clear n0_ n1_))) | ((with_reducible refine gate_dst (N := 11) rfl ?_); refine bev 11 36 #[.int .i64 0, .int .i64 0, .int .i64 0, .int .i64 0, .int .i64 0, .slice none 0 0, .slice none 0 0, .slice none 0 0] ?_; intro gb207 hg w8 hbox hb; have BK207 := am hbox; have GW207 := gwe hg; have GE207 := gwe hg; replace HB := hbs hb; have NB205_207 := nbl hg BK205; have NB207_205 := nbg hg BK205; replace BK205 := bkb BK205 hb; clear hb hbox hg; have hnb9 := NB207_205.out; have hnc9 := NB205_207.out; obtain ⟨hcz10_0, hcz10_1, hcz10_2, hcz10_3, hcz10_4, hcz10_5, hcz10_6, hcz10_7, hfz10_0, hfz10_1, hfz10_2, hfz10_3, hfz10_4, hfz10_5, hfz10_6, hfz10_7⟩ := cf8 (W := w8) BK207.out))
 go_loopg [12] k (fun kq v12 w' => ∃ (x12_1 : Int) (x208005_1 : List Int) (u208005 : Value), v12 = .int .i64 x12_1 ∧ Aside0 (spec_l14Make.l0 kq a0 l2 a3 x12_1 a1 a0 a3 t206 a4 x208005_1 = some (r1, r2, r3, r4, r5, r6, r7, r8)) ∧ Aside0 (kq ≤ k) ∧ Aside0 (Kd.R (Kd.int .i64) 2 w' w.heap.size (fun _ => True) u208005 x208005_1) ∧ Aside0 (w'.heap[gb205]? = some (.cells #[.int .i64 0, .int .i64 0, .int .i64 0, .int .i64 0, .int .i64 0, (.slice none 0 0), (.slice none 0 0), (.slice none 0 0)] 36 (0, 0))) ∧ Aside0 (w'.heap[gb207]? = some (.cells #[.int .i64 a1, .int .i64 a0, .int .i64 a3, .int .i64 t206, .int .i64 a4, u208005, (.slice none 0 0), (.slice none 0 0)] 36 (0, 0))) ∧ Aside0 (Below w.heap.size w w'))
 case atStart => exact ⟨(0), (([] : List Int)), (.slice none 0 0), rq, H', ⟨Nat.le_refl _⟩, ⟨by first | exact Kd.R_nil _ _ _ _ _ | exact Kd.N_nil _ _ _ _ _ | exact Kd.V_nil _ _ _ _ _ | exact Kd.Q_nil _ _ _ _ _ | exact Kd.S_nil _ _ _ _ _⟩, ⟨by (with_reducible repeat (first | refine blk_drewN ?_ _ | refine blk_drew ?_ | refine blk_alloc ?_ _)); refine blk_far ?_ NB205_207.out _; (with_reducible repeat (first | refine blk_drewN ?_ _ | refine blk_drew ?_ | refine blk_alloc ?_ _)); refine blk_far ?_ NB205_207.out _; (with_reducible repeat (first | refine blk_drewN ?_ _ | refine blk_drew ?_ | refine blk_alloc ?_ _)); refine blk_far ?_ NB205_207.out _; (with_reducible repeat (first | refine blk_drewN ?_ _ | refine blk_drew ?_ | refine blk_alloc ?_ _)); refine blk_far ?_ NB205_207.out _; (with_reducible repeat (first | refine blk_drewN ?_ _ | refine blk_drew ?_ | refine blk_alloc ?_ _)); refine blk_far ?_ NB205_207.out _; (with_reducible repeat (first | refine blk_drewN ?_ _ | refine blk_drew ?_ | refine blk_alloc ?_ _)); refine blk_far ?_ NB205_207.out _; (with_reducible repeat (first | refine blk_drewN ?_ _ | refine blk_drew ?_ | refine blk_alloc ?_ _)); refine blk_far ?_ NB205_207.out _; (with_reducible repeat (first | refine blk_drewN ?_ _ | refine blk_drew ?_ | refine blk_alloc ?_ _)); refine blk_far ?_ NB205_207.out _; (with_reducible repeat (first | refine blk_drewN ?_ _ | refine blk_drew ?_ | refine blk_alloc ?_ _)); exact BK205.out⟩, ⟨by (with_reducible repeat (first | refine blk_drewN ?_ _ | refine blk_drew ?_ | refine blk_alloc ?_ _)); refine blk_put (cs := #[.int .i64 a1, .int .i64 a0, .int .i64 a3, .int .i64 t206, .int .i64 a4, .slice none 0 0, .slice none 0 0, .slice none 0 0]) ?_ 7 _ rfl; (with_reducible repeat (first | refine blk_drewN ?_ _ | refine blk_drew ?_ | refine blk_alloc ?_ _)); refine blk_put (cs := #[.int .i64 a1, .int .i64 a0, .int .i64 a3, .int .i64 t206, .int .i64 a4, .slice none 0 0, .slice none 0 0, .slice none 0 0]) ?_ 6 _ rfl; (with_reducible repeat (first | refine blk_drewN ?_ _ | refine blk_drew ?_ | refine blk_alloc ?_ _)); refine blk_put (cs := #[.int .i64 a1, .int .i64 a0, .int .i64 a3, .int .i64 t206, .int .i64 a4, .slice none 0 0, .slice none 0 0, .slice none 0 0]) ?_ 5 _ rfl; (with_reducible repeat (first | refine blk_drewN ?_ _ | refine blk_drew ?_ | refine blk_alloc ?_ _)); refine blk_put (cs := #[.int .i64 a1, .int .i64 a0, .int .i64 a3, .int .i64 t206, .int .i64 0, .slice none 0 0, .slice none 0 0, .slice none 0 0]) ?_ 4 _ rfl; (with_reducible repeat (first | refine blk_drewN ?_ _ | refine blk_drew ?_ | refine blk_alloc ?_ _)); refine blk_put (cs := #[.int .i64 a1, .int .i64 a0, .int .i64 a3, .int .i64 0, .int .i64 0, .slice none 0 0, .slice none 0 0, .slice none 0 0]) ?_ 3 _ rfl; (with_reducible repeat (first | refine blk_drewN ?_ _ | refine blk_drew ?_ | refine blk_alloc ?_ _)); refine blk_put (cs := #[.int .i64 a1, .int .i64 a0, .int .i64 0, .int .i64 0, .int .i64 0, .slice none 0 0, .slice none 0 0, .slice none 0 0]) ?_ 2 _ rfl; (with_reducible repeat (first | refine blk_drewN ?_ _ | refine blk_drew ?_ | refine blk_alloc ?_ _)); refine blk_put (cs := #[.int .i64 a1, .int .i64 0, .int .i64 0, .int .i64 0, .int .i64 0, .slice none 0 0, .slice none 0 0, .slice none 0 0]) ?_ 1 _ rfl; (with_reducible repeat (first | refine blk_drewN ?_ _ | refine blk_drew ?_ | refine blk_alloc ?_ _)); refine blk_put (cs := #[.int .i64 0, .int .i64 0, .int .i64 0, .int .i64 0, .int .i64 0, .slice none 0 0, .slice none 0 0, .slice none 0 0]) ?_ 0 _ rfl; exact bpl BK207.out⟩, ⟨bnx⟩⟩
 case round =>
  clear H'
  try clear c1
  try clear c2
  try clear p2
  try clear c9
  try clear c10
  try clear hcz10_0 hcz10_1 hcz10_2 hcz10_3 hcz10_4 hcz10_5 hcz10_6 hcz10_7
  try clear hfz10_0 hfz10_1 hfz10_2 hfz10_3 hfz10_4 hfz10_5 hfz10_6 hfz10_7
  obtain ⟨x12_1, x208005_1, u208005, rfl, HA, HK1, HO_208005, BK205, BK207, HB⟩ := hrel
  cases gk with
  | zero => exact absurd HA.out (by simp [spec_l14Make.l0])
  | succ k1 =>
   have H := HA.out
   clear HA
   simp only [spec_l14Make.l0] at H
   by_cases c11 : x12_1 < (wrap64 (Int.tdiv a0 2))
   ·rw [if_pos c11] at H
    have c11b0 : decide (x12_1 < (wrap64 (Int.tdiv a0 2))) = true := decide_eq_true c11
    clear c11
    by_cases c12 : 0 ≤ x12_1
    ·rw [if_pos c12] at H
     have c12b0 : decide (0 ≤ x12_1) = true := decide_eq_true c12
     clear c12
     by_cases c13 : x12_1 < (l2.length : Int)
     ·rw [if_pos c13] at H
      have c13b0 : decide (x12_1 < (l2.length : Int)) = true := decide_eq_true c13
      clear c13
      replace H := bnd H
      obtain ⟨t209, A14, H⟩ := H
      replace H := bnd H
      obtain ⟨t210, A15, H⟩ := H
      by_cases c16 : x208005_1.length < 17592186044416
      ·rw [if_pos c16] at H
       have LMc16 := Aside0.mk c16
       clear c16
       obtain ⟨y211, hy211⟩ : ∃ y_ : List Int, y_ = (x208005_1 ++ [t210]) := ⟨_, rfl⟩
       replace H : (spec_l14Make.l0 k1 a0 l2 a3 (wrap64 (x12_1 + 1)) a1 a0 a3 t206 a4 y211) = some (r1, r2, r3, r4, r5, r6, r7, r8) := by first | (rw [hy211]; with_reducible exact H) | (have H2_ := (Option.bind_some _ _).symm.trans H; rw [hy211]; with_reducible exact H2_) | (have H2_ := (Option.bind_some _ _).symm.trans H; with_reducible exact H2_) | with_reducible exact H | (rw [hy211]; exact H) | exact H
       have Ny211 := Aside0.mk hy211
       clear hy211
       have H' := Aside0.mk H
       clear H
       try go_wp2
       replace HO_208005 := am (Kd.R_drew HO_208005.out)
       replace BK205 := am (blk_drew BK205.out)
       replace BK207 := am (blk_drew BK207.out)
       replace HB := am (below_drew1 HB.out)
       have p208 : 0 ≤ (x12_1 : Int) := dta
       have q208 : x12_1 < (l2.length : Int) := dta
       obtain ⟨ad208, e208, hx208_0⟩ := Kd.at_int HR2.out x12_1 p208 q208
       have hw208_0 := hx208_0
       cases e208
       replace hx208_0 := (HB.out.cell (World.block_lt_of_cell? w _ hx208_0)).trans hx208_0
       replace p208 := eq_true p208
       replace q208 := eq_true q208
       refine start_ (n := 13) (S := fun w' => w'.cell? ⟨gb207, 0, none⟩ = some (.int .i64 a1) ∧ w'.cell? ⟨gb207, 1, none⟩ = some (.int .i64 a0) ∧ w'.cell? ⟨gb207, 2, none⟩ = some (.int .i64 a3) ∧ w'.cell? ⟨gb207, 3, none⟩ = some (.int .i64 t206) ∧ w'.cell? ⟨gb207, 4, none⟩ = some (.int .i64 a4) ∧ w'.cell? ⟨gb207, 5, none⟩ = some (u208005) ∧ w'.cell? ⟨gb207, 6, none⟩ = some (.slice none 0 0) ∧ w'.cell? ⟨gb207, 7, none⟩ = some (.slice none 0 0) ∧ w'.cell? (ad208.add (x12_1).toNat) = some (.int .i64 (rd l2 x12_1))) (ds := [12]) #[false, false, false, false, false, false, false, false, false, false, false, false, false] (by kernel_rfl) rfl rfl ⟨(blk_cell BK207.out 0).trans rfl, (blk_cell BK207.out 1).trans rfl, (blk_cell BK207.out 2).trans rfl, (blk_cell BK207.out 3).trans rfl, (blk_cell BK207.out 4).trans rfl, (blk_cell BK207.out 5).trans rfl, (blk_cell BK207.out 6).trans rfl, (blk_cell BK207.out 7).trans rfl, ((HB.out.cell (World.block_lt_of_cell? w _ hw208_0)).trans hw208_0)⟩ (fun hHeld => ?_); refine with_tabW spec_l14Make.tab5 spec_l14Make.bits5 (fun HT_ HW_ => ?_)
       generalize wr.drew = w17 at HO_208005 BK205 BK207 HB hx208_0 hHeld ⊢
       refine pu_ 0 31 HT_ ?_
       refine pu_ 2 33 HT_ ?_
       refine pu_ 3 34 HT_ ?_
       refine pu_ 4 35 HT_ ?_
       refine pu_ 6 37 HT_ ?_
       refine tk_ 1 32 HT_ HW_ hHeld ?_
       refine tk_ 5 36 HT_ HW_ hHeld ?_
       refine on_ 7 HT_ (fun K hK => ?_)
       refine gs_ Try.func151 #[.int .i64 a3] ?_
       with_reducible refine (spec_l9Step.calls k1 a3 t209 _ A14.out).mono ?_
       rintro e w' ⟨rfl, ⟨nd, rfl⟩⟩
       refine ⟨_, rfl, ?_⟩
       refine hK.out _ _ ⟨(blk_cell BK207.out 0).trans rfl, (blk_cell BK207.out 1).trans rfl, (blk_cell BK207.out 2).trans rfl, (blk_cell BK207.out 3).trans rfl, (blk_cell BK207.out 4).trans rfl, (blk_cell BK207.out 5).trans rfl, (blk_cell BK207.out 6).trans rfl, (blk_cell BK207.out 7).trans rfl, ((HB.out.cell (World.block_lt_of_cell? w _ hw208_0)).trans hw208_0)⟩ (fun hHeld => ?_)
       clear hK K
       refine nm_ 38 ?_
       refine on_ 8 HT_ (fun K hK => ?_)
       refine gs_ Try.func172 #[.int .i64 (rd l2 x12_1), .int .i64 t209] ?_
       with_reducible refine (spec_l1Round.calls k1 (rd l2 x12_1) t209 t210 _ A15.out).mono ?_
       rintro e w' ⟨rfl, ⟨nd, rfl⟩⟩
       refine ⟨_, rfl, ?_⟩
       refine hK.out _ _ ⟨(blk_cell BK207.out 0).trans rfl, (blk_cell BK207.out 1).trans rfl, (blk_cell BK207.out 2).trans rfl, (blk_cell BK207.out 3).trans rfl, (blk_cell BK207.out 4).trans rfl, (blk_cell BK207.out 5).trans rfl, (blk_cell BK207.out 6).trans rfl, (blk_cell BK207.out 7).trans rfl, ((HB.out.cell (World.block_lt_of_cell? w _ hw208_0)).trans hw208_0)⟩ (fun hHeld => ?_)
       clear hK K
       refine nm_ 39 ?_
       refine on_ 9 HT_ (fun K hK => ?_)
       refine value_ (w1 := ?_) (v := ?_) (by rfl) rfl ?_ ?_
       rotate_left 2
       ·go_simp
        constructor
        ·rfl
        ·rfl
       refine hK.out _ _ ⟨(blk_cell (blk_alloc BK207.out _) 0).trans rfl, (blk_cell (blk_alloc BK207.out _) 1).trans rfl, (blk_cell (blk_alloc BK207.out _) 2).trans rfl, (blk_cell (blk_alloc BK207.out _) 3).trans rfl, (blk_cell (blk_alloc BK207.out _) 4).trans rfl, (blk_cell (blk_alloc BK207.out _) 5).trans rfl, (blk_cell (blk_alloc BK207.out _) 6).trans rfl, (blk_cell (blk_alloc BK207.out _) 7).trans rfl, (World.cell?_alloc_lt _ _ _ (World.block_lt_of_cell? _ _ (((HB.out.cell (World.block_lt_of_cell? w _ hw208_0)).trans hw208_0)))).trans (((HB.out.cell (World.block_lt_of_cell? w _ hw208_0)).trans hw208_0))⟩ (fun hHeld => ?_)
       clear hK K
       refine nm_ 40 ?_
       refine on_ 10 HT_ (fun K hK => ?_)
       refine Kd.R_append_step (Kd.int .i64) (w0 := w) w.heap.size (by rfl) (.tmp 32) (.tmp 40) 24 2 (.int .i64 0) 8 rfl Try.underlying24 info2 rfl (by decide) (by omega) u208005 x208005_1 t210 [.int .i64 t210] (fun _ => True) (fun _ => False) rfl rfl ?aP (fun _ hk => hk.elim) ?aF ?aO ?aB ?aS ?aL ?_
       (case aP => exact rfl)
       (case aB => exact bnx)
       (case aF => exact (fun _ _ => trivial))
       (case aO => exact (rpl HO_208005.out))
       (case aS => exact bsz)
       (case aL => have := LMc16.out; omega)
       intro v212 w18 ho hb hg hat
       rw [← Ny211.out] at ho
       replace BK205 := am (blk_grown (bpl BK205.out) hg (Kd.R_ne HO_208005.out BK205.out (by decide)))
       replace BK207 := am (blk_grown (bpl BK207.out) hg (Kd.R_ne HO_208005.out BK207.out (by decide)))
       replace HB := am hb
       have HO213 := am ho
       clear HO_208005 ho hb hg hat
       obtain ⟨Ao19, co19, eo19⟩ := Kd.R_slice HO213.out
       (first | subst eo19 | (injection eo19 with f1_ f2_ f3_; have f4_ := f1_.symm; have f5_ := f3_.symm; clear f1_ f2_ f3_; subst f4_; subst f5_))
       refine hK.out _ _ ⟨(blk_cell BK207.out 0).trans rfl, (blk_cell BK207.out 1).trans rfl, (blk_cell BK207.out 2).trans rfl, (blk_cell BK207.out 3).trans rfl, (blk_cell BK207.out 4).trans rfl, (blk_cell BK207.out 5).trans rfl, (blk_cell BK207.out 6).trans rfl, (blk_cell BK207.out 7).trans rfl, ((HB.out.cell (World.block_lt_of_cell? w _ hw208_0)).trans hw208_0)⟩ (fun hHeld => ?_)
       clear hK K
       refine nm_ 41 ?_
       refine pu_ 11 42 HT_ ?_
       refine last_ (i := 12) (N := none) #[true, true, true, true, true, true, true, true, true, true, true, true, true] rfl rfl (one_of HT_.out (by kernel_rfl)) (by decide) (fun K hK => ?_)
       have hs20 : w18.cell? ⟨gb207, 5, none⟩ = some (u208005) := (blk_cell BK207.out 5).trans rfl
       have hfs20 := blk_frozen BK207.out 5
       have hns20_0 := NB205_207.out
       have hms20_0 := NB207_205.out
       refine skip_ (w1 := ?_) (by rfl) rfl ?_ ?_
       rotate_left
       ·go_simp
        rfl
       refine hK.out _ _ ?_
       clear hK K
       refine done_ (done_of HT_.out (by kernel_rfl)) ?_
       try go_wp2
       go_roundg k1
       case measure => have := HK1.out; omega
       case rel => exact ⟨(wrap64 (x12_1 + 1)), (y211), (.slice Ao19 y211.length co19), rq, H', ⟨by have := HK1.out; omega⟩, ⟨by (with_reducible repeat (first | apply Kd.R_alloc | apply Kd.R_drewN | apply Kd.R_drew)); exact Kd.R_mono (Kd.R_far (p := ⟨gb207, 5, none⟩) (Kd.R_types HO213.out BK207.out (by decide)) (fun _ hk => hk.2) (.slice Ao19 y211.length co19)) (fun _ hk => trivial)⟩, ⟨by (with_reducible repeat (first | refine blk_drewN ?_ _ | refine blk_drew ?_ | refine blk_alloc ?_ _)); refine blk_far ?_ NB205_207.out _; (with_reducible repeat (first | refine blk_drewN ?_ _ | refine blk_drew ?_ | refine blk_alloc ?_ _)); exact BK205.out⟩, ⟨by (with_reducible repeat (first | refine blk_drewN ?_ _ | refine blk_drew ?_ | refine blk_alloc ?_ _)); refine blk_put (cs := #[.int .i64 a1, .int .i64 a0, .int .i64 a3, .int .i64 t206, .int .i64 a4, u208005, .slice none 0 0, .slice none 0 0]) ?_ 5 _ rfl; exact bpl BK207.out⟩, ⟨bnx⟩⟩
      ·rw [if_neg c16] at H
       exact absurd H (by simp)
     ·rw [if_neg c13] at H
      exact absurd H (by simp)
    ·rw [if_neg c12] at H
     exact absurd H (by simp)
   ·rw [if_neg c11] at H
    have c11b0 : decide (x12_1 < (wrap64 (Int.tdiv a0 2))) = false := decide_eq_false c11
    clear c11
    replace H := bnd H
    obtain ⟨t214, A21, H⟩ := H
    replace H := bnd H
    obtain ⟨t217, A22, H⟩ := H
    replace H := bnd H
    obtain ⟨t220, A23, H⟩ := H
    replace H := bnd H
    obtain ⟨t221, A24, H⟩ := H
    have H' := Aside0.mk H
    clear H
    go_wp2_with (first | ((with_reducible refine gate_callee (f := 145) rfl ?_); refine gl_ 44 Try.func145 #[.int .i64 a0] ?_; (with_reducible refine (spec_l13Bands.calls a0 t214 _ A21.out).mono ?_); rintro e w25 ⟨v215, rfl, ho0, hb⟩; refine ⟨_, rfl, ?_⟩; replace HO_208005 := rbl HO_208005 hb; have HO216 := rlw ho0; replace BK205 := bkb BK205 hb; replace BK207 := bkb BK207 hb; replace HB := hbs hb; (try clear hb); (try clear ho0)) | ((with_reducible refine gate_callee (f := 173) rfl ?_); refine gl_ 47 Try.func173 #[.int .i64 a0, .slice A2 l2.length c2] ?_; (with_reducible refine (spec_l13Norms.calls k1 a0 _ _ l2 t217 _ ?_ ?_ A22.out).mono ?_); exact cpl HR2.out; exact HC2.out; rintro e w26 ⟨v218, rfl, ho0, hb⟩; refine ⟨_, rfl, ?_⟩; replace HO216 := rbl HO216 hb; have HO219 := am (Kd.R_lower (Kd.R_new' ho0 (rlt HO_208005)) bsz); replace HO_208005 := rel HO_208005 ho0 hb; replace BK205 := bkb BK205 hb; replace BK207 := bkb BK207 hb; replace HB := hbs hb; (try clear hb); (try clear ho0); have hnb27 := NB207_205.out; have hnc27 := NB205_207.out; obtain ⟨hcz28_0, hcz28_1, hcz28_2, hcz28_3, hcz28_4, hcz28_5, hcz28_6, hcz28_7, hfz28_0, hfz28_1, hfz28_2, hfz28_3, hfz28_4, hfz28_5, hfz28_6, hfz28_7⟩ := cf8 (W := w26) BK207.out) | ((with_reducible refine gate_callee (f := 149) rfl ?_); refine gl_ 51 Try.func149 #[.int .i64 a3, .int .i64 t206] ?_; (with_reducible refine (spec_l13Rung.calls a3 t206 t220 _ A23.out).mono ?_); rintro e w' ⟨rfl, ⟨nd, rfl⟩⟩; refine ⟨_, rfl, ?_⟩) | ((with_reducible refine gate_callee (f := 151) rfl ?_); refine gl_ 52 Try.func151 #[.int .i64 t220] ?_; (with_reducible refine (spec_l9Step.calls k1 t220 t221 _ A24.out).mono ?_); rintro e w' ⟨rfl, ⟨nd, rfl⟩⟩; refine ⟨_, rfl, ?_⟩))
    go_loopg [16] k1 (fun kq v16 w' => ∃ (x16_2 : Int) (x208006_2 : List Int) (x208007_2 : List (List Int)) (u208006 : Value) (u208007 : Value), v16 = .int .i64 x16_2 ∧ Aside0 (spec_l14Make.l1 kq l2 t214 t217 t221 x16_2 a1 a0 a3 t206 a4 x208005_1 x208006_2 x208007_2 = some (r1, r2, r3, r4, r5, r6, r7, r8)) ∧ Aside0 (kq ≤ k1) ∧ Aside0 (Kd.R k93 93 w' w.heap.size (fun _ => True) v215 t214) ∧ Aside0 (Kd.R (Kd.int .i64) 2 w' w.heap.size (fun k_ => some k_ ≠ (u208005 : Value).ownBlock ∧ some k_ ≠ (u208006 : Value).ownBlock) v218 t217) ∧ Aside0 (Kd.R (Kd.int .i64) 2 w' w.heap.size (fun k_ => some k_ ≠ (v218 : Value).ownBlock ∧ some k_ ≠ (u208006 : Value).ownBlock) u208005 x208005_1) ∧ Aside0 (Kd.R (Kd.int .i64) 2 w' w.heap.size (fun k_ => some k_ ≠ (v218 : Value).ownBlock ∧ some k_ ≠ (u208005 : Value).ownBlock) u208006 x208006_2) ∧ Aside0 (Kd.S (Kd.slice 2 (Kd.int .i64)) 24 w' w.heap.size (fun k_ => some k_ ≠ (v218 : Value).ownBlock ∧ some k_ ≠ (u208005 : Value).ownBlock ∧ some k_ ≠ (u208006 : Value).ownBlock) u208007 x208007_2) ∧ Aside0 (w'.heap[gb205]? = some (.cells #[.int .i64 0, .int .i64 0, .int .i64 0, .int .i64 0, .int .i64 0, (.slice none 0 0), (.slice none 0 0), (.slice none 0 0)] 36 (0, 0))) ∧ Aside0 (w'.heap[gb207]? = some (.cells #[.int .i64 a1, .int .i64 a0, .int .i64 a3, .int .i64 t206, .int .i64 a4, u208005, u208006, u208007] 36 (0, 0))) ∧ Aside0 (Below w.heap.size w w'))
    case atStart => exact ⟨(0), (([] : List Int)), (([] : List (List Int))), (.slice none 0 0), (.slice none 0 0), rq, H', ⟨Nat.le_refl _⟩, ⟨by (with_reducible repeat (first | apply Kd.R_alloc | apply Kd.R_drewN | apply Kd.R_drew)); exact HO216.out⟩, ⟨by (with_reducible repeat (first | apply Kd.R_alloc | apply Kd.R_drewN | apply Kd.R_drew)); exact Kd.R_mono HO219.out (fun _ hk => ⟨hk.2, (by simp [Value.ownBlock])⟩)⟩, ⟨by (with_reducible repeat (first | apply Kd.R_alloc | apply Kd.R_drewN | apply Kd.R_drew)); exact Kd.R_mono HO_208005.out (fun _ hk => ⟨hk.2, (by simp [Value.ownBlock])⟩)⟩, ⟨by first | exact Kd.R_nil _ _ _ _ _ | exact Kd.N_nil _ _ _ _ _ | exact Kd.V_nil _ _ _ _ _ | exact Kd.Q_nil _ _ _ _ _ | exact Kd.S_nil _ _ _ _ _⟩, ⟨by first | exact Kd.S_nil _ _ _ _ _ | exact Kd.N_nil _ _ _ _ _ | exact Kd.V_nil _ _ _ _ _ | exact Kd.Q_nil _ _ _ _ _ | exact Kd.R_nil _ _ _ _ _⟩, ⟨bpl BK205.out⟩, ⟨bpl BK207.out⟩, ⟨bnx⟩⟩
    case round =>
     clear H'
     try clear c1
     try clear c2
     try clear p2
     try clear q2
     try clear hx2
     try clear p6
     try clear c9
     try clear c10
     try clear c11
     try clear c11b0
     try clear c12
     try clear c12b0
     try clear c13
     try clear c13b0
     try clear c14
     try clear c15
     try clear c16
     try clear c17
     try clear p20
     try clear q20
     try clear hx20
     try clear c27
     try clear hcz10_0 hcz10_1 hcz10_2 hcz10_3 hcz10_4 hcz10_5 hcz10_6 hcz10_7
     try clear hcz28_0 hcz28_1 hcz28_2 hcz28_3 hcz28_4 hcz28_5 hcz28_6 hcz28_7
     try clear hfz10_0 hfz10_1 hfz10_2 hfz10_3 hfz10_4 hfz10_5 hfz10_6 hfz10_7
     try clear hfz28_0 hfz28_1 hfz28_2 hfz28_3 hfz28_4 hfz28_5 hfz28_6 hfz28_7
     try clear hx208_0
     try clear p2
     try clear p208
     try clear q208
     obtain ⟨x16_2, x208006_2, x208007_2, u208006, u208007, rfl, HA, HK2, HO_13, HO_14, HO_208005, HO_208006, HO_208007, BK205, BK207, HB⟩ := hrel
     cases gk with
     | zero => exact absurd HA.out (by simp [spec_l14Make.l1])
     | succ k2 =>
      have H := HA.out
      clear HA
      simp only [spec_l14Make.l1] at H
      by_cases c29 : x16_2 < (t214.length : Int)
      ·rw [if_pos c29] at H
       have c29b0 : decide (x16_2 < (t214.length : Int)) = true := decide_eq_true c29
       clear c29
       by_cases c30 : 0 ≤ x16_2
       ·rw [if_pos c30] at H
        have c30b0 : decide (0 ≤ x16_2) = true := decide_eq_true c30
        clear c30
        by_cases c31 : x16_2 < (t217.length : Int)
        ·rw [if_pos c31] at H
         have c31b0 : decide (x16_2 < (t217.length : Int)) = true := decide_eq_true c31
         clear c31
         replace H := bnd H
         obtain ⟨t223, A32, H⟩ := H
         by_cases c33 : x208006_2.length < 17592186044416
         ·rw [if_pos c33] at H
          have LMc33 := Aside0.mk c33
          clear c33
          obtain ⟨y224, hy224⟩ : ∃ y_ : List Int, y_ = (x208006_2 ++ [t223]) := ⟨_, rfl⟩
          replace H : (if 0 ≤ ((rd_T93 t214 x16_2).f0) then (if ((rd_T93 t214 x16_2).f0) ≤ (wrap64 (((rd_T93 t214 x16_2).f0) + ((rd_T93 t214 x16_2).f1))) then (if (wrap64 (((rd_T93 t214 x16_2).f0) + ((rd_T93 t214 x16_2).f1))) ≤ (l2.length : Int) then ((spec_l13Of_any.f ((rd_T93 t214 x16_2).f0) ((rd_T93 t214 x16_2).f1)).bind fun t229 => ((spec_l12Search.f k2 ((l2.take (wrap64 (((rd_T93 t214 x16_2).f0) + ((rd_T93 t214 x16_2).f1))).toNat).drop ((rd_T93 t214 x16_2).f0).toNat) (wrap64 (8 - (wrap64 (2 * t206))))).bind fun t230 => (if x208007_2.length < 5864062014805 then (spec_l14Make.l1 k2 l2 t214 t217 t221 (wrap64 (x16_2 + 1)) a1 a0 a3 t206 a4 x208005_1 y224 (x208007_2 ++ [t230])) else (none)))) else (none)) else (none)) else (none)) = some (r1, r2, r3, r4, r5, r6, r7, r8) := by first | (rw [hy224]; with_reducible exact H) | (have H2_ := (Option.bind_some _ _).symm.trans H; rw [hy224]; with_reducible exact H2_) | (have H2_ := (Option.bind_some _ _).symm.trans H; with_reducible exact H2_) | with_reducible exact H | (rw [hy224]; exact H) | exact H
          have Ny224 := Aside0.mk hy224
          clear hy224
          by_cases c34 : 0 ≤ ((rd_T93 t214 x16_2).f0)
          ·rw [if_pos c34] at H
           have c34b0 := eq_true c34
           have c34b1 : decide (0 ≤ ((rd_T93 t214 x16_2).f0)) = true := decide_eq_true c34
           clear c34
           by_cases c35 : ((rd_T93 t214 x16_2).f0) ≤ (wrap64 (((rd_T93 t214 x16_2).f0) + ((rd_T93 t214 x16_2).f1)))
           ·rw [if_pos c35] at H
            have c35b0 := eq_true c35
            have c35b1 : decide (((rd_T93 t214 x16_2).f0) ≤ (wrap64 (((rd_T93 t214 x16_2).f0) + ((rd_T93 t214 x16_2).f1)))) = true := decide_eq_true c35
            by_cases c36 : (wrap64 (((rd_T93 t214 x16_2).f0) + ((rd_T93 t214 x16_2).f1))) ≤ (l2.length : Int)
            ·rw [if_pos c36] at H
             have c36b0 := eq_true c36
             have c36b1 : decide ((wrap64 (((rd_T93 t214 x16_2).f0) + ((rd_T93 t214 x16_2).f1))) ≤ (l2.length : Int)) = true := decide_eq_true c36
             replace H := bnd H
             obtain ⟨t229, A37, H⟩ := H
             replace H := bnd H
             obtain ⟨t230, A38, H⟩ := H
             by_cases c39 : x208007_2.length < 5864062014805
             ·rw [if_pos c39] at H
              have LMc39 := Aside0.mk c39
              clear c39
              obtain ⟨y233, hy233⟩ : ∃ y_ : List (List Int), y_ = (x208007_2 ++ [t230]) := ⟨_, rfl⟩
              replace H : (spec_l14Make.l1 k2 l2 t214 t217 t221 (wrap64 (x16_2 + 1)) a1 a0 a3 t206 a4 x208005_1 y224 y233) = some (r1, r2, r3, r4, r5, r6, r7, r8) := by first | (rw [hy233]; with_reducible exact H) | (have H2_ := (Option.bind_some _ _).symm.trans H; rw [hy233]; with_reducible exact H2_) | (have H2_ := (Option.bind_some _ _).symm.trans H; with_reducible exact H2_) | with_reducible exact H | (rw [hy233]; exact H) | exact H
              have Ny233 := Aside0.mk hy233
              clear hy233
              have H' := Aside0.mk H
              clear H
              obtain ⟨Ao40, co40, eo40⟩ := Kd.R_slice HO_13.out
              subst eo40
              try go_wp2
              replace HO_13 := am (Kd.R_drew HO_13.out)
              replace HO_14 := am (Kd.R_drew HO_14.out)
              replace HO_208005 := am (Kd.R_drew HO_208005.out)
              replace HO_208006 := am (Kd.R_drew HO_208006.out)
              replace HO_208007 := am (Kd.S_drew HO_208007.out)
              replace BK205 := am (blk_drew BK205.out)
              replace BK207 := am (blk_drew BK207.out)
              replace HB := am (below_drew1 HB.out)
              obtain ⟨Ao42, co42, eo42⟩ := Kd.R_slice HO_14.out
              (first | subst eo42 | (injection eo42 with f1_ f2_ f3_; have f4_ := f1_.symm; have f5_ := f3_.symm; clear f1_ f2_ f3_; subst f4_; subst f5_))
              have p222 : 0 ≤ (x16_2 : Int) := dta
              have q222 : x16_2 < (t217.length : Int) := dta
              obtain ⟨ad222, e222, hx222_0⟩ := Kd.at_int (Kd.R_reads' HO_14.out).2.2 x16_2 p222 q222
              cases e222
              replace p222 := eq_true p222
              replace q222 := eq_true q222
              refine start_ (n := 12) (S := fun w' => w'.cell? ⟨gb207, 0, none⟩ = some (.int .i64 a1) ∧ w'.cell? ⟨gb207, 1, none⟩ = some (.int .i64 a0) ∧ w'.cell? ⟨gb207, 2, none⟩ = some (.int .i64 a3) ∧ w'.cell? ⟨gb207, 3, none⟩ = some (.int .i64 t206) ∧ w'.cell? ⟨gb207, 4, none⟩ = some (.int .i64 a4) ∧ w'.cell? ⟨gb207, 5, none⟩ = some (u208005) ∧ w'.cell? ⟨gb207, 6, none⟩ = some (u208006) ∧ w'.cell? ⟨gb207, 7, none⟩ = some (u208007) ∧ w'.cell? (ad222.add (x16_2).toNat) = some (.int .i64 (rd t217 x16_2))) (ds := [9, 11]) #[false, false, false, false, false, false, false, false, false, false, false, false] (by kernel_rfl) rfl rfl ⟨(blk_cell BK207.out 0).trans rfl, (blk_cell BK207.out 1).trans rfl, (blk_cell BK207.out 2).trans rfl, (blk_cell BK207.out 3).trans rfl, (blk_cell BK207.out 4).trans rfl, (blk_cell BK207.out 5).trans rfl, (blk_cell BK207.out 6).trans rfl, (blk_cell BK207.out 7).trans rfl, hx222_0⟩ (fun hHeld => ?_); refine with_tabW spec_l14Make.tab12 spec_l14Make.bits12 (fun HT_ HW_ => ?_)
              generalize wr.drew = w41 at HO_13 HO_14 HO_208005 HO_208006 HO_208007 BK205 BK207 HB hx222_0 hHeld ⊢
              refine pu_ 0 59 HT_ ?_
              refine pu_ 2 61 HT_ ?_
              refine pu_ 3 62 HT_ ?_
              refine pu_ 4 63 HT_ ?_
              refine pu_ 6 65 HT_ ?_
              refine tk_ 1 60 HT_ HW_ hHeld ?_
              refine tk_ 5 64 HT_ HW_ hHeld ?_
              refine on_ 7 HT_ (fun K hK => ?_)
              refine gs_ Try.func172 #[.int .i64 (rd t217 x16_2), .int .i64 t221] ?_
              with_reducible refine (spec_l1Round.calls k2 (rd t217 x16_2) t221 t223 _ A32.out).mono ?_
              rintro e w' ⟨rfl, ⟨nd, rfl⟩⟩
              refine ⟨_, rfl, ?_⟩
              refine hK.out _ _ ⟨(blk_cell BK207.out 0).trans rfl, (blk_cell BK207.out 1).trans rfl, (blk_cell BK207.out 2).trans rfl, (blk_cell BK207.out 3).trans rfl, (blk_cell BK207.out 4).trans rfl, (blk_cell BK207.out 5).trans rfl, (blk_cell BK207.out 6).trans rfl, (blk_cell BK207.out 7).trans rfl, hHeld.2.2.2.2.2.2.2.2⟩ (fun hHeld => ?_)
              clear hK K
              refine nm_ 66 ?_
              refine on_ 8 HT_ (fun K hK => ?_)
              refine value_ (w1 := ?_) (v := ?_) (by rfl) rfl ?_ ?_
              rotate_left 2
              ·go_simp
               constructor
               ·rfl
               ·rfl
              refine hK.out _ _ ⟨(blk_cell (blk_alloc BK207.out _) 0).trans rfl, (blk_cell (blk_alloc BK207.out _) 1).trans rfl, (blk_cell (blk_alloc BK207.out _) 2).trans rfl, (blk_cell (blk_alloc BK207.out _) 3).trans rfl, (blk_cell (blk_alloc BK207.out _) 4).trans rfl, (blk_cell (blk_alloc BK207.out _) 5).trans rfl, (blk_cell (blk_alloc BK207.out _) 6).trans rfl, (blk_cell (blk_alloc BK207.out _) 7).trans rfl, (World.cell?_alloc_lt _ _ _ (World.block_lt_of_cell? _ _ (hHeld.2.2.2.2.2.2.2.2))).trans (hHeld.2.2.2.2.2.2.2.2)⟩ (fun hHeld => ?_)
              clear hK K
              refine nm_ 67 ?_
              refine last_ (i := 9) (N := some 68) #[true, true, true, true, true, true, true, true, true, true, false, false] rfl rfl (one_of HT_.out (by kernel_rfl)) (by decide) (fun K hK => ?_)
              refine Kd.R_append_step (Kd.int .i64) (w0 := w) w.heap.size (by rfl) (.tmp 60) (.tmp 67) 24 2 (.int .i64 0) 8 rfl Try.underlying24 info2 rfl (by decide) (by omega) u208006 x208006_2 t223 [.int .i64 t223] (fun k_ => some k_ ≠ (.slice (some ad222) t217.length co42 : Value).ownBlock ∧ some k_ ≠ (u208005 : Value).ownBlock) (fun _ => False) rfl rfl ?aP (fun _ hk => hk.elim) ?aF ?aO ?aB ?aS ?aL ?_
              (case aP => exact rfl)
              (case aB => exact bnx)
              (case aF => exact (fun k_ hk => ⟨Kd.fresh' (Kd.R_lt (rpl HO_14.out)) k_ hk, Kd.fresh' (Kd.R_lt (rpl HO_208005.out)) k_ hk⟩))
              (case aO => exact (rpl HO_208006.out))
              (case aS => exact bsz)
              (case aL => have := LMc33.out; omega)
              intro v225 w43 ho hb hg hat
              rw [← Ny224.out] at ho
              replace HO_13 := am (Kd.R_over' (rpl HO_13.out) (Kd.R_typed (rpl HO_208006.out)) (by decide) hg)
              replace HO_14 := am (Kd.R_after (ok := (fun k_ => some k_ ≠ (u208005 : Value).ownBlock)) (rpl HO_14.out) hg hat)
              replace HO_208005 := am (Kd.R_after (ok := (fun k_ => some k_ ≠ (.slice (some ad222) t217.length co42 : Value).ownBlock)) (rpl HO_208005.out) hg hat)
              replace HO_208007 := am (Kd.S_after (ok := (fun k_ => some k_ ≠ (.slice (some ad222) t217.length co42 : Value).ownBlock ∧ some k_ ≠ (u208005 : Value).ownBlock)) (by (with_reducible repeat (first | apply Kd.S_alloc | apply Kd.S_drewN | apply Kd.S_drew)); exact Kd.S_mono HO_208007.out (fun _ hk => ⟨⟨hk.1, hk.2.1⟩, hk.2.2⟩)) hg hat)
              replace BK205 := am (blk_grown (bpl BK205.out) hg (Kd.R_ne HO_208006.out BK205.out (by decide)))
              replace BK207 := am (blk_grown (bpl BK207.out) hg (Kd.R_ne HO_208006.out BK207.out (by decide)))
              replace HB := am hb
              have HO226 := am ho
              clear HO_208006 ho hb hg hat
              obtain ⟨Ao44, co44, eo44⟩ := Kd.R_slice HO226.out
              (first | subst eo44 | (injection eo44 with f1_ f2_ f3_; have f4_ := f1_.symm; have f5_ := f3_.symm; clear f1_ f2_ f3_; subst f4_; subst f5_))
              refine hK.out _ _ ?_
              clear hK K
              refine nm_ 68 ?_
              refine pu_ 10 69 HT_ ?_
              refine last_ (i := 11) (N := none) #[true, true, true, true, true, true, true, true, true, true, true, true] rfl rfl (one_of HT_.out (by kernel_rfl)) (by decide) (fun K hK => ?_)
              have hs45 : w43.cell? ⟨gb207, 6, none⟩ = some (u208006) := (blk_cell BK207.out 6).trans rfl
              have hfs45 := blk_frozen BK207.out 6
              have hns45_0 := NB205_207.out
              have hms45_0 := NB207_205.out
              refine skip_ (w1 := ?_) (by rfl) rfl ?_ ?_
              rotate_left
              ·go_simp
               rfl
              refine hK.out _ _ ?_
              clear hK K
              refine done_ (done_of HT_.out (by kernel_rfl)) ?_
              try go_wp2
              have n0_ : Aside0 (Kd.R k93 93 (w43.setCell ⟨gb207, 6, none⟩ (.slice Ao44 y224.length co44)) w.heap.size (fun _ => True) (.slice Ao40 t214.length co40) t214) := ⟨by (with_reducible repeat (first | apply Kd.R_alloc | apply Kd.R_drewN | apply Kd.R_drew)); exact Kd.R_mono (Kd.R_far (p := ⟨gb207, 6, none⟩) (Kd.R_types HO_13.out BK207.out (by decide)) (fun _ hk => hk.2) (.slice Ao44 y224.length co44)) (fun _ hk => trivial)⟩
              have n1_ : Aside0 (Kd.R (Kd.int .i64) 2 (w43.setCell ⟨gb207, 6, none⟩ (.slice Ao44 y224.length co44)) w.heap.size (fun k_ => some k_ ≠ (u208005 : Value).ownBlock ∧ some k_ ≠ (.slice Ao44 y224.length co44 : Value).ownBlock) (.slice (some ad222) t217.length co42) t217) := ⟨by (with_reducible repeat (first | apply Kd.R_alloc | apply Kd.R_drewN | apply Kd.R_drew)); exact Kd.R_mono (Kd.R_far (p := ⟨gb207, 6, none⟩) (Kd.R_types HO_14.out BK207.out (by decide)) (fun _ hk => hk.2) (.slice Ao44 y224.length co44)) (fun _ hk => ⟨hk.1.1, hk.1.2⟩)⟩
              have n2_ : Aside0 (Kd.R (Kd.int .i64) 2 (w43.setCell ⟨gb207, 6, none⟩ (.slice Ao44 y224.length co44)) w.heap.size (fun k_ => some k_ ≠ (.slice (some ad222) t217.length co42 : Value).ownBlock ∧ some k_ ≠ (.slice Ao44 y224.length co44 : Value).ownBlock) u208005 x208005_1) := ⟨by (with_reducible repeat (first | apply Kd.R_alloc | apply Kd.R_drewN | apply Kd.R_drew)); exact Kd.R_mono (Kd.R_far (p := ⟨gb207, 6, none⟩) (Kd.R_types HO_208005.out BK207.out (by decide)) (fun _ hk => hk.2) (.slice Ao44 y224.length co44)) (fun _ hk => ⟨hk.1.1, hk.1.2⟩)⟩
              have n3_ : Aside0 (Kd.S (Kd.slice 2 (Kd.int .i64)) 24 (w43.setCell ⟨gb207, 6, none⟩ (.slice Ao44 y224.length co44)) w.heap.size (fun k_ => some k_ ≠ (.slice (some ad222) t217.length co42 : Value).ownBlock ∧ some k_ ≠ (u208005 : Value).ownBlock ∧ some k_ ≠ (.slice Ao44 y224.length co44 : Value).ownBlock) u208007 x208007_2) := ⟨by (with_reducible repeat (first | apply Kd.S_alloc | apply Kd.S_drewN | apply Kd.S_drew)); exact Kd.S_mono (Kd.S_far (p := ⟨gb207, 6, none⟩) (Kd.S_types HO_208007.out BK207.out (by decide)) (fun _ hk => hk.2) (.slice Ao44 y224.length co44)) (fun _ hk => ⟨hk.1.1.1, ⟨hk.1.1.2, hk.1.2⟩⟩)⟩
              have n4_ : Aside0 (Kd.R (Kd.int .i64) 2 (w43.setCell ⟨gb207, 6, none⟩ (.slice Ao44 y224.length co44)) w.heap.size (fun k_ => some k_ ≠ (.slice (some ad222) t217.length co42 : Value).ownBlock ∧ some k_ ≠ (u208005 : Value).ownBlock) (.slice Ao44 y224.length co44) y224) := ⟨by (with_reducible repeat (first | apply Kd.R_alloc | apply Kd.R_drewN | apply Kd.R_drew)); exact Kd.R_mono (Kd.R_far (p := ⟨gb207, 6, none⟩) (Kd.R_types HO226.out BK207.out (by decide)) (fun _ hk => hk.2) (.slice Ao44 y224.length co44)) (fun _ hk => ⟨hk.1.1, hk.1.2⟩)⟩
              have n5_ : Aside0 ((w43.setCell ⟨gb207, 6, none⟩ (.slice Ao44 y224.length co44)).heap[gb205]? = some (.cells #[.int .i64 0, .int .i64 0, .int .i64 0, .int .i64 0, .int .i64 0, .slice none 0 0, .slice none 0 0, .slice none 0 0] 36 (0, 0))) := ⟨by (with_reducible repeat (first | refine blk_drewN ?_ _ | refine blk_drew ?_ | refine blk_alloc ?_ _)); refine blk_far ?_ NB205_207.out _; (with_reducible repeat (first | refine blk_drewN ?_ _ | refine blk_drew ?_ | refine blk_alloc ?_ _)); exact BK205.out⟩
              have n6_ : Aside0 ((w43.setCell ⟨gb207, 6, none⟩ (.slice Ao44 y224.length co44)).heap[gb207]? = some (.cells #[.int .i64 a1, .int .i64 a0, .int .i64 a3, .int .i64 t206, .int .i64 a4, u208005, .slice Ao44 y224.length co44, u208007] 36 (0, 0))) := ⟨by (with_reducible repeat (first | refine blk_drewN ?_ _ | refine blk_drew ?_ | refine blk_alloc ?_ _)); refine blk_put (cs := #[.int .i64 a1, .int .i64 a0, .int .i64 a3, .int .i64 t206, .int .i64 a4, u208005, u208006, u208007]) ?_ 6 _ rfl; exact bpl BK207.out⟩
              have n7_ : Aside0 (Below w.heap.size w (w43.setCell ⟨gb207, 6, none⟩ (.slice Ao44 y224.length co44))) := ⟨bnx⟩
              (try clear HO_13)
              (try clear HO_14)
              (try clear HO_208005)
              (try clear HO_208007)
              (try clear HO226)
              (try clear BK205)
              (try clear BK207)
              (try clear HB)
              generalize (w43.setCell ⟨gb207, 6, none⟩ (.slice Ao44 y224.length co44)) = w46 at n0_ n1_ n2_ n3_ n4_ n5_ n6_ n7_ ⊢
              have HO_13 := n0_
              have HO_14 := n1_
              have HO_208005 := n2_
              have HO_208007 := n3_
              have HO226 := n4_
              have BK205 := n5_
              have BK207 := n6_
              have HB := n7_
              clear n0_ n1_ n2_ n3_ n4_ n5_ n6_ n7_
              replace HO_13 := am (Kd.R_drew HO_13.out)
              replace HO_14 := am (Kd.R_drew HO_14.out)
              replace HO_208005 := am (Kd.R_drew HO_208005.out)
              replace HO_208007 := am (Kd.S_drew HO_208007.out)
              replace HO226 := am (Kd.R_drew HO226.out)
              replace BK205 := am (blk_drew BK205.out)
              replace BK207 := am (blk_drew BK207.out)
              replace HB := am (below_drew1 HB.out)
              have p227 : 0 ≤ (x16_2 : Int) := dta
              have q227 : x16_2 < (t214.length : Int) := dta
              obtain ⟨ad227, e227, hx227_0, hx227_1⟩ := at_T93 (Kd.R_reads' HO_13.out).2.2 x16_2 p227 q227
              cases e227
              replace p227 := eq_true p227
              replace q227 := eq_true q227
              obtain ⟨i048, hi048, _, hsz48, _⟩ := info_parts info2
              obtain ⟨A48, hcut48, hA48, hC48⟩ := print_mid_of (P := Try.prog) (Value.int .i64) 0 24 2 .i64 .i64 Try.underlying24 hi048 hsz48 A2 c2 l2 ((rd_T93 t214 x16_2).f0) (wrap64 (((rd_T93 t214 x16_2).f0) + ((rd_T93 t214 x16_2).f1))) (dta) (by first | omega | exact dta) (dta) HC2.out
              have HR228 := Aside0.mk (Kd.C_of_reads (h1 := fun _ => rfl) (hA48 _ (Kd.reads_of_C HR2.out)))
              have HC228 := Aside0.mk hC48
              clear hA48 hC48 hi048 hsz48
              refine start_ (n := 17) (S := fun w' => w'.cell? ⟨gb207, 0, none⟩ = some (.int .i64 a1) ∧ w'.cell? ⟨gb207, 1, none⟩ = some (.int .i64 a0) ∧ w'.cell? ⟨gb207, 2, none⟩ = some (.int .i64 a3) ∧ w'.cell? ⟨gb207, 3, none⟩ = some (.int .i64 t206) ∧ w'.cell? ⟨gb207, 4, none⟩ = some (.int .i64 a4) ∧ w'.cell? ⟨gb207, 5, none⟩ = some (u208005) ∧ w'.cell? ⟨gb207, 6, none⟩ = some (.slice Ao44 y224.length co44) ∧ w'.cell? ⟨gb207, 7, none⟩ = some (u208007) ∧ w'.cell? (ad227.add ((x16_2).toNat * 2)) = some (.int .i64 ((rd_T93 t214 x16_2).f0)) ∧ w'.cell? ⟨(ad227.add ((x16_2).toNat * 2)).block, (ad227.add ((x16_2).toNat * 2)).off + 1, none⟩ = some (.int .i64 ((rd_T93 t214 x16_2).f1))) (ds := [14, 16]) #[false, false, false, false, false, false, false, false, false, false, false, false, false, false, false, false, false] (by kernel_rfl) rfl rfl ⟨(blk_cell BK207.out 0).trans rfl, (blk_cell BK207.out 1).trans rfl, (blk_cell BK207.out 2).trans rfl, (blk_cell BK207.out 3).trans rfl, (blk_cell BK207.out 4).trans rfl, (blk_cell BK207.out 5).trans rfl, (blk_cell BK207.out 6).trans rfl, (blk_cell BK207.out 7).trans rfl, hx227_0, hx227_1⟩ (fun hHeld => ?_); refine with_tabW spec_l14Make.tab13 spec_l14Make.bits13 (fun HT_ HW_ => ?_)
              generalize w46.drew = w47 at HO_13 HO_14 HO_208005 HO_208007 HO226 BK205 BK207 HB HR228 hx227_0 hx227_1 hHeld ⊢
              refine pu_ 0 70 HT_ ?_
              refine pu_ 2 72 HT_ ?_
              refine pu_ 3 73 HT_ ?_
              refine pu_ 4 74 HT_ ?_
              refine pu_ 6 76 HT_ ?_
              refine pu_ 8 78 HT_ ?_
              refine tk_ 1 71 HT_ HW_ hHeld ?_
              refine tk_ 5 75 HT_ HW_ hHeld ?_
              refine tk_ 9 79 HT_ HW_ hHeld ?_
              refine pu_ 10 80 HT_ ?_
              refine pu_ 11 81 HT_ ?_
              refine on_ 7 HT_ (fun K hK => ?_)
              refine gs_ Try.func175 #[.agg #[.int .i64 ((rd_T93 t214 x16_2).f0), .int .i64 ((rd_T93 t214 x16_2).f1)], .slice A2 l2.length c2] ?_
              with_reducible refine (spec_l13Of_any.calls (hcut := hcut48) ((rd_T93 t214 x16_2).f0) ((rd_T93 t214 x16_2).f1) t229 _ A37.out).mono ?_
              rintro e w49 ⟨rfl, hb⟩
              have HS8_ := (hb.cell (World.block_lt_of_cell? _ _ (hHeld.2.2.2.2.2.2.2.2.1))).trans (hHeld.2.2.2.2.2.2.2.2.1)
              have HS9_ := (hb.cell (World.block_lt_of_cell? _ _ (hHeld.2.2.2.2.2.2.2.2.2))).trans (hHeld.2.2.2.2.2.2.2.2.2)
              refine ⟨_, rfl, ?_⟩
              replace HO_13 := rbl HO_13 hb
              replace HO_14 := rbl HO_14 hb
              replace HO_208005 := rbl HO_208005 hb
              replace HO_208007 := sbl HO_208007 hb
              replace HO226 := rbl HO226 hb
              replace BK205 := bkb BK205 hb
              replace BK207 := bkb BK207 hb
              replace HB := hbs hb
              (try clear hb)
              refine hK.out _ _ ⟨(blk_cell BK207.out 0).trans rfl, (blk_cell BK207.out 1).trans rfl, (blk_cell BK207.out 2).trans rfl, (blk_cell BK207.out 3).trans rfl, (blk_cell BK207.out 4).trans rfl, (blk_cell BK207.out 5).trans rfl, (blk_cell BK207.out 6).trans rfl, (blk_cell BK207.out 7).trans rfl, HS8_, HS9_⟩ (fun hHeld => ?_)
              clear hK K
              refine nm_ 77 ?_
              refine on_ 12 HT_ (fun K hK => ?_)
              refine goes_ Try.func174 (by kernel_rfl) rfl #[.slice A48 ((l2.take (wrap64 (((rd_T93 t214 x16_2).f0) + ((rd_T93 t214 x16_2).f1))).toNat).drop ((rd_T93 t214 x16_2).f0).toNat).length (c2 - ((rd_T93 t214 x16_2).f0).toNat), .int .i64 (wrap64 (8 - (wrap64 (2 * t206))))] (by rfl) rfl rfl (by (try simp only [List.map_toArray, List.map_cons, List.map_nil]); first | done | (rw [show ((l2.take (wrap64 (((rd_T93 t214 x16_2).f0) + ((rd_T93 t214 x16_2).f1))).toNat).drop ((rd_T93 t214 x16_2).f0).toNat).length = ((wrap64 (((rd_T93 t214 x16_2).f0) + ((rd_T93 t214 x16_2).f1))).toNat - ((rd_T93 t214 x16_2).f0).toNat) from (by rw [List.length_drop, List.length_take]; have h_ : ((wrap64 (((rd_T93 t214 x16_2).f0) + ((rd_T93 t214 x16_2).f1))) : Int) ≤ (l2.length : Int) := dta; omega)] <;> rfl) | rfl | (simp only [List.length_drop, List.length_take]; rfl)) ?_
              with_reducible refine (spec_l12Search.calls k2 _ _ ((l2.take (wrap64 (((rd_T93 t214 x16_2).f0) + ((rd_T93 t214 x16_2).f1))).toNat).drop ((rd_T93 t214 x16_2).f0).toNat) (wrap64 (8 - (wrap64 (2 * t206)))) t230 _ ?_ ?_ A38.out).mono ?_
              exact cpl HR228.out
              exact HC228.out
              rintro e w50 ⟨v231, rfl, ho0, hb⟩
              have HS8_ := (hb.cell (World.block_lt_of_cell? _ _ (hHeld.2.2.2.2.2.2.2.2.1))).trans (hHeld.2.2.2.2.2.2.2.2.1)
              have HS9_ := (hb.cell (World.block_lt_of_cell? _ _ (hHeld.2.2.2.2.2.2.2.2.2))).trans (hHeld.2.2.2.2.2.2.2.2.2)
              refine ⟨_, rfl, ?_⟩
              replace HO_13 := rbl HO_13 hb
              replace HO_208007 := sel HO_208007 ho0 hb
              have HO232 := am (Kd.R_lower (Kd.R_new' (Kd.R_new' (Kd.R_new' ho0 (rlt HO_14)) (rlt HO_208005)) (rlt HO226)) bsz)
              replace HO_14 := rel HO_14 ho0 hb
              replace HO_208005 := rel HO_208005 ho0 hb
              replace HO226 := rel HO226 ho0 hb
              replace BK205 := bkb BK205 hb
              replace BK207 := bkb BK207 hb
              replace HB := hbs hb
              (try clear hb)
              (try clear ho0)
              obtain ⟨Ao52, co52, eo52⟩ := Kd.R_slice HO232.out
              (first | subst eo52 | (injection eo52 with f1_ f2_ f3_; have f4_ := f1_.symm; have f5_ := f3_.symm; clear f1_ f2_ f3_; subst f4_; subst f5_))
              refine hK.out _ _ ⟨(blk_cell BK207.out 0).trans rfl, (blk_cell BK207.out 1).trans rfl, (blk_cell BK207.out 2).trans rfl, (blk_cell BK207.out 3).trans rfl, (blk_cell BK207.out 4).trans rfl, (blk_cell BK207.out 5).trans rfl, (blk_cell BK207.out 6).trans rfl, (blk_cell BK207.out 7).trans rfl, HS8_, HS9_⟩ (fun hHeld => ?_)
              clear hK K
              refine nm_ 82 ?_
              refine on_ 13 HT_ (fun K hK => ?_)
              refine value_ (w1 := ?_) (v := ?_) (by rfl) rfl ?_ ?_
              rotate_left 2
              ·go_simp
               constructor
               ·rfl
               ·rfl
              refine hK.out _ _ ⟨(blk_cell (blk_alloc BK207.out _) 0).trans rfl, (blk_cell (blk_alloc BK207.out _) 1).trans rfl, (blk_cell (blk_alloc BK207.out _) 2).trans rfl, (blk_cell (blk_alloc BK207.out _) 3).trans rfl, (blk_cell (blk_alloc BK207.out _) 4).trans rfl, (blk_cell (blk_alloc BK207.out _) 5).trans rfl, (blk_cell (blk_alloc BK207.out _) 6).trans rfl, (blk_cell (blk_alloc BK207.out _) 7).trans rfl, (World.cell?_alloc_lt _ _ _ (World.block_lt_of_cell? _ _ (hHeld.2.2.2.2.2.2.2.2.1))).trans (hHeld.2.2.2.2.2.2.2.2.1), (World.cell?_alloc_lt _ _ _ (World.block_lt_of_cell? _ _ (hHeld.2.2.2.2.2.2.2.2.2))).trans (hHeld.2.2.2.2.2.2.2.2.2)⟩ (fun hHeld => ?_)
              clear hK K
              refine nm_ 83 ?_
              refine last_ (i := 14) (N := some 84) #[true, true, true, true, true, true, true, true, true, true, true, true, true, true, true, false, false] rfl rfl (one_of HT_.out (by kernel_rfl)) (by decide) (fun K hK => ?_)
              refine Kd.S_append_step (Kd.slice 2 (Kd.int .i64)) (w0 := w) w.heap.size (by rfl) (.tmp 71) (.tmp 83) 31 24 (.slice none 0 0) 24 rfl Try.underlying31 info24 rfl (by decide) (by omega) u208007 x208007_2 t230 [.slice Ao52 t230.length co52] (fun k_ => some k_ ≠ (.slice (some ad222) t217.length co42 : Value).ownBlock ∧ some k_ ≠ (u208005 : Value).ownBlock ∧ some k_ ≠ (.slice Ao44 y224.length co44 : Value).ownBlock) (fun k_ => some k_ = (.slice Ao52 t230.length co52 : Value).ownBlock) rfl rfl ?aP (fun k_ hk_ => ((Kd.R_mono (ok' := fun k_ => ((fun k_ => some k_ ≠ (.slice (some ad222) t217.length co42 : Value).ownBlock ∧ some k_ ≠ (u208005 : Value).ownBlock ∧ some k_ ≠ (.slice Ao44 y224.length co44 : Value).ownBlock)) k_ ∧ some k_ ≠ (u208007 : Value).ownBlock) (Kd.R_apart' (HO232.out) (Kd.S_typed HO_208007.out) (by decide)) (fun k_ hk => ⟨⟨hk.1.1.1.2, ⟨hk.1.1.2, hk.1.2⟩⟩, hk.2⟩))).1 k_ hk_.symm) ?aF ?aO ?aB ?aS ?aL ?_
              (case aP => exact Kd.M_row (Kd.R_mono (Kd.R_tight rfl (Kd.R_mono (ok' := fun k_ => ((fun k_ => some k_ ≠ (.slice (some ad222) t217.length co42 : Value).ownBlock ∧ some k_ ≠ (u208005 : Value).ownBlock ∧ some k_ ≠ (.slice Ao44 y224.length co44 : Value).ownBlock)) k_ ∧ some k_ ≠ (u208007 : Value).ownBlock) (Kd.R_apart' (HO232.out) (Kd.S_typed HO_208007.out) (by decide)) (fun k_ hk => ⟨⟨hk.1.1.1.2, ⟨hk.1.1.2, hk.1.2⟩⟩, hk.2⟩))) (fun _ h_ => h_)))
              (case aB => exact bnx)
              (case aF => exact (fun k_ hk => ⟨Kd.fresh' (Kd.R_lt (rpl HO_14.out)) k_ hk, Kd.fresh' (Kd.R_lt (rpl HO_208005.out)) k_ hk, Kd.fresh' (Kd.R_lt (rpl HO226.out)) k_ hk⟩))
              (case aO => exact (by (with_reducible repeat (first | apply Kd.S_alloc | apply Kd.S_drewN | apply Kd.S_drew)); exact Kd.S_mono HO_208007.out (fun k_ hk => ⟨⟨hk.1.1, ⟨hk.1.2.1, hk.1.2.2⟩⟩, fun e_ => hk.2 e_⟩)))
              (case aS => exact bsz)
              (case aL => have := LMc39.out; omega)
              intro v234 w51 ho hb hg hat
              rw [← Ny233.out] at ho
              replace HO_13 := am (Kd.R_over' (rpl HO_13.out) (Kd.S_typed (spl HO_208007.out)) (by decide) hg)
              replace HO_14 := am (Kd.R_over' (rpl HO_14.out) (Kd.S_typed (spl HO_208007.out)) (by decide) hg)
              replace HO_208005 := am (Kd.R_over' (rpl HO_208005.out) (Kd.S_typed (spl HO_208007.out)) (by decide) hg)
              replace BK205 := am (blk_grown (bpl BK205.out) hg (Kd.S_ne HO_208007.out BK205.out (by decide)))
              replace BK207 := am (blk_grown (bpl BK207.out) hg (Kd.S_ne HO_208007.out BK207.out (by decide)))
              replace HO226 := am (Kd.R_over' (rpl HO226.out) (Kd.S_typed (spl HO_208007.out)) (by decide) hg)
              replace HB := am hb
              have HO235 := am ho
              clear HO_208007 HO232 ho hb hg hat
              obtain ⟨Ao53, co53, eo53⟩ := Kd.S_slice HO235.out
              (first | subst eo53 | (injection eo53 with f1_ f2_ f3_; have f4_ := f1_.symm; have f5_ := f3_.symm; clear f1_ f2_ f3_; subst f4_; subst f5_))
              refine hK.out _ _ ?_
              clear hK K
              refine nm_ 84 ?_
              refine pu_ 15 85 HT_ ?_
              refine last_ (i := 16) (N := none) #[true, true, true, true, true, true, true, true, true, true, true, true, true, true, true, true, true] rfl rfl (one_of HT_.out (by kernel_rfl)) (by decide) (fun K hK => ?_)
              have hs54 : w51.cell? ⟨gb207, 7, none⟩ = some (u208007) := (blk_cell BK207.out 7).trans rfl
              have hfs54 := blk_frozen BK207.out 7
              have hns54_0 := NB205_207.out
              have hms54_0 := NB207_205.out
              refine skip_ (w1 := ?_) (by rfl) rfl ?_ ?_
              rotate_left
              ·go_simp
               rfl
              refine hK.out _ _ ?_
              clear hK K
              refine done_ (done_of HT_.out (by kernel_rfl)) ?_
              try go_wp2
              go_roundg k2
              case measure => have := HK1.out; have := HK2.out; omega
              case rel => exact ⟨(wrap64 (x16_2 + 1)), (y224), (y233), (.slice Ao44 y224.length co44), (.slice Ao53 y233.length co53), rq, H', ⟨by have := HK1.out; have := HK2.out; omega⟩, ⟨by (with_reducible repeat (first | apply Kd.R_alloc | apply Kd.R_drewN | apply Kd.R_drew)); exact Kd.R_mono (Kd.R_far (p := ⟨gb207, 7, none⟩) (Kd.R_types HO_13.out BK207.out (by decide)) (fun _ hk => hk.2) (.slice Ao53 y233.length co53)) (fun _ hk => trivial)⟩, ⟨by (with_reducible repeat (first | apply Kd.R_alloc | apply Kd.R_drewN | apply Kd.R_drew)); exact Kd.R_mono (Kd.R_far (p := ⟨gb207, 7, none⟩) (Kd.R_types HO_14.out BK207.out (by decide)) (fun _ hk => hk.2) (.slice Ao53 y233.length co53)) (fun _ hk => ⟨hk.1.1.1, hk.1.1.2⟩)⟩, ⟨by (with_reducible repeat (first | apply Kd.R_alloc | apply Kd.R_drewN | apply Kd.R_drew)); exact Kd.R_mono (Kd.R_far (p := ⟨gb207, 7, none⟩) (Kd.R_types HO_208005.out BK207.out (by decide)) (fun _ hk => hk.2) (.slice Ao53 y233.length co53)) (fun _ hk => ⟨hk.1.1.1, hk.1.1.2⟩)⟩, ⟨by (with_reducible repeat (first | apply Kd.R_alloc | apply Kd.R_drewN | apply Kd.R_drew)); exact Kd.R_mono (Kd.R_far (p := ⟨gb207, 7, none⟩) (Kd.R_types HO226.out BK207.out (by decide)) (fun _ hk => hk.2) (.slice Ao53 y233.length co53)) (fun _ hk => ⟨hk.1.1.1, hk.1.1.2⟩)⟩, ⟨by (with_reducible repeat (first | apply Kd.S_alloc | apply Kd.S_drewN | apply Kd.S_drew)); exact Kd.S_mono (Kd.S_far (p := ⟨gb207, 7, none⟩) (Kd.S_types HO235.out BK207.out (by decide)) (fun _ hk => hk.2) (.slice Ao53 y233.length co53)) (fun _ hk => ⟨hk.1.1, ⟨hk.1.2.1, hk.1.2.2⟩⟩)⟩, ⟨by (with_reducible repeat (first | refine blk_drewN ?_ _ | refine blk_drew ?_ | refine blk_alloc ?_ _)); refine blk_far ?_ NB205_207.out _; (with_reducible repeat (first | refine blk_drewN ?_ _ | refine blk_drew ?_ | refine blk_alloc ?_ _)); exact BK205.out⟩, ⟨by (with_reducible repeat (first | refine blk_drewN ?_ _ | refine blk_drew ?_ | refine blk_alloc ?_ _)); refine blk_put (cs := #[.int .i64 a1, .int .i64 a0, .int .i64 a3, .int .i64 t206, .int .i64 a4, u208005, .slice Ao44 y224.length co44, u208007]) ?_ 7 _ rfl; exact bpl BK207.out⟩, ⟨bnx⟩⟩
             ·rw [if_neg c39] at H
              exact absurd H (by simp)
            ·rw [if_neg c36] at H
             exact absurd H (by simp)
           ·rw [if_neg c35] at H
            exact absurd H (by simp)
          ·rw [if_neg c34] at H
           exact absurd H (by simp)
         ·rw [if_neg c33] at H
          exact absurd H (by simp)
        ·rw [if_neg c31] at H
         exact absurd H (by simp)
       ·rw [if_neg c30] at H
        exact absurd H (by simp)
      ·rw [if_neg c29] at H
       have c29b0 : decide (x16_2 < (t214.length : Int)) = false := decide_eq_false c29
       clear c29
       simp only [Option.some.injEq, Prod.mk.injEq] at H
       obtain ⟨rfl, rfl, rfl, rfl, rfl, rfl, rfl, rfl⟩ := H
       obtain ⟨Ao55, co55, eo55⟩ := Kd.R_slice HO_13.out
       subst eo55
       have hnb56 := NB207_205.out
       have hnc56 := NB205_207.out
       obtain ⟨hcz57_0, hcz57_1, hcz57_2, hcz57_3, hcz57_4, hcz57_5, hcz57_6, hcz57_7, hfz57_0, hfz57_1, hfz57_2, hfz57_3, hfz57_4, hfz57_5, hfz57_6, hfz57_7⟩ := cf8 (W := wr) BK207.out
       obtain ⟨hcz58_0, hcz58_1, hcz58_2, hcz58_3, hcz58_4, hcz58_5, hcz58_6, hcz58_7, hfz58_0, hfz58_1, hfz58_2, hfz58_3, hfz58_4, hfz58_5, hfz58_6, hfz58_7⟩ := cf8 (W := wr) BK205.out
       obtain ⟨Ao59, co59, eo59⟩ := Kd.R_slice HO_208005.out
       subst eo59
       obtain ⟨Ao60, co60, eo60⟩ := Kd.R_slice HO_208006.out
       subst eo60
       obtain ⟨Ao61, co61, eo61⟩ := Kd.S_slice HO_208007.out
       subst eo61
       go_wp2
       refine bodyPost_ret (results_cell_row rfl _ _ gb205 36 #[.int .i64 a1, .int .i64 a0, .int .i64 a3, .int .i64 t206, .int .i64 a4, .slice Ao59 x208005_1.length co59, .slice Ao60 x208006_2.length co60, .slice Ao61 x208007_2.length co61] (0, 0) _ rfl (by (with_reducible repeat (first | refine blk_drewN ?_ _ | refine blk_drew ?_ | refine blk_alloc ?_ _)); refine blk_put (cs := #[.int .i64 a1, .int .i64 a0, .int .i64 a3, .int .i64 t206, .int .i64 a4, .slice Ao59 x208005_1.length co59, .slice Ao60 x208006_2.length co60, .slice none 0 0]) ?_ 7 _ rfl; (with_reducible repeat (first | refine blk_drewN ?_ _ | refine blk_drew ?_ | refine blk_alloc ?_ _)); refine blk_put (cs := #[.int .i64 a1, .int .i64 a0, .int .i64 a3, .int .i64 t206, .int .i64 a4, .slice Ao59 x208005_1.length co59, .slice none 0 0, .slice none 0 0]) ?_ 6 _ rfl; (with_reducible repeat (first | refine blk_drewN ?_ _ | refine blk_drew ?_ | refine blk_alloc ?_ _)); refine blk_put (cs := #[.int .i64 a1, .int .i64 a0, .int .i64 a3, .int .i64 t206, .int .i64 a4, .slice none 0 0, .slice none 0 0, .slice none 0 0]) ?_ 5 _ rfl; (with_reducible repeat (first | refine blk_drewN ?_ _ | refine blk_drew ?_ | refine blk_alloc ?_ _)); refine blk_put (cs := #[.int .i64 a1, .int .i64 a0, .int .i64 a3, .int .i64 t206, .int .i64 0, .slice none 0 0, .slice none 0 0, .slice none 0 0]) ?_ 4 _ rfl; (with_reducible repeat (first | refine blk_drewN ?_ _ | refine blk_drew ?_ | refine blk_alloc ?_ _)); refine blk_put (cs := #[.int .i64 a1, .int .i64 a0, .int .i64 a3, .int .i64 0, .int .i64 0, .slice none 0 0, .slice none 0 0, .slice none 0 0]) ?_ 3 _ rfl; (with_reducible repeat (first | refine blk_drewN ?_ _ | refine blk_drew ?_ | refine blk_alloc ?_ _)); refine blk_put (cs := #[.int .i64 a1, .int .i64 a0, .int .i64 0, .int .i64 0, .int .i64 0, .slice none 0 0, .slice none 0 0, .slice none 0 0]) ?_ 2 _ rfl; (with_reducible repeat (first | refine blk_drewN ?_ _ | refine blk_drew ?_ | refine blk_alloc ?_ _)); refine blk_put (cs := #[.int .i64 a1, .int .i64 0, .int .i64 0, .int .i64 0, .int .i64 0, .slice none 0 0, .slice none 0 0, .slice none 0 0]) ?_ 1 _ rfl; (with_reducible repeat (first | refine blk_drewN ?_ _ | refine blk_drew ?_ | refine blk_alloc ?_ _)); refine blk_put (cs := #[.int .i64 0, .int .i64 0, .int .i64 0, .int .i64 0, .int .i64 0, .slice none 0 0, .slice none 0 0, .slice none 0 0]) ?_ 0 _ rfl; exact bpl BK205.out) Try.underlying36 rfl (by kernel_rfl)) rfl ?_
       exact ⟨_, _, _, enq, by (with_reducible repeat (first | apply Kd.R_alloc | apply Kd.R_drewN | apply Kd.R_drew)); exact Kd.R_mono (Kd.R_far (p := ⟨gb205, 7, none⟩) (Kd.R_far (p := ⟨gb205, 6, none⟩) (Kd.R_far (p := ⟨gb205, 5, none⟩) (Kd.R_far (p := ⟨gb205, 4, none⟩) (Kd.R_far (p := ⟨gb205, 3, none⟩) (Kd.R_far (p := ⟨gb205, 2, none⟩) (Kd.R_far (p := ⟨gb205, 1, none⟩) (Kd.R_far (p := ⟨gb205, 0, none⟩) (Kd.R_types HO_208005.out BK205.out (by decide)) (fun _ hk => hk.2) (.int .i64 a1)) (fun _ hk => hk.2) (.int .i64 a0)) (fun _ hk => hk.2) (.int .i64 a3)) (fun _ hk => hk.2) (.int .i64 t206)) (fun _ hk => hk.2) (.int .i64 a4)) (fun _ hk => hk.2) (.slice Ao59 x208005_1.length co59)) (fun _ hk => hk.2) (.slice Ao60 x208006_2.length co60)) (fun _ hk => hk.2) (.slice Ao61 x208007_2.length co61)) (fun _ hk => hk.1.2), by (with_reducible repeat (first | apply Kd.R_alloc | apply Kd.R_drewN | apply Kd.R_drew)); exact Kd.R_mono (Kd.R_far (p := ⟨gb205, 7, none⟩) (Kd.R_far (p := ⟨gb205, 6, none⟩) (Kd.R_far (p := ⟨gb205, 5, none⟩) (Kd.R_far (p := ⟨gb205, 4, none⟩) (Kd.R_far (p := ⟨gb205, 3, none⟩) (Kd.R_far (p := ⟨gb205, 2, none⟩) (Kd.R_far (p := ⟨gb205, 1, none⟩) (Kd.R_far (p := ⟨gb205, 0, none⟩) (Kd.R_types HO_208006.out BK205.out (by decide)) (fun _ hk => hk.2) (.int .i64 a1)) (fun _ hk => hk.2) (.int .i64 a0)) (fun _ hk => hk.2) (.int .i64 a3)) (fun _ hk => hk.2) (.int .i64 t206)) (fun _ hk => hk.2) (.int .i64 a4)) (fun _ hk => hk.2) (.slice Ao59 x208005_1.length co59)) (fun _ hk => hk.2) (.slice Ao60 x208006_2.length co60)) (fun _ hk => hk.2) (.slice Ao61 x208007_2.length co61)) (fun _ hk => hk.1.2), by (with_reducible repeat (first | apply Kd.S_alloc | apply Kd.S_drewN | apply Kd.S_drew)); exact Kd.S_mono (Kd.S_far (p := ⟨gb205, 7, none⟩) (Kd.S_far (p := ⟨gb205, 6, none⟩) (Kd.S_far (p := ⟨gb205, 5, none⟩) (Kd.S_far (p := ⟨gb205, 4, none⟩) (Kd.S_far (p := ⟨gb205, 3, none⟩) (Kd.S_far (p := ⟨gb205, 2, none⟩) (Kd.S_far (p := ⟨gb205, 1, none⟩) (Kd.S_far (p := ⟨gb205, 0, none⟩) (Kd.S_types HO_208007.out BK205.out (by decide)) (fun _ hk => hk.2) (.int .i64 a1)) (fun _ hk => hk.2) (.int .i64 a0)) (fun _ hk => hk.2) (.int .i64 a3)) (fun _ hk => hk.2) (.int .i64 t206)) (fun _ hk => hk.2) (.int .i64 a4)) (fun _ hk => hk.2) (.slice Ao59 x208005_1.length co59)) (fun _ hk => hk.2) (.slice Ao60 x208006_2.length co60)) (fun _ hk => hk.2) (.slice Ao61 x208007_2.length co61)) (fun _ hk => ⟨hk.1.2.1, hk.1.2.2⟩), bnx⟩

end Go.Proofs.Ythehhncokikgcaa.PFnExactMakeFrame
