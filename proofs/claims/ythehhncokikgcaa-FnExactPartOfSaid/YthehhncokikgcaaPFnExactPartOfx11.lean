-- Contracts of the functions that the law reaches, written by wip/xprint.py of this repo.
import Derived.Test.YthehhncokikgcaaPFnExactPartOfx0
import Derived.Test.YthehhncokikgcaaPFnExactPartOfx1
import Derived.Test.YthehhncokikgcaaPFnExactPartOfx9
import Derived.Test.YthehhncokikgcaaPFnExactPartOfx10
namespace Go.Proofs.Ythehhncokikgcaa.PFnExactPartOf
open Go.RowKit Go.Proofs.YthehhncokikgcaaW.PrintWords Go.Proofs.YthehhncokikgcaaW.PrintLast Go.Proofs.YthehhncokikgcaaW.PrintMore
attribute [local go_sem] max2_int min2_int max_two min_two max_three min_three max_four min_four   -- for this text's walks alone
set_option linter.unusedVariables false
set_option linter.unusedSimpArgs false

/-! ### impl_FrameFault: function 76 -/
def impl_FrameFault.l0 : Nat → List (S93) → Int → Int → Int → Int → Int → Int → Int → List Int → List Int → List (List Int) → Option (Int)
 | 0, _, _, _, _, _, _, _, _, _, _, _ => none
 | k + 1, x52, x53, x54, x351000, x351001, x351002, x351003, x351004, x351005, x351006, x351007 => if x54 < x53 then (if 0 ≤ x54 then (if x54 < (x52.length : Int) then (if x54 < (x351007.length : Int) then ((impl_bandFault.f k ((rd_T93 x52 x54).f0) ((rd_T93 x52 x54).f1) (rd_L1 x351007 x54) x351003).bind fun t366 => (if t366 = 0 then (impl_FrameFault.l0 k x52 x53 (wrap64 (x54 + 1)) x351000 x351001 x351002 x351003 x351004 x351005 x351006 x351007) else (some t366))) else (none)) else (none)) else (none)) else (some 0)
def impl_FrameFault.f (k : Nat) (a0_0 : Int) (a0_1 : Int) (a0_2 : Int) (a0_3 : Int) (a0_4 : Int) (l0_5 : List Int) (l0_6 : List Int) (l0_7 : List (List Int)) : Option (Int) := (impl_headFault.f k a0_0 a0_1 a0_2 a0_3 a0_4).bind fun t351 => (if t351 = 0 then ((impl_FrameFault_1_any.f l0_5 a0_2).bind fun t352 => ((impl_countFault.f a0_1 l0_5 l0_6 l0_7).bind fun t353 => ((impl_codeIf.f t352 3).bind fun t354 => ((impl_gainsFault.f l0_6 a0_2 a0_3).bind fun t355 => ((impl_first.f k (([t353, t354, t355] : List Int))).bind fun t359 => (if t359 = 0 then ((impl_bandsOf.f a0_1).bind fun t360 => (impl_FrameFault.l0 k t360 (t360.length : Int) 0 a0_0 a0_1 a0_2 a0_3 a0_4 l0_5 l0_6 l0_7)) else (some t359))))))) else (some t351))
theorem impl_FrameFault.mono_l : ∀ k, (∀ y0 y1 y2 y3 y4 y5 y6 y7 y8 y9 y10, LeO (impl_FrameFault.l0 k y0 y1 y2 y3 y4 y5 y6 y7 y8 y9 y10) (impl_FrameFault.l0 (k + 1) y0 y1 y2 y3 y4 y5 y6 y7 y8 y9 y10))
 | 0 => fun _ _ _ _ _ _ _ _ _ _ _ r h => by simp [impl_FrameFault.l0] at h
 | k + 1 => by
  have ih0 := impl_FrameFault.mono_l k
  ·intro y0 y1 y2 y3 y4 y5 y6 y7 y8 y9 y10
   unfold impl_FrameFault.l0
   repeat' first
   | (with_reducible exact ih0 _ _ _ _ _ _ _ _ _ _ _)
   | (with_reducible exact impl_bandFault.mono _ _ _ _ _)
   | (with_reducible exact impl_first.mono _ _)
   | (with_reducible exact impl_headFault.mono _ _ _ _ _ _)
   | (with_reducible exact LeO.refl _)
   | (with_reducible exact LeO.none _)
   | (with_reducible refine LeO.ite ?_ ?_)
   | (with_reducible refine LeO.bind ?_ (fun _ => ?_))
   | exact ih0 _ _ _ _ _ _ _ _ _ _ _
   | exact impl_bandFault.mono _ _ _ _ _
   | exact impl_first.mono _ _
   | exact impl_headFault.mono _ _ _ _ _ _
   | exact LeO.none _
   | refine LeO.ite ?_ ?_
   | refine LeO.bind ?_ (fun _ => ?_)
theorem impl_FrameFault.mono : ∀ a0 a1 a2 a3 a4 a5 a6 a7 k, LeO (impl_FrameFault.f k a0 a1 a2 a3 a4 a5 a6 a7) (impl_FrameFault.f (k + 1) a0 a1 a2 a3 a4 a5 a6 a7) := by
 intro a0 a1 a2 a3 a4 a5 a6 a7 k
 have ih0 := impl_FrameFault.mono_l k
 unfold impl_FrameFault.f
 repeat' first
   | (with_reducible exact ih0 _ _ _ _ _ _ _ _ _ _ _)
   | (with_reducible exact impl_bandFault.mono _ _ _ _ _)
   | (with_reducible exact impl_first.mono _ _)
   | (with_reducible exact impl_headFault.mono _ _ _ _ _ _)
   | (with_reducible exact LeO.refl _)
   | (with_reducible exact LeO.none _)
   | (with_reducible refine LeO.ite ?_ ?_)
   | (with_reducible refine LeO.bind ?_ (fun _ => ?_))
   | exact ih0 _ _ _ _ _ _ _ _ _ _ _
   | exact impl_bandFault.mono _ _ _ _ _
   | exact impl_first.mono _ _
   | exact impl_headFault.mono _ _ _ _ _ _
   | exact LeO.none _
   | refine LeO.ite ?_ ?_
   | refine LeO.bind ?_ (fun _ => ?_)
def impl_FrameFault.T5 : Bool × List (List Nat × List Nat) := (true, [([], []), ([0], [0]), ([], []), ([2], [2]), ([], []), ([4], [4]), ([], []), ([6], [6]), ([1, 3, 5, 7], [1, 3, 5, 7]), ([], []), ([9, 8], [9]), ([], []), ([11], [11]), ([], []), ([13], [13]), ([], []), ([15], [15]), ([12, 14, 16, 10], [12, 14, 16]), ([8, 10, 17], [8, 10, 17]), ([18, 17], [18]), ([19, 19, 0, 1, 2, 3, 4, 5, 6, 7, 8, 9, 10, 11, 12, 13, 14, 15, 16, 17, 18, 19], [19])])
def impl_FrameFault.B5 : List Nat := [0, 1, 0, 4, 0, 16, 0, 64, 255, 0, 1023, 0, 2048, 0, 8192, 0, 32768, 131071, 262143, 524287, 1048575]
theorem impl_FrameFault.tab5 : rtab .any (opsOf Try.f76 5) = impl_FrameFault.T5 := by kernel_rfl
theorem impl_FrameFault.bits5 : waitsOk impl_FrameFault.T5.2 impl_FrameFault.B5 = true := by kernel_rfl
def impl_FrameFault.T11 : Bool × List (List Nat × List Nat) := (true, [([], []), ([], []), ([1], [1]), ([], []), ([2, 3], [2, 3]), ([4], [4]), ([], []), ([6], [6]), ([0, 5, 7], [0, 5, 7]), ([8, 8, 0, 1, 2, 3, 4, 5, 6, 7, 8], [8])])
def impl_FrameFault.B11 : List Nat := [0, 0, 2, 0, 14, 30, 0, 64, 255, 511]
theorem impl_FrameFault.tab11 : rtab .any (opsOf Try.f76 11) = impl_FrameFault.T11 := by kernel_rfl
theorem impl_FrameFault.bits11 : waitsOk impl_FrameFault.T11.2 impl_FrameFault.B11 = true := by kernel_rfl
set_option maxHeartbeats 8000000 in
set_option maxRecDepth 100000 in
theorem impl_FrameFault.calls (k : Nat) (a0_0 : Int) (a0_1 : Int) (a0_2 : Int) (a0_3 : Int) (a0_4 : Int) (A0_5 : Option Addr) (c0_5 : Nat) (l0_5 : List Int) (A0_6 : Option Addr) (c0_6 : Nat) (l0_6 : List Int) (A0_7 : Option Addr) (c0_7 : Nat) (l0_7 : List (List Int)) (r : Int) (w : World) (hr0_5 : Kd.C (Kd.int .i64) w A0_5 l0_5.length l0_5) (hc0_5 : l0_5.length ≤ c0_5) (hr0_6 : Kd.C (Kd.int .i64) w A0_6 l0_6.length l0_6) (hc0_6 : l0_6.length ≤ c0_6) (hr0_7 : Kd.C (Kd.slice 2 (Kd.int .i64)) w A0_7 l0_7.length l0_7) (hc0_7 : l0_7.length ≤ c0_7) (h : impl_FrameFault.f k a0_0 a0_1 a0_2 a0_3 a0_4 l0_5 l0_6 l0_7 = some r) :
  Calls Try.prog 76 #[.agg #[.int .i64 a0_0, .int .i64 a0_1, .int .i64 a0_2, .int .i64 a0_3, .int .i64 a0_4, .slice A0_5 l0_5.length c0_5, .slice A0_6 l0_6.length c0_6, .slice A0_7 l0_7.length c0_7]] w fun e w' => e = .returned (.int .i64 r) ∧ Below w.heap.size w w' := by
 have hu36 := Try.underlying36
 have hu93 := Try.underlying93
 have HR0_5 := Aside0.mk hr0_5
 have HC0_5 := Aside0.mk hc0_5
 clear hr0_5 hc0_5
 have HR0_6 := Aside0.mk hr0_6
 have HC0_6 := Aside0.mk hc0_6
 clear hr0_6 hc0_6
 have HR0_7 := Aside0.mk hr0_7
 have HC0_7 := Aside0.mk hc0_7
 clear hr0_7 hc0_7
 have HB := Aside0.mk (Below.refl w.heap.size w)
 have H : ((impl_headFault.f k a0_0 a0_1 a0_2 a0_3 a0_4).bind fun t351 => (if t351 = 0 then ((impl_FrameFault_1_any.f l0_5 a0_2).bind fun t352 => ((impl_countFault.f a0_1 l0_5 l0_6 l0_7).bind fun t353 => ((impl_codeIf.f t352 3).bind fun t354 => ((impl_gainsFault.f l0_6 a0_2 a0_3).bind fun t355 => ((impl_first.f k (([t353, t354, t355] : List Int))).bind fun t359 => (if t359 = 0 then ((impl_bandsOf.f a0_1).bind fun t360 => (impl_FrameFault.l0 k t360 (t360.length : Int) 0 a0_0 a0_1 a0_2 a0_3 a0_4 l0_5 l0_6 l0_7)) else (some t359))))))) else (some t351))) = some r := h
 clear h
 obtain ⟨t351, A2, H⟩ := bnd H
 by_cases c3 : t351 = 0
 ·rw [if_pos c3] at H
  have c3b0 : (t351 == 0) = true := beq_iff_eq.mpr c3
  have c3b1 : (t351 != 0) = false := bne_eq_false_iff_eq.mpr c3
  clear c3
  obtain ⟨t352, A4, H⟩ := bnd H
  obtain ⟨t353, A5, H⟩ := bnd H
  obtain ⟨t354, A6, H⟩ := bnd H
  obtain ⟨t355, A7, H⟩ := bnd H
  obtain ⟨y356, hy356⟩ : ∃ y_ : List Int, y_ = (([t353, t354, t355] : List Int)) := ⟨_, rfl⟩
  replace H : ((impl_first.f k y356).bind fun t359 => (if t359 = 0 then ((impl_bandsOf.f a0_1).bind fun t360 => (impl_FrameFault.l0 k t360 (t360.length : Int) 0 a0_0 a0_1 a0_2 a0_3 a0_4 l0_5 l0_6 l0_7)) else (some t359))) = some r := by first | (rw [hy356]; with_reducible exact H) | (have H2_ := (Option.bind_some _ _).symm.trans H; rw [hy356]; with_reducible exact H2_) | (have H2_ := (Option.bind_some _ _).symm.trans H; with_reducible exact H2_) | with_reducible exact H | (rw [hy356]; exact H) | exact H
  have Ny356 := Aside0.mk hy356
  clear hy356
  obtain ⟨t359, A8, H⟩ := bnd H
  by_cases c9 : t359 = 0
  ·rw [if_pos c9] at H
   have c9b0 : (t359 == 0) = true := beq_iff_eq.mpr c9
   have c9b1 : (t359 != 0) = false := bne_eq_false_iff_eq.mpr c9
   clear c9
   obtain ⟨t360, A10, H⟩ := bnd H
   have H' := Aside0.mk H
   clear H
   go_enter Try.func76, Try.ntmps76
   try go_wp2_with (first | ((with_reducible refine gate_dst (N := 1) rfl ?_); refine bev 1 36 #[.int .i64 a0_0, .int .i64 a0_1, .int .i64 a0_2, .int .i64 a0_3, .int .i64 a0_4, .slice A0_5 l0_5.length c0_5, .slice A0_6 l0_6.length c0_6, .slice A0_7 l0_7.length c0_7] ?_; intro gb350 hg w11 hbox hb; have BK350 := am hbox; have GW350 := gwe hg; have GE350 := gwe hg; replace HB := hbs hb; clear hb hbox hg; obtain ⟨hcz12_0, hcz12_1, hcz12_2, hcz12_3, hcz12_4, hcz12_5, hcz12_6, hcz12_7, hfz12_0, hfz12_1, hfz12_2, hfz12_3, hfz12_4, hfz12_5, hfz12_6, hfz12_7⟩ := cf8 (W := w11) BK350.out) | ((with_reducible refine gate_callee (f := 153) rfl ?_); refine gl_ 19 Try.func153 #[.int .i64 a0_0, .int .i64 a0_1, .int .i64 a0_2, .int .i64 a0_3, .int .i64 a0_4] ?_; (with_reducible refine (impl_headFault.calls k a0_0 a0_1 a0_2 a0_3 a0_4 t351 _ A2.out).mono ?_); rintro e w13 ⟨rfl, hb⟩; refine ⟨_, rfl, ?_⟩; replace BK350 := bkb BK350 hb; replace HB := hbs hb; (try clear hb); obtain ⟨hcz14_0, hcz14_1, hcz14_2, hcz14_3, hcz14_4, hcz14_5, hcz14_6, hcz14_7, hfz14_0, hfz14_1, hfz14_2, hfz14_3, hfz14_4, hfz14_5, hfz14_6, hfz14_7⟩ := cf8 (W := w13) BK350.out) | ((with_reducible refine gate_callee (f := 123) rfl ?_); refine gl_ 26 Try.func123 #[.slice A0_5 l0_5.length c0_5, .func (.func 154) #[] #[.pointer (some ⟨gb350, 0, none⟩)]] ?_; (with_reducible refine (impl_FrameFault_1_any.calls (hbx := ?_) _ _ l0_5 a0_2 t352 _ ?_ ?_ A4.out).mono ?_); exact Aside0.mk ⟨36, #[.int .i64 a0_0, .int .i64 a0_1, .int .i64 a0_2, .int .i64 a0_3, .int .i64 a0_4, .slice A0_5 l0_5.length c0_5, .slice A0_6 l0_6.length c0_6, .slice A0_7 l0_7.length c0_7], (bpl BK350.out), (by first | rfl | exact ⟨rfl, rfl⟩)⟩; exact cpl HR0_5.out; exact HC0_5.out; rintro e w15 ⟨rfl, hb⟩; refine ⟨_, rfl, ?_⟩; replace BK350 := bkb BK350 hb; replace HB := hbs hb; (try clear hb)))
   replace BK350 := am (blk_drew BK350.out)
   replace HB := am (below_drew1 HB.out)
   refine start_ (n := 21) (S := fun w' => w'.cell? ⟨gb350, 0, none⟩ = some (.int .i64 a0_0) ∧ w'.cell? ⟨gb350, 1, none⟩ = some (.int .i64 a0_1) ∧ w'.cell? ⟨gb350, 2, none⟩ = some (.int .i64 a0_2) ∧ w'.cell? ⟨gb350, 3, none⟩ = some (.int .i64 a0_3) ∧ w'.cell? ⟨gb350, 4, none⟩ = some (.int .i64 a0_4) ∧ w'.cell? ⟨gb350, 5, none⟩ = some (.slice A0_5 l0_5.length c0_5) ∧ w'.cell? ⟨gb350, 6, none⟩ = some (.slice A0_6 l0_6.length c0_6) ∧ w'.cell? ⟨gb350, 7, none⟩ = some (.slice A0_7 l0_7.length c0_7)) (ds := []) #[false, false, false, false, false, false, false, false, false, false, false, false, false, false, false, false, false, false, false, false, false] (by kernel_rfl) rfl rfl ⟨(blk_cell BK350.out 0).trans rfl, (blk_cell BK350.out 1).trans rfl, (blk_cell BK350.out 2).trans rfl, (blk_cell BK350.out 3).trans rfl, (blk_cell BK350.out 4).trans rfl, (blk_cell BK350.out 5).trans rfl, (blk_cell BK350.out 6).trans rfl, (blk_cell BK350.out 7).trans rfl⟩ (fun hHeld => ?_); refine with_tabW impl_FrameFault.tab5 impl_FrameFault.bits5 (fun HT_ HW_ => ?_)
   generalize w15.drew = w16 at BK350 HB hHeld ⊢
   refine pu_ 0 27 HT_ ?_
   refine pu_ 2 29 HT_ ?_
   refine pu_ 4 31 HT_ ?_
   refine pu_ 6 33 HT_ ?_
   refine pu_ 9 36 HT_ ?_
   refine pu_ 11 38 HT_ ?_
   refine pu_ 13 40 HT_ ?_
   refine pu_ 15 42 HT_ ?_
   refine tk_ 1 28 HT_ HW_ hHeld ?_
   refine tk_ 3 30 HT_ HW_ hHeld ?_
   refine tk_ 5 32 HT_ HW_ hHeld ?_
   refine tk_ 7 34 HT_ HW_ hHeld ?_
   refine tk_ 12 39 HT_ HW_ hHeld ?_
   refine tk_ 14 41 HT_ HW_ hHeld ?_
   refine tk_ 16 43 HT_ HW_ hHeld ?_
   refine on_ 8 HT_ (fun K hK => ?_)
   refine gs_ Try.func157 #[.int .i64 a0_1, .slice A0_5 l0_5.length c0_5, .slice A0_6 l0_6.length c0_6, .slice A0_7 l0_7.length c0_7] ?_
   with_reducible refine (impl_countFault.calls a0_1 _ _ l0_5 _ _ l0_6 _ _ l0_7 t353 _ ?_ ?_ ?_ ?_ ?_ ?_ A5.out).mono ?_
   exact cpl HR0_5.out
   exact HC0_5.out
   exact cpl HR0_6.out
   exact HC0_6.out
   exact cpl HR0_7.out
   exact HC0_7.out
   rintro e w17 ⟨rfl, hb⟩
   refine ⟨_, rfl, ?_⟩
   replace BK350 := bkb BK350 hb
   replace HB := hbs hb
   (try clear hb)
   refine hK.out _ _ ⟨(blk_cell BK350.out 0).trans rfl, (blk_cell BK350.out 1).trans rfl, (blk_cell BK350.out 2).trans rfl, (blk_cell BK350.out 3).trans rfl, (blk_cell BK350.out 4).trans rfl, (blk_cell BK350.out 5).trans rfl, (blk_cell BK350.out 6).trans rfl, (blk_cell BK350.out 7).trans rfl⟩ (fun hHeld => ?_)
   clear hK K
   refine nm_ 35 ?_
   refine on_ 10 HT_ (fun K hK => ?_)
   refine gs_ Try.func99 #[.bool t352, .int .i64 3] ?_
   with_reducible refine (impl_codeIf.calls t352 3 t354 _ A6.out).mono ?_
   rintro e w' ⟨rfl, ⟨nd, rfl⟩⟩
   refine ⟨_, rfl, ?_⟩
   refine hK.out _ _ ⟨(blk_cell BK350.out 0).trans rfl, (blk_cell BK350.out 1).trans rfl, (blk_cell BK350.out 2).trans rfl, (blk_cell BK350.out 3).trans rfl, (blk_cell BK350.out 4).trans rfl, (blk_cell BK350.out 5).trans rfl, (blk_cell BK350.out 6).trans rfl, (blk_cell BK350.out 7).trans rfl⟩ (fun hHeld => ?_)
   clear hK K
   refine nm_ 37 ?_
   refine on_ 17 HT_ (fun K hK => ?_)
   refine gs_ Try.func158 #[.slice A0_6 l0_6.length c0_6, .int .i64 a0_2, .int .i64 a0_3] ?_
   with_reducible refine (impl_gainsFault.calls _ _ l0_6 a0_2 a0_3 t355 _ ?side1 ?side2 A7.out).mono ?_
   (case side1 => repeat (first | exact (Kd.C_below HR0_6.out bnx) | (with_reducible refine Kd.C_alloc ?_ _) | (with_reducible refine Kd.C_drewN ?_ _) | (with_reducible refine Kd.C_drew ?_)))
   (case side2 => exact HC0_6.out)
   rintro e w18 ⟨rfl, hb⟩
   refine ⟨_, rfl, ?_⟩
   replace BK350 := bkb BK350 hb
   replace HB := hbs hb
   (try clear hb)
   refine hK.out _ _ ⟨(blk_cell BK350.out 0).trans rfl, (blk_cell BK350.out 1).trans rfl, (blk_cell BK350.out 2).trans rfl, (blk_cell BK350.out 3).trans rfl, (blk_cell BK350.out 4).trans rfl, (blk_cell BK350.out 5).trans rfl, (blk_cell BK350.out 6).trans rfl, (blk_cell BK350.out 7).trans rfl⟩ (fun hHeld => ?_)
   clear hK K
   refine nm_ 44 ?_
   refine on_ 18 HT_ (fun K hK => ?_)
   refine Kd.R_lit_step (Kd.int .i64) _ 2 ?hg (N := 45) ?hd (xs := ([t353, t354, t355] : List Int)) (inner := [.int .i64 t353, .int .i64 t354, .int .i64 t355]) (ok := fun _ => True) (okp := fun _ => True) ?hr ?hp (fun _ hk => hk) trivial (Below.refl _ _) (Nat.le_refl _) (by simp) ?_; (case hd => rfl); (case hg => rfl); (case hr => first | (go_simp; done) | (go_simp; rfl)); (case hp => exact (Reps.one (show Kd.M (Kd.int .i64) _ _ _ t353 [.int .i64 t353] from rfl) (Reps.one (show Kd.M (Kd.int .i64) _ _ _ t354 [.int .i64 t354] from rfl) (Reps.one (show Kd.M (Kd.int .i64) _ _ _ t355 [.int .i64 t355] from rfl) (Reps.none _ _)))))
   intro v357 w19 ho20 hb hg_ hnew_
   clear hg_ hnew_
   (first | rw [← Ny356.out] at ho20 | (simp only [Int.reduceToNat] at ho20; rw [← Ny356.out] at ho20))
   have HO358 := rlw ho20
   replace BK350 := bkb BK350 hb
   replace HB := hbs hb
   clear hb ho20
   obtain ⟨Ao21, co21, eo21⟩ := Kd.R_slice HO358.out
   (first | subst eo21 | (injection eo21 with f1_ f2_ f3_; have f4_ := f1_.symm; have f5_ := f3_.symm; clear f1_ f2_ f3_; subst f4_; subst f5_))
   refine hK.out _ _ ⟨(blk_cell BK350.out 0).trans rfl, (blk_cell BK350.out 1).trans rfl, (blk_cell BK350.out 2).trans rfl, (blk_cell BK350.out 3).trans rfl, (blk_cell BK350.out 4).trans rfl, (blk_cell BK350.out 5).trans rfl, (blk_cell BK350.out 6).trans rfl, (blk_cell BK350.out 7).trans rfl⟩ (fun hHeld => ?_)
   clear hK K
   refine nm_ 45 ?_
   refine on_ 19 HT_ (fun K hK => ?_)
   refine gs_ Try.func98 #[.slice Ao21 y356.length co21] ?_
   with_reducible refine (impl_first.calls k _ _ y356 t359 _ ?_ ?_ A8.out).mono ?_
   exact crd HO358
   exact (Kd.R_reads' HO358.out).2.1
   rintro e w' ⟨rfl, ⟨nd, rfl⟩⟩
   refine ⟨_, rfl, ?_⟩
   refine hK.out _ _ ⟨(blk_cell BK350.out 0).trans rfl, (blk_cell BK350.out 1).trans rfl, (blk_cell BK350.out 2).trans rfl, (blk_cell BK350.out 3).trans rfl, (blk_cell BK350.out 4).trans rfl, (blk_cell BK350.out 5).trans rfl, (blk_cell BK350.out 6).trans rfl, (blk_cell BK350.out 7).trans rfl⟩ (fun hHeld => ?_)
   clear hK K
   refine nm_ 46 ?_
   refine pu_ 20 5 HT_ ?_
   refine done_ (done_of HT_.out (by kernel_rfl)) ?_
   obtain ⟨hcz22_0, hcz22_1, hcz22_2, hcz22_3, hcz22_4, hcz22_5, hcz22_6, hcz22_7, hfz22_0, hfz22_1, hfz22_2, hfz22_3, hfz22_4, hfz22_5, hfz22_6, hfz22_7⟩ := cf8 (W := w19) BK350.out
   try go_wp2_with (first | ((with_reducible refine gate_callee (f := 79) rfl ?_); refine gl_ 52 Try.func79 #[.int .i64 a0_1] ?_; (with_reducible refine (impl_bandsOf.calls a0_1 t360 _ A10.out).mono ?_); rintro e w23 ⟨v361, rfl, ho0, hb⟩; refine ⟨_, rfl, ?_⟩; replace HO358 := rbl HO358 hb; have HO362 := rlw ho0; replace BK350 := bkb BK350 hb; replace HB := hbs hb; (try clear hb); (try clear ho0); obtain ⟨Ao24, co24, eo24⟩ := Kd.R_slice HO362.out; subst eo24))
   go_loopg [54] k (fun kq v54 w' => ∃ (x54_1 : Int), v54 = .int .i64 x54_1 ∧ Aside0 (impl_FrameFault.l0 kq t360 (t360.length : Int) x54_1 a0_0 a0_1 a0_2 a0_3 a0_4 l0_5 l0_6 l0_7 = some r) ∧ Aside0 (kq ≤ k) ∧ Aside0 (Kd.R k93 93 w' w.heap.size (fun _ => True) (.slice Ao24 t360.length co24) t360) ∧ Aside0 (w'.heap[gb350]? = some (.cells #[.int .i64 a0_0, .int .i64 a0_1, .int .i64 a0_2, .int .i64 a0_3, .int .i64 a0_4, (.slice A0_5 l0_5.length c0_5), (.slice A0_6 l0_6.length c0_6), (.slice A0_7 l0_7.length c0_7)] 36 (0, 0))) ∧ Aside0 (Below w.heap.size w w'))
   case atStart => exact ⟨(0), rq, H', ⟨Nat.le_refl _⟩, ⟨by (with_reducible repeat (first | apply Kd.R_alloc | apply Kd.R_drewN | apply Kd.R_drew)); exact HO362.out⟩, ⟨bpl BK350.out⟩, ⟨bnx⟩⟩
   case round =>
    clear H'
    try clear c1
    try clear p2
    try clear c3
    try clear c3b0
    try clear c3b1
    try clear c7
    try clear c9
    try clear c9b0
    try clear c9b1
    try clear c10
    try clear c15
    try clear hcz12_0 hcz12_1 hcz12_2 hcz12_3 hcz12_4 hcz12_5 hcz12_6 hcz12_7
    try clear hcz14_0 hcz14_1 hcz14_2 hcz14_3 hcz14_4 hcz14_5 hcz14_6 hcz14_7
    try clear hcz22_0 hcz22_1 hcz22_2 hcz22_3 hcz22_4 hcz22_5 hcz22_6 hcz22_7
    try clear hfz12_0 hfz12_1 hfz12_2 hfz12_3 hfz12_4 hfz12_5 hfz12_6 hfz12_7
    try clear hfz14_0 hfz14_1 hfz14_2 hfz14_3 hfz14_4 hfz14_5 hfz14_6 hfz14_7
    try clear hfz22_0 hfz22_1 hfz22_2 hfz22_3 hfz22_4 hfz22_5 hfz22_6 hfz22_7
    obtain ⟨x54_1, rfl, HA, HK1, HO_52, BK350, HB⟩ := hrel
    cases gk with
    | zero => exact absurd HA.out (by simp [impl_FrameFault.l0])
    | succ k1 =>
     have H := HA.out
     clear HA
     simp only [impl_FrameFault.l0] at H
     by_cases c25 : x54_1 < (t360.length : Int)
     ·rw [if_pos c25] at H
      have c25b0 : decide (x54_1 < (t360.length : Int)) = true := decide_eq_true c25
      clear c25
      by_cases c26 : 0 ≤ x54_1
      ·rw [if_pos c26] at H
       have c26b0 : decide (0 ≤ x54_1) = true := decide_eq_true c26
       clear c26
       by_cases c27 : x54_1 < (t360.length : Int)
       ·rw [if_pos c27] at H
        have c27b0 : decide (x54_1 < (t360.length : Int)) = true := decide_eq_true c27
        clear c27
        by_cases c28 : x54_1 < (l0_7.length : Int)
        ·rw [if_pos c28] at H
         have c28b0 : decide (x54_1 < (l0_7.length : Int)) = true := decide_eq_true c28
         clear c28
         obtain ⟨t366, A29, H⟩ := bnd H
         by_cases c30 : t366 = 0
         ·rw [if_pos c30] at H
          have c30b0 : (t366 == 0) = true := beq_iff_eq.mpr c30
          have c30b1 : (t366 != 0) = false := bne_eq_false_iff_eq.mpr c30
          clear c30
          have H' := Aside0.mk H
          clear H
          have p363 : 0 ≤ (x54_1 : Int) := dta
          have q363 : x54_1 < (t360.length : Int) := dta
          obtain ⟨ad363, e363, hx363_0, hx363_1⟩ := at_T93 (Kd.R_reads' HO_52.out).2.2 x54_1 p363 q363
          cases e363
          replace p363 := eq_true p363
          replace q363 := eq_true q363
          try go_wp2_with (first | ((with_reducible refine gate_dst (N := 7) rfl ?_); refine bev 7 93 #[.int .i64 0, .int .i64 0] ?_; intro gb364 hg w31 hbox hb; replace HO_52 := am (Kd.R_below (Kd.R_elderB (rpl HO_52.out) gb364 (Nat.le_of_eq hg.symm)) hb); have BK364 := am hbox; have GW364 := gwe hg; have GE364 := gwe hg; replace HB := hbs hb; have NB350_364 := nbl hg BK350; have NB364_350 := nbg hg BK350; replace BK350 := bkb BK350 hb; clear hb hbox hg; have hnb32 := NB364_350.out; have hnc32 := NB350_364.out; obtain ⟨hcz33_0, hcz33_1, hfz33_0, hfz33_1⟩ := cf2 (W := w31) BK364.out))
          have n0_ : Aside0 (Kd.R k93 93 ((w31.setCell ⟨gb364, 0, none⟩ (.int .i64 ((rd_T93 t360 x54_1).f0))).setCell ⟨gb364, 1, none⟩ (.int .i64 ((rd_T93 t360 x54_1).f1))) w.heap.size (fun k_ => k_ ≠ gb364) (.slice (some ad363) t360.length co24) t360) := ⟨by (with_reducible repeat (first | apply Kd.R_alloc | apply Kd.R_drewN | apply Kd.R_drew)); exact Kd.R_mono (Kd.R_far (p := ⟨gb364, 1, none⟩) (Kd.R_far (p := ⟨gb364, 0, none⟩) (Kd.R_mono HO_52.out (fun k_ hk => (⟨hk, hk.2⟩ : _ ∧ k_ ≠ gb364))) (fun _ hk => hk.2) (.int .i64 ((rd_T93 t360 x54_1).f0))) (fun _ hk => hk.2) (.int .i64 ((rd_T93 t360 x54_1).f1))) (fun _ hk => hk.1.2)⟩
          have n1_ : Aside0 (((w31.setCell ⟨gb364, 0, none⟩ (.int .i64 ((rd_T93 t360 x54_1).f0))).setCell ⟨gb364, 1, none⟩ (.int .i64 ((rd_T93 t360 x54_1).f1))).heap[gb350]? = some (.cells #[.int .i64 a0_0, .int .i64 a0_1, .int .i64 a0_2, .int .i64 a0_3, .int .i64 a0_4, .slice A0_5 l0_5.length c0_5, .slice A0_6 l0_6.length c0_6, .slice A0_7 l0_7.length c0_7] 36 (0, 0))) := ⟨by (with_reducible repeat (first | refine blk_drewN ?_ _ | refine blk_drew ?_ | refine blk_alloc ?_ _)); refine blk_far ?_ NB350_364.out _; (with_reducible repeat (first | refine blk_drewN ?_ _ | refine blk_drew ?_ | refine blk_alloc ?_ _)); refine blk_far ?_ NB350_364.out _; (with_reducible repeat (first | refine blk_drewN ?_ _ | refine blk_drew ?_ | refine blk_alloc ?_ _)); exact BK350.out⟩
          have n2_ : Aside0 (((w31.setCell ⟨gb364, 0, none⟩ (.int .i64 ((rd_T93 t360 x54_1).f0))).setCell ⟨gb364, 1, none⟩ (.int .i64 ((rd_T93 t360 x54_1).f1))).heap[gb364]? = some (.cells #[.int .i64 ((rd_T93 t360 x54_1).f0), .int .i64 ((rd_T93 t360 x54_1).f1)] 93 (0, 0))) := ⟨by (with_reducible repeat (first | refine blk_drewN ?_ _ | refine blk_drew ?_ | refine blk_alloc ?_ _)); refine blk_put (cs := #[.int .i64 ((rd_T93 t360 x54_1).f0), .int .i64 0]) ?_ 1 _ rfl; (with_reducible repeat (first | refine blk_drewN ?_ _ | refine blk_drew ?_ | refine blk_alloc ?_ _)); refine blk_put (cs := #[.int .i64 0, .int .i64 0]) ?_ 0 _ rfl; exact bpl BK364.out⟩
          have n3_ : Aside0 (Below w.heap.size w ((w31.setCell ⟨gb364, 0, none⟩ (.int .i64 ((rd_T93 t360 x54_1).f0))).setCell ⟨gb364, 1, none⟩ (.int .i64 ((rd_T93 t360 x54_1).f1)))) := ⟨bnx⟩
          (try clear HO_52)
          (try clear BK350)
          (try clear BK364)
          (try clear HB)
          generalize ((w31.setCell ⟨gb364, 0, none⟩ (.int .i64 ((rd_T93 t360 x54_1).f0))).setCell ⟨gb364, 1, none⟩ (.int .i64 ((rd_T93 t360 x54_1).f1))) = w34 at n0_ n1_ n2_ n3_ ⊢
          have HO_52 := n0_
          have BK350 := n1_
          have BK364 := n2_
          have HB := n3_
          clear n0_ n1_ n2_ n3_
          replace HO_52 := am (Kd.R_drew HO_52.out)
          replace BK350 := am (blk_drew BK350.out)
          replace BK364 := am (blk_drew BK364.out)
          replace HB := am (below_drew1 HB.out)
          have p365 : 0 ≤ (x54_1 : Int) := dta
          have q365 : x54_1 < (l0_7.length : Int) := dta
          obtain ⟨ad365, A365_0, c365_0, e365, hx365_0, hl365_0, hi365_0⟩ := at_L1 HR0_7.out x54_1 p365 q365
          have hw365_0 := hx365_0
          cases e365
          replace hx365_0 := (HB.out.cell (World.block_lt_of_cell? w _ hx365_0)).trans hx365_0
          have HR365_0 := Aside0.mk hi365_0
          have HC365_0 := Aside0.mk hl365_0
          clear hi365_0 hl365_0
          replace p365 := eq_true p365
          replace q365 := eq_true q365
          refine start_ (n := 10) (S := fun w' => w'.cell? ⟨gb364, 0, none⟩ = some (.int .i64 ((rd_T93 t360 x54_1).f0)) ∧ w'.cell? ⟨gb364, 1, none⟩ = some (.int .i64 ((rd_T93 t360 x54_1).f1)) ∧ w'.cell? ⟨gb350, 0, none⟩ = some (.int .i64 a0_0) ∧ w'.cell? ⟨gb350, 1, none⟩ = some (.int .i64 a0_1) ∧ w'.cell? ⟨gb350, 2, none⟩ = some (.int .i64 a0_2) ∧ w'.cell? ⟨gb350, 3, none⟩ = some (.int .i64 a0_3) ∧ w'.cell? ⟨gb350, 4, none⟩ = some (.int .i64 a0_4) ∧ w'.cell? ⟨gb350, 5, none⟩ = some (.slice A0_5 l0_5.length c0_5) ∧ w'.cell? ⟨gb350, 6, none⟩ = some (.slice A0_6 l0_6.length c0_6) ∧ w'.cell? ⟨gb350, 7, none⟩ = some (.slice (some ad365) l0_7.length c0_7) ∧ w'.cell? (ad365.add (x54_1).toNat) = some (.slice A365_0 (rd_L1 l0_7 x54_1).length c365_0)) (ds := []) #[false, false, false, false, false, false, false, false, false, false] (by kernel_rfl) rfl rfl ⟨(blk_cell BK364.out 0).trans rfl, (blk_cell BK364.out 1).trans rfl, (blk_cell BK350.out 0).trans rfl, (blk_cell BK350.out 1).trans rfl, (blk_cell BK350.out 2).trans rfl, (blk_cell BK350.out 3).trans rfl, (blk_cell BK350.out 4).trans rfl, (blk_cell BK350.out 5).trans rfl, (blk_cell BK350.out 6).trans rfl, (blk_cell BK350.out 7).trans rfl, ((HB.out.cell (World.block_lt_of_cell? w _ hw365_0)).trans hw365_0)⟩ (fun hHeld => ?_); refine with_tabW impl_FrameFault.tab11 impl_FrameFault.bits11 (fun HT_ HW_ => ?_)
          generalize w34.drew = w35 at HO_52 BK350 BK364 HB HR365_0 hx365_0 hHeld ⊢
          refine pu_ 1 60 HT_ ?_
          refine pu_ 3 62 HT_ ?_
          refine pu_ 6 65 HT_ ?_
          refine tk_ 0 59 HT_ HW_ hHeld ?_
          refine tk_ 2 61 HT_ HW_ hHeld ?_
          refine pu_ 4 63 HT_ ?_
          refine tk_ 5 64 HT_ HW_ hHeld ?_
          refine tk_ 7 66 HT_ HW_ hHeld ?_
          refine on_ 8 HT_ (fun K hK => ?_)
          refine gs_ Try.func159 #[.agg #[.int .i64 ((rd_T93 t360 x54_1).f0), .int .i64 ((rd_T93 t360 x54_1).f1)], .slice A365_0 (rd_L1 l0_7 x54_1).length c365_0, .int .i64 a0_3] ?_
          with_reducible refine (impl_bandFault.calls k1 ((rd_T93 t360 x54_1).f0) ((rd_T93 t360 x54_1).f1) _ _ (rd_L1 l0_7 x54_1) a0_3 t366 _ ?_ ?_ A29.out).mono ?_
          exact cpl HR365_0.out
          exact HC365_0.out
          rintro e w36 ⟨rfl, hb⟩
          refine ⟨_, rfl, ?_⟩
          replace HO_52 := rbl HO_52 hb
          replace BK350 := bkb BK350 hb
          replace BK364 := bkb BK364 hb
          replace HB := hbs hb
          (try clear hb)
          refine hK.out _ _ ⟨(blk_cell BK364.out 0).trans rfl, (blk_cell BK364.out 1).trans rfl, (blk_cell BK350.out 0).trans rfl, (blk_cell BK350.out 1).trans rfl, (blk_cell BK350.out 2).trans rfl, (blk_cell BK350.out 3).trans rfl, (blk_cell BK350.out 4).trans rfl, (blk_cell BK350.out 5).trans rfl, (blk_cell BK350.out 6).trans rfl, (blk_cell BK350.out 7).trans rfl, ((HB.out.cell (World.block_lt_of_cell? w _ hw365_0)).trans hw365_0)⟩ (fun hHeld => ?_)
          clear hK K
          refine nm_ 67 ?_
          refine pu_ 9 8 HT_ ?_
          refine done_ (done_of HT_.out (by kernel_rfl)) ?_
          try go_wp2
          go_roundg k1
          case measure => have := HK1.out; omega
          case rel => exact ⟨(wrap64 (x54_1 + 1)), rq, H', ⟨by have := HK1.out; omega⟩, ⟨by (with_reducible repeat (first | apply Kd.R_alloc | apply Kd.R_drewN | apply Kd.R_drew)); exact Kd.R_mono HO_52.out (fun _ hk => trivial)⟩, ⟨bpl BK350.out⟩, ⟨bnx⟩⟩
         ·rw [if_neg c30] at H
          have c30b0 : (t366 == 0) = false := beq_eq_false_iff_ne.mpr c30
          have c30b1 : (t366 != 0) = true := bne_iff_ne.mpr c30
          obtain rfl := Option.some.inj H
          have p363 : 0 ≤ (x54_1 : Int) := dta
          have q363 : x54_1 < (t360.length : Int) := dta
          obtain ⟨ad363, e363, hx363_0, hx363_1⟩ := at_T93 (Kd.R_reads' HO_52.out).2.2 x54_1 p363 q363
          cases e363
          replace p363 := eq_true p363
          replace q363 := eq_true q363
          try go_wp2_with (first | ((with_reducible refine gate_dst (N := 7) rfl ?_); refine bev 7 93 #[.int .i64 0, .int .i64 0] ?_; intro gb364 hg w37 hbox hb; replace HO_52 := am (Kd.R_below (Kd.R_elderB (rpl HO_52.out) gb364 (Nat.le_of_eq hg.symm)) hb); have BK364 := am hbox; have GW364 := gwe hg; have GE364 := gwe hg; replace HB := hbs hb; have NB350_364 := nbl hg BK350; have NB364_350 := nbg hg BK350; replace BK350 := bkb BK350 hb; clear hb hbox hg; have hnb38 := NB364_350.out; have hnc38 := NB350_364.out; obtain ⟨hcz39_0, hcz39_1, hfz39_0, hfz39_1⟩ := cf2 (W := w37) BK364.out))
          have n0_ : Aside0 (Kd.R k93 93 ((w37.setCell ⟨gb364, 0, none⟩ (.int .i64 ((rd_T93 t360 x54_1).f0))).setCell ⟨gb364, 1, none⟩ (.int .i64 ((rd_T93 t360 x54_1).f1))) w.heap.size (fun k_ => k_ ≠ gb364) (.slice (some ad363) t360.length co24) t360) := ⟨by (with_reducible repeat (first | apply Kd.R_alloc | apply Kd.R_drewN | apply Kd.R_drew)); exact Kd.R_mono (Kd.R_far (p := ⟨gb364, 1, none⟩) (Kd.R_far (p := ⟨gb364, 0, none⟩) (Kd.R_mono HO_52.out (fun k_ hk => (⟨hk, hk.2⟩ : _ ∧ k_ ≠ gb364))) (fun _ hk => hk.2) (.int .i64 ((rd_T93 t360 x54_1).f0))) (fun _ hk => hk.2) (.int .i64 ((rd_T93 t360 x54_1).f1))) (fun _ hk => hk.1.2)⟩
          have n1_ : Aside0 (((w37.setCell ⟨gb364, 0, none⟩ (.int .i64 ((rd_T93 t360 x54_1).f0))).setCell ⟨gb364, 1, none⟩ (.int .i64 ((rd_T93 t360 x54_1).f1))).heap[gb350]? = some (.cells #[.int .i64 a0_0, .int .i64 a0_1, .int .i64 a0_2, .int .i64 a0_3, .int .i64 a0_4, .slice A0_5 l0_5.length c0_5, .slice A0_6 l0_6.length c0_6, .slice A0_7 l0_7.length c0_7] 36 (0, 0))) := ⟨by (with_reducible repeat (first | refine blk_drewN ?_ _ | refine blk_drew ?_ | refine blk_alloc ?_ _)); refine blk_far ?_ NB350_364.out _; (with_reducible repeat (first | refine blk_drewN ?_ _ | refine blk_drew ?_ | refine blk_alloc ?_ _)); refine blk_far ?_ NB350_364.out _; (with_reducible repeat (first | refine blk_drewN ?_ _ | refine blk_drew ?_ | refine blk_alloc ?_ _)); exact BK350.out⟩
          have n2_ : Aside0 (((w37.setCell ⟨gb364, 0, none⟩ (.int .i64 ((rd_T93 t360 x54_1).f0))).setCell ⟨gb364, 1, none⟩ (.int .i64 ((rd_T93 t360 x54_1).f1))).heap[gb364]? = some (.cells #[.int .i64 ((rd_T93 t360 x54_1).f0), .int .i64 ((rd_T93 t360 x54_1).f1)] 93 (0, 0))) := ⟨by (with_reducible repeat (first | refine blk_drewN ?_ _ | refine blk_drew ?_ | refine blk_alloc ?_ _)); refine blk_put (cs := #[.int .i64 ((rd_T93 t360 x54_1).f0), .int .i64 0]) ?_ 1 _ rfl; (with_reducible repeat (first | refine blk_drewN ?_ _ | refine blk_drew ?_ | refine blk_alloc ?_ _)); refine blk_put (cs := #[.int .i64 0, .int .i64 0]) ?_ 0 _ rfl; exact bpl BK364.out⟩
          have n3_ : Aside0 (Below w.heap.size w ((w37.setCell ⟨gb364, 0, none⟩ (.int .i64 ((rd_T93 t360 x54_1).f0))).setCell ⟨gb364, 1, none⟩ (.int .i64 ((rd_T93 t360 x54_1).f1)))) := ⟨bnx⟩
          (try clear HO_52)
          (try clear BK350)
          (try clear BK364)
          (try clear HB)
          generalize ((w37.setCell ⟨gb364, 0, none⟩ (.int .i64 ((rd_T93 t360 x54_1).f0))).setCell ⟨gb364, 1, none⟩ (.int .i64 ((rd_T93 t360 x54_1).f1))) = w40 at n0_ n1_ n2_ n3_ ⊢
          have HO_52 := n0_
          have BK350 := n1_
          have BK364 := n2_
          have HB := n3_
          clear n0_ n1_ n2_ n3_
          replace HO_52 := am (Kd.R_drew HO_52.out)
          replace BK350 := am (blk_drew BK350.out)
          replace BK364 := am (blk_drew BK364.out)
          replace HB := am (below_drew1 HB.out)
          have p365 : 0 ≤ (x54_1 : Int) := dta
          have q365 : x54_1 < (l0_7.length : Int) := dta
          obtain ⟨ad365, A365_0, c365_0, e365, hx365_0, hl365_0, hi365_0⟩ := at_L1 HR0_7.out x54_1 p365 q365
          have hw365_0 := hx365_0
          cases e365
          replace hx365_0 := (HB.out.cell (World.block_lt_of_cell? w _ hx365_0)).trans hx365_0
          have HR365_0 := Aside0.mk hi365_0
          have HC365_0 := Aside0.mk hl365_0
          clear hi365_0 hl365_0
          replace p365 := eq_true p365
          replace q365 := eq_true q365
          refine start_ (n := 10) (S := fun w' => w'.cell? ⟨gb364, 0, none⟩ = some (.int .i64 ((rd_T93 t360 x54_1).f0)) ∧ w'.cell? ⟨gb364, 1, none⟩ = some (.int .i64 ((rd_T93 t360 x54_1).f1)) ∧ w'.cell? ⟨gb350, 0, none⟩ = some (.int .i64 a0_0) ∧ w'.cell? ⟨gb350, 1, none⟩ = some (.int .i64 a0_1) ∧ w'.cell? ⟨gb350, 2, none⟩ = some (.int .i64 a0_2) ∧ w'.cell? ⟨gb350, 3, none⟩ = some (.int .i64 a0_3) ∧ w'.cell? ⟨gb350, 4, none⟩ = some (.int .i64 a0_4) ∧ w'.cell? ⟨gb350, 5, none⟩ = some (.slice A0_5 l0_5.length c0_5) ∧ w'.cell? ⟨gb350, 6, none⟩ = some (.slice A0_6 l0_6.length c0_6) ∧ w'.cell? ⟨gb350, 7, none⟩ = some (.slice (some ad365) l0_7.length c0_7) ∧ w'.cell? (ad365.add (x54_1).toNat) = some (.slice A365_0 (rd_L1 l0_7 x54_1).length c365_0)) (ds := []) #[false, false, false, false, false, false, false, false, false, false] (by kernel_rfl) rfl rfl ⟨(blk_cell BK364.out 0).trans rfl, (blk_cell BK364.out 1).trans rfl, (blk_cell BK350.out 0).trans rfl, (blk_cell BK350.out 1).trans rfl, (blk_cell BK350.out 2).trans rfl, (blk_cell BK350.out 3).trans rfl, (blk_cell BK350.out 4).trans rfl, (blk_cell BK350.out 5).trans rfl, (blk_cell BK350.out 6).trans rfl, (blk_cell BK350.out 7).trans rfl, ((HB.out.cell (World.block_lt_of_cell? w _ hw365_0)).trans hw365_0)⟩ (fun hHeld => ?_); refine with_tabW impl_FrameFault.tab11 impl_FrameFault.bits11 (fun HT_ HW_ => ?_)
          generalize w40.drew = w41 at HO_52 BK350 BK364 HB HR365_0 hx365_0 hHeld ⊢
          refine pu_ 1 60 HT_ ?_
          refine pu_ 3 62 HT_ ?_
          refine pu_ 6 65 HT_ ?_
          refine tk_ 0 59 HT_ HW_ hHeld ?_
          refine tk_ 2 61 HT_ HW_ hHeld ?_
          refine pu_ 4 63 HT_ ?_
          refine tk_ 5 64 HT_ HW_ hHeld ?_
          refine tk_ 7 66 HT_ HW_ hHeld ?_
          refine on_ 8 HT_ (fun K hK => ?_)
          refine gs_ Try.func159 #[.agg #[.int .i64 ((rd_T93 t360 x54_1).f0), .int .i64 ((rd_T93 t360 x54_1).f1)], .slice A365_0 (rd_L1 l0_7 x54_1).length c365_0, .int .i64 a0_3] ?_
          with_reducible refine (impl_bandFault.calls k1 ((rd_T93 t360 x54_1).f0) ((rd_T93 t360 x54_1).f1) _ _ (rd_L1 l0_7 x54_1) a0_3 t366 _ ?_ ?_ A29.out).mono ?_
          exact cpl HR365_0.out
          exact HC365_0.out
          rintro e w42 ⟨rfl, hb⟩
          refine ⟨_, rfl, ?_⟩
          replace HO_52 := rbl HO_52 hb
          replace BK350 := bkb BK350 hb
          replace BK364 := bkb BK364 hb
          replace HB := hbs hb
          (try clear hb)
          refine hK.out _ _ ⟨(blk_cell BK364.out 0).trans rfl, (blk_cell BK364.out 1).trans rfl, (blk_cell BK350.out 0).trans rfl, (blk_cell BK350.out 1).trans rfl, (blk_cell BK350.out 2).trans rfl, (blk_cell BK350.out 3).trans rfl, (blk_cell BK350.out 4).trans rfl, (blk_cell BK350.out 5).trans rfl, (blk_cell BK350.out 6).trans rfl, (blk_cell BK350.out 7).trans rfl, ((HB.out.cell (World.block_lt_of_cell? w _ hw365_0)).trans hw365_0)⟩ (fun hHeld => ?_)
          clear hK K
          refine nm_ 67 ?_
          refine pu_ 9 8 HT_ ?_
          refine done_ (done_of HT_.out (by kernel_rfl)) ?_
          try go_wp2
          go_ret
          exact ⟨enq, bnx⟩
        ·rw [if_neg c28] at H
         exact absurd H (by simp)
       ·rw [if_neg c27] at H
        exact absurd H (by simp)
      ·rw [if_neg c26] at H
       exact absurd H (by simp)
     ·rw [if_neg c25] at H
      have c25b0 : decide (x54_1 < (t360.length : Int)) = false := decide_eq_false c25
      clear c25
      obtain rfl := Option.some.inj H
      go_wp2
      go_ret
      exact ⟨enq, bnx⟩
  ·rw [if_neg c9] at H
   have c9b0 : (t359 == 0) = false := beq_eq_false_iff_ne.mpr c9
   have c9b1 : (t359 != 0) = true := bne_iff_ne.mpr c9
   obtain rfl := Option.some.inj H
   go_enter Try.func76, Try.ntmps76
   try go_wp2_with (first | ((with_reducible refine gate_dst (N := 1) rfl ?_); refine bev 1 36 #[.int .i64 a0_0, .int .i64 a0_1, .int .i64 a0_2, .int .i64 a0_3, .int .i64 a0_4, .slice A0_5 l0_5.length c0_5, .slice A0_6 l0_6.length c0_6, .slice A0_7 l0_7.length c0_7] ?_; intro gb350 hg w43 hbox hb; have BK350 := am hbox; have GW350 := gwe hg; have GE350 := gwe hg; replace HB := hbs hb; clear hb hbox hg; obtain ⟨hcz44_0, hcz44_1, hcz44_2, hcz44_3, hcz44_4, hcz44_5, hcz44_6, hcz44_7, hfz44_0, hfz44_1, hfz44_2, hfz44_3, hfz44_4, hfz44_5, hfz44_6, hfz44_7⟩ := cf8 (W := w43) BK350.out) | ((with_reducible refine gate_callee (f := 153) rfl ?_); refine gl_ 19 Try.func153 #[.int .i64 a0_0, .int .i64 a0_1, .int .i64 a0_2, .int .i64 a0_3, .int .i64 a0_4] ?_; (with_reducible refine (impl_headFault.calls k a0_0 a0_1 a0_2 a0_3 a0_4 t351 _ A2.out).mono ?_); rintro e w45 ⟨rfl, hb⟩; refine ⟨_, rfl, ?_⟩; replace BK350 := bkb BK350 hb; replace HB := hbs hb; (try clear hb); obtain ⟨hcz46_0, hcz46_1, hcz46_2, hcz46_3, hcz46_4, hcz46_5, hcz46_6, hcz46_7, hfz46_0, hfz46_1, hfz46_2, hfz46_3, hfz46_4, hfz46_5, hfz46_6, hfz46_7⟩ := cf8 (W := w45) BK350.out) | ((with_reducible refine gate_callee (f := 123) rfl ?_); refine gl_ 26 Try.func123 #[.slice A0_5 l0_5.length c0_5, .func (.func 154) #[] #[.pointer (some ⟨gb350, 0, none⟩)]] ?_; (with_reducible refine (impl_FrameFault_1_any.calls (hbx := ?_) _ _ l0_5 a0_2 t352 _ ?_ ?_ A4.out).mono ?_); exact Aside0.mk ⟨36, #[.int .i64 a0_0, .int .i64 a0_1, .int .i64 a0_2, .int .i64 a0_3, .int .i64 a0_4, .slice A0_5 l0_5.length c0_5, .slice A0_6 l0_6.length c0_6, .slice A0_7 l0_7.length c0_7], (bpl BK350.out), (by first | rfl | exact ⟨rfl, rfl⟩)⟩; exact cpl HR0_5.out; exact HC0_5.out; rintro e w47 ⟨rfl, hb⟩; refine ⟨_, rfl, ?_⟩; replace BK350 := bkb BK350 hb; replace HB := hbs hb; (try clear hb)))
   replace BK350 := am (blk_drew BK350.out)
   replace HB := am (below_drew1 HB.out)
   refine start_ (n := 21) (S := fun w' => w'.cell? ⟨gb350, 0, none⟩ = some (.int .i64 a0_0) ∧ w'.cell? ⟨gb350, 1, none⟩ = some (.int .i64 a0_1) ∧ w'.cell? ⟨gb350, 2, none⟩ = some (.int .i64 a0_2) ∧ w'.cell? ⟨gb350, 3, none⟩ = some (.int .i64 a0_3) ∧ w'.cell? ⟨gb350, 4, none⟩ = some (.int .i64 a0_4) ∧ w'.cell? ⟨gb350, 5, none⟩ = some (.slice A0_5 l0_5.length c0_5) ∧ w'.cell? ⟨gb350, 6, none⟩ = some (.slice A0_6 l0_6.length c0_6) ∧ w'.cell? ⟨gb350, 7, none⟩ = some (.slice A0_7 l0_7.length c0_7)) (ds := []) #[false, false, false, false, false, false, false, false, false, false, false, false, false, false, false, false, false, false, false, false, false] (by kernel_rfl) rfl rfl ⟨(blk_cell BK350.out 0).trans rfl, (blk_cell BK350.out 1).trans rfl, (blk_cell BK350.out 2).trans rfl, (blk_cell BK350.out 3).trans rfl, (blk_cell BK350.out 4).trans rfl, (blk_cell BK350.out 5).trans rfl, (blk_cell BK350.out 6).trans rfl, (blk_cell BK350.out 7).trans rfl⟩ (fun hHeld => ?_); refine with_tabW impl_FrameFault.tab5 impl_FrameFault.bits5 (fun HT_ HW_ => ?_)
   generalize w47.drew = w48 at BK350 HB hHeld ⊢
   refine pu_ 0 27 HT_ ?_
   refine pu_ 2 29 HT_ ?_
   refine pu_ 4 31 HT_ ?_
   refine pu_ 6 33 HT_ ?_
   refine pu_ 9 36 HT_ ?_
   refine pu_ 11 38 HT_ ?_
   refine pu_ 13 40 HT_ ?_
   refine pu_ 15 42 HT_ ?_
   refine tk_ 1 28 HT_ HW_ hHeld ?_
   refine tk_ 3 30 HT_ HW_ hHeld ?_
   refine tk_ 5 32 HT_ HW_ hHeld ?_
   refine tk_ 7 34 HT_ HW_ hHeld ?_
   refine tk_ 12 39 HT_ HW_ hHeld ?_
   refine tk_ 14 41 HT_ HW_ hHeld ?_
   refine tk_ 16 43 HT_ HW_ hHeld ?_
   refine on_ 8 HT_ (fun K hK => ?_)
   refine gs_ Try.func157 #[.int .i64 a0_1, .slice A0_5 l0_5.length c0_5, .slice A0_6 l0_6.length c0_6, .slice A0_7 l0_7.length c0_7] ?_
   with_reducible refine (impl_countFault.calls a0_1 _ _ l0_5 _ _ l0_6 _ _ l0_7 t353 _ ?_ ?_ ?_ ?_ ?_ ?_ A5.out).mono ?_
   exact cpl HR0_5.out
   exact HC0_5.out
   exact cpl HR0_6.out
   exact HC0_6.out
   exact cpl HR0_7.out
   exact HC0_7.out
   rintro e w49 ⟨rfl, hb⟩
   refine ⟨_, rfl, ?_⟩
   replace BK350 := bkb BK350 hb
   replace HB := hbs hb
   (try clear hb)
   refine hK.out _ _ ⟨(blk_cell BK350.out 0).trans rfl, (blk_cell BK350.out 1).trans rfl, (blk_cell BK350.out 2).trans rfl, (blk_cell BK350.out 3).trans rfl, (blk_cell BK350.out 4).trans rfl, (blk_cell BK350.out 5).trans rfl, (blk_cell BK350.out 6).trans rfl, (blk_cell BK350.out 7).trans rfl⟩ (fun hHeld => ?_)
   clear hK K
   refine nm_ 35 ?_
   refine on_ 10 HT_ (fun K hK => ?_)
   refine gs_ Try.func99 #[.bool t352, .int .i64 3] ?_
   with_reducible refine (impl_codeIf.calls t352 3 t354 _ A6.out).mono ?_
   rintro e w' ⟨rfl, ⟨nd, rfl⟩⟩
   refine ⟨_, rfl, ?_⟩
   refine hK.out _ _ ⟨(blk_cell BK350.out 0).trans rfl, (blk_cell BK350.out 1).trans rfl, (blk_cell BK350.out 2).trans rfl, (blk_cell BK350.out 3).trans rfl, (blk_cell BK350.out 4).trans rfl, (blk_cell BK350.out 5).trans rfl, (blk_cell BK350.out 6).trans rfl, (blk_cell BK350.out 7).trans rfl⟩ (fun hHeld => ?_)
   clear hK K
   refine nm_ 37 ?_
   refine on_ 17 HT_ (fun K hK => ?_)
   refine gs_ Try.func158 #[.slice A0_6 l0_6.length c0_6, .int .i64 a0_2, .int .i64 a0_3] ?_
   with_reducible refine (impl_gainsFault.calls _ _ l0_6 a0_2 a0_3 t355 _ ?side1 ?side2 A7.out).mono ?_
   (case side1 => repeat (first | exact (Kd.C_below HR0_6.out bnx) | (with_reducible refine Kd.C_alloc ?_ _) | (with_reducible refine Kd.C_drewN ?_ _) | (with_reducible refine Kd.C_drew ?_)))
   (case side2 => exact HC0_6.out)
   rintro e w50 ⟨rfl, hb⟩
   refine ⟨_, rfl, ?_⟩
   replace BK350 := bkb BK350 hb
   replace HB := hbs hb
   (try clear hb)
   refine hK.out _ _ ⟨(blk_cell BK350.out 0).trans rfl, (blk_cell BK350.out 1).trans rfl, (blk_cell BK350.out 2).trans rfl, (blk_cell BK350.out 3).trans rfl, (blk_cell BK350.out 4).trans rfl, (blk_cell BK350.out 5).trans rfl, (blk_cell BK350.out 6).trans rfl, (blk_cell BK350.out 7).trans rfl⟩ (fun hHeld => ?_)
   clear hK K
   refine nm_ 44 ?_
   refine on_ 18 HT_ (fun K hK => ?_)
   refine Kd.R_lit_step (Kd.int .i64) _ 2 ?hg (N := 45) ?hd (xs := ([t353, t354, t355] : List Int)) (inner := [.int .i64 t353, .int .i64 t354, .int .i64 t355]) (ok := fun _ => True) (okp := fun _ => True) ?hr ?hp (fun _ hk => hk) trivial (Below.refl _ _) (Nat.le_refl _) (by simp) ?_; (case hd => rfl); (case hg => rfl); (case hr => first | (go_simp; done) | (go_simp; rfl)); (case hp => exact (Reps.one (show Kd.M (Kd.int .i64) _ _ _ t353 [.int .i64 t353] from rfl) (Reps.one (show Kd.M (Kd.int .i64) _ _ _ t354 [.int .i64 t354] from rfl) (Reps.one (show Kd.M (Kd.int .i64) _ _ _ t355 [.int .i64 t355] from rfl) (Reps.none _ _)))))
   intro v357 w51 ho52 hb hg_ hnew_
   clear hg_ hnew_
   (first | rw [← Ny356.out] at ho52 | (simp only [Int.reduceToNat] at ho52; rw [← Ny356.out] at ho52))
   have HO358 := rlw ho52
   replace BK350 := bkb BK350 hb
   replace HB := hbs hb
   clear hb ho52
   obtain ⟨Ao53, co53, eo53⟩ := Kd.R_slice HO358.out
   (first | subst eo53 | (injection eo53 with f1_ f2_ f3_; have f4_ := f1_.symm; have f5_ := f3_.symm; clear f1_ f2_ f3_; subst f4_; subst f5_))
   refine hK.out _ _ ⟨(blk_cell BK350.out 0).trans rfl, (blk_cell BK350.out 1).trans rfl, (blk_cell BK350.out 2).trans rfl, (blk_cell BK350.out 3).trans rfl, (blk_cell BK350.out 4).trans rfl, (blk_cell BK350.out 5).trans rfl, (blk_cell BK350.out 6).trans rfl, (blk_cell BK350.out 7).trans rfl⟩ (fun hHeld => ?_)
   clear hK K
   refine nm_ 45 ?_
   refine on_ 19 HT_ (fun K hK => ?_)
   refine gs_ Try.func98 #[.slice Ao53 y356.length co53] ?_
   with_reducible refine (impl_first.calls k _ _ y356 t359 _ ?_ ?_ A8.out).mono ?_
   exact crd HO358
   exact (Kd.R_reads' HO358.out).2.1
   rintro e w' ⟨rfl, ⟨nd, rfl⟩⟩
   refine ⟨_, rfl, ?_⟩
   refine hK.out _ _ ⟨(blk_cell BK350.out 0).trans rfl, (blk_cell BK350.out 1).trans rfl, (blk_cell BK350.out 2).trans rfl, (blk_cell BK350.out 3).trans rfl, (blk_cell BK350.out 4).trans rfl, (blk_cell BK350.out 5).trans rfl, (blk_cell BK350.out 6).trans rfl, (blk_cell BK350.out 7).trans rfl⟩ (fun hHeld => ?_)
   clear hK K
   refine nm_ 46 ?_
   refine pu_ 20 5 HT_ ?_
   refine done_ (done_of HT_.out (by kernel_rfl)) ?_
   try go_wp2
   go_ret
   exact ⟨enq, bnx⟩
 ·rw [if_neg c3] at H
  have c3b0 : (t351 == 0) = false := beq_eq_false_iff_ne.mpr c3
  have c3b1 : (t351 != 0) = true := bne_iff_ne.mpr c3
  obtain rfl := Option.some.inj H
  go_enter Try.func76, Try.ntmps76
  go_wp2_with (first | ((with_reducible refine gate_dst (N := 1) rfl ?_); refine bev 1 36 #[.int .i64 a0_0, .int .i64 a0_1, .int .i64 a0_2, .int .i64 a0_3, .int .i64 a0_4, .slice A0_5 l0_5.length c0_5, .slice A0_6 l0_6.length c0_6, .slice A0_7 l0_7.length c0_7] ?_; intro gb350 hg w54 hbox hb; have BK350 := am hbox; have GW350 := gwe hg; have GE350 := gwe hg; replace HB := hbs hb; clear hb hbox hg; obtain ⟨hcz55_0, hcz55_1, hcz55_2, hcz55_3, hcz55_4, hcz55_5, hcz55_6, hcz55_7, hfz55_0, hfz55_1, hfz55_2, hfz55_3, hfz55_4, hfz55_5, hfz55_6, hfz55_7⟩ := cf8 (W := w54) BK350.out) | ((with_reducible refine gate_callee (f := 153) rfl ?_); refine gl_ 19 Try.func153 #[.int .i64 a0_0, .int .i64 a0_1, .int .i64 a0_2, .int .i64 a0_3, .int .i64 a0_4] ?_; (with_reducible refine (impl_headFault.calls k a0_0 a0_1 a0_2 a0_3 a0_4 t351 _ A2.out).mono ?_); rintro e w56 ⟨rfl, hb⟩; refine ⟨_, rfl, ?_⟩; replace BK350 := bkb BK350 hb; replace HB := hbs hb; (try clear hb)))
  go_ret
  exact ⟨enq, bnx⟩

end Go.Proofs.Ythehhncokikgcaa.PFnExactPartOf
