-- Contracts of the functions that the law reaches, written by wip/xprint.py of this repo.
import Derived.Test.YthehhncokikgcaaPFnExactMakeFramex0
import Derived.Test.YthehhncokikgcaaPFnExactMakeFramex1
import Derived.Test.YthehhncokikgcaaPFnExactMakeFramex7
import Derived.Test.YthehhncokikgcaaPFnExactMakeFramex8
namespace Go.Proofs.Ythehhncokikgcaa.PFnExactMakeFrame
open Go.RowKit Go.Proofs.YthehhncokikgcaaW.PrintWords Go.Proofs.YthehhncokikgcaaW.PrintLast Go.Proofs.YthehhncokikgcaaW.PrintMore
attribute [local go_sem] max2_int min2_int max_two min_two max_three min_three max_four min_four   -- for this text's walks alone
set_option linter.unusedVariables false
set_option linter.unusedSimpArgs false

/-! ### impl_FrameFault: function 76 -/
def impl_FrameFault.l0 : Nat → List (S93) → Int → Int → Int → Int → Int → Int → Int → List Int → List Int → List (List Int) → Option (Int)
 | 0, _, _, _, _, _, _, _, _, _, _, _ => none
 | k + 1, x52, x53, x54, x342000, x342001, x342002, x342003, x342004, x342005, x342006, x342007 => if x54 < x53 then (if 0 ≤ x54 then (if x54 < (x52.length : Int) then (if x54 < (x342007.length : Int) then ((impl_bandFault.f k ((rd_T93 x52 x54).f0) ((rd_T93 x52 x54).f1) (rd_L1 x342007 x54) x342003).bind fun t357 => (if t357 = 0 then (impl_FrameFault.l0 k x52 x53 (wrap64 (x54 + 1)) x342000 x342001 x342002 x342003 x342004 x342005 x342006 x342007) else (some t357))) else (none)) else (none)) else (none)) else (some 0)
def impl_FrameFault.f (k : Nat) (a0_0 : Int) (a0_1 : Int) (a0_2 : Int) (a0_3 : Int) (a0_4 : Int) (l0_5 : List Int) (l0_6 : List Int) (l0_7 : List (List Int)) : Option (Int) := (impl_headFault.f k a0_0 a0_1 a0_2 a0_3 a0_4).bind fun t342 => (if t342 = 0 then ((impl_FrameFault_1_any.f l0_5 a0_2).bind fun t343 => ((impl_countFault.f a0_1 l0_5 l0_6 l0_7).bind fun t344 => ((impl_codeIf.f t343 3).bind fun t345 => ((impl_gainsFault.f l0_6 a0_2 a0_3).bind fun t346 => ((impl_first.f k (([t344, t345, t346] : List Int))).bind fun t350 => (if t350 = 0 then ((impl_bandsOf.f a0_1).bind fun t351 => (impl_FrameFault.l0 k t351 (t351.length : Int) 0 a0_0 a0_1 a0_2 a0_3 a0_4 l0_5 l0_6 l0_7)) else (some t350))))))) else (some t342))
theorem impl_FrameFault.mono_l : ∀ k, (∀ y0 y1 y2 y3 y4 y5 y6 y7 y8 y9 y10, LeO (impl_FrameFault.l0 k y0 y1 y2 y3 y4 y5 y6 y7 y8 y9 y10) (impl_FrameFault.l0 (k + 1) y0 y1 y2 y3 y4 y5 y6 y7 y8 y9 y10))
 | 0 => fun _ _ _ _ _ _ _ _ _ _ _ r h => by simp [impl_FrameFault.l0] at h
 | k + 1 => by
  have ih0 := impl_FrameFault.mono_l k
  ·intro y0 y1 y2 y3 y4 y5 y6 y7 y8 y9 y10
   unfold impl_FrameFault.l0
   repeat' first
   | (with_reducible exact ih0 _ _ _ _ _ _ _ _ _ _ _)
   | (with_reducible exact impl_bandFault.mono _ _ _ _ _)
   | (with_reducible exact impl_first.mono _ _)
   | (with_reducible exact impl_headFault.mono _ _ _ _ _ _)
   | (with_reducible exact LeO.refl _)
   | (with_reducible exact LeO.none _)
   | (with_reducible refine LeO.ite ?_ ?_)
   | (with_reducible refine LeO.bind ?_ (fun _ => ?_))
   | exact ih0 _ _ _ _ _ _ _ _ _ _ _
   | exact impl_bandFault.mono _ _ _ _ _
   | exact impl_first.mono _ _
   | exact impl_headFault.mono _ _ _ _ _ _
   | exact LeO.none _
   | refine LeO.ite ?_ ?_
   | refine LeO.bind ?_ (fun _ => ?_)
theorem impl_FrameFault.mono : ∀ a0 a1 a2 a3 a4 a5 a6 a7 k, LeO (impl_FrameFault.f k a0 a1 a2 a3 a4 a5 a6 a7) (impl_FrameFault.f (k + 1) a0 a1 a2 a3 a4 a5 a6 a7) := by
 intro a0 a1 a2 a3 a4 a5 a6 a7 k
 have ih0 := impl_FrameFault.mono_l k
 unfold impl_FrameFault.f
 repeat' first
   | (with_reducible exact ih0 _ _ _ _ _ _ _ _ _ _ _)
   | (with_reducible exact impl_bandFault.mono _ _ _ _ _)
   | (with_reducible exact impl_first.mono _ _)
   | (with_reducible exact impl_headFault.mono _ _ _ _ _ _)
   | (with_reducible exact LeO.refl _)
   | (with_reducible exact LeO.none _)
   | (with_reducible refine LeO.ite ?_ ?_)
   | (with_reducible refine LeO.bind ?_ (fun _ => ?_))
   | exact ih0 _ _ _ _ _ _ _ _ _ _ _
   | exact impl_bandFault.mono _ _ _ _ _
   | exact impl_first.mono _ _
   | exact impl_headFault.mono _ _ _ _ _ _
   | exact LeO.none _
   | refine LeO.ite ?_ ?_
   | refine LeO.bind ?_ (fun _ => ?_)
def impl_FrameFault.T5 : Bool × List (List Nat × List Nat) := (true, [([], []), ([0], [0]), ([], []), ([2], [2]), ([], []), ([4], [4]), ([], []), ([6], [6]), ([1, 3, 5, 7], [1, 3, 5, 7]), ([], []), ([9, 8], [9]), ([], []), ([11], [11]), ([], []), ([13], [13]), ([], []), ([15], [15]), ([12, 14, 16, 10], [12, 14, 16]), ([8, 10, 17], [8, 10, 17]), ([18, 17], [18]), ([19, 19, 0, 1, 2, 3, 4, 5, 6, 7, 8, 9, 10, 11, 12, 13, 14, 15, 16, 17, 18, 19], [19])])
def impl_FrameFault.B5 : List Nat := [0, 1, 0, 4, 0, 16, 0, 64, 255, 0, 1023, 0, 2048, 0, 8192, 0, 32768, 131071, 262143, 524287, 1048575]
theorem impl_FrameFault.tab5 : rtab .any (opsOf Try.f76 5) = impl_FrameFault.T5 := by kernel_rfl
theorem impl_FrameFault.bits5 : waitsOk impl_FrameFault.T5.2 impl_FrameFault.B5 = true := by kernel_rfl
def impl_FrameFault.T11 : Bool × List (List Nat × List Nat) := (true, [([], []), ([], []), ([1], [1]), ([], []), ([2, 3], [2, 3]), ([4], [4]), ([], []), ([6], [6]), ([0, 5, 7], [0, 5, 7]), ([8, 8, 0, 1, 2, 3, 4, 5, 6, 7, 8], [8])])
def impl_FrameFault.B11 : List Nat := [0, 0, 2, 0, 14, 30, 0, 64, 255, 511]
theorem impl_FrameFault.tab11 : rtab .any (opsOf Try.f76 11) = impl_FrameFault.T11 := by kernel_rfl
theorem impl_FrameFault.bits11 : waitsOk impl_FrameFault.T11.2 impl_FrameFault.B11 = true := by kernel_rfl
set_option maxHeartbeats 8000000 in
set_option maxRecDepth 100000 in
theorem impl_FrameFault.calls (k : Nat) (a0_0 : Int) (a0_1 : Int) (a0_2 : Int) (a0_3 : Int) (a0_4 : Int) (A0_5 : Option Addr) (c0_5 : Nat) (l0_5 : List Int) (A0_6 : Option Addr) (c0_6 : Nat) (l0_6 : List Int) (A0_7 : Option Addr) (c0_7 : Nat) (l0_7 : List (List Int)) (r : Int) (w : World) (hr0_5 : Kd.C (Kd.int .i64) w A0_5 l0_5.length l0_5) (hc0_5 : l0_5.length ≤ c0_5) (hr0_6 : Kd.C (Kd.int .i64) w A0_6 l0_6.length l0_6) (hc0_6 : l0_6.length ≤ c0_6) (hr0_7 : Kd.C (Kd.slice 2 (Kd.int .i64)) w A0_7 l0_7.length l0_7) (hc0_7 : l0_7.length ≤ c0_7) (h : impl_FrameFault.f k a0_0 a0_1 a0_2 a0_3 a0_4 l0_5 l0_6 l0_7 = some r) :
  Calls Try.prog 76 #[.agg #[.int .i64 a0_0, .int .i64 a0_1, .int .i64 a0_2, .int .i64 a0_3, .int .i64 a0_4, .slice A0_5 l0_5.length c0_5, .slice A0_6 l0_6.length c0_6, .slice A0_7 l0_7.length c0_7]] w fun e w' => e = .returned (.int .i64 r) ∧ Below w.heap.size w w' := by
 have hu36 := Try.underlying36
 have hu93 := Try.underlying93
 have HR0_5 := Aside0.mk hr0_5
 have HC0_5 := Aside0.mk hc0_5
 clear hr0_5 hc0_5
 have HR0_6 := Aside0.mk hr0_6
 have HC0_6 := Aside0.mk hc0_6
 clear hr0_6 hc0_6
 have HR0_7 := Aside0.mk hr0_7
 have HC0_7 := Aside0.mk hc0_7
 clear hr0_7 hc0_7
 have HB := Aside0.mk (Below.refl w.heap.size w)
 have H : ((impl_headFault.f k a0_0 a0_1 a0_2 a0_3 a0_4).bind fun t342 => (if t342 = 0 then ((impl_FrameFault_1_any.f l0_5 a0_2).bind fun t343 => ((impl_countFault.f a0_1 l0_5 l0_6 l0_7).bind fun t344 => ((impl_codeIf.f t343 3).bind fun t345 => ((impl_gainsFault.f l0_6 a0_2 a0_3).bind fun t346 => ((impl_first.f k (([t344, t345, t346] : List Int))).bind fun t350 => (if t350 = 0 then ((impl_bandsOf.f a0_1).bind fun t351 => (impl_FrameFault.l0 k t351 (t351.length : Int) 0 a0_0 a0_1 a0_2 a0_3 a0_4 l0_5 l0_6 l0_7)) else (some t350))))))) else (some t342))) = some r := h
 clear h
 replace H := bnd H
 obtain ⟨t342, A2, H⟩ := H
 by_cases c3 : t342 = 0
 ·rw [if_pos c3] at H
  have c3b0 : (t342 == 0) = true := beq_iff_eq.mpr c3
  have c3b1 : (t342 != 0) = false := bne_eq_false_iff_eq.mpr c3
  clear c3
  replace H := bnd H
  obtain ⟨t343, A4, H⟩ := H
  replace H := bnd H
  obtain ⟨t344, A5, H⟩ := H
  replace H := bnd H
  obtain ⟨t345, A6, H⟩ := H
  replace H := bnd H
  obtain ⟨t346, A7, H⟩ := H
  obtain ⟨y347, hy347⟩ : ∃ y_ : List Int, y_ = (([t344, t345, t346] : List Int)) := ⟨_, rfl⟩
  replace H : ((impl_first.f k y347).bind fun t350 => (if t350 = 0 then ((impl_bandsOf.f a0_1).bind fun t351 => (impl_FrameFault.l0 k t351 (t351.length : Int) 0 a0_0 a0_1 a0_2 a0_3 a0_4 l0_5 l0_6 l0_7)) else (some t350))) = some r := by first | (rw [hy347]; with_reducible exact H) | (have H2_ := (Option.bind_some _ _).symm.trans H; rw [hy347]; with_reducible exact H2_) | (have H2_ := (Option.bind_some _ _).symm.trans H; with_reducible exact H2_) | with_reducible exact H | (rw [hy347]; exact H) | exact H
  have Ny347 := Aside0.mk hy347
  clear hy347
  replace H := bnd H
  obtain ⟨t350, A8, H⟩ := H
  by_cases c9 : t350 = 0
  ·rw [if_pos c9] at H
   have c9b0 : (t350 == 0) = true := beq_iff_eq.mpr c9
   have c9b1 : (t350 != 0) = false := bne_eq_false_iff_eq.mpr c9
   clear c9
   replace H := bnd H
   obtain ⟨t351, A10, H⟩ := H
   have H' := Aside0.mk H
   clear H
   go_enter Try.func76, Try.ntmps76
   try go_wp2_with (first | ((with_reducible refine gate_dst (N := 1) rfl ?_); refine bev 1 36 #[.int .i64 a0_0, .int .i64 a0_1, .int .i64 a0_2, .int .i64 a0_3, .int .i64 a0_4, .slice A0_5 l0_5.length c0_5, .slice A0_6 l0_6.length c0_6, .slice A0_7 l0_7.length c0_7] ?_; intro gb341 hg w11 hbox hb; have BK341 := am hbox; have GW341 := gwe hg; have GE341 := gwe hg; replace HB := hbs hb; clear hb hbox hg; obtain ⟨hcz12_0, hcz12_1, hcz12_2, hcz12_3, hcz12_4, hcz12_5, hcz12_6, hcz12_7, hfz12_0, hfz12_1, hfz12_2, hfz12_3, hfz12_4, hfz12_5, hfz12_6, hfz12_7⟩ := cf8 (W := w11) BK341.out) | ((with_reducible refine gate_callee (f := 153) rfl ?_); refine gl_ 19 Try.func153 #[.int .i64 a0_0, .int .i64 a0_1, .int .i64 a0_2, .int .i64 a0_3, .int .i64 a0_4] ?_; (with_reducible refine (impl_headFault.calls k a0_0 a0_1 a0_2 a0_3 a0_4 t342 _ A2.out).mono ?_); rintro e w13 ⟨rfl, hb⟩; refine ⟨_, rfl, ?_⟩; replace BK341 := bkb BK341 hb; replace HB := hbs hb; (try clear hb); obtain ⟨hcz14_0, hcz14_1, hcz14_2, hcz14_3, hcz14_4, hcz14_5, hcz14_6, hcz14_7, hfz14_0, hfz14_1, hfz14_2, hfz14_3, hfz14_4, hfz14_5, hfz14_6, hfz14_7⟩ := cf8 (W := w13) BK341.out) | ((with_reducible refine gate_callee (f := 123) rfl ?_); refine gl_ 26 Try.func123 #[.slice A0_5 l0_5.length c0_5, .func (.func 154) #[] #[.pointer (some ⟨gb341, 0, none⟩)]] ?_; (with_reducible refine (impl_FrameFault_1_any.calls (hbx := ?_) _ _ l0_5 a0_2 t343 _ ?_ ?_ A4.out).mono ?_); exact Aside0.mk ⟨36, #[.int .i64 a0_0, .int .i64 a0_1, .int .i64 a0_2, .int .i64 a0_3, .int .i64 a0_4, .slice A0_5 l0_5.length c0_5, .slice A0_6 l0_6.length c0_6, .slice A0_7 l0_7.length c0_7], (bpl BK341.out), (by first | rfl | exact ⟨rfl, rfl⟩)⟩; exact cpl HR0_5.out; exact HC0_5.out; rintro e w15 ⟨rfl, hb⟩; refine ⟨_, rfl, ?_⟩; replace BK341 := bkb BK341 hb; replace HB := hbs hb; (try clear hb)))
   replace BK341 := am (blk_drew BK341.out)
   replace HB := am (below_drew1 HB.out)
   refine start_ (n := 21) (S := fun w' => w'.cell? ⟨gb341, 0, none⟩ = some (.int .i64 a0_0) ∧ w'.cell? ⟨gb341, 1, none⟩ = some (.int .i64 a0_1) ∧ w'.cell? ⟨gb341, 2, none⟩ = some (.int .i64 a0_2) ∧ w'.cell? ⟨gb341, 3, none⟩ = some (.int .i64 a0_3) ∧ w'.cell? ⟨gb341, 4, none⟩ = some (.int .i64 a0_4) ∧ w'.cell? ⟨gb341, 5, none⟩ = some (.slice A0_5 l0_5.length c0_5) ∧ w'.cell? ⟨gb341, 6, none⟩ = some (.slice A0_6 l0_6.length c0_6) ∧ w'.cell? ⟨gb341, 7, none⟩ = some (.slice A0_7 l0_7.length c0_7)) (ds := []) #[false, false, false, false, false, false, false, false, false, false, false, false, false, false, false, false, false, false, false, false, false] (by kernel_rfl) rfl rfl ⟨(blk_cell BK341.out 0).trans rfl, (blk_cell BK341.out 1).trans rfl, (blk_cell BK341.out 2).trans rfl, (blk_cell BK341.out 3).trans rfl, (blk_cell BK341.out 4).trans rfl, (blk_cell BK341.out 5).trans rfl, (blk_cell BK341.out 6).trans rfl, (blk_cell BK341.out 7).trans rfl⟩ (fun hHeld => ?_); refine with_tabW impl_FrameFault.tab5 impl_FrameFault.bits5 (fun HT_ HW_ => ?_)
   generalize w15.drew = w16 at BK341 HB hHeld ⊢
   refine pu_ 0 27 HT_ ?_
   refine pu_ 2 29 HT_ ?_
   refine pu_ 4 31 HT_ ?_
   refine pu_ 6 33 HT_ ?_
   refine pu_ 9 36 HT_ ?_
   refine pu_ 11 38 HT_ ?_
   refine pu_ 13 40 HT_ ?_
   refine pu_ 15 42 HT_ ?_
   refine tk_ 1 28 HT_ HW_ hHeld ?_
   refine tk_ 3 30 HT_ HW_ hHeld ?_
   refine tk_ 5 32 HT_ HW_ hHeld ?_
   refine tk_ 7 34 HT_ HW_ hHeld ?_
   refine tk_ 12 39 HT_ HW_ hHeld ?_
   refine tk_ 14 41 HT_ HW_ hHeld ?_
   refine tk_ 16 43 HT_ HW_ hHeld ?_
   refine on_ 8 HT_ (fun K hK => ?_)
   refine gs_ Try.func157 #[.int .i64 a0_1, .slice A0_5 l0_5.length c0_5, .slice A0_6 l0_6.length c0_6, .slice A0_7 l0_7.length c0_7] ?_
   with_reducible refine (impl_countFault.calls a0_1 _ _ l0_5 _ _ l0_6 _ _ l0_7 t344 _ ?_ ?_ ?_ ?_ ?_ ?_ A5.out).mono ?_
   exact cpl HR0_5.out
   exact HC0_5.out
   exact cpl HR0_6.out
   exact HC0_6.out
   exact cpl HR0_7.out
   exact HC0_7.out
   rintro e w17 ⟨rfl, hb⟩
   refine ⟨_, rfl, ?_⟩
   replace BK341 := bkb BK341 hb
   replace HB := hbs hb
   (try clear hb)
   refine hK.out _ _ ⟨(blk_cell BK341.out 0).trans rfl, (blk_cell BK341.out 1).trans rfl, (blk_cell BK341.out 2).trans rfl, (blk_cell BK341.out 3).trans rfl, (blk_cell BK341.out 4).trans rfl, (blk_cell BK341.out 5).trans rfl, (blk_cell BK341.out 6).trans rfl, (blk_cell BK341.out 7).trans rfl⟩ (fun hHeld => ?_)
   clear hK K
   refine nm_ 35 ?_
   refine on_ 10 HT_ (fun K hK => ?_)
   refine gs_ Try.func99 #[.bool t343, .int .i64 3] ?_
   with_reducible refine (impl_codeIf.calls t343 3 t345 _ A6.out).mono ?_
   rintro e w' ⟨rfl, ⟨nd, rfl⟩⟩
   refine ⟨_, rfl, ?_⟩
   refine hK.out _ _ ⟨(blk_cell BK341.out 0).trans rfl, (blk_cell BK341.out 1).trans rfl, (blk_cell BK341.out 2).trans rfl, (blk_cell BK341.out 3).trans rfl, (blk_cell BK341.out 4).trans rfl, (blk_cell BK341.out 5).trans rfl, (blk_cell BK341.out 6).trans rfl, (blk_cell BK341.out 7).trans rfl⟩ (fun hHeld => ?_)
   clear hK K
   refine nm_ 37 ?_
   refine on_ 17 HT_ (fun K hK => ?_)
   refine gs_ Try.func158 #[.slice A0_6 l0_6.length c0_6, .int .i64 a0_2, .int .i64 a0_3] ?_
   with_reducible refine (impl_gainsFault.calls _ _ l0_6 a0_2 a0_3 t346 _ ?side1 ?side2 A7.out).mono ?_
   (case side1 => repeat (first | exact (Kd.C_below HR0_6.out bnx) | (with_reducible refine Kd.C_alloc ?_ _) | (with_reducible refine Kd.C_drewN ?_ _) | (with_reducible refine Kd.C_drew ?_)))
   (case side2 => exact HC0_6.out)
   rintro e w18 ⟨rfl, hb⟩
   refine ⟨_, rfl, ?_⟩
   replace BK341 := bkb BK341 hb
   replace HB := hbs hb
   (try clear hb)
   refine hK.out _ _ ⟨(blk_cell BK341.out 0).trans rfl, (blk_cell BK341.out 1).trans rfl, (blk_cell BK341.out 2).trans rfl, (blk_cell BK341.out 3).trans rfl, (blk_cell BK341.out 4).trans rfl, (blk_cell BK341.out 5).trans rfl, (blk_cell BK341.out 6).trans rfl, (blk_cell BK341.out 7).trans rfl⟩ (fun hHeld => ?_)
   clear hK K
   refine nm_ 44 ?_
   refine on_ 18 HT_ (fun K hK => ?_)
   refine Kd.R_lit_step (Kd.int .i64) _ 2 ?hg (N := 45) ?hd (xs := ([t344, t345, t346] : List Int)) (inner := [.int .i64 t344, .int .i64 t345, .int .i64 t346]) (ok := fun _ => True) (okp := fun _ => True) ?hr ?hp (fun _ hk => hk) trivial (Below.refl _ _) (Nat.le_refl _) (by simp) ?_; (case hd => rfl); (case hg => rfl); (case hr => first | (go_simp; done) | (go_simp; rfl)); (case hp => exact (Reps.one (show Kd.M (Kd.int .i64) _ _ _ t344 [.int .i64 t344] from rfl) (Reps.one (show Kd.M (Kd.int .i64) _ _ _ t345 [.int .i64 t345] from rfl) (Reps.one (show Kd.M (Kd.int .i64) _ _ _ t346 [.int .i64 t346] from rfl) (Reps.none _ _)))))
   intro v348 w19 ho20 hb hg_ hnew_
   clear hg_ hnew_
   (first | rw [← Ny347.out] at ho20 | (simp only [Int.reduceToNat] at ho20; rw [← Ny347.out] at ho20))
   have HO349 := rlw ho20
   replace BK341 := bkb BK341 hb
   replace HB := hbs hb
   clear hb ho20
   obtain ⟨Ao21, co21, eo21⟩ := Kd.R_slice HO349.out
   (first | subst eo21 | (injection eo21 with f1_ f2_ f3_; have f4_ := f1_.symm; have f5_ := f3_.symm; clear f1_ f2_ f3_; subst f4_; subst f5_))
   refine hK.out _ _ ⟨(blk_cell BK341.out 0).trans rfl, (blk_cell BK341.out 1).trans rfl, (blk_cell BK341.out 2).trans rfl, (blk_cell BK341.out 3).trans rfl, (blk_cell BK341.out 4).trans rfl, (blk_cell BK341.out 5).trans rfl, (blk_cell BK341.out 6).trans rfl, (blk_cell BK341.out 7).trans rfl⟩ (fun hHeld => ?_)
   clear hK K
   refine nm_ 45 ?_
   refine on_ 19 HT_ (fun K hK => ?_)
   refine gs_ Try.func98 #[.slice Ao21 y347.length co21] ?_
   with_reducible refine (impl_first.calls k _ _ y347 t350 _ ?_ ?_ A8.out).mono ?_
   exact crd HO349
   exact (Kd.R_reads' HO349.out).2.1
   rintro e w' ⟨rfl, ⟨nd, rfl⟩⟩
   refine ⟨_, rfl, ?_⟩
   refine hK.out _ _ ⟨(blk_cell BK341.out 0).trans rfl, (blk_cell BK341.out 1).trans rfl, (blk_cell BK341.out 2).trans rfl, (blk_cell BK341.out 3).trans rfl, (blk_cell BK341.out 4).trans rfl, (blk_cell BK341.out 5).trans rfl, (blk_cell BK341.out 6).trans rfl, (blk_cell BK341.out 7).trans rfl⟩ (fun hHeld => ?_)
   clear hK K
   refine nm_ 46 ?_
   refine pu_ 20 5 HT_ ?_
   refine done_ (done_of HT_.out (by kernel_rfl)) ?_
   obtain ⟨hcz22_0, hcz22_1, hcz22_2, hcz22_3, hcz22_4, hcz22_5, hcz22_6, hcz22_7, hfz22_0, hfz22_1, hfz22_2, hfz22_3, hfz22_4, hfz22_5, hfz22_6, hfz22_7⟩ := cf8 (W := w19) BK341.out
   try go_wp2_with (first | ((with_reducible refine gate_callee (f := 79) rfl ?_); refine gl_ 52 Try.func79 #[.int .i64 a0_1] ?_; (with_reducible refine (impl_bandsOf.calls a0_1 t351 _ A10.out).mono ?_); rintro e w23 ⟨v352, rfl, ho0, hb⟩; refine ⟨_, rfl, ?_⟩; replace HO349 := rbl HO349 hb; have HO353 := rlw ho0; replace BK341 := bkb BK341 hb; replace HB := hbs hb; (try clear hb); (try clear ho0); obtain ⟨Ao24, co24, eo24⟩ := Kd.R_slice HO353.out; subst eo24))
   go_loopg [54] k (fun kq v54 w' => ∃ (x54_1 : Int), v54 = .int .i64 x54_1 ∧ Aside0 (impl_FrameFault.l0 kq t351 (t351.length : Int) x54_1 a0_0 a0_1 a0_2 a0_3 a0_4 l0_5 l0_6 l0_7 = some r) ∧ Aside0 (kq ≤ k) ∧ Aside0 (Kd.R k93 93 w' w.heap.size (fun _ => True) (.slice Ao24 t351.length co24) t351) ∧ Aside0 (w'.heap[gb341]? = some (.cells #[.int .i64 a0_0, .int .i64 a0_1, .int .i64 a0_2, .int .i64 a0_3, .int .i64 a0_4, (.slice A0_5 l0_5.length c0_5), (.slice A0_6 l0_6.length c0_6), (.slice A0_7 l0_7.length c0_7)] 36 (0, 0))) ∧ Aside0 (Below w.heap.size w w'))
   case atStart => exact ⟨(0), rq, H', ⟨Nat.le_refl _⟩, ⟨by (with_reducible repeat (first | apply Kd.R_alloc | apply Kd.R_drewN | apply Kd.R_drew)); exact HO353.out⟩, ⟨bpl BK341.out⟩, ⟨bnx⟩⟩
   case round =>
    clear H'
    try clear c1
    try clear p2
    try clear c3
    try clear c3b0
    try clear c3b1
    try clear c7
    try clear c9
    try clear c9b0
    try clear c9b1
    try clear c10
    try clear c15
    try clear hcz12_0 hcz12_1 hcz12_2 hcz12_3 hcz12_4 hcz12_5 hcz12_6 hcz12_7
    try clear hcz14_0 hcz14_1 hcz14_2 hcz14_3 hcz14_4 hcz14_5 hcz14_6 hcz14_7
    try clear hcz22_0 hcz22_1 hcz22_2 hcz22_3 hcz22_4 hcz22_5 hcz22_6 hcz22_7
    try clear hfz12_0 hfz12_1 hfz12_2 hfz12_3 hfz12_4 hfz12_5 hfz12_6 hfz12_7
    try clear hfz14_0 hfz14_1 hfz14_2 hfz14_3 hfz14_4 hfz14_5 hfz14_6 hfz14_7
    try clear hfz22_0 hfz22_1 hfz22_2 hfz22_3 hfz22_4 hfz22_5 hfz22_6 hfz22_7
    obtain ⟨x54_1, rfl, HA, HK1, HO_52, BK341, HB⟩ := hrel
    cases gk with
    | zero => exact absurd HA.out (by simp [impl_FrameFault.l0])
    | succ k1 =>
     have H := HA.out
     clear HA
     simp only [impl_FrameFault.l0] at H
     by_cases c25 : x54_1 < (t351.length : Int)
     ·rw [if_pos c25] at H
      have c25b0 : decide (x54_1 < (t351.length : Int)) = true := decide_eq_true c25
      clear c25
      by_cases c26 : 0 ≤ x54_1
      ·rw [if_pos c26] at H
       have c26b0 : decide (0 ≤ x54_1) = true := decide_eq_true c26
       clear c26
       by_cases c27 : x54_1 < (t351.length : Int)
       ·rw [if_pos c27] at H
        have c27b0 : decide (x54_1 < (t351.length : Int)) = true := decide_eq_true c27
        clear c27
        by_cases c28 : x54_1 < (l0_7.length : Int)
        ·rw [if_pos c28] at H
         have c28b0 : decide (x54_1 < (l0_7.length : Int)) = true := decide_eq_true c28
         clear c28
         replace H := bnd H
         obtain ⟨t357, A29, H⟩ := H
         by_cases c30 : t357 = 0
         ·rw [if_pos c30] at H
          have c30b0 : (t357 == 0) = true := beq_iff_eq.mpr c30
          have c30b1 : (t357 != 0) = false := bne_eq_false_iff_eq.mpr c30
          clear c30
          have H' := Aside0.mk H
          clear H
          have p354 : 0 ≤ (x54_1 : Int) := dta
          have q354 : x54_1 < (t351.length : Int) := dta
          obtain ⟨ad354, e354, hx354_0, hx354_1⟩ := at_T93 (Kd.R_reads' HO_52.out).2.2 x54_1 p354 q354
          cases e354
          replace p354 := eq_true p354
          replace q354 := eq_true q354
          try go_wp2_with (first | ((with_reducible refine gate_dst (N := 7) rfl ?_); refine bev 7 93 #[.int .i64 0, .int .i64 0] ?_; intro gb355 hg w31 hbox hb; replace HO_52 := am (Kd.R_below (Kd.R_elderB (rpl HO_52.out) gb355 (Nat.le_of_eq hg.symm)) hb); have BK355 := am hbox; have GW355 := gwe hg; have GE355 := gwe hg; replace HB := hbs hb; have NB341_355 := nbl hg BK341; have NB355_341 := nbg hg BK341; replace BK341 := bkb BK341 hb; clear hb hbox hg; have hnb32 := NB355_341.out; have hnc32 := NB341_355.out; obtain ⟨hcz33_0, hcz33_1, hfz33_0, hfz33_1⟩ := cf2 (W := w31) BK355.out))
          have n0_ : Aside0 (Kd.R k93 93 ((w31.setCell ⟨gb355, 0, none⟩ (.int .i64 ((rd_T93 t351 x54_1).f0))).setCell ⟨gb355, 1, none⟩ (.int .i64 ((rd_T93 t351 x54_1).f1))) w.heap.size (fun k_ => k_ ≠ gb355) (.slice (some ad354) t351.length co24) t351) := ⟨by (with_reducible repeat (first | apply Kd.R_alloc | apply Kd.R_drewN | apply Kd.R_drew)); exact Kd.R_mono (Kd.R_far (p := ⟨gb355, 1, none⟩) (Kd.R_far (p := ⟨gb355, 0, none⟩) (Kd.R_mono HO_52.out (fun k_ hk => (⟨hk, hk.2⟩ : _ ∧ k_ ≠ gb355))) (fun _ hk => hk.2) (.int .i64 ((rd_T93 t351 x54_1).f0))) (fun _ hk => hk.2) (.int .i64 ((rd_T93 t351 x54_1).f1))) (fun _ hk => hk.1.2)⟩
          have n1_ : Aside0 (((w31.setCell ⟨gb355, 0, none⟩ (.int .i64 ((rd_T93 t351 x54_1).f0))).setCell ⟨gb355, 1, none⟩ (.int .i64 ((rd_T93 t351 x54_1).f1))).heap[gb341]? = some (.cells #[.int .i64 a0_0, .int .i64 a0_1, .int .i64 a0_2, .int .i64 a0_3, .int .i64 a0_4, .slice A0_5 l0_5.length c0_5, .slice A0_6 l0_6.length c0_6, .slice A0_7 l0_7.length c0_7] 36 (0, 0))) := ⟨by (with_reducible repeat (first | refine blk_drewN ?_ _ | refine blk_drew ?_ | refine blk_alloc ?_ _)); refine blk_far ?_ NB341_355.out _; (with_reducible repeat (first | refine blk_drewN ?_ _ | refine blk_drew ?_ | refine blk_alloc ?_ _)); refine blk_far ?_ NB341_355.out _; (with_reducible repeat (first | refine blk_drewN ?_ _ | refine blk_drew ?_ | refine blk_alloc ?_ _)); exact BK341.out⟩
          have n2_ : Aside0 (((w31.setCell ⟨gb355, 0, none⟩ (.int .i64 ((rd_T93 t351 x54_1).f0))).setCell ⟨gb355, 1, none⟩ (.int .i64 ((rd_T93 t351 x54_1).f1))).heap[gb355]? = some (.cells #[.int .i64 ((rd_T93 t351 x54_1).f0), .int .i64 ((rd_T93 t351 x54_1).f1)] 93 (0, 0))) := ⟨by (with_reducible repeat (first | refine blk_drewN ?_ _ | refine blk_drew ?_ | refine blk_alloc ?_ _)); refine blk_put (cs := #[.int .i64 ((rd_T93 t351 x54_1).f0), .int .i64 0]) ?_ 1 _ rfl; (with_reducible repeat (first | refine blk_drewN ?_ _ | refine blk_drew ?_ | refine blk_alloc ?_ _)); refine blk_put (cs := #[.int .i64 0, .int .i64 0]) ?_ 0 _ rfl; exact bpl BK355.out⟩
          have n3_ : Aside0 (Below w.heap.size w ((w31.setCell ⟨gb355, 0, none⟩ (.int .i64 ((rd_T93 t351 x54_1).f0))).setCell ⟨gb355, 1, none⟩ (.int .i64 ((rd_T93 t351 x54_1).f1)))) := ⟨bnx⟩
          (try clear HO_52)
          (try clear BK341)
          (try clear BK355)
          (try clear HB)
          generalize ((w31.setCell ⟨gb355, 0, none⟩ (.int .i64 ((rd_T93 t351 x54_1).f0))).setCell ⟨gb355, 1, none⟩ (.int .i64 ((rd_T93 t351 x54_1).f1))) = w34 at n0_ n1_ n2_ n3_ ⊢
          have HO_52 := n0_
          have BK341 := n1_
          have BK355 := n2_
          have HB := n3_
          clear n0_ n1_ n2_ n3_
          replace HO_52 := am (Kd.R_drew HO_52.out)
          replace BK341 := am (blk_drew BK341.out)
          replace BK355 := am (blk_drew BK355.out)
          replace HB := am (below_drew1 HB.out)
          have p356 : 0 ≤ (x54_1 : Int) := dta
          have q356 : x54_1 < (l0_7.length : Int) := dta
          obtain ⟨ad356, A356_0, c356_0, e356, hx356_0, hl356_0, hi356_0⟩ := at_L1 HR0_7.out x54_1 p356 q356
          have hw356_0 := hx356_0
          cases e356
          replace hx356_0 := (HB.out.cell (World.block_lt_of_cell? w _ hx356_0)).trans hx356_0
          have HR356_0 := Aside0.mk hi356_0
          have HC356_0 := Aside0.mk hl356_0
          clear hi356_0 hl356_0
          replace p356 := eq_true p356
          replace q356 := eq_true q356
          refine start_ (n := 10) (S := fun w' => w'.cell? ⟨gb355, 0, none⟩ = some (.int .i64 ((rd_T93 t351 x54_1).f0)) ∧ w'.cell? ⟨gb355, 1, none⟩ = some (.int .i64 ((rd_T93 t351 x54_1).f1)) ∧ w'.cell? ⟨gb341, 0, none⟩ = some (.int .i64 a0_0) ∧ w'.cell? ⟨gb341, 1, none⟩ = some (.int .i64 a0_1) ∧ w'.cell? ⟨gb341, 2, none⟩ = some (.int .i64 a0_2) ∧ w'.cell? ⟨gb341, 3, none⟩ = some (.int .i64 a0_3) ∧ w'.cell? ⟨gb341, 4, none⟩ = some (.int .i64 a0_4) ∧ w'.cell? ⟨gb341, 5, none⟩ = some (.slice A0_5 l0_5.length c0_5) ∧ w'.cell? ⟨gb341, 6, none⟩ = some (.slice A0_6 l0_6.length c0_6) ∧ w'.cell? ⟨gb341, 7, none⟩ = some (.slice (some ad356) l0_7.length c0_7) ∧ w'.cell? (ad356.add (x54_1).toNat) = some (.slice A356_0 (rd_L1 l0_7 x54_1).length c356_0)) (ds := []) #[false, false, false, false, false, false, false, false, false, false] (by kernel_rfl) rfl rfl ⟨(blk_cell BK355.out 0).trans rfl, (blk_cell BK355.out 1).trans rfl, (blk_cell BK341.out 0).trans rfl, (blk_cell BK341.out 1).trans rfl, (blk_cell BK341.out 2).trans rfl, (blk_cell BK341.out 3).trans rfl, (blk_cell BK341.out 4).trans rfl, (blk_cell BK341.out 5).trans rfl, (blk_cell BK341.out 6).trans rfl, (blk_cell BK341.out 7).trans rfl, ((HB.out.cell (World.block_lt_of_cell? w _ hw356_0)).trans hw356_0)⟩ (fun hHeld => ?_); refine with_tabW impl_FrameFault.tab11 impl_FrameFault.bits11 (fun HT_ HW_ => ?_)
          generalize w34.drew = w35 at HO_52 BK341 BK355 HB HR356_0 hx356_0 hHeld ⊢
          refine pu_ 1 60 HT_ ?_
          refine pu_ 3 62 HT_ ?_
          refine pu_ 6 65 HT_ ?_
          refine tk_ 0 59 HT_ HW_ hHeld ?_
          refine tk_ 2 61 HT_ HW_ hHeld ?_
          refine pu_ 4 63 HT_ ?_
          refine tk_ 5 64 HT_ HW_ hHeld ?_
          refine tk_ 7 66 HT_ HW_ hHeld ?_
          refine on_ 8 HT_ (fun K hK => ?_)
          refine gs_ Try.func159 #[.agg #[.int .i64 ((rd_T93 t351 x54_1).f0), .int .i64 ((rd_T93 t351 x54_1).f1)], .slice A356_0 (rd_L1 l0_7 x54_1).length c356_0, .int .i64 a0_3] ?_
          with_reducible refine (impl_bandFault.calls k1 ((rd_T93 t351 x54_1).f0) ((rd_T93 t351 x54_1).f1) _ _ (rd_L1 l0_7 x54_1) a0_3 t357 _ ?_ ?_ A29.out).mono ?_
          exact cpl HR356_0.out
          exact HC356_0.out
          rintro e w36 ⟨rfl, hb⟩
          refine ⟨_, rfl, ?_⟩
          replace HO_52 := rbl HO_52 hb
          replace BK341 := bkb BK341 hb
          replace BK355 := bkb BK355 hb
          replace HB := hbs hb
          (try clear hb)
          refine hK.out _ _ ⟨(blk_cell BK355.out 0).trans rfl, (blk_cell BK355.out 1).trans rfl, (blk_cell BK341.out 0).trans rfl, (blk_cell BK341.out 1).trans rfl, (blk_cell BK341.out 2).trans rfl, (blk_cell BK341.out 3).trans rfl, (blk_cell BK341.out 4).trans rfl, (blk_cell BK341.out 5).trans rfl, (blk_cell BK341.out 6).trans rfl, (blk_cell BK341.out 7).trans rfl, ((HB.out.cell (World.block_lt_of_cell? w _ hw356_0)).trans hw356_0)⟩ (fun hHeld => ?_)
          clear hK K
          refine nm_ 67 ?_
          refine pu_ 9 8 HT_ ?_
          refine done_ (done_of HT_.out (by kernel_rfl)) ?_
          try go_wp2
          go_roundg k1
          case measure => have := HK1.out; omega
          case rel => exact ⟨(wrap64 (x54_1 + 1)), rq, H', ⟨by have := HK1.out; omega⟩, ⟨by (with_reducible repeat (first | apply Kd.R_alloc | apply Kd.R_drewN | apply Kd.R_drew)); exact Kd.R_mono HO_52.out (fun _ hk => trivial)⟩, ⟨bpl BK341.out⟩, ⟨bnx⟩⟩
         ·rw [if_neg c30] at H
          have c30b0 : (t357 == 0) = false := beq_eq_false_iff_ne.mpr c30
          have c30b1 : (t357 != 0) = true := bne_iff_ne.mpr c30
          obtain rfl := Option.some.inj H
          have p354 : 0 ≤ (x54_1 : Int) := dta
          have q354 : x54_1 < (t351.length : Int) := dta
          obtain ⟨ad354, e354, hx354_0, hx354_1⟩ := at_T93 (Kd.R_reads' HO_52.out).2.2 x54_1 p354 q354
          cases e354
          replace p354 := eq_true p354
          replace q354 := eq_true q354
          try go_wp2_with (first | ((with_reducible refine gate_dst (N := 7) rfl ?_); refine bev 7 93 #[.int .i64 0, .int .i64 0] ?_; intro gb355 hg w37 hbox hb; replace HO_52 := am (Kd.R_below (Kd.R_elderB (rpl HO_52.out) gb355 (Nat.le_of_eq hg.symm)) hb); have BK355 := am hbox; have GW355 := gwe hg; have GE355 := gwe hg; replace HB := hbs hb; have NB341_355 := nbl hg BK341; have NB355_341 := nbg hg BK341; replace BK341 := bkb BK341 hb; clear hb hbox hg; have hnb38 := NB355_341.out; have hnc38 := NB341_355.out; obtain ⟨hcz39_0, hcz39_1, hfz39_0, hfz39_1⟩ := cf2 (W := w37) BK355.out))
          have n0_ : Aside0 (Kd.R k93 93 ((w37.setCell ⟨gb355, 0, none⟩ (.int .i64 ((rd_T93 t351 x54_1).f0))).setCell ⟨gb355, 1, none⟩ (.int .i64 ((rd_T93 t351 x54_1).f1))) w.heap.size (fun k_ => k_ ≠ gb355) (.slice (some ad354) t351.length co24) t351) := ⟨by (with_reducible repeat (first | apply Kd.R_alloc | apply Kd.R_drewN | apply Kd.R_drew)); exact Kd.R_mono (Kd.R_far (p := ⟨gb355, 1, none⟩) (Kd.R_far (p := ⟨gb355, 0, none⟩) (Kd.R_mono HO_52.out (fun k_ hk => (⟨hk, hk.2⟩ : _ ∧ k_ ≠ gb355))) (fun _ hk => hk.2) (.int .i64 ((rd_T93 t351 x54_1).f0))) (fun _ hk => hk.2) (.int .i64 ((rd_T93 t351 x54_1).f1))) (fun _ hk => hk.1.2)⟩
          have n1_ : Aside0 (((w37.setCell ⟨gb355, 0, none⟩ (.int .i64 ((rd_T93 t351 x54_1).f0))).setCell ⟨gb355, 1, none⟩ (.int .i64 ((rd_T93 t351 x54_1).f1))).heap[gb341]? = some (.cells #[.int .i64 a0_0, .int .i64 a0_1, .int .i64 a0_2, .int .i64 a0_3, .int .i64 a0_4, .slice A0_5 l0_5.length c0_5, .slice A0_6 l0_6.length c0_6, .slice A0_7 l0_7.length c0_7] 36 (0, 0))) := ⟨by (with_reducible repeat (first | refine blk_drewN ?_ _ | refine blk_drew ?_ | refine blk_alloc ?_ _)); refine blk_far ?_ NB341_355.out _; (with_reducible repeat (first | refine blk_drewN ?_ _ | refine blk_drew ?_ | refine blk_alloc ?_ _)); refine blk_far ?_ NB341_355.out _; (with_reducible repeat (first | refine blk_drewN ?_ _ | refine blk_drew ?_ | refine blk_alloc ?_ _)); exact BK341.out⟩
          have n2_ : Aside0 (((w37.setCell ⟨gb355, 0, none⟩ (.int .i64 ((rd_T93 t351 x54_1).f0))).setCell ⟨gb355, 1, none⟩ (.int .i64 ((rd_T93 t351 x54_1).f1))).heap[gb355]? = some (.cells #[.int .i64 ((rd_T93 t351 x54_1).f0), .int .i64 ((rd_T93 t351 x54_1).f1)] 93 (0, 0))) := ⟨by (with_reducible repeat (first | refine blk_drewN ?_ _ | refine blk_drew ?_ | refine blk_alloc ?_ _)); refine blk_put (cs := #[.int .i64 ((rd_T93 t351 x54_1).f0), .int .i64 0]) ?_ 1 _ rfl; (with_reducible repeat (first | refine blk_drewN ?_ _ | refine blk_drew ?_ | refine blk_alloc ?_ _)); refine blk_put (cs := #[.int .i64 0, .int .i64 0]) ?_ 0 _ rfl; exact bpl BK355.out⟩
          have n3_ : Aside0 (Below w.heap.size w ((w37.setCell ⟨gb355, 0, none⟩ (.int .i64 ((rd_T93 t351 x54_1).f0))).setCell ⟨gb355, 1, none⟩ (.int .i64 ((rd_T93 t351 x54_1).f1)))) := ⟨bnx⟩
          (try clear HO_52)
          (try clear BK341)
          (try clear BK355)
          (try clear HB)
          generalize ((w37.setCell ⟨gb355, 0, none⟩ (.int .i64 ((rd_T93 t351 x54_1).f0))).setCell ⟨gb355, 1, none⟩ (.int .i64 ((rd_T93 t351 x54_1).f1))) = w40 at n0_ n1_ n2_ n3_ ⊢
          have HO_52 := n0_
          have BK341 := n1_
          have BK355 := n2_
          have HB := n3_
          clear n0_ n1_ n2_ n3_
          replace HO_52 := am (Kd.R_drew HO_52.out)
          replace BK341 := am (blk_drew BK341.out)
          replace BK355 := am (blk_drew BK355.out)
          replace HB := am (below_drew1 HB.out)
          have p356 : 0 ≤ (x54_1 : Int) := dta
          have q356 : x54_1 < (l0_7.length : Int) := dta
          obtain ⟨ad356, A356_0, c356_0, e356, hx356_0, hl356_0, hi356_0⟩ := at_L1 HR0_7.out x54_1 p356 q356
          have hw356_0 := hx356_0
          cases e356
          replace hx356_0 := (HB.out.cell (World.block_lt_of_cell? w _ hx356_0)).trans hx356_0
          have HR356_0 := Aside0.mk hi356_0
          have HC356_0 := Aside0.mk hl356_0
          clear hi356_0 hl356_0
          replace p356 := eq_true p356
          replace q356 := eq_true q356
          refine start_ (n := 10) (S := fun w' => w'.cell? ⟨gb355, 0, none⟩ = some (.int .i64 ((rd_T93 t351 x54_1).f0)) ∧ w'.cell? ⟨gb355, 1, none⟩ = some (.int .i64 ((rd_T93 t351 x54_1).f1)) ∧ w'.cell? ⟨gb341, 0, none⟩ = some (.int .i64 a0_0) ∧ w'.cell? ⟨gb341, 1, none⟩ = some (.int .i64 a0_1) ∧ w'.cell? ⟨gb341, 2, none⟩ = some (.int .i64 a0_2) ∧ w'.cell? ⟨gb341, 3, none⟩ = some (.int .i64 a0_3) ∧ w'.cell? ⟨gb341, 4, none⟩ = some (.int .i64 a0_4) ∧ w'.cell? ⟨gb341, 5, none⟩ = some (.slice A0_5 l0_5.length c0_5) ∧ w'.cell? ⟨gb341, 6, none⟩ = some (.slice A0_6 l0_6.length c0_6) ∧ w'.cell? ⟨gb341, 7, none⟩ = some (.slice (some ad356) l0_7.length c0_7) ∧ w'.cell? (ad356.add (x54_1).toNat) = some (.slice A356_0 (rd_L1 l0_7 x54_1).length c356_0)) (ds := []) #[false, false, false, false, false, false, false, false, false, false] (by kernel_rfl) rfl rfl ⟨(blk_cell BK355.out 0).trans rfl, (blk_cell BK355.out 1).trans rfl, (blk_cell BK341.out 0).trans rfl, (blk_cell BK341.out 1).trans rfl, (blk_cell BK341.out 2).trans rfl, (blk_cell BK341.out 3).trans rfl, (blk_cell BK341.out 4).trans rfl, (blk_cell BK341.out 5).trans rfl, (blk_cell BK341.out 6).trans rfl, (blk_cell BK341.out 7).trans rfl, ((HB.out.cell (World.block_lt_of_cell? w _ hw356_0)).trans hw356_0)⟩ (fun hHeld => ?_); refine with_tabW impl_FrameFault.tab11 impl_FrameFault.bits11 (fun HT_ HW_ => ?_)
          generalize w40.drew = w41 at HO_52 BK341 BK355 HB HR356_0 hx356_0 hHeld ⊢
          refine pu_ 1 60 HT_ ?_
          refine pu_ 3 62 HT_ ?_
          refine pu_ 6 65 HT_ ?_
          refine tk_ 0 59 HT_ HW_ hHeld ?_
          refine tk_ 2 61 HT_ HW_ hHeld ?_
          refine pu_ 4 63 HT_ ?_
          refine tk_ 5 64 HT_ HW_ hHeld ?_
          refine tk_ 7 66 HT_ HW_ hHeld ?_
          refine on_ 8 HT_ (fun K hK => ?_)
          refine gs_ Try.func159 #[.agg #[.int .i64 ((rd_T93 t351 x54_1).f0), .int .i64 ((rd_T93 t351 x54_1).f1)], .slice A356_0 (rd_L1 l0_7 x54_1).length c356_0, .int .i64 a0_3] ?_
          with_reducible refine (impl_bandFault.calls k1 ((rd_T93 t351 x54_1).f0) ((rd_T93 t351 x54_1).f1) _ _ (rd_L1 l0_7 x54_1) a0_3 t357 _ ?_ ?_ A29.out).mono ?_
          exact cpl HR356_0.out
          exact HC356_0.out
          rintro e w42 ⟨rfl, hb⟩
          refine ⟨_, rfl, ?_⟩
          replace HO_52 := rbl HO_52 hb
          replace BK341 := bkb BK341 hb
          replace BK355 := bkb BK355 hb
          replace HB := hbs hb
          (try clear hb)
          refine hK.out _ _ ⟨(blk_cell BK355.out 0).trans rfl, (blk_cell BK355.out 1).trans rfl, (blk_cell BK341.out 0).trans rfl, (blk_cell BK341.out 1).trans rfl, (blk_cell BK341.out 2).trans rfl, (blk_cell BK341.out 3).trans rfl, (blk_cell BK341.out 4).trans rfl, (blk_cell BK341.out 5).trans rfl, (blk_cell BK341.out 6).trans rfl, (blk_cell BK341.out 7).trans rfl, ((HB.out.cell (World.block_lt_of_cell? w _ hw356_0)).trans hw356_0)⟩ (fun hHeld => ?_)
          clear hK K
          refine nm_ 67 ?_
          refine pu_ 9 8 HT_ ?_
          refine done_ (done_of HT_.out (by kernel_rfl)) ?_
          try go_wp2
          go_ret
          exact ⟨enq, bnx⟩
        ·rw [if_neg c28] at H
         exact absurd H (by simp)
       ·rw [if_neg c27] at H
        exact absurd H (by simp)
      ·rw [if_neg c26] at H
       exact absurd H (by simp)
     ·rw [if_neg c25] at H
      have c25b0 : decide (x54_1 < (t351.length : Int)) = false := decide_eq_false c25
      clear c25
      obtain rfl := Option.some.inj H
      go_wp2
      go_ret
      exact ⟨enq, bnx⟩
  ·rw [if_neg c9] at H
   have c9b0 : (t350 == 0) = false := beq_eq_false_iff_ne.mpr c9
   have c9b1 : (t350 != 0) = true := bne_iff_ne.mpr c9
   obtain rfl := Option.some.inj H
   go_enter Try.func76, Try.ntmps76
   try go_wp2_with (first | ((with_reducible refine gate_dst (N := 1) rfl ?_); refine bev 1 36 #[.int .i64 a0_0, .int .i64 a0_1, .int .i64 a0_2, .int .i64 a0_3, .int .i64 a0_4, .slice A0_5 l0_5.length c0_5, .slice A0_6 l0_6.length c0_6, .slice A0_7 l0_7.length c0_7] ?_; intro gb341 hg w43 hbox hb; have BK341 := am hbox; have GW341 := gwe hg; have GE341 := gwe hg; replace HB := hbs hb; clear hb hbox hg; obtain ⟨hcz44_0, hcz44_1, hcz44_2, hcz44_3, hcz44_4, hcz44_5, hcz44_6, hcz44_7, hfz44_0, hfz44_1, hfz44_2, hfz44_3, hfz44_4, hfz44_5, hfz44_6, hfz44_7⟩ := cf8 (W := w43) BK341.out) | ((with_reducible refine gate_callee (f := 153) rfl ?_); refine gl_ 19 Try.func153 #[.int .i64 a0_0, .int .i64 a0_1, .int .i64 a0_2, .int .i64 a0_3, .int .i64 a0_4] ?_; (with_reducible refine (impl_headFault.calls k a0_0 a0_1 a0_2 a0_3 a0_4 t342 _ A2.out).mono ?_); rintro e w45 ⟨rfl, hb⟩; refine ⟨_, rfl, ?_⟩; replace BK341 := bkb BK341 hb; replace HB := hbs hb; (try clear hb); obtain ⟨hcz46_0, hcz46_1, hcz46_2, hcz46_3, hcz46_4, hcz46_5, hcz46_6, hcz46_7, hfz46_0, hfz46_1, hfz46_2, hfz46_3, hfz46_4, hfz46_5, hfz46_6, hfz46_7⟩ := cf8 (W := w45) BK341.out) | ((with_reducible refine gate_callee (f := 123) rfl ?_); refine gl_ 26 Try.func123 #[.slice A0_5 l0_5.length c0_5, .func (.func 154) #[] #[.pointer (some ⟨gb341, 0, none⟩)]] ?_; (with_reducible refine (impl_FrameFault_1_any.calls (hbx := ?_) _ _ l0_5 a0_2 t343 _ ?_ ?_ A4.out).mono ?_); exact Aside0.mk ⟨36, #[.int .i64 a0_0, .int .i64 a0_1, .int .i64 a0_2, .int .i64 a0_3, .int .i64 a0_4, .slice A0_5 l0_5.length c0_5, .slice A0_6 l0_6.length c0_6, .slice A0_7 l0_7.length c0_7], (bpl BK341.out), (by first | rfl | exact ⟨rfl, rfl⟩)⟩; exact cpl HR0_5.out; exact HC0_5.out; rintro e w47 ⟨rfl, hb⟩; refine ⟨_, rfl, ?_⟩; replace BK341 := bkb BK341 hb; replace HB := hbs hb; (try clear hb)))
   replace BK341 := am (blk_drew BK341.out)
   replace HB := am (below_drew1 HB.out)
   refine start_ (n := 21) (S := fun w' => w'.cell? ⟨gb341, 0, none⟩ = some (.int .i64 a0_0) ∧ w'.cell? ⟨gb341, 1, none⟩ = some (.int .i64 a0_1) ∧ w'.cell? ⟨gb341, 2, none⟩ = some (.int .i64 a0_2) ∧ w'.cell? ⟨gb341, 3, none⟩ = some (.int .i64 a0_3) ∧ w'.cell? ⟨gb341, 4, none⟩ = some (.int .i64 a0_4) ∧ w'.cell? ⟨gb341, 5, none⟩ = some (.slice A0_5 l0_5.length c0_5) ∧ w'.cell? ⟨gb341, 6, none⟩ = some (.slice A0_6 l0_6.length c0_6) ∧ w'.cell? ⟨gb341, 7, none⟩ = some (.slice A0_7 l0_7.length c0_7)) (ds := []) #[false, false, false, false, false, false, false, false, false, false, false, false, false, false, false, false, false, false, false, false, false] (by kernel_rfl) rfl rfl ⟨(blk_cell BK341.out 0).trans rfl, (blk_cell BK341.out 1).trans rfl, (blk_cell BK341.out 2).trans rfl, (blk_cell BK341.out 3).trans rfl, (blk_cell BK341.out 4).trans rfl, (blk_cell BK341.out 5).trans rfl, (blk_cell BK341.out 6).trans rfl, (blk_cell BK341.out 7).trans rfl⟩ (fun hHeld => ?_); refine with_tabW impl_FrameFault.tab5 impl_FrameFault.bits5 (fun HT_ HW_ => ?_)
   generalize w47.drew = w48 at BK341 HB hHeld ⊢
   refine pu_ 0 27 HT_ ?_
   refine pu_ 2 29 HT_ ?_
   refine pu_ 4 31 HT_ ?_
   refine pu_ 6 33 HT_ ?_
   refine pu_ 9 36 HT_ ?_
   refine pu_ 11 38 HT_ ?_
   refine pu_ 13 40 HT_ ?_
   refine pu_ 15 42 HT_ ?_
   refine tk_ 1 28 HT_ HW_ hHeld ?_
   refine tk_ 3 30 HT_ HW_ hHeld ?_
   refine tk_ 5 32 HT_ HW_ hHeld ?_
   refine tk_ 7 34 HT_ HW_ hHeld ?_
   refine tk_ 12 39 HT_ HW_ hHeld ?_
   refine tk_ 14 41 HT_ HW_ hHeld ?_
   refine tk_ 16 43 HT_ HW_ hHeld ?_
   refine on_ 8 HT_ (fun K hK => ?_)
   refine gs_ Try.func157 #[.int .i64 a0_1, .slice A0_5 l0_5.length c0_5, .slice A0_6 l0_6.length c0_6, .slice A0_7 l0_7.length c0_7] ?_
   with_reducible refine (impl_countFault.calls a0_1 _ _ l0_5 _ _ l0_6 _ _ l0_7 t344 _ ?_ ?_ ?_ ?_ ?_ ?_ A5.out).mono ?_
   exact cpl HR0_5.out
   exact HC0_5.out
   exact cpl HR0_6.out
   exact HC0_6.out
   exact cpl HR0_7.out
   exact HC0_7.out
   rintro e w49 ⟨rfl, hb⟩
   refine ⟨_, rfl, ?_⟩
   replace BK341 := bkb BK341 hb
   replace HB := hbs hb
   (try clear hb)
   refine hK.out _ _ ⟨(blk_cell BK341.out 0).trans rfl, (blk_cell BK341.out 1).trans rfl, (blk_cell BK341.out 2).trans rfl, (blk_cell BK341.out 3).trans rfl, (blk_cell BK341.out 4).trans rfl, (blk_cell BK341.out 5).trans rfl, (blk_cell BK341.out 6).trans rfl, (blk_cell BK341.out 7).trans rfl⟩ (fun hHeld => ?_)
   clear hK K
   refine nm_ 35 ?_
   refine on_ 10 HT_ (fun K hK => ?_)
   refine gs_ Try.func99 #[.bool t343, .int .i64 3] ?_
   with_reducible refine (impl_codeIf.calls t343 3 t345 _ A6.out).mono ?_
   rintro e w' ⟨rfl, ⟨nd, rfl⟩⟩
   refine ⟨_, rfl, ?_⟩
   refine hK.out _ _ ⟨(blk_cell BK341.out 0).trans rfl, (blk_cell BK341.out 1).trans rfl, (blk_cell BK341.out 2).trans rfl, (blk_cell BK341.out 3).trans rfl, (blk_cell BK341.out 4).trans rfl, (blk_cell BK341.out 5).trans rfl, (blk_cell BK341.out 6).trans rfl, (blk_cell BK341.out 7).trans rfl⟩ (fun hHeld => ?_)
   clear hK K
   refine nm_ 37 ?_
   refine on_ 17 HT_ (fun K hK => ?_)
   refine gs_ Try.func158 #[.slice A0_6 l0_6.length c0_6, .int .i64 a0_2, .int .i64 a0_3] ?_
   with_reducible refine (impl_gainsFault.calls _ _ l0_6 a0_2 a0_3 t346 _ ?side1 ?side2 A7.out).mono ?_
   (case side1 => repeat (first | exact (Kd.C_below HR0_6.out bnx) | (with_reducible refine Kd.C_alloc ?_ _) | (with_reducible refine Kd.C_drewN ?_ _) | (with_reducible refine Kd.C_drew ?_)))
   (case side2 => exact HC0_6.out)
   rintro e w50 ⟨rfl, hb⟩
   refine ⟨_, rfl, ?_⟩
   replace BK341 := bkb BK341 hb
   replace HB := hbs hb
   (try clear hb)
   refine hK.out _ _ ⟨(blk_cell BK341.out 0).trans rfl, (blk_cell BK341.out 1).trans rfl, (blk_cell BK341.out 2).trans rfl, (blk_cell BK341.out 3).trans rfl, (blk_cell BK341.out 4).trans rfl, (blk_cell BK341.out 5).trans rfl, (blk_cell BK341.out 6).trans rfl, (blk_cell BK341.out 7).trans rfl⟩ (fun hHeld => ?_)
   clear hK K
   refine nm_ 44 ?_
   refine on_ 18 HT_ (fun K hK => ?_)
   refine Kd.R_lit_step (Kd.int .i64) _ 2 ?hg (N := 45) ?hd (xs := ([t344, t345, t346] : List Int)) (inner := [.int .i64 t344, .int .i64 t345, .int .i64 t346]) (ok := fun _ => True) (okp := fun _ => True) ?hr ?hp (fun _ hk => hk) trivial (Below.refl _ _) (Nat.le_refl _) (by simp) ?_; (case hd => rfl); (case hg => rfl); (case hr => first | (go_simp; done) | (go_simp; rfl)); (case hp => exact (Reps.one (show Kd.M (Kd.int .i64) _ _ _ t344 [.int .i64 t344] from rfl) (Reps.one (show Kd.M (Kd.int .i64) _ _ _ t345 [.int .i64 t345] from rfl) (Reps.one (show Kd.M (Kd.int .i64) _ _ _ t346 [.int .i64 t346] from rfl) (Reps.none _ _)))))
   intro v348 w51 ho52 hb hg_ hnew_
   clear hg_ hnew_
   (first | rw [← Ny347.out] at ho52 | (simp only [Int.reduceToNat] at ho52; rw [← Ny347.out] at ho52))
   have HO349 := rlw ho52
   replace BK341 := bkb BK341 hb
   replace HB := hbs hb
   clear hb ho52
   obtain ⟨Ao53, co53, eo53⟩ := Kd.R_slice HO349.out
   (first | subst eo53 | (injection eo53 with f1_ f2_ f3_; have f4_ := f1_.symm; have f5_ := f3_.symm; clear f1_ f2_ f3_; subst f4_; subst f5_))
   refine hK.out _ _ ⟨(blk_cell BK341.out 0).trans rfl, (blk_cell BK341.out 1).trans rfl, (blk_cell BK341.out 2).trans rfl, (blk_cell BK341.out 3).trans rfl, (blk_cell BK341.out 4).trans rfl, (blk_cell BK341.out 5).trans rfl, (blk_cell BK341.out 6).trans rfl, (blk_cell BK341.out 7).trans rfl⟩ (fun hHeld => ?_)
   clear hK K
   refine nm_ 45 ?_
   refine on_ 19 HT_ (fun K hK => ?_)
   refine gs_ Try.func98 #[.slice Ao53 y347.length co53] ?_
   with_reducible refine (impl_first.calls k _ _ y347 t350 _ ?_ ?_ A8.out).mono ?_
   exact crd HO349
   exact (Kd.R_reads' HO349.out).2.1
   rintro e w' ⟨rfl, ⟨nd, rfl⟩⟩
   refine ⟨_, rfl, ?_⟩
   refine hK.out _ _ ⟨(blk_cell BK341.out 0).trans rfl, (blk_cell BK341.out 1).trans rfl, (blk_cell BK341.out 2).trans rfl, (blk_cell BK341.out 3).trans rfl, (blk_cell BK341.out 4).trans rfl, (blk_cell BK341.out 5).trans rfl, (blk_cell BK341.out 6).trans rfl, (blk_cell BK341.out 7).trans rfl⟩ (fun hHeld => ?_)
   clear hK K
   refine nm_ 46 ?_
   refine pu_ 20 5 HT_ ?_
   refine done_ (done_of HT_.out (by kernel_rfl)) ?_
   try go_wp2
   go_ret
   exact ⟨enq, bnx⟩
 ·rw [if_neg c3] at H
  have c3b0 : (t342 == 0) = false := beq_eq_false_iff_ne.mpr c3
  have c3b1 : (t342 != 0) = true := bne_iff_ne.mpr c3
  obtain rfl := Option.some.inj H
  go_enter Try.func76, Try.ntmps76
  go_wp2_with (first | ((with_reducible refine gate_dst (N := 1) rfl ?_); refine bev 1 36 #[.int .i64 a0_0, .int .i64 a0_1, .int .i64 a0_2, .int .i64 a0_3, .int .i64 a0_4, .slice A0_5 l0_5.length c0_5, .slice A0_6 l0_6.length c0_6, .slice A0_7 l0_7.length c0_7] ?_; intro gb341 hg w54 hbox hb; have BK341 := am hbox; have GW341 := gwe hg; have GE341 := gwe hg; replace HB := hbs hb; clear hb hbox hg; obtain ⟨hcz55_0, hcz55_1, hcz55_2, hcz55_3, hcz55_4, hcz55_5, hcz55_6, hcz55_7, hfz55_0, hfz55_1, hfz55_2, hfz55_3, hfz55_4, hfz55_5, hfz55_6, hfz55_7⟩ := cf8 (W := w54) BK341.out) | ((with_reducible refine gate_callee (f := 153) rfl ?_); refine gl_ 19 Try.func153 #[.int .i64 a0_0, .int .i64 a0_1, .int .i64 a0_2, .int .i64 a0_3, .int .i64 a0_4] ?_; (with_reducible refine (impl_headFault.calls k a0_0 a0_1 a0_2 a0_3 a0_4 t342 _ A2.out).mono ?_); rintro e w56 ⟨rfl, hb⟩; refine ⟨_, rfl, ?_⟩; replace BK341 := bkb BK341 hb; replace HB := hbs hb; (try clear hb)))
  go_ret
  exact ⟨enq, bnx⟩

end Go.Proofs.Ythehhncokikgcaa.PFnExactMakeFrame
