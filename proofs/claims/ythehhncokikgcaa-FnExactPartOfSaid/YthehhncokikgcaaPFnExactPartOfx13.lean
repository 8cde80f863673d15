-- Contracts of the functions that the law reaches, written by wip/xprint.py of this repo.
import Derived.Test.YthehhncokikgcaaPFnExactPartOfx0
import Derived.Test.YthehhncokikgcaaPFnExactPartOfx1
import Derived.Test.YthehhncokikgcaaPFnExactPartOfx9
import Derived.Test.YthehhncokikgcaaPFnExactPartOfx10
import Derived.Test.YthehhncokikgcaaPFnExactPartOfx12
namespace Go.Proofs.Ythehhncokikgcaa.PFnExactPartOf
open Go.RowKit Go.Proofs.YthehhncokikgcaaW.PrintWords Go.Proofs.YthehhncokikgcaaW.PrintLast Go.Proofs.YthehhncokikgcaaW.PrintMore
attribute [local go_sem] max2_int min2_int max_two min_two max_three min_three max_four min_four   -- for this text's walks alone
set_option linter.unusedVariables false
set_option linter.unusedSimpArgs false

/-! ### impl_PartFault: function 86 -/
mutual
def impl_PartFault.j0 : Nat → Int → Int → Int → Int → Int → Int → Int → List Int → List Int → List (List Int) → Option (Int)
 | 0, _, _, _, _, _, _, _, _, _, _ => none
 | k + 1, x3, x371000, x371001, x371002, x371003, x371004, x371005, x371006, x371007, x371008 => if x3 = 0 then ((impl_PartFault_1_any.f x371006 x371002 x371004).bind fun t379 => ((impl_codeIf.f t379 3).bind fun t380 => ((impl_gainsFault.f x371007 x371002 x371003).bind fun t381 => ((impl_first.f k (([t380, t381] : List Int))).bind fun t385 => (if t385 = 0 then ((impl_bandsOf.f x371001).bind fun t386 => (impl_PartFault.l0 k t386 (t386.length : Int) 0 x371000 x371001 x371002 x371003 x371004 x371005 x371006 x371007 x371008)) else (some t385)))))) else (some x3)
def impl_PartFault.l0 : Nat → List (S93) → Int → Int → Int → Int → Int → Int → Int → Int → List Int → List Int → List (List Int) → Option (Int)
 | 0, _, _, _, _, _, _, _, _, _, _, _, _ => none
 | k + 1, x61, x62, x63, x371000, x371001, x371002, x371003, x371004, x371005, x371006, x371007, x371008 => if x63 < x62 then (if 0 ≤ x63 then (if x63 < (x61.length : Int) then (if x63 < (x371008.length : Int) then ((impl_codeIf.f (decide (((rd_L1 x371008 x63).length : Int) > 0)) 1).bind fun t392 => ((impl_Part_owns.f x371000 x371001 x371002 x371003 x371004 x371005 x371006 x371007 x371008 x63).bind fun t393 => (if t393 = true then ((impl_bandFault.f k ((rd_T93 x61 x63).f0) ((rd_T93 x61 x63).f1) (rd_L1 x371008 x63) x371003).bind fun t395 => (if t395 = 0 then (impl_PartFault.l0 k x61 x62 (wrap64 (x63 + 1)) x371000 x371001 x371002 x371003 x371004 x371005 x371006 x371007 x371008) else (some t395))) else (if t392 = 0 then (impl_PartFault.l0 k x61 x62 (wrap64 (x63 + 1)) x371000 x371001 x371002 x371003 x371004 x371005 x371006 x371007 x371008) else (some t392))))) else (none)) else (none)) else (none)) else (some 0)
end
def impl_PartFault.f (k : Nat) (a0_0 : Int) (a0_1 : Int) (a0_2 : Int) (a0_3 : Int) (a0_4 : Int) (a0_5 : Int) (l0_6 : List Int) (l0_7 : List Int) (l0_8 : List (List Int)) : Option (Int) := (impl_headFault.f k a0_0 a0_1 a0_2 a0_3 a0_4).bind fun t371 => ((impl_isSide.f a0_5).bind fun t372 => ((impl_codeIf.f (!t372) 3).bind fun t373 => ((impl_first.f k (([t371, t373] : List Int))).bind fun t377 => (if t377 = 0 then ((impl_countFault.f a0_1 l0_6 l0_7 l0_8).bind fun t378 => (impl_PartFault.j0 k t378 a0_0 a0_1 a0_2 a0_3 a0_4 a0_5 l0_6 l0_7 l0_8)) else (impl_PartFault.j0 k t377 a0_0 a0_1 a0_2 a0_3 a0_4 a0_5 l0_6 l0_7 l0_8)))))
theorem impl_PartFault.mono_l : ∀ k, (∀ y0 y1 y2 y3 y4 y5 y6 y7 y8 y9, LeO (impl_PartFault.j0 k y0 y1 y2 y3 y4 y5 y6 y7 y8 y9) (impl_PartFault.j0 (k + 1) y0 y1 y2 y3 y4 y5 y6 y7 y8 y9)) ∧ (∀ y0 y1 y2 y3 y4 y5 y6 y7 y8 y9 y10 y11, LeO (impl_PartFault.l0 k y0 y1 y2 y3 y4 y5 y6 y7 y8 y9 y10 y11) (impl_PartFault.l0 (k + 1) y0 y1 y2 y3 y4 y5 y6 y7 y8 y9 y10 y11))
 | 0 => ⟨fun _ _ _ _ _ _ _ _ _ _ r h => by simp [impl_PartFault.j0] at h, fun _ _ _ _ _ _ _ _ _ _ _ _ r h => by simp [impl_PartFault.l0] at h⟩
 | k + 1 => by
  obtain ⟨ih0, ih1⟩ := impl_PartFault.mono_l k
  refine ⟨?_, ?_⟩
  ·intro y0 y1 y2 y3 y4 y5 y6 y7 y8 y9
   unfold impl_PartFault.j0
   repeat' first
   | (with_reducible exact ih0 _ _ _ _ _ _ _ _ _ _)
   | (with_reducible exact ih1 _ _ _ _ _ _ _ _ _ _ _ _)
   | (with_reducible exact impl_bandFault.mono _ _ _ _ _)
   | (with_reducible exact impl_first.mono _ _)
   | (with_reducible exact impl_headFault.mono _ _ _ _ _ _)
   | (with_reducible exact LeO.refl _)
   | (with_reducible exact LeO.none _)
   | (with_reducible refine LeO.ite ?_ ?_)
   | (with_reducible refine LeO.bind ?_ (fun _ => ?_))
   | exact ih0 _ _ _ _ _ _ _ _ _ _
   | exact ih1 _ _ _ _ _ _ _ _ _ _ _ _
   | exact impl_bandFault.mono _ _ _ _ _
   | exact impl_first.mono _ _
   | exact impl_headFault.mono _ _ _ _ _ _
   | exact LeO.none _
   | refine LeO.ite ?_ ?_
   | refine LeO.bind ?_ (fun _ => ?_)
  ·intro y0 y1 y2 y3 y4 y5 y6 y7 y8 y9 y10 y11
   unfold impl_PartFault.l0
   repeat' first
   | (with_reducible exact ih0 _ _ _ _ _ _ _ _ _ _)
   | (with_reducible exact ih1 _ _ _ _ _ _ _ _ _ _ _ _)
   | (with_reducible exact impl_bandFault.mono _ _ _ _ _)
   | (with_reducible exact impl_first.mono _ _)
   | (with_reducible exact impl_headFault.mono _ _ _ _ _ _)
   | (with_reducible exact LeO.refl _)
   | (with_reducible exact LeO.none _)
   | (with_reducible refine LeO.ite ?_ ?_)
   | (with_reducible refine LeO.bind ?_ (fun _ => ?_))
   | exact ih0 _ _ _ _ _ _ _ _ _ _
   | exact ih1 _ _ _ _ _ _ _ _ _ _ _ _
   | exact impl_bandFault.mono _ _ _ _ _
   | exact impl_first.mono _ _
   | exact impl_headFault.mono _ _ _ _ _ _
   | exact LeO.none _
   | refine LeO.ite ?_ ?_
   | refine LeO.bind ?_ (fun _ => ?_)
theorem impl_PartFault.mono : ∀ a0 a1 a2 a3 a4 a5 a6 a7 a8 k, LeO (impl_PartFault.f k a0 a1 a2 a3 a4 a5 a6 a7 a8) (impl_PartFault.f (k + 1) a0 a1 a2 a3 a4 a5 a6 a7 a8) := by
 intro a0 a1 a2 a3 a4 a5 a6 a7 a8 k
 obtain ⟨ih0, ih1⟩ := impl_PartFault.mono_l k
 unfold impl_PartFault.f
 repeat' first
   | (with_reducible exact ih0 _ _ _ _ _ _ _ _ _ _)
   | (with_reducible exact ih1 _ _ _ _ _ _ _ _ _ _ _ _)
   | (with_reducible exact impl_bandFault.mono _ _ _ _ _)
   | (with_reducible exact impl_first.mono _ _)
   | (with_reducible exact impl_headFault.mono _ _ _ _ _ _)
   | (with_reducible exact LeO.refl _)
   | (with_reducible exact LeO.none _)
   | (with_reducible refine LeO.ite ?_ ?_)
   | (with_reducible refine LeO.bind ?_ (fun _ => ?_))
   | exact ih0 _ _ _ _ _ _ _ _ _ _
   | exact ih1 _ _ _ _ _ _ _ _ _ _ _ _
   | exact impl_bandFault.mono _ _ _ _ _
   | exact impl_first.mono _ _
   | exact impl_headFault.mono _ _ _ _ _ _
   | exact LeO.none _
   | refine LeO.ite ?_ ?_
   | refine LeO.bind ?_ (fun _ => ?_)
def impl_PartFault.T1 : Bool × List (List Nat × List Nat) := (true, [([], []), ([0], [0]), ([], []), ([2], [2]), ([], []), ([4], [4]), ([], []), ([6], [6]), ([], []), ([8], [8]), ([1, 3, 5, 7, 9], [1, 3, 5, 7, 9]), ([], []), ([11], [11]), ([12, 10], [12]), ([13], [13]), ([14, 13], [14]), ([10, 15], [10, 15]), ([16, 15], [16]), ([17, 17, 0, 1, 2, 3, 4, 5, 6, 7, 8, 9, 10, 11, 12, 13, 14, 15, 16, 17], [17])])
def impl_PartFault.B1 : List Nat := [0, 1, 0, 4, 0, 16, 0, 64, 0, 256, 1023, 0, 2048, 8191, 16383, 32767, 65535, 131071, 262143]
theorem impl_PartFault.tab1 : rtab .any (opsOf Try.f86 1) = impl_PartFault.T1 := by kernel_rfl
theorem impl_PartFault.bits1 : waitsOk impl_PartFault.T1.2 impl_PartFault.B1 = true := by kernel_rfl
def impl_PartFault.T7 : Bool × List (List Nat × List Nat) := (true, [([], []), ([0], [0]), ([], []), ([2], [2]), ([], []), ([4], [4]), ([], []), ([6], [6]), ([3, 5, 7, 1], [3, 5, 7]), ([1, 8], [1, 8]), ([9, 8], [9]), ([10, 10, 0, 1, 2, 3, 4, 5, 6, 7, 8, 9, 10], [10])])
def impl_PartFault.B7 : List Nat := [0, 1, 0, 4, 0, 16, 0, 64, 255, 511, 1023, 2047]
theorem impl_PartFault.tab7 : rtab .any (opsOf Try.f86 7) = impl_PartFault.T7 := by kernel_rfl
theorem impl_PartFault.bits7 : waitsOk impl_PartFault.T7.2 impl_PartFault.B7 = true := by kernel_rfl
def impl_PartFault.T15 : Bool × List (List Nat × List Nat) := (true, [([], []), ([], []), ([1], [1]), ([], []), ([2, 3], [2, 3]), ([4], [4]), ([], []), ([6], [6]), ([0, 5, 7], [0, 5, 7]), ([8, 8, 0, 1, 2, 3, 4, 5, 6, 7, 8], [8])])
def impl_PartFault.B15 : List Nat := [0, 0, 2, 0, 14, 30, 0, 64, 255, 511]
theorem impl_PartFault.tab15 : rtab .any (opsOf Try.f86 15) = impl_PartFault.T15 := by kernel_rfl
theorem impl_PartFault.bits15 : waitsOk impl_PartFault.T15.2 impl_PartFault.B15 = true := by kernel_rfl
set_option maxHeartbeats 8000000 in
set_option maxRecDepth 100000 in
theorem impl_PartFault.calls (k : Nat) (a0_0 : Int) (a0_1 : Int) (a0_2 : Int) (a0_3 : Int) (a0_4 : Int) (a0_5 : Int) (A0_6 : Option Addr) (c0_6 : Nat) (l0_6 : List Int) (A0_7 : Option Addr) (c0_7 : Nat) (l0_7 : List Int) (A0_8 : Option Addr) (c0_8 : Nat) (l0_8 : List (List Int)) (r : Int) (w : World) (hr0_6 : Kd.C (Kd.int .i64) w A0_6 l0_6.length l0_6) (hc0_6 : l0_6.length ≤ c0_6) (hr0_7 : Kd.C (Kd.int .i64) w A0_7 l0_7.length l0_7) (hc0_7 : l0_7.length ≤ c0_7) (hr0_8 : Kd.C (Kd.slice 2 (Kd.int .i64)) w A0_8 l0_8.length l0_8) (hc0_8 : l0_8.length ≤ c0_8) (h : impl_PartFault.f k a0_0 a0_1 a0_2 a0_3 a0_4 a0_5 l0_6 l0_7 l0_8 = some r) :
  Calls Try.prog 86 #[.agg #[.int .i64 a0_0, .int .i64 a0_1, .int .i64 a0_2, .int .i64 a0_3, .int .i64 a0_4, .int .i64 a0_5, .slice A0_6 l0_6.length c0_6, .slice A0_7 l0_7.length c0_7, .slice A0_8 l0_8.length c0_8]] w fun e w' => e = .returned (.int .i64 r) ∧ Below w.heap.size w w' := by
 have hu47 := Try.underlying47
 have hu93 := Try.underlying93
 have HR0_6 := Aside0.mk hr0_6
 have HC0_6 := Aside0.mk hc0_6
 clear hr0_6 hc0_6
 have HR0_7 := Aside0.mk hr0_7
 have HC0_7 := Aside0.mk hc0_7
 clear hr0_7 hc0_7
 have HR0_8 := Aside0.mk hr0_8
 have HC0_8 := Aside0.mk hc0_8
 clear hr0_8 hc0_8
 have HB := Aside0.mk (Below.refl w.heap.size w)
 have H : ((impl_headFault.f k a0_0 a0_1 a0_2 a0_3 a0_4).bind fun t371 => ((impl_isSide.f a0_5).bind fun t372 => ((impl_codeIf.f (!t372) 3).bind fun t373 => ((impl_first.f k (([t371, t373] : List Int))).bind fun t377 => (if t377 = 0 then ((impl_countFault.f a0_1 l0_6 l0_7 l0_8).bind fun t378 => (impl_PartFault.j0 k t378 a0_0 a0_1 a0_2 a0_3 a0_4 a0_5 l0_6 l0_7 l0_8)) else (impl_PartFault.j0 k t377 a0_0 a0_1 a0_2 a0_3 a0_4 a0_5 l0_6 l0_7 l0_8)))))) = some r := h
 clear h
 obtain ⟨t371, A2, H⟩ := bnd H
 obtain ⟨t372, A3, H⟩ := bnd H
 obtain ⟨t373, A4, H⟩ := bnd H
 obtain ⟨y374, hy374⟩ : ∃ y_ : List Int, y_ = (([t371, t373] : List Int)) := ⟨_, rfl⟩
 replace H : ((impl_first.f k y374).bind fun t377 => (if t377 = 0 then ((impl_countFault.f a0_1 l0_6 l0_7 l0_8).bind fun t378 => (impl_PartFault.j0 k t378 a0_0 a0_1 a0_2 a0_3 a0_4 a0_5 l0_6 l0_7 l0_8)) else (impl_PartFault.j0 k t377 a0_0 a0_1 a0_2 a0_3 a0_4 a0_5 l0_6 l0_7 l0_8))) = some r := by first | (rw [hy374]; with_reducible exact H) | (have H2_ := (Option.bind_some _ _).symm.trans H; rw [hy374]; with_reducible exact H2_) | (have H2_ := (Option.bind_some _ _).symm.trans H; with_reducible exact H2_) | with_reducible exact H | (rw [hy374]; exact H) | exact H
 have Ny374 := Aside0.mk hy374
 clear hy374
 obtain ⟨t377, A5, H⟩ := bnd H
 have HC6 := Aside0.mk H
 clear H
 go_enter Try.func86, Try.ntmps86
 try go_wp2_with (first | ((with_reducible refine gate_dst (N := 1) rfl ?_); refine bev 1 47 #[.int .i64 a0_0, .int .i64 a0_1, .int .i64 a0_2, .int .i64 a0_3, .int .i64 a0_4, .int .i64 a0_5, .slice A0_6 l0_6.length c0_6, .slice A0_7 l0_7.length c0_7, .slice A0_8 l0_8.length c0_8] ?_; intro gb370 hg w7 hbox hb; have BK370 := am hbox; have GW370 := gwe hg; have GE370 := gwe hg; replace HB := hbs hb; clear hb hbox hg))
 replace BK370 := am (blk_drew BK370.out)
 replace HB := am (below_drew1 HB.out)
 refine start_ (n := 19) (S := fun w' => w'.cell? ⟨gb370, 0, none⟩ = some (.int .i64 a0_0) ∧ w'.cell? ⟨gb370, 1, none⟩ = some (.int .i64 a0_1) ∧ w'.cell? ⟨gb370, 2, none⟩ = some (.int .i64 a0_2) ∧ w'.cell? ⟨gb370, 3, none⟩ = some (.int .i64 a0_3) ∧ w'.cell? ⟨gb370, 4, none⟩ = some (.int .i64 a0_4) ∧ w'.cell? ⟨gb370, 5, none⟩ = some (.int .i64 a0_5) ∧ w'.cell? ⟨gb370, 6, none⟩ = some (.slice A0_6 l0_6.length c0_6) ∧ w'.cell? ⟨gb370, 7, none⟩ = some (.slice A0_7 l0_7.length c0_7) ∧ w'.cell? ⟨gb370, 8, none⟩ = some (.slice A0_8 l0_8.length c0_8)) (ds := []) #[false, false, false, false, false, false, false, false, false, false, false, false, false, false, false, false, false, false, false] (by kernel_rfl) rfl rfl ⟨(blk_cell BK370.out 0).trans rfl, (blk_cell BK370.out 1).trans rfl, (blk_cell BK370.out 2).trans rfl, (blk_cell BK370.out 3).trans rfl, (blk_cell BK370.out 4).trans rfl, (blk_cell BK370.out 5).trans rfl, (blk_cell BK370.out 6).trans rfl, (blk_cell BK370.out 7).trans rfl, (blk_cell BK370.out 8).trans rfl⟩ (fun hHeld => ?_); refine with_tabW impl_PartFault.tab1 impl_PartFault.bits1 (fun HT_ HW_ => ?_)
 generalize w7.drew = w8 at BK370 HB hHeld ⊢
 refine pu_ 0 9 HT_ ?_
 refine pu_ 2 11 HT_ ?_
 refine pu_ 4 13 HT_ ?_
 refine pu_ 6 15 HT_ ?_
 refine pu_ 8 17 HT_ ?_
 refine pu_ 11 20 HT_ ?_
 refine tk_ 1 10 HT_ HW_ hHeld ?_
 refine tk_ 3 12 HT_ HW_ hHeld ?_
 refine tk_ 5 14 HT_ HW_ hHeld ?_
 refine tk_ 7 16 HT_ HW_ hHeld ?_
 refine tk_ 9 18 HT_ HW_ hHeld ?_
 refine tk_ 12 21 HT_ HW_ hHeld ?_
 refine on_ 10 HT_ (fun K hK => ?_)
 refine gs_ Try.func153 #[.int .i64 a0_0, .int .i64 a0_1, .int .i64 a0_2, .int .i64 a0_3, .int .i64 a0_4] ?_
 with_reducible refine (impl_headFault.calls k a0_0 a0_1 a0_2 a0_3 a0_4 t371 _ A2.out).mono ?_
 rintro e w9 ⟨rfl, hb⟩
 refine ⟨_, rfl, ?_⟩
 replace BK370 := bkb BK370 hb
 replace HB := hbs hb
 (try clear hb)
 refine hK.out _ _ ⟨(blk_cell BK370.out 0).trans rfl, (blk_cell BK370.out 1).trans rfl, (blk_cell BK370.out 2).trans rfl, (blk_cell BK370.out 3).trans rfl, (blk_cell BK370.out 4).trans rfl, (blk_cell BK370.out 5).trans rfl, (blk_cell BK370.out 6).trans rfl, (blk_cell BK370.out 7).trans rfl, (blk_cell BK370.out 8).trans rfl⟩ (fun hHeld => ?_)
 clear hK K
 refine nm_ 19 ?_
 refine on_ 13 HT_ (fun K hK => ?_)
 refine gs_ Try.func100 #[.int .i64 a0_5] ?_
 with_reducible refine (impl_isSide.calls a0_5 t372 _ A3.out).mono ?_
 rintro e w' ⟨rfl, ⟨nd, rfl⟩⟩
 refine ⟨_, rfl, ?_⟩
 refine hK.out _ _ ⟨(blk_cell BK370.out 0).trans rfl, (blk_cell BK370.out 1).trans rfl, (blk_cell BK370.out 2).trans rfl, (blk_cell BK370.out 3).trans rfl, (blk_cell BK370.out 4).trans rfl, (blk_cell BK370.out 5).trans rfl, (blk_cell BK370.out 6).trans rfl, (blk_cell BK370.out 7).trans rfl, (blk_cell BK370.out 8).trans rfl⟩ (fun hHeld => ?_)
 clear hK K
 refine nm_ 22 ?_
 refine pu_ 14 23 HT_ ?_
 refine on_ 15 HT_ (fun K hK => ?_)
 refine gs_ Try.func99 #[.bool (!t372), .int .i64 3] ?_
 with_reducible refine (impl_codeIf.calls (!t372) 3 t373 _ A4.out).mono ?_
 rintro e w' ⟨rfl, ⟨nd, rfl⟩⟩
 refine ⟨_, rfl, ?_⟩
 refine hK.out _ _ ⟨(blk_cell BK370.out 0).trans rfl, (blk_cell BK370.out 1).trans rfl, (blk_cell BK370.out 2).trans rfl, (blk_cell BK370.out 3).trans rfl, (blk_cell BK370.out 4).trans rfl, (blk_cell BK370.out 5).trans rfl, (blk_cell BK370.out 6).trans rfl, (blk_cell BK370.out 7).trans rfl, (blk_cell BK370.out 8).trans rfl⟩ (fun hHeld => ?_)
 clear hK K
 refine nm_ 24 ?_
 refine on_ 16 HT_ (fun K hK => ?_)
 refine Kd.R_lit_step (Kd.int .i64) _ 2 ?hg (N := 25) ?hd (xs := ([t371, t373] : List Int)) (inner := [.int .i64 t371, .int .i64 t373]) (ok := fun _ => True) (okp := fun _ => True) ?hr ?hp (fun _ hk => hk) trivial (Below.refl _ _) (Nat.le_refl _) (by simp) ?_; (case hd => rfl); (case hg => rfl); (case hr => first | (go_simp; done) | (go_simp; rfl)); (case hp => exact (Reps.one (show Kd.M (Kd.int .i64) _ _ _ t371 [.int .i64 t371] from rfl) (Reps.one (show Kd.M (Kd.int .i64) _ _ _ t373 [.int .i64 t373] from rfl) (Reps.none _ _))))
 intro v375 w10 ho11 hb hg_ hnew_
 clear hg_ hnew_
 (first | rw [← Ny374.out] at ho11 | (simp only [Int.reduceToNat] at ho11; rw [← Ny374.out] at ho11))
 have HO376 := rlw ho11
 replace BK370 := bkb BK370 hb
 replace HB := hbs hb
 clear hb ho11
 obtain ⟨Ao12, co12, eo12⟩ := Kd.R_slice HO376.out
 (first | subst eo12 | (injection eo12 with f1_ f2_ f3_; have f4_ := f1_.symm; have f5_ := f3_.symm; clear f1_ f2_ f3_; subst f4_; subst f5_))
 refine hK.out _ _ ⟨(blk_cell BK370.out 0).trans rfl, (blk_cell BK370.out 1).trans rfl, (blk_cell BK370.out 2).trans rfl, (blk_cell BK370.out 3).trans rfl, (blk_cell BK370.out 4).trans rfl, (blk_cell BK370.out 5).trans rfl, (blk_cell BK370.out 6).trans rfl, (blk_cell BK370.out 7).trans rfl, (blk_cell BK370.out 8).trans rfl⟩ (fun hHeld => ?_)
 clear hK K
 refine nm_ 25 ?_
 refine on_ 17 HT_ (fun K hK => ?_)
 refine gs_ Try.func98 #[.slice Ao12 y374.length co12] ?_
 with_reducible refine (impl_first.calls k _ _ y374 t377 _ ?_ ?_ A5.out).mono ?_
 exact crd HO376
 exact (Kd.R_reads' HO376.out).2.1
 rintro e w' ⟨rfl, ⟨nd, rfl⟩⟩
 refine ⟨_, rfl, ?_⟩
 refine hK.out _ _ ⟨(blk_cell BK370.out 0).trans rfl, (blk_cell BK370.out 1).trans rfl, (blk_cell BK370.out 2).trans rfl, (blk_cell BK370.out 3).trans rfl, (blk_cell BK370.out 4).trans rfl, (blk_cell BK370.out 5).trans rfl, (blk_cell BK370.out 6).trans rfl, (blk_cell BK370.out 7).trans rfl, (blk_cell BK370.out 8).trans rfl⟩ (fun hHeld => ?_)
 clear hK K
 refine nm_ 26 ?_
 refine pu_ 18 3 HT_ ?_
 refine done_ (done_of HT_.out (by kernel_rfl)) ?_
 go_upto_if 28 with (fail)
 go_cut [3] (fun v3 wc => ∃ (kq : Nat) (x3_5 : Int), v3 = .int .i64 x3_5 ∧ Aside0 (impl_PartFault.j0 kq x3_5 a0_0 a0_1 a0_2 a0_3 a0_4 a0_5 l0_6 l0_7 l0_8 = some r) ∧ Aside0 (kq ≤ k) ∧ Aside0 (wc.heap[gb370]? = some (.cells #[.int .i64 a0_0, .int .i64 a0_1, .int .i64 a0_2, .int .i64 a0_3, .int .i64 a0_4, .int .i64 a0_5, (.slice A0_6 l0_6.length c0_6), (.slice A0_7 l0_7.length c0_7), (.slice A0_8 l0_8.length c0_8)] 47 (0, 0))) ∧ Aside0 (Below w.heap.size w wc))
 case first =>
  have H := HC6.out
  clear HC6
  by_cases c13 : t377 = 0
  ·rw [if_pos c13] at H
   have c13b0 : (t377 == 0) = true := beq_iff_eq.mpr c13
   have c13b1 : (t377 != 0) = false := bne_eq_false_iff_eq.mpr c13
   clear c13
   (first | rw [c13b0] | (simp only [i64_w, i32_w]; rw [c13b0]) | skip)
   obtain ⟨t378, A14, H⟩ := bnd H
   have H' := Aside0.mk H
   clear H
   obtain ⟨hcz15_0, hcz15_1, hcz15_2, hcz15_3, hcz15_4, hcz15_5, hcz15_6, hcz15_7, hcz15_8, hfz15_0, hfz15_1, hfz15_2, hfz15_3, hfz15_4, hfz15_5, hfz15_6, hfz15_7, hfz15_8⟩ := cf9 (W := w10) BK370.out
   go_wp2_with (first | ((with_reducible refine gate_callee (f := 157) rfl ?_); refine gl_ 37 Try.func157 #[.int .i64 a0_1, .slice A0_6 l0_6.length c0_6, .slice A0_7 l0_7.length c0_7, .slice A0_8 l0_8.length c0_8] ?_; (with_reducible refine (impl_countFault.calls a0_1 _ _ l0_6 _ _ l0_7 _ _ l0_8 t378 _ ?_ ?_ ?_ ?_ ?_ ?_ A14.out).mono ?_); exact cpl HR0_6.out; exact HC0_6.out; exact cpl HR0_7.out; exact HC0_7.out; exact cpl HR0_8.out; exact HC0_8.out; rintro e w16 ⟨rfl, hb⟩; refine ⟨_, rfl, ?_⟩; replace HO376 := rbl HO376 hb; replace BK370 := bkb BK370 hb; replace HB := hbs hb; (try clear hb)))
   go_meet
   case rel => exact ⟨_, (t378), rq, H', ⟨by first | omega | exact Nat.le_refl _⟩, ⟨bpl BK370.out⟩, ⟨bnx⟩⟩
  ·rw [if_neg c13] at H
   have c13b0 : (t377 == 0) = false := beq_eq_false_iff_ne.mpr c13
   have c13b1 : (t377 != 0) = true := bne_iff_ne.mpr c13
   (first | rw [c13b0] | (simp only [i64_w, i32_w]; rw [c13b0]) | skip)
   have H' := Aside0.mk H
   clear H
   go_wp2
   go_meet
   case rel => exact ⟨_, (t377), rq, H', ⟨by first | omega | exact Nat.le_refl _⟩, ⟨bpl BK370.out⟩, ⟨bnx⟩⟩
 case rest =>
  clear HC6
  try clear c1
  try clear p2
  try clear c8
  try clear c9
  try clear c10
  try clear c13
  try clear c13b0
  try clear c13b1
  try clear c15
  try clear hcz15_0 hcz15_1 hcz15_2 hcz15_3 hcz15_4 hcz15_5 hcz15_6 hcz15_7 hcz15_8
  try clear hfz15_0 hfz15_1 hfz15_2 hfz15_3 hfz15_4 hfz15_5 hfz15_6 hfz15_7 hfz15_8
  obtain ⟨kq, x3_5, rfl, HA, HJ5, BK370, HB⟩ := hcut
  cases kq with
  | zero => exact absurd HA.out (by simp [impl_PartFault.j0])
  | succ kj5 =>
   have H := HA.out
   clear HA
   simp only [impl_PartFault.j0] at H
   by_cases c17 : x3_5 = 0
   ·rw [if_pos c17] at H
    have c17b0 : (x3_5 == 0) = true := beq_iff_eq.mpr c17
    have c17b1 : (x3_5 != 0) = false := bne_eq_false_iff_eq.mpr c17
    clear c17
    obtain ⟨t379, A18, H⟩ := bnd H
    obtain ⟨t380, A19, H⟩ := bnd H
    obtain ⟨t381, A20, H⟩ := bnd H
    obtain ⟨y382, hy382⟩ : ∃ y_ : List Int, y_ = (([t380, t381] : List Int)) := ⟨_, rfl⟩
    replace H : ((impl_first.f kj5 y382).bind fun t385 => (if t385 = 0 then ((impl_bandsOf.f a0_1).bind fun t386 => (impl_PartFault.l0 kj5 t386 (t386.length : Int) 0 a0_0 a0_1 a0_2 a0_3 a0_4 a0_5 l0_6 l0_7 l0_8)) else (some t385))) = some r := by first | (rw [hy382]; with_reducible exact H) | (have H2_ := (Option.bind_some _ _).symm.trans H; rw [hy382]; with_reducible exact H2_) | (have H2_ := (Option.bind_some _ _).symm.trans H; with_reducible exact H2_) | with_reducible exact H | (rw [hy382]; exact H) | exact H
    have Ny382 := Aside0.mk hy382
    clear hy382
    obtain ⟨t385, A21, H⟩ := bnd H
    by_cases c22 : t385 = 0
    ·rw [if_pos c22] at H
     have c22b0 : (t385 == 0) = true := beq_iff_eq.mpr c22
     have c22b1 : (t385 != 0) = false := bne_eq_false_iff_eq.mpr c22
     clear c22
     obtain ⟨t386, A23, H⟩ := bnd H
     have H' := Aside0.mk H
     clear H
     obtain ⟨hcz24_0, hcz24_1, hcz24_2, hcz24_3, hcz24_4, hcz24_5, hcz24_6, hcz24_7, hcz24_8, hfz24_0, hfz24_1, hfz24_2, hfz24_3, hfz24_4, hfz24_5, hfz24_6, hfz24_7, hfz24_8⟩ := cf9 (W := wc) BK370.out
     try go_wp2_with (first | ((with_reducible refine gate_callee (f := 123) rfl ?_); refine gl_ 44 Try.func123 #[.slice A0_6 l0_6.length c0_6, .func (.func 165) #[] #[.pointer (some ⟨gb370, 0, none⟩)]] ?_; (with_reducible refine (impl_PartFault_1_any.calls (hbx := ?_) _ _ l0_6 a0_2 a0_4 t379 _ ?_ ?_ A18.out).mono ?_); exact Aside0.mk ⟨47, #[.int .i64 a0_0, .int .i64 a0_1, .int .i64 a0_2, .int .i64 a0_3, .int .i64 a0_4, .int .i64 a0_5, .slice A0_6 l0_6.length c0_6, .slice A0_7 l0_7.length c0_7, .slice A0_8 l0_8.length c0_8], (bpl BK370.out), (by first | rfl | exact ⟨rfl, rfl⟩)⟩; exact cpl HR0_6.out; exact HC0_6.out; rintro e w25 ⟨rfl, hb⟩; refine ⟨_, rfl, ?_⟩; replace BK370 := bkb BK370 hb; replace HB := hbs hb; (try clear hb)))
     replace BK370 := am (blk_drew BK370.out)
     replace HB := am (below_drew1 HB.out)
     refine start_ (n := 12) (S := fun w' => w'.cell? ⟨gb370, 0, none⟩ = some (.int .i64 a0_0) ∧ w'.cell? ⟨gb370, 1, none⟩ = some (.int .i64 a0_1) ∧ w'.cell? ⟨gb370, 2, none⟩ = some (.int .i64 a0_2) ∧ w'.cell? ⟨gb370, 3, none⟩ = some (.int .i64 a0_3) ∧ w'.cell? ⟨gb370, 4, none⟩ = some (.int .i64 a0_4) ∧ w'.cell? ⟨gb370, 5, none⟩ = some (.int .i64 a0_5) ∧ w'.cell? ⟨gb370, 6, none⟩ = some (.slice A0_6 l0_6.length c0_6) ∧ w'.cell? ⟨gb370, 7, none⟩ = some (.slice A0_7 l0_7.length c0_7) ∧ w'.cell? ⟨gb370, 8, none⟩ = some (.slice A0_8 l0_8.length c0_8)) (ds := []) #[false, false, false, false, false, false, false, false, false, false, false, false] (by kernel_rfl) rfl rfl ⟨(blk_cell BK370.out 0).trans rfl, (blk_cell BK370.out 1).trans rfl, (blk_cell BK370.out 2).trans rfl, (blk_cell BK370.out 3).trans rfl, (blk_cell BK370.out 4).trans rfl, (blk_cell BK370.out 5).trans rfl, (blk_cell BK370.out 6).trans rfl, (blk_cell BK370.out 7).trans rfl, (blk_cell BK370.out 8).trans rfl⟩ (fun hHeld => ?_); refine with_tabW impl_PartFault.tab7 impl_PartFault.bits7 (fun HT_ HW_ => ?_)
     generalize w25.drew = w26 at BK370 HB hHeld ⊢
     refine pu_ 0 45 HT_ ?_
     refine pu_ 2 47 HT_ ?_
     refine pu_ 4 49 HT_ ?_
     refine pu_ 6 51 HT_ ?_
     refine tk_ 3 48 HT_ HW_ hHeld ?_
     refine tk_ 5 50 HT_ HW_ hHeld ?_
     refine tk_ 7 52 HT_ HW_ hHeld ?_
     refine on_ 1 HT_ (fun K hK => ?_)
     refine gs_ Try.func99 #[.bool t379, .int .i64 3] ?_
     with_reducible refine (impl_codeIf.calls t379 3 t380 _ A19.out).mono ?_
     rintro e w' ⟨rfl, ⟨nd, rfl⟩⟩
     refine ⟨_, rfl, ?_⟩
     refine hK.out _ _ ⟨(blk_cell BK370.out 0).trans rfl, (blk_cell BK370.out 1).trans rfl, (blk_cell BK370.out 2).trans rfl, (blk_cell BK370.out 3).trans rfl, (blk_cell BK370.out 4).trans rfl, (blk_cell BK370.out 5).trans rfl, (blk_cell BK370.out 6).trans rfl, (blk_cell BK370.out 7).trans rfl, (blk_cell BK370.out 8).trans rfl⟩ (fun hHeld => ?_)
     clear hK K
     refine nm_ 46 ?_
     refine on_ 8 HT_ (fun K hK => ?_)
     refine gs_ Try.func158 #[.slice A0_7 l0_7.length c0_7, .int .i64 a0_2, .int .i64 a0_3] ?_
     with_reducible refine (impl_gainsFault.calls _ _ l0_7 a0_2 a0_3 t381 _ ?side1 ?side2 A20.out).mono ?_
     (case side1 => repeat (first | exact (Kd.C_below HR0_7.out bnx) | (with_reducible refine Kd.C_alloc ?_ _) | (with_reducible refine Kd.C_drewN ?_ _) | (with_reducible refine Kd.C_drew ?_)))
     (case side2 => exact HC0_7.out)
     rintro e w27 ⟨rfl, hb⟩
     refine ⟨_, rfl, ?_⟩
     replace BK370 := bkb BK370 hb
     replace HB := hbs hb
     (try clear hb)
     refine hK.out _ _ ⟨(blk_cell BK370.out 0).trans rfl, (blk_cell BK370.out 1).trans rfl, (blk_cell BK370.out 2).trans rfl, (blk_cell BK370.out 3).trans rfl, (blk_cell BK370.out 4).trans rfl, (blk_cell BK370.out 5).trans rfl, (blk_cell BK370.out 6).trans rfl, (blk_cell BK370.out 7).trans rfl, (blk_cell BK370.out 8).trans rfl⟩ (fun hHeld => ?_)
     clear hK K
     refine nm_ 53 ?_
     refine on_ 9 HT_ (fun K hK => ?_)
     refine Kd.R_lit_step (Kd.int .i64) _ 2 ?hg (N := 54) ?hd (xs := ([t380, t381] : List Int)) (inner := [.int .i64 t380, .int .i64 t381]) (ok := fun _ => True) (okp := fun _ => True) ?hr ?hp (fun _ hk => hk) trivial (Below.refl _ _) (Nat.le_refl _) (by simp) ?_; (case hd => rfl); (case hg => rfl); (case hr => first | (go_simp; done) | (go_simp; rfl)); (case hp => exact (Reps.one (show Kd.M (Kd.int .i64) _ _ _ t380 [.int .i64 t380] from rfl) (Reps.one (show Kd.M (Kd.int .i64) _ _ _ t381 [.int .i64 t381] from rfl) (Reps.none _ _))))
     intro v383 w28 ho29 hb hg_ hnew_
     clear hg_ hnew_
     (first | rw [← Ny382.out] at ho29 | (simp only [Int.reduceToNat] at ho29; rw [← Ny382.out] at ho29))
     have HO384 := rlw ho29
     replace BK370 := bkb BK370 hb
     replace HB := hbs hb
     clear hb ho29
     obtain ⟨Ao30, co30, eo30⟩ := Kd.R_slice HO384.out
     (first | subst eo30 | (injection eo30 with f1_ f2_ f3_; have f4_ := f1_.symm; have f5_ := f3_.symm; clear f1_ f2_ f3_; subst f4_; subst f5_))
     refine hK.out _ _ ⟨(blk_cell BK370.out 0).trans rfl, (blk_cell BK370.out 1).trans rfl, (blk_cell BK370.out 2).trans rfl, (blk_cell BK370.out 3).trans rfl, (blk_cell BK370.out 4).trans rfl, (blk_cell BK370.out 5).trans rfl, (blk_cell BK370.out 6).trans rfl, (blk_cell BK370.out 7).trans rfl, (blk_cell BK370.out 8).trans rfl⟩ (fun hHeld => ?_)
     clear hK K
     refine nm_ 54 ?_
     refine on_ 10 HT_ (fun K hK => ?_)
     refine gs_ Try.func98 #[.slice Ao30 y382.length co30] ?_
     with_reducible refine (impl_first.calls kj5 _ _ y382 t385 _ ?_ ?_ A21.out).mono ?_
     exact crd HO384
     exact (Kd.R_reads' HO384.out).2.1
     rintro e w' ⟨rfl, ⟨nd, rfl⟩⟩
     refine ⟨_, rfl, ?_⟩
     refine hK.out _ _ ⟨(blk_cell BK370.out 0).trans rfl, (blk_cell BK370.out 1).trans rfl, (blk_cell BK370.out 2).trans rfl, (blk_cell BK370.out 3).trans rfl, (blk_cell BK370.out 4).trans rfl, (blk_cell BK370.out 5).trans rfl, (blk_cell BK370.out 6).trans rfl, (blk_cell BK370.out 7).trans rfl, (blk_cell BK370.out 8).trans rfl⟩ (fun hHeld => ?_)
     clear hK K
     refine nm_ 55 ?_
     refine pu_ 11 5 HT_ ?_
     refine done_ (done_of HT_.out (by kernel_rfl)) ?_
     obtain ⟨hcz31_0, hcz31_1, hcz31_2, hcz31_3, hcz31_4, hcz31_5, hcz31_6, hcz31_7, hcz31_8, hfz31_0, hfz31_1, hfz31_2, hfz31_3, hfz31_4, hfz31_5, hfz31_6, hfz31_7, hfz31_8⟩ := cf9 (W := w28) BK370.out
     try go_wp2_with (first | ((with_reducible refine gate_callee (f := 79) rfl ?_); refine gl_ 61 Try.func79 #[.int .i64 a0_1] ?_; (with_reducible refine (impl_bandsOf.calls a0_1 t386 _ A23.out).mono ?_); rintro e w32 ⟨v387, rfl, ho0, hb⟩; refine ⟨_, rfl, ?_⟩; replace HO384 := rbl HO384 hb; have HO388 := rlw ho0; replace BK370 := bkb BK370 hb; replace HB := hbs hb; (try clear hb); (try clear ho0); obtain ⟨Ao33, co33, eo33⟩ := Kd.R_slice HO388.out; subst eo33))
     go_loopg [63] kj5 (fun kq v63 w' => ∃ (x63_2 : Int), v63 = .int .i64 x63_2 ∧ Aside0 (impl_PartFault.l0 kq t386 (t386.length : Int) x63_2 a0_0 a0_1 a0_2 a0_3 a0_4 a0_5 l0_6 l0_7 l0_8 = some r) ∧ Aside0 (kq ≤ kj5) ∧ Aside0 (Kd.R k93 93 w' w.heap.size (fun _ => True) (.slice Ao33 t386.length co33) t386) ∧ Aside0 (w'.heap[gb370]? = some (.cells #[.int .i64 a0_0, .int .i64 a0_1, .int .i64 a0_2, .int .i64 a0_3, .int .i64 a0_4, .int .i64 a0_5, (.slice A0_6 l0_6.length c0_6), (.slice A0_7 l0_7.length c0_7), (.slice A0_8 l0_8.length c0_8)] 47 (0, 0))) ∧ Aside0 (Below w.heap.size w w'))
     case atStart => exact ⟨(0), rq, H', ⟨Nat.le_refl _⟩, ⟨by (with_reducible repeat (first | apply Kd.R_alloc | apply Kd.R_drewN | apply Kd.R_drew)); exact HO388.out⟩, ⟨bpl BK370.out⟩, ⟨bnx⟩⟩
     case round =>
      clear H'
      try clear c1
      try clear c2
      try clear p2
      try clear c7
      try clear c8
      try clear c9
      try clear c10
      try clear c13
      try clear c13b0
      try clear c13b1
      try clear c15
      try clear c17
      try clear c17b0
      try clear c17b1
      try clear c22
      try clear c22b0
      try clear c22b1
      try clear hcz15_0 hcz15_1 hcz15_2 hcz15_3 hcz15_4 hcz15_5 hcz15_6 hcz15_7 hcz15_8
      try clear hcz24_0 hcz24_1 hcz24_2 hcz24_3 hcz24_4 hcz24_5 hcz24_6 hcz24_7 hcz24_8
      try clear hcz31_0 hcz31_1 hcz31_2 hcz31_3 hcz31_4 hcz31_5 hcz31_6 hcz31_7 hcz31_8
      try clear hfz15_0 hfz15_1 hfz15_2 hfz15_3 hfz15_4 hfz15_5 hfz15_6 hfz15_7 hfz15_8
      try clear hfz24_0 hfz24_1 hfz24_2 hfz24_3 hfz24_4 hfz24_5 hfz24_6 hfz24_7 hfz24_8
      try clear hfz31_0 hfz31_1 hfz31_2 hfz31_3 hfz31_4 hfz31_5 hfz31_6 hfz31_7 hfz31_8
      try clear p2
      obtain ⟨x63_2, rfl, HA, HK2, HO_61, BK370, HB⟩ := hrel
      cases gk with
      | zero => exact absurd HA.out (by simp [impl_PartFault.l0])
      | succ k2 =>
       have H := HA.out
       clear HA
       simp only [impl_PartFault.l0] at H
       by_cases c34 : x63_2 < (t386.length : Int)
       ·rw [if_pos c34] at H
        have c34b0 : decide (x63_2 < (t386.length : Int)) = true := decide_eq_true c34
        clear c34
        by_cases c35 : 0 ≤ x63_2
        ·rw [if_pos c35] at H
         have c35b0 : decide (0 ≤ x63_2) = true := decide_eq_true c35
         clear c35
         by_cases c36 : x63_2 < (t386.length : Int)
         ·rw [if_pos c36] at H
          have c36b0 : decide (x63_2 < (t386.length : Int)) = true := decide_eq_true c36
          clear c36
          by_cases c37 : x63_2 < (l0_8.length : Int)
          ·rw [if_pos c37] at H
           have c37b0 : decide (x63_2 < (l0_8.length : Int)) = true := decide_eq_true c37
           clear c37
           obtain ⟨t392, A38, H⟩ := bnd H
           obtain ⟨t393, A39, H⟩ := bnd H
           by_cases c40 : t393 = true
           ·subst c40
            replace H : ((impl_bandFault.f k2 ((rd_T93 t386 x63_2).f0) ((rd_T93 t386 x63_2).f1) (rd_L1 l0_8 x63_2) a0_3).bind fun t395 => (if t395 = 0 then (impl_PartFault.l0 k2 t386 (t386.length : Int) (wrap64 (x63_2 + 1)) a0_0 a0_1 a0_2 a0_3 a0_4 a0_5 l0_6 l0_7 l0_8) else (some t395))) = some r := by rw [if_pos rfl] at H; exact H
            obtain ⟨t395, A41, H⟩ := bnd H
            by_cases c42 : t395 = 0
            ·rw [if_pos c42] at H
             have c42b0 : (t395 == 0) = true := beq_iff_eq.mpr c42
             have c42b1 : (t395 != 0) = false := bne_eq_false_iff_eq.mpr c42
             clear c42
             have H' := Aside0.mk H
             clear H
             have p389 : 0 ≤ (x63_2 : Int) := dta
             have q389 : x63_2 < (t386.length : Int) := dta
             obtain ⟨ad389, e389, hx389_0, hx389_1⟩ := at_T93 (Kd.R_reads' HO_61.out).2.2 x63_2 p389 q389
             cases e389
             replace p389 := eq_true p389
             replace q389 := eq_true q389
             try go_wp2_with (first | ((with_reducible refine gate_dst (N := 7) rfl ?_); refine bev 7 93 #[.int .i64 0, .int .i64 0] ?_; intro gb390 hg w43 hbox hb; replace HO_61 := am (Kd.R_below (Kd.R_elderB (rpl HO_61.out) gb390 (Nat.le_of_eq hg.symm)) hb); have BK390 := am hbox; have GW390 := gwe hg; have GE390 := gwe hg; replace HB := hbs hb; have NB370_390 := nbl hg BK370; have NB390_370 := nbg hg BK370; replace BK370 := bkb BK370 hb; clear hb hbox hg; have hnb44 := NB390_370.out; have hnc44 := NB370_390.out; obtain ⟨hcz45_0, hcz45_1, hfz45_0, hfz45_1⟩ := cf2 (W := w43) BK390.out; obtain ⟨hcz46_0, hcz46_1, hcz46_2, hcz46_3, hcz46_4, hcz46_5, hcz46_6, hcz46_7, hcz46_8, hfz46_0, hfz46_1, hfz46_2, hfz46_3, hfz46_4, hfz46_5, hfz46_6, hfz46_7, hfz46_8⟩ := cf9 (W := w43) BK370.out; have p391 : 0 ≤ (x63_2 : Int) := dta; have q391 : x63_2 < (l0_8.length : Int) := dta; obtain ⟨ad391, A391_0, c391_0, e391, hx391_0, hl391_0, hi391_0⟩ := at_L1 HR0_8.out x63_2 p391 q391; cases e391; have hn391_0 : ad391.block ≠ gb390 := Nat.ne_of_lt (Nat.lt_of_lt_of_le (by have := World.block_lt_of_cell? _ _ hx391_0; first | rwa [add_block] at this | exact this) GW390.out); have hn391_1 : ad391.block ≠ gb390 := Nat.ne_of_lt (Nat.lt_of_lt_of_le (by have := World.block_lt_of_cell? _ _ hx391_0; first | rwa [add_block] at this | exact this) GW390.out); replace hx391_0 := (HB.out.cell (World.block_lt_of_cell? w _ hx391_0)).trans hx391_0; have HR391_0 := Aside0.mk hi391_0; have HC391_0 := Aside0.mk hl391_0; clear hi391_0 hl391_0; replace hx391_0 := (cell_far (p := ⟨gb390, 0, none⟩) (by first | (rw [add_block]; exact hn391_0) | (show (Addr.add _ _).block ≠ _; rw [add_block]; exact hn391_0) | exact hn391_0) (.int .i64 ((rd_T93 t386 x63_2).f0))).trans hx391_0; replace hx391_0 := (cell_far (p := ⟨gb390, 1, none⟩) (by first | (rw [add_block]; exact hn391_1) | (show (Addr.add _ _).block ≠ _; rw [add_block]; exact hn391_1) | exact hn391_1) (.int .i64 ((rd_T93 t386 x63_2).f1))).trans hx391_0; clear hn391_0 hn391_1; replace p391 := eq_true p391; replace q391 := eq_true q391) | ((with_reducible refine gate_callee (f := 99) rfl ?_); refine gl_ 75 Try.func99 #[.bool (decide (0 < (rd_L1 l0_8 x63_2).length)), .int .i64 1] ?_; (try rw [show decide (0 < (rd_L1 l0_8 x63_2).length) = decide (((rd_L1 l0_8 x63_2).length : Int) > 0) from decide_eq_decide.mpr (by omega)]); (with_reducible refine (impl_codeIf.calls (decide (((rd_L1 l0_8 x63_2).length : Int) > 0)) 1 t392 _ A38.out).mono ?_); rintro e w' ⟨rfl, ⟨nd, rfl⟩⟩; refine ⟨_, rfl, ?_⟩) | ((with_reducible refine gate_callee (f := 88) rfl ?_); refine gl_ 78 Try.func88 #[.agg #[.int .i64 a0_0, .int .i64 a0_1, .int .i64 a0_2, .int .i64 a0_3, .int .i64 a0_4, .int .i64 a0_5, .slice A0_6 l0_6.length c0_6, .slice A0_7 l0_7.length c0_7, .slice (some ad391) l0_8.length c0_8], .int .i64 x63_2] ?_; (with_reducible refine (impl_Part_owns.calls a0_0 a0_1 a0_2 a0_3 a0_4 a0_5 _ _ l0_6 _ _ l0_7 _ _ l0_8 x63_2 true _ ?_ ?_ ?_ ?_ ?_ ?_ A39.out).mono ?_); exact Kd.C_below HR0_6.out bnx; exact HC0_6.out; exact Kd.C_below HR0_7.out bnx; exact HC0_7.out; exact Kd.C_below HR0_8.out bnx; exact HC0_8.out; rintro e w47 ⟨rfl, hb⟩; refine ⟨_, rfl, ?_⟩; replace HO_61 := am (Kd.R_below (by (with_reducible repeat (first | apply Kd.R_alloc | apply Kd.R_drewN | apply Kd.R_drew)); exact (Kd.R_mono (Kd.R_far (p := ⟨gb390, 1, none⟩) (Kd.R_far (p := ⟨gb390, 0, none⟩) (Kd.R_mono HO_61.out (fun k_ hk => (⟨hk, hk.2⟩ : _ ∧ k_ ≠ gb390))) (fun _ hk => hk.2) (.int .i64 ((rd_T93 t386 x63_2).f0))) (fun _ hk => hk.2) (.int .i64 ((rd_T93 t386 x63_2).f1))) (fun _ h_ => h_.1))) hb); replace BK370 := am (blk_below (g := gb370) (o := .cells #[.int .i64 a0_0, .int .i64 a0_1, .int .i64 a0_2, .int .i64 a0_3, .int .i64 a0_4, .int .i64 a0_5, .slice A0_6 l0_6.length c0_6, .slice A0_7 l0_7.length c0_7, .slice (some ad391) l0_8.length c0_8] 47 (0, 0)) (by (with_reducible repeat (first | refine blk_drewN ?_ _ | refine blk_drew ?_ | refine blk_alloc ?_ _)); refine blk_far ?_ NB370_390.out _; (with_reducible repeat (first | refine blk_drewN ?_ _ | refine blk_drew ?_ | refine blk_alloc ?_ _)); refine blk_far ?_ NB370_390.out _; (with_reducible repeat (first | refine blk_drewN ?_ _ | refine blk_drew ?_ | refine blk_alloc ?_ _)); exact BK370.out) hb); replace BK390 := am (blk_below (g := gb390) (o := .cells #[.int .i64 ((rd_T93 t386 x63_2).f0), .int .i64 ((rd_T93 t386 x63_2).f1)] 93 (0, 0)) (by (with_reducible repeat (first | refine blk_drewN ?_ _ | refine blk_drew ?_ | refine blk_alloc ?_ _)); refine blk_put (cs := #[.int .i64 ((rd_T93 t386 x63_2).f0), .int .i64 0]) ?_ 1 _ rfl; (with_reducible repeat (first | refine blk_drewN ?_ _ | refine blk_drew ?_ | refine blk_alloc ?_ _)); refine blk_put (cs := #[.int .i64 0, .int .i64 0]) ?_ 0 _ rfl; exact bpl BK390.out) hb); replace HB := hbs hb; (try clear hb)))
             replace HO_61 := am (Kd.R_drew HO_61.out)
             replace BK370 := am (blk_drew BK370.out)
             replace BK390 := am (blk_drew BK390.out)
             replace HB := am (below_drew1 HB.out)
             have p394 : 0 ≤ (x63_2 : Int) := dta
             have q394 : x63_2 < (l0_8.length : Int) := dta
             obtain ⟨ad394, A394_0, c394_0, e394, hx394_0, hl394_0, hi394_0⟩ := at_L1 HR0_8.out x63_2 p394 q394
             have hw394_0 := hx394_0
             obtain rfl : ad391 = ad394 := (by injection e394)
             replace hx394_0 := (HB.out.cell (World.block_lt_of_cell? w _ hx394_0)).trans hx394_0
             have HR394_0 := Aside0.mk hi394_0
             have HC394_0 := Aside0.mk hl394_0
             clear hi394_0 hl394_0
             replace p394 := eq_true p394
             replace q394 := eq_true q394
             refine start_ (n := 10) (S := fun w' => w'.cell? ⟨gb390, 0, none⟩ = some (.int .i64 ((rd_T93 t386 x63_2).f0)) ∧ w'.cell? ⟨gb390, 1, none⟩ = some (.int .i64 ((rd_T93 t386 x63_2).f1)) ∧ w'.cell? ⟨gb370, 0, none⟩ = some (.int .i64 a0_0) ∧ w'.cell? ⟨gb370, 1, none⟩ = some (.int .i64 a0_1) ∧ w'.cell? ⟨gb370, 2, none⟩ = some (.int .i64 a0_2) ∧ w'.cell? ⟨gb370, 3, none⟩ = some (.int .i64 a0_3) ∧ w'.cell? ⟨gb370, 4, none⟩ = some (.int .i64 a0_4) ∧ w'.cell? ⟨gb370, 5, none⟩ = some (.int .i64 a0_5) ∧ w'.cell? ⟨gb370, 6, none⟩ = some (.slice A0_6 l0_6.length c0_6) ∧ w'.cell? ⟨gb370, 7, none⟩ = some (.slice A0_7 l0_7.length c0_7) ∧ w'.cell? ⟨gb370, 8, none⟩ = some (.slice (some ad391) l0_8.length c0_8) ∧ w'.cell? (ad391.add (x63_2).toNat) = some (.slice A394_0 (rd_L1 l0_8 x63_2).length c394_0)) (ds := []) #[false, false, false, false, false, false, false, false, false, false] (by kernel_rfl) rfl rfl ⟨(blk_cell BK390.out 0).trans rfl, (blk_cell BK390.out 1).trans rfl, (blk_cell BK370.out 0).trans rfl, (blk_cell BK370.out 1).trans rfl, (blk_cell BK370.out 2).trans rfl, (blk_cell BK370.out 3).trans rfl, (blk_cell BK370.out 4).trans rfl, (blk_cell BK370.out 5).trans rfl, (blk_cell BK370.out 6).trans rfl, (blk_cell BK370.out 7).trans rfl, (blk_cell BK370.out 8).trans rfl, ((HB.out.cell (World.block_lt_of_cell? w _ hw394_0)).trans hw394_0)⟩ (fun hHeld => ?_); refine with_tabW impl_PartFault.tab15 impl_PartFault.bits15 (fun HT_ HW_ => ?_)
             generalize w47.drew = w48 at HO_61 BK370 BK390 HB HR394_0 hx394_0 hHeld ⊢
             refine pu_ 1 80 HT_ ?_
             refine pu_ 3 82 HT_ ?_
             refine pu_ 6 85 HT_ ?_
             refine tk_ 0 79 HT_ HW_ hHeld ?_
             refine tk_ 2 81 HT_ HW_ hHeld ?_
             refine pu_ 4 83 HT_ ?_
             refine tk_ 5 84 HT_ HW_ hHeld ?_
             refine tk_ 7 86 HT_ HW_ hHeld ?_
             refine on_ 8 HT_ (fun K hK => ?_)
             refine gs_ Try.func159 #[.agg #[.int .i64 ((rd_T93 t386 x63_2).f0), .int .i64 ((rd_T93 t386 x63_2).f1)], .slice A394_0 (rd_L1 l0_8 x63_2).length c394_0, .int .i64 a0_3] ?_
             with_reducible refine (impl_bandFault.calls k2 ((rd_T93 t386 x63_2).f0) ((rd_T93 t386 x63_2).f1) _ _ (rd_L1 l0_8 x63_2) a0_3 t395 _ ?_ ?_ A41.out).mono ?_
             exact cpl HR394_0.out
             exact HC394_0.out
             rintro e w49 ⟨rfl, hb⟩
             refine ⟨_, rfl, ?_⟩
             replace HO_61 := rbl HO_61 hb
             replace BK370 := bkb BK370 hb
             replace BK390 := bkb BK390 hb
             replace HB := hbs hb
             (try clear hb)
             refine hK.out _ _ ⟨(blk_cell BK390.out 0).trans rfl, (blk_cell BK390.out 1).trans rfl, (blk_cell BK370.out 0).trans rfl, (blk_cell BK370.out 1).trans rfl, (blk_cell BK370.out 2).trans rfl, (blk_cell BK370.out 3).trans rfl, (blk_cell BK370.out 4).trans rfl, (blk_cell BK370.out 5).trans rfl, (blk_cell BK370.out 6).trans rfl, (blk_cell BK370.out 7).trans rfl, (blk_cell BK370.out 8).trans rfl, ((HB.out.cell (World.block_lt_of_cell? w _ hw394_0)).trans hw394_0)⟩ (fun hHeld => ?_)
             clear hK K
             refine nm_ 87 ?_
             refine pu_ 9 8 HT_ ?_
             refine done_ (done_of HT_.out (by kernel_rfl)) ?_
             try go_wp2
             go_roundg k2
             case measure => have := HJ5.out; have := HK2.out; omega
             case rel => exact ⟨(wrap64 (x63_2 + 1)), rq, H', ⟨by have := HJ5.out; have := HK2.out; omega⟩, ⟨by (with_reducible repeat (first | apply Kd.R_alloc | apply Kd.R_drewN | apply Kd.R_drew)); exact Kd.R_mono HO_61.out (fun _ hk => trivial)⟩, ⟨bpl BK370.out⟩, ⟨bnx⟩⟩
            ·rw [if_neg c42] at H
             have c42b0 : (t395 == 0) = false := beq_eq_false_iff_ne.mpr c42
             have c42b1 : (t395 != 0) = true := bne_iff_ne.mpr c42
             obtain rfl := Option.some.inj H
             have p389 : 0 ≤ (x63_2 : Int) := dta
             have q389 : x63_2 < (t386.length : Int) := dta
             obtain ⟨ad389, e389, hx389_0, hx389_1⟩ := at_T93 (Kd.R_reads' HO_61.out).2.2 x63_2 p389 q389
             cases e389
             replace p389 := eq_true p389
             replace q389 := eq_true q389
             try go_wp2_with (first | ((with_reducible refine gate_dst (N := 7) rfl ?_); refine bev 7 93 #[.int .i64 0, .int .i64 0] ?_; intro gb390 hg w50 hbox hb; replace HO_61 := am (Kd.R_below (Kd.R_elderB (rpl HO_61.out) gb390 (Nat.le_of_eq hg.symm)) hb); have BK390 := am hbox; have GW390 := gwe hg; have GE390 := gwe hg; replace HB := hbs hb; have NB370_390 := nbl hg BK370; have NB390_370 := nbg hg BK370; replace BK370 := bkb BK370 hb; clear hb hbox hg; have hnb51 := NB390_370.out; have hnc51 := NB370_390.out; obtain ⟨hcz52_0, hcz52_1, hfz52_0, hfz52_1⟩ := cf2 (W := w50) BK390.out; obtain ⟨hcz53_0, hcz53_1, hcz53_2, hcz53_3, hcz53_4, hcz53_5, hcz53_6, hcz53_7, hcz53_8, hfz53_0, hfz53_1, hfz53_2, hfz53_3, hfz53_4, hfz53_5, hfz53_6, hfz53_7, hfz53_8⟩ := cf9 (W := w50) BK370.out; have p391 : 0 ≤ (x63_2 : Int) := dta; have q391 : x63_2 < (l0_8.length : Int) := dta; obtain ⟨ad391, A391_0, c391_0, e391, hx391_0, hl391_0, hi391_0⟩ := at_L1 HR0_8.out x63_2 p391 q391; cases e391; have hn391_0 : ad391.block ≠ gb390 := Nat.ne_of_lt (Nat.lt_of_lt_of_le (by have := World.block_lt_of_cell? _ _ hx391_0; first | rwa [add_block] at this | exact this) GW390.out); have hn391_1 : ad391.block ≠ gb390 := Nat.ne_of_lt (Nat.lt_of_lt_of_le (by have := World.block_lt_of_cell? _ _ hx391_0; first | rwa [add_block] at this | exact this) GW390.out); replace hx391_0 := (HB.out.cell (World.block_lt_of_cell? w _ hx391_0)).trans hx391_0; have HR391_0 := Aside0.mk hi391_0; have HC391_0 := Aside0.mk hl391_0; clear hi391_0 hl391_0; replace hx391_0 := (cell_far (p := ⟨gb390, 0, none⟩) (by first | (rw [add_block]; exact hn391_0) | (show (Addr.add _ _).block ≠ _; rw [add_block]; exact hn391_0) | exact hn391_0) (.int .i64 ((rd_T93 t386 x63_2).f0))).trans hx391_0; replace hx391_0 := (cell_far (p := ⟨gb390, 1, none⟩) (by first | (rw [add_block]; exact hn391_1) | (show (Addr.add _ _).block ≠ _; rw [add_block]; exact hn391_1) | exact hn391_1) (.int .i64 ((rd_T93 t386 x63_2).f1))).trans hx391_0; clear hn391_0 hn391_1; replace p391 := eq_true p391; replace q391 := eq_true q391) | ((with_reducible refine gate_callee (f := 99) rfl ?_); refine gl_ 75 Try.func99 #[.bool (decide (0 < (rd_L1 l0_8 x63_2).length)), .int .i64 1] ?_; (try rw [show decide (0 < (rd_L1 l0_8 x63_2).length) = decide (((rd_L1 l0_8 x63_2).length : Int) > 0) from decide_eq_decide.mpr (by omega)]); (with_reducible refine (impl_codeIf.calls (decide (((rd_L1 l0_8 x63_2).length : Int) > 0)) 1 t392 _ A38.out).mono ?_); rintro e w' ⟨rfl, ⟨nd, rfl⟩⟩; refine ⟨_, rfl, ?_⟩) | ((with_reducible refine gate_callee (f := 88) rfl ?_); refine gl_ 78 Try.func88 #[.agg #[.int .i64 a0_0, .int .i64 a0_1, .int .i64 a0_2, .int .i64 a0_3, .int .i64 a0_4, .int .i64 a0_5, .slice A0_6 l0_6.length c0_6, .slice A0_7 l0_7.length c0_7, .slice (some ad391) l0_8.length c0_8], .int .i64 x63_2] ?_; (with_reducible refine (impl_Part_owns.calls a0_0 a0_1 a0_2 a0_3 a0_4 a0_5 _ _ l0_6 _ _ l0_7 _ _ l0_8 x63_2 true _ ?_ ?_ ?_ ?_ ?_ ?_ A39.out).mono ?_); exact Kd.C_below HR0_6.out bnx; exact HC0_6.out; exact Kd.C_below HR0_7.out bnx; exact HC0_7.out; exact Kd.C_below HR0_8.out bnx; exact HC0_8.out; rintro e w54 ⟨rfl, hb⟩; refine ⟨_, rfl, ?_⟩; replace HO_61 := am (Kd.R_below (by (with_reducible repeat (first | apply Kd.R_alloc | apply Kd.R_drewN | apply Kd.R_drew)); exact (Kd.R_mono (Kd.R_far (p := ⟨gb390, 1, none⟩) (Kd.R_far (p := ⟨gb390, 0, none⟩) (Kd.R_mono HO_61.out (fun k_ hk => (⟨hk, hk.2⟩ : _ ∧ k_ ≠ gb390))) (fun _ hk => hk.2) (.int .i64 ((rd_T93 t386 x63_2).f0))) (fun _ hk => hk.2) (.int .i64 ((rd_T93 t386 x63_2).f1))) (fun _ h_ => h_.1))) hb); replace BK370 := am (blk_below (g := gb370) (o := .cells #[.int .i64 a0_0, .int .i64 a0_1, .int .i64 a0_2, .int .i64 a0_3, .int .i64 a0_4, .int .i64 a0_5, .slice A0_6 l0_6.length c0_6, .slice A0_7 l0_7.length c0_7, .slice (some ad391) l0_8.length c0_8] 47 (0, 0)) (by (with_reducible repeat (first | refine blk_drewN ?_ _ | refine blk_drew ?_ | refine blk_alloc ?_ _)); refine blk_far ?_ NB370_390.out _; (with_reducible repeat (first | refine blk_drewN ?_ _ | refine blk_drew ?_ | refine blk_alloc ?_ _)); refine blk_far ?_ NB370_390.out _; (with_reducible repeat (first | refine blk_drewN ?_ _ | refine blk_drew ?_ | refine blk_alloc ?_ _)); exact BK370.out) hb); replace BK390 := am (blk_below (g := gb390) (o := .cells #[.int .i64 ((rd_T93 t386 x63_2).f0), .int .i64 ((rd_T93 t386 x63_2).f1)] 93 (0, 0)) (by (with_reducible repeat (first | refine blk_drewN ?_ _ | refine blk_drew ?_ | refine blk_alloc ?_ _)); refine blk_put (cs := #[.int .i64 ((rd_T93 t386 x63_2).f0), .int .i64 0]) ?_ 1 _ rfl; (with_reducible repeat (first | refine blk_drewN ?_ _ | refine blk_drew ?_ | refine blk_alloc ?_ _)); refine blk_put (cs := #[.int .i64 0, .int .i64 0]) ?_ 0 _ rfl; exact bpl BK390.out) hb); replace HB := hbs hb; (try clear hb)))
             replace HO_61 := am (Kd.R_drew HO_61.out)
             replace BK370 := am (blk_drew BK370.out)
             replace BK390 := am (blk_drew BK390.out)
             replace HB := am (below_drew1 HB.out)
             have p394 : 0 ≤ (x63_2 : Int) := dta
             have q394 : x63_2 < (l0_8.length : Int) := dta
             obtain ⟨ad394, A394_0, c394_0, e394, hx394_0, hl394_0, hi394_0⟩ := at_L1 HR0_8.out x63_2 p394 q394
             have hw394_0 := hx394_0
             obtain rfl : ad391 = ad394 := (by injection e394)
             replace hx394_0 := (HB.out.cell (World.block_lt_of_cell? w _ hx394_0)).trans hx394_0
             have HR394_0 := Aside0.mk hi394_0
             have HC394_0 := Aside0.mk hl394_0
             clear hi394_0 hl394_0
             replace p394 := eq_true p394
             replace q394 := eq_true q394
             refine start_ (n := 10) (S := fun w' => w'.cell? ⟨gb390, 0, none⟩ = some (.int .i64 ((rd_T93 t386 x63_2).f0)) ∧ w'.cell? ⟨gb390, 1, none⟩ = some (.int .i64 ((rd_T93 t386 x63_2).f1)) ∧ w'.cell? ⟨gb370, 0, none⟩ = some (.int .i64 a0_0) ∧ w'.cell? ⟨gb370, 1, none⟩ = some (.int .i64 a0_1) ∧ w'.cell? ⟨gb370, 2, none⟩ = some (.int .i64 a0_2) ∧ w'.cell? ⟨gb370, 3, none⟩ = some (.int .i64 a0_3) ∧ w'.cell? ⟨gb370, 4, none⟩ = some (.int .i64 a0_4) ∧ w'.cell? ⟨gb370, 5, none⟩ = some (.int .i64 a0_5) ∧ w'.cell? ⟨gb370, 6, none⟩ = some (.slice A0_6 l0_6.length c0_6) ∧ w'.cell? ⟨gb370, 7, none⟩ = some (.slice A0_7 l0_7.length c0_7) ∧ w'.cell? ⟨gb370, 8, none⟩ = some (.slice (some ad391) l0_8.length c0_8) ∧ w'.cell? (ad391.add (x63_2).toNat) = some (.slice A394_0 (rd_L1 l0_8 x63_2).length c394_0)) (ds := []) #[false, false, false, false, false, false, false, false, false, false] (by kernel_rfl) rfl rfl ⟨(blk_cell BK390.out 0).trans rfl, (blk_cell BK390.out 1).trans rfl, (blk_cell BK370.out 0).trans rfl, (blk_cell BK370.out 1).trans rfl, (blk_cell BK370.out 2).trans rfl, (blk_cell BK370.out 3).trans rfl, (blk_cell BK370.out 4).trans rfl, (blk_cell BK370.out 5).trans rfl, (blk_cell BK370.out 6).trans rfl, (blk_cell BK370.out 7).trans rfl, (blk_cell BK370.out 8).trans rfl, ((HB.out.cell (World.block_lt_of_cell? w _ hw394_0)).trans hw394_0)⟩ (fun hHeld => ?_); refine with_tabW impl_PartFault.tab15 impl_PartFault.bits15 (fun HT_ HW_ => ?_)
             generalize w54.drew = w55 at HO_61 BK370 BK390 HB HR394_0 hx394_0 hHeld ⊢
             refine pu_ 1 80 HT_ ?_
             refine pu_ 3 82 HT_ ?_
             refine pu_ 6 85 HT_ ?_
             refine tk_ 0 79 HT_ HW_ hHeld ?_
             refine tk_ 2 81 HT_ HW_ hHeld ?_
             refine pu_ 4 83 HT_ ?_
             refine tk_ 5 84 HT_ HW_ hHeld ?_
             refine tk_ 7 86 HT_ HW_ hHeld ?_
             refine on_ 8 HT_ (fun K hK => ?_)
             refine gs_ Try.func159 #[.agg #[.int .i64 ((rd_T93 t386 x63_2).f0), .int .i64 ((rd_T93 t386 x63_2).f1)], .slice A394_0 (rd_L1 l0_8 x63_2).length c394_0, .int .i64 a0_3] ?_
             with_reducible refine (impl_bandFault.calls k2 ((rd_T93 t386 x63_2).f0) ((rd_T93 t386 x63_2).f1) _ _ (rd_L1 l0_8 x63_2) a0_3 t395 _ ?_ ?_ A41.out).mono ?_
             exact cpl HR394_0.out
             exact HC394_0.out
             rintro e w56 ⟨rfl, hb⟩
             refine ⟨_, rfl, ?_⟩
             replace HO_61 := rbl HO_61 hb
             replace BK370 := bkb BK370 hb
             replace BK390 := bkb BK390 hb
             replace HB := hbs hb
             (try clear hb)
             refine hK.out _ _ ⟨(blk_cell BK390.out 0).trans rfl, (blk_cell BK390.out 1).trans rfl, (blk_cell BK370.out 0).trans rfl, (blk_cell BK370.out 1).trans rfl, (blk_cell BK370.out 2).trans rfl, (blk_cell BK370.out 3).trans rfl, (blk_cell BK370.out 4).trans rfl, (blk_cell BK370.out 5).trans rfl, (blk_cell BK370.out 6).trans rfl, (blk_cell BK370.out 7).trans rfl, (blk_cell BK370.out 8).trans rfl, ((HB.out.cell (World.block_lt_of_cell? w _ hw394_0)).trans hw394_0)⟩ (fun hHeld => ?_)
             clear hK K
             refine nm_ 87 ?_
             refine pu_ 9 8 HT_ ?_
             refine done_ (done_of HT_.out (by kernel_rfl)) ?_
             try go_wp2
             go_ret
             exact ⟨enq, bnx⟩
           ·replace c40 := Bool.eq_false_iff.mpr c40
            subst c40
            replace H : (if t392 = 0 then (impl_PartFault.l0 k2 t386 (t386.length : Int) (wrap64 (x63_2 + 1)) a0_0 a0_1 a0_2 a0_3 a0_4 a0_5 l0_6 l0_7 l0_8) else (some t392)) = some r := by rw [if_neg (show ¬ (false = true) by decide)] at H; exact H
            by_cases c57 : t392 = 0
            ·rw [if_pos c57] at H
             have c57b0 : (t392 == 0) = true := beq_iff_eq.mpr c57
             have c57b1 : (t392 != 0) = false := bne_eq_false_iff_eq.mpr c57
             clear c57
             have H' := Aside0.mk H
             clear H
             have p389 : 0 ≤ (x63_2 : Int) := dta
             have q389 : x63_2 < (t386.length : Int) := dta
             obtain ⟨ad389, e389, hx389_0, hx389_1⟩ := at_T93 (Kd.R_reads' HO_61.out).2.2 x63_2 p389 q389
             cases e389
             replace p389 := eq_true p389
             replace q389 := eq_true q389
             go_wp2_with (first | ((with_reducible refine gate_dst (N := 7) rfl ?_); refine bev 7 93 #[.int .i64 0, .int .i64 0] ?_; intro gb390 hg w58 hbox hb; replace HO_61 := am (Kd.R_below (Kd.R_elderB (rpl HO_61.out) gb390 (Nat.le_of_eq hg.symm)) hb); have BK390 := am hbox; have GW390 := gwe hg; have GE390 := gwe hg; replace HB := hbs hb; have NB370_390 := nbl hg BK370; have NB390_370 := nbg hg BK370; replace BK370 := bkb BK370 hb; clear hb hbox hg; have hnb59 := NB390_370.out; have hnc59 := NB370_390.out; obtain ⟨hcz60_0, hcz60_1, hfz60_0, hfz60_1⟩ := cf2 (W := w58) BK390.out; obtain ⟨hcz61_0, hcz61_1, hcz61_2, hcz61_3, hcz61_4, hcz61_5, hcz61_6, hcz61_7, hcz61_8, hfz61_0, hfz61_1, hfz61_2, hfz61_3, hfz61_4, hfz61_5, hfz61_6, hfz61_7, hfz61_8⟩ := cf9 (W := w58) BK370.out; have p391 : 0 ≤ (x63_2 : Int) := dta; have q391 : x63_2 < (l0_8.length : Int) := dta; obtain ⟨ad391, A391_0, c391_0, e391, hx391_0, hl391_0, hi391_0⟩ := at_L1 HR0_8.out x63_2 p391 q391; cases e391; have hn391_0 : ad391.block ≠ gb390 := Nat.ne_of_lt (Nat.lt_of_lt_of_le (by have := World.block_lt_of_cell? _ _ hx391_0; first | rwa [add_block] at this | exact this) GW390.out); have hn391_1 : ad391.block ≠ gb390 := Nat.ne_of_lt (Nat.lt_of_lt_of_le (by have := World.block_lt_of_cell? _ _ hx391_0; first | rwa [add_block] at this | exact this) GW390.out); replace hx391_0 := (HB.out.cell (World.block_lt_of_cell? w _ hx391_0)).trans hx391_0; have HR391_0 := Aside0.mk hi391_0; have HC391_0 := Aside0.mk hl391_0; clear hi391_0 hl391_0; replace hx391_0 := (cell_far (p := ⟨gb390, 0, none⟩) (by first | (rw [add_block]; exact hn391_0) | (show (Addr.add _ _).block ≠ _; rw [add_block]; exact hn391_0) | exact hn391_0) (.int .i64 ((rd_T93 t386 x63_2).f0))).trans hx391_0; replace hx391_0 := (cell_far (p := ⟨gb390, 1, none⟩) (by first | (rw [add_block]; exact hn391_1) | (show (Addr.add _ _).block ≠ _; rw [add_block]; exact hn391_1) | exact hn391_1) (.int .i64 ((rd_T93 t386 x63_2).f1))).trans hx391_0; clear hn391_0 hn391_1; replace p391 := eq_true p391; replace q391 := eq_true q391) | ((with_reducible refine gate_callee (f := 99) rfl ?_); refine gl_ 75 Try.func99 #[.bool (decide (0 < (rd_L1 l0_8 x63_2).length)), .int .i64 1] ?_; (try rw [show decide (0 < (rd_L1 l0_8 x63_2).length) = decide (((rd_L1 l0_8 x63_2).length : Int) > 0) from decide_eq_decide.mpr (by omega)]); (with_reducible refine (impl_codeIf.calls (decide (((rd_L1 l0_8 x63_2).length : Int) > 0)) 1 t392 _ A38.out).mono ?_); rintro e w' ⟨rfl, ⟨nd, rfl⟩⟩; refine ⟨_, rfl, ?_⟩) | ((with_reducible refine gate_callee (f := 88) rfl ?_); refine gl_ 78 Try.func88 #[.agg #[.int .i64 a0_0, .int .i64 a0_1, .int .i64 a0_2, .int .i64 a0_3, .int .i64 a0_4, .int .i64 a0_5, .slice A0_6 l0_6.length c0_6, .slice A0_7 l0_7.length c0_7, .slice (some ad391) l0_8.length c0_8], .int .i64 x63_2] ?_; (with_reducible refine (impl_Part_owns.calls a0_0 a0_1 a0_2 a0_3 a0_4 a0_5 _ _ l0_6 _ _ l0_7 _ _ l0_8 x63_2 false _ ?_ ?_ ?_ ?_ ?_ ?_ A39.out).mono ?_); exact Kd.C_below HR0_6.out bnx; exact HC0_6.out; exact Kd.C_below HR0_7.out bnx; exact HC0_7.out; exact Kd.C_below HR0_8.out bnx; exact HC0_8.out; rintro e w62 ⟨rfl, hb⟩; refine ⟨_, rfl, ?_⟩; replace HO_61 := am (Kd.R_below (by (with_reducible repeat (first | apply Kd.R_alloc | apply Kd.R_drewN | apply Kd.R_drew)); exact (Kd.R_mono (Kd.R_far (p := ⟨gb390, 1, none⟩) (Kd.R_far (p := ⟨gb390, 0, none⟩) (Kd.R_mono HO_61.out (fun k_ hk => (⟨hk, hk.2⟩ : _ ∧ k_ ≠ gb390))) (fun _ hk => hk.2) (.int .i64 ((rd_T93 t386 x63_2).f0))) (fun _ hk => hk.2) (.int .i64 ((rd_T93 t386 x63_2).f1))) (fun _ h_ => h_.1))) hb); replace BK370 := am (blk_below (g := gb370) (o := .cells #[.int .i64 a0_0, .int .i64 a0_1, .int .i64 a0_2, .int .i64 a0_3, .int .i64 a0_4, .int .i64 a0_5, .slice A0_6 l0_6.length c0_6, .slice A0_7 l0_7.length c0_7, .slice (some ad391) l0_8.length c0_8] 47 (0, 0)) (by (with_reducible repeat (first | refine blk_drewN ?_ _ | refine blk_drew ?_ | refine blk_alloc ?_ _)); refine blk_far ?_ NB370_390.out _; (with_reducible repeat (first | refine blk_drewN ?_ _ | refine blk_drew ?_ | refine blk_alloc ?_ _)); refine blk_far ?_ NB370_390.out _; (with_reducible repeat (first | refine blk_drewN ?_ _ | refine blk_drew ?_ | refine blk_alloc ?_ _)); exact BK370.out) hb); replace BK390 := am (blk_below (g := gb390) (o := .cells #[.int .i64 ((rd_T93 t386 x63_2).f0), .int .i64 ((rd_T93 t386 x63_2).f1)] 93 (0, 0)) (by (with_reducible repeat (first | refine blk_drewN ?_ _ | refine blk_drew ?_ | refine blk_alloc ?_ _)); refine blk_put (cs := #[.int .i64 ((rd_T93 t386 x63_2).f0), .int .i64 0]) ?_ 1 _ rfl; (with_reducible repeat (first | refine blk_drewN ?_ _ | refine blk_drew ?_ | refine blk_alloc ?_ _)); refine blk_put (cs := #[.int .i64 0, .int .i64 0]) ?_ 0 _ rfl; exact bpl BK390.out) hb); replace HB := hbs hb; (try clear hb)))
             go_roundg k2
             case measure => have := HJ5.out; have := HK2.out; omega
             case rel => exact ⟨(wrap64 (x63_2 + 1)), rq, H', ⟨by have := HJ5.out; have := HK2.out; omega⟩, ⟨by (with_reducible repeat (first | apply Kd.R_alloc | apply Kd.R_drewN | apply Kd.R_drew)); exact Kd.R_mono HO_61.out (fun _ hk => trivial)⟩, ⟨bpl BK370.out⟩, ⟨bnx⟩⟩
            ·rw [if_neg c57] at H
             have c57b0 : (t392 == 0) = false := beq_eq_false_iff_ne.mpr c57
             have c57b1 : (t392 != 0) = true := bne_iff_ne.mpr c57
             obtain rfl := Option.some.inj H
             have p389 : 0 ≤ (x63_2 : Int) := dta
             have q389 : x63_2 < (t386.length : Int) := dta
             obtain ⟨ad389, e389, hx389_0, hx389_1⟩ := at_T93 (Kd.R_reads' HO_61.out).2.2 x63_2 p389 q389
             cases e389
             replace p389 := eq_true p389
             replace q389 := eq_true q389
             go_wp2_with (first | ((with_reducible refine gate_dst (N := 7) rfl ?_); refine bev 7 93 #[.int .i64 0, .int .i64 0] ?_; intro gb390 hg w63 hbox hb; replace HO_61 := am (Kd.R_below (Kd.R_elderB (rpl HO_61.out) gb390 (Nat.le_of_eq hg.symm)) hb); have BK390 := am hbox; have GW390 := gwe hg; have GE390 := gwe hg; replace HB := hbs hb; have NB370_390 := nbl hg BK370; have NB390_370 := nbg hg BK370; replace BK370 := bkb BK370 hb; clear hb hbox hg; have hnb64 := NB390_370.out; have hnc64 := NB370_390.out; obtain ⟨hcz65_0, hcz65_1, hfz65_0, hfz65_1⟩ := cf2 (W := w63) BK390.out; obtain ⟨hcz66_0, hcz66_1, hcz66_2, hcz66_3, hcz66_4, hcz66_5, hcz66_6, hcz66_7, hcz66_8, hfz66_0, hfz66_1, hfz66_2, hfz66_3, hfz66_4, hfz66_5, hfz66_6, hfz66_7, hfz66_8⟩ := cf9 (W := w63) BK370.out; have p391 : 0 ≤ (x63_2 : Int) := dta; have q391 : x63_2 < (l0_8.length : Int) := dta; obtain ⟨ad391, A391_0, c391_0, e391, hx391_0, hl391_0, hi391_0⟩ := at_L1 HR0_8.out x63_2 p391 q391; cases e391; have hn391_0 : ad391.block ≠ gb390 := Nat.ne_of_lt (Nat.lt_of_lt_of_le (by have := World.block_lt_of_cell? _ _ hx391_0; first | rwa [add_block] at this | exact this) GW390.out); have hn391_1 : ad391.block ≠ gb390 := Nat.ne_of_lt (Nat.lt_of_lt_of_le (by have := World.block_lt_of_cell? _ _ hx391_0; first | rwa [add_block] at this | exact this) GW390.out); replace hx391_0 := (HB.out.cell (World.block_lt_of_cell? w _ hx391_0)).trans hx391_0; have HR391_0 := Aside0.mk hi391_0; have HC391_0 := Aside0.mk hl391_0; clear hi391_0 hl391_0; replace hx391_0 := (cell_far (p := ⟨gb390, 0, none⟩) (by first | (rw [add_block]; exact hn391_0) | (show (Addr.add _ _).block ≠ _; rw [add_block]; exact hn391_0) | exact hn391_0) (.int .i64 ((rd_T93 t386 x63_2).f0))).trans hx391_0; replace hx391_0 := (cell_far (p := ⟨gb390, 1, none⟩) (by first | (rw [add_block]; exact hn391_1) | (show (Addr.add _ _).block ≠ _; rw [add_block]; exact hn391_1) | exact hn391_1) (.int .i64 ((rd_T93 t386 x63_2).f1))).trans hx391_0; clear hn391_0 hn391_1; replace p391 := eq_true p391; replace q391 := eq_true q391) | ((with_reducible refine gate_callee (f := 99) rfl ?_); refine gl_ 75 Try.func99 #[.bool (decide (0 < (rd_L1 l0_8 x63_2).length)), .int .i64 1] ?_; (try rw [show decide (0 < (rd_L1 l0_8 x63_2).length) = decide (((rd_L1 l0_8 x63_2).length : Int) > 0) from decide_eq_decide.mpr (by omega)]); (with_reducible refine (impl_codeIf.calls (decide (((rd_L1 l0_8 x63_2).length : Int) > 0)) 1 t392 _ A38.out).mono ?_); rintro e w' ⟨rfl, ⟨nd, rfl⟩⟩; refine ⟨_, rfl, ?_⟩) | ((with_reducible refine gate_callee (f := 88) rfl ?_); refine gl_ 78 Try.func88 #[.agg #[.int .i64 a0_0, .int .i64 a0_1, .int .i64 a0_2, .int .i64 a0_3, .int .i64 a0_4, .int .i64 a0_5, .slice A0_6 l0_6.length c0_6, .slice A0_7 l0_7.length c0_7, .slice (some ad391) l0_8.length c0_8], .int .i64 x63_2] ?_; (with_reducible refine (impl_Part_owns.calls a0_0 a0_1 a0_2 a0_3 a0_4 a0_5 _ _ l0_6 _ _ l0_7 _ _ l0_8 x63_2 false _ ?_ ?_ ?_ ?_ ?_ ?_ A39.out).mono ?_); exact Kd.C_below HR0_6.out bnx; exact HC0_6.out; exact Kd.C_below HR0_7.out bnx; exact HC0_7.out; exact Kd.C_below HR0_8.out bnx; exact HC0_8.out; rintro e w67 ⟨rfl, hb⟩; refine ⟨_, rfl, ?_⟩; replace HO_61 := am (Kd.R_below (by (with_reducible repeat (first | apply Kd.R_alloc | apply Kd.R_drewN | apply Kd.R_drew)); exact (Kd.R_mono (Kd.R_far (p := ⟨gb390, 1, none⟩) (Kd.R_far (p := ⟨gb390, 0, none⟩) (Kd.R_mono HO_61.out (fun k_ hk => (⟨hk, hk.2⟩ : _ ∧ k_ ≠ gb390))) (fun _ hk => hk.2) (.int .i64 ((rd_T93 t386 x63_2).f0))) (fun _ hk => hk.2) (.int .i64 ((rd_T93 t386 x63_2).f1))) (fun _ h_ => h_.1))) hb); replace BK370 := am (blk_below (g := gb370) (o := .cells #[.int .i64 a0_0, .int .i64 a0_1, .int .i64 a0_2, .int .i64 a0_3, .int .i64 a0_4, .int .i64 a0_5, .slice A0_6 l0_6.length c0_6, .slice A0_7 l0_7.length c0_7, .slice (some ad391) l0_8.length c0_8] 47 (0, 0)) (by (with_reducible repeat (first | refine blk_drewN ?_ _ | refine blk_drew ?_ | refine blk_alloc ?_ _)); refine blk_far ?_ NB370_390.out _; (with_reducible repeat (first | refine blk_drewN ?_ _ | refine blk_drew ?_ | refine blk_alloc ?_ _)); refine blk_far ?_ NB370_390.out _; (with_reducible repeat (first | refine blk_drewN ?_ _ | refine blk_drew ?_ | refine blk_alloc ?_ _)); exact BK370.out) hb); replace BK390 := am (blk_below (g := gb390) (o := .cells #[.int .i64 ((rd_T93 t386 x63_2).f0), .int .i64 ((rd_T93 t386 x63_2).f1)] 93 (0, 0)) (by (with_reducible repeat (first | refine blk_drewN ?_ _ | refine blk_drew ?_ | refine blk_alloc ?_ _)); refine blk_put (cs := #[.int .i64 ((rd_T93 t386 x63_2).f0), .int .i64 0]) ?_ 1 _ rfl; (with_reducible repeat (first | refine blk_drewN ?_ _ | refine blk_drew ?_ | refine blk_alloc ?_ _)); refine blk_put (cs := #[.int .i64 0, .int .i64 0]) ?_ 0 _ rfl; exact bpl BK390.out) hb); replace HB := hbs hb; (try clear hb)))
             go_ret
             exact ⟨enq, bnx⟩
          ·rw [if_neg c37] at H
           exact absurd H (by simp)
         ·rw [if_neg c36] at H
          exact absurd H (by simp)
        ·rw [if_neg c35] at H
         exact absurd H (by simp)
       ·rw [if_neg c34] at H
        have c34b0 : decide (x63_2 < (t386.length : Int)) = false := decide_eq_false c34
        clear c34
        obtain rfl := Option.some.inj H
        go_wp2
        go_ret
        exact ⟨enq, bnx⟩
    ·rw [if_neg c22] at H
     have c22b0 : (t385 == 0) = false := beq_eq_false_iff_ne.mpr c22
     have c22b1 : (t385 != 0) = true := bne_iff_ne.mpr c22
     obtain rfl := Option.some.inj H
     obtain ⟨hcz68_0, hcz68_1, hcz68_2, hcz68_3, hcz68_4, hcz68_5, hcz68_6, hcz68_7, hcz68_8, hfz68_0, hfz68_1, hfz68_2, hfz68_3, hfz68_4, hfz68_5, hfz68_6, hfz68_7, hfz68_8⟩ := cf9 (W := wc) BK370.out
     try go_wp2_with (first | ((with_reducible refine gate_callee (f := 123) rfl ?_); refine gl_ 44 Try.func123 #[.slice A0_6 l0_6.length c0_6, .func (.func 165) #[] #[.pointer (some ⟨gb370, 0, none⟩)]] ?_; (with_reducible refine (impl_PartFault_1_any.calls (hbx := ?_) _ _ l0_6 a0_2 a0_4 t379 _ ?_ ?_ A18.out).mono ?_); exact Aside0.mk ⟨47, #[.int .i64 a0_0, .int .i64 a0_1, .int .i64 a0_2, .int .i64 a0_3, .int .i64 a0_4, .int .i64 a0_5, .slice A0_6 l0_6.length c0_6, .slice A0_7 l0_7.length c0_7, .slice A0_8 l0_8.length c0_8], (bpl BK370.out), (by first | rfl | exact ⟨rfl, rfl⟩)⟩; exact cpl HR0_6.out; exact HC0_6.out; rintro e w69 ⟨rfl, hb⟩; refine ⟨_, rfl, ?_⟩; replace BK370 := bkb BK370 hb; replace HB := hbs hb; (try clear hb)))
     replace BK370 := am (blk_drew BK370.out)
     replace HB := am (below_drew1 HB.out)
     refine start_ (n := 12) (S := fun w' => w'.cell? ⟨gb370, 0, none⟩ = some (.int .i64 a0_0) ∧ w'.cell? ⟨gb370, 1, none⟩ = some (.int .i64 a0_1) ∧ w'.cell? ⟨gb370, 2, none⟩ = some (.int .i64 a0_2) ∧ w'.cell? ⟨gb370, 3, none⟩ = some (.int .i64 a0_3) ∧ w'.cell? ⟨gb370, 4, none⟩ = some (.int .i64 a0_4) ∧ w'.cell? ⟨gb370, 5, none⟩ = some (.int .i64 a0_5) ∧ w'.cell? ⟨gb370, 6, none⟩ = some (.slice A0_6 l0_6.length c0_6) ∧ w'.cell? ⟨gb370, 7, none⟩ = some (.slice A0_7 l0_7.length c0_7) ∧ w'.cell? ⟨gb370, 8, none⟩ = some (.slice A0_8 l0_8.length c0_8)) (ds := []) #[false, false, false, false, false, false, false, false, false, false, false, false] (by kernel_rfl) rfl rfl ⟨(blk_cell BK370.out 0).trans rfl, (blk_cell BK370.out 1).trans rfl, (blk_cell BK370.out 2).trans rfl, (blk_cell BK370.out 3).trans rfl, (blk_cell BK370.out 4).trans rfl, (blk_cell BK370.out 5).trans rfl, (blk_cell BK370.out 6).trans rfl, (blk_cell BK370.out 7).trans rfl, (blk_cell BK370.out 8).trans rfl⟩ (fun hHeld => ?_); refine with_tabW impl_PartFault.tab7 impl_PartFault.bits7 (fun HT_ HW_ => ?_)
     generalize w69.drew = w70 at BK370 HB hHeld ⊢
     refine pu_ 0 45 HT_ ?_
     refine pu_ 2 47 HT_ ?_
     refine pu_ 4 49 HT_ ?_
     refine pu_ 6 51 HT_ ?_
     refine tk_ 3 48 HT_ HW_ hHeld ?_
     refine tk_ 5 50 HT_ HW_ hHeld ?_
     refine tk_ 7 52 HT_ HW_ hHeld ?_
     refine on_ 1 HT_ (fun K hK => ?_)
     refine gs_ Try.func99 #[.bool t379, .int .i64 3] ?_
     with_reducible refine (impl_codeIf.calls t379 3 t380 _ A19.out).mono ?_
     rintro e w' ⟨rfl, ⟨nd, rfl⟩⟩
     refine ⟨_, rfl, ?_⟩
     refine hK.out _ _ ⟨(blk_cell BK370.out 0).trans rfl, (blk_cell BK370.out 1).trans rfl, (blk_cell BK370.out 2).trans rfl, (blk_cell BK370.out 3).trans rfl, (blk_cell BK370.out 4).trans rfl, (blk_cell BK370.out 5).trans rfl, (blk_cell BK370.out 6).trans rfl, (blk_cell BK370.out 7).trans rfl, (blk_cell BK370.out 8).trans rfl⟩ (fun hHeld => ?_)
     clear hK K
     refine nm_ 46 ?_
     refine on_ 8 HT_ (fun K hK => ?_)
     refine gs_ Try.func158 #[.slice A0_7 l0_7.length c0_7, .int .i64 a0_2, .int .i64 a0_3] ?_
     with_reducible refine (impl_gainsFault.calls _ _ l0_7 a0_2 a0_3 t381 _ ?side1 ?side2 A20.out).mono ?_
     (case side1 => repeat (first | exact (Kd.C_below HR0_7.out bnx) | (with_reducible refine Kd.C_alloc ?_ _) | (with_reducible refine Kd.C_drewN ?_ _) | (with_reducible refine Kd.C_drew ?_)))
     (case side2 => exact HC0_7.out)
     rintro e w71 ⟨rfl, hb⟩
     refine ⟨_, rfl, ?_⟩
     replace BK370 := bkb BK370 hb
     replace HB := hbs hb
     (try clear hb)
     refine hK.out _ _ ⟨(blk_cell BK370.out 0).trans rfl, (blk_cell BK370.out 1).trans rfl, (blk_cell BK370.out 2).trans rfl, (blk_cell BK370.out 3).trans rfl, (blk_cell BK370.out 4).trans rfl, (blk_cell BK370.out 5).trans rfl, (blk_cell BK370.out 6).trans rfl, (blk_cell BK370.out 7).trans rfl, (blk_cell BK370.out 8).trans rfl⟩ (fun hHeld => ?_)
     clear hK K
     refine nm_ 53 ?_
     refine on_ 9 HT_ (fun K hK => ?_)
     refine Kd.R_lit_step (Kd.int .i64) _ 2 ?hg (N := 54) ?hd (xs := ([t380, t381] : List Int)) (inner := [.int .i64 t380, .int .i64 t381]) (ok := fun _ => True) (okp := fun _ => True) ?hr ?hp (fun _ hk => hk) trivial (Below.refl _ _) (Nat.le_refl _) (by simp) ?_; (case hd => rfl); (case hg => rfl); (case hr => first | (go_simp; done) | (go_simp; rfl)); (case hp => exact (Reps.one (show Kd.M (Kd.int .i64) _ _ _ t380 [.int .i64 t380] from rfl) (Reps.one (show Kd.M (Kd.int .i64) _ _ _ t381 [.int .i64 t381] from rfl) (Reps.none _ _))))
     intro v383 w72 ho73 hb hg_ hnew_
     clear hg_ hnew_
     (first | rw [← Ny382.out] at ho73 | (simp only [Int.reduceToNat] at ho73; rw [← Ny382.out] at ho73))
     have HO384 := rlw ho73
     replace BK370 := bkb BK370 hb
     replace HB := hbs hb
     clear hb ho73
     obtain ⟨Ao74, co74, eo74⟩ := Kd.R_slice HO384.out
     (first | subst eo74 | (injection eo74 with f1_ f2_ f3_; have f4_ := f1_.symm; have f5_ := f3_.symm; clear f1_ f2_ f3_; subst f4_; subst f5_))
     refine hK.out _ _ ⟨(blk_cell BK370.out 0).trans rfl, (blk_cell BK370.out 1).trans rfl, (blk_cell BK370.out 2).trans rfl, (blk_cell BK370.out 3).trans rfl, (blk_cell BK370.out 4).trans rfl, (blk_cell BK370.out 5).trans rfl, (blk_cell BK370.out 6).trans rfl, (blk_cell BK370.out 7).trans rfl, (blk_cell BK370.out 8).trans rfl⟩ (fun hHeld => ?_)
     clear hK K
     refine nm_ 54 ?_
     refine on_ 10 HT_ (fun K hK => ?_)
     refine gs_ Try.func98 #[.slice Ao74 y382.length co74] ?_
     with_reducible refine (impl_first.calls kj5 _ _ y382 t385 _ ?_ ?_ A21.out).mono ?_
     exact crd HO384
     exact (Kd.R_reads' HO384.out).2.1
     rintro e w' ⟨rfl, ⟨nd, rfl⟩⟩
     refine ⟨_, rfl, ?_⟩
     refine hK.out _ _ ⟨(blk_cell BK370.out 0).trans rfl, (blk_cell BK370.out 1).trans rfl, (blk_cell BK370.out 2).trans rfl, (blk_cell BK370.out 3).trans rfl, (blk_cell BK370.out 4).trans rfl, (blk_cell BK370.out 5).trans rfl, (blk_cell BK370.out 6).trans rfl, (blk_cell BK370.out 7).trans rfl, (blk_cell BK370.out 8).trans rfl⟩ (fun hHeld => ?_)
     clear hK K
     refine nm_ 55 ?_
     refine pu_ 11 5 HT_ ?_
     refine done_ (done_of HT_.out (by kernel_rfl)) ?_
     try go_wp2
     go_ret
     exact ⟨enq, bnx⟩
   ·rw [if_neg c17] at H
    have c17b0 : (x3_5 == 0) = false := beq_eq_false_iff_ne.mpr c17
    have c17b1 : (x3_5 != 0) = true := bne_iff_ne.mpr c17
    obtain rfl := Option.some.inj H
    go_wp2
    go_ret
    exact ⟨enq, bnx⟩

end Go.Proofs.Ythehhncokikgcaa.PFnExactPartOf
