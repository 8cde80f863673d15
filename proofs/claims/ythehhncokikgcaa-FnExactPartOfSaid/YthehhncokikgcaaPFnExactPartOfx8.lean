-- Contracts of the functions that the law reaches, written by wip/xprint.py of this repo.
import Derived.Test.YthehhncokikgcaaPFnExactPartOfx0
import Derived.Test.YthehhncokikgcaaPFnExactPartOfx1
import Derived.Test.YthehhncokikgcaaPFnExactPartOfx5
import Derived.Test.YthehhncokikgcaaPFnExactPartOfx7
namespace Go.Proofs.Ythehhncokikgcaa.PFnExactPartOf
open Go.RowKit Go.Proofs.YthehhncokikgcaaW.PrintWords Go.Proofs.YthehhncokikgcaaW.PrintLast Go.Proofs.YthehhncokikgcaaW.PrintMore
attribute [local go_sem] max2_int min2_int max_two min_two max_three min_three max_four min_four   -- for this text's walks alone
set_option linter.unusedVariables false
set_option linter.unusedSimpArgs false

/-! ### spec_l15Of: function 97 -/
mutual
def spec_l15Of.l0 : Nat → Int → Int → Int → Int → Int → Int → Int → List Int → List Int → List (List Int) → Int → Int → Int → Int → Int → Int → List Int → List Int → Option (Int × Int × Int × Int × Int × Int × List Int × List Int × (List (List Int)))
 | 0, _, _, _, _, _, _, _, _, _, _, _, _, _, _, _, _, _, _ => none
 | k + 1, x1, x6, x51000, x51001, x51002, x51003, x51004, x51005, x51006, x51007, x227000, x227001, x227002, x227003, x227004, x227005, x227006, x227007 => if x6 < (x51005.length : Int) then (if 0 ≤ x6 then ((spec_l10Split.f k (rd x51005 x6) x51004 ((Int.tmod x6 2) == 1)).bind fun bt228 => (if x1 = 1 then (if x227006.length < 17592186044416 then (spec_l15Of.l0 k x1 (wrap64 (x6 + 1)) x51000 x51001 x51002 x51003 x51004 x51005 x51006 x51007 x227000 x227001 x227002 x227003 x227004 x227005 (x227006 ++ [bt228.2]) x227007) else (none)) else (if x227006.length < 17592186044416 then (spec_l15Of.l0 k x1 (wrap64 (x6 + 1)) x51000 x51001 x51002 x51003 x51004 x51005 x51006 x51007 x227000 x227001 x227002 x227003 x227004 x227005 (x227006 ++ [bt228.1]) x227007) else (none)))) else (none)) else (spec_l15Of.l1 k 0 x51000 x51001 x51002 x51003 x51004 x51005 x51006 x51007 x227000 x227001 x227002 x227003 x227004 x227005 x227006 x227007 ([] : List (List Int)))
def spec_l15Of.l1 : Nat → Int → Int → Int → Int → Int → Int → List Int → List Int → List (List Int) → Int → Int → Int → Int → Int → Int → List Int → List Int → List (List Int) → Option (Int × Int × Int × Int × Int × Int × List Int × List Int × (List (List Int)))
 | 0, _, _, _, _, _, _, _, _, _, _, _, _, _, _, _, _, _, _ => none
 | k + 1, x9, x51000, x51001, x51002, x51003, x51004, x51005, x51006, x51007, x227000, x227001, x227002, x227003, x227004, x227005, x227006, x227007, x227008 => if x9 < (x51007.length : Int) then ((spec_l15Mine_any.f x227000 x227005 x9).bind fun t239 => (if t239 = true then (if 0 ≤ x9 then ((spec_l1Ints.f (rd_L1 x51007 x9)).bind fun t241 => (if x227008.length < 5864062014805 then (spec_l15Of.l1 k (wrap64 (x9 + 1)) x51000 x51001 x51002 x51003 x51004 x51005 x51006 x51007 x227000 x227001 x227002 x227003 x227004 x227005 x227006 x227007 (x227008 ++ [t241])) else (none))) else (none)) else (if x227008.length < 5864062014805 then (spec_l15Of.l1 k (wrap64 (x9 + 1)) x51000 x51001 x51002 x51003 x51004 x51005 x51006 x51007 x227000 x227001 x227002 x227003 x227004 x227005 x227006 x227007 (x227008 ++ [(([] : List Int))])) else (none)))) else (some (x227000, x227001, x227002, x227003, x227004, x227005, x227006, x227007, x227008))
end
def spec_l15Of.f (k : Nat) (a0_0 : Int) (a0_1 : Int) (a0_2 : Int) (a0_3 : Int) (a0_4 : Int) (l0_5 : List Int) (l0_6 : List Int) (l0_7 : List (List Int)) (a1 : Int) : Option (Int × Int × Int × Int × Int × Int × List Int × List Int × (List (List Int))) := (spec_l1Ints.f l0_6).bind fun t223 => (spec_l15Of.l0 k a1 0 a0_0 a0_1 a0_2 a0_3 a0_4 l0_5 l0_6 l0_7 a0_0 a0_1 a0_2 a0_3 a0_4 a1 ([] : List Int) t223)
theorem spec_l15Of.mono_l : ∀ k, (∀ y0 y1 y2 y3 y4 y5 y6 y7 y8 y9 y10 y11 y12 y13 y14 y15 y16 y17, LeO (spec_l15Of.l0 k y0 y1 y2 y3 y4 y5 y6 y7 y8 y9 y10 y11 y12 y13 y14 y15 y16 y17) (spec_l15Of.l0 (k + 1) y0 y1 y2 y3 y4 y5 y6 y7 y8 y9 y10 y11 y12 y13 y14 y15 y16 y17)) ∧ (∀ y0 y1 y2 y3 y4 y5 y6 y7 y8 y9 y10 y11 y12 y13 y14 y15 y16 y17, LeO (spec_l15Of.l1 k y0 y1 y2 y3 y4 y5 y6 y7 y8 y9 y10 y11 y12 y13 y14 y15 y16 y17) (spec_l15Of.l1 (k + 1) y0 y1 y2 y3 y4 y5 y6 y7 y8 y9 y10 y11 y12 y13 y14 y15 y16 y17))
 | 0 => ⟨fun _ _ _ _ _ _ _ _ _ _ _ _ _ _ _ _ _ _ r h => by simp [spec_l15Of.l0] at h, fun _ _ _ _ _ _ _ _ _ _ _ _ _ _ _ _ _ _ r h => by simp [spec_l15Of.l1] at h⟩
 | k + 1 => by
  obtain ⟨ih0, ih1⟩ := spec_l15Of.mono_l k
  refine ⟨?_, ?_⟩
  ·intro y0 y1 y2 y3 y4 y5 y6 y7 y8 y9 y10 y11 y12 y13 y14 y15 y16 y17
   unfold spec_l15Of.l0
   repeat' first
   | (with_reducible exact ih0 _ _ _ _ _ _ _ _ _ _ _ _ _ _ _ _ _ _)
   | (with_reducible exact ih1 _ _ _ _ _ _ _ _ _ _ _ _ _ _ _ _ _ _)
   | (with_reducible exact spec_l10Split.mono _ _ _ _)
   | (with_reducible exact LeO.refl _)
   | (with_reducible exact LeO.none _)
   | (with_reducible refine LeO.ite ?_ ?_)
   | (with_reducible refine LeO.bind ?_ (fun _ => ?_))
   | exact ih0 _ _ _ _ _ _ _ _ _ _ _ _ _ _ _ _ _ _
   | exact ih1 _ _ _ _ _ _ _ _ _ _ _ _ _ _ _ _ _ _
   | exact spec_l10Split.mono _ _ _ _
   | exact LeO.none _
   | refine LeO.ite ?_ ?_
   | refine LeO.bind ?_ (fun _ => ?_)
  ·intro y0 y1 y2 y3 y4 y5 y6 y7 y8 y9 y10 y11 y12 y13 y14 y15 y16 y17
   unfold spec_l15Of.l1
   repeat' first
   | (with_reducible exact ih0 _ _ _ _ _ _ _ _ _ _ _ _ _ _ _ _ _ _)
   | (with_reducible exact ih1 _ _ _ _ _ _ _ _ _ _ _ _ _ _ _ _ _ _)
   | (with_reducible exact spec_l10Split.mono _ _ _ _)
   | (with_reducible exact LeO.refl _)
   | (with_reducible exact LeO.none _)
   | (with_reducible refine LeO.ite ?_ ?_)
   | (with_reducible refine LeO.bind ?_ (fun _ => ?_))
   | exact ih0 _ _ _ _ _ _ _ _ _ _ _ _ _ _ _ _ _ _
   | exact ih1 _ _ _ _ _ _ _ _ _ _ _ _ _ _ _ _ _ _
   | exact spec_l10Split.mono _ _ _ _
   | exact LeO.none _
   | refine LeO.ite ?_ ?_
   | refine LeO.bind ?_ (fun _ => ?_)
theorem spec_l15Of.mono : ∀ a0 a1 a2 a3 a4 a5 a6 a7 a8 k, LeO (spec_l15Of.f k a0 a1 a2 a3 a4 a5 a6 a7 a8) (spec_l15Of.f (k + 1) a0 a1 a2 a3 a4 a5 a6 a7 a8) := by
 intro a0 a1 a2 a3 a4 a5 a6 a7 a8 k
 obtain ⟨ih0, ih1⟩ := spec_l15Of.mono_l k
 unfold spec_l15Of.f
 repeat' first
   | (with_reducible exact ih0 _ _ _ _ _ _ _ _ _ _ _ _ _ _ _ _ _ _)
   | (with_reducible exact ih1 _ _ _ _ _ _ _ _ _ _ _ _ _ _ _ _ _ _)
   | (with_reducible exact spec_l10Split.mono _ _ _ _)
   | (with_reducible exact LeO.refl _)
   | (with_reducible exact LeO.none _)
   | (with_reducible refine LeO.ite ?_ ?_)
   | (with_reducible refine LeO.bind ?_ (fun _ => ?_))
   | exact ih0 _ _ _ _ _ _ _ _ _ _ _ _ _ _ _ _ _ _
   | exact ih1 _ _ _ _ _ _ _ _ _ _ _ _ _ _ _ _ _ _
   | exact spec_l10Split.mono _ _ _ _
   | exact LeO.none _
   | refine LeO.ite ?_ ?_
   | refine LeO.bind ?_ (fun _ => ?_)
def spec_l15Of.T1 : Bool × List (List Nat × List Nat) := (true, [([], []), ([0], [0]), ([1], [1]), ([2], [2]), ([], []), ([4], [4]), ([5], [5]), ([6], [6]), ([], []), ([8], [8]), ([9], [9]), ([10], [10]), ([], []), ([12], [12]), ([13], [13]), ([14], [14]), ([], []), ([16], [16]), ([17], [17]), ([18], [18]), ([], []), ([], []), ([21], [21]), ([22], [22]), ([23], [23]), ([24], [24]), ([3, 7, 11, 15, 19, 20, 25], [3, 7, 11, 15, 19, 20, 25]), ([], []), ([27, 26, 25, 0, 1, 2, 3, 4, 5, 6, 7, 8, 9, 10, 11, 12, 13, 14, 15, 16, 17, 18, 19, 20, 21, 22, 23, 24, 25, 26, 27], [26, 27])])
def spec_l15Of.B1 : List Nat := [0, 1, 3, 7, 0, 16, 48, 112, 0, 256, 768, 1792, 0, 4096, 12288, 28672, 0, 65536, 196608, 458752, 0, 0, 2097152, 6291456, 14680064, 31457280, 67108863, 0, 268435455]
theorem spec_l15Of.tab1 : rtab .any (opsOf Try.f97 1) = spec_l15Of.T1 := by kernel_rfl
theorem spec_l15Of.bits1 : waitsOk spec_l15Of.T1.2 spec_l15Of.B1 = true := by kernel_rfl
def spec_l15Of.T5 : Bool × List (List Nat × List Nat) := (true, [([], []), ([0], [0]), ([1], [1]), ([2], [2]), ([], []), ([3, 4], [3, 4]), ([5], [5]), ([], []), ([7], [7]), ([8], [8]), ([9], [9]), ([], []), ([11], [11]), ([12], [12]), ([6, 10, 13], [6, 10, 13]), ([14], [14]), ([15], [15]), ([15], [15]), ([16, 14, 0, 1, 2, 3, 4, 5, 6, 7, 8, 9, 10, 11, 12, 13, 14, 15, 16], [16]), ([17, 18, 0, 1, 2, 3, 4, 5, 6, 7, 8, 9, 10, 11, 12, 13, 14, 15, 16, 17, 18], [17])])
def spec_l15Of.B5 : List Nat := [0, 1, 3, 7, 0, 31, 63, 0, 128, 384, 896, 0, 2048, 6144, 16383, 32767, 65535, 65535, 131071, 524287]
theorem spec_l15Of.tab5 : rtab .any (opsOf Try.f97 5) = spec_l15Of.T5 := by kernel_rfl
theorem spec_l15Of.bits5 : waitsOk spec_l15Of.T5.2 spec_l15Of.B5 = true := by kernel_rfl
set_option maxHeartbeats 8000000 in
set_option maxRecDepth 100000 in
theorem spec_l15Of.calls (k : Nat) (gb50 : Nat) (a0_0 : Int) (a0_1 : Int) (a0_2 : Int) (a0_3 : Int) (a0_4 : Int) (A0_5 : Option Addr) (c0_5 : Nat) (l0_5 : List Int) (A0_6 : Option Addr) (c0_6 : Nat) (l0_6 : List Int) (A0_7 : Option Addr) (c0_7 : Nat) (l0_7 : List (List Int)) (a1 : Int) (r1 : Int) (r2 : Int) (r3 : Int) (r4 : Int) (r5 : Int) (r6 : Int) (r7 : List Int) (r8 : List Int) (r9 : List (List Int)) (w : World) (hbx0 : w.heap[gb50]? = some (.cells #[.int .i64 a0_0, .int .i64 a0_1, .int .i64 a0_2, .int .i64 a0_3, .int .i64 a0_4, .slice A0_5 l0_5.length c0_5, .slice A0_6 l0_6.length c0_6, .slice A0_7 l0_7.length c0_7] 36 (0, 0))) (hr0_5 : Kd.C (Kd.int .i64) w A0_5 l0_5.length l0_5) (hc0_5 : l0_5.length ≤ c0_5) (hr0_6 : Kd.C (Kd.int .i64) w A0_6 l0_6.length l0_6) (hc0_6 : l0_6.length ≤ c0_6) (hr0_7 : Kd.C (Kd.slice 2 (Kd.int .i64)) w A0_7 l0_7.length l0_7) (hc0_7 : l0_7.length ≤ c0_7) (h : spec_l15Of.f k a0_0 a0_1 a0_2 a0_3 a0_4 l0_5 l0_6 l0_7 a1 = some (r1, r2, r3, r4, r5, r6, r7, r8, r9)) :
  Calls Try.prog 97 #[.pointer (some ⟨gb50, 0, none⟩), .int .i64 a1] w fun e w' => ∃ v6_ v7_ v8_ : Value, e = .returned (.agg #[.int .i64 r1, .int .i64 r2, .int .i64 r3, .int .i64 r4, .int .i64 r5, .int .i64 r6, v6_, v7_, v8_]) ∧ Kd.R (Kd.int .i64) 2 w' w.heap.size (fun k_ => some k_ ≠ (v7_ : Value).ownBlock) v6_ r7 ∧ Kd.R (Kd.int .i64) 2 w' w.heap.size (fun k_ => some k_ ≠ (v6_ : Value).ownBlock) v7_ r8 ∧ Kd.S (Kd.slice 2 (Kd.int .i64)) 24 w' w.heap.size (fun k_ => some k_ ≠ (v6_ : Value).ownBlock ∧ some k_ ≠ (v7_ : Value).ownBlock) v8_ r9 ∧ Below w.heap.size w w' := by
 have hu47 := Try.underlying47
 have HR0_5 := Aside0.mk hr0_5
 have HC0_5 := Aside0.mk hc0_5
 clear hr0_5 hc0_5
 have HR0_6 := Aside0.mk hr0_6
 have HC0_6 := Aside0.mk hc0_6
 clear hr0_6 hc0_6
 have HR0_7 := Aside0.mk hr0_7
 have HC0_7 := Aside0.mk hc0_7
 clear hr0_7 hc0_7
 have BK50 := Aside0.mk hbx0
 clear hbx0
 have HB := Aside0.mk (Below.refl w.heap.size w)
 have H : ((spec_l1Ints.f l0_6).bind fun t223 => (spec_l15Of.l0 k a1 0 a0_0 a0_1 a0_2 a0_3 a0_4 l0_5 l0_6 l0_7 a0_0 a0_1 a0_2 a0_3 a0_4 a1 ([] : List Int) t223)) = some (r1, r2, r3, r4, r5, r6, r7, r8, r9) := h
 clear h
 obtain ⟨t223, A3, H⟩ := bnd H
 have H' := Aside0.mk H
 clear H
 go_enter Try.func97, Try.ntmps97
 try go_wp2_with (first | ((with_reducible refine gate_dst (N := 4) rfl ?_); refine bev 4 47 #[.int .i64 0, .int .i64 0, .int .i64 0, .int .i64 0, .int .i64 0, .int .i64 0, .slice none 0 0, .slice none 0 0, .slice none 0 0] ?_; intro gb222 hg w4 hbox hb; have BK222 := am hbox; have GW222 := gwe hg; have GE222 := gwe hg; replace HB := hbs hb; have NB50_222 := nbl hg BK50; have NB222_50 := nbg hg BK50; replace BK50 := bkb BK50 hb; clear hb hbox hg))
 replace BK50 := am (blk_drew BK50.out)
 replace BK222 := am (blk_drew BK222.out)
 replace HB := am (below_drew1 HB.out)
 refine start_ (n := 29) (S := fun w' => w'.cell? ⟨gb50, 0, none⟩ = some (.int .i64 a0_0) ∧ w'.cell? ⟨gb50, 1, none⟩ = some (.int .i64 a0_1) ∧ w'.cell? ⟨gb50, 2, none⟩ = some (.int .i64 a0_2) ∧ w'.cell? ⟨gb50, 3, none⟩ = some (.int .i64 a0_3) ∧ w'.cell? ⟨gb50, 4, none⟩ = some (.int .i64 a0_4) ∧ w'.cell? ⟨gb50, 5, none⟩ = some (.slice A0_5 l0_5.length c0_5) ∧ w'.cell? ⟨gb50, 6, none⟩ = some (.slice A0_6 l0_6.length c0_6) ∧ w'.cell? ⟨gb50, 7, none⟩ = some (.slice A0_7 l0_7.length c0_7)) (ds := []) #[false, false, false, false, false, false, false, false, false, false, false, false, false, false, false, false, false, false, false, false, false, false, false, false, false, false, false, false, false] (by kernel_rfl) rfl rfl ⟨(blk_cell BK50.out 0).trans rfl, (blk_cell BK50.out 1).trans rfl, (blk_cell BK50.out 2).trans rfl, (blk_cell BK50.out 3).trans rfl, (blk_cell BK50.out 4).trans rfl, (blk_cell BK50.out 5).trans rfl, (blk_cell BK50.out 6).trans rfl, (blk_cell BK50.out 7).trans rfl⟩ (fun hHeld => ?_); refine with_tabW spec_l15Of.tab1 spec_l15Of.bits1 (fun HT_ HW_ => ?_)
 generalize w4.drew = w5 at BK50 BK222 HB hHeld ⊢
 refine pu_ 0 11 HT_ ?_
 refine pu_ 1 12 HT_ ?_
 refine pu_ 2 13 HT_ ?_
 refine pu_ 4 15 HT_ ?_
 refine pu_ 5 16 HT_ ?_
 refine pu_ 6 17 HT_ ?_
 refine pu_ 8 19 HT_ ?_
 refine pu_ 9 20 HT_ ?_
 refine pu_ 10 21 HT_ ?_
 refine pu_ 12 23 HT_ ?_
 refine pu_ 13 24 HT_ ?_
 refine pu_ 14 25 HT_ ?_
 refine pu_ 16 27 HT_ ?_
 refine pu_ 17 28 HT_ ?_
 refine pu_ 18 29 HT_ ?_
 refine pu_ 20 31 HT_ ?_
 refine pu_ 21 32 HT_ ?_
 refine pu_ 22 33 HT_ ?_
 refine pu_ 23 34 HT_ ?_
 refine tk_ 3 14 HT_ HW_ hHeld ?_
 refine tk_ 7 18 HT_ HW_ hHeld ?_
 refine tk_ 11 22 HT_ HW_ hHeld ?_
 refine tk_ 15 26 HT_ HW_ hHeld ?_
 refine tk_ 19 30 HT_ HW_ hHeld ?_
 refine tk_ 24 35 HT_ HW_ hHeld ?_
 refine join_ (σ := Value × Nat) 1 #[true, true, true, true, true, true, true, true, true, true, true, true, true, true, true, true, true, true, true, true, true, true, true, true, true, true, true, true, false] (fun s_ => [(36, s_.1), (5, .pointer (some ⟨s_.2, 0, none⟩)), (37, .agg #[.int .i64 a0_0, .int .i64 a0_1, .int .i64 a0_2, .int .i64 a0_3, .int .i64 a0_4, .int .i64 a1, .slice none 0 0, s_.1, .slice none 0 0])]) (fun s_ w' => (w'.cell? ⟨gb50, 0, none⟩ = some (.int .i64 a0_0) ∧ w'.cell? ⟨gb50, 1, none⟩ = some (.int .i64 a0_1) ∧ w'.cell? ⟨gb50, 2, none⟩ = some (.int .i64 a0_2) ∧ w'.cell? ⟨gb50, 3, none⟩ = some (.int .i64 a0_3) ∧ w'.cell? ⟨gb50, 4, none⟩ = some (.int .i64 a0_4) ∧ w'.cell? ⟨gb50, 5, none⟩ = some (.slice A0_5 l0_5.length c0_5) ∧ w'.cell? ⟨gb50, 6, none⟩ = some (.slice A0_6 l0_6.length c0_6) ∧ w'.cell? ⟨gb50, 7, none⟩ = some (.slice A0_7 l0_7.length c0_7)) ∧ (Kd.R (Kd.int .i64) 2 w' w.heap.size (fun _ => True) s_.1 t223) ∧ (w'.heap[gb222]? = some (.cells #[.int .i64 0, .int .i64 0, .int .i64 0, .int .i64 0, .int .i64 0, .int .i64 0, .slice none 0 0, .slice none 0 0, .slice none 0 0] 47 (0, 0))) ∧ (w'.heap[s_.2]? = some (.cells #[.int .i64 0, .int .i64 0, .int .i64 0, .int .i64 0, .int .i64 0, .int .i64 0, .slice none 0 0, .slice none 0 0, .slice none 0 0] 47 (0, 0))) ∧ (w'.heap[gb50]? = some (.cells #[.int .i64 a0_0, .int .i64 a0_1, .int .i64 a0_2, .int .i64 a0_3, .int .i64 a0_4, .slice A0_5 l0_5.length c0_5, .slice A0_6 l0_6.length c0_6, .slice A0_7 l0_7.length c0_7] 36 (0, 0))) ∧ (w.heap.size ≤ s_.2) ∧ (w.heap.size ≤ s_.2) ∧ (gb222 ≠ s_.2) ∧ (s_.2 ≠ gb222) ∧ (gb50 ≠ s_.2) ∧ (s_.2 ≠ gb50) ∧ (Below w.heap.size w w')) ?_ ?_
 rotate_left
 ·intro hCont
  refine two_ (i := 25) (j := 27) (Ni := some 36) (Nj := some 5) #[true, true, true, true, true, true, true, true, true, true, true, true, true, true, true, true, true, true, true, true, true, true, true, true, true, true, false, false, false] #[true, true, true, true, true, true, true, true, true, true, true, true, true, true, true, true, true, true, true, true, true, true, true, true, true, false, false, true, false] rfl rfl rfl rfl (two_of HT_.out (by kernel_rfl)) (by decide) (by decide) (fun K hK => ?_) (fun K hK => ?_)
  ·skip
   refine gs_ Try.func134 #[.slice A0_6 l0_6.length c0_6] ?_
   with_reducible refine (spec_l1Ints.calls _ _ l0_6 t223 _ ?_ ?_ A3.out).mono ?_
   exact cpl HR0_6.out
   exact HC0_6.out
   rintro e w6 ⟨v224, rfl, ho0, hb⟩
   refine ⟨_, rfl, ?_⟩
   have HO225 := rlw ho0
   replace BK50 := bkb BK50 hb
   replace BK222 := bkb BK222 hb
   replace HB := hbs hb
   (try clear hb)
   (try clear ho0)
   obtain ⟨Ao7, co7, eo7⟩ := Kd.R_slice HO225.out
   (first | subst eo7 | (injection eo7 with f1_ f2_ f3_; have f4_ := f1_.symm; have f5_ := f3_.symm; clear f1_ f2_ f3_; subst f4_; subst f5_))
   refine hK.out _ _ ⟨(blk_cell BK50.out 0).trans rfl, (blk_cell BK50.out 1).trans rfl, (blk_cell BK50.out 2).trans rfl, (blk_cell BK50.out 3).trans rfl, (blk_cell BK50.out 4).trans rfl, (blk_cell BK50.out 5).trans rfl, (blk_cell BK50.out 6).trans rfl, (blk_cell BK50.out 7).trans rfl⟩ (fun hHeld => ?_)
   clear hK K
   refine nm_ 36 ?_
   refine pu_ 26 37 HT_ ?_
   refine on_ 27 HT_ (fun K hK => ?_)
   refine bst 5 47 #[.int .i64 0, .int .i64 0, .int .i64 0, .int .i64 0, .int .i64 0, .int .i64 0, .slice none 0 0, .slice none 0 0, .slice none 0 0] ?_
   intro gb226 hg w8 hbox hb
   replace HO225 := rbl HO225 hb
   have BK226 := am hbox
   have GW226 := gwe hg
   have GE226 := gwe hg
   replace HB := hbs hb
   have NB50_226 := nbl hg BK50
   have NB226_50 := nbg hg BK50
   replace BK50 := bkb BK50 hb
   have NB222_226 := nbl hg BK222
   have NB226_222 := nbg hg BK222
   replace BK222 := bkb BK222 hb
   clear hb hbox hg
   refine hK.out _ _ ⟨(blk_cell BK50.out 0).trans rfl, (blk_cell BK50.out 1).trans rfl, (blk_cell BK50.out 2).trans rfl, (blk_cell BK50.out 3).trans rfl, (blk_cell BK50.out 4).trans rfl, (blk_cell BK50.out 5).trans rfl, (blk_cell BK50.out 6).trans rfl, (blk_cell BK50.out 7).trans rfl⟩ (fun hHeld => ?_)
   clear hK K
   refine nm_ 5 ?_
   exact norm_ (by simp only [putAll, Act.put, List.setIfInBounds_toArray, List.set_cons_zero, List.set_cons_succ]) (hCont (.slice Ao7 t223.length co7, gb226) _ ⟨hHeld, (rpl HO225.out), (bpl BK222.out), (bpl BK226.out), (bpl BK50.out), GW226.out, GE226.out, NB222_226.out, NB226_222.out, NB50_226.out, NB226_50.out, bnx⟩)
  ·skip
   refine bst 5 47 #[.int .i64 0, .int .i64 0, .int .i64 0, .int .i64 0, .int .i64 0, .int .i64 0, .slice none 0 0, .slice none 0 0, .slice none 0 0] ?_
   intro gb226 hg w6 hbox hb
   have BK226 := am hbox
   have GW226 := gwe hg
   have GE226 := gwe hg
   replace HB := hbs hb
   have NB50_226 := nbl hg BK50
   have NB226_50 := nbg hg BK50
   replace BK50 := bkb BK50 hb
   have NB222_226 := nbl hg BK222
   have NB226_222 := nbg hg BK222
   replace BK222 := bkb BK222 hb
   clear hb hbox hg
   refine hK.out _ _ ⟨(blk_cell BK50.out 0).trans rfl, (blk_cell BK50.out 1).trans rfl, (blk_cell BK50.out 2).trans rfl, (blk_cell BK50.out 3).trans rfl, (blk_cell BK50.out 4).trans rfl, (blk_cell BK50.out 5).trans rfl, (blk_cell BK50.out 6).trans rfl, (blk_cell BK50.out 7).trans rfl⟩ (fun hHeld => ?_)
   clear hK K
   refine nm_ 5 ?_
   refine on_ 25 HT_ (fun K hK => ?_)
   refine gs_ Try.func134 #[.slice A0_6 l0_6.length c0_6] ?_
   with_reducible refine (spec_l1Ints.calls _ _ l0_6 t223 _ ?_ ?_ A3.out).mono ?_
   exact cpl HR0_6.out
   exact HC0_6.out
   rintro e w7 ⟨v224, rfl, ho0, hb⟩
   refine ⟨_, rfl, ?_⟩
   have HO225 := rlw ho0
   replace BK50 := bkb BK50 hb
   replace BK222 := bkb BK222 hb
   replace BK226 := bkb BK226 hb
   replace HB := hbs hb
   (try clear hb)
   (try clear ho0)
   obtain ⟨Ao8, co8, eo8⟩ := Kd.R_slice HO225.out
   (first | subst eo8 | (injection eo8 with f1_ f2_ f3_; have f4_ := f1_.symm; have f5_ := f3_.symm; clear f1_ f2_ f3_; subst f4_; subst f5_))
   refine hK.out _ _ ⟨(blk_cell BK50.out 0).trans rfl, (blk_cell BK50.out 1).trans rfl, (blk_cell BK50.out 2).trans rfl, (blk_cell BK50.out 3).trans rfl, (blk_cell BK50.out 4).trans rfl, (blk_cell BK50.out 5).trans rfl, (blk_cell BK50.out 6).trans rfl, (blk_cell BK50.out 7).trans rfl⟩ (fun hHeld => ?_)
   clear hK K
   refine nm_ 36 ?_
   refine pu_ 26 37 HT_ ?_
   exact norm_ (by simp only [putAll, Act.put, List.setIfInBounds_toArray, List.set_cons_zero, List.set_cons_succ]) (hCont (.slice Ao8 t223.length co8, gb226) _ ⟨hHeld, (rpl HO225.out), (bpl BK222.out), (bpl BK226.out), (bpl BK50.out), GW226.out, GE226.out, NB222_226.out, NB226_222.out, NB50_226.out, NB226_50.out, bnx⟩)
 rintro ⟨v224, gb226⟩ w9 ⟨hS_, h0_, h1_, h2_, h3_, h4_, h5_, h6_, h7_, h8_, h9_, h10_⟩
 have n0_ : Aside0 (Kd.R (Kd.int .i64) 2 w9 w.heap.size (fun _ => True) v224 t223) := ⟨h0_⟩
 have n1_ : Aside0 (w9.heap[gb222]? = some (.cells #[.int .i64 0, .int .i64 0, .int .i64 0, .int .i64 0, .int .i64 0, .int .i64 0, .slice none 0 0, .slice none 0 0, .slice none 0 0] 47 (0, 0))) := ⟨h1_⟩
 have n2_ : Aside0 (w9.heap[gb226]? = some (.cells #[.int .i64 0, .int .i64 0, .int .i64 0, .int .i64 0, .int .i64 0, .int .i64 0, .slice none 0 0, .slice none 0 0, .slice none 0 0] 47 (0, 0))) := ⟨h2_⟩
 have n3_ : Aside0 (w9.heap[gb50]? = some (.cells #[.int .i64 a0_0, .int .i64 a0_1, .int .i64 a0_2, .int .i64 a0_3, .int .i64 a0_4, .slice A0_5 l0_5.length c0_5, .slice A0_6 l0_6.length c0_6, .slice A0_7 l0_7.length c0_7] 36 (0, 0))) := ⟨h3_⟩
 have n4_ : Aside0 (w.heap.size ≤ gb226) := ⟨h4_⟩
 have n5_ : Aside0 (w.heap.size ≤ gb226) := ⟨h5_⟩
 have n6_ : Aside0 (gb222 ≠ gb226) := ⟨h6_⟩
 have n7_ : Aside0 (gb226 ≠ gb222) := ⟨h7_⟩
 have n8_ : Aside0 (gb50 ≠ gb226) := ⟨h8_⟩
 have n9_ : Aside0 (gb226 ≠ gb50) := ⟨h9_⟩
 have n10_ : Aside0 (Below w.heap.size w w9) := ⟨h10_⟩
 clear BK50 BK222 HB h0_ h1_ h2_ h3_ h4_ h5_ h6_ h7_ h8_ h9_ h10_
 have HO225 := n0_
 have BK222 := n1_
 have BK226 := n2_
 have BK50 := n3_
 have GW226 := n4_
 have GE226 := n5_
 have NB222_226 := n6_
 have NB226_222 := n7_
 have NB50_226 := n8_
 have NB226_50 := n9_
 have HB := n10_
 clear n0_ n1_ n2_ n3_ n4_ n5_ n6_ n7_ n8_ n9_ n10_
 have hHeld : w9.cell? ⟨gb50, 0, none⟩ = some (.int .i64 a0_0) ∧ w9.cell? ⟨gb50, 1, none⟩ = some (.int .i64 a0_1) ∧ w9.cell? ⟨gb50, 2, none⟩ = some (.int .i64 a0_2) ∧ w9.cell? ⟨gb50, 3, none⟩ = some (.int .i64 a0_3) ∧ w9.cell? ⟨gb50, 4, none⟩ = some (.int .i64 a0_4) ∧ w9.cell? ⟨gb50, 5, none⟩ = some (.slice A0_5 l0_5.length c0_5) ∧ w9.cell? ⟨gb50, 6, none⟩ = some (.slice A0_6 l0_6.length c0_6) ∧ w9.cell? ⟨gb50, 7, none⟩ = some (.slice A0_7 l0_7.length c0_7) := hS_
 obtain ⟨Ao10, co10, eo10⟩ := Kd.R_slice HO225.out
 (first | subst eo10 | (injection eo10 with f1_ f2_ f3_; have f4_ := f1_.symm; have f5_ := f3_.symm; clear f1_ f2_ f3_; subst f4_; subst f5_))
 refine norm_ (a' := ?_) ?_ ?_
 rotate_left
 ·simp only [putAll, Act.put, List.setIfInBounds_toArray, List.set_cons_zero, List.set_cons_succ]
  rfl
 refine on_ 28 HT_ (fun K hK => ?_)
 have hs11 : w9.cell? ⟨gb226, 0, none⟩ = some (.int .i64 0) := (blk_cell BK226.out 0).trans rfl
 have hfs11 := blk_frozen BK226.out 0
 have hns11_0 := NB50_226.out
 have hns11_1 := NB222_226.out
 have hms11_0 := NB226_50.out
 have hms11_1 := NB226_222.out
 have hs12 : w9.cell? ⟨gb226, 1, none⟩ = some (.int .i64 0) := (blk_cell BK226.out 1).trans rfl
 have hfs12 := blk_frozen BK226.out 1
 have hns12_0 := NB50_226.out
 have hns12_1 := NB222_226.out
 have hms12_0 := NB226_50.out
 have hms12_1 := NB226_222.out
 have hs13 : w9.cell? ⟨gb226, 2, none⟩ = some (.int .i64 0) := (blk_cell BK226.out 2).trans rfl
 have hfs13 := blk_frozen BK226.out 2
 have hns13_0 := NB50_226.out
 have hns13_1 := NB222_226.out
 have hms13_0 := NB226_50.out
 have hms13_1 := NB226_222.out
 have hs14 : w9.cell? ⟨gb226, 3, none⟩ = some (.int .i64 0) := (blk_cell BK226.out 3).trans rfl
 have hfs14 := blk_frozen BK226.out 3
 have hns14_0 := NB50_226.out
 have hns14_1 := NB222_226.out
 have hms14_0 := NB226_50.out
 have hms14_1 := NB226_222.out
 have hs15 : w9.cell? ⟨gb226, 4, none⟩ = some (.int .i64 0) := (blk_cell BK226.out 4).trans rfl
 have hfs15 := blk_frozen BK226.out 4
 have hns15_0 := NB50_226.out
 have hns15_1 := NB222_226.out
 have hms15_0 := NB226_50.out
 have hms15_1 := NB226_222.out
 have hs16 : w9.cell? ⟨gb226, 5, none⟩ = some (.int .i64 0) := (blk_cell BK226.out 5).trans rfl
 have hfs16 := blk_frozen BK226.out 5
 have hns16_0 := NB50_226.out
 have hns16_1 := NB222_226.out
 have hms16_0 := NB226_50.out
 have hms16_1 := NB226_222.out
 have hs17 : w9.cell? ⟨gb226, 6, none⟩ = some (.slice none 0 0) := (blk_cell BK226.out 6).trans rfl
 have hfs17 := blk_frozen BK226.out 6
 have hns17_0 := NB50_226.out
 have hns17_1 := NB222_226.out
 have hms17_0 := NB226_50.out
 have hms17_1 := NB226_222.out
 have hs18 : w9.cell? ⟨gb226, 7, none⟩ = some (.slice none 0 0) := (blk_cell BK226.out 7).trans rfl
 have hfs18 := blk_frozen BK226.out 7
 have hns18_0 := NB50_226.out
 have hns18_1 := NB222_226.out
 have hms18_0 := NB226_50.out
 have hms18_1 := NB226_222.out
 have hs19 : w9.cell? ⟨gb226, 8, none⟩ = some (.slice none 0 0) := (blk_cell BK226.out 8).trans rfl
 have hfs19 := blk_frozen BK226.out 8
 have hns19_0 := NB50_226.out
 have hns19_1 := NB222_226.out
 have hms19_0 := NB226_50.out
 have hms19_1 := NB226_222.out
 refine skip_ (w1 := ?_) (by rfl) rfl ?_ ?_
 rotate_left
 ·go_simp
  rfl
 refine hK.out _ _ ⟨((cell_far (p := ⟨gb226, _, none⟩) NB50_226.out _).trans (((cell_far (p := ⟨gb226, _, none⟩) NB50_226.out _).trans (((cell_far (p := ⟨gb226, _, none⟩) NB50_226.out _).trans (((cell_far (p := ⟨gb226, _, none⟩) NB50_226.out _).trans (((cell_far (p := ⟨gb226, _, none⟩) NB50_226.out _).trans (((cell_far (p := ⟨gb226, _, none⟩) NB50_226.out _).trans (((cell_far (p := ⟨gb226, _, none⟩) NB50_226.out _).trans (((cell_far (p := ⟨gb226, _, none⟩) NB50_226.out _).trans (((cell_far (p := ⟨gb226, _, none⟩) NB50_226.out _).trans (hHeld.1)))))))))))))))))), ((cell_far (p := ⟨gb226, _, none⟩) NB50_226.out _).trans (((cell_far (p := ⟨gb226, _, none⟩) NB50_226.out _).trans (((cell_far (p := ⟨gb226, _, none⟩) NB50_226.out _).trans (((cell_far (p := ⟨gb226, _, none⟩) NB50_226.out _).trans (((cell_far (p := ⟨gb226, _, none⟩) NB50_226.out _).trans (((cell_far (p := ⟨gb226, _, none⟩) NB50_226.out _).trans (((cell_far (p := ⟨gb226, _, none⟩) NB50_226.out _).trans (((cell_far (p := ⟨gb226, _, none⟩) NB50_226.out _).trans (((cell_far (p := ⟨gb226, _, none⟩) NB50_226.out _).trans (hHeld.2.1)))))))))))))))))), ((cell_far (p := ⟨gb226, _, none⟩) NB50_226.out _).trans (((cell_far (p := ⟨gb226, _, none⟩) NB50_226.out _).trans (((cell_far (p := ⟨gb226, _, none⟩) NB50_226.out _).trans (((cell_far (p := ⟨gb226, _, none⟩) NB50_226.out _).trans (((cell_far (p := ⟨gb226, _, none⟩) NB50_226.out _).trans (((cell_far (p := ⟨gb226, _, none⟩) NB50_226.out _).trans (((cell_far (p := ⟨gb226, _, none⟩) NB50_226.out _).trans (((cell_far (p := ⟨gb226, _, none⟩) NB50_226.out _).trans (((cell_far (p := ⟨gb226, _, none⟩) NB50_226.out _).trans (hHeld.2.2.1)))))))))))))))))), ((cell_far (p := ⟨gb226, _, none⟩) NB50_226.out _).trans (((cell_far (p := ⟨gb226, _, none⟩) NB50_226.out _).trans (((cell_far (p := ⟨gb226, _, none⟩) NB50_226.out _).trans (((cell_far (p := ⟨gb226, _, none⟩) NB50_226.out _).trans (((cell_far (p := ⟨gb226, _, none⟩) NB50_226.out _).trans (((cell_far (p := ⟨gb226, _, none⟩) NB50_226.out _).trans (((cell_far (p := ⟨gb226, _, none⟩) NB50_226.out _).trans (((cell_far (p := ⟨gb226, _, none⟩) NB50_226.out _).trans (((cell_far (p := ⟨gb226, _, none⟩) NB50_226.out _).trans (hHeld.2.2.2.1)))))))))))))))))), ((cell_far (p := ⟨gb226, _, none⟩) NB50_226.out _).trans (((cell_far (p := ⟨gb226, _, none⟩) NB50_226.out _).trans (((cell_far (p := ⟨gb226, _, none⟩) NB50_226.out _).trans (((cell_far (p := ⟨gb226, _, none⟩) NB50_226.out _).trans (((cell_far (p := ⟨gb226, _, none⟩) NB50_226.out _).trans (((cell_far (p := ⟨gb226, _, none⟩) NB50_226.out _).trans (((cell_far (p := ⟨gb226, _, none⟩) NB50_226.out _).trans (((cell_far (p := ⟨gb226, _, none⟩) NB50_226.out _).trans (((cell_far (p := ⟨gb226, _, none⟩) NB50_226.out _).trans (hHeld.2.2.2.2.1)))))))))))))))))), ((cell_far (p := ⟨gb226, _, none⟩) NB50_226.out _).trans (((cell_far (p := ⟨gb226, _, none⟩) NB50_226.out _).trans (((cell_far (p := ⟨gb226, _, none⟩) NB50_226.out _).trans (((cell_far (p := ⟨gb226, _, none⟩) NB50_226.out _).trans (((cell_far (p := ⟨gb226, _, none⟩) NB50_226.out _).trans (((cell_far (p := ⟨gb226, _, none⟩) NB50_226.out _).trans (((cell_far (p := ⟨gb226, _, none⟩) NB50_226.out _).trans (((cell_far (p := ⟨gb226, _, none⟩) NB50_226.out _).trans (((cell_far (p := ⟨gb226, _, none⟩) NB50_226.out _).trans (hHeld.2.2.2.2.2.1)))))))))))))))))), ((cell_far (p := ⟨gb226, _, none⟩) NB50_226.out _).trans (((cell_far (p := ⟨gb226, _, none⟩) NB50_226.out _).trans (((cell_far (p := ⟨gb226, _, none⟩) NB50_226.out _).trans (((cell_far (p := ⟨gb226, _, none⟩) NB50_226.out _).trans (((cell_far (p := ⟨gb226, _, none⟩) NB50_226.out _).trans (((cell_far (p := ⟨gb226, _, none⟩) NB50_226.out _).trans (((cell_far (p := ⟨gb226, _, none⟩) NB50_226.out _).trans (((cell_far (p := ⟨gb226, _, none⟩) NB50_226.out _).trans (((cell_far (p := ⟨gb226, _, none⟩) NB50_226.out _).trans (hHeld.2.2.2.2.2.2.1)))))))))))))))))), ((cell_far (p := ⟨gb226, _, none⟩) NB50_226.out _).trans (((cell_far (p := ⟨gb226, _, none⟩) NB50_226.out _).trans (((cell_far (p := ⟨gb226, _, none⟩) NB50_226.out _).trans (((cell_far (p := ⟨gb226, _, none⟩) NB50_226.out _).trans (((cell_far (p := ⟨gb226, _, none⟩) NB50_226.out _).trans (((cell_far (p := ⟨gb226, _, none⟩) NB50_226.out _).trans (((cell_far (p := ⟨gb226, _, none⟩) NB50_226.out _).trans (((cell_far (p := ⟨gb226, _, none⟩) NB50_226.out _).trans (((cell_far (p := ⟨gb226, _, none⟩) NB50_226.out _).trans (hHeld.2.2.2.2.2.2.2))))))))))))))))))⟩ (fun hHeld => ?_)
 clear hK K
 refine done_ (done_of HT_.out (by kernel_rfl)) ?_
 try go_wp2
 go_loopg [6] k (fun kq v6 w' => ∃ (x6_1 : Int) (x227006_1 : List Int) (u227006 : Value), v6 = .int .i64 x6_1 ∧ Aside0 (spec_l15Of.l0 kq a1 x6_1 a0_0 a0_1 a0_2 a0_3 a0_4 l0_5 l0_6 l0_7 a0_0 a0_1 a0_2 a0_3 a0_4 a1 x227006_1 t223 = some (r1, r2, r3, r4, r5, r6, r7, r8, r9)) ∧ Aside0 (kq ≤ k) ∧ Aside0 (Kd.R (Kd.int .i64) 2 w' w.heap.size (fun k_ => some k_ ≠ ((.slice Ao10 t223.length co10) : Value).ownBlock) u227006 x227006_1) ∧ Aside0 (Kd.R (Kd.int .i64) 2 w' w.heap.size (fun k_ => some k_ ≠ (u227006 : Value).ownBlock) (.slice Ao10 t223.length co10) t223) ∧ Aside0 (w'.heap[gb50]? = some (.cells #[.int .i64 a0_0, .int .i64 a0_1, .int .i64 a0_2, .int .i64 a0_3, .int .i64 a0_4, (.slice A0_5 l0_5.length c0_5), (.slice A0_6 l0_6.length c0_6), (.slice A0_7 l0_7.length c0_7)] 36 (0, 0))) ∧ Aside0 (w'.heap[gb222]? = some (.cells #[.int .i64 0, .int .i64 0, .int .i64 0, .int .i64 0, .int .i64 0, .int .i64 0, (.slice none 0 0), (.slice none 0 0), (.slice none 0 0)] 47 (0, 0))) ∧ Aside0 (w'.heap[gb226]? = some (.cells #[.int .i64 a0_0, .int .i64 a0_1, .int .i64 a0_2, .int .i64 a0_3, .int .i64 a0_4, .int .i64 a1, u227006, (.slice Ao10 t223.length co10), (.slice none 0 0)] 47 (0, 0))) ∧ Aside0 (Below w.heap.size w w'))
 case atStart => exact ⟨(0), (([] : List Int)), (.slice none 0 0), rq, H', ⟨Nat.le_refl _⟩, ⟨by first | exact Kd.R_nil _ _ _ _ _ | exact Kd.N_nil _ _ _ _ _ | exact Kd.V_nil _ _ _ _ _ | exact Kd.Q_nil _ _ _ _ _ | exact Kd.S_nil _ _ _ _ _⟩, ⟨by (with_reducible repeat (first | apply Kd.R_alloc | apply Kd.R_drewN | apply Kd.R_drew)); exact Kd.R_mono (Kd.R_far (p := ⟨gb226, 8, none⟩) (Kd.R_far (p := ⟨gb226, 7, none⟩) (Kd.R_far (p := ⟨gb226, 6, none⟩) (Kd.R_far (p := ⟨gb226, 5, none⟩) (Kd.R_far (p := ⟨gb226, 4, none⟩) (Kd.R_far (p := ⟨gb226, 3, none⟩) (Kd.R_far (p := ⟨gb226, 2, none⟩) (Kd.R_far (p := ⟨gb226, 1, none⟩) (Kd.R_far (p := ⟨gb226, 0, none⟩) (Kd.R_types HO225.out BK226.out (by decide)) (fun _ hk => hk.2) (.int .i64 a0_0)) (fun _ hk => hk.2) (.int .i64 a0_1)) (fun _ hk => hk.2) (.int .i64 a0_2)) (fun _ hk => hk.2) (.int .i64 a0_3)) (fun _ hk => hk.2) (.int .i64 a0_4)) (fun _ hk => hk.2) (.int .i64 a1)) (fun _ hk => hk.2) (.slice none 0 0)) (fun _ hk => hk.2) (.slice Ao10 t223.length co10)) (fun _ hk => hk.2) (.slice none 0 0)) (fun _ hk => (by simp [Value.ownBlock]))⟩, ⟨by (with_reducible repeat (first | refine blk_drewN ?_ _ | refine blk_drew ?_ | refine blk_alloc ?_ _)); refine blk_far ?_ NB50_226.out _; (with_reducible repeat (first | refine blk_drewN ?_ _ | refine blk_drew ?_ | refine blk_alloc ?_ _)); refine blk_far ?_ NB50_226.out _; (with_reducible repeat (first | refine blk_drewN ?_ _ | refine blk_drew ?_ | refine blk_alloc ?_ _)); refine blk_far ?_ NB50_226.out _; (with_reducible repeat (first | refine blk_drewN ?_ _ | refine blk_drew ?_ | refine blk_alloc ?_ _)); refine blk_far ?_ NB50_226.out _; (with_reducible repeat (first | refine blk_drewN ?_ _ | refine blk_drew ?_ | refine blk_alloc ?_ _)); refine blk_far ?_ NB50_226.out _; (with_reducible repeat (first | refine blk_drewN ?_ _ | refine blk_drew ?_ | refine blk_alloc ?_ _)); refine blk_far ?_ NB50_226.out _; (with_reducible repeat (first | refine blk_drewN ?_ _ | refine blk_drew ?_ | refine blk_alloc ?_ _)); refine blk_far ?_ NB50_226.out _; (with_reducible repeat (first | refine blk_drewN ?_ _ | refine blk_drew ?_ | refine blk_alloc ?_ _)); refine blk_far ?_ NB50_226.out _; (with_reducible repeat (first | refine blk_drewN ?_ _ | refine blk_drew ?_ | refine blk_alloc ?_ _)); refine blk_far ?_ NB50_226.out _; (with_reducible repeat (first | refine blk_drewN ?_ _ | refine blk_drew ?_ | refine blk_alloc ?_ _)); exact BK50.out⟩, ⟨by (with_reducible repeat (first | refine blk_drewN ?_ _ | refine blk_drew ?_ | refine blk_alloc ?_ _)); refine blk_far ?_ NB222_226.out _; (with_reducible repeat (first | refine blk_drewN ?_ _ | refine blk_drew ?_ | refine blk_alloc ?_ _)); refine blk_far ?_ NB222_226.out _; (with_reducible repeat (first | refine blk_drewN ?_ _ | refine blk_drew ?_ | refine blk_alloc ?_ _)); refine blk_far ?_ NB222_226.out _; (with_reducible repeat (first | refine blk_drewN ?_ _ | refine blk_drew ?_ | refine blk_alloc ?_ _)); refine blk_far ?_ NB222_226.out _; (with_reducible repeat (first | refine blk_drewN ?_ _ | refine blk_drew ?_ | refine blk_alloc ?_ _)); refine blk_far ?_ NB222_226.out _; (with_reducible repeat (first | refine blk_drewN ?_ _ | refine blk_drew ?_ | refine blk_alloc ?_ _)); refine blk_far ?_ NB222_226.out _; (with_reducible repeat (first | refine blk_drewN ?_ _ | refine blk_drew ?_ | refine blk_alloc ?_ _)); refine blk_far ?_ NB222_226.out _; (with_reducible repeat (first | refine blk_drewN ?_ _ | refine blk_drew ?_ | refine blk_alloc ?_ _)); refine blk_far ?_ NB222_226.out _; (with_reducible repeat (first | refine blk_drewN ?_ _ | refine blk_drew ?_ | refine blk_alloc ?_ _)); refine blk_far ?_ NB222_226.out _; (with_reducible repeat (first | refine blk_drewN ?_ _ | refine blk_drew ?_ | refine blk_alloc ?_ _)); exact BK222.out⟩, ⟨by (with_reducible repeat (first | refine blk_drewN ?_ _ | refine blk_drew ?_ | refine blk_alloc ?_ _)); refine blk_put (cs := #[.int .i64 a0_0, .int .i64 a0_1, .int .i64 a0_2, .int .i64 a0_3, .int .i64 a0_4, .int .i64 a1, .slice none 0 0, .slice Ao10 t223.length co10, .slice none 0 0]) ?_ 8 _ rfl; (with_reducible repeat (first | refine blk_drewN ?_ _ | refine blk_drew ?_ | refine blk_alloc ?_ _)); refine blk_put (cs := #[.int .i64 a0_0, .int .i64 a0_1, .int .i64 a0_2, .int .i64 a0_3, .int .i64 a0_4, .int .i64 a1, .slice none 0 0, .slice none 0 0, .slice none 0 0]) ?_ 7 _ rfl; (with_reducible repeat (first | refine blk_drewN ?_ _ | refine blk_drew ?_ | refine blk_alloc ?_ _)); refine blk_put (cs := #[.int .i64 a0_0, .int .i64 a0_1, .int .i64 a0_2, .int .i64 a0_3, .int .i64 a0_4, .int .i64 a1, .slice none 0 0, .slice none 0 0, .slice none 0 0]) ?_ 6 _ rfl; (with_reducible repeat (first | refine blk_drewN ?_ _ | refine blk_drew ?_ | refine blk_alloc ?_ _)); refine blk_put (cs := #[.int .i64 a0_0, .int .i64 a0_1, .int .i64 a0_2, .int .i64 a0_3, .int .i64 a0_4, .int .i64 0, .slice none 0 0, .slice none 0 0, .slice none 0 0]) ?_ 5 _ rfl; (with_reducible repeat (first | refine blk_drewN ?_ _ | refine blk_drew ?_ | refine blk_alloc ?_ _)); refine blk_put (cs := #[.int .i64 a0_0, .int .i64 a0_1, .int .i64 a0_2, .int .i64 a0_3, .int .i64 0, .int .i64 0, .slice none 0 0, .slice none 0 0, .slice none 0 0]) ?_ 4 _ rfl; (with_reducible repeat (first | refine blk_drewN ?_ _ | refine blk_drew ?_ | refine blk_alloc ?_ _)); refine blk_put (cs := #[.int .i64 a0_0, .int .i64 a0_1, .int .i64 a0_2, .int .i64 0, .int .i64 0, .int .i64 0, .slice none 0 0, .slice none 0 0, .slice none 0 0]) ?_ 3 _ rfl; (with_reducible repeat (first | refine blk_drewN ?_ _ | refine blk_drew ?_ | refine blk_alloc ?_ _)); refine blk_put (cs := #[.int .i64 a0_0, .int .i64 a0_1, .int .i64 0, .int .i64 0, .int .i64 0, .int .i64 0, .slice none 0 0, .slice none 0 0, .slice none 0 0]) ?_ 2 _ rfl; (with_reducible repeat (first | refine blk_drewN ?_ _ | refine blk_drew ?_ | refine blk_alloc ?_ _)); refine blk_put (cs := #[.int .i64 a0_0, .int .i64 0, .int .i64 0, .int .i64 0, .int .i64 0, .int .i64 0, .slice none 0 0, .slice none 0 0, .slice none 0 0]) ?_ 1 _ rfl; (with_reducible repeat (first | refine blk_drewN ?_ _ | refine blk_drew ?_ | refine blk_alloc ?_ _)); refine blk_put (cs := #[.int .i64 0, .int .i64 0, .int .i64 0, .int .i64 0, .int .i64 0, .int .i64 0, .slice none 0 0, .slice none 0 0, .slice none 0 0]) ?_ 0 _ rfl; exact bpl BK226.out⟩, ⟨bnx⟩⟩
 case round =>
  clear H'
  try clear c1
  try clear p2
  try clear c9
  try clear c13
  obtain ⟨x6_1, x227006_1, u227006, rfl, HA, HK1, HO_227006, HO_227007, BK50, BK222, BK226, HB⟩ := hrel
  cases gk with
  | zero => exact absurd HA.out (by simp [spec_l15Of.l0])
  | succ k1 =>
   have H := HA.out
   clear HA
   simp only [spec_l15Of.l0] at H
   by_cases c20 : x6_1 < (l0_5.length : Int)
   ·rw [if_pos c20] at H
    have c20b0 : decide (x6_1 < (l0_5.length : Int)) = true := decide_eq_true c20
    clear c20
    by_cases c21 : 0 ≤ x6_1
    ·rw [if_pos c21] at H
     have c21b0 : decide (0 ≤ x6_1) = true := decide_eq_true c21
     clear c21
     obtain ⟨⟨t228, t229⟩, A22, H⟩ := bnd H
     replace H : (if a1 = 1 then (if x227006_1.length < 17592186044416 then (spec_l15Of.l0 k1 a1 (wrap64 (x6_1 + 1)) a0_0 a0_1 a0_2 a0_3 a0_4 l0_5 l0_6 l0_7 a0_0 a0_1 a0_2 a0_3 a0_4 a1 (x227006_1 ++ [t229]) t223) else (none)) else (if x227006_1.length < 17592186044416 then (spec_l15Of.l0 k1 a1 (wrap64 (x6_1 + 1)) a0_0 a0_1 a0_2 a0_3 a0_4 l0_5 l0_6 l0_7 a0_0 a0_1 a0_2 a0_3 a0_4 a1 (x227006_1 ++ [t228]) t223) else (none))) = some (r1, r2, r3, r4, r5, r6, r7, r8, r9) := H
     by_cases c23 : a1 = 1
     ·rw [if_pos c23] at H
      have c23b0 : (a1 == 1) = true := beq_iff_eq.mpr c23
      have c23b1 : (a1 != 1) = false := bne_eq_false_iff_eq.mpr c23
      clear c23
      by_cases c24 : x227006_1.length < 17592186044416
      ·rw [if_pos c24] at H
       have LMc24 := Aside0.mk c24
       clear c24
       obtain ⟨y230, hy230⟩ : ∃ y_ : List Int, y_ = (x227006_1 ++ [t229]) := ⟨_, rfl⟩
       replace H : (spec_l15Of.l0 k1 a1 (wrap64 (x6_1 + 1)) a0_0 a0_1 a0_2 a0_3 a0_4 l0_5 l0_6 l0_7 a0_0 a0_1 a0_2 a0_3 a0_4 a1 y230 t223) = some (r1, r2, r3, r4, r5, r6, r7, r8, r9) := by first | (rw [hy230]; with_reducible exact H) | (have H2_ := (Option.bind_some _ _).symm.trans H; rw [hy230]; with_reducible exact H2_) | (have H2_ := (Option.bind_some _ _).symm.trans H; with_reducible exact H2_) | with_reducible exact H | (rw [hy230]; exact H) | exact H
       have Ny230 := Aside0.mk hy230
       clear hy230
       have H' := Aside0.mk H
       clear H
       have hnb25 := NB50_222.out
       have hnc25 := NB222_50.out
       have hnb26 := NB50_226.out
       have hnc26 := NB226_50.out
       obtain ⟨hcz27_0, hcz27_1, hcz27_2, hcz27_3, hcz27_4, hcz27_5, hcz27_6, hcz27_7, hfz27_0, hfz27_1, hfz27_2, hfz27_3, hfz27_4, hfz27_5, hfz27_6, hfz27_7⟩ := cf8 (W := wr) BK50.out
       try go_wp2
       replace HO_227006 := am (Kd.R_drew HO_227006.out)
       replace HO_227007 := am (Kd.R_drew HO_227007.out)
       replace BK50 := am (blk_drew BK50.out)
       replace BK222 := am (blk_drew BK222.out)
       replace BK226 := am (blk_drew BK226.out)
       replace HB := am (below_drew1 HB.out)
       have p227 : 0 ≤ (x6_1 : Int) := dta
       have q227 : x6_1 < (l0_5.length : Int) := dta
       obtain ⟨ad227, e227, hx227_0⟩ := Kd.at_int HR0_5.out x6_1 p227 q227
       have hw227_0 := hx227_0
       cases e227
       replace hx227_0 := (HB.out.cell (World.block_lt_of_cell? w _ hx227_0)).trans hx227_0
       replace p227 := eq_true p227
       replace q227 := eq_true q227
       refine start_ (n := 20) (S := fun w' => w'.cell? ⟨gb50, 0, none⟩ = some (.int .i64 a0_0) ∧ w'.cell? ⟨gb50, 1, none⟩ = some (.int .i64 a0_1) ∧ w'.cell? ⟨gb50, 2, none⟩ = some (.int .i64 a0_2) ∧ w'.cell? ⟨gb50, 3, none⟩ = some (.int .i64 a0_3) ∧ w'.cell? ⟨gb50, 4, none⟩ = some (.int .i64 a0_4) ∧ w'.cell? ⟨gb50, 5, none⟩ = some (.slice (some ad227) l0_5.length c0_5) ∧ w'.cell? ⟨gb50, 6, none⟩ = some (.slice A0_6 l0_6.length c0_6) ∧ w'.cell? ⟨gb50, 7, none⟩ = some (.slice A0_7 l0_7.length c0_7) ∧ w'.cell? (ad227.add (x6_1).toNat) = some (.int .i64 (rd l0_5 x6_1))) (ds := []) #[false, false, false, false, false, false, false, false, false, false, false, false, false, false, false, false, false, false, false, false] (by kernel_rfl) rfl rfl ⟨(blk_cell BK50.out 0).trans rfl, (blk_cell BK50.out 1).trans rfl, (blk_cell BK50.out 2).trans rfl, (blk_cell BK50.out 3).trans rfl, (blk_cell BK50.out 4).trans rfl, (blk_cell BK50.out 5).trans rfl, (blk_cell BK50.out 6).trans rfl, (blk_cell BK50.out 7).trans rfl, ((HB.out.cell (World.block_lt_of_cell? w _ hw227_0)).trans hw227_0)⟩ (fun hHeld => ?_); refine with_tabW spec_l15Of.tab5 spec_l15Of.bits5 (fun HT_ HW_ => ?_)
       generalize wr.drew = w28 at HO_227006 HO_227007 BK50 BK222 BK226 HB hx227_0 hHeld ⊢
       refine pu_ 0 48 HT_ ?_
       refine pu_ 1 49 HT_ ?_
       refine pu_ 2 50 HT_ ?_
       refine pu_ 4 52 HT_ ?_
       refine pu_ 7 55 HT_ ?_
       refine pu_ 8 56 HT_ ?_
       refine pu_ 9 57 HT_ ?_
       refine pu_ 11 59 HT_ ?_
       refine pu_ 12 60 HT_ ?_
       refine pu_ 13 61 HT_ ?_
       refine tk_ 3 51 HT_ HW_ hHeld ?_
       refine pu_ 5 53 HT_ ?_
       refine tk_ 6 54 HT_ HW_ hHeld ?_
       refine tk_ 10 58 HT_ HW_ hHeld ?_
       refine on_ 14 HT_ (fun K hK => ?_)
       refine gs_ Try.func168 #[.int .i64 (rd l0_5 x6_1), .int .i64 a0_4, .bool ((Int.tmod x6_1 2) == 1)] ?_
       with_reducible refine (spec_l10Split.calls k1 (rd l0_5 x6_1) a0_4 ((Int.tmod x6_1 2) == 1) t228 t229 _ A22.out).mono ?_
       rintro e w' ⟨rfl, ⟨nd, rfl⟩⟩
       refine ⟨_, rfl, ?_⟩
       refine hK.out _ _ ⟨(blk_cell BK50.out 0).trans rfl, (blk_cell BK50.out 1).trans rfl, (blk_cell BK50.out 2).trans rfl, (blk_cell BK50.out 3).trans rfl, (blk_cell BK50.out 4).trans rfl, (blk_cell BK50.out 5).trans rfl, (blk_cell BK50.out 6).trans rfl, (blk_cell BK50.out 7).trans rfl, ((HB.out.cell (World.block_lt_of_cell? w _ hw227_0)).trans hw227_0)⟩ (fun hHeld => ?_)
       clear hK K
       refine nm_ 62 ?_
       refine pu_ 15 47 HT_ ?_
       refine pu_ 16 63 HT_ ?_
       refine pu_ 17 64 HT_ ?_
       refine pu_ 18 7 HT_ ?_
       refine pu_ 19 8 HT_ ?_
       refine done_ (done_of HT_.out (by kernel_rfl)) ?_
       have hnb29 := NB226_222.out
       have hnc29 := NB222_226.out
       obtain ⟨hcz30_0, hcz30_1, hcz30_2, hcz30_3, hcz30_4, hcz30_5, hcz30_6, hcz30_7, hcz30_8, hfz30_0, hfz30_1, hfz30_2, hfz30_3, hfz30_4, hfz30_5, hfz30_6, hfz30_7, hfz30_8⟩ := cf9 (W := w28) BK226.out
       try go_wp2_with (first | ((with_reducible refine gate_builtin (b := .append) (xs := #[.tmp 69, .tmp 71]) rfl ?_); at_builtin; refine Kd.R_append (Kd.int .i64) (w0 := w) w.heap.size rfl (.tmp 69) (.tmp 71) 24 2 (.int .i64 0) 8 rfl Try.underlying24 info2 rfl (by decide) (by omega) u227006 x227006_1 t229 [.int .i64 t229] (fun k_ => some k_ ≠ (.slice Ao10 t223.length co10 : Value).ownBlock) (fun _ => False) rfl rfl ?aP (fun _ hk => hk.elim) ?aF ?aO ?aB ?aS ?aL ?_; (case aP => exact rfl); (case aB => exact bnx); (case aF => exact (fun k_ hk => Kd.fresh' (Kd.R_lt (rpl HO_227007.out)) k_ hk)); (case aO => exact (rpl HO_227006.out)); (case aS => exact bsz); (case aL => have := LMc24.out; omega); intro v231 w31 ho hb hg hat; rw [← Ny230.out] at ho; replace HO_227007 := am (Kd.R_after (ok := (fun _ => True)) (by (with_reducible repeat (first | apply Kd.R_alloc | apply Kd.R_drewN | apply Kd.R_drew)); exact Kd.R_mono HO_227007.out (fun _ hk => ⟨trivial, hk⟩)) hg hat); replace BK50 := am (blk_grown (bpl BK50.out) hg (Kd.R_ne HO_227006.out BK50.out (by decide))); replace BK222 := am (blk_grown (bpl BK222.out) hg (Kd.R_ne HO_227006.out BK222.out (by decide))); replace BK226 := am (blk_grown (bpl BK226.out) hg (Kd.R_ne HO_227006.out BK226.out (by decide))); replace HB := am hb; have HO232 := am ho; clear HO_227006 ho hb hg hat; obtain ⟨Ao32, co32, eo32⟩ := Kd.R_slice HO232.out; subst eo32; obtain ⟨hcz33_0, hcz33_1, hcz33_2, hcz33_3, hcz33_4, hcz33_5, hcz33_6, hcz33_7, hcz33_8, hfz33_0, hfz33_1, hfz33_2, hfz33_3, hfz33_4, hfz33_5, hfz33_6, hfz33_7, hfz33_8⟩ := cf9 (W := w31) BK226.out))
       go_roundg k1
       case measure => have := HK1.out; omega
       case rel => exact ⟨(wrap64 (x6_1 + 1)), (y230), (.slice Ao32 y230.length co32), rq, H', ⟨by have := HK1.out; omega⟩, ⟨by (with_reducible repeat (first | apply Kd.R_alloc | apply Kd.R_drewN | apply Kd.R_drew)); exact Kd.R_mono (Kd.R_far (p := ⟨gb226, 6, none⟩) (Kd.R_types HO232.out BK226.out (by decide)) (fun _ hk => hk.2) (.slice Ao32 y230.length co32)) (fun _ hk => hk.1)⟩, ⟨by (with_reducible repeat (first | apply Kd.R_alloc | apply Kd.R_drewN | apply Kd.R_drew)); exact Kd.R_mono (Kd.R_far (p := ⟨gb226, 6, none⟩) (Kd.R_types HO_227007.out BK226.out (by decide)) (fun _ hk => hk.2) (.slice Ao32 y230.length co32)) (fun _ hk => hk.1.2)⟩, ⟨by (with_reducible repeat (first | refine blk_drewN ?_ _ | refine blk_drew ?_ | refine blk_alloc ?_ _)); refine blk_far ?_ NB50_226.out _; (with_reducible repeat (first | refine blk_drewN ?_ _ | refine blk_drew ?_ | refine blk_alloc ?_ _)); exact BK50.out⟩, ⟨by (with_reducible repeat (first | refine blk_drewN ?_ _ | refine blk_drew ?_ | refine blk_alloc ?_ _)); refine blk_far ?_ NB222_226.out _; (with_reducible repeat (first | refine blk_drewN ?_ _ | refine blk_drew ?_ | refine blk_alloc ?_ _)); exact BK222.out⟩, ⟨by (with_reducible repeat (first | refine blk_drewN ?_ _ | refine blk_drew ?_ | refine blk_alloc ?_ _)); refine blk_put (cs := #[.int .i64 a0_0, .int .i64 a0_1, .int .i64 a0_2, .int .i64 a0_3, .int .i64 a0_4, .int .i64 a1, u227006, .slice Ao10 t223.length co10, .slice none 0 0]) ?_ 6 _ rfl; exact bpl BK226.out⟩, ⟨bnx⟩⟩
      ·rw [if_neg c24] at H
       exact absurd H (by simp)
     ·rw [if_neg c23] at H
      have c23b0 : (a1 == 1) = false := beq_eq_false_iff_ne.mpr c23
      have c23b1 : (a1 != 1) = true := bne_iff_ne.mpr c23
      by_cases c34 : x227006_1.length < 17592186044416
      ·rw [if_pos c34] at H
       have LMc34 := Aside0.mk c34
       clear c34
       obtain ⟨y233, hy233⟩ : ∃ y_ : List Int, y_ = (x227006_1 ++ [t228]) := ⟨_, rfl⟩
       replace H : (spec_l15Of.l0 k1 a1 (wrap64 (x6_1 + 1)) a0_0 a0_1 a0_2 a0_3 a0_4 l0_5 l0_6 l0_7 a0_0 a0_1 a0_2 a0_3 a0_4 a1 y233 t223) = some (r1, r2, r3, r4, r5, r6, r7, r8, r9) := by first | (rw [hy233]; with_reducible exact H) | (have H2_ := (Option.bind_some _ _).symm.trans H; rw [hy233]; with_reducible exact H2_) | (have H2_ := (Option.bind_some _ _).symm.trans H; with_reducible exact H2_) | with_reducible exact H | (rw [hy233]; exact H) | exact H
       have Ny233 := Aside0.mk hy233
       clear hy233
       have H' := Aside0.mk H
       clear H
       have hnb35 := NB50_222.out
       have hnc35 := NB222_50.out
       have hnb36 := NB50_226.out
       have hnc36 := NB226_50.out
       obtain ⟨hcz37_0, hcz37_1, hcz37_2, hcz37_3, hcz37_4, hcz37_5, hcz37_6, hcz37_7, hfz37_0, hfz37_1, hfz37_2, hfz37_3, hfz37_4, hfz37_5, hfz37_6, hfz37_7⟩ := cf8 (W := wr) BK50.out
       try go_wp2
       replace HO_227006 := am (Kd.R_drew HO_227006.out)
       replace HO_227007 := am (Kd.R_drew HO_227007.out)
       replace BK50 := am (blk_drew BK50.out)
       replace BK222 := am (blk_drew BK222.out)
       replace BK226 := am (blk_drew BK226.out)
       replace HB := am (below_drew1 HB.out)
       have p227 : 0 ≤ (x6_1 : Int) := dta
       have q227 : x6_1 < (l0_5.length : Int) := dta
       obtain ⟨ad227, e227, hx227_0⟩ := Kd.at_int HR0_5.out x6_1 p227 q227
       have hw227_0 := hx227_0
       cases e227
       replace hx227_0 := (HB.out.cell (World.block_lt_of_cell? w _ hx227_0)).trans hx227_0
       replace p227 := eq_true p227
       replace q227 := eq_true q227
       refine start_ (n := 20) (S := fun w' => w'.cell? ⟨gb50, 0, none⟩ = some (.int .i64 a0_0) ∧ w'.cell? ⟨gb50, 1, none⟩ = some (.int .i64 a0_1) ∧ w'.cell? ⟨gb50, 2, none⟩ = some (.int .i64 a0_2) ∧ w'.cell? ⟨gb50, 3, none⟩ = some (.int .i64 a0_3) ∧ w'.cell? ⟨gb50, 4, none⟩ = some (.int .i64 a0_4) ∧ w'.cell? ⟨gb50, 5, none⟩ = some (.slice (some ad227) l0_5.length c0_5) ∧ w'.cell? ⟨gb50, 6, none⟩ = some (.slice A0_6 l0_6.length c0_6) ∧ w'.cell? ⟨gb50, 7, none⟩ = some (.slice A0_7 l0_7.length c0_7) ∧ w'.cell? (ad227.add (x6_1).toNat) = some (.int .i64 (rd l0_5 x6_1))) (ds := []) #[false, false, false, false, false, false, false, false, false, false, false, false, false, false, false, false, false, false, false, false] (by kernel_rfl) rfl rfl ⟨(blk_cell BK50.out 0).trans rfl, (blk_cell BK50.out 1).trans rfl, (blk_cell BK50.out 2).trans rfl, (blk_cell BK50.out 3).trans rfl, (blk_cell BK50.out 4).trans rfl, (blk_cell BK50.out 5).trans rfl, (blk_cell BK50.out 6).trans rfl, (blk_cell BK50.out 7).trans rfl, ((HB.out.cell (World.block_lt_of_cell? w _ hw227_0)).trans hw227_0)⟩ (fun hHeld => ?_); refine with_tabW spec_l15Of.tab5 spec_l15Of.bits5 (fun HT_ HW_ => ?_)
       generalize wr.drew = w38 at HO_227006 HO_227007 BK50 BK222 BK226 HB hx227_0 hHeld ⊢
       refine pu_ 0 48 HT_ ?_
       refine pu_ 1 49 HT_ ?_
       refine pu_ 2 50 HT_ ?_
       refine pu_ 4 52 HT_ ?_
       refine pu_ 7 55 HT_ ?_
       refine pu_ 8 56 HT_ ?_
       refine pu_ 9 57 HT_ ?_
       refine pu_ 11 59 HT_ ?_
       refine pu_ 12 60 HT_ ?_
       refine pu_ 13 61 HT_ ?_
       refine tk_ 3 51 HT_ HW_ hHeld ?_
       refine pu_ 5 53 HT_ ?_
       refine tk_ 6 54 HT_ HW_ hHeld ?_
       refine tk_ 10 58 HT_ HW_ hHeld ?_
       refine on_ 14 HT_ (fun K hK => ?_)
       refine gs_ Try.func168 #[.int .i64 (rd l0_5 x6_1), .int .i64 a0_4, .bool ((Int.tmod x6_1 2) == 1)] ?_
       with_reducible refine (spec_l10Split.calls k1 (rd l0_5 x6_1) a0_4 ((Int.tmod x6_1 2) == 1) t228 t229 _ A22.out).mono ?_
       rintro e w' ⟨rfl, ⟨nd, rfl⟩⟩
       refine ⟨_, rfl, ?_⟩
       refine hK.out _ _ ⟨(blk_cell BK50.out 0).trans rfl, (blk_cell BK50.out 1).trans rfl, (blk_cell BK50.out 2).trans rfl, (blk_cell BK50.out 3).trans rfl, (blk_cell BK50.out 4).trans rfl, (blk_cell BK50.out 5).trans rfl, (blk_cell BK50.out 6).trans rfl, (blk_cell BK50.out 7).trans rfl, ((HB.out.cell (World.block_lt_of_cell? w _ hw227_0)).trans hw227_0)⟩ (fun hHeld => ?_)
       clear hK K
       refine nm_ 62 ?_
       refine pu_ 15 47 HT_ ?_
       refine pu_ 16 63 HT_ ?_
       refine pu_ 17 64 HT_ ?_
       refine pu_ 18 7 HT_ ?_
       refine pu_ 19 8 HT_ ?_
       refine done_ (done_of HT_.out (by kernel_rfl)) ?_
       have hnb39 := NB226_222.out
       have hnc39 := NB222_226.out
       obtain ⟨hcz40_0, hcz40_1, hcz40_2, hcz40_3, hcz40_4, hcz40_5, hcz40_6, hcz40_7, hcz40_8, hfz40_0, hfz40_1, hfz40_2, hfz40_3, hfz40_4, hfz40_5, hfz40_6, hfz40_7, hfz40_8⟩ := cf9 (W := w38) BK226.out
       try go_wp2_with (first | ((with_reducible refine gate_builtin (b := .append) (xs := #[.tmp 69, .tmp 71]) rfl ?_); at_builtin; refine Kd.R_append (Kd.int .i64) (w0 := w) w.heap.size rfl (.tmp 69) (.tmp 71) 24 2 (.int .i64 0) 8 rfl Try.underlying24 info2 rfl (by decide) (by omega) u227006 x227006_1 t228 [.int .i64 t228] (fun k_ => some k_ ≠ (.slice Ao10 t223.length co10 : Value).ownBlock) (fun _ => False) rfl rfl ?aP (fun _ hk => hk.elim) ?aF ?aO ?aB ?aS ?aL ?_; (case aP => exact rfl); (case aB => exact bnx); (case aF => exact (fun k_ hk => Kd.fresh' (Kd.R_lt (rpl HO_227007.out)) k_ hk)); (case aO => exact (rpl HO_227006.out)); (case aS => exact bsz); (case aL => have := LMc34.out; omega); intro v234 w41 ho hb hg hat; rw [← Ny233.out] at ho; replace HO_227007 := am (Kd.R_after (ok := (fun _ => True)) (by (with_reducible repeat (first | apply Kd.R_alloc | apply Kd.R_drewN | apply Kd.R_drew)); exact Kd.R_mono HO_227007.out (fun _ hk => ⟨trivial, hk⟩)) hg hat); replace BK50 := am (blk_grown (bpl BK50.out) hg (Kd.R_ne HO_227006.out BK50.out (by decide))); replace BK222 := am (blk_grown (bpl BK222.out) hg (Kd.R_ne HO_227006.out BK222.out (by decide))); replace BK226 := am (blk_grown (bpl BK226.out) hg (Kd.R_ne HO_227006.out BK226.out (by decide))); replace HB := am hb; have HO235 := am ho; clear HO_227006 ho hb hg hat; obtain ⟨Ao42, co42, eo42⟩ := Kd.R_slice HO235.out; subst eo42; obtain ⟨hcz43_0, hcz43_1, hcz43_2, hcz43_3, hcz43_4, hcz43_5, hcz43_6, hcz43_7, hcz43_8, hfz43_0, hfz43_1, hfz43_2, hfz43_3, hfz43_4, hfz43_5, hfz43_6, hfz43_7, hfz43_8⟩ := cf9 (W := w41) BK226.out))
       go_roundg k1
       case measure => have := HK1.out; omega
       case rel => exact ⟨(wrap64 (x6_1 + 1)), (y233), (.slice Ao42 y233.length co42), rq, H', ⟨by have := HK1.out; omega⟩, ⟨by (with_reducible repeat (first | apply Kd.R_alloc | apply Kd.R_drewN | apply Kd.R_drew)); exact Kd.R_mono (Kd.R_far (p := ⟨gb226, 6, none⟩) (Kd.R_types HO235.out BK226.out (by decide)) (fun _ hk => hk.2) (.slice Ao42 y233.length co42)) (fun _ hk => hk.1)⟩, ⟨by (with_reducible repeat (first | apply Kd.R_alloc | apply Kd.R_drewN | apply Kd.R_drew)); exact Kd.R_mono (Kd.R_far (p := ⟨gb226, 6, none⟩) (Kd.R_types HO_227007.out BK226.out (by decide)) (fun _ hk => hk.2) (.slice Ao42 y233.length co42)) (fun _ hk => hk.1.2)⟩, ⟨by (with_reducible repeat (first | refine blk_drewN ?_ _ | refine blk_drew ?_ | refine blk_alloc ?_ _)); refine blk_far ?_ NB50_226.out _; (with_reducible repeat (first | refine blk_drewN ?_ _ | refine blk_drew ?_ | refine blk_alloc ?_ _)); exact BK50.out⟩, ⟨by (with_reducible repeat (first | refine blk_drewN ?_ _ | refine blk_drew ?_ | refine blk_alloc ?_ _)); refine blk_far ?_ NB222_226.out _; (with_reducible repeat (first | refine blk_drewN ?_ _ | refine blk_drew ?_ | refine blk_alloc ?_ _)); exact BK222.out⟩, ⟨by (with_reducible repeat (first | refine blk_drewN ?_ _ | refine blk_drew ?_ | refine blk_alloc ?_ _)); refine blk_put (cs := #[.int .i64 a0_0, .int .i64 a0_1, .int .i64 a0_2, .int .i64 a0_3, .int .i64 a0_4, .int .i64 a1, u227006, .slice Ao10 t223.length co10, .slice none 0 0]) ?_ 6 _ rfl; exact bpl BK226.out⟩, ⟨bnx⟩⟩
      ·rw [if_neg c34] at H
       exact absurd H (by simp)
    ·rw [if_neg c21] at H
     exact absurd H (by simp)
   ·rw [if_neg c20] at H
    have c20b0 : decide (x6_1 < (l0_5.length : Int)) = false := decide_eq_false c20
    clear c20
    have H' := Aside0.mk H
    clear H
    have hnb44 := NB50_222.out
    have hnc44 := NB222_50.out
    have hnb45 := NB50_226.out
    have hnc45 := NB226_50.out
    obtain ⟨hcz46_0, hcz46_1, hcz46_2, hcz46_3, hcz46_4, hcz46_5, hcz46_6, hcz46_7, hfz46_0, hfz46_1, hfz46_2, hfz46_3, hfz46_4, hfz46_5, hfz46_6, hfz46_7⟩ := cf8 (W := wr) BK50.out
    go_wp2
    go_loopg [9] k1 (fun kq v9 w' => ∃ (x9_2 : Int) (x227008_2 : List (List Int)) (u227008 : Value), v9 = .int .i64 x9_2 ∧ Aside0 (spec_l15Of.l1 kq x9_2 a0_0 a0_1 a0_2 a0_3 a0_4 l0_5 l0_6 l0_7 a0_0 a0_1 a0_2 a0_3 a0_4 a1 x227006_1 t223 x227008_2 = some (r1, r2, r3, r4, r5, r6, r7, r8, r9)) ∧ Aside0 (kq ≤ k1) ∧ Aside0 (Kd.R (Kd.int .i64) 2 w' w.heap.size (fun k_ => some k_ ≠ ((.slice Ao10 t223.length co10) : Value).ownBlock) u227006 x227006_1) ∧ Aside0 (Kd.R (Kd.int .i64) 2 w' w.heap.size (fun k_ => some k_ ≠ (u227006 : Value).ownBlock) (.slice Ao10 t223.length co10) t223) ∧ Aside0 (Kd.S (Kd.slice 2 (Kd.int .i64)) 24 w' w.heap.size (fun k_ => some k_ ≠ (u227006 : Value).ownBlock ∧ some k_ ≠ ((.slice Ao10 t223.length co10) : Value).ownBlock) u227008 x227008_2) ∧ Aside0 (w'.heap[gb50]? = some (.cells #[.int .i64 a0_0, .int .i64 a0_1, .int .i64 a0_2, .int .i64 a0_3, .int .i64 a0_4, (.slice A0_5 l0_5.length c0_5), (.slice A0_6 l0_6.length c0_6), (.slice A0_7 l0_7.length c0_7)] 36 (0, 0))) ∧ Aside0 (w'.heap[gb222]? = some (.cells #[.int .i64 0, .int .i64 0, .int .i64 0, .int .i64 0, .int .i64 0, .int .i64 0, (.slice none 0 0), (.slice none 0 0), (.slice none 0 0)] 47 (0, 0))) ∧ Aside0 (w'.heap[gb226]? = some (.cells #[.int .i64 a0_0, .int .i64 a0_1, .int .i64 a0_2, .int .i64 a0_3, .int .i64 a0_4, .int .i64 a1, u227006, (.slice Ao10 t223.length co10), u227008] 47 (0, 0))) ∧ Aside0 (Below w.heap.size w w'))
    case atStart => exact ⟨(0), (([] : List (List Int))), (.slice none 0 0), rq, H', ⟨Nat.le_refl _⟩, ⟨by (with_reducible repeat (first | apply Kd.R_alloc | apply Kd.R_drewN | apply Kd.R_drew)); exact HO_227006.out⟩, ⟨by (with_reducible repeat (first | apply Kd.R_alloc | apply Kd.R_drewN | apply Kd.R_drew)); exact HO_227007.out⟩, ⟨by first | exact Kd.S_nil _ _ _ _ _ | exact Kd.N_nil _ _ _ _ _ | exact Kd.V_nil _ _ _ _ _ | exact Kd.Q_nil _ _ _ _ _ | exact Kd.R_nil _ _ _ _ _⟩, ⟨bpl BK50.out⟩, ⟨bpl BK222.out⟩, ⟨bpl BK226.out⟩, ⟨bnx⟩⟩
    case round =>
     clear H'
     try clear c1
     try clear c2
     try clear p2
     try clear q2
     try clear hx2
     try clear c3
     try clear c4
     try clear p6
     try clear c9
     try clear c13
     try clear c16
     try clear c20
     try clear c20b0
     try clear c21
     try clear c21b0
     try clear p22
     try clear q22
     try clear hx22
     try clear c23
     try clear c23b0
     try clear c23b1
     try clear c24
     try clear c25
     try clear c26
     try clear c29
     try clear c34
     try clear c35
     try clear c36
     try clear c39
     try clear c44
     try clear c45
     try clear hcz27_0 hcz27_1 hcz27_2 hcz27_3 hcz27_4 hcz27_5 hcz27_6 hcz27_7
     try clear hcz30_0 hcz30_1 hcz30_2 hcz30_3 hcz30_4 hcz30_5 hcz30_6 hcz30_7 hcz30_8
     try clear hcz33_0 hcz33_1 hcz33_2 hcz33_3 hcz33_4 hcz33_5 hcz33_6 hcz33_7 hcz33_8
     try clear hcz37_0 hcz37_1 hcz37_2 hcz37_3 hcz37_4 hcz37_5 hcz37_6 hcz37_7
     try clear hcz40_0 hcz40_1 hcz40_2 hcz40_3 hcz40_4 hcz40_5 hcz40_6 hcz40_7 hcz40_8
     try clear hcz43_0 hcz43_1 hcz43_2 hcz43_3 hcz43_4 hcz43_5 hcz43_6 hcz43_7 hcz43_8
     try clear hcz46_0 hcz46_1 hcz46_2 hcz46_3 hcz46_4 hcz46_5 hcz46_6 hcz46_7
     try clear hfz27_0 hfz27_1 hfz27_2 hfz27_3 hfz27_4 hfz27_5 hfz27_6 hfz27_7
     try clear hfz30_0 hfz30_1 hfz30_2 hfz30_3 hfz30_4 hfz30_5 hfz30_6 hfz30_7 hfz30_8
     try clear hfz33_0 hfz33_1 hfz33_2 hfz33_3 hfz33_4 hfz33_5 hfz33_6 hfz33_7 hfz33_8
     try clear hfz37_0 hfz37_1 hfz37_2 hfz37_3 hfz37_4 hfz37_5 hfz37_6 hfz37_7
     try clear hfz40_0 hfz40_1 hfz40_2 hfz40_3 hfz40_4 hfz40_5 hfz40_6 hfz40_7 hfz40_8
     try clear hfz43_0 hfz43_1 hfz43_2 hfz43_3 hfz43_4 hfz43_5 hfz43_6 hfz43_7 hfz43_8
     try clear hfz46_0 hfz46_1 hfz46_2 hfz46_3 hfz46_4 hfz46_5 hfz46_6 hfz46_7
     try clear hx227_0
     try clear p2
     try clear p227
     try clear q227
     obtain ⟨x9_2, x227008_2, u227008, rfl, HA, HK2, HO_227006, HO_227007, HO_227008, BK50, BK222, BK226, HB⟩ := hrel
     cases gk with
     | zero => exact absurd HA.out (by simp [spec_l15Of.l1])
     | succ k2 =>
      have H := HA.out
      clear HA
      simp only [spec_l15Of.l1] at H
      by_cases c47 : x9_2 < (l0_7.length : Int)
      ·rw [if_pos c47] at H
       have c47b0 : decide (x9_2 < (l0_7.length : Int)) = true := decide_eq_true c47
       clear c47
       obtain ⟨y236, hy236⟩ : ∃ y_ : List Int, y_ = (([] : List Int)) := ⟨_, rfl⟩
       replace H : ((spec_l15Mine_any.f a0_0 a1 x9_2).bind fun t239 => (if t239 = true then (if 0 ≤ x9_2 then ((spec_l1Ints.f (rd_L1 l0_7 x9_2)).bind fun t241 => (if x227008_2.length < 5864062014805 then (spec_l15Of.l1 k2 (wrap64 (x9_2 + 1)) a0_0 a0_1 a0_2 a0_3 a0_4 l0_5 l0_6 l0_7 a0_0 a0_1 a0_2 a0_3 a0_4 a1 x227006_1 t223 (x227008_2 ++ [t241])) else (none))) else (none)) else (if x227008_2.length < 5864062014805 then (spec_l15Of.l1 k2 (wrap64 (x9_2 + 1)) a0_0 a0_1 a0_2 a0_3 a0_4 l0_5 l0_6 l0_7 a0_0 a0_1 a0_2 a0_3 a0_4 a1 x227006_1 t223 (x227008_2 ++ [y236])) else (none)))) = some (r1, r2, r3, r4, r5, r6, r7, r8, r9) := by first | (rw [hy236]; with_reducible exact H) | (have H2_ := (Option.bind_some _ _).symm.trans H; rw [hy236]; with_reducible exact H2_) | (have H2_ := (Option.bind_some _ _).symm.trans H; with_reducible exact H2_) | with_reducible exact H | (rw [hy236]; exact H) | exact H
       have Ny236 := Aside0.mk hy236
       clear hy236
       obtain ⟨t239, A48, H⟩ := bnd H
       by_cases c49 : t239 = true
       ·subst c49
        replace H : (if 0 ≤ x9_2 then ((spec_l1Ints.f (rd_L1 l0_7 x9_2)).bind fun t241 => (if x227008_2.length < 5864062014805 then (spec_l15Of.l1 k2 (wrap64 (x9_2 + 1)) a0_0 a0_1 a0_2 a0_3 a0_4 l0_5 l0_6 l0_7 a0_0 a0_1 a0_2 a0_3 a0_4 a1 x227006_1 t223 (x227008_2 ++ [t241])) else (none))) else (none)) = some (r1, r2, r3, r4, r5, r6, r7, r8, r9) := by rw [if_pos rfl] at H; exact H
        by_cases c50 : 0 ≤ x9_2
        ·rw [if_pos c50] at H
         have c50b0 : decide (0 ≤ x9_2) = true := decide_eq_true c50
         clear c50
         obtain ⟨t241, A51, H⟩ := bnd H
         by_cases c52 : x227008_2.length < 5864062014805
         ·rw [if_pos c52] at H
          have LMc52 := Aside0.mk c52
          clear c52
          obtain ⟨y244, hy244⟩ : ∃ y_ : List (List Int), y_ = (x227008_2 ++ [t241]) := ⟨_, rfl⟩
          replace H : (spec_l15Of.l1 k2 (wrap64 (x9_2 + 1)) a0_0 a0_1 a0_2 a0_3 a0_4 l0_5 l0_6 l0_7 a0_0 a0_1 a0_2 a0_3 a0_4 a1 x227006_1 t223 y244) = some (r1, r2, r3, r4, r5, r6, r7, r8, r9) := by first | (rw [hy244]; with_reducible exact H) | (have H2_ := (Option.bind_some _ _).symm.trans H; rw [hy244]; with_reducible exact H2_) | (have H2_ := (Option.bind_some _ _).symm.trans H; with_reducible exact H2_) | with_reducible exact H | (rw [hy244]; exact H) | exact H
          have Ny244 := Aside0.mk hy244
          clear hy244
          have H' := Aside0.mk H
          clear H
          have hnb53 := NB50_222.out
          have hnc53 := NB222_50.out
          have hnb54 := NB50_226.out
          have hnc54 := NB226_50.out
          obtain ⟨hcz55_0, hcz55_1, hcz55_2, hcz55_3, hcz55_4, hcz55_5, hcz55_6, hcz55_7, hfz55_0, hfz55_1, hfz55_2, hfz55_3, hfz55_4, hfz55_5, hfz55_6, hfz55_7⟩ := cf8 (W := wr) BK50.out
          go_wp2_with (first | ((with_reducible refine gate_dst (N := 83) rfl ?_); refine Kd.R_lit (Kd.int .i64) _ 2 ?hg (N := 83) ?hd (xs := ([] : List Int)) (inner := []) (ok := fun _ => True) (okp := fun _ => True) ?hr ?hp (fun _ hk => hk) trivial (Below.refl _ _) (Nat.le_refl _) (by simp) ?_; (case hd => rfl); (case hg => rfl); (case hr => first | (go_simp; done) | (go_simp; rfl)); (case hp => exact (Reps.none _ _)); intro v237 w56 ho57 hb hg_ hnew_; clear hg_ hnew_; (first | rw [← Ny236.out] at ho57 | (simp only [Int.reduceToNat] at ho57; rw [← Ny236.out] at ho57)); replace HO_227008 := sel HO_227008 ho57 hb; have HO238 := am (Kd.R_lower (Kd.R_new' (Kd.R_new' ho57 (rlt HO_227006)) (rlt HO_227007)) bsz); replace HO_227006 := rel HO_227006 ho57 hb; replace HO_227007 := rel HO_227007 ho57 hb; replace BK50 := bkb BK50 hb; replace BK222 := bkb BK222 hb; replace BK226 := bkb BK226 hb; replace HB := hbs hb; clear hb ho57) | ((with_reducible refine gate_callee (f := 162) rfl ?_); refine gl_ 85 Try.func162 #[.pointer (some ⟨gb226, 0, none⟩), .int .i64 x9_2] ?_; (with_reducible refine (spec_l15Mine_any.calls (hbx := ?_) a0_0 a1 x9_2 true _ A48.out).mono ?_); exact Aside0.mk ⟨47, #[.int .i64 a0_0, .int .i64 a0_1, .int .i64 a0_2, .int .i64 a0_3, .int .i64 a0_4, .int .i64 a1, u227006, .slice Ao10 t223.length co10, u227008], (bpl BK226.out), (by first | rfl | exact ⟨rfl, rfl⟩)⟩; rintro e w58 ⟨rfl, hb⟩; refine ⟨_, rfl, ?_⟩; replace HO_227006 := rbl HO_227006 hb; replace HO_227007 := rbl HO_227007 hb; replace HO_227008 := sbl HO_227008 hb; replace HO238 := rbl HO238 hb; replace BK50 := bkb BK50 hb; replace BK222 := bkb BK222 hb; replace BK226 := bkb BK226 hb; replace HB := hbs hb; (try clear hb); obtain ⟨hcz59_0, hcz59_1, hcz59_2, hcz59_3, hcz59_4, hcz59_5, hcz59_6, hcz59_7, hfz59_0, hfz59_1, hfz59_2, hfz59_3, hfz59_4, hfz59_5, hfz59_6, hfz59_7⟩ := cf8 (W := w58) BK50.out; have p240 : 0 ≤ (x9_2 : Int) := dta; have q240 : x9_2 < (l0_7.length : Int) := dta; obtain ⟨ad240, A240_0, c240_0, e240, hx240_0, hl240_0, hi240_0⟩ := at_L1 HR0_7.out x9_2 p240 q240; cases e240; replace hx240_0 := (HB.out.cell (World.block_lt_of_cell? w _ hx240_0)).trans hx240_0; have HR240_0 := Aside0.mk hi240_0; have HC240_0 := Aside0.mk hl240_0; clear hi240_0 hl240_0; replace p240 := eq_true p240; replace q240 := eq_true q240) | ((with_reducible refine gate_callee (f := 134) rfl ?_); refine gl_ 93 Try.func134 #[.slice A240_0 (rd_L1 l0_7 x9_2).length c240_0] ?_; (with_reducible refine (spec_l1Ints.calls _ _ (rd_L1 l0_7 x9_2) t241 _ ?_ ?_ A51.out).mono ?_); exact cpl HR240_0.out; exact HC240_0.out; rintro e w60 ⟨v242, rfl, ho0, hb⟩; refine ⟨_, rfl, ?_⟩; replace HO_227008 := sel HO_227008 ho0 hb; have HO243 := am (Kd.R_lower (Kd.R_new' (Kd.R_new' (Kd.R_new' ho0 (rlt HO_227006)) (rlt HO_227007)) (rlt HO238)) bsz); replace HO_227006 := rel HO_227006 ho0 hb; replace HO_227007 := rel HO_227007 ho0 hb; replace HO238 := rel HO238 ho0 hb; replace BK50 := bkb BK50 hb; replace BK222 := bkb BK222 hb; replace BK226 := bkb BK226 hb; replace HB := hbs hb; (try clear hb); (try clear ho0); have hnb61 := NB226_222.out; have hnc61 := NB222_226.out; obtain ⟨hcz62_0, hcz62_1, hcz62_2, hcz62_3, hcz62_4, hcz62_5, hcz62_6, hcz62_7, hcz62_8, hfz62_0, hfz62_1, hfz62_2, hfz62_3, hfz62_4, hfz62_5, hfz62_6, hfz62_7, hfz62_8⟩ := cf9 (W := w60) BK226.out; obtain ⟨Ao64, co64, eo64⟩ := Kd.R_slice HO243.out; subst eo64) | ((with_reducible refine gate_builtin (b := .append) (xs := #[.tmp 95, .tmp 97]) rfl ?_); at_builtin; refine Kd.S_append (Kd.slice 2 (Kd.int .i64)) (w0 := w) w.heap.size rfl (.tmp 95) (.tmp 97) 31 24 (.slice none 0 0) 24 rfl Try.underlying31 info24 rfl (by decide) (by omega) u227008 x227008_2 t241 [.slice Ao64 t241.length co64] (fun k_ => some k_ ≠ (u227006 : Value).ownBlock ∧ some k_ ≠ (.slice Ao10 t223.length co10 : Value).ownBlock ∧ some k_ ≠ (v237 : Value).ownBlock) (fun k_ => some k_ = (.slice Ao64 t241.length co64 : Value).ownBlock) rfl rfl ?aP (fun k_ hk_ => ((Kd.R_mono (ok' := fun k_ => ((fun k_ => some k_ ≠ (u227006 : Value).ownBlock ∧ some k_ ≠ (.slice Ao10 t223.length co10 : Value).ownBlock ∧ some k_ ≠ (v237 : Value).ownBlock)) k_ ∧ some k_ ≠ (u227008 : Value).ownBlock) (Kd.R_apart' (HO243.out) (Kd.S_typed HO_227008.out) (by decide)) (fun k_ hk => ⟨⟨hk.1.1.1.2, ⟨hk.1.1.2, hk.1.2⟩⟩, hk.2⟩))).1 k_ hk_.symm) ?aF ?aO ?aB ?aS ?aL ?_; (case aP => exact Kd.M_row (Kd.R_mono (Kd.R_tight rfl (Kd.R_mono (ok' := fun k_ => ((fun k_ => some k_ ≠ (u227006 : Value).ownBlock ∧ some k_ ≠ (.slice Ao10 t223.length co10 : Value).ownBlock ∧ some k_ ≠ (v237 : Value).ownBlock)) k_ ∧ some k_ ≠ (u227008 : Value).ownBlock) (Kd.R_apart' (HO243.out) (Kd.S_typed HO_227008.out) (by decide)) (fun k_ hk => ⟨⟨hk.1.1.1.2, ⟨hk.1.1.2, hk.1.2⟩⟩, hk.2⟩))) (fun _ h_ => h_))); (case aB => exact bnx); (case aF => exact (fun k_ hk => ⟨Kd.fresh' (Kd.R_lt (rpl HO_227006.out)) k_ hk, Kd.fresh' (Kd.R_lt (rpl HO_227007.out)) k_ hk, Kd.fresh' (Kd.R_lt (rpl HO238.out)) k_ hk⟩)); (case aO => exact (by (with_reducible repeat (first | apply Kd.S_alloc | apply Kd.S_drewN | apply Kd.S_drew)); exact Kd.S_mono HO_227008.out (fun k_ hk => ⟨⟨hk.1.1.1, ⟨hk.1.1.2, hk.1.2⟩⟩, fun e_ => hk.2 e_⟩))); (case aS => exact bsz); (case aL => have := LMc52.out; omega); intro v245 w63 ho hb hg hat; rw [← Ny244.out] at ho; replace HO_227006 := am (Kd.R_over' (rpl HO_227006.out) (Kd.S_typed (spl HO_227008.out)) (by decide) hg); replace HO_227007 := am (Kd.R_over' (rpl HO_227007.out) (Kd.S_typed (spl HO_227008.out)) (by decide) hg); replace BK50 := am (blk_grown (bpl BK50.out) hg (Kd.S_ne HO_227008.out BK50.out (by decide))); replace BK222 := am (blk_grown (bpl BK222.out) hg (Kd.S_ne HO_227008.out BK222.out (by decide))); replace BK226 := am (blk_grown (bpl BK226.out) hg (Kd.S_ne HO_227008.out BK226.out (by decide))); replace HO238 := am (Kd.R_over' (rpl HO238.out) (Kd.S_typed (spl HO_227008.out)) (by decide) hg); replace HB := am hb; have HO246 := am ho; clear HO_227008 HO243 ho hb hg hat; obtain ⟨Ao65, co65, eo65⟩ := Kd.S_slice HO246.out; subst eo65; obtain ⟨hcz66_0, hcz66_1, hcz66_2, hcz66_3, hcz66_4, hcz66_5, hcz66_6, hcz66_7, hcz66_8, hfz66_0, hfz66_1, hfz66_2, hfz66_3, hfz66_4, hfz66_5, hfz66_6, hfz66_7, hfz66_8⟩ := cf9 (W := w63) BK226.out))
          go_roundg k2
          case measure => have := HK1.out; have := HK2.out; omega
          case rel => exact ⟨(wrap64 (x9_2 + 1)), (y244), (.slice Ao65 y244.length co65), rq, H', ⟨by have := HK1.out; have := HK2.out; omega⟩, ⟨by (with_reducible repeat (first | apply Kd.R_alloc | apply Kd.R_drewN | apply Kd.R_drew)); exact Kd.R_mono (Kd.R_far (p := ⟨gb226, 8, none⟩) (Kd.R_types HO_227006.out BK226.out (by decide)) (fun _ hk => hk.2) (.slice Ao65 y244.length co65)) (fun _ hk => hk.1.1.1)⟩, ⟨by (with_reducible repeat (first | apply Kd.R_alloc | apply Kd.R_drewN | apply Kd.R_drew)); exact Kd.R_mono (Kd.R_far (p := ⟨gb226, 8, none⟩) (Kd.R_types HO_227007.out BK226.out (by decide)) (fun _ hk => hk.2) (.slice Ao65 y244.length co65)) (fun _ hk => hk.1.1.1)⟩, ⟨by (with_reducible repeat (first | apply Kd.S_alloc | apply Kd.S_drewN | apply Kd.S_drew)); exact Kd.S_mono (Kd.S_far (p := ⟨gb226, 8, none⟩) (Kd.S_types HO246.out BK226.out (by decide)) (fun _ hk => hk.2) (.slice Ao65 y244.length co65)) (fun _ hk => ⟨hk.1.1, hk.1.2.1⟩)⟩, ⟨by (with_reducible repeat (first | refine blk_drewN ?_ _ | refine blk_drew ?_ | refine blk_alloc ?_ _)); refine blk_far ?_ NB50_226.out _; (with_reducible repeat (first | refine blk_drewN ?_ _ | refine blk_drew ?_ | refine blk_alloc ?_ _)); exact BK50.out⟩, ⟨by (with_reducible repeat (first | refine blk_drewN ?_ _ | refine blk_drew ?_ | refine blk_alloc ?_ _)); refine blk_far ?_ NB222_226.out _; (with_reducible repeat (first | refine blk_drewN ?_ _ | refine blk_drew ?_ | refine blk_alloc ?_ _)); exact BK222.out⟩, ⟨by (with_reducible repeat (first | refine blk_drewN ?_ _ | refine blk_drew ?_ | refine blk_alloc ?_ _)); refine blk_put (cs := #[.int .i64 a0_0, .int .i64 a0_1, .int .i64 a0_2, .int .i64 a0_3, .int .i64 a0_4, .int .i64 a1, u227006, .slice Ao10 t223.length co10, u227008]) ?_ 8 _ rfl; exact bpl BK226.out⟩, ⟨bnx⟩⟩
         ·rw [if_neg c52] at H
          exact absurd H (by simp)
        ·rw [if_neg c50] at H
         exact absurd H (by simp)
       ·replace c49 := Bool.eq_false_iff.mpr c49
        subst c49
        replace H : (if x227008_2.length < 5864062014805 then (spec_l15Of.l1 k2 (wrap64 (x9_2 + 1)) a0_0 a0_1 a0_2 a0_3 a0_4 l0_5 l0_6 l0_7 a0_0 a0_1 a0_2 a0_3 a0_4 a1 x227006_1 t223 (x227008_2 ++ [y236])) else (none)) = some (r1, r2, r3, r4, r5, r6, r7, r8, r9) := by rw [if_neg (show ¬ (false = true) by decide)] at H; exact H
        by_cases c67 : x227008_2.length < 5864062014805
        ·rw [if_pos c67] at H
         have LMc67 := Aside0.mk c67
         clear c67
         obtain ⟨y247, hy247⟩ : ∃ y_ : List (List Int), y_ = (x227008_2 ++ [y236]) := ⟨_, rfl⟩
         replace H : (spec_l15Of.l1 k2 (wrap64 (x9_2 + 1)) a0_0 a0_1 a0_2 a0_3 a0_4 l0_5 l0_6 l0_7 a0_0 a0_1 a0_2 a0_3 a0_4 a1 x227006_1 t223 y247) = some (r1, r2, r3, r4, r5, r6, r7, r8, r9) := by first | (rw [hy247]; with_reducible exact H) | (have H2_ := (Option.bind_some _ _).symm.trans H; rw [hy247]; with_reducible exact H2_) | (have H2_ := (Option.bind_some _ _).symm.trans H; with_reducible exact H2_) | with_reducible exact H | (rw [hy247]; exact H) | exact H
         have Ny247 := Aside0.mk hy247
         clear hy247
         have H' := Aside0.mk H
         clear H
         have hnb68 := NB50_222.out
         have hnc68 := NB222_50.out
         have hnb69 := NB50_226.out
         have hnc69 := NB226_50.out
         obtain ⟨hcz70_0, hcz70_1, hcz70_2, hcz70_3, hcz70_4, hcz70_5, hcz70_6, hcz70_7, hfz70_0, hfz70_1, hfz70_2, hfz70_3, hfz70_4, hfz70_5, hfz70_6, hfz70_7⟩ := cf8 (W := wr) BK50.out
         go_wp2_with (first | ((with_reducible refine gate_dst (N := 83) rfl ?_); refine Kd.R_lit (Kd.int .i64) _ 2 ?hg (N := 83) ?hd (xs := ([] : List Int)) (inner := []) (ok := fun _ => True) (okp := fun _ => True) ?hr ?hp (fun _ hk => hk) trivial (Below.refl _ _) (Nat.le_refl _) (by simp) ?_; (case hd => rfl); (case hg => rfl); (case hr => first | (go_simp; done) | (go_simp; rfl)); (case hp => exact (Reps.none _ _)); intro v237 w71 ho72 hb hg_ hnew_; clear hg_ hnew_; (first | rw [← Ny236.out] at ho72 | (simp only [Int.reduceToNat] at ho72; rw [← Ny236.out] at ho72)); replace HO_227008 := sel HO_227008 ho72 hb; have HO238 := am (Kd.R_lower (Kd.R_new' (Kd.R_new' ho72 (rlt HO_227006)) (rlt HO_227007)) bsz); replace HO_227006 := rel HO_227006 ho72 hb; replace HO_227007 := rel HO_227007 ho72 hb; replace BK50 := bkb BK50 hb; replace BK222 := bkb BK222 hb; replace BK226 := bkb BK226 hb; replace HB := hbs hb; clear hb ho72) | ((with_reducible refine gate_callee (f := 162) rfl ?_); refine gl_ 85 Try.func162 #[.pointer (some ⟨gb226, 0, none⟩), .int .i64 x9_2] ?_; (with_reducible refine (spec_l15Mine_any.calls (hbx := ?_) a0_0 a1 x9_2 false _ A48.out).mono ?_); exact Aside0.mk ⟨47, #[.int .i64 a0_0, .int .i64 a0_1, .int .i64 a0_2, .int .i64 a0_3, .int .i64 a0_4, .int .i64 a1, u227006, .slice Ao10 t223.length co10, u227008], (bpl BK226.out), (by first | rfl | exact ⟨rfl, rfl⟩)⟩; rintro e w73 ⟨rfl, hb⟩; refine ⟨_, rfl, ?_⟩; replace HO_227006 := rbl HO_227006 hb; replace HO_227007 := rbl HO_227007 hb; replace HO_227008 := sbl HO_227008 hb; replace HO238 := rbl HO238 hb; replace BK50 := bkb BK50 hb; replace BK222 := bkb BK222 hb; replace BK226 := bkb BK226 hb; replace HB := hbs hb; (try clear hb); have hnb74 := NB226_222.out; have hnc74 := NB222_226.out; obtain ⟨hcz75_0, hcz75_1, hcz75_2, hcz75_3, hcz75_4, hcz75_5, hcz75_6, hcz75_7, hcz75_8, hfz75_0, hfz75_1, hfz75_2, hfz75_3, hfz75_4, hfz75_5, hfz75_6, hfz75_7, hfz75_8⟩ := cf9 (W := w73) BK226.out; obtain ⟨Ao77, co77, eo77⟩ := Kd.R_slice HO238.out; subst eo77) | ((with_reducible refine gate_builtin (b := .append) (xs := #[.tmp 95, .tmp 97]) rfl ?_); at_builtin; refine Kd.S_append (Kd.slice 2 (Kd.int .i64)) (w0 := w) w.heap.size rfl (.tmp 95) (.tmp 97) 31 24 (.slice none 0 0) 24 rfl Try.underlying31 info24 rfl (by decide) (by omega) u227008 x227008_2 y236 [.slice Ao77 y236.length co77] (fun k_ => some k_ ≠ (u227006 : Value).ownBlock ∧ some k_ ≠ (.slice Ao10 t223.length co10 : Value).ownBlock) (fun k_ => some k_ = (.slice Ao77 y236.length co77 : Value).ownBlock) rfl rfl ?aP (fun k_ hk_ => ((Kd.R_mono (ok' := fun k_ => ((fun k_ => some k_ ≠ (u227006 : Value).ownBlock ∧ some k_ ≠ (.slice Ao10 t223.length co10 : Value).ownBlock)) k_ ∧ some k_ ≠ (u227008 : Value).ownBlock) (Kd.R_apart' (HO238.out) (Kd.S_typed HO_227008.out) (by decide)) (fun k_ hk => ⟨⟨hk.1.1.2, hk.1.2⟩, hk.2⟩))).1 k_ hk_.symm) ?aF ?aO ?aB ?aS ?aL ?_; (case aP => exact Kd.M_row (Kd.R_mono (Kd.R_tight rfl (Kd.R_mono (ok' := fun k_ => ((fun k_ => some k_ ≠ (u227006 : Value).ownBlock ∧ some k_ ≠ (.slice Ao10 t223.length co10 : Value).ownBlock)) k_ ∧ some k_ ≠ (u227008 : Value).ownBlock) (Kd.R_apart' (HO238.out) (Kd.S_typed HO_227008.out) (by decide)) (fun k_ hk => ⟨⟨hk.1.1.2, hk.1.2⟩, hk.2⟩))) (fun _ h_ => h_))); (case aB => exact bnx); (case aF => exact (fun k_ hk => ⟨Kd.fresh' (Kd.R_lt (rpl HO_227006.out)) k_ hk, Kd.fresh' (Kd.R_lt (rpl HO_227007.out)) k_ hk⟩)); (case aO => exact (by (with_reducible repeat (first | apply Kd.S_alloc | apply Kd.S_drewN | apply Kd.S_drew)); exact Kd.S_mono HO_227008.out (fun k_ hk => ⟨⟨hk.1.1, hk.1.2⟩, fun e_ => hk.2 e_⟩))); (case aS => exact bsz); (case aL => have := LMc67.out; omega); intro v248 w76 ho hb hg hat; rw [← Ny247.out] at ho; replace HO_227006 := am (Kd.R_over' (rpl HO_227006.out) (Kd.S_typed (spl HO_227008.out)) (by decide) hg); replace HO_227007 := am (Kd.R_over' (rpl HO_227007.out) (Kd.S_typed (spl HO_227008.out)) (by decide) hg); replace BK50 := am (blk_grown (bpl BK50.out) hg (Kd.S_ne HO_227008.out BK50.out (by decide))); replace BK222 := am (blk_grown (bpl BK222.out) hg (Kd.S_ne HO_227008.out BK222.out (by decide))); replace BK226 := am (blk_grown (bpl BK226.out) hg (Kd.S_ne HO_227008.out BK226.out (by decide))); replace HB := am hb; have HO249 := am ho; clear HO_227008 HO238 ho hb hg hat; obtain ⟨Ao78, co78, eo78⟩ := Kd.S_slice HO249.out; subst eo78; obtain ⟨hcz79_0, hcz79_1, hcz79_2, hcz79_3, hcz79_4, hcz79_5, hcz79_6, hcz79_7, hcz79_8, hfz79_0, hfz79_1, hfz79_2, hfz79_3, hfz79_4, hfz79_5, hfz79_6, hfz79_7, hfz79_8⟩ := cf9 (W := w76) BK226.out))
         go_roundg k2
         case measure => have := HK1.out; have := HK2.out; omega
         case rel => exact ⟨(wrap64 (x9_2 + 1)), (y247), (.slice Ao78 y247.length co78), rq, H', ⟨by have := HK1.out; have := HK2.out; omega⟩, ⟨by (with_reducible repeat (first | apply Kd.R_alloc | apply Kd.R_drewN | apply Kd.R_drew)); exact Kd.R_mono (Kd.R_far (p := ⟨gb226, 8, none⟩) (Kd.R_types HO_227006.out BK226.out (by decide)) (fun _ hk => hk.2) (.slice Ao78 y247.length co78)) (fun _ hk => hk.1.1)⟩, ⟨by (with_reducible repeat (first | apply Kd.R_alloc | apply Kd.R_drewN | apply Kd.R_drew)); exact Kd.R_mono (Kd.R_far (p := ⟨gb226, 8, none⟩) (Kd.R_types HO_227007.out BK226.out (by decide)) (fun _ hk => hk.2) (.slice Ao78 y247.length co78)) (fun _ hk => hk.1.1)⟩, ⟨by (with_reducible repeat (first | apply Kd.S_alloc | apply Kd.S_drewN | apply Kd.S_drew)); exact Kd.S_mono (Kd.S_far (p := ⟨gb226, 8, none⟩) (Kd.S_types HO249.out BK226.out (by decide)) (fun _ hk => hk.2) (.slice Ao78 y247.length co78)) (fun _ hk => ⟨hk.1.1, hk.1.2⟩)⟩, ⟨by (with_reducible repeat (first | refine blk_drewN ?_ _ | refine blk_drew ?_ | refine blk_alloc ?_ _)); refine blk_far ?_ NB50_226.out _; (with_reducible repeat (first | refine blk_drewN ?_ _ | refine blk_drew ?_ | refine blk_alloc ?_ _)); exact BK50.out⟩, ⟨by (with_reducible repeat (first | refine blk_drewN ?_ _ | refine blk_drew ?_ | refine blk_alloc ?_ _)); refine blk_far ?_ NB222_226.out _; (with_reducible repeat (first | refine blk_drewN ?_ _ | refine blk_drew ?_ | refine blk_alloc ?_ _)); exact BK222.out⟩, ⟨by (with_reducible repeat (first | refine blk_drewN ?_ _ | refine blk_drew ?_ | refine blk_alloc ?_ _)); refine blk_put (cs := #[.int .i64 a0_0, .int .i64 a0_1, .int .i64 a0_2, .int .i64 a0_3, .int .i64 a0_4, .int .i64 a1, u227006, .slice Ao10 t223.length co10, u227008]) ?_ 8 _ rfl; exact bpl BK226.out⟩, ⟨bnx⟩⟩
        ·rw [if_neg c67] at H
         exact absurd H (by simp)
      ·rw [if_neg c47] at H
       have c47b0 : decide (x9_2 < (l0_7.length : Int)) = false := decide_eq_false c47
       clear c47
       simp only [Option.some.injEq, Prod.mk.injEq] at H
       obtain ⟨rfl, rfl, rfl, rfl, rfl, rfl, rfl, rfl, rfl⟩ := H
       have hnb80 := NB50_222.out
       have hnc80 := NB222_50.out
       have hnb81 := NB50_226.out
       have hnc81 := NB226_50.out
       obtain ⟨hcz82_0, hcz82_1, hcz82_2, hcz82_3, hcz82_4, hcz82_5, hcz82_6, hcz82_7, hfz82_0, hfz82_1, hfz82_2, hfz82_3, hfz82_4, hfz82_5, hfz82_6, hfz82_7⟩ := cf8 (W := wr) BK50.out
       have hnb83 := NB226_222.out
       have hnc83 := NB222_226.out
       obtain ⟨hcz84_0, hcz84_1, hcz84_2, hcz84_3, hcz84_4, hcz84_5, hcz84_6, hcz84_7, hcz84_8, hfz84_0, hfz84_1, hfz84_2, hfz84_3, hfz84_4, hfz84_5, hfz84_6, hfz84_7, hfz84_8⟩ := cf9 (W := wr) BK226.out
       obtain ⟨hcz85_0, hcz85_1, hcz85_2, hcz85_3, hcz85_4, hcz85_5, hcz85_6, hcz85_7, hcz85_8, hfz85_0, hfz85_1, hfz85_2, hfz85_3, hfz85_4, hfz85_5, hfz85_6, hfz85_7, hfz85_8⟩ := cf9 (W := wr) BK222.out
       obtain ⟨Ao86, co86, eo86⟩ := Kd.R_slice HO_227006.out
       subst eo86
       obtain ⟨Ao87, co87, eo87⟩ := Kd.S_slice HO_227008.out
       subst eo87
       go_wp2
       refine bodyPost_ret (results_cell_row rfl _ _ gb222 47 #[.int .i64 a0_0, .int .i64 a0_1, .int .i64 a0_2, .int .i64 a0_3, .int .i64 a0_4, .int .i64 a1, .slice Ao86 x227006_1.length co86, .slice Ao10 t223.length co10, .slice Ao87 x227008_2.length co87] (0, 0) _ rfl (by (with_reducible repeat (first | refine blk_drewN ?_ _ | refine blk_drew ?_ | refine blk_alloc ?_ _)); refine blk_put (cs := #[.int .i64 a0_0, .int .i64 a0_1, .int .i64 a0_2, .int .i64 a0_3, .int .i64 a0_4, .int .i64 a1, .slice Ao86 x227006_1.length co86, .slice Ao10 t223.length co10, .slice none 0 0]) ?_ 8 _ rfl; (with_reducible repeat (first | refine blk_drewN ?_ _ | refine blk_drew ?_ | refine blk_alloc ?_ _)); refine blk_put (cs := #[.int .i64 a0_0, .int .i64 a0_1, .int .i64 a0_2, .int .i64 a0_3, .int .i64 a0_4, .int .i64 a1, .slice Ao86 x227006_1.length co86, .slice none 0 0, .slice none 0 0]) ?_ 7 _ rfl; (with_reducible repeat (first | refine blk_drewN ?_ _ | refine blk_drew ?_ | refine blk_alloc ?_ _)); refine blk_put (cs := #[.int .i64 a0_0, .int .i64 a0_1, .int .i64 a0_2, .int .i64 a0_3, .int .i64 a0_4, .int .i64 a1, .slice none 0 0, .slice none 0 0, .slice none 0 0]) ?_ 6 _ rfl; (with_reducible repeat (first | refine blk_drewN ?_ _ | refine blk_drew ?_ | refine blk_alloc ?_ _)); refine blk_put (cs := #[.int .i64 a0_0, .int .i64 a0_1, .int .i64 a0_2, .int .i64 a0_3, .int .i64 a0_4, .int .i64 0, .slice none 0 0, .slice none 0 0, .slice none 0 0]) ?_ 5 _ rfl; (with_reducible repeat (first | refine blk_drewN ?_ _ | refine blk_drew ?_ | refine blk_alloc ?_ _)); refine blk_put (cs := #[.int .i64 a0_0, .int .i64 a0_1, .int .i64 a0_2, .int .i64 a0_3, .int .i64 0, .int .i64 0, .slice none 0 0, .slice none 0 0, .slice none 0 0]) ?_ 4 _ rfl; (with_reducible repeat (first | refine blk_drewN ?_ _ | refine blk_drew ?_ | refine blk_alloc ?_ _)); refine blk_put (cs := #[.int .i64 a0_0, .int .i64 a0_1, .int .i64 a0_2, .int .i64 0, .int .i64 0, .int .i64 0, .slice none 0 0, .slice none 0 0, .slice none 0 0]) ?_ 3 _ rfl; (with_reducible repeat (first | refine blk_drewN ?_ _ | refine blk_drew ?_ | refine blk_alloc ?_ _)); refine blk_put (cs := #[.int .i64 a0_0, .int .i64 a0_1, .int .i64 0, .int .i64 0, .int .i64 0, .int .i64 0, .slice none 0 0, .slice none 0 0, .slice none 0 0]) ?_ 2 _ rfl; (with_reducible repeat (first | refine blk_drewN ?_ _ | refine blk_drew ?_ | refine blk_alloc ?_ _)); refine blk_put (cs := #[.int .i64 a0_0, .int .i64 0, .int .i64 0, .int .i64 0, .int .i64 0, .int .i64 0, .slice none 0 0, .slice none 0 0, .slice none 0 0]) ?_ 1 _ rfl; (with_reducible repeat (first | refine blk_drewN ?_ _ | refine blk_drew ?_ | refine blk_alloc ?_ _)); refine blk_put (cs := #[.int .i64 0, .int .i64 0, .int .i64 0, .int .i64 0, .int .i64 0, .int .i64 0, .slice none 0 0, .slice none 0 0, .slice none 0 0]) ?_ 0 _ rfl; exact bpl BK222.out) Try.underlying47 rfl (by kernel_rfl)) rfl ?_
       exact ⟨_, _, _, enq, by (with_reducible repeat (first | apply Kd.R_alloc | apply Kd.R_drewN | apply Kd.R_drew)); exact Kd.R_mono (Kd.R_far (p := ⟨gb222, 8, none⟩) (Kd.R_far (p := ⟨gb222, 7, none⟩) (Kd.R_far (p := ⟨gb222, 6, none⟩) (Kd.R_far (p := ⟨gb222, 5, none⟩) (Kd.R_far (p := ⟨gb222, 4, none⟩) (Kd.R_far (p := ⟨gb222, 3, none⟩) (Kd.R_far (p := ⟨gb222, 2, none⟩) (Kd.R_far (p := ⟨gb222, 1, none⟩) (Kd.R_far (p := ⟨gb222, 0, none⟩) (Kd.R_types HO_227006.out BK222.out (by decide)) (fun _ hk => hk.2) (.int .i64 a0_0)) (fun _ hk => hk.2) (.int .i64 a0_1)) (fun _ hk => hk.2) (.int .i64 a0_2)) (fun _ hk => hk.2) (.int .i64 a0_3)) (fun _ hk => hk.2) (.int .i64 a0_4)) (fun _ hk => hk.2) (.int .i64 a1)) (fun _ hk => hk.2) (.slice Ao86 x227006_1.length co86)) (fun _ hk => hk.2) (.slice Ao10 t223.length co10)) (fun _ hk => hk.2) (.slice Ao87 x227008_2.length co87)) (fun _ hk => hk.1), by (with_reducible repeat (first | apply Kd.R_alloc | apply Kd.R_drewN | apply Kd.R_drew)); exact Kd.R_mono (Kd.R_far (p := ⟨gb222, 8, none⟩) (Kd.R_far (p := ⟨gb222, 7, none⟩) (Kd.R_far (p := ⟨gb222, 6, none⟩) (Kd.R_far (p := ⟨gb222, 5, none⟩) (Kd.R_far (p := ⟨gb222, 4, none⟩) (Kd.R_far (p := ⟨gb222, 3, none⟩) (Kd.R_far (p := ⟨gb222, 2, none⟩) (Kd.R_far (p := ⟨gb222, 1, none⟩) (Kd.R_far (p := ⟨gb222, 0, none⟩) (Kd.R_types HO_227007.out BK222.out (by decide)) (fun _ hk => hk.2) (.int .i64 a0_0)) (fun _ hk => hk.2) (.int .i64 a0_1)) (fun _ hk => hk.2) (.int .i64 a0_2)) (fun _ hk => hk.2) (.int .i64 a0_3)) (fun _ hk => hk.2) (.int .i64 a0_4)) (fun _ hk => hk.2) (.int .i64 a1)) (fun _ hk => hk.2) (.slice Ao86 x227006_1.length co86)) (fun _ hk => hk.2) (.slice Ao10 t223.length co10)) (fun _ hk => hk.2) (.slice Ao87 x227008_2.length co87)) (fun _ hk => hk.1), by (with_reducible repeat (first | apply Kd.S_alloc | apply Kd.S_drewN | apply Kd.S_drew)); exact Kd.S_mono (Kd.S_far (p := ⟨gb222, 8, none⟩) (Kd.S_far (p := ⟨gb222, 7, none⟩) (Kd.S_far (p := ⟨gb222, 6, none⟩) (Kd.S_far (p := ⟨gb222, 5, none⟩) (Kd.S_far (p := ⟨gb222, 4, none⟩) (Kd.S_far (p := ⟨gb222, 3, none⟩) (Kd.S_far (p := ⟨gb222, 2, none⟩) (Kd.S_far (p := ⟨gb222, 1, none⟩) (Kd.S_far (p := ⟨gb222, 0, none⟩) (Kd.S_types HO_227008.out BK222.out (by decide)) (fun _ hk => hk.2) (.int .i64 a0_0)) (fun _ hk => hk.2) (.int .i64 a0_1)) (fun _ hk => hk.2) (.int .i64 a0_2)) (fun _ hk => hk.2) (.int .i64 a0_3)) (fun _ hk => hk.2) (.int .i64 a0_4)) (fun _ hk => hk.2) (.int .i64 a1)) (fun _ hk => hk.2) (.slice Ao86 x227006_1.length co86)) (fun _ hk => hk.2) (.slice Ao10 t223.length co10)) (fun _ hk => hk.2) (.slice Ao87 x227008_2.length co87)) (fun _ hk => ⟨hk.1.1, hk.1.2⟩), bnx⟩

end Go.Proofs.Ythehhncokikgcaa.PFnExactPartOf
