-- Contracts of the functions that the law reaches, written by wip/xprint.py of this repo.
import Derived.Test.YthehhncokikgcaaPFnExactPartOfx0
import Derived.Test.YthehhncokikgcaaPFnExactPartOfx1
import Derived.Test.YthehhncokikgcaaPFnExactPartOfx9
import Derived.Test.YthehhncokikgcaaPFnExactPartOfx11
import Derived.Test.YthehhncokikgcaaPFnExactPartOfx12
import Derived.Test.YthehhncokikgcaaPFnExactPartOfx13
import Derived.Test.YthehhncokikgcaaPFnExactPartOfx14
namespace Go.Proofs.Ythehhncokikgcaa.PFnExactPartOf
open Go.RowKit Go.Proofs.YthehhncokikgcaaW.PrintWords Go.Proofs.YthehhncokikgcaaW.PrintLast Go.Proofs.YthehhncokikgcaaW.PrintMore
attribute [local go_sem] max2_int min2_int max_two min_two max_three min_three max_four min_four   -- for this text's walks alone
set_option linter.unusedVariables false
set_option linter.unusedSimpArgs false

/-! ### impl_PartOf: function 37 -/
theorem impl_PartOf.ix {s : Int} (h0 : 0 ≤ s) (h2 : s < 2) : ∀ (a b : Int) (W : World), (Instr.index 110 (.agg #[.int .i64 a, .int .i64 b]) (.int .i64 s)).run Try.prog W = .ok (.int .i64 (idx2 a b s)) W := by
  intro a b W
  obtain rfl | rfl : s = 0 ∨ s = 1 := by omega
  · show _ = _
    kernel_rfl
  · show _ = _
    kernel_rfl
mutual
def impl_PartOf.l0 : Nat → Int → List Int → Int → Int → Int → Int → Int → Int → Int → List Int → List Int → List (List Int) → Int → Int → Int → Int → Int → Int → List Int → List Int → Option (Int × Int × Int × Int × Int × Int × Int × List Int × List Int × (List (List Int)))
 | 0, _, _, _, _, _, _, _, _, _, _, _, _, _, _, _, _, _, _, _, _ => none
 | k + 1, x1, x43, x44, x45, x400000, x400001, x400002, x400003, x400004, x400005, x400006, x400007, x412000, x412001, x412002, x412003, x412004, x412005, x412006, x412007 => if x45 < x44 then (if 0 ≤ x45 then (if x45 < (x43.length : Int) then ((impl_isTurned.f x45).bind fun t413 => ((impl_splitIndex.f (rd x43 x45) x400004 t413).bind fun bt414 => (if 0 ≤ x1 then (if x1 < 2 then (if x412006.length < 17592186044416 then (impl_PartOf.l0 k x1 x43 x44 (wrap64 (x45 + 1)) x400000 x400001 x400002 x400003 x400004 x400005 x400006 x400007 x412000 x412001 x412002 x412003 x412004 x412005 (x412006 ++ [idx2 bt414.1 bt414.2 x1]) x412007) else (none)) else (none)) else (none)))) else (none)) else (none)) else (impl_PartOf.l1 k x400007 (x400007.length : Int) 0 x412000 x412001 x412002 x412003 x412004 x412005 x412006 x412007 ([] : List (List Int)))
def impl_PartOf.l1 : Nat → List (List Int) → Int → Int → Int → Int → Int → Int → Int → Int → List Int → List Int → List (List Int) → Option (Int × Int × Int × Int × Int × Int × Int × List Int × List Int × (List (List Int)))
 | 0, _, _, _, _, _, _, _, _, _, _, _, _ => none
 | k + 1, x71, x72, x73, x412000, x412001, x412002, x412003, x412004, x412005, x412006, x412007, x412008 => if x73 < x72 then (if 0 ≤ x73 then (if x73 < (x71.length : Int) then ((impl_Part_owns.f x412000 x412001 x412002 x412003 x412004 x412005 x412006 x412007 x412008 x73).bind fun t424 => (if t424 = true then ((slices_Clone_int64_int64.f (rd_L1 x71 x73)).bind fun t425 => (if x412008.length < 5864062014805 then (impl_PartOf.l1 k x71 x72 (wrap64 (x73 + 1)) x412000 x412001 x412002 x412003 x412004 x412005 x412006 x412007 (x412008 ++ [t425])) else (none))) else (if x412008.length < 5864062014805 then (impl_PartOf.l1 k x71 x72 (wrap64 (x73 + 1)) x412000 x412001 x412002 x412003 x412004 x412005 x412006 x412007 (x412008 ++ [(([] : List Int))])) else (none)))) else (none)) else (none)) else ((impl_PartFault.f k x412000 x412001 x412002 x412003 x412004 x412005 x412006 x412007 x412008).bind fun t419 => (if t419 = 0 then (some (0, x412000, x412001, x412002, x412003, x412004, x412005, x412006, x412007, x412008)) else (some (t419, 0, 0, 0, 0, 0, 0, ([] : List Int), ([] : List Int), ([] : List (List Int))))))
end
def impl_PartOf.f (k : Nat) (a0_0 : Int) (a0_1 : Int) (a0_2 : Int) (a0_3 : Int) (a0_4 : Int) (l0_5 : List Int) (l0_6 : List Int) (l0_7 : List (List Int)) (a1 : Int) : Option (Int × Int × Int × Int × Int × Int × Int × List Int × List Int × (List (List Int))) := (impl_FrameFault.f k a0_0 a0_1 a0_2 a0_3 a0_4 l0_5 l0_6 l0_7).bind fun t401 => ((impl_isSide.f a1).bind fun t402 => ((impl_codeIf.f (!t402) 3).bind fun t403 => ((impl_first.f k (([t401, t403] : List Int))).bind fun t407 => (if t407 = 0 then ((slices_Clone_int64_int64.f l0_6).bind fun t408 => (impl_PartOf.l0 k a1 l0_5 (l0_5.length : Int) 0 a0_0 a0_1 a0_2 a0_3 a0_4 l0_5 l0_6 l0_7 a0_0 a0_1 a0_2 a0_3 a0_4 a1 ([] : List Int) t408)) else (some (t407, 0, 0, 0, 0, 0, 0, ([] : List Int), ([] : List Int), ([] : List (List Int))))))))
theorem impl_PartOf.mono_l : ∀ k, (∀ y0 y1 y2 y3 y4 y5 y6 y7 y8 y9 y10 y11 y12 y13 y14 y15 y16 y17 y18 y19, LeO (impl_PartOf.l0 k y0 y1 y2 y3 y4 y5 y6 y7 y8 y9 y10 y11 y12 y13 y14 y15 y16 y17 y18 y19) (impl_PartOf.l0 (k + 1) y0 y1 y2 y3 y4 y5 y6 y7 y8 y9 y10 y11 y12 y13 y14 y15 y16 y17 y18 y19)) ∧ (∀ y0 y1 y2 y3 y4 y5 y6 y7 y8 y9 y10 y11, LeO (impl_PartOf.l1 k y0 y1 y2 y3 y4 y5 y6 y7 y8 y9 y10 y11) (impl_PartOf.l1 (k + 1) y0 y1 y2 y3 y4 y5 y6 y7 y8 y9 y10 y11))
 | 0 => ⟨fun _ _ _ _ _ _ _ _ _ _ _ _ _ _ _ _ _ _ _ _ r h => by simp [impl_PartOf.l0] at h, fun _ _ _ _ _ _ _ _ _ _ _ _ r h => by simp [impl_PartOf.l1] at h⟩
 | k + 1 => by
  obtain ⟨ih0, ih1⟩ := impl_PartOf.mono_l k
  refine ⟨?_, ?_⟩
  ·intro y0 y1 y2 y3 y4 y5 y6 y7 y8 y9 y10 y11 y12 y13 y14 y15 y16 y17 y18 y19
   unfold impl_PartOf.l0
   repeat' first
   | (with_reducible exact ih0 _ _ _ _ _ _ _ _ _ _ _ _ _ _ _ _ _ _ _ _)
   | (with_reducible exact ih1 _ _ _ _ _ _ _ _ _ _ _ _)
   | (with_reducible exact impl_FrameFault.mono _ _ _ _ _ _ _ _ _)
   | (with_reducible exact impl_PartFault.mono _ _ _ _ _ _ _ _ _ _)
   | (with_reducible exact impl_first.mono _ _)
   | (with_reducible exact LeO.refl _)
   | (with_reducible exact LeO.none _)
   | (with_reducible refine LeO.ite ?_ ?_)
   | (with_reducible refine LeO.bind ?_ (fun _ => ?_))
   | exact ih0 _ _ _ _ _ _ _ _ _ _ _ _ _ _ _ _ _ _ _ _
   | exact ih1 _ _ _ _ _ _ _ _ _ _ _ _
   | exact impl_FrameFault.mono _ _ _ _ _ _ _ _ _
   | exact impl_PartFault.mono _ _ _ _ _ _ _ _ _ _
   | exact impl_first.mono _ _
   | exact LeO.none _
   | refine LeO.ite ?_ ?_
   | refine LeO.bind ?_ (fun _ => ?_)
  ·intro y0 y1 y2 y3 y4 y5 y6 y7 y8 y9 y10 y11
   unfold impl_PartOf.l1
   repeat' first
   | (with_reducible exact ih0 _ _ _ _ _ _ _ _ _ _ _ _ _ _ _ _ _ _ _ _)
   | (with_reducible exact ih1 _ _ _ _ _ _ _ _ _ _ _ _)
   | (with_reducible exact impl_FrameFault.mono _ _ _ _ _ _ _ _ _)
   | (with_reducible exact impl_PartFault.mono _ _ _ _ _ _ _ _ _ _)
   | (with_reducible exact impl_first.mono _ _)
   | (with_reducible exact LeO.refl _)
   | (with_reducible exact LeO.none _)
   | (with_reducible refine LeO.ite ?_ ?_)
   | (with_reducible refine LeO.bind ?_ (fun _ => ?_))
   | exact ih0 _ _ _ _ _ _ _ _ _ _ _ _ _ _ _ _ _ _ _ _
   | exact ih1 _ _ _ _ _ _ _ _ _ _ _ _
   | exact impl_FrameFault.mono _ _ _ _ _ _ _ _ _
   | exact impl_PartFault.mono _ _ _ _ _ _ _ _ _ _
   | exact impl_first.mono _ _
   | exact LeO.none _
   | refine LeO.ite ?_ ?_
   | refine LeO.bind ?_ (fun _ => ?_)
theorem impl_PartOf.mono : ∀ a0 a1 a2 a3 a4 a5 a6 a7 a8 k, LeO (impl_PartOf.f k a0 a1 a2 a3 a4 a5 a6 a7 a8) (impl_PartOf.f (k + 1) a0 a1 a2 a3 a4 a5 a6 a7 a8) := by
 intro a0 a1 a2 a3 a4 a5 a6 a7 a8 k
 obtain ⟨ih0, ih1⟩ := impl_PartOf.mono_l k
 unfold impl_PartOf.f
 repeat' first
   | (with_reducible exact ih0 _ _ _ _ _ _ _ _ _ _ _ _ _ _ _ _ _ _ _ _)
   | (with_reducible exact ih1 _ _ _ _ _ _ _ _ _ _ _ _)
   | (with_reducible exact impl_FrameFault.mono _ _ _ _ _ _ _ _ _)
   | (with_reducible exact impl_PartFault.mono _ _ _ _ _ _ _ _ _ _)
   | (with_reducible exact impl_first.mono _ _)
   | (with_reducible exact LeO.refl _)
   | (with_reducible exact LeO.none _)
   | (with_reducible refine LeO.ite ?_ ?_)
   | (with_reducible refine LeO.bind ?_ (fun _ => ?_))
   | exact ih0 _ _ _ _ _ _ _ _ _ _ _ _ _ _ _ _ _ _ _ _
   | exact ih1 _ _ _ _ _ _ _ _ _ _ _ _
   | exact impl_FrameFault.mono _ _ _ _ _ _ _ _ _
   | exact impl_PartFault.mono _ _ _ _ _ _ _ _ _ _
   | exact impl_first.mono _ _
   | exact LeO.none _
   | refine LeO.ite ?_ ?_
   | refine LeO.bind ?_ (fun _ => ?_)
def impl_PartOf.T4 : Bool × List (List Nat × List Nat) := (true, [([], []), ([0], [0]), ([], []), ([2], [2]), ([], []), ([4], [4]), ([], []), ([6], [6]), ([], []), ([8], [8]), ([], []), ([], []), ([11], [11]), ([12], [12]), ([1, 3, 5, 7, 9, 10, 13], [1, 3, 5, 7, 9, 10, 13]), ([], []), ([15, 14, 13, 0, 1, 2, 3, 4, 5, 6, 7, 8, 9, 10, 11, 12, 13, 14, 15], [14, 15])])
def impl_PartOf.B4 : List Nat := [0, 1, 0, 4, 0, 16, 0, 64, 0, 256, 0, 0, 2048, 6144, 16383, 0, 65535]
theorem impl_PartOf.tab4 : rtab .any (opsOf Try.f37 4) = impl_PartOf.T4 := by kernel_rfl
theorem impl_PartOf.bits4 : waitsOk impl_PartOf.T4.2 impl_PartOf.B4 = true := by kernel_rfl
def impl_PartOf.T8 : Bool × List (List Nat × List Nat) := (true, [([], []), ([], []), ([1], [1]), ([], []), ([3], [3]), ([0, 2, 4, 4], [0, 2, 4]), ([5], [5]), ([6], [6]), ([6], [6]), ([7, 5, 0, 1, 2, 3, 4, 5, 6, 7], [7]), ([8, 9, 0, 1, 2, 3, 4, 5, 6, 7, 8, 9], [8])])
def impl_PartOf.B8 : List Nat := [0, 0, 2, 0, 8, 31, 63, 127, 127, 255, 1023]
theorem impl_PartOf.tab8 : rtab .any (opsOf Try.f37 8) = impl_PartOf.T8 := by kernel_rfl
theorem impl_PartOf.bits8 : waitsOk impl_PartOf.T8.2 impl_PartOf.B8 = true := by kernel_rfl
def impl_PartOf.T9 : Bool × List (List Nat × List Nat) := (true, [([], []), ([0], [0]), ([], []), ([], []), ([2, 3], [2, 3]), ([], []), ([4, 5], [4, 5]), ([6], [6]), ([1, 7], [1, 7]), ([0, 1, 2, 3, 4, 5, 6, 7, 8], []), ([9, 8, 8, 0, 1, 2, 3, 4, 5, 6, 7, 8], [8, 9])])
def impl_PartOf.B9 : List Nat := [0, 1, 0, 0, 12, 0, 60, 124, 255, 511, 1023]
theorem impl_PartOf.tab9 : rtab .any (opsOf Try.f37 9) = impl_PartOf.T9 := by kernel_rfl
theorem impl_PartOf.bits9 : waitsOk impl_PartOf.T9.2 impl_PartOf.B9 = true := by kernel_rfl
set_option maxHeartbeats 8000000 in
set_option maxRecDepth 100000 in
theorem impl_PartOf.calls (k : Nat) (a0_0 : Int) (a0_1 : Int) (a0_2 : Int) (a0_3 : Int) (a0_4 : Int) (A0_5 : Option Addr) (c0_5 : Nat) (l0_5 : List Int) (A0_6 : Option Addr) (c0_6 : Nat) (l0_6 : List Int) (A0_7 : Option Addr) (c0_7 : Nat) (l0_7 : List (List Int)) (a1 : Int) (r1 : Int) (r2 : Int) (r3 : Int) (r4 : Int) (r5 : Int) (r6 : Int) (r7 : Int) (r8 : List Int) (r9 : List Int) (r10 : List (List Int)) (w : World) (hr0_5 : Kd.C (Kd.int .i64) w A0_5 l0_5.length l0_5) (hc0_5 : l0_5.length ≤ c0_5) (hr0_6 : Kd.C (Kd.int .i64) w A0_6 l0_6.length l0_6) (hc0_6 : l0_6.length ≤ c0_6) (hr0_7 : Kd.C (Kd.slice 2 (Kd.int .i64)) w A0_7 l0_7.length l0_7) (hc0_7 : l0_7.length ≤ c0_7) (h : impl_PartOf.f k a0_0 a0_1 a0_2 a0_3 a0_4 l0_5 l0_6 l0_7 a1 = some (r1, r2, r3, r4, r5, r6, r7, r8, r9, r10)) :
  Calls Try.prog 37 #[.agg #[.int .i64 a0_0, .int .i64 a0_1, .int .i64 a0_2, .int .i64 a0_3, .int .i64 a0_4, .slice A0_5 l0_5.length c0_5, .slice A0_6 l0_6.length c0_6, .slice A0_7 l0_7.length c0_7], .int .i64 a1] w fun e w' => ∃ v7_ v8_ v9_ : Value, e = .returned (.agg #[.int .i64 r1, .int .i64 r2, .int .i64 r3, .int .i64 r4, .int .i64 r5, .int .i64 r6, .int .i64 r7, v7_, v8_, v9_]) ∧ Kd.R (Kd.int .i64) 2 w' w.heap.size (fun k_ => some k_ ≠ (v8_ : Value).ownBlock) v7_ r8 ∧ Kd.R (Kd.int .i64) 2 w' w.heap.size (fun k_ => some k_ ≠ (v7_ : Value).ownBlock) v8_ r9 ∧ Kd.S (Kd.slice 2 (Kd.int .i64)) 24 w' w.heap.size (fun k_ => some k_ ≠ (v7_ : Value).ownBlock ∧ some k_ ≠ (v8_ : Value).ownBlock) v9_ r10 ∧ Below w.heap.size w w' := by
 have hu36 := Try.underlying36
 have hu53 := Try.underlying53
 have hu47 := Try.underlying47
 have hu110 := Try.underlying110
 have HR0_5 := Aside0.mk hr0_5
 have HC0_5 := Aside0.mk hc0_5
 clear hr0_5 hc0_5
 have HR0_6 := Aside0.mk hr0_6
 have HC0_6 := Aside0.mk hc0_6
 clear hr0_6 hc0_6
 have HR0_7 := Aside0.mk hr0_7
 have HC0_7 := Aside0.mk hc0_7
 clear hr0_7 hc0_7
 have HB := Aside0.mk (Below.refl w.heap.size w)
 have H : ((impl_FrameFault.f k a0_0 a0_1 a0_2 a0_3 a0_4 l0_5 l0_6 l0_7).bind fun t401 => ((impl_isSide.f a1).bind fun t402 => ((impl_codeIf.f (!t402) 3).bind fun t403 => ((impl_first.f k (([t401, t403] : List Int))).bind fun t407 => (if t407 = 0 then ((slices_Clone_int64_int64.f l0_6).bind fun t408 => (impl_PartOf.l0 k a1 l0_5 (l0_5.length : Int) 0 a0_0 a0_1 a0_2 a0_3 a0_4 l0_5 l0_6 l0_7 a0_0 a0_1 a0_2 a0_3 a0_4 a1 ([] : List Int) t408)) else (some (t407, 0, 0, 0, 0, 0, 0, ([] : List Int), ([] : List Int), ([] : List (List Int))))))))) = some (r1, r2, r3, r4, r5, r6, r7, r8, r9, r10) := h
 clear h
 obtain ⟨t401, A3, H⟩ := bnd H
 obtain ⟨t402, A4, H⟩ := bnd H
 obtain ⟨t403, A5, H⟩ := bnd H
 obtain ⟨y404, hy404⟩ : ∃ y_ : List Int, y_ = (([t401, t403] : List Int)) := ⟨_, rfl⟩
 replace H : ((impl_first.f k y404).bind fun t407 => (if t407 = 0 then ((slices_Clone_int64_int64.f l0_6).bind fun t408 => (impl_PartOf.l0 k a1 l0_5 (l0_5.length : Int) 0 a0_0 a0_1 a0_2 a0_3 a0_4 l0_5 l0_6 l0_7 a0_0 a0_1 a0_2 a0_3 a0_4 a1 ([] : List Int) t408)) else (some (t407, 0, 0, 0, 0, 0, 0, ([] : List Int), ([] : List Int), ([] : List (List Int)))))) = some (r1, r2, r3, r4, r5, r6, r7, r8, r9, r10) := by first | (rw [hy404]; with_reducible exact H) | (have H2_ := (Option.bind_some _ _).symm.trans H; rw [hy404]; with_reducible exact H2_) | (have H2_ := (Option.bind_some _ _).symm.trans H; with_reducible exact H2_) | with_reducible exact H | (rw [hy404]; exact H) | exact H
 have Ny404 := Aside0.mk hy404
 clear hy404
 obtain ⟨t407, A6, H⟩ := bnd H
 by_cases c7 : t407 = 0
 ·rw [if_pos c7] at H
  have c7b0 : (t407 == 0) = true := beq_iff_eq.mpr c7
  have c7b1 : (t407 != 0) = false := bne_eq_false_iff_eq.mpr c7
  clear c7
  obtain ⟨t408, A8, H⟩ := bnd H
  have H' := Aside0.mk H
  clear H
  go_enter Try.func37, Try.ntmps37
  try go_wp2_with (first | ((with_reducible refine gate_dst (N := 2) rfl ?_); refine bev 2 36 #[.int .i64 a0_0, .int .i64 a0_1, .int .i64 a0_2, .int .i64 a0_3, .int .i64 a0_4, .slice A0_5 l0_5.length c0_5, .slice A0_6 l0_6.length c0_6, .slice A0_7 l0_7.length c0_7] ?_; intro gb399 hg w9 hbox hb; have BK399 := am hbox; have GW399 := gwe hg; have GE399 := gwe hg; replace HB := hbs hb; clear hb hbox hg) | ((with_reducible refine gate_dst (N := 4) rfl ?_); refine bev 4 53 #[.int .i64 0, .int .i64 0, .int .i64 0, .int .i64 0, .int .i64 0, .int .i64 0, .int .i64 0, .slice none 0 0, .slice none 0 0, .slice none 0 0] ?_; intro gb400 hg w10 hbox hb; have BK400 := am hbox; have GW400 := gwe hg; have GE400 := gwe hg; replace HB := hbs hb; have NB399_400 := nbl hg BK399; have NB400_399 := nbg hg BK399; replace BK399 := bkb BK399 hb; clear hb hbox hg; have hnb11 := NB399_400.out; have hnc11 := NB400_399.out; obtain ⟨hcz12_0, hcz12_1, hcz12_2, hcz12_3, hcz12_4, hcz12_5, hcz12_6, hcz12_7, hfz12_0, hfz12_1, hfz12_2, hfz12_3, hfz12_4, hfz12_5, hfz12_6, hfz12_7⟩ := cf8 (W := w10) BK399.out) | ((with_reducible refine gate_callee (f := 76) rfl ?_); refine gl_ 16 Try.func76 #[.agg #[.int .i64 a0_0, .int .i64 a0_1, .int .i64 a0_2, .int .i64 a0_3, .int .i64 a0_4, .slice A0_5 l0_5.length c0_5, .slice A0_6 l0_6.length c0_6, .slice A0_7 l0_7.length c0_7]] ?_; (with_reducible refine (impl_FrameFault.calls k a0_0 a0_1 a0_2 a0_3 a0_4 _ _ l0_5 _ _ l0_6 _ _ l0_7 t401 _ ?_ ?_ ?_ ?_ ?_ ?_ A3.out).mono ?_); exact cpl HR0_5.out; exact HC0_5.out; exact cpl HR0_6.out; exact HC0_6.out; exact cpl HR0_7.out; exact HC0_7.out; rintro e w13 ⟨rfl, hb⟩; refine ⟨_, rfl, ?_⟩; replace BK399 := bkb BK399 hb; replace BK400 := bkb BK400 hb; replace HB := hbs hb; (try clear hb)) | ((with_reducible refine gate_callee (f := 100) rfl ?_); refine gl_ 18 Try.func100 #[.int .i64 a1] ?_; (with_reducible refine (impl_isSide.calls a1 t402 _ A4.out).mono ?_); rintro e w' ⟨rfl, ⟨nd, rfl⟩⟩; refine ⟨_, rfl, ?_⟩; (try ((repeat rw [World.drewN_drewN w13]); rw [drewN_self w13]; generalize hq_ : World.drewN w13 _ = w13; have n0_ : Aside0 (w13.heap[gb399]? = some (.cells #[.int .i64 a0_0, .int .i64 a0_1, .int .i64 a0_2, .int .i64 a0_3, .int .i64 a0_4, .slice A0_5 l0_5.length c0_5, .slice A0_6 l0_6.length c0_6, .slice A0_7 l0_7.length c0_7] 36 (0, 0))) := ⟨by rw [← hq_]; exact (bpl BK399.out)⟩; have n1_ : Aside0 (w13.heap[gb400]? = some (.cells #[.int .i64 0, .int .i64 0, .int .i64 0, .int .i64 0, .int .i64 0, .int .i64 0, .int .i64 0, .slice none 0 0, .slice none 0 0, .slice none 0 0] 53 (0, 0))) := ⟨by rw [← hq_]; exact (bpl BK400.out)⟩; have n2_ : Aside0 (Below w.heap.size w w13) := ⟨by rw [← hq_]; exact bnx⟩; clear BK399 BK400 HB hq_; have BK399 := n0_; have BK400 := n1_; have HB := n2_; clear n0_ n1_ n2_))) | ((with_reducible refine gate_callee (f := 99) rfl ?_); refine gl_ 20 Try.func99 #[.bool (!t402), .int .i64 3] ?_; (with_reducible refine (impl_codeIf.calls (!t402) 3 t403 _ A5.out).mono ?_); rintro e w' ⟨rfl, ⟨nd, rfl⟩⟩; refine ⟨_, rfl, ?_⟩; (try ((repeat rw [World.drewN_drewN w13]); rw [drewN_self w13]; generalize hq_ : World.drewN w13 _ = w13; have n0_ : Aside0 (w13.heap[gb399]? = some (.cells #[.int .i64 a0_0, .int .i64 a0_1, .int .i64 a0_2, .int .i64 a0_3, .int .i64 a0_4, .slice A0_5 l0_5.length c0_5, .slice A0_6 l0_6.length c0_6, .slice A0_7 l0_7.length c0_7] 36 (0, 0))) := ⟨by rw [← hq_]; exact (bpl BK399.out)⟩; have n1_ : Aside0 (w13.heap[gb400]? = some (.cells #[.int .i64 0, .int .i64 0, .int .i64 0, .int .i64 0, .int .i64 0, .int .i64 0, .int .i64 0, .slice none 0 0, .slice none 0 0, .slice none 0 0] 53 (0, 0))) := ⟨by rw [← hq_]; exact (bpl BK400.out)⟩; have n2_ : Aside0 (Below w.heap.size w w13) := ⟨by rw [← hq_]; exact bnx⟩; clear BK399 BK400 HB hq_; have BK399 := n0_; have BK400 := n1_; have HB := n2_; clear n0_ n1_ n2_))) | ((with_reducible refine gate_dst (N := 21) rfl ?_); refine Kd.R_lit (Kd.int .i64) _ 2 ?hg (N := 21) ?hd (xs := ([t401, t403] : List Int)) (inner := [.int .i64 t401, .int .i64 t403]) (ok := fun _ => True) (okp := fun _ => True) ?hr ?hp (fun _ hk => hk) trivial (Below.refl _ _) (Nat.le_refl _) (by simp) ?_; (case hd => rfl); (case hg => rfl); (case hr => first | (go_simp; done) | (go_simp; rfl)); (case hp => exact (Reps.one (show Kd.M (Kd.int .i64) _ _ _ t401 [.int .i64 t401] from rfl) (Reps.one (show Kd.M (Kd.int .i64) _ _ _ t403 [.int .i64 t403] from rfl) (Reps.none _ _)))); intro v405 w14 ho15 hb hg_ hnew_; clear hg_ hnew_; (first | rw [← Ny404.out] at ho15 | (simp only [Int.reduceToNat] at ho15; rw [← Ny404.out] at ho15)); have HO406 := rlw ho15; replace BK399 := bkb BK399 hb; replace BK400 := bkb BK400 hb; replace HB := hbs hb; clear hb ho15; obtain ⟨Ao16, co16, eo16⟩ := Kd.R_slice HO406.out; subst eo16) | ((with_reducible refine gate_callee (f := 98) rfl ?_); refine gl_ 22 Try.func98 #[.slice Ao16 y404.length co16] ?_; (with_reducible refine (impl_first.calls k _ _ y404 t407 _ ?_ ?_ A6.out).mono ?_); exact crd HO406; exact (Kd.R_reads' HO406.out).2.1; rintro e w' ⟨rfl, ⟨nd, rfl⟩⟩; refine ⟨_, rfl, ?_⟩; (try ((repeat rw [World.drewN_drewN w14]); rw [drewN_self w14]; generalize hq_ : World.drewN w14 _ = w14; have n0_ : Aside0 (Kd.R (Kd.int .i64) 2 w14 w.heap.size (fun _ => True) (.slice Ao16 y404.length co16) y404) := ⟨by rw [← hq_]; exact (rpl HO406.out)⟩; have n1_ : Aside0 (w14.heap[gb399]? = some (.cells #[.int .i64 a0_0, .int .i64 a0_1, .int .i64 a0_2, .int .i64 a0_3, .int .i64 a0_4, .slice A0_5 l0_5.length c0_5, .slice A0_6 l0_6.length c0_6, .slice A0_7 l0_7.length c0_7] 36 (0, 0))) := ⟨by rw [← hq_]; exact (bpl BK399.out)⟩; have n2_ : Aside0 (w14.heap[gb400]? = some (.cells #[.int .i64 0, .int .i64 0, .int .i64 0, .int .i64 0, .int .i64 0, .int .i64 0, .int .i64 0, .slice none 0 0, .slice none 0 0, .slice none 0 0] 53 (0, 0))) := ⟨by rw [← hq_]; exact (bpl BK400.out)⟩; have n3_ : Aside0 (Below w.heap.size w w14) := ⟨by rw [← hq_]; exact bnx⟩; clear HO406 BK399 BK400 HB hq_; have HO406 := n0_; have BK399 := n1_; have BK400 := n2_; have HB := n3_; clear n0_ n1_ n2_ n3_))))
  replace HO406 := am (Kd.R_drew HO406.out)
  replace BK399 := am (blk_drew BK399.out)
  replace BK400 := am (blk_drew BK400.out)
  replace HB := am (below_drew1 HB.out)
  refine start_ (n := 17) (S := fun w' => w'.cell? ⟨gb399, 0, none⟩ = some (.int .i64 a0_0) ∧ w'.cell? ⟨gb399, 1, none⟩ = some (.int .i64 a0_1) ∧ w'.cell? ⟨gb399, 2, none⟩ = some (.int .i64 a0_2) ∧ w'.cell? ⟨gb399, 3, none⟩ = some (.int .i64 a0_3) ∧ w'.cell? ⟨gb399, 4, none⟩ = some (.int .i64 a0_4) ∧ w'.cell? ⟨gb399, 5, none⟩ = some (.slice A0_5 l0_5.length c0_5) ∧ w'.cell? ⟨gb399, 6, none⟩ = some (.slice A0_6 l0_6.length c0_6) ∧ w'.cell? ⟨gb399, 7, none⟩ = some (.slice A0_7 l0_7.length c0_7)) (ds := []) #[false, false, false, false, false, false, false, false, false, false, false, false, false, false, false, false, false] (by kernel_rfl) rfl rfl ⟨(blk_cell BK399.out 0).trans rfl, (blk_cell BK399.out 1).trans rfl, (blk_cell BK399.out 2).trans rfl, (blk_cell BK399.out 3).trans rfl, (blk_cell BK399.out 4).trans rfl, (blk_cell BK399.out 5).trans rfl, (blk_cell BK399.out 6).trans rfl, (blk_cell BK399.out 7).trans rfl⟩ (fun hHeld => ?_); refine with_tabW impl_PartOf.tab4 impl_PartOf.bits4 (fun HT_ HW_ => ?_)
  generalize w14.drew = w17 at HO406 BK399 BK400 HB hHeld ⊢
  refine pu_ 0 27 HT_ ?_
  refine pu_ 2 29 HT_ ?_
  refine pu_ 4 31 HT_ ?_
  refine pu_ 6 33 HT_ ?_
  refine pu_ 8 35 HT_ ?_
  refine pu_ 10 37 HT_ ?_
  refine pu_ 11 38 HT_ ?_
  refine tk_ 1 28 HT_ HW_ hHeld ?_
  refine tk_ 3 30 HT_ HW_ hHeld ?_
  refine tk_ 5 32 HT_ HW_ hHeld ?_
  refine tk_ 7 34 HT_ HW_ hHeld ?_
  refine tk_ 9 36 HT_ HW_ hHeld ?_
  refine tk_ 12 39 HT_ HW_ hHeld ?_
  refine join_ (σ := Value × Nat) 1 #[true, true, true, true, true, true, true, true, true, true, true, true, true, true, true, true, false] (fun s_ => [(40, s_.1), (6, .pointer (some ⟨s_.2, 0, none⟩)), (41, .agg #[.int .i64 a0_0, .int .i64 a0_1, .int .i64 a0_2, .int .i64 a0_3, .int .i64 a0_4, .int .i64 a1, .slice none 0 0, s_.1, .slice none 0 0])]) (fun s_ w' => (w'.cell? ⟨gb399, 0, none⟩ = some (.int .i64 a0_0) ∧ w'.cell? ⟨gb399, 1, none⟩ = some (.int .i64 a0_1) ∧ w'.cell? ⟨gb399, 2, none⟩ = some (.int .i64 a0_2) ∧ w'.cell? ⟨gb399, 3, none⟩ = some (.int .i64 a0_3) ∧ w'.cell? ⟨gb399, 4, none⟩ = some (.int .i64 a0_4) ∧ w'.cell? ⟨gb399, 5, none⟩ = some (.slice A0_5 l0_5.length c0_5) ∧ w'.cell? ⟨gb399, 6, none⟩ = some (.slice A0_6 l0_6.length c0_6) ∧ w'.cell? ⟨gb399, 7, none⟩ = some (.slice A0_7 l0_7.length c0_7)) ∧ (Kd.R (Kd.int .i64) 2 w' w.heap.size (fun k_ => some k_ ≠ (s_.1 : Value).ownBlock) (.slice Ao16 y404.length co16) y404) ∧ (Kd.R (Kd.int .i64) 2 w' w.heap.size (fun k_ => some k_ ≠ (.slice Ao16 y404.length co16 : Value).ownBlock) s_.1 t408) ∧ (w'.heap[gb399]? = some (.cells #[.int .i64 a0_0, .int .i64 a0_1, .int .i64 a0_2, .int .i64 a0_3, .int .i64 a0_4, .slice A0_5 l0_5.length c0_5, .slice A0_6 l0_6.length c0_6, .slice A0_7 l0_7.length c0_7] 36 (0, 0))) ∧ (w'.heap[gb400]? = some (.cells #[.int .i64 0, .int .i64 0, .int .i64 0, .int .i64 0, .int .i64 0, .int .i64 0, .int .i64 0, .slice none 0 0, .slice none 0 0, .slice none 0 0] 53 (0, 0))) ∧ (w'.heap[s_.2]? = some (.cells #[.int .i64 0, .int .i64 0, .int .i64 0, .int .i64 0, .int .i64 0, .int .i64 0, .slice none 0 0, .slice none 0 0, .slice none 0 0] 47 (0, 0))) ∧ (w.heap.size ≤ s_.2) ∧ (w.heap.size ≤ s_.2) ∧ (gb399 ≠ s_.2) ∧ (s_.2 ≠ gb399) ∧ (gb400 ≠ s_.2) ∧ (s_.2 ≠ gb400) ∧ (Below w.heap.size w w')) ?_ ?_
  rotate_left
  ·intro hCont
   refine two_ (i := 13) (j := 15) (Ni := some 40) (Nj := some 6) #[true, true, true, true, true, true, true, true, true, true, true, true, true, true, false, false, false] #[true, true, true, true, true, true, true, true, true, true, true, true, true, false, false, true, false] rfl rfl rfl rfl (two_of HT_.out (by kernel_rfl)) (by decide) (by decide) (fun K hK => ?_) (fun K hK => ?_)
   ·skip
    refine gs_ Try.func101 #[.slice A0_6 l0_6.length c0_6] ?_
    with_reducible refine (slices_Clone_int64_int64.calls _ _ l0_6 t408 _ ?_ ?_ A8.out).mono ?_
    exact cpl HR0_6.out
    exact HC0_6.out
    rintro e w18 ⟨v409, rfl, ho0, hb⟩
    refine ⟨_, rfl, ?_⟩
    have HO410 := am (Kd.R_lower (Kd.R_new' ho0 (rlt HO406)) bsz)
    replace HO406 := rel HO406 ho0 hb
    replace BK399 := bkb BK399 hb
    replace BK400 := bkb BK400 hb
    replace HB := hbs hb
    (try clear hb)
    (try clear ho0)
    obtain ⟨Ao19, co19, eo19⟩ := Kd.R_slice HO410.out
    (first | subst eo19 | (injection eo19 with f1_ f2_ f3_; have f4_ := f1_.symm; have f5_ := f3_.symm; clear f1_ f2_ f3_; subst f4_; subst f5_))
    refine hK.out _ _ ⟨(blk_cell BK399.out 0).trans rfl, (blk_cell BK399.out 1).trans rfl, (blk_cell BK399.out 2).trans rfl, (blk_cell BK399.out 3).trans rfl, (blk_cell BK399.out 4).trans rfl, (blk_cell BK399.out 5).trans rfl, (blk_cell BK399.out 6).trans rfl, (blk_cell BK399.out 7).trans rfl⟩ (fun hHeld => ?_)
    clear hK K
    refine nm_ 40 ?_
    refine pu_ 14 41 HT_ ?_
    refine on_ 15 HT_ (fun K hK => ?_)
    refine bst 6 47 #[.int .i64 0, .int .i64 0, .int .i64 0, .int .i64 0, .int .i64 0, .int .i64 0, .slice none 0 0, .slice none 0 0, .slice none 0 0] ?_
    intro gb411 hg w20 hbox hb
    replace HO406 := rbl HO406 hb
    replace HO410 := rbl HO410 hb
    have BK411 := am hbox
    have GW411 := gwe hg
    have GE411 := gwe hg
    replace HB := hbs hb
    have NB399_411 := nbl hg BK399
    have NB411_399 := nbg hg BK399
    replace BK399 := bkb BK399 hb
    have NB400_411 := nbl hg BK400
    have NB411_400 := nbg hg BK400
    replace BK400 := bkb BK400 hb
    clear hb hbox hg
    refine hK.out _ _ ⟨(blk_cell BK399.out 0).trans rfl, (blk_cell BK399.out 1).trans rfl, (blk_cell BK399.out 2).trans rfl, (blk_cell BK399.out 3).trans rfl, (blk_cell BK399.out 4).trans rfl, (blk_cell BK399.out 5).trans rfl, (blk_cell BK399.out 6).trans rfl, (blk_cell BK399.out 7).trans rfl⟩ (fun hHeld => ?_)
    clear hK K
    refine nm_ 6 ?_
    exact norm_ (by simp only [putAll, Act.put, List.setIfInBounds_toArray, List.set_cons_zero, List.set_cons_succ]) (hCont (.slice Ao19 t408.length co19, gb411) _ ⟨hHeld, (by (with_reducible repeat (first | apply Kd.R_alloc | apply Kd.R_drewN | apply Kd.R_drew)); exact Kd.R_mono HO406.out (fun _ hk => hk.2)), (by (with_reducible repeat (first | apply Kd.R_alloc | apply Kd.R_drewN | apply Kd.R_drew)); exact Kd.R_mono HO410.out (fun _ hk => hk.2)), (bpl BK399.out), (bpl BK400.out), (bpl BK411.out), GW411.out, GE411.out, NB399_411.out, NB411_399.out, NB400_411.out, NB411_400.out, bnx⟩)
   ·skip
    refine bst 6 47 #[.int .i64 0, .int .i64 0, .int .i64 0, .int .i64 0, .int .i64 0, .int .i64 0, .slice none 0 0, .slice none 0 0, .slice none 0 0] ?_
    intro gb411 hg w18 hbox hb
    replace HO406 := rbl HO406 hb
    have BK411 := am hbox
    have GW411 := gwe hg
    have GE411 := gwe hg
    replace HB := hbs hb
    have NB399_411 := nbl hg BK399
    have NB411_399 := nbg hg BK399
    replace BK399 := bkb BK399 hb
    have NB400_411 := nbl hg BK400
    have NB411_400 := nbg hg BK400
    replace BK400 := bkb BK400 hb
    clear hb hbox hg
    refine hK.out _ _ ⟨(blk_cell BK399.out 0).trans rfl, (blk_cell BK399.out 1).trans rfl, (blk_cell BK399.out 2).trans rfl, (blk_cell BK399.out 3).trans rfl, (blk_cell BK399.out 4).trans rfl, (blk_cell BK399.out 5).trans rfl, (blk_cell BK399.out 6).trans rfl, (blk_cell BK399.out 7).trans rfl⟩ (fun hHeld => ?_)
    clear hK K
    refine nm_ 6 ?_
    refine on_ 13 HT_ (fun K hK => ?_)
    refine gs_ Try.func101 #[.slice A0_6 l0_6.length c0_6] ?_
    with_reducible refine (slices_Clone_int64_int64.calls _ _ l0_6 t408 _ ?_ ?_ A8.out).mono ?_
    exact cpl HR0_6.out
    exact HC0_6.out
    rintro e w19 ⟨v409, rfl, ho0, hb⟩
    refine ⟨_, rfl, ?_⟩
    have HO410 := am (Kd.R_lower (Kd.R_new' ho0 (rlt HO406)) bsz)
    replace HO406 := rel HO406 ho0 hb
    replace BK399 := bkb BK399 hb
    replace BK400 := bkb BK400 hb
    replace BK411 := bkb BK411 hb
    replace HB := hbs hb
    (try clear hb)
    (try clear ho0)
    obtain ⟨Ao20, co20, eo20⟩ := Kd.R_slice HO410.out
    (first | subst eo20 | (injection eo20 with f1_ f2_ f3_; have f4_ := f1_.symm; have f5_ := f3_.symm; clear f1_ f2_ f3_; subst f4_; subst f5_))
    refine hK.out _ _ ⟨(blk_cell BK399.out 0).trans rfl, (blk_cell BK399.out 1).trans rfl, (blk_cell BK399.out 2).trans rfl, (blk_cell BK399.out 3).trans rfl, (blk_cell BK399.out 4).trans rfl, (blk_cell BK399.out 5).trans rfl, (blk_cell BK399.out 6).trans rfl, (blk_cell BK399.out 7).trans rfl⟩ (fun hHeld => ?_)
    clear hK K
    refine nm_ 40 ?_
    refine pu_ 14 41 HT_ ?_
    exact norm_ (by simp only [putAll, Act.put, List.setIfInBounds_toArray, List.set_cons_zero, List.set_cons_succ]) (hCont (.slice Ao20 t408.length co20, gb411) _ ⟨hHeld, (by (with_reducible repeat (first | apply Kd.R_alloc | apply Kd.R_drewN | apply Kd.R_drew)); exact Kd.R_mono HO406.out (fun _ hk => hk.2)), (by (with_reducible repeat (first | apply Kd.R_alloc | apply Kd.R_drewN | apply Kd.R_drew)); exact Kd.R_mono HO410.out (fun _ hk => hk.2)), (bpl BK399.out), (bpl BK400.out), (bpl BK411.out), GW411.out, GE411.out, NB399_411.out, NB411_399.out, NB400_411.out, NB411_400.out, bnx⟩)
  rintro ⟨v409, gb411⟩ w21 ⟨hS_, h0_, h1_, h2_, h3_, h4_, h5_, h6_, h7_, h8_, h9_, h10_, h11_⟩
  have n0_ : Aside0 (Kd.R (Kd.int .i64) 2 w21 w.heap.size (fun k_ => some k_ ≠ (v409 : Value).ownBlock) (.slice Ao16 y404.length co16) y404) := ⟨h0_⟩
  have n1_ : Aside0 (Kd.R (Kd.int .i64) 2 w21 w.heap.size (fun k_ => some k_ ≠ (.slice Ao16 y404.length co16 : Value).ownBlock) v409 t408) := ⟨h1_⟩
  have n2_ : Aside0 (w21.heap[gb399]? = some (.cells #[.int .i64 a0_0, .int .i64 a0_1, .int .i64 a0_2, .int .i64 a0_3, .int .i64 a0_4, .slice A0_5 l0_5.length c0_5, .slice A0_6 l0_6.length c0_6, .slice A0_7 l0_7.length c0_7] 36 (0, 0))) := ⟨h2_⟩
  have n3_ : Aside0 (w21.heap[gb400]? = some (.cells #[.int .i64 0, .int .i64 0, .int .i64 0, .int .i64 0, .int .i64 0, .int .i64 0, .int .i64 0, .slice none 0 0, .slice none 0 0, .slice none 0 0] 53 (0, 0))) := ⟨h3_⟩
  have n4_ : Aside0 (w21.heap[gb411]? = some (.cells #[.int .i64 0, .int .i64 0, .int .i64 0, .int .i64 0, .int .i64 0, .int .i64 0, .slice none 0 0, .slice none 0 0, .slice none 0 0] 47 (0, 0))) := ⟨h4_⟩
  have n5_ : Aside0 (w.heap.size ≤ gb411) := ⟨h5_⟩
  have n6_ : Aside0 (w.heap.size ≤ gb411) := ⟨h6_⟩
  have n7_ : Aside0 (gb399 ≠ gb411) := ⟨h7_⟩
  have n8_ : Aside0 (gb411 ≠ gb399) := ⟨h8_⟩
  have n9_ : Aside0 (gb400 ≠ gb411) := ⟨h9_⟩
  have n10_ : Aside0 (gb411 ≠ gb400) := ⟨h10_⟩
  have n11_ : Aside0 (Below w.heap.size w w21) := ⟨h11_⟩
  clear HO406 BK399 BK400 HB h0_ h1_ h2_ h3_ h4_ h5_ h6_ h7_ h8_ h9_ h10_ h11_
  have HO406 := n0_
  have HO410 := n1_
  have BK399 := n2_
  have BK400 := n3_
  have BK411 := n4_
  have GW411 := n5_
  have GE411 := n6_
  have NB399_411 := n7_
  have NB411_399 := n8_
  have NB400_411 := n9_
  have NB411_400 := n10_
  have HB := n11_
  clear n0_ n1_ n2_ n3_ n4_ n5_ n6_ n7_ n8_ n9_ n10_ n11_
  have hHeld : w21.cell? ⟨gb399, 0, none⟩ = some (.int .i64 a0_0) ∧ w21.cell? ⟨gb399, 1, none⟩ = some (.int .i64 a0_1) ∧ w21.cell? ⟨gb399, 2, none⟩ = some (.int .i64 a0_2) ∧ w21.cell? ⟨gb399, 3, none⟩ = some (.int .i64 a0_3) ∧ w21.cell? ⟨gb399, 4, none⟩ = some (.int .i64 a0_4) ∧ w21.cell? ⟨gb399, 5, none⟩ = some (.slice A0_5 l0_5.length c0_5) ∧ w21.cell? ⟨gb399, 6, none⟩ = some (.slice A0_6 l0_6.length c0_6) ∧ w21.cell? ⟨gb399, 7, none⟩ = some (.slice A0_7 l0_7.length c0_7) := hS_
  obtain ⟨Ao22, co22, eo22⟩ := Kd.R_slice HO410.out
  (first | subst eo22 | (injection eo22 with f1_ f2_ f3_; have f4_ := f1_.symm; have f5_ := f3_.symm; clear f1_ f2_ f3_; subst f4_; subst f5_))
  refine norm_ (a' := ?_) ?_ ?_
  rotate_left
  ·simp only [putAll, Act.put, List.setIfInBounds_toArray, List.set_cons_zero, List.set_cons_succ]
   rfl
  refine on_ 16 HT_ (fun K hK => ?_)
  have hs23 : w21.cell? ⟨gb411, 0, none⟩ = some (.int .i64 0) := (blk_cell BK411.out 0).trans rfl
  have hfs23 := blk_frozen BK411.out 0
  have hns23_0 := NB399_411.out
  have hns23_1 := NB400_411.out
  have hms23_0 := NB411_399.out
  have hms23_1 := NB411_400.out
  have hs24 : w21.cell? ⟨gb411, 1, none⟩ = some (.int .i64 0) := (blk_cell BK411.out 1).trans rfl
  have hfs24 := blk_frozen BK411.out 1
  have hns24_0 := NB399_411.out
  have hns24_1 := NB400_411.out
  have hms24_0 := NB411_399.out
  have hms24_1 := NB411_400.out
  have hs25 : w21.cell? ⟨gb411, 2, none⟩ = some (.int .i64 0) := (blk_cell BK411.out 2).trans rfl
  have hfs25 := blk_frozen BK411.out 2
  have hns25_0 := NB399_411.out
  have hns25_1 := NB400_411.out
  have hms25_0 := NB411_399.out
  have hms25_1 := NB411_400.out
  have hs26 : w21.cell? ⟨gb411, 3, none⟩ = some (.int .i64 0) := (blk_cell BK411.out 3).trans rfl
  have hfs26 := blk_frozen BK411.out 3
  have hns26_0 := NB399_411.out
  have hns26_1 := NB400_411.out
  have hms26_0 := NB411_399.out
  have hms26_1 := NB411_400.out
  have hs27 : w21.cell? ⟨gb411, 4, none⟩ = some (.int .i64 0) := (blk_cell BK411.out 4).trans rfl
  have hfs27 := blk_frozen BK411.out 4
  have hns27_0 := NB399_411.out
  have hns27_1 := NB400_411.out
  have hms27_0 := NB411_399.out
  have hms27_1 := NB411_400.out
  have hs28 : w21.cell? ⟨gb411, 5, none⟩ = some (.int .i64 0) := (blk_cell BK411.out 5).trans rfl
  have hfs28 := blk_frozen BK411.out 5
  have hns28_0 := NB399_411.out
  have hns28_1 := NB400_411.out
  have hms28_0 := NB411_399.out
  have hms28_1 := NB411_400.out
  have hs29 : w21.cell? ⟨gb411, 6, none⟩ = some (.slice none 0 0) := (blk_cell BK411.out 6).trans rfl
  have hfs29 := blk_frozen BK411.out 6
  have hns29_0 := NB399_411.out
  have hns29_1 := NB400_411.out
  have hms29_0 := NB411_399.out
  have hms29_1 := NB411_400.out
  have hs30 : w21.cell? ⟨gb411, 7, none⟩ = some (.slice none 0 0) := (blk_cell BK411.out 7).trans rfl
  have hfs30 := blk_frozen BK411.out 7
  have hns30_0 := NB399_411.out
  have hns30_1 := NB400_411.out
  have hms30_0 := NB411_399.out
  have hms30_1 := NB411_400.out
  have hs31 : w21.cell? ⟨gb411, 8, none⟩ = some (.slice none 0 0) := (blk_cell BK411.out 8).trans rfl
  have hfs31 := blk_frozen BK411.out 8
  have hns31_0 := NB399_411.out
  have hns31_1 := NB400_411.out
  have hms31_0 := NB411_399.out
  have hms31_1 := NB411_400.out
  refine skip_ (w1 := ?_) (by rfl) rfl ?_ ?_
  rotate_left
  ·go_simp
   rfl
  refine hK.out _ _ ⟨((cell_far (p := ⟨gb411, _, none⟩) NB399_411.out _).trans (((cell_far (p := ⟨gb411, _, none⟩) NB399_411.out _).trans (((cell_far (p := ⟨gb411, _, none⟩) NB399_411.out _).trans (((cell_far (p := ⟨gb411, _, none⟩) NB399_411.out _).trans (((cell_far (p := ⟨gb411, _, none⟩) NB399_411.out _).trans (((cell_far (p := ⟨gb411, _, none⟩) NB399_411.out _).trans (((cell_far (p := ⟨gb411, _, none⟩) NB399_411.out _).trans (((cell_far (p := ⟨gb411, _, none⟩) NB399_411.out _).trans (((cell_far (p := ⟨gb411, _, none⟩) NB399_411.out _).trans (hHeld.1)))))))))))))))))), ((cell_far (p := ⟨gb411, _, none⟩) NB399_411.out _).trans (((cell_far (p := ⟨gb411, _, none⟩) NB399_411.out _).trans (((cell_far (p := ⟨gb411, _, none⟩) NB399_411.out _).trans (((cell_far (p := ⟨gb411, _, none⟩) NB399_411.out _).trans (((cell_far (p := ⟨gb411, _, none⟩) NB399_411.out _).trans (((cell_far (p := ⟨gb411, _, none⟩) NB399_411.out _).trans (((cell_far (p := ⟨gb411, _, none⟩) NB399_411.out _).trans (((cell_far (p := ⟨gb411, _, none⟩) NB399_411.out _).trans (((cell_far (p := ⟨gb411, _, none⟩) NB399_411.out _).trans (hHeld.2.1)))))))))))))))))), ((cell_far (p := ⟨gb411, _, none⟩) NB399_411.out _).trans (((cell_far (p := ⟨gb411, _, none⟩) NB399_411.out _).trans (((cell_far (p := ⟨gb411, _, none⟩) NB399_411.out _).trans (((cell_far (p := ⟨gb411, _, none⟩) NB399_411.out _).trans (((cell_far (p := ⟨gb411, _, none⟩) NB399_411.out _).trans (((cell_far (p := ⟨gb411, _, none⟩) NB399_411.out _).trans (((cell_far (p := ⟨gb411, _, none⟩) NB399_411.out _).trans (((cell_far (p := ⟨gb411, _, none⟩) NB399_411.out _).trans (((cell_far (p := ⟨gb411, _, none⟩) NB399_411.out _).trans (hHeld.2.2.1)))))))))))))))))), ((cell_far (p := ⟨gb411, _, none⟩) NB399_411.out _).trans (((cell_far (p := ⟨gb411, _, none⟩) NB399_411.out _).trans (((cell_far (p := ⟨gb411, _, none⟩) NB399_411.out _).trans (((cell_far (p := ⟨gb411, _, none⟩) NB399_411.out _).trans (((cell_far (p := ⟨gb411, _, none⟩) NB399_411.out _).trans (((cell_far (p := ⟨gb411, _, none⟩) NB399_411.out _).trans (((cell_far (p := ⟨gb411, _, none⟩) NB399_411.out _).trans (((cell_far (p := ⟨gb411, _, none⟩) NB399_411.out _).trans (((cell_far (p := ⟨gb411, _, none⟩) NB399_411.out _).trans (hHeld.2.2.2.1)))))))))))))))))), ((cell_far (p := ⟨gb411, _, none⟩) NB399_411.out _).trans (((cell_far (p := ⟨gb411, _, none⟩) NB399_411.out _).trans (((cell_far (p := ⟨gb411, _, none⟩) NB399_411.out _).trans (((cell_far (p := ⟨gb411, _, none⟩) NB399_411.out _).trans (((cell_far (p := ⟨gb411, _, none⟩) NB399_411.out _).trans (((cell_far (p := ⟨gb411, _, none⟩) NB399_411.out _).trans (((cell_far (p := ⟨gb411, _, none⟩) NB399_411.out _).trans (((cell_far (p := ⟨gb411, _, none⟩) NB399_411.out _).trans (((cell_far (p := ⟨gb411, _, none⟩) NB399_411.out _).trans (hHeld.2.2.2.2.1)))))))))))))))))), ((cell_far (p := ⟨gb411, _, none⟩) NB399_411.out _).trans (((cell_far (p := ⟨gb411, _, none⟩) NB399_411.out _).trans (((cell_far (p := ⟨gb411, _, none⟩) NB399_411.out _).trans (((cell_far (p := ⟨gb411, _, none⟩) NB399_411.out _).trans (((cell_far (p := ⟨gb411, _, none⟩) NB399_411.out _).trans (((cell_far (p := ⟨gb411, _, none⟩) NB399_411.out _).trans (((cell_far (p := ⟨gb411, _, none⟩) NB399_411.out _).trans (((cell_far (p := ⟨gb411, _, none⟩) NB399_411.out _).trans (((cell_far (p := ⟨gb411, _, none⟩) NB399_411.out _).trans (hHeld.2.2.2.2.2.1)))))))))))))))))), ((cell_far (p := ⟨gb411, _, none⟩) NB399_411.out _).trans (((cell_far (p := ⟨gb411, _, none⟩) NB399_411.out _).trans (((cell_far (p := ⟨gb411, _, none⟩) NB399_411.out _).trans (((cell_far (p := ⟨gb411, _, none⟩) NB399_411.out _).trans (((cell_far (p := ⟨gb411, _, none⟩) NB399_411.out _).trans (((cell_far (p := ⟨gb411, _, none⟩) NB399_411.out _).trans (((cell_far (p := ⟨gb411, _, none⟩) NB399_411.out _).trans (((cell_far (p := ⟨gb411, _, none⟩) NB399_411.out _).trans (((cell_far (p := ⟨gb411, _, none⟩) NB399_411.out _).trans (hHeld.2.2.2.2.2.2.1)))))))))))))))))), ((cell_far (p := ⟨gb411, _, none⟩) NB399_411.out _).trans (((cell_far (p := ⟨gb411, _, none⟩) NB399_411.out _).trans (((cell_far (p := ⟨gb411, _, none⟩) NB399_411.out _).trans (((cell_far (p := ⟨gb411, _, none⟩) NB399_411.out _).trans (((cell_far (p := ⟨gb411, _, none⟩) NB399_411.out _).trans (((cell_far (p := ⟨gb411, _, none⟩) NB399_411.out _).trans (((cell_far (p := ⟨gb411, _, none⟩) NB399_411.out _).trans (((cell_far (p := ⟨gb411, _, none⟩) NB399_411.out _).trans (((cell_far (p := ⟨gb411, _, none⟩) NB399_411.out _).trans (hHeld.2.2.2.2.2.2.2))))))))))))))))))⟩ (fun hHeld => ?_)
  clear hK K
  refine done_ (done_of HT_.out (by kernel_rfl)) ?_
  have hnb32 := NB399_411.out
  have hnc32 := NB411_399.out
  obtain ⟨hcz33_0, hcz33_1, hcz33_2, hcz33_3, hcz33_4, hcz33_5, hcz33_6, hcz33_7, hfz33_0, hfz33_1, hfz33_2, hfz33_3, hfz33_4, hfz33_5, hfz33_6, hfz33_7⟩ := cf8 (W := w21) BK399.out
  try go_wp2
  go_loopg [45] k (fun kq v45 w' => ∃ (x45_1 : Int) (x412006_1 : List Int) (u412006 : Value), v45 = .int .i64 x45_1 ∧ Aside0 (impl_PartOf.l0 kq a1 l0_5 (l0_5.length : Int) x45_1 a0_0 a0_1 a0_2 a0_3 a0_4 l0_5 l0_6 l0_7 a0_0 a0_1 a0_2 a0_3 a0_4 a1 x412006_1 t408 = some (r1, r2, r3, r4, r5, r6, r7, r8, r9, r10)) ∧ Aside0 (kq ≤ k) ∧ Aside0 (Kd.R (Kd.int .i64) 2 w' w.heap.size (fun k_ => some k_ ≠ ((.slice Ao22 t408.length co22) : Value).ownBlock) u412006 x412006_1) ∧ Aside0 (Kd.R (Kd.int .i64) 2 w' w.heap.size (fun k_ => some k_ ≠ (u412006 : Value).ownBlock) (.slice Ao22 t408.length co22) t408) ∧ Aside0 (w'.heap[gb399]? = some (.cells #[.int .i64 a0_0, .int .i64 a0_1, .int .i64 a0_2, .int .i64 a0_3, .int .i64 a0_4, (.slice A0_5 l0_5.length c0_5), (.slice A0_6 l0_6.length c0_6), (.slice A0_7 l0_7.length c0_7)] 36 (0, 0))) ∧ Aside0 (w'.heap[gb400]? = some (.cells #[.int .i64 0, .int .i64 0, .int .i64 0, .int .i64 0, .int .i64 0, .int .i64 0, .int .i64 0, (.slice none 0 0), (.slice none 0 0), (.slice none 0 0)] 53 (0, 0))) ∧ Aside0 (w'.heap[gb411]? = some (.cells #[.int .i64 a0_0, .int .i64 a0_1, .int .i64 a0_2, .int .i64 a0_3, .int .i64 a0_4, .int .i64 a1, u412006, (.slice Ao22 t408.length co22), (.slice none 0 0)] 47 (0, 0))) ∧ Aside0 (Below w.heap.size w w'))
  case atStart => exact ⟨(0), (([] : List Int)), (.slice none 0 0), rq, H', ⟨Nat.le_refl _⟩, ⟨by first | exact Kd.R_nil _ _ _ _ _ | exact Kd.N_nil _ _ _ _ _ | exact Kd.V_nil _ _ _ _ _ | exact Kd.Q_nil _ _ _ _ _ | exact Kd.S_nil _ _ _ _ _⟩, ⟨by (with_reducible repeat (first | apply Kd.R_alloc | apply Kd.R_drewN | apply Kd.R_drew)); exact Kd.R_mono (Kd.R_far (p := ⟨gb411, 8, none⟩) (Kd.R_far (p := ⟨gb411, 7, none⟩) (Kd.R_far (p := ⟨gb411, 6, none⟩) (Kd.R_far (p := ⟨gb411, 5, none⟩) (Kd.R_far (p := ⟨gb411, 4, none⟩) (Kd.R_far (p := ⟨gb411, 3, none⟩) (Kd.R_far (p := ⟨gb411, 2, none⟩) (Kd.R_far (p := ⟨gb411, 1, none⟩) (Kd.R_far (p := ⟨gb411, 0, none⟩) (Kd.R_types HO410.out BK411.out (by decide)) (fun _ hk => hk.2) (.int .i64 a0_0)) (fun _ hk => hk.2) (.int .i64 a0_1)) (fun _ hk => hk.2) (.int .i64 a0_2)) (fun _ hk => hk.2) (.int .i64 a0_3)) (fun _ hk => hk.2) (.int .i64 a0_4)) (fun _ hk => hk.2) (.int .i64 a1)) (fun _ hk => hk.2) (.slice none 0 0)) (fun _ hk => hk.2) (.slice Ao22 t408.length co22)) (fun _ hk => hk.2) (.slice none 0 0)) (fun _ hk => (by simp [Value.ownBlock]))⟩, ⟨by (with_reducible repeat (first | refine blk_drewN ?_ _ | refine blk_drew ?_ | refine blk_alloc ?_ _)); refine blk_far ?_ NB399_411.out _; (with_reducible repeat (first | refine blk_drewN ?_ _ | refine blk_drew ?_ | refine blk_alloc ?_ _)); refine blk_far ?_ NB399_411.out _; (with_reducible repeat (first | refine blk_drewN ?_ _ | refine blk_drew ?_ | refine blk_alloc ?_ _)); refine blk_far ?_ NB399_411.out _; (with_reducible repeat (first | refine blk_drewN ?_ _ | refine blk_drew ?_ | refine blk_alloc ?_ _)); refine blk_far ?_ NB399_411.out _; (with_reducible repeat (first | refine blk_drewN ?_ _ | refine blk_drew ?_ | refine blk_alloc ?_ _)); refine blk_far ?_ NB399_411.out _; (with_reducible repeat (first | refine blk_drewN ?_ _ | refine blk_drew ?_ | refine blk_alloc ?_ _)); refine blk_far ?_ NB399_411.out _; (with_reducible repeat (first | refine blk_drewN ?_ _ | refine blk_drew ?_ | refine blk_alloc ?_ _)); refine blk_far ?_ NB399_411.out _; (with_reducible repeat (first | refine blk_drewN ?_ _ | refine blk_drew ?_ | refine blk_alloc ?_ _)); refine blk_far ?_ NB399_411.out _; (with_reducible repeat (first | refine blk_drewN ?_ _ | refine blk_drew ?_ | refine blk_alloc ?_ _)); refine blk_far ?_ NB399_411.out _; (with_reducible repeat (first | refine blk_drewN ?_ _ | refine blk_drew ?_ | refine blk_alloc ?_ _)); exact BK399.out⟩, ⟨by (with_reducible repeat (first | refine blk_drewN ?_ _ | refine blk_drew ?_ | refine blk_alloc ?_ _)); refine blk_far ?_ NB400_411.out _; (with_reducible repeat (first | refine blk_drewN ?_ _ | refine blk_drew ?_ | refine blk_alloc ?_ _)); refine blk_far ?_ NB400_411.out _; (with_reducible repeat (first | refine blk_drewN ?_ _ | refine blk_drew ?_ | refine blk_alloc ?_ _)); refine blk_far ?_ NB400_411.out _; (with_reducible repeat (first | refine blk_drewN ?_ _ | refine blk_drew ?_ | refine blk_alloc ?_ _)); refine blk_far ?_ NB400_411.out _; (with_reducible repeat (first | refine blk_drewN ?_ _ | refine blk_drew ?_ | refine blk_alloc ?_ _)); refine blk_far ?_ NB400_411.out _; (with_reducible repeat (first | refine blk_drewN ?_ _ | refine blk_drew ?_ | refine blk_alloc ?_ _)); refine blk_far ?_ NB400_411.out _; (with_reducible repeat (first | refine blk_drewN ?_ _ | refine blk_drew ?_ | refine blk_alloc ?_ _)); refine blk_far ?_ NB400_411.out _; (with_reducible repeat (first | refine blk_drewN ?_ _ | refine blk_drew ?_ | refine blk_alloc ?_ _)); refine blk_far ?_ NB400_411.out _; (with_reducible repeat (first | refine blk_drewN ?_ _ | refine blk_drew ?_ | refine blk_alloc ?_ _)); refine blk_far ?_ NB400_411.out _; (with_reducible repeat (first | refine blk_drewN ?_ _ | refine blk_drew ?_ | refine blk_alloc ?_ _)); exact BK400.out⟩, ⟨by (with_reducible repeat (first | refine blk_drewN ?_ _ | refine blk_drew ?_ | refine blk_alloc ?_ _)); refine blk_put (cs := #[.int .i64 a0_0, .int .i64 a0_1, .int .i64 a0_2, .int .i64 a0_3, .int .i64 a0_4, .int .i64 a1, .slice none 0 0, .slice Ao22 t408.length co22, .slice none 0 0]) ?_ 8 _ rfl; (with_reducible repeat (first | refine blk_drewN ?_ _ | refine blk_drew ?_ | refine blk_alloc ?_ _)); refine blk_put (cs := #[.int .i64 a0_0, .int .i64 a0_1, .int .i64 a0_2, .int .i64 a0_3, .int .i64 a0_4, .int .i64 a1, .slice none 0 0, .slice none 0 0, .slice none 0 0]) ?_ 7 _ rfl; (with_reducible repeat (first | refine blk_drewN ?_ _ | refine blk_drew ?_ | refine blk_alloc ?_ _)); refine blk_put (cs := #[.int .i64 a0_0, .int .i64 a0_1, .int .i64 a0_2, .int .i64 a0_3, .int .i64 a0_4, .int .i64 a1, .slice none 0 0, .slice none 0 0, .slice none 0 0]) ?_ 6 _ rfl; (with_reducible repeat (first | refine blk_drewN ?_ _ | refine blk_drew ?_ | refine blk_alloc ?_ _)); refine blk_put (cs := #[.int .i64 a0_0, .int .i64 a0_1, .int .i64 a0_2, .int .i64 a0_3, .int .i64 a0_4, .int .i64 0, .slice none 0 0, .slice none 0 0, .slice none 0 0]) ?_ 5 _ rfl; (with_reducible repeat (first | refine blk_drewN ?_ _ | refine blk_drew ?_ | refine blk_alloc ?_ _)); refine blk_put (cs := #[.int .i64 a0_0, .int .i64 a0_1, .int .i64 a0_2, .int .i64 a0_3, .int .i64 0, .int .i64 0, .slice none 0 0, .slice none 0 0, .slice none 0 0]) ?_ 4 _ rfl; (with_reducible repeat (first | refine blk_drewN ?_ _ | refine blk_drew ?_ | refine blk_alloc ?_ _)); refine blk_put (cs := #[.int .i64 a0_0, .int .i64 a0_1, .int .i64 a0_2, .int .i64 0, .int .i64 0, .int .i64 0, .slice none 0 0, .slice none 0 0, .slice none 0 0]) ?_ 3 _ rfl; (with_reducible repeat (first | refine blk_drewN ?_ _ | refine blk_drew ?_ | refine blk_alloc ?_ _)); refine blk_put (cs := #[.int .i64 a0_0, .int .i64 a0_1, .int .i64 0, .int .i64 0, .int .i64 0, .int .i64 0, .slice none 0 0, .slice none 0 0, .slice none 0 0]) ?_ 2 _ rfl; (with_reducible repeat (first | refine blk_drewN ?_ _ | refine blk_drew ?_ | refine blk_alloc ?_ _)); refine blk_put (cs := #[.int .i64 a0_0, .int .i64 0, .int .i64 0, .int .i64 0, .int .i64 0, .int .i64 0, .slice none 0 0, .slice none 0 0, .slice none 0 0]) ?_ 1 _ rfl; (with_reducible repeat (first | refine blk_drewN ?_ _ | refine blk_drew ?_ | refine blk_alloc ?_ _)); refine blk_put (cs := #[.int .i64 0, .int .i64 0, .int .i64 0, .int .i64 0, .int .i64 0, .int .i64 0, .slice none 0 0, .slice none 0 0, .slice none 0 0]) ?_ 0 _ rfl; exact bpl BK411.out⟩, ⟨bnx⟩⟩
  case round =>
   clear H'
   try clear c1
   try clear p2
   try clear c3
   try clear c7
   try clear c7b0
   try clear c7b1
   try clear c9
   try clear c10
   try clear c11
   try clear c32
   try clear hcz12_0 hcz12_1 hcz12_2 hcz12_3 hcz12_4 hcz12_5 hcz12_6 hcz12_7
   try clear hcz33_0 hcz33_1 hcz33_2 hcz33_3 hcz33_4 hcz33_5 hcz33_6 hcz33_7
   try clear hfz12_0 hfz12_1 hfz12_2 hfz12_3 hfz12_4 hfz12_5 hfz12_6 hfz12_7
   try clear hfz33_0 hfz33_1 hfz33_2 hfz33_3 hfz33_4 hfz33_5 hfz33_6 hfz33_7
   obtain ⟨x45_1, x412006_1, u412006, rfl, HA, HK1, HO_412006, HO_412007, BK399, BK400, BK411, HB⟩ := hrel
   cases gk with
   | zero => exact absurd HA.out (by simp [impl_PartOf.l0])
   | succ k1 =>
    have H := HA.out
    clear HA
    simp only [impl_PartOf.l0] at H
    by_cases c34 : x45_1 < (l0_5.length : Int)
    ·rw [if_pos c34] at H
     have c34b0 : decide (x45_1 < (l0_5.length : Int)) = true := decide_eq_true c34
     clear c34
     by_cases c35 : 0 ≤ x45_1
     ·rw [if_pos c35] at H
      have c35b0 : decide (0 ≤ x45_1) = true := decide_eq_true c35
      clear c35
      by_cases c36 : x45_1 < (l0_5.length : Int)
      ·rw [if_pos c36] at H
       have c36b0 : decide (x45_1 < (l0_5.length : Int)) = true := decide_eq_true c36
       clear c36
       obtain ⟨t413, A37, H⟩ := bnd H
       obtain ⟨⟨t414, t415⟩, A38, H⟩ := bnd H
       replace H : (if 0 ≤ a1 then (if a1 < 2 then (if x412006_1.length < 17592186044416 then (impl_PartOf.l0 k1 a1 l0_5 (l0_5.length : Int) (wrap64 (x45_1 + 1)) a0_0 a0_1 a0_2 a0_3 a0_4 l0_5 l0_6 l0_7 a0_0 a0_1 a0_2 a0_3 a0_4 a1 (x412006_1 ++ [idx2 t414 t415 a1]) t408) else (none)) else (none)) else (none)) = some (r1, r2, r3, r4, r5, r6, r7, r8, r9, r10) := H
       by_cases c39 : 0 ≤ a1
       ·rw [if_pos c39] at H
        have c39b0 : decide (0 ≤ a1) = true := decide_eq_true c39
        clear c39
        by_cases c40 : a1 < 2
        ·rw [if_pos c40] at H
         have c40b0 : decide (a1 < 2) = true := decide_eq_true c40
         have hix := impl_PartOf.ix (s := a1) dta (of_decide_eq_true c40b0)
         clear c40
         by_cases c41 : x412006_1.length < 17592186044416
         ·rw [if_pos c41] at H
          have LMc41 := Aside0.mk c41
          clear c41
          obtain ⟨y416, hy416⟩ : ∃ y_ : List Int, y_ = (x412006_1 ++ [idx2 t414 t415 a1]) := ⟨_, rfl⟩
          replace H : (impl_PartOf.l0 k1 a1 l0_5 (l0_5.length : Int) (wrap64 (x45_1 + 1)) a0_0 a0_1 a0_2 a0_3 a0_4 l0_5 l0_6 l0_7 a0_0 a0_1 a0_2 a0_3 a0_4 a1 y416 t408) = some (r1, r2, r3, r4, r5, r6, r7, r8, r9, r10) := by first | (rw [hy416]; with_reducible exact H) | (have H2_ := (Option.bind_some _ _).symm.trans H; rw [hy416]; with_reducible exact H2_) | (have H2_ := (Option.bind_some _ _).symm.trans H; with_reducible exact H2_) | with_reducible exact H | (rw [hy416]; exact H) | exact H
          have Ny416 := Aside0.mk hy416
          clear hy416
          have H' := Aside0.mk H
          clear H
          have p412 : 0 ≤ (x45_1 : Int) := dta
          have q412 : x45_1 < (l0_5.length : Int) := dta
          obtain ⟨ad412, e412, hx412_0⟩ := Kd.at_int HR0_5.out x45_1 p412 q412
          cases e412
          replace hx412_0 := (HB.out.cell (World.block_lt_of_cell? w _ hx412_0)).trans hx412_0
          replace p412 := eq_true p412
          replace q412 := eq_true q412
          try go_wp2
          replace HO_412006 := am (Kd.R_drew HO_412006.out)
          replace HO_412007 := am (Kd.R_drew HO_412007.out)
          replace BK399 := am (blk_drew BK399.out)
          replace BK400 := am (blk_drew BK400.out)
          replace BK411 := am (blk_drew BK411.out)
          replace HB := am (below_drew1 HB.out)
          refine start_ (n := 11) (S := fun w' => w'.cell? ⟨gb399, 0, none⟩ = some (.int .i64 a0_0) ∧ w'.cell? ⟨gb399, 1, none⟩ = some (.int .i64 a0_1) ∧ w'.cell? ⟨gb399, 2, none⟩ = some (.int .i64 a0_2) ∧ w'.cell? ⟨gb399, 3, none⟩ = some (.int .i64 a0_3) ∧ w'.cell? ⟨gb399, 4, none⟩ = some (.int .i64 a0_4) ∧ w'.cell? ⟨gb399, 5, none⟩ = some (.slice (some ad412) l0_5.length c0_5) ∧ w'.cell? ⟨gb399, 6, none⟩ = some (.slice A0_6 l0_6.length c0_6) ∧ w'.cell? ⟨gb399, 7, none⟩ = some (.slice A0_7 l0_7.length c0_7)) (ds := []) #[false, false, false, false, false, false, false, false, false, false, false] (by kernel_rfl) rfl rfl ⟨(blk_cell BK399.out 0).trans rfl, (blk_cell BK399.out 1).trans rfl, (blk_cell BK399.out 2).trans rfl, (blk_cell BK399.out 3).trans rfl, (blk_cell BK399.out 4).trans rfl, (blk_cell BK399.out 5).trans rfl, (blk_cell BK399.out 6).trans rfl, (blk_cell BK399.out 7).trans rfl⟩ (fun hHeld => ?_); refine with_tabW impl_PartOf.tab8 impl_PartOf.bits8 (fun HT_ HW_ => ?_)
          generalize wr.drew = w42 at HO_412006 HO_412007 BK399 BK400 BK411 HB hHeld ⊢
          refine pu_ 0 51 HT_ ?_
          refine pu_ 1 52 HT_ ?_
          refine pu_ 3 54 HT_ ?_
          refine tk_ 2 53 HT_ HW_ hHeld ?_
          refine on_ 4 HT_ (fun K hK => ?_)
          refine gs_ Try.func94 #[.int .i64 x45_1] ?_
          with_reducible refine (impl_isTurned.calls x45_1 t413 _ A37.out).mono ?_
          rintro e w' ⟨rfl, ⟨nd, rfl⟩⟩
          refine ⟨_, rfl, ?_⟩
          refine hK.out _ _ ⟨(blk_cell BK399.out 0).trans rfl, (blk_cell BK399.out 1).trans rfl, (blk_cell BK399.out 2).trans rfl, (blk_cell BK399.out 3).trans rfl, (blk_cell BK399.out 4).trans rfl, (blk_cell BK399.out 5).trans rfl, (blk_cell BK399.out 6).trans rfl, (blk_cell BK399.out 7).trans rfl⟩ (fun hHeld => ?_)
          clear hK K
          refine nm_ 55 ?_
          refine on_ 5 HT_ (fun K hK => ?_)
          refine gs_ Try.func102 #[.int .i64 (rd l0_5 x45_1), .int .i64 a0_4, .bool t413] ?_
          with_reducible refine (impl_splitIndex.calls (rd l0_5 x45_1) a0_4 t413 t414 t415 _ A38.out).mono ?_
          rintro e w' ⟨rfl, ⟨nd, rfl⟩⟩
          refine ⟨_, rfl, ?_⟩
          refine hK.out _ _ ⟨(blk_cell BK399.out 0).trans rfl, (blk_cell BK399.out 1).trans rfl, (blk_cell BK399.out 2).trans rfl, (blk_cell BK399.out 3).trans rfl, (blk_cell BK399.out 4).trans rfl, (blk_cell BK399.out 5).trans rfl, (blk_cell BK399.out 6).trans rfl, (blk_cell BK399.out 7).trans rfl⟩ (fun hHeld => ?_)
          clear hK K
          refine nm_ 56 ?_
          refine pu_ 6 50 HT_ ?_
          refine pu_ 7 57 HT_ ?_
          refine pu_ 8 58 HT_ ?_
          refine pu_ 9 9 HT_ ?_
          refine pu_ 10 10 HT_ ?_
          refine done_ (done_of HT_.out (by kernel_rfl)) ?_
          try go_wp2
          (try ((repeat rw [World.drewN_drewN w42]); rw [drewN_self w42]; generalize hq_ : World.drewN w42 _ = w42; have n0_ : Aside0 (Kd.R (Kd.int .i64) 2 w42 w.heap.size (fun k_ => some k_ ≠ (.slice Ao22 t408.length co22 : Value).ownBlock) u412006 x412006_1) := ⟨by rw [← hq_]; exact (rpl HO_412006.out)⟩; have n1_ : Aside0 (Kd.R (Kd.int .i64) 2 w42 w.heap.size (fun k_ => some k_ ≠ (u412006 : Value).ownBlock) (.slice Ao22 t408.length co22) t408) := ⟨by rw [← hq_]; exact (rpl HO_412007.out)⟩; have n2_ : Aside0 (w42.heap[gb399]? = some (.cells #[.int .i64 a0_0, .int .i64 a0_1, .int .i64 a0_2, .int .i64 a0_3, .int .i64 a0_4, .slice (some ad412) l0_5.length c0_5, .slice A0_6 l0_6.length c0_6, .slice A0_7 l0_7.length c0_7] 36 (0, 0))) := ⟨by rw [← hq_]; exact (bpl BK399.out)⟩; have n3_ : Aside0 (w42.heap[gb400]? = some (.cells #[.int .i64 0, .int .i64 0, .int .i64 0, .int .i64 0, .int .i64 0, .int .i64 0, .int .i64 0, .slice none 0 0, .slice none 0 0, .slice none 0 0] 53 (0, 0))) := ⟨by rw [← hq_]; exact (bpl BK400.out)⟩; have n4_ : Aside0 (w42.heap[gb411]? = some (.cells #[.int .i64 a0_0, .int .i64 a0_1, .int .i64 a0_2, .int .i64 a0_3, .int .i64 a0_4, .int .i64 a1, u412006, .slice Ao22 t408.length co22, .slice none 0 0] 47 (0, 0))) := ⟨by rw [← hq_]; exact (bpl BK411.out)⟩; have n5_ : Aside0 (Below w.heap.size w w42) := ⟨by rw [← hq_]; exact bnx⟩; clear HO_412006 HO_412007 BK399 BK400 BK411 HB hq_; have HO_412006 := n0_; have HO_412007 := n1_; have BK399 := n2_; have BK400 := n3_; have BK411 := n4_; have HB := n5_; clear n0_ n1_ n2_ n3_ n4_ n5_))
          replace HO_412006 := am (Kd.R_drew HO_412006.out)
          replace HO_412007 := am (Kd.R_drew HO_412007.out)
          replace BK399 := am (blk_drew BK399.out)
          replace BK400 := am (blk_drew BK400.out)
          replace BK411 := am (blk_drew BK411.out)
          replace HB := am (below_drew1 HB.out)
          refine start_ (n := 11) (S := fun w' => w'.cell? ⟨gb411, 0, none⟩ = some (.int .i64 a0_0) ∧ w'.cell? ⟨gb411, 1, none⟩ = some (.int .i64 a0_1) ∧ w'.cell? ⟨gb411, 2, none⟩ = some (.int .i64 a0_2) ∧ w'.cell? ⟨gb411, 3, none⟩ = some (.int .i64 a0_3) ∧ w'.cell? ⟨gb411, 4, none⟩ = some (.int .i64 a0_4) ∧ w'.cell? ⟨gb411, 5, none⟩ = some (.int .i64 a1) ∧ w'.cell? ⟨gb411, 6, none⟩ = some (u412006) ∧ w'.cell? ⟨gb411, 7, none⟩ = some (.slice Ao22 t408.length co22) ∧ w'.cell? ⟨gb411, 8, none⟩ = some (.slice none 0 0)) (ds := [10]) #[false, false, false, false, false, false, false, false, false, false, false] (by kernel_rfl) rfl rfl ⟨(blk_cell BK411.out 0).trans rfl, (blk_cell BK411.out 1).trans rfl, (blk_cell BK411.out 2).trans rfl, (blk_cell BK411.out 3).trans rfl, (blk_cell BK411.out 4).trans rfl, (blk_cell BK411.out 5).trans rfl, (blk_cell BK411.out 6).trans rfl, (blk_cell BK411.out 7).trans rfl, (blk_cell BK411.out 8).trans rfl⟩ (fun hHeld => ?_); refine with_tabW impl_PartOf.tab9 impl_PartOf.bits9 (fun HT_ HW_ => ?_)
          generalize w42.drew = w43 at HO_412006 HO_412007 BK399 BK400 BK411 HB hHeld ⊢
          refine pu_ 0 59 HT_ ?_
          refine pu_ 2 61 HT_ ?_
          refine pu_ 3 62 HT_ ?_
          refine pu_ 4 63 HT_ ?_
          refine pu_ 5 64 HT_ ?_
          refine tk_ 1 60 HT_ HW_ hHeld ?_
          refine tk_ 6 65 HT_ HW_ hHeld ?_
          refine on_ 7 HT_ (fun K hK => ?_)
          refine value_ (w1 := ?_) (v := ?_) (by rfl) rfl ?_ ?_
          rotate_left 2
          ·go_simp
           constructor
           ·rfl
           ·rfl
          refine hK.out _ _ ⟨(blk_cell (blk_alloc BK411.out _) 0).trans rfl, (blk_cell (blk_alloc BK411.out _) 1).trans rfl, (blk_cell (blk_alloc BK411.out _) 2).trans rfl, (blk_cell (blk_alloc BK411.out _) 3).trans rfl, (blk_cell (blk_alloc BK411.out _) 4).trans rfl, (blk_cell (blk_alloc BK411.out _) 5).trans rfl, (blk_cell (blk_alloc BK411.out _) 6).trans rfl, (blk_cell (blk_alloc BK411.out _) 7).trans rfl, (blk_cell (blk_alloc BK411.out _) 8).trans rfl⟩ (fun hHeld => ?_)
          clear hK K
          refine nm_ 66 ?_
          refine on_ 8 HT_ (fun K hK => ?_)
          refine Kd.R_append_step (Kd.int .i64) (w0 := w) w.heap.size (by rfl) (.tmp 60) (.tmp 66) 24 2 (.int .i64 0) 8 rfl Try.underlying24 info2 rfl (by decide) (by omega) u412006 x412006_1 (idx2 t414 t415 a1) [.int .i64 (idx2 t414 t415 a1)] (fun k_ => some k_ ≠ (.slice Ao22 t408.length co22 : Value).ownBlock) (fun _ => False) rfl rfl ?aP (fun _ hk => hk.elim) ?aF ?aO ?aB ?aS ?aL ?_
          (case aP => exact rfl)
          (case aB => exact bnx)
          (case aF => exact (fun k_ hk => Kd.fresh' (Kd.R_lt (rpl HO_412007.out)) k_ hk))
          (case aO => exact (rpl HO_412006.out))
          (case aS => exact bsz)
          (case aL => have := LMc41.out; omega)
          intro v417 w44 ho hb hg hat
          rw [← Ny416.out] at ho
          replace HO_412007 := am (Kd.R_after (ok := (fun _ => True)) (by (with_reducible repeat (first | apply Kd.R_alloc | apply Kd.R_drewN | apply Kd.R_drew)); exact Kd.R_mono HO_412007.out (fun _ hk => ⟨trivial, hk⟩)) hg hat)
          replace BK399 := am (blk_grown (bpl BK399.out) hg (Kd.R_ne HO_412006.out BK399.out (by decide)))
          replace BK400 := am (blk_grown (bpl BK400.out) hg (Kd.R_ne HO_412006.out BK400.out (by decide)))
          replace BK411 := am (blk_grown (bpl BK411.out) hg (Kd.R_ne HO_412006.out BK411.out (by decide)))
          replace HB := am hb
          have HO418 := am ho
          clear HO_412006 ho hb hg hat
          obtain ⟨Ao45, co45, eo45⟩ := Kd.R_slice HO418.out
          (first | subst eo45 | (injection eo45 with f1_ f2_ f3_; have f4_ := f1_.symm; have f5_ := f3_.symm; clear f1_ f2_ f3_; subst f4_; subst f5_))
          refine hK.out _ _ ⟨(blk_cell BK411.out 0).trans rfl, (blk_cell BK411.out 1).trans rfl, (blk_cell BK411.out 2).trans rfl, (blk_cell BK411.out 3).trans rfl, (blk_cell BK411.out 4).trans rfl, (blk_cell BK411.out 5).trans rfl, (blk_cell BK411.out 6).trans rfl, (blk_cell BK411.out 7).trans rfl, (blk_cell BK411.out 8).trans rfl⟩ (fun hHeld => ?_)
          clear hK K
          refine nm_ 67 ?_
          refine pu_ 9 68 HT_ ?_
          refine last_ (i := 10) (N := none) #[true, true, true, true, true, true, true, true, true, true, true] rfl rfl (one_of HT_.out (by kernel_rfl)) (by decide) (fun K hK => ?_)
          have hs46 : w44.cell? ⟨gb411, 6, none⟩ = some (u412006) := (blk_cell BK411.out 6).trans rfl
          have hfs46 := blk_frozen BK411.out 6
          have hns46_0 := NB399_411.out
          have hns46_1 := NB400_411.out
          have hms46_0 := NB411_399.out
          have hms46_1 := NB411_400.out
          refine skip_ (w1 := ?_) (by rfl) rfl ?_ ?_
          rotate_left
          ·go_simp
           rfl
          refine hK.out _ _ ?_
          clear hK K
          refine done_ (done_of HT_.out (by kernel_rfl)) ?_
          try go_wp2
          go_roundg k1
          case measure => have := HK1.out; omega
          case rel => exact ⟨(wrap64 (x45_1 + 1)), (y416), (.slice Ao45 y416.length co45), rq, H', ⟨by have := HK1.out; omega⟩, ⟨by (with_reducible repeat (first | apply Kd.R_alloc | apply Kd.R_drewN | apply Kd.R_drew)); exact Kd.R_mono (Kd.R_far (p := ⟨gb411, 6, none⟩) (Kd.R_types HO418.out BK411.out (by decide)) (fun _ hk => hk.2) (.slice Ao45 y416.length co45)) (fun _ hk => hk.1)⟩, ⟨by (with_reducible repeat (first | apply Kd.R_alloc | apply Kd.R_drewN | apply Kd.R_drew)); exact Kd.R_mono (Kd.R_far (p := ⟨gb411, 6, none⟩) (Kd.R_types HO_412007.out BK411.out (by decide)) (fun _ hk => hk.2) (.slice Ao45 y416.length co45)) (fun _ hk => hk.1.2)⟩, ⟨by (with_reducible repeat (first | refine blk_drewN ?_ _ | refine blk_drew ?_ | refine blk_alloc ?_ _)); refine blk_far ?_ NB399_411.out _; (with_reducible repeat (first | refine blk_drewN ?_ _ | refine blk_drew ?_ | refine blk_alloc ?_ _)); exact BK399.out⟩, ⟨by (with_reducible repeat (first | refine blk_drewN ?_ _ | refine blk_drew ?_ | refine blk_alloc ?_ _)); refine blk_far ?_ NB400_411.out _; (with_reducible repeat (first | refine blk_drewN ?_ _ | refine blk_drew ?_ | refine blk_alloc ?_ _)); exact BK400.out⟩, ⟨by (with_reducible repeat (first | refine blk_drewN ?_ _ | refine blk_drew ?_ | refine blk_alloc ?_ _)); refine blk_put (cs := #[.int .i64 a0_0, .int .i64 a0_1, .int .i64 a0_2, .int .i64 a0_3, .int .i64 a0_4, .int .i64 a1, u412006, .slice Ao22 t408.length co22, .slice none 0 0]) ?_ 6 _ rfl; exact bpl BK411.out⟩, ⟨bnx⟩⟩
         ·rw [if_neg c41] at H
          exact absurd H (by simp)
        ·rw [if_neg c40] at H
         exact absurd H (by simp)
       ·rw [if_neg c39] at H
        exact absurd H (by simp)
      ·rw [if_neg c36] at H
       exact absurd H (by simp)
     ·rw [if_neg c35] at H
      exact absurd H (by simp)
    ·rw [if_neg c34] at H
     have c34b0 : decide (x45_1 < (l0_5.length : Int)) = false := decide_eq_false c34
     clear c34
     have H' := Aside0.mk H
     clear H
     have hnb47 := NB399_400.out
     have hnc47 := NB400_399.out
     have hnb48 := NB399_411.out
     have hnc48 := NB411_399.out
     obtain ⟨hcz49_0, hcz49_1, hcz49_2, hcz49_3, hcz49_4, hcz49_5, hcz49_6, hcz49_7, hfz49_0, hfz49_1, hfz49_2, hfz49_3, hfz49_4, hfz49_5, hfz49_6, hfz49_7⟩ := cf8 (W := wr) BK399.out
     go_wp2
     go_loopg [73] k1 (fun kq v73 w' => ∃ (x73_2 : Int) (x412008_2 : List (List Int)) (u412008 : Value), v73 = .int .i64 x73_2 ∧ Aside0 (impl_PartOf.l1 kq l0_7 (l0_7.length : Int) x73_2 a0_0 a0_1 a0_2 a0_3 a0_4 a1 x412006_1 t408 x412008_2 = some (r1, r2, r3, r4, r5, r6, r7, r8, r9, r10)) ∧ Aside0 (kq ≤ k1) ∧ Aside0 (Kd.R (Kd.int .i64) 2 w' w.heap.size (fun k_ => some k_ ≠ ((.slice Ao22 t408.length co22) : Value).ownBlock) u412006 x412006_1) ∧ Aside0 (Kd.R (Kd.int .i64) 2 w' w.heap.size (fun k_ => some k_ ≠ (u412006 : Value).ownBlock) (.slice Ao22 t408.length co22) t408) ∧ Aside0 (Kd.S (Kd.slice 2 (Kd.int .i64)) 24 w' w.heap.size (fun k_ => some k_ ≠ (u412006 : Value).ownBlock ∧ some k_ ≠ ((.slice Ao22 t408.length co22) : Value).ownBlock) u412008 x412008_2) ∧ Aside0 (w'.heap[gb399]? = some (.cells #[.int .i64 a0_0, .int .i64 a0_1, .int .i64 a0_2, .int .i64 a0_3, .int .i64 a0_4, (.slice A0_5 l0_5.length c0_5), (.slice A0_6 l0_6.length c0_6), (.slice A0_7 l0_7.length c0_7)] 36 (0, 0))) ∧ Aside0 (w'.heap[gb400]? = some (.cells #[.int .i64 0, .int .i64 0, .int .i64 0, .int .i64 0, .int .i64 0, .int .i64 0, .int .i64 0, (.slice none 0 0), (.slice none 0 0), (.slice none 0 0)] 53 (0, 0))) ∧ Aside0 (w'.heap[gb411]? = some (.cells #[.int .i64 a0_0, .int .i64 a0_1, .int .i64 a0_2, .int .i64 a0_3, .int .i64 a0_4, .int .i64 a1, u412006, (.slice Ao22 t408.length co22), u412008] 47 (0, 0))) ∧ Aside0 (Below w.heap.size w w'))
     case atStart => exact ⟨(0), (([] : List (List Int))), (.slice none 0 0), rq, H', ⟨Nat.le_refl _⟩, ⟨by (with_reducible repeat (first | apply Kd.R_alloc | apply Kd.R_drewN | apply Kd.R_drew)); exact HO_412006.out⟩, ⟨by (with_reducible repeat (first | apply Kd.R_alloc | apply Kd.R_drewN | apply Kd.R_drew)); exact HO_412007.out⟩, ⟨by first | exact Kd.S_nil _ _ _ _ _ | exact Kd.N_nil _ _ _ _ _ | exact Kd.V_nil _ _ _ _ _ | exact Kd.Q_nil _ _ _ _ _ | exact Kd.R_nil _ _ _ _ _⟩, ⟨bpl BK399.out⟩, ⟨bpl BK400.out⟩, ⟨bpl BK411.out⟩, ⟨bnx⟩⟩
     case round =>
      clear H'
      try clear c1
      try clear p2
      try clear c3
      try clear c4
      try clear p4
      try clear q4
      try clear hx4
      try clear p6
      try clear c7
      try clear c7b0
      try clear c7b1
      try clear c9
      try clear c10
      try clear c11
      try clear c32
      try clear c34
      try clear c34b0
      try clear c35
      try clear c35b0
      try clear c36
      try clear c36b0
      try clear c39
      try clear c39b0
      try clear c40
      try clear c40b0
      try clear c41
      try clear p41
      try clear q41
      try clear hx41
      try clear c47
      try clear c48
      try clear hcz12_0 hcz12_1 hcz12_2 hcz12_3 hcz12_4 hcz12_5 hcz12_6 hcz12_7
      try clear hcz33_0 hcz33_1 hcz33_2 hcz33_3 hcz33_4 hcz33_5 hcz33_6 hcz33_7
      try clear hcz49_0 hcz49_1 hcz49_2 hcz49_3 hcz49_4 hcz49_5 hcz49_6 hcz49_7
      try clear hfz12_0 hfz12_1 hfz12_2 hfz12_3 hfz12_4 hfz12_5 hfz12_6 hfz12_7
      try clear hfz33_0 hfz33_1 hfz33_2 hfz33_3 hfz33_4 hfz33_5 hfz33_6 hfz33_7
      try clear hfz49_0 hfz49_1 hfz49_2 hfz49_3 hfz49_4 hfz49_5 hfz49_6 hfz49_7
      try clear hx412_0
      try clear p2
      try clear p412
      try clear q412
      obtain ⟨x73_2, x412008_2, u412008, rfl, HA, HK2, HO_412006, HO_412007, HO_412008, BK399, BK400, BK411, HB⟩ := hrel
      cases gk with
      | zero => exact absurd HA.out (by simp [impl_PartOf.l1])
      | succ k2 =>
       have H := HA.out
       clear HA
       simp only [impl_PartOf.l1] at H
       by_cases c50 : x73_2 < (l0_7.length : Int)
       ·rw [if_pos c50] at H
        have c50b0 : decide (x73_2 < (l0_7.length : Int)) = true := decide_eq_true c50
        clear c50
        by_cases c51 : 0 ≤ x73_2
        ·rw [if_pos c51] at H
         have c51b0 : decide (0 ≤ x73_2) = true := decide_eq_true c51
         clear c51
         by_cases c52 : x73_2 < (l0_7.length : Int)
         ·rw [if_pos c52] at H
          have c52b0 : decide (x73_2 < (l0_7.length : Int)) = true := decide_eq_true c52
          clear c52
          obtain ⟨y421, hy421⟩ : ∃ y_ : List Int, y_ = (([] : List Int)) := ⟨_, rfl⟩
          replace H : ((impl_Part_owns.f a0_0 a0_1 a0_2 a0_3 a0_4 a1 x412006_1 t408 x412008_2 x73_2).bind fun t424 => (if t424 = true then ((slices_Clone_int64_int64.f (rd_L1 l0_7 x73_2)).bind fun t425 => (if x412008_2.length < 5864062014805 then (impl_PartOf.l1 k2 l0_7 (l0_7.length : Int) (wrap64 (x73_2 + 1)) a0_0 a0_1 a0_2 a0_3 a0_4 a1 x412006_1 t408 (x412008_2 ++ [t425])) else (none))) else (if x412008_2.length < 5864062014805 then (impl_PartOf.l1 k2 l0_7 (l0_7.length : Int) (wrap64 (x73_2 + 1)) a0_0 a0_1 a0_2 a0_3 a0_4 a1 x412006_1 t408 (x412008_2 ++ [y421])) else (none)))) = some (r1, r2, r3, r4, r5, r6, r7, r8, r9, r10) := by first | (rw [hy421]; with_reducible exact H) | (have H2_ := (Option.bind_some _ _).symm.trans H; rw [hy421]; with_reducible exact H2_) | (have H2_ := (Option.bind_some _ _).symm.trans H; with_reducible exact H2_) | with_reducible exact H | (rw [hy421]; exact H) | exact H
          have Ny421 := Aside0.mk hy421
          clear hy421
          obtain ⟨t424, A53, H⟩ := bnd H
          by_cases c54 : t424 = true
          ·subst c54
           replace H : ((slices_Clone_int64_int64.f (rd_L1 l0_7 x73_2)).bind fun t425 => (if x412008_2.length < 5864062014805 then (impl_PartOf.l1 k2 l0_7 (l0_7.length : Int) (wrap64 (x73_2 + 1)) a0_0 a0_1 a0_2 a0_3 a0_4 a1 x412006_1 t408 (x412008_2 ++ [t425])) else (none))) = some (r1, r2, r3, r4, r5, r6, r7, r8, r9, r10) := by rw [if_pos rfl] at H; exact H
           obtain ⟨t425, A55, H⟩ := bnd H
           by_cases c56 : x412008_2.length < 5864062014805
           ·rw [if_pos c56] at H
            have LMc56 := Aside0.mk c56
            clear c56
            obtain ⟨y428, hy428⟩ : ∃ y_ : List (List Int), y_ = (x412008_2 ++ [t425]) := ⟨_, rfl⟩
            replace H : (impl_PartOf.l1 k2 l0_7 (l0_7.length : Int) (wrap64 (x73_2 + 1)) a0_0 a0_1 a0_2 a0_3 a0_4 a1 x412006_1 t408 y428) = some (r1, r2, r3, r4, r5, r6, r7, r8, r9, r10) := by first | (rw [hy428]; with_reducible exact H) | (have H2_ := (Option.bind_some _ _).symm.trans H; rw [hy428]; with_reducible exact H2_) | (have H2_ := (Option.bind_some _ _).symm.trans H; with_reducible exact H2_) | with_reducible exact H | (rw [hy428]; exact H) | exact H
            have Ny428 := Aside0.mk hy428
            clear hy428
            have H' := Aside0.mk H
            clear H
            have p420 : 0 ≤ (x73_2 : Int) := dta
            have q420 : x73_2 < (l0_7.length : Int) := dta
            obtain ⟨ad420, A420_0, c420_0, e420, hx420_0, hl420_0, hi420_0⟩ := at_L1 HR0_7.out x73_2 p420 q420
            cases e420
            replace hx420_0 := (HB.out.cell (World.block_lt_of_cell? w _ hx420_0)).trans hx420_0
            have HR420_0 := Aside0.mk hi420_0
            have HC420_0 := Aside0.mk hl420_0
            clear hi420_0 hl420_0
            replace p420 := eq_true p420
            replace q420 := eq_true q420
            go_wp2_with (first | ((with_reducible refine gate_dst (N := 78) rfl ?_); refine Kd.R_lit (Kd.int .i64) _ 2 ?hg (N := 78) ?hd (xs := ([] : List Int)) (inner := []) (ok := fun _ => True) (okp := fun _ => True) ?hr ?hp (fun _ hk => hk) trivial (Below.refl _ _) (Nat.le_refl _) (by simp) ?_; (case hd => rfl); (case hg => rfl); (case hr => first | (go_simp; done) | (go_simp; rfl)); (case hp => exact (Reps.none _ _)); intro v422 w57 ho58 hb hg_ hnew_; clear hg_ hnew_; (first | rw [← Ny421.out] at ho58 | (simp only [Int.reduceToNat] at ho58; rw [← Ny421.out] at ho58)); replace HO_412008 := sel HO_412008 ho58 hb; have HO423 := am (Kd.R_lower (Kd.R_new' (Kd.R_new' ho58 (rlt HO_412006)) (rlt HO_412007)) bsz); replace HO_412006 := rel HO_412006 ho58 hb; replace HO_412007 := rel HO_412007 ho58 hb; replace BK399 := bkb BK399 hb; replace BK400 := bkb BK400 hb; replace BK411 := bkb BK411 hb; replace HB := hbs hb; clear hb ho58; have hnb59 := NB411_399.out; have hnc59 := NB399_411.out; have hnb60 := NB411_400.out; have hnc60 := NB400_411.out; obtain ⟨hcz61_0, hcz61_1, hcz61_2, hcz61_3, hcz61_4, hcz61_5, hcz61_6, hcz61_7, hcz61_8, hfz61_0, hfz61_1, hfz61_2, hfz61_3, hfz61_4, hfz61_5, hfz61_6, hfz61_7, hfz61_8⟩ := cf9 (W := w57) BK411.out; obtain ⟨Ao62, co62, eo62⟩ := Kd.R_slice HO_412006.out; subst eo62; obtain ⟨Ao63, co63, eo63⟩ := Kd.S_slice HO_412008.out; subst eo63) | ((with_reducible refine gate_callee (f := 88) rfl ?_); refine gl_ 81 Try.func88 #[.agg #[.int .i64 a0_0, .int .i64 a0_1, .int .i64 a0_2, .int .i64 a0_3, .int .i64 a0_4, .int .i64 a1, .slice Ao62 x412006_1.length co62, .slice Ao22 t408.length co22, .slice Ao63 x412008_2.length co63], .int .i64 x73_2] ?_; (with_reducible refine (impl_Part_owns.calls a0_0 a0_1 a0_2 a0_3 a0_4 a1 _ _ x412006_1 _ _ t408 _ _ x412008_2 x73_2 true _ ?_ ?_ ?_ ?_ ?_ ?_ A53.out).mono ?_); exact crd HO_412006; exact (Kd.R_reads' HO_412006.out).2.1; exact crd HO_412007; exact (Kd.R_reads' HO_412007.out).2.1; exact csd HO_412008; exact (Kd.S_reads' HO_412008.out).2.1; rintro e w64 ⟨rfl, hb⟩; refine ⟨_, rfl, ?_⟩; replace HO_412006 := rbl HO_412006 hb; replace HO_412007 := rbl HO_412007 hb; replace HO_412008 := sbl HO_412008 hb; replace HO423 := rbl HO423 hb; replace BK399 := bkb BK399 hb; replace BK400 := bkb BK400 hb; replace BK411 := bkb BK411 hb; replace HB := hbs hb; (try clear hb)) | ((with_reducible refine gate_callee (f := 101) rfl ?_); refine gl_ 83 Try.func101 #[.slice A420_0 (rd_L1 l0_7 x73_2).length c420_0] ?_; (with_reducible refine (slices_Clone_int64_int64.calls _ _ (rd_L1 l0_7 x73_2) t425 _ ?_ ?_ A55.out).mono ?_); exact cpl HR420_0.out; exact HC420_0.out; rintro e w65 ⟨v426, rfl, ho0, hb⟩; refine ⟨_, rfl, ?_⟩; replace HO_412008 := sel HO_412008 ho0 hb; have HO427 := am (Kd.R_lower (Kd.R_new' (Kd.R_new' (Kd.R_new' ho0 (rlt HO_412006)) (rlt HO_412007)) (rlt HO423)) bsz); replace HO_412006 := rel HO_412006 ho0 hb; replace HO_412007 := rel HO_412007 ho0 hb; replace HO423 := rel HO423 ho0 hb; replace BK399 := bkb BK399 hb; replace BK400 := bkb BK400 hb; replace BK411 := bkb BK411 hb; replace HB := hbs hb; (try clear hb); (try clear ho0); obtain ⟨hcz66_0, hcz66_1, hcz66_2, hcz66_3, hcz66_4, hcz66_5, hcz66_6, hcz66_7, hcz66_8, hfz66_0, hfz66_1, hfz66_2, hfz66_3, hfz66_4, hfz66_5, hfz66_6, hfz66_7, hfz66_8⟩ := cf9 (W := w65) BK411.out; obtain ⟨Ao68, co68, eo68⟩ := Kd.R_slice HO427.out; subst eo68) | ((with_reducible refine gate_builtin (b := .append) (xs := #[.tmp 85, .tmp 87]) rfl ?_); at_builtin; refine Kd.S_append (Kd.slice 2 (Kd.int .i64)) (w0 := w) w.heap.size rfl (.tmp 85) (.tmp 87) 31 24 (.slice none 0 0) 24 rfl Try.underlying31 info24 rfl (by decide) (by omega) (.slice Ao63 x412008_2.length co63) x412008_2 t425 [.slice Ao68 t425.length co68] (fun k_ => some k_ ≠ (.slice Ao62 x412006_1.length co62 : Value).ownBlock ∧ some k_ ≠ (.slice Ao22 t408.length co22 : Value).ownBlock ∧ some k_ ≠ (v422 : Value).ownBlock) (fun k_ => some k_ = (.slice Ao68 t425.length co68 : Value).ownBlock) rfl rfl ?aP (fun k_ hk_ => ((Kd.R_mono (ok' := fun k_ => ((fun k_ => some k_ ≠ (.slice Ao62 x412006_1.length co62 : Value).ownBlock ∧ some k_ ≠ (.slice Ao22 t408.length co22 : Value).ownBlock ∧ some k_ ≠ (v422 : Value).ownBlock)) k_ ∧ some k_ ≠ (.slice Ao63 x412008_2.length co63 : Value).ownBlock) (Kd.R_apart' (HO427.out) (Kd.S_typed HO_412008.out) (by decide)) (fun k_ hk => ⟨⟨hk.1.1.1.2, ⟨hk.1.1.2, hk.1.2⟩⟩, hk.2⟩))).1 k_ hk_.symm) ?aF ?aO ?aB ?aS ?aL ?_; (case aP => exact Kd.M_row (Kd.R_mono (Kd.R_tight rfl (Kd.R_mono (ok' := fun k_ => ((fun k_ => some k_ ≠ (.slice Ao62 x412006_1.length co62 : Value).ownBlock ∧ some k_ ≠ (.slice Ao22 t408.length co22 : Value).ownBlock ∧ some k_ ≠ (v422 : Value).ownBlock)) k_ ∧ some k_ ≠ (.slice Ao63 x412008_2.length co63 : Value).ownBlock) (Kd.R_apart' (HO427.out) (Kd.S_typed HO_412008.out) (by decide)) (fun k_ hk => ⟨⟨hk.1.1.1.2, ⟨hk.1.1.2, hk.1.2⟩⟩, hk.2⟩))) (fun _ h_ => h_))); (case aB => exact bnx); (case aF => exact (fun k_ hk => ⟨Kd.fresh' (Kd.R_lt (rpl HO_412006.out)) k_ hk, Kd.fresh' (Kd.R_lt (rpl HO_412007.out)) k_ hk, Kd.fresh' (Kd.R_lt (rpl HO423.out)) k_ hk⟩)); (case aO => exact (by (with_reducible repeat (first | apply Kd.S_alloc | apply Kd.S_drewN | apply Kd.S_drew)); exact Kd.S_mono HO_412008.out (fun k_ hk => ⟨⟨hk.1.1.1, ⟨hk.1.1.2, hk.1.2⟩⟩, fun e_ => hk.2 e_⟩))); (case aS => exact bsz); (case aL => have := LMc56.out; omega); intro v429 w67 ho hb hg hat; rw [← Ny428.out] at ho; replace HO_412006 := am (Kd.R_over' (rpl HO_412006.out) (Kd.S_typed (spl HO_412008.out)) (by decide) hg); replace HO_412007 := am (Kd.R_over' (rpl HO_412007.out) (Kd.S_typed (spl HO_412008.out)) (by decide) hg); replace BK399 := am (blk_grown (bpl BK399.out) hg (Kd.S_ne HO_412008.out BK399.out (by decide))); replace BK400 := am (blk_grown (bpl BK400.out) hg (Kd.S_ne HO_412008.out BK400.out (by decide))); replace BK411 := am (blk_grown (bpl BK411.out) hg (Kd.S_ne HO_412008.out BK411.out (by decide))); replace HO423 := am (Kd.R_over' (rpl HO423.out) (Kd.S_typed (spl HO_412008.out)) (by decide) hg); replace HB := am hb; have HO430 := am ho; clear HO_412008 HO427 ho hb hg hat; obtain ⟨Ao69, co69, eo69⟩ := Kd.S_slice HO430.out; subst eo69; obtain ⟨hcz70_0, hcz70_1, hcz70_2, hcz70_3, hcz70_4, hcz70_5, hcz70_6, hcz70_7, hcz70_8, hfz70_0, hfz70_1, hfz70_2, hfz70_3, hfz70_4, hfz70_5, hfz70_6, hfz70_7, hfz70_8⟩ := cf9 (W := w67) BK411.out))
            go_roundg k2
            case measure => have := HK1.out; have := HK2.out; omega
            case rel => exact ⟨(wrap64 (x73_2 + 1)), (y428), (.slice Ao69 y428.length co69), rq, H', ⟨by have := HK1.out; have := HK2.out; omega⟩, ⟨by (with_reducible repeat (first | apply Kd.R_alloc | apply Kd.R_drewN | apply Kd.R_drew)); exact Kd.R_mono (Kd.R_far (p := ⟨gb411, 8, none⟩) (Kd.R_types HO_412006.out BK411.out (by decide)) (fun _ hk => hk.2) (.slice Ao69 y428.length co69)) (fun _ hk => hk.1.1.1)⟩, ⟨by (with_reducible repeat (first | apply Kd.R_alloc | apply Kd.R_drewN | apply Kd.R_drew)); exact Kd.R_mono (Kd.R_far (p := ⟨gb411, 8, none⟩) (Kd.R_types HO_412007.out BK411.out (by decide)) (fun _ hk => hk.2) (.slice Ao69 y428.length co69)) (fun _ hk => hk.1.1.1)⟩, ⟨by (with_reducible repeat (first | apply Kd.S_alloc | apply Kd.S_drewN | apply Kd.S_drew)); exact Kd.S_mono (Kd.S_far (p := ⟨gb411, 8, none⟩) (Kd.S_types HO430.out BK411.out (by decide)) (fun _ hk => hk.2) (.slice Ao69 y428.length co69)) (fun _ hk => ⟨hk.1.1, hk.1.2.1⟩)⟩, ⟨by (with_reducible repeat (first | refine blk_drewN ?_ _ | refine blk_drew ?_ | refine blk_alloc ?_ _)); refine blk_far ?_ NB399_411.out _; (with_reducible repeat (first | refine blk_drewN ?_ _ | refine blk_drew ?_ | refine blk_alloc ?_ _)); exact BK399.out⟩, ⟨by (with_reducible repeat (first | refine blk_drewN ?_ _ | refine blk_drew ?_ | refine blk_alloc ?_ _)); refine blk_far ?_ NB400_411.out _; (with_reducible repeat (first | refine blk_drewN ?_ _ | refine blk_drew ?_ | refine blk_alloc ?_ _)); exact BK400.out⟩, ⟨by (with_reducible repeat (first | refine blk_drewN ?_ _ | refine blk_drew ?_ | refine blk_alloc ?_ _)); refine blk_put (cs := #[.int .i64 a0_0, .int .i64 a0_1, .int .i64 a0_2, .int .i64 a0_3, .int .i64 a0_4, .int .i64 a1, .slice Ao62 x412006_1.length co62, .slice Ao22 t408.length co22, .slice Ao63 x412008_2.length co63]) ?_ 8 _ rfl; exact bpl BK411.out⟩, ⟨bnx⟩⟩
           ·rw [if_neg c56] at H
            exact absurd H (by simp)
          ·replace c54 := Bool.eq_false_iff.mpr c54
           subst c54
           replace H : (if x412008_2.length < 5864062014805 then (impl_PartOf.l1 k2 l0_7 (l0_7.length : Int) (wrap64 (x73_2 + 1)) a0_0 a0_1 a0_2 a0_3 a0_4 a1 x412006_1 t408 (x412008_2 ++ [y421])) else (none)) = some (r1, r2, r3, r4, r5, r6, r7, r8, r9, r10) := by rw [if_neg (show ¬ (false = true) by decide)] at H; exact H
           by_cases c71 : x412008_2.length < 5864062014805
           ·rw [if_pos c71] at H
            have LMc71 := Aside0.mk c71
            clear c71
            obtain ⟨y431, hy431⟩ : ∃ y_ : List (List Int), y_ = (x412008_2 ++ [y421]) := ⟨_, rfl⟩
            replace H : (impl_PartOf.l1 k2 l0_7 (l0_7.length : Int) (wrap64 (x73_2 + 1)) a0_0 a0_1 a0_2 a0_3 a0_4 a1 x412006_1 t408 y431) = some (r1, r2, r3, r4, r5, r6, r7, r8, r9, r10) := by first | (rw [hy431]; with_reducible exact H) | (have H2_ := (Option.bind_some _ _).symm.trans H; rw [hy431]; with_reducible exact H2_) | (have H2_ := (Option.bind_some _ _).symm.trans H; with_reducible exact H2_) | with_reducible exact H | (rw [hy431]; exact H) | exact H
            have Ny431 := Aside0.mk hy431
            clear hy431
            have H' := Aside0.mk H
            clear H
            have p420 : 0 ≤ (x73_2 : Int) := dta
            have q420 : x73_2 < (l0_7.length : Int) := dta
            obtain ⟨ad420, A420_0, c420_0, e420, hx420_0, hl420_0, hi420_0⟩ := at_L1 HR0_7.out x73_2 p420 q420
            cases e420
            replace hx420_0 := (HB.out.cell (World.block_lt_of_cell? w _ hx420_0)).trans hx420_0
            have HR420_0 := Aside0.mk hi420_0
            have HC420_0 := Aside0.mk hl420_0
            clear hi420_0 hl420_0
            replace p420 := eq_true p420
            replace q420 := eq_true q420
            go_wp2_with (first | ((with_reducible refine gate_dst (N := 78) rfl ?_); refine Kd.R_lit (Kd.int .i64) _ 2 ?hg (N := 78) ?hd (xs := ([] : List Int)) (inner := []) (ok := fun _ => True) (okp := fun _ => True) ?hr ?hp (fun _ hk => hk) trivial (Below.refl _ _) (Nat.le_refl _) (by simp) ?_; (case hd => rfl); (case hg => rfl); (case hr => first | (go_simp; done) | (go_simp; rfl)); (case hp => exact (Reps.none _ _)); intro v422 w72 ho73 hb hg_ hnew_; clear hg_ hnew_; (first | rw [← Ny421.out] at ho73 | (simp only [Int.reduceToNat] at ho73; rw [← Ny421.out] at ho73)); replace HO_412008 := sel HO_412008 ho73 hb; have HO423 := am (Kd.R_lower (Kd.R_new' (Kd.R_new' ho73 (rlt HO_412006)) (rlt HO_412007)) bsz); replace HO_412006 := rel HO_412006 ho73 hb; replace HO_412007 := rel HO_412007 ho73 hb; replace BK399 := bkb BK399 hb; replace BK400 := bkb BK400 hb; replace BK411 := bkb BK411 hb; replace HB := hbs hb; clear hb ho73; have hnb74 := NB411_399.out; have hnc74 := NB399_411.out; have hnb75 := NB411_400.out; have hnc75 := NB400_411.out; obtain ⟨hcz76_0, hcz76_1, hcz76_2, hcz76_3, hcz76_4, hcz76_5, hcz76_6, hcz76_7, hcz76_8, hfz76_0, hfz76_1, hfz76_2, hfz76_3, hfz76_4, hfz76_5, hfz76_6, hfz76_7, hfz76_8⟩ := cf9 (W := w72) BK411.out; obtain ⟨Ao77, co77, eo77⟩ := Kd.R_slice HO_412006.out; subst eo77; obtain ⟨Ao78, co78, eo78⟩ := Kd.S_slice HO_412008.out; subst eo78) | ((with_reducible refine gate_callee (f := 88) rfl ?_); refine gl_ 81 Try.func88 #[.agg #[.int .i64 a0_0, .int .i64 a0_1, .int .i64 a0_2, .int .i64 a0_3, .int .i64 a0_4, .int .i64 a1, .slice Ao77 x412006_1.length co77, .slice Ao22 t408.length co22, .slice Ao78 x412008_2.length co78], .int .i64 x73_2] ?_; (with_reducible refine (impl_Part_owns.calls a0_0 a0_1 a0_2 a0_3 a0_4 a1 _ _ x412006_1 _ _ t408 _ _ x412008_2 x73_2 false _ ?_ ?_ ?_ ?_ ?_ ?_ A53.out).mono ?_); exact crd HO_412006; exact (Kd.R_reads' HO_412006.out).2.1; exact crd HO_412007; exact (Kd.R_reads' HO_412007.out).2.1; exact csd HO_412008; exact (Kd.S_reads' HO_412008.out).2.1; rintro e w79 ⟨rfl, hb⟩; refine ⟨_, rfl, ?_⟩; replace HO_412006 := rbl HO_412006 hb; replace HO_412007 := rbl HO_412007 hb; replace HO_412008 := sbl HO_412008 hb; replace HO423 := rbl HO423 hb; replace BK399 := bkb BK399 hb; replace BK400 := bkb BK400 hb; replace BK411 := bkb BK411 hb; replace HB := hbs hb; (try clear hb); obtain ⟨hcz80_0, hcz80_1, hcz80_2, hcz80_3, hcz80_4, hcz80_5, hcz80_6, hcz80_7, hcz80_8, hfz80_0, hfz80_1, hfz80_2, hfz80_3, hfz80_4, hfz80_5, hfz80_6, hfz80_7, hfz80_8⟩ := cf9 (W := w79) BK411.out; obtain ⟨Ao82, co82, eo82⟩ := Kd.R_slice HO423.out; subst eo82) | ((with_reducible refine gate_builtin (b := .append) (xs := #[.tmp 85, .tmp 87]) rfl ?_); at_builtin; refine Kd.S_append (Kd.slice 2 (Kd.int .i64)) (w0 := w) w.heap.size rfl (.tmp 85) (.tmp 87) 31 24 (.slice none 0 0) 24 rfl Try.underlying31 info24 rfl (by decide) (by omega) (.slice Ao78 x412008_2.length co78) x412008_2 y421 [.slice Ao82 y421.length co82] (fun k_ => some k_ ≠ (.slice Ao77 x412006_1.length co77 : Value).ownBlock ∧ some k_ ≠ (.slice Ao22 t408.length co22 : Value).ownBlock) (fun k_ => some k_ = (.slice Ao82 y421.length co82 : Value).ownBlock) rfl rfl ?aP (fun k_ hk_ => ((Kd.R_mono (ok' := fun k_ => ((fun k_ => some k_ ≠ (.slice Ao77 x412006_1.length co77 : Value).ownBlock ∧ some k_ ≠ (.slice Ao22 t408.length co22 : Value).ownBlock)) k_ ∧ some k_ ≠ (.slice Ao78 x412008_2.length co78 : Value).ownBlock) (Kd.R_apart' (HO423.out) (Kd.S_typed HO_412008.out) (by decide)) (fun k_ hk => ⟨⟨hk.1.1.2, hk.1.2⟩, hk.2⟩))).1 k_ hk_.symm) ?aF ?aO ?aB ?aS ?aL ?_; (case aP => exact Kd.M_row (Kd.R_mono (Kd.R_tight rfl (Kd.R_mono (ok' := fun k_ => ((fun k_ => some k_ ≠ (.slice Ao77 x412006_1.length co77 : Value).ownBlock ∧ some k_ ≠ (.slice Ao22 t408.length co22 : Value).ownBlock)) k_ ∧ some k_ ≠ (.slice Ao78 x412008_2.length co78 : Value).ownBlock) (Kd.R_apart' (HO423.out) (Kd.S_typed HO_412008.out) (by decide)) (fun k_ hk => ⟨⟨hk.1.1.2, hk.1.2⟩, hk.2⟩))) (fun _ h_ => h_))); (case aB => exact bnx); (case aF => exact (fun k_ hk => ⟨Kd.fresh' (Kd.R_lt (rpl HO_412006.out)) k_ hk, Kd.fresh' (Kd.R_lt (rpl HO_412007.out)) k_ hk⟩)); (case aO => exact (by (with_reducible repeat (first | apply Kd.S_alloc | apply Kd.S_drewN | apply Kd.S_drew)); exact Kd.S_mono HO_412008.out (fun k_ hk => ⟨⟨hk.1.1, hk.1.2⟩, fun e_ => hk.2 e_⟩))); (case aS => exact bsz); (case aL => have := LMc71.out; omega); intro v432 w81 ho hb hg hat; rw [← Ny431.out] at ho; replace HO_412006 := am (Kd.R_over' (rpl HO_412006.out) (Kd.S_typed (spl HO_412008.out)) (by decide) hg); replace HO_412007 := am (Kd.R_over' (rpl HO_412007.out) (Kd.S_typed (spl HO_412008.out)) (by decide) hg); replace BK399 := am (blk_grown (bpl BK399.out) hg (Kd.S_ne HO_412008.out BK399.out (by decide))); replace BK400 := am (blk_grown (bpl BK400.out) hg (Kd.S_ne HO_412008.out BK400.out (by decide))); replace BK411 := am (blk_grown (bpl BK411.out) hg (Kd.S_ne HO_412008.out BK411.out (by decide))); replace HB := am hb; have HO433 := am ho; clear HO_412008 HO423 ho hb hg hat; obtain ⟨Ao83, co83, eo83⟩ := Kd.S_slice HO433.out; subst eo83; obtain ⟨hcz84_0, hcz84_1, hcz84_2, hcz84_3, hcz84_4, hcz84_5, hcz84_6, hcz84_7, hcz84_8, hfz84_0, hfz84_1, hfz84_2, hfz84_3, hfz84_4, hfz84_5, hfz84_6, hfz84_7, hfz84_8⟩ := cf9 (W := w81) BK411.out))
            go_roundg k2
            case measure => have := HK1.out; have := HK2.out; omega
            case rel => exact ⟨(wrap64 (x73_2 + 1)), (y431), (.slice Ao83 y431.length co83), rq, H', ⟨by have := HK1.out; have := HK2.out; omega⟩, ⟨by (with_reducible repeat (first | apply Kd.R_alloc | apply Kd.R_drewN | apply Kd.R_drew)); exact Kd.R_mono (Kd.R_far (p := ⟨gb411, 8, none⟩) (Kd.R_types HO_412006.out BK411.out (by decide)) (fun _ hk => hk.2) (.slice Ao83 y431.length co83)) (fun _ hk => hk.1.1)⟩, ⟨by (with_reducible repeat (first | apply Kd.R_alloc | apply Kd.R_drewN | apply Kd.R_drew)); exact Kd.R_mono (Kd.R_far (p := ⟨gb411, 8, none⟩) (Kd.R_types HO_412007.out BK411.out (by decide)) (fun _ hk => hk.2) (.slice Ao83 y431.length co83)) (fun _ hk => hk.1.1)⟩, ⟨by (with_reducible repeat (first | apply Kd.S_alloc | apply Kd.S_drewN | apply Kd.S_drew)); exact Kd.S_mono (Kd.S_far (p := ⟨gb411, 8, none⟩) (Kd.S_types HO433.out BK411.out (by decide)) (fun _ hk => hk.2) (.slice Ao83 y431.length co83)) (fun _ hk => ⟨hk.1.1, hk.1.2⟩)⟩, ⟨by (with_reducible repeat (first | refine blk_drewN ?_ _ | refine blk_drew ?_ | refine blk_alloc ?_ _)); refine blk_far ?_ NB399_411.out _; (with_reducible repeat (first | refine blk_drewN ?_ _ | refine blk_drew ?_ | refine blk_alloc ?_ _)); exact BK399.out⟩, ⟨by (with_reducible repeat (first | refine blk_drewN ?_ _ | refine blk_drew ?_ | refine blk_alloc ?_ _)); refine blk_far ?_ NB400_411.out _; (with_reducible repeat (first | refine blk_drewN ?_ _ | refine blk_drew ?_ | refine blk_alloc ?_ _)); exact BK400.out⟩, ⟨by (with_reducible repeat (first | refine blk_drewN ?_ _ | refine blk_drew ?_ | refine blk_alloc ?_ _)); refine blk_put (cs := #[.int .i64 a0_0, .int .i64 a0_1, .int .i64 a0_2, .int .i64 a0_3, .int .i64 a0_4, .int .i64 a1, .slice Ao77 x412006_1.length co77, .slice Ao22 t408.length co22, .slice Ao78 x412008_2.length co78]) ?_ 8 _ rfl; exact bpl BK411.out⟩, ⟨bnx⟩⟩
           ·rw [if_neg c71] at H
            exact absurd H (by simp)
         ·rw [if_neg c52] at H
          exact absurd H (by simp)
        ·rw [if_neg c51] at H
         exact absurd H (by simp)
       ·rw [if_neg c50] at H
        have c50b0 : decide (x73_2 < (l0_7.length : Int)) = false := decide_eq_false c50
        clear c50
        obtain ⟨t419, A85, H⟩ := bnd H
        by_cases c86 : t419 = 0
        ·rw [if_pos c86] at H
         have c86b0 : (t419 == 0) = true := beq_iff_eq.mpr c86
         have c86b1 : (t419 != 0) = false := bne_eq_false_iff_eq.mpr c86
         clear c86
         simp only [Option.some.injEq, Prod.mk.injEq] at H
         obtain ⟨rfl, rfl, rfl, rfl, rfl, rfl, rfl, rfl, rfl, rfl⟩ := H
         have hnb87 := NB411_399.out
         have hnc87 := NB399_411.out
         have hnb88 := NB411_400.out
         have hnc88 := NB400_411.out
         obtain ⟨hcz89_0, hcz89_1, hcz89_2, hcz89_3, hcz89_4, hcz89_5, hcz89_6, hcz89_7, hcz89_8, hfz89_0, hfz89_1, hfz89_2, hfz89_3, hfz89_4, hfz89_5, hfz89_6, hfz89_7, hfz89_8⟩ := cf9 (W := wr) BK411.out
         obtain ⟨Ao90, co90, eo90⟩ := Kd.R_slice HO_412006.out
         subst eo90
         obtain ⟨Ao91, co91, eo91⟩ := Kd.S_slice HO_412008.out
         subst eo91
         go_wp2_with (first | ((with_reducible refine gate_callee (f := 86) rfl ?_); refine gl_ 92 Try.func86 #[.agg #[.int .i64 a0_0, .int .i64 a0_1, .int .i64 a0_2, .int .i64 a0_3, .int .i64 a0_4, .int .i64 a1, .slice Ao90 x412006_1.length co90, .slice Ao22 t408.length co22, .slice Ao91 x412008_2.length co91]] ?_; (with_reducible refine (impl_PartFault.calls k2 a0_0 a0_1 a0_2 a0_3 a0_4 a1 _ _ x412006_1 _ _ t408 _ _ x412008_2 t419 _ ?_ ?_ ?_ ?_ ?_ ?_ A85.out).mono ?_); exact crd HO_412006; exact (Kd.R_reads' HO_412006.out).2.1; exact crd HO_412007; exact (Kd.R_reads' HO_412007.out).2.1; exact csd HO_412008; exact (Kd.S_reads' HO_412008.out).2.1; rintro e w92 ⟨rfl, hb⟩; refine ⟨_, rfl, ?_⟩; replace HO_412006 := rbl HO_412006 hb; replace HO_412007 := rbl HO_412007 hb; replace HO_412008 := sbl HO_412008 hb; replace BK399 := bkb BK399 hb; replace BK400 := bkb BK400 hb; replace BK411 := bkb BK411 hb; replace HB := hbs hb; (try clear hb); obtain ⟨hcz93_0, hcz93_1, hcz93_2, hcz93_3, hcz93_4, hcz93_5, hcz93_6, hcz93_7, hcz93_8, hfz93_0, hfz93_1, hfz93_2, hfz93_3, hfz93_4, hfz93_5, hfz93_6, hfz93_7, hfz93_8⟩ := cf9 (W := w92) BK411.out; have hnb94 := NB400_399.out; have hnc94 := NB399_400.out; obtain ⟨hcz95_0, hcz95_1, hcz95_2, hcz95_3, hcz95_4, hcz95_5, hcz95_6, hcz95_7, hcz95_8, hcz95_9, hfz95_0, hfz95_1, hfz95_2, hfz95_3, hfz95_4, hfz95_5, hfz95_6, hfz95_7, hfz95_8, hfz95_9⟩ := cf10 (W := w92) BK400.out))
         refine bodyPost_ret (results_cell_row rfl _ _ gb400 53 #[.int .i64 0, .int .i64 a0_0, .int .i64 a0_1, .int .i64 a0_2, .int .i64 a0_3, .int .i64 a0_4, .int .i64 a1, .slice Ao90 x412006_1.length co90, .slice Ao22 t408.length co22, .slice Ao91 x412008_2.length co91] (0, 0) _ rfl (by (with_reducible repeat (first | refine blk_drewN ?_ _ | refine blk_drew ?_ | refine blk_alloc ?_ _)); refine blk_put (cs := #[.int .i64 0, .int .i64 a0_0, .int .i64 a0_1, .int .i64 a0_2, .int .i64 a0_3, .int .i64 a0_4, .int .i64 a1, .slice Ao90 x412006_1.length co90, .slice Ao22 t408.length co22, .slice none 0 0]) ?_ 9 _ rfl; (with_reducible repeat (first | refine blk_drewN ?_ _ | refine blk_drew ?_ | refine blk_alloc ?_ _)); refine blk_put (cs := #[.int .i64 0, .int .i64 a0_0, .int .i64 a0_1, .int .i64 a0_2, .int .i64 a0_3, .int .i64 a0_4, .int .i64 a1, .slice Ao90 x412006_1.length co90, .slice none 0 0, .slice none 0 0]) ?_ 8 _ rfl; (with_reducible repeat (first | refine blk_drewN ?_ _ | refine blk_drew ?_ | refine blk_alloc ?_ _)); refine blk_put (cs := #[.int .i64 0, .int .i64 a0_0, .int .i64 a0_1, .int .i64 a0_2, .int .i64 a0_3, .int .i64 a0_4, .int .i64 a1, .slice none 0 0, .slice none 0 0, .slice none 0 0]) ?_ 7 _ rfl; (with_reducible repeat (first | refine blk_drewN ?_ _ | refine blk_drew ?_ | refine blk_alloc ?_ _)); refine blk_put (cs := #[.int .i64 0, .int .i64 a0_0, .int .i64 a0_1, .int .i64 a0_2, .int .i64 a0_3, .int .i64 a0_4, .int .i64 0, .slice none 0 0, .slice none 0 0, .slice none 0 0]) ?_ 6 _ rfl; (with_reducible repeat (first | refine blk_drewN ?_ _ | refine blk_drew ?_ | refine blk_alloc ?_ _)); refine blk_put (cs := #[.int .i64 0, .int .i64 a0_0, .int .i64 a0_1, .int .i64 a0_2, .int .i64 a0_3, .int .i64 0, .int .i64 0, .slice none 0 0, .slice none 0 0, .slice none 0 0]) ?_ 5 _ rfl; (with_reducible repeat (first | refine blk_drewN ?_ _ | refine blk_drew ?_ | refine blk_alloc ?_ _)); refine blk_put (cs := #[.int .i64 0, .int .i64 a0_0, .int .i64 a0_1, .int .i64 a0_2, .int .i64 0, .int .i64 0, .int .i64 0, .slice none 0 0, .slice none 0 0, .slice none 0 0]) ?_ 4 _ rfl; (with_reducible repeat (first | refine blk_drewN ?_ _ | refine blk_drew ?_ | refine blk_alloc ?_ _)); refine blk_put (cs := #[.int .i64 0, .int .i64 a0_0, .int .i64 a0_1, .int .i64 0, .int .i64 0, .int .i64 0, .int .i64 0, .slice none 0 0, .slice none 0 0, .slice none 0 0]) ?_ 3 _ rfl; (with_reducible repeat (first | refine blk_drewN ?_ _ | refine blk_drew ?_ | refine blk_alloc ?_ _)); refine blk_put (cs := #[.int .i64 0, .int .i64 a0_0, .int .i64 0, .int .i64 0, .int .i64 0, .int .i64 0, .int .i64 0, .slice none 0 0, .slice none 0 0, .slice none 0 0]) ?_ 2 _ rfl; (with_reducible repeat (first | refine blk_drewN ?_ _ | refine blk_drew ?_ | refine blk_alloc ?_ _)); refine blk_put (cs := #[.int .i64 0, .int .i64 0, .int .i64 0, .int .i64 0, .int .i64 0, .int .i64 0, .int .i64 0, .slice none 0 0, .slice none 0 0, .slice none 0 0]) ?_ 1 _ rfl; (with_reducible repeat (first | refine blk_drewN ?_ _ | refine blk_drew ?_ | refine blk_alloc ?_ _)); refine blk_put (cs := #[.int .i64 0, .int .i64 0, .int .i64 0, .int .i64 0, .int .i64 0, .int .i64 0, .int .i64 0, .slice none 0 0, .slice none 0 0, .slice none 0 0]) ?_ 0 _ rfl; exact bpl BK400.out) Try.underlying53 rfl (by kernel_rfl)) rfl ?_
         exact ⟨_, _, _, enq, by (with_reducible repeat (first | apply Kd.R_alloc | apply Kd.R_drewN | apply Kd.R_drew)); exact Kd.R_mono (Kd.R_far (p := ⟨gb400, 9, none⟩) (Kd.R_far (p := ⟨gb400, 8, none⟩) (Kd.R_far (p := ⟨gb400, 7, none⟩) (Kd.R_far (p := ⟨gb400, 6, none⟩) (Kd.R_far (p := ⟨gb400, 5, none⟩) (Kd.R_far (p := ⟨gb400, 4, none⟩) (Kd.R_far (p := ⟨gb400, 3, none⟩) (Kd.R_far (p := ⟨gb400, 2, none⟩) (Kd.R_far (p := ⟨gb400, 1, none⟩) (Kd.R_far (p := ⟨gb400, 0, none⟩) (Kd.R_types HO_412006.out BK400.out (by decide)) (fun _ hk => hk.2) (.int .i64 0)) (fun _ hk => hk.2) (.int .i64 a0_0)) (fun _ hk => hk.2) (.int .i64 a0_1)) (fun _ hk => hk.2) (.int .i64 a0_2)) (fun _ hk => hk.2) (.int .i64 a0_3)) (fun _ hk => hk.2) (.int .i64 a0_4)) (fun _ hk => hk.2) (.int .i64 a1)) (fun _ hk => hk.2) (.slice Ao90 x412006_1.length co90)) (fun _ hk => hk.2) (.slice Ao22 t408.length co22)) (fun _ hk => hk.2) (.slice Ao91 x412008_2.length co91)) (fun _ hk => hk.1), by (with_reducible repeat (first | apply Kd.R_alloc | apply Kd.R_drewN | apply Kd.R_drew)); exact Kd.R_mono (Kd.R_far (p := ⟨gb400, 9, none⟩) (Kd.R_far (p := ⟨gb400, 8, none⟩) (Kd.R_far (p := ⟨gb400, 7, none⟩) (Kd.R_far (p := ⟨gb400, 6, none⟩) (Kd.R_far (p := ⟨gb400, 5, none⟩) (Kd.R_far (p := ⟨gb400, 4, none⟩) (Kd.R_far (p := ⟨gb400, 3, none⟩) (Kd.R_far (p := ⟨gb400, 2, none⟩) (Kd.R_far (p := ⟨gb400, 1, none⟩) (Kd.R_far (p := ⟨gb400, 0, none⟩) (Kd.R_types HO_412007.out BK400.out (by decide)) (fun _ hk => hk.2) (.int .i64 0)) (fun _ hk => hk.2) (.int .i64 a0_0)) (fun _ hk => hk.2) (.int .i64 a0_1)) (fun _ hk => hk.2) (.int .i64 a0_2)) (fun _ hk => hk.2) (.int .i64 a0_3)) (fun _ hk => hk.2) (.int .i64 a0_4)) (fun _ hk => hk.2) (.int .i64 a1)) (fun _ hk => hk.2) (.slice Ao90 x412006_1.length co90)) (fun _ hk => hk.2) (.slice Ao22 t408.length co22)) (fun _ hk => hk.2) (.slice Ao91 x412008_2.length co91)) (fun _ hk => hk.1), by (with_reducible repeat (first | apply Kd.S_alloc | apply Kd.S_drewN | apply Kd.S_drew)); exact Kd.S_mono (Kd.S_far (p := ⟨gb400, 9, none⟩) (Kd.S_far (p := ⟨gb400, 8, none⟩) (Kd.S_far (p := ⟨gb400, 7, none⟩) (Kd.S_far (p := ⟨gb400, 6, none⟩) (Kd.S_far (p := ⟨gb400, 5, none⟩) (Kd.S_far (p := ⟨gb400, 4, none⟩) (Kd.S_far (p := ⟨gb400, 3, none⟩) (Kd.S_far (p := ⟨gb400, 2, none⟩) (Kd.S_far (p := ⟨gb400, 1, none⟩) (Kd.S_far (p := ⟨gb400, 0, none⟩) (Kd.S_types HO_412008.out BK400.out (by decide)) (fun _ hk => hk.2) (.int .i64 0)) (fun _ hk => hk.2) (.int .i64 a0_0)) (fun _ hk => hk.2) (.int .i64 a0_1)) (fun _ hk => hk.2) (.int .i64 a0_2)) (fun _ hk => hk.2) (.int .i64 a0_3)) (fun _ hk => hk.2) (.int .i64 a0_4)) (fun _ hk => hk.2) (.int .i64 a1)) (fun _ hk => hk.2) (.slice Ao90 x412006_1.length co90)) (fun _ hk => hk.2) (.slice Ao22 t408.length co22)) (fun _ hk => hk.2) (.slice Ao91 x412008_2.length co91)) (fun _ hk => ⟨hk.1.1, hk.1.2⟩), bnx⟩
        ·rw [if_neg c86] at H
         have c86b0 : (t419 == 0) = false := beq_eq_false_iff_ne.mpr c86
         have c86b1 : (t419 != 0) = true := bne_iff_ne.mpr c86
         simp only [Option.some.injEq, Prod.mk.injEq] at H
         obtain ⟨rfl, rfl, rfl, rfl, rfl, rfl, rfl, rfl, rfl, rfl⟩ := H
         have hnb96 := NB411_399.out
         have hnc96 := NB399_411.out
         have hnb97 := NB411_400.out
         have hnc97 := NB400_411.out
         obtain ⟨hcz98_0, hcz98_1, hcz98_2, hcz98_3, hcz98_4, hcz98_5, hcz98_6, hcz98_7, hcz98_8, hfz98_0, hfz98_1, hfz98_2, hfz98_3, hfz98_4, hfz98_5, hfz98_6, hfz98_7, hfz98_8⟩ := cf9 (W := wr) BK411.out
         obtain ⟨Ao99, co99, eo99⟩ := Kd.R_slice HO_412006.out
         subst eo99
         obtain ⟨Ao100, co100, eo100⟩ := Kd.S_slice HO_412008.out
         subst eo100
         go_wp2_with (first | ((with_reducible refine gate_callee (f := 86) rfl ?_); refine gl_ 92 Try.func86 #[.agg #[.int .i64 a0_0, .int .i64 a0_1, .int .i64 a0_2, .int .i64 a0_3, .int .i64 a0_4, .int .i64 a1, .slice Ao99 x412006_1.length co99, .slice Ao22 t408.length co22, .slice Ao100 x412008_2.length co100]] ?_; (with_reducible refine (impl_PartFault.calls k2 a0_0 a0_1 a0_2 a0_3 a0_4 a1 _ _ x412006_1 _ _ t408 _ _ x412008_2 t419 _ ?_ ?_ ?_ ?_ ?_ ?_ A85.out).mono ?_); exact crd HO_412006; exact (Kd.R_reads' HO_412006.out).2.1; exact crd HO_412007; exact (Kd.R_reads' HO_412007.out).2.1; exact csd HO_412008; exact (Kd.S_reads' HO_412008.out).2.1; rintro e w101 ⟨rfl, hb⟩; refine ⟨_, rfl, ?_⟩; replace HO_412006 := rbl HO_412006 hb; replace HO_412007 := rbl HO_412007 hb; replace HO_412008 := sbl HO_412008 hb; replace BK399 := bkb BK399 hb; replace BK400 := bkb BK400 hb; replace BK411 := bkb BK411 hb; replace HB := hbs hb; (try clear hb); have hnb102 := NB400_399.out; have hnc102 := NB399_400.out; obtain ⟨hcz103_0, hcz103_1, hcz103_2, hcz103_3, hcz103_4, hcz103_5, hcz103_6, hcz103_7, hcz103_8, hcz103_9, hfz103_0, hfz103_1, hfz103_2, hfz103_3, hfz103_4, hfz103_5, hfz103_6, hfz103_7, hfz103_8, hfz103_9⟩ := cf10 (W := w101) BK400.out))
         refine bodyPost_ret (results_cell_row rfl _ _ gb400 53 #[.int .i64 t419, .int .i64 0, .int .i64 0, .int .i64 0, .int .i64 0, .int .i64 0, .int .i64 0, .slice none 0 0, .slice none 0 0, .slice none 0 0] (0, 0) _ rfl (by (with_reducible repeat (first | refine blk_drewN ?_ _ | refine blk_drew ?_ | refine blk_alloc ?_ _)); refine blk_put (cs := #[.int .i64 t419, .int .i64 0, .int .i64 0, .int .i64 0, .int .i64 0, .int .i64 0, .int .i64 0, .slice none 0 0, .slice none 0 0, .slice none 0 0]) ?_ 9 _ rfl; (with_reducible repeat (first | refine blk_drewN ?_ _ | refine blk_drew ?_ | refine blk_alloc ?_ _)); refine blk_put (cs := #[.int .i64 t419, .int .i64 0, .int .i64 0, .int .i64 0, .int .i64 0, .int .i64 0, .int .i64 0, .slice none 0 0, .slice none 0 0, .slice none 0 0]) ?_ 8 _ rfl; (with_reducible repeat (first | refine blk_drewN ?_ _ | refine blk_drew ?_ | refine blk_alloc ?_ _)); refine blk_put (cs := #[.int .i64 t419, .int .i64 0, .int .i64 0, .int .i64 0, .int .i64 0, .int .i64 0, .int .i64 0, .slice none 0 0, .slice none 0 0, .slice none 0 0]) ?_ 7 _ rfl; (with_reducible repeat (first | refine blk_drewN ?_ _ | refine blk_drew ?_ | refine blk_alloc ?_ _)); refine blk_put (cs := #[.int .i64 t419, .int .i64 0, .int .i64 0, .int .i64 0, .int .i64 0, .int .i64 0, .int .i64 0, .slice none 0 0, .slice none 0 0, .slice none 0 0]) ?_ 6 _ rfl; (with_reducible repeat (first | refine blk_drewN ?_ _ | refine blk_drew ?_ | refine blk_alloc ?_ _)); refine blk_put (cs := #[.int .i64 t419, .int .i64 0, .int .i64 0, .int .i64 0, .int .i64 0, .int .i64 0, .int .i64 0, .slice none 0 0, .slice none 0 0, .slice none 0 0]) ?_ 5 _ rfl; (with_reducible repeat (first | refine blk_drewN ?_ _ | refine blk_drew ?_ | refine blk_alloc ?_ _)); refine blk_put (cs := #[.int .i64 t419, .int .i64 0, .int .i64 0, .int .i64 0, .int .i64 0, .int .i64 0, .int .i64 0, .slice none 0 0, .slice none 0 0, .slice none 0 0]) ?_ 4 _ rfl; (with_reducible repeat (first | refine blk_drewN ?_ _ | refine blk_drew ?_ | refine blk_alloc ?_ _)); refine blk_put (cs := #[.int .i64 t419, .int .i64 0, .int .i64 0, .int .i64 0, .int .i64 0, .int .i64 0, .int .i64 0, .slice none 0 0, .slice none 0 0, .slice none 0 0]) ?_ 3 _ rfl; (with_reducible repeat (first | refine blk_drewN ?_ _ | refine blk_drew ?_ | refine blk_alloc ?_ _)); refine blk_put (cs := #[.int .i64 t419, .int .i64 0, .int .i64 0, .int .i64 0, .int .i64 0, .int .i64 0, .int .i64 0, .slice none 0 0, .slice none 0 0, .slice none 0 0]) ?_ 2 _ rfl; (with_reducible repeat (first | refine blk_drewN ?_ _ | refine blk_drew ?_ | refine blk_alloc ?_ _)); refine blk_put (cs := #[.int .i64 t419, .int .i64 0, .int .i64 0, .int .i64 0, .int .i64 0, .int .i64 0, .int .i64 0, .slice none 0 0, .slice none 0 0, .slice none 0 0]) ?_ 1 _ rfl; (with_reducible repeat (first | refine blk_drewN ?_ _ | refine blk_drew ?_ | refine blk_alloc ?_ _)); refine blk_put (cs := #[.int .i64 0, .int .i64 0, .int .i64 0, .int .i64 0, .int .i64 0, .int .i64 0, .int .i64 0, .slice none 0 0, .slice none 0 0, .slice none 0 0]) ?_ 0 _ rfl; exact bpl BK400.out) Try.underlying53 rfl (by kernel_rfl)) rfl ?_
         exact ⟨_, _, _, enq, by first | exact Kd.R_nil _ _ _ _ _ | exact Kd.N_nil _ _ _ _ _ | exact Kd.V_nil _ _ _ _ _ | exact Kd.Q_nil _ _ _ _ _ | exact Kd.S_nil _ _ _ _ _, by first | exact Kd.R_nil _ _ _ _ _ | exact Kd.N_nil _ _ _ _ _ | exact Kd.V_nil _ _ _ _ _ | exact Kd.Q_nil _ _ _ _ _ | exact Kd.S_nil _ _ _ _ _, by first | exact Kd.S_nil _ _ _ _ _ | exact Kd.N_nil _ _ _ _ _ | exact Kd.V_nil _ _ _ _ _ | exact Kd.Q_nil _ _ _ _ _ | exact Kd.R_nil _ _ _ _ _, bnx⟩
 ·rw [if_neg c7] at H
  have c7b0 : (t407 == 0) = false := beq_eq_false_iff_ne.mpr c7
  have c7b1 : (t407 != 0) = true := bne_iff_ne.mpr c7
  simp only [Option.some.injEq, Prod.mk.injEq] at H
  obtain ⟨rfl, rfl, rfl, rfl, rfl, rfl, rfl, rfl, rfl, rfl⟩ := H
  go_enter Try.func37, Try.ntmps37
  go_wp2_with (first | ((with_reducible refine gate_dst (N := 2) rfl ?_); refine bev 2 36 #[.int .i64 a0_0, .int .i64 a0_1, .int .i64 a0_2, .int .i64 a0_3, .int .i64 a0_4, .slice A0_5 l0_5.length c0_5, .slice A0_6 l0_6.length c0_6, .slice A0_7 l0_7.length c0_7] ?_; intro gb399 hg w104 hbox hb; have BK399 := am hbox; have GW399 := gwe hg; have GE399 := gwe hg; replace HB := hbs hb; clear hb hbox hg) | ((with_reducible refine gate_dst (N := 4) rfl ?_); refine bev 4 53 #[.int .i64 0, .int .i64 0, .int .i64 0, .int .i64 0, .int .i64 0, .int .i64 0, .int .i64 0, .slice none 0 0, .slice none 0 0, .slice none 0 0] ?_; intro gb400 hg w105 hbox hb; have BK400 := am hbox; have GW400 := gwe hg; have GE400 := gwe hg; replace HB := hbs hb; have NB399_400 := nbl hg BK399; have NB400_399 := nbg hg BK399; replace BK399 := bkb BK399 hb; clear hb hbox hg; have hnb106 := NB399_400.out; have hnc106 := NB400_399.out; obtain ⟨hcz107_0, hcz107_1, hcz107_2, hcz107_3, hcz107_4, hcz107_5, hcz107_6, hcz107_7, hfz107_0, hfz107_1, hfz107_2, hfz107_3, hfz107_4, hfz107_5, hfz107_6, hfz107_7⟩ := cf8 (W := w105) BK399.out) | ((with_reducible refine gate_callee (f := 76) rfl ?_); refine gl_ 16 Try.func76 #[.agg #[.int .i64 a0_0, .int .i64 a0_1, .int .i64 a0_2, .int .i64 a0_3, .int .i64 a0_4, .slice A0_5 l0_5.length c0_5, .slice A0_6 l0_6.length c0_6, .slice A0_7 l0_7.length c0_7]] ?_; (with_reducible refine (impl_FrameFault.calls k a0_0 a0_1 a0_2 a0_3 a0_4 _ _ l0_5 _ _ l0_6 _ _ l0_7 t401 _ ?_ ?_ ?_ ?_ ?_ ?_ A3.out).mono ?_); exact cpl HR0_5.out; exact HC0_5.out; exact cpl HR0_6.out; exact HC0_6.out; exact cpl HR0_7.out; exact HC0_7.out; rintro e w108 ⟨rfl, hb⟩; refine ⟨_, rfl, ?_⟩; replace BK399 := bkb BK399 hb; replace BK400 := bkb BK400 hb; replace HB := hbs hb; (try clear hb)) | ((with_reducible refine gate_callee (f := 100) rfl ?_); refine gl_ 18 Try.func100 #[.int .i64 a1] ?_; (with_reducible refine (impl_isSide.calls a1 t402 _ A4.out).mono ?_); rintro e w' ⟨rfl, ⟨nd, rfl⟩⟩; refine ⟨_, rfl, ?_⟩; (try ((repeat rw [World.drewN_drewN w108]); rw [drewN_self w108]; generalize hq_ : World.drewN w108 _ = w108; have n0_ : Aside0 (w108.heap[gb399]? = some (.cells #[.int .i64 a0_0, .int .i64 a0_1, .int .i64 a0_2, .int .i64 a0_3, .int .i64 a0_4, .slice A0_5 l0_5.length c0_5, .slice A0_6 l0_6.length c0_6, .slice A0_7 l0_7.length c0_7] 36 (0, 0))) := ⟨by rw [← hq_]; exact (bpl BK399.out)⟩; have n1_ : Aside0 (w108.heap[gb400]? = some (.cells #[.int .i64 0, .int .i64 0, .int .i64 0, .int .i64 0, .int .i64 0, .int .i64 0, .int .i64 0, .slice none 0 0, .slice none 0 0, .slice none 0 0] 53 (0, 0))) := ⟨by rw [← hq_]; exact (bpl BK400.out)⟩; have n2_ : Aside0 (Below w.heap.size w w108) := ⟨by rw [← hq_]; exact bnx⟩; clear BK399 BK400 HB hq_; have BK399 := n0_; have BK400 := n1_; have HB := n2_; clear n0_ n1_ n2_))) | ((with_reducible refine gate_callee (f := 99) rfl ?_); refine gl_ 20 Try.func99 #[.bool (!t402), .int .i64 3] ?_; (with_reducible refine (impl_codeIf.calls (!t402) 3 t403 _ A5.out).mono ?_); rintro e w' ⟨rfl, ⟨nd, rfl⟩⟩; refine ⟨_, rfl, ?_⟩; (try ((repeat rw [World.drewN_drewN w108]); rw [drewN_self w108]; generalize hq_ : World.drewN w108 _ = w108; have n0_ : Aside0 (w108.heap[gb399]? = some (.cells #[.int .i64 a0_0, .int .i64 a0_1, .int .i64 a0_2, .int .i64 a0_3, .int .i64 a0_4, .slice A0_5 l0_5.length c0_5, .slice A0_6 l0_6.length c0_6, .slice A0_7 l0_7.length c0_7] 36 (0, 0))) := ⟨by rw [← hq_]; exact (bpl BK399.out)⟩; have n1_ : Aside0 (w108.heap[gb400]? = some (.cells #[.int .i64 0, .int .i64 0, .int .i64 0, .int .i64 0, .int .i64 0, .int .i64 0, .int .i64 0, .slice none 0 0, .slice none 0 0, .slice none 0 0] 53 (0, 0))) := ⟨by rw [← hq_]; exact (bpl BK400.out)⟩; have n2_ : Aside0 (Below w.heap.size w w108) := ⟨by rw [← hq_]; exact bnx⟩; clear BK399 BK400 HB hq_; have BK399 := n0_; have BK400 := n1_; have HB := n2_; clear n0_ n1_ n2_))) | ((with_reducible refine gate_dst (N := 21) rfl ?_); refine Kd.R_lit (Kd.int .i64) _ 2 ?hg (N := 21) ?hd (xs := ([t401, t403] : List Int)) (inner := [.int .i64 t401, .int .i64 t403]) (ok := fun _ => True) (okp := fun _ => True) ?hr ?hp (fun _ hk => hk) trivial (Below.refl _ _) (Nat.le_refl _) (by simp) ?_; (case hd => rfl); (case hg => rfl); (case hr => first | (go_simp; done) | (go_simp; rfl)); (case hp => exact (Reps.one (show Kd.M (Kd.int .i64) _ _ _ t401 [.int .i64 t401] from rfl) (Reps.one (show Kd.M (Kd.int .i64) _ _ _ t403 [.int .i64 t403] from rfl) (Reps.none _ _)))); intro v405 w109 ho110 hb hg_ hnew_; clear hg_ hnew_; (first | rw [← Ny404.out] at ho110 | (simp only [Int.reduceToNat] at ho110; rw [← Ny404.out] at ho110)); have HO406 := rlw ho110; replace BK399 := bkb BK399 hb; replace BK400 := bkb BK400 hb; replace HB := hbs hb; clear hb ho110; obtain ⟨Ao111, co111, eo111⟩ := Kd.R_slice HO406.out; subst eo111) | ((with_reducible refine gate_callee (f := 98) rfl ?_); refine gl_ 22 Try.func98 #[.slice Ao111 y404.length co111] ?_; (with_reducible refine (impl_first.calls k _ _ y404 t407 _ ?_ ?_ A6.out).mono ?_); exact crd HO406; exact (Kd.R_reads' HO406.out).2.1; rintro e w' ⟨rfl, ⟨nd, rfl⟩⟩; refine ⟨_, rfl, ?_⟩; (try ((repeat rw [World.drewN_drewN w109]); rw [drewN_self w109]; generalize hq_ : World.drewN w109 _ = w109; have n0_ : Aside0 (Kd.R (Kd.int .i64) 2 w109 w.heap.size (fun _ => True) (.slice Ao111 y404.length co111) y404) := ⟨by rw [← hq_]; exact (rpl HO406.out)⟩; have n1_ : Aside0 (w109.heap[gb399]? = some (.cells #[.int .i64 a0_0, .int .i64 a0_1, .int .i64 a0_2, .int .i64 a0_3, .int .i64 a0_4, .slice A0_5 l0_5.length c0_5, .slice A0_6 l0_6.length c0_6, .slice A0_7 l0_7.length c0_7] 36 (0, 0))) := ⟨by rw [← hq_]; exact (bpl BK399.out)⟩; have n2_ : Aside0 (w109.heap[gb400]? = some (.cells #[.int .i64 0, .int .i64 0, .int .i64 0, .int .i64 0, .int .i64 0, .int .i64 0, .int .i64 0, .slice none 0 0, .slice none 0 0, .slice none 0 0] 53 (0, 0))) := ⟨by rw [← hq_]; exact (bpl BK400.out)⟩; have n3_ : Aside0 (Below w.heap.size w w109) := ⟨by rw [← hq_]; exact bnx⟩; clear HO406 BK399 BK400 HB hq_; have HO406 := n0_; have BK399 := n1_; have BK400 := n2_; have HB := n3_; clear n0_ n1_ n2_ n3_)); obtain ⟨hcz112_0, hcz112_1, hcz112_2, hcz112_3, hcz112_4, hcz112_5, hcz112_6, hcz112_7, hcz112_8, hcz112_9, hfz112_0, hfz112_1, hfz112_2, hfz112_3, hfz112_4, hfz112_5, hfz112_6, hfz112_7, hfz112_8, hfz112_9⟩ := cf10 (W := w109) BK400.out))
  refine bodyPost_ret (results_cell_row rfl _ _ gb400 53 #[.int .i64 t407, .int .i64 0, .int .i64 0, .int .i64 0, .int .i64 0, .int .i64 0, .int .i64 0, .slice none 0 0, .slice none 0 0, .slice none 0 0] (0, 0) _ rfl (by (with_reducible repeat (first | refine blk_drewN ?_ _ | refine blk_drew ?_ | refine blk_alloc ?_ _)); refine blk_put (cs := #[.int .i64 t407, .int .i64 0, .int .i64 0, .int .i64 0, .int .i64 0, .int .i64 0, .int .i64 0, .slice none 0 0, .slice none 0 0, .slice none 0 0]) ?_ 9 _ rfl; (with_reducible repeat (first | refine blk_drewN ?_ _ | refine blk_drew ?_ | refine blk_alloc ?_ _)); refine blk_put (cs := #[.int .i64 t407, .int .i64 0, .int .i64 0, .int .i64 0, .int .i64 0, .int .i64 0, .int .i64 0, .slice none 0 0, .slice none 0 0, .slice none 0 0]) ?_ 8 _ rfl; (with_reducible repeat (first | refine blk_drewN ?_ _ | refine blk_drew ?_ | refine blk_alloc ?_ _)); refine blk_put (cs := #[.int .i64 t407, .int .i64 0, .int .i64 0, .int .i64 0, .int .i64 0, .int .i64 0, .int .i64 0, .slice none 0 0, .slice none 0 0, .slice none 0 0]) ?_ 7 _ rfl; (with_reducible repeat (first | refine blk_drewN ?_ _ | refine blk_drew ?_ | refine blk_alloc ?_ _)); refine blk_put (cs := #[.int .i64 t407, .int .i64 0, .int .i64 0, .int .i64 0, .int .i64 0, .int .i64 0, .int .i64 0, .slice none 0 0, .slice none 0 0, .slice none 0 0]) ?_ 6 _ rfl; (with_reducible repeat (first | refine blk_drewN ?_ _ | refine blk_drew ?_ | refine blk_alloc ?_ _)); refine blk_put (cs := #[.int .i64 t407, .int .i64 0, .int .i64 0, .int .i64 0, .int .i64 0, .int .i64 0, .int .i64 0, .slice none 0 0, .slice none 0 0, .slice none 0 0]) ?_ 5 _ rfl; (with_reducible repeat (first | refine blk_drewN ?_ _ | refine blk_drew ?_ | refine blk_alloc ?_ _)); refine blk_put (cs := #[.int .i64 t407, .int .i64 0, .int .i64 0, .int .i64 0, .int .i64 0, .int .i64 0, .int .i64 0, .slice none 0 0, .slice none 0 0, .slice none 0 0]) ?_ 4 _ rfl; (with_reducible repeat (first | refine blk_drewN ?_ _ | refine blk_drew ?_ | refine blk_alloc ?_ _)); refine blk_put (cs := #[.int .i64 t407, .int .i64 0, .int .i64 0, .int .i64 0, .int .i64 0, .int .i64 0, .int .i64 0, .slice none 0 0, .slice none 0 0, .slice none 0 0]) ?_ 3 _ rfl; (with_reducible repeat (first | refine blk_drewN ?_ _ | refine blk_drew ?_ | refine blk_alloc ?_ _)); refine blk_put (cs := #[.int .i64 t407, .int .i64 0, .int .i64 0, .int .i64 0, .int .i64 0, .int .i64 0, .int .i64 0, .slice none 0 0, .slice none 0 0, .slice none 0 0]) ?_ 2 _ rfl; (with_reducible repeat (first | refine blk_drewN ?_ _ | refine blk_drew ?_ | refine blk_alloc ?_ _)); refine blk_put (cs := #[.int .i64 t407, .int .i64 0, .int .i64 0, .int .i64 0, .int .i64 0, .int .i64 0, .int .i64 0, .slice none 0 0, .slice none 0 0, .slice none 0 0]) ?_ 1 _ rfl; (with_reducible repeat (first | refine blk_drewN ?_ _ | refine blk_drew ?_ | refine blk_alloc ?_ _)); refine blk_put (cs := #[.int .i64 0, .int .i64 0, .int .i64 0, .int .i64 0, .int .i64 0, .int .i64 0, .int .i64 0, .slice none 0 0, .slice none 0 0, .slice none 0 0]) ?_ 0 _ rfl; exact bpl BK400.out) Try.underlying53 rfl (by kernel_rfl)) rfl ?_
  exact ⟨_, _, _, enq, by first | exact Kd.R_nil _ _ _ _ _ | exact Kd.N_nil _ _ _ _ _ | exact Kd.V_nil _ _ _ _ _ | exact Kd.Q_nil _ _ _ _ _ | exact Kd.S_nil _ _ _ _ _, by first | exact Kd.R_nil _ _ _ _ _ | exact Kd.N_nil _ _ _ _ _ | exact Kd.V_nil _ _ _ _ _ | exact Kd.Q_nil _ _ _ _ _ | exact Kd.S_nil _ _ _ _ _, by first | exact Kd.S_nil _ _ _ _ _ | exact Kd.N_nil _ _ _ _ _ | exact Kd.V_nil _ _ _ _ _ | exact Kd.Q_nil _ _ _ _ _ | exact Kd.R_nil _ _ _ _ _, bnx⟩

end Go.Proofs.Ythehhncokikgcaa.PFnExactPartOf
