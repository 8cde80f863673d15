-- Contracts of the functions that the law reaches, written by wip/xprint.py of this repo.
import Derived.Test.YthehhncokikgcaaPFnExactMakeFramex0
import Derived.Test.YthehhncokikgcaaPFnExactMakeFramex1
import Derived.Test.YthehhncokikgcaaPFnExactMakeFramex7
import Derived.Test.YthehhncokikgcaaPFnExactMakeFramex8
import Derived.Test.YthehhncokikgcaaPFnExactMakeFramex9
import Derived.Test.YthehhncokikgcaaPFnExactMakeFramex10
import Derived.Test.YthehhncokikgcaaPFnExactMakeFramex11
import Derived.Test.YthehhncokikgcaaPFnExactMakeFramex12
namespace Go.Proofs.Ythehhncokikgcaa.PFnExactMakeFrame
open Go.RowKit Go.Proofs.YthehhncokikgcaaW.PrintWords Go.Proofs.YthehhncokikgcaaW.PrintLast Go.Proofs.YthehhncokikgcaaW.PrintMore
attribute [local go_sem] max2_int min2_int max_two min_two max_three min_three max_four min_four   -- for this text's walks alone
set_option linter.unusedVariables false
set_option linter.unusedSimpArgs false

/-! ### impl_MakeFrame: function 43 -/
mutual
def impl_MakeFrame.j0 : Nat → Int → Int → List Int → Int → Int → Int → Option (Int × Int × Int × Int × Int × Int × List Int × List Int × (List (List Int)))
 | 0, _, _, _, _, _, _ => none
 | k + 1, x0, x1, x2, x3, x4, x11 => if x11 = 0 then ((impl_maskOf.f k x2).bind fun t394 => (if 0 ≤ (wrap64 (Int.tdiv x0 2)) then (if (wrap64 (Int.tdiv x0 2)) ≤ (x2.length : Int) then (impl_MakeFrame.l0 k x0 x2 x3 (x2.take ((wrap64 (Int.tdiv x0 2)) : Int).toNat) ((x2.take ((wrap64 (Int.tdiv x0 2)) : Int).toNat).length : Int) 0 x1 x0 x3 t394 x4 ([] : List Int)) else (none)) else (none))) else (some (x11, 0, 0, 0, 0, 0, ([] : List Int), ([] : List Int), ([] : List (List Int))))
def impl_MakeFrame.l0 : Nat → Int → List Int → Int → List Int → Int → Int → Int → Int → Int → Int → Int → List Int → Option (Int × Int × Int × Int × Int × Int × List Int × List Int × (List (List Int)))
 | 0, _, _, _, _, _, _, _, _, _, _, _, _ => none
 | k + 1, x0, x2, x3, x50, x51, x52, x396000, x396001, x396002, x396003, x396004, x396005 => if x52 < x51 then (if 0 ≤ x52 then (if x52 < (x50.length : Int) then ((impl_stepOf.f x3).bind fun t398 => ((impl_roundDiv.f k (rd x50 x52) t398).bind fun t399 => (if x396005.length < 17592186044416 then (impl_MakeFrame.l0 k x0 x2 x3 x50 x51 (wrap64 (x52 + 1)) x396000 x396001 x396002 x396003 x396004 (x396005 ++ [t399])) else (none)))) else (none)) else (none)) else ((impl_bandsOf.f x0).bind fun t403 => (impl_MakeFrame.l1 k x2 x3 t403 (t403.length : Int) 0 x396000 x396001 x396002 x396003 x396004 x396005 ([] : List Int) ([] : List (List Int))))
def impl_MakeFrame.l1 : Nat → List Int → Int → List (S93) → Int → Int → Int → Int → Int → Int → Int → List Int → List Int → List (List Int) → Option (Int × Int × Int × Int × Int × Int × List Int × List Int × (List (List Int)))
 | 0, _, _, _, _, _, _, _, _, _, _, _, _, _ => none
 | k + 1, x2, x3, x67, x68, x69, x396000, x396001, x396002, x396003, x396004, x396005, x396006, x396007 => if x69 < x68 then (if 0 ≤ x69 then (if x69 < (x67.length : Int) then (if 0 ≤ ((rd_T93 x67 x69).f0) then (if ((rd_T93 x67 x69).f0) ≤ (wrap64 (((rd_T93 x67 x69).f0) + ((rd_T93 x67 x69).f1))) then (if (wrap64 (((rd_T93 x67 x69).f0) + ((rd_T93 x67 x69).f1))) ≤ (x2.length : Int) then ((impl_Band_of_any.f ((rd_T93 x67 x69).f0) ((rd_T93 x67 x69).f1)).bind fun t410 => ((impl_normOf.f k ((x2.take (wrap64 (((rd_T93 x67 x69).f0) + ((rd_T93 x67 x69).f1))).toNat).drop ((rd_T93 x67 x69).f0).toNat)).bind fun t411 => ((impl_gainRung.f x3 x396003).bind fun t412 => ((impl_stepOf.f t412).bind fun t413 => ((impl_roundDiv.f k t411 t413).bind fun t414 => (if x396006.length < 17592186044416 then ((impl_Band_of_any.f ((rd_T93 x67 x69).f0) ((rd_T93 x67 x69).f1)).bind fun t419 => ((impl_pulsesFor.f x396003).bind fun t420 => ((impl_searchPulses.f ((x2.take (wrap64 (((rd_T93 x67 x69).f0) + ((rd_T93 x67 x69).f1))).toNat).drop ((rd_T93 x67 x69).f0).toNat) t420).bind fun t421 => (if x396007.length < 5864062014805 then (impl_MakeFrame.l1 k x2 x3 x67 x68 (wrap64 (x69 + 1)) x396000 x396001 x396002 x396003 x396004 x396005 (x396006 ++ [t414]) (x396007 ++ [t421])) else (none))))) else (none))))))) else (none)) else (none)) else (none)) else (none)) else (none)) else ((impl_FrameFault.f k x396000 x396001 x396002 x396003 x396004 x396005 x396006 x396007).bind fun t406 => (if t406 = 0 then (some (0, x396000, x396001, x396002, x396003, x396004, x396005, x396006, x396007)) else (some (t406, 0, 0, 0, 0, 0, ([] : List Int), ([] : List Int), ([] : List (List Int))))))
end
def impl_MakeFrame.f (k : Nat) (a0 : Int) (a1 : Int) (l2 : List Int) (a3 : Int) (a4 : Int) : Option (Int × Int × Int × Int × Int × Int × List Int × List Int × (List (List Int))) := (impl_isNumber.f a1).bind fun t379 => ((impl_codeIf.f (!t379) 3).bind fun t380 => ((impl_coefsFault.f k a0 l2).bind fun t381 => ((impl_isRung.f a3).bind fun t382 => (if t382 = true then ((impl_isSpread.f a4).bind fun t383 => ((impl_codeIf.f (!t383) 3).bind fun t384 => ((impl_first.f k (([t380, t381, t384] : List Int))).bind fun t388 => (impl_MakeFrame.j0 k a0 a1 l2 a3 a4 t388)))) else ((impl_codeIf.f true 3).bind fun t389 => ((impl_first.f k (([t380, t381, t389] : List Int))).bind fun t393 => (impl_MakeFrame.j0 k a0 a1 l2 a3 a4 t393)))))))
theorem impl_MakeFrame.mono_l : ∀ k, (∀ y0 y1 y2 y3 y4 y5, LeO (impl_MakeFrame.j0 k y0 y1 y2 y3 y4 y5) (impl_MakeFrame.j0 (k + 1) y0 y1 y2 y3 y4 y5)) ∧ (∀ y0 y1 y2 y3 y4 y5 y6 y7 y8 y9 y10 y11, LeO (impl_MakeFrame.l0 k y0 y1 y2 y3 y4 y5 y6 y7 y8 y9 y10 y11) (impl_MakeFrame.l0 (k + 1) y0 y1 y2 y3 y4 y5 y6 y7 y8 y9 y10 y11)) ∧ (∀ y0 y1 y2 y3 y4 y5 y6 y7 y8 y9 y10 y11 y12, LeO (impl_MakeFrame.l1 k y0 y1 y2 y3 y4 y5 y6 y7 y8 y9 y10 y11 y12) (impl_MakeFrame.l1 (k + 1) y0 y1 y2 y3 y4 y5 y6 y7 y8 y9 y10 y11 y12))
 | 0 => ⟨fun _ _ _ _ _ _ r h => by simp [impl_MakeFrame.j0] at h, fun _ _ _ _ _ _ _ _ _ _ _ _ r h => by simp [impl_MakeFrame.l0] at h, fun _ _ _ _ _ _ _ _ _ _ _ _ _ r h => by simp [impl_MakeFrame.l1] at h⟩
 | k + 1 => by
  obtain ⟨ih0, ih1, ih2⟩ := impl_MakeFrame.mono_l k
  refine ⟨?_, ?_, ?_⟩
  ·intro y0 y1 y2 y3 y4 y5
   unfold impl_MakeFrame.j0
   repeat' first
   | (with_reducible exact ih0 _ _ _ _ _ _)
   | (with_reducible exact ih1 _ _ _ _ _ _ _ _ _ _ _ _)
   | (with_reducible exact ih2 _ _ _ _ _ _ _ _ _ _ _ _ _)
   | (with_reducible exact impl_FrameFault.mono _ _ _ _ _ _ _ _ _)
   | (with_reducible exact impl_coefsFault.mono _ _ _)
   | (with_reducible exact impl_first.mono _ _)
   | (with_reducible exact impl_maskOf.mono _ _)
   | (with_reducible exact impl_normOf.mono _ _)
   | (with_reducible exact impl_roundDiv.mono _ _ _)
   | (with_reducible exact LeO.refl _)
   | (with_reducible exact LeO.none _)
   | (with_reducible refine LeO.ite ?_ ?_)
   | (with_reducible refine LeO.bind ?_ (fun _ => ?_))
   | exact ih0 _ _ _ _ _ _
   | exact ih1 _ _ _ _ _ _ _ _ _ _ _ _
   | exact ih2 _ _ _ _ _ _ _ _ _ _ _ _ _
   | exact impl_FrameFault.mono _ _ _ _ _ _ _ _ _
   | exact impl_coefsFault.mono _ _ _
   | exact impl_first.mono _ _
   | exact impl_maskOf.mono _ _
   | exact impl_normOf.mono _ _
   | exact impl_roundDiv.mono _ _ _
   | exact LeO.none _
   | refine LeO.ite ?_ ?_
   | refine LeO.bind ?_ (fun _ => ?_)
  ·intro y0 y1 y2 y3 y4 y5 y6 y7 y8 y9 y10 y11
   unfold impl_MakeFrame.l0
   repeat' first
   | (with_reducible exact ih0 _ _ _ _ _ _)
   | (with_reducible exact ih1 _ _ _ _ _ _ _ _ _ _ _ _)
   | (with_reducible exact ih2 _ _ _ _ _ _ _ _ _ _ _ _ _)
   | (with_reducible exact impl_FrameFault.mono _ _ _ _ _ _ _ _ _)
   | (with_reducible exact impl_coefsFault.mono _ _ _)
   | (with_reducible exact impl_first.mono _ _)
   | (with_reducible exact impl_maskOf.mono _ _)
   | (with_reducible exact impl_normOf.mono _ _)
   | (with_reducible exact impl_roundDiv.mono _ _ _)
   | (with_reducible exact LeO.refl _)
   | (with_reducible exact LeO.none _)
   | (with_reducible refine LeO.ite ?_ ?_)
   | (with_reducible refine LeO.bind ?_ (fun _ => ?_))
   | exact ih0 _ _ _ _ _ _
   | exact ih1 _ _ _ _ _ _ _ _ _ _ _ _
   | exact ih2 _ _ _ _ _ _ _ _ _ _ _ _ _
   | exact impl_FrameFault.mono _ _ _ _ _ _ _ _ _
   | exact impl_coefsFault.mono _ _ _
   | exact impl_first.mono _ _
   | exact impl_maskOf.mono _ _
   | exact impl_normOf.mono _ _
   | exact impl_roundDiv.mono _ _ _
   | exact LeO.none _
   | refine LeO.ite ?_ ?_
   | refine LeO.bind ?_ (fun _ => ?_)
  ·intro y0 y1 y2 y3 y4 y5 y6 y7 y8 y9 y10 y11 y12
   unfold impl_MakeFrame.l1
   repeat' first
   | (with_reducible exact ih0 _ _ _ _ _ _)
   | (with_reducible exact ih1 _ _ _ _ _ _ _ _ _ _ _ _)
   | (with_reducible exact ih2 _ _ _ _ _ _ _ _ _ _ _ _ _)
   | (with_reducible exact impl_FrameFault.mono _ _ _ _ _ _ _ _ _)
   | (with_reducible exact impl_coefsFault.mono _ _ _)
   | (with_reducible exact impl_first.mono _ _)
   | (with_reducible exact impl_maskOf.mono _ _)
   | (with_reducible exact impl_normOf.mono _ _)
   | (with_reducible exact impl_roundDiv.mono _ _ _)
   | (with_reducible exact LeO.refl _)
   | (with_reducible exact LeO.none _)
   | (with_reducible refine LeO.ite ?_ ?_)
   | (with_reducible refine LeO.bind ?_ (fun _ => ?_))
   | exact ih0 _ _ _ _ _ _
   | exact ih1 _ _ _ _ _ _ _ _ _ _ _ _
   | exact ih2 _ _ _ _ _ _ _ _ _ _ _ _ _
   | exact impl_FrameFault.mono _ _ _ _ _ _ _ _ _
   | exact impl_coefsFault.mono _ _ _
   | exact impl_first.mono _ _
   | exact impl_maskOf.mono _ _
   | exact impl_normOf.mono _ _
   | exact impl_roundDiv.mono _ _ _
   | exact LeO.none _
   | refine LeO.ite ?_ ?_
   | refine LeO.bind ?_ (fun _ => ?_)
theorem impl_MakeFrame.mono : ∀ a0 a1 a2 a3 a4 k, LeO (impl_MakeFrame.f k a0 a1 a2 a3 a4) (impl_MakeFrame.f (k + 1) a0 a1 a2 a3 a4) := by
 intro a0 a1 a2 a3 a4 k
 obtain ⟨ih0, ih1, ih2⟩ := impl_MakeFrame.mono_l k
 unfold impl_MakeFrame.f
 repeat' first
   | (with_reducible exact ih0 _ _ _ _ _ _)
   | (with_reducible exact ih1 _ _ _ _ _ _ _ _ _ _ _ _)
   | (with_reducible exact ih2 _ _ _ _ _ _ _ _ _ _ _ _ _)
   | (with_reducible exact impl_FrameFault.mono _ _ _ _ _ _ _ _ _)
   | (with_reducible exact impl_coefsFault.mono _ _ _)
   | (with_reducible exact impl_first.mono _ _)
   | (with_reducible exact impl_maskOf.mono _ _)
   | (with_reducible exact impl_normOf.mono _ _)
   | (with_reducible exact impl_roundDiv.mono _ _ _)
   | (with_reducible exact LeO.refl _)
   | (with_reducible exact LeO.none _)
   | (with_reducible refine LeO.ite ?_ ?_)
   | (with_reducible refine LeO.bind ?_ (fun _ => ?_))
   | exact ih0 _ _ _ _ _ _
   | exact ih1 _ _ _ _ _ _ _ _ _ _ _ _
   | exact ih2 _ _ _ _ _ _ _ _ _ _ _ _ _
   | exact impl_FrameFault.mono _ _ _ _ _ _ _ _ _
   | exact impl_coefsFault.mono _ _ _
   | exact impl_first.mono _ _
   | exact impl_maskOf.mono _ _
   | exact impl_normOf.mono _ _
   | exact impl_roundDiv.mono _ _ _
   | exact LeO.none _
   | refine LeO.ite ?_ ?_
   | refine LeO.bind ?_ (fun _ => ?_)
def impl_MakeFrame.T8 : Bool × List (List Nat × List Nat) := (true, [([], []), ([0], [0]), ([], []), ([], []), ([3], [3]), ([2, 4, 4], [2, 4]), ([5], [5]), ([1, 6, 5], [1, 6]), ([0, 1, 2, 3, 4, 5, 6, 7], []), ([8, 7, 7, 0, 1, 2, 3, 4, 5, 6, 7], [7, 8])])
def impl_MakeFrame.B8 : List Nat := [0, 1, 0, 0, 8, 28, 60, 127, 255, 511]
theorem impl_MakeFrame.tab8 : rtab .any (opsOf Try.f43 8) = impl_MakeFrame.T8 := by kernel_rfl
theorem impl_MakeFrame.bits8 : waitsOk impl_MakeFrame.T8.2 impl_MakeFrame.B8 = true := by kernel_rfl
def impl_MakeFrame.T13 : Bool × List (List Nat × List Nat) := (true, [([], []), ([0], [0]), ([], []), ([], []), ([2, 3], [2, 3]), ([4, 4], [4]), ([], []), ([], []), ([7], [7]), ([6, 8, 5], [6, 8]), ([9, 9], [9]), ([5, 10, 10], [5, 10]), ([11], [11]), ([1, 12, 11], [1, 12]), ([0, 1, 2, 3, 4, 5, 6, 7, 8, 9, 10, 11, 12, 13], []), ([14, 13, 13, 0, 1, 2, 3, 4, 5, 6, 7, 8, 9, 10, 11, 12, 13], [13, 14])])
def impl_MakeFrame.B13 : List Nat := [0, 1, 0, 0, 12, 28, 0, 0, 128, 508, 1020, 2044, 4092, 8191, 16383, 32767]
theorem impl_MakeFrame.tab13 : rtab .any (opsOf Try.f43 13) = impl_MakeFrame.T13 := by kernel_rfl
theorem impl_MakeFrame.bits13 : waitsOk impl_MakeFrame.T13.2 impl_MakeFrame.B13 = true := by kernel_rfl
def impl_MakeFrame.T14 : Bool × List (List Nat × List Nat) := (true, [([], []), ([0], [0]), ([], []), ([], []), ([2, 3], [2, 3]), ([], []), ([5], [5]), ([6, 4], [6]), ([4, 7, 7], [4, 7]), ([8], [8]), ([1, 9, 8], [1, 9]), ([0, 1, 2, 3, 4, 5, 6, 7, 8, 9, 10], []), ([11, 10, 10, 0, 1, 2, 3, 4, 5, 6, 7, 8, 9, 10], [10, 11])])
def impl_MakeFrame.B14 : List Nat := [0, 1, 0, 0, 12, 0, 32, 124, 252, 508, 1023, 2047, 4095]
theorem impl_MakeFrame.tab14 : rtab .any (opsOf Try.f43 14) = impl_MakeFrame.T14 := by kernel_rfl
theorem impl_MakeFrame.bits14 : waitsOk impl_MakeFrame.T14.2 impl_MakeFrame.B14 = true := by kernel_rfl
set_option maxHeartbeats 8000000 in
set_option maxRecDepth 100000 in
theorem impl_MakeFrame.calls (k : Nat) (a0 : Int) (a1 : Int) (A2 : Option Addr) (c2 : Nat) (l2 : List Int) (a3 : Int) (a4 : Int) (r1 : Int) (r2 : Int) (r3 : Int) (r4 : Int) (r5 : Int) (r6 : Int) (r7 : List Int) (r8 : List Int) (r9 : List (List Int)) (w : World) (hr2 : Kd.C (Kd.int .i64) w A2 l2.length l2) (hc2 : l2.length ≤ c2) (h : impl_MakeFrame.f k a0 a1 l2 a3 a4 = some (r1, r2, r3, r4, r5, r6, r7, r8, r9)) :
  Calls Try.prog 43 #[.int .i64 a0, .int .i64 a1, .slice A2 l2.length c2, .int .i64 a3, .int .i64 a4] w fun e w' => ∃ v6_ v7_ v8_ : Value, e = .returned (.agg #[.int .i64 r1, .int .i64 r2, .int .i64 r3, .int .i64 r4, .int .i64 r5, .int .i64 r6, v6_, v7_, v8_]) ∧ Kd.R (Kd.int .i64) 2 w' w.heap.size (fun k_ => some k_ ≠ (v7_ : Value).ownBlock) v6_ r7 ∧ Kd.R (Kd.int .i64) 2 w' w.heap.size (fun k_ => some k_ ≠ (v6_ : Value).ownBlock) v7_ r8 ∧ Kd.S (Kd.slice 2 (Kd.int .i64)) 24 w' w.heap.size (fun k_ => some k_ ≠ (v6_ : Value).ownBlock ∧ some k_ ≠ (v7_ : Value).ownBlock) v8_ r9 ∧ Below w.heap.size w w' := by
 have hu59 := Try.underlying59
 have hu36 := Try.underlying36
 have hu93 := Try.underlying93
 have HR2 := Aside0.mk hr2
 have HC2 := Aside0.mk hc2
 clear hr2 hc2
 have HB := Aside0.mk (Below.refl w.heap.size w)
 have H : ((impl_isNumber.f a1).bind fun t379 => ((impl_codeIf.f (!t379) 3).bind fun t380 => ((impl_coefsFault.f k a0 l2).bind fun t381 => ((impl_isRung.f a3).bind fun t382 => (if t382 = true then ((impl_isSpread.f a4).bind fun t383 => ((impl_codeIf.f (!t383) 3).bind fun t384 => ((impl_first.f k (([t380, t381, t384] : List Int))).bind fun t388 => (impl_MakeFrame.j0 k a0 a1 l2 a3 a4 t388)))) else ((impl_codeIf.f true 3).bind fun t389 => ((impl_first.f k (([t380, t381, t389] : List Int))).bind fun t393 => (impl_MakeFrame.j0 k a0 a1 l2 a3 a4 t393)))))))) = some (r1, r2, r3, r4, r5, r6, r7, r8, r9) := h
 clear h
 have HC6 := Aside0.mk H
 clear H
 go_enter Try.func43, Try.ntmps43
 go_upto_region 1 with (first | ((with_reducible refine gate_dst (N := 10) rfl ?_); refine bev 10 59 #[.int .i64 0, .int .i64 0, .int .i64 0, .int .i64 0, .int .i64 0, .int .i64 0, .slice none 0 0, .slice none 0 0, .slice none 0 0] ?_; intro gb378 hg w7 hbox hb; have BK378 := am hbox; have GW378 := gwe hg; have GE378 := gwe hg; replace HB := hbs hb; clear hb hbox hg))
 (try simp only [Act.put, List.setIfInBounds_toArray, List.set_cons_zero, List.set_cons_succ])
 go_cut [11] (fun v11 wc => ∃ (kq : Nat) (x11_5 : Int), v11 = .int .i64 x11_5 ∧ Aside0 (impl_MakeFrame.j0 kq a0 a1 l2 a3 a4 x11_5 = some (r1, r2, r3, r4, r5, r6, r7, r8, r9)) ∧ Aside0 (kq ≤ k) ∧ Aside0 (wc.heap[gb378]? = some (.cells #[.int .i64 0, .int .i64 0, .int .i64 0, .int .i64 0, .int .i64 0, .int .i64 0, (.slice none 0 0), (.slice none 0 0), (.slice none 0 0)] 59 (0, 0))) ∧ Aside0 (Below w.heap.size w wc))
 case first =>
  have H := HC6.out
  clear HC6
  replace H := bnd H
  obtain ⟨t379, A8, H⟩ := H
  replace H := bnd H
  obtain ⟨t380, A9, H⟩ := H
  replace H := bnd H
  obtain ⟨t381, A10, H⟩ := H
  replace H := bnd H
  obtain ⟨t382, A11, H⟩ := H
  by_cases c12 : t382 = true
  ·subst c12
   replace H : ((impl_isSpread.f a4).bind fun t383 => ((impl_codeIf.f (!t383) 3).bind fun t384 => ((impl_first.f k (([t380, t381, t384] : List Int))).bind fun t388 => (impl_MakeFrame.j0 k a0 a1 l2 a3 a4 t388)))) = some (r1, r2, r3, r4, r5, r6, r7, r8, r9) := by rw [if_pos rfl] at H; exact H
   replace H := bnd H
   obtain ⟨t383, A13, H⟩ := H
   replace H := bnd H
   obtain ⟨t384, A14, H⟩ := H
   obtain ⟨y385, hy385⟩ : ∃ y_ : List Int, y_ = (([t380, t381, t384] : List Int)) := ⟨_, rfl⟩
   replace H : ((impl_first.f k y385).bind fun t388 => (impl_MakeFrame.j0 k a0 a1 l2 a3 a4 t388)) = some (r1, r2, r3, r4, r5, r6, r7, r8, r9) := by first | (rw [hy385]; with_reducible exact H) | (have H2_ := (Option.bind_some _ _).symm.trans H; rw [hy385]; with_reducible exact H2_) | (have H2_ := (Option.bind_some _ _).symm.trans H; with_reducible exact H2_) | with_reducible exact H | (rw [hy385]; exact H) | exact H
   have Ny385 := Aside0.mk hy385
   clear hy385
   replace H := bnd H
   obtain ⟨t388, A15, H⟩ := H
   have H' := Aside0.mk H
   clear H
   go_wp2_with (first | ((with_reducible refine gate_callee (f := 109) rfl ?_); refine gl_ 19 Try.func109 #[.int .i64 a1] ?_; (with_reducible refine (impl_isNumber.calls a1 t379 _ A8.out).mono ?_); rintro e w' ⟨rfl, ⟨nd, rfl⟩⟩; refine ⟨_, rfl, ?_⟩) | ((with_reducible refine gate_callee (f := 99) rfl ?_); refine gl_ 21 Try.func99 #[.bool (!t379), .int .i64 3] ?_; (with_reducible refine (impl_codeIf.calls (!t379) 3 t380 _ A9.out).mono ?_); rintro e w' ⟨rfl, ⟨nd, rfl⟩⟩; refine ⟨_, rfl, ?_⟩) | ((with_reducible refine gate_callee (f := 110) rfl ?_); refine gl_ 24 Try.func110 #[.int .i64 a0, .slice A2 l2.length c2] ?_; (with_reducible refine (impl_coefsFault.calls k a0 _ _ l2 t381 _ ?side1 ?side2 A10.out).mono ?_); (case side1 => repeat (first | exact (Kd.C_below HR2.out bnx) | (with_reducible refine Kd.C_alloc ?_ _) | (with_reducible refine Kd.C_drewN ?_ _) | (with_reducible refine Kd.C_drew ?_))); (case side2 => exact HC2.out); rintro e w16 ⟨rfl, hb⟩; refine ⟨_, rfl, ?_⟩; replace BK378 := bkb BK378 hb; replace HB := hbs hb; (try clear hb)) | ((with_reducible refine gate_callee (f := 111) rfl ?_); refine gl_ 26 Try.func111 #[.int .i64 a3] ?_; (with_reducible refine (impl_isRung.calls a3 true _ A11.out).mono ?_); rintro e w' ⟨rfl, ⟨nd, rfl⟩⟩; refine ⟨_, rfl, ?_⟩) | (go_at_call 112; (with_reducible refine (impl_isSpread.calls a4 t383 _ A13.out).mono ?_); rintro e w' ⟨rfl, ⟨nd, rfl⟩⟩) | ((with_reducible refine gate_callee (f := 99) rfl ?_); refine gl_ 33 Try.func99 #[.bool (!t383), .int .i64 3] ?_; (with_reducible refine (impl_codeIf.calls (!t383) 3 t384 _ A14.out).mono ?_); rintro e w' ⟨rfl, ⟨nd, rfl⟩⟩; refine ⟨_, rfl, ?_⟩) | ((with_reducible refine gate_dst (N := 34) rfl ?_); refine Kd.R_lit (Kd.int .i64) _ 2 ?hg (N := 34) ?hd (xs := ([t380, t381, t384] : List Int)) (inner := [.int .i64 t380, .int .i64 t381, .int .i64 t384]) (ok := fun _ => True) (okp := fun _ => True) ?hr ?hp (fun _ hk => hk) trivial (Below.refl _ _) (Nat.le_refl _) (by simp) ?_; (case hd => rfl); (case hg => rfl); (case hr => first | (go_simp; done) | (go_simp; rfl)); (case hp => exact (Reps.one (show Kd.M (Kd.int .i64) _ _ _ t380 [.int .i64 t380] from rfl) (Reps.one (show Kd.M (Kd.int .i64) _ _ _ t381 [.int .i64 t381] from rfl) (Reps.one (show Kd.M (Kd.int .i64) _ _ _ t384 [.int .i64 t384] from rfl) (Reps.none _ _))))); intro v386 w17 ho18 hb hg_ hnew_; clear hg_ hnew_; (first | rw [← Ny385.out] at ho18 | (simp only [Int.reduceToNat] at ho18; rw [← Ny385.out] at ho18)); have HO387 := rlw ho18; replace BK378 := bkb BK378 hb; replace HB := hbs hb; clear hb ho18; obtain ⟨Ao19, co19, eo19⟩ := Kd.R_slice HO387.out; subst eo19) | ((with_reducible refine gate_callee (f := 98) rfl ?_); refine gl_ 35 Try.func98 #[.slice Ao19 y385.length co19] ?_; (with_reducible refine (impl_first.calls k _ _ y385 t388 _ ?_ ?_ A15.out).mono ?_); exact crd HO387; exact (Kd.R_reads' HO387.out).2.1; rintro e w' ⟨rfl, ⟨nd, rfl⟩⟩; refine ⟨_, rfl, ?_⟩))
   go_meet
   case rel => exact ⟨_, (t388), rq, H', ⟨by first | omega | exact Nat.le_refl _⟩, ⟨bpl BK378.out⟩, ⟨bnx⟩⟩
  ·replace c12 := Bool.eq_false_iff.mpr c12
   subst c12
   replace H : ((impl_codeIf.f true 3).bind fun t389 => ((impl_first.f k (([t380, t381, t389] : List Int))).bind fun t393 => (impl_MakeFrame.j0 k a0 a1 l2 a3 a4 t393))) = some (r1, r2, r3, r4, r5, r6, r7, r8, r9) := by rw [if_neg (show ¬ (false = true) by decide)] at H; exact H
   replace H := bnd H
   obtain ⟨t389, A20, H⟩ := H
   obtain ⟨y390, hy390⟩ : ∃ y_ : List Int, y_ = (([t380, t381, t389] : List Int)) := ⟨_, rfl⟩
   replace H : ((impl_first.f k y390).bind fun t393 => (impl_MakeFrame.j0 k a0 a1 l2 a3 a4 t393)) = some (r1, r2, r3, r4, r5, r6, r7, r8, r9) := by first | (rw [hy390]; with_reducible exact H) | (have H2_ := (Option.bind_some _ _).symm.trans H; rw [hy390]; with_reducible exact H2_) | (have H2_ := (Option.bind_some _ _).symm.trans H; with_reducible exact H2_) | with_reducible exact H | (rw [hy390]; exact H) | exact H
   have Ny390 := Aside0.mk hy390
   clear hy390
   replace H := bnd H
   obtain ⟨t393, A21, H⟩ := H
   have H' := Aside0.mk H
   clear H
   go_wp2_with (first | ((with_reducible refine gate_callee (f := 109) rfl ?_); refine gl_ 19 Try.func109 #[.int .i64 a1] ?_; (with_reducible refine (impl_isNumber.calls a1 t379 _ A8.out).mono ?_); rintro e w' ⟨rfl, ⟨nd, rfl⟩⟩; refine ⟨_, rfl, ?_⟩) | ((with_reducible refine gate_callee (f := 99) rfl ?_); refine gl_ 21 Try.func99 #[.bool (!t379), .int .i64 3] ?_; (with_reducible refine (impl_codeIf.calls (!t379) 3 t380 _ A9.out).mono ?_); rintro e w' ⟨rfl, ⟨nd, rfl⟩⟩; refine ⟨_, rfl, ?_⟩) | ((with_reducible refine gate_callee (f := 110) rfl ?_); refine gl_ 24 Try.func110 #[.int .i64 a0, .slice A2 l2.length c2] ?_; (with_reducible refine (impl_coefsFault.calls k a0 _ _ l2 t381 _ ?side1 ?side2 A10.out).mono ?_); (case side1 => repeat (first | exact (Kd.C_below HR2.out bnx) | (with_reducible refine Kd.C_alloc ?_ _) | (with_reducible refine Kd.C_drewN ?_ _) | (with_reducible refine Kd.C_drew ?_))); (case side2 => exact HC2.out); rintro e w22 ⟨rfl, hb⟩; refine ⟨_, rfl, ?_⟩; replace BK378 := bkb BK378 hb; replace HB := hbs hb; (try clear hb)) | ((with_reducible refine gate_callee (f := 111) rfl ?_); refine gl_ 26 Try.func111 #[.int .i64 a3] ?_; (with_reducible refine (impl_isRung.calls a3 false _ A11.out).mono ?_); rintro e w' ⟨rfl, ⟨nd, rfl⟩⟩; refine ⟨_, rfl, ?_⟩) | ((with_reducible refine gate_callee (f := 99) rfl ?_); refine gl_ 33 Try.func99 #[.bool true, .int .i64 3] ?_; (with_reducible refine (impl_codeIf.calls true 3 t389 _ A20.out).mono ?_); rintro e w' ⟨rfl, ⟨nd, rfl⟩⟩; refine ⟨_, rfl, ?_⟩) | ((with_reducible refine gate_dst (N := 34) rfl ?_); refine Kd.R_lit (Kd.int .i64) _ 2 ?hg (N := 34) ?hd (xs := ([t380, t381, t389] : List Int)) (inner := [.int .i64 t380, .int .i64 t381, .int .i64 t389]) (ok := fun _ => True) (okp := fun _ => True) ?hr ?hp (fun _ hk => hk) trivial (Below.refl _ _) (Nat.le_refl _) (by simp) ?_; (case hd => rfl); (case hg => rfl); (case hr => first | (go_simp; done) | (go_simp; rfl)); (case hp => exact (Reps.one (show Kd.M (Kd.int .i64) _ _ _ t380 [.int .i64 t380] from rfl) (Reps.one (show Kd.M (Kd.int .i64) _ _ _ t381 [.int .i64 t381] from rfl) (Reps.one (show Kd.M (Kd.int .i64) _ _ _ t389 [.int .i64 t389] from rfl) (Reps.none _ _))))); intro v391 w23 ho24 hb hg_ hnew_; clear hg_ hnew_; (first | rw [← Ny390.out] at ho24 | (simp only [Int.reduceToNat] at ho24; rw [← Ny390.out] at ho24)); have HO392 := rlw ho24; replace BK378 := bkb BK378 hb; replace HB := hbs hb; clear hb ho24; obtain ⟨Ao25, co25, eo25⟩ := Kd.R_slice HO392.out; subst eo25) | ((with_reducible refine gate_callee (f := 98) rfl ?_); refine gl_ 35 Try.func98 #[.slice Ao25 y390.length co25] ?_; (with_reducible refine (impl_first.calls k _ _ y390 t393 _ ?_ ?_ A21.out).mono ?_); exact crd HO392; exact (Kd.R_reads' HO392.out).2.1; rintro e w' ⟨rfl, ⟨nd, rfl⟩⟩; refine ⟨_, rfl, ?_⟩))
   go_meet
   case rel => exact ⟨_, (t393), rq, H', ⟨by first | omega | exact Nat.le_refl _⟩, ⟨bpl BK378.out⟩, ⟨bnx⟩⟩
 case rest =>
  clear HC6
  try clear c1
  try clear c2
  try clear p2
  try clear c4
  try clear c9
  try clear c10
  try clear c11
  try clear c12
  obtain ⟨kq, x11_5, rfl, HA, HJ5, BK378, HB⟩ := hcut
  cases kq with
  | zero => exact absurd HA.out (by simp [impl_MakeFrame.j0])
  | succ kj5 =>
   have H := HA.out
   clear HA
   simp only [impl_MakeFrame.j0] at H
   by_cases c26 : x11_5 = 0
   ·rw [if_pos c26] at H
    have c26b0 : (x11_5 == 0) = true := beq_iff_eq.mpr c26
    have c26b1 : (x11_5 != 0) = false := bne_eq_false_iff_eq.mpr c26
    clear c26
    replace H := bnd H
    obtain ⟨t394, A27, H⟩ := H
    obtain ⟨ji28, hji28⟩ : ∃ j_ : Int, (wrap64 (Int.tdiv a0 2)) = j_ := ⟨_, rfl⟩
    replace H : (if 0 ≤ (ji28) then (if (ji28) ≤ (l2.length : Int) then (impl_MakeFrame.l0 kj5 a0 l2 a3 (l2.take ((ji28) : Int).toNat) ((l2.take ((ji28) : Int).toNat).length : Int) 0 a1 a0 a3 t394 a4 ([] : List Int)) else (none)) else (none)) = some (r1, r2, r3, r4, r5, r6, r7, r8, r9) := by first | (rw [hji28] at H; exact H) | (simp only [hji28] at H ⊢; exact H)
    (try rw [hji28] at A27)
    have hji28w : (IntKind.i64.wrap (Int.tdiv a0 2)) = ji28 := (i64_w _).trans hji28
    by_cases c29 : 0 ≤ (ji28)
    ·rw [if_pos c29] at H
     have c29b0 := eq_true c29
     have c29b1 : decide (0 ≤ (ji28)) = true := decide_eq_true c29
     clear c29
     by_cases c30 : (ji28) ≤ (l2.length : Int)
     ·rw [if_pos c30] at H
      have c30b0 := eq_true c30
      have c30b1 : decide ((ji28) ≤ (l2.length : Int)) = true := decide_eq_true c30
      have LCTl2ji28 := Aside0.mk (show ((l2.take ((ji28) : Int).toNat).length : Int) = max ji28 0 by rw [List.length_take]; omega)
      clear c30
      have H' := Aside0.mk H
      clear H
      go_wp2_with (first | ((with_reducible refine gate_callee (f := 113) rfl ?_); refine gl_ 44 Try.func113 #[.slice A2 l2.length c2] ?_; (with_reducible refine (impl_maskOf.calls kj5 _ _ l2 t394 _ ?_ ?_ A27.out).mono ?_); exact cpl HR2.out; exact HC2.out; rintro e w31 ⟨rfl, hb⟩; refine ⟨_, rfl, ?_⟩; replace BK378 := bkb BK378 hb; replace HB := hbs hb; (try clear hb)) | ((with_reducible refine gate_dst (N := 12) rfl ?_); refine bev 12 36 #[.int .i64 0, .int .i64 0, .int .i64 0, .int .i64 0, .int .i64 0, .slice none 0 0, .slice none 0 0, .slice none 0 0] ?_; intro gb395 hg w32 hbox hb; have BK395 := am hbox; have GW395 := gwe hg; have GE395 := gwe hg; replace HB := hbs hb; have NB378_395 := nbl hg BK378; have NB395_378 := nbg hg BK378; replace BK378 := bkb BK378 hb; clear hb hbox hg; have hnb33 := NB395_378.out; have hnc33 := NB378_395.out; obtain ⟨hcz34_0, hcz34_1, hcz34_2, hcz34_3, hcz34_4, hcz34_5, hcz34_6, hcz34_7, hfz34_0, hfz34_1, hfz34_2, hfz34_3, hfz34_4, hfz34_5, hfz34_6, hfz34_7⟩ := cf8 (W := w32) BK395.out; obtain ⟨i035, hi035, _, hsz35, _⟩ := info_parts info2; obtain ⟨hcut35, hA35, hC35⟩ := print_take_of (P := Try.prog) (Value.int .i64) 0 24 2 .i64 Try.underlying24 hi035 hsz35 A2 c2 l2 (ji28) (dta) (dta) HC2.out; have HR396 := Aside0.mk (Kd.C_of_reads (h1 := fun _ => rfl) (hA35 _ (Kd.reads_of_C HR2.out))); have HC396 := Aside0.mk hC35; clear hA35 hC35 hi035 hsz35))
      go_loopg [52] kj5 (fun kq v52 w' => ∃ (x52_2 : Int) (x396005_2 : List Int) (u396005 : Value), v52 = .int .i64 x52_2 ∧ Aside0 (impl_MakeFrame.l0 kq a0 l2 a3 (l2.take ((ji28) : Int).toNat) ((l2.take ((ji28) : Int).toNat).length : Int) x52_2 a1 a0 a3 t394 a4 x396005_2 = some (r1, r2, r3, r4, r5, r6, r7, r8, r9)) ∧ Aside0 (kq ≤ kj5) ∧ Aside0 (Kd.R (Kd.int .i64) 2 w' w.heap.size (fun _ => True) u396005 x396005_2) ∧ Aside0 (w'.heap[gb378]? = some (.cells #[.int .i64 0, .int .i64 0, .int .i64 0, .int .i64 0, .int .i64 0, .int .i64 0, (.slice none 0 0), (.slice none 0 0), (.slice none 0 0)] 59 (0, 0))) ∧ Aside0 (w'.heap[gb395]? = some (.cells #[.int .i64 a1, .int .i64 a0, .int .i64 a3, .int .i64 t394, .int .i64 a4, u396005, (.slice none 0 0), (.slice none 0 0)] 36 (0, 0))) ∧ Aside0 (Below w.heap.size w w'))
      case atStart => exact ⟨(0), (([] : List Int)), (.slice none 0 0), rq, H', ⟨Nat.le_refl _⟩, ⟨by first | exact Kd.R_nil _ _ _ _ _ | exact Kd.N_nil _ _ _ _ _ | exact Kd.V_nil _ _ _ _ _ | exact Kd.Q_nil _ _ _ _ _ | exact Kd.S_nil _ _ _ _ _⟩, ⟨by (with_reducible repeat (first | refine blk_drewN ?_ _ | refine blk_drew ?_ | refine blk_alloc ?_ _)); refine blk_far ?_ NB378_395.out _; (with_reducible repeat (first | refine blk_drewN ?_ _ | refine blk_drew ?_ | refine blk_alloc ?_ _)); refine blk_far ?_ NB378_395.out _; (with_reducible repeat (first | refine blk_drewN ?_ _ | refine blk_drew ?_ | refine blk_alloc ?_ _)); refine blk_far ?_ NB378_395.out _; (with_reducible repeat (first | refine blk_drewN ?_ _ | refine blk_drew ?_ | refine blk_alloc ?_ _)); refine blk_far ?_ NB378_395.out _; (with_reducible repeat (first | refine blk_drewN ?_ _ | refine blk_drew ?_ | refine blk_alloc ?_ _)); refine blk_far ?_ NB378_395.out _; (with_reducible repeat (first | refine blk_drewN ?_ _ | refine blk_drew ?_ | refine blk_alloc ?_ _)); refine blk_far ?_ NB378_395.out _; (with_reducible repeat (first | refine blk_drewN ?_ _ | refine blk_drew ?_ | refine blk_alloc ?_ _)); refine blk_far ?_ NB378_395.out _; (with_reducible repeat (first | refine blk_drewN ?_ _ | refine blk_drew ?_ | refine blk_alloc ?_ _)); refine blk_far ?_ NB378_395.out _; (with_reducible repeat (first | refine blk_drewN ?_ _ | refine blk_drew ?_ | refine blk_alloc ?_ _)); exact BK378.out⟩, ⟨by (with_reducible repeat (first | refine blk_drewN ?_ _ | refine blk_drew ?_ | refine blk_alloc ?_ _)); refine blk_put (cs := #[.int .i64 a1, .int .i64 a0, .int .i64 a3, .int .i64 t394, .int .i64 a4, .slice none 0 0, .slice none 0 0, .slice none 0 0]) ?_ 7 _ rfl; (with_reducible repeat (first | refine blk_drewN ?_ _ | refine blk_drew ?_ | refine blk_alloc ?_ _)); refine blk_put (cs := #[.int .i64 a1, .int .i64 a0, .int .i64 a3, .int .i64 t394, .int .i64 a4, .slice none 0 0, .slice none 0 0, .slice none 0 0]) ?_ 6 _ rfl; (with_reducible repeat (first | refine blk_drewN ?_ _ | refine blk_drew ?_ | refine blk_alloc ?_ _)); refine blk_put (cs := #[.int .i64 a1, .int .i64 a0, .int .i64 a3, .int .i64 t394, .int .i64 a4, .slice none 0 0, .slice none 0 0, .slice none 0 0]) ?_ 5 _ rfl; (with_reducible repeat (first | refine blk_drewN ?_ _ | refine blk_drew ?_ | refine blk_alloc ?_ _)); refine blk_put (cs := #[.int .i64 a1, .int .i64 a0, .int .i64 a3, .int .i64 t394, .int .i64 0, .slice none 0 0, .slice none 0 0, .slice none 0 0]) ?_ 4 _ rfl; (with_reducible repeat (first | refine blk_drewN ?_ _ | refine blk_drew ?_ | refine blk_alloc ?_ _)); refine blk_put (cs := #[.int .i64 a1, .int .i64 a0, .int .i64 a3, .int .i64 0, .int .i64 0, .slice none 0 0, .slice none 0 0, .slice none 0 0]) ?_ 3 _ rfl; (with_reducible repeat (first | refine blk_drewN ?_ _ | refine blk_drew ?_ | refine blk_alloc ?_ _)); refine blk_put (cs := #[.int .i64 a1, .int .i64 a0, .int .i64 0, .int .i64 0, .int .i64 0, .slice none 0 0, .slice none 0 0, .slice none 0 0]) ?_ 2 _ rfl; (with_reducible repeat (first | refine blk_drewN ?_ _ | refine blk_drew ?_ | refine blk_alloc ?_ _)); refine blk_put (cs := #[.int .i64 a1, .int .i64 0, .int .i64 0, .int .i64 0, .int .i64 0, .slice none 0 0, .slice none 0 0, .slice none 0 0]) ?_ 1 _ rfl; (with_reducible repeat (first | refine blk_drewN ?_ _ | refine blk_drew ?_ | refine blk_alloc ?_ _)); refine blk_put (cs := #[.int .i64 0, .int .i64 0, .int .i64 0, .int .i64 0, .int .i64 0, .slice none 0 0, .slice none 0 0, .slice none 0 0]) ?_ 0 _ rfl; exact bpl BK395.out⟩, ⟨bnx⟩⟩
      case round =>
       clear H'
       try clear c1
       try clear c2
       try clear p2
       try clear c3
       try clear c4
       try clear p6
       try clear c9
       try clear c10
       try clear c11
       try clear c12
       try clear c26
       try clear c26b0
       try clear c26b1
       try clear c29
       try clear c29b0
       try clear c29b1
       try clear c30
       try clear c30b0
       try clear c30b1
       try clear c33
       try clear hcz34_0 hcz34_1 hcz34_2 hcz34_3 hcz34_4 hcz34_5 hcz34_6 hcz34_7
       try clear hfz34_0 hfz34_1 hfz34_2 hfz34_3 hfz34_4 hfz34_5 hfz34_6 hfz34_7
       try clear p2
       obtain ⟨x52_2, x396005_2, u396005, rfl, HA, HK2, HO_396005, BK378, BK395, HB⟩ := hrel
       cases gk with
       | zero => exact absurd HA.out (by simp [impl_MakeFrame.l0])
       | succ k2 =>
        have H := HA.out
        clear HA
        simp only [impl_MakeFrame.l0] at H
        by_cases c36 : x52_2 < ((l2.take ((ji28) : Int).toNat).length : Int)
        ·rw [if_pos c36] at H
         have c36b0 : decide (x52_2 < ((l2.take ((ji28) : Int).toNat).length : Int)) = true := decide_eq_true c36
         have c36b0m : decide (x52_2 < max ji28 0) = true := by rw [← LCTl2ji28.out]; exact c36b0
         clear c36
         by_cases c37 : 0 ≤ x52_2
         ·rw [if_pos c37] at H
          have c37b0 : decide (0 ≤ x52_2) = true := decide_eq_true c37
          clear c37
          by_cases c38 : x52_2 < ((l2.take ((ji28) : Int).toNat).length : Int)
          ·rw [if_pos c38] at H
           have c38b0 : decide (x52_2 < ((l2.take ((ji28) : Int).toNat).length : Int)) = true := decide_eq_true c38
           have c38b0m : decide (x52_2 < max ji28 0) = true := by rw [← LCTl2ji28.out]; exact c38b0
           clear c38
           replace H := bnd H
           obtain ⟨t398, A39, H⟩ := H
           replace H := bnd H
           obtain ⟨t399, A40, H⟩ := H
           by_cases c41 : x396005_2.length < 17592186044416
           ·rw [if_pos c41] at H
            have LMc41 := Aside0.mk c41
            clear c41
            obtain ⟨y400, hy400⟩ : ∃ y_ : List Int, y_ = (x396005_2 ++ [t399]) := ⟨_, rfl⟩
            replace H : (impl_MakeFrame.l0 k2 a0 l2 a3 (l2.take ((ji28) : Int).toNat) ((l2.take ((ji28) : Int).toNat).length : Int) (wrap64 (x52_2 + 1)) a1 a0 a3 t394 a4 y400) = some (r1, r2, r3, r4, r5, r6, r7, r8, r9) := by first | (rw [hy400]; with_reducible exact H) | (have H2_ := (Option.bind_some _ _).symm.trans H; rw [hy400]; with_reducible exact H2_) | (have H2_ := (Option.bind_some _ _).symm.trans H; with_reducible exact H2_) | with_reducible exact H | (rw [hy400]; exact H) | exact H
            have Ny400 := Aside0.mk hy400
            clear hy400
            have H' := Aside0.mk H
            clear H
            have p397 : 0 ≤ (x52_2 : Int) := dta
            have q397 : x52_2 < ((l2.take ((ji28) : Int).toNat).length : Int) := dta
            obtain ⟨ad397, e397, hx397_0⟩ := Kd.at_int HR396.out x52_2 p397 q397
            cases e397
            replace hx397_0 := (HB.out.cell (World.block_lt_of_cell? w _ hx397_0)).trans hx397_0
            replace p397 := eq_true p397
            replace q397 := eq_true q397
            have q397m : (x52_2 < max ji28 0) = True := by rw [← LCTl2ji28.out]; exact q397
            try go_wp2
            replace HO_396005 := am (Kd.R_drew HO_396005.out)
            replace BK378 := am (blk_drew BK378.out)
            replace BK395 := am (blk_drew BK395.out)
            replace HB := am (below_drew1 HB.out)
            refine start_ (n := 10) (S := fun w' => w'.cell? ⟨gb395, 0, none⟩ = some (.int .i64 a1) ∧ w'.cell? ⟨gb395, 1, none⟩ = some (.int .i64 a0) ∧ w'.cell? ⟨gb395, 2, none⟩ = some (.int .i64 a3) ∧ w'.cell? ⟨gb395, 3, none⟩ = some (.int .i64 t394) ∧ w'.cell? ⟨gb395, 4, none⟩ = some (.int .i64 a4) ∧ w'.cell? ⟨gb395, 5, none⟩ = some (u396005) ∧ w'.cell? ⟨gb395, 6, none⟩ = some (.slice none 0 0) ∧ w'.cell? ⟨gb395, 7, none⟩ = some (.slice none 0 0)) (ds := [9]) #[false, false, false, false, false, false, false, false, false, false] (by kernel_rfl) rfl rfl ⟨(blk_cell BK395.out 0).trans rfl, (blk_cell BK395.out 1).trans rfl, (blk_cell BK395.out 2).trans rfl, (blk_cell BK395.out 3).trans rfl, (blk_cell BK395.out 4).trans rfl, (blk_cell BK395.out 5).trans rfl, (blk_cell BK395.out 6).trans rfl, (blk_cell BK395.out 7).trans rfl⟩ (fun hHeld => ?_); refine with_tabW impl_MakeFrame.tab8 impl_MakeFrame.bits8 (fun HT_ HW_ => ?_)
            generalize wr.drew = w42 at HO_396005 BK378 BK395 HB hHeld ⊢
            refine pu_ 0 56 HT_ ?_
            refine pu_ 2 58 HT_ ?_
            refine pu_ 3 59 HT_ ?_
            refine tk_ 1 57 HT_ HW_ hHeld ?_
            refine on_ 4 HT_ (fun K hK => ?_)
            refine gs_ Try.func78 #[.int .i64 a3] ?_
            with_reducible refine (impl_stepOf.calls a3 t398 _ A39.out).mono ?_
            rintro e w' ⟨rfl, ⟨nd, rfl⟩⟩
            refine ⟨_, rfl, ?_⟩
            refine hK.out _ _ ⟨(blk_cell BK395.out 0).trans rfl, (blk_cell BK395.out 1).trans rfl, (blk_cell BK395.out 2).trans rfl, (blk_cell BK395.out 3).trans rfl, (blk_cell BK395.out 4).trans rfl, (blk_cell BK395.out 5).trans rfl, (blk_cell BK395.out 6).trans rfl, (blk_cell BK395.out 7).trans rfl⟩ (fun hHeld => ?_)
            clear hK K
            refine nm_ 60 ?_
            refine on_ 5 HT_ (fun K hK => ?_)
            refine goes_ Try.func114 (by kernel_rfl) rfl #[.int .i64 (rd (l2.take ((ji28) : Int).toNat) x52_2), .int .i64 t398] (by rfl) rfl rfl (by (try simp only [List.map_toArray, List.map_cons, List.map_nil]); first | done | (simp only [hji28]; rfl) | rfl | (simp only [List.length_drop, List.length_take]; rfl)) ?_
            with_reducible refine (impl_roundDiv.calls k2 (rd (l2.take ((ji28) : Int).toNat) x52_2) t398 t399 _ A40.out).mono ?_
            rintro e w' ⟨rfl, ⟨nd, rfl⟩⟩
            refine ⟨_, rfl, ?_⟩
            refine hK.out _ _ ⟨(blk_cell BK395.out 0).trans rfl, (blk_cell BK395.out 1).trans rfl, (blk_cell BK395.out 2).trans rfl, (blk_cell BK395.out 3).trans rfl, (blk_cell BK395.out 4).trans rfl, (blk_cell BK395.out 5).trans rfl, (blk_cell BK395.out 6).trans rfl, (blk_cell BK395.out 7).trans rfl⟩ (fun hHeld => ?_)
            clear hK K
            refine nm_ 61 ?_
            refine on_ 6 HT_ (fun K hK => ?_)
            refine value_ (w1 := ?_) (v := ?_) (by rfl) rfl ?_ ?_
            rotate_left 2
            ·go_simp
             constructor
             ·rfl
             ·rfl
            refine hK.out _ _ ⟨(blk_cell (blk_alloc BK395.out _) 0).trans rfl, (blk_cell (blk_alloc BK395.out _) 1).trans rfl, (blk_cell (blk_alloc BK395.out _) 2).trans rfl, (blk_cell (blk_alloc BK395.out _) 3).trans rfl, (blk_cell (blk_alloc BK395.out _) 4).trans rfl, (blk_cell (blk_alloc BK395.out _) 5).trans rfl, (blk_cell (blk_alloc BK395.out _) 6).trans rfl, (blk_cell (blk_alloc BK395.out _) 7).trans rfl⟩ (fun hHeld => ?_)
            clear hK K
            refine nm_ 62 ?_
            refine on_ 7 HT_ (fun K hK => ?_)
            refine Kd.R_append_step (Kd.int .i64) (w0 := w) w.heap.size (by rfl) (.tmp 57) (.tmp 62) 24 2 (.int .i64 0) 8 rfl Try.underlying24 info2 rfl (by decide) (by omega) u396005 x396005_2 t399 [.int .i64 t399] (fun _ => True) (fun _ => False) rfl rfl ?aP (fun _ hk => hk.elim) ?aF ?aO ?aB ?aS ?aL ?_
            (case aP => exact rfl)
            (case aB => exact bnx)
            (case aF => exact (fun _ _ => trivial))
            (case aO => exact (rpl HO_396005.out))
            (case aS => exact bsz)
            (case aL => have := LMc41.out; omega)
            intro v401 w43 ho hb hg hat
            rw [← Ny400.out] at ho
            replace BK378 := am (blk_grown (bpl BK378.out) hg (Kd.R_ne HO_396005.out BK378.out (by decide)))
            replace BK395 := am (blk_grown (bpl BK395.out) hg (Kd.R_ne HO_396005.out BK395.out (by decide)))
            replace HB := am hb
            have HO402 := am ho
            clear HO_396005 ho hb hg hat
            obtain ⟨Ao44, co44, eo44⟩ := Kd.R_slice HO402.out
            (first | subst eo44 | (injection eo44 with f1_ f2_ f3_; have f4_ := f1_.symm; have f5_ := f3_.symm; clear f1_ f2_ f3_; subst f4_; subst f5_))
            refine hK.out _ _ ⟨(blk_cell BK395.out 0).trans rfl, (blk_cell BK395.out 1).trans rfl, (blk_cell BK395.out 2).trans rfl, (blk_cell BK395.out 3).trans rfl, (blk_cell BK395.out 4).trans rfl, (blk_cell BK395.out 5).trans rfl, (blk_cell BK395.out 6).trans rfl, (blk_cell BK395.out 7).trans rfl⟩ (fun hHeld => ?_)
            clear hK K
            refine nm_ 63 ?_
            refine pu_ 8 64 HT_ ?_
            refine last_ (i := 9) (N := none) #[true, true, true, true, true, true, true, true, true, true] rfl rfl (one_of HT_.out (by kernel_rfl)) (by decide) (fun K hK => ?_)
            have hs45 : w43.cell? ⟨gb395, 5, none⟩ = some (u396005) := (blk_cell BK395.out 5).trans rfl
            have hfs45 := blk_frozen BK395.out 5
            have hns45_0 := NB378_395.out
            have hms45_0 := NB395_378.out
            refine skip_ (w1 := ?_) (by rfl) rfl ?_ ?_
            rotate_left
            ·go_simp
             rfl
            refine hK.out _ _ ?_
            clear hK K
            refine done_ (done_of HT_.out (by kernel_rfl)) ?_
            try go_wp2
            go_roundg k2
            case measure => have := HJ5.out; have := HK2.out; omega
            case rel => exact ⟨(wrap64 (x52_2 + 1)), (y400), (.slice Ao44 y400.length co44), rq, H', ⟨by have := HJ5.out; have := HK2.out; omega⟩, ⟨by (with_reducible repeat (first | apply Kd.R_alloc | apply Kd.R_drewN | apply Kd.R_drew)); exact Kd.R_mono (Kd.R_far (p := ⟨gb395, 5, none⟩) (Kd.R_types HO402.out BK395.out (by decide)) (fun _ hk => hk.2) (.slice Ao44 y400.length co44)) (fun _ hk => trivial)⟩, ⟨by (with_reducible repeat (first | refine blk_drewN ?_ _ | refine blk_drew ?_ | refine blk_alloc ?_ _)); refine blk_far ?_ NB378_395.out _; (with_reducible repeat (first | refine blk_drewN ?_ _ | refine blk_drew ?_ | refine blk_alloc ?_ _)); exact BK378.out⟩, ⟨by (with_reducible repeat (first | refine blk_drewN ?_ _ | refine blk_drew ?_ | refine blk_alloc ?_ _)); refine blk_put (cs := #[.int .i64 a1, .int .i64 a0, .int .i64 a3, .int .i64 t394, .int .i64 a4, u396005, .slice none 0 0, .slice none 0 0]) ?_ 5 _ rfl; exact bpl BK395.out⟩, ⟨bnx⟩⟩
           ·rw [if_neg c41] at H
            exact absurd H (by simp)
          ·rw [if_neg c38] at H
           exact absurd H (by simp)
         ·rw [if_neg c37] at H
          exact absurd H (by simp)
        ·rw [if_neg c36] at H
         have c36b0 : decide (x52_2 < ((l2.take ((ji28) : Int).toNat).length : Int)) = false := decide_eq_false c36
         have c36b0m : decide (x52_2 < max ji28 0) = false := by rw [← LCTl2ji28.out]; exact c36b0
         clear c36
         replace H := bnd H
         obtain ⟨t403, A46, H⟩ := H
         have H' := Aside0.mk H
         clear H
         go_wp2_with (first | ((with_reducible refine gate_callee (f := 79) rfl ?_); refine gl_ 67 Try.func79 #[.int .i64 a0] ?_; (with_reducible refine (impl_bandsOf.calls a0 t403 _ A46.out).mono ?_); rintro e w47 ⟨v404, rfl, ho0, hb⟩; refine ⟨_, rfl, ?_⟩; replace HO_396005 := rbl HO_396005 hb; have HO405 := rlw ho0; replace BK378 := bkb BK378 hb; replace BK395 := bkb BK395 hb; replace HB := hbs hb; (try clear hb); (try clear ho0); obtain ⟨Ao48, co48, eo48⟩ := Kd.R_slice HO405.out; subst eo48))
         go_loopg [69] k2 (fun kq v69 w' => ∃ (x69_3 : Int) (x396006_3 : List Int) (x396007_3 : List (List Int)) (u396006 : Value) (u396007 : Value), v69 = .int .i64 x69_3 ∧ Aside0 (impl_MakeFrame.l1 kq l2 a3 t403 (t403.length : Int) x69_3 a1 a0 a3 t394 a4 x396005_2 x396006_3 x396007_3 = some (r1, r2, r3, r4, r5, r6, r7, r8, r9)) ∧ Aside0 (kq ≤ k2) ∧ Aside0 (Kd.R k93 93 w' w.heap.size (fun _ => True) (.slice Ao48 t403.length co48) t403) ∧ Aside0 (Kd.R (Kd.int .i64) 2 w' w.heap.size (fun k_ => some k_ ≠ (u396006 : Value).ownBlock) u396005 x396005_2) ∧ Aside0 (Kd.R (Kd.int .i64) 2 w' w.heap.size (fun k_ => some k_ ≠ (u396005 : Value).ownBlock) u396006 x396006_3) ∧ Aside0 (Kd.S (Kd.slice 2 (Kd.int .i64)) 24 w' w.heap.size (fun k_ => some k_ ≠ (u396005 : Value).ownBlock ∧ some k_ ≠ (u396006 : Value).ownBlock) u396007 x396007_3) ∧ Aside0 (w'.heap[gb378]? = some (.cells #[.int .i64 0, .int .i64 0, .int .i64 0, .int .i64 0, .int .i64 0, .int .i64 0, (.slice none 0 0), (.slice none 0 0), (.slice none 0 0)] 59 (0, 0))) ∧ Aside0 (w'.heap[gb395]? = some (.cells #[.int .i64 a1, .int .i64 a0, .int .i64 a3, .int .i64 t394, .int .i64 a4, u396005, u396006, u396007] 36 (0, 0))) ∧ Aside0 (Below w.heap.size w w'))
         case atStart => exact ⟨(0), (([] : List Int)), (([] : List (List Int))), (.slice none 0 0), (.slice none 0 0), rq, H', ⟨Nat.le_refl _⟩, ⟨by (with_reducible repeat (first | apply Kd.R_alloc | apply Kd.R_drewN | apply Kd.R_drew)); exact HO405.out⟩, ⟨by (with_reducible repeat (first | apply Kd.R_alloc | apply Kd.R_drewN | apply Kd.R_drew)); exact Kd.R_mono HO_396005.out (fun _ hk => (by simp [Value.ownBlock]))⟩, ⟨by first | exact Kd.R_nil _ _ _ _ _ | exact Kd.N_nil _ _ _ _ _ | exact Kd.V_nil _ _ _ _ _ | exact Kd.Q_nil _ _ _ _ _ | exact Kd.S_nil _ _ _ _ _⟩, ⟨by first | exact Kd.S_nil _ _ _ _ _ | exact Kd.N_nil _ _ _ _ _ | exact Kd.V_nil _ _ _ _ _ | exact Kd.Q_nil _ _ _ _ _ | exact Kd.R_nil _ _ _ _ _⟩, ⟨bpl BK378.out⟩, ⟨bpl BK395.out⟩, ⟨bnx⟩⟩
         case round =>
          clear H'
          try clear c1
          try clear c2
          try clear p2
          try clear c3
          try clear p3
          try clear q3
          try clear hx3
          try clear c4
          try clear p6
          try clear c7
          try clear c9
          try clear c10
          try clear c11
          try clear c12
          try clear c26
          try clear c26b0
          try clear c26b1
          try clear c29
          try clear c29b0
          try clear c29b1
          try clear c30
          try clear c30b0
          try clear c30b1
          try clear c33
          try clear c36
          try clear c36b0
          try clear c37
          try clear c37b0
          try clear c38
          try clear c38b0
          try clear p39
          try clear q39
          try clear hx39
          try clear c41
          try clear c43
          try clear hcz34_0 hcz34_1 hcz34_2 hcz34_3 hcz34_4 hcz34_5 hcz34_6 hcz34_7
          try clear hfz34_0 hfz34_1 hfz34_2 hfz34_3 hfz34_4 hfz34_5 hfz34_6 hfz34_7
          try clear hx397_0
          try clear p2
          try clear p397
          try clear p6
          try clear q397
          obtain ⟨x69_3, x396006_3, x396007_3, u396006, u396007, rfl, HA, HK3, HO_67, HO_396005, HO_396006, HO_396007, BK378, BK395, HB⟩ := hrel
          cases gk with
          | zero => exact absurd HA.out (by simp [impl_MakeFrame.l1])
          | succ k3 =>
           have H := HA.out
           clear HA
           simp only [impl_MakeFrame.l1] at H
           by_cases c49 : x69_3 < (t403.length : Int)
           ·rw [if_pos c49] at H
            have c49b0 : decide (x69_3 < (t403.length : Int)) = true := decide_eq_true c49
            clear c49
            by_cases c50 : 0 ≤ x69_3
            ·rw [if_pos c50] at H
             have c50b0 : decide (0 ≤ x69_3) = true := decide_eq_true c50
             clear c50
             by_cases c51 : x69_3 < (t403.length : Int)
             ·rw [if_pos c51] at H
              have c51b0 : decide (x69_3 < (t403.length : Int)) = true := decide_eq_true c51
              clear c51
              by_cases c52 : 0 ≤ ((rd_T93 t403 x69_3).f0)
              ·rw [if_pos c52] at H
               have c52b0 := eq_true c52
               have c52b1 : decide (0 ≤ ((rd_T93 t403 x69_3).f0)) = true := decide_eq_true c52
               clear c52
               by_cases c53 : ((rd_T93 t403 x69_3).f0) ≤ (wrap64 (((rd_T93 t403 x69_3).f0) + ((rd_T93 t403 x69_3).f1)))
               ·rw [if_pos c53] at H
                have c53b0 := eq_true c53
                have c53b1 : decide (((rd_T93 t403 x69_3).f0) ≤ (wrap64 (((rd_T93 t403 x69_3).f0) + ((rd_T93 t403 x69_3).f1)))) = true := decide_eq_true c53
                by_cases c54 : (wrap64 (((rd_T93 t403 x69_3).f0) + ((rd_T93 t403 x69_3).f1))) ≤ (l2.length : Int)
                ·rw [if_pos c54] at H
                 have c54b0 := eq_true c54
                 have c54b1 : decide ((wrap64 (((rd_T93 t403 x69_3).f0) + ((rd_T93 t403 x69_3).f1))) ≤ (l2.length : Int)) = true := decide_eq_true c54
                 replace H := bnd H
                 obtain ⟨t410, A55, H⟩ := H
                 replace H := bnd H
                 obtain ⟨t411, A56, H⟩ := H
                 replace H := bnd H
                 obtain ⟨t412, A57, H⟩ := H
                 replace H := bnd H
                 obtain ⟨t413, A58, H⟩ := H
                 replace H := bnd H
                 obtain ⟨t414, A59, H⟩ := H
                 by_cases c60 : x396006_3.length < 17592186044416
                 ·rw [if_pos c60] at H
                  have LMc60 := Aside0.mk c60
                  clear c60
                  obtain ⟨y415, hy415⟩ : ∃ y_ : List Int, y_ = (x396006_3 ++ [t414]) := ⟨_, rfl⟩
                  replace H : ((impl_Band_of_any.f ((rd_T93 t403 x69_3).f0) ((rd_T93 t403 x69_3).f1)).bind fun t419 => ((impl_pulsesFor.f t394).bind fun t420 => ((impl_searchPulses.f ((l2.take (wrap64 (((rd_T93 t403 x69_3).f0) + ((rd_T93 t403 x69_3).f1))).toNat).drop ((rd_T93 t403 x69_3).f0).toNat) t420).bind fun t421 => (if x396007_3.length < 5864062014805 then (impl_MakeFrame.l1 k3 l2 a3 t403 (t403.length : Int) (wrap64 (x69_3 + 1)) a1 a0 a3 t394 a4 x396005_2 y415 (x396007_3 ++ [t421])) else (none))))) = some (r1, r2, r3, r4, r5, r6, r7, r8, r9) := by first | (rw [hy415]; with_reducible exact H) | (have H2_ := (Option.bind_some _ _).symm.trans H; rw [hy415]; with_reducible exact H2_) | (have H2_ := (Option.bind_some _ _).symm.trans H; with_reducible exact H2_) | with_reducible exact H | (rw [hy415]; exact H) | exact H
                  have Ny415 := Aside0.mk hy415
                  clear hy415
                  have c61b0 := eq_true (dta : 0 ≤ ((rd_T93 t403 x69_3).f0))
                  have c62b0 := eq_true (dta : ((rd_T93 t403 x69_3).f0) ≤ (wrap64 (((rd_T93 t403 x69_3).f0) + ((rd_T93 t403 x69_3).f1))))
                  have c63b0 := eq_true (dta : (wrap64 (((rd_T93 t403 x69_3).f0) + ((rd_T93 t403 x69_3).f1))) ≤ (l2.length : Int))
                  replace H := bnd H
                  obtain ⟨t419, A64, H⟩ := H
                  replace H := bnd H
                  obtain ⟨t420, A65, H⟩ := H
                  replace H := bnd H
                  obtain ⟨t421, A66, H⟩ := H
                  by_cases c67 : x396007_3.length < 5864062014805
                  ·rw [if_pos c67] at H
                   have LMc67 := Aside0.mk c67
                   clear c67
                   obtain ⟨y424, hy424⟩ : ∃ y_ : List (List Int), y_ = (x396007_3 ++ [t421]) := ⟨_, rfl⟩
                   replace H : (impl_MakeFrame.l1 k3 l2 a3 t403 (t403.length : Int) (wrap64 (x69_3 + 1)) a1 a0 a3 t394 a4 x396005_2 y415 y424) = some (r1, r2, r3, r4, r5, r6, r7, r8, r9) := by first | (rw [hy424]; with_reducible exact H) | (have H2_ := (Option.bind_some _ _).symm.trans H; rw [hy424]; with_reducible exact H2_) | (have H2_ := (Option.bind_some _ _).symm.trans H; with_reducible exact H2_) | with_reducible exact H | (rw [hy424]; exact H) | exact H
                   have Ny424 := Aside0.mk hy424
                   clear hy424
                   have H' := Aside0.mk H
                   clear H
                   have p407 : 0 ≤ (x69_3 : Int) := dta
                   have q407 : x69_3 < (t403.length : Int) := dta
                   obtain ⟨ad407, e407, hx407_0, hx407_1⟩ := at_T93 (Kd.R_reads' HO_67.out).2.2 x69_3 p407 q407
                   cases e407
                   replace p407 := eq_true p407
                   replace q407 := eq_true q407
                   try go_wp2_with (first | ((with_reducible refine gate_dst (N := 16) rfl ?_); refine bev 16 93 #[.int .i64 0, .int .i64 0] ?_; intro gb408 hg w68 hbox hb; replace HO_67 := am (Kd.R_below (Kd.R_elderB (rpl HO_67.out) gb408 (Nat.le_of_eq hg.symm)) hb); replace HO_396005 := rbl HO_396005 hb; replace HO_396006 := rbl HO_396006 hb; replace HO_396007 := sbl HO_396007 hb; have BK408 := am hbox; have GW408 := gwe hg; have GE408 := gwe hg; replace HB := hbs hb; have NB378_408 := nbl hg BK378; have NB408_378 := nbg hg BK378; replace BK378 := bkb BK378 hb; have NB395_408 := nbl hg BK395; have NB408_395 := nbg hg BK395; replace BK395 := bkb BK395 hb; clear hb hbox hg; have hnb69 := NB408_378.out; have hnc69 := NB378_408.out; have hnb70 := NB408_395.out; have hnc70 := NB395_408.out; obtain ⟨hcz71_0, hcz71_1, hfz71_0, hfz71_1⟩ := cf2 (W := w68) BK408.out))
                   have n0_ : Aside0 (Kd.R k93 93 ((w68.setCell ⟨gb408, 0, none⟩ (.int .i64 ((rd_T93 t403 x69_3).f0))).setCell ⟨gb408, 1, none⟩ (.int .i64 ((rd_T93 t403 x69_3).f1))) w.heap.size (fun k_ => k_ ≠ gb408) (.slice (some ad407) t403.length co48) t403) := ⟨by (with_reducible repeat (first | apply Kd.R_alloc | apply Kd.R_drewN | apply Kd.R_drew)); exact Kd.R_mono (Kd.R_far (p := ⟨gb408, 1, none⟩) (Kd.R_far (p := ⟨gb408, 0, none⟩) (Kd.R_mono HO_67.out (fun k_ hk => (⟨hk, hk.2⟩ : _ ∧ k_ ≠ gb408))) (fun _ hk => hk.2) (.int .i64 ((rd_T93 t403 x69_3).f0))) (fun _ hk => hk.2) (.int .i64 ((rd_T93 t403 x69_3).f1))) (fun _ hk => hk.1.2)⟩
                   have n1_ : Aside0 (Kd.R (Kd.int .i64) 2 ((w68.setCell ⟨gb408, 0, none⟩ (.int .i64 ((rd_T93 t403 x69_3).f0))).setCell ⟨gb408, 1, none⟩ (.int .i64 ((rd_T93 t403 x69_3).f1))) w.heap.size (fun k_ => some k_ ≠ (u396006 : Value).ownBlock) u396005 x396005_2) := ⟨by (with_reducible repeat (first | apply Kd.R_alloc | apply Kd.R_drewN | apply Kd.R_drew)); exact Kd.R_mono (Kd.R_far (p := ⟨gb408, 1, none⟩) (Kd.R_far (p := ⟨gb408, 0, none⟩) (Kd.R_types HO_396005.out BK408.out (by decide)) (fun _ hk => hk.2) (.int .i64 ((rd_T93 t403 x69_3).f0))) (fun _ hk => hk.2) (.int .i64 ((rd_T93 t403 x69_3).f1))) (fun _ hk => hk.1)⟩
                   have n2_ : Aside0 (Kd.R (Kd.int .i64) 2 ((w68.setCell ⟨gb408, 0, none⟩ (.int .i64 ((rd_T93 t403 x69_3).f0))).setCell ⟨gb408, 1, none⟩ (.int .i64 ((rd_T93 t403 x69_3).f1))) w.heap.size (fun k_ => some k_ ≠ (u396005 : Value).ownBlock) u396006 x396006_3) := ⟨by (with_reducible repeat (first | apply Kd.R_alloc | apply Kd.R_drewN | apply Kd.R_drew)); exact Kd.R_mono (Kd.R_far (p := ⟨gb408, 1, none⟩) (Kd.R_far (p := ⟨gb408, 0, none⟩) (Kd.R_types HO_396006.out BK408.out (by decide)) (fun _ hk => hk.2) (.int .i64 ((rd_T93 t403 x69_3).f0))) (fun _ hk => hk.2) (.int .i64 ((rd_T93 t403 x69_3).f1))) (fun _ hk => hk.1)⟩
                   have n3_ : Aside0 (Kd.S (Kd.slice 2 (Kd.int .i64)) 24 ((w68.setCell ⟨gb408, 0, none⟩ (.int .i64 ((rd_T93 t403 x69_3).f0))).setCell ⟨gb408, 1, none⟩ (.int .i64 ((rd_T93 t403 x69_3).f1))) w.heap.size (fun k_ => some k_ ≠ (u396005 : Value).ownBlock ∧ some k_ ≠ (u396006 : Value).ownBlock) u396007 x396007_3) := ⟨by (with_reducible repeat (first | apply Kd.S_alloc | apply Kd.S_drewN | apply Kd.S_drew)); exact Kd.S_mono (Kd.S_far (p := ⟨gb408, 1, none⟩) (Kd.S_far (p := ⟨gb408, 0, none⟩) (Kd.S_types HO_396007.out BK408.out (by decide)) (fun _ hk => hk.2) (.int .i64 ((rd_T93 t403 x69_3).f0))) (fun _ hk => hk.2) (.int .i64 ((rd_T93 t403 x69_3).f1))) (fun _ hk => ⟨hk.1.1, hk.1.2⟩)⟩
                   have n4_ : Aside0 (((w68.setCell ⟨gb408, 0, none⟩ (.int .i64 ((rd_T93 t403 x69_3).f0))).setCell ⟨gb408, 1, none⟩ (.int .i64 ((rd_T93 t403 x69_3).f1))).heap[gb378]? = some (.cells #[.int .i64 0, .int .i64 0, .int .i64 0, .int .i64 0, .int .i64 0, .int .i64 0, .slice none 0 0, .slice none 0 0, .slice none 0 0] 59 (0, 0))) := ⟨by (with_reducible repeat (first | refine blk_drewN ?_ _ | refine blk_drew ?_ | refine blk_alloc ?_ _)); refine blk_far ?_ NB378_408.out _; (with_reducible repeat (first | refine blk_drewN ?_ _ | refine blk_drew ?_ | refine blk_alloc ?_ _)); refine blk_far ?_ NB378_408.out _; (with_reducible repeat (first | refine blk_drewN ?_ _ | refine blk_drew ?_ | refine blk_alloc ?_ _)); exact BK378.out⟩
                   have n5_ : Aside0 (((w68.setCell ⟨gb408, 0, none⟩ (.int .i64 ((rd_T93 t403 x69_3).f0))).setCell ⟨gb408, 1, none⟩ (.int .i64 ((rd_T93 t403 x69_3).f1))).heap[gb395]? = some (.cells #[.int .i64 a1, .int .i64 a0, .int .i64 a3, .int .i64 t394, .int .i64 a4, u396005, u396006, u396007] 36 (0, 0))) := ⟨by (with_reducible repeat (first | refine blk_drewN ?_ _ | refine blk_drew ?_ | refine blk_alloc ?_ _)); refine blk_far ?_ NB395_408.out _; (with_reducible repeat (first | refine blk_drewN ?_ _ | refine blk_drew ?_ | refine blk_alloc ?_ _)); refine blk_far ?_ NB395_408.out _; (with_reducible repeat (first | refine blk_drewN ?_ _ | refine blk_drew ?_ | refine blk_alloc ?_ _)); exact BK395.out⟩
                   have n6_ : Aside0 (((w68.setCell ⟨gb408, 0, none⟩ (.int .i64 ((rd_T93 t403 x69_3).f0))).setCell ⟨gb408, 1, none⟩ (.int .i64 ((rd_T93 t403 x69_3).f1))).heap[gb408]? = some (.cells #[.int .i64 ((rd_T93 t403 x69_3).f0), .int .i64 ((rd_T93 t403 x69_3).f1)] 93 (0, 0))) := ⟨by (with_reducible repeat (first | refine blk_drewN ?_ _ | refine blk_drew ?_ | refine blk_alloc ?_ _)); refine blk_put (cs := #[.int .i64 ((rd_T93 t403 x69_3).f0), .int .i64 0]) ?_ 1 _ rfl; (with_reducible repeat (first | refine blk_drewN ?_ _ | refine blk_drew ?_ | refine blk_alloc ?_ _)); refine blk_put (cs := #[.int .i64 0, .int .i64 0]) ?_ 0 _ rfl; exact bpl BK408.out⟩
                   have n7_ : Aside0 (Below w.heap.size w ((w68.setCell ⟨gb408, 0, none⟩ (.int .i64 ((rd_T93 t403 x69_3).f0))).setCell ⟨gb408, 1, none⟩ (.int .i64 ((rd_T93 t403 x69_3).f1)))) := ⟨bnx⟩
                   (try clear HO_67)
                   (try clear HO_396005)
                   (try clear HO_396006)
                   (try clear HO_396007)
                   (try clear BK378)
                   (try clear BK395)
                   (try clear BK408)
                   (try clear HB)
                   generalize ((w68.setCell ⟨gb408, 0, none⟩ (.int .i64 ((rd_T93 t403 x69_3).f0))).setCell ⟨gb408, 1, none⟩ (.int .i64 ((rd_T93 t403 x69_3).f1))) = w72 at n0_ n1_ n2_ n3_ n4_ n5_ n6_ n7_ ⊢
                   have HO_67 := n0_
                   have HO_396005 := n1_
                   have HO_396006 := n2_
                   have HO_396007 := n3_
                   have BK378 := n4_
                   have BK395 := n5_
                   have BK408 := n6_
                   have HB := n7_
                   clear n0_ n1_ n2_ n3_ n4_ n5_ n6_ n7_
                   replace HO_67 := am (Kd.R_drew HO_67.out)
                   replace HO_396005 := am (Kd.R_drew HO_396005.out)
                   replace HO_396006 := am (Kd.R_drew HO_396006.out)
                   replace HO_396007 := am (Kd.S_drew HO_396007.out)
                   replace BK378 := am (blk_drew BK378.out)
                   replace BK395 := am (blk_drew BK395.out)
                   replace BK408 := am (blk_drew BK408.out)
                   replace HB := am (below_drew1 HB.out)
                   obtain ⟨i074, hi074, _, hsz74, _⟩ := info_parts info2
                   obtain ⟨A74, hcut74, hA74, hC74⟩ := print_mid_of (P := Try.prog) (Value.int .i64) 0 24 2 .i64 .i64 Try.underlying24 hi074 hsz74 A2 c2 l2 ((rd_T93 t403 x69_3).f0) (wrap64 (((rd_T93 t403 x69_3).f0) + ((rd_T93 t403 x69_3).f1))) (dta) (by first | omega | exact dta) (dta) HC2.out
                   have HR409 := Aside0.mk (Kd.C_of_reads (h1 := fun _ => rfl) (hA74 _ (Kd.reads_of_C HR2.out)))
                   have HC409 := Aside0.mk hC74
                   clear hA74 hC74 hi074 hsz74
                   refine start_ (n := 16) (S := fun w' => w'.cell? ⟨gb395, 0, none⟩ = some (.int .i64 a1) ∧ w'.cell? ⟨gb395, 1, none⟩ = some (.int .i64 a0) ∧ w'.cell? ⟨gb395, 2, none⟩ = some (.int .i64 a3) ∧ w'.cell? ⟨gb395, 3, none⟩ = some (.int .i64 t394) ∧ w'.cell? ⟨gb395, 4, none⟩ = some (.int .i64 a4) ∧ w'.cell? ⟨gb395, 5, none⟩ = some (u396005) ∧ w'.cell? ⟨gb395, 6, none⟩ = some (u396006) ∧ w'.cell? ⟨gb395, 7, none⟩ = some (u396007) ∧ w'.cell? ⟨gb408, 0, none⟩ = some (.int .i64 ((rd_T93 t403 x69_3).f0)) ∧ w'.cell? ⟨gb408, 1, none⟩ = some (.int .i64 ((rd_T93 t403 x69_3).f1))) (ds := [15]) #[false, false, false, false, false, false, false, false, false, false, false, false, false, false, false, false] (by kernel_rfl) rfl rfl ⟨(blk_cell BK395.out 0).trans rfl, (blk_cell BK395.out 1).trans rfl, (blk_cell BK395.out 2).trans rfl, (blk_cell BK395.out 3).trans rfl, (blk_cell BK395.out 4).trans rfl, (blk_cell BK395.out 5).trans rfl, (blk_cell BK395.out 6).trans rfl, (blk_cell BK395.out 7).trans rfl, (blk_cell BK408.out 0).trans rfl, (blk_cell BK408.out 1).trans rfl⟩ (fun hHeld => ?_); refine with_tabW impl_MakeFrame.tab13 impl_MakeFrame.bits13 (fun HT_ HW_ => ?_)
                   generalize w72.drew = w73 at HO_67 HO_396005 HO_396006 HO_396007 BK378 BK395 BK408 HB HR409 hHeld ⊢
                   refine pu_ 0 73 HT_ ?_
                   refine pu_ 3 76 HT_ ?_
                   refine pu_ 6 79 HT_ ?_
                   refine pu_ 7 80 HT_ ?_
                   refine tk_ 1 74 HT_ HW_ hHeld ?_
                   refine tk_ 2 75 HT_ HW_ hHeld ?_
                   refine tk_ 8 81 HT_ HW_ hHeld ?_
                   refine on_ 4 HT_ (fun K hK => ?_)
                   refine gs_ Try.func116 #[.agg #[.int .i64 ((rd_T93 t403 x69_3).f0), .int .i64 ((rd_T93 t403 x69_3).f1)], .slice A2 l2.length c2] ?_
                   with_reducible refine (impl_Band_of_any.calls (hcut := hcut74) ((rd_T93 t403 x69_3).f0) ((rd_T93 t403 x69_3).f1) t410 _ A55.out).mono ?_
                   rintro e w75 ⟨rfl, hb⟩
                   refine ⟨_, rfl, ?_⟩
                   replace HO_67 := rbl HO_67 hb
                   replace HO_396005 := rbl HO_396005 hb
                   replace HO_396006 := rbl HO_396006 hb
                   replace HO_396007 := sbl HO_396007 hb
                   replace BK378 := bkb BK378 hb
                   replace BK395 := bkb BK395 hb
                   replace BK408 := bkb BK408 hb
                   replace HB := hbs hb
                   (try clear hb)
                   refine hK.out _ _ ⟨(blk_cell BK395.out 0).trans rfl, (blk_cell BK395.out 1).trans rfl, (blk_cell BK395.out 2).trans rfl, (blk_cell BK395.out 3).trans rfl, (blk_cell BK395.out 4).trans rfl, (blk_cell BK395.out 5).trans rfl, (blk_cell BK395.out 6).trans rfl, (blk_cell BK395.out 7).trans rfl, (blk_cell BK408.out 0).trans rfl, (blk_cell BK408.out 1).trans rfl⟩ (fun hHeld => ?_)
                   clear hK K
                   refine nm_ 77 ?_
                   refine on_ 5 HT_ (fun K hK => ?_)
                   refine goes_ Try.func115 (by kernel_rfl) rfl #[.slice A74 ((l2.take (wrap64 (((rd_T93 t403 x69_3).f0) + ((rd_T93 t403 x69_3).f1))).toNat).drop ((rd_T93 t403 x69_3).f0).toNat).length (c2 - ((rd_T93 t403 x69_3).f0).toNat)] (by rfl) rfl rfl (by (try simp only [List.map_toArray, List.map_cons, List.map_nil]); first | done | (rw [show ((l2.take (wrap64 (((rd_T93 t403 x69_3).f0) + ((rd_T93 t403 x69_3).f1))).toNat).drop ((rd_T93 t403 x69_3).f0).toNat).length = ((wrap64 (((rd_T93 t403 x69_3).f0) + ((rd_T93 t403 x69_3).f1))).toNat - ((rd_T93 t403 x69_3).f0).toNat) from (by rw [List.length_drop, List.length_take]; have h_ : ((wrap64 (((rd_T93 t403 x69_3).f0) + ((rd_T93 t403 x69_3).f1))) : Int) ≤ (l2.length : Int) := dta; omega)] <;> rfl) | rfl | (simp only [List.length_drop, List.length_take]; rfl)) ?_
                   with_reducible refine (impl_normOf.calls k3 _ _ ((l2.take (wrap64 (((rd_T93 t403 x69_3).f0) + ((rd_T93 t403 x69_3).f1))).toNat).drop ((rd_T93 t403 x69_3).f0).toNat) t411 _ ?_ ?_ A56.out).mono ?_
                   exact cpl HR409.out
                   exact HC409.out
                   rintro e w76 ⟨rfl, hb⟩
                   refine ⟨_, rfl, ?_⟩
                   replace HO_67 := rbl HO_67 hb
                   replace HO_396005 := rbl HO_396005 hb
                   replace HO_396006 := rbl HO_396006 hb
                   replace HO_396007 := sbl HO_396007 hb
                   replace BK378 := bkb BK378 hb
                   replace BK395 := bkb BK395 hb
                   replace BK408 := bkb BK408 hb
                   replace HB := hbs hb
                   (try clear hb)
                   refine hK.out _ _ ⟨(blk_cell BK395.out 0).trans rfl, (blk_cell BK395.out 1).trans rfl, (blk_cell BK395.out 2).trans rfl, (blk_cell BK395.out 3).trans rfl, (blk_cell BK395.out 4).trans rfl, (blk_cell BK395.out 5).trans rfl, (blk_cell BK395.out 6).trans rfl, (blk_cell BK395.out 7).trans rfl, (blk_cell BK408.out 0).trans rfl, (blk_cell BK408.out 1).trans rfl⟩ (fun hHeld => ?_)
                   clear hK K
                   refine nm_ 78 ?_
                   refine on_ 9 HT_ (fun K hK => ?_)
                   refine gs_ Try.func117 #[.int .i64 a3, .int .i64 t394] ?_
                   with_reducible refine (impl_gainRung.calls a3 t394 t412 _ A57.out).mono ?_
                   rintro e w77 ⟨rfl, hb⟩
                   refine ⟨_, rfl, ?_⟩
                   replace HO_67 := rbl HO_67 hb
                   replace HO_396005 := rbl HO_396005 hb
                   replace HO_396006 := rbl HO_396006 hb
                   replace HO_396007 := sbl HO_396007 hb
                   replace BK378 := bkb BK378 hb
                   replace BK395 := bkb BK395 hb
                   replace BK408 := bkb BK408 hb
                   replace HB := hbs hb
                   (try clear hb)
                   refine hK.out _ _ ⟨(blk_cell BK395.out 0).trans rfl, (blk_cell BK395.out 1).trans rfl, (blk_cell BK395.out 2).trans rfl, (blk_cell BK395.out 3).trans rfl, (blk_cell BK395.out 4).trans rfl, (blk_cell BK395.out 5).trans rfl, (blk_cell BK395.out 6).trans rfl, (blk_cell BK395.out 7).trans rfl, (blk_cell BK408.out 0).trans rfl, (blk_cell BK408.out 1).trans rfl⟩ (fun hHeld => ?_)
                   clear hK K
                   refine nm_ 82 ?_
                   refine on_ 10 HT_ (fun K hK => ?_)
                   refine gs_ Try.func78 #[.int .i64 t412] ?_
                   with_reducible refine (impl_stepOf.calls t412 t413 _ A58.out).mono ?_
                   rintro e w' ⟨rfl, ⟨nd, rfl⟩⟩
                   refine ⟨_, rfl, ?_⟩
                   refine hK.out _ _ ⟨(blk_cell BK395.out 0).trans rfl, (blk_cell BK395.out 1).trans rfl, (blk_cell BK395.out 2).trans rfl, (blk_cell BK395.out 3).trans rfl, (blk_cell BK395.out 4).trans rfl, (blk_cell BK395.out 5).trans rfl, (blk_cell BK395.out 6).trans rfl, (blk_cell BK395.out 7).trans rfl, (blk_cell BK408.out 0).trans rfl, (blk_cell BK408.out 1).trans rfl⟩ (fun hHeld => ?_)
                   clear hK K
                   refine nm_ 83 ?_
                   refine on_ 11 HT_ (fun K hK => ?_)
                   refine gs_ Try.func114 #[.int .i64 t411, .int .i64 t413] ?_
                   with_reducible refine (impl_roundDiv.calls k3 t411 t413 t414 _ A59.out).mono ?_
                   rintro e w' ⟨rfl, ⟨nd, rfl⟩⟩
                   refine ⟨_, rfl, ?_⟩
                   refine hK.out _ _ ⟨(blk_cell BK395.out 0).trans rfl, (blk_cell BK395.out 1).trans rfl, (blk_cell BK395.out 2).trans rfl, (blk_cell BK395.out 3).trans rfl, (blk_cell BK395.out 4).trans rfl, (blk_cell BK395.out 5).trans rfl, (blk_cell BK395.out 6).trans rfl, (blk_cell BK395.out 7).trans rfl, (blk_cell BK408.out 0).trans rfl, (blk_cell BK408.out 1).trans rfl⟩ (fun hHeld => ?_)
                   clear hK K
                   refine nm_ 84 ?_
                   refine on_ 12 HT_ (fun K hK => ?_)
                   refine value_ (w1 := ?_) (v := ?_) (by rfl) rfl ?_ ?_
                   rotate_left 2
                   ·go_simp
                    constructor
                    ·rfl
                    ·rfl
                   refine hK.out _ _ ⟨(blk_cell (blk_alloc BK395.out _) 0).trans rfl, (blk_cell (blk_alloc BK395.out _) 1).trans rfl, (blk_cell (blk_alloc BK395.out _) 2).trans rfl, (blk_cell (blk_alloc BK395.out _) 3).trans rfl, (blk_cell (blk_alloc BK395.out _) 4).trans rfl, (blk_cell (blk_alloc BK395.out _) 5).trans rfl, (blk_cell (blk_alloc BK395.out _) 6).trans rfl, (blk_cell (blk_alloc BK395.out _) 7).trans rfl, (blk_cell (blk_alloc BK408.out _) 0).trans rfl, (blk_cell (blk_alloc BK408.out _) 1).trans rfl⟩ (fun hHeld => ?_)
                   clear hK K
                   refine nm_ 85 ?_
                   refine on_ 13 HT_ (fun K hK => ?_)
                   refine Kd.R_append_step (Kd.int .i64) (w0 := w) w.heap.size (by rfl) (.tmp 74) (.tmp 85) 24 2 (.int .i64 0) 8 rfl Try.underlying24 info2 rfl (by decide) (by omega) u396006 x396006_3 t414 [.int .i64 t414] (fun k_ => some k_ ≠ (u396005 : Value).ownBlock) (fun _ => False) rfl rfl ?aP (fun _ hk => hk.elim) ?aF ?aO ?aB ?aS ?aL ?_
                   (case aP => exact rfl)
                   (case aB => exact bnx)
                   (case aF => exact (fun k_ hk => Kd.fresh' (Kd.R_lt (rpl HO_396005.out)) k_ hk))
                   (case aO => exact (rpl HO_396006.out))
                   (case aS => exact bsz)
                   (case aL => have := LMc60.out; omega)
                   intro v416 w78 ho hb hg hat
                   rw [← Ny415.out] at ho
                   replace HO_67 := am (Kd.R_over' (rpl HO_67.out) (Kd.R_typed (rpl HO_396006.out)) (by decide) hg)
                   replace HO_396005 := am (Kd.R_after (ok := (fun _ => True)) (by (with_reducible repeat (first | apply Kd.R_alloc | apply Kd.R_drewN | apply Kd.R_drew)); exact Kd.R_mono HO_396005.out (fun _ hk => ⟨trivial, hk⟩)) hg hat)
                   replace HO_396007 := am (Kd.S_after (ok := (fun k_ => some k_ ≠ (u396005 : Value).ownBlock)) (spl HO_396007.out) hg hat)
                   replace BK378 := am (blk_grown (bpl BK378.out) hg (Kd.R_ne HO_396006.out BK378.out (by decide)))
                   replace BK395 := am (blk_grown (bpl BK395.out) hg (Kd.R_ne HO_396006.out BK395.out (by decide)))
                   replace BK408 := am (blk_grown (bpl BK408.out) hg (Kd.R_ne HO_396006.out BK408.out (by decide)))
                   replace HB := am hb
                   have HO417 := am ho
                   clear HO_396006 ho hb hg hat
                   obtain ⟨Ao79, co79, eo79⟩ := Kd.R_slice HO417.out
                   (first | subst eo79 | (injection eo79 with f1_ f2_ f3_; have f4_ := f1_.symm; have f5_ := f3_.symm; clear f1_ f2_ f3_; subst f4_; subst f5_))
                   refine hK.out _ _ ⟨(blk_cell BK395.out 0).trans rfl, (blk_cell BK395.out 1).trans rfl, (blk_cell BK395.out 2).trans rfl, (blk_cell BK395.out 3).trans rfl, (blk_cell BK395.out 4).trans rfl, (blk_cell BK395.out 5).trans rfl, (blk_cell BK395.out 6).trans rfl, (blk_cell BK395.out 7).trans rfl, (blk_cell BK408.out 0).trans rfl, (blk_cell BK408.out 1).trans rfl⟩ (fun hHeld => ?_)
                   clear hK K
                   refine nm_ 86 ?_
                   refine pu_ 14 87 HT_ ?_
                   refine last_ (i := 15) (N := none) #[true, true, true, true, true, true, true, true, true, true, true, true, true, true, true, true] rfl rfl (one_of HT_.out (by kernel_rfl)) (by decide) (fun K hK => ?_)
                   have hs80 : w78.cell? ⟨gb395, 6, none⟩ = some (u396006) := (blk_cell BK395.out 6).trans rfl
                   have hfs80 := blk_frozen BK395.out 6
                   have hns80_0 := NB378_395.out
                   have hns80_2 := NB408_395.out
                   have hms80_0 := NB395_378.out
                   have hms80_2 := NB395_408.out
                   refine skip_ (w1 := ?_) (by rfl) rfl ?_ ?_
                   rotate_left
                   ·go_simp
                    rfl
                   refine hK.out _ _ ?_
                   clear hK K
                   refine done_ (done_of HT_.out (by kernel_rfl)) ?_
                   try go_wp2
                   have n0_ : Aside0 (Kd.R k93 93 (w78.setCell ⟨gb395, 6, none⟩ (.slice Ao79 y415.length co79)) w.heap.size (fun k_ => k_ ≠ gb408) (.slice (some ad407) t403.length co48) t403) := ⟨by (with_reducible repeat (first | apply Kd.R_alloc | apply Kd.R_drewN | apply Kd.R_drew)); exact Kd.R_mono (Kd.R_far (p := ⟨gb395, 6, none⟩) (Kd.R_types HO_67.out BK395.out (by decide)) (fun _ hk => hk.2) (.slice Ao79 y415.length co79)) (fun _ hk => hk.1)⟩
                   have n1_ : Aside0 (Kd.R (Kd.int .i64) 2 (w78.setCell ⟨gb395, 6, none⟩ (.slice Ao79 y415.length co79)) w.heap.size (fun k_ => some k_ ≠ (.slice Ao79 y415.length co79 : Value).ownBlock) u396005 x396005_2) := ⟨by (with_reducible repeat (first | apply Kd.R_alloc | apply Kd.R_drewN | apply Kd.R_drew)); exact Kd.R_mono (Kd.R_far (p := ⟨gb395, 6, none⟩) (Kd.R_types HO_396005.out BK395.out (by decide)) (fun _ hk => hk.2) (.slice Ao79 y415.length co79)) (fun _ hk => hk.1.2)⟩
                   have n2_ : Aside0 (Kd.S (Kd.slice 2 (Kd.int .i64)) 24 (w78.setCell ⟨gb395, 6, none⟩ (.slice Ao79 y415.length co79)) w.heap.size (fun k_ => some k_ ≠ (u396005 : Value).ownBlock ∧ some k_ ≠ (.slice Ao79 y415.length co79 : Value).ownBlock) u396007 x396007_3) := ⟨by (with_reducible repeat (first | apply Kd.S_alloc | apply Kd.S_drewN | apply Kd.S_drew)); exact Kd.S_mono (Kd.S_far (p := ⟨gb395, 6, none⟩) (Kd.S_types HO_396007.out BK395.out (by decide)) (fun _ hk => hk.2) (.slice Ao79 y415.length co79)) (fun _ hk => ⟨hk.1.1, hk.1.2⟩)⟩
                   have n3_ : Aside0 (Kd.R (Kd.int .i64) 2 (w78.setCell ⟨gb395, 6, none⟩ (.slice Ao79 y415.length co79)) w.heap.size (fun k_ => some k_ ≠ (u396005 : Value).ownBlock) (.slice Ao79 y415.length co79) y415) := ⟨by (with_reducible repeat (first | apply Kd.R_alloc | apply Kd.R_drewN | apply Kd.R_drew)); exact Kd.R_mono (Kd.R_far (p := ⟨gb395, 6, none⟩) (Kd.R_types HO417.out BK395.out (by decide)) (fun _ hk => hk.2) (.slice Ao79 y415.length co79)) (fun _ hk => hk.1)⟩
                   have n4_ : Aside0 ((w78.setCell ⟨gb395, 6, none⟩ (.slice Ao79 y415.length co79)).heap[gb378]? = some (.cells #[.int .i64 0, .int .i64 0, .int .i64 0, .int .i64 0, .int .i64 0, .int .i64 0, .slice none 0 0, .slice none 0 0, .slice none 0 0] 59 (0, 0))) := ⟨by (with_reducible repeat (first | refine blk_drewN ?_ _ | refine blk_drew ?_ | refine blk_alloc ?_ _)); refine blk_far ?_ NB378_395.out _; (with_reducible repeat (first | refine blk_drewN ?_ _ | refine blk_drew ?_ | refine blk_alloc ?_ _)); exact BK378.out⟩
                   have n5_ : Aside0 ((w78.setCell ⟨gb395, 6, none⟩ (.slice Ao79 y415.length co79)).heap[gb395]? = some (.cells #[.int .i64 a1, .int .i64 a0, .int .i64 a3, .int .i64 t394, .int .i64 a4, u396005, .slice Ao79 y415.length co79, u396007] 36 (0, 0))) := ⟨by (with_reducible repeat (first | refine blk_drewN ?_ _ | refine blk_drew ?_ | refine blk_alloc ?_ _)); refine blk_put (cs := #[.int .i64 a1, .int .i64 a0, .int .i64 a3, .int .i64 t394, .int .i64 a4, u396005, u396006, u396007]) ?_ 6 _ rfl; exact bpl BK395.out⟩
                   have n6_ : Aside0 ((w78.setCell ⟨gb395, 6, none⟩ (.slice Ao79 y415.length co79)).heap[gb408]? = some (.cells #[.int .i64 ((rd_T93 t403 x69_3).f0), .int .i64 ((rd_T93 t403 x69_3).f1)] 93 (0, 0))) := ⟨by (with_reducible repeat (first | refine blk_drewN ?_ _ | refine blk_drew ?_ | refine blk_alloc ?_ _)); refine blk_far ?_ NB408_395.out _; (with_reducible repeat (first | refine blk_drewN ?_ _ | refine blk_drew ?_ | refine blk_alloc ?_ _)); exact BK408.out⟩
                   have n7_ : Aside0 (Below w.heap.size w (w78.setCell ⟨gb395, 6, none⟩ (.slice Ao79 y415.length co79))) := ⟨bnx⟩
                   (try clear HO_67)
                   (try clear HO_396005)
                   (try clear HO_396007)
                   (try clear HO417)
                   (try clear BK378)
                   (try clear BK395)
                   (try clear BK408)
                   (try clear HB)
                   generalize (w78.setCell ⟨gb395, 6, none⟩ (.slice Ao79 y415.length co79)) = w81 at n0_ n1_ n2_ n3_ n4_ n5_ n6_ n7_ ⊢
                   have HO_67 := n0_
                   have HO_396005 := n1_
                   have HO_396007 := n2_
                   have HO417 := n3_
                   have BK378 := n4_
                   have BK395 := n5_
                   have BK408 := n6_
                   have HB := n7_
                   clear n0_ n1_ n2_ n3_ n4_ n5_ n6_ n7_
                   replace HO_67 := am (Kd.R_drew HO_67.out)
                   replace HO_396005 := am (Kd.R_drew HO_396005.out)
                   replace HO_396007 := am (Kd.S_drew HO_396007.out)
                   replace HO417 := am (Kd.R_drew HO417.out)
                   replace BK378 := am (blk_drew BK378.out)
                   replace BK395 := am (blk_drew BK395.out)
                   replace BK408 := am (blk_drew BK408.out)
                   replace HB := am (below_drew1 HB.out)
                   obtain ⟨i083, hi083, _, hsz83, _⟩ := info_parts info2
                   obtain ⟨A83, hcut83, hA83, hC83⟩ := print_mid_of (P := Try.prog) (Value.int .i64) 0 24 2 .i64 .i64 Try.underlying24 hi083 hsz83 A2 c2 l2 ((rd_T93 t403 x69_3).f0) (wrap64 (((rd_T93 t403 x69_3).f0) + ((rd_T93 t403 x69_3).f1))) (dta) (by first | omega | exact dta) (dta) HC2.out
                   have HR418 := Aside0.mk (Kd.C_of_reads (h1 := fun _ => rfl) (hA83 _ (Kd.reads_of_C HR2.out)))
                   have HC418 := Aside0.mk hC83
                   clear hA83 hC83 hi083 hsz83
                   refine start_ (n := 13) (S := fun w' => w'.cell? ⟨gb395, 0, none⟩ = some (.int .i64 a1) ∧ w'.cell? ⟨gb395, 1, none⟩ = some (.int .i64 a0) ∧ w'.cell? ⟨gb395, 2, none⟩ = some (.int .i64 a3) ∧ w'.cell? ⟨gb395, 3, none⟩ = some (.int .i64 t394) ∧ w'.cell? ⟨gb395, 4, none⟩ = some (.int .i64 a4) ∧ w'.cell? ⟨gb395, 5, none⟩ = some (u396005) ∧ w'.cell? ⟨gb395, 6, none⟩ = some (.slice Ao79 y415.length co79) ∧ w'.cell? ⟨gb395, 7, none⟩ = some (u396007) ∧ w'.cell? ⟨gb408, 0, none⟩ = some (.int .i64 ((rd_T93 t403 x69_3).f0)) ∧ w'.cell? ⟨gb408, 1, none⟩ = some (.int .i64 ((rd_T93 t403 x69_3).f1))) (ds := [12]) #[false, false, false, false, false, false, false, false, false, false, false, false, false] (by kernel_rfl) rfl rfl ⟨(blk_cell BK395.out 0).trans rfl, (blk_cell BK395.out 1).trans rfl, (blk_cell BK395.out 2).trans rfl, (blk_cell BK395.out 3).trans rfl, (blk_cell BK395.out 4).trans rfl, (blk_cell BK395.out 5).trans rfl, (blk_cell BK395.out 6).trans rfl, (blk_cell BK395.out 7).trans rfl, (blk_cell BK408.out 0).trans rfl, (blk_cell BK408.out 1).trans rfl⟩ (fun hHeld => ?_); refine with_tabW impl_MakeFrame.tab14 impl_MakeFrame.bits14 (fun HT_ HW_ => ?_)
                   generalize w81.drew = w82 at HO_67 HO_396005 HO_396007 HO417 BK378 BK395 BK408 HB HR418 hHeld ⊢
                   refine pu_ 0 88 HT_ ?_
                   refine pu_ 3 91 HT_ ?_
                   refine pu_ 5 93 HT_ ?_
                   refine tk_ 1 89 HT_ HW_ hHeld ?_
                   refine tk_ 2 90 HT_ HW_ hHeld ?_
                   refine tk_ 6 94 HT_ HW_ hHeld ?_
                   refine on_ 4 HT_ (fun K hK => ?_)
                   refine gs_ Try.func116 #[.agg #[.int .i64 ((rd_T93 t403 x69_3).f0), .int .i64 ((rd_T93 t403 x69_3).f1)], .slice A2 l2.length c2] ?_
                   with_reducible refine (impl_Band_of_any.calls (hcut := hcut83) ((rd_T93 t403 x69_3).f0) ((rd_T93 t403 x69_3).f1) t419 _ A64.out).mono ?_
                   rintro e w84 ⟨rfl, hb⟩
                   refine ⟨_, rfl, ?_⟩
                   replace HO_67 := rbl HO_67 hb
                   replace HO_396005 := rbl HO_396005 hb
                   replace HO_396007 := sbl HO_396007 hb
                   replace HO417 := rbl HO417 hb
                   replace BK378 := bkb BK378 hb
                   replace BK395 := bkb BK395 hb
                   replace BK408 := bkb BK408 hb
                   replace HB := hbs hb
                   (try clear hb)
                   refine hK.out _ _ ⟨(blk_cell BK395.out 0).trans rfl, (blk_cell BK395.out 1).trans rfl, (blk_cell BK395.out 2).trans rfl, (blk_cell BK395.out 3).trans rfl, (blk_cell BK395.out 4).trans rfl, (blk_cell BK395.out 5).trans rfl, (blk_cell BK395.out 6).trans rfl, (blk_cell BK395.out 7).trans rfl, (blk_cell BK408.out 0).trans rfl, (blk_cell BK408.out 1).trans rfl⟩ (fun hHeld => ?_)
                   clear hK K
                   refine nm_ 92 ?_
                   refine on_ 7 HT_ (fun K hK => ?_)
                   refine gs_ Try.func90 #[.int .i64 t394] ?_
                   with_reducible refine (impl_pulsesFor.calls t394 t420 _ A65.out).mono ?_
                   rintro e w' ⟨rfl, ⟨nd, rfl⟩⟩
                   refine ⟨_, rfl, ?_⟩
                   refine hK.out _ _ ⟨(blk_cell BK395.out 0).trans rfl, (blk_cell BK395.out 1).trans rfl, (blk_cell BK395.out 2).trans rfl, (blk_cell BK395.out 3).trans rfl, (blk_cell BK395.out 4).trans rfl, (blk_cell BK395.out 5).trans rfl, (blk_cell BK395.out 6).trans rfl, (blk_cell BK395.out 7).trans rfl, (blk_cell BK408.out 0).trans rfl, (blk_cell BK408.out 1).trans rfl⟩ (fun hHeld => ?_)
                   clear hK K
                   refine nm_ 95 ?_
                   refine on_ 8 HT_ (fun K hK => ?_)
                   refine goes_ Try.func118 (by kernel_rfl) rfl #[.slice A83 ((l2.take (wrap64 (((rd_T93 t403 x69_3).f0) + ((rd_T93 t403 x69_3).f1))).toNat).drop ((rd_T93 t403 x69_3).f0).toNat).length (c2 - ((rd_T93 t403 x69_3).f0).toNat), .int .i64 t420] (by rfl) rfl rfl (by (try simp only [List.map_toArray, List.map_cons, List.map_nil]); first | done | (rw [show ((l2.take (wrap64 (((rd_T93 t403 x69_3).f0) + ((rd_T93 t403 x69_3).f1))).toNat).drop ((rd_T93 t403 x69_3).f0).toNat).length = ((wrap64 (((rd_T93 t403 x69_3).f0) + ((rd_T93 t403 x69_3).f1))).toNat - ((rd_T93 t403 x69_3).f0).toNat) from (by rw [List.length_drop, List.length_take]; have h_ : ((wrap64 (((rd_T93 t403 x69_3).f0) + ((rd_T93 t403 x69_3).f1))) : Int) ≤ (l2.length : Int) := dta; omega)] <;> rfl) | rfl | (simp only [List.length_drop, List.length_take]; rfl)) ?_
                   with_reducible refine (impl_searchPulses.calls _ _ ((l2.take (wrap64 (((rd_T93 t403 x69_3).f0) + ((rd_T93 t403 x69_3).f1))).toNat).drop ((rd_T93 t403 x69_3).f0).toNat) t420 t421 _ ?side1 ?side2 A66.out).mono ?_
                   (case side1 => repeat (first | exact (Kd.C_below HR418.out bnx) | (with_reducible refine Kd.C_alloc ?_ _) | (with_reducible refine Kd.C_drewN ?_ _) | (with_reducible refine Kd.C_drew ?_)))
                   (case side2 => exact HC418.out)
                   rintro e w85 ⟨v422, rfl, ho0, hb⟩
                   refine ⟨_, rfl, ?_⟩
                   replace HO_67 := rbl HO_67 hb
                   replace HO_396007 := sel HO_396007 ho0 hb
                   have HO423 := am (Kd.R_lower (Kd.R_new' (Kd.R_new' ho0 (rlt HO_396005)) (rlt HO417)) bsz)
                   replace HO_396005 := rel HO_396005 ho0 hb
                   replace HO417 := rel HO417 ho0 hb
                   replace BK378 := bkb BK378 hb
                   replace BK395 := bkb BK395 hb
                   replace BK408 := bkb BK408 hb
                   replace HB := hbs hb
                   (try clear hb)
                   (try clear ho0)
                   obtain ⟨Ao87, co87, eo87⟩ := Kd.R_slice HO423.out
                   (first | subst eo87 | (injection eo87 with f1_ f2_ f3_; have f4_ := f1_.symm; have f5_ := f3_.symm; clear f1_ f2_ f3_; subst f4_; subst f5_))
                   refine hK.out _ _ ⟨(blk_cell BK395.out 0).trans rfl, (blk_cell BK395.out 1).trans rfl, (blk_cell BK395.out 2).trans rfl, (blk_cell BK395.out 3).trans rfl, (blk_cell BK395.out 4).trans rfl, (blk_cell BK395.out 5).trans rfl, (blk_cell BK395.out 6).trans rfl, (blk_cell BK395.out 7).trans rfl, (blk_cell BK408.out 0).trans rfl, (blk_cell BK408.out 1).trans rfl⟩ (fun hHeld => ?_)
                   clear hK K
                   refine nm_ 96 ?_
                   refine on_ 9 HT_ (fun K hK => ?_)
                   refine value_ (w1 := ?_) (v := ?_) (by rfl) rfl ?_ ?_
                   rotate_left 2
                   ·go_simp
                    constructor
                    ·rfl
                    ·rfl
                   refine hK.out _ _ ⟨(blk_cell (blk_alloc BK395.out _) 0).trans rfl, (blk_cell (blk_alloc BK395.out _) 1).trans rfl, (blk_cell (blk_alloc BK395.out _) 2).trans rfl, (blk_cell (blk_alloc BK395.out _) 3).trans rfl, (blk_cell (blk_alloc BK395.out _) 4).trans rfl, (blk_cell (blk_alloc BK395.out _) 5).trans rfl, (blk_cell (blk_alloc BK395.out _) 6).trans rfl, (blk_cell (blk_alloc BK395.out _) 7).trans rfl, (blk_cell (blk_alloc BK408.out _) 0).trans rfl, (blk_cell (blk_alloc BK408.out _) 1).trans rfl⟩ (fun hHeld => ?_)
                   clear hK K
                   refine nm_ 97 ?_
                   refine on_ 10 HT_ (fun K hK => ?_)
                   refine Kd.S_append_step (Kd.slice 2 (Kd.int .i64)) (w0 := w) w.heap.size (by rfl) (.tmp 89) (.tmp 97) 31 24 (.slice none 0 0) 24 rfl Try.underlying31 info24 rfl (by decide) (by omega) u396007 x396007_3 t421 [.slice Ao87 t421.length co87] (fun k_ => some k_ ≠ (u396005 : Value).ownBlock ∧ some k_ ≠ (.slice Ao79 y415.length co79 : Value).ownBlock) (fun k_ => some k_ = (.slice Ao87 t421.length co87 : Value).ownBlock) rfl rfl ?aP (fun k_ hk_ => ((Kd.R_mono (ok' := fun k_ => ((fun k_ => some k_ ≠ (u396005 : Value).ownBlock ∧ some k_ ≠ (.slice Ao79 y415.length co79 : Value).ownBlock)) k_ ∧ some k_ ≠ (u396007 : Value).ownBlock) (Kd.R_apart' (HO423.out) (Kd.S_typed HO_396007.out) (by decide)) (fun k_ hk => ⟨⟨hk.1.1.2, hk.1.2⟩, hk.2⟩))).1 k_ hk_.symm) ?aF ?aO ?aB ?aS ?aL ?_
                   (case aP => exact Kd.M_row (Kd.R_mono (Kd.R_tight rfl (Kd.R_mono (ok' := fun k_ => ((fun k_ => some k_ ≠ (u396005 : Value).ownBlock ∧ some k_ ≠ (.slice Ao79 y415.length co79 : Value).ownBlock)) k_ ∧ some k_ ≠ (u396007 : Value).ownBlock) (Kd.R_apart' (HO423.out) (Kd.S_typed HO_396007.out) (by decide)) (fun k_ hk => ⟨⟨hk.1.1.2, hk.1.2⟩, hk.2⟩))) (fun _ h_ => h_)))
                   (case aB => exact bnx)
                   (case aF => exact (fun k_ hk => ⟨Kd.fresh' (Kd.R_lt (rpl HO_396005.out)) k_ hk, Kd.fresh' (Kd.R_lt (rpl HO417.out)) k_ hk⟩))
                   (case aO => exact (by (with_reducible repeat (first | apply Kd.S_alloc | apply Kd.S_drewN | apply Kd.S_drew)); exact Kd.S_mono HO_396007.out (fun k_ hk => ⟨⟨hk.1.1, hk.1.2⟩, fun e_ => hk.2 e_⟩)))
                   (case aS => exact bsz)
                   (case aL => have := LMc67.out; omega)
                   intro v425 w86 ho hb hg hat
                   rw [← Ny424.out] at ho
                   replace HO_67 := am (Kd.R_over' (rpl HO_67.out) (Kd.S_typed (spl HO_396007.out)) (by decide) hg)
                   replace HO_396005 := am (Kd.R_over' (rpl HO_396005.out) (Kd.S_typed (spl HO_396007.out)) (by decide) hg)
                   replace BK378 := am (blk_grown (bpl BK378.out) hg (Kd.S_ne HO_396007.out BK378.out (by decide)))
                   replace BK395 := am (blk_grown (bpl BK395.out) hg (Kd.S_ne HO_396007.out BK395.out (by decide)))
                   replace BK408 := am (blk_grown (bpl BK408.out) hg (Kd.S_ne HO_396007.out BK408.out (by decide)))
                   replace HO417 := am (Kd.R_over' (rpl HO417.out) (Kd.S_typed (spl HO_396007.out)) (by decide) hg)
                   replace HB := am hb
                   have HO426 := am ho
                   clear HO_396007 HO423 ho hb hg hat
                   obtain ⟨Ao88, co88, eo88⟩ := Kd.S_slice HO426.out
                   (first | subst eo88 | (injection eo88 with f1_ f2_ f3_; have f4_ := f1_.symm; have f5_ := f3_.symm; clear f1_ f2_ f3_; subst f4_; subst f5_))
                   refine hK.out _ _ ⟨(blk_cell BK395.out 0).trans rfl, (blk_cell BK395.out 1).trans rfl, (blk_cell BK395.out 2).trans rfl, (blk_cell BK395.out 3).trans rfl, (blk_cell BK395.out 4).trans rfl, (blk_cell BK395.out 5).trans rfl, (blk_cell BK395.out 6).trans rfl, (blk_cell BK395.out 7).trans rfl, (blk_cell BK408.out 0).trans rfl, (blk_cell BK408.out 1).trans rfl⟩ (fun hHeld => ?_)
                   clear hK K
                   refine nm_ 98 ?_
                   refine pu_ 11 99 HT_ ?_
                   refine last_ (i := 12) (N := none) #[true, true, true, true, true, true, true, true, true, true, true, true, true] rfl rfl (one_of HT_.out (by kernel_rfl)) (by decide) (fun K hK => ?_)
                   have hs89 : w86.cell? ⟨gb395, 7, none⟩ = some (u396007) := (blk_cell BK395.out 7).trans rfl
                   have hfs89 := blk_frozen BK395.out 7
                   have hns89_0 := NB378_395.out
                   have hns89_2 := NB408_395.out
                   have hms89_0 := NB395_378.out
                   have hms89_2 := NB395_408.out
                   refine skip_ (w1 := ?_) (by rfl) rfl ?_ ?_
                   rotate_left
                   ·go_simp
                    rfl
                   refine hK.out _ _ ?_
                   clear hK K
                   refine done_ (done_of HT_.out (by kernel_rfl)) ?_
                   try go_wp2
                   go_roundg k3
                   case measure => have := HJ5.out; have := HK2.out; have := HK3.out; omega
                   case rel => exact ⟨(wrap64 (x69_3 + 1)), (y415), (y424), (.slice Ao79 y415.length co79), (.slice Ao88 y424.length co88), rq, H', ⟨by have := HJ5.out; have := HK2.out; have := HK3.out; omega⟩, ⟨by (with_reducible repeat (first | apply Kd.R_alloc | apply Kd.R_drewN | apply Kd.R_drew)); exact Kd.R_mono (Kd.R_far (p := ⟨gb395, 7, none⟩) (Kd.R_types HO_67.out BK395.out (by decide)) (fun _ hk => hk.2) (.slice Ao88 y424.length co88)) (fun _ hk => trivial)⟩, ⟨by (with_reducible repeat (first | apply Kd.R_alloc | apply Kd.R_drewN | apply Kd.R_drew)); exact Kd.R_mono (Kd.R_far (p := ⟨gb395, 7, none⟩) (Kd.R_types HO_396005.out BK395.out (by decide)) (fun _ hk => hk.2) (.slice Ao88 y424.length co88)) (fun _ hk => hk.1.1)⟩, ⟨by (with_reducible repeat (first | apply Kd.R_alloc | apply Kd.R_drewN | apply Kd.R_drew)); exact Kd.R_mono (Kd.R_far (p := ⟨gb395, 7, none⟩) (Kd.R_types HO417.out BK395.out (by decide)) (fun _ hk => hk.2) (.slice Ao88 y424.length co88)) (fun _ hk => hk.1.1)⟩, ⟨by (with_reducible repeat (first | apply Kd.S_alloc | apply Kd.S_drewN | apply Kd.S_drew)); exact Kd.S_mono (Kd.S_far (p := ⟨gb395, 7, none⟩) (Kd.S_types HO426.out BK395.out (by decide)) (fun _ hk => hk.2) (.slice Ao88 y424.length co88)) (fun _ hk => ⟨hk.1.1, hk.1.2⟩)⟩, ⟨by (with_reducible repeat (first | refine blk_drewN ?_ _ | refine blk_drew ?_ | refine blk_alloc ?_ _)); refine blk_far ?_ NB378_395.out _; (with_reducible repeat (first | refine blk_drewN ?_ _ | refine blk_drew ?_ | refine blk_alloc ?_ _)); exact BK378.out⟩, ⟨by (with_reducible repeat (first | refine blk_drewN ?_ _ | refine blk_drew ?_ | refine blk_alloc ?_ _)); refine blk_put (cs := #[.int .i64 a1, .int .i64 a0, .int .i64 a3, .int .i64 t394, .int .i64 a4, u396005, .slice Ao79 y415.length co79, u396007]) ?_ 7 _ rfl; exact bpl BK395.out⟩, ⟨bnx⟩⟩
                  ·rw [if_neg c67] at H
                   exact absurd H (by simp)
                 ·rw [if_neg c60] at H
                  exact absurd H (by simp)
                ·rw [if_neg c54] at H
                 exact absurd H (by simp)
               ·rw [if_neg c53] at H
                exact absurd H (by simp)
              ·rw [if_neg c52] at H
               exact absurd H (by simp)
             ·rw [if_neg c51] at H
              exact absurd H (by simp)
            ·rw [if_neg c50] at H
             exact absurd H (by simp)
           ·rw [if_neg c49] at H
            have c49b0 : decide (x69_3 < (t403.length : Int)) = false := decide_eq_false c49
            clear c49
            replace H := bnd H
            obtain ⟨t406, A90, H⟩ := H
            by_cases c91 : t406 = 0
            ·rw [if_pos c91] at H
             have c91b0 : (t406 == 0) = true := beq_iff_eq.mpr c91
             have c91b1 : (t406 != 0) = false := bne_eq_false_iff_eq.mpr c91
             clear c91
             simp only [Option.some.injEq, Prod.mk.injEq] at H
             obtain ⟨rfl, rfl, rfl, rfl, rfl, rfl, rfl, rfl, rfl⟩ := H
             have hnb92 := NB395_378.out
             have hnc92 := NB378_395.out
             obtain ⟨hcz93_0, hcz93_1, hcz93_2, hcz93_3, hcz93_4, hcz93_5, hcz93_6, hcz93_7, hfz93_0, hfz93_1, hfz93_2, hfz93_3, hfz93_4, hfz93_5, hfz93_6, hfz93_7⟩ := cf8 (W := wr) BK395.out
             obtain ⟨Ao94, co94, eo94⟩ := Kd.R_slice HO_396005.out
             subst eo94
             obtain ⟨Ao95, co95, eo95⟩ := Kd.R_slice HO_396006.out
             subst eo95
             obtain ⟨Ao96, co96, eo96⟩ := Kd.S_slice HO_396007.out
             subst eo96
             go_wp2_with (first | ((with_reducible refine gate_callee (f := 76) rfl ?_); refine gl_ 102 Try.func76 #[.agg #[.int .i64 a1, .int .i64 a0, .int .i64 a3, .int .i64 t394, .int .i64 a4, .slice Ao94 x396005_2.length co94, .slice Ao95 x396006_3.length co95, .slice Ao96 x396007_3.length co96]] ?_; (with_reducible refine (impl_FrameFault.calls k3 a1 a0 a3 t394 a4 _ _ x396005_2 _ _ x396006_3 _ _ x396007_3 t406 _ ?_ ?_ ?_ ?_ ?_ ?_ A90.out).mono ?_); exact crd HO_396005; exact (Kd.R_reads' HO_396005.out).2.1; exact crd HO_396006; exact (Kd.R_reads' HO_396006.out).2.1; exact csd HO_396007; exact (Kd.S_reads' HO_396007.out).2.1; rintro e w97 ⟨rfl, hb⟩; refine ⟨_, rfl, ?_⟩; replace HO_67 := rbl HO_67 hb; replace HO_396005 := rbl HO_396005 hb; replace HO_396006 := rbl HO_396006 hb; replace HO_396007 := sbl HO_396007 hb; replace BK378 := bkb BK378 hb; replace BK395 := bkb BK395 hb; replace HB := hbs hb; (try clear hb); obtain ⟨hcz98_0, hcz98_1, hcz98_2, hcz98_3, hcz98_4, hcz98_5, hcz98_6, hcz98_7, hfz98_0, hfz98_1, hfz98_2, hfz98_3, hfz98_4, hfz98_5, hfz98_6, hfz98_7⟩ := cf8 (W := w97) BK395.out; obtain ⟨hcz99_0, hcz99_1, hcz99_2, hcz99_3, hcz99_4, hcz99_5, hcz99_6, hcz99_7, hcz99_8, hfz99_0, hfz99_1, hfz99_2, hfz99_3, hfz99_4, hfz99_5, hfz99_6, hfz99_7, hfz99_8⟩ := cf9 (W := w97) BK378.out))
             refine bodyPost_ret (results_cell_row rfl _ _ gb378 59 #[.int .i64 0, .int .i64 a1, .int .i64 a0, .int .i64 a3, .int .i64 t394, .int .i64 a4, .slice Ao94 x396005_2.length co94, .slice Ao95 x396006_3.length co95, .slice Ao96 x396007_3.length co96] (0, 0) _ rfl (by (with_reducible repeat (first | refine blk_drewN ?_ _ | refine blk_drew ?_ | refine blk_alloc ?_ _)); refine blk_put (cs := #[.int .i64 0, .int .i64 a1, .int .i64 a0, .int .i64 a3, .int .i64 t394, .int .i64 a4, .slice Ao94 x396005_2.length co94, .slice Ao95 x396006_3.length co95, .slice none 0 0]) ?_ 8 _ rfl; (with_reducible repeat (first | refine blk_drewN ?_ _ | refine blk_drew ?_ | refine blk_alloc ?_ _)); refine blk_put (cs := #[.int .i64 0, .int .i64 a1, .int .i64 a0, .int .i64 a3, .int .i64 t394, .int .i64 a4, .slice Ao94 x396005_2.length co94, .slice none 0 0, .slice none 0 0]) ?_ 7 _ rfl; (with_reducible repeat (first | refine blk_drewN ?_ _ | refine blk_drew ?_ | refine blk_alloc ?_ _)); refine blk_put (cs := #[.int .i64 0, .int .i64 a1, .int .i64 a0, .int .i64 a3, .int .i64 t394, .int .i64 a4, .slice none 0 0, .slice none 0 0, .slice none 0 0]) ?_ 6 _ rfl; (with_reducible repeat (first | refine blk_drewN ?_ _ | refine blk_drew ?_ | refine blk_alloc ?_ _)); refine blk_put (cs := #[.int .i64 0, .int .i64 a1, .int .i64 a0, .int .i64 a3, .int .i64 t394, .int .i64 0, .slice none 0 0, .slice none 0 0, .slice none 0 0]) ?_ 5 _ rfl; (with_reducible repeat (first | refine blk_drewN ?_ _ | refine blk_drew ?_ | refine blk_alloc ?_ _)); refine blk_put (cs := #[.int .i64 0, .int .i64 a1, .int .i64 a0, .int .i64 a3, .int .i64 0, .int .i64 0, .slice none 0 0, .slice none 0 0, .slice none 0 0]) ?_ 4 _ rfl; (with_reducible repeat (first | refine blk_drewN ?_ _ | refine blk_drew ?_ | refine blk_alloc ?_ _)); refine blk_put (cs := #[.int .i64 0, .int .i64 a1, .int .i64 a0, .int .i64 0, .int .i64 0, .int .i64 0, .slice none 0 0, .slice none 0 0, .slice none 0 0]) ?_ 3 _ rfl; (with_reducible repeat (first | refine blk_drewN ?_ _ | refine blk_drew ?_ | refine blk_alloc ?_ _)); refine blk_put (cs := #[.int .i64 0, .int .i64 a1, .int .i64 0, .int .i64 0, .int .i64 0, .int .i64 0, .slice none 0 0, .slice none 0 0, .slice none 0 0]) ?_ 2 _ rfl; (with_reducible repeat (first | refine blk_drewN ?_ _ | refine blk_drew ?_ | refine blk_alloc ?_ _)); refine blk_put (cs := #[.int .i64 0, .int .i64 0, .int .i64 0, .int .i64 0, .int .i64 0, .int .i64 0, .slice none 0 0, .slice none 0 0, .slice none 0 0]) ?_ 1 _ rfl; (with_reducible repeat (first | refine blk_drewN ?_ _ | refine blk_drew ?_ | refine blk_alloc ?_ _)); refine blk_put (cs := #[.int .i64 0, .int .i64 0, .int .i64 0, .int .i64 0, .int .i64 0, .int .i64 0, .slice none 0 0, .slice none 0 0, .slice none 0 0]) ?_ 0 _ rfl; exact bpl BK378.out) Try.underlying59 rfl (by kernel_rfl)) rfl ?_
             exact ⟨_, _, _, by first | rfl | (simp [errW_none, errW_some] <;> rfl) | (simp only [← hji28]; first | rfl | (simp [errW_none, errW_some] <;> rfl)) | (simp [*, errW_none, errW_some] <;> rfl), by (with_reducible repeat (first | apply Kd.R_alloc | apply Kd.R_drewN | apply Kd.R_drew)); exact Kd.R_mono (Kd.R_far (p := ⟨gb378, 8, none⟩) (Kd.R_far (p := ⟨gb378, 7, none⟩) (Kd.R_far (p := ⟨gb378, 6, none⟩) (Kd.R_far (p := ⟨gb378, 5, none⟩) (Kd.R_far (p := ⟨gb378, 4, none⟩) (Kd.R_far (p := ⟨gb378, 3, none⟩) (Kd.R_far (p := ⟨gb378, 2, none⟩) (Kd.R_far (p := ⟨gb378, 1, none⟩) (Kd.R_far (p := ⟨gb378, 0, none⟩) (Kd.R_types HO_396005.out BK378.out (by decide)) (fun _ hk => hk.2) (.int .i64 0)) (fun _ hk => hk.2) (.int .i64 a1)) (fun _ hk => hk.2) (.int .i64 a0)) (fun _ hk => hk.2) (.int .i64 a3)) (fun _ hk => hk.2) (.int .i64 t394)) (fun _ hk => hk.2) (.int .i64 a4)) (fun _ hk => hk.2) (.slice Ao94 x396005_2.length co94)) (fun _ hk => hk.2) (.slice Ao95 x396006_3.length co95)) (fun _ hk => hk.2) (.slice Ao96 x396007_3.length co96)) (fun _ hk => hk.1), by (with_reducible repeat (first | apply Kd.R_alloc | apply Kd.R_drewN | apply Kd.R_drew)); exact Kd.R_mono (Kd.R_far (p := ⟨gb378, 8, none⟩) (Kd.R_far (p := ⟨gb378, 7, none⟩) (Kd.R_far (p := ⟨gb378, 6, none⟩) (Kd.R_far (p := ⟨gb378, 5, none⟩) (Kd.R_far (p := ⟨gb378, 4, none⟩) (Kd.R_far (p := ⟨gb378, 3, none⟩) (Kd.R_far (p := ⟨gb378, 2, none⟩) (Kd.R_far (p := ⟨gb378, 1, none⟩) (Kd.R_far (p := ⟨gb378, 0, none⟩) (Kd.R_types HO_396006.out BK378.out (by decide)) (fun _ hk => hk.2) (.int .i64 0)) (fun _ hk => hk.2) (.int .i64 a1)) (fun _ hk => hk.2) (.int .i64 a0)) (fun _ hk => hk.2) (.int .i64 a3)) (fun _ hk => hk.2) (.int .i64 t394)) (fun _ hk => hk.2) (.int .i64 a4)) (fun _ hk => hk.2) (.slice Ao94 x396005_2.length co94)) (fun _ hk => hk.2) (.slice Ao95 x396006_3.length co95)) (fun _ hk => hk.2) (.slice Ao96 x396007_3.length co96)) (fun _ hk => hk.1), by (with_reducible repeat (first | apply Kd.S_alloc | apply Kd.S_drewN | apply Kd.S_drew)); exact Kd.S_mono (Kd.S_far (p := ⟨gb378, 8, none⟩) (Kd.S_far (p := ⟨gb378, 7, none⟩) (Kd.S_far (p := ⟨gb378, 6, none⟩) (Kd.S_far (p := ⟨gb378, 5, none⟩) (Kd.S_far (p := ⟨gb378, 4, none⟩) (Kd.S_far (p := ⟨gb378, 3, none⟩) (Kd.S_far (p := ⟨gb378, 2, none⟩) (Kd.S_far (p := ⟨gb378, 1, none⟩) (Kd.S_far (p := ⟨gb378, 0, none⟩) (Kd.S_types HO_396007.out BK378.out (by decide)) (fun _ hk => hk.2) (.int .i64 0)) (fun _ hk => hk.2) (.int .i64 a1)) (fun _ hk => hk.2) (.int .i64 a0)) (fun _ hk => hk.2) (.int .i64 a3)) (fun _ hk => hk.2) (.int .i64 t394)) (fun _ hk => hk.2) (.int .i64 a4)) (fun _ hk => hk.2) (.slice Ao94 x396005_2.length co94)) (fun _ hk => hk.2) (.slice Ao95 x396006_3.length co95)) (fun _ hk => hk.2) (.slice Ao96 x396007_3.length co96)) (fun _ hk => ⟨hk.1.1, hk.1.2⟩), bnx⟩
            ·rw [if_neg c91] at H
             have c91b0 : (t406 == 0) = false := beq_eq_false_iff_ne.mpr c91
             have c91b1 : (t406 != 0) = true := bne_iff_ne.mpr c91
             simp only [Option.some.injEq, Prod.mk.injEq] at H
             obtain ⟨rfl, rfl, rfl, rfl, rfl, rfl, rfl, rfl, rfl⟩ := H
             have hnb100 := NB395_378.out
             have hnc100 := NB378_395.out
             obtain ⟨hcz101_0, hcz101_1, hcz101_2, hcz101_3, hcz101_4, hcz101_5, hcz101_6, hcz101_7, hfz101_0, hfz101_1, hfz101_2, hfz101_3, hfz101_4, hfz101_5, hfz101_6, hfz101_7⟩ := cf8 (W := wr) BK395.out
             obtain ⟨Ao102, co102, eo102⟩ := Kd.R_slice HO_396005.out
             subst eo102
             obtain ⟨Ao103, co103, eo103⟩ := Kd.R_slice HO_396006.out
             subst eo103
             obtain ⟨Ao104, co104, eo104⟩ := Kd.S_slice HO_396007.out
             subst eo104
             go_wp2_with (first | ((with_reducible refine gate_callee (f := 76) rfl ?_); refine gl_ 102 Try.func76 #[.agg #[.int .i64 a1, .int .i64 a0, .int .i64 a3, .int .i64 t394, .int .i64 a4, .slice Ao102 x396005_2.length co102, .slice Ao103 x396006_3.length co103, .slice Ao104 x396007_3.length co104]] ?_; (with_reducible refine (impl_FrameFault.calls k3 a1 a0 a3 t394 a4 _ _ x396005_2 _ _ x396006_3 _ _ x396007_3 t406 _ ?_ ?_ ?_ ?_ ?_ ?_ A90.out).mono ?_); exact crd HO_396005; exact (Kd.R_reads' HO_396005.out).2.1; exact crd HO_396006; exact (Kd.R_reads' HO_396006.out).2.1; exact csd HO_396007; exact (Kd.S_reads' HO_396007.out).2.1; rintro e w105 ⟨rfl, hb⟩; refine ⟨_, rfl, ?_⟩; replace HO_67 := rbl HO_67 hb; replace HO_396005 := rbl HO_396005 hb; replace HO_396006 := rbl HO_396006 hb; replace HO_396007 := sbl HO_396007 hb; replace BK378 := bkb BK378 hb; replace BK395 := bkb BK395 hb; replace HB := hbs hb; (try clear hb); obtain ⟨hcz106_0, hcz106_1, hcz106_2, hcz106_3, hcz106_4, hcz106_5, hcz106_6, hcz106_7, hcz106_8, hfz106_0, hfz106_1, hfz106_2, hfz106_3, hfz106_4, hfz106_5, hfz106_6, hfz106_7, hfz106_8⟩ := cf9 (W := w105) BK378.out))
             refine bodyPost_ret (results_cell_row rfl _ _ gb378 59 #[.int .i64 t406, .int .i64 0, .int .i64 0, .int .i64 0, .int .i64 0, .int .i64 0, .slice none 0 0, .slice none 0 0, .slice none 0 0] (0, 0) _ rfl (by (with_reducible repeat (first | refine blk_drewN ?_ _ | refine blk_drew ?_ | refine blk_alloc ?_ _)); refine blk_put (cs := #[.int .i64 t406, .int .i64 0, .int .i64 0, .int .i64 0, .int .i64 0, .int .i64 0, .slice none 0 0, .slice none 0 0, .slice none 0 0]) ?_ 8 _ rfl; (with_reducible repeat (first | refine blk_drewN ?_ _ | refine blk_drew ?_ | refine blk_alloc ?_ _)); refine blk_put (cs := #[.int .i64 t406, .int .i64 0, .int .i64 0, .int .i64 0, .int .i64 0, .int .i64 0, .slice none 0 0, .slice none 0 0, .slice none 0 0]) ?_ 7 _ rfl; (with_reducible repeat (first | refine blk_drewN ?_ _ | refine blk_drew ?_ | refine blk_alloc ?_ _)); refine blk_put (cs := #[.int .i64 t406, .int .i64 0, .int .i64 0, .int .i64 0, .int .i64 0, .int .i64 0, .slice none 0 0, .slice none 0 0, .slice none 0 0]) ?_ 6 _ rfl; (with_reducible repeat (first | refine blk_drewN ?_ _ | refine blk_drew ?_ | refine blk_alloc ?_ _)); refine blk_put (cs := #[.int .i64 t406, .int .i64 0, .int .i64 0, .int .i64 0, .int .i64 0, .int .i64 0, .slice none 0 0, .slice none 0 0, .slice none 0 0]) ?_ 5 _ rfl; (with_reducible repeat (first | refine blk_drewN ?_ _ | refine blk_drew ?_ | refine blk_alloc ?_ _)); refine blk_put (cs := #[.int .i64 t406, .int .i64 0, .int .i64 0, .int .i64 0, .int .i64 0, .int .i64 0, .slice none 0 0, .slice none 0 0, .slice none 0 0]) ?_ 4 _ rfl; (with_reducible repeat (first | refine blk_drewN ?_ _ | refine blk_drew ?_ | refine blk_alloc ?_ _)); refine blk_put (cs := #[.int .i64 t406, .int .i64 0, .int .i64 0, .int .i64 0, .int .i64 0, .int .i64 0, .slice none 0 0, .slice none 0 0, .slice none 0 0]) ?_ 3 _ rfl; (with_reducible repeat (first | refine blk_drewN ?_ _ | refine blk_drew ?_ | refine blk_alloc ?_ _)); refine blk_put (cs := #[.int .i64 t406, .int .i64 0, .int .i64 0, .int .i64 0, .int .i64 0, .int .i64 0, .slice none 0 0, .slice none 0 0, .slice none 0 0]) ?_ 2 _ rfl; (with_reducible repeat (first | refine blk_drewN ?_ _ | refine blk_drew ?_ | refine blk_alloc ?_ _)); refine blk_put (cs := #[.int .i64 t406, .int .i64 0, .int .i64 0, .int .i64 0, .int .i64 0, .int .i64 0, .slice none 0 0, .slice none 0 0, .slice none 0 0]) ?_ 1 _ rfl; (with_reducible repeat (first | refine blk_drewN ?_ _ | refine blk_drew ?_ | refine blk_alloc ?_ _)); refine blk_put (cs := #[.int .i64 0, .int .i64 0, .int .i64 0, .int .i64 0, .int .i64 0, .int .i64 0, .slice none 0 0, .slice none 0 0, .slice none 0 0]) ?_ 0 _ rfl; exact bpl BK378.out) Try.underlying59 rfl (by kernel_rfl)) rfl ?_
             exact ⟨_, _, _, by first | rfl | (simp [errW_none, errW_some] <;> rfl) | (simp only [← hji28]; first | rfl | (simp [errW_none, errW_some] <;> rfl)) | (simp [*, errW_none, errW_some] <;> rfl), by first | exact Kd.R_nil _ _ _ _ _ | exact Kd.N_nil _ _ _ _ _ | exact Kd.V_nil _ _ _ _ _ | exact Kd.Q_nil _ _ _ _ _ | exact Kd.S_nil _ _ _ _ _, by first | exact Kd.R_nil _ _ _ _ _ | exact Kd.N_nil _ _ _ _ _ | exact Kd.V_nil _ _ _ _ _ | exact Kd.Q_nil _ _ _ _ _ | exact Kd.S_nil _ _ _ _ _, by first | exact Kd.S_nil _ _ _ _ _ | exact Kd.N_nil _ _ _ _ _ | exact Kd.V_nil _ _ _ _ _ | exact Kd.Q_nil _ _ _ _ _ | exact Kd.R_nil _ _ _ _ _, bnx⟩
     ·rw [if_neg c30] at H
      exact absurd H (by simp)
    ·rw [if_neg c29] at H
     exact absurd H (by simp)
   ·rw [if_neg c26] at H
    have c26b0 : (x11_5 == 0) = false := beq_eq_false_iff_ne.mpr c26
    have c26b1 : (x11_5 != 0) = true := bne_iff_ne.mpr c26
    simp only [Option.some.injEq, Prod.mk.injEq] at H
    obtain ⟨rfl, rfl, rfl, rfl, rfl, rfl, rfl, rfl, rfl⟩ := H
    obtain ⟨hcz107_0, hcz107_1, hcz107_2, hcz107_3, hcz107_4, hcz107_5, hcz107_6, hcz107_7, hcz107_8, hfz107_0, hfz107_1, hfz107_2, hfz107_3, hfz107_4, hfz107_5, hfz107_6, hfz107_7, hfz107_8⟩ := cf9 (W := wc) BK378.out
    go_wp2
    refine bodyPost_ret (results_cell_row rfl _ _ gb378 59 #[.int .i64 x11_5, .int .i64 0, .int .i64 0, .int .i64 0, .int .i64 0, .int .i64 0, .slice none 0 0, .slice none 0 0, .slice none 0 0] (0, 0) _ rfl (by (with_reducible repeat (first | refine blk_drewN ?_ _ | refine blk_drew ?_ | refine blk_alloc ?_ _)); refine blk_put (cs := #[.int .i64 x11_5, .int .i64 0, .int .i64 0, .int .i64 0, .int .i64 0, .int .i64 0, .slice none 0 0, .slice none 0 0, .slice none 0 0]) ?_ 8 _ rfl; (with_reducible repeat (first | refine blk_drewN ?_ _ | refine blk_drew ?_ | refine blk_alloc ?_ _)); refine blk_put (cs := #[.int .i64 x11_5, .int .i64 0, .int .i64 0, .int .i64 0, .int .i64 0, .int .i64 0, .slice none 0 0, .slice none 0 0, .slice none 0 0]) ?_ 7 _ rfl; (with_reducible repeat (first | refine blk_drewN ?_ _ | refine blk_drew ?_ | refine blk_alloc ?_ _)); refine blk_put (cs := #[.int .i64 x11_5, .int .i64 0, .int .i64 0, .int .i64 0, .int .i64 0, .int .i64 0, .slice none 0 0, .slice none 0 0, .slice none 0 0]) ?_ 6 _ rfl; (with_reducible repeat (first | refine blk_drewN ?_ _ | refine blk_drew ?_ | refine blk_alloc ?_ _)); refine blk_put (cs := #[.int .i64 x11_5, .int .i64 0, .int .i64 0, .int .i64 0, .int .i64 0, .int .i64 0, .slice none 0 0, .slice none 0 0, .slice none 0 0]) ?_ 5 _ rfl; (with_reducible repeat (first | refine blk_drewN ?_ _ | refine blk_drew ?_ | refine blk_alloc ?_ _)); refine blk_put (cs := #[.int .i64 x11_5, .int .i64 0, .int .i64 0, .int .i64 0, .int .i64 0, .int .i64 0, .slice none 0 0, .slice none 0 0, .slice none 0 0]) ?_ 4 _ rfl; (with_reducible repeat (first | refine blk_drewN ?_ _ | refine blk_drew ?_ | refine blk_alloc ?_ _)); refine blk_put (cs := #[.int .i64 x11_5, .int .i64 0, .int .i64 0, .int .i64 0, .int .i64 0, .int .i64 0, .slice none 0 0, .slice none 0 0, .slice none 0 0]) ?_ 3 _ rfl; (with_reducible repeat (first | refine blk_drewN ?_ _ | refine blk_drew ?_ | refine blk_alloc ?_ _)); refine blk_put (cs := #[.int .i64 x11_5, .int .i64 0, .int .i64 0, .int .i64 0, .int .i64 0, .int .i64 0, .slice none 0 0, .slice none 0 0, .slice none 0 0]) ?_ 2 _ rfl; (with_reducible repeat (first | refine blk_drewN ?_ _ | refine blk_drew ?_ | refine blk_alloc ?_ _)); refine blk_put (cs := #[.int .i64 x11_5, .int .i64 0, .int .i64 0, .int .i64 0, .int .i64 0, .int .i64 0, .slice none 0 0, .slice none 0 0, .slice none 0 0]) ?_ 1 _ rfl; (with_reducible repeat (first | refine blk_drewN ?_ _ | refine blk_drew ?_ | refine blk_alloc ?_ _)); refine blk_put (cs := #[.int .i64 0, .int .i64 0, .int .i64 0, .int .i64 0, .int .i64 0, .int .i64 0, .slice none 0 0, .slice none 0 0, .slice none 0 0]) ?_ 0 _ rfl; exact bpl BK378.out) Try.underlying59 rfl (by kernel_rfl)) rfl ?_
    exact ⟨_, _, _, enq, by first | exact Kd.R_nil _ _ _ _ _ | exact Kd.N_nil _ _ _ _ _ | exact Kd.V_nil _ _ _ _ _ | exact Kd.Q_nil _ _ _ _ _ | exact Kd.S_nil _ _ _ _ _, by first | exact Kd.R_nil _ _ _ _ _ | exact Kd.N_nil _ _ _ _ _ | exact Kd.V_nil _ _ _ _ _ | exact Kd.Q_nil _ _ _ _ _ | exact Kd.S_nil _ _ _ _ _, by first | exact Kd.S_nil _ _ _ _ _ | exact Kd.N_nil _ _ _ _ _ | exact Kd.V_nil _ _ _ _ _ | exact Kd.Q_nil _ _ _ _ _ | exact Kd.R_nil _ _ _ _ _, bnx⟩

end Go.Proofs.Ythehhncokikgcaa.PFnExactMakeFrame
