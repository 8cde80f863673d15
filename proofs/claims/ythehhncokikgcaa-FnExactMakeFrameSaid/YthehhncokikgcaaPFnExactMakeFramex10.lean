-- Contracts of the functions that the law reaches, written by wip/xprint.py of this repo.
import Derived.Test.YthehhncokikgcaaPFnExactMakeFramex0
import Derived.Test.YthehhncokikgcaaPFnExactMakeFramex1
import Derived.Test.YthehhncokikgcaaPFnExactMakeFramex7
import Derived.Test.YthehhncokikgcaaPFnExactMakeFramex8
namespace Go.Proofs.Ythehhncokikgcaa.PFnExactMakeFrame
open Go.RowKit Go.Proofs.YthehhncokikgcaaW.PrintWords Go.Proofs.YthehhncokikgcaaW.PrintLast Go.Proofs.YthehhncokikgcaaW.PrintMore
attribute [local go_sem] max2_int min2_int max_two min_two max_three min_three max_four min_four   -- for this text's walks alone
set_option linter.unusedVariables false
set_option linter.unusedSimpArgs false

/-! ### impl_coefsFault: function 110 -/
def impl_coefsFault.f (k : Nat) (a0 : Int) (l1 : List Int) : Option (Int) := (impl_SizeFault.f a0).bind fun t358 => ((impl_codeIf.f ((l1.length : Int) != a0) 2).bind fun t359 => ((impl_allWithin.f l1 16777216).bind fun t360 => ((impl_codeIf.f (!t360) 3).bind fun t361 => ((impl_first.f k (([t358, t359, t361] : List Int))).bind fun t365 => (some t365)))))
theorem impl_coefsFault.mono : ∀ a0 a1 k, LeO (impl_coefsFault.f k a0 a1) (impl_coefsFault.f (k + 1) a0 a1) := by
 intro a0 a1 k
 unfold impl_coefsFault.f
 repeat' first
   | (with_reducible exact impl_first.mono _ _)
   | (with_reducible exact LeO.refl _)
   | (with_reducible exact LeO.none _)
   | (with_reducible refine LeO.ite ?_ ?_)
   | (with_reducible refine LeO.bind ?_ (fun _ => ?_))
   | exact impl_first.mono _ _
   | exact LeO.none _
   | refine LeO.ite ?_ ?_
   | refine LeO.bind ?_ (fun _ => ?_)
set_option maxHeartbeats 8000000 in
set_option maxRecDepth 100000 in
theorem impl_coefsFault.calls (k : Nat) (a0 : Int) (A1 : Option Addr) (c1 : Nat) (l1 : List Int) (r : Int) (w : World) (hr1 : Kd.C (Kd.int .i64) w A1 l1.length l1) (hc1 : l1.length ≤ c1) (h : impl_coefsFault.f k a0 l1 = some r) :
  Calls Try.prog 110 #[.int .i64 a0, .slice A1 l1.length c1] w fun e w' => e = .returned (.int .i64 r) ∧ Below w.heap.size w w' := by
 have HR1 := Aside0.mk hr1
 have HC1 := Aside0.mk hc1
 clear hr1 hc1
 have HB := Aside0.mk (Below.refl w.heap.size w)
 have H : ((impl_SizeFault.f a0).bind fun t358 => ((impl_codeIf.f ((l1.length : Int) != a0) 2).bind fun t359 => ((impl_allWithin.f l1 16777216).bind fun t360 => ((impl_codeIf.f (!t360) 3).bind fun t361 => ((impl_first.f k (([t358, t359, t361] : List Int))).bind fun t365 => (some t365)))))) = some r := h
 clear h
 replace H := bnd H
 obtain ⟨t358, A3, H⟩ := H
 replace H := bnd H
 obtain ⟨t359, A4, H⟩ := H
 replace H := bnd H
 obtain ⟨t360, A5, H⟩ := H
 replace H := bnd H
 obtain ⟨t361, A6, H⟩ := H
 obtain ⟨y362, hy362⟩ : ∃ y_ : List Int, y_ = (([t358, t359, t361] : List Int)) := ⟨_, rfl⟩
 replace H : ((impl_first.f k y362).bind fun t365 => (some t365)) = some r := by first | (rw [hy362]; with_reducible exact H) | (have H2_ := (Option.bind_some _ _).symm.trans H; rw [hy362]; with_reducible exact H2_) | (have H2_ := (Option.bind_some _ _).symm.trans H; with_reducible exact H2_) | with_reducible exact H | (rw [hy362]; exact H) | exact H
 have Ny362 := Aside0.mk hy362
 clear hy362
 replace H := bnd H
 obtain ⟨t365, A7, H⟩ := H
 obtain rfl := Option.some.inj H
 go_enter Try.func110, Try.ntmps110
 go_wp2_with (first | ((with_reducible refine gate_callee (f := 176) rfl ?_); refine gl_ 6 Try.func176 #[.int .i64 a0] ?_; (with_reducible refine (impl_SizeFault.calls a0 t358 _ A3.out).mono ?_); rintro e w' ⟨rfl, ⟨nd, rfl⟩⟩; refine ⟨_, rfl, ?_⟩) | ((with_reducible refine gate_callee (f := 99) rfl ?_); refine gl_ 11 Try.func99 #[.bool ((l1.length : Int) != a0), .int .i64 2] ?_; (with_reducible refine (impl_codeIf.calls ((l1.length : Int) != a0) 2 t359 _ A4.out).mono ?_); rintro e w' ⟨rfl, ⟨nd, rfl⟩⟩; refine ⟨_, rfl, ?_⟩) | ((with_reducible refine gate_callee (f := 67) rfl ?_); refine gl_ 13 Try.func67 #[.slice A1 l1.length c1, .int .i64 16777216] ?_; (with_reducible refine (impl_allWithin.calls _ _ l1 16777216 t360 _ ?side1 ?side2 A5.out).mono ?_); (case side1 => repeat (first | exact HR1.out | (with_reducible refine Kd.C_alloc ?_ _) | (with_reducible refine Kd.C_drewN ?_ _) | (with_reducible refine Kd.C_drew ?_))); (case side2 => exact HC1.out); rintro e w8 ⟨rfl, hb⟩; refine ⟨_, rfl, ?_⟩; replace HB := hbs hb; (try clear hb)) | ((with_reducible refine gate_callee (f := 99) rfl ?_); refine gl_ 15 Try.func99 #[.bool (!t360), .int .i64 3] ?_; (with_reducible refine (impl_codeIf.calls (!t360) 3 t361 _ A6.out).mono ?_); rintro e w' ⟨rfl, ⟨nd, rfl⟩⟩; refine ⟨_, rfl, ?_⟩) | ((with_reducible refine gate_dst (N := 16) rfl ?_); refine Kd.R_lit (Kd.int .i64) _ 2 ?hg (N := 16) ?hd (xs := ([t358, t359, t361] : List Int)) (inner := [.int .i64 t358, .int .i64 t359, .int .i64 t361]) (ok := fun _ => True) (okp := fun _ => True) ?hr ?hp (fun _ hk => hk) trivial (Below.refl _ _) (Nat.le_refl _) (by simp) ?_; (case hd => rfl); (case hg => rfl); (case hr => first | (go_simp; done) | (go_simp; rfl)); (case hp => exact (Reps.one (show Kd.M (Kd.int .i64) _ _ _ t358 [.int .i64 t358] from rfl) (Reps.one (show Kd.M (Kd.int .i64) _ _ _ t359 [.int .i64 t359] from rfl) (Reps.one (show Kd.M (Kd.int .i64) _ _ _ t361 [.int .i64 t361] from rfl) (Reps.none _ _))))); intro v363 w9 ho10 hb hg_ hnew_; clear hg_ hnew_; (first | rw [← Ny362.out] at ho10 | (simp only [Int.reduceToNat] at ho10; rw [← Ny362.out] at ho10)); have HO364 := rlw ho10; replace HB := hbs hb; clear hb ho10; obtain ⟨Ao11, co11, eo11⟩ := Kd.R_slice HO364.out; subst eo11) | ((with_reducible refine gate_callee (f := 98) rfl ?_); refine gl_ 17 Try.func98 #[.slice Ao11 y362.length co11] ?_; (with_reducible refine (impl_first.calls k _ _ y362 t365 _ ?_ ?_ A7.out).mono ?_); exact crd HO364; exact (Kd.R_reads' HO364.out).2.1; rintro e w' ⟨rfl, ⟨nd, rfl⟩⟩; refine ⟨_, rfl, ?_⟩))
 go_ret
 exact ⟨enq, bnw⟩

/-! ### impl_maskOf: function 113 -/
def impl_maskOf.l0 : Nat → Int → Int → Int → Int → Option (Int)
 | 0, _, _, _, _ => none
 | k + 1, x4, x5, x6, x7 => if x6 < 3 then (if (wrap64 (x7 * x5)) < x4 then (impl_maskOf.l0 k x4 x5 (wrap64 (x6 + 1)) (wrap64 (x7 * 4))) else (some x6)) else (some x6)
def impl_maskOf.f (k : Nat) (l0 : List Int) : Option (Int) := if 0 ≤ (wrap64 ((l0.length : Int) / 2)) then (if (wrap64 ((l0.length : Int) / 2)) ≤ (l0.length : Int) then ((impl_normOf.f k (l0.take ((wrap64 ((l0.length : Int) / 2)) : Int).toNat)).bind fun t367 => ((impl_normOf.f k (l0.drop ((wrap64 ((l0.length : Int) / 2)) : Int).toNat)).bind fun t369 => (impl_maskOf.l0 k t367 t369 0 4))) else (none)) else (none)
theorem impl_maskOf.mono_l : ∀ k, (∀ y0 y1 y2 y3, LeO (impl_maskOf.l0 k y0 y1 y2 y3) (impl_maskOf.l0 (k + 1) y0 y1 y2 y3))
 | 0 => fun _ _ _ _ r h => by simp [impl_maskOf.l0] at h
 | k + 1 => by
  have ih0 := impl_maskOf.mono_l k
  ·intro y0 y1 y2 y3
   unfold impl_maskOf.l0
   repeat' first
   | (with_reducible exact ih0 _ _ _ _)
   | (with_reducible exact impl_normOf.mono _ _)
   | (with_reducible exact LeO.refl _)
   | (with_reducible exact LeO.none _)
   | (with_reducible refine LeO.ite ?_ ?_)
   | (with_reducible refine LeO.bind ?_ (fun _ => ?_))
   | exact ih0 _ _ _ _
   | exact impl_normOf.mono _ _
   | exact LeO.none _
   | refine LeO.ite ?_ ?_
   | refine LeO.bind ?_ (fun _ => ?_)
theorem impl_maskOf.mono : ∀ a0 k, LeO (impl_maskOf.f k a0) (impl_maskOf.f (k + 1) a0) := by
 intro a0 k
 have ih0 := impl_maskOf.mono_l k
 unfold impl_maskOf.f
 repeat' first
   | (with_reducible exact ih0 _ _ _ _)
   | (with_reducible exact impl_normOf.mono _ _)
   | (with_reducible exact LeO.refl _)
   | (with_reducible exact LeO.none _)
   | (with_reducible refine LeO.ite ?_ ?_)
   | (with_reducible refine LeO.bind ?_ (fun _ => ?_))
   | exact ih0 _ _ _ _
   | exact impl_normOf.mono _ _
   | exact LeO.none _
   | refine LeO.ite ?_ ?_
   | refine LeO.bind ?_ (fun _ => ?_)
def impl_maskOf.T2 : Bool × List (List Nat × List Nat) := (true, [([], []), ([], []), ([0, 1], [0, 1]), ([2], [2]), ([], []), ([], []), ([4, 5], [4, 5]), ([6, 3], [6]), ([3, 7, 0, 1, 2, 3], [3]), ([7, 8, 0, 1, 2, 3, 4, 5, 6, 7, 8], [7])])
def impl_maskOf.B2 : List Nat := [0, 0, 3, 7, 0, 0, 48, 127, 255, 511]
theorem impl_maskOf.tab2 : rtab .any (opsOf Try.f113 2) = impl_maskOf.T2 := by kernel_rfl
theorem impl_maskOf.bits2 : waitsOk impl_maskOf.T2.2 impl_maskOf.B2 = true := by kernel_rfl
set_option maxHeartbeats 8000000 in
set_option maxRecDepth 100000 in
theorem impl_maskOf.calls (k : Nat) (A0 : Option Addr) (c0 : Nat) (l0 : List Int) (r : Int) (w : World) (hr0 : Kd.C (Kd.int .i64) w A0 l0.length l0) (hc0 : l0.length ≤ c0) (h : impl_maskOf.f k l0 = some r) :
  Calls Try.prog 113 #[.slice A0 l0.length c0] w fun e w' => e = .returned (.int .i64 r) ∧ Below w.heap.size w w' := by
 have HR0 := Aside0.mk hr0
 have HC0 := Aside0.mk hc0
 clear hr0 hc0
 have HB := Aside0.mk (Below.refl w.heap.size w)
 have H : (if 0 ≤ (wrap64 ((l0.length : Int) / 2)) then (if (wrap64 ((l0.length : Int) / 2)) ≤ (l0.length : Int) then ((impl_normOf.f k (l0.take ((wrap64 ((l0.length : Int) / 2)) : Int).toNat)).bind fun t367 => ((impl_normOf.f k (l0.drop ((wrap64 ((l0.length : Int) / 2)) : Int).toNat)).bind fun t369 => (impl_maskOf.l0 k t367 t369 0 4))) else (none)) else (none)) = some r := h
 clear h
 obtain ⟨ji2, hji2⟩ : ∃ j_ : Int, (wrap64 ((l0.length : Int) / 2)) = j_ := ⟨_, rfl⟩
 replace H : (if 0 ≤ (ji2) then (if (ji2) ≤ (l0.length : Int) then ((impl_normOf.f k (l0.take ((ji2) : Int).toNat)).bind fun t367 => ((impl_normOf.f k (l0.drop ((ji2) : Int).toNat)).bind fun t369 => (impl_maskOf.l0 k t367 t369 0 4))) else (none)) else (none)) = some r := by first | (rw [hji2] at H; exact H) | (simp only [hji2] at H ⊢; exact H)
 have hji2w : (IntKind.i64.wrap ((l0.length : Int) / 2)) = ji2 := (i64_w _).trans hji2
 by_cases c3 : 0 ≤ (ji2)
 ·rw [if_pos c3] at H
  have c3b0 := eq_true c3
  have c3b1 : decide (0 ≤ (ji2)) = true := decide_eq_true c3
  clear c3
  by_cases c4 : (ji2) ≤ (l0.length : Int)
  ·rw [if_pos c4] at H
   have c4b0 := eq_true c4
   have c4b1 : decide ((ji2) ≤ (l0.length : Int)) = true := decide_eq_true c4
   clear c4
   replace H := bnd H
   obtain ⟨t367, A5, H⟩ := H
   have c6b0 := eq_true (dta : 0 ≤ (ji2))
   have c7b0 := eq_true (dta : (ji2) ≤ (l0.length : Int))
   replace H := bnd H
   obtain ⟨t369, A8, H⟩ := H
   have H' := Aside0.mk H
   clear H
   go_enter Try.func113, Try.ntmps113
   try go_wp2
   replace HB := am (below_drew1 HB.out)
   obtain ⟨i010, hi010, _, hsz10, _⟩ := info_parts info2
   obtain ⟨hcut10, hA10, hC10⟩ := print_take_of (P := Try.prog) (Value.int .i64) 0 24 2 .i64 Try.underlying24 hi010 hsz10 A0 c0 l0 (ji2) (dta) (dta) HC0.out
   have HR366 := Aside0.mk (Kd.C_of_reads (h1 := fun _ => rfl) (hA10 _ (Kd.reads_of_C HR0.out)))
   have HC366 := Aside0.mk hC10
   clear hA10 hC10 hi010 hsz10
   obtain ⟨i011, hi011, _, hsz11, _⟩ := info_parts info2
   obtain ⟨A11, hcut11, hA11, hC11⟩ := print_drop_of (P := Try.prog) (Value.int .i64) 0 24 2 .i64 Try.underlying24 hi011 hsz11 A0 c0 l0 (ji2) (dta) (dta) HC0.out
   have HR368 := Aside0.mk (Kd.C_of_reads (h1 := fun _ => rfl) (hA11 _ (Kd.reads_of_C HR0.out)))
   have HC368 := Aside0.mk hC11
   clear hA11 hC11 hi011 hsz11
   refine start_ (n := 10) (S := fun w' => True) (ds := []) #[false, false, false, false, false, false, false, false, false, false] (by kernel_rfl) rfl rfl trivial (fun hHeld => ?_); refine with_tabW impl_maskOf.tab2 impl_maskOf.bits2 (fun HT_ HW_ => ?_)
   generalize w.drew = w9 at HB HR366 HR368 hHeld ⊢
   refine pu_ 0 11 HT_ ?_
   refine pu_ 1 12 HT_ ?_
   refine pu_ 2 13 HT_ ?_
   refine pu_ 4 15 HT_ ?_
   refine pu_ 5 16 HT_ ?_
   refine pu_ 6 17 HT_ ?_
   refine on_ 3 HT_ (fun K hK => ?_)
   refine goes_ Try.func115 (by kernel_rfl) rfl #[.slice A0 (l0.take ((ji2) : Int).toNat).length c0] (by rfl) rfl rfl (by (try simp only [List.map_toArray, List.map_cons, List.map_nil]); first | done | (rw [show (l0.take ((ji2) : Int).toNat).length = (ji2).toNat from (by rw [List.length_take]; have h_ : ((ji2) : Int) ≤ (l0.length : Int) := dta; omega)] <;> rfl) | (simp only [hji2]; rfl) | rfl | (simp only [List.length_drop, List.length_take]; rfl)) ?_
   with_reducible refine (impl_normOf.calls k _ _ (l0.take ((ji2) : Int).toNat) t367 _ ?_ ?_ A5.out).mono ?_
   exact cpl HR366.out
   exact HC366.out
   rintro e w12 ⟨rfl, hb⟩
   refine ⟨_, rfl, ?_⟩
   replace HB := hbs hb
   (try clear hb)
   refine hK.out _ _ trivial (fun hHeld => ?_)
   clear hK K
   refine nm_ 14 ?_
   refine on_ 7 HT_ (fun K hK => ?_)
   refine goes_ Try.func115 (by kernel_rfl) rfl #[.slice A11 (l0.drop ((ji2) : Int).toNat).length (c0 - (ji2).toNat)] (by rfl) rfl rfl (by (try simp only [List.map_toArray, List.map_cons, List.map_nil]); first | done | (rw [show (l0.drop ((ji2) : Int).toNat).length = (l0.length - (ji2).toNat) from List.length_drop] <;> rfl) | (simp only [hji2]; rfl) | rfl | (simp only [List.length_drop, List.length_take]; rfl)) ?_
   with_reducible refine (impl_normOf.calls k _ _ (l0.drop ((ji2) : Int).toNat) t369 _ ?_ ?_ A8.out).mono ?_
   exact cpl HR368.out
   exact HC368.out
   rintro e w13 ⟨rfl, hb⟩
   refine ⟨_, rfl, ?_⟩
   replace HB := hbs hb
   (try clear hb)
   refine hK.out _ _ trivial (fun hHeld => ?_)
   clear hK K
   refine nm_ 18 ?_
   refine pu_ 8 4 HT_ ?_
   refine pu_ 9 5 HT_ ?_
   refine done_ (done_of HT_.out (by kernel_rfl)) ?_
   try go_wp2
   go_loopg [6, 7] k (fun kq v6 v7 w' => ∃ (x6_1 : Int) (x7_1 : Int), v6 = .int .i64 x6_1 ∧ v7 = .int .i64 x7_1 ∧ Aside0 (impl_maskOf.l0 kq t367 t369 x6_1 x7_1 = some r) ∧ Aside0 (kq ≤ k) ∧ Aside0 (Below w.heap.size w w'))
   case atStart => exact ⟨(0), (4), rq, rq, H', ⟨Nat.le_refl _⟩, ⟨bnw⟩⟩
   case round =>
    clear H'
    try clear c1
    try clear p2
    try clear c3
    try clear c3b0
    try clear c3b1
    try clear c4
    try clear c4b0
    try clear c4b1
    try clear c6
    try clear c6b0
    try clear p6
    try clear c7
    try clear c7b0
    try clear c11
    obtain ⟨x6_1, x7_1, rfl, rfl, HA, HK1, HB⟩ := hrel
    cases gk with
    | zero => exact absurd HA.out (by simp [impl_maskOf.l0])
    | succ k1 =>
     have H := HA.out
     clear HA
     simp only [impl_maskOf.l0] at H
     by_cases c14 : x6_1 < 3
     ·rw [if_pos c14] at H
      have c14b0 : decide (x6_1 < 3) = true := decide_eq_true c14
      clear c14
      by_cases c15 : (wrap64 (x7_1 * t369)) < t367
      ·rw [if_pos c15] at H
       have c15b0 : decide ((wrap64 (x7_1 * t369)) < t367) = true := decide_eq_true c15
       clear c15
       have H' := Aside0.mk H
       clear H
       go_wp2
       go_roundg k1
       case measure => have := HK1.out; omega
       case rel => exact ⟨(wrap64 (x6_1 + 1)), (wrap64 (x7_1 * 4)), rq, rq, H', ⟨by have := HK1.out; omega⟩, ⟨bnw⟩⟩
      ·rw [if_neg c15] at H
       have c15b0 : decide ((wrap64 (x7_1 * t369)) < t367) = false := decide_eq_false c15
       clear c15
       obtain rfl := Option.some.inj H
       go_wp2
       go_ret
       exact ⟨by first | rfl | (simp [errW_none, errW_some] <;> rfl) | (simp only [← hji2]; first | rfl | (simp [errW_none, errW_some] <;> rfl)) | (simp [*, errW_none, errW_some] <;> rfl), bnw⟩
     ·rw [if_neg c14] at H
      have c14b0 : decide (x6_1 < 3) = false := decide_eq_false c14
      clear c14
      obtain rfl := Option.some.inj H
      go_wp2
      go_ret
      exact ⟨by first | rfl | (simp [errW_none, errW_some] <;> rfl) | (simp only [← hji2]; first | rfl | (simp [errW_none, errW_some] <;> rfl)) | (simp [*, errW_none, errW_some] <;> rfl), bnw⟩
  ·rw [if_neg c4] at H
   exact absurd H (by simp)
 ·rw [if_neg c3] at H
  exact absurd H (by simp)

/-! ### impl_roundDiv: function 114 -/
def impl_roundDiv.f : Nat → Int → Int → Option (Int)
 | 0, _, _ => none
 | k + 1, a0, a1 => if a0 < 0 then ((impl_roundDiv.f k (wrap64 (-a0)) a1).bind fun t370 => (some (wrap64 (-t370)))) else (if (wrap64 (2 * a1)) = 0 then (none) else (some (wrap64 (Int.tdiv (wrap64 ((wrap64 (2 * a0)) + a1)) (wrap64 (2 * a1))))))
theorem impl_roundDiv.mono_l : ∀ k, (∀ y0 y1, LeO (impl_roundDiv.f k y0 y1) (impl_roundDiv.f (k + 1) y0 y1))
 | 0 => fun _ _ r h => by simp [impl_roundDiv.f] at h
 | k + 1 => by
  have ih0 := impl_roundDiv.mono_l k
  ·intro y0 y1
   unfold impl_roundDiv.f
   repeat' first
   | (with_reducible exact ih0 _ _)
   | (with_reducible exact LeO.refl _)
   | (with_reducible exact LeO.none _)
   | (with_reducible refine LeO.ite ?_ ?_)
   | (with_reducible refine LeO.bind ?_ (fun _ => ?_))
   | exact ih0 _ _
   | exact LeO.none _
   | refine LeO.ite ?_ ?_
   | refine LeO.bind ?_ (fun _ => ?_)
theorem impl_roundDiv.mono : ∀ a0 a1 k, LeO (impl_roundDiv.f k a0 a1) (impl_roundDiv.f (k + 1) a0 a1) := by
 intro a0 a1 k
 have ih0 := impl_roundDiv.mono_l k
 exact ih0 a0 a1
set_option maxHeartbeats 8000000 in
set_option maxRecDepth 100000 in
theorem impl_roundDiv.calls (k : Nat) : ∀ (a0 : Int) (a1 : Int) (r : Int) (w : World) (h : impl_roundDiv.f k a0 a1 = some r),
  Calls Try.prog 114 #[.int .i64 a0, .int .i64 a1] w fun e w' => e = .returned (.int .i64 r) ∧ Drawn0 w w' := by
 induction k using Nat.strongRecOn with
 | _ k ih =>
 intro a0 a1 r w h
 cases k with
 | zero => exact absurd h (by simp [impl_roundDiv.f])
 | succ k =>
 simp only [impl_roundDiv.f] at h
 have H : (if a0 < 0 then ((impl_roundDiv.f k (wrap64 (-a0)) a1).bind fun t370 => (some (wrap64 (-t370)))) else (if (wrap64 (2 * a1)) = 0 then (none) else (some (wrap64 (Int.tdiv (wrap64 ((wrap64 (2 * a0)) + a1)) (wrap64 (2 * a1))))))) = some r := h
 clear h
 by_cases c3 : a0 < 0
 ·rw [if_pos c3] at H
  have c3b0 : decide (a0 < 0) = true := decide_eq_true c3
  clear c3
  replace H := bnd H
  obtain ⟨t370, A4, H⟩ := H
  obtain rfl := Option.some.inj H
  go_enter Try.func114, Try.ntmps114
  go_wp2_with (first | ((with_reducible refine gate_callee (f := 114) rfl ?_); refine gl_ 10 Try.func114 #[.int .i64 (wrap64 (-a0)), .int .i64 a1] ?_; (with_reducible refine (ih k (by omega) (wrap64 (-a0)) a1 t370 _ A4.out).mono ?_); rintro e w' ⟨rfl, ⟨nd, rfl⟩⟩; refine ⟨_, rfl, ?_⟩))
  go_ret
  exact dsq
 ·rw [if_neg c3] at H
  have c3b0 : decide (a0 < 0) = false := decide_eq_false c3
  clear c3
  by_cases c5 : (wrap64 (2 * a1)) = 0
  ·rw [if_pos c5] at H
   exact absurd H (by simp)
  ·rw [if_neg c5] at H
   have c5b0 : ((wrap64 (2 * a1)) == 0) = false := beq_eq_false_iff_ne.mpr c5
   have c5b1 : ((wrap64 (2 * a1)) != 0) = true := bne_iff_ne.mpr c5
   obtain rfl := Option.some.inj H
   go_enter Try.func114, Try.ntmps114
   go_wp2
   go_ret
   exact dsq

-- NOT PRINTED: function 116 (impl_Band_of)

-- NOT PRINTED: function 177 (impl_searchPulses_1)

-- NOT PRINTED: function 211 (slices_insertionSortCmpFunc_int)

-- NOT PRINTED: function 214 (slices_swapRangeCmpFunc_int)

-- NOT PRINTED: function 213 (slices_rotateCmpFunc_int)

-- NOT PRINTED: function 212 (slices_symMergeCmpFunc_int)

-- NOT PRINTED: function 204 (slices_stableCmpFunc_int)

-- NOT PRINTED: function 178 (slices_SortStableFunc_int_int)

/-! ### cmp_isNaN_int64: function 205 -/
def cmp_isNaN_int64.f (a0 : Int) : Option (Bool) := some (a0 != a0)
set_option maxHeartbeats 8000000 in
set_option maxRecDepth 100000 in
theorem cmp_isNaN_int64.calls (a0 : Int) (r : Bool) (w : World) (h : cmp_isNaN_int64.f a0 = some r) :
  Calls Try.prog 205 #[.int .i64 a0] w fun e w' => e = .returned (.bool r) ∧ Drawn0 w w' := by
 have H : (some (a0 != a0)) = some r := h
 clear h
 obtain rfl := Option.some.inj H
 go_enter Try.func205, Try.ntmps205
 go_wp2
 go_ret
 exact dsq

/-! ### cmp_Compare_int64: function 180 -/
def cmp_Compare_int64.f (a0 : Int) (a1 : Int) : Option (Int) := (cmp_isNaN_int64.f a0).bind fun t376 => ((cmp_isNaN_int64.f a1).bind fun t377 => (if t376 = true then (if t377 = true then (some 0) else (some (-1))) else (if t377 = true then (some 1) else (if a0 < a1 then (some (-1)) else (if a0 > a1 then (some 1) else (some 0))))))
set_option maxHeartbeats 8000000 in
set_option maxRecDepth 100000 in
theorem cmp_Compare_int64.calls (a0 : Int) (a1 : Int) (r : Int) (w : World) (h : cmp_Compare_int64.f a0 a1 = some r) :
  Calls Try.prog 180 #[.int .i64 a0, .int .i64 a1] w fun e w' => e = .returned (.int .i64 r) ∧ Drawn0 w w' := by
 have H : ((cmp_isNaN_int64.f a0).bind fun t376 => ((cmp_isNaN_int64.f a1).bind fun t377 => (if t376 = true then (if t377 = true then (some 0) else (some (-1))) else (if t377 = true then (some 1) else (if a0 < a1 then (some (-1)) else (if a0 > a1 then (some 1) else (some 0))))))) = some r := h
 clear h
 replace H := bnd H
 obtain ⟨t376, A3, H⟩ := H
 replace H := bnd H
 obtain ⟨t377, A4, H⟩ := H
 by_cases c5 : t376 = true
 ·subst c5
  replace H : (if t377 = true then (some 0) else (some (-1))) = some r := by rw [if_pos rfl] at H; exact H
  by_cases c6 : t377 = true
  ·subst c6
   replace H : (some 0) = some r := by rw [if_pos rfl] at H; exact H
   obtain rfl := Option.some.inj H
   go_enter Try.func180, Try.ntmps180
   go_wp2_with (first | ((with_reducible refine gate_callee (f := 205) rfl ?_); refine gl_ 8 Try.func205 #[.int .i64 a0] ?_; (with_reducible refine (cmp_isNaN_int64.calls a0 true _ A3.out).mono ?_); rintro e w' ⟨rfl, ⟨nd, rfl⟩⟩; refine ⟨_, rfl, ?_⟩) | ((with_reducible refine gate_callee (f := 205) rfl ?_); refine gl_ 10 Try.func205 #[.int .i64 a1] ?_; (with_reducible refine (cmp_isNaN_int64.calls a1 true _ A4.out).mono ?_); rintro e w' ⟨rfl, ⟨nd, rfl⟩⟩; refine ⟨_, rfl, ?_⟩))
   go_ret
   exact dsq
  ·replace c6 := Bool.eq_false_iff.mpr c6
   subst c6
   replace H : (some (-1)) = some r := by rw [if_neg (show ¬ (false = true) by decide)] at H; exact H
   obtain rfl := Option.some.inj H
   go_enter Try.func180, Try.ntmps180
   go_wp2_with (first | ((with_reducible refine gate_callee (f := 205) rfl ?_); refine gl_ 8 Try.func205 #[.int .i64 a0] ?_; (with_reducible refine (cmp_isNaN_int64.calls a0 true _ A3.out).mono ?_); rintro e w' ⟨rfl, ⟨nd, rfl⟩⟩; refine ⟨_, rfl, ?_⟩) | ((with_reducible refine gate_callee (f := 205) rfl ?_); refine gl_ 10 Try.func205 #[.int .i64 a1] ?_; (with_reducible refine (cmp_isNaN_int64.calls a1 false _ A4.out).mono ?_); rintro e w' ⟨rfl, ⟨nd, rfl⟩⟩; refine ⟨_, rfl, ?_⟩))
   go_ret
   exact dsq
 ·replace c5 := Bool.eq_false_iff.mpr c5
  subst c5
  replace H : (if t377 = true then (some 1) else (if a0 < a1 then (some (-1)) else (if a0 > a1 then (some 1) else (some 0)))) = some r := by rw [if_neg (show ¬ (false = true) by decide)] at H; exact H
  by_cases c7 : t377 = true
  ·subst c7
   replace H : (some 1) = some r := by rw [if_pos rfl] at H; exact H
   obtain rfl := Option.some.inj H
   go_enter Try.func180, Try.ntmps180
   go_wp2_with (first | ((with_reducible refine gate_callee (f := 205) rfl ?_); refine gl_ 8 Try.func205 #[.int .i64 a0] ?_; (with_reducible refine (cmp_isNaN_int64.calls a0 false _ A3.out).mono ?_); rintro e w' ⟨rfl, ⟨nd, rfl⟩⟩; refine ⟨_, rfl, ?_⟩) | ((with_reducible refine gate_callee (f := 205) rfl ?_); refine gl_ 10 Try.func205 #[.int .i64 a1] ?_; (with_reducible refine (cmp_isNaN_int64.calls a1 true _ A4.out).mono ?_); rintro e w' ⟨rfl, ⟨nd, rfl⟩⟩; refine ⟨_, rfl, ?_⟩))
   go_ret
   exact dsq
  ·replace c7 := Bool.eq_false_iff.mpr c7
   subst c7
   replace H : (if a0 < a1 then (some (-1)) else (if a0 > a1 then (some 1) else (some 0))) = some r := by rw [if_neg (show ¬ (false = true) by decide)] at H; exact H
   by_cases c8 : a0 < a1
   ·rw [if_pos c8] at H
    have c8b0 : decide (a0 < a1) = true := decide_eq_true c8
    clear c8
    obtain rfl := Option.some.inj H
    go_enter Try.func180, Try.ntmps180
    go_wp2_with (first | ((with_reducible refine gate_callee (f := 205) rfl ?_); refine gl_ 8 Try.func205 #[.int .i64 a0] ?_; (with_reducible refine (cmp_isNaN_int64.calls a0 false _ A3.out).mono ?_); rintro e w' ⟨rfl, ⟨nd, rfl⟩⟩; refine ⟨_, rfl, ?_⟩) | ((with_reducible refine gate_callee (f := 205) rfl ?_); refine gl_ 10 Try.func205 #[.int .i64 a1] ?_; (with_reducible refine (cmp_isNaN_int64.calls a1 false _ A4.out).mono ?_); rintro e w' ⟨rfl, ⟨nd, rfl⟩⟩; refine ⟨_, rfl, ?_⟩))
    go_ret
    exact dsq
   ·rw [if_neg c8] at H
    have c8b0 : decide (a0 < a1) = false := decide_eq_false c8
    clear c8
    by_cases c9 : a0 > a1
    ·rw [if_pos c9] at H
     have c9b0 : decide (a1 < a0) = true := decide_eq_true c9
     clear c9
     obtain rfl := Option.some.inj H
     go_enter Try.func180, Try.ntmps180
     go_wp2_with (first | ((with_reducible refine gate_callee (f := 205) rfl ?_); refine gl_ 8 Try.func205 #[.int .i64 a0] ?_; (with_reducible refine (cmp_isNaN_int64.calls a0 false _ A3.out).mono ?_); rintro e w' ⟨rfl, ⟨nd, rfl⟩⟩; refine ⟨_, rfl, ?_⟩) | ((with_reducible refine gate_callee (f := 205) rfl ?_); refine gl_ 10 Try.func205 #[.int .i64 a1] ?_; (with_reducible refine (cmp_isNaN_int64.calls a1 false _ A4.out).mono ?_); rintro e w' ⟨rfl, ⟨nd, rfl⟩⟩; refine ⟨_, rfl, ?_⟩))
     go_ret
     exact dsq
    ·rw [if_neg c9] at H
     have c9b0 : decide (a1 < a0) = false := decide_eq_false c9
     clear c9
     obtain rfl := Option.some.inj H
     go_enter Try.func180, Try.ntmps180
     go_wp2_with (first | ((with_reducible refine gate_callee (f := 205) rfl ?_); refine gl_ 8 Try.func205 #[.int .i64 a0] ?_; (with_reducible refine (cmp_isNaN_int64.calls a0 false _ A3.out).mono ?_); rintro e w' ⟨rfl, ⟨nd, rfl⟩⟩; refine ⟨_, rfl, ?_⟩) | ((with_reducible refine gate_callee (f := 205) rfl ?_); refine gl_ 10 Try.func205 #[.int .i64 a1] ?_; (with_reducible refine (cmp_isNaN_int64.calls a1 false _ A4.out).mono ?_); rintro e w' ⟨rfl, ⟨nd, rfl⟩⟩; refine ⟨_, rfl, ?_⟩))
     go_ret
     exact dsq

-- NOT PRINTED: function 179 (impl_searchPulses_2)

end Go.Proofs.Ythehhncokikgcaa.PFnExactMakeFrame
