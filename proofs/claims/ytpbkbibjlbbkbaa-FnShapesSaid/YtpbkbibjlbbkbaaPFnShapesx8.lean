-- Contracts of the functions that the law reaches, written by wip/xprint.py of this repo.
import Derived.Test.YtpbkbibjlbbkbaaPFnShapesx0
import Derived.Test.YtpbkbibjlbbkbaaPFnShapesx1
namespace Go.Proofs.Ytpbkbibjlbbkbaa.PFnShapes
open Go.RowKit Go.Proofs.YtpbkbibjlbbkbaaW.PrintWords Go.Proofs.YtpbkbibjlbbkbaaW.PrintLast Go.Proofs.YtpbkbibjlbbkbaaW.PrintMore
attribute [local go_sem] max2_int min2_int max_two min_two max_three min_three max_four min_four   -- for this text's walks alone
set_option linter.unusedVariables false
set_option linter.unusedSimpArgs false

/-! ### impl_IsWithin: function 73 -/
mutual
def impl_IsWithin.j0 : Nat → List Int → List Int → List Int → Bool → Option (Bool)
 | 0, _, _, _, _ => none
 | k + 1, x0, x1, x2, x29 => if x29 = true then (some false) else (impl_IsWithin.l0 k x0 x1 x2 (x0.length : Int) 0)
def impl_IsWithin.l0 : Nat → List Int → List Int → List Int → Int → Int → Option (Bool)
 | 0, _, _, _, _, _ => none
 | k + 1, x0, x1, x2, x31, x32 => if x32 < x31 then (if 0 ≤ x32 then (if x32 < (x0.length : Int) then (if x32 < (x1.length : Int) then ((impl_abs.f (wrap64 ((rd x0 x32) - (rd x1 x32)))).bind fun t335 => (if x32 < (x2.length : Int) then (if t335 > (rd x2 x32) then (some false) else (impl_IsWithin.l0 k x0 x1 x2 x31 (wrap64 (x32 + 1)))) else (none))) else (none)) else (none)) else (none)) else (some true)
end
def impl_IsWithin.f (k : Nat) (l0 : List Int) (l1 : List Int) (l2 : List Int) : Option (Bool) := if (l0.length : Int) = (l1.length : Int) then (if (l0.length : Int) = (l2.length : Int) then ((impl_allWithin.f l0 1099511627776).bind fun t331 => (if t331 = true then ((impl_allWithin.f l1 1099511627776).bind fun t332 => (impl_IsWithin.j0 k l0 l1 l2 (!t332))) else (impl_IsWithin.j0 k l0 l1 l2 true))) else (impl_IsWithin.j0 k l0 l1 l2 true)) else (impl_IsWithin.j0 k l0 l1 l2 true)
theorem impl_IsWithin.mono_l : ∀ k, (∀ y0 y1 y2 y3, LeO (impl_IsWithin.j0 k y0 y1 y2 y3) (impl_IsWithin.j0 (k + 1) y0 y1 y2 y3)) ∧ (∀ y0 y1 y2 y3 y4, LeO (impl_IsWithin.l0 k y0 y1 y2 y3 y4) (impl_IsWithin.l0 (k + 1) y0 y1 y2 y3 y4))
 | 0 => ⟨fun _ _ _ _ r h => by simp [impl_IsWithin.j0] at h, fun _ _ _ _ _ r h => by simp [impl_IsWithin.l0] at h⟩
 | k + 1 => by
  obtain ⟨ih0, ih1⟩ := impl_IsWithin.mono_l k
  refine ⟨?_, ?_⟩
  ·intro y0 y1 y2 y3
   unfold impl_IsWithin.j0
   repeat' first
   | (with_reducible exact ih0 _ _ _ _)
   | (with_reducible exact ih1 _ _ _ _ _)
   | (with_reducible exact LeO.refl _)
   | (with_reducible exact LeO.none _)
   | (with_reducible refine LeO.ite ?_ ?_)
   | (with_reducible refine LeO.bind ?_ (fun _ => ?_))
   | exact ih0 _ _ _ _
   | exact ih1 _ _ _ _ _
   | exact LeO.none _
   | refine LeO.ite ?_ ?_
   | refine LeO.bind ?_ (fun _ => ?_)
  ·intro y0 y1 y2 y3 y4
   unfold impl_IsWithin.l0
   repeat' first
   | (with_reducible exact ih0 _ _ _ _)
   | (with_reducible exact ih1 _ _ _ _ _)
   | (with_reducible exact LeO.refl _)
   | (with_reducible exact LeO.none _)
   | (with_reducible refine LeO.ite ?_ ?_)
   | (with_reducible refine LeO.bind ?_ (fun _ => ?_))
   | exact ih0 _ _ _ _
   | exact ih1 _ _ _ _ _
   | exact LeO.none _
   | refine LeO.ite ?_ ?_
   | refine LeO.bind ?_ (fun _ => ?_)
theorem impl_IsWithin.mono : ∀ a0 a1 a2 k, LeO (impl_IsWithin.f k a0 a1 a2) (impl_IsWithin.f (k + 1) a0 a1 a2) := by
 intro a0 a1 a2 k
 obtain ⟨ih0, ih1⟩ := impl_IsWithin.mono_l k
 unfold impl_IsWithin.f
 repeat' first
   | (with_reducible exact ih0 _ _ _ _)
   | (with_reducible exact ih1 _ _ _ _ _)
   | (with_reducible exact LeO.refl _)
   | (with_reducible exact LeO.none _)
   | (with_reducible refine LeO.ite ?_ ?_)
   | (with_reducible refine LeO.bind ?_ (fun _ => ?_))
   | exact ih0 _ _ _ _
   | exact ih1 _ _ _ _ _
   | exact LeO.none _
   | refine LeO.ite ?_ ?_
   | refine LeO.bind ?_ (fun _ => ?_)
def impl_IsWithin.T6 : Bool × List (List Nat × List Nat) := (true, [([], []), ([], []), ([0, 1], [0, 1]), ([2], [2]), ([], []), ([], []), ([4, 5], [4, 5]), ([6], [6]), ([3, 7], [3, 7]), ([8], [8]), ([], []), ([], []), ([10, 11], [10, 11]), ([12], [12]), ([9, 13], [9, 13])])
def impl_IsWithin.B6 : List Nat := [0, 0, 3, 7, 0, 0, 48, 112, 255, 511, 0, 0, 3072, 7168, 16383]
theorem impl_IsWithin.tab6 : rtab .any (opsOf Try.f73 6) = impl_IsWithin.T6 := by kernel_rfl
theorem impl_IsWithin.bits6 : waitsOk impl_IsWithin.T6.2 impl_IsWithin.B6 = true := by kernel_rfl
set_option maxHeartbeats 8000000 in
set_option maxRecDepth 100000 in
theorem impl_IsWithin.calls (k : Nat) (A0 : Option Addr) (c0 : Nat) (l0 : List Int) (A1 : Option Addr) (c1 : Nat) (l1 : List Int) (A2 : Option Addr) (c2 : Nat) (l2 : List Int) (r : Bool) (w : World) (hr0 : Kd.C (Kd.int .i64) w A0 l0.length l0) (hc0 : l0.length ≤ c0) (hr1 : Kd.C (Kd.int .i64) w A1 l1.length l1) (hc1 : l1.length ≤ c1) (hr2 : Kd.C (Kd.int .i64) w A2 l2.length l2) (hc2 : l2.length ≤ c2) (h : impl_IsWithin.f k l0 l1 l2 = some r) :
  Calls Try.prog 73 #[.slice A0 l0.length c0, .slice A1 l1.length c1, .slice A2 l2.length c2] w fun e w' => e = .returned (.bool r) ∧ Below w.heap.size w w' := by
 have HR0 := Aside0.mk hr0
 have HC0 := Aside0.mk hc0
 clear hr0 hc0
 have HR1 := Aside0.mk hr1
 have HC1 := Aside0.mk hc1
 clear hr1 hc1
 have HR2 := Aside0.mk hr2
 have HC2 := Aside0.mk hc2
 clear hr2 hc2
 have HB := Aside0.mk (Below.refl w.heap.size w)
 have H : (if (l0.length : Int) = (l1.length : Int) then (if (l0.length : Int) = (l2.length : Int) then ((impl_allWithin.f l0 1099511627776).bind fun t331 => (if t331 = true then ((impl_allWithin.f l1 1099511627776).bind fun t332 => (impl_IsWithin.j0 k l0 l1 l2 (!t332))) else (impl_IsWithin.j0 k l0 l1 l2 true))) else (impl_IsWithin.j0 k l0 l1 l2 true)) else (impl_IsWithin.j0 k l0 l1 l2 true)) = some r := h
 clear h
 have HC4 := Aside0.mk H
 clear H
 go_enter Try.func73, Try.ntmps73
 go_upto_region 1 with (fail)
 go_cut [29] (fun v29 wc => ∃ (kq : Nat) (x29_3 : Bool), v29 = .bool x29_3 ∧ Aside0 (impl_IsWithin.j0 kq l0 l1 l2 x29_3 = some r) ∧ Aside0 (kq ≤ k) ∧ Aside0 (Below w.heap.size w wc))
 case first =>
  have H := HC4.out
  clear HC4
  by_cases c5 : (l0.length : Int) = (l1.length : Int)
  ·rw [if_pos c5] at H
   have c5b0 : ((l0.length : Int) == (l1.length : Int)) = true := beq_iff_eq.mpr c5
   have c5b1 : ((l0.length : Int) != (l1.length : Int)) = false := bne_eq_false_iff_eq.mpr c5
   have c5b2 : (l0.length == l1.length) = true := by first | simpa using c5 | (simp at c5 ⊢; omega)
   clear c5
   (first | rw [c5b0] | (simp only [i64_w, i32_w]; rw [c5b0]) | skip)
   by_cases c6 : (l0.length : Int) = (l2.length : Int)
   ·rw [if_pos c6] at H
    have c6b0 : ((l0.length : Int) == (l2.length : Int)) = true := beq_iff_eq.mpr c6
    have c6b1 : ((l0.length : Int) != (l2.length : Int)) = false := bne_eq_false_iff_eq.mpr c6
    have c6b2 : (l0.length == l2.length) = true := by first | simpa using c6 | (simp at c6 ⊢; omega)
    clear c6
    replace H := bnd H
    obtain ⟨t331, A7, H⟩ := H
    by_cases c8 : t331 = true
    ·subst c8
     replace H : ((impl_allWithin.f l1 1099511627776).bind fun t332 => (impl_IsWithin.j0 k l0 l1 l2 (!t332))) = some r := by rw [if_pos rfl] at H; exact H
     replace H := bnd H
     obtain ⟨t332, A9, H⟩ := H
     have H' := Aside0.mk H
     clear H
     go_wp2_with (first | (go_at_call 121; (with_reducible refine (impl_allWithin.calls _ _ l0 1099511627776 true _ ?_ ?_ A7.out).mono ?_); exact cpl HR0.out; exact HC0.out; rintro e w10 ⟨rfl, hb⟩; replace HB := hbs hb; (try clear hb); (try clear A7)) | (go_at_call 121; (with_reducible refine (impl_allWithin.calls _ _ l1 1099511627776 t332 _ ?_ ?_ A9.out).mono ?_); exact cpl HR1.out; exact HC1.out; rintro e w11 ⟨rfl, hb⟩; replace HB := hbs hb; (try clear hb); (try clear A9)))
     go_meet
     case rel => exact ⟨_, (!t332), rq, H', ⟨by first | omega | exact Nat.le_refl _⟩, ⟨bnw⟩⟩
    ·replace c8 := Bool.eq_false_iff.mpr c8
     subst c8
     replace H : (impl_IsWithin.j0 k l0 l1 l2 true) = some r := by rw [if_neg (show ¬ (false = true) by decide)] at H; exact H
     have H' := Aside0.mk H
     clear H
     go_wp2_with (first | (go_at_call 121; (with_reducible refine (impl_allWithin.calls _ _ l0 1099511627776 false _ ?_ ?_ A7.out).mono ?_); exact cpl HR0.out; exact HC0.out; rintro e w12 ⟨rfl, hb⟩; replace HB := hbs hb; (try clear hb)))
     go_meet
     case rel => exact ⟨_, (true), rq, H', ⟨by first | omega | exact Nat.le_refl _⟩, ⟨bnw⟩⟩
   ·rw [if_neg c6] at H
    have c6b0 : ((l0.length : Int) == (l2.length : Int)) = false := beq_eq_false_iff_ne.mpr c6
    have c6b1 : ((l0.length : Int) != (l2.length : Int)) = true := bne_iff_ne.mpr c6
    have c6b2 : (l0.length == l2.length) = false := by first | simpa using c6 | (simp at c6 ⊢; omega)
    have H' := Aside0.mk H
    clear H
    go_wp2
    go_meet
    case rel => exact ⟨_, (true), rq, H', ⟨by first | omega | exact Nat.le_refl _⟩, ⟨bnw⟩⟩
  ·rw [if_neg c5] at H
   have c5b0 : ((l0.length : Int) == (l1.length : Int)) = false := beq_eq_false_iff_ne.mpr c5
   have c5b1 : ((l0.length : Int) != (l1.length : Int)) = true := bne_iff_ne.mpr c5
   have c5b2 : (l0.length == l1.length) = false := by first | simpa using c5 | (simp at c5 ⊢; omega)
   (first | rw [c5b0] | (simp only [i64_w, i32_w]; rw [c5b0]) | skip)
   have H' := Aside0.mk H
   clear H
   go_wp2
   go_meet
   case rel => exact ⟨_, (true), rq, H', ⟨by first | omega | exact Nat.le_refl _⟩, ⟨bnw⟩⟩
 case rest =>
  clear HC4
  try clear c1
  try clear c2
  try clear p2
  try clear c5
  try clear c5b0
  try clear c5b1
  try clear c5b2
  try clear c6
  try clear c6b0
  try clear c6b1
  try clear c6b2
  try clear c7
  try clear c8
  obtain ⟨kq, x29_3, rfl, HA, HJ3, HB⟩ := hcut
  cases kq with
  | zero => exact absurd HA.out (by simp [impl_IsWithin.j0])
  | succ kj3 =>
   have H := HA.out
   clear HA
   simp only [impl_IsWithin.j0] at H
   by_cases c13 : x29_3 = true
   ·subst c13
    replace H : (some false) = some r := by rw [if_pos rfl] at H; exact H
    obtain rfl := Option.some.inj H
    go_wp2
    go_ret
    exact ⟨enq, bnw⟩
   ·replace c13 := Bool.eq_false_iff.mpr c13
    subst c13
    replace H : (impl_IsWithin.l0 kj3 l0 l1 l2 (l0.length : Int) 0) = some r := by rw [if_neg (show ¬ (false = true) by decide)] at H; exact H
    have H' := Aside0.mk H
    clear H
    go_wp2
    go_loopg [32] kj3 (fun kq v32 w' => ∃ (x32_2 : Int), v32 = .int .i64 x32_2 ∧ Aside0 (impl_IsWithin.l0 kq l0 l1 l2 (l0.length : Int) x32_2 = some r) ∧ Aside0 (kq ≤ kj3) ∧ Aside0 (Below w.heap.size w w'))
    case atStart => exact ⟨(0), rq, H', ⟨Nat.le_refl _⟩, ⟨bnw⟩⟩
    case round =>
     clear H'
     try clear c1
     try clear c2
     try clear p2
     try clear c5
     try clear c5b0
     try clear c5b1
     try clear c5b2
     try clear c6
     try clear c6b0
     try clear c6b1
     try clear c6b2
     try clear c7
     try clear c8
     try clear c13
     try clear p2
     obtain ⟨x32_2, rfl, HA, HK2, HB⟩ := hrel
     cases gk with
     | zero => exact absurd HA.out (by simp [impl_IsWithin.l0])
     | succ k2 =>
      have H := HA.out
      clear HA
      simp only [impl_IsWithin.l0] at H
      by_cases c14 : x32_2 < (l0.length : Int)
      ·rw [if_pos c14] at H
       have c14b0 : decide (x32_2 < (l0.length : Int)) = true := decide_eq_true c14
       clear c14
       by_cases c15 : 0 ≤ x32_2
       ·rw [if_pos c15] at H
        have c15b0 : decide (0 ≤ x32_2) = true := decide_eq_true c15
        clear c15
        by_cases c16 : x32_2 < (l0.length : Int)
        ·rw [if_pos c16] at H
         have c16b0 : decide (x32_2 < (l0.length : Int)) = true := decide_eq_true c16
         clear c16
         by_cases c17 : x32_2 < (l1.length : Int)
         ·rw [if_pos c17] at H
          have c17b0 : decide (x32_2 < (l1.length : Int)) = true := decide_eq_true c17
          clear c17
          replace H := bnd H
          obtain ⟨t335, A18, H⟩ := H
          by_cases c19 : x32_2 < (l2.length : Int)
          ·rw [if_pos c19] at H
           have c19b0 : decide (x32_2 < (l2.length : Int)) = true := decide_eq_true c19
           clear c19
           by_cases c20 : t335 > (rd l2 x32_2)
           ·rw [if_pos c20] at H
            have c20b0 : decide ((rd l2 x32_2) < t335) = true := decide_eq_true c20
            clear c20
            obtain rfl := Option.some.inj H
            try go_wp2
            replace HB := am (below_drew1 HB.out)
            have p333 : 0 ≤ (x32_2 : Int) := dta
            have q333 : x32_2 < (l0.length : Int) := dta
            obtain ⟨ad333, e333, hx333_0⟩ := Kd.at_int HR0.out x32_2 p333 q333
            have hw333_0 := hx333_0
            cases e333
            replace hx333_0 := (HB.out.cell (World.block_lt_of_cell? w _ hx333_0)).trans hx333_0
            replace p333 := eq_true p333
            replace q333 := eq_true q333
            have p334 : 0 ≤ (x32_2 : Int) := dta
            have q334 : x32_2 < (l1.length : Int) := dta
            obtain ⟨ad334, e334, hx334_0⟩ := Kd.at_int HR1.out x32_2 p334 q334
            have hw334_0 := hx334_0
            cases e334
            replace hx334_0 := (HB.out.cell (World.block_lt_of_cell? w _ hx334_0)).trans hx334_0
            replace p334 := eq_true p334
            replace q334 := eq_true q334
            have p336 : 0 ≤ (x32_2 : Int) := dta
            have q336 : x32_2 < (l2.length : Int) := dta
            obtain ⟨ad336, e336, hx336_0⟩ := Kd.at_int HR2.out x32_2 p336 q336
            have hw336_0 := hx336_0
            cases e336
            replace hx336_0 := (HB.out.cell (World.block_lt_of_cell? w _ hx336_0)).trans hx336_0
            replace p336 := eq_true p336
            replace q336 := eq_true q336
            refine start_ (n := 15) (S := fun w' => w'.cell? (ad333.add (x32_2).toNat) = some (.int .i64 (rd l0 x32_2)) ∧ w'.cell? (ad334.add (x32_2).toNat) = some (.int .i64 (rd l1 x32_2)) ∧ w'.cell? (ad336.add (x32_2).toNat) = some (.int .i64 (rd l2 x32_2))) (ds := []) #[false, false, false, false, false, false, false, false, false, false, false, false, false, false, false] (by kernel_rfl) rfl rfl ⟨((HB.out.cell (World.block_lt_of_cell? w _ hw333_0)).trans hw333_0), ((HB.out.cell (World.block_lt_of_cell? w _ hw334_0)).trans hw334_0), ((HB.out.cell (World.block_lt_of_cell? w _ hw336_0)).trans hw336_0)⟩ (fun hHeld => ?_); refine with_tabW impl_IsWithin.tab6 impl_IsWithin.bits6 (fun HT_ HW_ => ?_)
            generalize wr.drew = w21 at HB hx333_0 hx334_0 hx336_0 hHeld ⊢
            refine pu_ 0 35 HT_ ?_
            refine pu_ 1 36 HT_ ?_
            refine pu_ 2 37 HT_ ?_
            refine pu_ 4 39 HT_ ?_
            refine pu_ 5 40 HT_ ?_
            refine pu_ 6 41 HT_ ?_
            refine pu_ 10 45 HT_ ?_
            refine pu_ 11 46 HT_ ?_
            refine pu_ 12 47 HT_ ?_
            refine tk_ 3 38 HT_ HW_ hHeld ?_
            refine tk_ 7 42 HT_ HW_ hHeld ?_
            refine pu_ 8 43 HT_ ?_
            refine tk_ 13 48 HT_ HW_ hHeld ?_
            refine on_ 9 HT_ (fun K hK => ?_)
            refine gs_ Try.func162 #[.int .i64 (wrap64 ((rd l0 x32_2) - (rd l1 x32_2)))] ?_
            with_reducible refine (impl_abs.calls (wrap64 ((rd l0 x32_2) - (rd l1 x32_2))) t335 _ A18.out).mono ?_
            rintro e w22 ⟨rfl, hb⟩
            refine ⟨_, rfl, ?_⟩
            replace HB := hbs hb
            (try clear hb)
            refine hK.out _ _ ⟨((HB.out.cell (World.block_lt_of_cell? w _ hw333_0)).trans hw333_0), ((HB.out.cell (World.block_lt_of_cell? w _ hw334_0)).trans hw334_0), ((HB.out.cell (World.block_lt_of_cell? w _ hw336_0)).trans hw336_0)⟩ (fun hHeld => ?_)
            clear hK K
            refine nm_ 44 ?_
            refine pu_ 14 49 HT_ ?_
            refine done_ (done_of HT_.out (by kernel_rfl)) ?_
            try go_wp2
            go_ret
            exact ⟨enq, bnw⟩
           ·rw [if_neg c20] at H
            have c20b0 : decide ((rd l2 x32_2) < t335) = false := decide_eq_false c20
            clear c20
            have H' := Aside0.mk H
            clear H
            try go_wp2
            replace HB := am (below_drew1 HB.out)
            have p333 : 0 ≤ (x32_2 : Int) := dta
            have q333 : x32_2 < (l0.length : Int) := dta
            obtain ⟨ad333, e333, hx333_0⟩ := Kd.at_int HR0.out x32_2 p333 q333
            have hw333_0 := hx333_0
            cases e333
            replace hx333_0 := (HB.out.cell (World.block_lt_of_cell? w _ hx333_0)).trans hx333_0
            replace p333 := eq_true p333
            replace q333 := eq_true q333
            have p334 : 0 ≤ (x32_2 : Int) := dta
            have q334 : x32_2 < (l1.length : Int) := dta
            obtain ⟨ad334, e334, hx334_0⟩ := Kd.at_int HR1.out x32_2 p334 q334
            have hw334_0 := hx334_0
            cases e334
            replace hx334_0 := (HB.out.cell (World.block_lt_of_cell? w _ hx334_0)).trans hx334_0
            replace p334 := eq_true p334
            replace q334 := eq_true q334
            have p336 : 0 ≤ (x32_2 : Int) := dta
            have q336 : x32_2 < (l2.length : Int) := dta
            obtain ⟨ad336, e336, hx336_0⟩ := Kd.at_int HR2.out x32_2 p336 q336
            have hw336_0 := hx336_0
            cases e336
            replace hx336_0 := (HB.out.cell (World.block_lt_of_cell? w _ hx336_0)).trans hx336_0
            replace p336 := eq_true p336
            replace q336 := eq_true q336
            refine start_ (n := 15) (S := fun w' => w'.cell? (ad333.add (x32_2).toNat) = some (.int .i64 (rd l0 x32_2)) ∧ w'.cell? (ad334.add (x32_2).toNat) = some (.int .i64 (rd l1 x32_2)) ∧ w'.cell? (ad336.add (x32_2).toNat) = some (.int .i64 (rd l2 x32_2))) (ds := []) #[false, false, false, false, false, false, false, false, false, false, false, false, false, false, false] (by kernel_rfl) rfl rfl ⟨((HB.out.cell (World.block_lt_of_cell? w _ hw333_0)).trans hw333_0), ((HB.out.cell (World.block_lt_of_cell? w _ hw334_0)).trans hw334_0), ((HB.out.cell (World.block_lt_of_cell? w _ hw336_0)).trans hw336_0)⟩ (fun hHeld => ?_); refine with_tabW impl_IsWithin.tab6 impl_IsWithin.bits6 (fun HT_ HW_ => ?_)
            generalize wr.drew = w23 at HB hx333_0 hx334_0 hx336_0 hHeld ⊢
            refine pu_ 0 35 HT_ ?_
            refine pu_ 1 36 HT_ ?_
            refine pu_ 2 37 HT_ ?_
            refine pu_ 4 39 HT_ ?_
            refine pu_ 5 40 HT_ ?_
            refine pu_ 6 41 HT_ ?_
            refine pu_ 10 45 HT_ ?_
            refine pu_ 11 46 HT_ ?_
            refine pu_ 12 47 HT_ ?_
            refine tk_ 3 38 HT_ HW_ hHeld ?_
            refine tk_ 7 42 HT_ HW_ hHeld ?_
            refine pu_ 8 43 HT_ ?_
            refine tk_ 13 48 HT_ HW_ hHeld ?_
            refine on_ 9 HT_ (fun K hK => ?_)
            refine gs_ Try.func162 #[.int .i64 (wrap64 ((rd l0 x32_2) - (rd l1 x32_2)))] ?_
            with_reducible refine (impl_abs.calls (wrap64 ((rd l0 x32_2) - (rd l1 x32_2))) t335 _ A18.out).mono ?_
            rintro e w24 ⟨rfl, hb⟩
            refine ⟨_, rfl, ?_⟩
            replace HB := hbs hb
            (try clear hb)
            refine hK.out _ _ ⟨((HB.out.cell (World.block_lt_of_cell? w _ hw333_0)).trans hw333_0), ((HB.out.cell (World.block_lt_of_cell? w _ hw334_0)).trans hw334_0), ((HB.out.cell (World.block_lt_of_cell? w _ hw336_0)).trans hw336_0)⟩ (fun hHeld => ?_)
            clear hK K
            refine nm_ 44 ?_
            refine pu_ 14 49 HT_ ?_
            refine done_ (done_of HT_.out (by kernel_rfl)) ?_
            try go_wp2
            go_roundg k2
            case measure => have := HJ3.out; have := HK2.out; omega
            case rel => exact ⟨(wrap64 (x32_2 + 1)), rq, H', ⟨by have := HJ3.out; have := HK2.out; omega⟩, ⟨bnw⟩⟩
          ·rw [if_neg c19] at H
           exact absurd H (by simp)
         ·rw [if_neg c17] at H
          exact absurd H (by simp)
        ·rw [if_neg c16] at H
         exact absurd H (by simp)
       ·rw [if_neg c15] at H
        exact absurd H (by simp)
      ·rw [if_neg c14] at H
       have c14b0 : decide (x32_2 < (l0.length : Int)) = false := decide_eq_false c14
       clear c14
       obtain rfl := Option.some.inj H
       go_wp2
       go_ret
       exact ⟨enq, bnw⟩

end Go.Proofs.Ytpbkbibjlbbkbaa.PFnShapes
