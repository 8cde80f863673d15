-- Contracts of the functions that the law reaches, written by wip/xprint.py of this repo.
import Derived.Test.YtoepnammegcjeaaPFnExactReadHeadx0
import Derived.Test.YtoepnammegcjeaaPFnExactReadHeadx1
namespace Go.Proofs.Ytoepnammegcjeaa.PFnExactReadHead
open Go.RowKit Go.Proofs.YtoepnammegcjeaaW.PrintWords Go.Proofs.YtoepnammegcjeaaW.PrintLast Go.Proofs.YtoepnammegcjeaaW.PrintMore
attribute [local go_sem] max2_int min2_int max_two min_two max_three min_three max_four min_four   -- for this text's walks alone
set_option linter.unusedVariables false
set_option linter.unusedSimpArgs false

/-! ### spec_OpenBytes: function 102 -/
def spec_OpenBytes.j0 : Nat → List Int → Int → Bool → Option (Int × List Int)
 | 0, _, _, _ => none
 | k + 1, x0, x3, x11 => if x11 = true then (some (2, ([] : List Int))) else (if 0 ≤ (wrap64 (x3 - 2)) then (if (wrap64 (x3 - 2)) ≤ (x0.length : Int) then ((spec_l2Seal.f k (x0.take ((wrap64 (x3 - 2)) : Int).toNat)).bind fun t120 => (if (strOfNums t120).toList = (strOfNums x0).toList then ((spec_l1Copy.f (x0.take ((wrap64 (x3 - 2)) : Int).toNat)).bind fun t124 => (some (0, t124))) else (some (10, ([] : List Int))))) else (none)) else (none))
def spec_OpenBytes.f (k : Nat) (l0 : List Int) : Option (Int × List Int) := if (l0.length : Int) < 2 then (spec_OpenBytes.j0 k l0 (l0.length : Int) true) else (spec_OpenBytes.j0 k l0 (l0.length : Int) (decide ((l0.length : Int) > 160)))
theorem spec_OpenBytes.mono_l : ∀ k, (∀ y0 y1 y2, LeO (spec_OpenBytes.j0 k y0 y1 y2) (spec_OpenBytes.j0 (k + 1) y0 y1 y2))
 | 0 => fun _ _ _ r h => by simp [spec_OpenBytes.j0] at h
 | k + 1 => by
  have ih0 := spec_OpenBytes.mono_l k
  ·intro y0 y1 y2
   unfold spec_OpenBytes.j0
   repeat' first
   | (with_reducible exact ih0 _ _ _)
   | (with_reducible exact spec_l2Seal.mono _ _)
   | (with_reducible exact LeO.refl _)
   | (with_reducible exact LeO.none _)
   | (with_reducible refine LeO.ite ?_ ?_)
   | (with_reducible refine LeO.bind ?_ (fun _ => ?_))
   | exact ih0 _ _ _
   | exact spec_l2Seal.mono _ _
   | exact LeO.none _
   | refine LeO.ite ?_ ?_
   | refine LeO.bind ?_ (fun _ => ?_)
theorem spec_OpenBytes.mono : ∀ a0 k, LeO (spec_OpenBytes.f k a0) (spec_OpenBytes.f (k + 1) a0) := by
 intro a0 k
 have ih0 := spec_OpenBytes.mono_l k
 unfold spec_OpenBytes.f
 repeat' first
   | (with_reducible exact ih0 _ _ _)
   | (with_reducible exact spec_l2Seal.mono _ _)
   | (with_reducible exact LeO.refl _)
   | (with_reducible exact LeO.none _)
   | (with_reducible refine LeO.ite ?_ ?_)
   | (with_reducible refine LeO.bind ?_ (fun _ => ?_))
   | exact ih0 _ _ _
   | exact spec_l2Seal.mono _ _
   | exact LeO.none _
   | refine LeO.ite ?_ ?_
   | refine LeO.bind ?_ (fun _ => ?_)
def spec_OpenBytes.T4 : Bool × List (List Nat × List Nat) := (true, [([], []), ([], []), ([1], [1]), ([0, 2], [0, 2]), ([3], [3]), ([4], [4]), ([], []), ([6], [6]), ([5, 7], [5, 7])])
def spec_OpenBytes.B4 : List Nat := [0, 0, 2, 7, 15, 31, 0, 64, 255]
theorem spec_OpenBytes.tab4 : rtab .any (opsOf Try.f102 4) = spec_OpenBytes.T4 := by kernel_rfl
theorem spec_OpenBytes.bits4 : waitsOk spec_OpenBytes.T4.2 spec_OpenBytes.B4 = true := by kernel_rfl
set_option maxHeartbeats 8000000 in
set_option maxRecDepth 100000 in
theorem spec_OpenBytes.calls (k : Nat) (A0 : Option Addr) (c0 : Nat) (l0 : List Int) (r1 : Int) (r2 : List Int) (w : World) (hr0 : Kd.C (Kd.int .u8) w A0 l0.length l0) (hc0 : l0.length ≤ c0) (h : spec_OpenBytes.f k l0 = some (r1, r2)) :
  Calls Try.prog 102 #[.slice A0 l0.length c0] w fun e w' => ∃ v1_ : Value, e = .returned (.agg #[.int .i64 r1, v1_]) ∧ Kd.R (Kd.int .u8) 5 w' w.heap.size (fun _ => True) v1_ r2 ∧ Below w.heap.size w w' := by
 have hu108 := Try.underlying108
 have HR0 := Aside0.mk hr0
 have HC0 := Aside0.mk hc0
 clear hr0 hc0
 have HB := Aside0.mk (Below.refl w.heap.size w)
 have H : (if (l0.length : Int) < 2 then (spec_OpenBytes.j0 k l0 (l0.length : Int) true) else (spec_OpenBytes.j0 k l0 (l0.length : Int) (decide ((l0.length : Int) > 160)))) = some (r1, r2) := h
 clear h
 have HC2 := Aside0.mk H
 clear H
 go_enter Try.func102, Try.ntmps102
 go_upto_region 2 with (first | ((with_reducible refine gate_dst (N := 2) rfl ?_); refine bev 2 108 #[.int .i64 0, .slice none 0 0] ?_; intro gb118 hg w3 hbox hb; have BK118 := am hbox; have GW118 := gwe hg; have GE118 := gwe hg; replace HB := hbs hb; clear hb hbox hg))
 (try simp only [Act.put, List.setIfInBounds_toArray, List.set_cons_zero, List.set_cons_succ])
 go_cut [11] (fun v11 wc => ∃ (kq : Nat) (x11_1 : Bool), v11 = .bool x11_1 ∧ Aside0 (spec_OpenBytes.j0 kq l0 (l0.length : Int) x11_1 = some (r1, r2)) ∧ Aside0 (kq ≤ k) ∧ Aside0 (wc.heap[gb118]? = some (.cells #[.int .i64 0, (.slice none 0 0)] 108 (0, 0))) ∧ Aside0 (Below w.heap.size w wc))
 case first =>
  have H := HC2.out
  clear HC2
  by_cases c4 : (l0.length : Int) < 2
  ·rw [if_pos c4] at H
   have c4b0 : decide ((l0.length : Int) < 2) = true := decide_eq_true c4
   have c4b1 : decide (l0.length < 2) = true := decide_eq_true (by omega)
   clear c4
   (first | rw [c4b0] | (simp only [i64_w, i32_w]; rw [c4b0]) | skip)
   have H' := Aside0.mk H
   clear H
   go_wp2
   go_meet
   case rel => exact ⟨_, (true), rq, H', ⟨by first | omega | exact Nat.le_refl _⟩, ⟨bpl BK118.out⟩, ⟨bnx⟩⟩
  ·rw [if_neg c4] at H
   have c4b0 : decide ((l0.length : Int) < 2) = false := decide_eq_false c4
   have c4b1 : decide (l0.length < 2) = false := decide_eq_false (by omega)
   clear c4
   (first | rw [c4b0] | (simp only [i64_w, i32_w]; rw [c4b0]) | skip)
   have H' := Aside0.mk H
   clear H
   go_wp2
   go_meet
   case rel => exact ⟨_, (decide ((l0.length : Int) > 160)), rq, H', ⟨by first | omega | exact Nat.le_refl _⟩, ⟨bpl BK118.out⟩, ⟨bnx⟩⟩
 case rest =>
  clear HC2
  try clear c1
  try clear p2
  try clear c4
  try clear c4b0
  try clear c4b1
  obtain ⟨kq, x11_1, rfl, HA, HJ1, BK118, HB⟩ := hcut
  cases kq with
  | zero => exact absurd HA.out (by simp [spec_OpenBytes.j0])
  | succ kj1 =>
   have H := HA.out
   clear HA
   simp only [spec_OpenBytes.j0] at H
   by_cases c5 : x11_1 = true
   ·subst c5
    replace H : (some (2, ([] : List Int))) = some (r1, r2) := by rw [if_pos rfl] at H; exact H
    simp only [Option.some.injEq, Prod.mk.injEq] at H
    obtain ⟨rfl, rfl⟩ := H
    obtain ⟨hcz6_0, hcz6_1, hfz6_0, hfz6_1⟩ := cf2 (W := wc) BK118.out
    go_wp2
    refine bodyPost_ret (results_cell_row rfl _ _ gb118 108 #[.int .i64 2, .slice none 0 0] (0, 0) _ rfl (by (with_reducible repeat (first | refine blk_drewN ?_ _ | refine blk_drew ?_ | refine blk_alloc ?_ _)); refine blk_put (cs := #[.int .i64 2, .slice none 0 0]) ?_ 1 _ rfl; refine blk_put (cs := #[.int .i64 0, .slice none 0 0]) ?_ 0 _ rfl; exact bpl BK118.out) Try.underlying108 rfl (by kernel_rfl)) rfl ?_
    exact ⟨_, enq, by first | exact Kd.R_nil _ _ _ _ _ | exact Kd.N_nil _ _ _ _ _ | exact Kd.V_nil _ _ _ _ _ | exact Kd.Q_nil _ _ _ _ _ | exact Kd.S_nil _ _ _ _ _, bnx⟩
   ·replace c5 := Bool.eq_false_iff.mpr c5
    subst c5
    replace H : (if 0 ≤ (wrap64 ((l0.length : Int) - 2)) then (if (wrap64 ((l0.length : Int) - 2)) ≤ (l0.length : Int) then ((spec_l2Seal.f kj1 (l0.take ((wrap64 ((l0.length : Int) - 2)) : Int).toNat)).bind fun t120 => (if (strOfNums t120).toList = (strOfNums l0).toList then ((spec_l1Copy.f (l0.take ((wrap64 ((l0.length : Int) - 2)) : Int).toNat)).bind fun t124 => (some (0, t124))) else (some (10, ([] : List Int))))) else (none)) else (none)) = some (r1, r2) := by rw [if_neg (show ¬ (false = true) by decide)] at H; exact H
    obtain ⟨ji7, hji7⟩ : ∃ j_ : Int, (wrap64 ((l0.length : Int) - 2)) = j_ := ⟨_, rfl⟩
    replace H : (if 0 ≤ (ji7) then (if (ji7) ≤ (l0.length : Int) then ((spec_l2Seal.f kj1 (l0.take ((ji7) : Int).toNat)).bind fun t120 => (if (strOfNums t120).toList = (strOfNums l0).toList then ((spec_l1Copy.f (l0.take ((ji7) : Int).toNat)).bind fun t124 => (some (0, t124))) else (some (10, ([] : List Int))))) else (none)) else (none)) = some (r1, r2) := by first | (rw [hji7] at H; exact H) | (simp only [hji7] at H ⊢; exact H)
    have hji7w : (IntKind.i64.wrap ((l0.length : Int) - 2)) = ji7 := (i64_w _).trans hji7
    by_cases c8 : 0 ≤ (ji7)
    ·rw [if_pos c8] at H
     have c8b0 := eq_true c8
     have c8b1 : decide (0 ≤ (ji7)) = true := decide_eq_true c8
     clear c8
     by_cases c9 : (ji7) ≤ (l0.length : Int)
     ·rw [if_pos c9] at H
      have c9b0 := eq_true c9
      have c9b1 : decide ((ji7) ≤ (l0.length : Int)) = true := decide_eq_true c9
      clear c9
      replace H := bnd H
      obtain ⟨t120, A10, H⟩ := H
      by_cases c11 : (strOfNums t120).toList = (strOfNums l0).toList
      ·rw [if_pos c11] at H
       have c11b0 : ((strOfNums t120).toList == (strOfNums l0).toList) = true := beq_iff_eq.mpr c11
       have c11b1 : ((strOfNums t120).toList != (strOfNums l0).toList) = false := bne_eq_false_iff_eq.mpr c11
       clear c11
       have c12b0 := eq_true (dta : 0 ≤ (ji7))
       have c13b0 := eq_true (dta : (ji7) ≤ (l0.length : Int))
       replace H := bnd H
       obtain ⟨t124, A14, H⟩ := H
       simp only [Option.some.injEq, Prod.mk.injEq] at H
       obtain ⟨rfl, rfl⟩ := H
       try go_wp2
       replace BK118 := am (blk_drew BK118.out)
       replace HB := am (below_drew1 HB.out)
       obtain ⟨i016, hi016, _, hsz16, _⟩ := info_parts info5
       obtain ⟨hcut16, hA16, hC16⟩ := print_take_of (P := Try.prog) (Value.int .u8) 0 22 5 .i64 Try.underlying22 hi016 hsz16 A0 c0 l0 (ji7) (dta) (dta) HC0.out
       have HR119 := Aside0.mk (Kd.C_of_reads (h1 := fun _ => rfl) (hA16 _ (Kd.reads_of_C HR0.out)))
       have HC119 := Aside0.mk hC16
       clear hA16 hC16 hi016 hsz16
       refine start_ (n := 9) (S := fun w' => True) (ds := []) #[false, false, false, false, false, false, false, false, false] (by kernel_rfl) rfl rfl trivial (fun hHeld => ?_); refine with_tabW spec_OpenBytes.tab4 spec_OpenBytes.bits4 (fun HT_ HW_ => ?_)
       generalize wc.drew = w15 at BK118 HB HR119 hHeld ⊢
       refine pu_ 0 13 HT_ ?_
       refine pu_ 1 14 HT_ ?_
       refine pu_ 2 15 HT_ ?_
       refine pu_ 3 16 HT_ ?_
       refine pu_ 6 19 HT_ ?_
       refine join_ (σ := Value) 1 #[true, true, true, true, true, true, true, true, false] (fun s_ => [(17, s_), (18, .string (strOfNums t120)), (20, .string (strOfNums l0))]) (fun s_ w' => (Kd.R (Kd.int .u8) 5 w' w.heap.size (fun _ => True) s_ t120) ∧ (w'.heap[gb118]? = some (.cells #[.int .i64 0, .slice none 0 0] 108 (0, 0))) ∧ (Below w.heap.size w w')) ?_ ?_
       rotate_left
       ·intro hCont
        refine two_ (i := 4) (j := 7) (Ni := some 17) (Nj := some 20) #[true, true, true, true, true, false, true, false, false] #[true, true, true, true, false, false, true, true, false] rfl rfl rfl rfl (two_of HT_.out (by kernel_rfl)) (by decide) (by decide) (fun K hK => ?_) (fun K hK => ?_)
        ·skip
         refine goes_ Try.func149 (by kernel_rfl) rfl #[.slice A0 (l0.take ((ji7) : Int).toNat).length c0] (by rfl) rfl rfl (by (try simp only [List.map_toArray, List.map_cons, List.map_nil]); first | done | (rw [show (l0.take ((ji7) : Int).toNat).length = (ji7).toNat from (by rw [List.length_take]; have h_ : ((ji7) : Int) ≤ (l0.length : Int) := dta; omega)] <;> rfl) | (simp only [hji7]; rfl) | rfl | (simp only [List.length_drop, List.length_take]; rfl)) ?_
         with_reducible refine (spec_l2Seal.calls kj1 _ _ (l0.take ((ji7) : Int).toNat) t120 _ ?_ ?_ A10.out).mono ?_
         exact cpl HR119.out
         exact HC119.out
         rintro e w17 ⟨v121, rfl, ho0, hb⟩
         refine ⟨_, rfl, ?_⟩
         have HO122 := rlw ho0
         replace BK118 := bkb BK118 hb
         replace HB := hbs hb
         (try clear hb)
         (try clear ho0)
         refine hK.out _ _ trivial (fun hHeld => ?_)
         clear hK K
         refine nm_ 17 ?_
         refine two_ (i := 5) (j := 7) (Ni := some 18) (Nj := some 20) #[true, true, true, true, true, true, true, false, false] #[true, true, true, true, true, false, true, true, false] rfl rfl rfl rfl (two_of HT_.out (by kernel_rfl)) (by decide) (by decide) (fun K hK => ?_) (fun K hK => ?_)
         ·skip
          have hcv18 := own_string (P := Try.prog) Try.underlying22 Try.underlying5 Try.underlying9 (Kd.own_of_R HO122.out)
          refine value_ (w1 := ?_) (v := ?_) (by rfl) rfl ?_ ?_
          rotate_left 2
          ·go_simp
           constructor
           ·rfl
           ·rfl
          clear hcv18
          refine hK.out _ _ trivial (fun hHeld => ?_)
          clear hK K
          refine nm_ 18 ?_
          refine on_ 7 HT_ (fun K hK => ?_)
          have hcv19 := Kd.C_string (P := Try.prog) (A := A0) (c := c0) Try.underlying22 Try.underlying5 Try.underlying9 (Kd.C_below HR0.out HB.out)
          refine value_ (w1 := ?_) (v := ?_) (by rfl) rfl ?_ ?_
          rotate_left 2
          ·go_simp
           constructor
           ·rfl
           ·rfl
          clear hcv19
          refine hK.out _ _ trivial (fun hHeld => ?_)
          clear hK K
          refine nm_ 20 ?_
          exact norm_ (by simp only [putAll, Act.put, List.setIfInBounds_toArray, List.set_cons_zero, List.set_cons_succ]) (hCont (v121) _ ⟨(rpl HO122.out), (bpl BK118.out), bnx⟩)
         ·skip
          have hcv18 := Kd.C_string (P := Try.prog) (A := A0) (c := c0) Try.underlying22 Try.underlying5 Try.underlying9 (Kd.C_below HR0.out HB.out)
          refine value_ (w1 := ?_) (v := ?_) (by rfl) rfl ?_ ?_
          rotate_left 2
          ·go_simp
           constructor
           ·rfl
           ·rfl
          clear hcv18
          refine hK.out _ _ trivial (fun hHeld => ?_)
          clear hK K
          refine nm_ 20 ?_
          refine on_ 5 HT_ (fun K hK => ?_)
          have hcv19 := own_string (P := Try.prog) Try.underlying22 Try.underlying5 Try.underlying9 (Kd.own_of_R HO122.out)
          refine value_ (w1 := ?_) (v := ?_) (by rfl) rfl ?_ ?_
          rotate_left 2
          ·go_simp
           constructor
           ·rfl
           ·rfl
          clear hcv19
          refine hK.out _ _ trivial (fun hHeld => ?_)
          clear hK K
          refine nm_ 18 ?_
          exact norm_ (by simp only [putAll, Act.put, List.setIfInBounds_toArray, List.set_cons_zero, List.set_cons_succ]) (hCont (v121) _ ⟨(rpl HO122.out), (bpl BK118.out), bnx⟩)
        ·skip
         have hcv17 := Kd.C_string (P := Try.prog) (A := A0) (c := c0) Try.underlying22 Try.underlying5 Try.underlying9 (Kd.C_below HR0.out HB.out)
         refine value_ (w1 := ?_) (v := ?_) (by rfl) rfl ?_ ?_
         rotate_left 2
         ·go_simp
          constructor
          ·rfl
          ·rfl
         clear hcv17
         refine hK.out _ _ trivial (fun hHeld => ?_)
         clear hK K
         refine nm_ 20 ?_
         refine on_ 4 HT_ (fun K hK => ?_)
         refine goes_ Try.func149 (by kernel_rfl) rfl #[.slice A0 (l0.take ((ji7) : Int).toNat).length c0] (by rfl) rfl rfl (by (try simp only [List.map_toArray, List.map_cons, List.map_nil]); first | done | (rw [show (l0.take ((ji7) : Int).toNat).length = (ji7).toNat from (by rw [List.length_take]; have h_ : ((ji7) : Int) ≤ (l0.length : Int) := dta; omega)] <;> rfl) | (simp only [hji7]; rfl) | rfl | (simp only [List.length_drop, List.length_take]; rfl)) ?_
         with_reducible refine (spec_l2Seal.calls kj1 _ _ (l0.take ((ji7) : Int).toNat) t120 _ ?_ ?_ A10.out).mono ?_
         exact cpl HR119.out
         exact HC119.out
         rintro e w18 ⟨v121, rfl, ho0, hb⟩
         refine ⟨_, rfl, ?_⟩
         have HO122 := rlw ho0
         replace BK118 := bkb BK118 hb
         replace HB := hbs hb
         (try clear hb)
         (try clear ho0)
         refine hK.out _ _ trivial (fun hHeld => ?_)
         clear hK K
         refine nm_ 17 ?_
         refine on_ 5 HT_ (fun K hK => ?_)
         have hcv19 := own_string (P := Try.prog) Try.underlying22 Try.underlying5 Try.underlying9 (Kd.own_of_R HO122.out)
         refine value_ (w1 := ?_) (v := ?_) (by rfl) rfl ?_ ?_
         rotate_left 2
         ·go_simp
          constructor
          ·rfl
          ·rfl
         clear hcv19
         refine hK.out _ _ trivial (fun hHeld => ?_)
         clear hK K
         refine nm_ 18 ?_
         exact norm_ (by simp only [putAll, Act.put, List.setIfInBounds_toArray, List.set_cons_zero, List.set_cons_succ]) (hCont (v121) _ ⟨(rpl HO122.out), (bpl BK118.out), bnx⟩)
       rintro v121 w20 ⟨h0_, h1_, h2_⟩
       have n0_ : Aside0 (Kd.R (Kd.int .u8) 5 w20 w.heap.size (fun _ => True) v121 t120) := ⟨h0_⟩
       have n1_ : Aside0 (w20.heap[gb118]? = some (.cells #[.int .i64 0, .slice none 0 0] 108 (0, 0))) := ⟨h1_⟩
       have n2_ : Aside0 (Below w.heap.size w w20) := ⟨h2_⟩
       clear BK118 HB h0_ h1_ h2_
       have HO122 := n0_
       have BK118 := n1_
       have HB := n2_
       clear n0_ n1_ n2_
       have hHeld := trivial
       refine norm_ (a' := ?_) ?_ ?_
       rotate_left
       ·simp only [putAll, Act.put, List.setIfInBounds_toArray, List.set_cons_zero, List.set_cons_succ]
        rfl
       refine pu_ 8 21 HT_ ?_
       refine done_ (done_of HT_.out (by kernel_rfl)) ?_
       obtain ⟨i021, hi021, _, hsz21, _⟩ := info_parts info5
       obtain ⟨hcut21, hA21, hC21⟩ := print_take_of (P := Try.prog) (Value.int .u8) 0 22 5 .i64 Try.underlying22 hi021 hsz21 A0 c0 l0 (ji7) (dta) (dta) HC0.out
       have HR123 := Aside0.mk (Kd.C_of_reads (h1 := fun _ => rfl) (hA21 _ (Kd.reads_of_C HR0.out)))
       have HC123 := Aside0.mk hC21
       clear hA21 hC21 hi021 hsz21
       try go_wp2_with (first | ((with_reducible refine gate_callee (f := 150) rfl ?_); refine goesL_ (some 27) rfl rfl Try.func150 (by kernel_rfl) rfl #[.slice A0 (l0.take ((ji7) : Int).toNat).length c0] rfl (by (try simp only [List.map_toArray, List.map_cons, List.map_nil]); first | done | (rw [show (l0.take ((ji7) : Int).toNat).length = (ji7).toNat from (by rw [List.length_take]; have h_ : ((ji7) : Int) ≤ (l0.length : Int) := dta; omega)] <;> rfl) | (simp only [hji7]; rfl) | rfl | (simp only [List.length_drop, List.length_take]; rfl)) ?_; (with_reducible refine (spec_l1Copy.calls _ _ (l0.take ((ji7) : Int).toNat) t124 _ ?_ ?_ A14.out).mono ?_); exact cpl HR123.out; exact HC123.out; rintro e w22 ⟨v125, rfl, ho0, hb⟩; refine ⟨_, rfl, ?_⟩; have HO126 := am (Kd.R_lower (Kd.R_new' ho0 (rlt HO122)) bsz); replace HO122 := rel HO122 ho0 hb; replace BK118 := bkb BK118 hb; replace HB := hbs hb; (try clear hb); (try clear ho0); obtain ⟨Ao23, co23, eo23⟩ := Kd.R_slice HO126.out; subst eo23; obtain ⟨hcz24_0, hcz24_1, hfz24_0, hfz24_1⟩ := cf2 (W := w22) BK118.out))
       refine bodyPost_ret (results_cell_row rfl _ _ gb118 108 #[.int .i64 0, .slice Ao23 t124.length co23] (0, 0) _ rfl (by (with_reducible repeat (first | refine blk_drewN ?_ _ | refine blk_drew ?_ | refine blk_alloc ?_ _)); refine blk_put (cs := #[.int .i64 0, .slice none 0 0]) ?_ 1 _ rfl; refine blk_put (cs := #[.int .i64 0, .slice none 0 0]) ?_ 0 _ rfl; exact bpl BK118.out) Try.underlying108 rfl (by kernel_rfl)) rfl ?_
       exact ⟨_, by first | rfl | (simp [errW_none, errW_some] <;> rfl) | (simp only [← hji7]; first | rfl | (simp [errW_none, errW_some] <;> rfl)) | (simp [*, errW_none, errW_some] <;> rfl), by (with_reducible repeat (first | apply Kd.R_alloc | apply Kd.R_drewN | apply Kd.R_drew)); exact Kd.R_mono (Kd.R_far (p := ⟨gb118, 1, none⟩) (Kd.R_far (p := ⟨gb118, 0, none⟩) (Kd.R_types HO126.out BK118.out (by decide)) (fun _ hk => hk.2) (.int .i64 0)) (fun _ hk => hk.2) (.slice Ao23 t124.length co23)) (fun _ hk => trivial), bnx⟩
      ·rw [if_neg c11] at H
       have c11b0 : ((strOfNums t120).toList == (strOfNums l0).toList) = false := beq_eq_false_iff_ne.mpr c11
       have c11b1 : ((strOfNums t120).toList != (strOfNums l0).toList) = true := bne_iff_ne.mpr c11
       simp only [Option.some.injEq, Prod.mk.injEq] at H
       obtain ⟨rfl, rfl⟩ := H
       try go_wp2
       replace BK118 := am (blk_drew BK118.out)
       replace HB := am (below_drew1 HB.out)
       obtain ⟨i026, hi026, _, hsz26, _⟩ := info_parts info5
       obtain ⟨hcut26, hA26, hC26⟩ := print_take_of (P := Try.prog) (Value.int .u8) 0 22 5 .i64 Try.underlying22 hi026 hsz26 A0 c0 l0 (ji7) (dta) (dta) HC0.out
       have HR119 := Aside0.mk (Kd.C_of_reads (h1 := fun _ => rfl) (hA26 _ (Kd.reads_of_C HR0.out)))
       have HC119 := Aside0.mk hC26
       clear hA26 hC26 hi026 hsz26
       refine start_ (n := 9) (S := fun w' => True) (ds := []) #[false, false, false, false, false, false, false, false, false] (by kernel_rfl) rfl rfl trivial (fun hHeld => ?_); refine with_tabW spec_OpenBytes.tab4 spec_OpenBytes.bits4 (fun HT_ HW_ => ?_)
       generalize wc.drew = w25 at BK118 HB HR119 hHeld ⊢
       refine pu_ 0 13 HT_ ?_
       refine pu_ 1 14 HT_ ?_
       refine pu_ 2 15 HT_ ?_
       refine pu_ 3 16 HT_ ?_
       refine pu_ 6 19 HT_ ?_
       refine join_ (σ := Value) 1 #[true, true, true, true, true, true, true, true, false] (fun s_ => [(17, s_), (18, .string (strOfNums t120)), (20, .string (strOfNums l0))]) (fun s_ w' => (Kd.R (Kd.int .u8) 5 w' w.heap.size (fun _ => True) s_ t120) ∧ (w'.heap[gb118]? = some (.cells #[.int .i64 0, .slice none 0 0] 108 (0, 0))) ∧ (Below w.heap.size w w')) ?_ ?_
       rotate_left
       ·intro hCont
        refine two_ (i := 4) (j := 7) (Ni := some 17) (Nj := some 20) #[true, true, true, true, true, false, true, false, false] #[true, true, true, true, false, false, true, true, false] rfl rfl rfl rfl (two_of HT_.out (by kernel_rfl)) (by decide) (by decide) (fun K hK => ?_) (fun K hK => ?_)
        ·skip
         refine goes_ Try.func149 (by kernel_rfl) rfl #[.slice A0 (l0.take ((ji7) : Int).toNat).length c0] (by rfl) rfl rfl (by (try simp only [List.map_toArray, List.map_cons, List.map_nil]); first | done | (rw [show (l0.take ((ji7) : Int).toNat).length = (ji7).toNat from (by rw [List.length_take]; have h_ : ((ji7) : Int) ≤ (l0.length : Int) := dta; omega)] <;> rfl) | (simp only [hji7]; rfl) | rfl | (simp only [List.length_drop, List.length_take]; rfl)) ?_
         with_reducible refine (spec_l2Seal.calls kj1 _ _ (l0.take ((ji7) : Int).toNat) t120 _ ?_ ?_ A10.out).mono ?_
         exact cpl HR119.out
         exact HC119.out
         rintro e w27 ⟨v121, rfl, ho0, hb⟩
         refine ⟨_, rfl, ?_⟩
         have HO122 := rlw ho0
         replace BK118 := bkb BK118 hb
         replace HB := hbs hb
         (try clear hb)
         (try clear ho0)
         refine hK.out _ _ trivial (fun hHeld => ?_)
         clear hK K
         refine nm_ 17 ?_
         refine two_ (i := 5) (j := 7) (Ni := some 18) (Nj := some 20) #[true, true, true, true, true, true, true, false, false] #[true, true, true, true, true, false, true, true, false] rfl rfl rfl rfl (two_of HT_.out (by kernel_rfl)) (by decide) (by decide) (fun K hK => ?_) (fun K hK => ?_)
         ·skip
          have hcv28 := own_string (P := Try.prog) Try.underlying22 Try.underlying5 Try.underlying9 (Kd.own_of_R HO122.out)
          refine value_ (w1 := ?_) (v := ?_) (by rfl) rfl ?_ ?_
          rotate_left 2
          ·go_simp
           constructor
           ·rfl
           ·rfl
          clear hcv28
          refine hK.out _ _ trivial (fun hHeld => ?_)
          clear hK K
          refine nm_ 18 ?_
          refine on_ 7 HT_ (fun K hK => ?_)
          have hcv29 := Kd.C_string (P := Try.prog) (A := A0) (c := c0) Try.underlying22 Try.underlying5 Try.underlying9 (Kd.C_below HR0.out HB.out)
          refine value_ (w1 := ?_) (v := ?_) (by rfl) rfl ?_ ?_
          rotate_left 2
          ·go_simp
           constructor
           ·rfl
           ·rfl
          clear hcv29
          refine hK.out _ _ trivial (fun hHeld => ?_)
          clear hK K
          refine nm_ 20 ?_
          exact norm_ (by simp only [putAll, Act.put, List.setIfInBounds_toArray, List.set_cons_zero, List.set_cons_succ]) (hCont (v121) _ ⟨(rpl HO122.out), (bpl BK118.out), bnx⟩)
         ·skip
          have hcv28 := Kd.C_string (P := Try.prog) (A := A0) (c := c0) Try.underlying22 Try.underlying5 Try.underlying9 (Kd.C_below HR0.out HB.out)
          refine value_ (w1 := ?_) (v := ?_) (by rfl) rfl ?_ ?_
          rotate_left 2
          ·go_simp
           constructor
           ·rfl
           ·rfl
          clear hcv28
          refine hK.out _ _ trivial (fun hHeld => ?_)
          clear hK K
          refine nm_ 20 ?_
          refine on_ 5 HT_ (fun K hK => ?_)
          have hcv29 := own_string (P := Try.prog) Try.underlying22 Try.underlying5 Try.underlying9 (Kd.own_of_R HO122.out)
          refine value_ (w1 := ?_) (v := ?_) (by rfl) rfl ?_ ?_
          rotate_left 2
          ·go_simp
           constructor
           ·rfl
           ·rfl
          clear hcv29
          refine hK.out _ _ trivial (fun hHeld => ?_)
          clear hK K
          refine nm_ 18 ?_
          exact norm_ (by simp only [putAll, Act.put, List.setIfInBounds_toArray, List.set_cons_zero, List.set_cons_succ]) (hCont (v121) _ ⟨(rpl HO122.out), (bpl BK118.out), bnx⟩)
        ·skip
         have hcv27 := Kd.C_string (P := Try.prog) (A := A0) (c := c0) Try.underlying22 Try.underlying5 Try.underlying9 (Kd.C_below HR0.out HB.out)
         refine value_ (w1 := ?_) (v := ?_) (by rfl) rfl ?_ ?_
         rotate_left 2
         ·go_simp
          constructor
          ·rfl
          ·rfl
         clear hcv27
         refine hK.out _ _ trivial (fun hHeld => ?_)
         clear hK K
         refine nm_ 20 ?_
         refine on_ 4 HT_ (fun K hK => ?_)
         refine goes_ Try.func149 (by kernel_rfl) rfl #[.slice A0 (l0.take ((ji7) : Int).toNat).length c0] (by rfl) rfl rfl (by (try simp only [List.map_toArray, List.map_cons, List.map_nil]); first | done | (rw [show (l0.take ((ji7) : Int).toNat).length = (ji7).toNat from (by rw [List.length_take]; have h_ : ((ji7) : Int) ≤ (l0.length : Int) := dta; omega)] <;> rfl) | (simp only [hji7]; rfl) | rfl | (simp only [List.length_drop, List.length_take]; rfl)) ?_
         with_reducible refine (spec_l2Seal.calls kj1 _ _ (l0.take ((ji7) : Int).toNat) t120 _ ?_ ?_ A10.out).mono ?_
         exact cpl HR119.out
         exact HC119.out
         rintro e w28 ⟨v121, rfl, ho0, hb⟩
         refine ⟨_, rfl, ?_⟩
         have HO122 := rlw ho0
         replace BK118 := bkb BK118 hb
         replace HB := hbs hb
         (try clear hb)
         (try clear ho0)
         refine hK.out _ _ trivial (fun hHeld => ?_)
         clear hK K
         refine nm_ 17 ?_
         refine on_ 5 HT_ (fun K hK => ?_)
         have hcv29 := own_string (P := Try.prog) Try.underlying22 Try.underlying5 Try.underlying9 (Kd.own_of_R HO122.out)
         refine value_ (w1 := ?_) (v := ?_) (by rfl) rfl ?_ ?_
         rotate_left 2
         ·go_simp
          constructor
          ·rfl
          ·rfl
         clear hcv29
         refine hK.out _ _ trivial (fun hHeld => ?_)
         clear hK K
         refine nm_ 18 ?_
         exact norm_ (by simp only [putAll, Act.put, List.setIfInBounds_toArray, List.set_cons_zero, List.set_cons_succ]) (hCont (v121) _ ⟨(rpl HO122.out), (bpl BK118.out), bnx⟩)
       rintro v121 w30 ⟨h0_, h1_, h2_⟩
       have n0_ : Aside0 (Kd.R (Kd.int .u8) 5 w30 w.heap.size (fun _ => True) v121 t120) := ⟨h0_⟩
       have n1_ : Aside0 (w30.heap[gb118]? = some (.cells #[.int .i64 0, .slice none 0 0] 108 (0, 0))) := ⟨h1_⟩
       have n2_ : Aside0 (Below w.heap.size w w30) := ⟨h2_⟩
       clear BK118 HB h0_ h1_ h2_
       have HO122 := n0_
       have BK118 := n1_
       have HB := n2_
       clear n0_ n1_ n2_
       have hHeld := trivial
       refine norm_ (a' := ?_) ?_ ?_
       rotate_left
       ·simp only [putAll, Act.put, List.setIfInBounds_toArray, List.set_cons_zero, List.set_cons_succ]
        rfl
       refine pu_ 8 21 HT_ ?_
       refine done_ (done_of HT_.out (by kernel_rfl)) ?_
       obtain ⟨hcz31_0, hcz31_1, hfz31_0, hfz31_1⟩ := cf2 (W := w30) BK118.out
       try go_wp2
       refine bodyPost_ret (results_cell_row rfl _ _ gb118 108 #[.int .i64 10, .slice none 0 0] (0, 0) _ rfl (by (with_reducible repeat (first | refine blk_drewN ?_ _ | refine blk_drew ?_ | refine blk_alloc ?_ _)); refine blk_put (cs := #[.int .i64 10, .slice none 0 0]) ?_ 1 _ rfl; refine blk_put (cs := #[.int .i64 0, .slice none 0 0]) ?_ 0 _ rfl; exact bpl BK118.out) Try.underlying108 rfl (by kernel_rfl)) rfl ?_
       exact ⟨_, by first | rfl | (simp [errW_none, errW_some] <;> rfl) | (simp only [← hji7]; first | rfl | (simp [errW_none, errW_some] <;> rfl)) | (simp [*, errW_none, errW_some] <;> rfl), by first | exact Kd.R_nil _ _ _ _ _ | exact Kd.N_nil _ _ _ _ _ | exact Kd.V_nil _ _ _ _ _ | exact Kd.Q_nil _ _ _ _ _ | exact Kd.S_nil _ _ _ _ _, bnx⟩
     ·rw [if_neg c9] at H
      exact absurd H (by simp)
    ·rw [if_neg c8] at H
     exact absurd H (by simp)

end Go.Proofs.Ytoepnammegcjeaa.PFnExactReadHead
