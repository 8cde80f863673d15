-- Contracts of the functions that the law reaches, written by wip/xprint.py of this repo.
import Derived.Test.YthehhncokikgcaaPFnExactPartOfx0
import Derived.Test.YthehhncokikgcaaPFnExactPartOfx1
import Derived.Test.YthehhncokikgcaaPFnExactPartOfx9
import Derived.Test.YthehhncokikgcaaPFnExactPartOfx10
namespace Go.Proofs.Ythehhncokikgcaa.PFnExactPartOf
open Go.RowKit Go.Proofs.YthehhncokikgcaaW.PrintWords Go.Proofs.YthehhncokikgcaaW.PrintLast Go.Proofs.YthehhncokikgcaaW.PrintMore
attribute [local go_sem] max2_int min2_int max_two min_two max_three min_three max_four min_four   -- for this text's walks alone
set_option linter.unusedVariables false
set_option linter.unusedSimpArgs false

/-! ### impl_ownerOf: function 166 -/
def impl_ownerOf.f (a0 : Int) (a1 : Int) : Option (Int) := some (Int.tmod (wrap64 (a0 + a1)) 2)
set_option maxHeartbeats 8000000 in
set_option maxRecDepth 100000 in
theorem impl_ownerOf.calls (a0 : Int) (a1 : Int) (r : Int) (w : World) (h : impl_ownerOf.f a0 a1 = some r) :
  Calls Try.prog 166 #[.int .i64 a0, .int .i64 a1] w fun e w' => e = .returned (.int .i64 r) ∧ Drawn0 w w' := by
 have H : (some (Int.tmod (wrap64 (a0 + a1)) 2)) = some r := h
 clear h
 obtain rfl := Option.some.inj H
 go_enter Try.func166, Try.ntmps166
 go_wp2
 go_ret
 exact dsq

/-! ### impl_Part_owns: function 88 -/
def impl_Part_owns.f (a0_0 : Int) (a0_1 : Int) (a0_2 : Int) (a0_3 : Int) (a0_4 : Int) (a0_5 : Int) (l0_6 : List Int) (l0_7 : List Int) (l0_8 : List (List Int)) (a1 : Int) : Option (Bool) := (impl_ownerOf.f a0_0 a1).bind fun t368 => (some (t368 == a0_5))
set_option maxHeartbeats 8000000 in
set_option maxRecDepth 100000 in
theorem impl_Part_owns.calls (a0_0 : Int) (a0_1 : Int) (a0_2 : Int) (a0_3 : Int) (a0_4 : Int) (a0_5 : Int) (A0_6 : Option Addr) (c0_6 : Nat) (l0_6 : List Int) (A0_7 : Option Addr) (c0_7 : Nat) (l0_7 : List Int) (A0_8 : Option Addr) (c0_8 : Nat) (l0_8 : List (List Int)) (a1 : Int) (r : Bool) (w : World) (hr0_6 : Kd.C (Kd.int .i64) w A0_6 l0_6.length l0_6) (hc0_6 : l0_6.length ≤ c0_6) (hr0_7 : Kd.C (Kd.int .i64) w A0_7 l0_7.length l0_7) (hc0_7 : l0_7.length ≤ c0_7) (hr0_8 : Kd.C (Kd.slice 2 (Kd.int .i64)) w A0_8 l0_8.length l0_8) (hc0_8 : l0_8.length ≤ c0_8) (h : impl_Part_owns.f a0_0 a0_1 a0_2 a0_3 a0_4 a0_5 l0_6 l0_7 l0_8 a1 = some r) :
  Calls Try.prog 88 #[.agg #[.int .i64 a0_0, .int .i64 a0_1, .int .i64 a0_2, .int .i64 a0_3, .int .i64 a0_4, .int .i64 a0_5, .slice A0_6 l0_6.length c0_6, .slice A0_7 l0_7.length c0_7, .slice A0_8 l0_8.length c0_8], .int .i64 a1] w fun e w' => e = .returned (.bool r) ∧ Below w.heap.size w w' := by
 have hu47 := Try.underlying47
 have HR0_6 := Aside0.mk hr0_6
 have HC0_6 := Aside0.mk hc0_6
 clear hr0_6 hc0_6
 have HR0_7 := Aside0.mk hr0_7
 have HC0_7 := Aside0.mk hc0_7
 clear hr0_7 hc0_7
 have HR0_8 := Aside0.mk hr0_8
 have HC0_8 := Aside0.mk hc0_8
 clear hr0_8 hc0_8
 have HB := Aside0.mk (Below.refl w.heap.size w)
 have H : ((impl_ownerOf.f a0_0 a1).bind fun t368 => (some (t368 == a0_5))) = some r := h
 clear h
 obtain ⟨t368, A3, H⟩ := bnd H
 obtain rfl := Option.some.inj H
 go_enter Try.func88, Try.ntmps88
 go_wp2_with (first | ((with_reducible refine gate_dst (N := 2) rfl ?_); refine bev 2 47 #[.int .i64 a0_0, .int .i64 a0_1, .int .i64 a0_2, .int .i64 a0_3, .int .i64 a0_4, .int .i64 a0_5, .slice A0_6 l0_6.length c0_6, .slice A0_7 l0_7.length c0_7, .slice A0_8 l0_8.length c0_8] ?_; intro gb367 hg w4 hbox hb; have BK367 := am hbox; have GW367 := gwe hg; have GE367 := gwe hg; replace HB := hbs hb; clear hb hbox hg; obtain ⟨hcz5_0, hcz5_1, hcz5_2, hcz5_3, hcz5_4, hcz5_5, hcz5_6, hcz5_7, hcz5_8, hfz5_0, hfz5_1, hfz5_2, hfz5_3, hfz5_4, hfz5_5, hfz5_6, hfz5_7, hfz5_8⟩ := cf9 (W := w4) BK367.out))
 repeat (go_quiet (first | (go_at_call 166; (with_reducible refine (impl_ownerOf.calls a0_0 a1 t368 _ A3.out).mono ?_); rintro e w' ⟨rfl, ⟨nd, rfl⟩⟩; (try first | exact ⟨rfl, _, World.drewN_drewN _ _ _⟩ | exact ⟨rfl, _, Eq.trans (World.drewN_drewN _ _ _) (congrArg (World.drewN _) (Nat.add_assoc _ _ _))⟩))); try go_wp2_with (first | ((with_reducible refine gate_dst (N := 2) rfl ?_); refine bev 2 47 #[.int .i64 a0_0, .int .i64 a0_1, .int .i64 a0_2, .int .i64 a0_3, .int .i64 a0_4, .int .i64 a0_5, .slice A0_6 l0_6.length c0_6, .slice A0_7 l0_7.length c0_7, .slice A0_8 l0_8.length c0_8] ?_; intro gb367 hg w4 hbox hb; have BK367 := am hbox; have GW367 := gwe hg; have GE367 := gwe hg; replace HB := hbs hb; clear hb hbox hg; obtain ⟨hcz5_0, hcz5_1, hcz5_2, hcz5_3, hcz5_4, hcz5_5, hcz5_6, hcz5_7, hcz5_8, hfz5_0, hfz5_1, hfz5_2, hfz5_3, hfz5_4, hfz5_5, hfz5_6, hfz5_7, hfz5_8⟩ := cf9 (W := w4) BK367.out)))
 go_ret
 exact ⟨enq, bnx⟩

/-! ### impl_isSide: function 100 -/
def impl_isSide.f (a0 : Int) : Option (Bool) := (impl_inRange.f a0 0 1).bind fun t369 => (some t369)
set_option maxHeartbeats 8000000 in
set_option maxRecDepth 100000 in
theorem impl_isSide.calls (a0 : Int) (r : Bool) (w : World) (h : impl_isSide.f a0 = some r) :
  Calls Try.prog 100 #[.int .i64 a0] w fun e w' => e = .returned (.bool r) ∧ Drawn0 w w' := by
 have H : ((impl_inRange.f a0 0 1).bind fun t369 => (some t369)) = some r := h
 clear h
 obtain ⟨t369, A2, H⟩ := bnd H
 obtain rfl := Option.some.inj H
 go_enter Try.func100, Try.ntmps100
 go_wp2_with (first | ((with_reducible refine gate_callee (f := 125) rfl ?_); refine gl_ 4 Try.func125 #[.int .i64 a0, .int .i64 0, .int .i64 1] ?_; (with_reducible refine (impl_inRange.calls a0 0 1 t369 _ A2.out).mono ?_); rintro e w' ⟨rfl, ⟨nd, rfl⟩⟩; refine ⟨_, rfl, ?_⟩))
 go_ret
 exact dsq

-- NOT PRINTED: function 165 (impl_PartFault_1)

/-! ### impl_PartFault_1_any: function 165 -/
/-- The closure: is a low out of its range, restored as a side restores it. -/
def partP (rung spread x : Int) : Option Bool := (impl_isIndexOf.f x).bind fun b => if b = true then ((impl_Restore.f (wrap64 ((wrap64 (spread + 1)) * x)) rung).bind fun p => some (!decide (p.1 = 0))) else some true
def impl_PartFault_1_any.f (l0 : List Int) (a1 : Int) (a2 : Int) : Option Bool := anyP (partP a1 a2) l0
set_option maxHeartbeats 2000000 in
set_option maxRecDepth 100000 in
theorem part_asks (rung spread : Int) (B t : Nat) (cs : Array Value) (w : World) (hb0 : w.heap[B]? = some (.cells cs t (0, 0))) (hcs : cs[2]? = some (.int .i64 rung)) (hcs2 : cs[4]? = some (.int .i64 spread)) : Asks 165 #[.pointer (some ⟨B, 0, none⟩)] (partP rung spread) w := fun x b W hb hx => by
  have hW := Aside0.mk (blk_below hb0 hb)
  have hS := Aside0.mk hcs
  have hS2 := Aside0.mk hcs2
  unfold partP at hx
  replace hx := Option.bind_eq_some_iff.mp hx
  obtain ⟨b1, h1, hx⟩ := hx
  have H1 := Aside0.mk h1
  clear h1 hb0 hcs hcs2 hb
  show Calls Try.prog 165 #[.int .i64 x, .pointer (some ⟨B, 0, none⟩)] W _
  have hfd : ∀ (x0 x1 : Int) (W : World), (Instr.field 129 (.agg #[.int .i64 x0, .int .i64 x1]) 0).run Try.prog W = .ok (.int .i64 x0) W := fun _ _ _ => by kernel_rfl
  cases b1 with
  | true =>
    rw [if_pos rfl] at hx
    replace hx := Option.bind_eq_some_iff.mp hx
    obtain ⟨⟨p1, p2⟩, h2, hx⟩ := hx
    have H2 := Aside0.mk h2
    obtain rfl := Option.some.inj hx
    clear h2 hx
    go_enter Try.func165, Try.ntmps165
    go_wp2_with (first | (go_at_call 155; refine (impl_isIndexOf.calls x true _ H1.out).mono ?_; rintro e w' ⟨rfl, hd⟩; have hq1 := Aside0.mk hd; have hc : w'.cell? ⟨B, 2, none⟩ = some (.int .i64 rung) := (blk_cell (blk_below hW.out hd.below) 2).trans hS.out; have hc2 : w'.cell? ⟨B, 4, none⟩ = some (.int .i64 spread) := (blk_cell (blk_below hW.out hd.below) 4).trans hS2.out; clear hd) | (go_at_call 156; refine (impl_Restore.calls (wrap64 ((wrap64 (spread + 1)) * x)) rung p1 p2 _ H2.out).mono ?_; rintro e w' ⟨rfl, hd⟩))
    go_ret
    exact ⟨by first | rfl | simp_all, below_step hq1.out.below hd⟩
  | false =>
    rw [if_neg (by simp)] at hx
    obtain rfl := Option.some.inj hx
    clear hx
    go_enter Try.func165, Try.ntmps165
    go_wp2_with (go_at_call 155; refine (impl_isIndexOf.calls x false _ H1.out).mono ?_; rintro e w' ⟨rfl, hd⟩)
    go_ret
    exact ⟨by first | rfl | simp_all, hd.below⟩
theorem impl_PartFault_1_any.calls {B : Nat} (A0 : Option Addr) (c0 : Nat) (l0 : List Int) (a1 : Int) (a2 : Int) (r : Bool) (w : World) (hbx : Aside0 (∃ (t : Nat) (cs : Array Value), w.heap[B]? = some (.cells cs t (0, 0)) ∧ cs[2]? = some (.int .i64 a1) ∧ cs[4]? = some (.int .i64 a2))) (hr0 : Kd.C (Kd.int .i64) w A0 l0.length l0) (hc0 : l0.length ≤ c0) (h : impl_PartFault_1_any.f l0 a1 a2 = some r) :
    Calls Try.prog 123 #[.slice A0 l0.length c0, .func (.func 165) #[] #[.pointer (some ⟨B, 0, none⟩)]] w fun e w' => e = .returned (.bool r) ∧ Below w.heap.size w w' :=
  match hbx.out with | ⟨t, cs, hb, hcs, hcs2⟩ => contains_calls (partP a1 a2) 165 #[.pointer (some ⟨B, 0, none⟩)] (enters_of Try.func165 (by kernel_rfl) rfl) A0 c0 l0 r w (part_asks a1 a2 B t cs w hb hcs hcs2) hr0 hc0 h

end Go.Proofs.Ythehhncokikgcaa.PFnExactPartOf
