-- Contracts of the functions that the law reaches, written by wip/xprint.py of this repo.
import Derived.Test.YthehhncokikgcaaPFnExactPartOfx0
import Derived.Test.YthehhncokikgcaaPFnExactPartOfx1
namespace Go.Proofs.Ythehhncokikgcaa.PFnExactPartOf
open Go.RowKit Go.Proofs.YthehhncokikgcaaW.PrintWords Go.Proofs.YthehhncokikgcaaW.PrintLast Go.Proofs.YthehhncokikgcaaW.PrintMore
attribute [local go_sem] max2_int min2_int max_two min_two max_three min_three max_four min_four   -- for this text's walks alone
set_option linter.unusedVariables false
set_option linter.unusedSimpArgs false

/-- A state of type 47 at block g of W; what its slices lead to came in by w0. -/
def IsS47 (w0 W : World) (g : Nat) (f0 : Int) (f1 : Int) (f2 : Int) (f3 : Int) (f4 : Int) (f5 : Int) (f6 : List Int) (f7 : List Int) (f8 : List (List Int)) : Prop := ∃ A6 c6, ∃ A7 c7, ∃ A8 c8, W.heap[g]? = some (.cells #[.int .i64 f0, .int .i64 f1, .int .i64 f2, .int .i64 f3, .int .i64 f4, .int .i64 f5, .slice A6 f6.length c6, .slice A7 f7.length c7, .slice A8 f8.length c8] 47 (0, 0)) ∧ w0.heap.size ≤ g ∧ Kd.C (Kd.int .i64) w0 A6 f6.length f6 ∧ Kd.C (Kd.int .i64) w0 A7 f7.length f7 ∧ Kd.C (Kd.slice 2 (Kd.int .i64)) w0 A8 f8.length f8
theorem IsS47.grown {w0 W : World} {g : Nat} {f0 : Int} {f1 : Int} {f2 : Int} {f3 : Int} {f4 : Int} {f5 : Int} {f6 : List Int} {f7 : List Int} {f8 : List (List Int)} {W1 : World} {row : Option Nat} (h : IsS47 w0 W g f0 f1 f2 f3 f4 f5 f6 f7 f8) (hw : W.grownBy W1 row) (hne : some g ≠ row) : IsS47 w0 W1 g f0 f1 f2 f3 f4 f5 f6 f7 f8 := by
 obtain ⟨A6, c6, A7, c7, A8, c8, hb, hg, hr6, hr7, hr8⟩ := h
 exact ⟨A6, c6, A7, c7, A8, c8, blk_grown hb hw hne, hg, hr6, hr7, hr8⟩
theorem IsS47.own_neN {w0 W : World} {g : Nat} {f0 : Int} {f1 : Int} {f2 : Int} {f3 : Int} {f4 : Int} {f5 : Int} {f6 : List Int} {f7 : List Int} {f8 : List (List Int)} {α : Type} {d : Kd α} {e : Nat} {base : Nat} {ok : Nat → Prop} {v : Value} {xs : List α} (h : IsS47 w0 W g f0 f1 f2 f3 f4 f5 f6 f7 f8) (ho : Kd.N d e W base ok v xs) (ht : e ≠ 47) : some g ≠ v.ownBlock := by
 obtain ⟨A6, c6, A7, c7, A8, c8, hb, hg, hr6, hr7, hr8⟩ := h
 exact Kd.N_ne ho hb ht
theorem IsS47.fresh {w0 W : World} {g : Nat} {f0 : Int} {f1 : Int} {f2 : Int} {f3 : Int} {f4 : Int} {f5 : Int} {f6 : List Int} {f7 : List Int} {f8 : List (List Int)} (h : IsS47 w0 W g f0 f1 f2 f3 f4 f5 f6 f7 f8) : ∀ k, W.heap.size ≤ k → k ≠ g := by
 obtain ⟨A6, c6, A7, c7, A8, c8, hb, hg, hr6, hr7, hr8⟩ := h
 exact Kd.freshB hb
theorem IsS47.kept {w0 W : World} {g : Nat} {f0 : Int} {f1 : Int} {f2 : Int} {f3 : Int} {f4 : Int} {f5 : Int} {f6 : List Int} {f7 : List Int} {f8 : List (List Int)} {W1 : World} {S : Nat → Prop} (h : IsS47 w0 W g f0 f1 f2 f3 f4 f5 f6 f7 f8) (hk : Kept W W1 S) (hne : ¬ S g) : IsS47 w0 W1 g f0 f1 f2 f3 f4 f5 f6 f7 f8 := by
 obtain ⟨A6, c6, A7, c7, A8, c8, hb, hg, hr6, hr7, hr8⟩ := h
 exact ⟨A6, c6, A7, c7, A8, c8, blk_kept hb hk hne, hg, hr6, hr7, hr8⟩
theorem IsS47.below {w0 W : World} {g : Nat} {f0 : Int} {f1 : Int} {f2 : Int} {f3 : Int} {f4 : Int} {f5 : Int} {f6 : List Int} {f7 : List Int} {f8 : List (List Int)} {W1 : World} (h : IsS47 w0 W g f0 f1 f2 f3 f4 f5 f6 f7 f8) (hw : Below W.heap.size W W1) : IsS47 w0 W1 g f0 f1 f2 f3 f4 f5 f6 f7 f8 := h.grown (grown_of_below hw none) (by simp)
theorem IsS47.alloc {w0 W : World} {g : Nat} {f0 : Int} {f1 : Int} {f2 : Int} {f3 : Int} {f4 : Int} {f5 : Int} {f6 : List Int} {f7 : List Int} {f8 : List (List Int)} (h : IsS47 w0 W g f0 f1 f2 f3 f4 f5 f6 f7 f8) (o : Obj) : IsS47 w0 (W.alloc o) g f0 f1 f2 f3 f4 f5 f6 f7 f8 := h.below (below_alloc (Below.refl _ _) o)
theorem IsS47.drewN {w0 W : World} {g : Nat} {f0 : Int} {f1 : Int} {f2 : Int} {f3 : Int} {f4 : Int} {f5 : Int} {f6 : List Int} {f7 : List Int} {f8 : List (List Int)} (h : IsS47 w0 W g f0 f1 f2 f3 f4 f5 f6 f7 f8) (m : Nat) : IsS47 w0 (W.drewN m) g f0 f1 f2 f3 f4 f5 f6 f7 f8 := h
theorem IsS47.drew {w0 W : World} {g : Nat} {f0 : Int} {f1 : Int} {f2 : Int} {f3 : Int} {f4 : Int} {f5 : Int} {f6 : List Int} {f7 : List Int} {f8 : List (List Int)} (h : IsS47 w0 W g f0 f1 f2 f3 f4 f5 f6 f7 f8) : IsS47 w0 W.drew g f0 f1 f2 f3 f4 f5 f6 f7 f8 := h
theorem IsS47.at_ {w0 W : World} {g : Nat} {f0 : Int} {f1 : Int} {f2 : Int} {f3 : Int} {f4 : Int} {f5 : Int} {f6 : List Int} {f7 : List Int} {f8 : List (List Int)} {w' : World} {m : Nat} (hq : W.drewN m = w') (h : IsS47 w0 W g f0 f1 f2 f3 f4 f5 f6 f7 f8) : IsS47 w0 w' g f0 f1 f2 f3 f4 f5 f6 f7 f8 := by subst hq; exact IsS47.drewN h m
theorem IsS47.apart {w0 W : World} {g : Nat} {f0 : Int} {f1 : Int} {f2 : Int} {f3 : Int} {f4 : Int} {f5 : Int} {f6 : List Int} {f7 : List Int} {f8 : List (List Int)} {α : Type} {d : Kd α} {e : Nat} {base : Nat} {ok : Nat → Prop} {v : Value} {xs : List α} (h : IsS47 w0 W g f0 f1 f2 f3 f4 f5 f6 f7 f8) (ho : d.R e W base ok v xs) (ht : ∀ q, q ∈ e :: d.E → q ≠ 47) : d.R e W base (fun k => ok k ∧ k ≠ g) v xs := by
 obtain ⟨A6, c6, A7, c7, A8, c8, hb, hg, hr6, hr7, hr8⟩ := h
 exact Kd.R_types ho hb ht
theorem IsS47.own_ne {w0 W : World} {g : Nat} {f0 : Int} {f1 : Int} {f2 : Int} {f3 : Int} {f4 : Int} {f5 : Int} {f6 : List Int} {f7 : List Int} {f8 : List (List Int)} {α : Type} {d : Kd α} {e : Nat} {base : Nat} {ok : Nat → Prop} {v : Value} {xs : List α} (h : IsS47 w0 W g f0 f1 f2 f3 f4 f5 f6 f7 f8) (ho : d.R e W base ok v xs) (ht : e ≠ 47) : some g ≠ v.ownBlock := by
 obtain ⟨A6, c6, A7, c7, A8, c8, hb, hg, hr6, hr7, hr8⟩ := h
 exact Kd.R_ne ho hb ht
theorem IsS47.apartQ {w0 W : World} {g : Nat} {f0 : Int} {f1 : Int} {f2 : Int} {f3 : Int} {f4 : Int} {f5 : Int} {f6 : List Int} {f7 : List Int} {f8 : List (List Int)} {α : Type} {d : Kd α} {e : Nat} {base : Nat} {ok : Nat → Prop} {v : Value} {xs : List α} (h : IsS47 w0 W g f0 f1 f2 f3 f4 f5 f6 f7 f8) (ho : d.Q e W base ok v xs) (ht : ∀ q, q ∈ e :: d.E → q ≠ 47) : d.Q e W base (fun k => ok k ∧ k ≠ g) v xs := by
 obtain ⟨A6, c6, A7, c7, A8, c8, hb, hg, hr6, hr7, hr8⟩ := h
 exact Kd.Q_types ho hb ht
theorem IsS47.own_neQ {w0 W : World} {g : Nat} {f0 : Int} {f1 : Int} {f2 : Int} {f3 : Int} {f4 : Int} {f5 : Int} {f6 : List Int} {f7 : List Int} {f8 : List (List Int)} {α : Type} {d : Kd α} {e : Nat} {base : Nat} {ok : Nat → Prop} {v : Value} {xs : List α} (h : IsS47 w0 W g f0 f1 f2 f3 f4 f5 f6 f7 f8) (ho : d.Q e W base ok v xs) (ht : e ≠ 47) : some g ≠ v.ownBlock := by
 obtain ⟨A6, c6, A7, c7, A8, c8, hb, hg, hr6, hr7, hr8⟩ := h
 exact Kd.Q_ne ho hb ht
theorem IsS47.apartS {w0 W : World} {g : Nat} {f0 : Int} {f1 : Int} {f2 : Int} {f3 : Int} {f4 : Int} {f5 : Int} {f6 : List Int} {f7 : List Int} {f8 : List (List Int)} {α : Type} {d : Kd α} {e : Nat} {base : Nat} {ok : Nat → Prop} {v : Value} {xs : List α} (h : IsS47 w0 W g f0 f1 f2 f3 f4 f5 f6 f7 f8) (ho : d.S e W base ok v xs) (ht : ∀ q, q ∈ e :: d.E → q ≠ 47) : d.S e W base (fun k => ok k ∧ k ≠ g) v xs := by
 obtain ⟨A6, c6, A7, c7, A8, c8, hb, hg, hr6, hr7, hr8⟩ := h
 exact Kd.S_types ho hb ht
theorem IsS47.own_neS {w0 W : World} {g : Nat} {f0 : Int} {f1 : Int} {f2 : Int} {f3 : Int} {f4 : Int} {f5 : Int} {f6 : List Int} {f7 : List Int} {f8 : List (List Int)} {α : Type} {d : Kd α} {e : Nat} {base : Nat} {ok : Nat → Prop} {v : Value} {xs : List α} (h : IsS47 w0 W g f0 f1 f2 f3 f4 f5 f6 f7 f8) (ho : d.S e W base ok v xs) (ht : e ≠ 47) : some g ≠ v.ownBlock := by
 obtain ⟨A6, c6, A7, c7, A8, c8, hb, hg, hr6, hr7, hr8⟩ := h
 exact Kd.S_ne ho hb ht
theorem IsS47.lt {w0 W : World} {g : Nat} {f0 : Int} {f1 : Int} {f2 : Int} {f3 : Int} {f4 : Int} {f5 : Int} {f6 : List Int} {f7 : List Int} {f8 : List (List Int)} (h : IsS47 w0 W g f0 f1 f2 f3 f4 f5 f6 f7 f8) : g < W.heap.size := by
 obtain ⟨A6, c6, A7, c7, A8, c8, hb, hg, hr6, hr7, hr8⟩ := h
 exact blk_lt hb
theorem IsS47.ge {w0 W : World} {g : Nat} {f0 : Int} {f1 : Int} {f2 : Int} {f3 : Int} {f4 : Int} {f5 : Int} {f6 : List Int} {f7 : List Int} {f8 : List (List Int)} (h : IsS47 w0 W g f0 f1 f2 f3 f4 f5 f6 f7 f8) : w0.heap.size ≤ g := by
 obtain ⟨A6, c6, A7, c7, A8, c8, hb, hg, hr6, hr7, hr8⟩ := h
 exact hg
theorem IsS47.ne_blk {w0 W : World} {g : Nat} {f0 : Int} {f1 : Int} {f2 : Int} {f3 : Int} {f4 : Int} {f5 : Int} {f6 : List Int} {f7 : List Int} {f8 : List (List Int)} {a : Nat} {cs : Array Value} {t : TypeId} {fr : Nat × Nat} (h : IsS47 w0 W g f0 f1 f2 f3 f4 f5 f6 f7 f8) (hb2 : W.heap[a]? = some (.cells cs t fr)) (ht : t ≠ 47) : g ≠ a := by
 obtain ⟨A6, c6, A7, c7, A8, c8, hb, hg, hr6, hr7, hr8⟩ := h
 rintro rfl
 rw [hb] at hb2
 injection hb2 with hb2
 injection hb2 with _ ht2
 exact ht ht2.symm
theorem IsS47.far {w0 W : World} {g : Nat} {f0 : Int} {f1 : Int} {f2 : Int} {f3 : Int} {f4 : Int} {f5 : Int} {f6 : List Int} {f7 : List Int} {f8 : List (List Int)} {p : Addr} (h : IsS47 w0 W g f0 f1 f2 f3 f4 f5 f6 f7 f8) (hne : g ≠ p.block) (u : Value) : IsS47 w0 (W.setCell p u) g f0 f1 f2 f3 f4 f5 f6 f7 f8 := by
 obtain ⟨A6, c6, A7, c7, A8, c8, hb, hg, hr6, hr7, hr8⟩ := h
 exact ⟨A6, c6, A7, c7, A8, c8, blk_far hb hne u, hg, hr6, hr7, hr8⟩
theorem cellS47_0 {W : World} {g : Nat} {A6 : Option Addr} {c6 : Nat} {A7 : Option Addr} {c7 : Nat} {A8 : Option Addr} {c8 : Nat} {f0 : Int} {f1 : Int} {f2 : Int} {f3 : Int} {f4 : Int} {f5 : Int} {f6 : List Int} {f7 : List Int} {f8 : List (List Int)} (h : W.heap[g]? = some (.cells #[.int .i64 f0, .int .i64 f1, .int .i64 f2, .int .i64 f3, .int .i64 f4, .int .i64 f5, .slice A6 f6.length c6, .slice A7 f7.length c7, .slice A8 f8.length c8] 47 (0, 0))) : W.cell? ⟨g, 0, none⟩ = some (.int .i64 f0) := (blk_cell h 0).trans rfl
theorem IsS47.set_0 {w0 W : World} {g : Nat} {f0 : Int} {f1 : Int} {f2 : Int} {f3 : Int} {f4 : Int} {f5 : Int} {f6 : List Int} {f7 : List Int} {f8 : List (List Int)} (h : IsS47 w0 W g f0 f1 f2 f3 f4 f5 f6 f7 f8) (x : Int) : IsS47 w0 (W.setCell ⟨g, 0, none⟩ (.int .i64 x)) g x f1 f2 f3 f4 f5 f6 f7 f8 := by
 obtain ⟨A6, c6, A7, c7, A8, c8, hb, hg, hr6, hr7, hr8⟩ := h
 exact ⟨A6, c6, A7, c7, A8, c8, by simpa using blk_set hb 0 (.int .i64 x), hg, hr6, hr7, hr8⟩
theorem cellS47_1 {W : World} {g : Nat} {A6 : Option Addr} {c6 : Nat} {A7 : Option Addr} {c7 : Nat} {A8 : Option Addr} {c8 : Nat} {f0 : Int} {f1 : Int} {f2 : Int} {f3 : Int} {f4 : Int} {f5 : Int} {f6 : List Int} {f7 : List Int} {f8 : List (List Int)} (h : W.heap[g]? = some (.cells #[.int .i64 f0, .int .i64 f1, .int .i64 f2, .int .i64 f3, .int .i64 f4, .int .i64 f5, .slice A6 f6.length c6, .slice A7 f7.length c7, .slice A8 f8.length c8] 47 (0, 0))) : W.cell? ⟨g, 1, none⟩ = some (.int .i64 f1) := (blk_cell h 1).trans rfl
theorem IsS47.set_1 {w0 W : World} {g : Nat} {f0 : Int} {f1 : Int} {f2 : Int} {f3 : Int} {f4 : Int} {f5 : Int} {f6 : List Int} {f7 : List Int} {f8 : List (List Int)} (h : IsS47 w0 W g f0 f1 f2 f3 f4 f5 f6 f7 f8) (x : Int) : IsS47 w0 (W.setCell ⟨g, 1, none⟩ (.int .i64 x)) g f0 x f2 f3 f4 f5 f6 f7 f8 := by
 obtain ⟨A6, c6, A7, c7, A8, c8, hb, hg, hr6, hr7, hr8⟩ := h
 exact ⟨A6, c6, A7, c7, A8, c8, by simpa using blk_set hb 1 (.int .i64 x), hg, hr6, hr7, hr8⟩
theorem cellS47_2 {W : World} {g : Nat} {A6 : Option Addr} {c6 : Nat} {A7 : Option Addr} {c7 : Nat} {A8 : Option Addr} {c8 : Nat} {f0 : Int} {f1 : Int} {f2 : Int} {f3 : Int} {f4 : Int} {f5 : Int} {f6 : List Int} {f7 : List Int} {f8 : List (List Int)} (h : W.heap[g]? = some (.cells #[.int .i64 f0, .int .i64 f1, .int .i64 f2, .int .i64 f3, .int .i64 f4, .int .i64 f5, .slice A6 f6.length c6, .slice A7 f7.length c7, .slice A8 f8.length c8] 47 (0, 0))) : W.cell? ⟨g, 2, none⟩ = some (.int .i64 f2) := (blk_cell h 2).trans rfl
theorem IsS47.set_2 {w0 W : World} {g : Nat} {f0 : Int} {f1 : Int} {f2 : Int} {f3 : Int} {f4 : Int} {f5 : Int} {f6 : List Int} {f7 : List Int} {f8 : List (List Int)} (h : IsS47 w0 W g f0 f1 f2 f3 f4 f5 f6 f7 f8) (x : Int) : IsS47 w0 (W.setCell ⟨g, 2, none⟩ (.int .i64 x)) g f0 f1 x f3 f4 f5 f6 f7 f8 := by
 obtain ⟨A6, c6, A7, c7, A8, c8, hb, hg, hr6, hr7, hr8⟩ := h
 exact ⟨A6, c6, A7, c7, A8, c8, by simpa using blk_set hb 2 (.int .i64 x), hg, hr6, hr7, hr8⟩
theorem cellS47_3 {W : World} {g : Nat} {A6 : Option Addr} {c6 : Nat} {A7 : Option Addr} {c7 : Nat} {A8 : Option Addr} {c8 : Nat} {f0 : Int} {f1 : Int} {f2 : Int} {f3 : Int} {f4 : Int} {f5 : Int} {f6 : List Int} {f7 : List Int} {f8 : List (List Int)} (h : W.heap[g]? = some (.cells #[.int .i64 f0, .int .i64 f1, .int .i64 f2, .int .i64 f3, .int .i64 f4, .int .i64 f5, .slice A6 f6.length c6, .slice A7 f7.length c7, .slice A8 f8.length c8] 47 (0, 0))) : W.cell? ⟨g, 3, none⟩ = some (.int .i64 f3) := (blk_cell h 3).trans rfl
theorem IsS47.set_3 {w0 W : World} {g : Nat} {f0 : Int} {f1 : Int} {f2 : Int} {f3 : Int} {f4 : Int} {f5 : Int} {f6 : List Int} {f7 : List Int} {f8 : List (List Int)} (h : IsS47 w0 W g f0 f1 f2 f3 f4 f5 f6 f7 f8) (x : Int) : IsS47 w0 (W.setCell ⟨g, 3, none⟩ (.int .i64 x)) g f0 f1 f2 x f4 f5 f6 f7 f8 := by
 obtain ⟨A6, c6, A7, c7, A8, c8, hb, hg, hr6, hr7, hr8⟩ := h
 exact ⟨A6, c6, A7, c7, A8, c8, by simpa using blk_set hb 3 (.int .i64 x), hg, hr6, hr7, hr8⟩
theorem cellS47_4 {W : World} {g : Nat} {A6 : Option Addr} {c6 : Nat} {A7 : Option Addr} {c7 : Nat} {A8 : Option Addr} {c8 : Nat} {f0 : Int} {f1 : Int} {f2 : Int} {f3 : Int} {f4 : Int} {f5 : Int} {f6 : List Int} {f7 : List Int} {f8 : List (List Int)} (h : W.heap[g]? = some (.cells #[.int .i64 f0, .int .i64 f1, .int .i64 f2, .int .i64 f3, .int .i64 f4, .int .i64 f5, .slice A6 f6.length c6, .slice A7 f7.length c7, .slice A8 f8.length c8] 47 (0, 0))) : W.cell? ⟨g, 4, none⟩ = some (.int .i64 f4) := (blk_cell h 4).trans rfl
theorem IsS47.set_4 {w0 W : World} {g : Nat} {f0 : Int} {f1 : Int} {f2 : Int} {f3 : Int} {f4 : Int} {f5 : Int} {f6 : List Int} {f7 : List Int} {f8 : List (List Int)} (h : IsS47 w0 W g f0 f1 f2 f3 f4 f5 f6 f7 f8) (x : Int) : IsS47 w0 (W.setCell ⟨g, 4, none⟩ (.int .i64 x)) g f0 f1 f2 f3 x f5 f6 f7 f8 := by
 obtain ⟨A6, c6, A7, c7, A8, c8, hb, hg, hr6, hr7, hr8⟩ := h
 exact ⟨A6, c6, A7, c7, A8, c8, by simpa using blk_set hb 4 (.int .i64 x), hg, hr6, hr7, hr8⟩
theorem cellS47_5 {W : World} {g : Nat} {A6 : Option Addr} {c6 : Nat} {A7 : Option Addr} {c7 : Nat} {A8 : Option Addr} {c8 : Nat} {f0 : Int} {f1 : Int} {f2 : Int} {f3 : Int} {f4 : Int} {f5 : Int} {f6 : List Int} {f7 : List Int} {f8 : List (List Int)} (h : W.heap[g]? = some (.cells #[.int .i64 f0, .int .i64 f1, .int .i64 f2, .int .i64 f3, .int .i64 f4, .int .i64 f5, .slice A6 f6.length c6, .slice A7 f7.length c7, .slice A8 f8.length c8] 47 (0, 0))) : W.cell? ⟨g, 5, none⟩ = some (.int .i64 f5) := (blk_cell h 5).trans rfl
theorem IsS47.set_5 {w0 W : World} {g : Nat} {f0 : Int} {f1 : Int} {f2 : Int} {f3 : Int} {f4 : Int} {f5 : Int} {f6 : List Int} {f7 : List Int} {f8 : List (List Int)} (h : IsS47 w0 W g f0 f1 f2 f3 f4 f5 f6 f7 f8) (x : Int) : IsS47 w0 (W.setCell ⟨g, 5, none⟩ (.int .i64 x)) g f0 f1 f2 f3 f4 x f6 f7 f8 := by
 obtain ⟨A6, c6, A7, c7, A8, c8, hb, hg, hr6, hr7, hr8⟩ := h
 exact ⟨A6, c6, A7, c7, A8, c8, by simpa using blk_set hb 5 (.int .i64 x), hg, hr6, hr7, hr8⟩
theorem cellS47_6 {W : World} {g : Nat} {A6 : Option Addr} {c6 : Nat} {A7 : Option Addr} {c7 : Nat} {A8 : Option Addr} {c8 : Nat} {f0 : Int} {f1 : Int} {f2 : Int} {f3 : Int} {f4 : Int} {f5 : Int} {f6 : List Int} {f7 : List Int} {f8 : List (List Int)} (h : W.heap[g]? = some (.cells #[.int .i64 f0, .int .i64 f1, .int .i64 f2, .int .i64 f3, .int .i64 f4, .int .i64 f5, .slice A6 f6.length c6, .slice A7 f7.length c7, .slice A8 f8.length c8] 47 (0, 0))) : W.cell? ⟨g, 6, none⟩ = some (.slice A6 f6.length c6) := (blk_cell h 6).trans rfl
theorem cellS47_7 {W : World} {g : Nat} {A6 : Option Addr} {c6 : Nat} {A7 : Option Addr} {c7 : Nat} {A8 : Option Addr} {c8 : Nat} {f0 : Int} {f1 : Int} {f2 : Int} {f3 : Int} {f4 : Int} {f5 : Int} {f6 : List Int} {f7 : List Int} {f8 : List (List Int)} (h : W.heap[g]? = some (.cells #[.int .i64 f0, .int .i64 f1, .int .i64 f2, .int .i64 f3, .int .i64 f4, .int .i64 f5, .slice A6 f6.length c6, .slice A7 f7.length c7, .slice A8 f8.length c8] 47 (0, 0))) : W.cell? ⟨g, 7, none⟩ = some (.slice A7 f7.length c7) := (blk_cell h 7).trans rfl
theorem cellS47_8 {W : World} {g : Nat} {A6 : Option Addr} {c6 : Nat} {A7 : Option Addr} {c7 : Nat} {A8 : Option Addr} {c8 : Nat} {f0 : Int} {f1 : Int} {f2 : Int} {f3 : Int} {f4 : Int} {f5 : Int} {f6 : List Int} {f7 : List Int} {f8 : List (List Int)} (h : W.heap[g]? = some (.cells #[.int .i64 f0, .int .i64 f1, .int .i64 f2, .int .i64 f3, .int .i64 f4, .int .i64 f5, .slice A6 f6.length c6, .slice A7 f7.length c7, .slice A8 f8.length c8] 47 (0, 0))) : W.cell? ⟨g, 8, none⟩ = some (.slice A8 f8.length c8) := (blk_cell h 8).trans rfl
theorem IsS47.new (w0 W : World) (A6 : Option Addr) (c6 : Nat) (A7 : Option Addr) (c7 : Nat) (A8 : Option Addr) (c8 : Nat) (f0 : Int) (f1 : Int) (f2 : Int) (f3 : Int) (f4 : Int) (f5 : Int) (f6 : List Int) (f7 : List Int) (f8 : List (List Int)) (hB : Below w0.heap.size w0 W) (hr6 : Kd.C (Kd.int .i64) w0 A6 f6.length f6) (hr7 : Kd.C (Kd.int .i64) w0 A7 f7.length f7) (hr8 : Kd.C (Kd.slice 2 (Kd.int .i64)) w0 A8 f8.length f8) : IsS47 w0 (W.alloc (.cells #[.int .i64 f0, .int .i64 f1, .int .i64 f2, .int .i64 f3, .int .i64 f4, .int .i64 f5, .slice A6 f6.length c6, .slice A7 f7.length c7, .slice A8 f8.length c8] 47)) W.heap.size f0 f1 f2 f3 f4 f5 f6 f7 f8 := ⟨A6, c6, A7, c7, A8, c8, by simpa using heap_alloc_new W _, hB.size, hr6, hr7, hr8⟩

/-! ### spec_l15Mine: function 162 -/
def spec_l15Mine.f (s0_0 : Int) (s0_1 : Int) (s0_2 : Int) (s0_3 : Int) (s0_4 : Int) (s0_5 : Int) (s0_6 : List Int) (s0_7 : List Int) (s0_8 : List (List Int)) (a1 : Int) : Option (Bool × Int × Int × Int × Int × Int × Int) := some (((Int.tmod (wrap64 (s0_0 + a1)) 2) == s0_5), s0_0, s0_1, s0_2, s0_3, s0_4, s0_5)
set_option maxHeartbeats 8000000 in
set_option maxRecDepth 100000 in
theorem spec_l15Mine.calls (g : Nat) (s0_0 : Int) (s0_1 : Int) (s0_2 : Int) (s0_3 : Int) (s0_4 : Int) (s0_5 : Int) (s0_6 : List Int) (s0_7 : List Int) (s0_8 : List (List Int)) (a1 : Int) (r1 : Bool) (r2 : Int) (r3 : Int) (r4 : Int) (r5 : Int) (r6 : Int) (r7 : Int) (w0 w : World) (hI : IsS47 w0 w g s0_0 s0_1 s0_2 s0_3 s0_4 s0_5 s0_6 s0_7 s0_8) (hB : Below w0.heap.size w0 w) (h : spec_l15Mine.f s0_0 s0_1 s0_2 s0_3 s0_4 s0_5 s0_6 s0_7 s0_8 a1 = some (r1, r2, r3, r4, r5, r6, r7)) :
  Calls Try.prog 162 #[.pointer (some ⟨g, 0, none⟩), .int .i64 a1] w fun e w' => e = .returned (.bool r1) ∧ IsS47 w0 w' g r2 r3 r4 r5 r6 r7 s0_6 s0_7 s0_8 ∧ Below w0.heap.size w0 w' ∧ KeepBut w w' g none := by
 have HI0 := Aside0.mk hI
 have HK := Aside0.mk (KeepBut.refl w g none)
 have HL := Aside0.mk hB.size
 clear hI
 have HW0 := Aside0.mk hB.size
 have HB := Aside0.mk hB
 clear hB
 have H : (some (((Int.tmod (wrap64 (s0_0 + a1)) 2) == s0_5), s0_0, s0_1, s0_2, s0_3, s0_4, s0_5)) = some (r1, r2, r3, r4, r5, r6, r7) := h
 clear h
 simp only [Option.some.injEq, Prod.mk.injEq] at H
 obtain ⟨rfl, rfl, rfl, rfl, rfl, rfl, rfl⟩ := H
 obtain ⟨ASz3_6, cSz3_6, ASz3_7, cSz3_7, ASz3_8, cSz3_8, HGz3, hgz3, HSz3_6, HSz3_7, HSz3_8⟩ := HI0.out
 have hcz3_0 := cellS47_0 HGz3
 have hcz3_1 := cellS47_1 HGz3
 have hcz3_2 := cellS47_2 HGz3
 have hcz3_3 := cellS47_3 HGz3
 have hcz3_4 := cellS47_4 HGz3
 have hcz3_5 := cellS47_5 HGz3
 have hcz3_6 := cellS47_6 HGz3
 have hcz3_7 := cellS47_7 HGz3
 have hcz3_8 := cellS47_8 HGz3
 have hfz3_0 := blk_frozen HGz3 0
 have hfz3_1 := blk_frozen HGz3 1
 have hfz3_2 := blk_frozen HGz3 2
 have hfz3_3 := blk_frozen HGz3 3
 have hfz3_4 := blk_frozen HGz3 4
 have hfz3_5 := blk_frozen HGz3 5
 clear HGz3 hgz3
 go_enter Try.func162, Try.ntmps162
 go_wp2
 repeat (go_quiet (fail); try go_wp2)
 go_ret
 exact ⟨enq, by repeat (first | (with_reducible first | exact HI0.out | apply IsS47.alloc | apply IsS47.drewN | apply IsS47.drew | apply IsS47.set_0 | apply IsS47.set_1 | apply IsS47.set_2 | apply IsS47.set_3 | apply IsS47.set_4 | apply IsS47.set_5) | exact HI0.out), by repeat (first | (with_reducible first | exact HB.out | apply below_alloc | apply pw_below_drewN | apply below_drew1 | refine below_set ?_ (IsS47.ge HI0.out)) | exact HB.out), kbw⟩

/-! ### spec_l15Mine_any: function 162 -/
/-- Does a part carry the pulses of a band. -/
def spec_l15Mine_any.f (a0 : Int) (a5 : Int) (i : Int) : Option Bool := some ((Int.tmod (wrap64 (a0 + i)) 2) == a5)
set_option maxHeartbeats 2000000 in
set_option maxRecDepth 100000 in
theorem spec_l15Mine_any.calls {B : Nat} (a0 : Int) (a5 : Int) (i : Int) (r : Bool) (w : World) (hbx : Aside0 (∃ (t : Nat) (cs : Array Value), w.heap[B]? = some (.cells cs t (0, 0)) ∧ cs[0]? = some (.int .i64 a0) ∧ cs[5]? = some (.int .i64 a5))) (h : spec_l15Mine_any.f a0 a5 i = some r) :
    Calls Try.prog 162 #[.pointer (some ⟨B, 0, none⟩), .int .i64 i] w fun e w' => e = .returned (.bool r) ∧ Below w.heap.size w w' := by
  obtain ⟨t, cs, hb, h0, h5⟩ := hbx.out
  have hc0 : w.cell? ⟨B, 0, none⟩ = some (.int .i64 a0) := (blk_cell hb 0).trans h0
  have hc5 : w.cell? ⟨B, 5, none⟩ = some (.int .i64 a5) := (blk_cell hb 5).trans h5
  obtain rfl := Option.some.inj h
  clear hbx hb h h0 h5
  go_enter Try.func162, Try.ntmps162
  have HB := Aside0.mk (Below.refl w.heap.size w)
  go_wp2
  repeat (go_quiet (fail); try go_wp2)
  go_ret
  exact ⟨by first | rfl | (simp [*]; done) | simp_all, by repeat (first | (with_reducible first | exact HB.out | apply below_alloc | apply pw_below_drewN | apply below_drew1) | exact HB.out)⟩

end Go.Proofs.Ythehhncokikgcaa.PFnExactPartOf
