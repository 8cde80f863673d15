-- Contracts of the functions that the law reaches, written by wip/xprint.py of this repo.
import Derived.Test.YthehhncokikgcaaRows
import Derived.Test.YthehhncokikgcaaPFnExactPartOfx16
import Derived.Test.YthehhncokikgcaaPureFnExactPartOf
import Derived.WalkKit
import Derived.ProofKit
import Derived.OpenShut
import Derived.ShutString
import Derived.ChangeOld
import Derived.Below
import Derived.SizedLaws
import Derived.Deep.Matrix
import Derived.ChangeArms
set_option linter.unusedVariables false
set_option linter.unusedSimpArgs false
namespace Go.Proofs.Ythehhncokikgcaa.fnExactPartOf
open Go.ChangeShapes Go.WideShapes Go.ChangeAt Go.RowKit Go.Deep
open Go.ChangeMaps (open_string shut_string)
open Go.Proofs.YthehhncokikgcaaW.PrintWords
theorem own : ownKnob Try.prog.godebug = none := by kernel_rfl
theorem laidOut : laidOutB Try.prog = true := by kernel_rfl
/-! What came in, read out of the data: a struct's field, a slice of numbers, a slice of slices of numbers. -/
section
variable {H : Type} {enc : TypeId × Value → H} {P : Program} {W : World} {base : Nat} {spare : Nat → Bool} {held : Bool}
theorem field_trod {fs : Array Field} {n : Nat} {cs cells : List Value} {xs : List (DataW H × List MemPlace)} (hg : ∀ (j : Nat) (f : Field), fs[j]? = some f → DataW.trod enc P W base spare held n f.type ((cs.drop f.offset).take (P.cellsOf f.type)) = xs[j]?)
    {j : Nat} {f : Field} {T s : Nat} (hj : fs[j]? = some f) (hT : f.type = T) (hs : P.cellsOf T = s) (hc : (cs.drop f.offset).take s = cells) (hx : j < xs.length) : ∃ y, DataW.trod enc P W base spare held n T cells = some y := by
  have := hg j f hj
  rw [List.getElem?_eq_getElem hx, hT, hs, hc] at this
  exact ⟨_, this⟩
theorem came_ints {t e : TypeId} {k : IntKind} {fuel : Nat} {cs : List Value} {x : DataW H × List MemPlace} (ht : P.underlying t = some (.slice e)) (he : P.underlying e = some (.int k)) (hc : P.cellsOf e = 1)
    (h : DataW.trod enc P W 0 (fun _ => true) true fuel t cs = some x) :
    ∃ (A : Option Addr) (c : Nat) (l : List Int), cs = [.slice A l.length c] ∧ l.length ≤ c ∧ l.length ≤ maxLen ∧ (∀ n ∈ l, (Lit.int k n).wf = true) ∧ Kd.C (Kd.int k) W A l.length l := by
  rcases open_ints ht he hc h with ⟨hcs, _⟩ | ⟨a, len, cap, zs, hcs, _, hl, hm, hz, _, hcell, hwz⟩
  · exact ⟨none, 0, [], hcs, Nat.le_refl _, Nat.zero_le _, fun _ h => by simp at h, by refine ⟨rfl, by simp, fun h => by simp at h⟩⟩
  · obtain ⟨l, e1, h1, h2, h3, h4⟩ := ReadsInt.ofRowC (k := k) (w := W) (a := some a) (len := len) (cap := cap) (zs := zs) (.inr ⟨a, rfl, hl, hm, by simpa using hz, hcell, hwz⟩)
    exact ⟨some a, cap, l, by rw [hcs, e1], h4, h2, h3, Kd.C_of_reads (d := (0 : Int)) (h1 := fun _ => rfl) h1⟩
theorem came_int_rows {t e q : TypeId} {k : IntKind} {fuel : Nat} {cs : List Value} {x : DataW H × List MemPlace} (ht : P.underlying t = some (.slice e)) (he : P.underlying e = some (.slice q)) (hq : P.underlying q = some (.int k))
    (ce : P.cellsOf e = 1) (cq : P.cellsOf q = 1) (h : DataW.trod enc P W 0 (fun _ => true) true fuel t cs = some x) :
    ∃ (A : Option Addr) (c : Nat) (l : List (List Int)), cs = [.slice A l.length c] ∧ l.length ≤ c ∧ l.length ≤ maxLen ∧ (∀ r ∈ l, r.length ≤ maxLen ∧ ∀ n ∈ r, (Lit.int k n).wf = true) ∧ Kd.C (Kd.slice q (Kd.int k)) W A l.length l := by
  rcases open_int_rows ht he hq ce cq h with ⟨hcs, _⟩ | ⟨a, len, cap, A, L, C, Z, hcs, _, hl, hm, _, hrow⟩
  · exact ⟨none, 0, [], hcs, Nat.le_refl _, Nat.zero_le _, fun _ h => by simp at h, by refine ⟨rfl, by simp, fun h => by simp at h⟩⟩
  · have hlen : ((List.range len).map fun r => (Z r).take (L r)).length = len := by simp
    refine ⟨some a, cap, (List.range len).map fun r => (Z r).take (L r), by rw [hlen, hcs], by omega, by omega, ?_, ?_⟩
    · intro r hr
      obtain ⟨j, hj, rfl⟩ := List.mem_map.1 hr
      have hj' := List.mem_range.1 hj
      obtain ⟨_, h1, h2, h3, h4, _, _⟩ := hrow j (by omega)
      exact ⟨by rw [List.length_take]; omega, fun n hn => h4 n (List.mem_of_mem_take hn)⟩
    · have hm' : cap ≤ 9223372036854775807 := by simp only [maxLen] at hm; exact hm
      refine ⟨rfl, by rw [hlen]; omega, fun _ => ⟨a, rfl, fun j p hj => ?_⟩⟩
      have hjl : j < len := by have := (List.getElem?_eq_some_iff.1 hj).1; rwa [hlen] at this
      have hp : p = (Z j).take (L j) := by
        rw [List.getElem?_map, List.getElem?_range hjl] at hj; simpa using hj.symm
      obtain ⟨hc, h1, h2, h3, h4, h5, h6⟩ := hrow j (by omega)
      have h2' : C j ≤ 9223372036854775807 := by simp only [maxLen] at h2; exact h2
      have hpl : p.length = L j := by rw [hp, List.length_take]; omega
      refine ⟨[.slice (A j) p.length (C j)], rfl, ⟨A j, C j, rfl, by omega, ?_⟩, fun i u hu => ?_⟩
      · refine ⟨rfl, by omega, fun h0 => ?_⟩
        cases hA : A j with
        | none => have := h5 hA; omega
        | some a' =>
          obtain ⟨_, h7⟩ := h6 a' hA
          refine ⟨a', rfl, fun i v hi => ⟨[.int k v], rfl, rfl, fun i' u hu => ?_⟩⟩
          have hil : i < p.length := (List.getElem?_eq_some_iff.1 hi).1
          have hv : (Z j).getD i 0 = v := by
            rw [List.getD_eq_getElem?_getD]
            rw [hp, List.getElem?_take, if_pos (by omega)] at hi
            rw [hi]; rfl
          cases i' with
          | zero =>
            have : Value.int k v = u := by simpa using hu
            subst this
            have := h7 i (by omega)
            rw [hv] at this
            show W.cell? (a'.add (i * 1 + 0)) = some (Value.int k v)
            simpa using this
          | succ i' => simp at hu
      · cases i with
        | zero =>
          have : Value.slice (A j) p.length (C j) = u := by simpa using hu
          subst this
          rw [hpl]
          show W.cell? (a.add (j * 1 + 0)) = some (Value.slice (A j) (L j) (C j))
          simpa using hc
        | succ i => simp at hu
end

theorem arr8 {α : Type} {cs : Array α} (h : cs.size = 8) : ∃ c0 c1 c2 c3 c4 c5 c6 c7 : α, cs = #[c0, c1, c2, c3, c4, c5, c6, c7] := by
  obtain ⟨l⟩ := cs
  match l, h with
  | [c0, c1, c2, c3, c4, c5, c6, c7], _ => exact ⟨c0, c1, c2, c3, c4, c5, c6, c7, rfl⟩
set_option maxRecDepth 100000 in
set_option maxHeartbeats 4000000 in
theorem lifted (os : Os) (started : os.Started) (H : Type) (enc : TypeId × Value → H) :
    ReturnsInHanded {} Try.checked os 7 .any (Rows.fnExactPartOfSpec.pre6 enc Try.prog Try.f7 Rows.fnExactPartOfRow.domain false) (Rows.fnExactPartOfSpec.post enc Try.prog Try.f7 false true false false) := by
  refine returnsInHanded_of_change_sized (C := Try.checked) own started (by kernel_rfl) Try.func7
    (ChangeSpec.witness6 (enc := enc) (C := Try.checked) false ⟨#[], #[.agg #[.int .i64 0, .int .i64 0, .int .i64 0, .int .i64 0, .int .i64 0, .slice none 0 0, .slice none 0 0, .slice none 0 0], .int .i64 0], []⟩ 8 (by kernel_rfl) (by kernel_rfl) (by kernel_rfl) (by kernel_rfl)) ?_
  intro W base args ds gs before hval0 hW hcnd hsz0 _
  have hval : ∀ (j : Nat) t v, Try.f7.params[j]? = some t → args[j]? = some v → Value.okWide Try.prog W .any base t v := hval0
  have hW' := hW
  obtain ⟨p, q, hA0, hV, rfl, hfz, hnd⟩ := hW
  have hA : DataW.TrodAll enc Try.prog W 0 (fun _ => true) true Try.f7.params.toList args.toList ds p := hA0
  rw [Try.params7] at hA hval
  obtain ⟨v0, vs0, d0, ds0, p0, q0, hargs, rfl, rfl, h0, r0⟩ := trodAll_cons hA
  obtain ⟨v1, vs1, d1, ds1, p1, q1, rfl, rfl, rfl, h1, r1⟩ := trodAll_cons r0
  obtain ⟨rfl, rfl, rfl⟩ := trodAll_nil r1
  obtain rfl : args = #[v0, v1] := by cases args; simp_all
  obtain ⟨rfl, rfl⟩ := trodVars_none hV
  clear hA0 hval0 hsz0
  have k0 := h0
  have lt0 : ∀ x ∈ p0, x.block < W.heap.size := by obtain ⟨m, hm⟩ := k0; exact DataW.trod_lt m _ _ _ hm
  obtain ⟨cs_, rfl, hsz_⟩ := okWide_struct Try.underlying33 (hval 0 33 v0 rfl rfl)
  obtain ⟨z0_0, z0_1, z0_2, z0_3, z0_4, z0_5, z0_6, z0_7, rfl⟩ := arr8 (hsz_.trans (by kernel_rfl : Try.prog.cellsOf 33 = 8))
  obtain ⟨fu0, hf0⟩ := h0
  have hg0 : DataW.trod enc Try.prog W 0 (fun _ => true) true fu0 33 [z0_0, z0_1, z0_2, z0_3, z0_4, z0_5, z0_6, z0_7] = some (d0, p0) := by simpa [Value.cells] using hf0
  clear hf0
  obtain ⟨xs_, n_, -, -, -, hlen_, g0⟩ := DataW.trod_struct Try.underlying33 hg0
  obtain ⟨y_, f0_0⟩ := field_trod g0 (cells := [z0_0]) (j := 0) (T := 2) (s := 1) rfl rfl (by kernel_rfl) rfl (show 0 < xs_.length by rw [hlen_]; decide)
  obtain ⟨y_, f0_1⟩ := field_trod g0 (cells := [z0_1]) (j := 1) (T := 2) (s := 1) rfl rfl (by kernel_rfl) rfl (show 1 < xs_.length by rw [hlen_]; decide)
  obtain ⟨y_, f0_2⟩ := field_trod g0 (cells := [z0_2]) (j := 2) (T := 2) (s := 1) rfl rfl (by kernel_rfl) rfl (show 2 < xs_.length by rw [hlen_]; decide)
  obtain ⟨y_, f0_3⟩ := field_trod g0 (cells := [z0_3]) (j := 3) (T := 2) (s := 1) rfl rfl (by kernel_rfl) rfl (show 3 < xs_.length by rw [hlen_]; decide)
  obtain ⟨y_, f0_4⟩ := field_trod g0 (cells := [z0_4]) (j := 4) (T := 2) (s := 1) rfl rfl (by kernel_rfl) rfl (show 4 < xs_.length by rw [hlen_]; decide)
  obtain ⟨y_, f0_5⟩ := field_trod g0 (cells := [z0_5]) (j := 5) (T := 24) (s := 1) rfl rfl (by kernel_rfl) rfl (show 5 < xs_.length by rw [hlen_]; decide)
  obtain ⟨y_, f0_6⟩ := field_trod g0 (cells := [z0_6]) (j := 6) (T := 24) (s := 1) rfl rfl (by kernel_rfl) rfl (show 6 < xs_.length by rw [hlen_]; decide)
  obtain ⟨y_, f0_7⟩ := field_trod g0 (cells := [z0_7]) (j := 7) (T := 31) (s := 1) rfl rfl (by kernel_rfl) rfl (show 7 < xs_.length by rw [hlen_]; decide)
  clear g0 hlen_
  obtain ⟨a0_0, e_, -, w0_0_0⟩ := DataW.trod_int Try.underlying2 f0_0
  obtain rfl := List.cons.inj e_ |>.1
  clear e_
  obtain ⟨a0_1, e_, -, w0_1_0⟩ := DataW.trod_int Try.underlying2 f0_1
  obtain rfl := List.cons.inj e_ |>.1
  clear e_
  obtain ⟨a0_2, e_, -, w0_2_0⟩ := DataW.trod_int Try.underlying2 f0_2
  obtain rfl := List.cons.inj e_ |>.1
  clear e_
  obtain ⟨a0_3, e_, -, w0_3_0⟩ := DataW.trod_int Try.underlying2 f0_3
  obtain rfl := List.cons.inj e_ |>.1
  clear e_
  obtain ⟨a0_4, e_, -, w0_4_0⟩ := DataW.trod_int Try.underlying2 f0_4
  obtain rfl := List.cons.inj e_ |>.1
  clear e_
  obtain ⟨A0_5, c0_5, l0_5, e_, hc0_5, w0_5_0, w0_5_1, hr0_5⟩ := came_ints Try.underlying24 Try.underlying2 (by kernel_rfl) f0_5
  obtain rfl := List.cons.inj e_ |>.1
  clear e_
  obtain ⟨A0_6, c0_6, l0_6, e_, hc0_6, w0_6_0, w0_6_1, hr0_6⟩ := came_ints Try.underlying24 Try.underlying2 (by kernel_rfl) f0_6
  obtain rfl := List.cons.inj e_ |>.1
  clear e_
  obtain ⟨A0_7, c0_7, l0_7, e_, hc0_7, w0_7_0, w0_7_1, hr0_7⟩ := came_int_rows Try.underlying31 Try.underlying24 Try.underlying2 (by kernel_rfl) (by kernel_rfl) f0_7
  obtain rfl := List.cons.inj e_ |>.1
  clear e_
  obtain ⟨a1, rfl, rfl, rfl, w1_0⟩ := open_int Try.underlying2 (hval 1 2 v1 rfl rfl) h1
  refine (PFnExactPartOf.laws_FnExactPartOf.walk Pure.FnExactPartOf a0_0 a0_1 a0_2 a0_3 a0_4 A0_5 c0_5 l0_5 A0_6 c0_6 l0_6 A0_7 c0_7 l0_7 a1 W w0_0_0 w0_1_0 w0_2_0 w0_3_0 w0_4_0 w0_5_0 w0_5_1 w0_6_0 w0_6_1 w0_7_0 w0_7_1 w1_0 hr0_5 hc0_5 hr0_6 hc0_6 hr0_7 hc0_7).mono fun e W' ⟨he, bel⟩ => ?_
  subst he
  exact ⟨_, rfl, _, _, _, [], _, [], hW', trodAll_mk1 (shut_bool Try.underlying4 _), (trodAll_cons_mk (Below.trod laidOut (by kernel_rfl) (of_decide_eq_true (by kernel_rfl)) k0 bel lt0) (trodAll_cons_mk (shut_int Try.underlying2 w1_0) trodAll_mk0)), rfl, bel.frame _, fun h => by cases h⟩
theorem over : Rows.fnExactPartOfRow.holds Try.pinned (OpenSpec.ofChange Rows.fnExactPartOfSpec) :=
  OpenClaim.holds_of_wide 7 Try.f7 rfl rfl rfl rfl rfl rfl rfl ⟨rfl, rfl, rfl, rfl, rfl⟩ rfl rfl rfl rfl rfl (by kernel_rfl) Try.func7 (by kernel_rfl)
    (of_decide_eq_true (by kernel_rfl)) (by unfold Func.isWrapper; first | (rw [if_pos (by decide +kernel)]; kernel_rfl) | (rw [if_neg (by decide +kernel)]; exact ⟨rfl, rfl⟩))
    (fun os started H enc _ => lifted os started H enc)
theorem proved : Rows.FnExactPartOfSaid := over
#print axioms proved
end Go.Proofs.Ythehhncokikgcaa.fnExactPartOf
namespace Go.Proofs.Ythehhncokikgcaa
/-- The row, under a short name, for the claim. -/
theorem fnExactPartOf_holds : Rows.FnExactPartOfSaid := fnExactPartOf.proved
end Go.Proofs.Ythehhncokikgcaa
