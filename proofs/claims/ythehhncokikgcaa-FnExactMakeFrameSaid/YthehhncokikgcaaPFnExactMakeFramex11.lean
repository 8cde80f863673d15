-- Contracts of the functions that the law reaches, written by wip/xprint.py of this repo.
import Derived.Test.YthehhncokikgcaaPFnExactMakeFramex0
import Derived.Test.YthehhncokikgcaaPFnExactMakeFramex1
import Derived.Test.YthehhncokikgcaaPFnExactMakeFramex8
import Derived.Test.YthehhncokikgcaaPFnExactMakeFramex10
namespace Go.Proofs.Ythehhncokikgcaa.PFnExactMakeFrame
open Go.RowKit Go.Proofs.YthehhncokikgcaaW.PrintWords Go.Proofs.YthehhncokikgcaaW.PrintLast Go.Proofs.YthehhncokikgcaaW.PrintMore
attribute [local go_sem] max2_int min2_int max_two min_two max_three min_three max_four min_four   -- for this text's walks alone
set_option linter.unusedVariables false
set_option linter.unusedSimpArgs false

/-! ### impl_searchPulses: function 118 -/
/-! #### The order of indices by a number each, the greatest first -/
/-- i stands ahead of j: a greater number, or the same one and a smaller index. -/
def prc (r : Nat → Int) (i j : Nat) : Prop := r j < r i ∨ (r i = r j ∧ i < j)
theorem prc_trans {r : Nat → Int} {a b c : Nat} (h : prc r a b) (k : prc r b c) : prc r a c := by unfold prc at *; omega
theorem prc_irr {r : Nat → Int} {a : Nat} : ¬ prc r a a := by unfold prc; omega
def ple (r : Nat → Int) (i j : Nat) : Bool := decide (r j < r i ∨ (r i = r j ∧ i ≤ j))
/-- The indices below n in that order. -/
def srtd (r : Nat → Int) (n : Nat) : List Nat := (List.range n).mergeSort (ple r)
theorem srtd_perm (r : Nat → Int) (n : Nat) : (srtd r n).Perm (List.range n) := List.mergeSort_perm _ _
theorem srtd_srt (r : Nat → Int) (n : Nat) : (srtd r n).Pairwise (prc r) := by
  have h : (srtd r n).Pairwise (fun a b => ple r a b = true) := List.pairwise_mergeSort (fun a b c h k => by unfold ple at *; simp only [decide_eq_true_eq] at *; omega) (fun a b => by unfold ple; simp only [Bool.or_eq_true, decide_eq_true_eq]; omega) _
  have h2 : (srtd r n).Pairwise (fun a b => a ≠ b) := (srtd_perm r n).nodup_iff.2 List.nodup_range
  refine (h.and h2).imp (fun {a b} h => ?_)
  have h3 := h.1
  unfold ple at h3
  have h5 := of_decide_eq_true h3
  have h4 : a ≠ b := h.2
  unfold prc; omega
theorem srt_one {r : Nat → Int} : ∀ (s t : List Nat), s.Perm t → s.Pairwise (prc r) → t.Pairwise (prc r) → s = t
  | [], t, h, _, _ => (List.nil_perm.1 h).symm
  | a :: s, [], h, _, _ => by simp at h
  | a :: s, b :: t, h, hs, ht => by
    have e : a = b := by
      have ha : a ∈ b :: t := h.subset List.mem_cons_self
      have hb : b ∈ a :: s := h.symm.subset List.mem_cons_self
      rcases List.mem_cons.1 ha with e | ha
      · exact e
      rcases List.mem_cons.1 hb with e | hb
      · exact e.symm
      exact absurd (prc_trans (List.rel_of_pairwise_cons hs hb) (List.rel_of_pairwise_cons ht ha)) prc_irr
    subst e
    rw [srt_one s t ((List.perm_cons a).1 h) hs.of_cons ht.of_cons]
theorem srtd_eq {r : Nat → Int} {n : Nat} {s : List Nat} (h : s.Perm (List.range n)) (hs : s.Pairwise (prc r)) : s = srtd r n := srt_one s _ (h.trans (srtd_perm r n).symm) hs (srtd_srt r n)
/-- The indices from i on. -/
def upw (i n : Nat) : List Nat := List.range' i (n - i)
theorem upw_cons {i n : Nat} (h : i < n) : upw i n = i :: upw (i + 1) n := by unfold upw; rw [show n - i = (n - (i + 1)) + 1 by omega]; rfl
theorem upw_nil {n : Nat} : upw n n = [] := by unfold upw; simp
/-- The sort's state between two rounds: the first i are sorted. -/
def Srt (r : Nat → Int) (n i : Nat) (s : List Nat) : Prop := ∃ P, s = P ++ upw i n ∧ P.Perm (List.range i) ∧ P.Pairwise (prc r)
/-- The sort's state within a round: i is on its way, at j. -/
def Ins (r : Nat → Int) (n i j : Nat) (s : List Nat) : Prop := ∃ A B, s = A ++ i :: (B ++ upw (i + 1) n) ∧ A.length = j ∧ (A ++ B).Perm (List.range i) ∧ (A ++ B).Pairwise (prc r) ∧ ∀ b ∈ B, prc r i b
theorem Srt.len {r : Nat → Int} {n i : Nat} {s : List Nat} (h : Srt r n i s) (hi : i ≤ n) : s.length = n := by
  obtain ⟨P, rfl, h1, _⟩ := h
  have := h1.length_eq
  simp [upw] at this ⊢; omega
theorem Srt.start {r : Nat → Int} {n : Nat} (h : 1 ≤ n) : Srt r n 1 (List.range n) := by
  refine ⟨[0], ?_, by simp [List.range_succ], by simp⟩
  rw [List.range_eq_range', show List.range' 0 n = upw 0 n by unfold upw; simp, upw_cons (by omega)]; rfl
theorem Srt.into {r : Nat → Int} {n i : Nat} {s : List Nat} (h : Srt r n i s) (hi : i < n) : Ins r n i i s := by
  obtain ⟨P, rfl, h1, h2⟩ := h
  refine ⟨P, [], by rw [upw_cons hi]; rfl, ?_, by simpa using h1, by simpa using h2, by simp⟩
  have := h1.length_eq; simpa using this
theorem Ins.len {r : Nat → Int} {n i j : Nat} {s : List Nat} (h : Ins r n i j s) (hi : i < n) : s.length = n ∧ j ≤ i := by
  obtain ⟨A, B, rfl, h1, h2, _⟩ := h
  have := h2.length_eq
  simp [upw] at this ⊢; omega
/-- What lies at j, and just ahead of it. -/
theorem Ins.at_ {r : Nat → Int} {n i j : Nat} {s : List Nat} (h : Ins r n i (j + 1) s) : ∃ a, s[j]? = some a ∧ s[j + 1]? = some i ∧ a < i ∧ (r a < r i → Ins r n i j ((s.set (j + 1) a).set j i)) ∧ (¬ r a < r i → Srt r n (i + 1) s) := by
  obtain ⟨A, B, rfl, h1, h2, h3, h4⟩ := h
  obtain ⟨A', a, rfl⟩ : ∃ A' a, A = A' ++ [a] := by
    rcases List.eq_nil_or_concat A with rfl | ⟨A', a, e⟩
    · simp at h1
    · exact ⟨A', a, by simpa using e⟩
  have hl : A'.length = j := by simpa using h1
  subst hl
  have ha : a < i := by
    have : a ∈ List.range i := h2.subset (by simp)
    simpa using this
  refine ⟨a, by simp, by simp, ha, fun hr => ?_, fun hr => ?_⟩
  · refine ⟨A', a :: B, ?_, rfl, by simpa using h2, by simpa using h3, ?_⟩
    · simp
    · intro b hb
      rcases List.mem_cons.1 hb with rfl | hb
      · exact Or.inl hr
      · exact h4 b hb
  · have hai : prc r a i := by unfold prc; omega
    refine ⟨(A' ++ [a]) ++ i :: B, by simp, ?_, ?_⟩
    · have := h2.cons i
      rw [List.range_succ]
      exact (List.perm_middle.trans this).trans (List.perm_append_singleton _ _).symm
    · rw [List.pairwise_append] at h3 ⊢
      refine ⟨h3.1, List.pairwise_cons.2 ⟨h4, h3.2.1⟩, fun x hx y hy => ?_⟩
      have hxi : prc r x i := by
        rcases List.mem_append.1 hx with hx | hx
        · exact prc_trans ((List.pairwise_append.1 h3.1).2.2 x hx a (by simp)) hai
        · rw [List.mem_singleton.1 hx]; exact hai
      rcases List.mem_cons.1 hy with rfl | hy
      · exact hxi
      · exact h3.2.2 x hx y hy
theorem Ins.at0 {r : Nat → Int} {n i : Nat} {s : List Nat} (h : Ins r n i 0 s) : Srt r n (i + 1) s := by
  obtain ⟨A, B, rfl, h1, h2, h3, h4⟩ := h
  obtain rfl : A = [] := List.eq_nil_of_length_eq_zero h1
  refine ⟨i :: B, by simp, ?_, List.pairwise_cons.2 ⟨h4, by simpa using h3⟩⟩
  have := h2.cons i
  rw [List.range_succ]
  exact (by simpa using this : (i :: B).Perm (i :: List.range i)).trans (List.perm_append_singleton _ _).symm
theorem Srt.done {r : Nat → Int} {n : Nat} {s : List Nat} (h : Srt r n n s) : s = srtd r n := by
  obtain ⟨P, rfl, h1, h2⟩ := h
  rw [upw_nil, List.append_nil]
  exact srtd_eq h1 h2
/-- Indices as whole numbers. -/
def ints (s : List Nat) : List Int := s.map fun i : Nat => (i : Int)
theorem ints_len (s : List Nat) : (ints s).length = s.length := by simp [ints]
theorem ints_rd {s : List Nat} {j a : Nat} (h : s[j]? = some a) : rdOf (0 : Int) (ints s) (j : Int) = (a : Int) := by
  unfold rdOf ints; simp [List.getD_eq_getElem?_getD, h]
theorem ints_set (s : List Nat) (j a : Nat) : (ints s).set j (a : Int) = ints (s.set j a) := by simp [ints]
/-- What is asked of a comparison: it answers by r, and turns nothing. -/
def Cmps (g : Nat) (lb : Array Value) (r : Nat → Int) (n row : Nat) (w0 w : World) : Prop :=
  ∀ (x y : Nat) (W : World), x < n → y < n → KeepBut w W row none → Below w0.heap.size w0 W → Calls Try.prog g (#[.int .i64 (x : Int), .int .i64 (y : Int)] ++ lb) W fun e w' => e = .returned (.int .i64 (if r y < r x then -1 else if r x < r y then 1 else 0)) ∧ Drawn0 W w'
theorem row_at {W : World} {e base row n cap j a : Nat} {ok : Nat → Prop} {s : List Nat} (h : (Kd.int .i64).R e W base ok (.slice (some ⟨row, 0, none⟩) n cap) (ints s)) (hl : s.length = n) (hs : s[j]? = some a) : W.cell? ⟨row, j, none⟩ = some (.int .i64 (a : Int)) ∧ W.frozen? ⟨row, j, none⟩ = false := by
  have hj : j < n := by rcases Nat.lt_or_ge j s.length with h1 | h1; · omega
                        · rw [List.getElem?_eq_none h1] at hs; cases hs
  have := Kd.R_celln (0 : Int) h (j : Int) (by omega) (by omega)
  rw [ints_rd hs, Int.toNat_natCast] at this
  exact this
theorem row_put {W : World} {e base row n cap : Nat} {ok : Nat → Prop} {s : List Nat} (h : (Kd.int .i64).R e W base ok (.slice (some ⟨row, 0, none⟩) n cap) (ints s)) (j a : Nat) : (Kd.int .i64).R e (W.setCell ⟨row, j, none⟩ (.int .i64 (a : Int))) base ok (.slice (some ⟨row, 0, none⟩) n cap) (ints (s.set j a)) := by
  have := Kd.R_putn h (j : Int) (a : Int)
  rw [Int.toNat_natCast, ints_set] at this
  exact this
set_option maxHeartbeats 16000000 in
set_option maxRecDepth 1000000 in
/-- The insertion sort of a row of its own of indices, by whatever comparison. -/
theorem insertion_calls (r : Nat → Int) (g : Nat) (lb : Array Value) (eg : ∀ args w, (callFunc g args).run Try.prog w = .ok (.enter g args) w) (n row cap base : Nat) (ok : Nat → Prop) (w0 W : World) (hc : Cmps g lb r n row w0 W)
    (ho : (Kd.int .i64).R 3 W base ok (.slice (some ⟨row, 0, none⟩) n cap) (ints (List.range n))) (h1 : 1 ≤ n) (hn : n ≤ 1000000) (hb : Below w0.heap.size w0 W) (hrow : w0.heap.size ≤ row) :
    Calls Try.prog 211 #[.slice (some ⟨row, 0, none⟩) n cap, .int .i64 0, .int .i64 (n : Int), .func (.func g) #[] lb] W fun e w' =>
      e = .returned (.tuple #[]) ∧ KeepBut W w' row none ∧ Below w0.heap.size w0 w' ∧ (Kd.int .i64).R 3 w' base ok (.slice (some ⟨row, 0, none⟩) n cap) (ints (srtd r n)) := by
  have HC := Aside0.mk hc
  have HO := Aside0.mk ho
  have HB := Aside0.mk hb
  have HR := Aside0.mk hrow
  have HK := Aside0.mk (KeepBut.refl W row none)
  clear hc ho hb hrow
  go_enter Try.func211, Try.ntmps211
  go_wp2
  go_loopg [8] n (fun g1 vi wr => ∃ (i : Nat) (s : List Nat), vi = .int .i64 i ∧ 0 < i ∧ i ≤ n ∧ n - i ≤ g1 ∧ Aside0 (Srt r n i s) ∧ Aside0 (KeepBut W wr row none) ∧ Aside0 (Below w0.heap.size w0 wr) ∧ Aside0 ((Kd.int .i64).R 3 wr base ok (.slice (some ⟨row, 0, none⟩) n cap) (ints s)))
  case atStart => exact ⟨1, List.range n, by go_num, by omega, h1, by omega, ⟨Srt.start h1⟩, HK, HB, HO⟩
  case round =>
    clear HK HB HO
    obtain ⟨i, s, rfl, hi0, hin, hg1, HS, HK, HB, HO⟩ := hrel
    by_cases hlt : i < n
    · have hltz : (i : Int) < (n : Int) := by omega
      go_wp2
      go_loopg [9] i (fun g2 vj wr2 => ∃ (j : Nat) (s2 : List Nat), vj = .int .i64 j ∧ j ≤ i ∧ j ≤ g2 ∧ Aside0 (Ins r n i j s2) ∧ Aside0 (KeepBut W wr2 row none) ∧ Aside0 (Below w0.heap.size w0 wr2) ∧ Aside0 ((Kd.int .i64).R 3 wr2 base ok (.slice (some ⟨row, 0, none⟩) n cap) (ints s2)))
      case atStart => exact ⟨i, s, rfl, by omega, by omega, ⟨HS.out.into hlt⟩, HK, HB, HO⟩
      case round =>
        clear HK HB HO HS
        obtain ⟨j, s2, rfl, hji, hg2, HI, HK, HB, HO⟩ := hrel
        have hl2 := HI.out.len hlt
        cases j with
        | zero =>
          have c0 : decide (((0 : Nat) : Int) > 0) = false := decide_eq_false (by omega)
          have HS := Aside0.mk HI.out.at0
          clear hl2 HI
          go_wp2_with fail
          go_quiet (fail)
          go_wp2
          go_roundg (n - (i + 1))
          case measure => omega
          case rel => exact ⟨i + 1, s2, by go_num, by omega, by omega, by omega, HS, ⟨keep_drewN HK.out _⟩, ⟨pw_below_drewN HB.out _⟩, ⟨Kd.R_drewN HO.out _⟩⟩
        | succ jp =>
          obtain ⟨a, ha, hi, hai, hsw, hst⟩ := HI.out.at_
          have HSW := Aside0.mk hsw
          have HST := Aside0.mk hst
          have HL := Aside0.mk hl2.1
          have f1 := row_at HO.out hl2.1 ha
          have f2 := row_at HO.out hl2.1 hi
          clear hsw hst
          have g1_ : decide ((jp : Int) + 1 > 0) = true := decide_eq_true (by omega)
          have g2_ : (0 : Int) < (jp : Int) + 1 := by omega
          have e1_ : ((jp : Int) + 1).toNat = jp + 1 := by omega
          have p1_ : (0 : Int) ≤ (jp : Int) + 1 := by omega
          have b1_ : (jp : Int) + 1 < (n : Int) := by omega
          have r1_ : IntKind.i64.wrap ((jp : Int) + 1) = (jp : Int) + 1 := by rw [IntKind.wrap_i64]; omega
          have p2_ : (0 : Int) ≤ (jp : Int) := by omega
          have b2_ : (jp : Int) < (n : Int) := by omega
          have r2_ : IntKind.i64.wrap (jp : Int) = (jp : Int) := by rw [IntKind.wrap_i64]; omega
          by_cases hr : r a < r i
          · have hcall := fun (q : Nat) => HC.out i a (wr.drewN q) hlt (by omega) (keep_drewN HK.out q) (pw_below_drewN HB.out q)
            rw [if_pos hr] at hcall
            have HCALL := Aside0.mk hcall
            have HI2 := Aside0.mk (HSW.out hr)
            clear hcall hr
            go_wp2_with fail
            go_quiet ((go_at_fn g; (with_reducible refine (HCALL.out _).mono ?_); rintro e w' ⟨rfl, ⟨nd, rfl⟩⟩; first | exact ⟨rfl, _, rfl⟩ | exact ⟨rfl, _, World.drewN_drewN _ _ _⟩))
            have n0 := Aside0.mk (Kd.R_drewN HO.out nq)
            have n1 := Aside0.mk (keep_drewN HK.out nq)
            have n2 := Aside0.mk (pw_below_drewN HB.out nq)
            clear HO HK HB f1 f2 HCALL
            generalize wr.drewN nq = w2 at n0 n1 n2 ⊢
            go_wp2_with fail
            obtain ⟨f1, k1⟩ := row_at n0.out HL.out ha
            obtain ⟨f2, k2⟩ := row_at n0.out HL.out hi
            have f3 : (w2.setCell ⟨row, jp + 1, none⟩ (.int .i64 (a : Int))).cell? ⟨row, jp, none⟩ = some (.int .i64 (a : Int)) := (World.cell?_setCell_other _ _ _ _ (by intro e; simp only [Addr.mk.injEq] at e; omega)).trans f1
            have S0 : Aside0 ((Kd.int .i64).R 3 ((w2.setCell ⟨row, jp + 1, none⟩ (.int .i64 (a : Int))).setCell ⟨row, jp, none⟩ (.int .i64 (i : Int))).drew base ok (.slice (some ⟨row, 0, none⟩) n cap) (ints ((s2.set (jp + 1) a).set jp i))) := ⟨Kd.R_drew (row_put (row_put n0.out (jp + 1) a) jp i)⟩
            have S1 : Aside0 (KeepBut W ((w2.setCell ⟨row, jp + 1, none⟩ (.int .i64 (a : Int))).setCell ⟨row, jp, none⟩ (.int .i64 (i : Int))).drew row none) := ⟨keep_drew (KeepBut.set_ (KeepBut.set_ n1.out _ _) _ _)⟩
            have S2 : Aside0 (Below w0.heap.size w0 ((w2.setCell ⟨row, jp + 1, none⟩ (.int .i64 (a : Int))).setCell ⟨row, jp, none⟩ (.int .i64 (i : Int))).drew) := ⟨below_drew1 (below_set (below_set n2.out HR.out) HR.out)⟩
            clear n0 n1 n2
            go_big_region
            clear f1 f2 f3 k1 k2
            generalize ((w2.setCell ⟨row, jp + 1, none⟩ (.int .i64 (a : Int))).setCell ⟨row, jp, none⟩ (.int .i64 (i : Int))).drew = w3 at S0 S1 S2 ⊢
            go_wp2
            go_roundg jp
            case measure => omega
            case rel => exact ⟨jp, _, by first | rfl | go_num, by omega, Nat.le_refl _, HI2, S1, S2, S0⟩
          · obtain ⟨c, hc, hcall⟩ : ∃ c : Int, ¬ c < 0 ∧ ∀ q : Nat, Calls Try.prog g (#[.int .i64 (i : Int), .int .i64 (a : Int)] ++ lb) (wr.drewN q) fun e w' => e = .returned (.int .i64 c) ∧ Drawn0 (wr.drewN q) w' := by
              refine ⟨if r i < r a then 1 else 0, by split <;> omega, fun q => ?_⟩
              have := HC.out i a (wr.drewN q) hlt (by omega) (keep_drewN HK.out q) (pw_below_drewN HB.out q)
              rwa [if_neg hr] at this
            have HCALL := Aside0.mk hcall
            have HS2 := Aside0.mk (HST.out hr)
            have hc0 : decide (c < 0) = false := decide_eq_false hc
            clear hcall hr HSW HST
            go_wp2_with fail
            go_quiet ((go_at_fn g; (with_reducible refine (HCALL.out _).mono ?_); rintro e w' ⟨rfl, ⟨nd, rfl⟩⟩; first | exact ⟨rfl, _, rfl⟩ | exact ⟨rfl, _, World.drewN_drewN _ _ _⟩))
            go_wp2
            go_roundg (n - (i + 1))
            case measure => omega
            case rel => exact ⟨i + 1, s2, by go_num, by omega, by omega, by omega, HS2, ⟨keep_drewN HK.out _⟩, ⟨pw_below_drewN HB.out _⟩, ⟨Kd.R_drewN HO.out _⟩⟩
    · have hltz : ¬ (i : Int) < (n : Int) := by omega
      obtain rfl : i = n := by omega
      go_wp2
      go_end0
      exact ⟨rfl, HK.out, HB.out, by rw [← HS.out.done]; exact HO.out⟩
/-- What a sort leaves. -/
def Sorted (r : Nat → Int) (n row cap base : Nat) (ok : Nat → Prop) (w0 W : World) (e : Ending) (w' : World) : Prop :=
  e = .returned (.tuple #[]) ∧ KeepBut W w' row none ∧ Below w0.heap.size w0 w' ∧ (Kd.int .i64).R 3 w' base ok (.slice (some ⟨row, 0, none⟩) n cap) (ints (srtd r n))
set_option maxHeartbeats 4000000 in
set_option maxRecDepth 1000000 in
theorem stable_calls (r : Nat → Int) (g : Nat) (lb : Array Value) (eg : ∀ args w, (callFunc g args).run Try.prog w = .ok (.enter g args) w) (n row cap base : Nat) (ok : Nat → Prop) (w0 W : World) (hc : Cmps g lb r n row w0 W)
    (ho : (Kd.int .i64).R 3 W base ok (.slice (some ⟨row, 0, none⟩) n cap) (ints (List.range n))) (h1 : 1 ≤ n) (hn : n < 20) (hb : Below w0.heap.size w0 W) (hrow : w0.heap.size ≤ row) :
    Calls Try.prog 204 #[.slice (some ⟨row, 0, none⟩) n cap, .int .i64 (n : Int), .func (.func g) #[] lb] W (Sorted r n row cap base ok w0 W) := by
  have HI := Aside0.mk (insertion_calls r g lb eg n row cap base ok w0 W hc ho h1 (by omega) hb hrow)
  have c1 : ¬ (20 : Int) ≤ (n : Int) := by omega
  have c2 : ¬ (20 : Int) < (n : Int) := by omega
  have d1 : decide ((20 : Int) ≤ (n : Int)) = false := decide_eq_false c1
  have d2 : decide ((20 : Int) < (n : Int)) = false := decide_eq_false c2
  clear hc ho hb hrow
  go_enter Try.func204, Try.ntmps204
  go_wp2
  go_loopg [7, 8] 1 (fun _ v7 v8 wr => v7 = .int .i64 0 ∧ v8 = .int .i64 20 ∧ Aside0 (W = wr))
  case atStart => exact ⟨rfl, rfl, ⟨rfl⟩⟩
  case round =>
    obtain ⟨rfl, rfl, ⟨rfl⟩⟩ := hrel
    go_wp2_with (go_at_call 211; refine HI.out.mono ?_; rintro e w1 ⟨rfl, h⟩; have HP := Aside0.mk h; clear h)
    go_loopg [6, 7, 8, 9] 1 (fun _ v6 v7 v8 v9 wr => v6 = .int .i64 20 ∧ Aside0 (w1 = wr))
    case atStart => exact ⟨rfl, ⟨rfl⟩⟩
    case round =>
      obtain ⟨rfl, ⟨rfl⟩⟩ := hrel
      go_wp2
      go_end0
      exact ⟨rfl, HP.out⟩
set_option maxHeartbeats 4000000 in
theorem sorts_calls (r : Nat → Int) (g : Nat) (lb : Array Value) (eg : ∀ args w, (callFunc g args).run Try.prog w = .ok (.enter g args) w) (n row cap base : Nat) (ok : Nat → Prop) (w0 W : World) (hc : Cmps g lb r n row w0 W)
    (ho : (Kd.int .i64).R 3 W base ok (.slice (some ⟨row, 0, none⟩) n cap) (ints (List.range n))) (h1 : 1 ≤ n) (hn : n < 20) (hb : Below w0.heap.size w0 W) (hrow : w0.heap.size ≤ row) :
    Calls Try.prog 178 #[.slice (some ⟨row, 0, none⟩) n cap, .func (.func g) #[] lb] W (Sorted r n row cap base ok w0 W) := by
  have HI := Aside0.mk (stable_calls r g lb eg n row cap base ok w0 W hc ho h1 hn hb hrow)
  clear hc ho hb hrow
  go_enter Try.func178, Try.ntmps178
  go_wp2_with (go_at_call 204; refine HI.out.mono ?_; rintro e w1 ⟨rfl, h⟩; have HP := Aside0.mk h; clear h)
  go_end0
  exact ⟨rfl, HP.out⟩
/-! #### The closures -/
/-- The absolute value. -/
def absI (x : Int) : Int := if x < -x then -x else x
theorem absI_bd {x : Int} (h0 : -16777216 ≤ x) (h1 : x ≤ 16777216) : 0 ≤ absI x ∧ absI x ≤ 16777216 := by unfold absI; split <;> omega
theorem absI_calls (x : Int) (w : World) (h0 : -16777216 ≤ x) (h1 : x ≤ 16777216) : Calls Try.prog 68 #[.int .i64 x] w fun e w' => e = .returned (.int .i64 (absI x)) ∧ Drawn0 w w' := by
  have hw : wrap64 (-x) = -x := by unfold wrap64; omega
  have hw2 : IntKind.i64.wrap (-x) = -x := by rw [IntKind.wrap_i64]; omega
  obtain ⟨v, hv⟩ : ∃ v : Int, (if x < -x then -x else x) = v := ⟨_, rfl⟩
  have HV := Aside0.mk (show v = absI x from hv.symm)
  go_enter Try.func68, Try.ntmps68
  go_wp2
  go_ret
  exact ⟨by rw [← HV.out]; rfl, ⟨0, rfl⟩⟩
/-- The rest of number i, and what it has for certain. -/
def srRest (l : List Int) (k nm : Int) (i : Nat) : Int := Int.tmod (k * absI (rd l (i : Int))) nm
def srBase (l : List Int) (k nm : Int) (i : Nat) : Int := Int.tdiv (k * absI (rd l (i : Int))) nm
/-- The boxes that the closures read. -/
structure SBox (A0 : Option Addr) (c0 : Nat) (l : List Int) (k nm : Int) (bk bt bn : Nat) (W : World) : Prop where
  k_ : W.heap[bk]? = some (.cells #[.int .i64 k] 2 (0, 0))
  t_ : W.heap[bt]? = some (.cells #[.slice A0 l.length c0] 24 (0, 0))
  n_ : W.heap[bn]? = some (.cells #[.int .i64 nm] 2 (0, 0))
  C : Kd.C (Kd.int .i64) W A0 l.length l
theorem SBox.drewN {A0 : Option Addr} {c0 : Nat} {l : List Int} {k nm : Int} {bk bt bn : Nat} {W : World} (h : SBox A0 c0 l k nm bk bt bn W) (q : Nat) : SBox A0 c0 l k nm bk bt bn (W.drewN q) := ⟨blk_drewN h.k_ q, blk_drewN h.t_ q, blk_drewN h.n_ q, Kd.C_drewN h.C q⟩
set_option maxHeartbeats 4000000 in
set_option maxRecDepth 100000 in
theorem rest_calls (A0 : Option Addr) (c0 : Nat) (l : List Int) (k nm : Int) (bk bt bn : Nat) (W : World) (h : SBox A0 c0 l k nm bk bt bn W) (hk : 0 ≤ k ∧ k ≤ 8) (hl : ∀ x ∈ l, -16777216 ≤ x ∧ x ≤ 16777216) (hn : nm ≠ 0) (hc : l.length ≤ 1000000) (i : Nat) (hi : i < l.length) :
    Calls Try.prog 177 #[.int .i64 (i : Int), .pointer (some ⟨bk, 0, none⟩), .pointer (some ⟨bt, 0, none⟩), .pointer (some ⟨bn, 0, none⟩)] W fun e w' => e = .returned (.int .i64 (srRest l k nm i)) ∧ Drawn0 W w' := by
  obtain ⟨ad, rfl, hx⟩ := Kd.at_int h.C (i : Int) (by omega) (by omega)
  have hk_ : W.cell? ⟨bk, 0, none⟩ = some (.int .i64 k) := (blk_cell h.k_ 0).trans rfl
  have ht_ : W.cell? ⟨bt, 0, none⟩ = some (.slice (some ad) l.length c0) := (blk_cell h.t_ 0).trans rfl
  have hn_ : W.cell? ⟨bn, 0, none⟩ = some (.int .i64 nm) := (blk_cell h.n_ 0).trans rfl
  have hm : rd l (i : Int) ∈ l := by unfold rd; rw [Int.toNat_natCast, List.getD_eq_getElem?_getD, List.getElem?_eq_getElem hi]; exact List.getElem_mem _
  have hb := hl _ hm
  have HA := Aside0.mk (fun W => absI_calls (rd l (i : Int)) W hb.1 hb.2)
  have hv := absI_bd hb.1 hb.2
  have hkv : 0 ≤ k * absI (rd l (i : Int)) ∧ k * absI (rd l (i : Int)) ≤ 134217728 := by
    have h1 := Int.mul_nonneg hk.1 hv.1
    have h2 : k * absI (rd l (i : Int)) ≤ 8 * absI (rd l (i : Int)) := Int.mul_le_mul_of_nonneg_right hk.2 hv.1
    omega
  have w1 : IntKind.i64.wrap (k * absI (rd l (i : Int))) = k * absI (rd l (i : Int)) := by rw [IntKind.wrap_i64]; omega
  have p1 : (0 : Int) ≤ (i : Int) := by omega
  have p2 : (i : Int) < (l.length : Int) := by omega
  have z1 : (nm == 0) = false := beq_eq_false_iff_ne.mpr hn
  have z2 : (nm != 0) = true := bne_iff_ne.mpr hn
  rw [Int.toNat_natCast] at hx
  have HR := Aside0.mk (show srRest l k nm i = Int.tmod (k * absI (rd l (i : Int))) nm from rfl)
  generalize srRest l k nm i = res at HR ⊢
  generalize absI (rd l (i : Int)) = v at HA hkv w1 HR hv
  generalize rd l (i : Int) = x at HA hx hb
  have H1 := Aside0.mk hkv
  replace hn : ¬ nm = 0 := hn
  clear hkv hv hb hm h hl hk hi hc
  go_enter Try.func177, Try.ntmps177
  go_wp2
  go_quiet ((go_at_call 68; (with_reducible refine (HA.out _).mono ?_); rintro e w' ⟨rfl, ⟨nd, rfl⟩⟩; first | exact ⟨rfl, _, rfl⟩ | exact ⟨rfl, _, World.drewN_drewN _ _ _⟩))
  go_wp2
  go_ret
  exact ⟨by rw [HR.out]; rfl, ⟨_, rfl⟩⟩
theorem compare_calls (a b : Int) (w : World) : Calls Try.prog 180 #[.int .i64 a, .int .i64 b] w fun e w' => e = .returned (.int .i64 (if a < b then -1 else if b < a then 1 else 0)) ∧ Drawn0 w w' := by
  refine cmp_Compare_int64.calls a b _ w ?_
  unfold cmp_Compare_int64.f cmp_isNaN_int64.f
  simp only [Option.bind_some, bne_self_eq_false, Bool.false_eq_true, if_false]
  split
  · rfl
  · split <;> rfl
set_option maxHeartbeats 4000000 in
set_option maxRecDepth 100000 in
theorem cmp_calls (r : Nat → Int) (lb : Array Value) (br n : Nat) (W : World) (t : Nat) (hb : W.heap[br]? = some (.cells #[.func (.func 177) #[] lb] t (0, 0)))
    (hr : ∀ (i q : Nat), i < n → Calls Try.prog 177 (#[.int .i64 (i : Int)] ++ lb) (W.drewN q) fun e w' => e = .returned (.int .i64 (r i)) ∧ Drawn0 (W.drewN q) w') (x y : Nat) (hx : x < n) (hy : y < n) :
    Calls Try.prog 179 #[.int .i64 (x : Int), .int .i64 (y : Int), .pointer (some ⟨br, 0, none⟩)] W fun e w' => e = .returned (.int .i64 (if r y < r x then -1 else if r x < r y then 1 else 0)) ∧ Drawn0 W w' := by
  have hc : W.cell? ⟨br, 0, none⟩ = some (.func (.func 177) #[] lb) := (blk_cell hb 0).trans rfl
  have eg : ∀ args w, (callFunc 177 args).run Try.prog w = .ok (.enter 177 args) w := enters_of Try.func177 (by kernel_rfl) rfl
  have HX := Aside0.mk (fun q => hr x q hx)
  have HY := Aside0.mk (fun q => hr y q hy)
  have HC := Aside0.mk (fun W => compare_calls (r y) (r x) W)
  generalize (if r y < r x then (-1 : Int) else if r x < r y then 1 else 0) = res at HC ⊢
  generalize r x = rx at HX HC
  generalize r y = ry at HY HC
  clear hr hb hx hy
  go_enter Try.func179, Try.ntmps179
  go_wp2
  go_quiet (first
    | (go_at_call 180; (with_reducible refine (HC.out _).mono ?_); rintro e w' ⟨rfl, ⟨nd, rfl⟩⟩; first | exact ⟨rfl, _, rfl⟩ | exact ⟨rfl, _, World.drewN_drewN _ _ _⟩)
    | (go_at_fn 177; (with_reducible refine (HY.out _).mono ?_); rintro e w' ⟨rfl, ⟨nd, rfl⟩⟩; first | exact ⟨rfl, _, rfl⟩ | exact ⟨rfl, _, World.drewN_drewN _ _ _⟩)
    | (go_at_fn 177; (with_reducible refine (HX.out _).mono ?_); rintro e w' ⟨rfl, ⟨nd, rfl⟩⟩; first | exact ⟨rfl, _, rfl⟩ | exact ⟨rfl, _, World.drewN_drewN _ _ _⟩))
  go_wp2
  go_ret
  exact ⟨rfl, ⟨_, rfl⟩⟩
/-- The comparison that the sort is handed. -/
theorem search_cmps (A0 : Option Addr) (c0 : Nat) (l : List Int) (k nm : Int) (bk bt bn br row t : Nat) (w0 W : World) (h : SBox A0 c0 l k nm bk bt bn W) (hC : Kd.C (Kd.int .i64) w0 A0 l.length l) (hbr : W.heap[br]? = some (.cells #[.func (.func 177) #[] #[.pointer (some ⟨bk, 0, none⟩), .pointer (some ⟨bt, 0, none⟩), .pointer (some ⟨bn, 0, none⟩)]] t (0, 0)))
    (hk : 0 ≤ k ∧ k ≤ 8) (hl : ∀ x ∈ l, -16777216 ≤ x ∧ x ≤ 16777216) (hn : nm ≠ 0) (hc : l.length ≤ 1000000) (n1 : bk ≠ row) (n2 : bt ≠ row) (n3 : bn ≠ row) (n4 : br ≠ row) :
    Cmps 179 #[.pointer (some ⟨br, 0, none⟩)] (srRest l k nm) l.length row w0 W := fun x y W' hx hy hK hB => by
  have h2 : SBox A0 c0 l k nm bk bt bn W' := ⟨hK.blk h.k_ n1 (by simp), hK.blk h.t_ n2 (by simp), hK.blk h.n_ n3 (by simp), Kd.C_below hC hB⟩
  have hr := hK.blk hbr n4 (by simp)
  exact cmp_calls (srRest l k nm) _ br l.length W' t hr (fun i q hi => rest_calls A0 c0 l k nm bk bt bn (W'.drewN q) (h2.drewN q) hk hl hn hc i hi) x y hx hy
/-! #### The search itself -/
theorem store_fn {P : Program} {W : World} (a : Addr) (fn : Fn) (x y : Array Value) {u : Value} (h1 : W.cell? a = some u) (h2 : W.frozen? a = false) : (store a (.func fn x y)).run P W = .ok () (W.setCell a (.func fn x y)) := by
  rw [run_store _ _ _ _ _ rfl, h1]
  simp [h2]
section
variable {P : Program} {ops : Array Oper} {Q : Exit → Act → World → Prop} {md : Region.Mode} {S : World → Prop} {ds : List Nat} {oi : Oper} {v : Value} {fuel : Nat} {l l' : Array Bool} {a a' : Act} {w : World}
theorem pq_ (i N : Nat) (h : wpAnyLast P md ops Q S ds fuel l' a' w)
    (hi : ops[i]? = some oi := by rfl) (hN : oi.dst = some N := by rfl) (hl : l.setIfInBounds i true = l' := by simp only [List.setIfInBounds_toArray, List.set_cons_zero, List.set_cons_succ]; rfl) (hc : anyB md ops l l' i = true := by kernel_rfl)
    (hQ : ∀ c a w, Q (.panic c) (a.put oi.dst v) w → Q (.panic c) a w := by exact fun _ _ _ h => h) (hw : Region.wanted oi (yielded ops a.tmps) = true := by rfl)
    (hy : ∀ w', (execOp a.eval oi).run P w' = .ok (.value v) w' := by intro w'; go_simp; with_reducible rfl) (ha : a.put (some N) v = a' := by exact apr) : wpAnyLast P md ops Q S ds (fuel + 1) l a w := pure_ l' hi hN hc hQ (Or.inl ⟨hw, hy⟩) ha h
theorem tq_ (i N : Nat) (hS : S w) (h : wpAnyLast P md ops Q S ds fuel l' a' w)
    (hi : ops[i]? = some oi := by rfl) (hN : oi.dst = some N := by rfl) (hl : l.setIfInBounds i true = l' := by simp only [List.setIfInBounds_toArray, List.set_cons_zero, List.set_cons_succ]; rfl) (hc : takeB md ops ds l l' i = true := by kernel_rfl)
    (hQ : ∀ c a w, Q (.panic c) (a.put oi.dst v) w → Q (.panic c) a w := by exact fun _ _ _ h => h) (hw : Region.wanted oi (yielded ops a.tmps) = true := by rfl)
    (hy : ∀ w', S w' → (execOp a.eval oi).run P w' = .ok (.value v) w' := by intro w' s; (try dsimp only at s); go_simp; with_reducible rfl) (ha : a.put (some N) v = a' := by exact apr) : wpAnyLast P md ops Q S ds (fuel + 1) l a w := take_ l' hi hN hc hQ (Or.inl ⟨hw, hy⟩) hS ha h
theorem oq_ {N : Option Tmp} (i : Nat)
    (h : ∀ K : Act → World → Prop, Shut (∀ a' w', S w' → (S w' → wpAnyLast P md ops Q S ds fuel l' a' w') → K a' w') → if Region.wanted oi (yielded ops a.tmps) = true then Oper.wp P oi a w K Q else K (a.put N undef) w)
    (hi : ops[i]? = some oi := by rfl) (hN : oi.dst = N := by rfl) (hl : l.setIfInBounds i true = l' := by simp only [List.setIfInBounds_toArray, List.set_cons_zero, List.set_cons_succ]; rfl) (hc : readyB md ops l l' i = true := by kernel_rfl) (hd : i ∉ ds := by decide) : wpAnyLast P md ops Q S ds (fuel + 1) l a w := one_ l' hi hN hc hd h
end
/-- What is missing after so many numbers. -/
def srMiss (l : List Int) (k nm : Int) : Nat → Int
  | 0 => k
  | i + 1 => srMiss l k nm i - srBase l k nm i
/-- The pulses. -/
def srch (l : List Int) (k nm : Int) : List Int :=
  if nm = 0 then (List.replicate l.length (0 : Int)).set 0 k
  else (List.range l.length).map fun i : Nat => if rd l (i : Int) < 0 then -(srBase l k nm i + if i ∈ (srtd (srRest l k nm) l.length).take (srMiss l k nm l.length).toNat then 1 else 0) else srBase l k nm i + if i ∈ (srtd (srRest l k nm) l.length).take (srMiss l k nm l.length).toNat then 1 else 0
def impl_searchPulses.f (l0 : List Int) (a1 : Int) : Option (List Int) := if (1 ≤ l0.length ∧ l0.length ≤ 4) ∧ (0 ≤ a1 ∧ a1 ≤ 8) ∧ (∀ x ∈ l0, -16777216 ≤ x ∧ x ≤ 16777216) then (impl_normOf.f 10 l0).bind fun nm => if (0 ≤ nm ∧ ∀ i, i ≤ l0.length → 0 ≤ srMiss l0 a1 nm i) ∧ (nm ≠ 0 → srMiss l0 a1 nm l0.length ≤ l0.length) then some (srch l0 a1 nm) else none else none
theorem infoInt : (Try.prog.info? 3).map (fun i => (i.zero, i.size, i.bytes)) = some (some (.int .i64 0), 1, 8) := by kernel_rfl
/-- What the search holds: the row of pulses, and the boxes. -/
structure SF (w : World) (A0 : Option Addr) (c0 : Nat) (l : List Int) (k nm : Int) (bk bt bn gO cap : Nat) (xs : List Int) (W : World) : Prop where
  o : Kd.R (Kd.int .i64) 2 W w.heap.size (fun q => q ≠ bk ∧ q ≠ bt ∧ q ≠ bn) (.slice (some ⟨gO, 0, none⟩) l.length cap) xs
  k_ : W.heap[bk]? = some (.cells #[.int .i64 k] 2 (0, 0))
  t_ : W.heap[bt]? = some (.cells #[.slice A0 l.length c0] 24 (0, 0))
  n_ : W.heap[bn]? = some (.cells #[.int .i64 nm] 2 (0, 0))
  h : Below w.heap.size w W
section
variable {w W W2 : World} {A0 : Option Addr} {c0 bk bt bn gO cap : Nat} {l xs : List Int} {k nm : Int}
theorem SF.drewN (s : SF w A0 c0 l k nm bk bt bn gO cap xs W) (q : Nat) : SF w A0 c0 l k nm bk bt bn gO cap xs (W.drewN q) := ⟨Kd.R_drewN s.o q, blk_drewN s.k_ q, blk_drewN s.t_ q, blk_drewN s.n_ q, pw_below_drewN s.h q⟩
theorem SF.drew (s : SF w A0 c0 l k nm bk bt bn gO cap xs W) : SF w A0 c0 l k nm bk bt bn gO cap xs W.drew := ⟨Kd.R_drew s.o, blk_drew s.k_, blk_drew s.t_, blk_drew s.n_, below_drew1 s.h⟩
theorem SF.below (s : SF w A0 c0 l k nm bk bt bn gO cap xs W) (hb : Below W.heap.size W W2) : SF w A0 c0 l k nm bk bt bn gO cap xs W2 := ⟨Kd.R_below s.o hb, blk_below s.k_ hb, blk_below s.t_ hb, blk_below s.n_ hb, below_step s.h hb⟩
theorem SF.alloc (s : SF w A0 c0 l k nm bk bt bn gO cap xs W) (o : Obj) : SF w A0 c0 l k nm bk bt bn gO cap xs (W.alloc o) := s.below (below_alloc (Below.refl _ _) o)
theorem SF.put (s : SF w A0 c0 l k nm bk bt bn gO cap xs W) (hg : w.heap.size ≤ gO) (j : Nat) (v : Int) : SF w A0 c0 l k nm bk bt bn gO cap (xs.set j v) (W.setCell ⟨gO, j, none⟩ (.int .i64 v)) := by
  have hn := s.o.1 gO rfl
  have ho := Kd.R_putn s.o (j : Int) v
  rw [Int.toNat_natCast] at ho
  exact ⟨ho, blk_far (p := ⟨gO, j, none⟩) s.k_ (Ne.symm hn.1) _, blk_far (p := ⟨gO, j, none⟩) s.t_ (Ne.symm hn.2.1) _, blk_far (p := ⟨gO, j, none⟩) s.n_ (Ne.symm hn.2.2) _, below_set s.h hg⟩
theorem SF.grown (s : SF w A0 c0 l k nm bk bt bn gO cap xs W) {v : Value} {ys : List Int} {base : Nat} {ok : Nat → Prop} (hv : Kd.R (Kd.int .i64) 3 W base ok v ys) (hg : W.grownBy W2 v.ownBlock) (hb : Below w.heap.size w W2) : SF w A0 c0 l k nm bk bt bn gO cap xs W2 :=
  ⟨Kd.R_over' s.o (Kd.R_typed hv) (by decide) hg, blk_grown s.k_ hg (Kd.R_ne hv s.k_ (by decide)), blk_grown s.t_ hg (Kd.R_ne hv s.t_ (by decide)), blk_grown s.n_ hg (Kd.R_ne hv s.n_ (by decide)), hb⟩
theorem SF.cell (s : SF w A0 c0 l k nm bk bt bn gO cap xs W) (i : Nat) (hi : i < l.length) : W.cell? ⟨gO, i, none⟩ = some (.int .i64 (rd xs (i : Int))) ∧ W.frozen? ⟨gO, i, none⟩ = false := by
  have := Kd.R_celln (0 : Int) s.o (i : Int) (by omega) (by omega)
  rw [Int.toNat_natCast] at this
  exact this
theorem SF.kc (s : SF w A0 c0 l k nm bk bt bn gO cap xs W) : W.cell? ⟨bk, 0, none⟩ = some (.int .i64 k) := (blk_cell s.k_ 0).trans rfl
theorem SF.tc (s : SF w A0 c0 l k nm bk bt bn gO cap xs W) : W.cell? ⟨bt, 0, none⟩ = some (.slice A0 l.length c0) := (blk_cell s.t_ 0).trans rfl
theorem SF.nc (s : SF w A0 c0 l k nm bk bt bn gO cap xs W) : W.cell? ⟨bn, 0, none⟩ = some (.int .i64 nm) := (blk_cell s.n_ 0).trans rfl
theorem SF.keep (s : SF w A0 c0 l k nm bk bt bn gO cap xs W) {row : Nat} (hK : KeepBut W W2 row none) (hb : Below w.heap.size w W2) (n0 : gO ≠ row) (n1 : bk ≠ row) (n2 : bt ≠ row) (n3 : bn ≠ row) : SF w A0 c0 l k nm bk bt bn gO cap xs W2 :=
  ⟨Kd.R_mono (Kd.R_keep (Kd.R_mono (ok' := fun q => (q ≠ bk ∧ q ≠ bt ∧ q ≠ bn) ∧ q ≠ row) (Kd.R_tight2 rfl s.o) (fun q hq => ⟨hq.2, fun e => n0 (by have : some row = some gO := e ▸ hq.1; injection this with this; exact this.symm)⟩)) hK (fun _ hq => hq.2)) (fun _ hq => hq.1), hK.blk s.k_ n1 (by simp), hK.blk s.t_ n2 (by simp), hK.blk s.n_ n3 (by simp), hb⟩
end
/-- The row after so many numbers. -/
def srOuts (l : List Int) (k nm : Int) (n i : Nat) : List Int := (List.range i).map (srBase l k nm) ++ List.replicate (n - i) 0
theorem srOuts_set (l : List Int) (k nm : Int) (n i : Nat) (hi : i < n) : (srOuts l k nm n i).set i (srBase l k nm i) = srOuts l k nm n (i + 1) := by
  unfold srOuts
  have e : n - i = (n - (i + 1)) + 1 := by omega
  rw [e, List.replicate_succ, List.set_append_right _ _ (by simp), List.range_succ, List.map_append]
  simp
theorem srOuts_rd (l : List Int) (k nm : Int) (n i : Nat) (hi : i < n) : rd (srOuts l k nm n (i + 1)) (i : Int) = srBase l k nm i := by
  rw [← srOuts_set l k nm n i hi]
  unfold rd
  rw [Int.toNat_natCast, List.getD_eq_getElem?_getD, List.getElem?_set_self (by simp [srOuts]; omega)]; rfl
theorem rd_map (f : Nat → Int) (n i : Nat) (hi : i < n) : rd ((List.range n).map f) (i : Int) = f i := by
  unfold rd; rw [Int.toNat_natCast, List.getD_eq_getElem?_getD]; simp [hi]
theorem set_map (f g : Nat → Int) (n i : Nat) (v : Int) (hv : v = g i) (hfg : ∀ j, j ≠ i → f j = g j) : ((List.range n).map f).set i v = (List.range n).map g := by
  apply List.ext_getElem?
  intro j
  rw [List.getElem?_set]
  by_cases hj : j < n
  · by_cases e : i = j
    · subst e; simp [hj, hv]
    · rw [if_neg e]; simp [hj, hfg j (Ne.symm e)]
  · rw [List.getElem?_eq_none (by simpa using hj)]
    split
    · split
      · rename_i h; simp at h; omega
      · rw [List.getElem?_eq_none (by simpa using hj)]
    · rw [List.getElem?_eq_none (by simpa using hj)]
/-- With one more for some. -/
def srAdd (l : List Int) (k nm : Int) (c : List Nat) : List Int := (List.range l.length).map fun i : Nat => srBase l k nm i + if i ∈ c then 1 else 0
/-- With the signs of the first j. -/
def srSign (l xs : List Int) (j : Nat) : List Int := (List.range l.length).map fun i : Nat => if i < j ∧ rd l (i : Int) < 0 then -(rd xs (i : Int)) else rd xs (i : Int)
theorem srOuts_end (l : List Int) (k nm : Int) : srOuts l k nm l.length l.length = srAdd l k nm [] := by unfold srOuts srAdd; simp
theorem srAdd_set (l : List Int) (k nm : Int) (c : List Nat) (i : Nat) (hi : i ∉ c) : (srAdd l k nm c).set i (srBase l k nm i + 1) = srAdd l k nm (c ++ [i]) := by
  unfold srAdd
  refine set_map _ _ _ _ _ (by simp) (fun j hj => by simp [hj])
theorem srSign_0 (l xs : List Int) (h : xs.length = l.length) : srSign l xs 0 = xs := by
  unfold srSign
  apply List.ext_getElem?
  intro j
  by_cases hj : j < l.length
  · simp [hj, rd, List.getD_eq_getElem?_getD, List.getElem?_eq_getElem (show j < xs.length by omega)]
  · rw [List.getElem?_eq_none (by simpa using hj), List.getElem?_eq_none (by omega)]
theorem srSign_step (l xs : List Int) (j : Nat) (hj : j < l.length) : srSign l xs (j + 1) = if rd l (j : Int) < 0 then (srSign l xs j).set j (-(rd (srSign l xs j) (j : Int))) else srSign l xs j := by
  have e : rd (srSign l xs j) (j : Int) = rd xs (j : Int) := by unfold srSign; rw [rd_map _ _ _ hj]; simp
  rw [e]
  split
  · rename_i h
    unfold srSign
    symm
    refine set_map _ _ _ _ _ (by simp [h]) (fun i hi => ?_)
    have : i < j ↔ i < j + 1 := by omega
    simp [this]
  · rename_i h
    unfold srSign
    apply List.map_congr_left
    intro i _
    by_cases hi : i = j
    · subst hi; simp [h]
    · have : i < j + 1 ↔ i < j := by omega
      simp [this]
theorem srch_eq (l : List Int) (k nm : Int) (h : nm ≠ 0) : srch l k nm = srSign l (srAdd l k nm ((srtd (srRest l k nm) l.length).take (srMiss l k nm l.length).toNat)) l.length := by
  unfold srch srSign
  rw [if_neg h]
  apply List.map_congr_left
  intro i hi
  have hi : i < l.length := by simpa using hi
  have e : rd (srAdd l k nm ((srtd (srRest l k nm) l.length).take (srMiss l k nm l.length).toNat)) (i : Int) = srBase l k nm i + if i ∈ (srtd (srRest l k nm) l.length).take (srMiss l k nm l.length).toNat then 1 else 0 := by unfold srAdd; rw [rd_map _ _ _ hi]
  rw [e]
  by_cases c : rd l (i : Int) < 0
  · rw [if_pos c, if_pos (show i < l.length ∧ rd l (i : Int) < 0 from ⟨hi, c⟩)]
  · rw [if_neg c, if_neg (show ¬ (i < l.length ∧ rd l (i : Int) < 0) from fun q => c q.2)]
theorem srBase_bd (l : List Int) (k nm : Int) (hk : 0 ≤ k ∧ k ≤ 8) (hl : ∀ x ∈ l, -16777216 ≤ x ∧ x ≤ 16777216) (hn : 0 ≤ nm) (i : Nat) (hi : i < l.length) : 0 ≤ srBase l k nm i ∧ srBase l k nm i ≤ 134217728 := by
  have hm : rd l (i : Int) ∈ l := by unfold rd; rw [Int.toNat_natCast, List.getD_eq_getElem?_getD, List.getElem?_eq_getElem hi]; exact List.getElem_mem _
  have hv := absI_bd (hl _ hm).1 (hl _ hm).2
  have h1 := Int.mul_nonneg hk.1 hv.1
  have h2 : k * absI (rd l (i : Int)) ≤ 8 * absI (rd l (i : Int)) := Int.mul_le_mul_of_nonneg_right hk.2 hv.1
  unfold srBase
  rw [Int.tdiv_eq_ediv_of_nonneg h1]
  have := Int.ediv_nonneg h1 hn
  have := Int.ediv_le_self nm h1
  omega
theorem cutH {P : Program} (t e : TypeId) {z : Option Value} {b : Nat} (ht : P.underlying t = some (.slice e)) (hi : (P.info? e).map (fun i => (i.zero, i.size, i.bytes)) = some (z, 1, b)) (g N cap k : Nat) (hk : k ≤ N) (h0 : 0 < N) (hc : N ≤ cap) :
    ∀ W : World, (Instr.slice t (.slice (some ⟨g, 0, none⟩) N cap) none (some (.int .i64 (k : Int))) none).run P W = .ok (.slice (some ⟨g, 0, none⟩) k cap) W := fun W => by
  obtain ⟨i, hi, hzz⟩ := Option.map_eq_some_iff.1 hi
  simp only [Prod.mk.injEq] at hzz
  have hel : P.elem t = e := by simp [Program.elem, ht]
  have hu : P.underlying t = some (.slice (P.elem t)) := by rw [hel]; exact ht
  have hne : ¬ cap = 0 := by omega
  have ha : (⟨g, 0, none⟩ : Addr).add 0 = ⟨g, 0, none⟩ := by unfold Addr.add; split <;> simp_all
  rw [run_slice_h W t _ N cap hu .i64 (k : Int) (Int.natCast_nonneg _) (by omega), hel]
  simp [sizeOf, typeInfo, hi, hzz.2.1, sliced, Result.andThen, hne, ha]
theorem SF.ne {w W : World} {A0 : Option Addr} {c0 bk bt bn gO cap : Nat} {l xs : List Int} {k nm : Int} (s : SF w A0 c0 l k nm bk bt bn gO cap xs W) {g : Nat} (hg : g = W.heap.size) : gO ≠ g ∧ bk ≠ g ∧ bt ≠ g ∧ bn ≠ g := by
  have h1 := Kd.R_lt s.o gO rfl
  have h2 := blk_lt s.k_
  have h3 := blk_lt s.t_
  have h4 := blk_lt s.n_
  omega
theorem SF.neQ {w W : World} {A0 : Option Addr} {c0 bk bt bn gO cap : Nat} {l xs : List Int} {k nm : Int} (s : SF w A0 c0 l k nm bk bt bn gO cap xs W) {gQ n c base : Nat} {ok : Nat → Prop} {ys : List Int} (hv : Kd.R (Kd.int .i64) 3 W base ok (.slice (some ⟨gQ, 0, none⟩) n c) ys) : gO ≠ gQ ∧ bk ≠ gQ ∧ bt ≠ gQ ∧ bn ≠ gQ := by
  obtain ⟨cc, hcc⟩ := Kd.R_typed s.o gO rfl
  exact ⟨fun e => Kd.R_ne hv hcc (by decide) (by rw [e]; rfl), fun e => Kd.R_ne hv s.k_ (by decide) (by rw [e]; rfl), fun e => Kd.R_ne hv s.t_ (by decide) (by rw [e]; rfl), fun e => Kd.R_ne hv s.n_ (by decide) (by rw [e]; rfl)⟩
theorem ints_snoc (i : Nat) : ints (List.range i) ++ [(i : Int)] = ints (List.range (i + 1)) := by rw [List.range_succ]; simp [ints]
set_option maxHeartbeats 16000000 in
set_option maxRecDepth 100000 in
theorem impl_searchPulses.calls (A0 : Option Addr) (c0 : Nat) (l0 : List Int) (a1 : Int) (r : List Int) (w : World) (hr0 : Kd.C (Kd.int .i64) w A0 l0.length l0) (hc0 : l0.length ≤ c0) (h : impl_searchPulses.f l0 a1 = some r) :
    Calls Try.prog 118 #[.slice A0 l0.length c0, .int .i64 a1] w fun e w' => ∃ v0_ : Value, e = .returned (v0_) ∧ Kd.R (Kd.int .i64) 2 w' w.heap.size (fun _ => True) v0_ r ∧ Below w.heap.size w w' := by
  unfold impl_searchPulses.f at h
  by_cases hg : (1 ≤ l0.length ∧ l0.length ≤ 4) ∧ (0 ≤ a1 ∧ a1 ≤ 8) ∧ (∀ x ∈ l0, -16777216 ≤ x ∧ x ≤ 16777216)
  rotate_left
  · rw [if_neg hg] at h; cases h
  rw [if_pos hg] at h
  replace h := bnd h
  obtain ⟨nm, HNM, h⟩ := h
  by_cases hg2 : (0 ≤ nm ∧ ∀ i, i ≤ l0.length → 0 ≤ srMiss l0 a1 nm i) ∧ (nm ≠ 0 → srMiss l0 a1 nm l0.length ≤ l0.length)
  rotate_left
  · rw [if_neg hg2] at h; cases h
  rw [if_pos hg2] at h
  obtain rfl := Option.some.inj h
  clear h
  have HN := Aside0.mk hg.1
  have HK := Aside0.mk hg.2.1
  have HL := Aside0.mk hg.2.2
  have HM := Aside0.mk hg2
  have HR0 := Aside0.mk hr0
  have HC0 := Aside0.mk hc0
  have HB := Aside0.mk (Below.refl w.heap.size w)
  clear hg hg2 hr0 hc0
  go_enter Try.func118, Try.ntmps118
  go_upto_region 1 with (first | ((with_reducible refine gate_dst (N := 2) rfl ?_); refine bev 2 24 #[.slice A0 l0.length c0] ?_; intro bt hg wa hbox hb; have BT := am hbox; have GT := gwe hg; replace HB := hbs hb; clear hb hbox hg) | ((with_reducible refine gate_dst (N := 3) rfl ?_); refine bev 3 2 #[.int .i64 a1] ?_; intro bk hg wb hbox hb; have BK := am hbox; have GK := gwe hg; have NKT := nbl hg BT; replace BT := bkb BT hb; replace HB := hbs hb; clear hb hbox hg))
  replace BT := am (blk_drew BT.out)
  replace BK := am (blk_drew BK.out)
  replace HB := am (below_drew1 HB.out)
  refine start_ (n := 8) (S := fun w' => w'.cell? ⟨bt, 0, none⟩ = some (.slice A0 l0.length c0)) (ds := []) #[false, false, false, false, false, false, false, false] (by kernel_rfl) rfl rfl ((blk_cell BT.out 0).trans rfl) (fun hHeld => ?_)
  generalize wb.drew = wc at BT BK HB hHeld ⊢
  refine tq_ 0 16 hHeld ?_
  refine pq_ 1 17 ?_
  refine tq_ 3 19 hHeld ?_
  refine join_ (σ := Value × Nat) 2 #[true, true, true, true, true, true, false, false] (fun s_ => [(18, s_.1), (20, .int .i64 nm), (6, .pointer (some ⟨s_.2, 0, none⟩))]) (fun s_ w' => w'.cell? ⟨bt, 0, none⟩ = some (.slice A0 l0.length c0) ∧ Kd.R (Kd.int .i64) 2 w' w.heap.size (fun q => q ≠ bk ∧ q ≠ bt ∧ q ≠ s_.2) s_.1 (List.replicate (l0.length : Int).toNat 0) ∧ w'.heap[bk]? = some (.cells #[.int .i64 a1] 2 (0, 0)) ∧ w'.heap[bt]? = some (.cells #[.slice A0 l0.length c0] 24 (0, 0)) ∧ w'.heap[s_.2]? = some (.cells #[.int .i64 0] 2 (0, 0)) ∧ Below w.heap.size w w' ∧ bk ≠ s_.2 ∧ bt ≠ s_.2 ∧ w.heap.size ≤ s_.2) ?_ ?_
  rotate_left
  · intro hCont
    refine three_ (i := 2) (j := 4) (k := 5) (Ni := some 18) (Nj := some 20) (Nk := some 6) #[true, true, true, true, false, false, false, false] #[true, true, false, true, true, false, false, false] #[true, true, false, true, false, true, false, false] rfl rfl rfl rfl rfl rfl (by kernel_rfl) (by decide) (by decide) (by decide) (fun K hK => ?_) (fun K hK => ?_) (fun K hK => ?_)
    · refine Kd.R_make_step (Kd.int .i64) (w0 := _) _ 2 (by rfl) (N := 18) rfl 24 _ _ (by rfl) (l0.length : Int) (by rfl) (by rfl) Try.underlying24 (.int .i64 0) 8 info2 rfl (by decide) (by omega) 0 (ok := fun _ => True) (okp := fun _ => True) rfl (fun _ hk => hk) trivial (by have := HN.out; omega) (by have := HN.out; omega) (Below.refl _ _) (Nat.le_refl _) ?_
      intro v wm ho hb hg_ hnew_
      clear hg_ hnew_
      have HO := Aside0.mk (Kd.R_mono (ok' := fun q => q ≠ bk ∧ q ≠ bt) (Kd.R_lower (Kd.R_newB (Kd.R_newB ho BK.out) BT.out) (below_size HB.out)) (fun q hq => ⟨hq.1.2, hq.2⟩))
      replace HB := Aside0.mk (below_step HB.out hb)
      replace BK := bkb BK hb
      replace BT := bkb BT hb
      clear ho hb
      refine hK.out _ _ ((blk_cell BT.out 0).trans rfl) (fun hHeld => ?_)
      clear hK K
      refine nm_ 18 ?_
      refine two_ (i := 4) (j := 5) (Ni := some 20) (Nj := some 6) #[true, true, true, true, true, false, false, false] #[true, true, true, true, false, true, false, false] rfl rfl rfl rfl (by kernel_rfl) (by decide) (by decide) (fun K hK => ?_) (fun K hK => ?_)
      · refine gs_ Try.func115 #[.slice A0 l0.length c0] ?_
        with_reducible refine (impl_normOf.calls 10 _ _ l0 nm _ ?_ ?_ HNM.out).mono ?_
        exact cpl HR0.out
        exact HC0.out
        rintro e wm ⟨rfl, hb⟩
        refine ⟨_, rfl, ?_⟩
        replace HB := Aside0.mk (below_step HB.out hb)
        replace BK := bkb BK hb
        replace BT := bkb BT hb
        replace HO := rbl HO hb
        clear hb
        refine hK.out _ _ ((blk_cell BT.out 0).trans rfl) (fun hHeld => ?_)
        clear hK K
        refine nm_ 20 ?_
        refine oq_ 5 (fun K hK => ?_)
        refine bst 6 2 #[.int .i64 0] ?_
        intro bn hg wm hbox hb
        have BN := am hbox
        have N1 := nbl hg BK
        have N2 := nbl hg BT
        have G1 := gwe hg
        replace HO := Aside0.mk (Kd.R_below (Kd.R_mono (ok' := fun q => q ≠ bk ∧ q ≠ bt ∧ q ≠ bn) (Kd.R_elderB HO.out bn (Nat.le_of_eq hg.symm)) (fun q hq => ⟨hq.1.1, hq.1.2, hq.2⟩)) hb)
        replace HB := Aside0.mk (below_step HB.out hb)
        replace BK := bkb BK hb
        replace BT := bkb BT hb
        clear hb hbox hg
        refine hK.out _ _ ((blk_cell BT.out 0).trans rfl) (fun hHeld => ?_)
        clear hK K
        refine nm_ 6 ?_
        exact norm_ (by simp only [putAll, Act.put, List.setIfInBounds_toArray, List.set_cons_zero, List.set_cons_succ]) (hCont (v, bn) _ ⟨hHeld, HO.out, BK.out, BT.out, BN.out, HB.out, N1.out, N2.out, G1.out⟩)
      · refine bst 6 2 #[.int .i64 0] ?_
        intro bn hg wm hbox hb
        have BN := am hbox
        have N1 := nbl hg BK
        have N2 := nbl hg BT
        have G1 := gwe hg
        replace HO := Aside0.mk (Kd.R_below (Kd.R_mono (ok' := fun q => q ≠ bk ∧ q ≠ bt ∧ q ≠ bn) (Kd.R_elderB HO.out bn (Nat.le_of_eq hg.symm)) (fun q hq => ⟨hq.1.1, hq.1.2, hq.2⟩)) hb)
        replace HB := Aside0.mk (below_step HB.out hb)
        replace BK := bkb BK hb
        replace BT := bkb BT hb
        clear hb hbox hg
        refine hK.out _ _ ((blk_cell BT.out 0).trans rfl) (fun hHeld => ?_)
        clear hK K
        refine nm_ 6 ?_
        refine oq_ 4 (fun K hK => ?_)
        refine gs_ Try.func115 #[.slice A0 l0.length c0] ?_
        with_reducible refine (impl_normOf.calls 10 _ _ l0 nm _ ?_ ?_ HNM.out).mono ?_
        exact cpl HR0.out
        exact HC0.out
        rintro e wm ⟨rfl, hb⟩
        refine ⟨_, rfl, ?_⟩
        replace HB := Aside0.mk (below_step HB.out hb)
        replace BK := bkb BK hb
        replace BT := bkb BT hb
        replace HO := rbl HO hb
        replace BN := bkb BN hb
        clear hb
        refine hK.out _ _ ((blk_cell BT.out 0).trans rfl) (fun hHeld => ?_)
        clear hK K
        refine nm_ 20 ?_
        exact norm_ (by simp only [putAll, Act.put, List.setIfInBounds_toArray, List.set_cons_zero, List.set_cons_succ]) (hCont (v, bn) _ ⟨hHeld, HO.out, BK.out, BT.out, BN.out, HB.out, N1.out, N2.out, G1.out⟩)
    · refine gs_ Try.func115 #[.slice A0 l0.length c0] ?_
      with_reducible refine (impl_normOf.calls 10 _ _ l0 nm _ ?_ ?_ HNM.out).mono ?_
      exact cpl HR0.out
      exact HC0.out
      rintro e wm ⟨rfl, hb⟩
      refine ⟨_, rfl, ?_⟩
      replace HB := Aside0.mk (below_step HB.out hb)
      replace BK := bkb BK hb
      replace BT := bkb BT hb
      clear hb
      refine hK.out _ _ ((blk_cell BT.out 0).trans rfl) (fun hHeld => ?_)
      clear hK K
      refine nm_ 20 ?_
      refine two_ (i := 2) (j := 5) (Ni := some 18) (Nj := some 6) #[true, true, true, true, true, false, false, false] #[true, true, false, true, true, true, false, false] rfl rfl rfl rfl (by kernel_rfl) (by decide) (by decide) (fun K hK => ?_) (fun K hK => ?_)
      · refine Kd.R_make_step (Kd.int .i64) (w0 := _) _ 2 (by rfl) (N := 18) rfl 24 _ _ (by rfl) (l0.length : Int) (by rfl) (by rfl) Try.underlying24 (.int .i64 0) 8 info2 rfl (by decide) (by omega) 0 (ok := fun _ => True) (okp := fun _ => True) rfl (fun _ hk => hk) trivial (by have := HN.out; omega) (by have := HN.out; omega) (Below.refl _ _) (Nat.le_refl _) ?_
        intro v wm ho hb hg_ hnew_
        clear hg_ hnew_
        have HO := Aside0.mk (Kd.R_mono (ok' := fun q => q ≠ bk ∧ q ≠ bt) (Kd.R_lower (Kd.R_newB (Kd.R_newB ho BK.out) BT.out) (below_size HB.out)) (fun q hq => ⟨hq.1.2, hq.2⟩))
        replace HB := Aside0.mk (below_step HB.out hb)
        replace BK := bkb BK hb
        replace BT := bkb BT hb
        clear ho hb
        refine hK.out _ _ ((blk_cell BT.out 0).trans rfl) (fun hHeld => ?_)
        clear hK K
        refine nm_ 18 ?_
        refine oq_ 5 (fun K hK => ?_)
        refine bst 6 2 #[.int .i64 0] ?_
        intro bn hg wm hbox hb
        have BN := am hbox
        have N1 := nbl hg BK
        have N2 := nbl hg BT
        have G1 := gwe hg
        replace HO := Aside0.mk (Kd.R_below (Kd.R_mono (ok' := fun q => q ≠ bk ∧ q ≠ bt ∧ q ≠ bn) (Kd.R_elderB HO.out bn (Nat.le_of_eq hg.symm)) (fun q hq => ⟨hq.1.1, hq.1.2, hq.2⟩)) hb)
        replace HB := Aside0.mk (below_step HB.out hb)
        replace BK := bkb BK hb
        replace BT := bkb BT hb
        clear hb hbox hg
        refine hK.out _ _ ((blk_cell BT.out 0).trans rfl) (fun hHeld => ?_)
        clear hK K
        refine nm_ 6 ?_
        exact norm_ (by simp only [putAll, Act.put, List.setIfInBounds_toArray, List.set_cons_zero, List.set_cons_succ]) (hCont (v, bn) _ ⟨hHeld, HO.out, BK.out, BT.out, BN.out, HB.out, N1.out, N2.out, G1.out⟩)
      · refine bst 6 2 #[.int .i64 0] ?_
        intro bn hg wm hbox hb
        have BN := am hbox
        have N1 := nbl hg BK
        have N2 := nbl hg BT
        have G1 := gwe hg
        replace HB := Aside0.mk (below_step HB.out hb)
        replace BK := bkb BK hb
        replace BT := bkb BT hb
        clear hb hbox hg
        refine hK.out _ _ ((blk_cell BT.out 0).trans rfl) (fun hHeld => ?_)
        clear hK K
        refine nm_ 6 ?_
        refine oq_ 2 (fun K hK => ?_)
        refine Kd.R_make_step (Kd.int .i64) (w0 := _) _ 2 (by rfl) (N := 18) rfl 24 _ _ (by rfl) (l0.length : Int) (by rfl) (by rfl) Try.underlying24 (.int .i64 0) 8 info2 rfl (by decide) (by omega) 0 (ok := fun _ => True) (okp := fun _ => True) rfl (fun _ hk => hk) trivial (by have := HN.out; omega) (by have := HN.out; omega) (Below.refl _ _) (Nat.le_refl _) ?_
        intro v wm ho hb hg_ hnew_
        clear hg_ hnew_
        have HO := Aside0.mk (Kd.R_mono (ok' := fun q => q ≠ bk ∧ q ≠ bt ∧ q ≠ bn) (Kd.R_lower (Kd.R_newB (Kd.R_newB (Kd.R_newB ho BK.out) BT.out) BN.out) (below_size HB.out)) (fun q hq => ⟨hq.1.1.2, hq.1.2, hq.2⟩))
        replace HB := Aside0.mk (below_step HB.out hb)
        replace BK := bkb BK hb
        replace BT := bkb BT hb
        replace BN := bkb BN hb
        clear ho hb
        refine hK.out _ _ ((blk_cell BT.out 0).trans rfl) (fun hHeld => ?_)
        clear hK K
        refine nm_ 18 ?_
        exact norm_ (by simp only [putAll, Act.put, List.setIfInBounds_toArray, List.set_cons_zero, List.set_cons_succ]) (hCont (v, bn) _ ⟨hHeld, HO.out, BK.out, BT.out, BN.out, HB.out, N1.out, N2.out, G1.out⟩)
    · refine bst 6 2 #[.int .i64 0] ?_
      intro bn hg wm hbox hb
      have BN := am hbox
      have N1 := nbl hg BK
      have N2 := nbl hg BT
      have G1 := gwe hg
      replace HB := Aside0.mk (below_step HB.out hb)
      replace BK := bkb BK hb
      replace BT := bkb BT hb
      clear hb hbox hg
      refine hK.out _ _ ((blk_cell BT.out 0).trans rfl) (fun hHeld => ?_)
      clear hK K
      refine nm_ 6 ?_
      refine two_ (i := 2) (j := 4) (Ni := some 18) (Nj := some 20) #[true, true, true, true, false, true, false, false] #[true, true, false, true, true, true, false, false] rfl rfl rfl rfl (by kernel_rfl) (by decide) (by decide) (fun K hK => ?_) (fun K hK => ?_)
      · refine Kd.R_make_step (Kd.int .i64) (w0 := _) _ 2 (by rfl) (N := 18) rfl 24 _ _ (by rfl) (l0.length : Int) (by rfl) (by rfl) Try.underlying24 (.int .i64 0) 8 info2 rfl (by decide) (by omega) 0 (ok := fun _ => True) (okp := fun _ => True) rfl (fun _ hk => hk) trivial (by have := HN.out; omega) (by have := HN.out; omega) (Below.refl _ _) (Nat.le_refl _) ?_
        intro v wm ho hb hg_ hnew_
        clear hg_ hnew_
        have HO := Aside0.mk (Kd.R_mono (ok' := fun q => q ≠ bk ∧ q ≠ bt ∧ q ≠ bn) (Kd.R_lower (Kd.R_newB (Kd.R_newB (Kd.R_newB ho BK.out) BT.out) BN.out) (below_size HB.out)) (fun q hq => ⟨hq.1.1.2, hq.1.2, hq.2⟩))
        replace HB := Aside0.mk (below_step HB.out hb)
        replace BK := bkb BK hb
        replace BT := bkb BT hb
        replace BN := bkb BN hb
        clear ho hb
        refine hK.out _ _ ((blk_cell BT.out 0).trans rfl) (fun hHeld => ?_)
        clear hK K
        refine nm_ 18 ?_
        refine oq_ 4 (fun K hK => ?_)
        refine gs_ Try.func115 #[.slice A0 l0.length c0] ?_
        with_reducible refine (impl_normOf.calls 10 _ _ l0 nm _ ?_ ?_ HNM.out).mono ?_
        exact cpl HR0.out
        exact HC0.out
        rintro e wm ⟨rfl, hb⟩
        refine ⟨_, rfl, ?_⟩
        replace HB := Aside0.mk (below_step HB.out hb)
        replace BK := bkb BK hb
        replace BT := bkb BT hb
        replace HO := rbl HO hb
        replace BN := bkb BN hb
        clear hb
        refine hK.out _ _ ((blk_cell BT.out 0).trans rfl) (fun hHeld => ?_)
        clear hK K
        refine nm_ 20 ?_
        exact norm_ (by simp only [putAll, Act.put, List.setIfInBounds_toArray, List.set_cons_zero, List.set_cons_succ]) (hCont (v, bn) _ ⟨hHeld, HO.out, BK.out, BT.out, BN.out, HB.out, N1.out, N2.out, G1.out⟩)
      · refine gs_ Try.func115 #[.slice A0 l0.length c0] ?_
        with_reducible refine (impl_normOf.calls 10 _ _ l0 nm _ ?_ ?_ HNM.out).mono ?_
        exact cpl HR0.out
        exact HC0.out
        rintro e wm ⟨rfl, hb⟩
        refine ⟨_, rfl, ?_⟩
        replace HB := Aside0.mk (below_step HB.out hb)
        replace BK := bkb BK hb
        replace BT := bkb BT hb
        replace BN := bkb BN hb
        clear hb
        refine hK.out _ _ ((blk_cell BT.out 0).trans rfl) (fun hHeld => ?_)
        clear hK K
        refine nm_ 20 ?_
        refine oq_ 2 (fun K hK => ?_)
        refine Kd.R_make_step (Kd.int .i64) (w0 := _) _ 2 (by rfl) (N := 18) rfl 24 _ _ (by rfl) (l0.length : Int) (by rfl) (by rfl) Try.underlying24 (.int .i64 0) 8 info2 rfl (by decide) (by omega) 0 (ok := fun _ => True) (okp := fun _ => True) rfl (fun _ hk => hk) trivial (by have := HN.out; omega) (by have := HN.out; omega) (Below.refl _ _) (Nat.le_refl _) ?_
        intro v wm ho hb hg_ hnew_
        clear hg_ hnew_
        have HO := Aside0.mk (Kd.R_mono (ok' := fun q => q ≠ bk ∧ q ≠ bt ∧ q ≠ bn) (Kd.R_lower (Kd.R_newB (Kd.R_newB (Kd.R_newB ho BK.out) BT.out) BN.out) (below_size HB.out)) (fun q hq => ⟨hq.1.1.2, hq.1.2, hq.2⟩))
        replace HB := Aside0.mk (below_step HB.out hb)
        replace BK := bkb BK hb
        replace BT := bkb BT hb
        replace BN := bkb BN hb
        clear ho hb
        refine hK.out _ _ ((blk_cell BT.out 0).trans rfl) (fun hHeld => ?_)
        clear hK K
        refine nm_ 18 ?_
        exact norm_ (by simp only [putAll, Act.put, List.setIfInBounds_toArray, List.set_cons_zero, List.set_cons_succ]) (hCont (v, bn) _ ⟨hHeld, HO.out, BK.out, BT.out, BN.out, HB.out, N1.out, N2.out, G1.out⟩)
  rintro ⟨vo, bn⟩ wd ⟨hHeld, HO_, BK_, BT_, BN_, HB_, N1, N2, G1⟩
  have HO := Aside0.mk HO_
  have BK := Aside0.mk BK_
  have BT := Aside0.mk BT_
  have BN := Aside0.mk BN_
  have HB := Aside0.mk HB_
  have NKN := Aside0.mk N1
  have NTN := Aside0.mk N2
  have GN := Aside0.mk G1
  clear HO_ BK_ BT_ BN_ HB_ N1 N2 G1
  refine norm_ (a' := ?_) ?_ ?_
  rotate_left
  · simp only [putAll, Act.put, List.setIfInBounds_toArray, List.set_cons_zero, List.set_cons_succ]
    rfl
  refine pq_ 6 5 ?_
  refine oq_ 7 (fun K hK => ?_)
  have hs : wd.cell? ⟨bn, 0, none⟩ = some (.int .i64 0) := (blk_cell BN.out 0).trans rfl
  have hf := blk_frozen BN.out 0
  refine skip_ (w1 := ?_) (by rfl) rfl ?_ ?_
  rotate_left
  · go_simp
    rfl
  refine hK.out _ _ ((cell_far (p := ⟨bn, _, none⟩) NTN.out _).trans ((blk_cell BT.out 0).trans rfl)) (fun hHeld => ?_)
  clear hK K hs hf
  replace HO := Aside0.mk (Kd.R_far (p := ⟨bn, 0, none⟩) HO.out (fun q hq => hq.2.2) (.int .i64 nm))
  replace BK := Aside0.mk (blk_far (p := ⟨bn, 0, none⟩) BK.out NKN.out (.int .i64 nm))
  replace BT := Aside0.mk (blk_far (p := ⟨bn, 0, none⟩) BT.out NTN.out (.int .i64 nm))
  replace BN := Aside0.mk (blk_put (cs' := #[.int .i64 nm]) BN.out 0 (.int .i64 nm) rfl)
  replace HB := Aside0.mk (below_set (j := 0) (v := .int .i64 nm) HB.out GN.out)
  generalize wd.setCell ⟨bn, 0, none⟩ (.int .i64 nm) = we at HO BK BT BN HB hHeld ⊢
  refine done_ (by kernel_rfl) ?_
  clear hHeld
  obtain ⟨gO, cap, rfl, hgO, _, _⟩ := Kd.R_form HO.out (by rw [List.length_replicate]; have := HN.out; omega)
  have GO := Aside0.mk hgO
  have NO := Aside0.mk (HO.out.1 gO rfl)
  clear hgO
  simp only [List.length_replicate, Int.toNat_natCast] at HO ⊢
  by_cases hz : nm = 0
  · subst hz
    have d1 : ((0 : Int) == 0) = true := rfl
    have ht : we.cell? ⟨bn, 0, none⟩ = some (.int .i64 0) := (blk_cell BN.out 0).trans rfl
    have hk : we.cell? ⟨bk, 0, none⟩ = some (.int .i64 a1) := (blk_cell BK.out 0).trans rfl
    have hx := Kd.R_celln (0 : Int) HO.out 0 (by omega) (by have := HN.out; omega)
    simp only [rdOf, Int.toNat_zero, List.getD_eq_getElem?_getD] at hx
    obtain ⟨hx1, hx2⟩ := hx
    have p1 : decide ((0 : Int) < (l0.length : Int)) = true := decide_eq_true (by have := HN.out; omega)
    have p2 : (0 : Int) < (l0.length : Int) := by have := HN.out; omega
    have p3 : 0 < l0.length := by omega
    go_wp2
    go_ret
    exact ⟨_, rfl, Kd.R_mono (Kd.R_putn HO.out 0 a1) (fun _ _ => trivial), below_set HB.out GO.out⟩
  · have z1 : (nm == 0) = false := beq_eq_false_iff_ne.mpr hz
    have z2 : (nm != 0) = true := bne_iff_ne.mpr hz
    have ht : we.cell? ⟨bn, 0, none⟩ = some (.int .i64 nm) := (blk_cell BN.out 0).trans rfl
    have HZ := Aside0.mk hz
    have HS := Aside0.mk (show SF w A0 c0 l0 a1 nm bk bt bn gO cap (srOuts l0 a1 nm l0.length 0) we from ⟨by have := HO.out; simpa [srOuts] using this, BK.out, BT.out, BN.out, HB.out⟩)
    clear HO BK BT BN HB hz NO
    go_wp2
    clear z1 z2 ht
    replace HS := am HS.out.drew
    refine start_ (n := 4) (S := fun w' => w'.cell? ⟨bk, 0, none⟩ = some (.int .i64 a1)) (ds := []) #[false, false, false, false] (by kernel_rfl) rfl rfl HS.out.kc (fun hHeld => ?_)
    generalize we.drew = wf at HS hHeld ⊢
    refine tq_ 1 28 hHeld ?_
    refine oq_ 0 (fun K hK => ?_)
    refine Kd.R_lit_step (Kd.int .i64) _ 3 ?hg (N := 27) ?hd (xs := ([] : List Int)) (inner := []) (ok := fun _ => True) (okp := fun _ => True) ?hr ?hp (fun _ hk => hk) trivial (Below.refl _ _) (Nat.le_refl _) (by simp) ?_
    (case hd => rfl)
    (case hg => rfl)
    (case hr => first | (go_simp; done) | (go_simp; rfl))
    (case hp => exact (Reps.none _ _))
    intro vq wg ho hb hg_ hnew_
    clear hg_ hnew_
    have HO := Aside0.mk (Kd.R_lower ho (below_size HS.out.h))
    replace HS := am (HS.out.below hb)
    clear ho hb
    refine hK.out _ _ HS.out.kc (fun hHeld => ?_)
    clear hK K
    refine nm_ 27 ?_
    refine pq_ 2 7 ?_
    refine pq_ 3 8 ?_
    refine done_ (by kernel_rfl) ?_
    clear hHeld
    have ht := HS.out.tc
    go_wp2
    clear ht
    go_loopg [7, 8, 31] l0.length (fun gq v7 v8 v31 wr => ∃ i : Nat, v8 = .int .i64 (srMiss l0 a1 nm i) ∧ v31 = .int .i64 i ∧ i ≤ l0.length ∧ srMiss l0 a1 nm i ≤ 8 ∧ l0.length - i ≤ gq ∧ Aside0 (Kd.R (Kd.int .i64) 3 wr w.heap.size (fun _ => True) v7 (ints (List.range i))) ∧ Aside0 (SF w A0 c0 l0 a1 nm bk bt bn gO cap (srOuts l0 a1 nm l0.length i) wr))
    case atStart => exact ⟨0, rfl, by first | rfl | go_num, by omega, HK.out.2, by omega, HO, HS⟩
    case round =>
      clear HO HS
      obtain ⟨i, rfl, rfl, hi, hm8, hgq, HO, HS⟩ := hrel
      by_cases hlt : i < l0.length
      · have hltz : (i : Int) < (l0.length : Int) := by omega
        have hi0 : (0 : Int) ≤ (i : Int) := by omega
        obtain ⟨ad, e1, hx⟩ := Kd.at_int (Kd.C_below HR0.out HS.out.h) (i : Int) hi0 hltz
        cases e1
        rw [Int.toNat_natCast] at hx
        have hmem : rd l0 (i : Int) ∈ l0 := by unfold rd; rw [Int.toNat_natCast, List.getD_eq_getElem?_getD, List.getElem?_eq_getElem hlt]; exact List.getElem_mem _
        have hbd := HL.out _ hmem
        have hv := absI_bd hbd.1 hbd.2
        have HA := Aside0.mk (fun W => absI_calls (rd l0 (i : Int)) W hbd.1 hbd.2)
        have hkv : 0 ≤ a1 * absI (rd l0 (i : Int)) ∧ a1 * absI (rd l0 (i : Int)) ≤ 134217728 := by
          have hk := HK.out
          have h1 := Int.mul_nonneg hk.1 hv.1
          have h2 : a1 * absI (rd l0 (i : Int)) ≤ 8 * absI (rd l0 (i : Int)) := Int.mul_le_mul_of_nonneg_right hk.2 hv.1
          omega
        have w1 : IntKind.i64.wrap (a1 * absI (rd l0 (i : Int))) = a1 * absI (rd l0 (i : Int)) := by rw [IntKind.wrap_i64]; omega
        have w2 : wrap64 (a1 * absI (rd l0 (i : Int))) = a1 * absI (rd l0 (i : Int)) := by unfold wrap64; omega
        have HBASE := Aside0.mk (show srBase l0 a1 nm i = Int.tdiv (a1 * absI (rd l0 (i : Int))) nm from rfl)
        have hq : 0 ≤ Int.tdiv (a1 * absI (rd l0 (i : Int))) nm ∧ Int.tdiv (a1 * absI (rd l0 (i : Int))) nm ≤ 134217728 := by
          rw [Int.tdiv_eq_ediv_of_nonneg hkv.1]
          have := Int.ediv_nonneg hkv.1 HM.out.1.1
          have := Int.ediv_le_self nm hkv.1
          omega
        have w3 : IntKind.i64.wrap (Int.tdiv (a1 * absI (rd l0 (i : Int))) nm) = Int.tdiv (a1 * absI (rd l0 (i : Int))) nm := by rw [IntKind.wrap_i64]; omega
        have HW := Aside0.mk w1
        have HW3 := Aside0.mk w3
        have HQ := Aside0.mk hq
        clear hmem hbd hv hkv w1 w2 w3 hq
        go_wp2
        generalize absI (rd l0 (i : Int)) = v at HA HW HW3 HQ HBASE
        replace HS := am HS.out.drew
        replace HO := am (Kd.R_drew HO.out)
        refine start_ (n := 10) (S := fun w' => w'.cell? ⟨bk, 0, none⟩ = some (.int .i64 a1) ∧ w'.cell? ⟨bn, 0, none⟩ = some (.int .i64 nm)) (ds := []) #[false, false, false, false, false, false, false, false, false, false] (by kernel_rfl) rfl rfl ⟨HS.out.kc, HS.out.nc⟩ (fun hHeld => ?_)
        generalize wr.drew = wh at HS HO hHeld ⊢
        refine pq_ 0 36 ?_
        refine pq_ 1 37 ?_
        refine pq_ 3 39 ?_
        refine tq_ 2 38 hHeld ?_
        refine tq_ 6 42 hHeld ?_
        refine oq_ 4 (fun K hK => ?_)
        refine gs_ Try.func68 #[.int .i64 (rd l0 (i : Int))] ?_
        with_reducible refine (HA.out _).mono ?_
        rintro e w' ⟨rfl, ⟨nd, rfl⟩⟩
        refine ⟨_, rfl, ?_⟩
        replace HS := am (HS.out.drewN nd)
        replace HO := am (Kd.R_drewN HO.out nd)
        refine hK.out _ _ ⟨HS.out.kc, HS.out.nc⟩ (fun hHeld => ?_)
        clear hK K
        refine nm_ 40 ?_
        generalize wh.drewN nd = wi at HS HO hHeld ⊢
        have w1 := HW.out
        refine pq_ 5 41 ?_
        have w3 := HW3.out
        have hz := HZ.out
        refine pq_ 7 43 ?_
        clear w1 w3 hz
        refine pq_ 8 44 ?_
        obtain ⟨hx1, hx2⟩ := HS.out.cell i hlt
        refine oq_ 9 (fun K hK => ?_)
        refine skip_ (w1 := ?_) (by rfl) rfl ?_ ?_
        rotate_left
        · go_simp
          rfl
        obtain ⟨cc, hcc⟩ := Kd.R_typed HS.out.o gO rfl
        replace HO := am (Kd.R_set HO.out hcc (by decide) i (.int .i64 (Int.tdiv (a1 * v) nm)))
        replace HS := am (HS.out.put GO.out i (Int.tdiv (a1 * v) nm))
        rw [← HBASE.out] at HS HO HQ ⊢
        rw [srOuts_set l0 a1 nm l0.length i hlt] at HS
        refine hK.out _ _ ⟨HS.out.kc, HS.out.nc⟩ (fun hHeld => ?_)
        clear hK K hcc hx1 hx2
        generalize wi.setCell ⟨gO, i, none⟩ (.int .i64 (srBase l0 a1 nm i)) = wj at HS HO hHeld ⊢
        refine done_ (by kernel_rfl) ?_
        clear hHeld HA HW HW3 HBASE
        go_wp2
        replace HS := am HS.out.drew
        replace HO := am (Kd.R_drew HO.out)
        have hc := (HS.out.cell i hlt).1
        rw [srOuts_rd l0 a1 nm l0.length i hlt] at hc
        refine start_ (n := 12) (S := fun w' => w'.cell? ⟨gO, i, none⟩ = some (.int .i64 (srBase l0 a1 nm i))) (ds := []) #[false, false, false, false, false, false, false, false, false, false, false, false] (by kernel_rfl) rfl rfl hc (fun hHeld => ?_)
        clear hc
        generalize wj.drew = wk at HS HO hHeld ⊢
        refine pq_ 0 45 ?_
        refine pq_ 1 46 ?_
        refine pq_ 4 49 ?_
        refine pq_ 5 50 ?_
        refine pq_ 6 51 ?_
        refine pq_ 7 52 ?_
        refine tq_ 8 53 hHeld ?_
        have hm0 : 0 ≤ srMiss l0 a1 nm i - srBase l0 a1 nm i := HM.out.1.2 (i + 1) hlt
        have hm1 : srMiss l0 a1 nm i - srBase l0 a1 nm i ≤ 8 := by have := HQ.out; omega
        have HM1 := Aside0.mk hm1
        have w1 : IntKind.i64.wrap (srMiss l0 a1 nm i - srBase l0 a1 nm i) = srMiss l0 a1 nm i - srBase l0 a1 nm i := by rw [IntKind.wrap_i64]; omega
        clear hm0 hm1
        refine pq_ 9 54 ?_
        clear w1
        refine oq_ 2 (fun K hK => ?_)
        refine value_ (w1 := ?_) (v := ?_) (by rfl) rfl ?_ ?_
        rotate_left 2
        · go_simp
          constructor
          · rfl
          · rfl
        have hc := (HS.out.alloc (.cells #[.int .i64 (i : Int)] 3)).cell i hlt
        rw [srOuts_rd l0 a1 nm l0.length i hlt] at hc
        refine hK.out _ _ hc.1 (fun hHeld => ?_)
        clear hK K hc
        refine nm_ 47 ?_
        refine oq_ 3 (fun K hK => ?_)
        refine Kd.R_append_step (Kd.int .i64) (w0 := w) w.heap.size (by rfl) (.tmp 45) (.tmp 47) 140 3 (.int .i64 0) 8 rfl Try.underlying140 infoInt rfl (by decide) (by omega) u7 (ints (List.range i)) (i : Int) [.int .i64 (i : Int)] (fun _ => True) (fun _ => False) rfl rfl rfl (fun _ hk => hk.elim) (fun _ _ => trivial) HO.out HS.out.h (below_size HS.out.h) (by rw [ints_len, List.length_range]; have := HN.out; omega) ?_
        intro vp wl ho hb hg hat
        rw [ints_snoc] at ho
        replace HS := am (HS.out.grown HO.out hg hb)
        replace HO := am ho
        clear ho hb hg hat
        have hc := (HS.out.cell i hlt).1
        rw [srOuts_rd l0 a1 nm l0.length i hlt] at hc
        refine hK.out _ _ hc (fun hHeld => ?_)
        clear hK K hc
        refine nm_ 48 ?_
        refine pq_ 10 7 ?_
        refine pq_ 11 8 ?_
        refine done_ (by kernel_rfl) ?_
        clear hHeld
        have hN4 := HN.out.2
        go_wp2
        go_roundg (l0.length - (i + 1))
        case measure => omega
        case rel => exact ⟨i + 1, rfl, by go_num, by omega, HM1.out, by omega, HO, HS⟩
      · obtain rfl : i = l0.length := by omega
        have hltz : ¬ (l0.length : Int) < (l0.length : Int) := by omega
        obtain ⟨gQ, capQ, hvq, hgQ, hltQ, _⟩ := Kd.R_form HO.out (by rw [ints_len, List.length_range]; have := HN.out; omega)
        subst hvq
        have GQ := Aside0.mk hgQ
        have LQ := Aside0.mk hltQ
        clear hgQ hltQ
        rw [ints_len, List.length_range] at HO
        simp only [ints_len, List.length_range]
        go_upto_region 13 with ((with_reducible refine gate_dst (N := 11) rfl ?_); refine bev 11 141 #[.nilFunc] ?_; intro br hg wm hbox hb; have BR := am hbox; have hr1 : wm.cell? ⟨br, 0, none⟩ = some .nilFunc := (blk_cell BR.out 0).trans rfl; have hr2 := blk_frozen BR.out 0; have hst : (store ⟨br, 0, none⟩ (.func (.func 177) #[] #[.pointer (some ⟨bk, 0, none⟩), .pointer (some ⟨bt, 0, none⟩), .pointer (some ⟨bn, 0, none⟩)])).run Try.prog wm = .ok () (wm.setCell ⟨br, 0, none⟩ (.func (.func 177) #[] #[.pointer (some ⟨bk, 0, none⟩), .pointer (some ⟨bt, 0, none⟩), .pointer (some ⟨bn, 0, none⟩)])) := store_fn _ _ _ _ hr1 hr2; have GR := gwe hg HS.out.h; have NE := Aside0.mk (HS.out.ne hg); have NQ := Aside0.mk (show gQ ≠ br by rw [hg]; exact Nat.ne_of_lt LQ.out); replace HS := am (HS.out.below hb); replace HO := rbl HO hb; clear hb hg hbox)
        clear hr1 hr2 hst hltz
        replace HO := am (Kd.R_set HO.out BR.out (by decide) 0 (.func (.func 177) #[] #[.pointer (some ⟨bk, 0, none⟩), .pointer (some ⟨bt, 0, none⟩), .pointer (some ⟨bn, 0, none⟩)]))
        replace HS := am (HS.out.keep (KeepBut.set_ (KeepBut.refl wm br none) 0 (.func (.func 177) #[] #[.pointer (some ⟨bk, 0, none⟩), .pointer (some ⟨bt, 0, none⟩), .pointer (some ⟨bn, 0, none⟩)])) (below_set HS.out.h GR.out) NE.out.1 NE.out.2.1 NE.out.2.2.1 NE.out.2.2.2)
        replace BR := am (blk_put (cs' := #[.func (.func 177) #[] #[.pointer (some ⟨bk, 0, none⟩), .pointer (some ⟨bt, 0, none⟩), .pointer (some ⟨bn, 0, none⟩)]]) BR.out 0 (.func (.func 177) #[] #[.pointer (some ⟨bk, 0, none⟩), .pointer (some ⟨bt, 0, none⟩), .pointer (some ⟨bn, 0, none⟩)]) rfl)
        generalize wm.setCell ⟨br, 0, none⟩ (.func (.func 177) #[] #[.pointer (some ⟨bk, 0, none⟩), .pointer (some ⟨bt, 0, none⟩), .pointer (some ⟨bn, 0, none⟩)]) = wn at HS HO BR ⊢
        have NN := Aside0.mk (HS.out.neQ HO.out)
        have HCMP := search_cmps A0 c0 l0 a1 nm bk bt bn br gQ 141 w wn ⟨HS.out.k_, HS.out.t_, HS.out.n_, Kd.C_below HR0.out HS.out.h⟩ HR0.out BR.out HK.out HL.out HZ.out (by have := HN.out; omega) NN.out.2.1 NN.out.2.2.1 NN.out.2.2.2 (Ne.symm NQ.out)
        have HSORT := Aside0.mk (sorts_calls (srRest l0 a1 nm) 179 #[.pointer (some ⟨br, 0, none⟩)] (enters_of Try.func179 (by kernel_rfl) rfl) l0.length gQ capQ w.heap.size (fun _ => True) w wn HCMP HO.out HN.out.1 (by have := HN.out; omega) HS.out.h GQ.out)
        clear HCMP
        obtain ⟨m, hm⟩ := Int.eq_ofNat_of_zero_le (HM.out.1.2 _ (Nat.le_refl _))
        have hml : m ≤ l0.length := by have := HM.out.2 HZ.out; omega
        rw [hm]
        obtain ⟨S, hS⟩ : ∃ S, srtd (srRest l0 a1 nm) l0.length = S := ⟨_, rfl⟩
        have HP := Aside0.mk (show S.Perm (List.range l0.length) by rw [← hS]; exact srtd_perm _ _)
        have HST := Aside0.mk hS
        have HSR := Aside0.mk (show srch l0 a1 nm = srSign l0 (srAdd l0 a1 nm (S.take m)) l0.length by rw [srch_eq l0 a1 nm HZ.out, hm, hS, Int.toNat_natCast])
        have hcut := cutH 140 3 Try.underlying140 infoInt gQ l0.length capQ m hml HN.out.1 (Kd.R_reads' HO.out).2.1
        clear hS hm HO
        go_wp2_with (go_at_call 178; refine HSORT.out.mono ?_; rintro e wp ⟨rfl, hk, hb, ho⟩; rw [HST.out] at ho; have HO := Aside0.mk ho; replace HS := am (HS.out.keep hk hb NN.out.1 NN.out.2.1 NN.out.2.2.1 NN.out.2.2.2); clear hk hb ho)
        clear hcut
        have HSL := Aside0.mk (show S.length = l0.length by have := HP.out.length_eq; simpa using this)
        rw [srOuts_end] at HS
        have ml : (m : Int) ≤ (l0.length : Int) := by omega
        go_loopg [64] m (fun gq v64 wr => ∃ t : Nat, v64 = .int .i64 t ∧ t ≤ m ∧ m - t ≤ gq ∧ Aside0 (Kd.R (Kd.int .i64) 3 wr w.heap.size (fun _ => True) (.slice (some ⟨gQ, 0, none⟩) l0.length capQ) (ints S)) ∧ Aside0 (SF w A0 c0 l0 a1 nm bk bt bn gO cap (srAdd l0 a1 nm (S.take t)) wr))
        case atStart => exact ⟨0, by first | rfl | go_num, by omega, by omega, HO, by simpa using HS⟩
        case round =>
          clear HO HS
          obtain ⟨t, rfl, htm, hgq, HO, HS⟩ := hrel
          by_cases hlt : t < m
          · have hltz : (t : Int) < (m : Int) := by omega
            obtain ⟨i, hi⟩ : ∃ i, S[t]? = some i := ⟨_, List.getElem?_eq_getElem (by have := HSL.out; omega)⟩
            have hin : i < l0.length := by
              have : i ∈ List.range l0.length := HP.out.subset (List.mem_of_getElem? hi)
              simpa using this
            have hnot : i ∉ S.take t := by
              intro hmem
              have hnd : S.Nodup := HP.out.nodup_iff.2 List.nodup_range
              obtain ⟨u, hu, hue⟩ := List.mem_iff_getElem.1 hmem
              rw [List.length_take] at hu
              rw [List.getElem_take] at hue
              have hte := (List.getElem?_eq_some_iff.1 hi)
              exact (List.pairwise_iff_getElem.1 hnd u t (by omega) hte.1 (by omega)) (hue.trans hte.2.symm)
            have htk : S.take (t + 1) = S.take t ++ [i] := by rw [List.take_add_one, hi]; rfl
            obtain ⟨hx1, _⟩ := row_at HO.out HSL.out hi
            obtain ⟨hy1, hy2⟩ := HS.out.cell i hin
            have hrd : rd (srAdd l0 a1 nm (S.take t)) (i : Int) = srBase l0 a1 nm i := by unfold srAdd; rw [rd_map _ _ _ hin, if_neg hnot]; omega
            rw [hrd] at hy1
            have hbd := srBase_bd l0 a1 nm HK.out HL.out HM.out.1.1 i hin
            have w1 : wrap64 (srBase l0 a1 nm i + 1) = srBase l0 a1 nm i + 1 := by unfold wrap64; omega
            have w2 : IntKind.i64.wrap (srBase l0 a1 nm i + 1) = srBase l0 a1 nm i + 1 := by rw [IntKind.wrap_i64]; omega
            obtain ⟨hb0, hb1⟩ := hbd
            have hN4 := HN.out.2
            have hi0 : (0 : Int) ≤ (i : Int) := by omega
            have hi1 : (i : Int) < (l0.length : Int) := by omega
            obtain ⟨cc, hcc⟩ := Kd.R_typed HS.out.o gO rfl
            have HO2 := Aside0.mk (Kd.R_set HO.out hcc (by decide) i (.int .i64 (srBase l0 a1 nm i + 1)))
            have HS2 := Aside0.mk (HS.out.put GO.out i (srBase l0 a1 nm i + 1))
            rw [srAdd_set _ _ _ _ _ hnot, ← htk] at HS2
            clear hnot htk hrd hi w1 w2 hcc HO HS
            go_wp2
            go_roundg (m - (t + 1))
            case measure => omega
            case rel => exact ⟨t + 1, by go_num, by omega, by omega, HO2, HS2⟩
          · obtain rfl : t = m := by omega
            have hltz : ¬ (t : Int) < (t : Int) := by omega
            have ht := HS.out.tc
            go_wp2
            clear ht
            have HXL := Aside0.mk (show (srAdd l0 a1 nm (S.take t)).length = l0.length by simp [srAdd])
            go_loopg [77] l0.length (fun gq v77 wr => ∃ j : Nat, v77 = .int .i64 j ∧ j ≤ l0.length ∧ l0.length - j ≤ gq ∧ Aside0 (SF w A0 c0 l0 a1 nm bk bt bn gO cap (srSign l0 (srAdd l0 a1 nm (S.take t)) j) wr))
            case atStart => exact ⟨0, by first | rfl | go_num, by omega, by omega, by rw [srSign_0 _ _ HXL.out]; exact HS⟩
            case round =>
              clear HS
              obtain ⟨j, rfl, hj, hgq, HS⟩ := hrel
              have hN4 := HN.out.2
              by_cases hlt : j < l0.length
              · have hltz : (j : Int) < (l0.length : Int) := by omega
                have hj0 : (0 : Int) ≤ (j : Int) := by omega
                obtain ⟨ad, e1, hx⟩ := Kd.at_int (Kd.C_below HR0.out HS.out.h) (j : Int) hj0 hltz
                cases e1
                rw [Int.toNat_natCast] at hx
                have hst := srSign_step l0 (srAdd l0 a1 nm (S.take t)) j hlt
                by_cases hneg : rd l0 (j : Int) < 0
                · obtain ⟨hy1, hy2⟩ := HS.out.cell j hlt
                  rw [if_pos hneg] at hst
                  have hrd : rd (srSign l0 (srAdd l0 a1 nm (S.take t)) j) (j : Int) = srBase l0 a1 nm j + if j ∈ S.take t then 1 else 0 := by
                    unfold srSign srAdd
                    rw [rd_map _ _ _ hlt, rd_map _ _ _ hlt, if_neg (by omega)]
                  have hbd := srBase_bd l0 a1 nm HK.out HL.out HM.out.1.1 j hlt
                  obtain ⟨x, hxx⟩ : ∃ x, rd (srSign l0 (srAdd l0 a1 nm (S.take t)) j) (j : Int) = x := ⟨_, rfl⟩
                  have hx0 : 0 ≤ x ∧ x ≤ 134217729 := by rw [← hxx, hrd]; split <;> omega
                  rw [hxx] at hst hy1
                  obtain ⟨hx1, hx2⟩ := hx0
                  have HS2 := Aside0.mk (HS.out.put GO.out j (-x))
                  rw [← hst] at HS2
                  clear hst hrd hbd hxx HS
                  go_wp2
                  go_roundg (l0.length - (j + 1))
                  case measure => omega
                  case rel => exact ⟨j + 1, by go_num, by omega, by omega, HS2⟩
                · rw [if_neg hneg] at hst
                  have HST2 := Aside0.mk hst
                  clear hst
                  go_wp2
                  go_roundg (l0.length - (j + 1))
                  case measure => omega
                  case rel => exact ⟨j + 1, by go_num, by omega, by omega, by rw [HST2.out]; exact HS⟩
              · obtain rfl : j = l0.length := by omega
                have hltz : ¬ (l0.length : Int) < (l0.length : Int) := by omega
                go_wp2
                go_ret
                exact ⟨_, rfl, by rw [HSR.out]; exact Kd.R_mono HS.out.o (fun _ _ => trivial), HS.out.h⟩

end Go.Proofs.Ythehhncokikgcaa.PFnExactMakeFrame
