/- Selections as sets; the examples. -/
import Derived.Test.YtilodamhgepjoaaPu8
namespace Go.Proofs.Ytilodamhgepjoaa
open Go.Fx
set_option linter.unusedVariables false
set_option linter.unusedSimpArgs false

theorem inc_ext : ∀ {xs ys : List Int}, xs.Pairwise (· < ·) → ys.Pairwise (· < ·) → (∀ n, n ∈ xs ↔ n ∈ ys) → xs = ys
  | [], ys, _, _, h => (List.eq_nil_iff_forall_not_mem.2 fun n hn => by have := (h n).2 hn; simp at this).symm
  | x :: xs, [], _, _, h => by have := (h x).1 (by simp); simp at this
  | x :: xs, y :: ys, hx, hy, h => by
    rw [List.pairwise_cons] at hx hy
    have e : x = y := by
      rcases List.mem_cons.1 ((h x).1 (by simp)) with e | e
      · exact e
      · rcases List.mem_cons.1 ((h y).2 (by simp)) with e2 | e2
        · exact e2.symm
        · have := hx.1 _ e2; have := hy.1 _ e; omega
    subst e
    rw [inc_ext hx.2 hy.2 fun n => ?_]
    constructor
    · intro hn
      rcases List.mem_cons.1 ((h n).1 (List.mem_cons_of_mem _ hn)) with e | e
      · have := hx.1 _ hn; omega
      · exact e
    · intro hn
      rcases List.mem_cons.1 ((h n).2 (List.mem_cons_of_mem _ hn)) with e | e
      · have := hy.1 _ hn; omega
      · exact e
theorem inc_sub : ∀ {xs ys : List Int}, xs.Pairwise (· < ·) → ys.Pairwise (· < ·) → (∀ n, n ∈ xs → n ∈ ys) → xs.Sublist ys
  | [], ys, _, _, h => List.nil_sublist _
  | x :: xs, [], _, _, h => by have := h x (by simp); simp at this
  | x :: xs, y :: ys, hx, hy, h => by
    have hx' := hx; have hy' := hy
    rw [List.pairwise_cons] at hx' hy'
    by_cases e : x = y
    · subst e
      refine (inc_sub hx'.2 hy'.2 fun n hn => ?_).cons_cons _
      rcases List.mem_cons.1 (h n (List.mem_cons_of_mem _ hn)) with e | e
      · have := hx'.1 _ hn; omega
      · exact e
    · refine (inc_sub hx hy'.2 fun n hn => ?_).cons _
      have hyx : y < x := by
        rcases List.mem_cons.1 (h x (by simp)) with e2 | e2
        · exact absurd e2 e
        · exact hy'.1 _ e2
      rcases List.mem_cons.1 (h n hn) with e2 | e2
      · rcases List.mem_cons.1 hn with e3 | e3
        · omega
        · have := hx'.1 _ e3; omega
      · exact e2
theorem sel_mem {l : List Commit} {fr : List Int} {steps n : Int} : n ∈ sel l fr steps 0 ↔ 0 ≤ steps ∧ ∃ i : Nat, n = i ∧ i < l.length ∧ win l fr 0 steps.toNat i := by
  unfold sel
  simp only [List.mem_map, List.mem_filter, List.mem_range'_1, decide_eq_true_eq]
  constructor
  · rintro ⟨i, ⟨h1, h2, h3⟩, rfl⟩; exact ⟨h2, i, rfl, by omega, h3⟩
  · rintro ⟨h2, i, rfl, h1, h3⟩; exact ⟨i, ⟨⟨by omega, by omega⟩, h2, h3⟩, rfl⟩
theorem sel_memN {l : List Commit} {fr : List Int} {steps : Int} {i : Nat} : (i : Int) ∈ sel l fr steps 0 ↔ 0 ≤ steps ∧ i < l.length ∧ win l fr 0 steps.toNat i := by
  rw [sel_mem]
  constructor
  · rintro ⟨h, j, e, h1, h2⟩
    obtain rfl : i = j := by omega
    exact ⟨h, h1, h2⟩
  · rintro ⟨h, h1, h2⟩; exact ⟨h, i, rfl, h1, h2⟩
theorem sel_inc {l : List Commit} {fr : List Int} {steps : Int} : (sel l fr steps 0).Pairwise (· < ·) := by
  unfold sel
  rw [List.pairwise_map]
  refine List.Pairwise.imp (fun {a b} (h : a < b) => by omega) (List.Pairwise.filter _ (List.pairwise_lt_range' (step := 1)))
theorem sel_inr {l : List Commit} {fr : List Int} {steps : Int} : ∀ n ∈ sel l fr steps 0, 0 ≤ n ∧ n < l.length := fun n h => by
  obtain ⟨_, i, rfl, h1, _⟩ := sel_mem.1 h; omega
theorem sFault_of {l : List Commit} {ns : List Int} (h : hFault l = ⟨0, 0⟩) (hr : ∀ n ∈ ns, 0 ≤ n ∧ n < l.length) (hi : ns.Pairwise (· < ·)) : sFault l ns = ⟨0, 0⟩ := by
  unfold sFault
  rw [if_pos h, fs_none]
  · rfl
  · intro j hj
    have h1 := hr _ (List.getElem_mem hj)
    have e1 : ns.getD j 0 = ns[j] := by simp [List.getD, hj]
    unfold nF
    rw [e1, if_neg (by omega), if_neg]
    rintro ⟨hj0, hle⟩
    have hj1 : j - 1 < ns.length := by omega
    have e2 : ns.getD (j - 1) 0 = ns[j - 1] := by simp [List.getD, hj1]
    have := List.pairwise_iff_getElem.1 hi (j - 1) j hj1 hj (by omega)
    omega
theorem win_one {l : List Commit} {fr : List Int} {i : Nat} : win l fr 0 1 i ↔ (i : Int) ∈ fr ∨ ∃ (c : Nat) (x : Commit), l[c]? = some x ∧ (c : Int) ∈ fr ∧ (i : Int) ∈ x.Parents := by
  show win l fr 0 (0 + 1) i ↔ _
  unfold win
  refine or_congr Iff.rfl ⟨?_, ?_⟩
  · rintro ⟨c, x, _, h1, h2, h3⟩; exact ⟨c, x, h1, h2, h3⟩
  · rintro ⟨c, x, h1, h2, h3⟩; exact ⟨c, x, Nat.zero_le _, h1, h2, h3⟩
theorem win_add {l : List Commit} {fr : List Int} {d : Int} (hd : 0 ≤ d) : ∀ {k i : Nat}, i < l.length → (win l (sel l fr d 0) 0 k i ↔ win l fr 0 (d.toNat + k) i)
  | 0, i, hi => by
    show (i : Int) ∈ sel l fr d 0 ↔ _
    rw [sel_memN]
    exact ⟨fun h => h.2.2, fun h => ⟨hd, hi, h⟩⟩
  | k + 1, i, hi => by
    show win l (sel l fr d 0) 0 (k + 1) i ↔ win l fr 0 (d.toNat + k + 1) i
    unfold win
    rw [win_add hd hi]
    refine or_congr Iff.rfl ⟨?_, ?_⟩
    · rintro ⟨c, x, h0, hx, hw, hp⟩
      exact ⟨c, x, h0, hx, (win_add hd (List.getElem?_eq_some_iff.1 hx).1).1 hw, hp⟩
    · rintro ⟨c, x, h0, hx, hw, hp⟩
      exact ⟨c, x, h0, hx, (win_add hd (List.getElem?_eq_some_iff.1 hx).1).2 hw, hp⟩
theorem sel_add {l : List Commit} {fr : List Int} {d k : Int} (hd : 0 ≤ d) (hk : 0 ≤ k) : sel l (sel l fr d 0) k 0 = sel l fr (d + k) 0 := by
  refine inc_ext sel_inc sel_inc fun n => ?_
  rw [sel_mem, sel_mem]
  refine and_congr (by omega) (exists_congr fun i => and_congr Iff.rfl ?_)
  constructor
  · rintro ⟨h, hw⟩
    have := (win_add hd h).1 hw
    rw [show (d + k).toNat = d.toNat + k.toNat by omega]; exact ⟨h, this⟩
  · rintro ⟨h, hw⟩
    rw [show (d + k).toNat = d.toNat + k.toNat by omega] at hw
    exact ⟨h, (win_add hd h).2 hw⟩

/-- The steps, to be counted out. -/
def winB (l : List Commit) (fr : List Int) : Nat → Nat → Bool
  | 0, i => decide ((i : Int) ∈ fr)
  | k + 1, i => winB l fr k i || (List.range l.length).any fun c => winB l fr k c && decide ((i : Int) ∈ par l c)
theorem winB_iff {l : List Commit} {fr : List Int} : ∀ {k i : Nat}, winB l fr k i = true ↔ win l fr 0 k i
  | 0, i => by simp [winB, win]
  | k + 1, i => by
    unfold winB win
    simp only [Bool.or_eq_true, List.any_eq_true, List.mem_range, Bool.and_eq_true, decide_eq_true_eq]
    refine or_congr winB_iff ⟨?_, ?_⟩
    · rintro ⟨c, hc, h1, h2⟩
      refine ⟨c, l[c], Nat.zero_le _, List.getElem?_eq_getElem hc, winB_iff.1 h1, ?_⟩
      unfold par at h2
      simpa [List.getElem?_eq_getElem hc] using h2
    · rintro ⟨c, x, _, hx, h1, h2⟩
      have hc := (List.getElem?_eq_some_iff.1 hx).1
      refine ⟨c, hc, winB_iff.2 h1, ?_⟩
      unfold par
      simpa [hx] using h2
theorem sel_eval {l : List Commit} {fr : List Int} {steps : Int} : sel l fr steps 0 = ((List.range' 0 l.length).filter fun i => decide (0 ≤ steps) && winB l fr steps.toNat i).map fun (i : Nat) => (i : Int) := by
  unfold sel
  congr 1
  refine List.filter_congr fun i _ => ?_
  rw [Bool.eq_iff_iff]
  simp only [decide_eq_true_eq, Bool.and_eq_true, winB_iff]

def ch (i : Nat) : Commit := ⟨if i = 0 then [] else [(i : Int) - 1], 0, i, 0, ByteArray.empty⟩
theorem chain_eq : law4_chain.f 3 = some [ch 0, ch 1, ch 2] := by
  refine retOf_of ?_
  unfold law4_chain.body
  simp only [W_seq, W_block, W_reg, W_cond, W_skip, W_ext, W_ret, opt_some, opt_bind, opt_ite, thenQ_nrm, thenQ_ext, thenQ_ret, blkQ_nrm, blkQ_ext, blkQ_ret, if_true, true_and, and_true, decide_eq_true_eq, decide_eq_false_iff_not, Bool.or_eq_true, Bool.and_eq_true, Bool.or_eq_false_iff, Bool.and_eq_false_iff, Bool.true_eq_false, not_or, Classical.not_not, Bool.not_eq_true', Bool.not_eq_false', Int.not_lt, Int.not_le, Bool.false_eq_true, false_implies, true_implies, and_self, not_true_eq_false, not_false_eq_true, law4_chain.retv, law4_chain.r0, law4_chain.r1, law4_chain.r2, law4_chain.r3, law4_chain.r5, law4_chain.r6, law4_chain.r7, law4_chain.r8, law4_chain.r4, law4_chain.r9]
  refine W_iter (fun s => s.n_0 = 3 ∧ ∃ i : Nat, s.i_4 = i ∧ i ≤ 3 ∧ s.l_3 = (List.range i).map ch) (fun s => 3 - s.i_4.toNat) ⟨rfl, 0, rfl, by omega, rfl⟩ ?_
  rintro s ⟨h0, i, hi, hle, hl⟩
  simp only [W_seq, W_block, W_reg, W_cond, W_skip, W_ext, W_ret, opt_some, opt_bind, opt_ite, thenQ_nrm, thenQ_ext, thenQ_ret, blkQ_nrm, blkQ_ext, blkQ_ret, if_true, true_and, and_true, decide_eq_true_eq, decide_eq_false_iff_not, Bool.or_eq_true, Bool.and_eq_true, Bool.or_eq_false_iff, Bool.and_eq_false_iff, Bool.true_eq_false, not_or, Classical.not_not, Bool.not_eq_true', Bool.not_eq_false', Int.not_lt, Int.not_le, Bool.false_eq_true, false_implies, true_implies, and_self, not_true_eq_false, not_false_eq_true, law4_chain.retv, law4_chain.r0, law4_chain.r1, law4_chain.r2, law4_chain.r3, law4_chain.r5, law4_chain.r6, law4_chain.r7, law4_chain.r8, law4_chain.r4, law4_chain.r9, h0, hi, hl]
  refine ⟨fun hlt => ?_, fun hge => ?_⟩
  · rw [w64_succ (by omega)]
    refine ⟨fun h => ?_, fun h => ?_⟩
    · rw [w64_id (by omega) (by omega)]
      refine opt_of (appL_of (by simp; omega)) ⟨⟨i + 1, rfl, by omega, ?_⟩, by omega⟩
      rw [List.range_succ, List.map_append]
      simp [ch, show i ≠ 0 by omega]
    · obtain rfl : i = 0 := by omega
      refine opt_of (appL_of (by simp)) ⟨⟨0 + 1, rfl, by omega, ?_⟩, by omega⟩
      simp [ch]
  · obtain rfl : i = 3 := by omega
    rfl
theorem example_eq : law4_shallowExample.f = some true := by
  refine retOf_of ?_
  unfold law4_shallowExample.body
  have hs : sFault [ch 0, ch 1, ch 2] [1, 2] = ⟨0, 0⟩ := by decide
  have hc : cutFault [ch 0, ch 1, ch 2] [2] 2 = ⟨0, 0⟩ := by decide
  have hb : bnd [ch 0, ch 1, ch 2] [1, 2] = [1] := by decide
  have e1 : sel [ch 0, ch 1, ch 2] [2] (2 - 1) 0 = [1, 2] := by rw [sel_eval]; decide
  have e2 : sel [ch 0, ch 1, ch 2] [1, 2] 1 0 = [0, 1, 2] := by rw [sel_eval]; decide
  have e3 : [1, 2].map (exc [ch 0, ch 1, ch 2] [1, 2]) = [{ ch 1 with Parents := [] }, { ch 2 with Parents := [0] }] := rfl
  have n2 : [(1 : Int), 2].length ≤ 9223372036854775807 := by decide
  have f1 : shallow_Cut.f [ch 0, ch 1, ch 2] [2] 2 = some ([1, 2], ⟨0, 0⟩) := by rw [Cut_eq, hc, e1]; rfl
  have f2 : shallow_Boundary.f [ch 0, ch 1, ch 2] [1, 2] = some ([1], ⟨0, 0⟩) := by rw [Boundary_eq _ _ n2, hs, hb]; rfl
  have f3 : shallow_Deepen.f [ch 0, ch 1, ch 2] [1, 2] 1 = some ([0, 1, 2], ⟨0, 0⟩) := by rw [Deepen_eq _ _ _ n2, hs, e2]; rfl
  have f4 : shallow_Extract.f [ch 0, ch 1, ch 2] [1, 2] = some ([{ ch 1 with Parents := [] }, { ch 2 with Parents := [0] }], ⟨0, 0⟩) := by rw [Extract_eq _ _ n2, hs, e3]; rfl
  have i1 : ref3_Ints.f [1, 2] [1, 2] = some true := by rw [Ints_eq _ _ (by decide)]; rfl
  have i2 : ref3_Ints.f [1] [1] = some true := by rw [Ints_eq _ _ (by decide)]; rfl
  have i3 : ref3_Ints.f [0, 1, 2] [0, 1, 2] = some true := by rw [Ints_eq _ _ (by decide)]; rfl
  have i4 : ref3_Ints.f [0] [0] = some true := by rw [Ints_eq _ _ (by decide)]; rfl
  have x0 : ∀ a b : Commit, idx [a, b] 0 = some a := fun _ _ => rfl
  have x1 : ∀ a b : Commit, idx [a, b] 1 = some b := fun _ _ => rfl
  simp only [W_seq, W_block, W_reg, W_cond, W_skip, W_ext, W_ret, opt_some, opt_bind, opt_ite, thenQ_nrm, thenQ_ext, thenQ_ret, blkQ_nrm, blkQ_ext, blkQ_ret, if_true, true_and, and_true, decide_eq_true_eq, decide_eq_false_iff_not, Bool.or_eq_true, Bool.and_eq_true, Bool.or_eq_false_iff, Bool.and_eq_false_iff, Bool.true_eq_false, not_or, Classical.not_not, Bool.not_eq_true', Bool.not_eq_false', Int.not_lt, Int.not_le, Bool.false_eq_true, false_implies, true_implies, and_self, not_true_eq_false, not_false_eq_true, law4_shallowExample.retv, law4_shallowExample.r0, law4_shallowExample.r1, law4_shallowExample.r2, law4_shallowExample.r3, law4_shallowExample.r4, law4_shallowExample.r5, chain_eq, f1, f2, f3, f4, i1, i2, i3, i4, x0, x1, List.length_cons, List.length_nil]
  simp
end Go.Proofs.Ytilodamhgepjoaa
