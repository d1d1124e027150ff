/- Binary search, by what it comes to. -/
import Derived.Test.YtilodamhgepjoaaPu5
import Derived.Test.YtilodamhgepjoaaPA
import Derived.IntWalk
namespace Go.Proofs.Ytilodamhgepjoaa
open Go.Fx
set_option linter.unusedVariables false
set_option linter.unusedSimpArgs false
theorem cmpNaN_eq (x : Int) : cmp_isNaN_int.f x = some false := by
  refine retOf_of ?_
  unfold cmp_isNaN_int.body
  simp only [W_seq, W_block, W_reg, W_cond, W_skip, W_ext, W_ret, opt_some, opt_bind, opt_ite, thenQ_nrm, thenQ_ext, thenQ_ret, blkQ_nrm, blkQ_ext, blkQ_ret, if_true, true_and, and_true, decide_eq_true_eq, decide_eq_false_iff_not, Bool.or_eq_true, Bool.and_eq_true, Bool.or_eq_false_iff, Bool.and_eq_false_iff, Bool.true_eq_false, not_or, Classical.not_not, Bool.not_eq_true', Bool.not_eq_false', Int.not_lt, Int.not_le, Bool.false_eq_true, false_implies, true_implies, and_self, not_true_eq_false, not_false_eq_true, cmp_isNaN_int.retv, cmp_isNaN_int.r0, cmp_isNaN_int.r1]
  simp
theorem slNaN_eq (x : Int) : slices_isNaN_int.f x = some false := by
  refine retOf_of ?_
  unfold slices_isNaN_int.body
  simp only [W_seq, W_block, W_reg, W_cond, W_skip, W_ext, W_ret, opt_some, opt_bind, opt_ite, thenQ_nrm, thenQ_ext, thenQ_ret, blkQ_nrm, blkQ_ext, blkQ_ret, if_true, true_and, and_true, decide_eq_true_eq, decide_eq_false_iff_not, Bool.or_eq_true, Bool.and_eq_true, Bool.or_eq_false_iff, Bool.and_eq_false_iff, Bool.true_eq_false, not_or, Classical.not_not, Bool.not_eq_true', Bool.not_eq_false', Int.not_lt, Int.not_le, Bool.false_eq_true, false_implies, true_implies, and_self, not_true_eq_false, not_false_eq_true, slices_isNaN_int.retv, slices_isNaN_int.r0, slices_isNaN_int.r1]
  simp
theorem Less_eq (x y : Int) : cmp_Less_int.f x y = some (decide (x < y)) := by
  refine retOf_of ?_
  unfold cmp_Less_int.body
  simp only [W_seq, W_block, W_reg, W_cond, W_skip, W_ext, W_ret, opt_some, opt_bind, opt_ite, thenQ_nrm, thenQ_ext, thenQ_ret, blkQ_nrm, blkQ_ext, blkQ_ret, if_true, true_and, and_true, decide_eq_true_eq, decide_eq_false_iff_not, Bool.or_eq_true, Bool.and_eq_true, Bool.or_eq_false_iff, Bool.and_eq_false_iff, Bool.true_eq_false, not_or, Classical.not_not, Bool.not_eq_true', Bool.not_eq_false', Int.not_lt, Int.not_le, Bool.false_eq_true, false_implies, true_implies, and_self, not_true_eq_false, not_false_eq_true, cmp_Less_int.retv, cmp_Less_int.r0, cmp_Less_int.r1, cmpNaN_eq]
  simp [Opt]
/-- How many of a list lie below t. -/
def below (xs : List Int) (t : Int) : Nat := xs.countP fun x => decide (x < t)
theorem below_of {xs : List Int} {t : Int} {i : Nat} (hi : i ≤ xs.length) (h1 : ∀ j, j < i → ∀ (h : j < xs.length), xs[j] < t) (h2 : ∀ j, i ≤ j → ∀ (h : j < xs.length), t ≤ xs[j]) : below xs t = i := by
  unfold below
  rw [← List.take_append_drop i xs, List.countP_append]
  have a : (xs.take i).countP (fun x => decide (x < t)) = (xs.take i).length := by
    rw [List.countP_eq_length]
    intro x hx
    obtain ⟨j, hj, e⟩ := List.getElem_of_mem hx
    rw [List.length_take] at hj
    rw [List.getElem_take] at e
    rw [← e]
    exact decide_eq_true (h1 j (by omega) (by omega))
  have b : (xs.drop i).countP (fun x => decide (x < t)) = 0 := by
    rw [List.countP_eq_zero]
    intro x hx
    obtain ⟨j, hj, e⟩ := List.getElem_of_mem hx
    rw [List.length_drop] at hj
    rw [List.getElem_drop] at e
    rw [← e]
    have := h2 (i + j) (by omega) (by omega)
    simp; omega
  rw [a, b, List.length_take]; omega
theorem half_eq {a b : Nat} (h : a + b ≤ 9223372036854775807) : w64 (shrV .u64 (IntKind.u64.wrap (w64 ((a : Int) + b))) 1) = (((a + b) / 2 : Nat) : Int) := by
  rw [w64_id (n := (a : Int) + b) (by omega) (by omega), IntWalk.u64_in _ (by omega)]
  unfold shrV
  have : (min (1 : Int).toNat IntKind.u64.bits) = 1 := by decide
  rw [this, Int.fdiv_eq_ediv_of_nonneg _ (by omega)]
  rw [w64_id (by omega) (by omega)]
  omega
theorem BinarySearch_eq (xs : List Int) (t : Int) (hl : xs.length ≤ 4611686018427387903) (hs : xs.Pairwise (· < ·)) : slices_BinarySearch_int_int.f xs t = some ((below xs t : Int), decide (t ∈ xs)) := by
  refine retOf_of ?_
  unfold slices_BinarySearch_int_int.body
  have hsl : ∀ (i j : Nat) (hi : i < xs.length) (hj : j < xs.length), i < j → xs[i] < xs[j] := List.pairwise_iff_getElem.1 hs
  have hsl' : ∀ (i j : Nat) (hi : i < xs.length) (hj : j < xs.length), i ≤ j → xs[i] ≤ xs[j] := fun i j hi hj h => by
    by_cases e : i = j
    · subst e; exact Int.le_refl _
    · have := hsl i j hi hj (by omega); omega
  simp only [W_seq, W_block, W_reg, W_cond, W_skip, W_ext, W_ret, opt_some, opt_bind, opt_ite, thenQ_nrm, thenQ_ext, thenQ_ret, blkQ_nrm, blkQ_ext, blkQ_ret, if_true, true_and, and_true, decide_eq_true_eq, decide_eq_false_iff_not, Bool.or_eq_true, Bool.and_eq_true, Bool.or_eq_false_iff, Bool.and_eq_false_iff, Bool.true_eq_false, not_or, Classical.not_not, Bool.not_eq_true', Bool.not_eq_false', Int.not_lt, Int.not_le, Bool.false_eq_true, false_implies, true_implies, and_self, not_true_eq_false, not_false_eq_true, slices_BinarySearch_int_int.r0, slices_BinarySearch_int_int.r1, slices_BinarySearch_int_int.r2]
  refine W_iter (fun s => s.x_0 = xs ∧ s.target_1 = t ∧ s.n_6 = xs.length ∧ ∃ i j : Nat, s.i_7 = i ∧ s.j_8 = j ∧ i ≤ j ∧ j ≤ xs.length ∧ (∀ k, k < i → ∀ (h : k < xs.length), xs[k] < t) ∧ (∀ k, j ≤ k → ∀ (h : k < xs.length), t ≤ xs[k])) (fun s => s.j_8.toNat - s.i_7.toNat)
    ⟨rfl, rfl, rfl, 0, xs.length, rfl, rfl, by omega, by omega, fun k hk => by omega, fun k hk h => by omega⟩ ?_
  rintro s ⟨h0, h1, h6, i, j, hi, hj, hij, hjl, hlo, hhi⟩
  simp only [W_seq, W_block, W_reg, W_cond, W_skip, W_ext, W_ret, opt_some, opt_bind, opt_ite, thenQ_nrm, thenQ_ext, thenQ_ret, blkQ_nrm, blkQ_ext, blkQ_ret, if_true, true_and, and_true, decide_eq_true_eq, decide_eq_false_iff_not, Bool.or_eq_true, Bool.and_eq_true, Bool.or_eq_false_iff, Bool.and_eq_false_iff, Bool.true_eq_false, not_or, Classical.not_not, Bool.not_eq_true', Bool.not_eq_false', Int.not_lt, Int.not_le, Bool.false_eq_true, false_implies, true_implies, and_self, not_true_eq_false, not_false_eq_true, slices_BinarySearch_int_int.r3, slices_BinarySearch_int_int.r4, slices_BinarySearch_int_int.r5, slices_BinarySearch_int_int.r6, slices_BinarySearch_int_int.r7, slices_BinarySearch_int_int.r8, slices_BinarySearch_int_int.retv, h0, h1, h6, hi, hj, Less_eq, slNaN_eq, half_eq (by omega : i + j ≤ 9223372036854775807)]
  refine ⟨fun hlt => ?_, fun hge => ?_⟩
  · have hlt : i < j := by omega
    have hm : (i + j) / 2 < xs.length := by omega
    refine opt_of (idx_nat' hm) ⟨fun h => ?_, fun h => ?_⟩
    · rw [w64_succ (by omega)]
      refine ⟨⟨(i + j) / 2 + 1, j, rfl, rfl, by omega, hjl, fun k hk hkl => ?_, hhi⟩, by omega⟩
      have := hsl' k ((i + j) / 2) hkl hm (by omega)
      omega
    · refine ⟨⟨i, (i + j) / 2, rfl, rfl, by omega, by omega, hlo, fun k hk hkl => ?_⟩, by omega⟩
      have := hsl' ((i + j) / 2) k hm hkl (by omega)
      omega
  · obtain rfl : i = j := by omega
    rw [below_of hjl hlo hhi]
    refine ⟨fun h => ?_, fun h => ?_⟩
    · have h : i < xs.length := by omega
      have hmem : t ∈ xs ↔ xs[i] = t := by
        constructor
        · intro ht
          obtain ⟨k, hk, e⟩ := List.getElem_of_mem ht
          by_cases hki : k < i
          · have := hlo k hki hk; omega
          · have h3 := hsl' i k h hk (by omega)
            have h4 := hhi i (by omega) h
            omega
        · intro e; rw [← e]; exact List.getElem_mem h
      refine opt_of (idx_nat' h) ⟨fun e => ?_, fun e => opt_of (idx_nat' h) ?_⟩
      · rw [decide_eq_true (hmem.2 e)]
      · rw [decide_eq_false (fun hh => e (hmem.1 hh))]
    · have : ¬ t ∈ xs := fun ht => by
        obtain ⟨k, hk, e⟩ := List.getElem_of_mem ht
        have := hlo k (by omega) hk; omega
      rw [decide_eq_false this]
end Go.Proofs.Ytilodamhgepjoaa
