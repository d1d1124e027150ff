/- What small functions come to. -/
import Derived.Test.YtilodamhgepjoaaPA
import Derived.Test.YtilodamhgepjoaaFx11
namespace Go.Proofs.Ytilodamhgepjoaa
open Go.Fx
set_option linter.unusedVariables false
set_option linter.unusedSimpArgs false

theorem idx_nat' {α : Type} {xs : List α} {i : Nat} (h : i < xs.length) : idx xs (i : Int) = some (xs[i]'h) := idx_of_lt h
theorem w64_succ {i : Nat} (h : i < 9223372036854775807) : w64 ((i : Int) + 1) = ((i + 1 : Nat) : Int) := by
  rw [w64_id (by omega) (by omega)]; omega

theorem Has_eq (l : List Int) (n : Int) (hl : l.length ≤ 9223372036854775807) : ref3_Has.f l n = some (decide (n ∈ l)) := by
  refine retOf_of ?_
  unfold ref3_Has.body
  simp only [W_seq, W_block, W_reg, ref3_Has.r0, ref3_Has.r1, opt_some, thenQ_nrm]
  refine W_iter (fun s => s.l_0 = l ∧ s.n_1 = n ∧ ∃ i : Nat, s.i_5 = i ∧ i ≤ l.length ∧ ∀ j (hj : j < i) (hjl : j < l.length), l[j] ≠ n) (fun s => l.length - s.i_5.toNat) ⟨rfl, rfl, 0, rfl, by omega, by omega⟩ ?_
  rintro s ⟨rfl, rfl, i, hi, hle, hno⟩
  simp only [W_seq, W_block, W_reg, W_cond, W_skip, W_ext, W_ret, ref3_Has.r2, ref3_Has.r3, ref3_Has.r4, ref3_Has.r5, ref3_Has.r6, ref3_Has.retv, opt_some, opt_bind, thenQ_nrm, thenQ_ext, thenQ_ret, blkQ_nrm, blkQ_ext, blkQ_ret, hi, if_true]
  refine ⟨fun hlt => ?_, fun hge => ?_⟩
  · have hlt : i < s.l_0.length := by simpa using hlt
    refine opt_of (idx_nat' hlt) ⟨fun h => ?_, fun h => ?_⟩
    · have : s.l_0[i] = s.n_1 := by simpa using h
      rw [← this]; simp
    · have : s.l_0[i] ≠ s.n_1 := by simpa using h
      rw [w64_succ (by omega)]
      refine ⟨⟨trivial, trivial, i + 1, rfl, by omega, fun j hj hjl => ?_⟩, by omega⟩
      by_cases e : j = i
      · subst e; exact this
      · exact hno j (by omega) hjl
  · have hge : s.l_0.length ≤ i := by simpa using hge
    have : ¬ s.n_1 ∈ s.l_0 := fun h => by
      obtain ⟨j, hj, e⟩ := List.getElem_of_mem h
      exact hno j (by omega) hj e
    simp [this]

theorem Ints_eq (a b : List Int) (hl : a.length ≤ 9223372036854775807) : ref3_Ints.f a b = some (decide (a = b)) := by
  refine retOf_of ?_
  unfold ref3_Ints.body
  simp only [W_seq, W_block, W_reg, W_cond, W_skip, W_ext, W_ret, ref3_Ints.r0, ref3_Ints.r1, ref3_Ints.r2, ref3_Ints.r3, ref3_Ints.retv, opt_some, thenQ_nrm, thenQ_ext, thenQ_ret, blkQ_nrm, blkQ_ext, blkQ_ret]
  refine ⟨fun hne => ?_, fun he => ?_⟩
  · have : a ≠ b := fun e => by subst e; simp at hne
    simp [this]
  have hlen : a.length = b.length := by simp at he; omega
  refine W_iter (fun s => s.a_0 = a ∧ s.b_1 = b ∧ ∃ i : Nat, s.i_5 = i ∧ i ≤ a.length ∧ ∀ j, j < i → a[j]? = b[j]?) (fun s => a.length - s.i_5.toNat) ⟨rfl, rfl, 0, rfl, by omega, by omega⟩ ?_
  rintro s ⟨rfl, rfl, i, hi, hle, hno⟩
  simp only [W_seq, W_block, W_reg, W_cond, W_skip, W_ext, W_ret, ref3_Ints.r4, ref3_Ints.r5, ref3_Ints.r6, ref3_Ints.r7, ref3_Ints.r8, ref3_Ints.retv, opt_some, opt_bind, thenQ_nrm, thenQ_ext, thenQ_ret, blkQ_nrm, blkQ_ext, blkQ_ret, hi, if_true]
  refine ⟨fun hlt => ?_, fun hge => ?_⟩
  · have hlt : i < s.a_0.length := by simpa using hlt
    refine opt_of (idx_nat' hlt) (opt_of (idx_nat' (by omega : i < s.b_1.length)) ⟨fun h => ?_, fun h => ?_⟩)
    · have h : s.a_0[i] ≠ s.b_1[i] := by simpa using h
      have : s.a_0 ≠ s.b_1 := fun e => h (by simp only [e])
      simp [this]
    · have h : s.a_0[i] = s.b_1[i] := by simpa using h
      rw [w64_succ (by omega)]
      refine ⟨⟨trivial, trivial, i + 1, rfl, by omega, fun j hj => ?_⟩, by omega⟩
      by_cases e : j = i
      · subst e; rw [List.getElem?_eq_getElem hlt, List.getElem?_eq_getElem (by omega), h]
      · exact hno j (by omega)
  · have hge : s.a_0.length ≤ i := by simpa using hge
    have : s.a_0 = s.b_1 := List.ext_getElem? fun j => by
      by_cases hj : j < i
      · exact hno j hj
      · rw [List.getElem?_eq_none (by omega), List.getElem?_eq_none (by omega)]
    simp [this]

theorem Reverse_eq (l : List Int) (hl : l.length ≤ 4611686018427387904) : slices_Reverse_int_int.f l = some l.reverse := by
  refine outOf_of ?_
  unfold slices_Reverse_int_int.body
  simp only [W_seq, W_block, W_reg, slices_Reverse_int_int.r0, opt_some, thenQ_nrm]
  refine W_iter (fun s => ∃ i : Nat, s.i_2 = i ∧ s.j_3 = (l.length : Int) - 1 - i ∧ i ≤ l.length ∧ s.s_0.length = l.length ∧ ∀ k, k < l.length → s.s_0[k]? = if k < i ∨ l.length - i ≤ k then l[l.length - 1 - k]? else l[k]?) (fun s => l.length - s.i_2.toNat)
    ⟨0, rfl, by show w64 _ = _; rw [w64_id (by omega) (by omega)]; omega, by omega, rfl, fun k hk => by rw [if_neg (by omega)]⟩ ?_
  rintro s ⟨i, hi, hj, hle, hlen, hk⟩
  simp only [W_seq, W_block, W_reg, W_cond, W_skip, W_ext, slices_Reverse_int_int.r1, slices_Reverse_int_int.r2, slices_Reverse_int_int.r3, slices_Reverse_int_int.retv, opt_some, opt_bind, thenQ_nrm, thenQ_ext, thenQ_ret, blkQ_nrm, blkQ_ext, blkQ_ret, hi, hj, if_true]
  refine ⟨fun hlt => ?_, fun hge => ?_⟩
  · have hlt : (i : Int) < (l.length : Int) - 1 - i := by simpa using hlt
    obtain ⟨j, hjj⟩ : ∃ j : Nat, j = l.length - 1 - i := ⟨_, rfl⟩
    have hc : (l.length : Int) - 1 - i = (j : Int) := by omega
    rw [hc]
    have h1 : i < s.s_0.length := by omega
    have h2 : j < s.s_0.length := by omega
    refine opt_of (idx_nat' h2) (opt_of (idx_nat' h1) (opt_of (idx_nat' h1) ?_))
    refine opt_of (idx_nat' (by simpa [setL] using h2)) ?_
    refine ⟨⟨i + 1, ?_, ?_, by omega, by simp [setL, hlen], fun k hkl => ?_⟩, ?_⟩
    · exact w64_succ (by omega)
    · show w64 _ = _
      rw [w64_id (by omega) (by omega)]; omega
    · simp only [setL, Int.toNat_natCast, List.getElem?_set]
      have ki := hk i (by omega)
      have kj := hk j (by omega)
      rw [List.getElem?_eq_getElem h1] at ki
      rw [List.getElem?_eq_getElem h2] at kj
      by_cases e1 : j = k
      · subst e1
        rw [if_pos rfl, if_pos (by simpa using h2), if_pos (by omega), ki, if_neg (by omega)]
        congr 1; omega
      · rw [if_neg e1]
        by_cases e2 : i = k
        · subst e2
          rw [if_pos rfl, if_pos h1, if_pos (by omega), kj, if_neg (by omega)]
          congr 1
        · rw [if_neg e2, hk k hkl]
          by_cases e3 : k < i ∨ l.length - i ≤ k
          · rw [if_pos e3, if_pos (by omega)]
          · rw [if_neg e3, if_neg (by omega)]
    · show _ - (w64 _).toNat < _
      rw [w64_succ (by omega)]; omega
  · have hge : (l.length : Int) - 1 - i ≤ i := by simpa using hge
    refine ⟨_, rfl, List.ext_getElem? fun k => ?_⟩
    show s.s_0[k]? = _
    by_cases hkl : k < l.length
    · rw [hk k hkl, List.getElem?_reverse hkl]
      split
      · rfl
      · congr 1; omega
    · rw [List.getElem?_eq_none (by omega), List.getElem?_eq_none (by simpa using hkl)]
end Go.Proofs.Ytilodamhgepjoaa
