/- When a selection is valid. -/
import Derived.Test.YtilodamhgepjoaaPu2
namespace Go.Proofs.Ytilodamhgepjoaa
open Go.Fx
set_option linter.unusedVariables false
set_option linter.unusedSimpArgs false

theorem pFault_code {i : Int} {ps : List Int} {k : Nat} {x : Int} (h : pFault i ps k = some x) : x ≠ 0 := by
  unfold pFault at h
  split at h
  · cases h; decide
  · split at h
    · cases h; decide
    · cases h
theorem cFault_code {i : Int} {c : Commit} {x : Int} (h : cFault i c = some x) : x ≠ 0 := by
  unfold cFault at h
  split at h
  · cases h; decide
  · split at h
    · rename_i y hy
      cases h
      obtain ⟨k, _, hk⟩ := List.exists_of_findSome?_eq_some hy
      exact pFault_code hk
    · split at h
      · cases h; decide
      · split at h
        · cases h; decide
        · cases h
theorem hFault_cases (l : List Commit) : (hFault l = ⟨0, 0⟩ ∧ l.length ≤ 60 ∧ ∀ (i : Nat) c, l[i]? = some c → cFault i c = none) ∨ (hFault l).Code ≠ 0 := by
  unfold hFault
  split
  · exact .inr (by decide)
  · rename_i h60
    cases hf : (List.range l.length).findSome? (hF l) with
    | none =>
      refine .inl ⟨rfl, by omega, fun i c hc => ?_⟩
      rw [List.findSome?_eq_none_iff] at hf
      have hi : i < l.length := (List.getElem?_eq_some_iff.1 hc).1
      have := hf i (List.mem_range.2 hi)
      simpa [hF, hc] using this
    | some f =>
      right
      obtain ⟨i, hi, hx⟩ := List.exists_of_findSome?_eq_some hf
      have hi := List.mem_range.1 hi
      simp only [hF, List.getElem?_eq_getElem hi, Option.bind_some, Option.map_eq_some_iff] at hx
      obtain ⟨x, hx, rfl⟩ := hx
      exact cFault_code hx

/-- The fault of number i of a selection. -/
def nF (n : Nat) (ns : List Int) (i : Nat) : Option Fault :=
  if ns.getD i 0 < 0 ∨ (n : Int) ≤ ns.getD i 0 then some ⟨6, i⟩ else if 0 < i ∧ ns.getD i 0 ≤ ns.getD (i - 1) 0 then some ⟨5, i⟩ else none
def sFault (l : List Commit) (ns : List Int) : Fault := if hFault l = ⟨0, 0⟩ then ((List.range ns.length).findSome? (nF l.length ns)).getD ⟨0, 0⟩ else hFault l

theorem check_eq (l : List Commit) (ns : List Int) (hn : ns.length ≤ 9223372036854775807) : shallow_check.f l ns = some (sFault l ns) := by
  refine retOf_of ?_
  unfold shallow_check.body
  simp only [W_seq, W_block, W_reg, W_cond, W_skip, W_ext, W_ret, opt_some, opt_bind, opt_ite, thenQ_nrm, thenQ_ext, thenQ_ret, blkQ_nrm, blkQ_ext, blkQ_ret, if_true, true_and, and_true, decide_eq_true_eq, decide_eq_false_iff_not, Bool.or_eq_true, Bool.and_eq_true, Bool.or_eq_false_iff, Bool.and_eq_false_iff, Bool.true_eq_false, not_or, Classical.not_not, Bool.not_eq_true', Bool.not_eq_false', Int.not_lt, Int.not_le, Bool.false_eq_true, false_implies, true_implies, and_self, not_true_eq_false, not_false_eq_true, shallow_check.r0, shallow_check.r1, shallow_check.r2, shallow_check.r3, shallow_check.r4, shallow_check.retv, Validate_eq]
  refine ⟨fun h => by unfold sFault; rw [if_neg h], fun h => ?_⟩
  have hS : sFault l ns = ((List.range ns.length).findSome? (nF l.length ns)).getD ⟨0, 0⟩ := by unfold sFault; rw [if_pos h]
  rw [hS]
  refine W_iter (fun s => s.commits_0 = l ∧ s.numbers_1 = ns ∧ s.t_14 = ns ∧ s.t_15 = ns.length ∧ ∃ i : Nat, s.t_16 = i ∧ i ≤ ns.length ∧ ∀ j, j < i → nF l.length ns j = none) (fun s => ns.length - s.t_16.toNat) ⟨rfl, rfl, rfl, rfl, 0, rfl, by omega, by omega⟩ ?_
  rintro s ⟨h0, h1, h14, h15, i, hi, hle, hno⟩
  simp only [W_seq, W_block, W_reg, W_cond, W_skip, W_ext, W_ret, opt_some, opt_bind, opt_ite, thenQ_nrm, thenQ_ext, thenQ_ret, blkQ_nrm, blkQ_ext, blkQ_ret, if_true, true_and, and_true, decide_eq_true_eq, decide_eq_false_iff_not, Bool.or_eq_true, Bool.and_eq_true, Bool.or_eq_false_iff, Bool.and_eq_false_iff, Bool.true_eq_false, not_or, Classical.not_not, Bool.not_eq_true', Bool.not_eq_false', Int.not_lt, Int.not_le, Bool.false_eq_true, false_implies, true_implies, and_self, not_true_eq_false, not_false_eq_true, shallow_check.r5, shallow_check.r6, shallow_check.r7, shallow_check.r8, shallow_check.r9, shallow_check.r10, shallow_check.r11, shallow_check.r12, shallow_check.retv, h0, h1, h14, h15, hi]
  refine ⟨fun hlt => ?_, fun hge => ?_⟩
  · have hlt : i < ns.length := by omega
    have hg : ns.getD i 0 = ns[i] := by simp [List.getD, hlt]
    have hret : ∀ x, nF l.length ns i = some x → Ctl.ret (σ := shallow_check.S) x = Ctl.ret (((List.range ns.length).findSome? (nF l.length ns)).getD ⟨0, 0⟩) := fun x hx => by rw [fs_some hno hlt hx]; rfl
    have hgo : nF l.length ns i = none → (∀ j, j < i + 1 → nF l.length ns j = none) := fun hx j hj => by
      by_cases e : j = i
      · subst e; exact hx
      · exact hno j (by omega)
    rw [w64_succ (by omega)]
    refine opt_of (idx_nat' hlt) ⟨fun hb => hret _ (by unfold nF; rw [hg, if_pos hb]), fun hb => ⟨fun hk0 => ?_, fun hk0 => ?_⟩⟩
    · have hk0 : 0 < i := by omega
      have hw : w64 ((i : Int) - 1) = ((i - 1 : Nat) : Int) := by rw [w64_id (by omega) (by omega)]; omega
      have hg1 : ns.getD (i - 1) 0 = ns[i - 1] := by
        have : i - 1 < ns.length := by omega
        simp [List.getD, this]
      rw [hw]
      refine opt_of (idx_nat' (by omega : i - 1 < ns.length)) ⟨fun hm => hret _ (by unfold nF; rw [hg, hg1, if_neg (by omega), if_pos ⟨hk0, hm⟩]), fun hm => ?_⟩
      exact ⟨⟨i + 1, rfl, by omega, hgo (by unfold nF; rw [hg, hg1, if_neg (by omega), if_neg (by omega)])⟩, by omega⟩
    · exact ⟨⟨i + 1, rfl, by omega, hgo (by unfold nF; rw [hg, if_neg (by omega), if_neg (by omega)])⟩, by omega⟩
  · have : i = ns.length := by omega
    rw [fs_none (by rw [← this]; exact hno)]
    rfl

theorem SelectionFault_eq (l : List Commit) (ns : List Int) (hn : ns.length ≤ 9223372036854775807) : ref4_SelectionFault.f l ns = some (sFault l ns) := by
  refine retOf_of ?_
  unfold ref4_SelectionFault.body
  simp only [W_seq, W_block, W_reg, W_cond, W_skip, W_ext, W_ret, opt_some, opt_bind, opt_ite, thenQ_nrm, thenQ_ext, thenQ_ret, blkQ_nrm, blkQ_ext, blkQ_ret, if_true, true_and, and_true, decide_eq_true_eq, decide_eq_false_iff_not, Bool.or_eq_true, Bool.and_eq_true, Bool.or_eq_false_iff, Bool.and_eq_false_iff, Bool.true_eq_false, not_or, Classical.not_not, Bool.not_eq_true', Bool.not_eq_false', Int.not_lt, Int.not_le, Bool.false_eq_true, false_implies, true_implies, and_self, not_true_eq_false, not_false_eq_true, ref4_SelectionFault.r0, ref4_SelectionFault.r1, ref4_SelectionFault.r2, ref4_SelectionFault.r3, ref4_SelectionFault.r4, ref4_SelectionFault.retv, HistoryFault_eq]
  refine ⟨fun h => ?_, fun h => ?_⟩
  · unfold sFault; rw [if_neg (fun e => by rw [e] at h; exact h rfl)]
  obtain ⟨h, h60, _⟩ := (hFault_cases l).resolve_right (fun e => e h)
  have hS : sFault l ns = ((List.range ns.length).findSome? (nF l.length ns)).getD ⟨0, 0⟩ := by unfold sFault; rw [if_pos h]
  rw [hS]
  refine W_iter (fun s => s.l_0 = l ∧ s.numbers_1 = ns ∧ ∃ i : Nat, s.i_6 = i ∧ i ≤ ns.length ∧ ∀ j, j < i → nF l.length ns j = none) (fun s => ns.length - s.i_6.toNat) ⟨rfl, rfl, 0, rfl, by omega, by omega⟩ ?_
  rintro s ⟨h0, h1, i, hi, hle, hno⟩
  have hwi : w64 ((l.length : Int) - 1) = (l.length : Int) - 1 := w64_id (by omega) (by omega)
  simp only [W_seq, W_block, W_reg, W_cond, W_skip, W_ext, W_ret, opt_some, opt_bind, opt_ite, thenQ_nrm, thenQ_ext, thenQ_ret, blkQ_nrm, blkQ_ext, blkQ_ret, if_true, true_and, and_true, decide_eq_true_eq, decide_eq_false_iff_not, Bool.or_eq_true, Bool.and_eq_true, Bool.or_eq_false_iff, Bool.and_eq_false_iff, Bool.true_eq_false, not_or, Classical.not_not, Bool.not_eq_true', Bool.not_eq_false', Int.not_lt, Int.not_le, Bool.false_eq_true, false_implies, true_implies, and_self, not_true_eq_false, not_false_eq_true, ref4_SelectionFault.r5, ref4_SelectionFault.r6, ref4_SelectionFault.r7, ref4_SelectionFault.r8, ref4_SelectionFault.r9, ref4_SelectionFault.r10, ref4_SelectionFault.r11, ref4_SelectionFault.retv, h0, h1, hi, In_eq, Fault_eq, hwi]
  refine ⟨fun hlt => ?_, fun hge => ?_⟩
  · have hlt : i < ns.length := by omega
    have hg : ns.getD i 0 = ns[i] := by simp [List.getD, hlt]
    have hret : ∀ x, nF l.length ns i = some x → Ctl.ret (σ := ref4_SelectionFault.S) x = Ctl.ret (((List.range ns.length).findSome? (nF l.length ns)).getD ⟨0, 0⟩) := fun x hx => by rw [fs_some hno hlt hx]; rfl
    have hgo : nF l.length ns i = none → (∀ j, j < i + 1 → nF l.length ns j = none) := fun hx j hj => by
      by_cases e : j = i
      · subst e; exact hx
      · exact hno j (by omega)
    rw [w64_succ (by omega)]
    refine opt_of (idx_nat' hlt) ⟨fun hb => hret _ (by unfold nF; rw [hg, if_pos (by omega)]), fun hb => ⟨fun hk0 => ?_, fun hk0 => ?_⟩⟩
    · have hk0 : 0 < i := by omega
      have hw : w64 ((i : Int) - 1) = ((i - 1 : Nat) : Int) := by rw [w64_id (by omega) (by omega)]; omega
      have hg1 : ns.getD (i - 1) 0 = ns[i - 1] := by
        have : i - 1 < ns.length := by omega
        simp [List.getD, this]
      rw [hw]
      refine opt_of (idx_nat' (by omega : i - 1 < ns.length)) (opt_of (idx_nat' hlt) ⟨fun hm => hret _ (by unfold nF; rw [hg, hg1, if_neg (by omega), if_pos ⟨hk0, hm⟩]), fun hm => ?_⟩)
      exact ⟨⟨i + 1, rfl, by omega, hgo (by unfold nF; rw [hg, hg1, if_neg (by omega), if_neg (by omega)])⟩, by omega⟩
    · exact ⟨⟨i + 1, rfl, by omega, hgo (by unfold nF; rw [hg, if_neg (by omega), if_neg (by omega)])⟩, by omega⟩
  · have : i = ns.length := by omega
    rw [fs_none (by rw [← this]; exact hno)]
    rfl
end Go.Proofs.Ytilodamhgepjoaa
