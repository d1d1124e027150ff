/- What valid histories and selections are like; Cut and Deepen. -/
import Derived.Test.YtilodamhgepjoaaPu6
namespace Go.Proofs.Ytilodamhgepjoaa
open Go.Fx
set_option linter.unusedVariables false
set_option linter.unusedSimpArgs false

/-- A valid history. -/
structure Hist (l : List Commit) : Prop where
  len : l.length ≤ 60
  topo : Topo l
  pars : ∀ x ∈ l, x.Parents.length ≤ 3
  inc : ∀ x ∈ l, x.Parents.Pairwise (· < ·)
  fine : ∀ (i : Nat) c, l[i]? = some c → cFault i c = none

theorem inc_of {ns : List Int} (h : ∀ k, 0 < k → k < ns.length → ns.getD (k - 1) 0 < ns.getD k 0) : ns.Pairwise (· < ·) := by
  rw [List.pairwise_iff_getElem]
  have : ∀ (i d : Nat), i + d + 1 < ns.length → ns.getD i 0 < ns.getD (i + d + 1) 0 := by
    intro i d
    induction d with
    | zero => intro hd; exact h (i + 1) (by omega) hd
    | succ d ih =>
      intro hd
      have h1 := ih (by omega)
      have h2 := h (i + (d + 1) + 1) (by omega) hd
      rw [show i + (d + 1) + 1 - 1 = i + d + 1 by omega] at h2
      omega
  intro i j hi hj hij
  have := this i (j - i - 1) (by omega)
  rw [show i + (j - i - 1) + 1 = j by omega] at this
  simpa [List.getD, hi, hj] using this
theorem cFault_none {i : Int} {c : Commit} (h : cFault i c = none) : c.Parents.length ≤ 3 ∧ (∀ p ∈ c.Parents, 0 ≤ p ∧ p < i) ∧ c.Parents.Pairwise (· < ·) := by
  unfold cFault at h
  split at h
  · cases h
  · rename_i h3
    split at h
    · cases h
    · rename_i hp
      rw [List.findSome?_eq_none_iff] at hp
      have hk : ∀ k, k < c.Parents.length → (0 ≤ c.Parents.getD k 0 ∧ c.Parents.getD k 0 < i) ∧ (0 < k → c.Parents.getD (k - 1) 0 < c.Parents.getD k 0) := fun k hk => by
        have := hp k (List.mem_range.2 hk)
        unfold pFault at this
        split at this
        · cases this
        · split at this
          · cases this
          · exact ⟨by omega, fun h => by omega⟩
      refine ⟨by omega, fun p hp => ?_, inc_of fun k h0 hk' => (hk k hk').2 h0⟩
      obtain ⟨k, hkl, e⟩ := List.getElem_of_mem hp
      have := (hk k hkl).1
      rw [← e]
      simpa [List.getD, hkl] using this
theorem hist_of {l : List Commit} (h : hFault l = ⟨0, 0⟩) : Hist l := by
  obtain ⟨_, h60, hc⟩ := (hFault_cases l).resolve_right (fun e => e (by rw [h]))
  have hx : ∀ x ∈ l, ∃ i : Nat, cFault i x = none := fun x hx => by
    obtain ⟨i, hi, e⟩ := List.getElem_of_mem hx
    exact ⟨i, hc i x (by rw [List.getElem?_eq_getElem hi, e])⟩
  exact ⟨h60, fun c x hx p hp => ((cFault_none (hc c x hx)).2.1 p hp), fun x h => let ⟨i, e⟩ := hx x h; (cFault_none e).1, fun x h => let ⟨i, e⟩ := hx x h; (cFault_none e).2.2, hc⟩

/-- A valid selection. -/
structure Sel (l : List Commit) (ns : List Int) : Prop where
  hist : Hist l
  inr : ∀ n ∈ ns, 0 ≤ n ∧ n < l.length
  inc : ns.Pairwise (· < ·)
theorem sel_of {l : List Commit} {ns : List Int} (h : sFault l ns = ⟨0, 0⟩) : Sel l ns := by
  unfold sFault at h
  split at h
  · rename_i hh
    refine ((fun x : (∀ n ∈ ns, 0 ≤ n ∧ n < (l.length : Int)) ∧ ns.Pairwise (· < ·) => Sel.mk (hist_of hh) x.1 x.2) ?_)
    cases hf : (List.range ns.length).findSome? (nF l.length ns) with
    | some x =>
      rw [hf] at h
      obtain ⟨k, _, hk⟩ := List.exists_of_findSome?_eq_some hf
      unfold nF at hk
      simp only [Option.getD_some] at h
      subst h
      split at hk
      · simp at hk
      · split at hk
        · simp at hk
        · cases hk
    | none =>
      rw [List.findSome?_eq_none_iff] at hf
      have hk : ∀ k, k < ns.length → (0 ≤ ns.getD k 0 ∧ ns.getD k 0 < l.length) ∧ (0 < k → ns.getD (k - 1) 0 < ns.getD k 0) := fun k hk => by
        have := hf k (List.mem_range.2 hk)
        unfold nF at this
        split at this
        · cases this
        · split at this
          · cases this
          · exact ⟨by omega, fun h => by omega⟩
      refine ⟨fun p hp => ?_, inc_of fun k h0 hk' => (hk k hk').2 h0⟩
      obtain ⟨k, hkl, e⟩ := List.getElem_of_mem hp
      have := (hk k hkl).1
      rw [← e]
      simpa [List.getD, hkl] using this
  · rename_i hh; exact absurd h hh
theorem inc_len {n : Nat} {ns : List Int} (hr : ∀ x ∈ ns, 0 ≤ x ∧ x < (n : Int)) (hi : ns.Pairwise (· < ·)) : ns.length ≤ n := by
  have key : ∀ (i : Nat) (h : i < ns.length), (i : Int) ≤ ns[i] := by
    intro i
    induction i with
    | zero => intro h; have := hr _ (List.getElem_mem h); omega
    | succ i ih =>
      intro h
      have h1 := ih (by omega)
      have h2 := List.pairwise_iff_getElem.1 hi i (i + 1) (by omega) h (by omega)
      omega
  by_cases e : ns.length = 0
  · omega
  · have h1 := key (ns.length - 1) (by omega)
    have h2 := hr _ (List.getElem_mem (by omega : ns.length - 1 < ns.length))
    omega
theorem Sel.len {l : List Commit} {ns : List Int} (h : Sel l ns) : ns.length ≤ l.length := inc_len h.inr h.inc

/-- The first head that is not there. -/
def bF (n : Nat) (hs : List Int) (i : Nat) : Option Fault := if hs.getD i 0 < 0 ∨ (n : Int) ≤ hs.getD i 0 then some ⟨6, i⟩ else none
def cutFault (l : List Commit) (hs : List Int) (depth : Int) : Fault :=
  if hFault l ≠ ⟨0, 0⟩ then hFault l else if 60 < hs.length then ⟨2, -1⟩ else
  match (List.range hs.length).findSome? (bF l.length hs) with
  | some x => x
  | none => if depth < 0 ∨ 60 < depth then ⟨3, -2⟩ else ⟨0, 0⟩
theorem cutFault_heads {l : List Commit} {hs : List Int} {depth : Int} (h : cutFault l hs depth = ⟨0, 0⟩) : Hist l ∧ hs.length ≤ 60 ∧ (∀ n ∈ hs, 0 ≤ n ∧ n < l.length) ∧ 0 ≤ depth ∧ depth ≤ 60 := by
  unfold cutFault at h
  split at h
  · rename_i hh; exact absurd h hh
  · rename_i hh
    split at h
    · cases h
    · split at h
      · rename_i x hx
        obtain ⟨k, _, hk⟩ := List.exists_of_findSome?_eq_some hx
        unfold bF at hk
        subst h
        split at hk
        · simp at hk
        · cases hk
      · rename_i hb
        split at h
        · cases h
        · rw [List.findSome?_eq_none_iff] at hb
          refine ⟨hist_of (Classical.not_not.1 hh), by omega, fun n hn => ?_, by omega, by omega⟩
          obtain ⟨k, hkl, e⟩ := List.getElem_of_mem hn
          have := hb k (List.mem_range.2 hkl)
          unfold bF at this
          split at this
          · cases this
          · rw [← e]
            have e2 : hs.getD k 0 = hs[k] := by simp [List.getD, hkl]
            omega
theorem Cut_eq (l : List Commit) (hs : List Int) (depth : Int) : shallow_Cut.f l hs depth = some (if cutFault l hs depth = ⟨0, 0⟩ then (sel l hs (depth - 1) 0, ⟨0, 0⟩) else ([], cutFault l hs depth)) := by
  refine retOf_of ?_
  unfold shallow_Cut.body
  simp only [W_seq, W_block, W_reg, W_cond, W_skip, W_ext, W_ret, opt_some, opt_bind, opt_ite, thenQ_nrm, thenQ_ext, thenQ_ret, blkQ_nrm, blkQ_ext, blkQ_ret, if_true, true_and, and_true, decide_eq_true_eq, decide_eq_false_iff_not, Bool.or_eq_true, Bool.and_eq_true, Bool.or_eq_false_iff, Bool.and_eq_false_iff, Bool.true_eq_false, not_or, Classical.not_not, Bool.not_eq_true', Bool.not_eq_false', Int.not_lt, Int.not_le, Bool.false_eq_true, false_implies, true_implies, and_self, not_true_eq_false, not_false_eq_true, shallow_Cut.r0, shallow_Cut.r1, shallow_Cut.r2, shallow_Cut.r3, shallow_Cut.r4, shallow_Cut.r5, shallow_Cut.r6, shallow_Cut.retv, Validate_eq]
  refine ⟨fun h => ?_, fun h => ⟨fun h2 => ?_, fun h2 => ?_⟩⟩
  · have e : cutFault l hs depth = hFault l := by unfold cutFault; rw [if_pos h]
    rw [e, if_neg h]
  · have e : cutFault l hs depth = ⟨2, -1⟩ := by unfold cutFault; rw [if_neg (by simpa using h), if_pos (by omega)]
    rw [e]; rfl
  have hC : cutFault l hs depth = match (List.range hs.length).findSome? (bF l.length hs) with
    | some x => x
    | none => if depth < 0 ∨ 60 < depth then ⟨3, -2⟩ else ⟨0, 0⟩ := by unfold cutFault; rw [if_neg (by simpa using h), if_neg (by omega)]
  refine W_iter (fun s => s.commits_0 = l ∧ s.heads_1 = hs ∧ s.depth_2 = depth ∧ s.t_21 = hs ∧ s.t_22 = hs.length ∧ ∃ i : Nat, s.t_23 = i ∧ i ≤ hs.length ∧ ∀ j, j < i → bF l.length hs j = none) (fun s => hs.length - s.t_23.toNat) ⟨rfl, rfl, rfl, rfl, rfl, 0, rfl, by omega, by omega⟩ ?_
  rintro s ⟨h0, h1, hd, h21, h22, i, hi, hle, hno⟩
  simp only [W_seq, W_block, W_reg, W_cond, W_skip, W_ext, W_ret, opt_some, opt_bind, opt_ite, thenQ_nrm, thenQ_ext, thenQ_ret, blkQ_nrm, blkQ_ext, blkQ_ret, if_true, true_and, and_true, decide_eq_true_eq, decide_eq_false_iff_not, Bool.or_eq_true, Bool.and_eq_true, Bool.or_eq_false_iff, Bool.and_eq_false_iff, Bool.true_eq_false, not_or, Classical.not_not, Bool.not_eq_true', Bool.not_eq_false', Int.not_lt, Int.not_le, Bool.false_eq_true, false_implies, true_implies, and_self, not_true_eq_false, not_false_eq_true, shallow_Cut.r7, shallow_Cut.r8, shallow_Cut.r9, shallow_Cut.r10, shallow_Cut.r11, shallow_Cut.r12, shallow_Cut.r13, shallow_Cut.r14, shallow_Cut.retv, h0, h1, hd, h21, h22, hi]
  refine ⟨fun hlt => ?_, fun hge => ?_⟩
  · have hlt : i < hs.length := by omega
    have hg : hs.getD i 0 = hs[i] := by simp [List.getD, hlt]
    rw [w64_succ (by omega)]
    refine opt_of (idx_nat' hlt) ⟨fun hb => ?_, fun hb => ⟨⟨i + 1, rfl, by omega, fun j hj => ?_⟩, by omega⟩⟩
    · have e : cutFault l hs depth = ⟨6, i⟩ := by
        rw [hC, fs_some hno hlt (x := ⟨6, i⟩) (by unfold bF; rw [hg, if_pos (by omega)])]
      rw [e]; rfl
    · by_cases e : j = i
      · subst e; unfold bF; rw [hg, if_neg (by omega)]
      · exact hno j (by omega)
  · obtain rfl : i = hs.length := by omega
    rw [fs_none hno] at hC
    refine ⟨fun hb => ?_, fun hb => ?_⟩
    · have e : cutFault l hs depth = ⟨3, -2⟩ := by rw [hC, if_pos (by omega)]
      rw [e]; rfl
    · have e : cutFault l hs depth = ⟨0, 0⟩ := by rw [hC, if_neg (by omega)]
      obtain ⟨hH, _, hin, _, _⟩ := cutFault_heads e
      rw [e, if_pos rfl, w64_id (by omega) (by omega)]
      exact opt_of (reach_eq l hs (depth - 1) hH.len hH.topo hH.pars hin (by omega) (by omega)) rfl
theorem Deepen_eq (l : List Commit) (ns : List Int) (by_ : Int) (hn : ns.length ≤ 9223372036854775807) : shallow_Deepen.f l ns by_ = some (if sFault l ns ≠ ⟨0, 0⟩ then ([], sFault l ns) else if by_ < 0 ∨ 60 < by_ then ([], ⟨3, -2⟩) else (sel l ns by_ 0, ⟨0, 0⟩)) := by
  refine retOf_of ?_
  unfold shallow_Deepen.body
  simp only [W_seq, W_block, W_reg, W_cond, W_skip, W_ext, W_ret, opt_some, opt_bind, opt_ite, thenQ_nrm, thenQ_ext, thenQ_ret, blkQ_nrm, blkQ_ext, blkQ_ret, if_true, true_and, and_true, decide_eq_true_eq, decide_eq_false_iff_not, Bool.or_eq_true, Bool.and_eq_true, Bool.or_eq_false_iff, Bool.and_eq_false_iff, Bool.true_eq_false, not_or, Classical.not_not, Bool.not_eq_true', Bool.not_eq_false', Int.not_lt, Int.not_le, Bool.false_eq_true, false_implies, true_implies, and_self, not_true_eq_false, not_false_eq_true, shallow_Deepen.retv, shallow_Deepen.r0, shallow_Deepen.r1, shallow_Deepen.r2, shallow_Deepen.r3, shallow_Deepen.r4, shallow_Deepen.r5, shallow_Deepen.r6, check_eq l ns hn]
  refine ⟨fun h => by rw [if_pos h], fun h => ⟨fun hb => by rw [if_neg (by simpa using h), if_pos hb], fun hb => ?_⟩⟩
  have hS := sel_of h
  rw [if_neg (by simpa using h), if_neg (by omega)]
  have := hS.len
  have := hS.hist.len
  exact opt_of (reach_eq l ns by_ hS.hist.len hS.hist.topo hS.hist.pars hS.inr (by omega) (by omega)) rfl
end Go.Proofs.Ytilodamhgepjoaa
