/- ShallowCutMatchesSpec, the plain part. -/
import Derived.Test.YtilodamhgepjoaaPu10
import Derived.Test.YtilodamhgepjoaaPureShallowDeepenAdds
namespace Go.Proofs.Ytilodamhgepjoaa.Pure
open Go.Fx Go.RowKit
set_option linter.unusedVariables false
set_option linter.unusedSimpArgs false
theorem cutFault_some {l : List Commit} {hs : List Int} {depth : Int} {i : Nat} {x : Fault} (hh : hFault l = ⟨0, 0⟩) (h60 : hs.length ≤ 60) (hno : ∀ j, j < i → bF l.length hs j = none) (hi : i < hs.length) (hx : bF l.length hs i = some x) : cutFault l hs depth = x := by
  unfold cutFault
  rw [if_neg (by simpa using hh), if_neg (by omega), fs_some hno hi hx]
theorem cutFault_none {l : List Commit} {hs : List Int} {depth : Int} (hh : hFault l = ⟨0, 0⟩) (h60 : hs.length ≤ 60) (hno : ∀ j, j < hs.length → bF l.length hs j = none) : cutFault l hs depth = if depth < 0 ∨ 60 < depth then ⟨3, -2⟩ else ⟨0, 0⟩ := by
  unfold cutFault
  rw [if_neg (by simpa using hh), if_neg (by omega), fs_none hno]
theorem ShallowCutMatchesSpec {l : List Commit} {hs : List Int} {depth : Int} (hl : okL ok_Commit l) (hn : okL (okI .i64) hs) (hd : okI .i64 depth) : law4_ShallowCutMatchesSpec.f l hs depth = some true := by
  refine retOf_of ?_
  unfold law4_ShallowCutMatchesSpec.body
  have hnl : hs.length ≤ 9223372036854775807 := hn.1
  have fC := Cut_eq l hs depth
  have loop : ∀ s0 : law4_ShallowCutMatchesSpec.S, s0.t_0 = l → s0.t_1 = hs → s0.t_2 = depth → s0.t_10 = 0 → s0.t_7 = (if cutFault l hs depth = ⟨0, 0⟩ then (sel l hs (depth - 1) 0, (⟨0, 0⟩ : Fault)) else ([], cutFault l hs depth)).1 → s0.t_8 = (if cutFault l hs depth = ⟨0, 0⟩ then (sel l hs (depth - 1) 0, (⟨0, 0⟩ : Fault)) else ([], cutFault l hs depth)).2 →
      ((s0.t_9 = cutFault l hs depth ∧ (cutFault l hs depth).Code ≠ 0) ∨ (s0.t_9 = ⟨0, 0⟩ ∧ hFault l = ⟨0, 0⟩ ∧ hs.length ≤ 60)) →
      W (iterM (seqM (seqM (regM law4_ShallowCutMatchesSpec.r8) (condM (fun s => s.t_39) skipM (extM 0))) (seqM (blockM 1 (seqM (regM law4_ShallowCutMatchesSpec.r10) (condM (fun s => s.t_50) (regM law4_ShallowCutMatchesSpec.r11) skipM))) (regM law4_ShallowCutMatchesSpec.r9))))
        (blkQ 0 (thenQ (seqM (seqM (regM law4_ShallowCutMatchesSpec.r12) (condM (fun s => s.t_60) (regM law4_ShallowCutMatchesSpec.r13) skipM))
          (seqM (seqM (regM law4_ShallowCutMatchesSpec.r14) (condM (fun s => s.t_64) (seqM (regM law4_ShallowCutMatchesSpec.r15) (retM law4_ShallowCutMatchesSpec.retv)) skipM))
            (seqM (regM law4_ShallowCutMatchesSpec.r16) (retM law4_ShallowCutMatchesSpec.retv)))) (fun o => o = .ret true))) s0 := by
    intro s0 h0 h1 h2 h10 h7 h8 h9
    refine W_iter (fun s => s.t_0 = l ∧ s.t_1 = hs ∧ s.t_2 = depth ∧ s.t_7 = s0.t_7 ∧ s.t_8 = s0.t_8 ∧ ∃ i : Nat, s.t_10 = i ∧ i ≤ hs.length ∧ ((s.t_9 = cutFault l hs depth ∧ (cutFault l hs depth).Code ≠ 0) ∨ (s.t_9 = ⟨0, 0⟩ ∧ hFault l = ⟨0, 0⟩ ∧ hs.length ≤ 60 ∧ ∀ j, j < i → bF l.length hs j = none))) (fun s => hs.length - s.t_10.toNat)
      ⟨h0, h1, h2, rfl, rfl, 0, h10, by omega, h9.imp id fun h => ⟨h.1, h.2.1, h.2.2, by omega⟩⟩ ?_
    rintro s ⟨h0, h1, h2, e7, e8, i, hi, hle, h9⟩
    have E7 := e7.trans h7; have E8 := e8.trans h8
    clear h7 h8
    rcases h9 with ⟨h9, hc⟩ | ⟨h9, hh, h60, hno⟩
    · have hne : cutFault l hs depth ≠ ⟨0, 0⟩ := fun e => hc (by rw [e])
      rw [if_neg hne] at E7 E8
      simp only [W_seq, W_block, W_reg, W_cond, W_skip, W_ext, W_ret, opt_some, opt_bind, opt_ite, thenQ_nrm, thenQ_ext, thenQ_ret, blkQ_nrm, blkQ_ext, blkQ_ret, if_true, true_and, and_true, decide_eq_true_eq, decide_eq_false_iff_not, Bool.or_eq_true, Bool.and_eq_true, Bool.or_eq_false_iff, Bool.and_eq_false_iff, Bool.true_eq_false, not_or, Classical.not_not, Bool.not_eq_true', Bool.not_eq_false', Int.not_lt, Int.not_le, Bool.false_eq_true, false_implies, true_implies, and_self, not_true_eq_false, not_false_eq_true, law4_ShallowCutMatchesSpec.retv, law4_ShallowCutMatchesSpec.r0, law4_ShallowCutMatchesSpec.r1, law4_ShallowCutMatchesSpec.r2, law4_ShallowCutMatchesSpec.r3, law4_ShallowCutMatchesSpec.r4, law4_ShallowCutMatchesSpec.r5, law4_ShallowCutMatchesSpec.r6, law4_ShallowCutMatchesSpec.r7, law4_ShallowCutMatchesSpec.r8, law4_ShallowCutMatchesSpec.r10, law4_ShallowCutMatchesSpec.r11, law4_ShallowCutMatchesSpec.r9, law4_ShallowCutMatchesSpec.r12, law4_ShallowCutMatchesSpec.r13, law4_ShallowCutMatchesSpec.r14, law4_ShallowCutMatchesSpec.r15, law4_ShallowCutMatchesSpec.r16, h0, h1, h2, E7, E8, h9, hi, hc]
      simp
    · have hH := hist_of hh
      have hll := hH.len
      have hwi : w64 ((l.length : Int) - 1) = (l.length : Int) - 1 := w64_id (by omega) (by omega)
      simp only [W_seq, W_block, W_reg, W_cond, W_skip, W_ext, W_ret, opt_some, opt_bind, opt_ite, thenQ_nrm, thenQ_ext, thenQ_ret, blkQ_nrm, blkQ_ext, blkQ_ret, if_true, true_and, and_true, decide_eq_true_eq, decide_eq_false_iff_not, Bool.or_eq_true, Bool.and_eq_true, Bool.or_eq_false_iff, Bool.and_eq_false_iff, Bool.true_eq_false, not_or, Classical.not_not, Bool.not_eq_true', Bool.not_eq_false', Int.not_lt, Int.not_le, Bool.false_eq_true, false_implies, true_implies, and_self, not_true_eq_false, not_false_eq_true, law4_ShallowCutMatchesSpec.retv, law4_ShallowCutMatchesSpec.r0, law4_ShallowCutMatchesSpec.r1, law4_ShallowCutMatchesSpec.r2, law4_ShallowCutMatchesSpec.r3, law4_ShallowCutMatchesSpec.r4, law4_ShallowCutMatchesSpec.r5, law4_ShallowCutMatchesSpec.r6, law4_ShallowCutMatchesSpec.r7, law4_ShallowCutMatchesSpec.r8, law4_ShallowCutMatchesSpec.r10, law4_ShallowCutMatchesSpec.r11, law4_ShallowCutMatchesSpec.r9, law4_ShallowCutMatchesSpec.r12, law4_ShallowCutMatchesSpec.r13, law4_ShallowCutMatchesSpec.r14, law4_ShallowCutMatchesSpec.r15, law4_ShallowCutMatchesSpec.r16, h0, h1, h2, h9, hi, In_eq, Fault_eq, hwi]
      refine ⟨fun hlt => ?_, fun hge => ?_⟩
      · have hlt : i < hs.length := by omega
        have hg : hs.getD i 0 = hs[i] := by simp [List.getD, hlt]
        rw [w64_succ (by omega)]
        refine opt_of (idx_nat' hlt) ⟨fun hb => ?_, fun hb => ?_⟩
        · have e : cutFault l hs depth = ⟨6, i⟩ := cutFault_some hh h60 hno hlt (by unfold bF; rw [hg, if_pos (by omega)])
          exact ⟨⟨e7, e8, i + 1, rfl, by omega, .inl ⟨e.symm, by rw [e]; exact (by decide : (6 : Int) ≠ 0)⟩⟩, by omega⟩
        · refine ⟨⟨e7, e8, i + 1, rfl, by omega, .inr ⟨hh, h60, fun j hj => ?_⟩⟩, by omega⟩
          by_cases e : j = i
          · subst e; unfold bF; rw [hg, if_neg (by omega)]
          · exact hno j (by omega)
      · have hge := hge.resolve_right id
        obtain rfl : i = hs.length := by omega
        have hC := cutFault_none (depth := depth) hh h60 hno
        by_cases hdb : depth < 0 ∨ 60 < depth
        · have e : cutFault l hs depth = ⟨3, -2⟩ := by rw [hC, if_pos hdb]
          rw [e, if_neg (by decide)] at E7 E8
          simp only [W_seq, W_block, W_reg, W_cond, W_skip, W_ext, W_ret, opt_some, opt_bind, opt_ite, thenQ_nrm, thenQ_ext, thenQ_ret, blkQ_nrm, blkQ_ext, blkQ_ret, if_true, true_and, and_true, decide_eq_true_eq, decide_eq_false_iff_not, Bool.or_eq_true, Bool.and_eq_true, Bool.or_eq_false_iff, Bool.and_eq_false_iff, Bool.true_eq_false, not_or, Classical.not_not, Bool.not_eq_true', Bool.not_eq_false', Int.not_lt, Int.not_le, Bool.false_eq_true, false_implies, true_implies, and_self, not_true_eq_false, not_false_eq_true, law4_ShallowCutMatchesSpec.retv, law4_ShallowCutMatchesSpec.r0, law4_ShallowCutMatchesSpec.r1, law4_ShallowCutMatchesSpec.r2, law4_ShallowCutMatchesSpec.r3, law4_ShallowCutMatchesSpec.r4, law4_ShallowCutMatchesSpec.r5, law4_ShallowCutMatchesSpec.r6, law4_ShallowCutMatchesSpec.r7, law4_ShallowCutMatchesSpec.r8, law4_ShallowCutMatchesSpec.r10, law4_ShallowCutMatchesSpec.r11, law4_ShallowCutMatchesSpec.r9, law4_ShallowCutMatchesSpec.r12, law4_ShallowCutMatchesSpec.r13, law4_ShallowCutMatchesSpec.r14, law4_ShallowCutMatchesSpec.r15, law4_ShallowCutMatchesSpec.r16, E7, E8, hdb]
          simp
          intros; omega
        · have e : cutFault l hs depth = ⟨0, 0⟩ := by rw [hC, if_neg hdb]
          rw [if_pos e] at E7 E8
          obtain ⟨_, _, hin, _, _⟩ := cutFault_heads e
          have hsl := sel_len (l := l) (fr := hs) (steps := depth - 1) (b := 0)
          have fS : ref4_Steps.f l hs (w64 (depth - 1)) = some (sel l hs (depth - 1) 0) := by
            rw [w64_id (by omega) (by omega)]; exact Steps_eq l hs (depth - 1) hH hin (by omega) (by omega) (by omega)
          have fI : ref3_Ints.f (sel l hs (depth - 1) 0) (sel l hs (depth - 1) 0) = some true := by rw [Ints_eq _ _ (by omega)]; simp
          simp only [W_seq, W_block, W_reg, W_cond, W_skip, W_ext, W_ret, opt_some, opt_bind, opt_ite, thenQ_nrm, thenQ_ext, thenQ_ret, blkQ_nrm, blkQ_ext, blkQ_ret, if_true, true_and, and_true, decide_eq_true_eq, decide_eq_false_iff_not, Bool.or_eq_true, Bool.and_eq_true, Bool.or_eq_false_iff, Bool.and_eq_false_iff, Bool.true_eq_false, not_or, Classical.not_not, Bool.not_eq_true', Bool.not_eq_false', Int.not_lt, Int.not_le, Bool.false_eq_true, false_implies, true_implies, and_self, not_true_eq_false, not_false_eq_true, law4_ShallowCutMatchesSpec.retv, law4_ShallowCutMatchesSpec.r0, law4_ShallowCutMatchesSpec.r1, law4_ShallowCutMatchesSpec.r2, law4_ShallowCutMatchesSpec.r3, law4_ShallowCutMatchesSpec.r4, law4_ShallowCutMatchesSpec.r5, law4_ShallowCutMatchesSpec.r6, law4_ShallowCutMatchesSpec.r7, law4_ShallowCutMatchesSpec.r8, law4_ShallowCutMatchesSpec.r10, law4_ShallowCutMatchesSpec.r11, law4_ShallowCutMatchesSpec.r9, law4_ShallowCutMatchesSpec.r12, law4_ShallowCutMatchesSpec.r13, law4_ShallowCutMatchesSpec.r14, law4_ShallowCutMatchesSpec.r15, law4_ShallowCutMatchesSpec.r16, E7, E8, fS, fI]
          simp [hdb]
  simp only [W_seq, W_block, W_reg, W_cond, W_skip, W_ext, W_ret, opt_some, opt_bind, opt_ite, thenQ_nrm, thenQ_ext, thenQ_ret, blkQ_nrm, blkQ_ext, blkQ_ret, if_true, true_and, and_true, decide_eq_true_eq, decide_eq_false_iff_not, Bool.or_eq_true, Bool.and_eq_true, Bool.or_eq_false_iff, Bool.and_eq_false_iff, Bool.true_eq_false, not_or, Classical.not_not, Bool.not_eq_true', Bool.not_eq_false', Int.not_lt, Int.not_le, Bool.false_eq_true, false_implies, true_implies, and_self, not_true_eq_false, not_false_eq_true, law4_ShallowCutMatchesSpec.retv, law4_ShallowCutMatchesSpec.r0, law4_ShallowCutMatchesSpec.r1, law4_ShallowCutMatchesSpec.r2, law4_ShallowCutMatchesSpec.r3, law4_ShallowCutMatchesSpec.r4, law4_ShallowCutMatchesSpec.r5, law4_ShallowCutMatchesSpec.r6, law4_ShallowCutMatchesSpec.r7, law4_ShallowCutMatchesSpec.r8, law4_ShallowCutMatchesSpec.r10, law4_ShallowCutMatchesSpec.r11, law4_ShallowCutMatchesSpec.r9, law4_ShallowCutMatchesSpec.r12, law4_ShallowCutMatchesSpec.r13, law4_ShallowCutMatchesSpec.r14, law4_ShallowCutMatchesSpec.r15, law4_ShallowCutMatchesSpec.r16, example_eq, fC, HistoryFault_eq, Fault_eq, Bool.not_true]
  have hmr : (if cutFault l hs depth = ⟨0, 0⟩ then (sel l hs (depth - 1) 0, (⟨0, 0⟩ : Fault)) else ([], cutFault l hs depth)).1 = (if cutFault l hs depth = ⟨0, 0⟩ then (sel l hs (depth - 1) 0, (⟨0, 0⟩ : Fault)) else ([], cutFault l hs depth)).1 := rfl
  refine ⟨fun h => ?_, fun h => ?_⟩
  · refine loop _ rfl rfl rfl rfl rfl rfl (.inl ?_)
    obtain ⟨hh, _, _⟩ := (hFault_cases l).resolve_right (fun e => e h.1)
    have e : cutFault l hs depth = ⟨2, -1⟩ := by unfold cutFault; rw [if_neg (by simpa using hh), if_pos (by omega)]
    rw [e]; exact ⟨rfl, (by decide : (2 : Int) ≠ 0)⟩
  · refine loop _ rfl rfl rfl rfl rfl rfl ?_
    rcases hFault_cases l with ⟨hh, _, _⟩ | hh
    · exact .inr ⟨hh, hh, by rw [hh] at h; simp at h; omega⟩
    · have e : cutFault l hs depth = hFault l := by unfold cutFault; rw [if_pos fun e => hh (by rw [e])]
      exact .inl ⟨e.symm, by rw [e]; exact hh⟩
end Go.Proofs.Ytilodamhgepjoaa.Pure
