/- TransferPlanDelivers, the plain part. -/
import Derived.Test.YtpdkgodonemonaaPt4
import Derived.Test.YtpdkgodonemonaaOp
namespace Go.Proofs.Ytpdkgodonemonaa.Pure
open Go.Fx Go.RowKit
set_option linter.unusedVariables false
set_option linter.unusedSimpArgs false
theorem TransferPlanDelivers {data : List UInt8} {lost : List Bool} (h1 : okL (fun _ => True) data) (h2 : okL (fun _ => True) lost) : law4_TransferPlanDelivers.f data lost = some true := by
  refine retOf_of ?_
  unfold law4_TransferPlanDelivers.body
  by_cases hd : data.length ≤ 4096
  · by_cases hl : lost.length ≤ 100
    · have hP := Plan_eq data lost hd hl
      obtain ⟨d, hdm, hlen, hS, hdone⟩ := planOf_good (chunks 16 data) lost
      rw [chunks_len] at hdm hlen hS hdone
      have hR := Run_eq data _ hd hlen
      have hv : runOf data (planOf (cnt data) lost).1 = (data.take (16 * d), (d : Int), ⟨0, 0⟩) := by unfold runOf; rw [hS]; simp [stand]
      rw [hv] at hR
      simp only [W_none, W_seq, W_block, W_reg, W_cond, W_skip, W_ext, W_ret, opt_some, opt_bind, opt_ite, thenQ_nrm, thenQ_ext, thenQ_ret, blkQ_nrm, blkQ_ext, blkQ_ret, if_true, true_and, and_true, decide_eq_true_eq, decide_eq_false_iff_not, Bool.or_eq_true, Bool.and_eq_true, Bool.or_eq_false_iff, Bool.and_eq_false_iff, Bool.true_eq_false, not_or, Classical.not_not, Bool.not_eq_true', Bool.not_eq_false', Int.not_lt, Int.not_le, Bool.false_eq_true, false_implies, true_implies, and_self, not_true_eq_false, not_false_eq_true, law4_TransferPlanDelivers.retv, law4_TransferPlanDelivers.r0, law4_TransferPlanDelivers.r1, law4_TransferPlanDelivers.r2, law4_TransferPlanDelivers.r3, law4_TransferPlanDelivers.r4, law4_TransferPlanDelivers.r5, law4_TransferPlanDelivers.r6, law4_TransferPlanDelivers.r7, law4_TransferPlanDelivers.r8, law4_TransferPlanDelivers.r9, example_eq, hP, hR, Bool.not_true, take_len_cut, FrameCount_eq data hd]
      have htl := List.length_take (i := 16 * d) (l := data)
      refine ⟨fun h => ?_, fun _ => ⟨fun _ => trivial, fun h => ?_⟩⟩
      · simp only [false_or] at h; omega
      · have hdc := hdone (by simpa using h)
        subst hdc
        refine ⟨fun _ => by simp, fun h => ?_⟩
        unfold cnt at htl h
        omega
    · simp only [W_none, W_seq, W_block, W_reg, W_cond, W_skip, W_ext, W_ret, opt_some, opt_bind, opt_ite, thenQ_nrm, thenQ_ext, thenQ_ret, blkQ_nrm, blkQ_ext, blkQ_ret, if_true, true_and, and_true, decide_eq_true_eq, decide_eq_false_iff_not, Bool.or_eq_true, Bool.and_eq_true, Bool.or_eq_false_iff, Bool.and_eq_false_iff, Bool.true_eq_false, not_or, Classical.not_not, Bool.not_eq_true', Bool.not_eq_false', Int.not_lt, Int.not_le, Bool.false_eq_true, false_implies, true_implies, and_self, not_true_eq_false, not_false_eq_true, law4_TransferPlanDelivers.retv, law4_TransferPlanDelivers.r0, law4_TransferPlanDelivers.r1, law4_TransferPlanDelivers.r2, law4_TransferPlanDelivers.r3, law4_TransferPlanDelivers.r4, law4_TransferPlanDelivers.r5, law4_TransferPlanDelivers.r6, law4_TransferPlanDelivers.r7, law4_TransferPlanDelivers.r8, law4_TransferPlanDelivers.r9, example_eq, Plan_many data lost hd (by omega), Bool.not_true]
      simp
  · simp only [W_none, W_seq, W_block, W_reg, W_cond, W_skip, W_ext, W_ret, opt_some, opt_bind, opt_ite, thenQ_nrm, thenQ_ext, thenQ_ret, blkQ_nrm, blkQ_ext, blkQ_ret, if_true, true_and, and_true, decide_eq_true_eq, decide_eq_false_iff_not, Bool.or_eq_true, Bool.and_eq_true, Bool.or_eq_false_iff, Bool.and_eq_false_iff, Bool.true_eq_false, not_or, Classical.not_not, Bool.not_eq_true', Bool.not_eq_false', Int.not_lt, Int.not_le, Bool.false_eq_true, false_implies, true_implies, and_self, not_true_eq_false, not_false_eq_true, law4_TransferPlanDelivers.retv, law4_TransferPlanDelivers.r0, law4_TransferPlanDelivers.r1, law4_TransferPlanDelivers.r2, law4_TransferPlanDelivers.r3, law4_TransferPlanDelivers.r4, law4_TransferPlanDelivers.r5, law4_TransferPlanDelivers.r6, law4_TransferPlanDelivers.r7, law4_TransferPlanDelivers.r8, law4_TransferPlanDelivers.r9, example_eq, Plan_big data lost (by omega), Bool.not_true]
    simp
end Go.Proofs.Ytpdkgodonemonaa.Pure
