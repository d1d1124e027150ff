/- TransferPlanMatchesSpec, the plain part. -/
import Derived.Test.YtpdkgodonemonaaPt4
import Derived.Test.YtpdkgodonemonaaOp
namespace Go.Proofs.Ytpdkgodonemonaa.Pure
open Go.Fx Go.RowKit
set_option linter.unusedVariables false
set_option linter.unusedSimpArgs false
theorem TransferPlanMatchesSpec {data : List UInt8} {lost : List Bool} (h1 : okL (fun _ => True) data) (h2 : okL (fun _ => True) lost) : law4_TransferPlanMatchesSpec.f data lost = some true := by
  refine retOf_of ?_
  unfold law4_TransferPlanMatchesSpec.body
  by_cases hd : data.length ≤ 4096
  · by_cases hl : lost.length ≤ 100
    · have hP := Plan_eq data lost hd hl
      have hO := PlanOf_eq (cnt data) lost (by unfold cnt; omega) hl
      obtain ⟨d, hdm, hlen, hS, hdone⟩ := planOf_good (chunks 16 data) lost
      rw [chunks_len] at hlen
      simp only [W_none, W_seq, W_block, W_reg, W_cond, W_skip, W_ext, W_ret, opt_some, opt_bind, opt_ite, thenQ_nrm, thenQ_ext, thenQ_ret, blkQ_nrm, blkQ_ext, blkQ_ret, if_true, true_and, and_true, decide_eq_true_eq, decide_eq_false_iff_not, Bool.or_eq_true, Bool.and_eq_true, Bool.or_eq_false_iff, Bool.and_eq_false_iff, Bool.true_eq_false, not_or, Classical.not_not, Bool.not_eq_true', Bool.not_eq_false', Int.not_lt, Int.not_le, Bool.false_eq_true, false_implies, true_implies, and_self, not_true_eq_false, not_false_eq_true, law4_TransferPlanMatchesSpec.retv, law4_TransferPlanMatchesSpec.r0, law4_TransferPlanMatchesSpec.r1, law4_TransferPlanMatchesSpec.r2, law4_TransferPlanMatchesSpec.r3, law4_TransferPlanMatchesSpec.r4, law4_TransferPlanMatchesSpec.r5, law4_TransferPlanMatchesSpec.r6, law4_TransferPlanMatchesSpec.r7, law4_TransferPlanMatchesSpec.r8, law4_TransferPlanMatchesSpec.r9, law4_TransferPlanMatchesSpec.r10, law4_TransferPlanMatchesSpec.r11, law4_TransferPlanMatchesSpec.r12, example_eq, hP, hO, Fault_eq, Bool.not_true, FrameCount_eq data hd, Events_eq _ (Nat.le_trans hlen (by omega))]
      exact ⟨fun h => by omega, fun _ => ⟨fun h => by omega, fun _ => trivial⟩⟩
    · simp only [W_none, W_seq, W_block, W_reg, W_cond, W_skip, W_ext, W_ret, opt_some, opt_bind, opt_ite, thenQ_nrm, thenQ_ext, thenQ_ret, blkQ_nrm, blkQ_ext, blkQ_ret, if_true, true_and, and_true, decide_eq_true_eq, decide_eq_false_iff_not, Bool.or_eq_true, Bool.and_eq_true, Bool.or_eq_false_iff, Bool.and_eq_false_iff, Bool.true_eq_false, not_or, Classical.not_not, Bool.not_eq_true', Bool.not_eq_false', Int.not_lt, Int.not_le, Bool.false_eq_true, false_implies, true_implies, and_self, not_true_eq_false, not_false_eq_true, law4_TransferPlanMatchesSpec.retv, law4_TransferPlanMatchesSpec.r0, law4_TransferPlanMatchesSpec.r1, law4_TransferPlanMatchesSpec.r2, law4_TransferPlanMatchesSpec.r3, law4_TransferPlanMatchesSpec.r4, law4_TransferPlanMatchesSpec.r5, law4_TransferPlanMatchesSpec.r6, law4_TransferPlanMatchesSpec.r7, law4_TransferPlanMatchesSpec.r8, law4_TransferPlanMatchesSpec.r9, law4_TransferPlanMatchesSpec.r10, law4_TransferPlanMatchesSpec.r11, law4_TransferPlanMatchesSpec.r12, example_eq, Plan_many data lost hd (by omega), Fault_eq, Bool.not_true]
      exact ⟨fun h => by omega, fun _ => ⟨fun _ => ⟨fun _ => by simp, fun h => absurd h (by decide)⟩, fun h => by omega⟩⟩
  · simp only [W_none, W_seq, W_block, W_reg, W_cond, W_skip, W_ext, W_ret, opt_some, opt_bind, opt_ite, thenQ_nrm, thenQ_ext, thenQ_ret, blkQ_nrm, blkQ_ext, blkQ_ret, if_true, true_and, and_true, decide_eq_true_eq, decide_eq_false_iff_not, Bool.or_eq_true, Bool.and_eq_true, Bool.or_eq_false_iff, Bool.and_eq_false_iff, Bool.true_eq_false, not_or, Classical.not_not, Bool.not_eq_true', Bool.not_eq_false', Int.not_lt, Int.not_le, Bool.false_eq_true, false_implies, true_implies, and_self, not_true_eq_false, not_false_eq_true, law4_TransferPlanMatchesSpec.retv, law4_TransferPlanMatchesSpec.r0, law4_TransferPlanMatchesSpec.r1, law4_TransferPlanMatchesSpec.r2, law4_TransferPlanMatchesSpec.r3, law4_TransferPlanMatchesSpec.r4, law4_TransferPlanMatchesSpec.r5, law4_TransferPlanMatchesSpec.r6, law4_TransferPlanMatchesSpec.r7, law4_TransferPlanMatchesSpec.r8, law4_TransferPlanMatchesSpec.r9, law4_TransferPlanMatchesSpec.r10, law4_TransferPlanMatchesSpec.r11, law4_TransferPlanMatchesSpec.r12, example_eq, Plan_big data lost (by omega), Fault_eq, Bool.not_true]
    exact ⟨fun _ => ⟨fun _ => by simp, fun h => absurd h (by decide)⟩, fun h => by omega⟩
end Go.Proofs.Ytpdkgodonemonaa.Pure
