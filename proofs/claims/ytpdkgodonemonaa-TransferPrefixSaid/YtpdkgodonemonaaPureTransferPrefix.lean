/- TransferPrefix, the plain part. -/
import Derived.Test.YtpdkgodonemonaaPt4
import Derived.Test.YtpdkgodonemonaaOp
namespace Go.Proofs.Ytpdkgodonemonaa.Pure
open Go.Fx Go.RowKit
set_option linter.unusedVariables false
set_option linter.unusedSimpArgs false
theorem TransferPrefix {data : List UInt8} {es : List LinkEvent} (h1 : okL (fun _ => True) data) (h2 : okL ok_LinkEvent es) : law4_TransferPrefix.f data es = some true := by
  refine retOf_of ?_
  unfold law4_TransferPrefix.body
  rcases Run_any data es with ⟨f, hf, hR⟩ | ⟨hd, he, c, k, L, hkc, hcm, hS, hc, hk, hR⟩
  · simp only [W_none, W_seq, W_block, W_reg, W_cond, W_skip, W_ext, W_ret, opt_some, opt_bind, opt_ite, thenQ_nrm, thenQ_ext, thenQ_ret, blkQ_nrm, blkQ_ext, blkQ_ret, if_true, true_and, and_true, decide_eq_true_eq, decide_eq_false_iff_not, Bool.or_eq_true, Bool.and_eq_true, Bool.or_eq_false_iff, Bool.and_eq_false_iff, Bool.true_eq_false, not_or, Classical.not_not, Bool.not_eq_true', Bool.not_eq_false', Int.not_lt, Int.not_le, Bool.false_eq_true, false_implies, true_implies, and_self, not_true_eq_false, not_false_eq_true, law4_TransferPrefix.retv, law4_TransferPrefix.r0, law4_TransferPrefix.r1, law4_TransferPrefix.r2, law4_TransferPrefix.r3, law4_TransferPrefix.r4, law4_TransferPrefix.r5, law4_TransferPrefix.r6, law4_TransferPrefix.r7, law4_TransferPrefix.r8, example_eq, hR, hf, Bool.not_true]
    rfl
  · simp only [W_none, W_seq, W_block, W_reg, W_cond, W_skip, W_ext, W_ret, opt_some, opt_bind, opt_ite, thenQ_nrm, thenQ_ext, thenQ_ret, blkQ_nrm, blkQ_ext, blkQ_ret, if_true, true_and, and_true, decide_eq_true_eq, decide_eq_false_iff_not, Bool.or_eq_true, Bool.and_eq_true, Bool.or_eq_false_iff, Bool.and_eq_false_iff, Bool.true_eq_false, not_or, Classical.not_not, Bool.not_eq_true', Bool.not_eq_false', Int.not_lt, Int.not_le, Bool.false_eq_true, false_implies, true_implies, and_self, not_true_eq_false, not_false_eq_true, law4_TransferPrefix.retv, law4_TransferPrefix.r0, law4_TransferPrefix.r1, law4_TransferPrefix.r2, law4_TransferPrefix.r3, law4_TransferPrefix.r4, law4_TransferPrefix.r5, law4_TransferPrefix.r6, law4_TransferPrefix.r7, law4_TransferPrefix.r8, example_eq, hR, Bool.not_true, take_len_cut]
    have hl := List.length_take (i := 16 * c) (l := data)
    have hcn : cnt data ≤ data.length := by unfold cnt; omega
    rw [w64_id (by omega) (by omega)]
    refine ⟨fun h => by omega, fun _ => ⟨fun h => ?_, fun _ => ?_⟩⟩
    · simp only [not_true_eq_false, false_or] at h; omega
    · congr 1; exact decide_eq_true (by omega)
end Go.Proofs.Ytpdkgodonemonaa.Pure
