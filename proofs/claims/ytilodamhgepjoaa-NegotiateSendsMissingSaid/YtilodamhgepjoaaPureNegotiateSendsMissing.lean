/- NegotiateSendsMissing, the plain part. -/
import Derived.Test.YtilodamhgepjoaaPn7
import Derived.Test.YtilodamhgepjoaaPA
import Derived.Test.YtilodamhgepjoaaOp
namespace Go.Proofs.Ytilodamhgepjoaa.Pure
open Go.Fx Go.RowKit
set_option linter.unusedVariables false
set_option linter.unusedSimpArgs false
theorem NegotiateSendsMissing {l : List Commit} {se re : List Bool} {ws : List Int} (hl : okL ok_Commit l) (h1 : okL (fun _ => True) se) (h2 : okL (fun _ => True) re) (hw : okL (okI .i64) ws) : law4_NegotiateSendsMissing.f l se re ws = some true := by
  refine retOf_of ?_
  unfold law4_NegotiateSendsMissing.body
  by_cases h : nFault l se re ws = ⟨0, 0⟩
  · obtain ⟨O, rs, hr, _⟩ := Run_good h
    have hM := Missing_good h
    have hlen : (lacks l ws re).length ≤ l.length := selP_len
    have hl60 := (hist_of (nv_of h).hf).len
    have hI : ref3_Ints.f (lacks l ws re) (lacks l ws re) = some true := by rw [Ints_eq _ _ (by omega)]; simp
    simp only [W_seq, W_block, W_reg, W_cond, W_skip, W_ext, W_ret, opt_some, opt_bind, opt_ite, thenQ_nrm, thenQ_ext, thenQ_ret, blkQ_nrm, blkQ_ext, blkQ_ret, if_true, true_and, and_true, decide_eq_true_eq, decide_eq_false_iff_not, Bool.or_eq_true, Bool.and_eq_true, Bool.or_eq_false_iff, Bool.and_eq_false_iff, Bool.true_eq_false, not_or, Classical.not_not, Bool.not_eq_true', Bool.not_eq_false', Int.not_lt, Int.not_le, Bool.false_eq_true, false_implies, true_implies, and_self, not_true_eq_false, not_false_eq_true, law4_NegotiateSendsMissing.retv, law4_NegotiateSendsMissing.r0, law4_NegotiateSendsMissing.r1, law4_NegotiateSendsMissing.r2, law4_NegotiateSendsMissing.r3, law4_NegotiateSendsMissing.r4, law4_NegotiateSendsMissing.r5, law4_NegotiateSendsMissing.r6, law4_NegotiateSendsMissing.r7, nego_example_eq, hM, hr, hI, Bool.not_true, not_true_eq_false, or_self]
  · have hc := nFault_code h
    simp only [W_seq, W_block, W_reg, W_cond, W_skip, W_ext, W_ret, opt_some, opt_bind, opt_ite, thenQ_nrm, thenQ_ext, thenQ_ret, blkQ_nrm, blkQ_ext, blkQ_ret, if_true, true_and, and_true, decide_eq_true_eq, decide_eq_false_iff_not, Bool.or_eq_true, Bool.and_eq_true, Bool.or_eq_false_iff, Bool.and_eq_false_iff, Bool.true_eq_false, not_or, Classical.not_not, Bool.not_eq_true', Bool.not_eq_false', Int.not_lt, Int.not_le, Bool.false_eq_true, false_implies, true_implies, and_self, not_true_eq_false, not_false_eq_true, law4_NegotiateSendsMissing.retv, law4_NegotiateSendsMissing.r0, law4_NegotiateSendsMissing.r1, law4_NegotiateSendsMissing.r2, law4_NegotiateSendsMissing.r3, law4_NegotiateSendsMissing.r4, law4_NegotiateSendsMissing.r5, law4_NegotiateSendsMissing.r6, law4_NegotiateSendsMissing.r7, nego_example_eq, Missing_bad h, Run_bad h]
    simp [hc, w64_id]
end Go.Proofs.Ytilodamhgepjoaa.Pure
