/- TransferGrows, the plain part. -/
import Derived.Test.YtpdkgodonemonaaPt4
import Derived.Test.YtpdkgodonemonaaOp
namespace Go.Proofs.Ytpdkgodonemonaa.Pure
open Go.Fx Go.RowKit
set_option linter.unusedVariables false
set_option linter.unusedSimpArgs false
theorem TransferGrows {data : List UInt8} {es : List LinkEvent} {k : Int} (h1 : okL (fun _ => True) data) (h2 : okL ok_LinkEvent es) (h3 : okI .i64 k) : law4_TransferGrows.f data es k = some true := by
  refine retOf_of ?_
  unfold law4_TransferGrows.body
  rcases Run_any data es with ⟨f, hf, hR⟩ | ⟨hd, he, c, a, L, hac, hcm, hS, hc, ha, hR⟩
  · simp only [W_none, W_seq, W_block, W_reg, W_cond, W_skip, W_ext, W_ret, opt_some, opt_bind, opt_ite, thenQ_nrm, thenQ_ext, thenQ_ret, blkQ_nrm, blkQ_ext, blkQ_ret, if_true, true_and, and_true, decide_eq_true_eq, decide_eq_false_iff_not, Bool.or_eq_true, Bool.and_eq_true, Bool.or_eq_false_iff, Bool.and_eq_false_iff, Bool.true_eq_false, not_or, Classical.not_not, Bool.not_eq_true', Bool.not_eq_false', Int.not_lt, Int.not_le, Bool.false_eq_true, false_implies, true_implies, and_self, not_true_eq_false, not_false_eq_true, law4_TransferGrows.retv, law4_TransferGrows.r0, law4_TransferGrows.r1, law4_TransferGrows.r2, law4_TransferGrows.r3, law4_TransferGrows.r4, law4_TransferGrows.r5, law4_TransferGrows.r6, law4_TransferGrows.r7, example_eq, hR, hf, Bool.not_true, In_eq]
    simp
    rfl
  · by_cases hk : 0 ≤ k ∧ k ≤ (es.length : Int)
    · obtain ⟨i, rfl⟩ : ∃ i : Nat, k = i := ⟨k.toNat, by omega⟩
      have hi : i ≤ es.length := by omega
      have hcut := cutTo_nat (xs := es) hi
      have hsp : simF (link0 (chunks 16 data)) 0 (es.take i ++ es.drop i) = (none, L) := by rw [List.take_append_drop]; exact hS
      rw [simF_append] at hsp
      rcases Run_any data (es.take i) with ⟨f, hf, hR'⟩ | ⟨hd', he', c', a', L', hac', hcm', hS', hc', ha', hR'⟩
      · exfalso
        rw [Run_eq data (es.take i) hd (by rw [List.length_take]; omega)] at hR'
        have hR' := Option.some.inj hR'
        cases hS' : simF (link0 (chunks 16 data)) 0 (es.take i) with
        | mk o L' =>
          rw [hS'] at hsp
          cases o with
          | some f => simp at hsp
          | none =>
            unfold runOf at hR'
            rw [hS'] at hR'
            simp only [Prod.mk.injEq] at hR'
            exact hf (by rw [← hR'.2.2])
      · rw [hS'] at hsp
        obtain ⟨g1, g2, g3, g4⟩ := simF_none (simF_none (LI.zero _) hS').1 hsp
        have hl := List.length_take (i := 16 * c) (l := data)
        have hl' := List.length_take (i := 16 * c') (l := data)
        have htt : (data.take (16 * c)).take (data.take (16 * c')).length = data.take (16 * c') := by
          rw [hl', List.take_take, Nat.min_def]
          split
          · rw [Nat.min_def]; split
            · rfl
            · rw [List.take_of_length_le (by omega), List.take_of_length_le (by omega)]
          · omega
        have hct : cutTo (data.take (16 * c)) (((data.take (16 * c')).length : Nat) : Int) = some (data.take (16 * c')) := by
          rw [cutTo_nat (by omega), htt]
        simp only [W_none, W_seq, W_block, W_reg, W_cond, W_skip, W_ext, W_ret, opt_some, opt_bind, opt_ite, thenQ_nrm, thenQ_ext, thenQ_ret, blkQ_nrm, blkQ_ext, blkQ_ret, if_true, true_and, and_true, decide_eq_true_eq, decide_eq_false_iff_not, Bool.or_eq_true, Bool.and_eq_true, Bool.or_eq_false_iff, Bool.and_eq_false_iff, Bool.true_eq_false, not_or, Classical.not_not, Bool.not_eq_true', Bool.not_eq_false', Int.not_lt, Int.not_le, Bool.false_eq_true, false_implies, true_implies, and_self, not_true_eq_false, not_false_eq_true, law4_TransferGrows.retv, law4_TransferGrows.r0, law4_TransferGrows.r1, law4_TransferGrows.r2, law4_TransferGrows.r3, law4_TransferGrows.r4, law4_TransferGrows.r5, law4_TransferGrows.r6, law4_TransferGrows.r7, example_eq, hR, Bool.not_true, In_eq, hcut, hR', hct]
        have hmin : (data.take (16 * c')).length ≤ (data.take (16 * c)).length := by omega
        exact ⟨fun h => by omega, fun _ => ⟨fun _ => rfl, fun h => by omega⟩⟩
    · simp only [W_none, W_seq, W_block, W_reg, W_cond, W_skip, W_ext, W_ret, opt_some, opt_bind, opt_ite, thenQ_nrm, thenQ_ext, thenQ_ret, blkQ_nrm, blkQ_ext, blkQ_ret, if_true, true_and, and_true, decide_eq_true_eq, decide_eq_false_iff_not, Bool.or_eq_true, Bool.and_eq_true, Bool.or_eq_false_iff, Bool.and_eq_false_iff, Bool.true_eq_false, not_or, Classical.not_not, Bool.not_eq_true', Bool.not_eq_false', Int.not_lt, Int.not_le, Bool.false_eq_true, false_implies, true_implies, and_self, not_true_eq_false, not_false_eq_true, law4_TransferGrows.retv, law4_TransferGrows.r0, law4_TransferGrows.r1, law4_TransferGrows.r2, law4_TransferGrows.r3, law4_TransferGrows.r4, law4_TransferGrows.r5, law4_TransferGrows.r6, law4_TransferGrows.r7, example_eq, hR, Bool.not_true, In_eq, hk]
      rfl
end Go.Proofs.Ytpdkgodonemonaa.Pure
