/- NegotiateMatchesSpec, the plain part. -/
import Derived.Test.YtilodamhgepjoaaPn9
import Derived.Test.YtilodamhgepjoaaOp
namespace Go.Proofs.Ytilodamhgepjoaa.Pure
open Go.Fx Go.RowKit
set_option linter.unusedVariables false
set_option linter.unusedSimpArgs false
theorem NegotiateMatchesSpec {l : List Commit} {se re : List Bool} {ws : List Int} (hl : okL ok_Commit l) (h1 : okL (fun _ => True) se) (h2 : okL (fun _ => True) re) (hw : okL (okI .i64) ws) : law4_NegotiateMatchesSpec.f l se re ws = some true := by
  refine retOf_of ?_
  unfold law4_NegotiateMatchesSpec.body
  by_cases h : nFault l se re ws = ⟨0, 0⟩
  · obtain ⟨O, rs, hr, hrun, hend, hrl, hord, hall⟩ := Run_good h
    have hn := nv_of h
    have hH := hist_of hn.hf
    have hl60 := hH.len
    have hM := Missing_good h
    have fN : ref4_NegotiateFault.f l se re ws = some ⟨0, 0⟩ := by rw [NegotiateFault_eq l se re ws hw.1, h]
    have fL := LacksOf_eq l hn.hf ws re hn.rel (fun w hw => (hn.win w hw).1) hn.wl
    obtain ⟨O2, hO2, hord2, hlen2⟩ := OrderOf_ex l hH
    have hOO : O2 = O := hord2.uniq hord (by rw [hlen2, ord_full hord hall])
    subst hOO
    obtain ⟨rs2, hr2, hrun2, hend2⟩ := RoundsOf_ex l se re hH hn.sel hn.rel O2 hO2 hord
    have hrr : rs2 = rs := hrun2.uniq hrun hend2 hend
    subst hrr
    have hlen : (lacks l ws re).length ≤ l.length := selP_len
    have hI : ref3_Ints.f (lacks l ws re) (lacks l ws re) = some true := by rw [Ints_eq _ _ (by omega)]; simp
    simp only [W_seq, W_block, W_reg, W_cond, W_skip, W_ext, W_ret, opt_some, opt_bind, opt_ite, thenQ_nrm, thenQ_ext, thenQ_ret, blkQ_nrm, blkQ_ext, blkQ_ret, if_true, true_and, and_true, decide_eq_true_eq, decide_eq_false_iff_not, Bool.or_eq_true, Bool.and_eq_true, Bool.or_eq_false_iff, Bool.and_eq_false_iff, Bool.true_eq_false, not_or, Classical.not_not, Bool.not_eq_true', Bool.not_eq_false', Int.not_lt, Int.not_le, Bool.false_eq_true, false_implies, true_implies, and_self, not_true_eq_false, not_false_eq_true, law4_NegotiateMatchesSpec.retv, law4_NegotiateMatchesSpec.r0, law4_NegotiateMatchesSpec.r1, law4_NegotiateMatchesSpec.r2, law4_NegotiateMatchesSpec.r3, law4_NegotiateMatchesSpec.r4, law4_NegotiateMatchesSpec.r5, law4_NegotiateMatchesSpec.r6, law4_NegotiateMatchesSpec.r7, law4_NegotiateMatchesSpec.r8, law4_NegotiateMatchesSpec.r9, law4_NegotiateMatchesSpec.r10, law4_NegotiateMatchesSpec.r11, law4_NegotiateMatchesSpec.r12, law4_NegotiateMatchesSpec.r14, law4_NegotiateMatchesSpec.r15, law4_NegotiateMatchesSpec.r13, law4_NegotiateMatchesSpec.r16, nego_example_eq, hM, hr, fN, hr2, fL, hI, Bool.not_true, not_true_eq_false, or_self, decide_true]
    refine W_iter (fun s => s.t_11 = rs2 ∧ s.t_15 = rs2 ∧ ∃ i : Nat, s.t_16 = i ∧ i ≤ rs2.length) (fun s => rs2.length - s.t_16.toNat) ⟨rfl, rfl, 0, rfl, by omega⟩ ?_
    rintro s ⟨e11, e15, i, e16, hi⟩
    simp only [W_seq, W_block, W_reg, W_cond, W_skip, W_ext, W_ret, opt_some, opt_bind, opt_ite, thenQ_nrm, thenQ_ext, thenQ_ret, blkQ_nrm, blkQ_ext, blkQ_ret, if_true, true_and, and_true, decide_eq_true_eq, decide_eq_false_iff_not, Bool.or_eq_true, Bool.and_eq_true, Bool.or_eq_false_iff, Bool.and_eq_false_iff, Bool.true_eq_false, not_or, Classical.not_not, Bool.not_eq_true', Bool.not_eq_false', Int.not_lt, Int.not_le, Bool.false_eq_true, false_implies, true_implies, and_self, not_true_eq_false, not_false_eq_true, law4_NegotiateMatchesSpec.retv, law4_NegotiateMatchesSpec.r0, law4_NegotiateMatchesSpec.r1, law4_NegotiateMatchesSpec.r2, law4_NegotiateMatchesSpec.r3, law4_NegotiateMatchesSpec.r4, law4_NegotiateMatchesSpec.r5, law4_NegotiateMatchesSpec.r6, law4_NegotiateMatchesSpec.r7, law4_NegotiateMatchesSpec.r8, law4_NegotiateMatchesSpec.r9, law4_NegotiateMatchesSpec.r10, law4_NegotiateMatchesSpec.r11, law4_NegotiateMatchesSpec.r12, law4_NegotiateMatchesSpec.r14, law4_NegotiateMatchesSpec.r15, law4_NegotiateMatchesSpec.r13, law4_NegotiateMatchesSpec.r16, e11, e15, e16]
    refine ⟨fun hlt => ?_, fun hge => trivial⟩
    have hlt : i < rs2.length := by omega
    have hb16 : rs2[i].length ≤ 16 := by
      rw [(hrun2.each i hlt).1]
      unfold batchOf
      have := (sizeR_next i).2.2
      rw [List.length_take]; omega
    have hI2 : ref3_Ints.f rs2[i] rs2[i] = some true := by rw [Ints_eq _ _ (by omega)]; simp
    rw [w64_succ (by omega)]
    refine opt_of (idx_nat' hlt) (opt_of (idx_nat' hlt) (opt_of hI2 ?_))
    first
    | exact ⟨⟨i + 1, rfl, by omega⟩, by omega⟩
    | exact ⟨fun hz => (by cases hz), fun _ => ⟨⟨i + 1, rfl, by omega⟩, by omega⟩⟩
  · have hc := nFault_code h
    simp only [W_seq, W_block, W_reg, W_cond, W_skip, W_ext, W_ret, opt_some, opt_bind, opt_ite, thenQ_nrm, thenQ_ext, thenQ_ret, blkQ_nrm, blkQ_ext, blkQ_ret, if_true, true_and, and_true, decide_eq_true_eq, decide_eq_false_iff_not, Bool.or_eq_true, Bool.and_eq_true, Bool.or_eq_false_iff, Bool.and_eq_false_iff, Bool.true_eq_false, not_or, Classical.not_not, Bool.not_eq_true', Bool.not_eq_false', Int.not_lt, Int.not_le, Bool.false_eq_true, false_implies, true_implies, and_self, not_true_eq_false, not_false_eq_true, law4_NegotiateMatchesSpec.retv, law4_NegotiateMatchesSpec.r0, law4_NegotiateMatchesSpec.r1, law4_NegotiateMatchesSpec.r2, law4_NegotiateMatchesSpec.r3, law4_NegotiateMatchesSpec.r4, law4_NegotiateMatchesSpec.r5, law4_NegotiateMatchesSpec.r6, law4_NegotiateMatchesSpec.r7, law4_NegotiateMatchesSpec.r8, law4_NegotiateMatchesSpec.r9, law4_NegotiateMatchesSpec.r10, law4_NegotiateMatchesSpec.r11, law4_NegotiateMatchesSpec.r12, law4_NegotiateMatchesSpec.r14, law4_NegotiateMatchesSpec.r15, law4_NegotiateMatchesSpec.r13, law4_NegotiateMatchesSpec.r16, nego_example_eq, Missing_bad h, Run_bad h, NegotiateFault_eq l se re ws hw.1]
    simp [hc, w64_id]
end Go.Proofs.Ytilodamhgepjoaa.Pure
