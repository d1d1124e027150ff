/- ShallowDeepenAdds, the plain part. -/
import Derived.Test.YtilodamhgepjoaaPu9
import Derived.Test.YtilodamhgepjoaaOp
namespace Go.Proofs.Ytilodamhgepjoaa.Pure
open Go.Fx Go.RowKit
set_option linter.unusedVariables false
set_option linter.unusedSimpArgs false
theorem cutFault_hist {l : List Commit} {hs : List Int} {depth : Int} (h : cutFault l hs depth = ⟨0, 0⟩) : hFault l = ⟨0, 0⟩ := by
  unfold cutFault at h
  split at h
  · rename_i hh; exact absurd h hh
  · rename_i hh; exact Classical.not_not.1 hh
theorem cutFault_code {l : List Commit} {hs : List Int} {depth : Int} (h : cutFault l hs depth ≠ ⟨0, 0⟩) : (cutFault l hs depth).Code ≠ 0 := by
  unfold cutFault at h ⊢
  split
  · rename_i hh; exact (hFault_cases l).resolve_left fun e => hh e.1
  · rename_i hh
    rw [if_neg hh] at h
    split
    · decide
    · rename_i h2
      rw [if_neg h2] at h
      split
      · rename_i x hx
        obtain ⟨k, _, hk⟩ := List.exists_of_findSome?_eq_some hx
        unfold bF at hk
        split at hk
        · cases hk; exact (by decide : (6 : Int) ≠ 0)
        · cases hk
      · rename_i hb
        rw [hb] at h
        split
        · decide
        · rename_i h3
          simp only [if_neg h3] at h
          exact absurd rfl h
/-- The depth alone, once the rest is fine. -/
theorem cutFault_other {l : List Commit} {hs : List Int} {depth d2 : Int} (h : cutFault l hs depth = ⟨0, 0⟩) (h0 : 0 ≤ d2) (h1 : d2 ≤ 60) : cutFault l hs d2 = ⟨0, 0⟩ := by
  unfold cutFault at h ⊢
  split at h
  · rename_i hh; exact absurd h hh
  · rename_i hh
    rw [if_neg hh]
    split at h
    · cases h
    · rename_i h2
      rw [if_neg h2]
      split at h
      · rename_i x hx
        obtain ⟨k, _, hk⟩ := List.exists_of_findSome?_eq_some hx
        unfold bF at hk
        subst h
        split at hk
        · simp at hk
        · cases hk
      · rename_i hb
        rw [if_neg (by omega)]
theorem ShallowDeepenAdds {l : List Commit} {hs : List Int} {depth by_ : Int} (hl : okL ok_Commit l) (hn : okL (okI .i64) hs) (hd : okI .i64 depth) (hb : okI .i64 by_) : law4_ShallowDeepenAdds.f l hs depth by_ = some true := by
  refine retOf_of ?_
  unfold law4_ShallowDeepenAdds.body
  simp only [W_seq, W_block, W_reg, W_cond, W_skip, W_ext, W_ret, opt_some, opt_bind, opt_ite, thenQ_nrm, thenQ_ext, thenQ_ret, blkQ_nrm, blkQ_ext, blkQ_ret, if_true, true_and, and_true, decide_eq_true_eq, decide_eq_false_iff_not, Bool.or_eq_true, Bool.and_eq_true, Bool.or_eq_false_iff, Bool.and_eq_false_iff, Bool.true_eq_false, not_or, Classical.not_not, Bool.not_eq_true', Bool.not_eq_false', Int.not_lt, Int.not_le, Bool.false_eq_true, false_implies, true_implies, and_self, not_true_eq_false, not_false_eq_true, law4_ShallowDeepenAdds.retv, law4_ShallowDeepenAdds.r0, law4_ShallowDeepenAdds.r1, law4_ShallowDeepenAdds.r2, law4_ShallowDeepenAdds.r3, law4_ShallowDeepenAdds.r4, law4_ShallowDeepenAdds.r5, law4_ShallowDeepenAdds.r6, law4_ShallowDeepenAdds.r7, law4_ShallowDeepenAdds.r8, law4_ShallowDeepenAdds.r9, law4_ShallowDeepenAdds.r10, example_eq, In_eq, Bool.not_true]
  refine ⟨fun h => trivial, fun h1 => ?_⟩
  by_cases h : cutFault l hs depth = ⟨0, 0⟩
  · refine ⟨fun _ => trivial, fun h2 => ?_⟩
    rw [w64_id (by omega) (by omega)] at h2
    have h3 := cutFault_other h (d2 := depth + by_) (by omega) (by omega)
    obtain ⟨hH, _, hin, _, _⟩ := cutFault_heads h
    have hsl := sel_len (l := l) (fr := hs) (steps := depth - 1) (b := 0)
    have hsl2 := sel_len (l := l) (fr := hs) (steps := depth + by_ - 1) (b := 0)
    have hl60 := hH.len
    have fC : shallow_Cut.f l hs depth = some (sel l hs (depth - 1) 0, ⟨0, 0⟩) := by rw [Cut_eq, if_pos h]
    have fC2 : shallow_Cut.f l hs (depth + by_) = some (sel l hs (depth + by_ - 1) 0, ⟨0, 0⟩) := by rw [Cut_eq, if_pos h3]
    have hS : sFault l (sel l hs (depth - 1) 0) = ⟨0, 0⟩ := sFault_of (cutFault_hist h) sel_inr sel_inc
    have fD : shallow_Deepen.f l (sel l hs (depth - 1) 0) by_ = some (sel l hs (depth + by_ - 1) 0, ⟨0, 0⟩) := by
      rw [Deepen_eq _ _ _ (by omega), hS, if_neg (by simp), if_neg (by omega), sel_add (by omega) (by omega)]
      rw [show depth - 1 + by_ = depth + by_ - 1 by omega]
    rw [w64_id (n := depth + by_) (by omega) (by omega)]
    have fI : ref3_Ints.f (sel l hs (depth + by_ - 1) 0) (sel l hs (depth + by_ - 1) 0) = some true := by rw [Ints_eq _ _ (by omega)]; simp
    simp only [W_seq, W_block, W_reg, W_cond, W_skip, W_ext, W_ret, opt_some, opt_bind, opt_ite, thenQ_nrm, thenQ_ext, thenQ_ret, blkQ_nrm, blkQ_ext, blkQ_ret, if_true, true_and, and_true, decide_eq_true_eq, decide_eq_false_iff_not, Bool.or_eq_true, Bool.and_eq_true, Bool.or_eq_false_iff, Bool.and_eq_false_iff, Bool.true_eq_false, not_or, Classical.not_not, Bool.not_eq_true', Bool.not_eq_false', Int.not_lt, Int.not_le, Bool.false_eq_true, false_implies, true_implies, and_self, not_true_eq_false, not_false_eq_true, fC, fC2, fD, fI]
  · have hc := cutFault_code h
    have fC : shallow_Cut.f l hs depth = some ([], cutFault l hs depth) := by rw [Cut_eq, if_neg h]
    simp only [W_seq, W_block, W_reg, W_cond, W_skip, W_ext, W_ret, opt_some, opt_bind, opt_ite, thenQ_nrm, thenQ_ext, thenQ_ret, blkQ_nrm, blkQ_ext, blkQ_ret, if_true, true_and, and_true, decide_eq_true_eq, decide_eq_false_iff_not, Bool.or_eq_true, Bool.and_eq_true, Bool.or_eq_false_iff, Bool.and_eq_false_iff, Bool.true_eq_false, not_or, Classical.not_not, Bool.not_eq_true', Bool.not_eq_false', Int.not_lt, Int.not_le, Bool.false_eq_true, false_implies, true_implies, and_self, not_true_eq_false, not_false_eq_true, law4_ShallowDeepenAdds.retv, law4_ShallowDeepenAdds.r0, law4_ShallowDeepenAdds.r1, law4_ShallowDeepenAdds.r2, law4_ShallowDeepenAdds.r3, law4_ShallowDeepenAdds.r4, law4_ShallowDeepenAdds.r5, law4_ShallowDeepenAdds.r6, law4_ShallowDeepenAdds.r7, law4_ShallowDeepenAdds.r8, law4_ShallowDeepenAdds.r9, law4_ShallowDeepenAdds.r10, fC]
    simp [hc]
end Go.Proofs.Ytilodamhgepjoaa.Pure
