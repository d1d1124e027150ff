/- TrigramIndexMatchesSpec, the plain part. -/
import Derived.Test.YtoiafcpnhhplnaaPg12
import Derived.Test.YtoiafcpnhhplnaaOp
namespace Go.Proofs.Ytoiafcpnhhplnaa.Pure
open Go.Fx Go.RowKit
set_option linter.unusedVariables false
set_option linter.unusedSimpArgs false
set_option maxRecDepth 20000
theorem TrigramIndexMatchesSpec {texts : List ByteArray} (h1 : okL okS texts) : law4_TrigramIndexMatchesSpec.f texts = some true := by
  have hI := Index_eq texts
  refine retOf_of ?_
  unfold law4_TrigramIndexMatchesSpec.body
  rcases Classical.em (¬ (xtF texts).Code = 0) with hc | hc
  · rw [if_neg hc] at hI
    have hX := Indexes_eq (a := noX) (b := noX) (by decide) fine_nil
    simp only [WL, law4_TrigramIndexMatchesSpec.retv, law4_TrigramIndexMatchesSpec.r0, law4_TrigramIndexMatchesSpec.r1, law4_TrigramIndexMatchesSpec.r2, law4_TrigramIndexMatchesSpec.r3, law4_TrigramIndexMatchesSpec.r4, law4_TrigramIndexMatchesSpec.r5, law4_TrigramIndexMatchesSpec.r6, law4_TrigramIndexMatchesSpec.r7, example_eq, hI, textsFault_eq, hX]
    exact ⟨fun _ => by simp, fun h => absurd h hc⟩
  · have hc := Classical.not_not.1 hc
    obtain ⟨h20, hsz⟩ := xtF_ok hc
    rw [if_pos hc] at hI
    have hO := idxN_ok texts (i := texts.length) h20
    have hX := Indexes_eq (a := idxN texts texts.length) (b := idxN texts texts.length) (by have := hO.len; omega) hO.fine
    simp only [WL, law4_TrigramIndexMatchesSpec.retv, law4_TrigramIndexMatchesSpec.r0, law4_TrigramIndexMatchesSpec.r1, law4_TrigramIndexMatchesSpec.r2, law4_TrigramIndexMatchesSpec.r3, law4_TrigramIndexMatchesSpec.r4, law4_TrigramIndexMatchesSpec.r5, law4_TrigramIndexMatchesSpec.r6, law4_TrigramIndexMatchesSpec.r7, example_eq, hI, textsFault_eq, hX, numbers_eq (show texts.length ≤ 1000 by omega), IndexOf_eq h20 hsz, Validate_eq hO.fine, xFault_ok hO, hc]
    simp
end Go.Proofs.Ytoiafcpnhhplnaa.Pure
