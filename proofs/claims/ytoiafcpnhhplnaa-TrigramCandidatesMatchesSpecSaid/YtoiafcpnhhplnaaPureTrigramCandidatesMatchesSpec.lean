/- TrigramCandidatesMatchesSpec, the plain part. -/
import Derived.Test.YtoiafcpnhhplnaaPg13
namespace Go.Proofs.Ytoiafcpnhhplnaa.Pure
open Go.Fx Go.RowKit
set_option linter.unusedVariables false
set_option linter.unusedSimpArgs false
set_option maxRecDepth 20000
theorem TrigramCandidatesMatchesSpec {x : TrigramIndex} {part : ByteArray} (h1 : ok_TrigramIndex x) (h3 : okS part) : law4_TrigramCandidatesMatchesSpec.f x part = some true := by
  obtain ⟨hF, hT⟩ := okFine h1
  have hC := Candidates_eq hF part
  have hV := IndexFault_eq hF
  refine retOf_of ?_
  unfold law4_TrigramCandidatesMatchesSpec.body
  rcases Classical.em (xFault x = ⟨0, 0⟩) with hx | hx
  · have hX := okX (x := x) (by rw [hx])
    rw [hx] at hV
    rcases Classical.em (400 < part.size) with hp | hp
    · have e : CandR x part = ([], ⟨10, -1⟩) := by unfold CandR; rw [if_neg (fun e => e hx), if_pos hp]
      rw [e] at hC
      simp only [WL, law4_TrigramCandidatesMatchesSpec.retv, law4_TrigramCandidatesMatchesSpec.r0, law4_TrigramCandidatesMatchesSpec.r1, law4_TrigramCandidatesMatchesSpec.r2, law4_TrigramCandidatesMatchesSpec.r3, law4_TrigramCandidatesMatchesSpec.r4, law4_TrigramCandidatesMatchesSpec.r5, law4_TrigramCandidatesMatchesSpec.r6, law4_TrigramCandidatesMatchesSpec.r7, law4_TrigramCandidatesMatchesSpec.r8, law4_TrigramCandidatesMatchesSpec.r9, example_eq, hC, hV, Fault_eq]
      refine ⟨fun h => ?_, fun h => ?_⟩
      · simp
      · rcases h with h | h
        · exact h.elim
        · omega
    · have e : CandR x part = (candM x part, ⟨0, 0⟩) := by unfold CandR; rw [if_neg (fun e => e hx), if_neg hp]
      rw [e] at hC
      have hI := Ints_eq (candM x part) (candM x part) (by have := hX.len; have := List.length_filter_le (fun n => (tri part).all fun g => relB x.Postings g n) x.Texts; unfold candM; omega)
      simp only [WL, law4_TrigramCandidatesMatchesSpec.retv, law4_TrigramCandidatesMatchesSpec.r0, law4_TrigramCandidatesMatchesSpec.r1, law4_TrigramCandidatesMatchesSpec.r2, law4_TrigramCandidatesMatchesSpec.r3, law4_TrigramCandidatesMatchesSpec.r4, law4_TrigramCandidatesMatchesSpec.r5, law4_TrigramCandidatesMatchesSpec.r6, law4_TrigramCandidatesMatchesSpec.r7, law4_TrigramCandidatesMatchesSpec.r8, law4_TrigramCandidatesMatchesSpec.r9, example_eq, hC, hV, Fault_eq, CandidatesFor_eq hX (show part.size ≤ 400 by omega), hI]
      refine ⟨fun h => by omega, fun h => ?_⟩
      simp
  · have hc : ¬ (xFault x).Code = 0 := fun e => hx (xFault_ok (okX e))
    have e : CandR x part = ([], xFault x) := by unfold CandR; rw [if_pos hx]
    rw [e] at hC
    simp only [WL, law4_TrigramCandidatesMatchesSpec.retv, law4_TrigramCandidatesMatchesSpec.r0, law4_TrigramCandidatesMatchesSpec.r1, law4_TrigramCandidatesMatchesSpec.r2, law4_TrigramCandidatesMatchesSpec.r3, law4_TrigramCandidatesMatchesSpec.r4, law4_TrigramCandidatesMatchesSpec.r5, law4_TrigramCandidatesMatchesSpec.r6, law4_TrigramCandidatesMatchesSpec.r7, law4_TrigramCandidatesMatchesSpec.r8, law4_TrigramCandidatesMatchesSpec.r9, example_eq, hC, hV, Fault_eq]
    refine ⟨fun h => absurd h.1 hc, fun _ => ⟨fun _ => ?_, fun h => absurd h hc⟩⟩
    simp
end Go.Proofs.Ytoiafcpnhhplnaa.Pure
