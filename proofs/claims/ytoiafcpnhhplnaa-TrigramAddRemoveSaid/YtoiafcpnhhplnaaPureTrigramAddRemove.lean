/- TrigramAddRemove, the plain part. -/
import Derived.Test.YtoiafcpnhhplnaaPg13
namespace Go.Proofs.Ytoiafcpnhhplnaa.Pure
open Go.Fx Go.RowKit
set_option linter.unusedVariables false
set_option linter.unusedSimpArgs false
set_option maxRecDepth 20000
theorem TrigramAddRemove {x : TrigramIndex} {n : Int} {text : ByteArray} (h1 : ok_TrigramIndex x) (h2 : okI .i64 n) (h3 : okS text) : law4_TrigramAddRemove.f x n text = some true := by
  have hA := Add_eq (okFine h1).1 n text
  refine retOf_of ?_
  unfold law4_TrigramAddRemove.body
  rcases AddR_cases x n text with ⟨f, e, hf⟩ | ⟨hX, h0, hn, ht, e⟩
  · rw [e] at hA
    have hI := Indexes_eq (a := noX) (b := noX) (by decide) fine_nil
    simp only [WL, law4_TrigramAddRemove.retv, law4_TrigramAddRemove.r0, law4_TrigramAddRemove.r1, law4_TrigramAddRemove.r2, law4_TrigramAddRemove.r3, law4_TrigramAddRemove.r4, law4_TrigramAddRemove.r5, law4_TrigramAddRemove.r6, law4_TrigramAddRemove.r7, example_eq, hA, hI]
    exact ⟨fun _ => by simp, fun h => absurd h hf⟩
  · rw [e] at hA
    have hO := addM_ok (t := text) hX h0
    have hR := Remove_eq hO.fine n
    have eR : RemR (addM x n text) n = (x, ⟨0, 0⟩) := by
      unfold RemR
      rw [xFault_ok hO, if_neg (fun e => e rfl), if_neg (fun e => e (addM_mem.2 (.inr rfl))), rem_add hX h0 hn]
    rw [eR] at hR
    have hI := Indexes_eq (a := x) (b := x) (okFine h1).2 (okFine h1).1
    simp only [WL, law4_TrigramAddRemove.retv, law4_TrigramAddRemove.r0, law4_TrigramAddRemove.r1, law4_TrigramAddRemove.r2, law4_TrigramAddRemove.r3, law4_TrigramAddRemove.r4, law4_TrigramAddRemove.r5, law4_TrigramAddRemove.r6, law4_TrigramAddRemove.r7, example_eq, hA, hR, hI]
    simp
end Go.Proofs.Ytoiafcpnhhplnaa.Pure
