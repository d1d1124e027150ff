/- TrigramAddMatchesSpec, the plain part. -/
import Derived.Test.YtoiafcpnhhplnaaPg13
namespace Go.Proofs.Ytoiafcpnhhplnaa.Pure
open Go.Fx Go.RowKit
set_option linter.unusedVariables false
set_option linter.unusedSimpArgs false
set_option maxRecDepth 20000
theorem TrigramAddMatchesSpec {x : TrigramIndex} {n : Int} {text : ByteArray} (h1 : ok_TrigramIndex x) (h2 : okI .i64 n) (h3 : okS text) : law4_TrigramAddMatchesSpec.f x n text = some true := by
  obtain ⟨hF, hT⟩ := okFine h1
  have hA := Add_eq hF n text
  have hR := Remove_eq hF n
  have hV := Validate_eq hF
  have hW := IndexFault_eq hF
  have hI0 := Indexes_eq (a := noX) (b := noX) (by decide) fine_nil
  refine retOf_of ?_
  unfold law4_TrigramAddMatchesSpec.body
  rcases Classical.em (xFault x = ⟨0, 0⟩) with hx | hx
  · have hX := okX (x := x) (by rw [hx])
    rw [hx] at hV hW
    have hl := hX.len
    have hH := Has_eq x.Texts n (by omega)
    rcases Classical.em (n ∈ x.Texts) with hn | hn
    · have h0 := hX.tr n hn
      have eA : AddR x n text = (noX, ⟨7, -1⟩) := by unfold AddR; rw [if_neg (fun e => e hx), if_neg (by omega), if_pos hn]
      have eR : RemR x n = (remM x n, ⟨0, 0⟩) := by unfold RemR; rw [if_neg (fun e => e hx), if_neg (fun e => e hn)]
      have hO := remM_ok (n := n) hX
      have hI1 := Indexes_eq (a := remM x n) (b := remM x n) (by have := hO.len; omega) hO.fine
      rw [eA] at hA
      rw [eR] at hR
      simp only [WL, law4_TrigramAddMatchesSpec.retv, law4_TrigramAddMatchesSpec.r0, law4_TrigramAddMatchesSpec.r1, law4_TrigramAddMatchesSpec.r2, law4_TrigramAddMatchesSpec.r3, law4_TrigramAddMatchesSpec.r4, law4_TrigramAddMatchesSpec.r5, law4_TrigramAddMatchesSpec.r6, law4_TrigramAddMatchesSpec.r7, law4_TrigramAddMatchesSpec.r8, law4_TrigramAddMatchesSpec.r9, law4_TrigramAddMatchesSpec.r10, law4_TrigramAddMatchesSpec.r11, law4_TrigramAddMatchesSpec.r12, law4_TrigramAddMatchesSpec.r13, law4_TrigramAddMatchesSpec.r14, law4_TrigramAddMatchesSpec.r15, law4_TrigramAddMatchesSpec.r16, law4_TrigramAddMatchesSpec.r17, law4_TrigramAddMatchesSpec.r18, law4_TrigramAddMatchesSpec.r19, law4_TrigramAddMatchesSpec.r20, law4_TrigramAddMatchesSpec.r21, example_eq, hA, hR, hV, hW, hH, hI0, hI1, RemoveText_eq hX n, Fault_eq, In_eq, hn]
      simp
    · have eR : RemR x n = (noX, ⟨6, -1⟩) := by unfold RemR; rw [if_neg (fun e => e hx), if_pos hn]
      rw [eR] at hR
      rcases Classical.em (n < 0 ∨ 20 ≤ n) with hr | hr
      · have eA : AddR x n text = (noX, ⟨3, -1⟩) := by unfold AddR; rw [if_neg (fun e => e hx), if_pos hr]
        rw [eA] at hA
        have hin : decide (0 ≤ n ∧ n ≤ 19) = false := decide_eq_false (by omega)
        simp only [WL, law4_TrigramAddMatchesSpec.retv, law4_TrigramAddMatchesSpec.r0, law4_TrigramAddMatchesSpec.r1, law4_TrigramAddMatchesSpec.r2, law4_TrigramAddMatchesSpec.r3, law4_TrigramAddMatchesSpec.r4, law4_TrigramAddMatchesSpec.r5, law4_TrigramAddMatchesSpec.r6, law4_TrigramAddMatchesSpec.r7, law4_TrigramAddMatchesSpec.r8, law4_TrigramAddMatchesSpec.r9, law4_TrigramAddMatchesSpec.r10, law4_TrigramAddMatchesSpec.r11, law4_TrigramAddMatchesSpec.r12, law4_TrigramAddMatchesSpec.r13, law4_TrigramAddMatchesSpec.r14, law4_TrigramAddMatchesSpec.r15, law4_TrigramAddMatchesSpec.r16, law4_TrigramAddMatchesSpec.r17, law4_TrigramAddMatchesSpec.r18, law4_TrigramAddMatchesSpec.r19, law4_TrigramAddMatchesSpec.r20, law4_TrigramAddMatchesSpec.r21, example_eq, hA, hR, hV, hW, hH, hI0, Fault_eq, In_eq, hn, hin]
        simp
        omega
      · have hin : decide (0 ≤ n ∧ n ≤ 19) = true := decide_eq_true (by omega)
        rcases Classical.em (400 < text.size) with hs | hs
        · have eA : AddR x n text = (noX, ⟨10, -1⟩) := by unfold AddR; rw [if_neg (fun e => e hx), if_neg hr, if_neg hn, if_pos hs]
          rw [eA] at hA
          have hs' : (400 : Int) < (text.size : Int) := by omega
          simp only [WL, law4_TrigramAddMatchesSpec.retv, law4_TrigramAddMatchesSpec.r0, law4_TrigramAddMatchesSpec.r1, law4_TrigramAddMatchesSpec.r2, law4_TrigramAddMatchesSpec.r3, law4_TrigramAddMatchesSpec.r4, law4_TrigramAddMatchesSpec.r5, law4_TrigramAddMatchesSpec.r6, law4_TrigramAddMatchesSpec.r7, law4_TrigramAddMatchesSpec.r8, law4_TrigramAddMatchesSpec.r9, law4_TrigramAddMatchesSpec.r10, law4_TrigramAddMatchesSpec.r11, law4_TrigramAddMatchesSpec.r12, law4_TrigramAddMatchesSpec.r13, law4_TrigramAddMatchesSpec.r14, law4_TrigramAddMatchesSpec.r15, law4_TrigramAddMatchesSpec.r16, law4_TrigramAddMatchesSpec.r17, law4_TrigramAddMatchesSpec.r18, law4_TrigramAddMatchesSpec.r19, law4_TrigramAddMatchesSpec.r20, law4_TrigramAddMatchesSpec.r21, example_eq, hA, hR, hV, hW, hH, hI0, Fault_eq, In_eq, hn, hin, hs']
          simp
          omega
        · have eA : AddR x n text = (addM x n text, ⟨0, 0⟩) := by unfold AddR; rw [if_neg (fun e => e hx), if_neg hr, if_neg hn, if_neg hs]
          rw [eA] at hA
          have hs' : ¬ (400 : Int) < (text.size : Int) := by omega
          have hO := addM_ok (t := text) hX (n := n) (by omega)
          have hI1 := Indexes_eq (a := addM x n text) (b := addM x n text) (by have := hO.len; omega) hO.fine
          simp only [WL, law4_TrigramAddMatchesSpec.retv, law4_TrigramAddMatchesSpec.r0, law4_TrigramAddMatchesSpec.r1, law4_TrigramAddMatchesSpec.r2, law4_TrigramAddMatchesSpec.r3, law4_TrigramAddMatchesSpec.r4, law4_TrigramAddMatchesSpec.r5, law4_TrigramAddMatchesSpec.r6, law4_TrigramAddMatchesSpec.r7, law4_TrigramAddMatchesSpec.r8, law4_TrigramAddMatchesSpec.r9, law4_TrigramAddMatchesSpec.r10, law4_TrigramAddMatchesSpec.r11, law4_TrigramAddMatchesSpec.r12, law4_TrigramAddMatchesSpec.r13, law4_TrigramAddMatchesSpec.r14, law4_TrigramAddMatchesSpec.r15, law4_TrigramAddMatchesSpec.r16, law4_TrigramAddMatchesSpec.r17, law4_TrigramAddMatchesSpec.r18, law4_TrigramAddMatchesSpec.r19, law4_TrigramAddMatchesSpec.r20, law4_TrigramAddMatchesSpec.r21, example_eq, hA, hR, hV, hW, hH, hI0, hI1, Fault_eq, In_eq, hn, hin, hs', AddText_eq (t := text) hX (n := n) (by omega) (by omega)]
          simp
          try omega
  · have hc : ¬ (xFault x).Code = 0 := fun e => hx (xFault_ok (okX e))
    have eA : AddR x n text = (noX, xFault x) := by unfold AddR; rw [if_pos hx]
    have eR : RemR x n = (noX, xFault x) := by unfold RemR; rw [if_pos hx]
    rw [eA] at hA
    rw [eR] at hR
    simp only [WL, law4_TrigramAddMatchesSpec.retv, law4_TrigramAddMatchesSpec.r0, law4_TrigramAddMatchesSpec.r1, law4_TrigramAddMatchesSpec.r2, law4_TrigramAddMatchesSpec.r3, law4_TrigramAddMatchesSpec.r4, law4_TrigramAddMatchesSpec.r5, law4_TrigramAddMatchesSpec.r6, law4_TrigramAddMatchesSpec.r7, law4_TrigramAddMatchesSpec.r8, law4_TrigramAddMatchesSpec.r9, law4_TrigramAddMatchesSpec.r10, law4_TrigramAddMatchesSpec.r11, law4_TrigramAddMatchesSpec.r12, law4_TrigramAddMatchesSpec.r13, law4_TrigramAddMatchesSpec.r14, law4_TrigramAddMatchesSpec.r15, law4_TrigramAddMatchesSpec.r16, law4_TrigramAddMatchesSpec.r17, law4_TrigramAddMatchesSpec.r18, law4_TrigramAddMatchesSpec.r19, law4_TrigramAddMatchesSpec.r20, law4_TrigramAddMatchesSpec.r21, example_eq, hA, hR, hV, hW, hI0, Fault_eq, hc]
    simp
end Go.Proofs.Ytoiafcpnhhplnaa.Pure
