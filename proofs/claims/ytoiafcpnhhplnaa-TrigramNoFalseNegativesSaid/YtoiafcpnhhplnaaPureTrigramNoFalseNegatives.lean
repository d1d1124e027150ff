/- TrigramNoFalseNegatives, the plain part. -/
import Derived.Test.YtoiafcpnhhplnaaPg14
namespace Go.Proofs.Ytoiafcpnhhplnaa.Pure
open Go.Fx Go.RowKit
set_option linter.unusedVariables false
set_option linter.unusedSimpArgs false
set_option maxRecDepth 20000
theorem TrigramNoFalseNegatives {texts : List ByteArray} {part : ByteArray} (h1 : okL okS texts) (h3 : okS part) : law4_TrigramNoFalseNegatives.f texts part = some true := by
  have hI := Index_eq texts
  refine retOf_of ?_
  unfold law4_TrigramNoFalseNegatives.body
  rcases Classical.em (¬ (xtF texts).Code = 0) with hc | hc
  · rw [if_neg hc] at hI
    have hX := Indexes_eq (a := noX) (b := noX) (by decide) fine_nil
    have hC := Candidates_eq fine_nil part
    simp only [WL, law4_TrigramNoFalseNegatives.retv, law4_TrigramNoFalseNegatives.r0, law4_TrigramNoFalseNegatives.r1, law4_TrigramNoFalseNegatives.r2, law4_TrigramNoFalseNegatives.r3, law4_TrigramNoFalseNegatives.r4, law4_TrigramNoFalseNegatives.r5, law4_TrigramNoFalseNegatives.r6, law4_TrigramNoFalseNegatives.r7, law4_TrigramNoFalseNegatives.r8, law4_TrigramNoFalseNegatives.r10, law4_TrigramNoFalseNegatives.r11, law4_TrigramNoFalseNegatives.r9, law4_TrigramNoFalseNegatives.r12, example_eq, hI, hC, hX]
    refine ⟨fun _ => ⟨fun h => absurd h hc, fun _ => by simp⟩, fun h => absurd h.1 hc⟩
  have hc := Classical.not_not.1 hc
  obtain ⟨h20, hsz⟩ := xtF_ok hc
  rw [if_pos hc] at hI
  have hO := idxN_ok texts (i := texts.length) h20
  have hC := Candidates_eq hO.fine part
  rcases Classical.em (400 < part.size) with hp | hp
  · have e : CandR (idxN texts texts.length) part = ([], ⟨10, -1⟩) := by unfold CandR; rw [xFault_ok hO, if_neg (fun e => e rfl), if_pos hp]
    rw [e] at hC
    simp only [WL, law4_TrigramNoFalseNegatives.retv, law4_TrigramNoFalseNegatives.r0, law4_TrigramNoFalseNegatives.r1, law4_TrigramNoFalseNegatives.r2, law4_TrigramNoFalseNegatives.r3, law4_TrigramNoFalseNegatives.r4, law4_TrigramNoFalseNegatives.r5, law4_TrigramNoFalseNegatives.r6, law4_TrigramNoFalseNegatives.r7, law4_TrigramNoFalseNegatives.r8, law4_TrigramNoFalseNegatives.r10, law4_TrigramNoFalseNegatives.r11, law4_TrigramNoFalseNegatives.r9, law4_TrigramNoFalseNegatives.r12, example_eq, hI, hC, hc]
    simp
  have e : CandR (idxN texts texts.length) part = (candM (idxN texts texts.length) part, ⟨0, 0⟩) := by unfold CandR; rw [xFault_ok hO, if_neg (fun e => e rfl), if_neg hp]
  rw [e] at hC
  simp only [WL, law4_TrigramNoFalseNegatives.retv, law4_TrigramNoFalseNegatives.r0, law4_TrigramNoFalseNegatives.r1, law4_TrigramNoFalseNegatives.r2, law4_TrigramNoFalseNegatives.r3, law4_TrigramNoFalseNegatives.r4, law4_TrigramNoFalseNegatives.r5, law4_TrigramNoFalseNegatives.r6, law4_TrigramNoFalseNegatives.r7, law4_TrigramNoFalseNegatives.r8, law4_TrigramNoFalseNegatives.r10, law4_TrigramNoFalseNegatives.r11, law4_TrigramNoFalseNegatives.r9, law4_TrigramNoFalseNegatives.r12, example_eq, hI, hC, hc]
  refine ⟨fun h => ?_, ?_⟩
  · simp at h
  have hcl : (candM (idxN texts texts.length) part).length ≤ 20 := Nat.le_trans (List.length_filter_le _ _) hO.len
  refine W_iter (fun s => s.texts_0 = texts ∧ s.part_1 = part ∧ s.l_7 = candM (idxN texts texts.length) part ∧ ∃ i : Nat, s.i_9 = i ∧ i ≤ texts.length) (fun s => texts.length - s.i_9.toNat) ⟨rfl, rfl, rfl, 0, rfl, by omega⟩ ?_
  rintro s ⟨e0, e1, e7, i, e9, hi⟩
  simp only [WL, law4_TrigramNoFalseNegatives.retv, law4_TrigramNoFalseNegatives.r0, law4_TrigramNoFalseNegatives.r1, law4_TrigramNoFalseNegatives.r2, law4_TrigramNoFalseNegatives.r3, law4_TrigramNoFalseNegatives.r4, law4_TrigramNoFalseNegatives.r5, law4_TrigramNoFalseNegatives.r6, law4_TrigramNoFalseNegatives.r7, law4_TrigramNoFalseNegatives.r8, law4_TrigramNoFalseNegatives.r10, law4_TrigramNoFalseNegatives.r11, law4_TrigramNoFalseNegatives.r9, law4_TrigramNoFalseNegatives.r12, e0, e1, e7, e9]
  refine ⟨fun hlt => ?_, fun _ => trivial⟩
  have hlt : i < texts.length := by omega
  obtain ⟨b, hb, hbt⟩ := Contains_ex (t := texts[i]) (part := part) (hsz i hlt) (by omega)
  have hin : b = true → (i : Int) ∈ candM (idxN texts texts.length) part := fun h => by
    unfold candM
    rw [List.mem_filter]
    refine ⟨idxN_mem.2 ⟨i, hlt, rfl⟩, ?_⟩
    rw [List.all_eq_true]
    intro g hg
    rw [relB_iff]
    exact idxN_rel.2 ⟨i, hlt, rfl, by rw [gd hlt]; exact hbt h g hg⟩
  rw [w64_succ (by omega)]
  have hx : (∃ i_1 : Nat, ((i + 1 : Nat) : Int) = i_1 ∧ i_1 ≤ texts.length) ∧ texts.length - ((i + 1 : Nat) : Int).toNat < texts.length - (i : Int).toNat := ⟨⟨i + 1, rfl, by omega⟩, by omega⟩
  refine opt_of (idx_nat' hlt) (opt_of hb ⟨fun h => opt_of (Has_eq _ _ (by omega)) ⟨fun h2 => absurd (hin h) (of_decide_eq_false h2), fun _ => hx⟩, fun _ => hx⟩)
end Go.Proofs.Ytoiafcpnhhplnaa.Pure
