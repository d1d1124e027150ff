/- NegotiateNothingTwice, the plain part. -/
import Derived.Test.YtilodamhgepjoaaPn7
import Derived.Test.YtilodamhgepjoaaOp
namespace Go.Proofs.Ytilodamhgepjoaa.Pure
open Go.Fx Go.RowKit
set_option linter.unusedVariables false
set_option linter.unusedSimpArgs false
theorem sizeR_le (k : Nat) : sizeR k ≤ 16 := by have := (sizeR_next k).2.2; omega
theorem flat_len {rs : List (List Int)} {m : Nat} (h : ∀ b ∈ rs, b.length ≤ m) : rs.flatten.length ≤ m * rs.length := by
  induction rs with
  | nil => simp
  | cons b t ih =>
    have h1 := h b (by simp)
    have h2 := ih fun x hx => h x (by simp [hx])
    simp only [List.flatten_cons, List.length_append, List.length_cons, Nat.mul_add, Nat.mul_one]
    omega
theorem NegotiateNothingTwice {l : List Commit} {se re : List Bool} {ws : List Int} (hl : okL ok_Commit l) (h1 : okL (fun _ => True) se) (h2 : okL (fun _ => True) re) (hw : okL (okI .i64) ws) : law4_NegotiateNothingTwice.f l se re ws = some true := by
  refine retOf_of ?_
  unfold law4_NegotiateNothingTwice.body
  by_cases h : nFault l se re ws = ⟨0, 0⟩
  · obtain ⟨O, rs, hr, hrun, _, hrl, hord, _⟩ := Run_good h
    have hn := nv_of h
    have hH := hist_of hn.hf
    have hl60 := hH.len
    have hOr := hord.inr
    have fN : ref4_NegotiateFault.f l se re ws = some ⟨0, 0⟩ := by rw [NegotiateFault_eq l se re ws hw.1, h]
    obtain ⟨T, fT, hTl, hT⟩ := Reach_ex l hH
    have hB : ∀ (i : Nat) (hi : i < rs.length), rs[i].length ≤ 16 ∧ 0 < rs[i].length ∧ rs[i].Nodup ∧ ∀ n ∈ rs[i], (0 ≤ n ∧ n < l.length) ∧ open_ l se re (told (rs.take i)) n := fun i hi => by
      obtain ⟨e, hne⟩ := hrun.each i hi
      refine ⟨?_, List.length_pos_iff.2 hne, ?_, fun n hn => ?_⟩
      · rw [e]; unfold batchOf; rw [List.length_take]; have := sizeR_le i; omega
      · rw [e]; unfold batchOf; exact (hord.nodup.filter _).sublist (List.take_sublist _ _)
      · rw [e] at hn
        have := batch_sub hn
        exact ⟨hOr n this.1, this.2⟩
    have htoldr : ∀ i, i ≤ rs.length → ∀ m ∈ told (rs.take i), 0 ≤ m ∧ m < l.length := fun i hi m hm => by
      obtain ⟨b, hb, hmb⟩ := List.mem_flatten.1 hm
      obtain ⟨q, hq, e⟩ := List.getElem_of_mem (List.mem_of_mem_take hb)
      exact ((hB q hq).2.2.2 m (e ▸ hmb)).1
    have htoldl : ∀ i, i ≤ rs.length → (told (rs.take i)).length ≤ 960 := fun i hi => by
      have := flat_len (rs := rs.take i) (m := 16) fun b hb => by
        obtain ⟨q, hq, e⟩ := List.getElem_of_mem (List.mem_of_mem_take hb)
        exact e ▸ (hB q hq).1
      rw [List.length_take] at this
      unfold told
      omega
    have hwl : w64 ((l.length : Int) - 1) = (l.length : Int) - 1 := w64_id (by omega) (by omega)
    simp only [W_seq, W_block, W_reg, W_cond, W_skip, W_ext, W_ret, opt_some, opt_bind, opt_ite, thenQ_nrm, thenQ_ext, thenQ_ret, blkQ_nrm, blkQ_ext, blkQ_ret, if_true, true_and, and_true, decide_eq_true_eq, decide_eq_false_iff_not, Bool.or_eq_true, Bool.and_eq_true, Bool.or_eq_false_iff, Bool.and_eq_false_iff, Bool.true_eq_false, not_or, Classical.not_not, Bool.not_eq_true', Bool.not_eq_false', Int.not_lt, Int.not_le, Bool.false_eq_true, false_implies, true_implies, and_self, not_true_eq_false, not_false_eq_true, law4_NegotiateNothingTwice.retv, law4_NegotiateNothingTwice.r0, law4_NegotiateNothingTwice.r1, law4_NegotiateNothingTwice.r2, law4_NegotiateNothingTwice.r3, law4_NegotiateNothingTwice.r4, law4_NegotiateNothingTwice.r5, law4_NegotiateNothingTwice.r6, law4_NegotiateNothingTwice.r7, law4_NegotiateNothingTwice.r8, law4_NegotiateNothingTwice.r9, law4_NegotiateNothingTwice.r11, law4_NegotiateNothingTwice.r12, law4_NegotiateNothingTwice.r13, law4_NegotiateNothingTwice.r14, law4_NegotiateNothingTwice.r16, law4_NegotiateNothingTwice.r17, law4_NegotiateNothingTwice.r18, law4_NegotiateNothingTwice.r19, law4_NegotiateNothingTwice.r20, law4_NegotiateNothingTwice.r22, law4_NegotiateNothingTwice.r23, law4_NegotiateNothingTwice.r21, law4_NegotiateNothingTwice.r15, law4_NegotiateNothingTwice.r24, law4_NegotiateNothingTwice.r10, law4_NegotiateNothingTwice.r25, nego_example_eq, hr, fN, fT, Bool.not_true, not_true_eq_false, or_self, decide_true]
    refine W_iter (fun s => s.t_0 = l ∧ s.t_1 = se ∧ s.t_2 = re ∧ s.t_9 = rs ∧ s.t_12 = T ∧ ∃ i : Nat, s.t_14 = i ∧ i ≤ rs.length ∧ s.t_13 = told (rs.take i)) (fun s => rs.length - s.t_14.toNat) ⟨rfl, rfl, rfl, rfl, rfl, 0, rfl, by omega, rfl⟩ ?_
    rintro s ⟨e0, e1, e2, e9, e12, i, e14, hi, e13⟩
    simp only [W_seq, W_block, W_reg, W_cond, W_skip, W_ext, W_ret, opt_some, opt_bind, opt_ite, thenQ_nrm, thenQ_ext, thenQ_ret, blkQ_nrm, blkQ_ext, blkQ_ret, if_true, true_and, and_true, decide_eq_true_eq, decide_eq_false_iff_not, Bool.or_eq_true, Bool.and_eq_true, Bool.or_eq_false_iff, Bool.and_eq_false_iff, Bool.true_eq_false, not_or, Classical.not_not, Bool.not_eq_true', Bool.not_eq_false', Int.not_lt, Int.not_le, Bool.false_eq_true, false_implies, true_implies, and_self, not_true_eq_false, not_false_eq_true, law4_NegotiateNothingTwice.retv, law4_NegotiateNothingTwice.r0, law4_NegotiateNothingTwice.r1, law4_NegotiateNothingTwice.r2, law4_NegotiateNothingTwice.r3, law4_NegotiateNothingTwice.r4, law4_NegotiateNothingTwice.r5, law4_NegotiateNothingTwice.r6, law4_NegotiateNothingTwice.r7, law4_NegotiateNothingTwice.r8, law4_NegotiateNothingTwice.r9, law4_NegotiateNothingTwice.r11, law4_NegotiateNothingTwice.r12, law4_NegotiateNothingTwice.r13, law4_NegotiateNothingTwice.r14, law4_NegotiateNothingTwice.r16, law4_NegotiateNothingTwice.r17, law4_NegotiateNothingTwice.r18, law4_NegotiateNothingTwice.r19, law4_NegotiateNothingTwice.r20, law4_NegotiateNothingTwice.r22, law4_NegotiateNothingTwice.r23, law4_NegotiateNothingTwice.r21, law4_NegotiateNothingTwice.r15, law4_NegotiateNothingTwice.r24, law4_NegotiateNothingTwice.r10, law4_NegotiateNothingTwice.r25, e0, e1, e2, e9, e12, e14, e13]
    refine ⟨fun hlt => ?_, fun hge => trivial⟩
    have hlt : i < rs.length := by omega
    obtain ⟨hb16, hb0, hbn, hbo⟩ := hB i hlt
    have htr := htoldr i hi
    have htl := htoldl i hi
    have hrsi : idx rs (i : Int) = some rs[i] := idx_nat' hlt
    obtain ⟨B, hBe⟩ : ∃ B, B = rs[i] := ⟨_, rfl⟩
    obtain ⟨td, htde⟩ : ∃ td, td = told (rs.take i) := ⟨_, rfl⟩
    have htd2 : told (rs.take (i + 1)) = td ++ B := by
      unfold told at htde ⊢
      rw [List.take_add_one, List.getElem?_eq_getElem hlt, htde, hBe, List.flatten_append]; simp only [Option.toList, List.flatten_cons, List.flatten_nil, List.append_nil]
    rw [← hBe] at hb16 hb0 hbn hbo hrsi
    rw [← htde] at hbo htr htl
    have hwi : w64 ((i : Int) + 1) = ((i + 1 : Nat) : Int) := w64_succ (by omega)
    simp only [← htde]
    refine opt_of hrsi ⟨fun hz => absurd hz (by omega), fun hz => opt_of hrsi ⟨fun hz => absurd hz (by omega), fun hz => ?_⟩⟩
    refine W_iter (fun s => s.t_0 = l ∧ s.t_1 = se ∧ s.t_2 = re ∧ s.t_9 = rs ∧ s.t_12 = T ∧ s.t_14 = i ∧ s.t_13 = td ∧ ∃ k : Nat, s.t_15 = k ∧ k ≤ B.length) (fun s => B.length - s.t_15.toNat) ⟨rfl, rfl, rfl, rfl, rfl, rfl, rfl, 0, rfl, by omega⟩ ?_
    rintro s ⟨e0, e1, e2, e9, e12, e14, e13, k, e15, hk⟩
    simp only [W_seq, W_block, W_reg, W_cond, W_skip, W_ext, W_ret, opt_some, opt_bind, opt_ite, thenQ_nrm, thenQ_ext, thenQ_ret, blkQ_nrm, blkQ_ext, blkQ_ret, if_true, true_and, and_true, decide_eq_true_eq, decide_eq_false_iff_not, Bool.or_eq_true, Bool.and_eq_true, Bool.or_eq_false_iff, Bool.and_eq_false_iff, Bool.true_eq_false, not_or, Classical.not_not, Bool.not_eq_true', Bool.not_eq_false', Int.not_lt, Int.not_le, Bool.false_eq_true, false_implies, true_implies, and_self, not_true_eq_false, not_false_eq_true, law4_NegotiateNothingTwice.retv, law4_NegotiateNothingTwice.r0, law4_NegotiateNothingTwice.r1, law4_NegotiateNothingTwice.r2, law4_NegotiateNothingTwice.r3, law4_NegotiateNothingTwice.r4, law4_NegotiateNothingTwice.r5, law4_NegotiateNothingTwice.r6, law4_NegotiateNothingTwice.r7, law4_NegotiateNothingTwice.r8, law4_NegotiateNothingTwice.r9, law4_NegotiateNothingTwice.r11, law4_NegotiateNothingTwice.r12, law4_NegotiateNothingTwice.r13, law4_NegotiateNothingTwice.r14, law4_NegotiateNothingTwice.r16, law4_NegotiateNothingTwice.r17, law4_NegotiateNothingTwice.r18, law4_NegotiateNothingTwice.r19, law4_NegotiateNothingTwice.r20, law4_NegotiateNothingTwice.r22, law4_NegotiateNothingTwice.r23, law4_NegotiateNothingTwice.r21, law4_NegotiateNothingTwice.r15, law4_NegotiateNothingTwice.r24, law4_NegotiateNothingTwice.r10, law4_NegotiateNothingTwice.r25, e0, e1, e2, e9, e12, e14, e13, e15, In_eq, hwl, hwi]
    refine opt_of hrsi ⟨fun hkl => ?_, fun hkl => ?_⟩
    · have hkl : k < B.length := by omega
      have hbk := hbo _ (List.getElem_mem hkl)
      have hrek : idx re B[k] = some true := by
        rw [idx_getDI (d := false) hbk.1.1 (by have := hn.rel; omega), hbk.2.1]
      have hcut : cutTo B (k : Int) = some (B.take k) := by unfold cutTo; rw [if_pos (by omega)]; simp
      have hhas : ref3_Has.f (B.take k) B[k] = some false := by
        rw [Has_eq _ _ (by rw [List.length_take]; omega)]
        congr 1
        rw [decide_eq_false_iff_not]
        intro hm
        obtain ⟨j, hj, e⟩ := List.mem_take_iff_getElem.1 hm
        have := List.pairwise_iff_getElem.1 hbn j k (by omega) hkl (by omega)
        exact this e
      have hwk : w64 ((k : Int) + 1) = ((k + 1 : Nat) : Int) := w64_succ (by omega)
      refine opt_of hrsi (opt_of (idx_nat' hkl) ⟨fun hz => absurd hz (by omega), fun hz => opt_of hrek ⟨fun hz => (by cases hz), fun hz => opt_of hrsi (opt_of hcut (opt_of hhas ⟨fun hz => (by cases hz), fun hz => ?_⟩))⟩⟩)
      refine W_iter (fun s => s.t_0 = l ∧ s.t_1 = se ∧ s.t_2 = re ∧ s.t_9 = rs ∧ s.t_12 = T ∧ s.t_14 = i ∧ s.t_13 = td ∧ s.t_15 = k ∧ s.t_16 = B[k] ∧ ∃ j : Nat, s.t_17 = j ∧ j ≤ td.length) (fun s => td.length - s.t_17.toNat) ⟨rfl, rfl, rfl, rfl, rfl, rfl, rfl, rfl, rfl, 0, rfl, by omega⟩ ?_
      rintro s ⟨e0, e1, e2, e9, e12, e14, e13, e15, e16, j, e17, hj⟩
      simp only [W_seq, W_block, W_reg, W_cond, W_skip, W_ext, W_ret, opt_some, opt_bind, opt_ite, thenQ_nrm, thenQ_ext, thenQ_ret, blkQ_nrm, blkQ_ext, blkQ_ret, if_true, true_and, and_true, decide_eq_true_eq, decide_eq_false_iff_not, Bool.or_eq_true, Bool.and_eq_true, Bool.or_eq_false_iff, Bool.and_eq_false_iff, Bool.true_eq_false, not_or, Classical.not_not, Bool.not_eq_true', Bool.not_eq_false', Int.not_lt, Int.not_le, Bool.false_eq_true, false_implies, true_implies, and_self, not_true_eq_false, not_false_eq_true, law4_NegotiateNothingTwice.retv, law4_NegotiateNothingTwice.r0, law4_NegotiateNothingTwice.r1, law4_NegotiateNothingTwice.r2, law4_NegotiateNothingTwice.r3, law4_NegotiateNothingTwice.r4, law4_NegotiateNothingTwice.r5, law4_NegotiateNothingTwice.r6, law4_NegotiateNothingTwice.r7, law4_NegotiateNothingTwice.r8, law4_NegotiateNothingTwice.r9, law4_NegotiateNothingTwice.r11, law4_NegotiateNothingTwice.r12, law4_NegotiateNothingTwice.r13, law4_NegotiateNothingTwice.r14, law4_NegotiateNothingTwice.r16, law4_NegotiateNothingTwice.r17, law4_NegotiateNothingTwice.r18, law4_NegotiateNothingTwice.r19, law4_NegotiateNothingTwice.r20, law4_NegotiateNothingTwice.r22, law4_NegotiateNothingTwice.r23, law4_NegotiateNothingTwice.r21, law4_NegotiateNothingTwice.r15, law4_NegotiateNothingTwice.r24, law4_NegotiateNothingTwice.r10, law4_NegotiateNothingTwice.r25, e0, e1, e2, e9, e12, e14, e13, e15, e16, e17, hwk]
      refine ⟨fun hjl => ?_, fun hjl => ⟨⟨k + 1, rfl, by omega⟩, by omega⟩⟩
      have hjl : j < td.length := by omega
      have hm := htr _ (List.getElem_mem hjl)
      have hne : ¬ td[j] = B[k] := fun e => hbk.2.2.1 (e ▸ List.getElem_mem hjl)
      have hsj : idx se td[j] = some (se.getD td[j].toNat false) := idx_getDI hm.1 (by have := hn.sel; omega)
      have hTj := hT td[j].toNat (by omega)
      have x1 : idx T td[j] = some (T.getD td[j].toNat []) := idx_getDI hm.1 (by omega)
      have x2 : idx (T.getD td[j].toNat []) B[k] = some ((T.getD td[j].toNat []).getD B[k].toNat false) := idx_getDI hbk.1.1 (by rw [hTj.1]; omega)
      have hgo : (∃ j_1 : Nat, ((j + 1 : Nat) : Int) = j_1 ∧ j_1 ≤ td.length) ∧ td.length - (((j + 1 : Nat) : Int)).toNat < td.length - ((j : Int)).toNat := ⟨⟨j + 1, rfl, by omega⟩, by omega⟩
      rw [w64_succ (by omega)]
      refine opt_of (idx_nat' hjl) ⟨fun hz => absurd hz hne, fun hz => opt_of (idx_nat' hjl) (opt_of hsj ⟨fun hs => opt_of (idx_nat' hjl) (opt_of x1 (opt_of x2 ⟨fun hz => ?_, fun hz => hgo⟩)), fun hs => ?_⟩)⟩
      · exact absurd ⟨_, List.getElem_mem hjl, hs, (hTj.2 _ (by omega)).1 hz⟩ hbk.2.2.2
      · first
        | exact hgo
        | exact ⟨fun hz => (by cases hz), fun _ => hgo⟩
    · refine opt_of hrsi (opt_of (appL_of (by omega)) ⟨⟨i + 1, rfl, by omega, htd2.symm⟩, by omega⟩)
  · have hc := nFault_code h
    simp only [W_seq, W_block, W_reg, W_cond, W_skip, W_ext, W_ret, opt_some, opt_bind, opt_ite, thenQ_nrm, thenQ_ext, thenQ_ret, blkQ_nrm, blkQ_ext, blkQ_ret, if_true, true_and, and_true, decide_eq_true_eq, decide_eq_false_iff_not, Bool.or_eq_true, Bool.and_eq_true, Bool.or_eq_false_iff, Bool.and_eq_false_iff, Bool.true_eq_false, not_or, Classical.not_not, Bool.not_eq_true', Bool.not_eq_false', Int.not_lt, Int.not_le, Bool.false_eq_true, false_implies, true_implies, and_self, not_true_eq_false, not_false_eq_true, law4_NegotiateNothingTwice.retv, law4_NegotiateNothingTwice.r0, law4_NegotiateNothingTwice.r1, law4_NegotiateNothingTwice.r2, law4_NegotiateNothingTwice.r3, law4_NegotiateNothingTwice.r4, law4_NegotiateNothingTwice.r5, law4_NegotiateNothingTwice.r6, law4_NegotiateNothingTwice.r7, law4_NegotiateNothingTwice.r8, law4_NegotiateNothingTwice.r9, law4_NegotiateNothingTwice.r11, law4_NegotiateNothingTwice.r12, law4_NegotiateNothingTwice.r13, law4_NegotiateNothingTwice.r14, law4_NegotiateNothingTwice.r16, law4_NegotiateNothingTwice.r17, law4_NegotiateNothingTwice.r18, law4_NegotiateNothingTwice.r19, law4_NegotiateNothingTwice.r20, law4_NegotiateNothingTwice.r22, law4_NegotiateNothingTwice.r23, law4_NegotiateNothingTwice.r21, law4_NegotiateNothingTwice.r15, law4_NegotiateNothingTwice.r24, law4_NegotiateNothingTwice.r10, law4_NegotiateNothingTwice.r25, nego_example_eq, Run_bad h]
    simp [hc, w64_id]
end Go.Proofs.Ytilodamhgepjoaa.Pure
