/- The reference's rounds. -/
import Derived.Test.YtilodamhgepjoaaPn8
namespace Go.Proofs.Ytilodamhgepjoaa
open Go.Fx
set_option linter.unusedVariables false
set_option linter.unusedSimpArgs false

theorem shl_size {r : Nat} (h : r < 4) : shlV .i64 (1 : Int) (r : Int) = (sizeR r : Int) := by
  have : r = 0 ∨ r = 1 ∨ r = 2 ∨ r = 3 := by omega
  rcases this with rfl | rfl | rfl | rfl <;> decide
theorem told_len {l : List Commit} {se re : List Bool} {O : List Int} {rs : List (List Int)} (h : IsRun l se re O rs) : (told rs).length ≤ 16 * rs.length := by
  have h2 : ∀ b ∈ rs, b.length ≤ 16 := fun b hb => by
    obtain ⟨q, hq, e⟩ := List.getElem_of_mem hb
    rw [← e, (h.each q hq).1]
    unfold batchOf
    have := (sizeR_next q).2.2
    rw [List.length_take]; omega
  have key : ∀ rs : List (List Int), (∀ b ∈ rs, b.length ≤ 16) → rs.flatten.length ≤ 16 * rs.length := fun rs => by
    induction rs with
    | nil => intro _; simp
    | cons b t ih =>
      intro h
      have h1 := h b (by simp)
      have h2 := ih fun x hx => h x (by simp [hx])
      simp only [List.flatten_cons, List.length_append, List.length_cons, Nat.mul_add, Nat.mul_one]
      omega
  exact key rs h2
open Classical in
theorem RoundsOf_ex (l : List Commit) (se re : List Bool) (hH : Hist l) (hsl : se.length = l.length) (hrl : re.length = l.length) (O : List Int) (hO : ref3_OrderOf.f l = some O) (hord : IsOrd l O) :
    ∃ rs, ref4_RoundsOf.f l se re = some rs ∧ IsRun l se re O rs ∧ batchOf l se re O (told rs) rs.length = [] := by
  have hl60 := hH.len
  have hOl := hord.len
  have hOr := hord.inr
  obtain ⟨T, fT, hTl, hT⟩ := Reach_ex l hH
  suffices main : W ref4_RoundsOf.body (fun o => ∃ rs, o = .ret rs ∧ IsRun l se re O rs ∧ batchOf l se re O (told rs) rs.length = []) _ by
    obtain ⟨o, h1, r, rfl, h2⟩ := main
    exact ⟨r, by unfold ref4_RoundsOf.f; rw [h1]; rfl, h2⟩
  unfold ref4_RoundsOf.body
  simp only [W_seq, W_block, W_reg, W_cond, W_skip, W_ext, W_ret, opt_some, opt_bind, opt_ite, thenQ_nrm, thenQ_ext, thenQ_ret, blkQ_nrm, blkQ_ext, blkQ_ret, if_true, true_and, and_true, decide_eq_true_eq, decide_eq_false_iff_not, Bool.or_eq_true, Bool.and_eq_true, Bool.or_eq_false_iff, Bool.and_eq_false_iff, Bool.true_eq_false, not_or, Classical.not_not, Bool.not_eq_true', Bool.not_eq_false', Int.not_lt, Int.not_le, Bool.false_eq_true, false_implies, true_implies, and_self, not_true_eq_false, not_false_eq_true, ref4_RoundsOf.retv, ref4_RoundsOf.r0, ref4_RoundsOf.r1, ref4_RoundsOf.r2, ref4_RoundsOf.r3, ref4_RoundsOf.r4, ref4_RoundsOf.r5, ref4_RoundsOf.r7, ref4_RoundsOf.r8, ref4_RoundsOf.r9, ref4_RoundsOf.r10, ref4_RoundsOf.r11, ref4_RoundsOf.r12, ref4_RoundsOf.r14, ref4_RoundsOf.r15, ref4_RoundsOf.r16, ref4_RoundsOf.r17, ref4_RoundsOf.r19, ref4_RoundsOf.r20, ref4_RoundsOf.r18, ref4_RoundsOf.r21, ref4_RoundsOf.r22, ref4_RoundsOf.r13, ref4_RoundsOf.r23, ref4_RoundsOf.r24, ref4_RoundsOf.r25, ref4_RoundsOf.r26, ref4_RoundsOf.r6, hO, fT]
  refine W_iter (fun s => s.t_0 = l ∧ s.t_1 = se ∧ s.t_2 = re ∧ s.t_7 = O ∧ s.t_8 = T ∧ s.t_9 = told s.t_10 ∧ s.t_11 = s.t_10.length ∧ IsRun l se re O s.t_10 ∧ (∀ m ∈ told s.t_10, 0 ≤ m ∧ m < l.length) ∧ s.t_10.length + cntP (fun i => !decide ((i : Int) ∈ told s.t_10)) l.length ≤ l.length) (fun s => cntP (fun i => !decide ((i : Int) ∈ told s.t_10)) l.length)
    ⟨rfl, rfl, rfl, rfl, rfl, rfl, rfl, ⟨fun k hk => by simp at hk⟩, by simp [told], by have := cntP_le (P := fun i => !decide ((i : Int) ∈ told ([] : List (List Int)))) (n := l.length); simpa using this⟩ ?_
  rintro s ⟨e0, e1, e2, e7, e8, e9, e11, hrun, hin, hcnt⟩
  obtain ⟨rs, hrs⟩ : ∃ rs, rs = s.t_10 := ⟨_, rfl⟩
  simp only [← hrs] at e9 e11 hrun hin hcnt
  obtain ⟨td, htd⟩ : ∃ td, td = told rs := ⟨_, rfl⟩
  have htl := told_len hrun
  have hin2 : ∀ m ∈ td, 0 ≤ m ∧ m < l.length := by rw [htd]; exact hin
  have htdl : td.length ≤ 960 := by rw [htd]; omega
  obtain ⟨hs1, hs2, hs3⟩ := sizeR_next rs.length
  -- one round, once its size is known
  have round : ∀ s0 : ref4_RoundsOf.S, s0.t_0 = l → s0.t_1 = se → s0.t_2 = re → s0.t_7 = O → s0.t_8 = T → s0.t_9 = td → s0.t_10 = rs → s0.t_11 = rs.length → s0.t_12 = (sizeR rs.length : Int) → s0.t_13 = [] → s0.t_14 = 0 →
      ∀ (Q : Ctl ref4_RoundsOf.S ref4_RoundsOf.R → Prop), (∀ s2 : ref4_RoundsOf.S, s2.t_0 = l → s2.t_1 = se → s2.t_2 = re → s2.t_7 = O → s2.t_8 = T → s2.t_9 = td → s2.t_10 = rs → s2.t_11 = rs.length → s2.t_13 = batchOf l se re O td rs.length → Q (.ext 2 s2)) →
      W (iterM (seqM (seqM (regM ref4_RoundsOf.r12) (condM (fun s => s.t_37) skipM (extM 2)))
        (seqM (blockM 3 (seqM (regM ref4_RoundsOf.r14) (seqM (regM ref4_RoundsOf.r15) (seqM (seqM (regM ref4_RoundsOf.r16) (blockM 4 (iterM (seqM (seqM (regM ref4_RoundsOf.r17) (condM (fun s => s.t_57) skipM (extM 4))) (seqM (blockM 5 (seqM (regM ref4_RoundsOf.r19) (condM (fun s => s.t_78) (regM ref4_RoundsOf.r20) skipM))) (regM ref4_RoundsOf.r18)))))) (seqM (regM ref4_RoundsOf.r21) (condM (fun s => s.t_79) (regM ref4_RoundsOf.r22) skipM)))))) (regM ref4_RoundsOf.r13)))) Q s0 := by
    intro s0 e0 e1 e2 e7 e8 e9 e10 e11 e12 e13 e14 Q hQ
    refine W_iter (fun s => s.t_0 = l ∧ s.t_1 = se ∧ s.t_2 = re ∧ s.t_7 = O ∧ s.t_8 = T ∧ s.t_9 = td ∧ s.t_10 = rs ∧ s.t_11 = rs.length ∧ s.t_12 = (sizeR rs.length : Int) ∧ ∃ i : Nat, s.t_14 = i ∧ i ≤ O.length ∧ s.t_13 = ((O.take i).filter fun n => decide (open_ l se re td n)).take (sizeR rs.length)) (fun s => O.length - s.t_14.toNat)
      ⟨e0, e1, e2, e7, e8, e9, e10, e11, e12, 0, e14, by omega, by simpa using e13⟩ ?_
    rintro s ⟨e0, e1, e2, e7, e8, e9, e10, e11, e12, i, e14, hi, e13⟩
    have hbl : (((O.take i).filter fun n => decide (open_ l se re td n)).take (sizeR rs.length)).length ≤ sizeR rs.length := by
      rw [List.length_take]; omega
    have hcat : O.filter (fun n => decide (open_ l se re td n)) = (O.take i).filter (fun n => decide (open_ l se re td n)) ++ (O.drop i).filter (fun n => decide (open_ l se re td n)) := by
      rw [← List.filter_append, List.take_append_drop]
    obtain ⟨B, hB⟩ : ∃ B, B = (((O.take i).filter fun n => decide (open_ l se re td n)).take (sizeR rs.length)) := ⟨_, rfl⟩
    rw [← hB] at e13 hbl
    simp only [W_seq, W_block, W_reg, W_cond, W_skip, W_ext, W_ret, opt_some, opt_bind, opt_ite, thenQ_nrm, thenQ_ext, thenQ_ret, blkQ_nrm, blkQ_ext, blkQ_ret, if_true, true_and, and_true, decide_eq_true_eq, decide_eq_false_iff_not, Bool.or_eq_true, Bool.and_eq_true, Bool.or_eq_false_iff, Bool.and_eq_false_iff, Bool.true_eq_false, not_or, Classical.not_not, Bool.not_eq_true', Bool.not_eq_false', Int.not_lt, Int.not_le, Bool.false_eq_true, false_implies, true_implies, and_self, not_true_eq_false, not_false_eq_true, ref4_RoundsOf.retv, ref4_RoundsOf.r0, ref4_RoundsOf.r1, ref4_RoundsOf.r2, ref4_RoundsOf.r3, ref4_RoundsOf.r4, ref4_RoundsOf.r5, ref4_RoundsOf.r7, ref4_RoundsOf.r8, ref4_RoundsOf.r9, ref4_RoundsOf.r10, ref4_RoundsOf.r11, ref4_RoundsOf.r12, ref4_RoundsOf.r14, ref4_RoundsOf.r15, ref4_RoundsOf.r16, ref4_RoundsOf.r17, ref4_RoundsOf.r19, ref4_RoundsOf.r20, ref4_RoundsOf.r18, ref4_RoundsOf.r21, ref4_RoundsOf.r22, ref4_RoundsOf.r13, ref4_RoundsOf.r23, ref4_RoundsOf.r24, ref4_RoundsOf.r25, ref4_RoundsOf.r26, ref4_RoundsOf.r6, e0, e1, e2, e7, e8, e9, e10, e11, e12, e14, e13]
    refine ⟨fun hlt => ?_, fun hge => ?_⟩
    · have hlt1 : i < O.length := by omega
      have hlt2 : B.length < sizeR rs.length := by omega
      have hn := hOr _ (List.getElem_mem hlt1)
      have hwi : w64 ((i : Int) + 1) = ((i + 1 : Nat) : Int) := w64_succ (by omega)
      have hre : idx re O[i] = some (re.getD O[i].toNat false) := idx_getDI hn.1 (by omega)
      have hnext : ((O.take (i + 1)).filter fun n => decide (open_ l se re td n)).take (sizeR rs.length) = if open_ l se re td O[i] then B ++ [O[i]] else B := by
        rw [take_filter hlt1]
        by_cases ho : open_ l se re td O[i]
        · rw [if_pos (decide_eq_true ho), if_pos ho, take_snoc, ← hB, if_pos hlt2]
        · rw [if_neg (by simpa using ho), if_neg ho, List.append_nil, hB]
      have hfin : ∀ s3 : ref4_RoundsOf.S, s3.t_0 = l → s3.t_1 = se → s3.t_2 = re → s3.t_7 = O → s3.t_8 = T → s3.t_9 = td → s3.t_10 = rs → s3.t_11 = rs.length → s3.t_12 = (sizeR rs.length : Int) → s3.t_13 = B → s3.t_14 = i → s3.t_15 = O[i] → s3.t_17 = 0 → (s3.t_16 = true ↔ re.getD O[i].toNat false = true ∧ O[i] ∉ td) →
          W (iterM (seqM (seqM (regM ref4_RoundsOf.r17) (condM (fun s => s.t_57) skipM (extM 4))) (seqM (blockM 5 (seqM (regM ref4_RoundsOf.r19) (condM (fun s => s.t_78) (regM ref4_RoundsOf.r20) skipM))) (regM ref4_RoundsOf.r18))))
            (fun (o : Ctl ref4_RoundsOf.S ref4_RoundsOf.R) => ∃ s4 : ref4_RoundsOf.S, o = .ext 4 s4 ∧ s4.t_0 = l ∧ s4.t_1 = se ∧ s4.t_2 = re ∧ s4.t_7 = O ∧ s4.t_8 = T ∧ s4.t_9 = td ∧ s4.t_10 = rs ∧ s4.t_11 = rs.length ∧ s4.t_12 = (sizeR rs.length : Int) ∧ s4.t_13 = B ∧ s4.t_14 = i ∧ s4.t_15 = O[i] ∧ (s4.t_16 = true ↔ open_ l se re td O[i])) s3 := by
        intro s3 e0 e1 e2 e7 e8 e9 e10 e11 e12 e13 e14 e15 e17 e16
        refine W_iter (fun s => s.t_0 = l ∧ s.t_1 = se ∧ s.t_2 = re ∧ s.t_7 = O ∧ s.t_8 = T ∧ s.t_9 = td ∧ s.t_10 = rs ∧ s.t_11 = rs.length ∧ s.t_12 = (sizeR rs.length : Int) ∧ s.t_13 = B ∧ s.t_14 = i ∧ s.t_15 = O[i] ∧ ∃ k : Nat, s.t_17 = k ∧ k ≤ td.length ∧ (s.t_16 = true ↔ (re.getD O[i].toNat false = true ∧ O[i] ∉ td) ∧ ¬ ∃ m ∈ td.take k, se.getD m.toNat false = true ∧ Anc l m.toNat O[i].toNat)) (fun s => td.length - s.t_17.toNat)
          ⟨e0, e1, e2, e7, e8, e9, e10, e11, e12, e13, e14, e15, 0, e17, by omega, by simpa using e16⟩ ?_
        rintro s ⟨e0, e1, e2, e7, e8, e9, e10, e11, e12, e13, e14, e15, k, e17, hk, e16⟩
        simp only [W_seq, W_block, W_reg, W_cond, W_skip, W_ext, W_ret, opt_some, opt_bind, opt_ite, thenQ_nrm, thenQ_ext, thenQ_ret, blkQ_nrm, blkQ_ext, blkQ_ret, if_true, true_and, and_true, decide_eq_true_eq, decide_eq_false_iff_not, Bool.or_eq_true, Bool.and_eq_true, Bool.or_eq_false_iff, Bool.and_eq_false_iff, Bool.true_eq_false, not_or, Classical.not_not, Bool.not_eq_true', Bool.not_eq_false', Int.not_lt, Int.not_le, Bool.false_eq_true, false_implies, true_implies, and_self, not_true_eq_false, not_false_eq_true, ref4_RoundsOf.retv, ref4_RoundsOf.r0, ref4_RoundsOf.r1, ref4_RoundsOf.r2, ref4_RoundsOf.r3, ref4_RoundsOf.r4, ref4_RoundsOf.r5, ref4_RoundsOf.r7, ref4_RoundsOf.r8, ref4_RoundsOf.r9, ref4_RoundsOf.r10, ref4_RoundsOf.r11, ref4_RoundsOf.r12, ref4_RoundsOf.r14, ref4_RoundsOf.r15, ref4_RoundsOf.r16, ref4_RoundsOf.r17, ref4_RoundsOf.r19, ref4_RoundsOf.r20, ref4_RoundsOf.r18, ref4_RoundsOf.r21, ref4_RoundsOf.r22, ref4_RoundsOf.r13, ref4_RoundsOf.r23, ref4_RoundsOf.r24, ref4_RoundsOf.r25, ref4_RoundsOf.r26, ref4_RoundsOf.r6, e0, e1, e2, e7, e8, e9, e10, e11, e12, e13, e14, e15, e17]
        refine ⟨fun hkl => ?_, fun hkl => ?_⟩
        · have hkl : k < td.length := by omega
          have hm := hin2 td[k] (List.getElem_mem hkl)
          have hTj := hT td[k].toNat (by omega)
          have hsj : idx se td[k] = some (se.getD td[k].toNat false) := idx_getDI hm.1 (by omega)
          have x1 : idx T td[k] = some (T.getD td[k].toNat []) := idx_getDI hm.1 (by omega)
          have x2 : idx (T.getD td[k].toNat []) O[i] = some ((T.getD td[k].toNat []).getD O[i].toNat false) := idx_getDI hn.1 (by rw [hTj.1]; omega)
          have hTa := hTj.2 O[i].toNat (by omega)
          have hex : (∃ m ∈ td.take (k + 1), se.getD m.toNat false = true ∧ Anc l m.toNat O[i].toNat) ↔ (∃ m ∈ td.take k, se.getD m.toNat false = true ∧ Anc l m.toNat O[i].toNat) ∨ (se.getD td[k].toNat false = true ∧ Anc l td[k].toNat O[i].toNat) := by
            have hmem : ∀ x : Int, (x ∈ td.take (k + 1)) ↔ (x ∈ td.take k ∨ x = td[k]) := fun x => by
              rw [List.take_add_one, List.getElem?_eq_getElem hkl]; simp only [Option.toList, List.mem_append, List.mem_singleton]
            constructor
            · rintro ⟨m, hm, h2⟩
              rcases (hmem m).1 hm with h3 | rfl
              · exact .inl ⟨m, h3, h2⟩
              · exact .inr h2
            · rintro (⟨m, hm, h2⟩ | h2)
              · exact ⟨m, (hmem m).2 (.inl hm), h2⟩
              · exact ⟨_, (hmem _).2 (.inr rfl), h2⟩
          have hno : ¬ (se.getD td[k].toNat false = true ∧ Anc l td[k].toNat O[i].toNat) → (s.t_16 = true ↔ (re.getD O[i].toNat false = true ∧ O[i] ∉ td) ∧ ¬ ∃ m ∈ td.take (k + 1), se.getD m.toNat false = true ∧ Anc l m.toNat O[i].toNat) := fun h => by
            rw [hex, e16]
            exact and_congr Iff.rfl (not_congr ⟨.inl, fun h2 => h2.resolve_right h⟩)
          rw [w64_succ (by omega)]
          refine opt_of (idx_nat' hkl) (opt_of hsj ⟨fun hs => opt_of (idx_nat' hkl) (opt_of x1 (opt_of x2 ⟨fun hz => ⟨⟨k + 1, rfl, by omega, ?_⟩, by omega⟩, fun hz => ⟨⟨k + 1, rfl, by omega, hno fun h => by rw [hTa.2 h.2] at hz; simp at hz⟩, by omega⟩⟩)), fun hs => ?_⟩)
          · rw [hex]
            constructor
            · intro h; simp at h
            · rintro ⟨_, h⟩; exact absurd (.inr ⟨hs, hTa.1 hz⟩) h
          · have hno2 := hno fun h => by rw [h.1] at hs; simp at hs
            first
            | exact ⟨⟨k + 1, rfl, by omega, hno2⟩, by omega⟩
            | exact ⟨fun h => (by cases h), fun _ => ⟨⟨k + 1, rfl, by omega, hno2⟩, by omega⟩⟩
        · have hkl2 : k = td.length := by omega
          subst hkl2
          rw [List.take_length] at e16
          refine ⟨_, rfl, rfl, rfl, rfl, rfl, rfl, rfl, rfl, rfl, rfl, rfl, rfl, rfl, ?_⟩
          show s.t_16 = true ↔ _
          rw [e16]
          unfold open_
          exact and_assoc
      have hcont : ∀ s4 : ref4_RoundsOf.S, True := fun _ => trivial
      refine opt_of (idx_nat' hlt1) (opt_of hre ⟨fun h1 => opt_of (Has_eq td _ (by rw [htd]; omega)) ?_, fun h1 => ?_⟩)
      · refine (hfin _ rfl rfl rfl rfl rfl rfl rfl rfl rfl rfl rfl rfl rfl ?_).mono ?_
        · show (!decide (O[i] ∈ td)) = true ↔ _
          rw [h1]; simp
        rintro o ⟨s4, rfl, e0, e1, e2, e7, e8, e9, e10, e11, e12, e13, e14, e15, e16⟩
        simp only [W_seq, W_block, W_reg, W_cond, W_skip, W_ext, W_ret, opt_some, opt_bind, opt_ite, thenQ_nrm, thenQ_ext, thenQ_ret, blkQ_nrm, blkQ_ext, blkQ_ret, if_true, true_and, and_true, decide_eq_true_eq, decide_eq_false_iff_not, Bool.or_eq_true, Bool.and_eq_true, Bool.or_eq_false_iff, Bool.and_eq_false_iff, Bool.true_eq_false, not_or, Classical.not_not, Bool.not_eq_true', Bool.not_eq_false', Int.not_lt, Int.not_le, Bool.false_eq_true, false_implies, true_implies, and_self, not_true_eq_false, not_false_eq_true, ref4_RoundsOf.retv, ref4_RoundsOf.r0, ref4_RoundsOf.r1, ref4_RoundsOf.r2, ref4_RoundsOf.r3, ref4_RoundsOf.r4, ref4_RoundsOf.r5, ref4_RoundsOf.r7, ref4_RoundsOf.r8, ref4_RoundsOf.r9, ref4_RoundsOf.r10, ref4_RoundsOf.r11, ref4_RoundsOf.r12, ref4_RoundsOf.r14, ref4_RoundsOf.r15, ref4_RoundsOf.r16, ref4_RoundsOf.r17, ref4_RoundsOf.r19, ref4_RoundsOf.r20, ref4_RoundsOf.r18, ref4_RoundsOf.r21, ref4_RoundsOf.r22, ref4_RoundsOf.r13, ref4_RoundsOf.r23, ref4_RoundsOf.r24, ref4_RoundsOf.r25, ref4_RoundsOf.r26, ref4_RoundsOf.r6, e0, e1, e2, e7, e8, e9, e10, e11, e12, e13, e14, e15, hwi]
        refine ⟨fun h6 => opt_of (appL_of (by simp only [List.length_cons, List.length_nil]; omega)) ⟨⟨i + 1, rfl, by omega, ?_⟩, by omega⟩, fun h6 => ⟨⟨i + 1, rfl, by omega, ?_⟩, by omega⟩⟩
        · rw [hnext, if_pos (e16.1 h6)]
        · rw [hnext, if_neg fun h => by rw [e16.2 h] at h6; simp at h6]
      · refine (hfin _ rfl rfl rfl rfl rfl rfl rfl rfl rfl rfl rfl rfl rfl ?_).mono ?_
        · show false = true ↔ _
          constructor
          · intro h; cases h
          · rintro ⟨h, _⟩
            first
            | exact absurd h h1
            | (rw [h1] at h; cases h)
        rintro o ⟨s4, rfl, e0, e1, e2, e7, e8, e9, e10, e11, e12, e13, e14, e15, e16⟩
        simp only [W_seq, W_block, W_reg, W_cond, W_skip, W_ext, W_ret, opt_some, opt_bind, opt_ite, thenQ_nrm, thenQ_ext, thenQ_ret, blkQ_nrm, blkQ_ext, blkQ_ret, if_true, true_and, and_true, decide_eq_true_eq, decide_eq_false_iff_not, Bool.or_eq_true, Bool.and_eq_true, Bool.or_eq_false_iff, Bool.and_eq_false_iff, Bool.true_eq_false, not_or, Classical.not_not, Bool.not_eq_true', Bool.not_eq_false', Int.not_lt, Int.not_le, Bool.false_eq_true, false_implies, true_implies, and_self, not_true_eq_false, not_false_eq_true, ref4_RoundsOf.retv, ref4_RoundsOf.r0, ref4_RoundsOf.r1, ref4_RoundsOf.r2, ref4_RoundsOf.r3, ref4_RoundsOf.r4, ref4_RoundsOf.r5, ref4_RoundsOf.r7, ref4_RoundsOf.r8, ref4_RoundsOf.r9, ref4_RoundsOf.r10, ref4_RoundsOf.r11, ref4_RoundsOf.r12, ref4_RoundsOf.r14, ref4_RoundsOf.r15, ref4_RoundsOf.r16, ref4_RoundsOf.r17, ref4_RoundsOf.r19, ref4_RoundsOf.r20, ref4_RoundsOf.r18, ref4_RoundsOf.r21, ref4_RoundsOf.r22, ref4_RoundsOf.r13, ref4_RoundsOf.r23, ref4_RoundsOf.r24, ref4_RoundsOf.r25, ref4_RoundsOf.r26, ref4_RoundsOf.r6, e0, e1, e2, e7, e8, e9, e10, e11, e12, e13, e14, e15, hwi]
        refine ⟨fun h6 => opt_of (appL_of (by simp only [List.length_cons, List.length_nil]; omega)) ⟨⟨i + 1, rfl, by omega, ?_⟩, by omega⟩, fun h6 => ⟨⟨i + 1, rfl, by omega, ?_⟩, by omega⟩⟩
        · rw [hnext, if_pos (e16.1 h6)]
        · rw [hnext, if_neg fun h => by rw [e16.2 h] at h6; simp at h6]
    · refine hQ _ rfl rfl rfl rfl rfl rfl rfl rfl ?_
      show B = batchOf l se re O td rs.length
      unfold batchOf
      by_cases hiO : i = O.length
      · rw [hB, hiO, List.take_length]
      · have hge2 : sizeR rs.length ≤ B.length := by omega
        rw [hcat, List.take_append_of_le_length (by rw [hB, List.length_take] at hge2; omega), hB]
  simp only [W_seq, W_block, W_reg, W_cond, W_skip, W_ext, W_ret, opt_some, opt_bind, opt_ite, thenQ_nrm, thenQ_ext, thenQ_ret, blkQ_nrm, blkQ_ext, blkQ_ret, if_true, true_and, and_true, decide_eq_true_eq, decide_eq_false_iff_not, Bool.or_eq_true, Bool.and_eq_true, Bool.or_eq_false_iff, Bool.and_eq_false_iff, Bool.true_eq_false, not_or, Classical.not_not, Bool.not_eq_true', Bool.not_eq_false', Int.not_lt, Int.not_le, Bool.false_eq_true, false_implies, true_implies, and_self, not_true_eq_false, not_false_eq_true, ref4_RoundsOf.retv, ref4_RoundsOf.r0, ref4_RoundsOf.r1, ref4_RoundsOf.r2, ref4_RoundsOf.r3, ref4_RoundsOf.r4, ref4_RoundsOf.r5, ref4_RoundsOf.r7, ref4_RoundsOf.r8, ref4_RoundsOf.r9, ref4_RoundsOf.r10, ref4_RoundsOf.r11, ref4_RoundsOf.r12, ref4_RoundsOf.r14, ref4_RoundsOf.r15, ref4_RoundsOf.r16, ref4_RoundsOf.r17, ref4_RoundsOf.r19, ref4_RoundsOf.r20, ref4_RoundsOf.r18, ref4_RoundsOf.r21, ref4_RoundsOf.r22, ref4_RoundsOf.r13, ref4_RoundsOf.r23, ref4_RoundsOf.r24, ref4_RoundsOf.r25, ref4_RoundsOf.r26, ref4_RoundsOf.r6, e0, e1, e2, e7, e8, e9, e11, ← hrs, ← htd]
  refine ⟨fun h4 => ⟨fun _ => ?_, fun h => absurd h (by omega)⟩, fun h4 => ?_⟩
  · refine round _ rfl rfl rfl rfl rfl rfl rfl rfl (shl_size (by omega)) rfl rfl _ ?_
    · skip
      intro s2 e0 e1 e2 e7 e8 e9 e10 e11 e13
      obtain ⟨B, hB⟩ : ∃ B, B = batchOf l se re O td rs.length := ⟨_, rfl⟩
      rw [← hB] at e13
      have hBs : ∀ x ∈ B, x ∈ O ∧ open_ l se re td x := fun x hx => batch_sub (hB ▸ hx)
      have hBl : B.length ≤ 16 := by rw [hB]; unfold batchOf; rw [List.length_take]; omega
      simp only [W_seq, W_block, W_reg, W_cond, W_skip, W_ext, W_ret, opt_some, opt_bind, opt_ite, thenQ_nrm, thenQ_ext, thenQ_ret, blkQ_nrm, blkQ_ext, blkQ_ret, if_true, true_and, and_true, decide_eq_true_eq, decide_eq_false_iff_not, Bool.or_eq_true, Bool.and_eq_true, Bool.or_eq_false_iff, Bool.and_eq_false_iff, Bool.true_eq_false, not_or, Classical.not_not, Bool.not_eq_true', Bool.not_eq_false', Int.not_lt, Int.not_le, Bool.false_eq_true, false_implies, true_implies, and_self, not_true_eq_false, not_false_eq_true, ref4_RoundsOf.retv, ref4_RoundsOf.r0, ref4_RoundsOf.r1, ref4_RoundsOf.r2, ref4_RoundsOf.r3, ref4_RoundsOf.r4, ref4_RoundsOf.r5, ref4_RoundsOf.r7, ref4_RoundsOf.r8, ref4_RoundsOf.r9, ref4_RoundsOf.r10, ref4_RoundsOf.r11, ref4_RoundsOf.r12, ref4_RoundsOf.r14, ref4_RoundsOf.r15, ref4_RoundsOf.r16, ref4_RoundsOf.r17, ref4_RoundsOf.r19, ref4_RoundsOf.r20, ref4_RoundsOf.r18, ref4_RoundsOf.r21, ref4_RoundsOf.r22, ref4_RoundsOf.r13, ref4_RoundsOf.r23, ref4_RoundsOf.r24, ref4_RoundsOf.r25, ref4_RoundsOf.r26, ref4_RoundsOf.r6, e0, e1, e2, e7, e8, e9, e10, e11, e13]
      refine ⟨fun hz => ⟨rs, rfl, hrun, ?_⟩, fun hz => opt_of (appL_of (by simp only [List.length_cons, List.length_nil]; omega)) (opt_of (appL_of (by omega)) ?_)⟩
      · rw [← htd, ← hB]; exact List.eq_nil_of_length_eq_zero (by omega)
      · have hBp : 0 < B.length := by omega
        have hBr : ∀ x ∈ B, 0 ≤ x ∧ x < l.length := fun x hx => hOr x (hBs x hx).1
        have htn : told (rs ++ [B]) = td ++ B := by rw [told_snoc, htd]
        have hx0 := hBs _ (List.getElem_mem hBp)
        have hxr := hBr _ (List.getElem_mem hBp)
        have hlt : cntP (fun i => !decide ((i : Int) ∈ told (rs ++ [B]))) l.length < cntP (fun i => !decide ((i : Int) ∈ told rs)) l.length := by
          rw [htn, ← htd]
          refine cntP_lt (b := B[0].toNat) (fun i hi => by simp at hi ⊢; exact hi.1) ?_ ?_ (by omega)
          · rw [show ((B[0].toNat : Nat) : Int) = B[0] by omega]; simpa using hx0.2.2.1
          · rw [show ((B[0].toNat : Nat) : Int) = B[0] by omega]; simp
        rw [w64_succ (by omega)]
        refine ⟨⟨htn.symm, by simp, ⟨fun k hk => ?_⟩, fun m hm => ?_, by rw [List.length_append, List.length_singleton]; omega⟩, by rw [htd]; exact hlt⟩
        · rw [List.length_append, List.length_singleton] at hk
          by_cases e : k = rs.length
          · subst e
            rw [List.take_left, List.getElem_append_right (Nat.le_refl _)]
            refine ⟨by simp [hB, htd], fun e => ?_⟩
            simp at e
            rw [e] at hBp
            simp at hBp
          · rw [List.take_append_of_le_length (by omega), List.getElem_append_left (by omega)]
            exact hrun.each k (by omega)
        · rw [htn] at hm
          rcases List.mem_append.1 hm with h3 | h3
          · exact hin2 m h3
          · exact hBr m h3
  · refine round _ rfl rfl rfl rfl rfl rfl rfl rfl (by show (16 : Int) = _; unfold sizeR; rw [if_neg (by omega)]; rfl) rfl rfl _ ?_
    · skip
      intro s2 e0 e1 e2 e7 e8 e9 e10 e11 e13
      obtain ⟨B, hB⟩ : ∃ B, B = batchOf l se re O td rs.length := ⟨_, rfl⟩
      rw [← hB] at e13
      have hBs : ∀ x ∈ B, x ∈ O ∧ open_ l se re td x := fun x hx => batch_sub (hB ▸ hx)
      have hBl : B.length ≤ 16 := by rw [hB]; unfold batchOf; rw [List.length_take]; omega
      simp only [W_seq, W_block, W_reg, W_cond, W_skip, W_ext, W_ret, opt_some, opt_bind, opt_ite, thenQ_nrm, thenQ_ext, thenQ_ret, blkQ_nrm, blkQ_ext, blkQ_ret, if_true, true_and, and_true, decide_eq_true_eq, decide_eq_false_iff_not, Bool.or_eq_true, Bool.and_eq_true, Bool.or_eq_false_iff, Bool.and_eq_false_iff, Bool.true_eq_false, not_or, Classical.not_not, Bool.not_eq_true', Bool.not_eq_false', Int.not_lt, Int.not_le, Bool.false_eq_true, false_implies, true_implies, and_self, not_true_eq_false, not_false_eq_true, ref4_RoundsOf.retv, ref4_RoundsOf.r0, ref4_RoundsOf.r1, ref4_RoundsOf.r2, ref4_RoundsOf.r3, ref4_RoundsOf.r4, ref4_RoundsOf.r5, ref4_RoundsOf.r7, ref4_RoundsOf.r8, ref4_RoundsOf.r9, ref4_RoundsOf.r10, ref4_RoundsOf.r11, ref4_RoundsOf.r12, ref4_RoundsOf.r14, ref4_RoundsOf.r15, ref4_RoundsOf.r16, ref4_RoundsOf.r17, ref4_RoundsOf.r19, ref4_RoundsOf.r20, ref4_RoundsOf.r18, ref4_RoundsOf.r21, ref4_RoundsOf.r22, ref4_RoundsOf.r13, ref4_RoundsOf.r23, ref4_RoundsOf.r24, ref4_RoundsOf.r25, ref4_RoundsOf.r26, ref4_RoundsOf.r6, e0, e1, e2, e7, e8, e9, e10, e11, e13]
      refine ⟨fun hz => ⟨rs, rfl, hrun, ?_⟩, fun hz => opt_of (appL_of (by simp only [List.length_cons, List.length_nil]; omega)) (opt_of (appL_of (by omega)) ?_)⟩
      · rw [← htd, ← hB]; exact List.eq_nil_of_length_eq_zero (by omega)
      · have hBp : 0 < B.length := by omega
        have hBr : ∀ x ∈ B, 0 ≤ x ∧ x < l.length := fun x hx => hOr x (hBs x hx).1
        have htn : told (rs ++ [B]) = td ++ B := by rw [told_snoc, htd]
        have hx0 := hBs _ (List.getElem_mem hBp)
        have hxr := hBr _ (List.getElem_mem hBp)
        have hlt : cntP (fun i => !decide ((i : Int) ∈ told (rs ++ [B]))) l.length < cntP (fun i => !decide ((i : Int) ∈ told rs)) l.length := by
          rw [htn, ← htd]
          refine cntP_lt (b := B[0].toNat) (fun i hi => by simp at hi ⊢; exact hi.1) ?_ ?_ (by omega)
          · rw [show ((B[0].toNat : Nat) : Int) = B[0] by omega]; simpa using hx0.2.2.1
          · rw [show ((B[0].toNat : Nat) : Int) = B[0] by omega]; simp
        rw [w64_succ (by omega)]
        refine ⟨⟨htn.symm, by simp, ⟨fun k hk => ?_⟩, fun m hm => ?_, by rw [List.length_append, List.length_singleton]; omega⟩, by rw [htd]; exact hlt⟩
        · rw [List.length_append, List.length_singleton] at hk
          by_cases e : k = rs.length
          · subst e
            rw [List.take_left, List.getElem_append_right (Nat.le_refl _)]
            refine ⟨by simp [hB, htd], fun e => ?_⟩
            simp at e
            rw [e] at hBp
            simp at hBp
          · rw [List.take_append_of_le_length (by omega), List.getElem_append_left (by omega)]
            exact hrun.each k (by omega)
        · rw [htn] at hm
          rcases List.mem_append.1 hm with h3 | h3
          · exact hin2 m h3
          · exact hBr m h3
end Go.Proofs.Ytilodamhgepjoaa
