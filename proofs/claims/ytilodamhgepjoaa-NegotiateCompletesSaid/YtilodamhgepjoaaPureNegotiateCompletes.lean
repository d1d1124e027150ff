/- NegotiateCompletes, the plain part. -/
import Derived.Test.YtilodamhgepjoaaPn7
import Derived.Test.YtilodamhgepjoaaOp
namespace Go.Proofs.Ytilodamhgepjoaa.Pure
open Go.Fx Go.RowKit
set_option linter.unusedVariables false
set_option linter.unusedSimpArgs false
theorem NegotiateCompletes {l : List Commit} {se re : List Bool} {ws : List Int} (hl : okL ok_Commit l) (h1 : okL (fun _ => True) se) (h2 : okL (fun _ => True) re) (hw : okL (okI .i64) ws) : law4_NegotiateCompletes.f l se re ws = some true := by
  refine retOf_of ?_
  unfold law4_NegotiateCompletes.body
  by_cases h : nFault l se re ws = ⟨0, 0⟩
  · obtain ⟨O, rs, hr, _⟩ := Run_good h
    have hn := nv_of h
    have hH := hist_of hn.hf
    have ht := hH.topo
    have hl60 := hH.len
    have hsl := hn.sel
    have hrl := hn.rel
    have hwlen := hn.wl
    have fN : ref4_NegotiateFault.f l se re ws = some ⟨0, 0⟩ := by rw [NegotiateFault_eq l se re ws hw.1, h]
    have hSl : (lacks l ws re).length ≤ l.length := selP_len
    have hSi : (lacks l ws re).Pairwise (· < ·) := selP_inc
    have hSm : ∀ x, x ∈ lacks l ws re ↔ ∃ i : Nat, x = i ∧ i < l.length ∧ (∃ w ∈ ws, Anc l w.toNat i) ∧ re.getD i false = false := fun x => by
      unfold lacks
      rw [selP_mem]
      refine exists_congr fun i => and_congr Iff.rfl (and_congr Iff.rfl lackB_iff)
    obtain ⟨S, hS⟩ : ∃ S, S = lacks l ws re := ⟨_, rfl⟩
    rw [← hS] at hr hSl hSi hSm
    have hap : appL 1 ([] : List Bool) re = some re := by rw [appL_of (by simp; omega)]; rfl
    have hwl : w64 ((l.length : Int) - 1) = (l.length : Int) - 1 := w64_id (by omega) (by omega)
    simp only [W_seq, W_block, W_reg, W_cond, W_skip, W_ext, W_ret, opt_some, opt_bind, opt_ite, thenQ_nrm, thenQ_ext, thenQ_ret, blkQ_nrm, blkQ_ext, blkQ_ret, if_true, true_and, and_true, decide_eq_true_eq, decide_eq_false_iff_not, Bool.or_eq_true, Bool.and_eq_true, Bool.or_eq_false_iff, Bool.and_eq_false_iff, Bool.true_eq_false, not_or, Classical.not_not, Bool.not_eq_true', Bool.not_eq_false', Int.not_lt, Int.not_le, Bool.false_eq_true, false_implies, true_implies, and_self, not_true_eq_false, not_false_eq_true, law4_NegotiateCompletes.retv, law4_NegotiateCompletes.r0, law4_NegotiateCompletes.r1, law4_NegotiateCompletes.r2, law4_NegotiateCompletes.r3, law4_NegotiateCompletes.r4, law4_NegotiateCompletes.r5, law4_NegotiateCompletes.r6, law4_NegotiateCompletes.r7, law4_NegotiateCompletes.r8, law4_NegotiateCompletes.r10, law4_NegotiateCompletes.r11, law4_NegotiateCompletes.r12, law4_NegotiateCompletes.r9, law4_NegotiateCompletes.r13, law4_NegotiateCompletes.r14, law4_NegotiateCompletes.r16, law4_NegotiateCompletes.r17, law4_NegotiateCompletes.r15, law4_NegotiateCompletes.r18, law4_NegotiateCompletes.r19, law4_NegotiateCompletes.r21, law4_NegotiateCompletes.r22, law4_NegotiateCompletes.r24, law4_NegotiateCompletes.r25, law4_NegotiateCompletes.r23, law4_NegotiateCompletes.r20, law4_NegotiateCompletes.r26, nego_example_eq, hr, fN, hap, Bool.not_true, not_true_eq_false, or_self, decide_true]
    refine W_iter (fun s => s.t_0 = l ∧ s.t_1 = se ∧ s.t_3 = ws ∧ s.t_10 = S ∧ ∃ i : Nat, s.t_13 = i ∧ i ≤ S.length ∧ s.t_12.length = l.length ∧ ∀ k, k < l.length → (s.t_12.getD k false = true ↔ re.getD k false = true ∨ (k : Int) ∈ S.take i)) (fun s => S.length - s.t_13.toNat) ⟨rfl, rfl, rfl, rfl, 0, rfl, by omega, hrl, by simp⟩ ?_
    rintro s ⟨e0, e1, e3, e10, i, e13, hi, hvl, hv⟩
    simp only [W_seq, W_block, W_reg, W_cond, W_skip, W_ext, W_ret, opt_some, opt_bind, opt_ite, thenQ_nrm, thenQ_ext, thenQ_ret, blkQ_nrm, blkQ_ext, blkQ_ret, if_true, true_and, and_true, decide_eq_true_eq, decide_eq_false_iff_not, Bool.or_eq_true, Bool.and_eq_true, Bool.or_eq_false_iff, Bool.and_eq_false_iff, Bool.true_eq_false, not_or, Classical.not_not, Bool.not_eq_true', Bool.not_eq_false', Int.not_lt, Int.not_le, Bool.false_eq_true, false_implies, true_implies, and_self, not_true_eq_false, not_false_eq_true, law4_NegotiateCompletes.retv, law4_NegotiateCompletes.r0, law4_NegotiateCompletes.r1, law4_NegotiateCompletes.r2, law4_NegotiateCompletes.r3, law4_NegotiateCompletes.r4, law4_NegotiateCompletes.r5, law4_NegotiateCompletes.r6, law4_NegotiateCompletes.r7, law4_NegotiateCompletes.r8, law4_NegotiateCompletes.r10, law4_NegotiateCompletes.r11, law4_NegotiateCompletes.r12, law4_NegotiateCompletes.r9, law4_NegotiateCompletes.r13, law4_NegotiateCompletes.r14, law4_NegotiateCompletes.r16, law4_NegotiateCompletes.r17, law4_NegotiateCompletes.r15, law4_NegotiateCompletes.r18, law4_NegotiateCompletes.r19, law4_NegotiateCompletes.r21, law4_NegotiateCompletes.r22, law4_NegotiateCompletes.r24, law4_NegotiateCompletes.r25, law4_NegotiateCompletes.r23, law4_NegotiateCompletes.r20, law4_NegotiateCompletes.r26, In_eq, e0, e1, e3, e10, e13, hwl]
    refine ⟨fun hlt => ?_, fun hge => ?_⟩
    · have hlt : i < S.length := by omega
      obtain ⟨q, hq, hql, ⟨w, hwm, ha⟩, hqr⟩ := (hSm _).1 (List.getElem_mem hlt)
      have hnq : ¬ ((q : Int) ∈ S.take i) := by rw [← hq]; exact inc_nodup hSi hlt
      have hvq : s.t_12.getD q false = false := by
        have := hv q hql
        cases hx : s.t_12.getD q false with
        | false => rfl
        | true => rcases this.1 hx with h3 | h3
                  · rw [hqr] at h3; cases h3
                  · exact absurd h3 hnq
      have hsq : se.getD q false = true := closed_anc hn.scl ha (hn.win w hwm).2
      have x1 : idx s.t_12 S[i] = some false := by rw [hq, idx_getD (d := false) (by omega), hvq]
      have x2 : idx se S[i] = some true := by rw [hq, idx_getD (d := false) (by omega), hsq]
      have hwi : w64 ((i : Int) + 1) = ((i + 1 : Nat) : Int) := w64_succ (by omega)
      simp only [hwi]
      refine opt_of (idx_nat' hlt) ⟨fun hz => absurd hz (by omega), fun hz => opt_of (idx_nat' hlt) (opt_of x1 ⟨fun hz => (by cases hz), fun hz => opt_of (idx_nat' hlt) (opt_of x2 ⟨fun hz => (by cases hz), fun hz => opt_of (idx_nat' hlt) (opt_of x1 ⟨⟨i + 1, rfl, by omega, by rw [setL_len]; exact hvl, fun k hk => ?_⟩, by omega⟩)⟩)⟩)⟩
      have hmem : ((k : Int) ∈ S.take (i + 1)) ↔ ((k : Int) ∈ S.take i ∨ (k : Int) = S[i]) := by
        rw [List.take_add_one, List.getElem?_eq_getElem hlt]; simp only [Option.toList, List.mem_append, List.mem_singleton]
      rw [getD_setI (by omega) (by omega), hmem]
      by_cases e : (k : Int) = S[i]
      · rw [if_pos e]; simp [e]
      · rw [if_neg e, hv k hk]; simp [e]
    have hiS : i = S.length := by omega
    subst hiS
    rw [List.take_length] at hv
    obtain ⟨V, hV⟩ : ∃ V, V = s.t_12 := ⟨_, rfl⟩
    rw [← hV] at hvl hv
    have hall : ∀ k, k < l.length → (∃ w ∈ ws, Anc l w.toNat k) → V.getD k false = true := fun k hk ha => by
      rw [hv k hk]
      cases hx : re.getD k false with
      | true => exact .inl rfl
      | false => exact .inr ((hSm _).2 ⟨k, rfl, hk, ha, hx⟩)
    have hdown : ∀ k p : Nat, k < l.length → (p : Int) ∈ Go.Proofs.Ytilodamhgepjoaa.par l k → V.getD k false = true → V.getD p false = true := fun k p hk hp hvk => by
      have hx : l[k]? = some l[k] := List.getElem?_eq_getElem hk
      rw [par_of hx] at hp
      have hpl := (ht k _ hx _ hp).2
      have hst : Anc l k p := .step hx hp (.refl _)
      rcases (hv k hk).1 hvk with h3 | h3
      · exact (hv p (by omega)).2 (.inl (closed_anc hn.rcl hst h3))
      · obtain ⟨q, hq, _, ⟨w, hwm, ha⟩, _⟩ := (hSm _).1 h3
        have : k = q := by omega
        subst this
        exact hall p (by omega) ⟨w, hwm, ha.trans hst⟩
    simp only [← hV]
    clear hv
    refine W_iter (fun s => s.t_0 = l ∧ s.t_3 = ws ∧ s.t_12 = V ∧ ∃ i : Nat, s.t_14 = i ∧ i ≤ ws.length) (fun s => ws.length - s.t_14.toNat) ⟨rfl, rfl, rfl, 0, rfl, by omega⟩ ?_
    rintro s ⟨e0, e3, e12, i, e14, hi⟩
    simp only [W_seq, W_block, W_reg, W_cond, W_skip, W_ext, W_ret, opt_some, opt_bind, opt_ite, thenQ_nrm, thenQ_ext, thenQ_ret, blkQ_nrm, blkQ_ext, blkQ_ret, if_true, true_and, and_true, decide_eq_true_eq, decide_eq_false_iff_not, Bool.or_eq_true, Bool.and_eq_true, Bool.or_eq_false_iff, Bool.and_eq_false_iff, Bool.true_eq_false, not_or, Classical.not_not, Bool.not_eq_true', Bool.not_eq_false', Int.not_lt, Int.not_le, Bool.false_eq_true, false_implies, true_implies, and_self, not_true_eq_false, not_false_eq_true, law4_NegotiateCompletes.retv, law4_NegotiateCompletes.r0, law4_NegotiateCompletes.r1, law4_NegotiateCompletes.r2, law4_NegotiateCompletes.r3, law4_NegotiateCompletes.r4, law4_NegotiateCompletes.r5, law4_NegotiateCompletes.r6, law4_NegotiateCompletes.r7, law4_NegotiateCompletes.r8, law4_NegotiateCompletes.r10, law4_NegotiateCompletes.r11, law4_NegotiateCompletes.r12, law4_NegotiateCompletes.r9, law4_NegotiateCompletes.r13, law4_NegotiateCompletes.r14, law4_NegotiateCompletes.r16, law4_NegotiateCompletes.r17, law4_NegotiateCompletes.r15, law4_NegotiateCompletes.r18, law4_NegotiateCompletes.r19, law4_NegotiateCompletes.r21, law4_NegotiateCompletes.r22, law4_NegotiateCompletes.r24, law4_NegotiateCompletes.r25, law4_NegotiateCompletes.r23, law4_NegotiateCompletes.r20, law4_NegotiateCompletes.r26, e0, e3, e12, e14]
    refine ⟨fun hlt => ?_, fun hge => ?_⟩
    · have hlt : i < ws.length := by omega
      have hwi := hn.win _ (List.getElem_mem hlt)
      have x1 : idx V ws[i] = some true := by
        rw [idx_getDI (d := false) hwi.1.1 (by omega), hall ws[i].toNat (by omega) ⟨_, List.getElem_mem hlt, .refl _⟩]
      rw [w64_succ (by omega)]
      refine opt_of (idx_nat' hlt) (opt_of x1 ?_)
      first
      | exact ⟨⟨i + 1, rfl, by omega⟩, by omega⟩
      | exact ⟨fun hz => (by cases hz), fun _ => ⟨⟨i + 1, rfl, by omega⟩, by omega⟩⟩
    refine W_iter (fun s => s.t_0 = l ∧ s.t_12 = V ∧ ∃ i : Nat, s.t_15 = i ∧ i ≤ l.length) (fun s => l.length - s.t_15.toNat) ⟨rfl, rfl, 0, rfl, by omega⟩ ?_
    rintro s ⟨e0, e12, i, e15, hi⟩
    simp only [W_seq, W_block, W_reg, W_cond, W_skip, W_ext, W_ret, opt_some, opt_bind, opt_ite, thenQ_nrm, thenQ_ext, thenQ_ret, blkQ_nrm, blkQ_ext, blkQ_ret, if_true, true_and, and_true, decide_eq_true_eq, decide_eq_false_iff_not, Bool.or_eq_true, Bool.and_eq_true, Bool.or_eq_false_iff, Bool.and_eq_false_iff, Bool.true_eq_false, not_or, Classical.not_not, Bool.not_eq_true', Bool.not_eq_false', Int.not_lt, Int.not_le, Bool.false_eq_true, false_implies, true_implies, and_self, not_true_eq_false, not_false_eq_true, law4_NegotiateCompletes.retv, law4_NegotiateCompletes.r0, law4_NegotiateCompletes.r1, law4_NegotiateCompletes.r2, law4_NegotiateCompletes.r3, law4_NegotiateCompletes.r4, law4_NegotiateCompletes.r5, law4_NegotiateCompletes.r6, law4_NegotiateCompletes.r7, law4_NegotiateCompletes.r8, law4_NegotiateCompletes.r10, law4_NegotiateCompletes.r11, law4_NegotiateCompletes.r12, law4_NegotiateCompletes.r9, law4_NegotiateCompletes.r13, law4_NegotiateCompletes.r14, law4_NegotiateCompletes.r16, law4_NegotiateCompletes.r17, law4_NegotiateCompletes.r15, law4_NegotiateCompletes.r18, law4_NegotiateCompletes.r19, law4_NegotiateCompletes.r21, law4_NegotiateCompletes.r22, law4_NegotiateCompletes.r24, law4_NegotiateCompletes.r25, law4_NegotiateCompletes.r23, law4_NegotiateCompletes.r20, law4_NegotiateCompletes.r26, e0, e12, e15]
    refine ⟨fun hlt => ?_, fun hge => trivial⟩
    have hlt : i < l.length := by omega
    obtain ⟨c, hc⟩ : ∃ c, l[i]? = some c := ⟨l[i], List.getElem?_eq_getElem hlt⟩
    have hcI : idx l (i : Int) = some c := by rw [idx_nat' hlt, ← List.getElem?_eq_getElem hlt, hc]
    have hpl := hH.pars c (List.mem_of_getElem? hc)
    have hpt := ht i c hc
    have hwi : w64 ((i : Int) + 1) = ((i + 1 : Nat) : Int) := w64_succ (by omega)
    refine W_iter (fun s => s.t_0 = l ∧ s.t_12 = V ∧ s.t_15 = i ∧ ∃ k : Nat, s.t_16 = k ∧ k ≤ c.Parents.length) (fun s => c.Parents.length - s.t_16.toNat) ⟨rfl, rfl, rfl, 0, rfl, by omega⟩ ?_
    rintro s ⟨e0, e12, e15, k, e16, hk⟩
    simp only [W_seq, W_block, W_reg, W_cond, W_skip, W_ext, W_ret, opt_some, opt_bind, opt_ite, thenQ_nrm, thenQ_ext, thenQ_ret, blkQ_nrm, blkQ_ext, blkQ_ret, if_true, true_and, and_true, decide_eq_true_eq, decide_eq_false_iff_not, Bool.or_eq_true, Bool.and_eq_true, Bool.or_eq_false_iff, Bool.and_eq_false_iff, Bool.true_eq_false, not_or, Classical.not_not, Bool.not_eq_true', Bool.not_eq_false', Int.not_lt, Int.not_le, Bool.false_eq_true, false_implies, true_implies, and_self, not_true_eq_false, not_false_eq_true, law4_NegotiateCompletes.retv, law4_NegotiateCompletes.r0, law4_NegotiateCompletes.r1, law4_NegotiateCompletes.r2, law4_NegotiateCompletes.r3, law4_NegotiateCompletes.r4, law4_NegotiateCompletes.r5, law4_NegotiateCompletes.r6, law4_NegotiateCompletes.r7, law4_NegotiateCompletes.r8, law4_NegotiateCompletes.r10, law4_NegotiateCompletes.r11, law4_NegotiateCompletes.r12, law4_NegotiateCompletes.r9, law4_NegotiateCompletes.r13, law4_NegotiateCompletes.r14, law4_NegotiateCompletes.r16, law4_NegotiateCompletes.r17, law4_NegotiateCompletes.r15, law4_NegotiateCompletes.r18, law4_NegotiateCompletes.r19, law4_NegotiateCompletes.r21, law4_NegotiateCompletes.r22, law4_NegotiateCompletes.r24, law4_NegotiateCompletes.r25, law4_NegotiateCompletes.r23, law4_NegotiateCompletes.r20, law4_NegotiateCompletes.r26, e0, e12, e15, e16, hwi]
    refine opt_of hcI ⟨fun hkl => ?_, fun hkl => ⟨⟨i + 1, rfl, by omega⟩, by omega⟩⟩
    have hkl : k < c.Parents.length := by omega
    have hp := hpt _ (List.getElem_mem hkl)
    have hgo : (∃ k_1 : Nat, ((k + 1 : Nat) : Int) = k_1 ∧ k_1 ≤ c.Parents.length) ∧ c.Parents.length - (((k + 1 : Nat) : Int)).toNat < c.Parents.length - ((k : Int)).toNat := ⟨⟨k + 1, rfl, by omega⟩, by omega⟩
    rw [w64_succ (by omega)]
    refine opt_of (idx_getD (d := false) (by omega : i < V.length)) ⟨fun hvi => ?_, fun hvi => ?_⟩
    · have x2 : idx V c.Parents[k] = some true := by
        rw [idx_getDI (d := false) hp.1 (by omega), hdown i c.Parents[k].toNat hlt (by rw [par_of hc, show ((c.Parents[k].toNat : Nat) : Int) = c.Parents[k] by omega]; exact List.getElem_mem hkl) hvi]
      refine opt_of hcI (opt_of (idx_nat' hkl) (opt_of x2 ?_))
      first
      | exact hgo
      | exact ⟨fun hz => (by cases hz), fun _ => hgo⟩
    · first
      | exact hgo
      | exact ⟨fun hz => (by cases hz), fun _ => hgo⟩
  · have hc := nFault_code h
    simp only [W_seq, W_block, W_reg, W_cond, W_skip, W_ext, W_ret, opt_some, opt_bind, opt_ite, thenQ_nrm, thenQ_ext, thenQ_ret, blkQ_nrm, blkQ_ext, blkQ_ret, if_true, true_and, and_true, decide_eq_true_eq, decide_eq_false_iff_not, Bool.or_eq_true, Bool.and_eq_true, Bool.or_eq_false_iff, Bool.and_eq_false_iff, Bool.true_eq_false, not_or, Classical.not_not, Bool.not_eq_true', Bool.not_eq_false', Int.not_lt, Int.not_le, Bool.false_eq_true, false_implies, true_implies, and_self, not_true_eq_false, not_false_eq_true, law4_NegotiateCompletes.retv, law4_NegotiateCompletes.r0, law4_NegotiateCompletes.r1, law4_NegotiateCompletes.r2, law4_NegotiateCompletes.r3, law4_NegotiateCompletes.r4, law4_NegotiateCompletes.r5, law4_NegotiateCompletes.r6, law4_NegotiateCompletes.r7, law4_NegotiateCompletes.r8, law4_NegotiateCompletes.r10, law4_NegotiateCompletes.r11, law4_NegotiateCompletes.r12, law4_NegotiateCompletes.r9, law4_NegotiateCompletes.r13, law4_NegotiateCompletes.r14, law4_NegotiateCompletes.r16, law4_NegotiateCompletes.r17, law4_NegotiateCompletes.r15, law4_NegotiateCompletes.r18, law4_NegotiateCompletes.r19, law4_NegotiateCompletes.r21, law4_NegotiateCompletes.r22, law4_NegotiateCompletes.r24, law4_NegotiateCompletes.r25, law4_NegotiateCompletes.r23, law4_NegotiateCompletes.r20, law4_NegotiateCompletes.r26, nego_example_eq, Run_bad h]
    simp [hc, w64_id]
end Go.Proofs.Ytilodamhgepjoaa.Pure
