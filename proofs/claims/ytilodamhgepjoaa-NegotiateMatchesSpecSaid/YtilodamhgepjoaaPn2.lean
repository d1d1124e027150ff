/- Negotiation: the reference's fault; ancestors, marks, what is missing. -/
import Derived.Test.YtilodamhgepjoaaPn1
import Derived.Test.YtilodamhgepjoaaPA
namespace Go.Proofs.Ytilodamhgepjoaa
open Go.Fx
set_option linter.unusedVariables false
set_option linter.unusedSimpArgs false

theorem setL_len {α : Type} {v : List α} {p : Int} {x : α} : (setL v p x).length = v.length := by unfold setL; rw [List.length_set]
theorem idx_getDI {α : Type} {xs : List α} {p : Int} {d : α} (h0 : 0 ≤ p) (h : p.toNat < xs.length) : idx xs p = some (xs.getD p.toNat d) := by
  have := idx_getD (xs := xs) (i := p.toNat) (d := d) h
  rwa [show ((p.toNat : Nat) : Int) = p by omega] at this
theorem getD_setI {v : List Bool} {p : Int} {i : Nat} {x : Bool} (h0 : 0 ≤ p) (hk : p.toNat < v.length) : (setL v p x).getD i false = if (i : Int) = p then x else v.getD i false := by
  have := getD_set_bool (v := v) (k := p.toNat) (i := i) (x := x) hk
  rw [show ((p.toNat : Nat) : Int) = p by omega] at this
  rw [this]
  by_cases e : (i : Int) = p
  · rw [if_pos e, if_pos (by omega)]
  · rw [if_neg e, if_neg (by omega)]

/-- The scan of the reference for a set that is not closed. -/
theorem NegotiateFault_eq (l : List Commit) (se re : List Bool) (ws : List Int) (hw : ws.length ≤ 9223372036854775807) : ref4_NegotiateFault.f l se re ws = some (nFault l se re ws) := by
  refine retOf_of ?_
  unfold ref4_NegotiateFault.body
  generalize hr : nFault l se re ws = r
  rcases hFault_cases l with ⟨hh, _, _⟩ | hcode
  rotate_left
  · have hh : hFault l ≠ ⟨0, 0⟩ := fun e => hcode (by rw [e])
    have e : r = hFault l := by rw [← hr]; unfold nFault; rw [if_pos hh]
    simp only [W_seq, W_block, W_reg, W_cond, W_skip, W_ext, W_ret, opt_some, opt_bind, opt_ite, thenQ_nrm, thenQ_ext, thenQ_ret, blkQ_nrm, blkQ_ext, blkQ_ret, if_true, true_and, and_true, decide_eq_true_eq, decide_eq_false_iff_not, Bool.or_eq_true, Bool.and_eq_true, Bool.or_eq_false_iff, Bool.and_eq_false_iff, Bool.true_eq_false, not_or, Classical.not_not, Bool.not_eq_true', Bool.not_eq_false', Int.not_lt, Int.not_le, Bool.false_eq_true, false_implies, true_implies, and_self, not_true_eq_false, not_false_eq_true, ref4_NegotiateFault.retv, ref4_NegotiateFault.r0, ref4_NegotiateFault.r1, ref4_NegotiateFault.r2, ref4_NegotiateFault.r3, ref4_NegotiateFault.r4, ref4_NegotiateFault.r5, ref4_NegotiateFault.r6, ref4_NegotiateFault.r7, ref4_NegotiateFault.r8, ref4_NegotiateFault.r9, ref4_NegotiateFault.r11, ref4_NegotiateFault.r12, ref4_NegotiateFault.r14, ref4_NegotiateFault.r15, ref4_NegotiateFault.r13, ref4_NegotiateFault.r10, ref4_NegotiateFault.r16, ref4_NegotiateFault.r17, ref4_NegotiateFault.r19, ref4_NegotiateFault.r20, ref4_NegotiateFault.r22, ref4_NegotiateFault.r23, ref4_NegotiateFault.r21, ref4_NegotiateFault.r18, ref4_NegotiateFault.r24, ref4_NegotiateFault.r25, ref4_NegotiateFault.r26, ref4_NegotiateFault.r27, ref4_NegotiateFault.r29, ref4_NegotiateFault.r30, ref4_NegotiateFault.r28, ref4_NegotiateFault.r31, HistoryFault_eq, hcode, not_false_eq_true, e]
  have hH := hist_of hh
  have hl60 := hH.len
  by_cases h1 : se.length = l.length
  rotate_left
  · have e : r = ⟨9, -1⟩ := by rw [← hr]; unfold nFault; rw [if_neg (by simpa using hh), if_pos h1]
    have h1' : ¬ ((se.length : Int) = l.length) := by omega
    simp only [W_seq, W_block, W_reg, W_cond, W_skip, W_ext, W_ret, opt_some, opt_bind, opt_ite, thenQ_nrm, thenQ_ext, thenQ_ret, blkQ_nrm, blkQ_ext, blkQ_ret, if_true, true_and, and_true, decide_eq_true_eq, decide_eq_false_iff_not, Bool.or_eq_true, Bool.and_eq_true, Bool.or_eq_false_iff, Bool.and_eq_false_iff, Bool.true_eq_false, not_or, Classical.not_not, Bool.not_eq_true', Bool.not_eq_false', Int.not_lt, Int.not_le, Bool.false_eq_true, false_implies, true_implies, and_self, not_true_eq_false, not_false_eq_true, ref4_NegotiateFault.retv, ref4_NegotiateFault.r0, ref4_NegotiateFault.r1, ref4_NegotiateFault.r2, ref4_NegotiateFault.r3, ref4_NegotiateFault.r4, ref4_NegotiateFault.r5, ref4_NegotiateFault.r6, ref4_NegotiateFault.r7, ref4_NegotiateFault.r8, ref4_NegotiateFault.r9, ref4_NegotiateFault.r11, ref4_NegotiateFault.r12, ref4_NegotiateFault.r14, ref4_NegotiateFault.r15, ref4_NegotiateFault.r13, ref4_NegotiateFault.r10, ref4_NegotiateFault.r16, ref4_NegotiateFault.r17, ref4_NegotiateFault.r19, ref4_NegotiateFault.r20, ref4_NegotiateFault.r22, ref4_NegotiateFault.r23, ref4_NegotiateFault.r21, ref4_NegotiateFault.r18, ref4_NegotiateFault.r24, ref4_NegotiateFault.r25, ref4_NegotiateFault.r26, ref4_NegotiateFault.r27, ref4_NegotiateFault.r29, ref4_NegotiateFault.r30, ref4_NegotiateFault.r28, ref4_NegotiateFault.r31, HistoryFault_eq, Fault_eq, hh, e, h1', not_true_eq_false, not_false_eq_true]
  by_cases h2 : re.length = l.length
  rotate_left
  · have e : r = ⟨9, -2⟩ := by rw [← hr]; unfold nFault; rw [if_neg (by simpa using hh), if_neg (by simpa using h1), if_pos h2]
    have h2' : ¬ ((re.length : Int) = l.length) := by omega
    simp only [W_seq, W_block, W_reg, W_cond, W_skip, W_ext, W_ret, opt_some, opt_bind, opt_ite, thenQ_nrm, thenQ_ext, thenQ_ret, blkQ_nrm, blkQ_ext, blkQ_ret, if_true, true_and, and_true, decide_eq_true_eq, decide_eq_false_iff_not, Bool.or_eq_true, Bool.and_eq_true, Bool.or_eq_false_iff, Bool.and_eq_false_iff, Bool.true_eq_false, not_or, Classical.not_not, Bool.not_eq_true', Bool.not_eq_false', Int.not_lt, Int.not_le, Bool.false_eq_true, false_implies, true_implies, and_self, not_true_eq_false, not_false_eq_true, ref4_NegotiateFault.retv, ref4_NegotiateFault.r0, ref4_NegotiateFault.r1, ref4_NegotiateFault.r2, ref4_NegotiateFault.r3, ref4_NegotiateFault.r4, ref4_NegotiateFault.r5, ref4_NegotiateFault.r6, ref4_NegotiateFault.r7, ref4_NegotiateFault.r8, ref4_NegotiateFault.r9, ref4_NegotiateFault.r11, ref4_NegotiateFault.r12, ref4_NegotiateFault.r14, ref4_NegotiateFault.r15, ref4_NegotiateFault.r13, ref4_NegotiateFault.r10, ref4_NegotiateFault.r16, ref4_NegotiateFault.r17, ref4_NegotiateFault.r19, ref4_NegotiateFault.r20, ref4_NegotiateFault.r22, ref4_NegotiateFault.r23, ref4_NegotiateFault.r21, ref4_NegotiateFault.r18, ref4_NegotiateFault.r24, ref4_NegotiateFault.r25, ref4_NegotiateFault.r26, ref4_NegotiateFault.r27, ref4_NegotiateFault.r29, ref4_NegotiateFault.r30, ref4_NegotiateFault.r28, ref4_NegotiateFault.r31, HistoryFault_eq, Fault_eq, hh, e, h1, h2', not_true_eq_false, not_false_eq_true]
  have hN : r = if 0 ≤ clI l se then ⟨5, clI l se⟩ else if 0 ≤ clI l re then ⟨5, -3 - clI l re⟩ else if 60 < ws.length then ⟨2, -1⟩ else ((List.range ws.length).findSome? (wF l se ws)).getD ⟨0, 0⟩ := by
    rw [← hr]; unfold nFault; rw [if_neg (by simpa using hh), if_neg (by simpa using h1), if_neg (by simpa using h2)]
  simp only [W_seq, W_block, W_reg, W_cond, W_skip, W_ext, W_ret, opt_some, opt_bind, opt_ite, thenQ_nrm, thenQ_ext, thenQ_ret, blkQ_nrm, blkQ_ext, blkQ_ret, if_true, true_and, and_true, decide_eq_true_eq, decide_eq_false_iff_not, Bool.or_eq_true, Bool.and_eq_true, Bool.or_eq_false_iff, Bool.and_eq_false_iff, Bool.true_eq_false, not_or, Classical.not_not, Bool.not_eq_true', Bool.not_eq_false', Int.not_lt, Int.not_le, Bool.false_eq_true, false_implies, true_implies, and_self, not_true_eq_false, not_false_eq_true, ref4_NegotiateFault.retv, ref4_NegotiateFault.r0, ref4_NegotiateFault.r1, ref4_NegotiateFault.r2, ref4_NegotiateFault.r3, ref4_NegotiateFault.r4, ref4_NegotiateFault.r5, ref4_NegotiateFault.r6, ref4_NegotiateFault.r7, ref4_NegotiateFault.r8, ref4_NegotiateFault.r9, ref4_NegotiateFault.r11, ref4_NegotiateFault.r12, ref4_NegotiateFault.r14, ref4_NegotiateFault.r15, ref4_NegotiateFault.r13, ref4_NegotiateFault.r10, ref4_NegotiateFault.r16, ref4_NegotiateFault.r17, ref4_NegotiateFault.r19, ref4_NegotiateFault.r20, ref4_NegotiateFault.r22, ref4_NegotiateFault.r23, ref4_NegotiateFault.r21, ref4_NegotiateFault.r18, ref4_NegotiateFault.r24, ref4_NegotiateFault.r25, ref4_NegotiateFault.r26, ref4_NegotiateFault.r27, ref4_NegotiateFault.r29, ref4_NegotiateFault.r30, ref4_NegotiateFault.r28, ref4_NegotiateFault.r31, HistoryFault_eq, Fault_eq, hh, h1, h2, not_true_eq_false, decide_true, Bool.not_true]
  refine W_iter (fun s => s.t_0 = l ∧ s.t_1 = se ∧ s.t_2 = re ∧ s.t_3 = ws ∧ ∃ i : Nat, s.t_10 = i ∧ i ≤ l.length ∧ ∀ j, j < i → clB l se j = false) (fun s => l.length - s.t_10.toNat) ⟨rfl, rfl, rfl, rfl, 0, rfl, by omega, by omega⟩ ?_
  rintro s ⟨e0, e1, e2, e3, i, e10, hi, hno⟩
  simp only [W_seq, W_block, W_reg, W_cond, W_skip, W_ext, W_ret, opt_some, opt_bind, opt_ite, thenQ_nrm, thenQ_ext, thenQ_ret, blkQ_nrm, blkQ_ext, blkQ_ret, if_true, true_and, and_true, decide_eq_true_eq, decide_eq_false_iff_not, Bool.or_eq_true, Bool.and_eq_true, Bool.or_eq_false_iff, Bool.and_eq_false_iff, Bool.true_eq_false, not_or, Classical.not_not, Bool.not_eq_true', Bool.not_eq_false', Int.not_lt, Int.not_le, Bool.false_eq_true, false_implies, true_implies, and_self, not_true_eq_false, not_false_eq_true, ref4_NegotiateFault.retv, ref4_NegotiateFault.r0, ref4_NegotiateFault.r1, ref4_NegotiateFault.r2, ref4_NegotiateFault.r3, ref4_NegotiateFault.r4, ref4_NegotiateFault.r5, ref4_NegotiateFault.r6, ref4_NegotiateFault.r7, ref4_NegotiateFault.r8, ref4_NegotiateFault.r9, ref4_NegotiateFault.r11, ref4_NegotiateFault.r12, ref4_NegotiateFault.r14, ref4_NegotiateFault.r15, ref4_NegotiateFault.r13, ref4_NegotiateFault.r10, ref4_NegotiateFault.r16, ref4_NegotiateFault.r17, ref4_NegotiateFault.r19, ref4_NegotiateFault.r20, ref4_NegotiateFault.r22, ref4_NegotiateFault.r23, ref4_NegotiateFault.r21, ref4_NegotiateFault.r18, ref4_NegotiateFault.r24, ref4_NegotiateFault.r25, ref4_NegotiateFault.r26, ref4_NegotiateFault.r27, ref4_NegotiateFault.r29, ref4_NegotiateFault.r30, ref4_NegotiateFault.r28, ref4_NegotiateFault.r31, Fault_eq, e0, e1, e2, e3, e10]
  refine ⟨fun hlt => ?_, fun hge => ?_⟩
  · have hlt : i < l.length := by omega
    obtain ⟨c, hc⟩ : ∃ c, l[i]? = some c := ⟨l[i], List.getElem?_eq_getElem hlt⟩
    have hcI : idx l (i : Int) = some c := by rw [idx_nat' hlt, ← List.getElem?_eq_getElem hlt, hc]
    have hpl := hH.pars c (List.mem_of_getElem? hc)
    have hpt := hH.topo i c hc
    have hcl : clB l se i = (se.getD i false && c.Parents.any fun p => !(se.getD p.toNat false)) := by unfold clB; rw [par_of hc]
    have hbi : idx se (i : Int) = some (se.getD i false) := idx_getD (by omega)
    have hwi : w64 ((i : Int) + 1) = ((i + 1 : Nat) : Int) := w64_succ (by omega)
    refine W_iter (fun s => s.t_0 = l ∧ s.t_1 = se ∧ s.t_2 = re ∧ s.t_3 = ws ∧ s.t_10 = i ∧ ∃ k : Nat, s.t_11 = k ∧ k ≤ c.Parents.length ∧ ((c.Parents.take k).any fun p => !(se.getD p.toNat false)) = false) (fun s => c.Parents.length - s.t_11.toNat)
      ⟨rfl, rfl, rfl, rfl, rfl, 0, rfl, by omega, rfl⟩ ?_
    rintro s ⟨e0, e1, e2, e3, e10, k, e11, hk, hkn⟩
    simp only [W_seq, W_block, W_reg, W_cond, W_skip, W_ext, W_ret, opt_some, opt_bind, opt_ite, thenQ_nrm, thenQ_ext, thenQ_ret, blkQ_nrm, blkQ_ext, blkQ_ret, if_true, true_and, and_true, decide_eq_true_eq, decide_eq_false_iff_not, Bool.or_eq_true, Bool.and_eq_true, Bool.or_eq_false_iff, Bool.and_eq_false_iff, Bool.true_eq_false, not_or, Classical.not_not, Bool.not_eq_true', Bool.not_eq_false', Int.not_lt, Int.not_le, Bool.false_eq_true, false_implies, true_implies, and_self, not_true_eq_false, not_false_eq_true, ref4_NegotiateFault.retv, ref4_NegotiateFault.r0, ref4_NegotiateFault.r1, ref4_NegotiateFault.r2, ref4_NegotiateFault.r3, ref4_NegotiateFault.r4, ref4_NegotiateFault.r5, ref4_NegotiateFault.r6, ref4_NegotiateFault.r7, ref4_NegotiateFault.r8, ref4_NegotiateFault.r9, ref4_NegotiateFault.r11, ref4_NegotiateFault.r12, ref4_NegotiateFault.r14, ref4_NegotiateFault.r15, ref4_NegotiateFault.r13, ref4_NegotiateFault.r10, ref4_NegotiateFault.r16, ref4_NegotiateFault.r17, ref4_NegotiateFault.r19, ref4_NegotiateFault.r20, ref4_NegotiateFault.r22, ref4_NegotiateFault.r23, ref4_NegotiateFault.r21, ref4_NegotiateFault.r18, ref4_NegotiateFault.r24, ref4_NegotiateFault.r25, ref4_NegotiateFault.r26, ref4_NegotiateFault.r27, ref4_NegotiateFault.r29, ref4_NegotiateFault.r30, ref4_NegotiateFault.r28, ref4_NegotiateFault.r31, Fault_eq, e0, e1, e2, e3, e10, e11, hwi]
    have hdone : clB l se i = false → ∀ j, j < i + 1 → clB l se j = false := fun h j hj => by
      by_cases e : j = i
      · subst e; exact h
      · exact hno j (by omega)
    refine opt_of hcI ⟨fun hkl => opt_of hbi ⟨fun hi1 => ?_, fun hi1 => ?_⟩, fun hkl => ?_⟩
    · have hkl : k < c.Parents.length := by omega
      have hp := hpt _ (List.getElem_mem hkl)
      have hbp : idx se c.Parents[k] = some (se.getD c.Parents[k].toNat false) := idx_getDI hp.1 (by omega)
      rw [w64_succ (by omega)]
      refine opt_of hcI (opt_of (idx_nat' hkl) (opt_of hbp ⟨fun hb1 => ?_, fun hb1 => ⟨⟨k + 1, rfl, by omega, ?_⟩, by omega⟩⟩))
      · have : clB l se i = true := by
          rw [hcl, hi1, Bool.true_and, List.any_eq_true]
          exact ⟨_, List.getElem_mem hkl, by rw [hb1]; rfl⟩
        have e5 := clI_some hno hlt this
        rw [hN, e5, if_pos (by omega)]
      · rw [any_take hkl, hkn, hb1]; rfl
    · refine ⟨⟨i + 1, rfl, by omega, hdone ?_⟩, by omega⟩
      rw [hcl, hi1]; rfl
    · obtain rfl : k = c.Parents.length := by omega
      rw [List.take_length] at hkn
      refine ⟨⟨i + 1, rfl, by omega, hdone ?_⟩, by omega⟩
      rw [hcl, hkn, Bool.and_false]
  have hse : clI l se = -1 := clI_none (by have : i = l.length := by omega
                                           subst this; exact hno)
  have hN : r = if 0 ≤ clI l re then ⟨5, -3 - clI l re⟩ else if 60 < ws.length then ⟨2, -1⟩ else ((List.range ws.length).findSome? (wF l se ws)).getD ⟨0, 0⟩ := by
    rw [hN, hse, if_neg (by omega)]
  clear hno
  refine W_iter (fun s => s.t_0 = l ∧ s.t_1 = se ∧ s.t_2 = re ∧ s.t_3 = ws ∧ ∃ i : Nat, s.t_12 = i ∧ i ≤ l.length ∧ ∀ j, j < i → clB l re j = false) (fun s => l.length - s.t_12.toNat) ⟨rfl, rfl, rfl, rfl, 0, rfl, by omega, by omega⟩ ?_
  rintro s ⟨e0, e1, e2, e3, i, e10, hi, hno⟩
  simp only [W_seq, W_block, W_reg, W_cond, W_skip, W_ext, W_ret, opt_some, opt_bind, opt_ite, thenQ_nrm, thenQ_ext, thenQ_ret, blkQ_nrm, blkQ_ext, blkQ_ret, if_true, true_and, and_true, decide_eq_true_eq, decide_eq_false_iff_not, Bool.or_eq_true, Bool.and_eq_true, Bool.or_eq_false_iff, Bool.and_eq_false_iff, Bool.true_eq_false, not_or, Classical.not_not, Bool.not_eq_true', Bool.not_eq_false', Int.not_lt, Int.not_le, Bool.false_eq_true, false_implies, true_implies, and_self, not_true_eq_false, not_false_eq_true, ref4_NegotiateFault.retv, ref4_NegotiateFault.r0, ref4_NegotiateFault.r1, ref4_NegotiateFault.r2, ref4_NegotiateFault.r3, ref4_NegotiateFault.r4, ref4_NegotiateFault.r5, ref4_NegotiateFault.r6, ref4_NegotiateFault.r7, ref4_NegotiateFault.r8, ref4_NegotiateFault.r9, ref4_NegotiateFault.r11, ref4_NegotiateFault.r12, ref4_NegotiateFault.r14, ref4_NegotiateFault.r15, ref4_NegotiateFault.r13, ref4_NegotiateFault.r10, ref4_NegotiateFault.r16, ref4_NegotiateFault.r17, ref4_NegotiateFault.r19, ref4_NegotiateFault.r20, ref4_NegotiateFault.r22, ref4_NegotiateFault.r23, ref4_NegotiateFault.r21, ref4_NegotiateFault.r18, ref4_NegotiateFault.r24, ref4_NegotiateFault.r25, ref4_NegotiateFault.r26, ref4_NegotiateFault.r27, ref4_NegotiateFault.r29, ref4_NegotiateFault.r30, ref4_NegotiateFault.r28, ref4_NegotiateFault.r31, Fault_eq, e0, e1, e2, e3, e10]
  refine ⟨fun hlt => ?_, fun hge => ?_⟩
  · have hlt : i < l.length := by omega
    obtain ⟨c, hc⟩ : ∃ c, l[i]? = some c := ⟨l[i], List.getElem?_eq_getElem hlt⟩
    have hcI : idx l (i : Int) = some c := by rw [idx_nat' hlt, ← List.getElem?_eq_getElem hlt, hc]
    have hpl := hH.pars c (List.mem_of_getElem? hc)
    have hpt := hH.topo i c hc
    have hcl : clB l re i = (re.getD i false && c.Parents.any fun p => !(re.getD p.toNat false)) := by unfold clB; rw [par_of hc]
    have hbi : idx re (i : Int) = some (re.getD i false) := idx_getD (by omega)
    have hwi : w64 ((i : Int) + 1) = ((i + 1 : Nat) : Int) := w64_succ (by omega)
    have hw3 : w64 (-3 - (i : Int)) = -3 - (i : Int) := w64_id (by omega) (by omega)
    refine W_iter (fun s => s.t_0 = l ∧ s.t_1 = se ∧ s.t_2 = re ∧ s.t_3 = ws ∧ s.t_12 = i ∧ ∃ k : Nat, s.t_13 = k ∧ k ≤ c.Parents.length ∧ ((c.Parents.take k).any fun p => !(re.getD p.toNat false)) = false) (fun s => c.Parents.length - s.t_13.toNat)
      ⟨rfl, rfl, rfl, rfl, rfl, 0, rfl, by omega, rfl⟩ ?_
    rintro s ⟨e0, e1, e2, e3, e10, k, e11, hk, hkn⟩
    simp only [W_seq, W_block, W_reg, W_cond, W_skip, W_ext, W_ret, opt_some, opt_bind, opt_ite, thenQ_nrm, thenQ_ext, thenQ_ret, blkQ_nrm, blkQ_ext, blkQ_ret, if_true, true_and, and_true, decide_eq_true_eq, decide_eq_false_iff_not, Bool.or_eq_true, Bool.and_eq_true, Bool.or_eq_false_iff, Bool.and_eq_false_iff, Bool.true_eq_false, not_or, Classical.not_not, Bool.not_eq_true', Bool.not_eq_false', Int.not_lt, Int.not_le, Bool.false_eq_true, false_implies, true_implies, and_self, not_true_eq_false, not_false_eq_true, ref4_NegotiateFault.retv, ref4_NegotiateFault.r0, ref4_NegotiateFault.r1, ref4_NegotiateFault.r2, ref4_NegotiateFault.r3, ref4_NegotiateFault.r4, ref4_NegotiateFault.r5, ref4_NegotiateFault.r6, ref4_NegotiateFault.r7, ref4_NegotiateFault.r8, ref4_NegotiateFault.r9, ref4_NegotiateFault.r11, ref4_NegotiateFault.r12, ref4_NegotiateFault.r14, ref4_NegotiateFault.r15, ref4_NegotiateFault.r13, ref4_NegotiateFault.r10, ref4_NegotiateFault.r16, ref4_NegotiateFault.r17, ref4_NegotiateFault.r19, ref4_NegotiateFault.r20, ref4_NegotiateFault.r22, ref4_NegotiateFault.r23, ref4_NegotiateFault.r21, ref4_NegotiateFault.r18, ref4_NegotiateFault.r24, ref4_NegotiateFault.r25, ref4_NegotiateFault.r26, ref4_NegotiateFault.r27, ref4_NegotiateFault.r29, ref4_NegotiateFault.r30, ref4_NegotiateFault.r28, ref4_NegotiateFault.r31, Fault_eq, e0, e1, e2, e3, e10, e11, hwi, hw3]
    have hdone : clB l re i = false → ∀ j, j < i + 1 → clB l re j = false := fun h j hj => by
      by_cases e : j = i
      · subst e; exact h
      · exact hno j (by omega)
    refine opt_of hcI ⟨fun hkl => opt_of hbi ⟨fun hi1 => ?_, fun hi1 => ?_⟩, fun hkl => ?_⟩
    · have hkl : k < c.Parents.length := by omega
      have hp := hpt _ (List.getElem_mem hkl)
      have hbp : idx re c.Parents[k] = some (re.getD c.Parents[k].toNat false) := idx_getDI hp.1 (by omega)
      rw [w64_succ (by omega)]
      refine opt_of hcI (opt_of (idx_nat' hkl) (opt_of hbp ⟨fun hb1 => ?_, fun hb1 => ⟨⟨k + 1, rfl, by omega, ?_⟩, by omega⟩⟩))
      · have : clB l re i = true := by
          rw [hcl, hi1, Bool.true_and, List.any_eq_true]
          exact ⟨_, List.getElem_mem hkl, by rw [hb1]; rfl⟩
        have e5 := clI_some hno hlt this
        rw [hN, e5, if_pos (by omega)]
      · rw [any_take hkl, hkn, hb1]; rfl
    · refine ⟨⟨i + 1, rfl, by omega, hdone ?_⟩, by omega⟩
      rw [hcl, hi1]; rfl
    · obtain rfl : k = c.Parents.length := by omega
      rw [List.take_length] at hkn
      refine ⟨⟨i + 1, rfl, by omega, hdone ?_⟩, by omega⟩
      rw [hcl, hkn, Bool.and_false]
  have hre : clI l re = -1 := clI_none (by have : i = l.length := by omega
                                           subst this; exact hno)
  have hN : r = if 60 < ws.length then ⟨2, -1⟩ else ((List.range ws.length).findSome? (wF l se ws)).getD ⟨0, 0⟩ := by
    rw [hN, hre, if_neg (by omega)]
  refine ⟨fun h5 => by rw [hN, if_pos (show 60 < ws.length by omega)], fun h5 => ?_⟩
  have hN2 : r = ((List.range ws.length).findSome? (wF l se ws)).getD ⟨0, 0⟩ := by rw [hN, if_neg (show ¬ 60 < ws.length by omega)]
  clear hno
  refine W_iter (fun s => s.t_0 = l ∧ s.t_1 = se ∧ s.t_3 = ws ∧ ∃ i : Nat, s.t_14 = i ∧ i ≤ ws.length ∧ ∀ j, j < i → wF l se ws j = none) (fun s => ws.length - s.t_14.toNat) ⟨rfl, rfl, rfl, 0, rfl, by omega, by omega⟩ ?_
  rintro s ⟨e0, e1, e3, i, e14, hi, hno⟩
  have hwl : w64 ((l.length : Int) - 1) = (l.length : Int) - 1 := w64_id (by omega) (by omega)
  simp only [W_seq, W_block, W_reg, W_cond, W_skip, W_ext, W_ret, opt_some, opt_bind, opt_ite, thenQ_nrm, thenQ_ext, thenQ_ret, blkQ_nrm, blkQ_ext, blkQ_ret, if_true, true_and, and_true, decide_eq_true_eq, decide_eq_false_iff_not, Bool.or_eq_true, Bool.and_eq_true, Bool.or_eq_false_iff, Bool.and_eq_false_iff, Bool.true_eq_false, not_or, Classical.not_not, Bool.not_eq_true', Bool.not_eq_false', Int.not_lt, Int.not_le, Bool.false_eq_true, false_implies, true_implies, and_self, not_true_eq_false, not_false_eq_true, ref4_NegotiateFault.retv, ref4_NegotiateFault.r0, ref4_NegotiateFault.r1, ref4_NegotiateFault.r2, ref4_NegotiateFault.r3, ref4_NegotiateFault.r4, ref4_NegotiateFault.r5, ref4_NegotiateFault.r6, ref4_NegotiateFault.r7, ref4_NegotiateFault.r8, ref4_NegotiateFault.r9, ref4_NegotiateFault.r11, ref4_NegotiateFault.r12, ref4_NegotiateFault.r14, ref4_NegotiateFault.r15, ref4_NegotiateFault.r13, ref4_NegotiateFault.r10, ref4_NegotiateFault.r16, ref4_NegotiateFault.r17, ref4_NegotiateFault.r19, ref4_NegotiateFault.r20, ref4_NegotiateFault.r22, ref4_NegotiateFault.r23, ref4_NegotiateFault.r21, ref4_NegotiateFault.r18, ref4_NegotiateFault.r24, ref4_NegotiateFault.r25, ref4_NegotiateFault.r26, ref4_NegotiateFault.r27, ref4_NegotiateFault.r29, ref4_NegotiateFault.r30, ref4_NegotiateFault.r28, ref4_NegotiateFault.r31, Fault_eq, In_eq, e0, e1, e3, e14, hwl]
  refine ⟨fun hlt => ?_, fun hge => ?_⟩
  · have hlt : i < ws.length := by omega
    have hg : ws.getD i 0 = ws[i] := by simp [List.getD, hlt]
    have hret : wF l se ws i = some ⟨6, i⟩ → Ctl.ret (σ := ref4_NegotiateFault.S) (⟨6, (i : Int)⟩ : Fault) = Ctl.ret r := fun hx => by rw [hN2, fs_some hno hlt hx]; rfl
    have hgo : wF l se ws i = none → (∀ j, j < i + 1 → wF l se ws j = none) := fun hx j hj => by
      by_cases e : j = i
      · subst e; exact hx
      · exact hno j (by omega)
    rw [w64_succ (by omega)]
    refine opt_of (idx_nat' hlt) ⟨fun hb => hret (by unfold wF; rw [hg, if_pos (by omega)]), fun hb => ?_⟩
    have hse : idx se ws[i] = some (se.getD ws[i].toNat false) := idx_getDI (by omega) (by omega)
    refine opt_of (idx_nat' hlt) (opt_of hse ⟨fun hs => hret (by unfold wF; rw [hg, if_pos (.inr (.inr hs))]), fun hs => ⟨⟨i + 1, rfl, by omega, hgo (by unfold wF; rw [hg, if_neg]; rintro (h | h | h); omega; omega; rw [hs] at h; cases h)⟩, by omega⟩⟩)
  · obtain rfl : i = ws.length := by omega
    rw [hN2, fs_none hno]; rfl

theorem Anc.trans {l : List Commit} {a b c : Nat} (h : Anc l a b) (h2 : Anc l b c) : Anc l a c := by
  induction h with
  | refl => exact h2
  | step hc hp _ ih => exact .step hc hp (ih h2)
theorem Anc.last {l : List Commit} {a b : Nat} (h : Anc l a b) : a = b ∨ ∃ c x, l[c]? = some x ∧ (b : Int) ∈ x.Parents ∧ Anc l a c := by
  induction h with
  | refl => exact .inl rfl
  | step hc hp _ ih =>
    rcases ih with rfl | ⟨c, x, h1, h2, h3⟩
    · exact .inr ⟨_, _, hc, hp, .refl _⟩
    · exact .inr ⟨c, x, h1, h2, .step hc hp h3⟩
theorem Ancestors_ex (l : List Commit) (hh : hFault l = ⟨0, 0⟩) (n : Nat) (hn : n < l.length) : ∃ v, history_Ancestors.f l n = some (v, ⟨0, 0⟩) ∧ RowA l n v := by
  have hH := hist_of hh
  have hl60 := hH.len
  have ht := hH.topo
  have main : W history_Ancestors.body (fun o => ∃ v, o = .ret (v, ⟨0, 0⟩) ∧ RowA l n v) { commits_0 := l, n_1 := n, t_4 := [], t_5 := (⟨(0 : Int), (0 : Int)⟩ : Fault), f_6 := (⟨(0 : Int), (0 : Int)⟩ : Fault), out_7 := [], i_8 := (0 : Int), p_10 := (0 : Int), t_15 := false, t_24 := false, t_34 := false, t_40 := false, t_45 := [], t_46 := (0 : Int), t_47 := (0 : Int), t_48 := false } := by
    unfold history_Ancestors.body
    have hmk : mkL 1 false (l.length : Int) = some (List.replicate l.length false) := by unfold mkL; rw [if_pos (by omega)]; simp
    have hri : idx (List.replicate l.length false) (n : Int) = some false := by rw [idx_getD (d := false) (by simpa using hn)]; simp [List.getD, hn]
    have hb1 : ¬ ((n : Int) < 0 ∨ (l.length : Int) ≤ n) := by omega
    simp only [W_seq, W_block, W_reg, W_cond, W_skip, W_ext, W_ret, opt_some, opt_bind, opt_ite, thenQ_nrm, thenQ_ext, thenQ_ret, blkQ_nrm, blkQ_ext, blkQ_ret, if_true, true_and, and_true, decide_eq_true_eq, decide_eq_false_iff_not, Bool.or_eq_true, Bool.and_eq_true, Bool.or_eq_false_iff, Bool.and_eq_false_iff, Bool.true_eq_false, not_or, Classical.not_not, Bool.not_eq_true', Bool.not_eq_false', Int.not_lt, Int.not_le, Bool.false_eq_true, false_implies, true_implies, and_self, not_true_eq_false, not_false_eq_true, history_Ancestors.retv, history_Ancestors.r0, history_Ancestors.r1, history_Ancestors.r2, history_Ancestors.r3, history_Ancestors.r4, history_Ancestors.r5, history_Ancestors.r6, history_Ancestors.r7, history_Ancestors.r8, history_Ancestors.r9, history_Ancestors.r11, history_Ancestors.r12, history_Ancestors.r13, history_Ancestors.r14, history_Ancestors.r15, history_Ancestors.r16, history_Ancestors.r10, history_Ancestors.r17, Validate_eq, hh, not_true_eq_false, hmk, hri, hb1]
    refine fun _ => ?_
    refine W_iter (fun s => s.commits_0 = l ∧ ∃ i : Nat, s.i_8 = (i : Int) - 1 ∧ i ≤ n + 1 ∧ s.out_7.length = l.length ∧ ∀ k, k < l.length → (s.out_7.getD k false = true ↔ k = n ∨ ∃ c x, i ≤ c ∧ c < l.length ∧ l[c]? = some x ∧ (k : Int) ∈ x.Parents ∧ Anc l n c)) (fun s => (s.i_8 + 1).toNat)
      ⟨rfl, n + 1, by show (n : Int) = _; omega, by omega, by simp [setL], fun k hk => ?_⟩ ?_
    · show (setL (List.replicate l.length false) (n : Int) true).getD k false = true ↔ _
      rw [getD_set_bool (by simpa using hn)]
      have hrep : (List.replicate l.length false).getD k false = false := by simp [List.getD, List.getElem?_replicate, hk]
      by_cases e : k = n
      · simp [e]
      · rw [if_neg e, hrep]
        constructor
        · intro h; cases h
        · rintro (h | ⟨c, x, h1, h2, h3, h4, h5⟩)
          · exact absurd h e
          · have := h5.le ht; omega
    rintro s ⟨h0, i, hi, hle, hol, hv⟩
    simp only [W_seq, W_block, W_reg, W_cond, W_skip, W_ext, W_ret, opt_some, opt_bind, opt_ite, thenQ_nrm, thenQ_ext, thenQ_ret, blkQ_nrm, blkQ_ext, blkQ_ret, if_true, true_and, and_true, decide_eq_true_eq, decide_eq_false_iff_not, Bool.or_eq_true, Bool.and_eq_true, Bool.or_eq_false_iff, Bool.and_eq_false_iff, Bool.true_eq_false, not_or, Classical.not_not, Bool.not_eq_true', Bool.not_eq_false', Int.not_lt, Int.not_le, Bool.false_eq_true, false_implies, true_implies, and_self, not_true_eq_false, not_false_eq_true, history_Ancestors.retv, history_Ancestors.r0, history_Ancestors.r1, history_Ancestors.r2, history_Ancestors.r3, history_Ancestors.r4, history_Ancestors.r5, history_Ancestors.r6, history_Ancestors.r7, history_Ancestors.r8, history_Ancestors.r9, history_Ancestors.r11, history_Ancestors.r12, history_Ancestors.r13, history_Ancestors.r14, history_Ancestors.r15, history_Ancestors.r16, history_Ancestors.r10, history_Ancestors.r17, h0, hi]
    refine ⟨fun hge => ?_, fun hlt => ?_⟩
    · obtain ⟨j, rfl⟩ : ∃ j, i = j + 1 := ⟨i - 1, by omega⟩
      have hji : ((j + 1 : Nat) : Int) - 1 = (j : Int) := by omega
      have hjl : j < l.length := by omega
      have hjd : idx s.out_7 (j : Int) = some (s.out_7.getD j false) := idx_getD (by omega)
      have hanc : s.out_7.getD j false = true ↔ Anc l n j := by
        rw [hv j hjl]
        constructor
        · rintro (rfl | ⟨c, x, h1, h2, h3, h4, h5⟩)
          · exact .refl _
          · exact h5.trans (.step h3 h4 (.refl _))
        · intro h
          rcases h.last with e | ⟨c, x, h1, h2, h3⟩
          · exact .inl e.symm
          · have := (ht c x h1 _ h2).2
            exact .inr ⟨c, x, by omega, (List.getElem?_eq_some_iff.1 h1).1, h1, h2, h3⟩
      have hw : w64 ((j : Int) - 1) = (j : Int) - 1 := w64_id (by omega) (by omega)
      rw [hji]
      refine opt_of hjd ⟨fun hj1 => ?_, fun hj1 => ?_⟩
      · obtain ⟨c, hc⟩ : ∃ c, l[j]? = some c := ⟨l[j], List.getElem?_eq_getElem hjl⟩
        have hcI : idx l (j : Int) = some c := by rw [idx_nat' hjl, ← List.getElem?_eq_getElem hjl, hc]
        have hpl := hH.pars c (List.mem_of_getElem? hc)
        have hpt := ht j c hc
        refine opt_of hcI ?_
        refine W_iter (fun s2 => s2.commits_0 = l ∧ s2.i_8 = j ∧ s2.t_45 = c.Parents ∧ s2.t_46 = c.Parents.length ∧ ∃ q : Nat, s2.t_47 = q ∧ q ≤ c.Parents.length ∧ s2.out_7.length = l.length ∧ ∀ k, k < l.length → (s2.out_7.getD k false = true ↔ s.out_7.getD k false = true ∨ (k : Int) ∈ c.Parents.take q)) (fun s2 => c.Parents.length - s2.t_47.toNat)
          ⟨rfl, rfl, rfl, rfl, 0, rfl, by omega, hol, by simp⟩ ?_
        rintro s2 ⟨e0, e8, e45, e46, q, e47, hq, hol2, hv2⟩
        simp only [W_seq, W_block, W_reg, W_cond, W_skip, W_ext, W_ret, opt_some, opt_bind, opt_ite, thenQ_nrm, thenQ_ext, thenQ_ret, blkQ_nrm, blkQ_ext, blkQ_ret, if_true, true_and, and_true, decide_eq_true_eq, decide_eq_false_iff_not, Bool.or_eq_true, Bool.and_eq_true, Bool.or_eq_false_iff, Bool.and_eq_false_iff, Bool.true_eq_false, not_or, Classical.not_not, Bool.not_eq_true', Bool.not_eq_false', Int.not_lt, Int.not_le, Bool.false_eq_true, false_implies, true_implies, and_self, not_true_eq_false, not_false_eq_true, history_Ancestors.retv, history_Ancestors.r0, history_Ancestors.r1, history_Ancestors.r2, history_Ancestors.r3, history_Ancestors.r4, history_Ancestors.r5, history_Ancestors.r6, history_Ancestors.r7, history_Ancestors.r8, history_Ancestors.r9, history_Ancestors.r11, history_Ancestors.r12, history_Ancestors.r13, history_Ancestors.r14, history_Ancestors.r15, history_Ancestors.r16, history_Ancestors.r10, history_Ancestors.r17, e0, e8, e45, e46, e47, hw]
        refine ⟨fun hql => ?_, fun hql => ?_⟩
        · have hql : q < c.Parents.length := by omega
          have hp := hpt _ (List.getElem_mem hql)
          rw [w64_succ (by omega)]
          refine opt_of (idx_nat' hql) (opt_of (idx_getDI (d := false) hp.1 (by omega)) ⟨⟨q + 1, rfl, by omega, by rw [setL_len]; exact hol2, fun k hk => ?_⟩, by omega⟩)
          have hmem : ((k : Int) ∈ c.Parents.take (q + 1)) ↔ ((k : Int) ∈ c.Parents.take q ∨ (k : Int) = c.Parents[q]) := by
            rw [List.take_add_one, List.getElem?_eq_getElem hql]; simp only [Option.toList, List.mem_append, List.mem_singleton]
          rw [getD_setI hp.1 (by omega), hmem]
          by_cases e : (k : Int) = c.Parents[q]
          · rw [if_pos e]; simp [e]
          · rw [if_neg e, hv2 k hk]; simp [e]
        · obtain rfl : q = c.Parents.length := by omega
          rw [List.take_length] at hv2
          refine ⟨⟨j, by omega, by omega, hol2, fun k hk => ?_⟩, by omega⟩
          rw [hv2 k hk, hv k hk]
          constructor
          · rintro ((h | ⟨c', x, h1, h2⟩) | h)
            · exact .inl h
            · exact .inr ⟨c', x, by omega, h2⟩
            · exact .inr ⟨j, c, Nat.le_refl _, hjl, hc, h, hanc.1 hj1⟩
          · rintro (h | ⟨c', x, h1, h2, h3, h4, h5⟩)
            · exact .inl (.inl h)
            · by_cases e : c' = j
              · subst e
                rw [hc] at h3; cases h3
                exact .inr h4
              · exact .inl (.inr ⟨c', x, by omega, h2, h3, h4, h5⟩)
      · rw [hw]
        refine ⟨⟨j, by omega, by omega, hol, fun k hk => ?_⟩, by omega⟩
        rw [hv k hk]
        refine or_congr Iff.rfl ⟨?_, ?_⟩
        · rintro ⟨c', x, h1, h2⟩; exact ⟨c', x, by omega, h2⟩
        · rintro ⟨c', x, h1, h2, h3, h4, h5⟩
          by_cases e : c' = j
          · subst e; rw [hanc.2 h5] at hj1; cases hj1
          · exact ⟨c', x, by omega, h2, h3, h4, h5⟩
    · obtain rfl : i = 0 := by omega
      refine ⟨_, rfl, hol, fun k hk => ?_⟩
      show s.out_7.getD k false = true ↔ _
      rw [hv k hk]
      constructor
      · rintro (rfl | ⟨c, x, h1, h2, h3, h4, h5⟩)
        · exact .refl _
        · exact h5.trans (.step h3 h4 (.refl _))
      · intro h
        rcases h.last with e | ⟨c, x, h1, h2, h3⟩
        · exact .inl e.symm
        · exact .inr ⟨c, x, Nat.zero_le _, (List.getElem?_eq_some_iff.1 h1).1, h1, h2, h3⟩
  obtain ⟨o, h1, v, rfl, h2⟩ := main
  exact ⟨v, by unfold history_Ancestors.f; rw [h1]; rfl, h2⟩
end Go.Proofs.Ytilodamhgepjoaa
