/- When a history is valid. -/
import Derived.Test.YtilodamhgepjoaaPu1
namespace Go.Proofs.Ytilodamhgepjoaa
open Go.Fx
set_option linter.unusedVariables false
set_option linter.unusedSimpArgs false

def pFault (i : Int) (ps : List Int) (k : Nat) : Option Int :=
  if ps.getD k 0 < 0 ∨ i ≤ ps.getD k 0 then some 3 else if 0 < k ∧ ps.getD k 0 ≤ ps.getD (k - 1) 0 then some 5 else none
def cFault (i : Int) (c : Commit) : Option Int :=
  if 3 < c.Parents.length then some 2 else
  match (List.range c.Parents.length).findSome? (pFault i c.Parents) with
  | some x => some x
  | none => if c.Author < 0 ∨ 7 < c.Author ∨ c.Time < 0 ∨ 100000 < c.Time ∨ c.Tree < 0 ∨ 2305843009213693951 ≤ c.Tree then some 3 else if 80 < c.Message.size then some 10 else none
def hF (l : List Commit) (i : Nat) : Option Fault := (l[i]?).bind fun c => (cFault i c).map fun x => ⟨x, i⟩
def hFault (l : List Commit) : Fault := if 60 < l.length then ⟨2, -1⟩ else ((List.range l.length).findSome? (hF l)).getD ⟨0, 0⟩

theorem Validate_eq (l : List Commit) : history_Validate.f l = some (hFault l) := by
  refine retOf_of ?_
  unfold history_Validate.body
  simp only [W_seq, W_block, W_reg, W_cond, W_skip, W_ext, W_ret, opt_some, opt_bind, opt_ite, thenQ_nrm, thenQ_ext, thenQ_ret, blkQ_nrm, blkQ_ext, blkQ_ret, if_true, true_and, and_true, decide_eq_true_eq, decide_eq_false_iff_not, Bool.or_eq_true, Bool.and_eq_true, Bool.or_eq_false_iff, Bool.and_eq_false_iff, Bool.true_eq_false, not_or, Classical.not_not, Bool.not_eq_true', Bool.not_eq_false', Int.not_lt, Int.not_le, Bool.false_eq_true, false_implies, true_implies, and_self, not_true_eq_false, not_false_eq_true, history_Validate.r0, history_Validate.r1, history_Validate.r2, history_Validate.r3, history_Validate.retv]
  refine ⟨fun h => ?_, fun h => ?_⟩
  · have h : 60 < l.length := by omega
    simp [hFault, h]
  have h60 : l.length ≤ 60 := by omega
  have hG : hFault l = ((List.range l.length).findSome? (hF l)).getD ⟨0, 0⟩ := by unfold hFault; rw [if_neg (by omega)]
  rw [hG]
  refine W_iter (fun s => s.t_11 = l ∧ s.t_12 = l.length ∧ ∃ i : Nat, s.t_13 = i ∧ i ≤ l.length ∧ ∀ j, j < i → hF l j = none) (fun s => l.length - s.t_13.toNat) ⟨rfl, rfl, 0, rfl, by omega, by omega⟩ ?_
  rintro s ⟨rfl, hlen, i, hi, hle, hno⟩
  simp only [W_seq, W_block, W_reg, W_cond, W_skip, W_ext, W_ret, opt_some, opt_bind, opt_ite, thenQ_nrm, thenQ_ext, thenQ_ret, blkQ_nrm, blkQ_ext, blkQ_ret, if_true, true_and, and_true, decide_eq_true_eq, decide_eq_false_iff_not, Bool.or_eq_true, Bool.and_eq_true, Bool.or_eq_false_iff, Bool.and_eq_false_iff, Bool.true_eq_false, not_or, Classical.not_not, Bool.not_eq_true', Bool.not_eq_false', Int.not_lt, Int.not_le, Bool.false_eq_true, false_implies, true_implies, and_self, not_true_eq_false, not_false_eq_true, history_Validate.r4, history_Validate.r5, history_Validate.r6, history_Validate.r7, history_Validate.r8, history_Validate.r23, history_Validate.retv, hi, hlen]
  refine ⟨fun hlt => ?_, fun hge => ?_⟩
  · have hlt : i < s.t_11.length := by simpa using hlt
    have hc : s.t_11[i]? = some s.t_11[i] := List.getElem?_eq_getElem hlt
    refine opt_of (idx_nat' hlt) ?_
    obtain ⟨c, hcc⟩ : ∃ c, c = s.t_11[i] := ⟨_, rfl⟩
    rw [← hcc] at hc ⊢
    have hret : ∀ x, cFault i c = some x → Ctl.ret (σ := history_Validate.S) (⟨x, (i : Int)⟩ : Fault) = Ctl.ret (((List.range s.t_11.length).findSome? (hF s.t_11)).getD ⟨0, 0⟩) := fun x hx => by
      rw [fs_some hno hlt (x := ⟨x, i⟩) (by simp [hF, hc, hx])]; rfl
    have hgo : cFault i c = none → hF s.t_11 i = none := fun h => by simp [hF, hc, h]
    refine ⟨fun hp => ?_, fun hp => ?_⟩
    · exact hret 2 (by have : 3 < c.Parents.length := by omega
                       simp [cFault, this])
    have hp : c.Parents.length ≤ 3 := by omega
    refine W_iter (fun s' => s'.t_11 = s.t_11 ∧ s'.t_12 = s.t_11.length ∧ s'.t_13 = i ∧ s'.t_3 = i ∧ s'.t_4 = c ∧ s'.t_25 = c.Parents ∧ s'.t_26 = c.Parents.length ∧ ∃ k : Nat, s'.t_27 = k ∧ k ≤ c.Parents.length ∧ ∀ j, j < k → pFault i c.Parents j = none) (fun s' => c.Parents.length - s'.t_27.toNat)
      ⟨rfl, rfl, rfl, rfl, rfl, rfl, rfl, 0, rfl, by omega, by omega⟩ ?_
    rintro s' ⟨h11, h12, h13, h3, h4, h25, h26, k, h27, hk, hkno⟩
    simp only [W_seq, W_block, W_reg, W_cond, W_skip, W_ext, W_ret, opt_some, opt_bind, opt_ite, thenQ_nrm, thenQ_ext, thenQ_ret, blkQ_nrm, blkQ_ext, blkQ_ret, if_true, true_and, and_true, decide_eq_true_eq, decide_eq_false_iff_not, Bool.or_eq_true, Bool.and_eq_true, Bool.or_eq_false_iff, Bool.and_eq_false_iff, Bool.true_eq_false, not_or, Classical.not_not, Bool.not_eq_true', Bool.not_eq_false', Int.not_lt, Int.not_le, Bool.false_eq_true, false_implies, true_implies, and_self, not_true_eq_false, not_false_eq_true, history_Validate.r9, history_Validate.r10, history_Validate.r11, history_Validate.r12, history_Validate.r13, history_Validate.r14, history_Validate.r15, history_Validate.r16, history_Validate.r17, history_Validate.r18, history_Validate.r19, history_Validate.r20, history_Validate.r21, history_Validate.r22, history_Validate.retv, h11, h12, h13, h3, h4, h25, h26, h27]
    refine ⟨fun hkl => ?_, fun hkl => ?_⟩
    · have hkl : k < c.Parents.length := by omega
      have hg : c.Parents.getD k 0 = c.Parents[k] := by simp [List.getD, hkl]
      have hbad : ∀ x, pFault i c.Parents k = some x → cFault i c = some x := fun x hx => by
        unfold cFault
        rw [if_neg (by omega), fs_some hkno hkl hx]
      have hgd : pFault i c.Parents k = none → (∀ j, j < k + 1 → pFault i c.Parents j = none) := fun hx j hj => by
        by_cases e : j = k
        · subst e; exact hx
        · exact hkno j (by omega)
      rw [w64_succ (by omega)]
      refine opt_of (idx_nat' hkl) ⟨fun hb => ?_, fun hb => ?_⟩
      · exact hret 3 (hbad 3 (by unfold pFault; rw [hg, if_pos hb]))
      refine ⟨fun hk0 => ?_, fun hk0 => ?_⟩
      · have hk0 : 0 < k := by omega
        have hw : w64 ((k : Int) - 1) = ((k - 1 : Nat) : Int) := by rw [w64_id (by omega) (by omega)]; omega
        have hg1 : c.Parents.getD (k - 1) 0 = c.Parents[k - 1] := by
          have : k - 1 < c.Parents.length := by omega
          simp [List.getD, this]
        rw [hw]
        refine opt_of (idx_nat' (by omega : k - 1 < c.Parents.length)) ⟨fun hm => ?_, fun hm => ?_⟩
        · exact hret 5 (hbad 5 (by unfold pFault; rw [hg, hg1, if_neg (by omega), if_pos ⟨hk0, hm⟩]))
        · exact ⟨⟨k + 1, rfl, by omega, hgd (by unfold pFault; rw [hg, hg1, if_neg (by omega), if_neg (by omega)])⟩, by omega⟩
      · exact ⟨⟨k + 1, rfl, by omega, hgd (by unfold pFault; rw [hg, if_neg (by omega), if_neg (by omega)])⟩, by omega⟩
    · have hkl : k = c.Parents.length := by omega
      have hall : (List.range c.Parents.length).findSome? (pFault i c.Parents) = none := fs_none (by rw [← hkl]; exact hkno)
      have hC : cFault i c = if c.Author < 0 ∨ 7 < c.Author ∨ c.Time < 0 ∨ 100000 < c.Time ∨ c.Tree < 0 ∨ 2305843009213693951 ≤ c.Tree then some 3 else if 80 < c.Message.size then some 10 else none := by
        unfold cFault; rw [if_neg (by omega), hall]
      refine ⟨fun ha => ⟨fun _ => hret 3 (by rw [hC, if_pos (by omega)]), fun h => absurd ha (by omega)⟩, fun ha => ⟨fun ht => ⟨fun _ => hret 3 (by rw [hC, if_pos (by omega)]), fun h => absurd ht (by omega)⟩, fun ht => ⟨fun hr => hret 3 (by rw [hC, if_pos (by omega)]), fun hr => ⟨fun hm => hret 10 (by rw [hC, if_neg (by omega), if_pos (by omega)]), fun hm => ?_⟩⟩⟩⟩
      have hn := hgo (by rw [hC, if_neg (by omega), if_neg (by omega)])
      rw [w64_succ (by omega)]
      refine ⟨⟨i + 1, rfl, by omega, fun j hj => ?_⟩, by omega⟩
      by_cases e : j = i
      · subst e; exact hn
      · exact hno j (by omega)
  · have : i = s.t_11.length := by omega
    rw [fs_none (by rw [← this]; exact hno)]
    rfl

theorem In_eq (n a b : Int) : ref3_In.f n a b = some (decide (a ≤ n) && decide (n ≤ b)) := by
  refine retOf_of ?_
  unfold ref3_In.body
  simp only [W_seq, W_reg, W_ret, ref3_In.r0, ref3_In.r1, ref3_In.retv, opt_some, thenQ_nrm]
theorem Fault_eq (c i : Int) : ref3_Fault.f c i = some ⟨c, i⟩ := by
  refine retOf_of ?_
  unfold ref3_Fault.body
  simp only [W_seq, W_reg, W_ret, ref3_Fault.r0, ref3_Fault.r1, ref3_Fault.retv, opt_some, thenQ_nrm]
theorem isDigest_eq (d : Int) : ref3_isDigest.f d = some (decide (0 ≤ d) && decide (d ≤ 2305843009213693950)) := by
  refine retOf_of ?_
  unfold ref3_isDigest.body
  simp only [W_seq, W_reg, W_ret, ref3_isDigest.r0, ref3_isDigest.r1, ref3_isDigest.retv, In_eq, opt_some, opt_bind, thenQ_nrm]

theorem HistoryFault_eq (l : List Commit) : ref3_HistoryFault.f l = some (hFault l) := by
  refine retOf_of ?_
  unfold ref3_HistoryFault.body
  simp only [W_seq, W_block, W_reg, W_cond, W_skip, W_ext, W_ret, opt_some, opt_bind, opt_ite, thenQ_nrm, thenQ_ext, thenQ_ret, blkQ_nrm, blkQ_ext, blkQ_ret, if_true, true_and, and_true, decide_eq_true_eq, decide_eq_false_iff_not, Bool.or_eq_true, Bool.and_eq_true, Bool.or_eq_false_iff, Bool.and_eq_false_iff, Bool.true_eq_false, not_or, Classical.not_not, Bool.not_eq_true', Bool.not_eq_false', Int.not_lt, Int.not_le, Bool.false_eq_true, false_implies, true_implies, and_self, not_true_eq_false, not_false_eq_true, ref3_HistoryFault.r0, ref3_HistoryFault.r1, ref3_HistoryFault.r2, ref3_HistoryFault.r3, ref3_HistoryFault.retv, Fault_eq]
  refine ⟨fun h => ?_, fun h => ?_⟩
  · have h : 60 < l.length := by omega
    simp [hFault, h]
  have h60 : l.length ≤ 60 := by omega
  have hG : hFault l = ((List.range l.length).findSome? (hF l)).getD ⟨0, 0⟩ := by unfold hFault; rw [if_neg (by omega)]
  rw [hG]
  refine W_iter (fun s => s.t_0 = l ∧ ∃ i : Nat, s.t_3 = i ∧ i ≤ l.length ∧ ∀ j, j < i → hF l j = none) (fun s => l.length - s.t_3.toNat) ⟨rfl, 0, rfl, by omega, by omega⟩ ?_
  rintro s ⟨rfl, i, hi, hle, hno⟩
  simp only [W_seq, W_block, W_reg, W_cond, W_skip, W_ext, W_ret, opt_some, opt_bind, opt_ite, thenQ_nrm, thenQ_ext, thenQ_ret, blkQ_nrm, blkQ_ext, blkQ_ret, if_true, true_and, and_true, decide_eq_true_eq, decide_eq_false_iff_not, Bool.or_eq_true, Bool.and_eq_true, Bool.or_eq_false_iff, Bool.and_eq_false_iff, Bool.true_eq_false, not_or, Classical.not_not, Bool.not_eq_true', Bool.not_eq_false', Int.not_lt, Int.not_le, Bool.false_eq_true, false_implies, true_implies, and_self, not_true_eq_false, not_false_eq_true, ref3_HistoryFault.r4, ref3_HistoryFault.r6, ref3_HistoryFault.r7, ref3_HistoryFault.r8, ref3_HistoryFault.r9, ref3_HistoryFault.r20, ref3_HistoryFault.retv, Fault_eq, hi]
  refine ⟨fun hlt => ?_, fun hge => ?_⟩
  · have hlt : i < s.t_0.length := by omega
    have hc : s.t_0[i]? = some s.t_0[i] := List.getElem?_eq_getElem hlt
    refine opt_of (idx_nat' hlt) ?_
    obtain ⟨c, hcc⟩ : ∃ c, c = s.t_0[i] := ⟨_, rfl⟩
    rw [← hcc] at hc ⊢
    have hret : ∀ x, cFault i c = some x → Ctl.ret (σ := ref3_HistoryFault.S) (⟨x, (i : Int)⟩ : Fault) = Ctl.ret (((List.range s.t_0.length).findSome? (hF s.t_0)).getD ⟨0, 0⟩) := fun x hx => by
      rw [fs_some hno hlt (x := ⟨x, i⟩) (by simp [hF, hc, hx])]; rfl
    have hgo : cFault i c = none → hF s.t_0 i = none := fun h => by simp [hF, hc, h]
    refine ⟨fun hp => ?_, fun hp => ?_⟩
    · exact hret 2 (by have : 3 < c.Parents.length := by omega
                       simp [cFault, this])
    have hp : c.Parents.length ≤ 3 := by omega
    refine W_iter (fun s' => s'.t_0 = s.t_0 ∧ s'.t_3 = i ∧ s'.t_4 = c ∧ ∃ k : Nat, s'.t_5 = k ∧ k ≤ c.Parents.length ∧ ∀ j, j < k → pFault i c.Parents j = none) (fun s' => c.Parents.length - s'.t_5.toNat)
      ⟨rfl, rfl, rfl, 0, rfl, by omega, by omega⟩ ?_
    rintro s' ⟨h0, h3, h4, k, h5, hk, hkno⟩
    have hwi : w64 ((i : Int) - 1) = (i : Int) - 1 := w64_id (by omega) (by omega)
    simp only [W_seq, W_block, W_reg, W_cond, W_skip, W_ext, W_ret, opt_some, opt_bind, opt_ite, thenQ_nrm, thenQ_ext, thenQ_ret, blkQ_nrm, blkQ_ext, blkQ_ret, if_true, true_and, and_true, decide_eq_true_eq, decide_eq_false_iff_not, Bool.or_eq_true, Bool.and_eq_true, Bool.or_eq_false_iff, Bool.and_eq_false_iff, Bool.true_eq_false, not_or, Classical.not_not, Bool.not_eq_true', Bool.not_eq_false', Int.not_lt, Int.not_le, Bool.false_eq_true, false_implies, true_implies, and_self, not_true_eq_false, not_false_eq_true, ref3_HistoryFault.r10, ref3_HistoryFault.r11, ref3_HistoryFault.r12, ref3_HistoryFault.r13, ref3_HistoryFault.r14, ref3_HistoryFault.r15, ref3_HistoryFault.r16, ref3_HistoryFault.r17, ref3_HistoryFault.r18, ref3_HistoryFault.r19, ref3_HistoryFault.r5, ref3_HistoryFault.retv, h0, h3, h4, h5, In_eq, Fault_eq, isDigest_eq, hwi]
    refine ⟨fun hkl => ?_, fun hkl => ?_⟩
    · have hkl : k < c.Parents.length := by omega
      have hg : c.Parents.getD k 0 = c.Parents[k] := by simp [List.getD, hkl]
      have hbad : ∀ x, pFault i c.Parents k = some x → cFault i c = some x := fun x hx => by
        unfold cFault
        rw [if_neg (by omega), fs_some hkno hkl hx]
      have hgd : pFault i c.Parents k = none → (∀ j, j < k + 1 → pFault i c.Parents j = none) := fun hx j hj => by
        by_cases e : j = k
        · subst e; exact hx
        · exact hkno j (by omega)
      rw [w64_succ (by omega)]
      refine opt_of (idx_nat' hkl) ?_
      refine ⟨fun hb => hret 3 (hbad 3 (by unfold pFault; rw [hg, if_pos (by omega)])), fun hb => ⟨fun hk0 => ?_, fun hk0 => ?_⟩⟩
      · have hk0 : 0 < k := by omega
        have hw : w64 ((k : Int) - 1) = ((k - 1 : Nat) : Int) := by rw [w64_id (by omega) (by omega)]; omega
        have hg1 : c.Parents.getD (k - 1) 0 = c.Parents[k - 1] := by
          have : k - 1 < c.Parents.length := by omega
          simp [List.getD, this]
        rw [hw]
        refine opt_of (idx_nat' hkl) (opt_of (idx_nat' (by omega : k - 1 < c.Parents.length)) ⟨fun hm => ?_, fun hm => ?_⟩)
        · exact hret 5 (hbad 5 (by unfold pFault; rw [hg, hg1, if_neg (by omega), if_pos ⟨hk0, hm⟩]))
        · exact ⟨⟨k + 1, rfl, by omega, hgd (by unfold pFault; rw [hg, hg1, if_neg (by omega), if_neg (by omega)])⟩, by omega⟩
      · exact ⟨⟨k + 1, rfl, by omega, hgd (by unfold pFault; rw [hg, if_neg (by omega), if_neg (by omega)])⟩, by omega⟩
    · have hkl : k = c.Parents.length := by omega
      have hall : (List.range c.Parents.length).findSome? (pFault i c.Parents) = none := fs_none (by rw [← hkl]; exact hkno)
      have hC : cFault i c = if c.Author < 0 ∨ 7 < c.Author ∨ c.Time < 0 ∨ 100000 < c.Time ∨ c.Tree < 0 ∨ 2305843009213693951 ≤ c.Tree then some 3 else if 80 < c.Message.size then some 10 else none := by
        unfold cFault; rw [if_neg (by omega), hall]
      refine ⟨fun ha => hret 3 (by rw [hC, if_pos (by omega)]), fun ha => ⟨fun ht => hret 3 (by rw [hC, if_pos (by omega)]), fun ht => ⟨fun hr => hret 3 (by rw [hC, if_pos (by omega)]), fun hr => ⟨fun hm => hret 10 (by rw [hC, if_neg (by omega), if_pos (by omega)]), fun hm => ?_⟩⟩⟩⟩
      have hn := hgo (by rw [hC, if_neg (by omega), if_neg (by omega)])
      rw [w64_succ (by omega)]
      refine ⟨⟨i + 1, rfl, by omega, fun j hj => ?_⟩, by omega⟩
      by_cases e : j = i
      · subst e; exact hn
      · exact hno j (by omega)
  · have : i = s.t_0.length := by omega
    rw [fs_none (by rw [← this]; exact hno)]
    rfl
end Go.Proofs.Ytilodamhgepjoaa
