/- The reference: Insert and Steps. -/
import Derived.Test.YtilodamhgepjoaaPu9
namespace Go.Proofs.Ytilodamhgepjoaa
open Go.Fx
set_option linter.unusedVariables false
set_option linter.unusedSimpArgs false

theorem ins_mem {l : List Int} {k : Nat} {n x : Int} : x ∈ l.take k ++ [n] ++ l.drop k ↔ x ∈ l ∨ x = n := by
  have : x ∈ l ↔ x ∈ l.take k ∨ x ∈ l.drop k := by
    rw [← List.mem_append, List.take_append_drop]
  rw [this]
  simp only [List.mem_append, List.mem_singleton]
  constructor
  · rintro ((h | h) | h)
    · exact .inl (.inl h)
    · exact .inr h
    · exact .inl (.inr h)
  · rintro ((h | h) | h)
    · exact .inl (.inl h)
    · exact .inr h
    · exact .inl (.inr h)
theorem Insert_ex (l : List Int) (n : Int) (hs : l.Pairwise (· < ·)) (hl : l.length ≤ 1000) : ∃ r, ref4_Insert.f l n = some r ∧ r.Pairwise (· < ·) ∧ ∀ x, x ∈ r ↔ x ∈ l ∨ x = n := by
  have hsl : ∀ (i j : Nat) (hi : i < l.length) (hj : j < l.length), i < j → l[i] < l[j] := List.pairwise_iff_getElem.1 hs
  have main : W ref4_Insert.body (fun o => ∃ r, o = .ret r ∧ r.Pairwise (· < ·) ∧ ∀ x, x ∈ r ↔ x ∈ l ∨ x = n) { l_0 := l, n_1 := n, t_4 := [], at_5 := (0 : Int), t_8 := false, t_21 := false } := by
    unfold ref4_Insert.body
    simp only [W_seq, W_block, W_reg, W_cond, W_skip, W_ext, W_ret, opt_some, opt_bind, opt_ite, thenQ_nrm, thenQ_ext, thenQ_ret, blkQ_nrm, blkQ_ext, blkQ_ret, if_true, true_and, and_true, decide_eq_true_eq, decide_eq_false_iff_not, Bool.or_eq_true, Bool.and_eq_true, Bool.or_eq_false_iff, Bool.and_eq_false_iff, Bool.true_eq_false, not_or, Classical.not_not, Bool.not_eq_true', Bool.not_eq_false', Int.not_lt, Int.not_le, Bool.false_eq_true, false_implies, true_implies, and_self, not_true_eq_false, not_false_eq_true, ref4_Insert.retv, ref4_Insert.r0, ref4_Insert.r1, ref4_Insert.r2, ref4_Insert.r3, ref4_Insert.r4, ref4_Insert.r5, ref4_Insert.r6, Has_eq l n (by omega)]
    refine ⟨fun h => ⟨l, rfl, hs, fun x => ⟨.inl, fun hx => hx.elim id fun e => e ▸ h⟩⟩, fun h => ?_⟩
    refine W_iter (fun s => s.l_0 = l ∧ s.n_1 = n ∧ ∃ i : Nat, s.at_5 = i ∧ i ≤ l.length ∧ ∀ j, j < i → ∀ (h : j < l.length), l[j] < n) (fun s => l.length - s.at_5.toNat) ⟨rfl, rfl, 0, rfl, by omega, by omega⟩ ?_
    rintro s ⟨h0, h1, i, hi, hle, hlo⟩
    have hend : (∀ j, i ≤ j → ∀ (h : j < l.length), n < l[j]) → (l.take i ++ [n] ++ l.drop i).Pairwise (· < ·) := fun hhi => by
      rw [List.append_assoc, List.pairwise_append]
      refine ⟨hs.sublist (List.take_sublist _ _), ?_, ?_⟩
      · rw [List.singleton_append, List.pairwise_cons]
        refine ⟨fun x hx => ?_, hs.sublist (List.drop_sublist _ _)⟩
        obtain ⟨j, hj, e⟩ := List.getElem_of_mem hx
        rw [List.length_drop] at hj
        rw [List.getElem_drop] at e
        have := hhi (i + j) (by omega) (by omega)
        omega
      · intro x hx y hy
        obtain ⟨j, hj, e⟩ := List.getElem_of_mem hx
        rw [List.length_take] at hj
        rw [List.getElem_take] at e
        have hxn : x < n := by have := hlo j (by omega) (by omega); omega
        rcases List.mem_cons.1 hy with rfl | hy
        · exact hxn
        · have hy : y ∈ l.drop i := hy
          obtain ⟨j', hj', e'⟩ := List.getElem_of_mem hy
          rw [List.length_drop] at hj'
          rw [List.getElem_drop] at e'
          have := hhi (i + j') (by omega) (by omega)
          omega
    have hap1 : appL 8 ([] : List Int) (l.take i) = some (l.take i) := by rw [appL_of (by rw [List.length_take]; simp; omega)]; rfl
    have hap2 : appL 8 (l.take i) [n] = some (l.take i ++ [n]) := appL_of (by rw [List.length_take]; simp; omega)
    have hap3 : appL 8 (l.take i ++ [n]) (l.drop i) = some (l.take i ++ [n] ++ l.drop i) := appL_of (by simp; omega)
    have hc1 : cutTo l (i : Int) = some (l.take i) := by unfold cutTo; rw [if_pos (by omega)]; simp
    have hc2 : cutFrom l (i : Int) = some (l.drop i) := by unfold cutFrom; rw [if_pos (by omega)]; simp
    simp only [W_seq, W_block, W_reg, W_cond, W_skip, W_ext, W_ret, opt_some, opt_bind, opt_ite, thenQ_nrm, thenQ_ext, thenQ_ret, blkQ_nrm, blkQ_ext, blkQ_ret, if_true, true_and, and_true, decide_eq_true_eq, decide_eq_false_iff_not, Bool.or_eq_true, Bool.and_eq_true, Bool.or_eq_false_iff, Bool.and_eq_false_iff, Bool.true_eq_false, not_or, Classical.not_not, Bool.not_eq_true', Bool.not_eq_false', Int.not_lt, Int.not_le, Bool.false_eq_true, false_implies, true_implies, and_self, not_true_eq_false, not_false_eq_true, ref4_Insert.retv, ref4_Insert.r0, ref4_Insert.r1, ref4_Insert.r2, ref4_Insert.r3, ref4_Insert.r4, ref4_Insert.r5, ref4_Insert.r6, h0, h1, hi, hap1, hap2, hap3, hc1, hc2]
    refine ⟨fun hlt => ?_, fun hge => ?_⟩
    · have hlt : i < l.length := by omega
      refine opt_of (idx_nat' hlt) ⟨fun hx => ?_, fun hx => ?_⟩
      · rw [w64_succ (by omega)]
        refine ⟨⟨i + 1, rfl, by omega, fun j hj hjl => ?_⟩, by omega⟩
        by_cases e : j = i
        · subst e; exact hx
        · exact hlo j (by omega) hjl
      · refine ⟨_, rfl, hend fun j hj hjl => ?_, fun x => ins_mem⟩
        have hne : l[i] ≠ n := fun e => h (e ▸ List.getElem_mem hlt)
        by_cases e : i = j
        · subst e; omega
        · have := hsl i j hlt hjl (by omega); omega
    · refine ⟨_, rfl, hend fun j hj hjl => by omega, fun x => ins_mem⟩
  obtain ⟨o, h1, r, rfl, h2⟩ := main
  exact ⟨r, by unfold ref4_Insert.f; rw [h1]; rfl, h2⟩
/-- The set that is reached after k steps, as a list. -/
theorem within_next {l : List Commit} {fr : List Int} {k : Int} (hk : 0 ≤ k) (ht : Topo l) {n : Int} : n ∈ sel l fr (k + 1) 0 ↔ n ∈ sel l fr k 0 ∨ ∃ m ∈ sel l fr k 0, n ∈ par l m := by
  rw [sel_mem, sel_mem]
  constructor
  · rintro ⟨_, i, rfl, hi, hw⟩
    rw [show (k + 1).toNat = k.toNat + 1 by omega] at hw
    rcases hw with hw | ⟨c, x, _, hx, hw, hp⟩
    · exact .inl ⟨hk, i, rfl, hi, hw⟩
    · exact .inr ⟨c, sel_memN.2 ⟨hk, (List.getElem?_eq_some_iff.1 hx).1, hw⟩, by unfold par; rw [Int.toNat_natCast, hx]; exact hp⟩
  · rintro (⟨_, i, rfl, hi, hw⟩ | ⟨m, hm, hp⟩)
    · refine ⟨by omega, i, rfl, hi, ?_⟩
      rw [show (k + 1).toNat = k.toNat + 1 by omega]; exact .inl hw
    · obtain ⟨_, c, rfl, hc, hw⟩ := sel_mem.1 hm
      have hx : l[c]? = some l[c] := List.getElem?_eq_getElem hc
      unfold par at hp
      rw [Int.toNat_natCast, hx] at hp
      have := ht c _ hx n hp
      refine ⟨by omega, n.toNat, by omega, by omega, ?_⟩
      rw [show (k + 1).toNat = k.toNat + 1 by omega]
      exact .inr ⟨c, _, Nat.zero_le _, hx, hw, by rw [show ((n.toNat : Nat) : Int) = n by omega]; exact hp⟩
/-- Where a step adds nothing, no further one does. -/
theorem within_stop {l : List Commit} {fr : List Int} {k : Int} (hk : 0 ≤ k) (ht : Topo l) (h : sel l fr (k + 1) 0 = sel l fr k 0) : ∀ d : Nat, sel l fr (k + d) 0 = sel l fr k 0
  | 0 => by rw [show k + ((0 : Nat) : Int) = k by omega]
  | d + 1 => by
    have ih := within_stop hk ht h d
    refine Eq.trans ?_ h
    refine inc_ext sel_inc sel_inc fun n => ?_
    rw [show k + ((d + 1 : Nat) : Int) = (k + d) + 1 by omega, within_next (by omega) ht, within_next hk ht, ih]
theorem par_len {l : List Commit} (hp : ∀ x ∈ l, x.Parents.length ≤ 3) (n : Int) : (par l n).length ≤ 3 := by
  unfold par
  cases h : l[n.toNat]? with
  | none => simp
  | some c => exact hp c (List.mem_of_getElem? h)
theorem Steps_eq (l : List Commit) (fr : List Int) (steps : Int) (hH : Hist l) (hfr : ∀ n ∈ fr, 0 ≤ n ∧ n < l.length) (hfl : fr.length ≤ 9223372036854775807) (hs : steps ≤ 1000) (hs0 : -1000 ≤ steps) : ref4_Steps.f l fr steps = some (sel l fr steps 0) := by
  refine retOf_of ?_
  unfold ref4_Steps.body
  have ht := hH.topo
  have hl60 := hH.len
  simp only [W_seq, W_block, W_reg, W_cond, W_skip, W_ext, W_ret, opt_some, opt_bind, opt_ite, thenQ_nrm, thenQ_ext, thenQ_ret, blkQ_nrm, blkQ_ext, blkQ_ret, if_true, true_and, and_true, decide_eq_true_eq, decide_eq_false_iff_not, Bool.or_eq_true, Bool.and_eq_true, Bool.or_eq_false_iff, Bool.and_eq_false_iff, Bool.true_eq_false, not_or, Classical.not_not, Bool.not_eq_true', Bool.not_eq_false', Int.not_lt, Int.not_le, Bool.false_eq_true, false_implies, true_implies, and_self, not_true_eq_false, not_false_eq_true, ref4_Steps.retv, ref4_Steps.r0, ref4_Steps.r1, ref4_Steps.r2, ref4_Steps.r3, ref4_Steps.r4, ref4_Steps.r5, ref4_Steps.r7, ref4_Steps.r6, ref4_Steps.r8, ref4_Steps.r10, ref4_Steps.r11, ref4_Steps.r12, ref4_Steps.r14, ref4_Steps.r15, ref4_Steps.r17, ref4_Steps.r16, ref4_Steps.r13, ref4_Steps.r18, ref4_Steps.r19, ref4_Steps.r20, ref4_Steps.r9, ref4_Steps.r21]
  refine ⟨fun h => ?_, fun h => ?_⟩
  · have : sel l fr steps 0 = [] := List.eq_nil_iff_forall_not_mem.2 fun n hn => by have := (sel_mem.1 hn).1; omega
    rw [this]
  refine W_iter (fun s => s.t_0 = l ∧ s.t_1 = fr ∧ s.t_2 = steps ∧ ∃ i : Nat, s.t_8 = i ∧ i ≤ fr.length ∧ s.t_7.Pairwise (· < ·) ∧ ∀ x, x ∈ s.t_7 ↔ x ∈ fr.take i) (fun s => fr.length - s.t_8.toNat) ⟨rfl, rfl, rfl, 0, rfl, by omega, by simp, by simp⟩ ?_
  rintro s ⟨h0, h1, h2, i, hi, hle, hinc, hmem⟩
  simp only [W_seq, W_block, W_reg, W_cond, W_skip, W_ext, W_ret, opt_some, opt_bind, opt_ite, thenQ_nrm, thenQ_ext, thenQ_ret, blkQ_nrm, blkQ_ext, blkQ_ret, if_true, true_and, and_true, decide_eq_true_eq, decide_eq_false_iff_not, Bool.or_eq_true, Bool.and_eq_true, Bool.or_eq_false_iff, Bool.and_eq_false_iff, Bool.true_eq_false, not_or, Classical.not_not, Bool.not_eq_true', Bool.not_eq_false', Int.not_lt, Int.not_le, Bool.false_eq_true, false_implies, true_implies, and_self, not_true_eq_false, not_false_eq_true, ref4_Steps.retv, ref4_Steps.r0, ref4_Steps.r1, ref4_Steps.r2, ref4_Steps.r3, ref4_Steps.r4, ref4_Steps.r5, ref4_Steps.r7, ref4_Steps.r6, ref4_Steps.r8, ref4_Steps.r10, ref4_Steps.r11, ref4_Steps.r12, ref4_Steps.r14, ref4_Steps.r15, ref4_Steps.r17, ref4_Steps.r16, ref4_Steps.r13, ref4_Steps.r18, ref4_Steps.r19, ref4_Steps.r20, ref4_Steps.r9, ref4_Steps.r21, h0, h1, h2, hi]
  refine ⟨fun hlt => ?_, fun hge => ?_⟩
  · have hlt : i < fr.length := by omega
    have hlen : s.t_7.length ≤ 60 := Nat.le_trans (inc_len (n := l.length) (fun x hx => hfr x (List.mem_of_mem_take ((hmem x).1 hx))) hinc) hl60
    obtain ⟨r, hr, hri, hrm⟩ := Insert_ex s.t_7 fr[i] hinc (by omega)
    rw [w64_succ (by omega)]
    refine opt_of (idx_nat' hlt) (opt_of hr ⟨⟨i + 1, rfl, by omega, hri, fun x => ?_⟩, by omega⟩)
    rw [hrm, hmem, List.take_add_one, List.getElem?_eq_getElem hlt]
    simp only [Option.toList, List.mem_append, List.mem_singleton]
  · obtain rfl : i = fr.length := by omega
    rw [List.take_length] at hmem
    have hsel0 : s.t_7 = sel l fr 0 0 := inc_ext hinc sel_inc fun n => by
      rw [hmem, sel_mem]
      constructor
      · intro hn
        have := hfr n hn
        exact ⟨by omega, n.toNat, by omega, by omega, by show ((n.toNat : Nat) : Int) ∈ fr; rw [show ((n.toNat : Nat) : Int) = n by omega]; exact hn⟩
      · rintro ⟨_, j, rfl, _, hw⟩; exact hw
    refine W_iter (fun s => s.t_0 = l ∧ ∃ k : Nat, s.t_2 = steps - k ∧ (k : Int) ≤ steps ∧ s.t_7 = sel l fr k 0) (fun s => s.t_2.toNat) ⟨rfl, 0, by simp, by omega, hsel0⟩ ?_
    rintro s ⟨h0, k, h2, hk, h7⟩
    have hkl : (sel l fr k 0).length ≤ 60 := Nat.le_trans sel_len hl60
    simp only [W_seq, W_block, W_reg, W_cond, W_skip, W_ext, W_ret, opt_some, opt_bind, opt_ite, thenQ_nrm, thenQ_ext, thenQ_ret, blkQ_nrm, blkQ_ext, blkQ_ret, if_true, true_and, and_true, decide_eq_true_eq, decide_eq_false_iff_not, Bool.or_eq_true, Bool.and_eq_true, Bool.or_eq_false_iff, Bool.and_eq_false_iff, Bool.true_eq_false, not_or, Classical.not_not, Bool.not_eq_true', Bool.not_eq_false', Int.not_lt, Int.not_le, Bool.false_eq_true, false_implies, true_implies, and_self, not_true_eq_false, not_false_eq_true, ref4_Steps.retv, ref4_Steps.r0, ref4_Steps.r1, ref4_Steps.r2, ref4_Steps.r3, ref4_Steps.r4, ref4_Steps.r5, ref4_Steps.r7, ref4_Steps.r6, ref4_Steps.r8, ref4_Steps.r10, ref4_Steps.r11, ref4_Steps.r12, ref4_Steps.r14, ref4_Steps.r15, ref4_Steps.r17, ref4_Steps.r16, ref4_Steps.r13, ref4_Steps.r18, ref4_Steps.r19, ref4_Steps.r20, ref4_Steps.r9, ref4_Steps.r21, h0, h2, h7]
    refine ⟨fun hlt => ?_, fun hge => ?_⟩
    · refine W_iter (fun s => s.t_0 = l ∧ s.t_2 = steps - k ∧ s.t_7 = sel l fr k 0 ∧ ∃ i : Nat, s.t_10 = i ∧ i ≤ (sel l fr k 0).length ∧ s.t_9.Pairwise (· < ·) ∧ ∀ x, x ∈ s.t_9 ↔ x ∈ sel l fr k 0 ∨ ∃ m ∈ (sel l fr k 0).take i, x ∈ par l m) (fun s => (sel l fr k 0).length - s.t_10.toNat)
        ⟨rfl, rfl, rfl, 0, rfl, by omega, sel_inc, by simp⟩ ?_
      rintro s ⟨h0, h2, h7, i, hi, hle, hinc, hmem⟩
      simp only [W_seq, W_block, W_reg, W_cond, W_skip, W_ext, W_ret, opt_some, opt_bind, opt_ite, thenQ_nrm, thenQ_ext, thenQ_ret, blkQ_nrm, blkQ_ext, blkQ_ret, if_true, true_and, and_true, decide_eq_true_eq, decide_eq_false_iff_not, Bool.or_eq_true, Bool.and_eq_true, Bool.or_eq_false_iff, Bool.and_eq_false_iff, Bool.true_eq_false, not_or, Classical.not_not, Bool.not_eq_true', Bool.not_eq_false', Int.not_lt, Int.not_le, Bool.false_eq_true, false_implies, true_implies, and_self, not_true_eq_false, not_false_eq_true, ref4_Steps.retv, ref4_Steps.r0, ref4_Steps.r1, ref4_Steps.r2, ref4_Steps.r3, ref4_Steps.r4, ref4_Steps.r5, ref4_Steps.r7, ref4_Steps.r6, ref4_Steps.r8, ref4_Steps.r10, ref4_Steps.r11, ref4_Steps.r12, ref4_Steps.r14, ref4_Steps.r15, ref4_Steps.r17, ref4_Steps.r16, ref4_Steps.r13, ref4_Steps.r18, ref4_Steps.r19, ref4_Steps.r20, ref4_Steps.r9, ref4_Steps.r21, h0, h2, h7, hi]
      refine ⟨fun hlt => ?_, fun hge => ?_⟩
      · have hlt : i < (sel l fr k 0).length := by omega
        have hin := sel_inr _ (List.getElem_mem hlt)
        obtain ⟨c, hc, hcl, hp⟩ := idx_par hin.1 hin.2
        have hpl := par_len hH.pars (sel l fr k 0)[i]
        refine W_iter (fun s => s.t_0 = l ∧ s.t_2 = steps - k ∧ s.t_7 = sel l fr k 0 ∧ s.t_10 = i ∧ ∃ j : Nat, s.t_11 = j ∧ j ≤ c.Parents.length ∧ s.t_9.Pairwise (· < ·) ∧ ∀ x, x ∈ s.t_9 ↔ (x ∈ sel l fr k 0 ∨ ∃ m ∈ (sel l fr k 0).take i, x ∈ par l m) ∨ x ∈ c.Parents.take j) (fun s => c.Parents.length - s.t_11.toNat)
          ⟨rfl, rfl, rfl, rfl, 0, rfl, by omega, hinc, by simpa using hmem⟩ ?_
        rintro s ⟨h0, h2, h7, h10, j, h11, hj, hinc, hmem⟩
        simp only [W_seq, W_block, W_reg, W_cond, W_skip, W_ext, W_ret, opt_some, opt_bind, opt_ite, thenQ_nrm, thenQ_ext, thenQ_ret, blkQ_nrm, blkQ_ext, blkQ_ret, if_true, true_and, and_true, decide_eq_true_eq, decide_eq_false_iff_not, Bool.or_eq_true, Bool.and_eq_true, Bool.or_eq_false_iff, Bool.and_eq_false_iff, Bool.true_eq_false, not_or, Classical.not_not, Bool.not_eq_true', Bool.not_eq_false', Int.not_lt, Int.not_le, Bool.false_eq_true, false_implies, true_implies, and_self, not_true_eq_false, not_false_eq_true, ref4_Steps.retv, ref4_Steps.r0, ref4_Steps.r1, ref4_Steps.r2, ref4_Steps.r3, ref4_Steps.r4, ref4_Steps.r5, ref4_Steps.r7, ref4_Steps.r6, ref4_Steps.r8, ref4_Steps.r10, ref4_Steps.r11, ref4_Steps.r12, ref4_Steps.r14, ref4_Steps.r15, ref4_Steps.r17, ref4_Steps.r16, ref4_Steps.r13, ref4_Steps.r18, ref4_Steps.r19, ref4_Steps.r20, ref4_Steps.r9, ref4_Steps.r21, h0, h2, h7, h10, h11]
        refine opt_of (idx_nat' hlt) (opt_of hc ⟨fun hjl => ?_, fun hjl => ?_⟩)
        · have hjl : j < c.Parents.length := by omega
          have hlen : s.t_9.length ≤ 60 := Nat.le_trans (inc_len (n := l.length) (fun x hx => by
            rcases (hmem x).1 hx with (h | ⟨m, hm, h⟩) | h
            · exact sel_inr x h
            · have := (within_next (n := x) (by omega : (0 : Int) ≤ k) ht).2 (.inr ⟨m, List.mem_of_mem_take hm, h⟩)
              exact sel_inr x this
            · have := (within_next (n := x) (by omega : (0 : Int) ≤ k) ht).2 (.inr ⟨_, List.getElem_mem hlt, by rw [hp]; exact List.mem_of_mem_take h⟩)
              exact sel_inr x this) hinc) hl60
          obtain ⟨r, hr, hri, hrm⟩ := Insert_ex s.t_9 c.Parents[j] hinc (by omega)
          rw [hp] at hpl
          rw [w64_succ (by omega)]
          refine opt_of (idx_nat' hlt) (opt_of hc (opt_of (idx_nat' hjl) (opt_of hr ⟨⟨j + 1, rfl, by omega, hri, fun x => ?_⟩, by omega⟩)))
          rw [hrm, hmem, List.take_add_one, List.getElem?_eq_getElem hjl]
          simp only [Option.toList, List.mem_append, List.mem_singleton, or_assoc]
        · obtain rfl : j = c.Parents.length := by omega
          rw [w64_succ (by omega)]
          refine ⟨⟨i + 1, rfl, by omega, hinc, fun x => ?_⟩, by omega⟩
          rw [hmem, List.take_length, List.take_add_one, List.getElem?_eq_getElem hlt, or_assoc]
          refine or_congr Iff.rfl ?_
          simp only [Option.toList, List.mem_append, List.mem_singleton]
          constructor
          · rintro (⟨m, hm, h⟩ | h)
            · exact ⟨m, .inl hm, h⟩
            · exact ⟨_, .inr rfl, by rw [hp]; exact h⟩
          · rintro ⟨m, hm | rfl, h⟩
            · exact .inl ⟨m, hm, h⟩
            · exact .inr (by rw [hp] at h; exact h)
      · obtain rfl : i = (sel l fr k 0).length := by omega
        have h9 : s.t_9 = sel l fr (k + 1) 0 := inc_ext hinc sel_inc fun n => by
          rw [hmem, List.take_length, within_next (by omega) ht]
        rw [h9]
        refine ⟨fun he => ?_, fun he => ?_⟩
        · have hsub : (sel l fr k 0).Sublist (sel l fr (k + 1) 0) := inc_sub sel_inc sel_inc fun n hn => (within_next (by omega) ht).2 (.inl hn)
          have heq := hsub.eq_of_length (by omega)
          have := within_stop (by omega) ht heq.symm (steps - k).toNat
          rw [show (k : Int) + ((steps - k).toNat : Nat) = steps by omega] at this
          rw [this]
        · rw [w64_id (by omega) (by omega)]
          refine ⟨⟨k + 1, by omega, by omega, ?_⟩, by omega⟩
          rw [show ((k + 1 : Nat) : Int) = (k : Int) + 1 by omega]
    · obtain rfl : steps = k := by omega
      rfl
end Go.Proofs.Ytilodamhgepjoaa
