/- The table of ancestors. -/
import Derived.Test.YtilodamhgepjoaaPu11
import Derived.Test.YtilodamhgepjoaaPA
namespace Go.Proofs.Ytilodamhgepjoaa
open Go.Fx
set_option linter.unusedVariables false
set_option linter.unusedSimpArgs false

/-- k is an ancestor of i, or i itself. -/
inductive Anc (l : List Commit) : Nat → Nat → Prop
  | refl (i : Nat) : Anc l i i
  | step {i k p : Nat} {c : Commit} : l[i]? = some c → (p : Int) ∈ c.Parents → Anc l p k → Anc l i k
theorem Anc.le {l : List Commit} (ht : Topo l) {i k : Nat} (h : Anc l i k) : k ≤ i := by
  induction h with
  | refl i => exact Nat.le_refl _
  | step hc hp _ ih => have := ht _ _ hc _ hp; omega
theorem Anc.iff {l : List Commit} (ht : Topo l) {i k : Nat} {c : Commit} (hc : l[i]? = some c) (hk : k < i) : Anc l i k ↔ ∃ p : Nat, (p : Int) ∈ c.Parents ∧ Anc l p k := by
  constructor
  · intro h
    cases h with
    | refl => omega
    | step hc' hp h => rw [hc] at hc'; cases hc'; exact ⟨_, hp, h⟩
  · rintro ⟨p, hp, h⟩; exact .step hc hp h
theorem idx_getD {α : Type} {xs : List α} {i : Nat} {d : α} (h : i < xs.length) : idx xs (i : Int) = some (xs.getD i d) := by
  rw [idx_nat' h]; simp [List.getD, h]
theorem getD_set_bool {v : List Bool} {k i : Nat} {x : Bool} (hk : k < v.length) : (setL v (k : Int) x).getD i false = if i = k then x else v.getD i false := by
  unfold setL
  rw [Int.toNat_natCast]
  by_cases e : i = k
  · subst e; simp [List.getD, hk]
  · rw [if_neg e]; simp [List.getD, List.getElem?_set, Ne.symm e]

/-- The row of a commit. -/
def RowA (l : List Commit) (i : Nat) (v : List Bool) : Prop := v.length = l.length ∧ ∀ k, k < l.length → (v.getD k false = true ↔ Anc l i k)
theorem Reach_ex (l : List Commit) (hH : Hist l) : ∃ R, ref3_Reach.f l = some R ∧ R.length = l.length ∧ ∀ i, i < l.length → RowA l i (R.getD i []) := by
  have hl60 := hH.len
  have ht := hH.topo
  have main : W ref3_Reach.body (fun o => ∃ R, o = .ret R ∧ R.length = l.length ∧ ∀ i, i < l.length → RowA l i (R.getD i [])) { l_0 := l, t_2 := [], out_3 := [], i_4 := (0 : Int), row_5 := [], k_6 := (0 : Int), j_7 := (0 : Int), t_11 := false, t_22 := false, t_32 := false } := by
    unfold ref3_Reach.body
    simp only [W_seq, W_block, W_reg, W_cond, W_skip, W_ext, W_ret, opt_some, opt_bind, opt_ite, thenQ_nrm, thenQ_ext, thenQ_ret, blkQ_nrm, blkQ_ext, blkQ_ret, if_true, true_and, and_true, decide_eq_true_eq, decide_eq_false_iff_not, Bool.or_eq_true, Bool.and_eq_true, Bool.or_eq_false_iff, Bool.and_eq_false_iff, Bool.true_eq_false, not_or, Classical.not_not, Bool.not_eq_true', Bool.not_eq_false', Int.not_lt, Int.not_le, Bool.false_eq_true, false_implies, true_implies, and_self, not_true_eq_false, not_false_eq_true, ref3_Reach.retv, ref3_Reach.r0, ref3_Reach.r1, ref3_Reach.r2, ref3_Reach.r3, ref3_Reach.r5, ref3_Reach.r6, ref3_Reach.r7, ref3_Reach.r8, ref3_Reach.r10, ref3_Reach.r11, ref3_Reach.r13, ref3_Reach.r12, ref3_Reach.r9, ref3_Reach.r14, ref3_Reach.r4, ref3_Reach.r15]
    refine W_iter (fun s => s.l_0 = l ∧ ∃ i : Nat, s.i_4 = i ∧ i ≤ l.length ∧ s.out_3.length = i ∧ ∀ j, j < i → RowA l j (s.out_3.getD j [])) (fun s => l.length - s.i_4.toNat) ⟨rfl, 0, rfl, by omega, rfl, by omega⟩ ?_
    rintro s ⟨h0, i, hi, hle, hol, hrow⟩
    simp only [W_seq, W_block, W_reg, W_cond, W_skip, W_ext, W_ret, opt_some, opt_bind, opt_ite, thenQ_nrm, thenQ_ext, thenQ_ret, blkQ_nrm, blkQ_ext, blkQ_ret, if_true, true_and, and_true, decide_eq_true_eq, decide_eq_false_iff_not, Bool.or_eq_true, Bool.and_eq_true, Bool.or_eq_false_iff, Bool.and_eq_false_iff, Bool.true_eq_false, not_or, Classical.not_not, Bool.not_eq_true', Bool.not_eq_false', Int.not_lt, Int.not_le, Bool.false_eq_true, false_implies, true_implies, and_self, not_true_eq_false, not_false_eq_true, ref3_Reach.retv, ref3_Reach.r0, ref3_Reach.r1, ref3_Reach.r2, ref3_Reach.r3, ref3_Reach.r5, ref3_Reach.r6, ref3_Reach.r7, ref3_Reach.r8, ref3_Reach.r10, ref3_Reach.r11, ref3_Reach.r13, ref3_Reach.r12, ref3_Reach.r9, ref3_Reach.r14, ref3_Reach.r4, ref3_Reach.r15, h0, hi]
    refine ⟨fun hlt => ?_, fun hge => ?_⟩
    · have hlt : i < l.length := by omega
      obtain ⟨c, hc⟩ : ∃ c, l[i]? = some c := ⟨l[i], List.getElem?_eq_getElem hlt⟩
      have hcI : idx l (i : Int) = some c := by rw [idx_nat' hlt, ← List.getElem?_eq_getElem hlt, hc]
      have hpl := hH.pars c (List.mem_of_getElem? hc)
      have hpt := ht i c hc
      have hmk : mkL 1 false (l.length : Int) = some (List.replicate l.length false) := by unfold mkL; rw [if_pos (by omega)]; simp
      have hri : idx (List.replicate l.length false) (i : Int) = some false := by rw [idx_getD (d := false) (by simpa using hlt)]; simp [List.getD, hlt]
      refine opt_of hmk (opt_of hri ?_)
      refine W_iter (fun s' => s'.l_0 = l ∧ s'.i_4 = i ∧ s'.out_3 = s.out_3 ∧ s'.row_5.length = l.length ∧ ∃ k : Nat, s'.k_6 = k ∧ k ≤ i ∧ ∀ k', k' < l.length → (s'.row_5.getD k' false = true ↔ (k' = i ∨ (k' < k ∧ Anc l i k')))) (fun s' => i - s'.k_6.toNat)
        ⟨rfl, rfl, rfl, by simp [setL], 0, rfl, by omega, fun k' hk' => ?_⟩ ?_
      · show (setL (List.replicate l.length false) (i : Int) true).getD k' false = true ↔ _
        rw [getD_set_bool (by simpa using hlt)]
        by_cases e : k' = i
        · simp [e]
        · simp [e, List.getD, List.getElem?_replicate, hk']
      · rintro s' ⟨h0, h4, h3, hrl, k, h6, hk, hrk⟩
        simp only [W_seq, W_block, W_reg, W_cond, W_skip, W_ext, W_ret, opt_some, opt_bind, opt_ite, thenQ_nrm, thenQ_ext, thenQ_ret, blkQ_nrm, blkQ_ext, blkQ_ret, if_true, true_and, and_true, decide_eq_true_eq, decide_eq_false_iff_not, Bool.or_eq_true, Bool.and_eq_true, Bool.or_eq_false_iff, Bool.and_eq_false_iff, Bool.true_eq_false, not_or, Classical.not_not, Bool.not_eq_true', Bool.not_eq_false', Int.not_lt, Int.not_le, Bool.false_eq_true, false_implies, true_implies, and_self, not_true_eq_false, not_false_eq_true, ref3_Reach.retv, ref3_Reach.r0, ref3_Reach.r1, ref3_Reach.r2, ref3_Reach.r3, ref3_Reach.r5, ref3_Reach.r6, ref3_Reach.r7, ref3_Reach.r8, ref3_Reach.r10, ref3_Reach.r11, ref3_Reach.r13, ref3_Reach.r12, ref3_Reach.r9, ref3_Reach.r14, ref3_Reach.r4, ref3_Reach.r15, h0, h4, h6]
        refine ⟨fun hkl => ?_, fun hkl => ?_⟩
        · have hkl : k < i := by omega
          have hwk : w64 ((k : Int) + 1) = ((k + 1 : Nat) : Int) := w64_succ (by omega)
          refine W_iter (fun s2 => s2.l_0 = l ∧ s2.i_4 = i ∧ s2.out_3 = s.out_3 ∧ s2.row_5.length = l.length ∧ s2.k_6 = k ∧ ∃ j : Nat, s2.j_7 = j ∧ j ≤ c.Parents.length ∧ ∀ k', k' < l.length → (s2.row_5.getD k' false = true ↔ (k' = i ∨ (k' < k ∧ Anc l i k') ∨ (k' = k ∧ ∃ p : Nat, (p : Int) ∈ c.Parents.take j ∧ Anc l p k')))) (fun s2 => c.Parents.length - s2.j_7.toNat)
            ⟨rfl, rfl, h3, hrl, rfl, 0, rfl, by omega, fun k' hk' => by rw [hrk k' hk']; simp⟩ ?_
          rintro s2 ⟨h0, h4, h3, hrl, h6, j, h7, hj, hrk⟩
          simp only [W_seq, W_block, W_reg, W_cond, W_skip, W_ext, W_ret, opt_some, opt_bind, opt_ite, thenQ_nrm, thenQ_ext, thenQ_ret, blkQ_nrm, blkQ_ext, blkQ_ret, if_true, true_and, and_true, decide_eq_true_eq, decide_eq_false_iff_not, Bool.or_eq_true, Bool.and_eq_true, Bool.or_eq_false_iff, Bool.and_eq_false_iff, Bool.true_eq_false, not_or, Classical.not_not, Bool.not_eq_true', Bool.not_eq_false', Int.not_lt, Int.not_le, Bool.false_eq_true, false_implies, true_implies, and_self, not_true_eq_false, not_false_eq_true, ref3_Reach.retv, ref3_Reach.r0, ref3_Reach.r1, ref3_Reach.r2, ref3_Reach.r3, ref3_Reach.r5, ref3_Reach.r6, ref3_Reach.r7, ref3_Reach.r8, ref3_Reach.r10, ref3_Reach.r11, ref3_Reach.r13, ref3_Reach.r12, ref3_Reach.r9, ref3_Reach.r14, ref3_Reach.r4, ref3_Reach.r15, h0, h4, h6, h7, hwk]
          refine opt_of hcI ⟨fun hjl => ?_, fun hjl => ?_⟩
          · have hjl : j < c.Parents.length := by omega
            have hkrow : k < s2.row_5.length := by omega
            obtain ⟨p, hp⟩ : ∃ p : Nat, c.Parents[j] = (p : Int) := ⟨c.Parents[j].toNat, by have := (hpt _ (List.getElem_mem hjl)).1; omega⟩
            have hpi : p < i := by have := (hpt _ (List.getElem_mem hjl)).2; omega
            have hpidx : idx c.Parents (j : Int) = some (p : Int) := by rw [idx_nat' hjl, hp]
            have hrp := hrow p hpi
            have hout : idx s2.out_3 (p : Int) = some (s.out_3.getD p []) := by rw [h3]; exact idx_getD (by omega)
            have hout2 : idx (s.out_3.getD p []) (k : Int) = some ((s.out_3.getD p []).getD k false) := idx_getD (by rw [hrp.1]; omega)
            have hrow2 : idx s2.row_5 (k : Int) = some (s2.row_5.getD k false) := idx_getD hkrow
            have hpk := hrp.2 k (by omega)
            have hold := hrk k (by omega)
            have key : ∀ v : Bool, (v = true ↔ (s2.row_5.getD k false = true ∨ Anc l p k)) → ∀ k', k' < l.length → ((setL s2.row_5 (k : Int) v).getD k' false = true ↔ (k' = i ∨ (k' < k ∧ Anc l i k') ∨ (k' = k ∧ ∃ p : Nat, (p : Int) ∈ c.Parents.take (j + 1) ∧ Anc l p k'))) := by
              intro v hv k' hk'
              have htk : ∀ q : Nat, (q : Int) ∈ c.Parents.take (j + 1) ↔ (q : Int) ∈ c.Parents.take j ∨ q = p := fun q => by
                rw [List.take_add_one, List.getElem?_eq_getElem hjl, hp]
                simp only [Option.toList, List.mem_append, List.mem_singleton]
                exact or_congr Iff.rfl (by omega)
              rw [getD_set_bool hkrow]
              by_cases e : k' = k
              · subst e
                rw [if_pos rfl, hv, hold]
                constructor
                · rintro ((h | ⟨h, _⟩ | ⟨_, q, hq, ha⟩) | h)
                  · exact .inl h
                  · omega
                  · exact .inr (.inr ⟨rfl, q, (htk q).2 (.inl hq), ha⟩)
                  · exact .inr (.inr ⟨rfl, p, (htk p).2 (.inr rfl), h⟩)
                · rintro (h | ⟨h, _⟩ | ⟨_, q, hq, ha⟩)
                  · exact .inl (.inl h)
                  · omega
                  · rcases (htk q).1 hq with h | rfl
                    · exact .inl (.inr (.inr ⟨rfl, q, h, ha⟩))
                    · exact .inr ha
              · rw [if_neg e, hrk k' hk']
                simp [e]
            rw [w64_succ (by omega)]
            refine opt_of hrow2 ⟨fun ht1 => opt_of hrow2 ?_, fun ht1 => opt_of hcI (opt_of hpidx (opt_of hout (opt_of hout2 (opt_of hrow2 ?_))))⟩
            · refine ⟨⟨h3, by simp [setL, hrl], j + 1, rfl, by omega, key true ⟨fun _ => .inl ht1, fun _ => rfl⟩⟩, by omega⟩
            · refine ⟨⟨h3, by simp [setL, hrl], j + 1, rfl, by omega, key _ (hpk.trans ⟨.inr, fun h => h.resolve_left ht1⟩)⟩, by omega⟩
          · obtain rfl : j = c.Parents.length := by omega
            rw [List.take_length] at hrk
            refine ⟨⟨h3, hrl, k + 1, rfl, by omega, fun k' hk' => ?_⟩, by omega⟩
            rw [hrk k' hk']
            constructor
            · rintro (h | ⟨h, ha⟩ | ⟨rfl, hp⟩)
              · exact .inl h
              · exact .inr ⟨by omega, ha⟩
              · exact .inr ⟨by omega, (Anc.iff ht hc hkl).2 hp⟩
            · rintro (h | ⟨h, ha⟩)
              · exact .inl h
              · by_cases e : k' = k
                · subst e; exact .inr (.inr ⟨rfl, (Anc.iff ht hc hkl).1 ha⟩)
                · exact .inr (.inl ⟨by omega, ha⟩)
        · obtain rfl : k = i := by omega
          rw [w64_succ (by omega)]
          refine opt_of (appL_of (by rw [h3]; simp; omega)) ⟨⟨k + 1, rfl, by omega, by rw [h3]; simp [hol], fun j hj => ?_⟩, by omega⟩
          rw [h3]
          by_cases e : j = k
          · subst e
            have : (s.out_3 ++ [s'.row_5]).getD j [] = s'.row_5 := by simp [List.getD, ← hol]
            rw [this]
            refine ⟨hrl, fun k' hk' => ?_⟩
            rw [hrk k' hk']
            constructor
            · rintro (rfl | ⟨_, ha⟩)
              · exact .refl _
              · exact ha
            · intro ha
              have := ha.le ht
              by_cases e : k' = j
              · exact .inl e
              · exact .inr ⟨by omega, ha⟩
          · have : (s.out_3 ++ [s'.row_5]).getD j [] = s.out_3.getD j [] := by simp [List.getD, List.getElem?_append_left (by omega : j < s.out_3.length)]
            rw [this]
            exact hrow j (by omega)
    · obtain rfl : i = l.length := by omega
      exact ⟨_, rfl, hol, hrow⟩
  obtain ⟨o, h1, r, rfl, h2⟩ := main
  exact ⟨r, by unfold ref3_Reach.f; rw [h1]; rfl, h2⟩
end Go.Proofs.Ytilodamhgepjoaa
