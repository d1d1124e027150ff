/- What is wrong with an index: the reference's word; what is wrong with no index. -/
import Derived.Test.YtoiafcpnhhplnaaPg7
namespace Go.Proofs.Ytoiafcpnhhplnaa
open Go.Fx
set_option linter.unusedVariables false
set_option linter.unusedSimpArgs false
set_option maxRecDepth 20000

theorem xFault_ok {x : TrigramIndex} (h : OkX x) : xFault x = ⟨0, 0⟩ := by
  have hl := h.len
  unfold xFault
  rw [if_neg (by omega), fs_none, fs_none]
  · rfl
  · intro i hi
    have hg : x.Postings.getD i p0 = x.Postings[i] := gd hi
    have hm := List.getElem_mem hi
    have h3 := h.ps.g3 _ hm
    unfold pF
    rw [hg, if_neg (by omega), if_neg, if_neg]
    · rintro ⟨n, hn, h6⟩
      exact h6 (h.ps.sub _ hm n hn)
    · rintro (⟨h1, h2⟩ | h1 | h1)
      · have hg1 : x.Postings.getD (i - 1) p0 = x.Postings[i - 1] := gd (by omega)
        have := List.pairwise_iff_getElem.1 h.ps.gi (i - 1) i (by omega) hi (by omega)
        rw [hg1] at h2
        omega
      · exact h.ps.ne _ hm h1
      · exact h1 (h.ps.ti _ hm)
  · intro i hi
    have hg : x.Texts.getD i 0 = x.Texts[i] := gd hi
    have := h.tr _ (List.getElem_mem hi)
    unfold tF
    rw [if_neg (by omega), if_neg]
    rintro ⟨h1, h2⟩
    have hg1 : x.Texts.getD (i - 1) 0 = x.Texts[i - 1] := gd (by omega)
    have := List.pairwise_iff_getElem.1 h.ti (i - 1) i (by omega) hi (by omega)
    omega
theorem fs_all {α : Type} {g : Nat → Option α} {n : Nat} (h : (List.range n).findSome? g = none) : ∀ j, j < n → g j = none := by
  rw [List.findSome?_eq_none_iff] at h
  exact fun j hj => h j (List.mem_range.2 hj)
theorem pw_gram {P : List Posting} (h : ∀ k, 0 < k → ∀ (hk : k < P.length), gv (P[k - 1]'(by omega)).Gram < gv P[k].Gram) : P.Pairwise (fun p q => gv p.Gram < gv q.Gram) := by
  have : (P.map fun p => ((gv p.Gram : Nat) : Int)).Pairwise (· < ·) := pw_of fun k h0 hk => by
    rw [List.length_map] at hk
    have := h k h0 hk
    rw [List.getElem_map, List.getElem_map]
    omega
  rw [List.pairwise_map] at this
  exact this.imp fun h => by omega
theorem okX {x : TrigramIndex} (h : (xFault x).Code = 0) : OkX x := by
  unfold xFault at h
  split at h
  · cases h
  cases h1 : (List.range x.Texts.length).findSome? (tF x.Texts) with
  | some f =>
    rw [h1] at h
    obtain ⟨j, hj, hf⟩ := List.exists_of_findSome?_eq_some h1
    unfold tF at hf
    split at hf
    · cases hf; cases h
    · split at hf
      · cases hf; cases h
      · cases hf
  | none =>
    rw [h1] at h
    cases h2 : (List.range x.Postings.length).findSome? (pF x) with
    | some f =>
      rw [h2] at h
      obtain ⟨j, hj, hf⟩ := List.exists_of_findSome?_eq_some h2
      unfold pF at hf
      split at hf
      · cases hf; cases h
      · split at hf
        · cases hf; cases h
        · split at hf
          · cases hf; cases h
          · cases hf
    | none =>
      have a1 := fs_all h1
      have a2 := fs_all h2
      have t1 : ∀ i (hi : i < x.Texts.length), (0 ≤ x.Texts[i] ∧ x.Texts[i] < 20) ∧ (0 < i → x.Texts[i - 1]'(by omega) < x.Texts[i]) := fun i hi => by
        have := a1 i hi
        unfold tF at this
        rw [gd hi] at this
        split at this
        · cases this
        · split at this
          · cases this
          · rename_i c1 c2
            refine ⟨by omega, fun h0 => ?_⟩
            have hg1 : x.Texts.getD (i - 1) 0 = x.Texts[i - 1]'(by omega) := gd (by omega)
            rw [hg1] at c2
            omega
      have t2 : ∀ i (hi : i < x.Postings.length), x.Postings[i].Gram.size = 3 ∧ (0 < i → gv (x.Postings[i - 1]'(by omega)).Gram < gv x.Postings[i].Gram) ∧ x.Postings[i].Texts ≠ [] ∧ x.Postings[i].Texts.Pairwise (· < ·) ∧ ∀ n ∈ x.Postings[i].Texts, n ∈ x.Texts := fun i hi => by
        have := a2 i hi
        unfold pF at this
        rw [gd hi] at this
        split at this
        · cases this
        · split at this
          · cases this
          · split at this
            · cases this
            · rename_i c1 c2 c3
              refine ⟨by omega, fun h0 => ?_, fun e => c2 (.inr (.inl e)), Classical.byContradiction fun e => c2 (.inr (.inr e)), fun n hn => Classical.byContradiction fun e => c3 ⟨n, hn, e⟩⟩
              have hg1 : x.Postings.getD (i - 1) p0 = x.Postings[i - 1]'(by omega) := gd (by omega)
              rw [hg1] at c2
              have : ¬ gv x.Postings[i].Gram ≤ gv (x.Postings[i - 1]'(by omega)).Gram := fun e => c2 (.inl ⟨h0, e⟩)
              omega
      have mem : ∀ p ∈ x.Postings, p.Gram.size = 3 ∧ p.Texts ≠ [] ∧ p.Texts.Pairwise (· < ·) ∧ ∀ n ∈ p.Texts, n ∈ x.Texts := fun p hp => by
        obtain ⟨i, hi, rfl⟩ := List.getElem_of_mem hp
        have := t2 i hi
        exact ⟨this.1, this.2.2.1, this.2.2.2.1, this.2.2.2.2⟩
      refine ⟨fun n hn => ?_, pw_of fun k h0 hk => (t1 k hk).2 h0, fun p hp => (mem p hp).1, pw_gram fun k h0 hk => (t2 k hk).2.1 h0, fun p hp => (mem p hp).2.1, fun p hp => (mem p hp).2.2.1, fun p hp => (mem p hp).2.2.2⟩
      obtain ⟨i, hi, rfl⟩ := List.getElem_of_mem hn
      exact (t1 i hi).1
theorem IF_inner {x : TrigramIndex} {p : Posting} {i : Nat} (hx : x.Texts.length ≤ 20) (hp : p.Texts.length ≤ 9223372036854775807) (s : ref4_IndexFault.S) (h1 : s.t_1 = x) (h4 : s.t_4 = i) (h5 : s.t_5 = p) (h6 : s.t_6 = 0) :
    W (iterM (seqM (seqM (regM ref4_IndexFault.r19) (condM (fun s => s.t_98) skipM (extM 4))) (seqM (blockM 5 (seqM (regM ref4_IndexFault.r21) (condM (fun s => s.t_109) (seqM (regM ref4_IndexFault.r22) (retM ref4_IndexFault.retv)) skipM))) (regM ref4_IndexFault.r20))))
      (fun o => (o = .ret ⟨6, i⟩ ∧ ∃ n ∈ p.Texts, ¬ n ∈ x.Texts) ∨ (∃ s2, o = .ext 4 s2 ∧ s2.t_1 = x ∧ s2.t_4 = i ∧ ∀ n ∈ p.Texts, n ∈ x.Texts)) s := by
  refine W_iter (fun s => s.t_1 = x ∧ s.t_4 = i ∧ s.t_5 = p ∧ ∃ j : Nat, s.t_6 = j ∧ j ≤ p.Texts.length ∧ ∀ k (hk : k < j) (hkl : k < p.Texts.length), p.Texts[k] ∈ x.Texts) (fun s => p.Texts.length - s.t_6.toNat) ⟨h1, h4, h5, 0, h6, by omega, by omega⟩ ?_
  rintro s ⟨e1, e4, e5, j, e6, hj, hno⟩
  simp only [WL, ref4_IndexFault.retv, ref4_IndexFault.r0, ref4_IndexFault.r1, ref4_IndexFault.r2, ref4_IndexFault.r3, ref4_IndexFault.r4, ref4_IndexFault.r6, ref4_IndexFault.r7, ref4_IndexFault.r8, ref4_IndexFault.r9, ref4_IndexFault.r5, ref4_IndexFault.r10, ref4_IndexFault.r11, ref4_IndexFault.r13, ref4_IndexFault.r14, ref4_IndexFault.r15, ref4_IndexFault.r16, ref4_IndexFault.r17, ref4_IndexFault.r18, ref4_IndexFault.r19, ref4_IndexFault.r21, ref4_IndexFault.r22, ref4_IndexFault.r20, ref4_IndexFault.r12, ref4_IndexFault.r23, e1, e4, e5, e6, Fault_eq]
  refine ⟨fun hlt => ?_, fun hge => ?_⟩
  · have hlt : j < p.Texts.length := by omega
    refine opt_of (idx_nat' hlt) (opt_of (Has_eq _ _ (by omega)) ⟨fun h => ?_, fun h => ?_⟩)
    · exact .inl ⟨_, List.getElem_mem hlt, of_decide_eq_false h⟩
    · rw [w64_succ (by omega)]
      refine ⟨⟨j + 1, rfl, by omega, fun k hk hkl => ?_⟩, by omega⟩
      by_cases e : k = j
      · subst e; exact of_decide_eq_true h
      · exact hno k (by omega) hkl
  · refine .inr ⟨_, rfl, rfl, rfl, fun n hn => ?_⟩
    obtain ⟨k, hk, rfl⟩ := List.getElem_of_mem hn
    exact hno k (by omega) hk
theorem IndexFault_eq {x : TrigramIndex} (hf : Fine x) : ref4_IndexFault.f x = some (xFault x) := by
  refine retOf_of ?_
  unfold ref4_IndexFault.body
  simp only [WL, ref4_IndexFault.retv, ref4_IndexFault.r0, ref4_IndexFault.r1, ref4_IndexFault.r2, ref4_IndexFault.r3, ref4_IndexFault.r4, ref4_IndexFault.r6, ref4_IndexFault.r7, ref4_IndexFault.r8, ref4_IndexFault.r9, ref4_IndexFault.r5, ref4_IndexFault.r10, ref4_IndexFault.r11, ref4_IndexFault.r13, ref4_IndexFault.r14, ref4_IndexFault.r15, ref4_IndexFault.r16, ref4_IndexFault.r17, ref4_IndexFault.r18, ref4_IndexFault.r19, ref4_IndexFault.r21, ref4_IndexFault.r22, ref4_IndexFault.r20, ref4_IndexFault.r12, ref4_IndexFault.r23, Fault_eq, In_eq]
  refine ⟨fun h => ?_, fun hlen => ?_⟩
  · unfold xFault; rw [if_pos (by omega)]
  have hlen' : ¬ 20 < x.Texts.length := by omega
  refine W_iter (fun s => s.t_1 = x ∧ ∃ i : Nat, s.t_3 = i ∧ i ≤ x.Texts.length ∧ ∀ j, j < i → tF x.Texts j = none) (fun s => x.Texts.length - s.t_3.toNat) ⟨rfl, 0, rfl, by omega, by omega⟩ ?_
  rintro s ⟨e1, i, e3, hi, hno⟩
  simp only [WL, ref4_IndexFault.retv, ref4_IndexFault.r0, ref4_IndexFault.r1, ref4_IndexFault.r2, ref4_IndexFault.r3, ref4_IndexFault.r4, ref4_IndexFault.r6, ref4_IndexFault.r7, ref4_IndexFault.r8, ref4_IndexFault.r9, ref4_IndexFault.r5, ref4_IndexFault.r10, ref4_IndexFault.r11, ref4_IndexFault.r13, ref4_IndexFault.r14, ref4_IndexFault.r15, ref4_IndexFault.r16, ref4_IndexFault.r17, ref4_IndexFault.r18, ref4_IndexFault.r19, ref4_IndexFault.r21, ref4_IndexFault.r22, ref4_IndexFault.r20, ref4_IndexFault.r12, ref4_IndexFault.r23, e1, e3, Fault_eq, In_eq]
  refine ⟨fun hlt => ?_, fun hge => ?_⟩
  · have hlt : i < x.Texts.length := by omega
    have hw : w64 (-2 - (i : Int)) = -2 - (i : Int) := w64_id (by omega) (by omega)
    have hd : ∀ f, tF x.Texts i = some f → xFault x = f := fun f h => by
      unfold xFault; rw [if_neg hlen', fs_some hno hlt h]; rfl
    have hg : x.Texts.getD i 0 = x.Texts[i] := gd hlt
    rw [hw]
    refine opt_of (idx_nat' hlt) ⟨fun h => ?_, fun h => ⟨fun h0 => ?_, fun h0 => ?_⟩⟩
    · rw [hd _ (by unfold tF; rw [if_pos (by omega)])]
    · have hw1 : w64 ((i : Int) - 1) = ((i - 1 : Nat) : Int) := by rw [w64_id (by omega) (by omega)]; omega
      have hg1 : x.Texts.getD (i - 1) 0 = x.Texts[i - 1] := gd (by omega)
      rw [hw1]
      refine opt_of (idx_nat' (by omega)) (opt_of (idx_nat' hlt) ⟨fun h1 => ?_, fun h1 => ?_⟩)
      · rw [hd _ (by unfold tF; rw [if_neg (by omega), if_pos (by omega)])]
      · rw [w64_succ (by omega)]
        refine ⟨⟨i + 1, rfl, by omega, fun j hj => ?_⟩, by omega⟩
        by_cases e : j = i
        · subst e; unfold tF; rw [if_neg (by omega), if_neg (by omega)]
        · exact hno j (by omega)
    · rw [w64_succ (by omega)]
      refine ⟨⟨i + 1, rfl, by omega, fun j hj => ?_⟩, by omega⟩
      by_cases e : j = i
      · subst e; unfold tF; rw [if_neg (by omega), if_neg (by omega)]
      · exact hno j (by omega)
  · have : i = x.Texts.length := by omega
    subst this
    have hT : xFault x = ((List.range x.Postings.length).findSome? (pF x)).getD ⟨0, 0⟩ := by
      unfold xFault; rw [if_neg hlen', fs_none hno]; rfl
    rw [hT]
    have hpl := hf.pl
    refine W_iter (fun s => s.t_1 = x ∧ ∃ i : Nat, s.t_4 = i ∧ i ≤ x.Postings.length ∧ ∀ j, j < i → pF x j = none) (fun s => x.Postings.length - s.t_4.toNat) ⟨rfl, 0, rfl, by omega, by omega⟩ ?_
    rintro s ⟨e1, i, e4, hi, hno⟩
    simp only [WL, ref4_IndexFault.retv, ref4_IndexFault.r0, ref4_IndexFault.r1, ref4_IndexFault.r2, ref4_IndexFault.r3, ref4_IndexFault.r4, ref4_IndexFault.r6, ref4_IndexFault.r7, ref4_IndexFault.r8, ref4_IndexFault.r9, ref4_IndexFault.r5, ref4_IndexFault.r10, ref4_IndexFault.r11, ref4_IndexFault.r13, ref4_IndexFault.r14, ref4_IndexFault.r15, ref4_IndexFault.r16, ref4_IndexFault.r17, ref4_IndexFault.r18, ref4_IndexFault.r19, ref4_IndexFault.r21, ref4_IndexFault.r22, ref4_IndexFault.r20, ref4_IndexFault.r12, ref4_IndexFault.r23, e1, e4, Fault_eq]
    refine ⟨fun hlt => ?_, fun hge => ?_⟩
    · have hlt : i < x.Postings.length := by omega
      have hd : ∀ f, pF x i = some f → ((List.range x.Postings.length).findSome? (pF x)).getD ⟨0, 0⟩ = f := fun f h => by rw [fs_some hno hlt h]; rfl
      have hg : x.Postings.getD i p0 = x.Postings[i] := gd hlt
      have htl := hf.tl _ (List.getElem_mem hlt)
      refine opt_of (idx_nat' hlt) ⟨fun h => ?_, fun h3 => ?_⟩
      · rw [hd _ (by unfold pF; rw [hg, if_pos (by omega)])]
      have h3 : x.Postings[i].Gram.size = 3 := by omega
      have f5 : ((0 < i ∧ gv x.Postings[i].Gram ≤ gv (x.Postings.getD (i - 1) p0).Gram) ∨ x.Postings[i].Texts = [] ∨ ¬ x.Postings[i].Texts.Pairwise (· < ·)) → pF x i = some ⟨5, i⟩ := fun h => by
        unfold pF; rw [hg, if_neg (by omega), if_pos h]
      have nl : ((x.Postings[i].Texts.length : Int) < 1) ↔ x.Postings[i].Texts = [] := by rw [← List.length_eq_zero_iff]; omega
      have hx20 : x.Texts.length ≤ 20 := by omega
      have f6 : ¬ ((0 < i ∧ gv x.Postings[i].Gram ≤ gv (x.Postings.getD (i - 1) p0).Gram) ∨ x.Postings[i].Texts = [] ∨ ¬ x.Postings[i].Texts.Pairwise (· < ·)) → (∃ n ∈ x.Postings[i].Texts, ¬ n ∈ x.Texts) → pF x i = some ⟨6, i⟩ := fun h h2 => by
        unfold pF; rw [hg, if_neg (by omega), if_neg h, if_pos h2]
      have f0 : ¬ ((0 < i ∧ gv x.Postings[i].Gram ≤ gv (x.Postings.getD (i - 1) p0).Gram) ∨ x.Postings[i].Texts = [] ∨ ¬ x.Postings[i].Texts.Pairwise (· < ·)) → (∀ n ∈ x.Postings[i].Texts, n ∈ x.Texts) → ∀ j, j < i + 1 → pF x j = none := fun h h2 j hj => by
        by_cases e : j = i
        · subst e; unfold pF; rw [hg, if_neg (by omega), if_neg h, if_neg (fun ⟨n, hn, h7⟩ => h7 (h2 n hn))]
        · exact hno j (by omega)
      have step : (0 < i → ¬ gv x.Postings[i].Gram ≤ gv (x.Postings.getD (i - 1) p0).Gram) → ¬ x.Postings[i].Texts = [] → x.Postings[i].Texts.Pairwise (· < ·) → ¬ ((0 < i ∧ gv x.Postings[i].Gram ≤ gv (x.Postings.getD (i - 1) p0).Gram) ∨ x.Postings[i].Texts = [] ∨ ¬ x.Postings[i].Texts.Pairwise (· < ·)) := fun a b c h => by
        rcases h with h | h | h
        · exact a h.1 h.2
        · exact b h
        · exact h c
      have tn : ¬ x.Postings[i].Texts = [] ↔ (1 : Int) ≤ x.Postings[i].Texts.length := by rw [← nl]; omega
      refine ⟨fun h0 => ?_, fun h0 => ?_⟩
      · have hg1 : x.Postings.getD (i - 1) p0 = x.Postings[i - 1] := gd (by omega)
        have hs1 := pF_size (hno (i - 1) (by omega))
        have hw1 : w64 ((i : Int) - 1) = ((i - 1 : Nat) : Int) := by rw [w64_id (by omega) (by omega)]; omega
        rw [hg1] at hs1
        have hor : (sLess x.Postings[i - 1].Gram x.Postings[i].Gram = false) ↔ gv x.Postings[i].Gram ≤ gv (x.Postings.getD (i - 1) p0).Gram := by
          rw [hg1, sLess_eq hs1 h3, decide_eq_false_iff_not]; omega
        rw [hw1]
        refine opt_of (idx_nat' (by omega)) ?_
        simp only [hor]
        refine ⟨fun h1 => ?_, fun h1 => opt_of (Increasing_eq _ htl) ⟨fun h4 => ?_, fun h4 => ?_⟩⟩
        · rcases h1 with h1 | h1
          · rw [hd _ (f5 (.inl ⟨by omega, h1⟩))]
          · rw [hd _ (f5 (.inr (.inl (nl.1 h1))))]
        · rw [hd _ (f5 (.inr (.inr (of_decide_eq_false h4))))]
        · have hc := step (fun _ => h1.1) (tn.2 h1.2) (of_decide_eq_true h4)
          refine (IF_inner (x := x) (p := x.Postings[i]) (i := i) hx20 htl _ rfl rfl rfl rfl).mono fun o ho => ?_
          rcases ho with ⟨rfl, h6⟩ | ⟨s2, rfl, a1, a4, h6⟩
          · simp only [WL, hd _ (f6 hc h6)]
          · simp only [WL, ref4_IndexFault.retv, ref4_IndexFault.r0, ref4_IndexFault.r1, ref4_IndexFault.r2, ref4_IndexFault.r3, ref4_IndexFault.r4, ref4_IndexFault.r6, ref4_IndexFault.r7, ref4_IndexFault.r8, ref4_IndexFault.r9, ref4_IndexFault.r5, ref4_IndexFault.r10, ref4_IndexFault.r11, ref4_IndexFault.r13, ref4_IndexFault.r14, ref4_IndexFault.r15, ref4_IndexFault.r16, ref4_IndexFault.r17, ref4_IndexFault.r18, ref4_IndexFault.r19, ref4_IndexFault.r21, ref4_IndexFault.r22, ref4_IndexFault.r20, ref4_IndexFault.r12, ref4_IndexFault.r23, a1, a4]
            rw [w64_succ (by omega)]
            exact ⟨⟨i + 1, rfl, by omega, f0 hc h6⟩, by omega⟩
      · have hz : ¬ 0 < i := by omega
        refine ⟨fun h1 => ?_, fun h1 => opt_of (Increasing_eq _ htl) ⟨fun h4 => ?_, fun h4 => ?_⟩⟩
        · rcases h1 with h1 | h1
          · exact h1.elim
          · rw [hd _ (f5 (.inr (.inl (nl.1 h1))))]
        · rw [hd _ (f5 (.inr (.inr (of_decide_eq_false h4))))]
        · have hc := step (fun h => absurd h hz) (tn.2 h1) (of_decide_eq_true h4)
          refine (IF_inner (x := x) (p := x.Postings[i]) (i := i) hx20 htl _ rfl rfl rfl rfl).mono fun o ho => ?_
          rcases ho with ⟨rfl, h6⟩ | ⟨s2, rfl, a1, a4, h6⟩
          · simp only [WL, hd _ (f6 hc h6)]
          · simp only [WL, ref4_IndexFault.retv, ref4_IndexFault.r0, ref4_IndexFault.r1, ref4_IndexFault.r2, ref4_IndexFault.r3, ref4_IndexFault.r4, ref4_IndexFault.r6, ref4_IndexFault.r7, ref4_IndexFault.r8, ref4_IndexFault.r9, ref4_IndexFault.r5, ref4_IndexFault.r10, ref4_IndexFault.r11, ref4_IndexFault.r13, ref4_IndexFault.r14, ref4_IndexFault.r15, ref4_IndexFault.r16, ref4_IndexFault.r17, ref4_IndexFault.r18, ref4_IndexFault.r19, ref4_IndexFault.r21, ref4_IndexFault.r22, ref4_IndexFault.r20, ref4_IndexFault.r12, ref4_IndexFault.r23, a1, a4]
            rw [w64_succ (by omega)]
            exact ⟨⟨i + 1, rfl, by omega, f0 hc h6⟩, by omega⟩
    · have : i = x.Postings.length := by omega
      subst this
      rw [fs_none hno]; rfl
end Go.Proofs.Ytoiafcpnhhplnaa
