/- What shallow.reach comes to: the function. -/
import Derived.Test.YtilodamhgepjoaaPu4
namespace Go.Proofs.Ytilodamhgepjoaa
open Go.Fx
set_option linter.unusedVariables false
set_option linter.unusedSimpArgs false
open Classical in
/-- The commits that lie at most that many steps behind, in order. -/
noncomputable def sel (l : List Commit) (fr : List Int) (steps : Int) (b : Nat) : List Int := ((List.range' b (l.length - b)).filter fun i => decide (0 ≤ steps ∧ win l fr 0 steps.toNat i)).map fun (i : Nat) => (i : Int)
open Classical in
theorem sel_step {l : List Commit} {fr : List Int} {steps : Int} {b : Nat} (hb : b < l.length) : sel l fr steps b = (if 0 ≤ steps ∧ win l fr 0 steps.toNat b then [(b : Int)] else []) ++ sel l fr steps (b + 1) := by
  unfold sel
  rw [show l.length - b = (l.length - (b + 1)) + 1 by omega, List.range'_succ, List.filter_cons]
  by_cases h : 0 ≤ steps ∧ win l fr 0 steps.toNat b
  · rw [if_pos (by simpa using h), if_pos h]; rfl
  · rw [if_neg (by simpa using h), if_neg h]; rfl
theorem sel_end {l : List Commit} {fr : List Int} {steps : Int} {b : Nat} (hb : l.length ≤ b) : sel l fr steps b = [] := by
  unfold sel
  rw [show l.length - b = 0 by omega]; rfl
theorem sel_len {l : List Commit} {fr : List Int} {steps : Int} {b : Nat} : (sel l fr steps b).length ≤ l.length := by
  unfold sel
  rw [List.length_map]
  exact Nat.le_trans (List.length_filter_le _ _) (by rw [List.length_range']; omega)
theorem win_low {l : List Commit} {fr : List Int} (ht : Topo l) {k i : Nat} : ∀ b, b ≤ i + 1 → (win l fr 0 k i ↔ win l fr b k i)
  | 0, _ => Iff.rfl
  | b + 1, h => (win_low ht b (by omega)).trans (win_hi ht (by omega))
theorem idx_int {v : List Int} {p : Int} (h0 : 0 ≤ p) (hp : p.toNat < v.length) : idx v p = some (v.getD p.toNat 0) := by
  unfold idx; rw [if_pos h0, List.getElem?_eq_getElem hp]; simp [List.getD, hp]

theorem bwd_get {α : Type} {xs : List α} {k : Nat} {y : Int × α} (h : (bwd xs)[k]? = some y) : ∃ b, k + b + 1 = xs.length ∧ y.1 = (b : Int) ∧ xs[b]? = some y.2 := by
  unfold bwd at h
  have hk : k < xs.length := by have := (List.getElem?_eq_some_iff.1 h).1; simpa using this
  rw [List.getElem?_reverse (by simpa using hk), List.getElem?_map, List.getElem?_zipIdx] at h
  simp only [List.length_map, List.length_zipIdx] at h
  have hb : xs.length - 1 - k < xs.length := by omega
  rw [List.getElem?_eq_getElem hb] at h
  simp at h
  refine ⟨xs.length - 1 - k, by omega, by rw [← h], ?_⟩
  rw [← h, List.getElem?_eq_getElem hb]
theorem bwd_len {α : Type} (xs : List α) : (bwd xs).length = xs.length := by simp [bwd]

theorem LeftP.bound {l : List Commit} {fr : List Int} {S : Int} {b : Nat} {v : List Int} {ps : List Int} (hS : 0 ≤ S) (h : LeftP l fr S b ps v) {i : Nat} (hi : i < l.length) : 0 ≤ v.getD i 0 ∧ v.getD i 0 ≤ S := by
  have h1 := h.2 i hi
  refine ⟨h1.1, ?_⟩
  by_cases e : v.getD i 0 ≤ 0
  · omega
  · exact ((h1.2 _ (by omega)).1 (Int.le_refl _)).1
theorem reach_inner (l : List Commit) (fr : List Int) (S : Int) (hl : l.length ≤ 60) (b : Nat) (hb : b < l.length) (ps : List Int) (hps : ∀ q ∈ ps, 0 ≤ q ∧ q < b) (hpl : ps.length ≤ 3) (hS : 0 ≤ S ∧ S ≤ 1001) (Q : Ctl shallow_reach.S shallow_reach.R → Prop) (s0 : shallow_reach.S)
    (h44 : s0.t_44 = ps) (h45 : s0.t_45 = ps.length) (h46 : s0.t_46 = 0) (h11 : s0.t_11 = b) (hL : LeftP l fr S b [] s0.t_7)
    (hQ : ∀ s, s.t_10 = s0.t_10 → LeftP l fr S b ps s.t_7 → Q (.ext 4 s)) :
    W (iterM (seqM (regM shallow_reach.r14) (seqM (condM (fun s => s.t_47) skipM (extM 4)) (seqM (blockM 5 (seqM (regM shallow_reach.r15) (regM shallow_reach.r16))) (regM shallow_reach.r17))))) Q s0 := by
  refine W_iter (fun s => s.t_10 = s0.t_10 ∧ s.t_44 = ps ∧ s.t_45 = ps.length ∧ s.t_11 = b ∧ ∃ k : Nat, s.t_46 = k ∧ k ≤ ps.length ∧ LeftP l fr S b (ps.take k) s.t_7) (fun s => ps.length - s.t_46.toNat)
    ⟨rfl, h44, h45, h11, 0, h46, by omega, by simpa using hL⟩ ?_
  rintro s ⟨h10, h44, h45, h11, k, h46, hk, hL⟩
  simp only [W_seq, W_block, W_reg, W_cond, W_skip, W_ext, W_ret, opt_some, opt_bind, opt_ite, thenQ_nrm, thenQ_ext, thenQ_ret, blkQ_nrm, blkQ_ext, blkQ_ret, if_true, true_and, and_true, decide_eq_true_eq, decide_eq_false_iff_not, Bool.or_eq_true, Bool.and_eq_true, Bool.or_eq_false_iff, Bool.and_eq_false_iff, Bool.true_eq_false, not_or, Classical.not_not, Bool.not_eq_true', Bool.not_eq_false', Int.not_lt, Int.not_le, Bool.false_eq_true, false_implies, true_implies, and_self, not_true_eq_false, not_false_eq_true, shallow_reach.r14, shallow_reach.r15, shallow_reach.r16, shallow_reach.r17, h44, h45, h46, h11]
  refine ⟨fun hlt => ?_, fun hge => ?_⟩
  · have hlt : k < ps.length := by omega
    have hp := hps ps[k] (List.getElem_mem hlt)
    have hv : s.t_7.length = l.length := hL.1
    have hbb := hL.bound hS.1 hb
    refine opt_of (idx_nat' hlt) ?_
    refine opt_of (idx_int hp.1 (by omega)) (opt_of (idx_int (by omega : (0 : Int) ≤ (b : Int)) (by omega)) (opt_of (idx_int hp.1 (by omega)) ?_))
    rw [w64_succ (by omega), w64_id (by rw [Int.toNat_natCast]; omega) (by rw [Int.toNat_natCast]; omega)]
    refine ⟨⟨h10, k + 1, rfl, by omega, ?_⟩, by omega⟩
    have := hL.step hb (fun q hq => (hps q (List.mem_of_mem_take hq)).2) hp.1 hp.2
    rw [List.take_append_getElem] at this
    simpa using this
  · obtain rfl : k = ps.length := by omega
    rw [List.take_length] at hL
    exact hQ _ h10 hL

theorem reach_eq (l : List Commit) (fr : List Int) (steps : Int) (hl : l.length ≤ 60) (ht : Topo l) (hpl : ∀ x ∈ l, x.Parents.length ≤ 3) (hfr : ∀ n ∈ fr, 0 ≤ n ∧ n < l.length) (hfl : fr.length ≤ 9223372036854775807) (hs : -1 ≤ steps ∧ steps ≤ 1000) :
    shallow_reach.f l fr steps = some (sel l fr steps 0) := by
  refine retOf_of ?_
  unfold shallow_reach.body
  simp only [W_seq, W_block, W_reg, W_cond, W_skip, W_ext, W_ret, opt_some, opt_bind, opt_ite, thenQ_nrm, thenQ_ext, thenQ_ret, blkQ_nrm, blkQ_ext, blkQ_ret, if_true, true_and, and_true, decide_eq_true_eq, decide_eq_false_iff_not, Bool.or_eq_true, Bool.and_eq_true, Bool.or_eq_false_iff, Bool.and_eq_false_iff, Bool.true_eq_false, not_or, Classical.not_not, Bool.not_eq_true', Bool.not_eq_false', Int.not_lt, Int.not_le, Bool.false_eq_true, false_implies, true_implies, and_self, not_true_eq_false, not_false_eq_true, shallow_reach.r0, shallow_reach.r1, shallow_reach.r2]
  refine opt_of (x := List.replicate l.length 0) ?_ ?_
  · unfold mkL; rw [if_pos (by omega)]; simp
  refine W_iter (fun s => s.t_0 = l ∧ s.t_2 = steps ∧ s.t_18 = fr ∧ s.t_19 = fr.length ∧ ∃ k : Nat, s.t_20 = k ∧ k ≤ fr.length ∧ s.t_7.length = l.length ∧ ∀ i, i < l.length → s.t_7.getD i 0 = if (i : Int) ∈ fr.take k then steps + 1 else 0) (fun s => fr.length - s.t_20.toNat)
    ⟨rfl, rfl, rfl, rfl, 0, rfl, by omega, by simp, fun i hi => by simp [List.getD, List.getElem?_replicate, hi]⟩ ?_
  rintro s ⟨h0, h2, h18, h19, k, h20, hk, hlen, hv⟩
  simp only [W_seq, W_block, W_reg, W_cond, W_skip, W_ext, W_ret, opt_some, opt_bind, opt_ite, thenQ_nrm, thenQ_ext, thenQ_ret, blkQ_nrm, blkQ_ext, blkQ_ret, if_true, true_and, and_true, decide_eq_true_eq, decide_eq_false_iff_not, Bool.or_eq_true, Bool.and_eq_true, Bool.or_eq_false_iff, Bool.and_eq_false_iff, Bool.true_eq_false, not_or, Classical.not_not, Bool.not_eq_true', Bool.not_eq_false', Int.not_lt, Int.not_le, Bool.false_eq_true, false_implies, true_implies, and_self, not_true_eq_false, not_false_eq_true, shallow_reach.r3, shallow_reach.r4, shallow_reach.r5, shallow_reach.r6, shallow_reach.r7, shallow_reach.r8, h0, h2, h18, h19, h20]
  refine ⟨fun hlt => ?_, fun hge => ?_⟩
  · have hlt : k < fr.length := by omega
    have hf := hfr fr[k] (List.getElem_mem hlt)
    refine opt_of (idx_nat' hlt) ?_
    refine opt_of (idx_int hf.1 (by omega)) ?_
    rw [w64_succ (by omega), w64_id (by omega) (by omega)]
    refine ⟨⟨k + 1, rfl, by omega, by unfold setL; rw [List.length_set]; exact hlen, fun i hi => ?_⟩, by omega⟩
    have hmem : ((i : Int) ∈ fr.take (k + 1)) ↔ ((i : Int) ∈ fr.take k ∨ (i : Int) = fr[k]) := by
      rw [List.take_add_one, List.getElem?_eq_getElem hlt]; simp only [Option.toList, List.mem_append, List.mem_singleton]
    rw [getD_setL hf.1 (by omega)]
    by_cases e : (i : Int) = fr[k]
    · rw [if_pos e, if_pos (hmem.2 (.inr e))]
    · rw [if_neg e, hv i hi]
      by_cases e2 : (i : Int) ∈ fr.take k
      · rw [if_pos e2, if_pos (hmem.2 (.inl e2))]
      · rw [if_neg e2, if_neg (fun h => (hmem.1 h).elim e2 e)]
  · have hkk : k = fr.length := by omega
    refine opt_of (x := bwd l) (by unfold Backward.f; rw [if_pos (by omega)]) ?_
    rw [W_range]
    have hst : Left l fr (steps + 1) l.length s.t_7 := by
      refine ⟨hlen, fun i hi => ?_⟩
      rw [hv i hi, hkk, List.take_length]
      split
      · rename_i hm
        exact ⟨by omega, fun m hm1 => by rw [win_top (Nat.le_refl _)]; simp [hm]⟩
      · rename_i hm
        exact ⟨by omega, fun m hm1 => by rw [win_top (Nat.le_refl _)]; simp [hm]; omega⟩
    refine W_forL (fun k' s' => ∃ b, k' + b = l.length ∧ s'.t_10 = (sel l fr steps b).reverse ∧ Left l fr (steps + 1) b s'.t_7) ⟨l.length, by omega, by rw [sel_end (Nat.le_refl _)]; rfl, hst⟩ ?_ ?_
    · rintro k' y s' hy ⟨b', hb', h10, hL⟩
      obtain ⟨b, hkb, hy1, hxb⟩ := bwd_get hy
      obtain rfl : b' = b + 1 := by omega
      have hb : b < l.length := by omega
      have hbl : b < s'.t_7.length := by rw [hL.1]; exact hb
      simp only [W_seq, W_block, W_reg, W_cond, W_skip, W_ext, W_ret, opt_some, opt_bind, opt_ite, thenQ_nrm, thenQ_ext, thenQ_ret, blkQ_nrm, blkQ_ext, blkQ_ret, if_true, true_and, and_true, decide_eq_true_eq, decide_eq_false_iff_not, Bool.or_eq_true, Bool.and_eq_true, Bool.or_eq_false_iff, Bool.and_eq_false_iff, Bool.true_eq_false, not_or, Classical.not_not, Bool.not_eq_true', Bool.not_eq_false', Int.not_lt, Int.not_le, Bool.false_eq_true, false_implies, true_implies, and_self, not_true_eq_false, not_false_eq_true, shallow_reach.r9, shallow_reach.r10, shallow_reach.r11, shallow_reach.r12, shallow_reach.r13, hy1]
      refine opt_of (x := s'.t_7.getD b 0) (by have := idx_int (v := s'.t_7) (p := (b : Int)) (by omega) (by omega); simpa using this) ?_
      have hpar := ht b y.2 hxb
      have hpl' := hpl y.2 (List.mem_of_getElem? hxb)
      have hb0 := hL.start.bound (by omega) hb
      have hpos : 0 < s'.t_7.getD b 0 ↔ (0 ≤ steps ∧ win l fr 0 steps.toNat b) := by
        have := (hL.2 b hb).2 1 (by omega)
        rw [win_low ht (b + 1) (by omega), show steps.toNat = (steps + 1 - 1).toNat by omega]
        rw [show (0 < s'.t_7.getD b 0) ↔ (1 ≤ s'.t_7.getD b 0) by omega, this]
        refine and_congr (by omega) Iff.rfl
      have hbl' := sel_len (l := l) (fr := fr) (steps := steps) (b := b + 1)
      refine ⟨fun h => ?_, fun h => ?_⟩
      · refine opt_of (appL_of (by rw [h10]; simp; omega)) ?_
        refine reach_inner l fr (steps + 1) hl b hb y.2.Parents hpar hpl' (by omega) _ _ rfl rfl rfl rfl hL.start fun s2 e2 hL2 => ?_
        simp only [W_seq, W_block, W_reg, W_cond, W_skip, W_ext, W_ret, opt_some, opt_bind, opt_ite, thenQ_nrm, thenQ_ext, thenQ_ret, blkQ_nrm, blkQ_ext, blkQ_ret, if_true, true_and, and_true, decide_eq_true_eq, decide_eq_false_iff_not, Bool.or_eq_true, Bool.and_eq_true, Bool.or_eq_false_iff, Bool.and_eq_false_iff, Bool.true_eq_false, not_or, Classical.not_not, Bool.not_eq_true', Bool.not_eq_false', Int.not_lt, Int.not_le, Bool.false_eq_true, false_implies, true_implies, and_self, not_true_eq_false, not_false_eq_true]
        refine ⟨b, by omega, ?_, hL2.done ht hxb⟩
        rw [e2, sel_step hb, if_pos (hpos.1 h), h10]; simp
      · refine reach_inner l fr (steps + 1) hl b hb y.2.Parents hpar hpl' (by omega) _ _ rfl rfl rfl rfl hL.start fun s2 e2 hL2 => ?_
        simp only [W_seq, W_block, W_reg, W_cond, W_skip, W_ext, W_ret, opt_some, opt_bind, opt_ite, thenQ_nrm, thenQ_ext, thenQ_ret, blkQ_nrm, blkQ_ext, blkQ_ret, if_true, true_and, and_true, decide_eq_true_eq, decide_eq_false_iff_not, Bool.or_eq_true, Bool.and_eq_true, Bool.or_eq_false_iff, Bool.and_eq_false_iff, Bool.true_eq_false, not_or, Classical.not_not, Bool.not_eq_true', Bool.not_eq_false', Int.not_lt, Int.not_le, Bool.false_eq_true, false_implies, true_implies, and_self, not_true_eq_false, not_false_eq_true]
        refine ⟨b, by omega, ?_, hL2.done ht hxb⟩
        rw [e2, sel_step hb, if_neg (fun e => by have := hpos.2 e; omega), h10]; simp
    · rintro s' ⟨b, hb, h10, hL⟩
      rw [bwd_len] at hb
      obtain rfl : b = 0 := by omega
      simp only [W_seq, W_block, W_reg, W_cond, W_skip, W_ext, W_ret, opt_some, opt_bind, opt_ite, thenQ_nrm, thenQ_ext, thenQ_ret, blkQ_nrm, blkQ_ext, blkQ_ret, if_true, true_and, and_true, decide_eq_true_eq, decide_eq_false_iff_not, Bool.or_eq_true, Bool.and_eq_true, Bool.or_eq_false_iff, Bool.and_eq_false_iff, Bool.true_eq_false, not_or, Classical.not_not, Bool.not_eq_true', Bool.not_eq_false', Int.not_lt, Int.not_le, Bool.false_eq_true, false_implies, true_implies, and_self, not_true_eq_false, not_false_eq_true, shallow_reach.r18, shallow_reach.r19, shallow_reach.retv, h10]
      have := sel_len (l := l) (fr := fr) (steps := steps) (b := 0)
      rw [Reverse_eq _ (by rw [List.length_reverse]; omega), List.reverse_reverse]
      simp only [opt_some]
end Go.Proofs.Ytilodamhgepjoaa
