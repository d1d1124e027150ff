/- Negotiation: marks, and what is missing. -/
import Derived.Test.YtilodamhgepjoaaPn2
namespace Go.Proofs.Ytilodamhgepjoaa
open Go.Fx
set_option linter.unusedVariables false
set_option linter.unusedSimpArgs false

theorem mark_ex (l : List Commit) (hh : hFault l = ⟨0, 0⟩) (v : List Bool) (hv : v.length = l.length) (n : Nat) (hn : n < l.length) : ∃ r, negotiate_mark.f l v n = some r ∧ r.length = l.length ∧ ∀ k, k < l.length → (r.getD k false = true ↔ v.getD k false = true ∨ Anc l n k) := by
  obtain ⟨b, hb, hbl, hba⟩ := Ancestors_ex l hh n hn
  have hl60 := (hist_of hh).len
  have main : W negotiate_mark.body (fun o => ∃ s', o = .nrm s' ∧ (negotiate_mark.retv s').length = l.length ∧ ∀ k, k < l.length → ((negotiate_mark.retv s').getD k false = true ↔ v.getD k false = true ∨ Anc l n k)) { commits_0 := l, in_1 := v, n_2 := n, before_6 := [], i_8 := (0 : Int), is_9 := false, t_16 := [], t_17 := (0 : Int), t_18 := (0 : Int), t_19 := false } := by
    unfold negotiate_mark.body
    simp only [W_seq, W_block, W_reg, W_cond, W_skip, W_ext, W_ret, opt_some, opt_bind, opt_ite, thenQ_nrm, thenQ_ext, thenQ_ret, blkQ_nrm, blkQ_ext, blkQ_ret, if_true, true_and, and_true, decide_eq_true_eq, decide_eq_false_iff_not, Bool.or_eq_true, Bool.and_eq_true, Bool.or_eq_false_iff, Bool.and_eq_false_iff, Bool.true_eq_false, not_or, Classical.not_not, Bool.not_eq_true', Bool.not_eq_false', Int.not_lt, Int.not_le, Bool.false_eq_true, false_implies, true_implies, and_self, not_true_eq_false, not_false_eq_true, negotiate_mark.retv, negotiate_mark.r0, negotiate_mark.r1, negotiate_mark.r2, negotiate_mark.r3, negotiate_mark.r4, negotiate_mark.r5, hb]
    refine W_iter (fun s => s.t_16 = b ∧ s.t_17 = b.length ∧ ∃ i : Nat, s.t_18 = i ∧ i ≤ l.length ∧ s.in_1.length = l.length ∧ ∀ k, k < l.length → (s.in_1.getD k false = true ↔ v.getD k false = true ∨ (k < i ∧ Anc l n k))) (fun s => l.length - s.t_18.toNat) ⟨rfl, rfl, 0, rfl, by omega, hv, by simp⟩ ?_
    rintro s ⟨e16, e17, i, e18, hi, hil, hiv⟩
    simp only [W_seq, W_block, W_reg, W_cond, W_skip, W_ext, W_ret, opt_some, opt_bind, opt_ite, thenQ_nrm, thenQ_ext, thenQ_ret, blkQ_nrm, blkQ_ext, blkQ_ret, if_true, true_and, and_true, decide_eq_true_eq, decide_eq_false_iff_not, Bool.or_eq_true, Bool.and_eq_true, Bool.or_eq_false_iff, Bool.and_eq_false_iff, Bool.true_eq_false, not_or, Classical.not_not, Bool.not_eq_true', Bool.not_eq_false', Int.not_lt, Int.not_le, Bool.false_eq_true, false_implies, true_implies, and_self, not_true_eq_false, not_false_eq_true, negotiate_mark.retv, negotiate_mark.r0, negotiate_mark.r1, negotiate_mark.r2, negotiate_mark.r3, negotiate_mark.r4, negotiate_mark.r5, e16, e17, e18]
    refine ⟨fun hlt => ?_, fun hge => ?_⟩
    · have hlt : i < l.length := by omega
      rw [w64_succ (by omega)]
      refine opt_of (idx_getD (d := false) (by omega : i < b.length)) (opt_of (idx_getD (d := false) (by omega : i < s.in_1.length)) (opt_of (idx_getD (d := false) (by omega : i < s.in_1.length)) ⟨⟨i + 1, rfl, by omega, by rw [setL_len]; exact hil, fun k hk => ?_⟩, by omega⟩))
      rw [getD_set_bool (by omega)]
      by_cases e : k = i
      · subst e
        have h2 := hba k hk
        have h1 := hiv k hk
        rw [if_pos rfl, Bool.or_eq_true, h1, h2]
        constructor
        · rintro ((h | ⟨_, h⟩) | h)
          · exact .inl h
          · exact .inr ⟨by omega, h⟩
          · exact .inr ⟨by omega, h⟩
        · rintro (h | ⟨_, h⟩)
          · exact .inl (.inl h)
          · exact .inr h
      · rw [if_neg e, hiv k hk]
        refine or_congr Iff.rfl (and_congr (by omega) Iff.rfl)
    · have hge : i = l.length := by omega
      refine ⟨_, rfl, hil, fun k hk => ?_⟩
      show s.in_1.getD k false = true ↔ _
      rw [hiv k hk]
      exact or_congr Iff.rfl ⟨fun h => h.2, fun h => ⟨by omega, h⟩⟩
  obtain ⟨o, h1, s', rfl, h2⟩ := main
  exact ⟨_, by unfold negotiate_mark.f; rw [h1]; rfl, h2⟩

/-- The numbers below n that pass, in order. -/
def selP (P : Nat → Bool) (n : Nat) : List Int := ((List.range n).filter P).map fun (i : Nat) => (i : Int)
theorem selP_succ {P : Nat → Bool} {i : Nat} : selP P (i + 1) = selP P i ++ (if P i = true then [(i : Int)] else []) := by
  unfold selP
  rw [List.range_succ, List.filter_append, List.map_append]
  by_cases h : P i = true
  · rw [if_pos h]; simp [List.filter_cons, h]
  · rw [if_neg h]; simp [List.filter_cons, h]
theorem selP_len {P : Nat → Bool} {n : Nat} : (selP P n).length ≤ n := by
  unfold selP; rw [List.length_map]; exact Nat.le_trans (List.length_filter_le _ _) (by rw [List.length_range]; exact Nat.le_refl _)
theorem selP_mem {P : Nat → Bool} {n : Nat} {x : Int} : x ∈ selP P n ↔ ∃ i : Nat, x = i ∧ i < n ∧ P i = true := by
  unfold selP
  simp only [List.mem_map, List.mem_filter, List.mem_range]
  constructor
  · rintro ⟨i, ⟨h1, h2⟩, rfl⟩; exact ⟨i, rfl, h1, h2⟩
  · rintro ⟨i, rfl, h1, h2⟩; exact ⟨i, ⟨h1, h2⟩, rfl⟩
theorem selP_inc {P : Nat → Bool} {n : Nat} : (selP P n).Pairwise (· < ·) := by
  unfold selP
  rw [List.pairwise_map]
  exact List.Pairwise.imp (fun {a b} (h : a < b) => by omega) (List.pairwise_lt_range.filter _)
theorem selP_congr {P Q : Nat → Bool} {n : Nat} (h : ∀ i, i < n → (P i = true ↔ Q i = true)) : selP P n = selP Q n :=
  inc_ext selP_inc selP_inc fun x => by
    rw [selP_mem, selP_mem]
    constructor
    · rintro ⟨i, e, h1, h2⟩; exact ⟨i, e, h1, (h i h1).1 h2⟩
    · rintro ⟨i, e, h1, h2⟩; exact ⟨i, e, h1, (h i h1).2 h2⟩
open Classical in
/-- A wanted commit or an ancestor of one, that is not there. -/
noncomputable def lackB (l : List Commit) (ws : List Int) (hv : List Bool) (i : Nat) : Bool := decide (∃ w ∈ ws, Anc l w.toNat i) && !(hv.getD i false)
open Classical in
theorem lackB_iff {l : List Commit} {ws : List Int} {hv : List Bool} {i : Nat} : lackB l ws hv i = true ↔ (∃ w ∈ ws, Anc l w.toNat i) ∧ hv.getD i false = false := by
  unfold lackB
  rw [Bool.and_eq_true, decide_eq_true_iff]
  cases hv.getD i false <;> simp
noncomputable def lacks (l : List Commit) (ws : List Int) (hv : List Bool) : List Int := selP (lackB l ws hv) l.length

theorem missing_eq (l : List Commit) (hh : hFault l = ⟨0, 0⟩) (ws : List Int) (hv : List Bool) (hvl : hv.length = l.length) (hw : ∀ w ∈ ws, 0 ≤ w ∧ w < l.length) (hwl : ws.length ≤ 60) : negotiate_missing.f l ws hv = some (lacks l ws hv) := by
  refine retOf_of ?_
  unfold negotiate_missing.body
  generalize hr : lacks l ws hv = r
  have hl60 := (hist_of hh).len
  have hmk : mkL 1 false (l.length : Int) = some (List.replicate l.length false) := by unfold mkL; rw [if_pos (by omega)]; simp
  simp only [W_seq, W_block, W_reg, W_cond, W_skip, W_ext, W_ret, opt_some, opt_bind, opt_ite, thenQ_nrm, thenQ_ext, thenQ_ret, blkQ_nrm, blkQ_ext, blkQ_ret, if_true, true_and, and_true, decide_eq_true_eq, decide_eq_false_iff_not, Bool.or_eq_true, Bool.and_eq_true, Bool.or_eq_false_iff, Bool.and_eq_false_iff, Bool.true_eq_false, not_or, Classical.not_not, Bool.not_eq_true', Bool.not_eq_false', Int.not_lt, Int.not_le, Bool.false_eq_true, false_implies, true_implies, and_self, not_true_eq_false, not_false_eq_true, negotiate_missing.retv, negotiate_missing.r0, negotiate_missing.r1, negotiate_missing.r2, negotiate_missing.r3, negotiate_missing.r4, negotiate_missing.r5, negotiate_missing.r6, negotiate_missing.r7, negotiate_missing.r8, negotiate_missing.r9, negotiate_missing.r10, negotiate_missing.r11, negotiate_missing.r12, negotiate_missing.r13, negotiate_missing.r14, hmk]
  refine W_iter (fun s => s.commits_0 = l ∧ s.have_2 = hv ∧ s.t_16 = ws ∧ s.t_17 = ws.length ∧ ∃ i : Nat, s.t_18 = i ∧ i ≤ ws.length ∧ s.in_7.length = l.length ∧ ∀ k, k < l.length → (s.in_7.getD k false = true ↔ ∃ w ∈ ws.take i, Anc l w.toNat k)) (fun s => ws.length - s.t_18.toNat)
    ⟨rfl, rfl, rfl, rfl, 0, rfl, by omega, by simp, fun k hk => by simp [List.getD, List.getElem?_replicate, hk]⟩ ?_
  rintro s ⟨e0, e2, e16, e17, i, e18, hi, hil, hiv⟩
  simp only [W_seq, W_block, W_reg, W_cond, W_skip, W_ext, W_ret, opt_some, opt_bind, opt_ite, thenQ_nrm, thenQ_ext, thenQ_ret, blkQ_nrm, blkQ_ext, blkQ_ret, if_true, true_and, and_true, decide_eq_true_eq, decide_eq_false_iff_not, Bool.or_eq_true, Bool.and_eq_true, Bool.or_eq_false_iff, Bool.and_eq_false_iff, Bool.true_eq_false, not_or, Classical.not_not, Bool.not_eq_true', Bool.not_eq_false', Int.not_lt, Int.not_le, Bool.false_eq_true, false_implies, true_implies, and_self, not_true_eq_false, not_false_eq_true, negotiate_missing.retv, negotiate_missing.r0, negotiate_missing.r1, negotiate_missing.r2, negotiate_missing.r3, negotiate_missing.r4, negotiate_missing.r5, negotiate_missing.r6, negotiate_missing.r7, negotiate_missing.r8, negotiate_missing.r9, negotiate_missing.r10, negotiate_missing.r11, negotiate_missing.r12, negotiate_missing.r13, negotiate_missing.r14, e0, e2, e16, e17, e18]
  refine ⟨fun hlt => ?_, fun hge => ?_⟩
  · have hlt : i < ws.length := by omega
    have hwi := hw _ (List.getElem_mem hlt)
    obtain ⟨b, hb, hbl, hbv⟩ := mark_ex l hh s.in_7 hil ws[i].toNat (by omega)
    rw [show ((ws[i].toNat : Nat) : Int) = ws[i] by omega] at hb
    rw [w64_succ (by omega)]
    refine opt_of (idx_nat' hlt) (opt_of hb ⟨⟨i + 1, rfl, by omega, hbl, fun k hk => ?_⟩, by omega⟩)
    rw [hbv k hk, hiv k hk, List.take_add_one, List.getElem?_eq_getElem hlt]
    simp only [Option.toList, List.mem_append, List.mem_singleton]
    constructor
    · rintro (⟨w, hm, h⟩ | h)
      · exact ⟨w, .inl hm, h⟩
      · exact ⟨_, .inr rfl, h⟩
    · rintro ⟨w, hm | rfl, h⟩
      · exact .inl ⟨w, hm, h⟩
      · exact .inr h
  · have : i = ws.length := by omega
    subst this
    rw [List.take_length] at hiv
    obtain ⟨b, hbe⟩ : ∃ b, b = s.in_7 := ⟨_, rfl⟩
    rw [← hbe] at hil hiv
    have hP : ∀ k, k < l.length → (lackB l ws hv k = true ↔ b.getD k false = true ∧ hv.getD k false = false) := fun k hk => by rw [lackB_iff, hiv k hk]
    simp only [← hbe]
    refine W_iter (fun s => s.in_7 = b ∧ s.have_2 = hv ∧ s.t_28 = b.length ∧ ∃ i : Nat, s.t_29 = i ∧ i ≤ l.length ∧ s.out_10 = selP (lackB l ws hv) i) (fun s => l.length - s.t_29.toNat) ⟨rfl, rfl, rfl, 0, rfl, by omega, rfl⟩ ?_
    rintro s ⟨e7, e2, e28, i, e29, hi, hout⟩
    have hsl := selP_len (P := lackB l ws hv) (n := i)
    simp only [W_seq, W_block, W_reg, W_cond, W_skip, W_ext, W_ret, opt_some, opt_bind, opt_ite, thenQ_nrm, thenQ_ext, thenQ_ret, blkQ_nrm, blkQ_ext, blkQ_ret, if_true, true_and, and_true, decide_eq_true_eq, decide_eq_false_iff_not, Bool.or_eq_true, Bool.and_eq_true, Bool.or_eq_false_iff, Bool.and_eq_false_iff, Bool.true_eq_false, not_or, Classical.not_not, Bool.not_eq_true', Bool.not_eq_false', Int.not_lt, Int.not_le, Bool.false_eq_true, false_implies, true_implies, and_self, not_true_eq_false, not_false_eq_true, negotiate_missing.retv, negotiate_missing.r0, negotiate_missing.r1, negotiate_missing.r2, negotiate_missing.r3, negotiate_missing.r4, negotiate_missing.r5, negotiate_missing.r6, negotiate_missing.r7, negotiate_missing.r8, negotiate_missing.r9, negotiate_missing.r10, negotiate_missing.r11, negotiate_missing.r12, negotiate_missing.r13, negotiate_missing.r14, e7, e2, e28, e29, hout]
    refine ⟨fun hlt => ?_, fun hge => ?_⟩
    · have hlt : i < l.length := by omega
      have hPi := hP i hlt
      rw [w64_succ (by omega)]
      refine opt_of (idx_getD (d := false) (by omega : i < b.length)) ⟨fun h1 => opt_of (idx_getD (d := false) (by omega : i < hv.length)) ⟨fun h2 => ?_, fun h2 => ?_⟩, fun h1 => ?_⟩
      · refine opt_of (appL_of (by simp only [List.length_cons, List.length_nil]; omega)) ⟨⟨i + 1, rfl, by omega, ?_⟩, by omega⟩
        rw [selP_succ, if_pos (hPi.2 ⟨h1, h2⟩)]
      · refine ⟨⟨i + 1, rfl, by omega, ?_⟩, by omega⟩
        rw [selP_succ, if_neg (fun h => by have := (hPi.1 h).2; rw [this] at h2; cases h2), List.append_nil]
      · refine ⟨⟨i + 1, rfl, by omega, ?_⟩, by omega⟩
        rw [selP_succ, if_neg (fun h => by have := (hPi.1 h).1; rw [this] at h1; exact h1 rfl), List.append_nil]
    · have : i = l.length := by omega
      subst this
      rw [← hr]; rfl

theorem LacksOf_eq (l : List Commit) (hh : hFault l = ⟨0, 0⟩) (ws : List Int) (hv : List Bool) (hvl : hv.length = l.length) (hw : ∀ w ∈ ws, 0 ≤ w ∧ w < l.length) (hwl : ws.length ≤ 60) : ref4_LacksOf.f l ws hv = some (lacks l ws hv) := by
  refine retOf_of ?_
  unfold ref4_LacksOf.body
  generalize hr : lacks l ws hv = r
  have hl60 := (hist_of hh).len
  obtain ⟨T, fT, hTl, hT⟩ := Reach_ex l (hist_of hh)
  simp only [W_seq, W_block, W_reg, W_cond, W_skip, W_ext, W_ret, opt_some, opt_bind, opt_ite, thenQ_nrm, thenQ_ext, thenQ_ret, blkQ_nrm, blkQ_ext, blkQ_ret, if_true, true_and, and_true, decide_eq_true_eq, decide_eq_false_iff_not, Bool.or_eq_true, Bool.and_eq_true, Bool.or_eq_false_iff, Bool.and_eq_false_iff, Bool.true_eq_false, not_or, Classical.not_not, Bool.not_eq_true', Bool.not_eq_false', Int.not_lt, Int.not_le, Bool.false_eq_true, false_implies, true_implies, and_self, not_true_eq_false, not_false_eq_true, ref4_LacksOf.retv, ref4_LacksOf.r0, ref4_LacksOf.r1, ref4_LacksOf.r2, ref4_LacksOf.r3, ref4_LacksOf.r4, ref4_LacksOf.r6, ref4_LacksOf.r7, ref4_LacksOf.r8, ref4_LacksOf.r10, ref4_LacksOf.r9, ref4_LacksOf.r11, ref4_LacksOf.r12, ref4_LacksOf.r5, ref4_LacksOf.r13, fT]
  refine W_iter (fun s => s.l_0 = l ∧ s.wants_1 = ws ∧ s.have_2 = hv ∧ s.t_7 = T ∧ ∃ i : Nat, s.i_9 = i ∧ i ≤ l.length ∧ s.out_8 = selP (lackB l ws hv) i) (fun s => l.length - s.i_9.toNat) ⟨rfl, rfl, rfl, rfl, 0, rfl, by omega, rfl⟩ ?_
  rintro s ⟨e0, e1, e2, e7, i, e9, hi, hout⟩
  have hsl := selP_len (P := lackB l ws hv) (n := i)
  simp only [W_seq, W_block, W_reg, W_cond, W_skip, W_ext, W_ret, opt_some, opt_bind, opt_ite, thenQ_nrm, thenQ_ext, thenQ_ret, blkQ_nrm, blkQ_ext, blkQ_ret, if_true, true_and, and_true, decide_eq_true_eq, decide_eq_false_iff_not, Bool.or_eq_true, Bool.and_eq_true, Bool.or_eq_false_iff, Bool.and_eq_false_iff, Bool.true_eq_false, not_or, Classical.not_not, Bool.not_eq_true', Bool.not_eq_false', Int.not_lt, Int.not_le, Bool.false_eq_true, false_implies, true_implies, and_self, not_true_eq_false, not_false_eq_true, ref4_LacksOf.retv, ref4_LacksOf.r0, ref4_LacksOf.r1, ref4_LacksOf.r2, ref4_LacksOf.r3, ref4_LacksOf.r4, ref4_LacksOf.r6, ref4_LacksOf.r7, ref4_LacksOf.r8, ref4_LacksOf.r10, ref4_LacksOf.r9, ref4_LacksOf.r11, ref4_LacksOf.r12, ref4_LacksOf.r5, ref4_LacksOf.r13, e0, e1, e2, e7, e9, hout]
  refine ⟨fun hlt => ?_, fun hge => ?_⟩
  · have hlt : i < l.length := by omega
    refine W_iter (fun s => s.l_0 = l ∧ s.wants_1 = ws ∧ s.have_2 = hv ∧ s.t_7 = T ∧ s.i_9 = i ∧ s.out_8 = selP (lackB l ws hv) i ∧ ∃ k : Nat, s.k_11 = k ∧ k ≤ ws.length ∧ (s.is_10 = true ↔ ∃ w ∈ ws.take k, Anc l w.toNat i)) (fun s => ws.length - s.k_11.toNat)
      ⟨rfl, rfl, rfl, rfl, rfl, rfl, 0, rfl, by omega, by simp⟩ ?_
    rintro s ⟨e0, e1, e2, e7, e9, hout, k, e11, hk, his⟩
    have hwi : w64 ((i : Int) + 1) = ((i + 1 : Nat) : Int) := w64_succ (by omega)
    simp only [W_seq, W_block, W_reg, W_cond, W_skip, W_ext, W_ret, opt_some, opt_bind, opt_ite, thenQ_nrm, thenQ_ext, thenQ_ret, blkQ_nrm, blkQ_ext, blkQ_ret, if_true, true_and, and_true, decide_eq_true_eq, decide_eq_false_iff_not, Bool.or_eq_true, Bool.and_eq_true, Bool.or_eq_false_iff, Bool.and_eq_false_iff, Bool.true_eq_false, not_or, Classical.not_not, Bool.not_eq_true', Bool.not_eq_false', Int.not_lt, Int.not_le, Bool.false_eq_true, false_implies, true_implies, and_self, not_true_eq_false, not_false_eq_true, ref4_LacksOf.retv, ref4_LacksOf.r0, ref4_LacksOf.r1, ref4_LacksOf.r2, ref4_LacksOf.r3, ref4_LacksOf.r4, ref4_LacksOf.r6, ref4_LacksOf.r7, ref4_LacksOf.r8, ref4_LacksOf.r10, ref4_LacksOf.r9, ref4_LacksOf.r11, ref4_LacksOf.r12, ref4_LacksOf.r5, ref4_LacksOf.r13, e0, e1, e2, e7, e9, e11, hout, hwi]
    refine ⟨fun hkl => ?_, fun hkl => ?_⟩
    · have hkl : k < ws.length := by omega
      have hwk := hw _ (List.getElem_mem hkl)
      have hTw := hT ws[k].toNat (by omega)
      have htk : (∃ w ∈ ws.take (k + 1), Anc l w.toNat i) ↔ (∃ w ∈ ws.take k, Anc l w.toNat i) ∨ Anc l ws[k].toNat i := by
        rw [List.take_add_one, List.getElem?_eq_getElem hkl]
        simp only [Option.toList, List.mem_append, List.mem_singleton]
        constructor
        · rintro ⟨w, hm | rfl, h⟩
          · exact .inl ⟨w, hm, h⟩
          · exact .inr h
        · rintro (⟨w, hm, h⟩ | h)
          · exact ⟨w, .inl hm, h⟩
          · exact ⟨_, .inr rfl, h⟩
      rw [w64_succ (by omega)]
      refine ⟨fun h1 => ⟨⟨k + 1, rfl, by omega, ?_⟩, by omega⟩, fun h1 => opt_of (idx_nat' hkl) (opt_of (idx_getDI (d := []) hwk.1 (by omega)) (opt_of (idx_getD (d := false) (by rw [hTw.1]; exact hlt)) ⟨⟨k + 1, rfl, by omega, ?_⟩, by omega⟩))⟩
      · rw [htk]; exact ⟨fun _ => .inl (his.1 h1), fun _ => trivial⟩
      · rw [htk, hTw.2 i hlt]
        exact ⟨.inr, fun h => h.resolve_left (fun h => h1 (his.2 h))⟩
    · have : k = ws.length := by omega
      subst this
      rw [List.take_length] at his
      have hPi : lackB l ws hv i = true ↔ s.is_10 = true ∧ hv.getD i false = false := by rw [lackB_iff, his]
      refine ⟨fun h1 => opt_of (idx_getD (d := false) (by omega : i < hv.length)) ⟨fun h2 => ?_, fun h2 => ?_⟩, fun h1 => ?_⟩
      · refine opt_of (appL_of (by simp only [List.length_cons, List.length_nil]; omega)) ⟨⟨i + 1, rfl, by omega, ?_⟩, by omega⟩
        rw [selP_succ, if_pos (hPi.2 ⟨h1, h2⟩)]
      · refine ⟨⟨i + 1, rfl, by omega, ?_⟩, by omega⟩
        rw [selP_succ, if_neg (fun h => by have := (hPi.1 h).2; rw [this] at h2; cases h2), List.append_nil]
      · refine ⟨⟨i + 1, rfl, by omega, ?_⟩, by omega⟩
        rw [selP_succ, if_neg (fun h => h1 (hPi.1 h).1), List.append_nil]
  · have : i = l.length := by omega
    subst this
    rw [← hr]; rfl
end Go.Proofs.Ytilodamhgepjoaa
