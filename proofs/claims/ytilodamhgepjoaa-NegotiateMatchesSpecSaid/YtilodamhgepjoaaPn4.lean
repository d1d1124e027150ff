/- Functions over function values: the greatest, the first, all but those. -/
import Derived.Test.YtilodamhgepjoaaPn3
namespace Go.Proofs.Ytilodamhgepjoaa
open Go.Fx
set_option linter.unusedVariables false
set_option linter.unusedSimpArgs false

def tm (l : List Commit) (a : Int) : Int := match l[a.toNat]? with | some c => c.Time | none => 0
/-- a comes ahead of b. -/
def gt (l : List Commit) (a b : Int) : Prop := tm l b < tm l a ∨ (tm l a = tm l b ∧ b < a)
theorem gt_trans {l : List Commit} {a b c : Int} (h : gt l a b) (h2 : gt l b c) : gt l a c := by unfold gt at *; omega
theorem gt_total {l : List Commit} {a b : Int} (h : ¬ gt l a b) (h2 : ¬ gt l b a) : a = b := by unfold gt at *; omega
theorem time_of {l : List Commit} (hH : Hist l) {a : Int} (h0 : 0 ≤ a) (h : a < l.length) : ∃ c, idx l a = some c ∧ tm l a = c.Time ∧ 0 ≤ c.Time ∧ c.Time ≤ 100000 := by
  obtain ⟨c, hc, hcl, _⟩ := idx_par h0 h
  refine ⟨c, hc, by unfold tm; rw [hcl], ?_⟩
  have hf := hH.fine _ c hcl
  unfold cFault at hf
  split at hf
  · cases hf
  · split at hf
    · cases hf
    · split at hf
      · cases hf
      · omega
theorem cmp_ex {l : List Commit} (hH : Hist l) {a b : Int} (ha : 0 ≤ a ∧ a < l.length) (hb : 0 ≤ b ∧ b < l.length) : ∃ d : Int, history_Order_1.f a b l = some d ∧ (0 < d ↔ gt l a b) := by
  obtain ⟨ca, hca, ta, ra0, ra1⟩ := time_of hH ha.1 ha.2
  obtain ⟨cb, hcb, tb, rb0, rb1⟩ := time_of hH hb.1 hb.2
  have hl60 := hH.len
  refine ⟨if ca.Time - cb.Time = 0 then a - b else ca.Time - cb.Time, ?_, ?_⟩
  · refine retOf_of ?_
    unfold history_Order_1.body
    simp only [W_seq, W_block, W_reg, W_cond, W_skip, W_ext, W_ret, opt_some, opt_bind, opt_ite, thenQ_nrm, thenQ_ext, thenQ_ret, blkQ_nrm, blkQ_ext, blkQ_ret, if_true, true_and, and_true, decide_eq_true_eq, decide_eq_false_iff_not, Bool.or_eq_true, Bool.and_eq_true, Bool.or_eq_false_iff, Bool.and_eq_false_iff, Bool.true_eq_false, not_or, Classical.not_not, Bool.not_eq_true', Bool.not_eq_false', Int.not_lt, Int.not_le, Bool.false_eq_true, false_implies, true_implies, and_self, not_true_eq_false, not_false_eq_true, history_Order_1.retv, history_Order_1.r0, history_Order_1.r1, history_Order_1.r2, history_Order_1.r3, history_Order_1.r4, hca, hcb, w64_id (n := ca.Time - cb.Time) (by omega) (by omega), w64_id (n := a - b) (by omega) (by omega)]
    refine ⟨fun h => by rw [if_neg h], fun h => by rw [if_pos h]⟩
  · unfold gt
    rw [ta, tb]
    split
    · constructor
      · intro h; exact .inr ⟨by omega, by omega⟩
      · rintro (h | ⟨_, h⟩)
        · omega
        · omega
    · constructor
      · intro h; exact .inl (by omega)
      · rintro (h | ⟨h, _⟩)
        · omega
        · omega
theorem MaxFunc_ex {l : List Commit} (hH : Hist l) (xs : List Int) (hx : ∀ x ∈ xs, 0 ≤ x ∧ x < l.length) (h0 : 0 < xs.length) (hl : xs.length ≤ 1000) : ∃ m : Int, slices_MaxFunc_int_int.f xs (fun x => history_Order_1.f x.1 x.2 l) = some m ∧ m ∈ xs ∧ ∀ y ∈ xs, ¬ gt l y m := by
  have main : W slices_MaxFunc_int_int.body (fun o => ∃ m, o = .ret m ∧ m ∈ xs ∧ ∀ y ∈ xs, ¬ gt l y m) { x_0 := xs, cmp_1 := (fun x => history_Order_1.f x.1 x.2 l), t_4 := (0 : Int), m_5 := (0 : Int), i_6 := (0 : Int), t_9 := false, t_17 := false, t_27 := false } := by
    unfold slices_MaxFunc_int_int.body
    have hz : idx xs (0 : Int) = some xs[0] := idx_nat' (i := 0) h0
    simp only [W_seq, W_block, W_reg, W_cond, W_skip, W_ext, W_ret, opt_some, opt_bind, opt_ite, thenQ_nrm, thenQ_ext, thenQ_ret, blkQ_nrm, blkQ_ext, blkQ_ret, if_true, true_and, and_true, decide_eq_true_eq, decide_eq_false_iff_not, Bool.or_eq_true, Bool.and_eq_true, Bool.or_eq_false_iff, Bool.and_eq_false_iff, Bool.true_eq_false, not_or, Classical.not_not, Bool.not_eq_true', Bool.not_eq_false', Int.not_lt, Int.not_le, Bool.false_eq_true, false_implies, true_implies, and_self, not_true_eq_false, not_false_eq_true, slices_MaxFunc_int_int.retv, slices_MaxFunc_int_int.r0, slices_MaxFunc_int_int.r1, slices_MaxFunc_int_int.r2, slices_MaxFunc_int_int.r3, slices_MaxFunc_int_int.r4, slices_MaxFunc_int_int.r5, slices_MaxFunc_int_int.r7, slices_MaxFunc_int_int.r8, slices_MaxFunc_int_int.r6, slices_MaxFunc_int_int.r9, hz]
    refine ⟨fun h => absurd h (by omega), fun _ => ?_⟩
    refine W_iter (fun s => s.x_0 = xs ∧ s.cmp_1 = (fun x => history_Order_1.f x.1 x.2 l) ∧ ∃ i : Nat, s.i_6 = i ∧ 1 ≤ i ∧ i ≤ xs.length ∧ s.m_5 ∈ xs ∧ ∀ y ∈ xs.take i, ¬ gt l y s.m_5) (fun s => xs.length - s.i_6.toNat)
      ⟨rfl, rfl, 1, rfl, by omega, by omega, List.getElem_mem h0, fun y hy => ?_⟩ ?_
    · have : xs.take 1 = [xs[0]] := by
        rw [List.take_add_one, List.getElem?_eq_getElem h0]; rfl
      rw [this, List.mem_singleton] at hy
      subst hy
      show ¬ gt l xs[0] xs[0]
      unfold gt; omega
    rintro s ⟨e0, e1, i, e6, hi1, hi, hm, hmx⟩
    simp only [W_seq, W_block, W_reg, W_cond, W_skip, W_ext, W_ret, opt_some, opt_bind, opt_ite, thenQ_nrm, thenQ_ext, thenQ_ret, blkQ_nrm, blkQ_ext, blkQ_ret, if_true, true_and, and_true, decide_eq_true_eq, decide_eq_false_iff_not, Bool.or_eq_true, Bool.and_eq_true, Bool.or_eq_false_iff, Bool.and_eq_false_iff, Bool.true_eq_false, not_or, Classical.not_not, Bool.not_eq_true', Bool.not_eq_false', Int.not_lt, Int.not_le, Bool.false_eq_true, false_implies, true_implies, and_self, not_true_eq_false, not_false_eq_true, slices_MaxFunc_int_int.retv, slices_MaxFunc_int_int.r0, slices_MaxFunc_int_int.r1, slices_MaxFunc_int_int.r2, slices_MaxFunc_int_int.r3, slices_MaxFunc_int_int.r4, slices_MaxFunc_int_int.r5, slices_MaxFunc_int_int.r7, slices_MaxFunc_int_int.r8, slices_MaxFunc_int_int.r6, slices_MaxFunc_int_int.r9, e0, e1, e6]
    refine ⟨fun hlt => ?_, fun hge => ?_⟩
    · have hlt : i < xs.length := by omega
      obtain ⟨d, hd, hdg⟩ := cmp_ex hH (hx _ (List.getElem_mem hlt)) (hx _ hm)
      have htk : ∀ y, y ∈ xs.take (i + 1) ↔ y ∈ xs.take i ∨ y = xs[i] := fun y => by
        rw [List.take_add_one, List.getElem?_eq_getElem hlt]; simp only [Option.toList, List.mem_append, List.mem_singleton]
      rw [w64_succ (by omega)]
      refine opt_of (idx_nat' hlt) (opt_of hd ⟨fun h => opt_of (idx_nat' hlt) ⟨⟨i + 1, rfl, by omega, by omega, List.getElem_mem hlt, fun y hy => ?_⟩, by omega⟩, fun h => ⟨⟨i + 1, rfl, by omega, by omega, hm, fun y hy => ?_⟩, by omega⟩⟩)
      · rcases (htk y).1 hy with h2 | rfl
        · exact fun hg => hmx y h2 (gt_trans hg (hdg.1 h))
        · unfold gt; omega
      · rcases (htk y).1 hy with h2 | rfl
        · exact hmx y h2
        · exact fun hg => absurd (hdg.2 hg) (Int.not_lt.2 h)
    · have : i = xs.length := by omega
      subst this
      rw [List.take_length] at hmx
      exact ⟨_, rfl, hm, hmx⟩
  obtain ⟨o, h1, m, rfl, h2⟩ := main
  exact ⟨m, by unfold slices_MaxFunc_int_int.f; rw [h1]; rfl, h2⟩

/-- The first that passes, or -1. -/
theorem IndexFunc_ex (xs : List Int) (p : Int → Bool) (hl : xs.length ≤ 1000) : (∃ i : Nat, slices_IndexFunc_int_int.f xs (fun x => some (p x)) = some (i : Int) ∧ ∃ h : i < xs.length, p xs[i] = true ∧ ∀ y ∈ xs.take i, p y = false) ∨ (slices_IndexFunc_int_int.f xs (fun x => some (p x)) = some (-1) ∧ ∀ y ∈ xs, p y = false) := by
  have main : W slices_IndexFunc_int_int.body (fun o => (∃ i : Nat, o = .ret (i : Int) ∧ ∃ h : i < xs.length, p xs[i] = true ∧ ∀ y ∈ xs.take i, p y = false) ∨ (o = .ret (-1) ∧ ∀ y ∈ xs, p y = false)) { s_0 := xs, f_1 := (fun x => some (p x)), t_4 := (0 : Int), i_5 := (0 : Int), t_7 := (0 : Int), t_8 := (0 : Int), t_9 := false, t_16 := false } := by
    unfold slices_IndexFunc_int_int.body
    simp only [W_seq, W_block, W_reg, W_cond, W_skip, W_ext, W_ret, opt_some, opt_bind, opt_ite, thenQ_nrm, thenQ_ext, thenQ_ret, blkQ_nrm, blkQ_ext, blkQ_ret, if_true, true_and, and_true, decide_eq_true_eq, decide_eq_false_iff_not, Bool.or_eq_true, Bool.and_eq_true, Bool.or_eq_false_iff, Bool.and_eq_false_iff, Bool.true_eq_false, not_or, Classical.not_not, Bool.not_eq_true', Bool.not_eq_false', Int.not_lt, Int.not_le, Bool.false_eq_true, false_implies, true_implies, and_self, not_true_eq_false, not_false_eq_true, slices_IndexFunc_int_int.retv, slices_IndexFunc_int_int.r0, slices_IndexFunc_int_int.r1, slices_IndexFunc_int_int.r2, slices_IndexFunc_int_int.r3, slices_IndexFunc_int_int.r4, slices_IndexFunc_int_int.r5, slices_IndexFunc_int_int.r6, slices_IndexFunc_int_int.r7]
    refine W_iter (fun s => s.s_0 = xs ∧ s.f_1 = (fun x => some (p x)) ∧ s.t_7 = xs.length ∧ ∃ i : Nat, s.t_8 = i ∧ i ≤ xs.length ∧ ∀ y ∈ xs.take i, p y = false) (fun s => xs.length - s.t_8.toNat) ⟨rfl, rfl, rfl, 0, rfl, by omega, by simp⟩ ?_
    rintro s ⟨e0, e1, e7, i, e8, hi, hno⟩
    simp only [W_seq, W_block, W_reg, W_cond, W_skip, W_ext, W_ret, opt_some, opt_bind, opt_ite, thenQ_nrm, thenQ_ext, thenQ_ret, blkQ_nrm, blkQ_ext, blkQ_ret, if_true, true_and, and_true, decide_eq_true_eq, decide_eq_false_iff_not, Bool.or_eq_true, Bool.and_eq_true, Bool.or_eq_false_iff, Bool.and_eq_false_iff, Bool.true_eq_false, not_or, Classical.not_not, Bool.not_eq_true', Bool.not_eq_false', Int.not_lt, Int.not_le, Bool.false_eq_true, false_implies, true_implies, and_self, not_true_eq_false, not_false_eq_true, slices_IndexFunc_int_int.retv, slices_IndexFunc_int_int.r0, slices_IndexFunc_int_int.r1, slices_IndexFunc_int_int.r2, slices_IndexFunc_int_int.r3, slices_IndexFunc_int_int.r4, slices_IndexFunc_int_int.r5, slices_IndexFunc_int_int.r6, slices_IndexFunc_int_int.r7, e0, e1, e7, e8]
    refine ⟨fun hlt => ?_, fun hge => ?_⟩
    · have hlt : i < xs.length := by omega
      rw [w64_succ (by omega)]
      refine opt_of (idx_nat' hlt) ⟨fun h => .inl ⟨i, rfl, hlt, h, hno⟩, fun h => ⟨⟨i + 1, rfl, by omega, fun y hy => ?_⟩, by omega⟩⟩
      rw [List.take_add_one, List.getElem?_eq_getElem hlt] at hy
      simp only [Option.toList, List.mem_append, List.mem_singleton] at hy
      rcases hy with h2 | rfl
      · exact hno y h2
      · exact h
    · have : i = xs.length := by omega
      subst this
      rw [List.take_length] at hno
      exact .inr hno
  obtain ⟨o, h1, h2⟩ := main
  rcases h2 with ⟨i, rfl, h2⟩ | ⟨rfl, h2⟩
  · exact .inl ⟨i, by unfold slices_IndexFunc_int_int.f; rw [h1]; rfl, h2⟩
  · exact .inr ⟨by unfold slices_IndexFunc_int_int.f; rw [h1]; rfl, h2⟩

theorem filter_none {xs : List Int} {p : Int → Bool} (h : ∀ y ∈ xs, p y = false) : xs.filter (fun y => !p y) = xs := by
  rw [List.filter_eq_self]; intro y hy; rw [h y hy]; rfl
theorem DeleteFunc_eq (xs : List Int) (p : Int → Bool) (hl : xs.length ≤ 1000) : slices_DeleteFunc_int_int.f xs (fun x => some (p x)) = some (xs.filter fun y => !p y) := by
  refine retOf_of ?_
  unfold slices_DeleteFunc_int_int.body
  generalize hr : xs.filter (fun y => !p y) = r
  rcases IndexFunc_ex xs p hl with ⟨i0, hI, hi0, hp0, hno⟩ | ⟨hI, hno⟩
  rotate_left
  · have : r = xs := by rw [← hr]; exact filter_none hno
    simp only [W_seq, W_block, W_reg, W_cond, W_skip, W_ext, W_ret, opt_some, opt_bind, opt_ite, thenQ_nrm, thenQ_ext, thenQ_ret, blkQ_nrm, blkQ_ext, blkQ_ret, if_true, true_and, and_true, decide_eq_true_eq, decide_eq_false_iff_not, Bool.or_eq_true, Bool.and_eq_true, Bool.or_eq_false_iff, Bool.and_eq_false_iff, Bool.true_eq_false, not_or, Classical.not_not, Bool.not_eq_true', Bool.not_eq_false', Int.not_lt, Int.not_le, Bool.false_eq_true, false_implies, true_implies, and_self, not_true_eq_false, not_false_eq_true, slices_DeleteFunc_int_int.retv, slices_DeleteFunc_int_int.r0, slices_DeleteFunc_int_int.r1, slices_DeleteFunc_int_int.r2, slices_DeleteFunc_int_int.r3, slices_DeleteFunc_int_int.r4, slices_DeleteFunc_int_int.r5, slices_DeleteFunc_int_int.r7, slices_DeleteFunc_int_int.r8, slices_DeleteFunc_int_int.r9, slices_DeleteFunc_int_int.r10, slices_DeleteFunc_int_int.r6, slices_DeleteFunc_int_int.r11, slices_DeleteFunc_int_int.r12, hI, this, not_true_eq_false]
  have hne : ¬ ((i0 : Int) = -1) := by omega
  have hw0 : w64 ((i0 : Int) + 1) = ((i0 + 1 : Nat) : Int) := w64_succ (by omega)
  simp only [W_seq, W_block, W_reg, W_cond, W_skip, W_ext, W_ret, opt_some, opt_bind, opt_ite, thenQ_nrm, thenQ_ext, thenQ_ret, blkQ_nrm, blkQ_ext, blkQ_ret, if_true, true_and, and_true, decide_eq_true_eq, decide_eq_false_iff_not, Bool.or_eq_true, Bool.and_eq_true, Bool.or_eq_false_iff, Bool.and_eq_false_iff, Bool.true_eq_false, not_or, Classical.not_not, Bool.not_eq_true', Bool.not_eq_false', Int.not_lt, Int.not_le, Bool.false_eq_true, false_implies, true_implies, and_self, not_true_eq_false, not_false_eq_true, slices_DeleteFunc_int_int.retv, slices_DeleteFunc_int_int.r0, slices_DeleteFunc_int_int.r1, slices_DeleteFunc_int_int.r2, slices_DeleteFunc_int_int.r3, slices_DeleteFunc_int_int.r4, slices_DeleteFunc_int_int.r5, slices_DeleteFunc_int_int.r7, slices_DeleteFunc_int_int.r8, slices_DeleteFunc_int_int.r9, slices_DeleteFunc_int_int.r10, slices_DeleteFunc_int_int.r6, slices_DeleteFunc_int_int.r11, slices_DeleteFunc_int_int.r12, hI, hne, hw0, not_false_eq_true, false_implies]
  have hf0 : (xs.take (i0 + 1)).filter (fun y => !p y) = xs.take i0 := by
    rw [take_filter hi0, hp0, if_neg (by decide), List.append_nil]; exact filter_none hno
  refine W_iter (fun s => s.del_1 = (fun x => some (p x)) ∧ ∃ i j : Nat, s.i_5 = i ∧ s.j_6 = j ∧ i < j ∧ j ≤ xs.length ∧ s.s_0.length = xs.length ∧ s.s_0.take i = (xs.take j).filter (fun y => !p y) ∧ s.s_0.drop j = xs.drop j) (fun s => xs.length - s.j_6.toNat)
    ⟨rfl, i0, i0 + 1, rfl, rfl, by omega, by omega, rfl, hf0.symm, rfl⟩ ?_
  rintro s ⟨e1, i, j, e5, e6, hij, hj, hsl, htk, hdr⟩
  simp only [W_seq, W_block, W_reg, W_cond, W_skip, W_ext, W_ret, opt_some, opt_bind, opt_ite, thenQ_nrm, thenQ_ext, thenQ_ret, blkQ_nrm, blkQ_ext, blkQ_ret, if_true, true_and, and_true, decide_eq_true_eq, decide_eq_false_iff_not, Bool.or_eq_true, Bool.and_eq_true, Bool.or_eq_false_iff, Bool.and_eq_false_iff, Bool.true_eq_false, not_or, Classical.not_not, Bool.not_eq_true', Bool.not_eq_false', Int.not_lt, Int.not_le, Bool.false_eq_true, false_implies, true_implies, and_self, not_true_eq_false, not_false_eq_true, slices_DeleteFunc_int_int.retv, slices_DeleteFunc_int_int.r0, slices_DeleteFunc_int_int.r1, slices_DeleteFunc_int_int.r2, slices_DeleteFunc_int_int.r3, slices_DeleteFunc_int_int.r4, slices_DeleteFunc_int_int.r5, slices_DeleteFunc_int_int.r7, slices_DeleteFunc_int_int.r8, slices_DeleteFunc_int_int.r9, slices_DeleteFunc_int_int.r10, slices_DeleteFunc_int_int.r6, slices_DeleteFunc_int_int.r11, slices_DeleteFunc_int_int.r12, e1, e5, e6]
  refine ⟨fun hlt => ?_, fun hge => ?_⟩
  · have hlt : j < xs.length := by omega
    have hlt' : j < s.s_0.length := by omega
    have hsj : s.s_0[j] = xs[j] := by
      have h1 : (s.s_0.drop j)[0]? = (xs.drop j)[0]? := by rw [hdr]
      rw [List.getElem?_drop, List.getElem?_drop] at h1
      simpa [hlt, hlt'] using h1
    have hd2 : s.s_0.drop (j + 1) = xs.drop (j + 1) := by
      rw [← List.drop_drop, hdr, List.drop_drop]
    have hil : i < s.s_0.length := by omega
    have hwi : w64 ((i : Int) + 1) = ((i + 1 : Nat) : Int) := w64_succ (by omega)
    rw [w64_succ (i := j) (by omega)]
    refine opt_of (idx_nat' hlt') ?_
    rw [hsj]
    refine ⟨fun h => opt_of (idx_nat' hil) ?_, fun h => ⟨⟨i, j + 1, rfl, rfl, by omega, by omega, hsl, ?_, hd2⟩, by omega⟩⟩
    · rw [hwi]
      refine ⟨⟨i + 1, j + 1, rfl, rfl, by omega, by omega, by rw [setL_len]; exact hsl, ?_, ?_⟩, by omega⟩
      · rw [take_filter hlt, h, if_pos (by decide), ← htk]
        unfold setL
        rw [Int.toNat_natCast, List.take_add_one, List.getElem?_set_self hil, List.take_set_of_le (Nat.le_refl _)]; rfl
      · unfold setL
        rw [Int.toNat_natCast, List.drop_set_of_lt (by omega), hd2]
    · rw [take_filter hlt, h, if_neg (by decide), List.append_nil, htk]
  · have : j = xs.length := by omega
    subst this
    rw [List.take_length, hr] at htk
    have hc1 : cutFrom s.s_0 (i : Int) = some (s.s_0.drop i) := by unfold cutFrom; rw [if_pos (by omega)]; simp
    have hcl : (clearFrom 0 s.s_0 (i : Int)).take i = s.s_0.take i := by
      unfold clearFrom
      rw [Int.toNat_natCast, List.take_append_of_le_length (by rw [List.length_take]; omega), List.take_take, Nat.min_self]
    have hcll : (clearFrom 0 s.s_0 (i : Int)).length = s.s_0.length := by
      unfold clearFrom; rw [List.length_append, List.length_take, List.length_replicate, Int.toNat_natCast]; omega
    have hc2 : cutTo (clearFrom 0 s.s_0 (i : Int)) (i : Int) = some r := by
      unfold cutTo; rw [if_pos (by omega), Int.toNat_natCast, hcl, htk]
    exact opt_of hc1 (opt_of hc2 rfl)
theorem Order2_eq (b : Int) : (fun x => history_Order_2.f x b) = (fun x => some (decide (x = b))) := by
  funext x
  refine retOf_of ?_
  unfold history_Order_2.body
  simp only [W_seq, W_block, W_reg, W_cond, W_skip, W_ext, W_ret, opt_some, opt_bind, opt_ite, thenQ_nrm, thenQ_ext, thenQ_ret, blkQ_nrm, blkQ_ext, blkQ_ret, if_true, true_and, and_true, decide_eq_true_eq, decide_eq_false_iff_not, Bool.or_eq_true, Bool.and_eq_true, Bool.or_eq_false_iff, Bool.and_eq_false_iff, Bool.true_eq_false, not_or, Classical.not_not, Bool.not_eq_true', Bool.not_eq_false', Int.not_lt, Int.not_le, Bool.false_eq_true, false_implies, true_implies, and_self, not_true_eq_false, not_false_eq_true, history_Order_2.retv, history_Order_2.r0, history_Order_2.r1]
end Go.Proofs.Ytilodamhgepjoaa
