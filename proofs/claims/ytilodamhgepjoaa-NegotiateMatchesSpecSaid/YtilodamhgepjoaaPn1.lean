/- Negotiation: what its arguments must be like. -/
import Derived.Test.YtilodamhgepjoaaPu12
namespace Go.Proofs.Ytilodamhgepjoaa
open Go.Fx
set_option linter.unusedVariables false
set_option linter.unusedSimpArgs false

/-- Commit i is in a set, and a parent of it is not. -/
def clB (l : List Commit) (b : List Bool) (i : Nat) : Bool := b.getD i false && (par l i).any fun p => !(b.getD p.toNat false)
def clI (l : List Commit) (b : List Bool) : Int := ((List.range l.length).findSome? fun i => if clB l b i = true then some (i : Int) else none).getD (-1)
theorem clI_some {l : List Commit} {b : List Bool} {i : Nat} (hno : ∀ j, j < i → clB l b j = false) (hi : i < l.length) (h : clB l b i = true) : clI l b = i := by
  unfold clI
  rw [fs_some (i := i) (x := (i : Int)) (fun j hj => by rw [hno j hj]; rfl) hi (by rw [if_pos h])]; rfl
theorem clI_none {l : List Commit} {b : List Bool} (hno : ∀ j, j < l.length → clB l b j = false) : clI l b = -1 := by
  unfold clI
  rw [fs_none (fun j hj => by rw [hno j hj]; rfl)]; rfl
theorem clI_cases (l : List Commit) (b : List Bool) : (∃ i : Nat, clI l b = i ∧ i < l.length) ∨ (clI l b = -1 ∧ ∀ j, j < l.length → clB l b j = false) := by
  cases h : (List.range l.length).findSome? (fun i => if clB l b i = true then some (i : Int) else none) with
  | none =>
    right
    rw [List.findSome?_eq_none_iff] at h
    refine ⟨clI_none fun j hj => ?_, fun j hj => ?_⟩ <;>
    · have := h j (List.mem_range.2 hj)
      by_cases e : clB l b j = true
      · rw [if_pos e] at this; cases this
      · simpa using e
  | some x =>
    left
    obtain ⟨i, hi, hx⟩ := List.exists_of_findSome?_eq_some h
    refine ⟨i, ?_, List.mem_range.1 hi⟩
    unfold clI
    rw [h]
    split at hx
    · cases hx; rfl
    · cases hx
theorem par_of {l : List Commit} {i : Nat} {c : Commit} (hc : l[i]? = some c) : par l i = c.Parents := by unfold par; rw [Int.toNat_natCast, hc]

theorem closed_eq (l : List Commit) (b : List Bool) (hH : Hist l) (hb : b.length = l.length) : negotiate_closed.f l b = some (clI l b) := by
  refine retOf_of ?_
  unfold negotiate_closed.body
  have hl60 := hH.len
  simp only [W_seq, W_block, W_reg, W_cond, W_skip, W_ext, W_ret, opt_some, opt_bind, opt_ite, thenQ_nrm, thenQ_ext, thenQ_ret, blkQ_nrm, blkQ_ext, blkQ_ret, if_true, true_and, and_true, decide_eq_true_eq, decide_eq_false_iff_not, Bool.or_eq_true, Bool.and_eq_true, Bool.or_eq_false_iff, Bool.and_eq_false_iff, Bool.true_eq_false, not_or, Classical.not_not, Bool.not_eq_true', Bool.not_eq_false', Int.not_lt, Int.not_le, Bool.false_eq_true, false_implies, true_implies, and_self, not_true_eq_false, not_false_eq_true, negotiate_closed.retv, negotiate_closed.r0, negotiate_closed.r1, negotiate_closed.r2, negotiate_closed.r3, negotiate_closed.r4, negotiate_closed.r5, negotiate_closed.r6, negotiate_closed.r7, negotiate_closed.r8, negotiate_closed.r9, negotiate_closed.r10, negotiate_closed.r11]
  refine W_iter (fun s => s.commits_0 = l ∧ s.in_1 = b ∧ s.t_9 = l ∧ s.t_10 = l.length ∧ ∃ i : Nat, s.t_11 = i ∧ i ≤ l.length ∧ ∀ j, j < i → clB l b j = false) (fun s => l.length - s.t_11.toNat) ⟨rfl, rfl, rfl, rfl, 0, rfl, by omega, by omega⟩ ?_
  rintro s ⟨h0, h1, h9, h10, i, hi, hle, hno⟩
  have hwi : i < l.length → w64 ((i : Int) + 1) = ((i + 1 : Nat) : Int) := fun h => w64_succ (by omega)
  simp only [W_seq, W_block, W_reg, W_cond, W_skip, W_ext, W_ret, opt_some, opt_bind, opt_ite, thenQ_nrm, thenQ_ext, thenQ_ret, blkQ_nrm, blkQ_ext, blkQ_ret, if_true, true_and, and_true, decide_eq_true_eq, decide_eq_false_iff_not, Bool.or_eq_true, Bool.and_eq_true, Bool.or_eq_false_iff, Bool.and_eq_false_iff, Bool.true_eq_false, not_or, Classical.not_not, Bool.not_eq_true', Bool.not_eq_false', Int.not_lt, Int.not_le, Bool.false_eq_true, false_implies, true_implies, and_self, not_true_eq_false, not_false_eq_true, negotiate_closed.retv, negotiate_closed.r0, negotiate_closed.r1, negotiate_closed.r2, negotiate_closed.r3, negotiate_closed.r4, negotiate_closed.r5, negotiate_closed.r6, negotiate_closed.r7, negotiate_closed.r8, negotiate_closed.r9, negotiate_closed.r10, negotiate_closed.r11, h0, h1, h9, h10, hi]
  refine ⟨fun hlt => ?_, fun hge => ?_⟩
  · have hlt : i < l.length := by omega
    obtain ⟨c, hc⟩ : ∃ c, l[i]? = some c := ⟨l[i], List.getElem?_eq_getElem hlt⟩
    have hcI : idx l (i : Int) = some c := by rw [idx_nat' hlt, ← List.getElem?_eq_getElem hlt, hc]
    have hpl := hH.pars c (List.mem_of_getElem? hc)
    have hpt := hH.topo i c hc
    have hcl : clB l b i = (b.getD i false && c.Parents.any fun p => !(b.getD p.toNat false)) := by unfold clB; rw [par_of hc]
    have hbi : idx b (i : Int) = some (b.getD i false) := idx_getD (by omega)
    refine opt_of hcI ?_
    refine W_iter (fun s => s.commits_0 = l ∧ s.in_1 = b ∧ s.t_9 = l ∧ s.t_10 = l.length ∧ s.t_11 = i ∧ s.i_5 = i ∧ s.t_17 = c.Parents ∧ s.t_18 = c.Parents.length ∧ ∃ k : Nat, s.t_19 = k ∧ k ≤ c.Parents.length ∧ (b.getD i false = true → ((c.Parents.take k).any fun p => !(b.getD p.toNat false)) = false)) (fun s => c.Parents.length - s.t_19.toNat)
      ⟨rfl, rfl, rfl, rfl, rfl, rfl, rfl, rfl, 0, rfl, by omega, fun _ => rfl⟩ ?_
    rintro s ⟨h0, h1, h9, h10, h11, h5, h17, h18, k, h19, hk, hkn⟩
    simp only [W_seq, W_block, W_reg, W_cond, W_skip, W_ext, W_ret, opt_some, opt_bind, opt_ite, thenQ_nrm, thenQ_ext, thenQ_ret, blkQ_nrm, blkQ_ext, blkQ_ret, if_true, true_and, and_true, decide_eq_true_eq, decide_eq_false_iff_not, Bool.or_eq_true, Bool.and_eq_true, Bool.or_eq_false_iff, Bool.and_eq_false_iff, Bool.true_eq_false, not_or, Classical.not_not, Bool.not_eq_true', Bool.not_eq_false', Int.not_lt, Int.not_le, Bool.false_eq_true, false_implies, true_implies, and_self, not_true_eq_false, not_false_eq_true, negotiate_closed.retv, negotiate_closed.r0, negotiate_closed.r1, negotiate_closed.r2, negotiate_closed.r3, negotiate_closed.r4, negotiate_closed.r5, negotiate_closed.r6, negotiate_closed.r7, negotiate_closed.r8, negotiate_closed.r9, negotiate_closed.r10, negotiate_closed.r11, h0, h1, h9, h10, h11, h5, h17, h18, h19, hwi hlt]
    refine ⟨fun hkl => ?_, fun hkl => ?_⟩
    · have hkl : k < c.Parents.length := by omega
      have hp := hpt _ (List.getElem_mem hkl)
      have hbp : idx b c.Parents[k] = some (b.getD c.Parents[k].toNat false) := by
        have := idx_getD (xs := b) (i := c.Parents[k].toNat) (d := false) (by omega)
        rwa [show ((c.Parents[k].toNat : Nat) : Int) = c.Parents[k] by omega] at this
      rw [w64_succ (by omega)]
      refine opt_of (idx_nat' hkl) (opt_of hbi ⟨fun hi1 => opt_of hbp ⟨fun hb1 => ?_, fun hb1 => ⟨⟨k + 1, rfl, by omega, fun hi2 => ?_⟩, by omega⟩⟩, fun hi1 => ⟨⟨k + 1, rfl, by omega, fun h => absurd h hi1⟩, by omega⟩⟩)
      · have : clB l b i = true := by
          rw [hcl, hi1, Bool.true_and, List.any_eq_true]
          exact ⟨_, List.getElem_mem hkl, by rw [hb1]; rfl⟩
        rw [clI_some hno hlt this]
      · rw [any_take hkl, hkn hi2, hb1]; rfl
    · obtain rfl : k = c.Parents.length := by omega
      rw [List.take_length] at hkn
      refine ⟨⟨i + 1, rfl, by omega, fun j hj => ?_⟩, by omega⟩
      by_cases e : j = i
      · subst e
        rw [hcl]
        cases h : b.getD j false with
        | false => rfl
        | true => rw [hkn h]; rfl
      · exact hno j (by omega)
  · obtain rfl : i = l.length := by omega
    rw [clI_none hno]

def wF (l : List Commit) (se : List Bool) (ws : List Int) (i : Nat) : Option Fault := if ws.getD i 0 < 0 ∨ (l.length : Int) ≤ ws.getD i 0 ∨ se.getD (ws.getD i 0).toNat false = false then some ⟨6, i⟩ else none
def nFault (l : List Commit) (se re : List Bool) (ws : List Int) : Fault :=
  if hFault l ≠ ⟨0, 0⟩ then hFault l else if se.length ≠ l.length then ⟨9, -1⟩ else if re.length ≠ l.length then ⟨9, -2⟩ else
  if 0 ≤ clI l se then ⟨5, clI l se⟩ else if 0 ≤ clI l re then ⟨5, -3 - clI l re⟩ else if 60 < ws.length then ⟨2, -1⟩ else
  ((List.range ws.length).findSome? (wF l se ws)).getD ⟨0, 0⟩

theorem check_eq_n (l : List Commit) (se re : List Bool) (ws : List Int) : negotiate_check.f l se re ws = some (nFault l se re ws) := by
  refine retOf_of ?_
  unfold negotiate_check.body
  generalize hr : nFault l se re ws = r
  by_cases hh : hFault l = ⟨0, 0⟩
  rotate_left
  · have e : r = hFault l := by rw [← hr]; unfold nFault; rw [if_pos hh]
    simp only [W_seq, W_block, W_reg, W_cond, W_skip, W_ext, W_ret, opt_some, opt_bind, opt_ite, thenQ_nrm, thenQ_ext, thenQ_ret, blkQ_nrm, blkQ_ext, blkQ_ret, if_true, true_and, and_true, decide_eq_true_eq, decide_eq_false_iff_not, Bool.or_eq_true, Bool.and_eq_true, Bool.or_eq_false_iff, Bool.and_eq_false_iff, Bool.true_eq_false, not_or, Classical.not_not, Bool.not_eq_true', Bool.not_eq_false', Int.not_lt, Int.not_le, Bool.false_eq_true, false_implies, true_implies, and_self, not_true_eq_false, not_false_eq_true, negotiate_check.retv, negotiate_check.r0, negotiate_check.r1, negotiate_check.r2, negotiate_check.r3, negotiate_check.r4, negotiate_check.r5, negotiate_check.r6, negotiate_check.r7, negotiate_check.r8, negotiate_check.r9, negotiate_check.r10, negotiate_check.r11, negotiate_check.r12, negotiate_check.r13, negotiate_check.r14, negotiate_check.r15, negotiate_check.r16, negotiate_check.r17, negotiate_check.r18, negotiate_check.r19, negotiate_check.r20, negotiate_check.r21, negotiate_check.r22, Validate_eq, hh, not_false_eq_true, e]
  have hH := hist_of hh
  have hl60 := hH.len
  by_cases h1 : se.length = l.length
  rotate_left
  · have e : r = ⟨9, -1⟩ := by rw [← hr]; unfold nFault; rw [if_neg (by simpa using hh), if_pos h1]
    have h1' : ¬ ((se.length : Int) = l.length) := by omega
    simp only [W_seq, W_block, W_reg, W_cond, W_skip, W_ext, W_ret, opt_some, opt_bind, opt_ite, thenQ_nrm, thenQ_ext, thenQ_ret, blkQ_nrm, blkQ_ext, blkQ_ret, if_true, true_and, and_true, decide_eq_true_eq, decide_eq_false_iff_not, Bool.or_eq_true, Bool.and_eq_true, Bool.or_eq_false_iff, Bool.and_eq_false_iff, Bool.true_eq_false, not_or, Classical.not_not, Bool.not_eq_true', Bool.not_eq_false', Int.not_lt, Int.not_le, Bool.false_eq_true, false_implies, true_implies, and_self, not_true_eq_false, not_false_eq_true, negotiate_check.retv, negotiate_check.r0, negotiate_check.r1, negotiate_check.r2, negotiate_check.r3, negotiate_check.r4, negotiate_check.r5, negotiate_check.r6, negotiate_check.r7, negotiate_check.r8, negotiate_check.r9, negotiate_check.r10, negotiate_check.r11, negotiate_check.r12, negotiate_check.r13, negotiate_check.r14, negotiate_check.r15, negotiate_check.r16, negotiate_check.r17, negotiate_check.r18, negotiate_check.r19, negotiate_check.r20, negotiate_check.r21, negotiate_check.r22, Validate_eq, hh, e, h1', not_true_eq_false, not_false_eq_true]
  by_cases h2 : re.length = l.length
  rotate_left
  · have e : r = ⟨9, -2⟩ := by rw [← hr]; unfold nFault; rw [if_neg (by simpa using hh), if_neg (by simpa using h1), if_pos h2]
    have h2' : ¬ ((re.length : Int) = l.length) := by omega
    simp only [W_seq, W_block, W_reg, W_cond, W_skip, W_ext, W_ret, opt_some, opt_bind, opt_ite, thenQ_nrm, thenQ_ext, thenQ_ret, blkQ_nrm, blkQ_ext, blkQ_ret, if_true, true_and, and_true, decide_eq_true_eq, decide_eq_false_iff_not, Bool.or_eq_true, Bool.and_eq_true, Bool.or_eq_false_iff, Bool.and_eq_false_iff, Bool.true_eq_false, not_or, Classical.not_not, Bool.not_eq_true', Bool.not_eq_false', Int.not_lt, Int.not_le, Bool.false_eq_true, false_implies, true_implies, and_self, not_true_eq_false, not_false_eq_true, negotiate_check.retv, negotiate_check.r0, negotiate_check.r1, negotiate_check.r2, negotiate_check.r3, negotiate_check.r4, negotiate_check.r5, negotiate_check.r6, negotiate_check.r7, negotiate_check.r8, negotiate_check.r9, negotiate_check.r10, negotiate_check.r11, negotiate_check.r12, negotiate_check.r13, negotiate_check.r14, negotiate_check.r15, negotiate_check.r16, negotiate_check.r17, negotiate_check.r18, negotiate_check.r19, negotiate_check.r20, negotiate_check.r21, negotiate_check.r22, Validate_eq, hh, e, h1, h2', not_true_eq_false, not_false_eq_true]
  have fse := closed_eq l se hH h1
  have fre := closed_eq l re hH h2
  simp only [W_seq, W_block, W_reg, W_cond, W_skip, W_ext, W_ret, opt_some, opt_bind, opt_ite, thenQ_nrm, thenQ_ext, thenQ_ret, blkQ_nrm, blkQ_ext, blkQ_ret, if_true, true_and, and_true, decide_eq_true_eq, decide_eq_false_iff_not, Bool.or_eq_true, Bool.and_eq_true, Bool.or_eq_false_iff, Bool.and_eq_false_iff, Bool.true_eq_false, not_or, Classical.not_not, Bool.not_eq_true', Bool.not_eq_false', Int.not_lt, Int.not_le, Bool.false_eq_true, false_implies, true_implies, and_self, not_true_eq_false, not_false_eq_true, negotiate_check.retv, negotiate_check.r0, negotiate_check.r1, negotiate_check.r2, negotiate_check.r3, negotiate_check.r4, negotiate_check.r5, negotiate_check.r6, negotiate_check.r7, negotiate_check.r8, negotiate_check.r9, negotiate_check.r10, negotiate_check.r11, negotiate_check.r12, negotiate_check.r13, negotiate_check.r14, negotiate_check.r15, negotiate_check.r16, negotiate_check.r17, negotiate_check.r18, negotiate_check.r19, negotiate_check.r20, negotiate_check.r21, negotiate_check.r22, Validate_eq, hh, h1, h2, fse, fre, not_true_eq_false, decide_true, Bool.not_true]
  have hN : r = if 0 ≤ clI l se then ⟨5, clI l se⟩ else if 0 ≤ clI l re then ⟨5, -3 - clI l re⟩ else if 60 < ws.length then ⟨2, -1⟩ else ((List.range ws.length).findSome? (wF l se ws)).getD ⟨0, 0⟩ := by
    rw [← hr]; unfold nFault; rw [if_neg (by simpa using hh), if_neg (by simpa using h1), if_neg (by simpa using h2)]
  refine ⟨fun h3 => by rw [hN, if_pos h3], fun h3 => ⟨fun h4 => ?_, fun h4 => ⟨fun h5 => ?_, fun h5 => ?_⟩⟩⟩
  · have : clI l re ≤ 60 := by
      rcases clI_cases l re with ⟨i, e, hi⟩ | ⟨e, _⟩ <;> omega
    have hN2 : r = ⟨5, -3 - clI l re⟩ := by rw [hN, if_neg (Int.not_le.2 h3), if_pos h4]
    rw [hN2, w64_id (by omega) (by omega)]
  · have hN2 : r = ⟨2, -1⟩ := by rw [hN, if_neg (Int.not_le.2 h3), if_neg (Int.not_le.2 h4), if_pos (show 60 < ws.length by omega)]
    rw [hN2]
  · have hN2 : r = ((List.range ws.length).findSome? (wF l se ws)).getD ⟨0, 0⟩ := by rw [hN, if_neg (Int.not_le.2 h3), if_neg (Int.not_le.2 h4), if_neg (show ¬ 60 < ws.length by omega)]
    refine W_iter (fun s => s.t_0 = l ∧ s.t_1 = se ∧ s.t_51 = ws ∧ s.t_52 = ws.length ∧ ∃ i : Nat, s.t_53 = i ∧ i ≤ ws.length ∧ ∀ j, j < i → wF l se ws j = none) (fun s => ws.length - s.t_53.toNat) ⟨rfl, rfl, rfl, rfl, 0, rfl, by omega, by omega⟩ ?_
    rintro s ⟨e0, e1, e51, e52, i, e53, hi, hno⟩
    simp only [W_seq, W_block, W_reg, W_cond, W_skip, W_ext, W_ret, opt_some, opt_bind, opt_ite, thenQ_nrm, thenQ_ext, thenQ_ret, blkQ_nrm, blkQ_ext, blkQ_ret, if_true, true_and, and_true, decide_eq_true_eq, decide_eq_false_iff_not, Bool.or_eq_true, Bool.and_eq_true, Bool.or_eq_false_iff, Bool.and_eq_false_iff, Bool.true_eq_false, not_or, Classical.not_not, Bool.not_eq_true', Bool.not_eq_false', Int.not_lt, Int.not_le, Bool.false_eq_true, false_implies, true_implies, and_self, not_true_eq_false, not_false_eq_true, negotiate_check.retv, negotiate_check.r0, negotiate_check.r1, negotiate_check.r2, negotiate_check.r3, negotiate_check.r4, negotiate_check.r5, negotiate_check.r6, negotiate_check.r7, negotiate_check.r8, negotiate_check.r9, negotiate_check.r10, negotiate_check.r11, negotiate_check.r12, negotiate_check.r13, negotiate_check.r14, negotiate_check.r15, negotiate_check.r16, negotiate_check.r17, negotiate_check.r18, negotiate_check.r19, negotiate_check.r20, negotiate_check.r21, negotiate_check.r22, e0, e1, e51, e52, e53]
    refine ⟨fun hlt => ?_, fun hge => ?_⟩
    · have hlt : i < ws.length := by omega
      have hg : ws.getD i 0 = ws[i] := by simp [List.getD, hlt]
      have hret : wF l se ws i = some ⟨6, i⟩ → Ctl.ret (σ := negotiate_check.S) (⟨6, (i : Int)⟩ : Fault) = Ctl.ret r := fun hx => by rw [hN2, fs_some hno hlt hx]; rfl
      have hgo : wF l se ws i = none → (∀ j, j < i + 1 → wF l se ws j = none) := fun hx j hj => by
        by_cases e : j = i
        · subst e; exact hx
        · exact hno j (by omega)
      rw [w64_succ (by omega)]
      refine opt_of (idx_nat' hlt) ⟨fun hb => hret (by unfold wF; rw [hg, if_pos (by omega)]), fun hb => ?_⟩
      have hse : idx se ws[i] = some (se.getD ws[i].toNat false) := by
        have := idx_getD (xs := se) (i := ws[i].toNat) (d := false) (by omega)
        rwa [show ((ws[i].toNat : Nat) : Int) = ws[i] by omega] at this
      refine opt_of hse ⟨fun hs => hret (by unfold wF; rw [hg, if_pos (.inr (.inr hs))]), fun hs => ⟨⟨i + 1, rfl, by omega, hgo (by unfold wF; rw [hg, if_neg]; rintro (h | h | h); omega; omega; rw [hs] at h; cases h)⟩, by omega⟩⟩
    · obtain rfl : i = ws.length := by omega
      rw [hN2, fs_none hno]; rfl
end Go.Proofs.Ytilodamhgepjoaa
