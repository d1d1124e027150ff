/- The order of a history: newest first. -/
import Derived.Test.YtilodamhgepjoaaPn4
namespace Go.Proofs.Ytilodamhgepjoaa
open Go.Fx
set_option linter.unusedVariables false
set_option linter.unusedSimpArgs false

/-- All children of i have come up, and i has not. -/
def Ready (l : List Commit) (done : List Int) (i : Int) : Prop := (0 ≤ i ∧ i < l.length) ∧ i ∉ done ∧ ∀ (c : Nat), c < l.length → i ∈ par l c → (c : Int) ∈ done
def Best (l : List Commit) (done : List Int) (i : Int) : Prop := Ready l done i ∧ ∀ j, Ready l done j → ¬ gt l j i
theorem Best.uniq {l : List Commit} {done : List Int} {i j : Int} (h : Best l done i) (h2 : Best l done j) : i = j := gt_total (h2.2 i h.1) (h.2 j h2.1)
structure IsOrd (l : List Commit) (out : List Int) : Prop where
  best : ∀ (k : Nat) (h : k < out.length), Best l (out.take k) out[k]
  len : out.length ≤ l.length
theorem IsOrd.uniq {l : List Commit} {a b : List Int} (ha : IsOrd l a) (hb : IsOrd l b) (hl : a.length = b.length) : a = b := by
  have key : ∀ k, k ≤ a.length → a.take k = b.take k := by
    intro k
    induction k with
    | zero => intro _; simp
    | succ k ih =>
      intro hk
      have h1 := ih (by omega)
      have ha1 := ha.best k (by omega)
      have hb1 := hb.best k (by omega)
      rw [h1] at ha1
      rw [List.take_add_one, List.take_add_one, h1, List.getElem?_eq_getElem (by omega : k < a.length), List.getElem?_eq_getElem (by omega : k < b.length), ha1.uniq hb1]
  have := key a.length (Nat.le_refl _)
  rw [List.take_length, hl, List.take_length] at this
  exact this
theorem IsOrd.inr {l : List Commit} {out : List Int} (h : IsOrd l out) : ∀ x ∈ out, 0 ≤ x ∧ x < l.length := fun x hx => by
  obtain ⟨k, hk, e⟩ := List.getElem_of_mem hx
  have := (h.best k hk).1.1
  rw [e] at this; exact this
theorem IsOrd.nodup {l : List Commit} {out : List Int} (h : IsOrd l out) : out.Nodup := by
  rw [List.Nodup, List.pairwise_iff_getElem]
  intro i j hi hj hij e
  refine (h.best j hj).1.2.1 ?_
  rw [← e]
  exact List.mem_take_iff_getElem.2 ⟨i, by omega, rfl⟩
theorem IsOrd.snoc {l : List Commit} {out : List Int} {b : Int} (h : IsOrd l out) (hb : Best l out b) (hl : out.length < l.length) : IsOrd l (out ++ [b]) := by
  refine ⟨fun k hk => ?_, by simp; omega⟩
  rw [List.length_append, List.length_singleton] at hk
  by_cases e : k = out.length
  · subst e
    rw [List.take_left, List.getElem_append_right (Nat.le_refl _)]
    simpa using hb
  · rw [List.take_append_of_le_length (by omega), List.getElem_append_left (by omega)]
    exact h.best k (by omega)

/-- How many below n pass. -/
def cntP (P : Nat → Bool) (n : Nat) : Nat := (List.range n).countP P
theorem cntP_succ {P : Nat → Bool} {n : Nat} : cntP P (n + 1) = cntP P n + (if P n = true then 1 else 0) := by
  unfold cntP; rw [List.range_succ, List.countP_append]
  by_cases h : P n = true <;> simp [h]
theorem cntP_congr {P Q : Nat → Bool} : ∀ {n : Nat}, (∀ i, i < n → P i = Q i) → cntP P n = cntP Q n
  | 0, _ => rfl
  | n + 1, h => by rw [cntP_succ, cntP_succ, cntP_congr fun i hi => h i (by omega), h n (by omega)]
theorem cntP_le {P : Nat → Bool} {n : Nat} : cntP P n ≤ n := by unfold cntP; exact Nat.le_trans List.countP_le_length (by rw [List.length_range]; exact Nat.le_refl _)
theorem cntP_zero {P : Nat → Bool} {n : Nat} : cntP P n = 0 ↔ ∀ i, i < n → P i = false := by
  unfold cntP
  rw [List.countP_eq_zero]
  constructor
  · intro h i hi; simpa using h i (List.mem_range.2 hi)
  · intro h i hi; rw [h i (List.mem_range.1 hi)]; decide
/-- One of them is taken out. -/
theorem cntP_out {P Q : Nat → Bool} {b : Nat} : ∀ {n : Nat}, b < n → P b = true → Q b = false → (∀ i, i ≠ b → P i = Q i) → cntP P n = cntP Q n + 1
  | n + 1, hb, hp, hq, h => by
    rw [cntP_succ, cntP_succ]
    by_cases e : b = n
    · subst e
      rw [hp, hq, if_pos rfl, if_neg (by decide), cntP_congr fun i hi => h i (by omega)]
    · rw [cntP_out (by omega) hp hq h, h n (by omega)]; omega
/-- The children of p that have not come up. -/
def kids (l : List Commit) (done : List Int) (p : Int) (c : Nat) : Bool := !decide ((c : Int) ∈ done) && decide (p ∈ par l c)
theorem ready_iff {l : List Commit} {done : List Int} {i : Int} : Ready l done i ↔ (0 ≤ i ∧ i < l.length) ∧ i ∉ done ∧ cntP (kids l done i) l.length = 0 := by
  unfold Ready
  refine and_congr Iff.rfl (and_congr Iff.rfl ?_)
  rw [cntP_zero]
  refine forall_congr' fun c => imp_congr Iff.rfl ?_
  unfold kids
  by_cases h1 : (c : Int) ∈ done <;> by_cases h2 : i ∈ par l c <;> simp [h1, h2]
theorem left_out {l : List Commit} {done : List Int} {b : Int} (h0 : 0 ≤ b) (h : b < l.length) (hb : b ∉ done) : cntP (fun i => !decide ((i : Int) ∈ done)) l.length = cntP (fun i => !decide ((i : Int) ∈ done ++ [b])) l.length + 1 := by
  refine cntP_out (b := b.toNat) (by omega) ?_ ?_ fun i hi => ?_
  · rw [show ((b.toNat : Nat) : Int) = b by omega]; simpa using hb
  · rw [show ((b.toNat : Nat) : Int) = b by omega]; simp
  · have : (i : Int) ≠ b := by omega
    simp [this]
theorem kids_out {l : List Commit} {done : List Int} {b p : Int} (h0 : 0 ≤ b) (h : b < l.length) (hb : b ∉ done) : cntP (kids l done p) l.length = cntP (kids l (done ++ [b]) p) l.length + (if p ∈ par l b then 1 else 0) := by
  by_cases hp : p ∈ par l b
  · rw [if_pos hp]
    refine cntP_out (b := b.toNat) (by omega) ?_ ?_ fun i hi => ?_
    · unfold kids; rw [show ((b.toNat : Nat) : Int) = b by omega]; simp [hb, hp]
    · unfold kids; rw [show ((b.toNat : Nat) : Int) = b by omega]; simp
    · have : (i : Int) ≠ b := by omega
      unfold kids; simp [this]
  · rw [if_neg hp]
    refine cntP_congr fun i hi => ?_
    unfold kids
    by_cases e : (i : Int) = b
    · rw [e]; simp [hp]
    · simp [e]
/-- As long as something is left, something is ready. -/
theorem some_ready {l : List Commit} (ht : Topo l) {done : List Int} {i : Nat} (hi : i < l.length) (hn : (i : Int) ∉ done) : ∃ j, Ready l done j := by
  have key : ∀ d i : Nat, i + d = l.length → i < l.length → (i : Int) ∉ done → ∃ j, Ready l done j := by
    intro d
    induction d using Nat.strongRecOn with
    | _ d ih =>
      intro i hd hi hn
      by_cases h : ∀ (c : Nat), c < l.length → (i : Int) ∈ par l c → (c : Int) ∈ done
      · exact ⟨i, ⟨by omega, by omega⟩, hn, h⟩
      · rw [Classical.not_forall] at h
        obtain ⟨c, h⟩ := h
        rw [Classical.not_imp, Classical.not_imp] at h
        obtain ⟨hc, hp, hcn⟩ := h
        have hx : l[c]? = some l[c] := List.getElem?_eq_getElem hc
        rw [par_of hx] at hp
        have := (ht c _ hx _ hp).2
        exact ih (l.length - c) (by omega) c (by omega) hc hcn
  exact key (l.length - i) i (by omega) hi hn
theorem getD_setN {v : List Int} {p : Int} {i : Nat} {x : Int} (h0 : 0 ≤ p) (hk : p.toNat < v.length) : (setL v p x).getD i 0 = if (i : Int) = p then x else v.getD i 0 := getD_setL h0 hk
theorem inc_nodup {ps : List Int} (h : ps.Pairwise (· < ·)) {k : Nat} (hk : k < ps.length) : ps[k] ∉ ps.take k := fun hm => by
  obtain ⟨j, hj, e⟩ := List.mem_take_iff_getElem.1 hm
  have := List.pairwise_iff_getElem.1 h j k (by omega) hk (by omega)
  omega

theorem Order_ex (l : List Commit) (hh : hFault l = ⟨0, 0⟩) : ∃ out, history_Order.f l = some (out, ⟨0, 0⟩) ∧ IsOrd l out ∧ (∀ i : Nat, i < l.length → (i : Int) ∈ out) := by
  have hH := hist_of hh
  have hl60 := hH.len
  have ht := hH.topo
  suffices main : W history_Order.body (fun o => ∃ out, o = .ret (out, ⟨0, 0⟩) ∧ IsOrd l out ∧ (∀ i : Nat, i < l.length → (i : Int) ∈ out)) _ by
    obtain ⟨o, h1, r, rfl, h2⟩ := main
    exact ⟨r, by unfold history_Order.f; rw [h1]; rfl, h2⟩
  unfold history_Order.body
  have hmk : mkL 8 (0 : Int) (l.length : Int) = some (List.replicate l.length 0) := by unfold mkL; rw [if_pos (by omega)]; simp
  simp only [W_seq, W_block, W_reg, W_cond, W_skip, W_ext, W_ret, opt_some, opt_bind, opt_ite, thenQ_nrm, thenQ_ext, thenQ_ret, blkQ_nrm, blkQ_ext, blkQ_ret, if_true, true_and, and_true, decide_eq_true_eq, decide_eq_false_iff_not, Bool.or_eq_true, Bool.and_eq_true, Bool.or_eq_false_iff, Bool.and_eq_false_iff, Bool.true_eq_false, not_or, Classical.not_not, Bool.not_eq_true', Bool.not_eq_false', Int.not_lt, Int.not_le, Bool.false_eq_true, false_implies, true_implies, and_self, not_true_eq_false, not_false_eq_true, history_Order.retv, history_Order.r0, history_Order.r1, history_Order.r2, history_Order.r3, history_Order.r4, history_Order.r5, history_Order.r6, history_Order.r7, history_Order.r8, history_Order.r9, history_Order.r10, history_Order.r11, history_Order.r12, history_Order.r13, history_Order.r14, history_Order.r15, history_Order.r16, history_Order.r17, history_Order.r18, history_Order.r19, history_Order.r20, history_Order.r21, history_Order.r22, history_Order.r23, history_Order.r24, history_Order.r25, history_Order.r26, history_Order.r27, history_Order.r28, history_Order.r29, history_Order.r30, history_Order.r31, history_Order.r32, Validate_eq, hh, not_true_eq_false, hmk]
  refine W_iter (fun s => s.t_1 = l ∧ s.t_26 = l ∧ s.t_27 = l.length ∧ ∃ i : Nat, s.t_28 = i ∧ i ≤ l.length ∧ s.t_5.length = l.length ∧ ∀ p, p < l.length → s.t_5.getD p 0 = (cntP (fun c => decide ((p : Int) ∈ par l c)) i : Int)) (fun s => l.length - s.t_28.toNat)
    ⟨rfl, rfl, rfl, 0, rfl, by omega, by simp, fun p hp => by simp [List.getD, List.getElem?_replicate, hp, cntP]⟩ ?_
  rintro s ⟨e1, e26, e27, i, e28, hi, hwl, hwv⟩
  simp only [W_seq, W_block, W_reg, W_cond, W_skip, W_ext, W_ret, opt_some, opt_bind, opt_ite, thenQ_nrm, thenQ_ext, thenQ_ret, blkQ_nrm, blkQ_ext, blkQ_ret, if_true, true_and, and_true, decide_eq_true_eq, decide_eq_false_iff_not, Bool.or_eq_true, Bool.and_eq_true, Bool.or_eq_false_iff, Bool.and_eq_false_iff, Bool.true_eq_false, not_or, Classical.not_not, Bool.not_eq_true', Bool.not_eq_false', Int.not_lt, Int.not_le, Bool.false_eq_true, false_implies, true_implies, and_self, not_true_eq_false, not_false_eq_true, history_Order.retv, history_Order.r0, history_Order.r1, history_Order.r2, history_Order.r3, history_Order.r4, history_Order.r5, history_Order.r6, history_Order.r7, history_Order.r8, history_Order.r9, history_Order.r10, history_Order.r11, history_Order.r12, history_Order.r13, history_Order.r14, history_Order.r15, history_Order.r16, history_Order.r17, history_Order.r18, history_Order.r19, history_Order.r20, history_Order.r21, history_Order.r22, history_Order.r23, history_Order.r24, history_Order.r25, history_Order.r26, history_Order.r27, history_Order.r28, history_Order.r29, history_Order.r30, history_Order.r31, history_Order.r32, e1, e26, e27, e28]
  refine ⟨fun hlt => ?_, fun hge => ?_⟩
  · have hlt : i < l.length := by omega
    obtain ⟨c, hc⟩ : ∃ c, l[i]? = some c := ⟨l[i], List.getElem?_eq_getElem hlt⟩
    have hcI : idx l (i : Int) = some c := by rw [idx_nat' hlt, ← List.getElem?_eq_getElem hlt, hc]
    have hpl := hH.pars c (List.mem_of_getElem? hc)
    have hpt := ht i c hc
    have hpi := hH.inc c (List.mem_of_getElem? hc)
    have hwi : w64 ((i : Int) + 1) = ((i + 1 : Nat) : Int) := w64_succ (by omega)
    refine opt_of hcI ?_
    refine W_iter (fun s => s.t_1 = l ∧ s.t_26 = l ∧ s.t_27 = l.length ∧ s.t_28 = i ∧ s.t_33 = c.Parents ∧ s.t_34 = c.Parents.length ∧ ∃ k : Nat, s.t_35 = k ∧ k ≤ c.Parents.length ∧ s.t_5.length = l.length ∧ ∀ p, p < l.length → s.t_5.getD p 0 = (cntP (fun c => decide ((p : Int) ∈ par l c)) i : Int) + (if (p : Int) ∈ c.Parents.take k then 1 else 0)) (fun s => c.Parents.length - s.t_35.toNat)
      ⟨rfl, rfl, rfl, rfl, rfl, rfl, 0, rfl, by omega, hwl, by simpa using hwv⟩ ?_
    rintro s ⟨e1, e26, e27, e28, e33, e34, k, e35, hk, hwl, hwv⟩
    simp only [W_seq, W_block, W_reg, W_cond, W_skip, W_ext, W_ret, opt_some, opt_bind, opt_ite, thenQ_nrm, thenQ_ext, thenQ_ret, blkQ_nrm, blkQ_ext, blkQ_ret, if_true, true_and, and_true, decide_eq_true_eq, decide_eq_false_iff_not, Bool.or_eq_true, Bool.and_eq_true, Bool.or_eq_false_iff, Bool.and_eq_false_iff, Bool.true_eq_false, not_or, Classical.not_not, Bool.not_eq_true', Bool.not_eq_false', Int.not_lt, Int.not_le, Bool.false_eq_true, false_implies, true_implies, and_self, not_true_eq_false, not_false_eq_true, history_Order.retv, history_Order.r0, history_Order.r1, history_Order.r2, history_Order.r3, history_Order.r4, history_Order.r5, history_Order.r6, history_Order.r7, history_Order.r8, history_Order.r9, history_Order.r10, history_Order.r11, history_Order.r12, history_Order.r13, history_Order.r14, history_Order.r15, history_Order.r16, history_Order.r17, history_Order.r18, history_Order.r19, history_Order.r20, history_Order.r21, history_Order.r22, history_Order.r23, history_Order.r24, history_Order.r25, history_Order.r26, history_Order.r27, history_Order.r28, history_Order.r29, history_Order.r30, history_Order.r31, history_Order.r32, e1, e26, e27, e28, e33, e34, e35, hwi]
    refine ⟨fun hkl => ?_, fun hkl => ?_⟩
    · have hkl : k < c.Parents.length := by omega
      have hp := hpt _ (List.getElem_mem hkl)
      have hold := hwv c.Parents[k].toNat (by omega)
      rw [show ((c.Parents[k].toNat : Nat) : Int) = c.Parents[k] by omega, if_neg (inc_nodup hpi hkl)] at hold
      have hcl := cntP_le (P := fun c_1 => decide (c.Parents[k] ∈ par l c_1)) (n := i)
      rw [w64_succ (by omega)]
      refine opt_of (idx_nat' hkl) (opt_of (idx_getDI (d := 0) hp.1 (by omega)) (opt_of (idx_getDI (d := 0) hp.1 (by omega)) ⟨⟨k + 1, rfl, by omega, by rw [setL_len]; exact hwl, fun p hpl => ?_⟩, by omega⟩))
      have hmem : ((p : Int) ∈ c.Parents.take (k + 1)) ↔ ((p : Int) ∈ c.Parents.take k ∨ (p : Int) = c.Parents[k]) := by
        rw [List.take_add_one, List.getElem?_eq_getElem hkl]; simp only [Option.toList, List.mem_append, List.mem_singleton]
      rw [getD_setN hp.1 (by omega), w64_id (by omega) (by omega)]
      by_cases e : (p : Int) = c.Parents[k]
      · rw [if_pos e, if_pos (hmem.2 (.inr e)), hold, e]; simp
      · rw [if_neg e, hwv p hpl]
        by_cases e2 : (p : Int) ∈ c.Parents.take k
        · rw [if_pos e2, if_pos (hmem.2 (.inl e2))]
        · rw [if_neg e2, if_neg (fun h => (hmem.1 h).elim e2 e)]
    · have : k = c.Parents.length := by omega
      subst this
      rw [List.take_length] at hwv
      refine ⟨⟨i + 1, rfl, by omega, hwl, fun p hp => ?_⟩, by omega⟩
      rw [hwv p hp, cntP_succ, par_of hc]
      by_cases e : (p : Int) ∈ c.Parents <;> simp [e]
  have hil : i = l.length := by omega
  subst hil
  obtain ⟨v, hve⟩ : ∃ v, v = s.t_5 := ⟨_, rfl⟩
  simp only [← hve] at hwl hwv ⊢
  have hk0 : ∀ p : Nat, p < l.length → v.getD p 0 = (cntP (kids l [] p) l.length : Int) := fun p hp => by
    rw [hwv p hp]
    congr 1
  clear hwv
  refine W_iter (fun s => s.t_1 = l ∧ s.t_5 = v ∧ s.t_48 = l.length ∧ s.t_11 = [] ∧ ∃ i : Nat, s.t_49 = i ∧ i ≤ l.length ∧ s.t_10.length ≤ i ∧ ∀ x, x ∈ s.t_10 ↔ ∃ j : Nat, x = j ∧ j < i ∧ v.getD j 0 = 0) (fun s => l.length - s.t_49.toNat)
    ⟨rfl, rfl, by show (v.length : Int) = _; omega, rfl, 0, rfl, by omega, by simp, by simp⟩ ?_
  rintro s ⟨e1, e5, e48, e11, i, e49, hi, hrl, hrm⟩
  simp only [W_seq, W_block, W_reg, W_cond, W_skip, W_ext, W_ret, opt_some, opt_bind, opt_ite, thenQ_nrm, thenQ_ext, thenQ_ret, blkQ_nrm, blkQ_ext, blkQ_ret, if_true, true_and, and_true, decide_eq_true_eq, decide_eq_false_iff_not, Bool.or_eq_true, Bool.and_eq_true, Bool.or_eq_false_iff, Bool.and_eq_false_iff, Bool.true_eq_false, not_or, Classical.not_not, Bool.not_eq_true', Bool.not_eq_false', Int.not_lt, Int.not_le, Bool.false_eq_true, false_implies, true_implies, and_self, not_true_eq_false, not_false_eq_true, history_Order.retv, history_Order.r0, history_Order.r1, history_Order.r2, history_Order.r3, history_Order.r4, history_Order.r5, history_Order.r6, history_Order.r7, history_Order.r8, history_Order.r9, history_Order.r10, history_Order.r11, history_Order.r12, history_Order.r13, history_Order.r14, history_Order.r15, history_Order.r16, history_Order.r17, history_Order.r18, history_Order.r19, history_Order.r20, history_Order.r21, history_Order.r22, history_Order.r23, history_Order.r24, history_Order.r25, history_Order.r26, history_Order.r27, history_Order.r28, history_Order.r29, history_Order.r30, history_Order.r31, history_Order.r32, e1, e5, e48, e11, e49]
  refine ⟨fun hlt => ?_, fun hge => ?_⟩
  · have hlt : i < l.length := by omega
    rw [w64_succ (by omega)]
    have hsucc : ∀ x, (∃ j : Nat, x = (j : Int) ∧ j < i + 1 ∧ v.getD j 0 = 0) ↔ (∃ j : Nat, x = (j : Int) ∧ j < i ∧ v.getD j 0 = 0) ∨ (x = (i : Int) ∧ v.getD i 0 = 0) := fun x => by
      constructor
      · rintro ⟨j, e, h1, h2⟩
        by_cases ej : j = i
        · subst ej; exact .inr ⟨e, h2⟩
        · exact .inl ⟨j, e, by omega, h2⟩
      · rintro (⟨j, e, h1, h2⟩ | ⟨e, h2⟩)
        · exact ⟨j, e, by omega, h2⟩
        · exact ⟨i, e, by omega, h2⟩
    refine opt_of (idx_getD (d := 0) (by omega : i < v.length)) ⟨fun h => opt_of (appL_of (by simp only [List.length_cons, List.length_nil]; omega)) ⟨⟨i + 1, rfl, by omega, by simp; omega, fun x => ?_⟩, by omega⟩, fun h => ⟨⟨i + 1, rfl, by omega, by omega, fun x => ?_⟩, by omega⟩⟩
    · rw [hsucc, List.mem_append, hrm, List.mem_singleton]
      exact or_congr Iff.rfl ⟨fun e => ⟨e, h⟩, fun e => e.1⟩
    · rw [hsucc, hrm]
      exact ⟨.inl, fun h2 => h2.elim id fun h2 => absurd h2.2 h⟩
  have hil : i = l.length := by omega
  subst hil
  refine W_iter (fun s => s.t_1 = l ∧ s.t_5.length = l.length ∧ IsOrd l s.t_11 ∧ s.t_11.length + cntP (fun i => !decide ((i : Int) ∈ s.t_11)) l.length = l.length ∧ s.t_10.length ≤ l.length + 3 * s.t_11.length ∧ (∀ p : Nat, p < l.length → s.t_5.getD p 0 = (cntP (kids l s.t_11 p) l.length : Int)) ∧ ∀ x, x ∈ s.t_10 ↔ Ready l s.t_11 x) (fun s => cntP (fun i => !decide ((i : Int) ∈ s.t_11)) l.length)
    ⟨rfl, hwl, ⟨fun k hk => by simp at hk, by simp⟩, ?_, by simpa using hrl, hk0, fun x => ?_⟩ ?_
  · show ([] : List Int).length + cntP (fun i => !decide ((i : Int) ∈ ([] : List Int))) l.length = _
    have : ∀ n, cntP (fun i => !decide ((i : Int) ∈ ([] : List Int))) n = n := fun n => by
      induction n with
      | zero => rfl
      | succ n ih => rw [cntP_succ, ih]; simp
    rw [this]; simp
  · show x ∈ s.t_10 ↔ Ready l [] x
    rw [hrm, ready_iff]
    constructor
    · rintro ⟨j, rfl, hj, h2⟩
      rw [hk0 j hj] at h2
      exact ⟨by omega, by simp, by omega⟩
    · rintro ⟨h1, _, h2⟩
      refine ⟨x.toNat, by omega, by omega, ?_⟩
      rw [hk0 x.toNat (by omega), show ((x.toNat : Nat) : Int) = x by omega, h2]; rfl
  rintro s ⟨e1, hwl, hord, hcount, hrl, hwv, hrm⟩
  obtain ⟨out, hoe⟩ : ∃ out, out = s.t_11 := ⟨_, rfl⟩
  rw [← hoe] at hord hcount hrl hwv hrm
  simp only [W_seq, W_block, W_reg, W_cond, W_skip, W_ext, W_ret, opt_some, opt_bind, opt_ite, thenQ_nrm, thenQ_ext, thenQ_ret, blkQ_nrm, blkQ_ext, blkQ_ret, if_true, true_and, and_true, decide_eq_true_eq, decide_eq_false_iff_not, Bool.or_eq_true, Bool.and_eq_true, Bool.or_eq_false_iff, Bool.and_eq_false_iff, Bool.true_eq_false, not_or, Classical.not_not, Bool.not_eq_true', Bool.not_eq_false', Int.not_lt, Int.not_le, Bool.false_eq_true, false_implies, true_implies, and_self, not_true_eq_false, not_false_eq_true, history_Order.retv, history_Order.r0, history_Order.r1, history_Order.r2, history_Order.r3, history_Order.r4, history_Order.r5, history_Order.r6, history_Order.r7, history_Order.r8, history_Order.r9, history_Order.r10, history_Order.r11, history_Order.r12, history_Order.r13, history_Order.r14, history_Order.r15, history_Order.r16, history_Order.r17, history_Order.r18, history_Order.r19, history_Order.r20, history_Order.r21, history_Order.r22, history_Order.r23, history_Order.r24, history_Order.r25, history_Order.r26, history_Order.r27, history_Order.r28, history_Order.r29, history_Order.r30, history_Order.r31, history_Order.r32, e1, ← hoe]
  refine ⟨fun hpos => ?_, fun hz => ?_⟩
  · have hpos : 0 < s.t_10.length := by omega
    have hinr : ∀ x ∈ s.t_10, 0 ≤ x ∧ x < l.length := fun x hx => ((hrm x).1 hx).1
    have hol := hord.len
    obtain ⟨b, hb, hbm, hbg⟩ := MaxFunc_ex hH s.t_10 hinr hpos (by omega)
    have hbr := (hrm b).1 hbm
    have hbest : Best l out b := ⟨hbr, fun j hj => hbg j ((hrm j).2 hj)⟩
    have hb0 := hbr.1
    have hbn := hbr.2.1
    have hleft := left_out hb0.1 hb0.2 hbn
    have hlt2 : out.length < l.length := by omega
    obtain ⟨c, hc, hcl, hpc⟩ := idx_par hb0.1 hb0.2
    have hpl := hH.pars c (List.mem_of_getElem? hcl)
    have hpt := ht _ c hcl
    have hpi := hH.inc c (List.mem_of_getElem? hcl)
    have hdel : slices_DeleteFunc_int_int.f s.t_10 (fun x => history_Order_2.f x b) = some (s.t_10.filter fun y => !decide (y = b)) := by
      rw [Order2_eq]; exact DeleteFunc_eq s.t_10 (fun x => decide (x = b)) (by omega)
    have hdl : (s.t_10.filter fun y => !decide (y = b)).length ≤ s.t_10.length := List.length_filter_le _ _
    refine opt_of hb (opt_of hdel (opt_of (appL_of (by simp only [List.length_cons, List.length_nil]; omega)) (opt_of hc ?_)))
    have hbpar : ∀ p ∈ c.Parents, p ≠ b := fun p hp e => by have := hpt p hp; omega
    refine W_iter (fun s2 => s2.t_1 = l ∧ s2.t_11 = out ++ [b] ∧ s2.t_78 = c.Parents ∧ s2.t_79 = c.Parents.length ∧ ∃ k : Nat, s2.t_80 = k ∧ k ≤ c.Parents.length ∧ s2.t_5.length = l.length ∧ s2.t_10.length ≤ l.length + 3 * out.length + k ∧ (∀ p : Nat, p < l.length → s2.t_5.getD p 0 = (cntP (kids l out p) l.length : Int) - (if (p : Int) ∈ c.Parents.take k then 1 else 0)) ∧ ∀ x, x ∈ s2.t_10 ↔ (Ready l out x ∧ x ≠ b) ∨ (x ∈ c.Parents.take k ∧ cntP (kids l (out ++ [b]) x) l.length = 0)) (fun s2 => c.Parents.length - s2.t_80.toNat)
      ⟨rfl, rfl, rfl, rfl, 0, rfl, by omega, hwl, by show (s.t_10.filter fun y => !decide (y = b)).length ≤ _; omega, by simpa using hwv, fun x => ?_⟩ ?_
    · show x ∈ (s.t_10.filter fun y => !decide (y = b)) ↔ _
      rw [List.mem_filter, hrm]; simp
    rintro s2 ⟨e1, e11, e78, e79, k, e80, hk, hwl2, hrl2, hwv2, hrm2⟩
    simp only [W_seq, W_block, W_reg, W_cond, W_skip, W_ext, W_ret, opt_some, opt_bind, opt_ite, thenQ_nrm, thenQ_ext, thenQ_ret, blkQ_nrm, blkQ_ext, blkQ_ret, if_true, true_and, and_true, decide_eq_true_eq, decide_eq_false_iff_not, Bool.or_eq_true, Bool.and_eq_true, Bool.or_eq_false_iff, Bool.and_eq_false_iff, Bool.true_eq_false, not_or, Classical.not_not, Bool.not_eq_true', Bool.not_eq_false', Int.not_lt, Int.not_le, Bool.false_eq_true, false_implies, true_implies, and_self, not_true_eq_false, not_false_eq_true, history_Order.retv, history_Order.r0, history_Order.r1, history_Order.r2, history_Order.r3, history_Order.r4, history_Order.r5, history_Order.r6, history_Order.r7, history_Order.r8, history_Order.r9, history_Order.r10, history_Order.r11, history_Order.r12, history_Order.r13, history_Order.r14, history_Order.r15, history_Order.r16, history_Order.r17, history_Order.r18, history_Order.r19, history_Order.r20, history_Order.r21, history_Order.r22, history_Order.r23, history_Order.r24, history_Order.r25, history_Order.r26, history_Order.r27, history_Order.r28, history_Order.r29, history_Order.r30, history_Order.r31, history_Order.r32, e1, e11, e78, e79, e80]
    refine ⟨fun hkl => ?_, fun hkl => ?_⟩
    · have hkl : k < c.Parents.length := by omega
      have hp := hpt _ (List.getElem_mem hkl)
      have hold := hwv2 c.Parents[k].toNat (by omega)
      rw [show ((c.Parents[k].toNat : Nat) : Int) = c.Parents[k] by omega, if_neg (inc_nodup hpi hkl)] at hold
      have hcl2 := cntP_le (P := kids l out c.Parents[k]) (n := l.length)
      have hko := kids_out (l := l) (done := out) (b := b) (p := c.Parents[k]) hb0.1 hb0.2 hbn
      rw [if_pos (by rw [hpc]; exact List.getElem_mem hkl)] at hko
      have hsl : c.Parents[k].toNat < s2.t_5.length := by omega
      have hw : w64 (s2.t_5.getD c.Parents[k].toNat 0 - 1) = (cntP (kids l (out ++ [b]) c.Parents[k]) l.length : Int) := by
        rw [hold, w64_id (by omega) (by omega)]; omega
      have hmem : ∀ x : Int, (x ∈ c.Parents.take (k + 1)) ↔ (x ∈ c.Parents.take k ∨ x = c.Parents[k]) := fun x => by
        rw [List.take_add_one, List.getElem?_eq_getElem hkl]; simp only [Option.toList, List.mem_append, List.mem_singleton]
      have hnew : ∀ p : Nat, p < l.length → (setL s2.t_5 c.Parents[k] (w64 (s2.t_5.getD c.Parents[k].toNat 0 - 1))).getD p 0 = (cntP (kids l out p) l.length : Int) - (if (p : Int) ∈ c.Parents.take (k + 1) then 1 else 0) := fun p hpp => by
        rw [getD_setN hp.1 hsl, hw]
        by_cases e : (p : Int) = c.Parents[k]
        · rw [if_pos e, if_pos ((hmem _).2 (.inr e)), e]; omega
        · rw [if_neg e, hwv2 p hpp]
          by_cases e2 : (p : Int) ∈ c.Parents.take k
          · rw [if_pos e2, if_pos ((hmem _).2 (.inl e2))]
          · rw [if_neg e2, if_neg (fun h => ((hmem _).1 h).elim e2 e)]
      have hidx2 : idx (setL s2.t_5 c.Parents[k] (w64 (s2.t_5.getD c.Parents[k].toNat 0 - 1))) c.Parents[k] = some (cntP (kids l (out ++ [b]) c.Parents[k]) l.length : Int) := by
        rw [idx_getDI (d := 0) hp.1 (by rw [setL_len]; omega), getD_setN hp.1 hsl, if_pos (by omega), hw]
      rw [w64_succ (by omega)]
      refine opt_of (idx_nat' hkl) (opt_of (idx_getDI (d := 0) hp.1 (by omega)) (opt_of (idx_getDI (d := 0) hp.1 (by omega)) (opt_of hidx2 ⟨fun h => opt_of (appL_of (by simp only [List.length_cons, List.length_nil]; omega)) ⟨⟨k + 1, rfl, by omega, by rw [setL_len]; exact hwl2, by simp; omega, hnew, fun x => ?_⟩, by omega⟩, fun h => ⟨⟨k + 1, rfl, by omega, by rw [setL_len]; exact hwl2, by omega, hnew, fun x => ?_⟩, by omega⟩⟩)))
      · rw [List.mem_append, hrm2, List.mem_singleton, hmem]
        constructor
        · rintro ((h1 | ⟨h1, h2⟩) | rfl)
          · exact .inl h1
          · exact .inr ⟨.inl h1, h2⟩
          · exact .inr ⟨.inr rfl, by omega⟩
        · rintro (h1 | ⟨h1 | rfl, h2⟩)
          · exact .inl (.inl h1)
          · exact .inl (.inr ⟨h1, h2⟩)
          · exact .inr rfl
      · rw [hrm2, hmem]
        refine or_congr Iff.rfl ⟨fun h1 => ⟨.inl h1.1, h1.2⟩, ?_⟩
        rintro ⟨h1 | rfl, h2⟩
        · exact ⟨h1, h2⟩
        · omega
    · have : k = c.Parents.length := by omega
      subst this
      rw [List.take_length] at hwv2 hrm2
      refine ⟨⟨hwl2, hord.snoc hbest hlt2, by rw [List.length_append, List.length_singleton]; omega, by rw [List.length_append, List.length_singleton]; omega, fun p hp => ?_, fun x => ?_⟩, by omega⟩
      · rw [hwv2 p hp]
        have hko := kids_out (l := l) (done := out) (b := b) (p := (p : Int)) hb0.1 hb0.2 hbn
        rw [hpc] at hko
        by_cases e : (p : Int) ∈ c.Parents
        · rw [if_pos e] at hko ⊢; omega
        · rw [if_neg e] at hko ⊢; omega
      · have hko := kids_out (l := l) (done := out) (b := b) (p := x) hb0.1 hb0.2 hbn
        rw [hpc] at hko
        rw [hrm2, ready_iff, ready_iff]
        simp only [List.mem_append, List.mem_singleton, not_or]
        by_cases e : x ∈ c.Parents
        · rw [if_pos e] at hko
          have hx := hpt x e
          have hxo : x ∉ out := fun h => by
            obtain ⟨q, hq, e2⟩ := List.getElem_of_mem h
            have h3 := (hord.best q hq).1.2.2 b.toNat (by omega) (by rw [e2, show ((b.toNat : Nat) : Int) = b by omega, hpc]; exact e)
            rw [show ((b.toNat : Nat) : Int) = b by omega] at h3
            exact hbn (List.mem_of_mem_take h3)
          constructor
          · rintro (⟨⟨_, _, h⟩, _⟩ | ⟨_, h⟩)
            · omega
            · exact ⟨by omega, ⟨hxo, hbpar x e⟩, h⟩
          · rintro ⟨_, _, h⟩; exact .inr ⟨e, h⟩
        · rw [if_neg e] at hko
          constructor
          · rintro (⟨⟨h1, h2, h3⟩, h4⟩ | ⟨h, _⟩)
            · exact ⟨h1, ⟨h2, h4⟩, by omega⟩
            · exact absurd h e
          · rintro ⟨h1, ⟨h2, h4⟩, h3⟩; exact .inl ⟨⟨h1, h2, by omega⟩, h4⟩
  · refine ⟨_, rfl, hord, fun i hi => ?_⟩
    refine Classical.byContradiction fun hn => ?_
    obtain ⟨j, hj⟩ := some_ready ht hi hn
    have := (hrm j).2 hj
    have h0 : s.t_10 = [] := List.eq_nil_of_length_eq_zero (by omega)
    rw [h0] at this
    simp at this
end Go.Proofs.Ytilodamhgepjoaa
