/- The negotiation itself. -/
import Derived.Test.YtilodamhgepjoaaPn5
import Derived.Test.YtilodamhgepjoaaPA
namespace Go.Proofs.Ytilodamhgepjoaa
open Go.Fx
set_option linter.unusedVariables false
set_option linter.unusedSimpArgs false

/-- Valid arguments. -/
structure NV (l : List Commit) (se re : List Bool) (ws : List Int) : Prop where
  hf : hFault l = ⟨0, 0⟩
  sel : se.length = l.length
  rel : re.length = l.length
  scl : ∀ i, i < l.length → clB l se i = false
  rcl : ∀ i, i < l.length → clB l re i = false
  wl : ws.length ≤ 60
  win : ∀ w ∈ ws, (0 ≤ w ∧ w < l.length) ∧ se.getD w.toNat false = true
theorem nv_of {l : List Commit} {se re : List Bool} {ws : List Int} (h : nFault l se re ws = ⟨0, 0⟩) : NV l se re ws := by
  unfold nFault at h
  split at h
  · rename_i hh; exact absurd h hh
  rename_i h1; split at h
  · simp at h
  rename_i h2; split at h
  · simp at h
  rename_i h3; split at h
  · simp at h
  rename_i h4; split at h
  · simp at h
  rename_i h5; split at h
  · simp at h
  rename_i h6
  have hno : ∀ i, i < ws.length → wF l se ws i = none := by
    cases hf : (List.range ws.length).findSome? (wF l se ws) with
    | some x =>
      rw [hf] at h
      obtain ⟨k, _, hk⟩ := List.exists_of_findSome?_eq_some hf
      unfold wF at hk
      simp only [Option.getD_some] at h
      subst h
      split at hk
      · simp at hk
      · cases hk
    | none => rw [List.findSome?_eq_none_iff] at hf; exact fun i hi => hf i (List.mem_range.2 hi)
  refine ⟨Classical.not_not.1 h1, Classical.not_not.1 h2, Classical.not_not.1 h3, ?_, ?_, by omega, fun w hw => ?_⟩
  · rcases clI_cases l se with ⟨i, e, _⟩ | ⟨_, h⟩
    · omega
    · exact h
  · rcases clI_cases l re with ⟨i, e, _⟩ | ⟨_, h⟩
    · omega
    · exact h
  · obtain ⟨i, hi, e⟩ := List.getElem_of_mem hw
    have := hno i hi
    unfold wF at this
    split at this
    · cases this
    · rename_i hn
      have hg : ws.getD i 0 = ws[i] := by simp [List.getD, hi]
      rw [hg, e] at hn
      rw [not_or, not_or] at hn
      exact ⟨by omega, by simpa using hn.2.2⟩
theorem closed_anc {l : List Commit} {b : List Bool} (hc : ∀ i, i < l.length → clB l b i = false) {i k : Nat} (h : Anc l i k) (hb : b.getD i false = true) : b.getD k false = true := by
  induction h with
  | refl => exact hb
  | @step i k p c hx hp _ ih =>
    refine ih ?_
    have hi := (List.getElem?_eq_some_iff.1 hx).1
    have := hc i hi
    unfold clB at this
    rw [hb, Bool.true_and, par_of hx] at this
    have h2 := List.any_eq_false.1 this _ hp
    simpa using h2

def sizeR (k : Nat) : Nat := if k < 4 then 2 ^ k else 16
def told (rs : List (List Int)) : List Int := rs.flatten
def open_ (l : List Commit) (se re : List Bool) (td : List Int) (n : Int) : Prop := re.getD n.toNat false = true ∧ n ∉ td ∧ ¬ ∃ m ∈ td, se.getD m.toNat false = true ∧ Anc l m.toNat n.toNat
open Classical in
noncomputable def batchOf (l : List Commit) (se re : List Bool) (O td : List Int) (k : Nat) : List Int := (O.filter fun n => decide (open_ l se re td n)).take (sizeR k)
structure IsRun (l : List Commit) (se re : List Bool) (O : List Int) (rs : List (List Int)) : Prop where
  each : ∀ (k : Nat) (h : k < rs.length), rs[k] = batchOf l se re O (told (rs.take k)) k ∧ rs[k] ≠ []
theorem IsRun.take_eq {l : List Commit} {se re : List Bool} {O : List Int} {a b : List (List Int)} (ha : IsRun l se re O a) (hb : IsRun l se re O b) : ∀ k, k ≤ a.length → k ≤ b.length → a.take k = b.take k := by
  intro k
  induction k with
  | zero => intro _ _; simp
  | succ k ih =>
    intro h1 h2
    have h := ih (by omega) (by omega)
    have ha1 := (ha.each k (by omega)).1
    have hb1 := (hb.each k (by omega)).1
    rw [h] at ha1
    rw [List.take_add_one, List.take_add_one, h, List.getElem?_eq_getElem (by omega : k < a.length), List.getElem?_eq_getElem (by omega : k < b.length), ha1, hb1]
theorem IsRun.uniq {l : List Commit} {se re : List Bool} {O : List Int} {a b : List (List Int)} (ha : IsRun l se re O a) (hb : IsRun l se re O b) (ea : batchOf l se re O (told a) a.length = []) (eb : batchOf l se re O (told b) b.length = []) : a = b := by
  rcases Nat.lt_trichotomy a.length b.length with h | h | h
  · have e := ha.take_eq hb a.length (Nat.le_refl _) (by omega)
    rw [List.take_length] at e
    have := hb.each a.length h
    rw [← e, ea] at this
    exact absurd this.1 this.2
  · have e := ha.take_eq hb a.length (Nat.le_refl _) (by omega)
    rw [List.take_length, h, List.take_length] at e
    exact e
  · have e := ha.take_eq hb b.length (by omega) (Nat.le_refl _)
    rw [List.take_length] at e
    have := ha.each b.length h
    rw [e, eb] at this
    exact absurd this.1 this.2
theorem cntP_lt {P Q : Nat → Bool} {b : Nat} (hpq : ∀ i, Q i = true → P i = true) (hp : P b = true) (hq : Q b = false) : ∀ {n : Nat}, b < n → cntP Q n < cntP P n
  | n + 1, hb => by
    rw [cntP_succ, cntP_succ]
    have hle : ∀ n, cntP Q n ≤ cntP P n := fun n => by
      unfold cntP; exact List.countP_mono_left fun i _ h => hpq i h
    by_cases e : b = n
    · subst e
      rw [hp, hq, if_pos rfl, if_neg (by decide)]
      have := hle b; omega
    · have := cntP_lt hpq hp hq (n := n) (by omega)
      by_cases h : Q n = true
      · rw [if_pos h, if_pos (hpq n h)]; omega
      · rw [if_neg h]; omega
theorem take_snoc {α : Type} {xs : List α} {n : α} {m : Nat} : (xs ++ [n]).take m = if (xs.take m).length < m then xs.take m ++ [n] else xs.take m := by
  rw [List.length_take]
  by_cases h : xs.length < m
  · rw [if_pos (by omega), List.take_of_length_le (by simp; omega), List.take_of_length_le (by omega)]
  · rw [if_neg (by omega), List.take_append_of_le_length (by omega)]
theorem sizeR_next (k : Nat) : min (2 * (sizeR k : Int)) 16 = (sizeR (k + 1) : Int) ∧ (1 : Int) ≤ sizeR k ∧ (sizeR k : Int) ≤ 16 := by
  unfold sizeR
  by_cases h : k < 4
  · have : k = 0 ∨ k = 1 ∨ k = 2 ∨ k = 3 := by omega
    rcases this with rfl | rfl | rfl | rfl <;> decide
  · rw [if_neg h, if_neg (by omega)]; decide
theorem batch_sub {l : List Commit} {se re : List Bool} {O td : List Int} {k : Nat} {x : Int} (h : x ∈ batchOf l se re O td k) : x ∈ O ∧ open_ l se re td x := by
  unfold batchOf at h
  have := List.mem_of_mem_take h
  rw [List.mem_filter] at this
  exact ⟨this.1, by simpa using this.2⟩
theorem told_snoc {rs : List (List Int)} {b : List Int} : told (rs ++ [b]) = told rs ++ b := by unfold told; simp
theorem bool_iff_false {a b : Bool} (h : a = true ↔ b = true) : a = false ↔ b = false := by cases a <;> cases b <;> simp_all
theorem not_dec {x : Bool} {p : Prop} [Decidable p] (h : x = true ↔ p) : (!x) = !decide p := by
  by_cases hp : p
  · rw [h.2 hp, decide_eq_true hp]
  · rw [decide_eq_false hp]
    cases x with
    | false => rfl
    | true => exact absurd (h.1 rfl) hp
open Classical in
theorem Run_ex (l : List Commit) (se re : List Bool) (ws : List Int) (h : NV l se re ws) (O : List Int) (hO : history_Order.f l = some (O, ⟨0, 0⟩)) (hord : IsOrd l O) (hall : ∀ i : Nat, i < l.length → (i : Int) ∈ O) :
    ∃ rs, negotiate_Run.f l se re ws = some (rs, lacks l ws re, ⟨0, 0⟩) ∧ IsRun l se re O rs ∧ batchOf l se re O (told rs) rs.length = [] ∧ rs.length ≤ l.length := by
  have hH := hist_of h.hf
  have hl60 := hH.len
  have hOl := hord.len
  have hOr := hord.inr
  suffices main : W negotiate_Run.body (fun o => ∃ rs, o = .ret (rs, lacks l ws re, ⟨0, 0⟩) ∧ IsRun l se re O rs ∧ batchOf l se re O (told rs) rs.length = [] ∧ rs.length ≤ l.length) _ by
    obtain ⟨o, h1, r, rfl, h2⟩ := main
    exact ⟨r, by unfold negotiate_Run.f; rw [h1]; rfl, h2⟩
  unfold negotiate_Run.body
  have hmk : mkL 1 false (l.length : Int) = some (List.replicate l.length false) := by unfold mkL; rw [if_pos (by omega)]; simp
  have hck : negotiate_check.f l se re ws = some ⟨0, 0⟩ := by
    rw [check_eq_n]
    have hs : clI l se = -1 := clI_none h.scl
    have hr : clI l re = -1 := clI_none h.rcl
    unfold nFault
    rw [if_neg (by simpa using h.hf), if_neg (by simpa using h.sel), if_neg (by simpa using h.rel), hs, hr, if_neg (by omega), if_neg (by omega), if_neg (by have := h.wl; omega), fs_none]
    · rfl
    · intro i hi
      have hg : ws.getD i 0 = ws[i] := by simp [List.getD, hi]
      have hw := h.win _ (List.getElem_mem hi)
      unfold wF
      rw [hg, if_neg]
      rintro (h1 | h1 | h1)
      · omega
      · omega
      · rw [hw.2] at h1; cases h1
  have hrep : ∀ p, (List.replicate l.length false).getD p false = false := fun p => by
    by_cases hp : p < l.length <;> simp [List.getD, List.getElem?_replicate, hp]
  simp only [W_seq, W_block, W_reg, W_cond, W_skip, W_ext, W_ret, opt_some, opt_bind, opt_ite, thenQ_nrm, thenQ_ext, thenQ_ret, blkQ_nrm, blkQ_ext, blkQ_ret, if_true, true_and, and_true, decide_eq_true_eq, decide_eq_false_iff_not, Bool.or_eq_true, Bool.and_eq_true, Bool.or_eq_false_iff, Bool.and_eq_false_iff, Bool.true_eq_false, not_or, Classical.not_not, Bool.not_eq_true', Bool.not_eq_false', Int.not_lt, Int.not_le, Bool.false_eq_true, false_implies, true_implies, and_self, not_true_eq_false, not_false_eq_true, negotiate_Run.retv, negotiate_Run.r0, negotiate_Run.r1, negotiate_Run.r2, negotiate_Run.r3, negotiate_Run.r4, negotiate_Run.r5, negotiate_Run.r6, negotiate_Run.r7, negotiate_Run.r9, negotiate_Run.r10, negotiate_Run.r11, negotiate_Run.r12, negotiate_Run.r13, negotiate_Run.r14, negotiate_Run.r15, negotiate_Run.r16, negotiate_Run.r17, negotiate_Run.r18, negotiate_Run.r19, negotiate_Run.r20, negotiate_Run.r21, negotiate_Run.r22, negotiate_Run.r23, negotiate_Run.r24, negotiate_Run.r25, negotiate_Run.r8, hck, hO, not_true_eq_false, hmk]
  refine W_iter (fun s => s.t_0 = l ∧ s.t_1 = se ∧ s.t_2 = re ∧ s.t_3 = ws ∧ s.t_12 = O ∧ s.t_17 = (sizeR s.t_16.length : Int) ∧ IsRun l se re O s.t_16 ∧ s.t_14.length = l.length ∧ s.t_15.length = l.length ∧ (∀ i, i < l.length → (s.t_15.getD i false = true ↔ (i : Int) ∈ told s.t_16)) ∧ (∀ i, i < l.length → (s.t_14.getD i false = true ↔ ∃ m ∈ told s.t_16, se.getD m.toNat false = true ∧ Anc l m.toNat i)) ∧ (∀ m ∈ told s.t_16, (0 ≤ m ∧ m < l.length) ∧ re.getD m.toNat false = true) ∧ s.t_16.length + cntP (fun i => !(s.t_15.getD i false)) l.length ≤ l.length) (fun s => cntP (fun i => !(s.t_15.getD i false)) l.length)
    ⟨rfl, rfl, rfl, rfl, rfl, rfl, ⟨fun k hk => by simp at hk⟩, by simp, by simp, fun i hi => by simp only [hrep]; simp [told], fun i hi => by simp only [hrep]; simp [told], by simp [told], by have := cntP_le (P := fun i => !((List.replicate l.length false).getD i false)) (n := l.length); simpa using this⟩ ?_
  rintro s ⟨e0, e1, e2, e3, e12, e17, hrun, hcl, htl, htv, hcv, hin, hcnt⟩
  obtain ⟨rs, hrs⟩ : ∃ rs, rs = s.t_16 := ⟨_, rfl⟩
  obtain ⟨tv, htve⟩ : ∃ tv, tv = s.t_15 := ⟨_, rfl⟩
  obtain ⟨cv, hcve⟩ : ∃ cv, cv = s.t_14 := ⟨_, rfl⟩
  simp only [← hrs, ← htve, ← hcve] at e17 hrun hcl htl htv hcv hin hcnt
  obtain ⟨hs1, hs2, hs3⟩ := sizeR_next rs.length
  simp only [W_seq, W_block, W_reg, W_cond, W_skip, W_ext, W_ret, opt_some, opt_bind, opt_ite, thenQ_nrm, thenQ_ext, thenQ_ret, blkQ_nrm, blkQ_ext, blkQ_ret, if_true, true_and, and_true, decide_eq_true_eq, decide_eq_false_iff_not, Bool.or_eq_true, Bool.and_eq_true, Bool.or_eq_false_iff, Bool.and_eq_false_iff, Bool.true_eq_false, not_or, Classical.not_not, Bool.not_eq_true', Bool.not_eq_false', Int.not_lt, Int.not_le, Bool.false_eq_true, false_implies, true_implies, and_self, not_true_eq_false, not_false_eq_true, negotiate_Run.retv, negotiate_Run.r0, negotiate_Run.r1, negotiate_Run.r2, negotiate_Run.r3, negotiate_Run.r4, negotiate_Run.r5, negotiate_Run.r6, negotiate_Run.r7, negotiate_Run.r9, negotiate_Run.r10, negotiate_Run.r11, negotiate_Run.r12, negotiate_Run.r13, negotiate_Run.r14, negotiate_Run.r15, negotiate_Run.r16, negotiate_Run.r17, negotiate_Run.r18, negotiate_Run.r19, negotiate_Run.r20, negotiate_Run.r21, negotiate_Run.r22, negotiate_Run.r23, negotiate_Run.r24, negotiate_Run.r25, negotiate_Run.r8, e0, e1, e2, e3, e12, e17, ← hrs, ← htve, ← hcve]
  refine W_iter (fun s => s.t_0 = l ∧ s.t_1 = se ∧ s.t_2 = re ∧ s.t_3 = ws ∧ s.t_12 = O ∧ s.t_17 = (sizeR rs.length : Int) ∧ s.t_16 = rs ∧ s.t_14 = cv ∧ s.t_15 = tv ∧ s.t_46 = O ∧ s.t_47 = O.length ∧ ∃ i : Nat, s.t_48 = i ∧ i ≤ O.length ∧ s.t_18 = ((O.take i).filter fun n => decide (open_ l se re (told rs) n)).take (sizeR rs.length)) (fun s => O.length - s.t_48.toNat)
    ⟨rfl, rfl, rfl, rfl, rfl, rfl, rfl, rfl, rfl, rfl, rfl, 0, rfl, by omega, by simp⟩ ?_
  rintro s2 ⟨e0, e1, e2, e3, e12, e17, e16, e14, e15, e46, e47, i, e48, hi, e18⟩
  have hbl : (((O.take i).filter fun n => decide (open_ l se re (told rs) n)).take (sizeR rs.length)).length ≤ 60 := by
    rw [List.length_take]
    have := List.length_filter_le (fun n => decide (open_ l se re (told rs) n)) (O.take i)
    rw [List.length_take] at this
    omega
  simp only [W_seq, W_block, W_reg, W_cond, W_skip, W_ext, W_ret, opt_some, opt_bind, opt_ite, thenQ_nrm, thenQ_ext, thenQ_ret, blkQ_nrm, blkQ_ext, blkQ_ret, if_true, true_and, and_true, decide_eq_true_eq, decide_eq_false_iff_not, Bool.or_eq_true, Bool.and_eq_true, Bool.or_eq_false_iff, Bool.and_eq_false_iff, Bool.true_eq_false, not_or, Classical.not_not, Bool.not_eq_true', Bool.not_eq_false', Int.not_lt, Int.not_le, Bool.false_eq_true, false_implies, true_implies, and_self, not_true_eq_false, not_false_eq_true, negotiate_Run.retv, negotiate_Run.r0, negotiate_Run.r1, negotiate_Run.r2, negotiate_Run.r3, negotiate_Run.r4, negotiate_Run.r5, negotiate_Run.r6, negotiate_Run.r7, negotiate_Run.r9, negotiate_Run.r10, negotiate_Run.r11, negotiate_Run.r12, negotiate_Run.r13, negotiate_Run.r14, negotiate_Run.r15, negotiate_Run.r16, negotiate_Run.r17, negotiate_Run.r18, negotiate_Run.r19, negotiate_Run.r20, negotiate_Run.r21, negotiate_Run.r22, negotiate_Run.r23, negotiate_Run.r24, negotiate_Run.r25, negotiate_Run.r8, e0, e1, e2, e3, e12, e17, e16, e14, e15, e46, e47, e48, e18]
  refine ⟨fun hlt => ?_, fun hge => ?_⟩
  · have hlt : i < O.length := by omega
    have hn := hOr _ (List.getElem_mem hlt)
    have hq : open_ l se re (told rs) O[i] ↔ re.getD O[i].toNat false = true ∧ tv.getD O[i].toNat false = false ∧ cv.getD O[i].toNat false = false := by
      unfold open_
      have h1 := htv O[i].toNat (by omega)
      have h2 := hcv O[i].toNat (by omega)
      rw [show ((O[i].toNat : Nat) : Int) = O[i] by omega] at h1
      rw [← h1, ← h2]
      simp
    have hst : ((O.take (i + 1)).filter fun n => decide (open_ l se re (told rs) n)).take (sizeR rs.length) = if open_ l se re (told rs) O[i] ∧ (((O.take i).filter fun n => decide (open_ l se re (told rs) n)).take (sizeR rs.length)).length < sizeR rs.length then ((O.take i).filter fun n => decide (open_ l se re (told rs) n)).take (sizeR rs.length) ++ [O[i]] else ((O.take i).filter fun n => decide (open_ l se re (told rs) n)).take (sizeR rs.length) := by
      rw [take_filter hlt]
      by_cases ho : open_ l se re (told rs) O[i]
      · rw [if_pos (decide_eq_true ho), take_snoc]
        by_cases hb : (((O.take i).filter fun n => decide (open_ l se re (told rs) n)).take (sizeR rs.length)).length < sizeR rs.length
        · rw [if_pos hb, if_pos ⟨ho, hb⟩]
        · rw [if_neg hb, if_neg (fun h => hb h.2)]
      · rw [if_neg (by simpa using ho), if_neg (fun h => ho h.1), List.append_nil]
    have hre : idx re O[i] = some (re.getD O[i].toNat false) := idx_getDI hn.1 (by have := h.rel; omega)
    have htv' : idx tv O[i] = some (tv.getD O[i].toNat false) := idx_getDI hn.1 (by omega)
    have hcv' : idx cv O[i] = some (cv.getD O[i].toNat false) := idx_getDI hn.1 (by omega)
    have hwi : w64 ((i : Int) + 1) = ((i + 1 : Nat) : Int) := w64_succ (by omega)
    have hskip : ¬ open_ l se re (told rs) O[i] → ((O.take (i + 1)).filter fun n => decide (open_ l se re (told rs) n)).take (sizeR rs.length) = ((O.take i).filter fun n => decide (open_ l se re (told rs) n)).take (sizeR rs.length) := fun hn => by rw [hst, if_neg (fun h => hn h.1)]
    refine opt_of (idx_nat' hlt) (opt_of hre ?_)
    simp only [hwi]
    generalize hB : (((O.take i).filter fun n => decide (open_ l se re (told rs) n)).take (sizeR rs.length)) = B at hst hskip hbl ⊢
    cases hr1 : re.getD O[i].toNat false with
    | false =>
      have hno : ¬ open_ l se re (told rs) O[i] := fun ho => by rw [hq, hr1] at ho; cases ho.1
      simp only [Bool.false_eq_true, false_implies, not_false_eq_true, true_implies, true_and, false_and, opt_some, not_true_eq_false]
      exact fun _ => ⟨⟨i + 1, rfl, by omega, (hskip hno).symm⟩, by omega⟩
    | true =>
      simp only [true_implies, not_true_eq_false, false_implies, and_true]
      refine opt_of htv' ?_
      cases ht1 : tv.getD O[i].toNat false with
      | true =>
        have hno : ¬ open_ l se re (told rs) O[i] := fun ho => by rw [hq, ht1] at ho; cases ho.2.1
        simp only [Bool.not_true, Bool.false_eq_true, false_implies, not_false_eq_true, true_implies, true_and, false_and, opt_some, not_true_eq_false, Bool.true_eq_false]
        exact fun _ => ⟨⟨i + 1, rfl, by omega, (hskip hno).symm⟩, by omega⟩
      | false =>
        simp only [Bool.not_false, true_implies, not_true_eq_false, false_implies, and_true]
        refine opt_of hcv' ?_
        cases hc1 : cv.getD O[i].toNat false with
        | true =>
          have hno : ¬ open_ l se re (told rs) O[i] := fun ho => by rw [hq, hc1] at ho; cases ho.2.2
          simp only [Bool.not_true, Bool.false_eq_true, false_implies, not_false_eq_true, true_implies, true_and, false_and, opt_some, not_true_eq_false, Bool.true_eq_false]
          exact fun _ => ⟨⟨i + 1, rfl, by omega, (hskip hno).symm⟩, by omega⟩
        | false =>
          have hyes : open_ l se re (told rs) O[i] := hq.2 ⟨hr1, ht1, hc1⟩
          simp only [Bool.not_false, true_and, Bool.true_eq_false, Bool.false_eq_true, false_or]
          refine ⟨fun hb => opt_of (appL_of (by simp only [List.length_cons, List.length_nil]; omega)) ⟨⟨i + 1, rfl, by omega, ?_⟩, by omega⟩, fun hb => ⟨⟨i + 1, rfl, by omega, ?_⟩, by omega⟩⟩
          · rw [hst, if_pos ⟨hyes, by omega⟩]
          · rw [hst, if_neg (fun h => by omega)]
  · have hiO : i = O.length := by omega
    subst hiO
    rw [List.take_length] at hbl ⊢
    have hbe : ((O.filter fun n => decide (open_ l se re (told rs) n)).take (sizeR rs.length)) = batchOf l se re O (told rs) rs.length := rfl
    rw [hbe] at hbl ⊢
    generalize hB : batchOf l se re O (told rs) rs.length = B at hbl ⊢
    have hBs : ∀ x ∈ B, x ∈ O ∧ open_ l se re (told rs) x := fun x hx => batch_sub (hB ▸ hx)
    refine ⟨fun hz => ?_, fun hz => ?_⟩
    · have hBn : B = [] := List.eq_nil_of_length_eq_zero (by omega)
      have hlk : lacks l ws cv = lacks l ws re := by
        refine selP_congr fun i hi => ?_
        rw [lackB_iff, lackB_iff]
        refine and_congr_right fun ⟨w, hw, ha⟩ => ?_
        have hsi : se.getD i false = true := closed_anc h.scl ha (h.win w hw).2
        have hci := hcv i hi
        have key : cv.getD i false = true ↔ re.getD i false = true := by
          rw [hci]
          constructor
          · rintro ⟨m, hm, hms, hma⟩
            exact closed_anc h.rcl hma (hin m hm).2
          · intro hr
            refine Classical.byContradiction fun hno => ?_
            by_cases hti : (i : Int) ∈ told rs
            · exact hno ⟨i, hti, by simpa using hsi, by simpa using Anc.refl i⟩
            · have ho : open_ l se re (told rs) i := ⟨by simpa using hr, hti, by simpa using hno⟩
              have hmem : (i : Int) ∈ O.filter fun n => decide (open_ l se re (told rs) n) := List.mem_filter.2 ⟨hall i hi, decide_eq_true ho⟩
              have hne : O.filter (fun n => decide (open_ l se re (told rs) n)) ≠ [] := fun e => by rw [e] at hmem; cases hmem
              have : (batchOf l se re O (told rs) rs.length).length = 0 := by rw [hB, hBn]; rfl
              unfold batchOf at this
              rw [List.length_take] at this
              have hp := List.length_pos_iff.2 hne
              omega
        exact bool_iff_false key
      have hm := missing_eq l h.hf ws cv hcl (fun w hw => (h.win w hw).1) h.wl
      rw [hlk] at hm
      refine opt_of hm ⟨rs, rfl, hrun, by rw [hB, hBn], by omega⟩
    · have hBp : 0 < B.length := by omega
      have hBr : ∀ x ∈ B, 0 ≤ x ∧ x < l.length := fun x hx => hOr x (hBs x hx).1
      refine opt_of (appL_of (by simp only [List.length_cons, List.length_nil]; omega)) ?_
      refine W_iter (fun s => s.t_0 = l ∧ s.t_1 = se ∧ s.t_2 = re ∧ s.t_3 = ws ∧ s.t_12 = O ∧ s.t_17 = (sizeR rs.length : Int) ∧ s.t_16 = rs ++ [B] ∧ s.t_94 = B ∧ s.t_95 = B.length ∧ ∃ j : Nat, s.t_96 = j ∧ j ≤ B.length ∧ s.t_14.length = l.length ∧ s.t_15.length = l.length ∧ (∀ i, i < l.length → (s.t_15.getD i false = true ↔ (i : Int) ∈ told rs ∨ (i : Int) ∈ B.take j)) ∧ (∀ i, i < l.length → (s.t_14.getD i false = true ↔ (∃ m ∈ told rs, se.getD m.toNat false = true ∧ Anc l m.toNat i) ∨ ∃ m ∈ B.take j, se.getD m.toNat false = true ∧ Anc l m.toNat i))) (fun s => B.length - s.t_96.toNat)
        ⟨rfl, rfl, rfl, rfl, rfl, rfl, rfl, rfl, rfl, 0, rfl, by omega, hcl, htl, by simpa using htv, by simpa using hcv⟩ ?_
      rintro s3 ⟨e0, e1, e2, e3, e12, e17, e16, e94, e95, j, e96, hj, hcl3, htl3, htv3, hcv3⟩
      simp only [W_seq, W_block, W_reg, W_cond, W_skip, W_ext, W_ret, opt_some, opt_bind, opt_ite, thenQ_nrm, thenQ_ext, thenQ_ret, blkQ_nrm, blkQ_ext, blkQ_ret, if_true, true_and, and_true, decide_eq_true_eq, decide_eq_false_iff_not, Bool.or_eq_true, Bool.and_eq_true, Bool.or_eq_false_iff, Bool.and_eq_false_iff, Bool.true_eq_false, not_or, Classical.not_not, Bool.not_eq_true', Bool.not_eq_false', Int.not_lt, Int.not_le, Bool.false_eq_true, false_implies, true_implies, and_self, not_true_eq_false, not_false_eq_true, negotiate_Run.retv, negotiate_Run.r0, negotiate_Run.r1, negotiate_Run.r2, negotiate_Run.r3, negotiate_Run.r4, negotiate_Run.r5, negotiate_Run.r6, negotiate_Run.r7, negotiate_Run.r9, negotiate_Run.r10, negotiate_Run.r11, negotiate_Run.r12, negotiate_Run.r13, negotiate_Run.r14, negotiate_Run.r15, negotiate_Run.r16, negotiate_Run.r17, negotiate_Run.r18, negotiate_Run.r19, negotiate_Run.r20, negotiate_Run.r21, negotiate_Run.r22, negotiate_Run.r23, negotiate_Run.r24, negotiate_Run.r25, negotiate_Run.r8, e0, e1, e2, e3, e12, e17, e16, e94, e95, e96]
      refine ⟨fun hlt => ?_, fun hge => ?_⟩
      · have hlt : j < B.length := by omega
        have hn := hBr _ (List.getElem_mem hlt)
        have hmem : ∀ x : Int, (x ∈ B.take (j + 1)) ↔ (x ∈ B.take j ∨ x = B[j]) := fun x => by
          rw [List.take_add_one, List.getElem?_eq_getElem hlt]; simp only [Option.toList, List.mem_append, List.mem_singleton]
        have hse : idx se B[j] = some (se.getD B[j].toNat false) := idx_getDI hn.1 (by have := h.sel; omega)
        obtain ⟨r, hr, hrl, hrv⟩ := mark_ex l h.hf s3.t_14 hcl3 B[j].toNat (by omega)
        rw [show ((B[j].toNat : Nat) : Int) = B[j] by omega] at hr
        have htn : ∀ i, i < l.length → ((setL s3.t_15 B[j] true).getD i false = true ↔ (i : Int) ∈ told rs ∨ (i : Int) ∈ B.take (j + 1)) := fun i hi => by
          rw [getD_setI hn.1 (by omega), hmem]
          by_cases e : (i : Int) = B[j]
          · rw [if_pos e]; simp [e]
          · rw [if_neg e, htv3 i hi]; simp [e]
        have hex : ∀ i, (∃ m ∈ B.take (j + 1), se.getD m.toNat false = true ∧ Anc l m.toNat i) ↔ (∃ m ∈ B.take j, se.getD m.toNat false = true ∧ Anc l m.toNat i) ∨ (se.getD B[j].toNat false = true ∧ Anc l B[j].toNat i) := fun i => by
          constructor
          · rintro ⟨m, hm, h2⟩
            rcases (hmem m).1 hm with h3 | rfl
            · exact .inl ⟨m, h3, h2⟩
            · exact .inr h2
          · rintro (⟨m, hm, h2⟩ | h2)
            · exact ⟨m, (hmem m).2 (.inl hm), h2⟩
            · exact ⟨_, (hmem _).2 (.inr rfl), h2⟩
        have hwj : w64 ((j : Int) + 1) = ((j + 1 : Nat) : Int) := w64_succ (by omega)
        simp only [hwj]
        refine opt_of (idx_nat' hlt) (opt_of (idx_getDI (d := false) hn.1 (by omega)) (opt_of hse ⟨fun h1 => opt_of hr ⟨⟨j + 1, rfl, by omega, hrl, by rw [setL_len]; exact htl3, htn, fun i hi => ?_⟩, by omega⟩, fun h1 => ⟨⟨j + 1, rfl, by omega, hcl3, by rw [setL_len]; exact htl3, htn, fun i hi => ?_⟩, by omega⟩⟩))
        · rw [hrv i hi, hcv3 i hi, hex, or_assoc]
          exact or_congr Iff.rfl (or_congr Iff.rfl ⟨fun ha => ⟨h1, ha⟩, fun ha => ha.2⟩)
        · rw [hcv3 i hi, hex]
          refine or_congr Iff.rfl ⟨.inl, fun ha => ha.elim id fun ha => ?_⟩
          rw [ha.1] at h1; cases h1
      · have hjB : j = B.length := by omega
        subst hjB
        rw [List.take_length] at htv3 hcv3
        have hw2 : w64 (2 * (sizeR rs.length : Int)) = 2 * (sizeR rs.length : Int) := w64_id (by omega) (by omega)
        simp only [hw2, hs1]
        have hx0 := hBs _ (List.getElem_mem hBp)
        have hxr := hBr _ (List.getElem_mem hBp)
        have hlt : cntP (fun i => !(s3.t_15.getD i false)) l.length < cntP (fun i => !(tv.getD i false)) l.length := by
          have e1 : cntP (fun i => !(s3.t_15.getD i false)) l.length = cntP (fun i => !decide ((i : Int) ∈ told rs ∨ (i : Int) ∈ B)) l.length := cntP_congr fun i hi => by
            exact not_dec (htv3 i hi)
          have e2 : cntP (fun i => !(tv.getD i false)) l.length = cntP (fun i => !decide ((i : Int) ∈ told rs)) l.length := cntP_congr fun i hi => by
            exact not_dec (htv i hi)
          rw [e1, e2]
          refine cntP_lt (b := B[0].toNat) (fun i hi => by simp at hi ⊢; exact hi.1) ?_ ?_ (by omega)
          · rw [show ((B[0].toNat : Nat) : Int) = B[0] by omega]; simpa using hx0.2.2.1
          · rw [show ((B[0].toNat : Nat) : Int) = B[0] by omega]; simp
        refine ⟨⟨by simp, ⟨fun k hk => ?_⟩, hcl3, htl3, fun i hi => ?_, fun i hi => ?_, fun m hm => ?_, by rw [List.length_append, List.length_singleton]; omega⟩, hlt⟩
        · rw [List.length_append, List.length_singleton] at hk
          by_cases e : k = rs.length
          · subst e
            rw [List.take_left, List.getElem_append_right (Nat.le_refl _)]
            refine ⟨by simp [hB], fun e => ?_⟩
            simp at e
            rw [e] at hBp
            simp at hBp
          · rw [List.take_append_of_le_length (by omega), List.getElem_append_left (by omega)]
            exact hrun.each k (by omega)
        · rw [htv3 i hi, told_snoc, List.mem_append]
        · rw [hcv3 i hi, told_snoc]
          constructor
          · rintro (⟨m, hm, h2⟩ | ⟨m, hm, h2⟩)
            · exact ⟨m, List.mem_append.2 (.inl hm), h2⟩
            · exact ⟨m, List.mem_append.2 (.inr hm), h2⟩
          · rintro ⟨m, hm, h2⟩
            rcases List.mem_append.1 hm with h3 | h3
            · exact .inl ⟨m, h3, h2⟩
            · exact .inr ⟨m, h3, h2⟩
        · rw [told_snoc] at hm
          rcases List.mem_append.1 hm with h3 | h3
          · exact hin m h3
          · exact ⟨hBr m h3, (hBs m h3).2.1⟩
end Go.Proofs.Ytilodamhgepjoaa
