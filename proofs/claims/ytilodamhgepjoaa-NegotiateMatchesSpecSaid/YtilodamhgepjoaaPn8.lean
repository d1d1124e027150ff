/- The reference's order and rounds. -/
import Derived.Test.YtilodamhgepjoaaPn7
namespace Go.Proofs.Ytilodamhgepjoaa
open Go.Fx
set_option linter.unusedVariables false
set_option linter.unusedSimpArgs false

theorem ord_count {l : List Commit} {O : List Int} (h : IsOrd l O) : O.length + cntP (fun i => !decide ((i : Int) ∈ O)) l.length = l.length := by
  have key : ∀ k, k ≤ O.length → k + cntP (fun i => !decide ((i : Int) ∈ O.take k)) l.length = l.length := by
    intro k
    induction k with
    | zero =>
      intro _
      have : ∀ n, cntP (fun i => !decide ((i : Int) ∈ O.take 0)) n = n := fun n => by
        induction n with
        | zero => rfl
        | succ n ih => rw [cntP_succ, ih]; simp
      rw [this]; omega
    | succ k ih =>
      intro hk
      have h1 := ih (by omega)
      have hb := (h.best k (by omega)).1
      have h2 := left_out hb.1.1 hb.1.2 hb.2.1
      have e : O.take (k + 1) = O.take k ++ [O[k]] := by rw [List.take_add_one, List.getElem?_eq_getElem (by omega : k < O.length)]; rfl
      rw [← e] at h2
      omega
  have := key O.length (Nat.le_refl _)
  rwa [List.take_length] at this
theorem ord_full {l : List Commit} {O : List Int} (h : IsOrd l O) (hall : ∀ i : Nat, i < l.length → (i : Int) ∈ O) : O.length = l.length := by
  have h1 := ord_count h
  have h2 : cntP (fun i => !decide ((i : Int) ∈ O)) l.length = 0 := cntP_zero.2 fun i hi => by simpa using hall i hi
  omega
theorem not_gt_self {l : List Commit} {a : Int} : ¬ gt l a a := by unfold gt; omega
theorem OrderOf_ex (l : List Commit) (hH : Hist l) : ∃ out, ref3_OrderOf.f l = some out ∧ IsOrd l out ∧ out.length = l.length := by
  have hl60 := hH.len
  have ht := hH.topo
  suffices main : W ref3_OrderOf.body (fun o => ∃ out, o = .ret out ∧ IsOrd l out ∧ out.length = l.length) _ by
    obtain ⟨o, h1, r, rfl, h2⟩ := main
    exact ⟨r, by unfold ref3_OrderOf.f; rw [h1]; rfl, h2⟩
  unfold ref3_OrderOf.body
  simp only [W_seq, W_block, W_reg, W_cond, W_skip, W_ext, W_ret, opt_some, opt_bind, opt_ite, thenQ_nrm, thenQ_ext, thenQ_ret, blkQ_nrm, blkQ_ext, blkQ_ret, if_true, true_and, and_true, decide_eq_true_eq, decide_eq_false_iff_not, Bool.or_eq_true, Bool.and_eq_true, Bool.or_eq_false_iff, Bool.and_eq_false_iff, Bool.true_eq_false, not_or, Classical.not_not, Bool.not_eq_true', Bool.not_eq_false', Int.not_lt, Int.not_le, Bool.false_eq_true, false_implies, true_implies, and_self, not_true_eq_false, not_false_eq_true, ref3_OrderOf.retv, ref3_OrderOf.r0, ref3_OrderOf.r1, ref3_OrderOf.r2, ref3_OrderOf.r3, ref3_OrderOf.r4, ref3_OrderOf.r5, ref3_OrderOf.r7, ref3_OrderOf.r8, ref3_OrderOf.r9, ref3_OrderOf.r11, ref3_OrderOf.r12, ref3_OrderOf.r10, ref3_OrderOf.r13, ref3_OrderOf.r14, ref3_OrderOf.r6, ref3_OrderOf.r15, ref3_OrderOf.r16]
  refine W_iter (fun s => s.t_0 = l ∧ IsOrd l s.t_3) (fun s => l.length - s.t_3.length) ⟨rfl, ⟨fun k hk => by simp at hk, by simp⟩⟩ ?_
  rintro s ⟨e0, hord⟩
  obtain ⟨out, ho⟩ : ∃ out, out = s.t_3 := ⟨_, rfl⟩
  rw [← ho] at hord
  have hol := hord.len
  have hcnt := ord_count hord
  simp only [W_seq, W_block, W_reg, W_cond, W_skip, W_ext, W_ret, opt_some, opt_bind, opt_ite, thenQ_nrm, thenQ_ext, thenQ_ret, blkQ_nrm, blkQ_ext, blkQ_ret, if_true, true_and, and_true, decide_eq_true_eq, decide_eq_false_iff_not, Bool.or_eq_true, Bool.and_eq_true, Bool.or_eq_false_iff, Bool.and_eq_false_iff, Bool.true_eq_false, not_or, Classical.not_not, Bool.not_eq_true', Bool.not_eq_false', Int.not_lt, Int.not_le, Bool.false_eq_true, false_implies, true_implies, and_self, not_true_eq_false, not_false_eq_true, ref3_OrderOf.retv, ref3_OrderOf.r0, ref3_OrderOf.r1, ref3_OrderOf.r2, ref3_OrderOf.r3, ref3_OrderOf.r4, ref3_OrderOf.r5, ref3_OrderOf.r7, ref3_OrderOf.r8, ref3_OrderOf.r9, ref3_OrderOf.r11, ref3_OrderOf.r12, ref3_OrderOf.r10, ref3_OrderOf.r13, ref3_OrderOf.r14, ref3_OrderOf.r6, ref3_OrderOf.r15, ref3_OrderOf.r16, e0, ← ho]
  refine ⟨fun hlt => ?_, fun hge => ⟨_, rfl, hord, by omega⟩⟩
  have hlt : out.length < l.length := by omega
  have hex : ∃ j, Ready l out j := by
    refine Classical.byContradiction fun hno => ?_
    have : cntP (fun i => !decide ((i : Int) ∈ out)) l.length = 0 := cntP_zero.2 fun i hi => by
      refine Classical.byContradiction fun hn => hno (some_ready ht hi ?_)
      intro hm
      exact hn (by simpa using hm)
    omega
  refine W_iter (fun s => s.t_0 = l ∧ s.t_3 = out ∧ ∃ i : Nat, s.t_5 = i ∧ i ≤ l.length ∧ ((s.t_4 = -1 ∧ ∀ j : Nat, j < i → ¬ Ready l out j) ∨ ∃ m : Nat, s.t_4 = m ∧ m < i ∧ Ready l out m ∧ ∀ j : Nat, j < i → Ready l out j → ¬ gt l j m)) (fun s => l.length - s.t_5.toNat)
    ⟨rfl, rfl, 0, rfl, by omega, .inl ⟨rfl, by omega⟩⟩ ?_
  rintro s ⟨e0, e3, i, e5, hi, hb⟩
  simp only [W_seq, W_block, W_reg, W_cond, W_skip, W_ext, W_ret, opt_some, opt_bind, opt_ite, thenQ_nrm, thenQ_ext, thenQ_ret, blkQ_nrm, blkQ_ext, blkQ_ret, if_true, true_and, and_true, decide_eq_true_eq, decide_eq_false_iff_not, Bool.or_eq_true, Bool.and_eq_true, Bool.or_eq_false_iff, Bool.and_eq_false_iff, Bool.true_eq_false, not_or, Classical.not_not, Bool.not_eq_true', Bool.not_eq_false', Int.not_lt, Int.not_le, Bool.false_eq_true, false_implies, true_implies, and_self, not_true_eq_false, not_false_eq_true, ref3_OrderOf.retv, ref3_OrderOf.r0, ref3_OrderOf.r1, ref3_OrderOf.r2, ref3_OrderOf.r3, ref3_OrderOf.r4, ref3_OrderOf.r5, ref3_OrderOf.r7, ref3_OrderOf.r8, ref3_OrderOf.r9, ref3_OrderOf.r11, ref3_OrderOf.r12, ref3_OrderOf.r10, ref3_OrderOf.r13, ref3_OrderOf.r14, ref3_OrderOf.r6, ref3_OrderOf.r15, ref3_OrderOf.r16, e0, e3, e5, Has_eq out _ (by omega)]
  refine ⟨fun hil => ?_, fun hil => ?_⟩
  · have hil : i < l.length := by omega
    refine W_iter (fun s2 => s2.t_0 = l ∧ s2.t_3 = out ∧ s2.t_5 = i ∧ s2.t_4 = s.t_4 ∧ ∃ k : Nat, s2.t_7 = k ∧ k ≤ l.length ∧ (s2.t_6 = true ↔ (i : Int) ∉ out ∧ ∀ c : Nat, c < k → (i : Int) ∈ par l c → (c : Int) ∈ out)) (fun s2 => l.length - s2.t_7.toNat)
      ⟨rfl, rfl, rfl, rfl, 0, rfl, by omega, by simp⟩ ?_
    rintro s2 ⟨e0, e3, e5, e4, k, e7, hk, e6⟩
    have hwi : w64 ((i : Int) + 1) = ((i + 1 : Nat) : Int) := w64_succ (by omega)
    simp only [W_seq, W_block, W_reg, W_cond, W_skip, W_ext, W_ret, opt_some, opt_bind, opt_ite, thenQ_nrm, thenQ_ext, thenQ_ret, blkQ_nrm, blkQ_ext, blkQ_ret, if_true, true_and, and_true, decide_eq_true_eq, decide_eq_false_iff_not, Bool.or_eq_true, Bool.and_eq_true, Bool.or_eq_false_iff, Bool.and_eq_false_iff, Bool.true_eq_false, not_or, Classical.not_not, Bool.not_eq_true', Bool.not_eq_false', Int.not_lt, Int.not_le, Bool.false_eq_true, false_implies, true_implies, and_self, not_true_eq_false, not_false_eq_true, ref3_OrderOf.retv, ref3_OrderOf.r0, ref3_OrderOf.r1, ref3_OrderOf.r2, ref3_OrderOf.r3, ref3_OrderOf.r4, ref3_OrderOf.r5, ref3_OrderOf.r7, ref3_OrderOf.r8, ref3_OrderOf.r9, ref3_OrderOf.r11, ref3_OrderOf.r12, ref3_OrderOf.r10, ref3_OrderOf.r13, ref3_OrderOf.r14, ref3_OrderOf.r6, ref3_OrderOf.r15, ref3_OrderOf.r16, e0, e3, e5, e4, e7, Has_eq out _ (by omega), hwi]
    refine ⟨fun hkl => ?_, fun hkl => ?_⟩
    · have hkl : k < l.length := by omega
      obtain ⟨c, hc⟩ : ∃ c, l[k]? = some c := ⟨l[k], List.getElem?_eq_getElem hkl⟩
      have hcI : idx l (k : Int) = some c := by rw [idx_nat' hkl, ← List.getElem?_eq_getElem hkl, hc]
      have hpl := hH.pars c (List.mem_of_getElem? hc)
      have hstep : (∀ c : Nat, c < k + 1 → (i : Int) ∈ par l c → (c : Int) ∈ out) ↔ (∀ c : Nat, c < k → (i : Int) ∈ par l c → (c : Int) ∈ out) ∧ ((i : Int) ∈ c.Parents → (k : Int) ∈ out) := by
        constructor
        · intro h; exact ⟨fun c hc => h c (by omega), fun h2 => h k (by omega) (by rw [par_of hc]; exact h2)⟩
        · rintro ⟨h1, h2⟩ c' hc' hp
          by_cases e : c' = k
          · subst e; rw [par_of hc] at hp; exact h2 hp
          · exact h1 c' (by omega) hp
      rw [w64_succ (by omega)]
      refine opt_of hcI (opt_of (Has_eq c.Parents _ (by omega)) ⟨fun h1 => ⟨fun h2 => ⟨⟨k + 1, rfl, by omega, ?_⟩, by omega⟩, fun h2 => ⟨⟨k + 1, rfl, by omega, ?_⟩, by omega⟩⟩, fun h1 => ?_⟩)
      · rw [hstep]
        have h1' : (i : Int) ∈ c.Parents := by simpa using h1
        have h2' : ¬ (k : Int) ∈ out := by simpa using h2
        constructor
        · intro h; simp at h
        · rintro ⟨_, _, h⟩; exact absurd (h h1') h2'
      · rw [hstep, e6]
        have h2' : (k : Int) ∈ out := by simpa using h2
        exact and_congr Iff.rfl ⟨fun h => ⟨h, fun _ => h2'⟩, fun h => h.1⟩
      · have h1' : ¬ (i : Int) ∈ c.Parents := by simpa using h1
        have hgo : s2.t_6 = true ↔ (i : Int) ∉ out ∧ ∀ c : Nat, c < k + 1 → (i : Int) ∈ par l c → (c : Int) ∈ out := by
          rw [hstep, e6]
          exact and_congr Iff.rfl ⟨fun h => ⟨h, fun h => absurd h h1'⟩, fun h => h.1⟩
        first
        | exact ⟨⟨k + 1, rfl, by omega, hgo⟩, by omega⟩
        | exact ⟨fun h => (by cases h), fun _ => ⟨⟨k + 1, rfl, by omega, hgo⟩, by omega⟩⟩
    · have hkl2 : k = l.length := by omega
      subst hkl2
      have hri : s2.t_6 = true ↔ Ready l out i := by
        rw [e6]; unfold Ready
        exact ⟨fun h => ⟨by omega, h⟩, fun h => h.2⟩
      obtain ⟨ci, hci, tci, _⟩ := time_of hH (a := (i : Int)) (by omega) (by omega)
      have hkeep : ((s.t_4 = -1 ∧ ∀ j : Nat, j < i → ¬ Ready l out j) ∨ ∃ m : Nat, s.t_4 = m ∧ m < i ∧ Ready l out m ∧ ∀ j : Nat, j < i → Ready l out j → ¬ gt l j m) → (¬ Ready l out i ∨ ∃ m : Nat, s.t_4 = m ∧ ¬ gt l i m) → ((s.t_4 = -1 ∧ ∀ j : Nat, j < i + 1 → ¬ Ready l out j) ∨ ∃ m : Nat, s.t_4 = m ∧ m < i + 1 ∧ Ready l out m ∧ ∀ j : Nat, j < i + 1 → Ready l out j → ¬ gt l j m) := by
        rintro (⟨h1, h2⟩ | ⟨m, h1, h2, h3, h4⟩) hx
        · refine .inl ⟨h1, fun j hj hr => ?_⟩
          by_cases e : j = i
          · subst e
            rcases hx with h | ⟨m, h, _⟩
            · exact h hr
            · omega
          · exact h2 j (by omega) hr
        · refine .inr ⟨m, h1, by omega, h3, fun j hj hr => ?_⟩
          by_cases e : j = i
          · subst e
            rcases hx with h | ⟨m', h, h5⟩
            · exact absurd hr h
            · have : m' = m := by omega
              exact this ▸ h5
          · exact h4 j (by omega) hr
      have hself : Ready l out i → (∀ j : Nat, j < i → Ready l out j → ¬ gt l j i) → ((((i : Int) = -1 ∧ ∀ j : Nat, j < i + 1 → ¬ Ready l out j)) ∨ ∃ m : Nat, (i : Int) = m ∧ m < i + 1 ∧ Ready l out m ∧ ∀ j : Nat, j < i + 1 → Ready l out j → ¬ gt l j m) := fun hr h => .inr ⟨i, rfl, by omega, hr, fun j hj hrj => by
        by_cases e : j = i
        · subst e; exact not_gt_self
        · exact h j (by omega) hrj⟩
      refine ⟨fun h6 => ⟨fun hneg => ?_, fun hneg => ?_⟩, fun h6 => ?_⟩
      · refine ⟨⟨i + 1, rfl, by omega, hself (hri.1 h6) fun j hj hr => ?_⟩, by omega⟩
        rcases hb with ⟨_, h2⟩ | ⟨m, h1, _⟩
        · exact absurd hr (h2 j hj)
        · omega
      · rcases hb with ⟨h1, _⟩ | ⟨m, h1, h2, h3, h4⟩
        · omega
        obtain ⟨cm, hcm, tcm, _⟩ := time_of hH (a := (m : Int)) (by omega) (by omega)
        rw [← h1] at hcm
        refine opt_of hci (opt_of hcm ⟨fun hle => ?_, fun hle => ?_⟩)
        · refine ⟨⟨i + 1, rfl, by omega, hself (hri.1 h6) fun j hj hr => ?_⟩, by omega⟩
          have := h4 j hj hr
          unfold gt at this ⊢
          rw [tci]; rw [tcm] at this
          omega
        · refine ⟨⟨i + 1, rfl, by omega, hkeep (.inr ⟨m, h1, h2, h3, h4⟩) (.inr ⟨m, h1, ?_⟩)⟩, by omega⟩
          unfold gt
          rw [tci, tcm]
          omega
      · have hnr : ¬ Ready l out i := fun h => by rw [hri.2 h] at h6; simp at h6
        first
        | exact ⟨⟨i + 1, rfl, by omega, hkeep hb (.inl hnr)⟩, by omega⟩
        | exact ⟨fun h => (by cases h), fun _ => ⟨⟨i + 1, rfl, by omega, hkeep hb (.inl hnr)⟩, by omega⟩⟩
  · have hil2 : i = l.length := by omega
    subst hil2
    rcases hb with ⟨_, h2⟩ | ⟨m, h1, h2, h3, h4⟩
    · obtain ⟨j, hj⟩ := hex
      have := h2 j.toNat (by have := hj.1; omega)
      rw [show ((j.toNat : Nat) : Int) = j by have := hj.1; omega] at this
      exact absurd hj this
    · have hbest : Best l out s.t_4 := by
        rw [h1]
        refine ⟨h3, fun j hj => ?_⟩
        have hjr := hj.1
        have := h4 j.toNat (by omega)
        rw [show ((j.toNat : Nat) : Int) = j by omega] at this
        exact this hj
      refine opt_of (appL_of (by simp only [List.length_cons, List.length_nil]; omega)) ⟨hord.snoc hbest hlt, by simp; omega⟩
end Go.Proofs.Ytilodamhgepjoaa
