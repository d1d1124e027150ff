/- Negotiation: Missing, Run, the example. -/
import Derived.Test.YtilodamhgepjoaaPn6
namespace Go.Proofs.Ytilodamhgepjoaa
open Go.Fx
set_option linter.unusedVariables false
set_option linter.unusedSimpArgs false

theorem nFault_code {l : List Commit} {se re : List Bool} {ws : List Int} (h : nFault l se re ws ≠ ⟨0, 0⟩) : (nFault l se re ws).Code ≠ 0 := by
  unfold nFault at h ⊢
  split
  · rename_i hh; exact (hFault_cases l).resolve_left fun e => hh e.1
  rename_i h1; rw [if_neg h1] at h
  split
  · exact (by decide : (9 : Int) ≠ 0)
  rename_i h2; rw [if_neg h2] at h
  split
  · exact (by decide : (9 : Int) ≠ 0)
  rename_i h3; rw [if_neg h3] at h
  split
  · exact (by decide : (5 : Int) ≠ 0)
  rename_i h4; rw [if_neg h4] at h
  split
  · exact (by decide : (5 : Int) ≠ 0)
  rename_i h5; rw [if_neg h5] at h
  split
  · exact (by decide : (2 : Int) ≠ 0)
  rename_i h6; rw [if_neg h6] at h
  cases hf : (List.range ws.length).findSome? (wF l se ws) with
  | none => rw [hf] at h; exact absurd rfl h
  | some x =>
    obtain ⟨k, _, hk⟩ := List.exists_of_findSome?_eq_some hf
    unfold wF at hk
    simp only [Option.getD_some]
    split at hk
    · cases hk; exact (by decide : (6 : Int) ≠ 0)
    · cases hk
theorem Missing_bad {l : List Commit} {se re : List Bool} {ws : List Int} (h : nFault l se re ws ≠ ⟨0, 0⟩) : negotiate_Missing.f l se re ws = some ([], nFault l se re ws) := by
  refine retOf_of ?_
  unfold negotiate_Missing.body
  simp only [W_seq, W_block, W_reg, W_cond, W_skip, W_ext, W_ret, opt_some, opt_bind, opt_ite, thenQ_nrm, thenQ_ext, thenQ_ret, blkQ_nrm, blkQ_ext, blkQ_ret, if_true, true_and, and_true, decide_eq_true_eq, decide_eq_false_iff_not, Bool.or_eq_true, Bool.and_eq_true, Bool.or_eq_false_iff, Bool.and_eq_false_iff, Bool.true_eq_false, not_or, Classical.not_not, Bool.not_eq_true', Bool.not_eq_false', Int.not_lt, Int.not_le, Bool.false_eq_true, false_implies, true_implies, and_self, not_true_eq_false, not_false_eq_true, negotiate_Missing.retv, negotiate_Missing.r0, negotiate_Missing.r1, negotiate_Missing.r2, negotiate_Missing.r3, negotiate_Missing.r4, check_eq_n, h, not_false_eq_true]
theorem Missing_good {l : List Commit} {se re : List Bool} {ws : List Int} (h : nFault l se re ws = ⟨0, 0⟩) : negotiate_Missing.f l se re ws = some (lacks l ws re, ⟨0, 0⟩) := by
  have hn := nv_of h
  refine retOf_of ?_
  unfold negotiate_Missing.body
  simp only [W_seq, W_block, W_reg, W_cond, W_skip, W_ext, W_ret, opt_some, opt_bind, opt_ite, thenQ_nrm, thenQ_ext, thenQ_ret, blkQ_nrm, blkQ_ext, blkQ_ret, if_true, true_and, and_true, decide_eq_true_eq, decide_eq_false_iff_not, Bool.or_eq_true, Bool.and_eq_true, Bool.or_eq_false_iff, Bool.and_eq_false_iff, Bool.true_eq_false, not_or, Classical.not_not, Bool.not_eq_true', Bool.not_eq_false', Int.not_lt, Int.not_le, Bool.false_eq_true, false_implies, true_implies, and_self, not_true_eq_false, not_false_eq_true, negotiate_Missing.retv, negotiate_Missing.r0, negotiate_Missing.r1, negotiate_Missing.r2, negotiate_Missing.r3, negotiate_Missing.r4, check_eq_n, h, not_true_eq_false, missing_eq l hn.hf ws re hn.rel (fun w hw => (hn.win w hw).1) hn.wl]
theorem Run_bad {l : List Commit} {se re : List Bool} {ws : List Int} (h : nFault l se re ws ≠ ⟨0, 0⟩) : negotiate_Run.f l se re ws = some ([], [], nFault l se re ws) := by
  refine retOf_of ?_
  unfold negotiate_Run.body
  simp only [W_seq, W_block, W_reg, W_cond, W_skip, W_ext, W_ret, opt_some, opt_bind, opt_ite, thenQ_nrm, thenQ_ext, thenQ_ret, blkQ_nrm, blkQ_ext, blkQ_ret, if_true, true_and, and_true, decide_eq_true_eq, decide_eq_false_iff_not, Bool.or_eq_true, Bool.and_eq_true, Bool.or_eq_false_iff, Bool.and_eq_false_iff, Bool.true_eq_false, not_or, Classical.not_not, Bool.not_eq_true', Bool.not_eq_false', Int.not_lt, Int.not_le, Bool.false_eq_true, false_implies, true_implies, and_self, not_true_eq_false, not_false_eq_true, negotiate_Run.retv, negotiate_Run.r0, negotiate_Run.r1, negotiate_Run.r2, negotiate_Run.r3, negotiate_Run.r4, negotiate_Run.r5, negotiate_Run.r6, negotiate_Run.r7, negotiate_Run.r9, negotiate_Run.r10, negotiate_Run.r11, negotiate_Run.r12, negotiate_Run.r13, negotiate_Run.r14, negotiate_Run.r15, negotiate_Run.r16, negotiate_Run.r17, negotiate_Run.r18, negotiate_Run.r19, negotiate_Run.r20, negotiate_Run.r21, negotiate_Run.r22, negotiate_Run.r23, negotiate_Run.r24, negotiate_Run.r25, negotiate_Run.r8, check_eq_n, h, not_false_eq_true]
theorem Run_good {l : List Commit} {se re : List Bool} {ws : List Int} (h : nFault l se re ws = ⟨0, 0⟩) : ∃ O rs, negotiate_Run.f l se re ws = some (rs, lacks l ws re, ⟨0, 0⟩) ∧ IsRun l se re O rs ∧ batchOf l se re O (told rs) rs.length = [] ∧ rs.length ≤ l.length ∧ IsOrd l O ∧ (∀ i : Nat, i < l.length → (i : Int) ∈ O) := by
  have hn := nv_of h
  obtain ⟨O, hO, hord, hall⟩ := Order_ex l hn.hf
  obtain ⟨rs, h1, h2, h3, h4⟩ := Run_ex l se re ws hn O hO hord hall
  exact ⟨O, rs, h1, h2, h3, h4, hord, hall⟩
theorem only_one {xs : List Int} {a : Int} (hn : xs.Nodup) (hm : a ∈ xs) (h : ∀ x ∈ xs, x = a) : xs = [a] := by
  match xs, hm with
  | [x], _ => rw [h x (by simp)]
  | x :: y :: t, _ =>
    have h1 := h x (by simp)
    have h2 := h y (by simp)
    rw [h1, h2] at hn
    simp at hn
theorem nego_example_eq : law4_negotiateExample.f = some true := by
  refine retOf_of ?_
  unfold law4_negotiateExample.body
  have hN : nFault [ch 0, ch 1, ch 2] [true, true, true] [true, false, false] [2] = ⟨0, 0⟩ := by decide
  have hL : lacks [ch 0, ch 1, ch 2] [2] [true, false, false] = [1, 2] := by
    refine inc_ext selP_inc (by decide) fun n => ?_
    unfold lacks
    rw [selP_mem]
    have a1 : Anc [ch 0, ch 1, ch 2] 2 1 := .step (c := ch 2) (p := 1) rfl (by decide) (.refl _)
    constructor
    · rintro ⟨i, rfl, hi, hb⟩
      rw [lackB_iff] at hb
      have hi : i < 3 := hi
      have : i = 0 ∨ i = 1 ∨ i = 2 := by omega
      rcases this with rfl | rfl | rfl
      · exact absurd hb.2 (by decide)
      · decide
      · decide
    · intro hn
      rcases List.mem_cons.1 hn with rfl | hn
      · exact ⟨1, rfl, by decide, lackB_iff.2 ⟨⟨2, by simp, a1⟩, by decide⟩⟩
      · rw [List.mem_singleton] at hn
        subst hn
        exact ⟨2, rfl, by decide, lackB_iff.2 ⟨⟨2, by simp, .refl _⟩, by decide⟩⟩
  obtain ⟨O, rs, hr, hrun, hend, _, hord, hall⟩ := Run_good hN
  have hinr := hord.inr
  have hre : ∀ x ∈ O, ([true, false, false] : List Bool).getD x.toNat false = true → x = 0 := fun x hx h => by
    have hx := hinr x hx
    have h3 : ([ch 0, ch 1, ch 2] : List Commit).length = 3 := rfl
    rw [h3] at hx
    have : x.toNat = 0 ∨ x.toNat = 1 ∨ x.toNat = 2 := by omega
    rcases this with e | e | e
    · omega
    · rw [e] at h; exact absurd h (by decide)
    · rw [e] at h; exact absurd h (by decide)
  have b0 : batchOf [ch 0, ch 1, ch 2] [true, true, true] [true, false, false] O (told ([] : List (List Int))) 0 = [0] := by
    unfold batchOf
    have : O.filter (fun n => @decide (open_ [ch 0, ch 1, ch 2] [true, true, true] [true, false, false] (told []) n) (Classical.propDecidable _)) = [0] := by
      refine only_one (hord.nodup.filter _) (List.mem_filter.2 ⟨hall 0 (by decide), ?_⟩) fun x hx => ?_
      · refine @decide_eq_true _ (Classical.propDecidable _) ?_
        exact ⟨by decide, by simp [told], by simp [told]⟩
      · rw [List.mem_filter] at hx
        exact hre x hx.1 (@of_decide_eq_true _ (Classical.propDecidable _) hx.2).1
    rw [this]; rfl
  have b1 : batchOf [ch 0, ch 1, ch 2] [true, true, true] [true, false, false] O (told [[0]]) 1 = [] := by
    rw [List.eq_nil_iff_forall_not_mem]
    intro x hx
    obtain ⟨h1, h2⟩ := batch_sub hx
    have := hre x h1 h2.1
    subst this
    exact h2.2.1 (by decide)
  have hrs : rs = [[0]] := by
    refine hrun.uniq ⟨fun k hk => ?_⟩ hend b1
    have hk0 : k = 0 := by simp at hk; omega
    subst hk0
    exact ⟨b0.symm, by simp⟩
  subst hrs
  rw [hL] at hr
  have hM := Missing_good hN
  rw [hL] at hM
  have i1 : ref3_Ints.f [1, 2] [1, 2] = some true := by rw [Ints_eq _ _ (by decide)]; rfl
  have i2 : ref3_Ints.f [0] [0] = some true := by rw [Ints_eq _ _ (by decide)]; rfl
  have x0 : idx ([[0]] : List (List Int)) 0 = some [0] := rfl
  simp only [W_seq, W_block, W_reg, W_cond, W_skip, W_ext, W_ret, opt_some, opt_bind, opt_ite, thenQ_nrm, thenQ_ext, thenQ_ret, blkQ_nrm, blkQ_ext, blkQ_ret, if_true, true_and, and_true, decide_eq_true_eq, decide_eq_false_iff_not, Bool.or_eq_true, Bool.and_eq_true, Bool.or_eq_false_iff, Bool.and_eq_false_iff, Bool.true_eq_false, not_or, Classical.not_not, Bool.not_eq_true', Bool.not_eq_false', Int.not_lt, Int.not_le, Bool.false_eq_true, false_implies, true_implies, and_self, not_true_eq_false, not_false_eq_true, law4_negotiateExample.retv, law4_negotiateExample.r0, law4_negotiateExample.r1, law4_negotiateExample.r2, law4_negotiateExample.r3, law4_negotiateExample.r4, chain_eq, hM, hr, i1, i2, x0, List.length_cons, List.length_nil]
  simp
end Go.Proofs.Ytilodamhgepjoaa
