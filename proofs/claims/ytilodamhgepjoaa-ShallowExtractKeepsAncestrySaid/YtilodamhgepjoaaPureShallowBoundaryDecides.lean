/- ShallowBoundaryDecides, the plain part. -/
import Derived.Test.YtilodamhgepjoaaPu9
import Derived.Test.YtilodamhgepjoaaOp
namespace Go.Proofs.Ytilodamhgepjoaa.Pure
open Go.Fx Go.RowKit
set_option linter.unusedVariables false
set_option linter.unusedSimpArgs false
theorem sFault_code {l : List Commit} {ns : List Int} (h : sFault l ns ≠ ⟨0, 0⟩) : (sFault l ns).Code ≠ 0 := by
  unfold sFault at h ⊢
  split at h
  · rename_i hh
    rw [if_pos hh]
    cases hf : (List.range ns.length).findSome? (nF l.length ns) with
    | none => rw [hf] at h; exact absurd rfl h
    | some x =>
      obtain ⟨k, _, hk⟩ := List.exists_of_findSome?_eq_some hf
      unfold nF at hk
      simp only [Option.getD_some]
      split at hk
      · cases hk; exact (by decide : (6 : Int) ≠ 0)
      · split at hk
        · cases hk; exact (by decide : (5 : Int) ≠ 0)
        · cases hk
  · rename_i hh
    rw [if_neg hh]
    exact (hFault_cases l).resolve_left fun e => hh e.1
theorem bnd_nil {l : List Commit} {ns : List Int} (hS : Sel l ns) : bnd l ns = [] ↔ sel l ns 1 0 = ns := by
  have hmem : ∀ n : Int, n ∈ sel l ns 1 0 ↔ n ∈ ns ∨ ∃ m ∈ ns, n ∈ par l m := fun n => by
    rw [sel_mem]
    show 0 ≤ (1 : Int) ∧ (∃ i : Nat, n = i ∧ i < l.length ∧ win l ns 0 1 i) ↔ _
    constructor
    · rintro ⟨_, i, rfl, hi, hw⟩
      rcases win_one.1 hw with h | ⟨c, x, hx, hc, hp⟩
      · exact .inl h
      · exact .inr ⟨c, hc, by unfold par; rw [Int.toNat_natCast, hx]; exact hp⟩
    · rintro (h | ⟨m, hm, hp⟩)
      · have := hS.inr n h
        exact ⟨by omega, n.toNat, by omega, by omega, win_one.2 (.inl (by rw [show ((n.toNat : Nat) : Int) = n by omega]; exact h))⟩
      · have hin := hS.inr m hm
        obtain ⟨c, _, hcl, hpar⟩ := idx_par hin.1 hin.2
        rw [hpar] at hp
        have ht := hS.hist.topo m.toNat c hcl n hp
        exact ⟨by omega, n.toNat, by omega, by omega, win_one.2 (.inr ⟨m.toNat, c, hcl, by rw [show ((m.toNat : Nat) : Int) = m by omega]; exact hm, by rw [show ((n.toNat : Nat) : Int) = n by omega]; exact hp⟩)⟩
  have hb : bnd l ns = [] ↔ ∀ m ∈ ns, ∀ p ∈ par l m, p ∈ ns := by
    unfold bnd isCut
    rw [List.filter_eq_nil_iff]
    simp
  rw [hb]
  constructor
  · intro h
    refine inc_ext sel_inc hS.inc fun n => ?_
    rw [hmem]
    exact ⟨fun h2 => h2.elim id fun ⟨m, hm, hp⟩ => h m hm n hp, .inl⟩
  · intro h m hm p hp
    rw [← h, hmem]
    exact .inr ⟨m, hm, hp⟩
theorem ShallowBoundaryDecides {l : List Commit} {ns : List Int} (hl : okL ok_Commit l) (hn : okL (okI .i64) ns) : law4_ShallowBoundaryDecides.f l ns = some true := by
  refine retOf_of ?_
  unfold law4_ShallowBoundaryDecides.body
  by_cases h : sFault l ns = ⟨0, 0⟩
  · have hS := sel_of h
    have h1 := hS.len
    have h2 := hS.hist.len
    have h3 := sel_len (l := l) (fr := ns) (steps := 1) (b := 0)
    have fB : shallow_Boundary.f l ns = some (bnd l ns, ⟨0, 0⟩) := by rw [Boundary_eq l ns hn.1, h]; rfl
    have fD : shallow_Deepen.f l ns 1 = some (sel l ns 1 0, ⟨0, 0⟩) := by rw [Deepen_eq l ns 1 hn.1, h]; rfl
    simp only [W_seq, W_block, W_reg, W_cond, W_skip, W_ext, W_ret, opt_some, opt_bind, opt_ite, thenQ_nrm, thenQ_ext, thenQ_ret, blkQ_nrm, blkQ_ext, blkQ_ret, if_true, true_and, and_true, decide_eq_true_eq, decide_eq_false_iff_not, Bool.or_eq_true, Bool.and_eq_true, Bool.or_eq_false_iff, Bool.and_eq_false_iff, Bool.true_eq_false, not_or, Classical.not_not, Bool.not_eq_true', Bool.not_eq_false', Int.not_lt, Int.not_le, Bool.false_eq_true, false_implies, true_implies, and_self, not_true_eq_false, not_false_eq_true, law4_ShallowBoundaryDecides.retv, law4_ShallowBoundaryDecides.r0, law4_ShallowBoundaryDecides.r1, law4_ShallowBoundaryDecides.r2, law4_ShallowBoundaryDecides.r3, law4_ShallowBoundaryDecides.r4, law4_ShallowBoundaryDecides.r5, law4_ShallowBoundaryDecides.r6, law4_ShallowBoundaryDecides.r7, example_eq, fB, fD, Ints_eq (sel l ns 1 0) ns (by omega), not_true_eq_false, or_self, Bool.not_true]
    simp [bnd_nil hS]
  · have hc := sFault_code h
    have fB : shallow_Boundary.f l ns = some ([], sFault l ns) := by rw [Boundary_eq l ns hn.1, if_pos h]
    have fD : shallow_Deepen.f l ns 1 = some ([], sFault l ns) := by rw [Deepen_eq l ns 1 hn.1, if_pos h]
    simp only [W_seq, W_block, W_reg, W_cond, W_skip, W_ext, W_ret, opt_some, opt_bind, opt_ite, thenQ_nrm, thenQ_ext, thenQ_ret, blkQ_nrm, blkQ_ext, blkQ_ret, if_true, true_and, and_true, decide_eq_true_eq, decide_eq_false_iff_not, Bool.or_eq_true, Bool.and_eq_true, Bool.or_eq_false_iff, Bool.and_eq_false_iff, Bool.true_eq_false, not_or, Classical.not_not, Bool.not_eq_true', Bool.not_eq_false', Int.not_lt, Int.not_le, Bool.false_eq_true, false_implies, true_implies, and_self, not_true_eq_false, not_false_eq_true, law4_ShallowBoundaryDecides.retv, law4_ShallowBoundaryDecides.r0, law4_ShallowBoundaryDecides.r1, law4_ShallowBoundaryDecides.r2, law4_ShallowBoundaryDecides.r3, law4_ShallowBoundaryDecides.r4, law4_ShallowBoundaryDecides.r5, law4_ShallowBoundaryDecides.r6, law4_ShallowBoundaryDecides.r7, example_eq, fB, fD]
    simp [hc, w64_id]
end Go.Proofs.Ytilodamhgepjoaa.Pure
