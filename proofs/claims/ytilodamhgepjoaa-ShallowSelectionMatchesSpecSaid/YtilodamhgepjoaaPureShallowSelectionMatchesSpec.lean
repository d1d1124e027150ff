/- ShallowSelectionMatchesSpec, the plain part. -/
import Derived.Test.YtilodamhgepjoaaPu11
import Derived.Test.YtilodamhgepjoaaPureShallowBoundaryDecides
namespace Go.Proofs.Ytilodamhgepjoaa.Pure
open Go.Fx Go.RowKit
set_option linter.unusedVariables false
set_option linter.unusedSimpArgs false
theorem ShallowSelectionMatchesSpec {l : List Commit} {ns : List Int} {by_ : Int} (hl : okL ok_Commit l) (hn : okL (okI .i64) ns) (hb : okI .i64 by_) : law4_ShallowSelectionMatchesSpec.f l ns by_ = some true := by
  refine retOf_of ?_
  unfold law4_ShallowSelectionMatchesSpec.body
  by_cases h : sFault l ns = ⟨0, 0⟩
  · have hS := sel_of h
    have h1 := hS.len
    have h2 := hS.hist.len
    have fB : shallow_Boundary.f l ns = some (bnd l ns, ⟨0, 0⟩) := by rw [Boundary_eq l ns hn.1, h]; rfl
    have fX : shallow_Extract.f l ns = some (ns.map (exc l ns), ⟨0, 0⟩) := by rw [Extract_eq l ns hn.1, h]; rfl
    have fS : ref4_SelectionFault.f l ns = some ⟨0, 0⟩ := by rw [SelectionFault_eq l ns hn.1, h]
    have hbl : (bnd l ns).length ≤ 60 := Nat.le_trans (List.length_filter_le _ _) (by omega)
    have iB : ref3_Ints.f (bnd l ns) (bnd l ns) = some true := by rw [Ints_eq _ _ (by omega)]; simp
    have iX : ref3_Commits.f (ns.map (exc l ns)) (ns.map (exc l ns)) = some true := by
      refine Commits_refl _ (by rw [List.length_map]; omega) fun c hc => ?_
      obtain ⟨n, hn', rfl⟩ := List.mem_map.1 hc
      have hin := hS.inr n hn'
      obtain ⟨c, _, hcl, _⟩ := idx_par hin.1 hin.2
      rw [exc_xpar hcl]
      have := hS.hist.pars c (List.mem_of_getElem? hcl)
      have := xpar_len (ns := ns) (ps := c.Parents)
      show (xpar ns c.Parents).length ≤ 60
      omega
    by_cases hr : by_ < 0 ∨ 60 < by_
    · have fD : shallow_Deepen.f l ns by_ = some ([], ⟨3, -2⟩) := by rw [Deepen_eq l ns by_ hn.1, h, if_neg (by simp), if_pos hr]
      simp only [W_seq, W_block, W_reg, W_cond, W_skip, W_ext, W_ret, opt_some, opt_bind, opt_ite, thenQ_nrm, thenQ_ext, thenQ_ret, blkQ_nrm, blkQ_ext, blkQ_ret, if_true, true_and, and_true, decide_eq_true_eq, decide_eq_false_iff_not, Bool.or_eq_true, Bool.and_eq_true, Bool.or_eq_false_iff, Bool.and_eq_false_iff, Bool.true_eq_false, not_or, Classical.not_not, Bool.not_eq_true', Bool.not_eq_false', Int.not_lt, Int.not_le, Bool.false_eq_true, false_implies, true_implies, and_self, not_true_eq_false, not_false_eq_true, law4_ShallowSelectionMatchesSpec.retv, law4_ShallowSelectionMatchesSpec.r0, law4_ShallowSelectionMatchesSpec.r1, law4_ShallowSelectionMatchesSpec.r2, law4_ShallowSelectionMatchesSpec.r3, law4_ShallowSelectionMatchesSpec.r4, law4_ShallowSelectionMatchesSpec.r5, law4_ShallowSelectionMatchesSpec.r6, law4_ShallowSelectionMatchesSpec.r7, law4_ShallowSelectionMatchesSpec.r8, law4_ShallowSelectionMatchesSpec.r9, law4_ShallowSelectionMatchesSpec.r10, law4_ShallowSelectionMatchesSpec.r11, law4_ShallowSelectionMatchesSpec.r12, law4_ShallowSelectionMatchesSpec.r13, example_eq, fB, fX, fD, fS, BoundaryOf_eq l ns hS, ExtractOf_eq l ns hS, iB, iX, In_eq, Fault_eq, not_true_eq_false, or_self, Bool.not_true]
      simp
      intros; omega
    · have fD : shallow_Deepen.f l ns by_ = some (sel l ns by_ 0, ⟨0, 0⟩) := by rw [Deepen_eq l ns by_ hn.1, h, if_neg (by simp), if_neg hr]
      have hsl := sel_len (l := l) (fr := ns) (steps := by_) (b := 0)
      have iS : ref3_Ints.f (sel l ns by_ 0) (sel l ns by_ 0) = some true := by rw [Ints_eq _ _ (by omega)]; simp
      simp only [W_seq, W_block, W_reg, W_cond, W_skip, W_ext, W_ret, opt_some, opt_bind, opt_ite, thenQ_nrm, thenQ_ext, thenQ_ret, blkQ_nrm, blkQ_ext, blkQ_ret, if_true, true_and, and_true, decide_eq_true_eq, decide_eq_false_iff_not, Bool.or_eq_true, Bool.and_eq_true, Bool.or_eq_false_iff, Bool.and_eq_false_iff, Bool.true_eq_false, not_or, Classical.not_not, Bool.not_eq_true', Bool.not_eq_false', Int.not_lt, Int.not_le, Bool.false_eq_true, false_implies, true_implies, and_self, not_true_eq_false, not_false_eq_true, law4_ShallowSelectionMatchesSpec.retv, law4_ShallowSelectionMatchesSpec.r0, law4_ShallowSelectionMatchesSpec.r1, law4_ShallowSelectionMatchesSpec.r2, law4_ShallowSelectionMatchesSpec.r3, law4_ShallowSelectionMatchesSpec.r4, law4_ShallowSelectionMatchesSpec.r5, law4_ShallowSelectionMatchesSpec.r6, law4_ShallowSelectionMatchesSpec.r7, law4_ShallowSelectionMatchesSpec.r8, law4_ShallowSelectionMatchesSpec.r9, law4_ShallowSelectionMatchesSpec.r10, law4_ShallowSelectionMatchesSpec.r11, law4_ShallowSelectionMatchesSpec.r12, law4_ShallowSelectionMatchesSpec.r13, example_eq, fB, fX, fD, fS, BoundaryOf_eq l ns hS, ExtractOf_eq l ns hS, iB, iX, In_eq, Fault_eq, Steps_eq l ns by_ hS.hist hS.inr (by omega) (by omega) (by omega), iS, not_true_eq_false, or_self, Bool.not_true]
      simp
      intros; omega
  · have hc := sFault_code h
    have fB : shallow_Boundary.f l ns = some ([], sFault l ns) := by rw [Boundary_eq l ns hn.1, if_pos h]
    have fD : shallow_Deepen.f l ns by_ = some ([], sFault l ns) := by rw [Deepen_eq l ns by_ hn.1, if_pos h]
    have fX : shallow_Extract.f l ns = some ([], sFault l ns) := by rw [Extract_eq l ns hn.1, if_pos h]
    simp only [W_seq, W_block, W_reg, W_cond, W_skip, W_ext, W_ret, opt_some, opt_bind, opt_ite, thenQ_nrm, thenQ_ext, thenQ_ret, blkQ_nrm, blkQ_ext, blkQ_ret, if_true, true_and, and_true, decide_eq_true_eq, decide_eq_false_iff_not, Bool.or_eq_true, Bool.and_eq_true, Bool.or_eq_false_iff, Bool.and_eq_false_iff, Bool.true_eq_false, not_or, Classical.not_not, Bool.not_eq_true', Bool.not_eq_false', Int.not_lt, Int.not_le, Bool.false_eq_true, false_implies, true_implies, and_self, not_true_eq_false, not_false_eq_true, law4_ShallowSelectionMatchesSpec.retv, law4_ShallowSelectionMatchesSpec.r0, law4_ShallowSelectionMatchesSpec.r1, law4_ShallowSelectionMatchesSpec.r2, law4_ShallowSelectionMatchesSpec.r3, law4_ShallowSelectionMatchesSpec.r4, law4_ShallowSelectionMatchesSpec.r5, law4_ShallowSelectionMatchesSpec.r6, law4_ShallowSelectionMatchesSpec.r7, law4_ShallowSelectionMatchesSpec.r8, law4_ShallowSelectionMatchesSpec.r9, law4_ShallowSelectionMatchesSpec.r10, law4_ShallowSelectionMatchesSpec.r11, law4_ShallowSelectionMatchesSpec.r12, law4_ShallowSelectionMatchesSpec.r13, example_eq, fB, fD, fX, SelectionFault_eq l ns hn.1]
    simp [hc, w64_id]
end Go.Proofs.Ytilodamhgepjoaa.Pure
