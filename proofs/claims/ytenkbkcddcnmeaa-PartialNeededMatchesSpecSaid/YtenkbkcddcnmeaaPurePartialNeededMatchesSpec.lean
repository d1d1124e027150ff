/- PartialNeededMatchesSpec, the plain part. -/
import Derived.Test.YtenkbkcddcnmeaaPp11
import Derived.Test.YtenkbkcddcnmeaaOp
namespace Go.Proofs.Ytenkbkcddcnmeaa.Pure
open Go.Fx Go.RowKit
set_option linter.unusedVariables false
set_option linter.unusedSimpArgs false
set_option maxRecDepth 20000
open Classical in
theorem PartialNeededMatchesSpec {s : ObjectStore} {pr roots : List Int} (h1 : ok_ObjectStore s) (h2 : okL (okI .i64) pr) (h3 : okL (okI .i64) roots) : law4_PartialNeededMatchesSpec.f s pr roots = some true := by
  have hpr : ∀ d ∈ pr, I64 d := fun d hd => okI64 (h2.2 d hd)
  have hro : ∀ d ∈ roots, I64 d := fun d hd => okI64 (h3.2 d hd)
  refine retOf_of ?_
  unfold law4_PartialNeededMatchesSpec.body
  rcases Classical.em (¬ (pFault s pr).Code = 0) with hS | hS
  · simp only [WL, law4_PartialNeededMatchesSpec.retv, law4_PartialNeededMatchesSpec.r0, law4_PartialNeededMatchesSpec.r1, law4_PartialNeededMatchesSpec.r2, law4_PartialNeededMatchesSpec.r3, law4_PartialNeededMatchesSpec.r4, law4_PartialNeededMatchesSpec.r5, law4_PartialNeededMatchesSpec.r6, law4_PartialNeededMatchesSpec.r7, law4_PartialNeededMatchesSpec.r8, law4_PartialNeededMatchesSpec.r9, law4_PartialNeededMatchesSpec.r10, law4_PartialNeededMatchesSpec.r11, law4_PartialNeededMatchesSpec.r12, law4_PartialNeededMatchesSpec.r13, law4_PartialNeededMatchesSpec.r14, law4_PartialNeededMatchesSpec.r15, example_eq, Needed_bad1 hpr hS, PromiseFault_eq, Fault_eq, Bool.not_true, List.length_nil]
    simp [hS]
  have hS := Classical.not_not.1 hS
  obtain ⟨l⟩ := s
  obtain ⟨hO, hP⟩ := pFault_ok.1 hS
  have hV := PromiseFault_eq ⟨l⟩ pr
  rw [pFault_eq0.2 ⟨hO, hP⟩] at hV
  rcases Classical.em (40 < roots.length) with hb | hb
  · simp only [WL, law4_PartialNeededMatchesSpec.retv, law4_PartialNeededMatchesSpec.r0, law4_PartialNeededMatchesSpec.r1, law4_PartialNeededMatchesSpec.r2, law4_PartialNeededMatchesSpec.r3, law4_PartialNeededMatchesSpec.r4, law4_PartialNeededMatchesSpec.r5, law4_PartialNeededMatchesSpec.r6, law4_PartialNeededMatchesSpec.r7, law4_PartialNeededMatchesSpec.r8, law4_PartialNeededMatchesSpec.r9, law4_PartialNeededMatchesSpec.r10, law4_PartialNeededMatchesSpec.r11, law4_PartialNeededMatchesSpec.r12, law4_PartialNeededMatchesSpec.r13, law4_PartialNeededMatchesSpec.r14, law4_PartialNeededMatchesSpec.r15, example_eq, Needed_bad2 hO hP hb, hV, Fault_eq, Bool.not_true, List.length_nil]
    simp
    omega
  have hN := Needed_eq hO hP (roots := roots) (by omega) hro
  have hR := NeededOf_eq hO hP (roots := roots) (by omega)
  have hI := Ints_eq (a := need l pr roots) (b := need l pr roots) (by have := hP.len; have : (need l pr roots).length ≤ pr.length := List.length_filter_le _ _; omega)
  have hb' : ¬ (40 : Int) < (roots.length : Int) := by omega
  have hc : ((([] : List Int).length : Int) = 0) = True := eq_true rfl
  rcases Classical.em (okN l pr roots) with hk | hk
  · rw [if_pos hk] at hN
    rw [decide_eq_true hk] at hR
    simp only [WL, law4_PartialNeededMatchesSpec.retv, law4_PartialNeededMatchesSpec.r0, law4_PartialNeededMatchesSpec.r1, law4_PartialNeededMatchesSpec.r2, law4_PartialNeededMatchesSpec.r3, law4_PartialNeededMatchesSpec.r4, law4_PartialNeededMatchesSpec.r5, law4_PartialNeededMatchesSpec.r6, law4_PartialNeededMatchesSpec.r7, law4_PartialNeededMatchesSpec.r8, law4_PartialNeededMatchesSpec.r9, law4_PartialNeededMatchesSpec.r10, law4_PartialNeededMatchesSpec.r11, law4_PartialNeededMatchesSpec.r12, law4_PartialNeededMatchesSpec.r13, law4_PartialNeededMatchesSpec.r14, law4_PartialNeededMatchesSpec.r15, example_eq, hN, hV, hR, hI, Fault_eq, Bool.not_true]
    exact ⟨fun e => absurd e hb', fun _ => congrArg Ctl.ret (decide_eq_true trivial)⟩
  · rw [if_neg hk] at hN
    rw [decide_eq_false hk] at hR
    simp only [WL, law4_PartialNeededMatchesSpec.retv, law4_PartialNeededMatchesSpec.r0, law4_PartialNeededMatchesSpec.r1, law4_PartialNeededMatchesSpec.r2, law4_PartialNeededMatchesSpec.r3, law4_PartialNeededMatchesSpec.r4, law4_PartialNeededMatchesSpec.r5, law4_PartialNeededMatchesSpec.r6, law4_PartialNeededMatchesSpec.r7, law4_PartialNeededMatchesSpec.r8, law4_PartialNeededMatchesSpec.r9, law4_PartialNeededMatchesSpec.r10, law4_PartialNeededMatchesSpec.r11, law4_PartialNeededMatchesSpec.r12, law4_PartialNeededMatchesSpec.r13, law4_PartialNeededMatchesSpec.r14, law4_PartialNeededMatchesSpec.r15, example_eq, hN, hV, hR, hI, Fault_eq, Bool.not_true, hc]
    exact ⟨fun e => absurd e hb', fun _ => ⟨fun _ => by rw [decide_true]; rfl, fun e => absurd e (by decide)⟩⟩
end Go.Proofs.Ytenkbkcddcnmeaa.Pure
