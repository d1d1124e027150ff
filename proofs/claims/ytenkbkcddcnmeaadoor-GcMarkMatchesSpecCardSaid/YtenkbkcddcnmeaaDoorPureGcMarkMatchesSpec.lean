/- GcMarkMatchesSpec, the plain part. -/
import Derived.Test.YtenkbkcddcnmeaaDoorPp5
import Derived.Test.YtenkbkcddcnmeaaDoorOp
namespace Go.Proofs.YtenkbkcddcnmeaaDoor.Pure
open Go.Fx Go.RowKit
set_option linter.unusedVariables false
set_option linter.unusedSimpArgs false
set_option maxRecDepth 20000
open Classical in
theorem GcMarkMatchesSpec {s : ObjectStore} {roots : List Int} (h1 : ok_ObjectStore s) (h2 : okL (okI .i64) roots) : law4_GcMarkMatchesSpec.f s roots = some true := by
  refine retOf_of ?_
  unfold law4_GcMarkMatchesSpec.body
  rcases Classical.em (¬ (sFault s).Code = 0) with hS | hS
  · simp only [WL, law4_GcMarkMatchesSpec.retv, law4_GcMarkMatchesSpec.r0, law4_GcMarkMatchesSpec.r1, law4_GcMarkMatchesSpec.r2, law4_GcMarkMatchesSpec.r3, law4_GcMarkMatchesSpec.r4, law4_GcMarkMatchesSpec.r5, law4_GcMarkMatchesSpec.r6, law4_GcMarkMatchesSpec.r7, law4_GcMarkMatchesSpec.r8, law4_GcMarkMatchesSpec.r9, law4_GcMarkMatchesSpec.r10, law4_GcMarkMatchesSpec.r11, law4_GcMarkMatchesSpec.r12, gcex_eq, Mark_bad1 hS, Missing_bad hS, StoreFault_eq, Fault_eq, Bool.not_true, List.length_nil, w64_00]
    simp [hS]
    decide
  have hS := Classical.not_not.1 hS
  obtain ⟨l⟩ := s
  have hO : OkS l := sFault_ok.1 hS
  have hll := hO.len
  have hV := StoreFault_eq ⟨l⟩
  rw [sFault_eq0.2 hO] at hV
  obtain ⟨m, hm, hm', hml, _⟩ := Missing_eq hO
  have hI := Ints_eq (a := m) (b := m) (by omega)
  rcases Classical.em (50 < roots.length) with hb | hb
  · simp only [WL, law4_GcMarkMatchesSpec.retv, law4_GcMarkMatchesSpec.r0, law4_GcMarkMatchesSpec.r1, law4_GcMarkMatchesSpec.r2, law4_GcMarkMatchesSpec.r3, law4_GcMarkMatchesSpec.r4, law4_GcMarkMatchesSpec.r5, law4_GcMarkMatchesSpec.r6, law4_GcMarkMatchesSpec.r7, law4_GcMarkMatchesSpec.r8, law4_GcMarkMatchesSpec.r9, law4_GcMarkMatchesSpec.r10, law4_GcMarkMatchesSpec.r11, law4_GcMarkMatchesSpec.r12, gcex_eq, Mark_bad2 hO hb, hm, hm', hV, hI, Fault_eq, Bool.not_true, List.length_nil]
    simp
    omega
  have hN := Mark_eq hO (roots := roots) (by omega)
  have hR := Marked_eq hO (roots := roots) (by omega)
  have hC : ref4_Chosen.f ⟨l⟩ (marks l roots) true = _ := Chosen_eq (by omega) (fun x => decide (Rch l roots x.Digest)) true
  have hfl : (l.filter fun x => decide (Rch l roots x.Digest) == true).length ≤ 40 := Nat.le_trans (List.length_filter_le _ _) hll
  have hD := DigestsOf_eq (l := l.filter fun x => decide (Rch l roots x.Digest) == true) (by omega)
  have he : (l.filter fun x => decide (Rch l roots x.Digest) == true) = l.filter fun x => decide (Rch l roots x.Digest) := by simp
  rw [he] at hC hD hfl
  have hI2 := Ints_eq (a := (l.filter fun x => decide (Rch l roots x.Digest)).map (·.Digest)) (b := (l.filter fun x => decide (Rch l roots x.Digest)).map (·.Digest)) (by rw [List.length_map]; omega)
  have hb' : ¬ (50 : Int) < (roots.length : Int) := by omega
  simp only [WL, law4_GcMarkMatchesSpec.retv, law4_GcMarkMatchesSpec.r0, law4_GcMarkMatchesSpec.r1, law4_GcMarkMatchesSpec.r2, law4_GcMarkMatchesSpec.r3, law4_GcMarkMatchesSpec.r4, law4_GcMarkMatchesSpec.r5, law4_GcMarkMatchesSpec.r6, law4_GcMarkMatchesSpec.r7, law4_GcMarkMatchesSpec.r8, law4_GcMarkMatchesSpec.r9, law4_GcMarkMatchesSpec.r10, law4_GcMarkMatchesSpec.r11, law4_GcMarkMatchesSpec.r12, gcex_eq, hN, hm, hm', hV, hI, hR, hC, hD, hI2, Fault_eq, Bool.not_true]
  simp [hb']
end Go.Proofs.YtenkbkcddcnmeaaDoor.Pure
