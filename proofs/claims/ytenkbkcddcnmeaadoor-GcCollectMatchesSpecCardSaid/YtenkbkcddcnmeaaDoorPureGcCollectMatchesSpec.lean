/- GcCollectMatchesSpec, the plain part. -/
import Derived.Test.YtenkbkcddcnmeaaDoorPp10
import Derived.Test.YtenkbkcddcnmeaaDoorOp
namespace Go.Proofs.YtenkbkcddcnmeaaDoor.Pure
open Go.Fx Go.RowKit
set_option linter.unusedVariables false
set_option linter.unusedSimpArgs false
set_option maxRecDepth 20000
open Classical in
theorem GcCollectMatchesSpec {s : ObjectStore} {r : RefStore} {ls : List Lease} {time : Int} (h1 : ok_ObjectStore s) (h2 : ok_RefStore r) (h3 : okL ok_Lease ls) (h4 : okI .i64 time) : law4_GcCollectMatchesSpec.f s r ls time = some true := by
  obtain ⟨w, hw, hc⟩ := collect_cases s r ls time
  refine retOf_of ?_
  unfold law4_GcCollectMatchesSpec.body
  rcases hc with ⟨hn, hc⟩ | ⟨rfl, hC⟩
  · simp only [WL, law4_GcCollectMatchesSpec.retv, law4_GcCollectMatchesSpec.r0, law4_GcCollectMatchesSpec.r1, law4_GcCollectMatchesSpec.r2, law4_GcCollectMatchesSpec.r3, law4_GcCollectMatchesSpec.r4, law4_GcCollectMatchesSpec.r5, law4_GcCollectMatchesSpec.r6, law4_GcCollectMatchesSpec.r7, law4_GcCollectMatchesSpec.r8, gcex_eq, hw, hc, Bool.not_true, List.length_nil, w64_00]
    simp [hn]
    decide
  · obtain ⟨l⟩ := s
    have hC : Coll l r ls time := hC
    have hll := hC.ok.len
    have hRl := rootsOf_len (time := time) hC.rl hC.ll
    have hH := HeldBy_eq (time := time) hC.rl hC.ll
    have hE := hC.eq
    have hT := hC.len true
    have hF := hC.len false
    generalize hro : rootsOf r ls time = roots at hRl hH hE hT hF
    have hM := Marked_eq hC.ok (roots := roots) (by omega)
    have hCt : ref4_Chosen.f ⟨l⟩ (marks l roots) true = some ⟨keptL l roots true⟩ := Chosen_eq (by omega) (fun x => decide (Rch l roots x.Digest)) true
    have hCf : ref4_Chosen.f ⟨l⟩ (marks l roots) false = some ⟨keptL l roots false⟩ := Chosen_eq (by omega) (fun x => decide (Rch l roots x.Digest)) false
    have hD := DigestsOf_eq (l := keptL l roots false) (by omega)
    have hSt := Stores_eq (a := keptL l roots true) (b := keptL l roots true) (by omega) (fun x hx => by have := (hC.ok.obj x (kept_mem.1 hx).1).1.ll; omega)
    have hI := Ints_eq (a := (keptL l roots false).map (·.Digest)) (b := (keptL l roots false).map (·.Digest)) (by rw [List.length_map]; omega)
    simp only [WL, law4_GcCollectMatchesSpec.retv, law4_GcCollectMatchesSpec.r0, law4_GcCollectMatchesSpec.r1, law4_GcCollectMatchesSpec.r2, law4_GcCollectMatchesSpec.r3, law4_GcCollectMatchesSpec.r4, law4_GcCollectMatchesSpec.r5, law4_GcCollectMatchesSpec.r6, law4_GcCollectMatchesSpec.r7, law4_GcCollectMatchesSpec.r8, gcex_eq, hw, hE, hH, hM, hCt, hCf, hD, hSt, hI, Bool.not_true]
    simp
end Go.Proofs.YtenkbkcddcnmeaaDoor.Pure
