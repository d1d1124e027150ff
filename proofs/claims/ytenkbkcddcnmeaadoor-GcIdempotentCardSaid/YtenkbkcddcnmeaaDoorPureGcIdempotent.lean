/- GcIdempotent, the plain part. -/
import Derived.Test.YtenkbkcddcnmeaaDoorPp10
import Derived.Test.YtenkbkcddcnmeaaDoorOp
namespace Go.Proofs.YtenkbkcddcnmeaaDoor.Pure
open Go.Fx Go.RowKit
set_option linter.unusedVariables false
set_option linter.unusedSimpArgs false
set_option maxRecDepth 20000
open Classical in
theorem kept_again (l : List StoredObject) (roots : List Int) : keptL (keptL l roots true) roots true = keptL l roots true ∧ keptL (keptL l roots true) roots false = [] := by
  constructor
  · refine List.filter_eq_self.2 fun x hx => ?_
    have := kept_rch (kept_mem.1 hx).2
    rw [decide_eq_true this]; rfl
  · refine List.filter_eq_nil_iff.2 fun x hx => ?_
    have := kept_rch (kept_mem.1 hx).2
    rw [decide_eq_true this]; decide
theorem GcIdempotent {s : ObjectStore} {r : RefStore} {ls : List Lease} {time : Int} (h1 : ok_ObjectStore s) (h2 : ok_RefStore r) (h3 : okL ok_Lease ls) (h4 : okI .i64 time) : law4_GcIdempotent.f s r ls time = some true := by
  obtain ⟨w, hw, hc⟩ := collect_cases s r ls time
  refine retOf_of ?_
  unfold law4_GcIdempotent.body
  rcases hc with ⟨hn, hc⟩ | ⟨rfl, hC⟩
  · simp only [WL, law4_GcIdempotent.retv, law4_GcIdempotent.r0, law4_GcIdempotent.r1, law4_GcIdempotent.r2, law4_GcIdempotent.r3, law4_GcIdempotent.r4, law4_GcIdempotent.r5, law4_GcIdempotent.r6, law4_GcIdempotent.r7, gcex_eq, hc, Bool.not_true, List.length_nil, w64_00]
    simp [hn]
    decide
  · obtain ⟨l⟩ := s
    have hC : Coll l r ls time := hC
    have hll := hC.ok.len
    have hE := hC.eq
    have hT := hC.len true
    have hC2 : Coll (keptL l (rootsOf r ls time) true) r ls time := { hC with ok := kept_ok hC.ok true }
    have hE2 := hC2.eq
    generalize hro : rootsOf r ls time = roots at hE hT hE2 hC2
    rw [(kept_again l roots).1, (kept_again l roots).2] at hE2
    have hSt := Stores_eq (a := keptL l roots true) (b := keptL l roots true) (by omega) (fun x hx => by have := (hC.ok.obj x (kept_mem.1 hx).1).1.ll; omega)
    have hL := kept_len l roots
    simp only [WL, law4_GcIdempotent.retv, law4_GcIdempotent.r0, law4_GcIdempotent.r1, law4_GcIdempotent.r2, law4_GcIdempotent.r3, law4_GcIdempotent.r4, law4_GcIdempotent.r5, law4_GcIdempotent.r6, law4_GcIdempotent.r7, gcex_eq, hE, hE2, hSt, Bool.not_true, List.map_nil, List.length_map]
    rw [w64_id (by omega) (by omega), decide_eq_true (show ((keptL l roots true).length : Int) + ((keptL l roots false).length : Int) = (l.length : Int) by omega)]
    simp
end Go.Proofs.YtenkbkcddcnmeaaDoor.Pure
