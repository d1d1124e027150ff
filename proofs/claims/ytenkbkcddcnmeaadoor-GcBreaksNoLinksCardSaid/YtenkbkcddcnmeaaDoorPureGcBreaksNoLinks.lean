/- GcBreaksNoLinks, the plain part. -/
import Derived.Test.YtenkbkcddcnmeaaDoorPp10
import Derived.Test.YtenkbkcddcnmeaaDoorOp
namespace Go.Proofs.YtenkbkcddcnmeaaDoor.Pure
open Go.Fx Go.RowKit
set_option linter.unusedVariables false
set_option linter.unusedSimpArgs false
set_option maxRecDepth 20000
theorem GcBreaksNoLinks {s : ObjectStore} {r : RefStore} {ls : List Lease} {time : Int} (h1 : ok_ObjectStore s) (h2 : ok_RefStore r) (h3 : okL ok_Lease ls) (h4 : okI .i64 time) : law4_GcBreaksNoLinks.f s r ls time = some true := by
  obtain ⟨w, hw, hc⟩ := collect_cases s r ls time
  refine retOf_of ?_
  unfold law4_GcBreaksNoLinks.body
  rcases hc with ⟨hn, hc⟩ | ⟨rfl, hC⟩
  · simp only [WL, law4_GcBreaksNoLinks.retv, law4_GcBreaksNoLinks.r0, law4_GcBreaksNoLinks.r1, law4_GcBreaksNoLinks.r2, law4_GcBreaksNoLinks.r3, law4_GcBreaksNoLinks.r4, law4_GcBreaksNoLinks.r5, law4_GcBreaksNoLinks.r6, law4_GcBreaksNoLinks.r7, law4_GcBreaksNoLinks.r8, law4_GcBreaksNoLinks.r9, law4_GcBreaksNoLinks.r10, law4_GcBreaksNoLinks.r12, law4_GcBreaksNoLinks.r13, law4_GcBreaksNoLinks.r11, law4_GcBreaksNoLinks.r14, gcex_eq, hc, Bool.not_true, List.length_nil, w64_00]
    simp [hn]
    decide
  · obtain ⟨l⟩ := s
    have hC : Coll l r ls time := hC
    have hll := hC.ok.len
    have hE := hC.eq
    generalize hro : rootsOf r ls time = roots at hE
    obtain ⟨m, hm, _, hml, ho⟩ := Missing_ex (kept_ok (roots := roots) hC.ok true)
    simp only [WL, law4_GcBreaksNoLinks.retv, law4_GcBreaksNoLinks.r0, law4_GcBreaksNoLinks.r1, law4_GcBreaksNoLinks.r2, law4_GcBreaksNoLinks.r3, law4_GcBreaksNoLinks.r4, law4_GcBreaksNoLinks.r5, law4_GcBreaksNoLinks.r6, law4_GcBreaksNoLinks.r7, law4_GcBreaksNoLinks.r8, law4_GcBreaksNoLinks.r9, law4_GcBreaksNoLinks.r10, law4_GcBreaksNoLinks.r12, law4_GcBreaksNoLinks.r13, law4_GcBreaksNoLinks.r11, law4_GcBreaksNoLinks.r14, gcex_eq, hE, hm, Bool.not_true]
    refine W_iter (fun s => s.s_4 = ⟨l⟩ ∧ s.m_12 = m ∧ ∃ i : Nat, s.i_14 = i ∧ i ≤ m.length) (fun s => m.length - s.i_14.toNat) ⟨rfl, rfl, 0, rfl, Nat.zero_le _⟩ ?_
    rintro s ⟨e4, e12, i, e14, hi⟩
    simp only [WL, law4_GcBreaksNoLinks.retv, law4_GcBreaksNoLinks.r0, law4_GcBreaksNoLinks.r1, law4_GcBreaksNoLinks.r2, law4_GcBreaksNoLinks.r3, law4_GcBreaksNoLinks.r4, law4_GcBreaksNoLinks.r5, law4_GcBreaksNoLinks.r6, law4_GcBreaksNoLinks.r7, law4_GcBreaksNoLinks.r8, law4_GcBreaksNoLinks.r9, law4_GcBreaksNoLinks.r10, law4_GcBreaksNoLinks.r12, law4_GcBreaksNoLinks.r13, law4_GcBreaksNoLinks.r11, law4_GcBreaksNoLinks.r14, e4, e12, e14]
    refine ⟨fun hlt => ?_, fun hge => trivial⟩
    have hlt : i < m.length := by omega
    obtain ⟨q, hq, hqc⟩ := At_eq l m[i] (by omega)
    have hq0 : q < 0 := by
      rcases hqc with ⟨e, _⟩ | ⟨j, hj, _, e⟩
      · omega
      · obtain ⟨⟨x, hx, hd⟩, hn⟩ := (ho m[i]).1 (List.getElem_mem hlt)
        have hx' := kept_mem.1 hx
        have hr : Rch l roots m[i] := .step hx'.1 hx'.2 hd
        exact absurd e (hn l[j] (kept_mem.2 ⟨List.getElem_mem hj, by rw [e]; exact hr⟩))
    refine opt_of (idx_nat' hlt) (opt_of hq ⟨fun h => absurd (show (0 : Int) ≤ q from by simpa using h) (by omega), fun _ => ?_⟩)
    rw [w64_succ (by omega)]
    exact ⟨⟨i + 1, rfl, by omega⟩, by omega⟩
end Go.Proofs.YtenkbkcddcnmeaaDoor.Pure
