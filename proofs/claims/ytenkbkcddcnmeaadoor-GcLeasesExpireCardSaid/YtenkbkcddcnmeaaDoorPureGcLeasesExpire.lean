/- GcLeasesExpire, the plain part. -/
import Derived.Test.YtenkbkcddcnmeaaDoorPp10
import Derived.Test.YtenkbkcddcnmeaaDoorOp
namespace Go.Proofs.YtenkbkcddcnmeaaDoor.Pure
open Go.Fx Go.RowKit
set_option linter.unusedVariables false
set_option linter.unusedSimpArgs false
set_option maxRecDepth 20000
theorem roots_later {r : RefStore} {ls : List Lease} {time later : Int} (h : time ≤ later) {d : Int} (hd : d ∈ rootsOf r ls later) : d ∈ rootsOf r ls time := by
  unfold rootsOf at hd ⊢
  rcases List.mem_append.1 hd with hd | hd
  · exact List.mem_append_left _ hd
  · obtain ⟨x, hx, rfl⟩ := List.mem_map.1 hd
    have hx' := List.mem_filter.1 hx
    exact List.mem_append_right _ (List.mem_map.2 ⟨x, List.mem_filter.2 ⟨hx'.1, decide_eq_true (by have := of_decide_eq_true hx'.2; omega)⟩, rfl⟩)
theorem rch_mono {l : List StoredObject} {p q : List Int} (h : ∀ d ∈ p, d ∈ q) {d : Int} (hd : Rch l p d) : Rch l q d := by
  induction hd with
  | root hr => exact .root (h _ hr)
  | step hx _ hl ih => exact .step hx ih hl
theorem GcLeasesExpire {s : ObjectStore} {r : RefStore} {ls : List Lease} {time later : Int} (h1 : ok_ObjectStore s) (h2 : ok_RefStore r) (h3 : okL ok_Lease ls) (h4 : okI .i64 time) (h5 : okI .i64 later) : law4_GcLeasesExpire.f s r ls time later = some true := by
  obtain ⟨w, hw, hc⟩ := collect_cases s r ls time
  obtain ⟨w', hw', hc'⟩ := collect_cases s r ls later
  refine retOf_of ?_
  unfold law4_GcLeasesExpire.body
  rcases hc with ⟨hn, hc⟩ | ⟨rfl, hC⟩
  · rcases hc' with ⟨hn', hc'⟩ | ⟨rfl, hC'⟩
    · simp only [WL, law4_GcLeasesExpire.retv, law4_GcLeasesExpire.r0, law4_GcLeasesExpire.r1, law4_GcLeasesExpire.r2, law4_GcLeasesExpire.r3, law4_GcLeasesExpire.r4, law4_GcLeasesExpire.r5, law4_GcLeasesExpire.r6, law4_GcLeasesExpire.r7, law4_GcLeasesExpire.r8, law4_GcLeasesExpire.r10, law4_GcLeasesExpire.r11, law4_GcLeasesExpire.r9, law4_GcLeasesExpire.r12, law4_GcLeasesExpire.r13, law4_GcLeasesExpire.r15, law4_GcLeasesExpire.r16, law4_GcLeasesExpire.r14, law4_GcLeasesExpire.r17, gcex_eq, hc, hc', Bool.not_true, List.length_nil, w64_00]
      simp [hn]
      decide
    · have hE' := hC'.eq
      simp only [WL, law4_GcLeasesExpire.retv, law4_GcLeasesExpire.r0, law4_GcLeasesExpire.r1, law4_GcLeasesExpire.r2, law4_GcLeasesExpire.r3, law4_GcLeasesExpire.r4, law4_GcLeasesExpire.r5, law4_GcLeasesExpire.r6, law4_GcLeasesExpire.r7, law4_GcLeasesExpire.r8, law4_GcLeasesExpire.r10, law4_GcLeasesExpire.r11, law4_GcLeasesExpire.r9, law4_GcLeasesExpire.r12, law4_GcLeasesExpire.r13, law4_GcLeasesExpire.r15, law4_GcLeasesExpire.r16, law4_GcLeasesExpire.r14, law4_GcLeasesExpire.r17, gcex_eq, hc, hE', Bool.not_true, List.length_nil, w64_00]
      simp [hn]
      decide
  · obtain ⟨l⟩ := s
    have hC : Coll l r ls time := hC
    have hE := hC.eq
    rcases hc' with ⟨hn', hc'⟩ | ⟨rfl, hC'⟩
    · simp only [WL, law4_GcLeasesExpire.retv, law4_GcLeasesExpire.r0, law4_GcLeasesExpire.r1, law4_GcLeasesExpire.r2, law4_GcLeasesExpire.r3, law4_GcLeasesExpire.r4, law4_GcLeasesExpire.r5, law4_GcLeasesExpire.r6, law4_GcLeasesExpire.r7, law4_GcLeasesExpire.r8, law4_GcLeasesExpire.r10, law4_GcLeasesExpire.r11, law4_GcLeasesExpire.r9, law4_GcLeasesExpire.r12, law4_GcLeasesExpire.r13, law4_GcLeasesExpire.r15, law4_GcLeasesExpire.r16, law4_GcLeasesExpire.r14, law4_GcLeasesExpire.r17, gcex_eq, hE, hc', Bool.not_true, List.length_nil, w64_00]
      simp [hn']
    · have hC' : Coll l r ls later := hC'
      have hE' := hC'.eq
      have hll := hC.ok.len
      have ha := hC.len false
      have hb := hC'.len false
      have ht := hC.len true
      have hu := hC'.len true
      simp only [WL, law4_GcLeasesExpire.retv, law4_GcLeasesExpire.r0, law4_GcLeasesExpire.r1, law4_GcLeasesExpire.r2, law4_GcLeasesExpire.r3, law4_GcLeasesExpire.r4, law4_GcLeasesExpire.r5, law4_GcLeasesExpire.r6, law4_GcLeasesExpire.r7, law4_GcLeasesExpire.r8, law4_GcLeasesExpire.r10, law4_GcLeasesExpire.r11, law4_GcLeasesExpire.r9, law4_GcLeasesExpire.r12, law4_GcLeasesExpire.r13, law4_GcLeasesExpire.r15, law4_GcLeasesExpire.r16, law4_GcLeasesExpire.r14, law4_GcLeasesExpire.r17, gcex_eq, hE, hE', Bool.not_true]
      refine ⟨fun _ => by first | rfl | simp, fun hle => ?_⟩
      have hle : time ≤ later := by omega
      have hmono : ∀ {d : Int}, Rch l (rootsOf r ls later) d → Rch l (rootsOf r ls time) d := fun h => rch_mono (fun d hd => roots_later hle hd) h
      generalize hro : rootsOf r ls time = p at hE ha ht hmono
      generalize hro' : rootsOf r ls later = q at hE' hb hu hmono
      refine W_iter (fun s => s.t_11 = ⟨keptL l p true⟩ ∧ s.t_12 = (keptL l p false).map (·.Digest) ∧ s.t_14 = ⟨keptL l q true⟩ ∧ s.t_15 = (keptL l q false).map (·.Digest) ∧ ∃ i : Nat, s.t_17 = i ∧ i ≤ (keptL l p false).length) (fun s => (keptL l p false).length - s.t_17.toNat) ⟨rfl, rfl, rfl, rfl, 0, rfl, Nat.zero_le _⟩ ?_
      rintro s ⟨e11, e12, e14, e15, i, e17, hi⟩
      simp only [WL, law4_GcLeasesExpire.retv, law4_GcLeasesExpire.r0, law4_GcLeasesExpire.r1, law4_GcLeasesExpire.r2, law4_GcLeasesExpire.r3, law4_GcLeasesExpire.r4, law4_GcLeasesExpire.r5, law4_GcLeasesExpire.r6, law4_GcLeasesExpire.r7, law4_GcLeasesExpire.r8, law4_GcLeasesExpire.r10, law4_GcLeasesExpire.r11, law4_GcLeasesExpire.r9, law4_GcLeasesExpire.r12, law4_GcLeasesExpire.r13, law4_GcLeasesExpire.r15, law4_GcLeasesExpire.r16, law4_GcLeasesExpire.r14, law4_GcLeasesExpire.r17, e11, e12, e14, e15, e17, List.length_map]
      refine ⟨fun hlt => ?_, fun hge => ?_⟩
      · have hlt : i < (keptL l p false).length := by omega
        have hlt' : i < ((keptL l p false).map (·.Digest)).length := by rw [List.length_map]; exact hlt
        have hin : ((keptL l p false).map (·.Digest))[i] ∈ (keptL l q false).map (·.Digest) := by
          rw [List.getElem_map]
          have hm := gone_mem.1 (List.getElem_mem hlt)
          exact List.mem_map.2 ⟨_, gone_mem.2 ⟨hm.1, fun h => hm.2 (hmono h)⟩, rfl⟩
        refine opt_of (idx_nat' hlt') (opt_of (Has_eq _ _ (by rw [List.length_map]; omega)) ⟨fun h => ?_, fun _ => ?_⟩)
        · rw [decide_eq_true hin] at h; cases h
        · rw [w64_succ (by omega)]
          exact ⟨⟨i + 1, rfl, by omega⟩, by omega⟩
      · refine W_iter (fun s => s.t_11 = ⟨keptL l p true⟩ ∧ s.t_14 = ⟨keptL l q true⟩ ∧ ∃ i : Nat, s.t_18 = i ∧ i ≤ (keptL l q true).length) (fun s => (keptL l q true).length - s.t_18.toNat) ⟨rfl, rfl, 0, rfl, Nat.zero_le _⟩ ?_
        clear s e11 e12 e14 e15 e17 hge
        rintro s ⟨e11, e14, i, e18, hi⟩
        simp only [WL, law4_GcLeasesExpire.retv, law4_GcLeasesExpire.r0, law4_GcLeasesExpire.r1, law4_GcLeasesExpire.r2, law4_GcLeasesExpire.r3, law4_GcLeasesExpire.r4, law4_GcLeasesExpire.r5, law4_GcLeasesExpire.r6, law4_GcLeasesExpire.r7, law4_GcLeasesExpire.r8, law4_GcLeasesExpire.r10, law4_GcLeasesExpire.r11, law4_GcLeasesExpire.r9, law4_GcLeasesExpire.r12, law4_GcLeasesExpire.r13, law4_GcLeasesExpire.r15, law4_GcLeasesExpire.r16, law4_GcLeasesExpire.r14, law4_GcLeasesExpire.r17, e11, e14, e18]
        refine ⟨fun hlt => ?_, fun hge => trivial⟩
        have hlt : i < (keptL l q true).length := by omega
        obtain ⟨z, hz, hzc⟩ := At_eq (keptL l p true) (keptL l q true)[i].Digest (by omega)
        have hz0 : 0 ≤ z := by
          rcases hzc with ⟨_, h⟩ | ⟨j, hj, e, _⟩
          · have hm := kept_mem.1 (List.getElem_mem hlt)
            exact absurd rfl (h _ (kept_mem.2 ⟨hm.1, hmono hm.2⟩))
          · omega
        refine opt_of (idx_nat' hlt) (opt_of hz ⟨fun h => absurd (show z < 0 from by simpa using h) (by omega), fun _ => ?_⟩)
        rw [w64_succ (by omega)]
        exact ⟨⟨i + 1, rfl, by omega⟩, by omega⟩
end Go.Proofs.YtenkbkcddcnmeaaDoor.Pure
