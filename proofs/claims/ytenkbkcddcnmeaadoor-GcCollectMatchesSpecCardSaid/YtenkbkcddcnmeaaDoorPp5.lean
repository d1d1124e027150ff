/- The example of the collection. -/
import Derived.Test.YtenkbkcddcnmeaaDoorPp4
namespace Go.Proofs.YtenkbkcddcnmeaaDoor
open Go.Fx
set_option linter.unusedVariables false
set_option linter.unusedSimpArgs false
set_option maxRecDepth 20000
theorem refsV_nil : refs_Validate.f ⟨[]⟩ = some ⟨0, 0⟩ := by
  refine retOf_of ?_
  unfold refs_Validate.body
  simp only [WL, refs_Validate.retv, refs_Validate.r0, refs_Validate.r1, refs_Validate.r2, refs_Validate.r3, refs_Validate.r4, refs_Validate.r5, refs_Validate.r6, refs_Validate.r7, refs_Validate.r8, refs_Validate.r9, refs_Validate.r10, refs_Validate.r11, refs_Validate.r12, refs_Validate.r13, refs_Validate.r14, refs_Validate.r15]
  refine ⟨fun e => absurd e (by decide), fun _ => ?_⟩
  refine W_iter (fun s => s.t_11 = [] ∧ s.t_12 = 0 ∧ s.t_13 = 0) (fun s => 0) ⟨rfl, rfl, rfl⟩ ?_
  rintro s ⟨e11, e12, e13⟩
  simp only [WL, refs_Validate.retv, refs_Validate.r0, refs_Validate.r1, refs_Validate.r2, refs_Validate.r3, refs_Validate.r4, refs_Validate.r5, refs_Validate.r6, refs_Validate.r7, refs_Validate.r8, refs_Validate.r9, refs_Validate.r10, refs_Validate.r11, refs_Validate.r12, refs_Validate.r13, refs_Validate.r14, refs_Validate.r15, e11, e12, e13]
  exact ⟨fun e => absurd e (by decide), fun _ => trivial⟩
theorem rch_d2 {d : Int} : Rch [x1, x2] [1662115313083863167] d ↔ d = 1662115313083863167 ∨ d = 17106956 := by
  constructor
  · intro h
    cases h with
    | root h => exact .inl (List.mem_singleton.1 h)
    | step hx _ hd =>
      rcases List.mem_cons.1 hx with rfl | hx
      · exact absurd hd (by simp [x1, o1])
      · rw [List.mem_singleton.1 hx] at hd
        exact .inr (List.mem_singleton.1 hd)
  · rintro (rfl | rfl)
    · exact .root (.head _)
    · exact .step (x := x2) (.tail _ (.head _)) (.root (.head _)) (.head _)
theorem rch_d1 {d : Int} : Rch [x1, x2] [17106956] d ↔ d = 17106956 := by
  constructor
  · intro h
    induction h with
    | root h => exact List.mem_singleton.1 h
    | step hx _ hd ih =>
      rcases List.mem_cons.1 hx with rfl | hx
      · exact absurd hd (by simp [x1, o1])
      · rw [List.mem_singleton.1 hx] at ih
        exact absurd ih (by decide)
  · rintro rfl
    exact .root (.head _)
theorem rch_nil {l : List StoredObject} {d : Int} : ¬ Rch l [] d := by
  intro h
  induction h with
  | root h => simp at h
  | step _ _ _ ih => exact ih
open Classical in
theorem exMark2 : gc_Mark.f ⟨[x1, x2]⟩ [1662115313083863167] = some ([17106956, 1662115313083863167], ⟨0, 0⟩) := by
  rw [Mark_eq okS2 (by decide), List.filter_eq_self.2]
  · rfl
  · intro a ha
    rcases List.mem_cons.1 ha with rfl | ha
    · exact decide_eq_true (rch_d2.2 (.inr rfl))
    · rw [List.mem_singleton.1 ha]
      exact decide_eq_true (rch_d2.2 (.inl rfl))
open Classical in
theorem exMark1 : gc_Mark.f ⟨[x1, x2]⟩ [17106956] = some ([17106956], ⟨0, 0⟩) := by
  rw [Mark_eq okS2 (by decide), List.filter_cons, if_pos (show decide (Rch [x1, x2] [17106956] x1.Digest) = true from decide_eq_true (rch_d1.2 rfl)), List.filter_cons, if_neg (by rw [decide_eq_true_eq, rch_d1]; decide)]
  rfl
open Classical in
theorem kept_nil (l : List StoredObject) : keptL l [] true = [] ∧ keptL l [] false = l := by
  unfold keptL
  refine ⟨List.filter_eq_nil_iff.2 fun a _ => ?_, List.filter_eq_self.2 fun a _ => ?_⟩
  · rw [decide_eq_false rch_nil]; decide
  · rw [decide_eq_false rch_nil]; decide
theorem exCollect : gc_Collect.f ⟨[x1, x2]⟩ ⟨[]⟩ [] 0 = some (⟨[]⟩, [17106956, 1662115313083863167], ⟨0, 0⟩) := by
  rw [Collect_eq okS2 refsV_nil (by decide) (by decide)]
  unfold collR
  rw [if_neg (by decide), if_neg (by decide)]
  have h : rootsOf ⟨[]⟩ [] 0 = [] := rfl
  rw [h, (kept_nil _).1, (kept_nil _).2]
  rfl
theorem gcex_eq : law4_gcExample.f = some true := by
  have hI := Ints_eq (a := [17106956]) (b := [17106956]) (by decide)
  refine retOf_of ?_
  unfold law4_gcExample.body
  simp only [WL, law4_gcExample.retv, law4_gcExample.r0, law4_gcExample.r1, law4_gcExample.r2, law4_gcExample.r3, law4_gcExample.r4, law4_gcExample.r5, small_eq, exMark2, exMark1, exCollect, hI]
  simp
end Go.Proofs.YtenkbkcddcnmeaaDoor
