/- The examples. -/
import Derived.Test.YtenkbkcddcnmeaaPp9
namespace Go.Proofs.Ytenkbkcddcnmeaa
open Go.Fx
set_option linter.unusedVariables false
set_option linter.unusedSimpArgs false
set_option maxRecDepth 20000

def o1 : Object := ⟨1, [], [7]⟩
def o2 : Object := ⟨2, [17106956], []⟩
theorem ok1 : OkO o1 := okO rfl
theorem ok2 : OkO o2 := okO rfl
theorem dig1_eq : dig (objBytes o1) = 17106956 := by decide +kernel
theorem dig2_eq : dig (objBytes o2) = 1662115313083863167 := by decide +kernel
def x1 : StoredObject := ⟨17106956, o1⟩
def x2 : StoredObject := ⟨1662115313083863167, o2⟩
theorem okS1 : OkS [x1] where
  len := by decide
  obj := fun o h => by rw [List.mem_singleton.1 h]; exact ⟨ok1, dig1_eq⟩
  inc := List.pairwise_singleton _ _
theorem okS2 : OkS [x1, x2] where
  len := by decide
  obj := fun o h => by
    rcases List.mem_cons.1 h with e | h
    · rw [e]; exact ⟨ok1, dig1_eq⟩
    · rw [List.mem_singleton.1 h]; exact ⟨ok2, dig2_eq⟩
  inc := List.pairwise_cons.2 ⟨fun y hy => by rw [List.mem_singleton.1 hy]; decide, List.pairwise_singleton _ _⟩
theorem okS3 : OkS [x2] where
  len := by decide
  obj := fun o h => by rw [List.mem_singleton.1 h]; exact ⟨ok2, dig2_eq⟩
  inc := List.pairwise_singleton _ _
theorem put1 : objects_Put.f ⟨[]⟩ o1 = some (⟨[x1]⟩, 17106956, ⟨0, 0⟩) := Put_eq OkS.nil ok1 dig1_eq (fun _ h => by simp at h) (by decide)
theorem put2 : objects_Put.f ⟨[x1]⟩ o2 = some (⟨[x1, x2]⟩, 1662115313083863167, ⟨0, 0⟩) := by
  rw [Put_eq okS1 ok2 dig2_eq (fun y h => by rw [List.mem_singleton.1 h]; decide) (by decide)]
  rfl
theorem small_eq : law4_small.f = some (⟨[x1, x2]⟩, 17106956, 1662115313083863167, true) := by
  have h1 : objects_Put.f ⟨[]⟩ ⟨1, [], [7]⟩ = some (⟨[x1]⟩, 17106956, ⟨0, 0⟩) := put1
  have h2 : objects_Put.f ⟨[x1]⟩ ⟨2, [17106956], []⟩ = some (⟨[x1, x2]⟩, 1662115313083863167, ⟨0, 0⟩) := put2
  refine retOf_of ?_
  unfold law4_small.body
  simp only [WL, law4_small.retv, law4_small.r0, law4_small.r1, law4_small.r2, law4_small.r3, h1, h2]
  exact ⟨fun _ => rfl, fun e => absurd e (by decide)⟩
theorem exFilter : partial_Filter.f ⟨[x1, x2]⟩ 0 = some (⟨[x2]⟩, [17106956], ⟨0, 0⟩) := by
  rw [Filter_eq okS2 (by decide) (by decide)]; rfl
theorem okP3 : OkP [x2] [17106956] where
  len := by decide
  rng := fun d h => by rw [List.mem_singleton.1 h]; decide
  inc := List.pairwise_singleton _ _
  dis := fun d h x hx => by rw [List.mem_singleton.1 h, List.mem_singleton.1 hx]; decide
theorem rch_iff {d : Int} : Rch [x2] [1662115313083863167] d ↔ d = 1662115313083863167 ∨ d = 17106956 := by
  constructor
  · intro h
    cases h with
    | root h => exact .inl (List.mem_singleton.1 h)
    | step hx _ hd =>
      rw [List.mem_singleton.1 hx] at hd
      exact .inr (List.mem_singleton.1 hd)
  · rintro (rfl | rfl)
    · exact .root (.head _)
    · exact .step (x := x2) (.head _) (.root (.head _)) (.head _)
open Classical in
theorem exNeeded : partial_Needed.f ⟨[x2]⟩ [17106956] [1662115313083863167] = some ([17106956], ⟨0, 0⟩) := by
  rw [Needed_eq okS3 okP3 (by decide) (fun d h => by rw [List.mem_singleton.1 h]; unfold I64; decide), if_pos]
  · have : need [x2] [17106956] [1662115313083863167] = [17106956] := by
      unfold need
      rw [List.filter_cons, if_pos (decide_eq_true (rch_iff.2 (.inr rfl)))]; rfl
    rw [this]
  · intro d hd
    rcases rch_iff.1 hd with rfl | rfl
    · exact .inr ⟨x2, .head _, rfl⟩
    · exact .inl (.head _)
theorem exFetch : partial_Fetch.f ⟨[x2]⟩ [17106956] ⟨[x1, x2]⟩ [17106956] = some (⟨[x1, x2]⟩, [], ⟨0, 0⟩) := by
  rw [Fetch_eq okS3 okP3 okS2 (by decide)]; rfl
theorem example_eq : law4_partialExample.f = some true := by
  have hI := Ints_eq (a := [17106956]) (b := [17106956]) (by decide)
  have hSt := Stores_eq (a := [x1, x2]) (b := [x1, x2]) (by decide) (fun x h => by have := (okS2.obj x h).1.ll; omega)
  refine retOf_of ?_
  unfold law4_partialExample.body
  simp only [WL, law4_partialExample.retv, law4_partialExample.r0, law4_partialExample.r1, law4_partialExample.r2, law4_partialExample.r3, law4_partialExample.r4, law4_partialExample.r5, small_eq, exFilter, exNeeded, exFetch, hI, hSt]
  exact ⟨fun _ => ⟨fun _ => by rw [decide_true], fun e => absurd rfl e⟩, fun e => absurd rfl e⟩
theorem w64_00 {α β : Type} : w64 ((([] : List α).length : Int) + (([] : List β).length : Int)) = 0 := by
  rw [List.length_nil, List.length_nil]; decide
end Go.Proofs.Ytenkbkcddcnmeaa
