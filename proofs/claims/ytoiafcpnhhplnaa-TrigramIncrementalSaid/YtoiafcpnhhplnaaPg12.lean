/- The example. -/
import Derived.Test.YtoiafcpnhhplnaaPg11
namespace Go.Proofs.Ytoiafcpnhhplnaa
open Go.Fx
set_option linter.unusedVariables false
set_option linter.unusedSimpArgs false
set_option maxRecDepth 20000

def exT : List ByteArray := [(⟨#[97, 98, 99, 100]⟩ : ByteArray), (⟨#[98, 99, 100]⟩ : ByteArray)]
def exX : TrigramIndex := ⟨[0, 1], [⟨⟨#[97, 98, 99]⟩, [0]⟩, ⟨⟨#[98, 99, 100]⟩, [0, 1]⟩]⟩
theorem ex1 : idxN exT 2 = exX := by decide +kernel
theorem ex2 : xtF exT = ⟨0, 0⟩ := by decide +kernel
theorem ex3 : candM exX ⟨#[98, 99, 100]⟩ = [0, 1] := by decide +kernel
theorem ex4 : candM exX ⟨#[97, 98, 99, 100]⟩ = [0] := by decide +kernel
theorem exOk : OkX exX := ex1 ▸ idxN_ok exT (by omega)
theorem exC {part : ByteArray} {l : List Int} (h : candM exX part = l) (hs : part.size ≤ 400) : trigram_Candidates.f exX part = some (l, ⟨0, 0⟩) := by
  rw [Candidates_eq exOk.fine]
  unfold CandR
  rw [xFault_ok exOk, if_neg (fun e => e rfl), if_neg (by omega), h]
theorem example_eq : law4_trigramExample.f = some true := by
  have h1 : trigram_Index.f [(⟨#[97, 98, 99, 100]⟩ : ByteArray), (⟨#[98, 99, 100]⟩ : ByteArray)] = some (exX, ⟨0, 0⟩) := by
    have h := Index_eq exT
    rw [ex2, if_pos rfl, show exT.length = 2 from rfl, ex1] at h
    exact h
  have h2 := exC ex3 (by decide)
  have h3 := exC ex4 (by decide)
  have hi : idx exX.Postings (0 : Int) = some ⟨⟨#[97, 98, 99]⟩, [0]⟩ := rfl
  refine retOf_of ?_
  unfold law4_trigramExample.body
  simp only [WL, law4_trigramExample.retv, law4_trigramExample.r0, law4_trigramExample.r1, law4_trigramExample.r2, law4_trigramExample.r3, law4_trigramExample.r4, h1, h2, h3]
  refine ⟨fun _ => opt_of hi ⟨fun _ => opt_of (Ints_eq _ _ (by decide)) ?_, fun h => absurd rfl h⟩, fun h => absurd rfl h⟩
  exact ⟨fun _ => opt_of (Ints_eq _ _ (by decide)) (by rw [decide_eq_true rfl]), fun h => absurd (by decide) h⟩
end Go.Proofs.Ytoiafcpnhhplnaa
