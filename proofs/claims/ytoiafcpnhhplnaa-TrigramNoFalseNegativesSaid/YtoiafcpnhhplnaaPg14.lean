/- What the index of texts holds. -/
import Derived.Test.YtoiafcpnhhplnaaPg13
namespace Go.Proofs.Ytoiafcpnhhplnaa
open Go.Fx Go.RowKit
set_option linter.unusedVariables false
set_option linter.unusedSimpArgs false
set_option maxRecDepth 20000
theorem idxN_mem {texts : List ByteArray} {m : Int} : ∀ {i : Nat}, m ∈ (idxN texts i).Texts ↔ ∃ k : Nat, k < i ∧ m = k
  | 0 => ⟨fun h => by simp [idxN] at h, fun ⟨k, h, _⟩ => by omega⟩
  | i + 1 => by
    show m ∈ (addM _ _ _).Texts ↔ _
    rw [addM_mem, idxN_mem]
    constructor
    · rintro (⟨k, h, e⟩ | e)
      · exact ⟨k, by omega, e⟩
      · exact ⟨i, by omega, e⟩
    · rintro ⟨k, h, e⟩
      by_cases hk : k = i
      · subst hk; exact .inr e
      · exact .inl ⟨k, by omega, e⟩
theorem idxN_rel {texts : List ByteArray} {g : ByteArray} {m : Int} : ∀ {i : Nat}, Rel (idxN texts i).Postings g m ↔ ∃ k : Nat, k < i ∧ m = k ∧ g ∈ tri (texts.getD k ByteArray.empty)
  | 0 => ⟨fun h => (rel_nil.1 h).elim, fun ⟨k, h, _⟩ => by omega⟩
  | i + 1 => by
    show Rel (addM _ _ _).Postings g m ↔ _
    rw [addM_rel, idxN_rel]
    constructor
    · rintro (⟨k, h, e⟩ | ⟨h, e⟩)
      · exact ⟨k, by omega, e⟩
      · exact ⟨i, by omega, e, h⟩
    · rintro ⟨k, h, e, hg⟩
      by_cases hk : k = i
      · subst hk; exact .inr ⟨hg, e⟩
      · exact .inl ⟨k, by omega, e, hg⟩
end Go.Proofs.Ytoiafcpnhhplnaa
