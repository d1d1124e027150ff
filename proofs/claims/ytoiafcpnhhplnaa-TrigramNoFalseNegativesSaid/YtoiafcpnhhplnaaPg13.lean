/- What Add and Remove come to. -/
import Derived.Test.YtoiafcpnhhplnaaPg12
import Derived.Test.YtoiafcpnhhplnaaOp
namespace Go.Proofs.Ytoiafcpnhhplnaa
open Go.Fx Go.RowKit
set_option linter.unusedVariables false
set_option linter.unusedSimpArgs false
set_option maxRecDepth 20000
theorem okFine {x : TrigramIndex} (h : ok_TrigramIndex x) : Fine x ∧ x.Texts.length ≤ 9223372036854775807 := ⟨⟨h.2.1, fun p hp => (h.2.2 p hp).2.1⟩, h.1.1⟩
/-- What Add comes to. -/
theorem AddR_cases (x : TrigramIndex) (n : Int) (t : ByteArray) : (∃ f, AddR x n t = (noX, f) ∧ ¬ f.Code = 0) ∨ (OkX x ∧ (0 ≤ n ∧ n < 20) ∧ ¬ n ∈ x.Texts ∧ t.size ≤ 400 ∧ AddR x n t = (addM x n t, ⟨0, 0⟩)) := by
  unfold AddR
  by_cases h : xFault x = ⟨0, 0⟩
  · rw [if_neg (fun e => e h)]
    by_cases h1 : n < 0 ∨ 20 ≤ n
    · rw [if_pos h1]; exact .inl ⟨_, rfl, by decide⟩
    · rw [if_neg h1]
      by_cases h2 : n ∈ x.Texts
      · rw [if_pos h2]; exact .inl ⟨_, rfl, by decide⟩
      · rw [if_neg h2]
        by_cases h3 : 400 < t.size
        · rw [if_pos h3]; exact .inl ⟨_, rfl, by decide⟩
        · rw [if_neg h3]; exact .inr ⟨okX (by rw [h]), by omega, h2, by omega, rfl⟩
  · rw [if_pos h]; exact .inl ⟨_, rfl, fun e => h (xFault_ok (okX e))⟩
theorem addM_mem {x : TrigramIndex} {n m : Int} {t : ByteArray} : m ∈ (addM x n t).Texts ↔ m ∈ x.Texts ∨ m = n := insI_mem
theorem addM_rel {x : TrigramIndex} {n m : Int} {g t : ByteArray} : Rel (addM x n t).Postings g m ↔ Rel x.Postings g m ∨ (g ∈ tri t ∧ m = n) := posts_rel
/-- An index is its texts and what is entered. -/
theorem OkX.ext {x y : TrigramIndex} (hx : OkX x) (hy : OkX y) (h1 : ∀ n, n ∈ x.Texts ↔ n ∈ y.Texts) (h2 : ∀ g n, Rel x.Postings g n ↔ Rel y.Postings g n) : x = y := by
  have e1 := inc_ext hx.ti hy.ti h1
  have e2 := hx.ps.ext hy.ps h2
  cases x; cases y; simp_all
theorem rem_add {x : TrigramIndex} {n : Int} {t : ByteArray} (hx : OkX x) (h0 : 0 ≤ n ∧ n < 20) (hn : ¬ n ∈ x.Texts) : remM (addM x n t) n = x := by
  refine (remM_ok (addM_ok hx h0)).ext hx (fun m => ?_) (fun g m => ?_)
  · show m ∈ noN n _ ↔ _
    rw [noN_mem, addM_mem]
    constructor
    · rintro ⟨h | h, h2⟩
      · exact h
      · exact absurd h h2
    · intro h
      exact ⟨.inl h, fun e => hn (e ▸ h)⟩
  · show Rel (lessP n _) g m ↔ _
    rw [lessP_rel, addM_rel]
    constructor
    · rintro ⟨h | h, h2⟩
      · exact h
      · exact absurd h.2 h2
    · rintro ⟨p, hp, e, hm⟩
      exact ⟨.inl ⟨p, hp, e, hm⟩, fun e => hn (e ▸ hx.ps.sub p hp m hm)⟩
end Go.Proofs.Ytoiafcpnhhplnaa
