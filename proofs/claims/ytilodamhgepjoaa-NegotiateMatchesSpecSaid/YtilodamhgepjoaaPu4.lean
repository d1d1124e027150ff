/- What shallow.reach comes to. -/
import Derived.Test.YtilodamhgepjoaaPu3
namespace Go.Proofs.Ytilodamhgepjoaa
open Go.Fx
set_option linter.unusedVariables false
set_option linter.unusedSimpArgs false

/-- i lies at most k steps behind one of fr, by the commits from b on. -/
def win (l : List Commit) (fr : List Int) (b : Nat) : Nat → Nat → Prop
  | 0, i => (i : Int) ∈ fr
  | k + 1, i => win l fr b k i ∨ ∃ c x, b ≤ c ∧ l[c]? = some x ∧ win l fr b k c ∧ (i : Int) ∈ x.Parents
/-- Parents come before their children. -/
def Topo (l : List Commit) : Prop := ∀ (c : Nat) x, l[c]? = some x → ∀ p ∈ x.Parents, 0 ≤ p ∧ p < c

theorem win_top {l : List Commit} {fr : List Int} {b : Nat} (hb : l.length ≤ b) : ∀ {k i : Nat}, win l fr b k i ↔ (i : Int) ∈ fr
  | 0, i => Iff.rfl
  | k + 1, i => by
    unfold win
    rw [win_top hb]
    refine ⟨fun h => h.resolve_right ?_, .inl⟩
    rintro ⟨c, x, hc, hx, _⟩
    have := (List.getElem?_eq_some_iff.1 hx).1
    omega
theorem win_hi {l : List Commit} {fr : List Int} (ht : Topo l) {b : Nat} : ∀ {k i : Nat}, b ≤ i → (win l fr b k i ↔ win l fr (b + 1) k i)
  | 0, i, _ => Iff.rfl
  | k + 1, i, hi => by
    unfold win
    rw [win_hi ht hi]
    refine or_congr Iff.rfl ⟨?_, ?_⟩
    · rintro ⟨c, x, hc, hx, hw, hp⟩
      have := (ht c x hx _ hp).2
      exact ⟨c, x, by omega, hx, (win_hi ht hc).1 hw, hp⟩
    · rintro ⟨c, x, hc, hx, hw, hp⟩
      exact ⟨c, x, by omega, hx, (win_hi ht (by omega)).2 hw, hp⟩
theorem win_mono {l : List Commit} {fr : List Int} {b : Nat} : ∀ {k i : Nat}, win l fr b k i → win l fr b (k + 1) i := fun h => .inl h
/-- One commit more. -/
theorem win_step {l : List Commit} {fr : List Int} (ht : Topo l) {b : Nat} {x : Commit} (hx : l[b]? = some x) : ∀ {k i : Nat}, win l fr b k i ↔ win l fr (b + 1) k i ∨ (∃ j, k = j + 1 ∧ (i : Int) ∈ x.Parents ∧ win l fr (b + 1) j b)
  | 0, i => by simp [win]
  | k + 1, i => by
    constructor
    · intro h
      rcases h with h | ⟨c, y, hc, hy, hw, hp⟩
      · rcases (win_step ht hx).1 h with h | ⟨j, rfl, hp, hw⟩
        · exact .inl (.inl h)
        · exact .inr ⟨j + 1, rfl, hp, .inl hw⟩
      · by_cases e : c = b
        · subst e
          rw [hx] at hy; cases hy
          exact .inr ⟨k, rfl, hp, (win_hi ht (Nat.le_refl _)).1 hw⟩
        · exact .inl (.inr ⟨c, y, by omega, hy, (win_hi ht hc).1 hw, hp⟩)
    · rintro (h | ⟨j, e, hp, hw⟩)
      · rcases h with h | ⟨c, y, hc, hy, hw, hp⟩
        · exact .inl ((win_step ht hx).2 (.inl h))
        · exact .inr ⟨c, y, by omega, hy, (win_hi ht (by omega)).2 hw, hp⟩
      · cases e
        exact .inr ⟨b, x, Nat.le_refl _, hx, (win_hi ht (Nat.le_refl _)).2 hw, hp⟩

/-- What is left of the steps at each commit, those from b on being gone through. -/
def Left (l : List Commit) (fr : List Int) (S : Int) (b : Nat) (v : List Int) : Prop :=
  v.length = l.length ∧ ∀ i, i < l.length → 0 ≤ v.getD i 0 ∧ ∀ m : Int, 1 ≤ m → (m ≤ v.getD i 0 ↔ m ≤ S ∧ win l fr b (S - m).toNat i)

theorem getD_setL {v : List Int} {p : Int} {x : Int} {i : Nat} (hp : 0 ≤ p) (hv : p.toNat < v.length) : (setL v p x).getD i 0 = if (i : Int) = p then x else v.getD i 0 := by
  unfold setL
  simp only [List.getD, List.getElem?_set]
  by_cases e : (i : Int) = p
  · have e' : p.toNat = i := by omega
    rw [if_pos e, if_pos e', if_pos hv]; rfl
  · have e' : ¬ p.toNat = i := by omega
    rw [if_neg e, if_neg e']
/-- The parents of commit b, from number j on, are still to be marked. -/
def LeftP (l : List Commit) (fr : List Int) (S : Int) (b : Nat) (ps : List Int) (v : List Int) : Prop :=
  v.length = l.length ∧ ∀ i, i < l.length → 0 ≤ v.getD i 0 ∧ ∀ m : Int, 1 ≤ m → (m ≤ v.getD i 0 ↔ m ≤ S ∧ (win l fr (b + 1) (S - m).toNat i ∨ ∃ j, (S - m).toNat = j + 1 ∧ (i : Int) ∈ ps ∧ win l fr (b + 1) j b))
theorem Left.start {l : List Commit} {fr : List Int} {S : Int} {b : Nat} {v : List Int} (h : Left l fr S (b + 1) v) : LeftP l fr S b [] v := by
  refine ⟨h.1, fun i hi => ⟨(h.2 i hi).1, fun m hm => ?_⟩⟩
  rw [(h.2 i hi).2 m hm]
  simp
theorem LeftP.done {l : List Commit} {fr : List Int} {S : Int} {b : Nat} {v : List Int} {x : Commit} (ht : Topo l) (hx : l[b]? = some x) (h : LeftP l fr S b x.Parents v) : Left l fr S b v := by
  refine ⟨h.1, fun i hi => ⟨(h.2 i hi).1, fun m hm => ?_⟩⟩
  rw [(h.2 i hi).2 m hm, win_step ht hx]
theorem LeftP.step {l : List Commit} {fr : List Int} {S : Int} {b : Nat} {v : List Int} {ps : List Int} {p : Int} (hb : b < l.length) (hps : ∀ q ∈ ps, q < b) (h0 : 0 ≤ p) (hp : p < b) (h : LeftP l fr S b ps v) :
    LeftP l fr S b (ps ++ [p]) (setL v p (max (v.getD p.toNat 0) (v.getD b 0 - 1))) := by
  have hv : p.toNat < v.length := by rw [h.1]; omega
  refine ⟨by unfold setL; rw [List.length_set]; exact h.1, fun i hi => ?_⟩
  rw [getD_setL h0 hv]
  by_cases e : (i : Int) = p
  · rw [if_pos e]
    have ei : p.toNat = i := by omega
    rw [ei]
    refine ⟨by have := (h.2 i hi).1; omega, fun m hm => ?_⟩
    have h1 := (h.2 i hi).2 m hm
    have h2 := (h.2 b hb).2 (m + 1) (by omega)
    have hbb : ¬ (b : Int) ∈ ps := fun hq => by have := hps _ hq; omega
    have : (m ≤ max (v.getD i 0) (v.getD b 0 - 1)) ↔ (m ≤ v.getD i 0 ∨ m + 1 ≤ v.getD b 0) := by omega
    rw [this, h1, h2]
    have hm1 : m + 1 ≤ S → (S - m).toNat = (S - (m + 1)).toNat + 1 := fun _ => by omega
    constructor
    · rintro (⟨ha, hw⟩ | ⟨ha, hw⟩)
      · refine ⟨ha, hw.imp id ?_⟩
        rintro ⟨j, ej, hq, hw⟩
        exact ⟨j, ej, by simp [hq], hw⟩
      · have hw := hw.resolve_right (by rintro ⟨j, _, hq, _⟩; exact hbb hq)
        exact ⟨by omega, .inr ⟨_, hm1 ha, by simp [e], hw⟩⟩
    · rintro ⟨ha, hw | ⟨j, ej, hq, hw⟩⟩
      · exact .inl ⟨ha, .inl hw⟩
      · have hS : m + 1 ≤ S := by omega
        refine .inr ⟨hS, .inl ?_⟩
        rw [show (S - (m + 1)).toNat = j by omega]
        exact hw
  · rw [if_neg e]
    refine ⟨(h.2 i hi).1, fun m hm => ?_⟩
    rw [(h.2 i hi).2 m hm]
    simp [e]
end Go.Proofs.Ytilodamhgepjoaa
