/- TrigramIncremental, the plain part. -/
import Derived.Test.YtoiafcpnhhplnaaPg14
namespace Go.Proofs.Ytoiafcpnhhplnaa
open Go.Fx Go.RowKit
set_option linter.unusedVariables false
set_option linter.unusedSimpArgs false
set_option maxRecDepth 20000
theorem AddR_ok {x : TrigramIndex} {n : Int} {t : ByteArray} (hX : OkX x) (h0 : 0 ≤ n ∧ n < 20) (hn : ¬ n ∈ x.Texts) (ht : t.size ≤ 400) : AddR x n t = (addM x n t, ⟨0, 0⟩) := by
  unfold AddR; rw [if_neg (fun e => e (xFault_ok hX)), if_neg (by omega), if_neg hn, if_neg (by omega)]
/-- The text that comes at step j, from s downwards and around. -/
def nj (s L j : Nat) : Nat := if j ≤ s then s - j else s + L - j
theorem nj_mod {s L j : Nat} (hs : s < L) (hj : j < L) : (s + L - j) % L = nj s L j := by
  unfold nj
  split
  · rw [show s + L - j = s - j + L by omega, Nat.add_mod_right, Nat.mod_eq_of_lt (by omega)]
  · rw [Nat.mod_eq_of_lt (by omega)]
theorem nj_lt {s L j : Nat} (hs : s < L) (hj : j < L) : nj s L j < L := by unfold nj; split <;> omega
theorem nj_inj {s L i j : Nat} (hs : s < L) (hi : i < L) (hj : j < L) (h : nj s L i = nj s L j) : i = j := by
  unfold nj at h; split at h <;> split at h <;> omega
theorem nj_surj {s L k : Nat} (hs : s < L) (hk : k < L) : ∃ j, j < L ∧ nj s L j = k := by
  by_cases h : k ≤ s
  · exact ⟨s - k, by omega, by unfold nj; rw [if_pos (by omega)]; omega⟩
  · exact ⟨s + L - k, by omega, by unfold nj; rw [if_neg (by omega)]; omega⟩
/-- The index behind i steps. -/
structure St (texts : List ByteArray) (s i : Nat) (x : TrigramIndex) : Prop where
  ok : OkX x
  mem : ∀ m, m ∈ x.Texts ↔ ∃ j, j < i ∧ m = (nj s texts.length j : Int)
  rel : ∀ g m, Rel x.Postings g m ↔ ∃ j, j < i ∧ m = (nj s texts.length j : Int) ∧ g ∈ tri (texts.getD (nj s texts.length j) ByteArray.empty)
theorem St.next {texts : List ByteArray} {s i : Nat} {x : TrigramIndex} (h : St texts s i x) (hs : s < texts.length) (hi : i < texts.length) (h20 : texts.length ≤ 20) : ¬ ((nj s texts.length i : Nat) : Int) ∈ x.Texts ∧ St texts s (i + 1) (addM x (nj s texts.length i) (texts.getD (nj s texts.length i) ByteArray.empty)) := by
  have hl := nj_lt hs hi
  constructor
  · intro hm
    obtain ⟨j, hj, e⟩ := (h.mem _).1 hm
    have := nj_inj hs hi (by omega : j < texts.length) (by omega)
    omega
  · refine ⟨addM_ok h.ok (by omega), fun m => ?_, fun g m => ?_⟩
    · rw [addM_mem, h.mem]
      constructor
      · rintro (⟨j, hj, e⟩ | e)
        · exact ⟨j, by omega, e⟩
        · exact ⟨i, by omega, e⟩
      · rintro ⟨j, hj, e⟩
        by_cases hk : j = i
        · subst hk; exact .inr e
        · exact .inl ⟨j, by omega, e⟩
    · rw [addM_rel, h.rel]
      constructor
      · rintro (⟨j, hj, e⟩ | ⟨hg, e⟩)
        · exact ⟨j, by omega, e⟩
        · exact ⟨i, by omega, e, hg⟩
      · rintro ⟨j, hj, e, hg⟩
        by_cases hk : j = i
        · subst hk; exact .inr ⟨hg, e⟩
        · exact .inl ⟨j, by omega, e, hg⟩
theorem St.last {texts : List ByteArray} {s : Nat} {x : TrigramIndex} (h : St texts s texts.length x) (hs : s < texts.length) (h20 : texts.length ≤ 20) : x = idxN texts texts.length := by
  refine h.ok.ext (idxN_ok texts h20) (fun m => ?_) (fun g m => ?_)
  · rw [h.mem, idxN_mem]
    constructor
    · rintro ⟨j, hj, e⟩; exact ⟨_, nj_lt hs hj, e⟩
    · rintro ⟨k, hk, e⟩
      obtain ⟨j, hj, e2⟩ := nj_surj hs hk
      exact ⟨j, hj, by rw [e2]; exact e⟩
  · rw [h.rel, idxN_rel]
    constructor
    · rintro ⟨j, hj, e⟩; exact ⟨_, nj_lt hs hj, e⟩
    · rintro ⟨k, hk, e⟩
      obtain ⟨j, hj, e2⟩ := nj_surj hs hk
      exact ⟨j, hj, by rw [e2]; exact e⟩
end Go.Proofs.Ytoiafcpnhhplnaa
namespace Go.Proofs.Ytoiafcpnhhplnaa.Pure
open Go.Fx Go.RowKit
set_option linter.unusedVariables false
set_option linter.unusedSimpArgs false
set_option maxRecDepth 20000
theorem TrigramIncremental {texts : List ByteArray} {start : Int} (h1 : okL okS texts) (h2 : okI .i64 start) : law4_TrigramIncremental.f texts start = some true := by
  have hI := Index_eq texts
  have hw : w64 ((texts.length : Int) - 1) = (texts.length : Int) - 1 := w64_id (by omega) (by have := h1.1; omega)
  refine retOf_of ?_
  unfold law4_TrigramIncremental.body
  rcases Classical.em (¬ (xtF texts).Code = 0) with hc | hc
  · rw [if_neg hc] at hI
    have hX := Indexes_eq (a := noX) (b := noX) (by decide) fine_nil
    simp only [WL, law4_TrigramIncremental.retv, law4_TrigramIncremental.r0, law4_TrigramIncremental.r1, law4_TrigramIncremental.r2, law4_TrigramIncremental.r3, law4_TrigramIncremental.r4, law4_TrigramIncremental.r5, law4_TrigramIncremental.r6, law4_TrigramIncremental.r7, law4_TrigramIncremental.r8, law4_TrigramIncremental.r10, law4_TrigramIncremental.r11, law4_TrigramIncremental.r12, law4_TrigramIncremental.r13, law4_TrigramIncremental.r14, law4_TrigramIncremental.r9, law4_TrigramIncremental.r15, example_eq, hI, hX, In_eq, hw, hc]
    simp
  have hc := Classical.not_not.1 hc
  obtain ⟨h20, hsz⟩ := xtF_ok hc
  rw [if_pos hc] at hI
  have hO := idxN_ok texts (i := texts.length) h20
  rcases Classical.em (0 ≤ start ∧ start ≤ (texts.length : Int) - 1) with hst | hst
  · obtain ⟨s0, rfl⟩ : ∃ s0 : Nat, start = s0 := ⟨start.toNat, by omega⟩
    have hs0 : s0 < texts.length := by omega
    have hd : decide (0 ≤ (s0 : Int) ∧ (s0 : Int) ≤ (texts.length : Int) - 1) = true := decide_eq_true hst
    simp only [WL, law4_TrigramIncremental.retv, law4_TrigramIncremental.r0, law4_TrigramIncremental.r1, law4_TrigramIncremental.r2, law4_TrigramIncremental.r3, law4_TrigramIncremental.r4, law4_TrigramIncremental.r5, law4_TrigramIncremental.r6, law4_TrigramIncremental.r7, law4_TrigramIncremental.r8, law4_TrigramIncremental.r10, law4_TrigramIncremental.r11, law4_TrigramIncremental.r12, law4_TrigramIncremental.r13, law4_TrigramIncremental.r14, law4_TrigramIncremental.r9, law4_TrigramIncremental.r15, example_eq, hI, In_eq, hw, hc, hd]
    refine ⟨fun h => absurd hst h, fun _ => ?_⟩
    refine W_iter (fun s => s.t_0 = texts ∧ s.t_1 = s0 ∧ s.t_5 = idxN texts texts.length ∧ ∃ i : Nat, s.t_8 = i ∧ i ≤ texts.length ∧ St texts s0 i s.t_7) (fun s => texts.length - s.t_8.toNat) ⟨rfl, rfl, rfl, 0, rfl, by omega, OkX.nil, fun m => ⟨fun h => by simp at h, fun ⟨j, h, _⟩ => by omega⟩, fun g m => ⟨fun h => (rel_nil.1 h).elim, fun ⟨j, h, _⟩ => by omega⟩⟩ ?_
    rintro s ⟨e0, e1, e5, i, e8, hi, hS⟩
    have hF := hS.ok.fine
    simp only [WL, law4_TrigramIncremental.retv, law4_TrigramIncremental.r0, law4_TrigramIncremental.r1, law4_TrigramIncremental.r2, law4_TrigramIncremental.r3, law4_TrigramIncremental.r4, law4_TrigramIncremental.r5, law4_TrigramIncremental.r6, law4_TrigramIncremental.r7, law4_TrigramIncremental.r8, law4_TrigramIncremental.r10, law4_TrigramIncremental.r11, law4_TrigramIncremental.r12, law4_TrigramIncremental.r13, law4_TrigramIncremental.r14, law4_TrigramIncremental.r9, law4_TrigramIncremental.r15, e0, e1, e5, e8]
    refine ⟨fun hlt => ⟨fun hne => ?_, fun h => by omega⟩, fun hge => ?_⟩
    · have hlt : i < texts.length := by omega
      have hn : Int.tmod (w64 (w64 ((s0 : Int) + (texts.length : Int)) - (i : Int))) (texts.length : Int) = ((nj s0 texts.length i : Nat) : Int) := by
        rw [w64_id (n := (s0 : Int) + (texts.length : Int)) (by omega) (by omega), w64_id (by omega) (by omega), ← nj_mod hs0 hlt, Int.tmod_eq_emod_of_nonneg (by omega), Int.natCast_emod]
        congr 1
        omega
      have hl := nj_lt hs0 hlt
      obtain ⟨hN, hS'⟩ := hS.next hs0 hlt h20
      have hA := Add_eq hF ((nj s0 texts.length i : Nat) : Int) texts[nj s0 texts.length i]
      rw [AddR_ok hS.ok (by omega) hN (hsz _ hl)] at hA
      rw [gd hl] at hS'
      rw [hn]
      refine opt_of (idx_nat' hl) (opt_of hA ?_)
      rw [w64_succ (by omega)]
      exact ⟨fun h => absurd rfl h, fun _ => ⟨⟨i + 1, rfl, by omega, hS'⟩, by omega⟩⟩
    · have : i = texts.length := by omega
      subst this
      have hE := hS.last hs0 h20
      rw [hE]
      refine opt_of (Indexes_eq (by have := hO.len; omega) hO.fine) ?_
      rw [decide_eq_true rfl]
  · have hd : decide (0 ≤ start ∧ start ≤ (texts.length : Int) - 1) = false := decide_eq_false hst
    simp only [WL, law4_TrigramIncremental.retv, law4_TrigramIncremental.r0, law4_TrigramIncremental.r1, law4_TrigramIncremental.r2, law4_TrigramIncremental.r3, law4_TrigramIncremental.r4, law4_TrigramIncremental.r5, law4_TrigramIncremental.r6, law4_TrigramIncremental.r7, law4_TrigramIncremental.r8, law4_TrigramIncremental.r10, law4_TrigramIncremental.r11, law4_TrigramIncremental.r12, law4_TrigramIncremental.r13, law4_TrigramIncremental.r14, law4_TrigramIncremental.r9, law4_TrigramIncremental.r15, example_eq, hI, In_eq, hw, hc, hd]
    simp
    intro a b
    exact absurd ⟨a, b⟩ hst
end Go.Proofs.Ytoiafcpnhhplnaa.Pure
