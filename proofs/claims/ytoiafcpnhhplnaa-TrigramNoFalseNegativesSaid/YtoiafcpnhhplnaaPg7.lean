/- What is wrong with an index: the program's word and the reference's. -/
import Derived.Test.YtoiafcpnhhplnaaPg6
namespace Go.Proofs.Ytoiafcpnhhplnaa
open Go.Fx
set_option linter.unusedVariables false
set_option linter.unusedSimpArgs false
set_option maxRecDepth 20000

def p0 : Posting := ⟨ByteArray.empty, []⟩
theorem gd {α : Type} {l : List α} {i : Nat} {d : α} (h : i < l.length) : l.getD i d = l[i] := by simp [List.getD, h]
def tF (ts : List Int) (i : Nat) : Option Fault :=
  if ts.getD i 0 < 0 ∨ 20 ≤ ts.getD i 0 then some ⟨3, -2 - i⟩ else if 0 < i ∧ ts.getD i 0 ≤ ts.getD (i - 1) 0 then some ⟨5, -2 - i⟩ else none
def pF (x : TrigramIndex) (i : Nat) : Option Fault :=
  if (x.Postings.getD i p0).Gram.size ≠ 3 then some ⟨9, i⟩
  else if (0 < i ∧ gv (x.Postings.getD i p0).Gram ≤ gv (x.Postings.getD (i - 1) p0).Gram) ∨ (x.Postings.getD i p0).Texts = [] ∨ ¬ (x.Postings.getD i p0).Texts.Pairwise (· < ·) then some ⟨5, i⟩
  else if ∃ n ∈ (x.Postings.getD i p0).Texts, ¬ n ∈ x.Texts then some ⟨6, i⟩ else none
/-- What is wrong with an index. -/
def xFault (x : TrigramIndex) : Fault :=
  if 20 < x.Texts.length then ⟨2, -1⟩ else ((List.range x.Texts.length).findSome? (tF x.Texts)).getD (((List.range x.Postings.length).findSome? (pF x)).getD ⟨0, 0⟩)
theorem pF_size {x : TrigramIndex} {i : Nat} (h : pF x i = none) : (x.Postings.getD i p0).Gram.size = 3 := by
  unfold pF at h
  split at h
  · cases h
  · rename_i h1; exact Classical.not_not.1 h1
structure Fine (x : TrigramIndex) : Prop where
  pl : x.Postings.length ≤ 9223372036854775807
  tl : ∀ p ∈ x.Postings, p.Texts.length ≤ 9223372036854775807
theorem ContainsFunc_eq (xs : List Int) (p : Int → Bool) (hl : xs.length ≤ 9223372036854775807) : slices_ContainsFunc_int_int.f xs (fun x => some (p x)) = some (xs.any p) := by
  refine retOf_of ?_
  unfold slices_ContainsFunc_int_int.body
  rcases IndexFunc_ex xs p hl with ⟨i, h1, h2, h3, _⟩ | ⟨h1, h2⟩
  · simp only [WL, slices_ContainsFunc_int_int.retv, slices_ContainsFunc_int_int.r0, slices_ContainsFunc_int_int.r1, h1]
    rw [List.any_eq_true.2 ⟨_, List.getElem_mem h2, h3⟩, decide_eq_true (by omega)]
  · simp only [WL, slices_ContainsFunc_int_int.retv, slices_ContainsFunc_int_int.r0, slices_ContainsFunc_int_int.r1, h1]
    rw [List.any_eq_false.2 (fun y hy => by rw [h2 y hy]; decide)]
    rfl
theorem Validate1_eq {x : TrigramIndex} (h : x.Texts.length ≤ 20) : (fun y => trigram_Validate_1.f y x) = (fun y => some (!decide (y ∈ x.Texts))) := by
  funext y
  refine retOf_of ?_
  unfold trigram_Validate_1.body
  simp only [WL, trigram_Validate_1.retv, trigram_Validate_1.r0, trigram_Validate_1.r1, Contains_eq x.Texts y (by omega)]
theorem Validate_eq {x : TrigramIndex} (hf : Fine x) : trigram_Validate.f x = some (xFault x) := by
  refine retOf_of ?_
  unfold trigram_Validate.body
  simp only [WL, trigram_Validate.retv, trigram_Validate.r0, trigram_Validate.r1, trigram_Validate.r2, trigram_Validate.r3, trigram_Validate.r4, trigram_Validate.r5, trigram_Validate.r6, trigram_Validate.r7, trigram_Validate.r8, trigram_Validate.r9, trigram_Validate.r10, trigram_Validate.r11, trigram_Validate.r12, trigram_Validate.r13, trigram_Validate.r14, trigram_Validate.r15, trigram_Validate.r16, trigram_Validate.r17, trigram_Validate.r18, trigram_Validate.r19, trigram_Validate.r20, trigram_Validate.r21, trigram_Validate.r22, trigram_Validate.r23]
  refine ⟨fun h => ?_, fun hlen => ?_⟩
  · unfold xFault; rw [if_pos (by omega)]
  have hlen' : ¬ 20 < x.Texts.length := by omega
  refine W_iter (fun s => s.t_1 = x ∧ s.t_13 = x.Texts ∧ s.t_14 = x.Texts.length ∧ ∃ i : Nat, s.t_15 = i ∧ i ≤ x.Texts.length ∧ ∀ j, j < i → tF x.Texts j = none) (fun s => x.Texts.length - s.t_15.toNat) ⟨rfl, rfl, rfl, 0, rfl, by omega, by omega⟩ ?_
  rintro s ⟨e1, e13, e14, i, e15, hi, hno⟩
  simp only [WL, trigram_Validate.retv, trigram_Validate.r0, trigram_Validate.r1, trigram_Validate.r2, trigram_Validate.r3, trigram_Validate.r4, trigram_Validate.r5, trigram_Validate.r6, trigram_Validate.r7, trigram_Validate.r8, trigram_Validate.r9, trigram_Validate.r10, trigram_Validate.r11, trigram_Validate.r12, trigram_Validate.r13, trigram_Validate.r14, trigram_Validate.r15, trigram_Validate.r16, trigram_Validate.r17, trigram_Validate.r18, trigram_Validate.r19, trigram_Validate.r20, trigram_Validate.r21, trigram_Validate.r22, trigram_Validate.r23, e1, e13, e14, e15]
  refine ⟨fun hlt => ?_, fun hge => ?_⟩
  · have hlt : i < x.Texts.length := by omega
    have hw : w64 (-2 - (i : Int)) = -2 - (i : Int) := w64_id (by omega) (by omega)
    have hd : ∀ f, tF x.Texts i = some f → xFault x = f := fun f h => by
      unfold xFault; rw [if_neg hlen', fs_some hno hlt h]; rfl
    have hg : x.Texts.getD i 0 = x.Texts[i] := gd hlt
    rw [hw]
    refine opt_of (idx_nat' hlt) ⟨fun h => ?_, fun h => ⟨fun h0 => ?_, fun h0 => ?_⟩⟩
    · rw [hd _ (by unfold tF; rw [if_pos (by omega)])]
    · have hw1 : w64 ((i : Int) - 1) = ((i - 1 : Nat) : Int) := by rw [w64_id (by omega) (by omega)]; omega
      have hg1 : x.Texts.getD (i - 1) 0 = x.Texts[i - 1] := gd (by omega)
      rw [hw1]
      refine opt_of (idx_nat' (by omega)) ⟨fun h1 => ?_, fun h1 => ?_⟩
      · rw [hd _ (by unfold tF; rw [if_neg (by omega), if_pos (by omega)])]
      · rw [w64_succ (by omega)]
        refine ⟨⟨i + 1, rfl, by omega, fun j hj => ?_⟩, by omega⟩
        by_cases e : j = i
        · subst e; unfold tF; rw [if_neg (by omega), if_neg (by omega)]
        · exact hno j (by omega)
    · rw [w64_succ (by omega)]
      refine ⟨⟨i + 1, rfl, by omega, fun j hj => ?_⟩, by omega⟩
      by_cases e : j = i
      · subst e; unfold tF; rw [if_neg (by omega), if_neg (by omega)]
      · exact hno j (by omega)
  · have : i = x.Texts.length := by omega
    subst this
    have hT : xFault x = ((List.range x.Postings.length).findSome? (pF x)).getD ⟨0, 0⟩ := by
      unfold xFault; rw [if_neg hlen', fs_none hno]; rfl
    rw [hT]
    have hpl := hf.pl
    refine W_iter (fun s => s.t_1 = x ∧ s.t_48 = x.Postings ∧ s.t_49 = x.Postings.length ∧ ∃ i : Nat, s.t_50 = i ∧ i ≤ x.Postings.length ∧ ∀ j, j < i → pF x j = none) (fun s => x.Postings.length - s.t_50.toNat) ⟨rfl, rfl, rfl, 0, rfl, by omega, by omega⟩ ?_
    rintro s ⟨e1, e48, e49, i, e50, hi, hno⟩
    simp only [WL, trigram_Validate.retv, trigram_Validate.r0, trigram_Validate.r1, trigram_Validate.r2, trigram_Validate.r3, trigram_Validate.r4, trigram_Validate.r5, trigram_Validate.r6, trigram_Validate.r7, trigram_Validate.r8, trigram_Validate.r9, trigram_Validate.r10, trigram_Validate.r11, trigram_Validate.r12, trigram_Validate.r13, trigram_Validate.r14, trigram_Validate.r15, trigram_Validate.r16, trigram_Validate.r17, trigram_Validate.r18, trigram_Validate.r19, trigram_Validate.r20, trigram_Validate.r21, trigram_Validate.r22, trigram_Validate.r23, e1, e48, e49, e50, Validate1_eq (show x.Texts.length ≤ 20 by omega)]
    refine ⟨fun hlt => ?_, fun hge => ?_⟩
    · have hlt : i < x.Postings.length := by omega
      have hd : ∀ f, pF x i = some f → ((List.range x.Postings.length).findSome? (pF x)).getD ⟨0, 0⟩ = f := fun f h => by rw [fs_some hno hlt h]; rfl
      have hg : x.Postings.getD i p0 = x.Postings[i] := gd hlt
      have htl := hf.tl _ (List.getElem_mem hlt)
      refine opt_of (idx_nat' hlt) ⟨fun h => ?_, fun h3 => ?_⟩
      · rw [hd _ (by unfold pF; rw [hg, if_pos (by omega)])]
      have h3 : x.Postings[i].Gram.size = 3 := by omega
      have f5 : ((0 < i ∧ gv x.Postings[i].Gram ≤ gv (x.Postings.getD (i - 1) p0).Gram) ∨ x.Postings[i].Texts = [] ∨ ¬ x.Postings[i].Texts.Pairwise (· < ·)) → pF x i = some ⟨5, i⟩ := fun h => by
        unfold pF; rw [hg, if_neg (by omega), if_pos h]
      have fin : ¬ ((0 < i ∧ gv x.Postings[i].Gram ≤ gv (x.Postings.getD (i - 1) p0).Gram) ∨ x.Postings[i].Texts = [] ∨ ¬ x.Postings[i].Texts.Pairwise (· < ·)) →
          Opt (slices_ContainsFunc_int_int.f x.Postings[i].Texts fun y => some !decide (y ∈ x.Texts)) fun x_3 =>
            (x_3 = true → (Ctl.ret ⟨6, (i : Int)⟩ : Ctl trigram_Validate.S trigram_Validate.R) = Ctl.ret (((List.range x.Postings.length).findSome? (pF x)).getD ⟨0, 0⟩)) ∧
              (x_3 = false → (∃ i_1 : Nat, w64 ((i : Int) + 1) = i_1 ∧ i_1 ≤ x.Postings.length ∧ ∀ (j : Nat), j < i_1 → pF x j = none) ∧ x.Postings.length - (w64 ((i : Int) + 1)).toNat < x.Postings.length - (i : Int).toNat) := fun h => by
        refine opt_of (ContainsFunc_eq _ _ htl) ⟨fun h6 => ?_, fun h6 => ?_⟩
        · rw [List.any_eq_true] at h6
          obtain ⟨n, hn, h6⟩ := h6
          rw [hd _ (by unfold pF; rw [hg, if_neg (by omega), if_neg h, if_pos ⟨n, hn, by simpa using h6⟩])]
        · rw [List.any_eq_false] at h6
          rw [w64_succ (by omega)]
          refine ⟨⟨i + 1, rfl, by omega, fun j hj => ?_⟩, by omega⟩
          by_cases e : j = i
          · subst e; unfold pF
            rw [hg, if_neg (by omega), if_neg h, if_neg]
            rintro ⟨n, hn, h7⟩
            exact h6 n hn (by simpa using h7)
          · exact hno j (by omega)
      have nl : ((x.Postings[i].Texts.length : Int) = 0) ↔ x.Postings[i].Texts = [] := by rw [← List.length_eq_zero_iff]; omega
      have step : (0 < i → ¬ gv x.Postings[i].Gram ≤ gv (x.Postings.getD (i - 1) p0).Gram) → ¬ x.Postings[i].Texts = [] → x.Postings[i].Texts.Pairwise (· < ·) → ¬ ((0 < i ∧ gv x.Postings[i].Gram ≤ gv (x.Postings.getD (i - 1) p0).Gram) ∨ x.Postings[i].Texts = [] ∨ ¬ x.Postings[i].Texts.Pairwise (· < ·)) := fun a b c h => by
        rcases h with h | h | h
        · exact a h.1 h.2
        · exact b h
        · exact h c
      simp only [nl]
      refine ⟨fun h0 => ?_, fun h0 => ?_⟩
      · have hg1 : x.Postings.getD (i - 1) p0 = x.Postings[i - 1] := gd (by omega)
        have hs1 := pF_size (hno (i - 1) (by omega))
        have hw1 : w64 ((i : Int) - 1) = ((i - 1 : Nat) : Int) := by rw [w64_id (by omega) (by omega)]; omega
        rw [hg1] at hs1
        have hor : (sLess x.Postings[i].Gram x.Postings[i - 1].Gram = true ∨ x.Postings[i].Gram = x.Postings[i - 1].Gram) ↔ gv x.Postings[i].Gram ≤ gv (x.Postings.getD (i - 1) p0).Gram := by
          rw [hg1, sLess_eq h3 hs1, decide_eq_true_eq]
          constructor
          · rintro (h | h)
            · omega
            · rw [h]; exact Nat.le_refl _
          · intro h
            rcases Nat.lt_or_eq_of_le h with h | h
            · exact .inl h
            · exact .inr (gv_inj h3 hs1 h)
        have hand : (sLess x.Postings[i].Gram x.Postings[i - 1].Gram = false ∧ ¬ x.Postings[i].Gram = x.Postings[i - 1].Gram) ↔ ¬ gv x.Postings[i].Gram ≤ gv (x.Postings.getD (i - 1) p0).Gram := by
          rw [← hor, not_or, Bool.not_eq_true]
        rw [hw1]
        refine opt_of (idx_nat' (by omega)) ?_
        simp only [hor, hand]
        refine ⟨fun h1 => ⟨fun _ => ?_, fun h2 => absurd h1 h2⟩, fun h1 => ⟨fun h2 => ⟨fun _ => ?_, fun h4 => absurd h2 h4⟩, fun h2 => opt_of (increasing_eq _ htl) ⟨fun h4 => ?_, fun h4 => fin (step (fun _ => h1) h2 (of_decide_eq_true h4))⟩⟩⟩
        · rw [hd _ (f5 (.inl ⟨by omega, h1⟩))]
        · rw [hd _ (f5 (.inr (.inl h2)))]
        · rw [hd _ (f5 (.inr (.inr (of_decide_eq_false h4))))]
      · have hz : ¬ 0 < i := by omega
        refine ⟨fun h2 => ⟨fun _ => ?_, fun h4 => absurd h2 h4⟩, fun h2 => opt_of (increasing_eq _ htl) ⟨fun h4 => ?_, fun h4 => fin (step (fun h => absurd h hz) h2 (of_decide_eq_true h4))⟩⟩
        · rw [hd _ (f5 (.inr (.inl h2)))]
        · rw [hd _ (f5 (.inr (.inr (of_decide_eq_false h4))))]
    · have : i = x.Postings.length := by omega
      subst this
      rw [fs_none hno]; rfl
end Go.Proofs.Ytoiafcpnhhplnaa
