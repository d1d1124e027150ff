/- Sorted lists of numbers: insertion, membership. -/
import Derived.Test.YtoiafcpnhhplnaaPg1
namespace Go.Proofs.Ytoiafcpnhhplnaa
open Go.Fx
set_option linter.unusedVariables false
set_option linter.unusedSimpArgs false
set_option maxRecDepth 20000

/-- A number laid into a sorted list. -/
def insI : List Int → Int → List Int
  | [], n => [n]
  | x :: l, n => if x < n then x :: insI l n else if x = n then x :: l else n :: x :: l
theorem insI_mem : ∀ {l : List Int} {n x : Int}, x ∈ insI l n ↔ x ∈ l ∨ x = n
  | [], n, x => by simp [insI]
  | y :: l, n, x => by
    unfold insI
    split
    · rw [List.mem_cons, List.mem_cons, insI_mem, or_assoc]
    · split
      · rename_i h; subst h; simp only [List.mem_cons]
        constructor
        · exact .inl
        · rintro (h | h)
          · exact h
          · exact .inl h
      · simp only [List.mem_cons]
        constructor
        · rintro (h | h)
          · exact .inr h
          · exact .inl h
        · rintro (h | h)
          · exact .inr h
          · exact .inl h
theorem insI_inc : ∀ {l : List Int} {n : Int}, l.Pairwise (· < ·) → (insI l n).Pairwise (· < ·)
  | [], n, _ => List.pairwise_singleton _ _
  | y :: l, n, h => by
    rw [List.pairwise_cons] at h
    unfold insI
    split
    · rename_i hy
      rw [List.pairwise_cons]
      refine ⟨fun z hz => ?_, insI_inc h.2⟩
      rcases insI_mem.1 hz with hz | rfl
      · exact h.1 z hz
      · exact hy
    · split
      · exact List.pairwise_cons.2 h
      · rename_i h1 h2
        refine List.pairwise_cons.2 ⟨fun z hz => ?_, List.pairwise_cons.2 h⟩
        rcases List.mem_cons.1 hz with rfl | hz
        · omega
        · have := h.1 z hz; omega
theorem insI_ne {l : List Int} {n : Int} : insI l n ≠ [] := fun h => by
  have : n ∈ insI l n := insI_mem.2 (.inr rfl)
  rw [h] at this; simp at this
theorem insI_len {l : List Int} {n : Int} : (insI l n).length ≤ l.length + 1 := by
  induction l with
  | nil => simp [insI]
  | cons y l ih =>
    unfold insI
    split
    · simp only [List.length_cons]; omega
    · split <;> simp only [List.length_cons] <;> omega
theorem Insert_eq {l : List Int} {n : Int} (hs : l.Pairwise (· < ·)) (hl : l.length ≤ 1000) : ref4_Insert.f l n = some (insI l n) := by
  obtain ⟨r, h1, h2, h3⟩ := InsertI_ex l n hs hl
  rw [h1, inc_ext h2 (insI_inc hs) fun x => by rw [h3, insI_mem]]
theorem Clone_eq {l : List Int} (hl : l.length ≤ 1000) : CloneI.f l = some l := if_pos (by omega)
theorem below_le (xs : List Int) (t : Int) : below xs t ≤ xs.length := List.countP_le_length
theorem below_cons (x : Int) (l : List Int) (n : Int) : below (x :: l) n = below l n + (if x < n then 1 else 0) := by
  unfold below
  rw [List.countP_cons]
  simp only [decide_eq_true_eq]
theorem below_zero {l : List Int} {n : Int} (h : ∀ x ∈ l, n ≤ x) : below l n = 0 := by
  unfold below
  rw [List.countP_eq_zero]
  intro x hx
  have := h x hx
  simp only [decide_eq_true_eq]; omega
theorem insI_at : ∀ {l : List Int} {n : Int}, l.Pairwise (· < ·) → ¬ n ∈ l → l.take (below l n) ++ [n] ++ l.drop (below l n) = insI l n
  | [], n, _, _ => rfl
  | x :: l, n, hs, hn => by
    rw [List.pairwise_cons] at hs
    rw [List.mem_cons, not_or] at hn
    unfold insI
    rw [below_cons]
    by_cases h : x < n
    · rw [if_pos h, if_pos h, List.take_succ_cons, List.drop_succ_cons, List.cons_append, List.cons_append, insI_at hs.2 hn.2]
    · rw [if_neg h, if_neg h, if_neg (fun e => hn.1 e.symm), below_zero (fun y hy => by have := hs.1 y hy; omega)]
      rfl
theorem with_eq {l : List Int} {n : Int} (hs : l.Pairwise (· < ·)) (hl : l.length ≤ 1000) : trigram_with.f l n = some (insI l n) := by
  have hb := below_le l n
  have hI : Insert.f l (below l n : Int) [n] = some (l.take (below l n) ++ [n] ++ l.drop (below l n)) := by
    unfold Insert.f
    rw [if_pos ⟨by omega, by omega, hl, by simp⟩, Int.toNat_natCast]
  refine retOf_of ?_
  unfold trigram_with.body
  simp only [WL, trigram_with.retv, trigram_with.r0, trigram_with.r1, trigram_with.r2, trigram_with.r3, trigram_with.r4, BinarySearch_eq l n (by omega) hs, Clone_eq hl, hI]
  refine ⟨fun h => ?_, fun h => ?_⟩
  · exact congrArg Ctl.ret (inc_ext hs (insI_inc hs) fun x => ⟨fun hx => insI_mem.2 (.inl hx), fun hx => (insI_mem.1 hx).elim id fun e => e ▸ h⟩)
  · rw [insI_at hs h]
theorem Contains_eq (xs : List Int) (n : Int) (hl : xs.length ≤ 9223372036854775807) : slices_Contains_int_int.f xs n = some (decide (n ∈ xs)) := by
  have hI : ∃ i : Int, slices_Index_int_int.f xs n = some i ∧ (0 ≤ i ↔ n ∈ xs) := by
    refine retOf_ex ?_
    unfold slices_Index_int_int.body
    simp only [WL, slices_Index_int_int.retv, slices_Index_int_int.r0, slices_Index_int_int.r1, slices_Index_int_int.r2, slices_Index_int_int.r3, slices_Index_int_int.r4, slices_Index_int_int.r5, slices_Index_int_int.r6, slices_Index_int_int.r7]
    refine W_iter (fun s => s.s_0 = xs ∧ s.v_1 = n ∧ s.t_7 = xs.length ∧ ∃ i : Nat, s.t_8 = i ∧ i ≤ xs.length ∧ ∀ j (hj : j < i) (hjl : j < xs.length), xs[j] ≠ n) (fun s => xs.length - s.t_8.toNat) ⟨rfl, rfl, rfl, 0, rfl, by omega, by omega⟩ ?_
    rintro s ⟨e0, e1, e7, i, e8, hi, hno⟩
    simp only [WL, slices_Index_int_int.retv, slices_Index_int_int.r0, slices_Index_int_int.r1, slices_Index_int_int.r2, slices_Index_int_int.r3, slices_Index_int_int.r4, slices_Index_int_int.r5, slices_Index_int_int.r6, slices_Index_int_int.r7, e0, e1, e7, e8]
    refine ⟨fun hlt => ?_, fun hge => ?_⟩
    · have hlt : i < xs.length := by omega
      rw [w64_succ (by omega)]
      refine opt_of (idx_nat' hlt) ⟨fun h => ⟨_, rfl, fun _ => h ▸ List.getElem_mem hlt, fun _ => by omega⟩, fun h => ⟨⟨i + 1, rfl, by omega, fun j hj hjl => ?_⟩, by omega⟩⟩
      by_cases e : j = i
      · subst e; exact fun e => h e.symm
      · exact hno j (by omega) hjl
    · refine ⟨_, rfl, fun h => by omega, fun h => ?_⟩
      obtain ⟨j, hj, e⟩ := List.getElem_of_mem h
      exact absurd e (hno j (by omega) hj)
  obtain ⟨i, h1, h2⟩ := hI
  refine retOf_of ?_
  unfold slices_Contains_int_int.body
  simp only [WL, slices_Contains_int_int.retv, slices_Contains_int_int.r0, slices_Contains_int_int.r1, h1, h2]
/-- Neighbours in order: all in order. -/
theorem pw_of {l : List Int} (h : ∀ k, 0 < k → ∀ (hk : k < l.length), l[k - 1]'(by omega) < l[k]) : l.Pairwise (· < ·) := by
  rw [List.pairwise_iff_getElem]
  have key : ∀ (i d : Nat) (hd : i + d + 1 < l.length), l[i]'(by omega) < l[i + d + 1] := by
    intro i d
    induction d with
    | zero => intro hd; exact h (i + 1) (by omega) hd
    | succ d ih =>
      intro hd
      have h1 := ih (by omega)
      have h2 := h (i + (d + 1) + 1) (by omega) hd
      have e : l[i + (d + 1) + 1 - 1]'(by omega) = l[i + d + 1]'(by omega) := by congr 1
      rw [e] at h2
      omega
  intro i j hi hj hij
  have := key i (j - i - 1) (by omega)
  have e : l[i + (j - i - 1) + 1]'(by omega) = l[j] := by congr 1; omega
  rwa [e] at this
theorem increasing_eq (l : List Int) (hl : l.length ≤ 9223372036854775807) : trigram_increasing.f l = some (decide (l.Pairwise (· < ·))) := by
  refine retOf_of ?_
  unfold trigram_increasing.body
  simp only [WL, trigram_increasing.retv, trigram_increasing.r0, trigram_increasing.r1, trigram_increasing.r2, trigram_increasing.r4, trigram_increasing.r5, trigram_increasing.r3, trigram_increasing.r6]
  refine W_iter (fun s => s.l_0 = l ∧ ∃ i : Nat, s.i_3 = ((i + 1 : Nat) : Int) ∧ (i + 1 ≤ l.length ∨ i = 0) ∧ ∀ k, 0 < k → k < i + 1 → ∀ (hk : k < l.length), l[k - 1]'(by omega) < l[k]) (fun s => l.length - s.i_3.toNat) ⟨rfl, 0, rfl, .inr rfl, by omega⟩ ?_
  rintro s ⟨e0, i, e3, hi, hP⟩
  have hw : (i : Int) + 1 < l.length → w64 (((i + 1 : Nat) : Int) - 1) = ((i : Nat) : Int) := fun h => by rw [w64_id (by omega) (by omega)]; omega
  simp only [WL, trigram_increasing.retv, trigram_increasing.r0, trigram_increasing.r1, trigram_increasing.r2, trigram_increasing.r4, trigram_increasing.r5, trigram_increasing.r3, trigram_increasing.r6, e0, e3]
  refine ⟨fun hlt => ?_, fun hge => ?_⟩
  · have hlt' : i + 1 < l.length := by omega
    rw [hw (by omega)]
    refine opt_of (idx_nat' (by omega)) (opt_of (idx_nat' hlt') ⟨fun h => ?_, fun h => ?_⟩)
    · rw [decide_eq_false]
      intro hp
      have := List.pairwise_iff_getElem.1 hp i (i + 1) (by omega) hlt' (by omega)
      omega
    · rw [w64_succ (by omega)]
      refine ⟨⟨i + 1, rfl, .inl (by omega), fun k hk0 hk hkl => ?_⟩, by omega⟩
      by_cases e : k = i + 1
      · subst e; exact h
      · exact hP k hk0 (by omega) hkl
  · rw [decide_eq_true (pw_of fun k h0 hk => hP k h0 (by omega) hk)]
theorem Increasing_eq (l : List Int) (hl : l.length ≤ 9223372036854775807) : ref4_Increasing.f l = some (decide (l.Pairwise (· < ·))) := by
  refine retOf_of ?_
  unfold ref4_Increasing.body
  simp only [WL, ref4_Increasing.retv, ref4_Increasing.r0, ref4_Increasing.r1, ref4_Increasing.r2, ref4_Increasing.r4, ref4_Increasing.r5, ref4_Increasing.r3, ref4_Increasing.r6]
  refine W_iter (fun s => s.l_0 = l ∧ ∃ i : Nat, s.i_3 = ((i + 1 : Nat) : Int) ∧ (i + 1 ≤ l.length ∨ i = 0) ∧ ∀ k, 0 < k → k < i + 1 → ∀ (hk : k < l.length), l[k - 1]'(by omega) < l[k]) (fun s => l.length - s.i_3.toNat) ⟨rfl, 0, rfl, .inr rfl, by omega⟩ ?_
  rintro s ⟨e0, i, e3, hi, hP⟩
  have hw : (i : Int) + 1 < l.length → w64 (((i + 1 : Nat) : Int) - 1) = ((i : Nat) : Int) := fun h => by rw [w64_id (by omega) (by omega)]; omega
  simp only [WL, ref4_Increasing.retv, ref4_Increasing.r0, ref4_Increasing.r1, ref4_Increasing.r2, ref4_Increasing.r4, ref4_Increasing.r5, ref4_Increasing.r3, ref4_Increasing.r6, e0, e3]
  refine ⟨fun hlt => ?_, fun hge => ?_⟩
  · have hlt' : i + 1 < l.length := by omega
    rw [hw (by omega)]
    refine opt_of (idx_nat' hlt') (opt_of (idx_nat' (by omega)) ⟨fun h => ?_, fun h => ?_⟩)
    · rw [decide_eq_false]
      intro hp
      have := List.pairwise_iff_getElem.1 hp i (i + 1) (by omega) hlt' (by omega)
      omega
    · rw [w64_succ (by omega)]
      refine ⟨⟨i + 1, rfl, .inl (by omega), fun k hk0 hk hkl => ?_⟩, by omega⟩
      by_cases e : k = i + 1
      · subst e; exact h
      · exact hP k hk0 (by omega) hkl
  · rw [decide_eq_true (pw_of fun k h0 hk => hP k h0 (by omega) hk)]
end Go.Proofs.Ytoiafcpnhhplnaa
