/- Index, IndexOf, Add; comparison of indexes. -/
import Derived.Test.YtoiafcpnhhplnaaPg8
namespace Go.Proofs.Ytoiafcpnhhplnaa
open Go.Fx
set_option linter.unusedVariables false
set_option linter.unusedSimpArgs false
set_option maxRecDepth 20000

abbrev noX : TrigramIndex := ⟨[], []⟩
theorem Indexes_eq {a b : TrigramIndex} (hT : a.Texts.length ≤ 9223372036854775807) (hf : Fine a) : ref4_Indexes.f a b = some (decide (a = b)) := by
  have hpl := hf.pl
  refine retOf_of ?_
  unfold ref4_Indexes.body
  simp only [WL, ref4_Indexes.retv, ref4_Indexes.r0, ref4_Indexes.r1, ref4_Indexes.r2, ref4_Indexes.r3, ref4_Indexes.r4, ref4_Indexes.r6, ref4_Indexes.r7, ref4_Indexes.r5, ref4_Indexes.r8, Ints_eq a.Texts b.Texts hT]
  refine ⟨fun h => ?_, fun h => ?_⟩
  · rw [decide_eq_false]
    rintro rfl
    rcases h with h | h
    · exact h rfl
    · exact h rfl
  obtain ⟨h1, h2⟩ := h
  have h2 : a.Postings.length = b.Postings.length := by omega
  refine W_iter (fun s => s.a_2 = a ∧ s.b_3 = b ∧ ∃ i : Nat, s.i_5 = i ∧ i ≤ a.Postings.length ∧ ∀ j (hj : j < i) (h : j < a.Postings.length) (h' : j < b.Postings.length), a.Postings[j] = b.Postings[j]) (fun s => a.Postings.length - s.i_5.toNat) ⟨rfl, rfl, 0, rfl, by omega, by omega⟩ ?_
  rintro s ⟨e2, e3, i, e5, hi, hno⟩
  simp only [WL, ref4_Indexes.retv, ref4_Indexes.r0, ref4_Indexes.r1, ref4_Indexes.r2, ref4_Indexes.r3, ref4_Indexes.r4, ref4_Indexes.r6, ref4_Indexes.r7, ref4_Indexes.r5, ref4_Indexes.r8, e2, e3, e5]
  refine ⟨fun hlt => ?_, fun hge => ?_⟩
  · have hlt : i < a.Postings.length := by omega
    have hlt' : i < b.Postings.length := by omega
    refine opt_of (idx_nat' hlt) (opt_of (idx_nat' hlt') ⟨fun h => ?_, fun h => opt_of (idx_nat' hlt) (opt_of (idx_nat' hlt') (opt_of (Ints_eq _ _ (hf.tl _ (List.getElem_mem hlt))) ⟨fun h3 => ?_, fun h3 => ?_⟩))⟩)
    · rw [decide_eq_false]
      rintro rfl
      exact h rfl
    · rw [decide_eq_false]
      rintro rfl
      exact of_decide_eq_false h3 rfl
    · rw [w64_succ (by omega)]
      refine ⟨⟨i + 1, rfl, by omega, fun j hj h4 h5 => ?_⟩, by omega⟩
      by_cases e : j = i
      · subst e
        have h6 := of_decide_eq_true h3
        show (⟨a.Postings[j].Gram, a.Postings[j].Texts⟩ : Posting) = ⟨b.Postings[j].Gram, b.Postings[j].Texts⟩
        rw [h, h6]
      · exact hno j (by omega) h4 h5
  · rw [decide_eq_true]
    have : a.Postings = b.Postings := List.ext_getElem h2 fun j h3 h4 => hno j (by omega) h3 h4
    show (⟨a.Texts, a.Postings⟩ : TrigramIndex) = ⟨b.Texts, b.Postings⟩
    rw [h1, this]
theorem OkX.fine {x : TrigramIndex} (h : OkX x) : Fine x := ⟨by have := h.ps.len; omega, fun p hp => by have := h.ps.tlen h.tr hp; omega⟩
theorem fine_nil : Fine noX := OkX.nil.fine
def tsF (texts : List ByteArray) (i : Nat) : Option Fault := if 400 < (texts.getD i ByteArray.empty).size then some ⟨10, i⟩ else none
/-- What is wrong with texts. -/
def xtF (texts : List ByteArray) : Fault := if 20 < texts.length then ⟨2, -1⟩ else ((List.range texts.length).findSome? (tsF texts)).getD ⟨0, 0⟩
theorem xtF_ok {texts : List ByteArray} (h : (xtF texts).Code = 0) : texts.length ≤ 20 ∧ ∀ i (hi : i < texts.length), texts[i].size ≤ 400 := by
  unfold xtF at h
  split at h
  · cases h
  rename_i h20
  refine ⟨by omega, ?_⟩
  cases h1 : (List.range texts.length).findSome? (tsF texts) with
  | some f =>
    rw [h1] at h
    obtain ⟨j, hj, hf⟩ := List.exists_of_findSome?_eq_some h1
    unfold tsF at hf
    split at hf
    · cases hf; cases h
    · cases hf
  | none =>
    intro i hi
    have := fs_all h1 i hi
    unfold tsF at this
    rw [gd hi] at this
    split at this
    · cases this
    · omega
theorem xtF_zero {texts : List ByteArray} (h : (xtF texts).Code = 0) : xtF texts = ⟨0, 0⟩ := by
  obtain ⟨h1, h2⟩ := xtF_ok h
  unfold xtF
  rw [if_neg (by omega), fs_none]
  · rfl
  · intro i hi
    have := h2 i hi
    unfold tsF
    rw [gd hi, if_neg (by omega)]
theorem textsFault_eq (texts : List ByteArray) : law4_textsFault.f texts = some (xtF texts) := by
  refine retOf_of ?_
  unfold law4_textsFault.body
  simp only [WL, law4_textsFault.retv, law4_textsFault.r0, law4_textsFault.r1, law4_textsFault.r2, law4_textsFault.r3, law4_textsFault.r4, law4_textsFault.r6, law4_textsFault.r7, law4_textsFault.r5, law4_textsFault.r8, Fault_eq]
  refine ⟨fun h => ?_, fun hlen => ?_⟩
  · unfold xtF; rw [if_pos (by omega)]
  refine W_iter (fun s => s.texts_0 = texts ∧ ∃ i : Nat, s.i_3 = i ∧ i ≤ texts.length ∧ ∀ j, j < i → tsF texts j = none) (fun s => texts.length - s.i_3.toNat) ⟨rfl, 0, rfl, by omega, by omega⟩ ?_
  rintro s ⟨e0, i, e3, hi, hno⟩
  simp only [WL, law4_textsFault.retv, law4_textsFault.r0, law4_textsFault.r1, law4_textsFault.r2, law4_textsFault.r3, law4_textsFault.r4, law4_textsFault.r6, law4_textsFault.r7, law4_textsFault.r5, law4_textsFault.r8, e0, e3, Fault_eq]
  have hx : xtF texts = ((List.range texts.length).findSome? (tsF texts)).getD ⟨0, 0⟩ := by unfold xtF; rw [if_neg (by omega)]
  refine ⟨fun hlt => ?_, fun hge => ?_⟩
  · have hlt : i < texts.length := by omega
    refine opt_of (idx_nat' hlt) ⟨fun h => ?_, fun h => ?_⟩
    · rw [hx, fs_some hno hlt (show tsF texts i = some ⟨10, i⟩ by unfold tsF; rw [gd hlt, if_pos (by omega)])]; rfl
    · rw [w64_succ (by omega)]
      refine ⟨⟨i + 1, rfl, by omega, fun j hj => ?_⟩, by omega⟩
      by_cases e : j = i
      · subst e; unfold tsF; rw [gd hlt, if_neg (by omega)]
      · exact hno j (by omega)
  · have : i = texts.length := by omega
    subst this
    rw [hx, fs_none hno]; rfl
/-- The first i texts' index. -/
def idxN (texts : List ByteArray) : Nat → TrigramIndex
  | 0 => noX
  | i + 1 => addM (idxN texts i) i (texts.getD i ByteArray.empty)
theorem idxN_ok (texts : List ByteArray) : ∀ {i : Nat}, i ≤ 20 → OkX (idxN texts i)
  | 0, _ => OkX.nil
  | i + 1, h => addM_ok (idxN_ok texts (by omega)) (by omega)
theorem Index_eq (texts : List ByteArray) : trigram_Index.f texts = some (if (xtF texts).Code = 0 then idxN texts texts.length else noX, xtF texts) := by
  refine retOf_of ?_
  unfold trigram_Index.body
  simp only [WL, trigram_Index.retv, trigram_Index.r0, trigram_Index.r1, trigram_Index.r2, trigram_Index.r3, trigram_Index.r4, trigram_Index.r5, trigram_Index.r6, trigram_Index.r7, trigram_Index.r8, trigram_Index.r9, trigram_Index.r10, trigram_Index.r11, trigram_Index.r12, trigram_Index.r13, trigram_Index.r14, trigram_Index.r15]
  refine ⟨fun h => ?_, fun hlen => ?_⟩
  · have hx : xtF texts = ⟨2, -1⟩ := by unfold xtF; rw [if_pos (by omega)]
    rw [hx, if_neg (by decide)]
  refine W_iter (fun s => s.texts_0 = texts ∧ s.t_14 = texts ∧ s.t_15 = texts.length ∧ ∃ i : Nat, s.t_16 = i ∧ i ≤ texts.length ∧ ∀ j, j < i → tsF texts j = none) (fun s => texts.length - s.t_16.toNat) ⟨rfl, rfl, rfl, 0, rfl, by omega, by omega⟩ ?_
  rintro s ⟨e0, e14, e15, i, e16, hi, hno⟩
  simp only [WL, trigram_Index.retv, trigram_Index.r0, trigram_Index.r1, trigram_Index.r2, trigram_Index.r3, trigram_Index.r4, trigram_Index.r5, trigram_Index.r6, trigram_Index.r7, trigram_Index.r8, trigram_Index.r9, trigram_Index.r10, trigram_Index.r11, trigram_Index.r12, trigram_Index.r13, trigram_Index.r14, trigram_Index.r15, e0, e14, e15, e16]
  have hx : xtF texts = ((List.range texts.length).findSome? (tsF texts)).getD ⟨0, 0⟩ := by unfold xtF; rw [if_neg (by omega)]
  refine ⟨fun hlt => ?_, fun hge => ?_⟩
  · have hlt : i < texts.length := by omega
    refine opt_of (idx_nat' hlt) ⟨fun h => ?_, fun h => ?_⟩
    · have hx2 : xtF texts = ⟨10, i⟩ := by rw [hx, fs_some hno hlt (show tsF texts i = some ⟨10, i⟩ by unfold tsF; rw [gd hlt, if_pos (by omega)])]; rfl
      rw [hx2, if_neg (show ¬ (10 : Int) = 0 by decide)]
    · rw [w64_succ (by omega)]
      refine ⟨⟨i + 1, rfl, by omega, fun j hj => ?_⟩, by omega⟩
      by_cases e : j = i
      · subst e; unfold tsF; rw [gd hlt, if_neg (by omega)]
      · exact hno j (by omega)
  · have : i = texts.length := by omega
    subst this
    have hx2 : xtF texts = ⟨0, 0⟩ := by rw [hx, fs_none hno]; rfl
    have hsz := (xtF_ok (by rw [hx2])).2
    rw [hx2, if_pos rfl]
    refine W_iter (fun s => s.t_29 = texts ∧ s.t_30 = texts.length ∧ ∃ i : Nat, s.t_31 = i ∧ i ≤ texts.length ∧ s.out_6 = idxN texts i) (fun s => texts.length - s.t_31.toNat) ⟨rfl, rfl, 0, rfl, by omega, rfl⟩ ?_
    rintro s ⟨e29, e30, i, e31, hi, e6⟩
    simp only [WL, trigram_Index.retv, trigram_Index.r0, trigram_Index.r1, trigram_Index.r2, trigram_Index.r3, trigram_Index.r4, trigram_Index.r5, trigram_Index.r6, trigram_Index.r7, trigram_Index.r8, trigram_Index.r9, trigram_Index.r10, trigram_Index.r11, trigram_Index.r12, trigram_Index.r13, trigram_Index.r14, trigram_Index.r15, e29, e30, e31, e6]
    refine ⟨fun hlt => ?_, fun hge => ?_⟩
    · have hlt : i < texts.length := by omega
      have := hsz i hlt
      refine opt_of (idx_nat' hlt) (opt_of (add_eq (idxN_ok texts (by omega)) (by omega) (by omega)) ?_)
      rw [w64_succ (by omega)]
      refine ⟨⟨i + 1, rfl, by omega, ?_⟩, by omega⟩
      show _ = addM _ _ _
      rw [gd hlt]
    · have : i = texts.length := by omega
      subst this; rfl
def nums (n : Nat) : List Int := (List.range n).map Int.ofNat
theorem nums_len (n : Nat) : (nums n).length = n := by simp [nums]
theorem nums_get {n i : Nat} (h : i < (nums n).length) : (nums n)[i] = (i : Int) := by simp [nums]
theorem nums_succ (n : Nat) : nums (n + 1) = nums n ++ [(n : Int)] := by unfold nums; rw [List.range_succ, List.map_append]; rfl
theorem numbers_eq {n : Nat} (hn : n ≤ 1000) : law4_numbers.f (n : Int) = some (nums n) := by
  refine retOf_of ?_
  unfold law4_numbers.body
  simp only [WL, law4_numbers.retv, law4_numbers.r0, law4_numbers.r1, law4_numbers.r2, law4_numbers.r3, law4_numbers.r5, law4_numbers.r4, law4_numbers.r6]
  refine W_iter (fun s => s.n_0 = n ∧ ∃ i : Nat, s.i_4 = i ∧ i ≤ n ∧ s.l_3 = nums i) (fun s => n - s.i_4.toNat) ⟨rfl, 0, rfl, by omega, rfl⟩ ?_
  rintro s ⟨e0, i, e4, hi, e3⟩
  simp only [WL, law4_numbers.retv, law4_numbers.r0, law4_numbers.r1, law4_numbers.r2, law4_numbers.r3, law4_numbers.r5, law4_numbers.r4, law4_numbers.r6, e0, e4, e3]
  refine ⟨fun hlt => ?_, fun hge => ?_⟩
  · refine opt_of (appI (by rw [nums_len]; simp; omega)) ?_
    rw [w64_succ (by omega)]
    refine ⟨⟨i + 1, rfl, by omega, ?_⟩, by omega⟩
    rw [nums_succ]
  · have : i = n := by omega
    subst this; rfl
theorem IndexOf_eq {texts : List ByteArray} (h20 : texts.length ≤ 20) (hsz : ∀ i (hi : i < texts.length), texts[i].size ≤ 400) : ref4_IndexOf.f (nums texts.length) texts = some (idxN texts texts.length) := by
  have hnl : (nums texts.length).length = texts.length := nums_len _
  refine retOf_of ?_
  unfold ref4_IndexOf.body
  simp only [WL, ref4_IndexOf.retv, ref4_IndexOf.r0, ref4_IndexOf.r1, ref4_IndexOf.r2, ref4_IndexOf.r3, ref4_IndexOf.r5, ref4_IndexOf.r6, ref4_IndexOf.r7, ref4_IndexOf.r9, ref4_IndexOf.r8, ref4_IndexOf.r4, ref4_IndexOf.r10]
  refine W_iter (fun s => s.numbers_0 = (nums texts.length) ∧ s.texts_1 = texts ∧ ∃ i : Nat, s.i_6 = i ∧ i ≤ texts.length ∧ s.x_5 = idxN texts i) (fun s => texts.length - s.i_6.toNat) ⟨rfl, rfl, 0, rfl, by omega, rfl⟩ ?_
  rintro s ⟨e0, e1, i, e6, hi, e5⟩
  have hI := idxN_ok texts (i := i) (by omega)
  have hIl := hI.len
  simp only [WL, ref4_IndexOf.retv, ref4_IndexOf.r0, ref4_IndexOf.r1, ref4_IndexOf.r2, ref4_IndexOf.r3, ref4_IndexOf.r5, ref4_IndexOf.r6, ref4_IndexOf.r7, ref4_IndexOf.r9, ref4_IndexOf.r8, ref4_IndexOf.r4, ref4_IndexOf.r10, e0, e1, e6, e5, hnl]
  refine ⟨fun hlt => ?_, fun hge => ?_⟩
  · have hlt : i < texts.length := by omega
    have hlt2 : i < (nums texts.length).length := by rw [hnl]; exact hlt
    have hni : (nums texts.length)[i] = (i : Int) := nums_get hlt2
    have hti := hsz i hlt
    have hTr := insI_r hI.tr (n := (i : Int)) (by omega)
    have hnT : (i : Int) ∈ insI (idxN texts i).Texts i := insI_mem.2 (.inr rfl)
    have hP0 : OkP (insI (idxN texts i).Texts i) (idxN texts i).Postings := hI.ps.mono fun m hm => insI_mem.2 (.inl hm)
    refine opt_of (idx_nat' hlt2) ?_
    rw [hni]
    refine opt_of (Insert_eq hI.ti (by omega)) ?_
    refine W_iter (fun s => s.numbers_0 = (nums texts.length) ∧ s.texts_1 = texts ∧ s.i_6 = i ∧ ∃ j : Nat, s.k_7 = j ∧ (j + 2 ≤ texts[i].size ∨ j = 0) ∧ s.x_5 = ⟨insI (idxN texts i).Texts i, posts ((tri texts[i]).take j) i (idxN texts i).Postings⟩) (fun s => texts[i].size - s.k_7.toNat) ⟨rfl, rfl, rfl, 0, rfl, .inr rfl, rfl⟩ ?_
    rintro s ⟨e0, e1, e6, j, e7, hj, e5⟩
    have hPj : OkP (insI (idxN texts i).Texts i) (posts ((tri texts[i]).take j) i (idxN texts i).Postings) := posts_ok hnT (fun g hg => tri_size (List.mem_of_mem_take hg)) hP0
    have hw : w64 ((j : Int) + 3) = ((j + 3 : Nat) : Int) := by rw [w64_id (by omega) (by omega)]; omega
    simp only [WL, ref4_IndexOf.retv, ref4_IndexOf.r0, ref4_IndexOf.r1, ref4_IndexOf.r2, ref4_IndexOf.r3, ref4_IndexOf.r5, ref4_IndexOf.r6, ref4_IndexOf.r7, ref4_IndexOf.r9, ref4_IndexOf.r8, ref4_IndexOf.r4, ref4_IndexOf.r10, e0, e1, e6, e7, e5]
    refine opt_of (idx_nat' hlt) ⟨fun hk => ?_, fun hk => ?_⟩
    · rw [hw] at hk
      have hk : j + 3 ≤ texts[i].size := by omega
      have hjt : j < (tri texts[i]).length := by rw [tri_len]; omega
      have hg : (tri texts[i])[j] = texts[i].extract j (j + 3) := by simp [tri]
      refine opt_of (idx_nat' hlt) (opt_of (cut3 hk (by omega)) (opt_of (idx_nat' hlt2) ?_))
      rw [hni]
      refine opt_of (post_eq hPj hTr (by rw [ext_size (by omega) (by omega)]; omega)) ?_
      rw [w64_succ (by omega)]
      refine ⟨⟨j + 1, rfl, by omega, ?_⟩, by omega⟩
      rw [posts_take hjt, hg]
    · rw [hw] at hk
      rw [w64_succ (by omega), List.take_of_length_le (by rw [tri_len]; omega)]
      refine ⟨⟨i + 1, rfl, by omega, ?_⟩, by omega⟩
      show _ = addM _ _ _
      rw [gd hlt]; rfl
  · have : i = texts.length := by omega
    subst this; rfl
/-- Add. -/
def AddR (x : TrigramIndex) (n : Int) (t : ByteArray) : TrigramIndex × Fault :=
  if ¬ xFault x = ⟨0, 0⟩ then (noX, xFault x) else if n < 0 ∨ 20 ≤ n then (noX, ⟨3, -1⟩) else if n ∈ x.Texts then (noX, ⟨7, -1⟩) else if 400 < t.size then (noX, ⟨10, -1⟩) else (addM x n t, ⟨0, 0⟩)
theorem Add_eq {x : TrigramIndex} (hf : Fine x) (n : Int) (t : ByteArray) : trigram_Add.f x n t = some (AddR x n t) := by
  refine retOf_of ?_
  unfold trigram_Add.body
  have h20 : xFault x = ⟨0, 0⟩ → x.Texts.length ≤ 20 := fun h => (okX (by rw [h])).len
  simp only [WL, trigram_Add.retv, trigram_Add.r0, trigram_Add.r1, trigram_Add.r2, trigram_Add.r3, trigram_Add.r4, trigram_Add.r5, trigram_Add.r6, trigram_Add.r7, trigram_Add.r8, trigram_Add.r9, trigram_Add.r10, Validate_eq hf]
  refine ⟨fun h => ?_, fun h => ?_⟩
  · unfold AddR; rw [if_pos h]
  have hX := okX (x := x) (by rw [h])
  have hl := hX.len
  simp only [WL, Contains_eq x.Texts n (by omega)]
  refine ⟨fun h1 => ?_, fun h1 => ⟨fun h2 => ?_, fun h2 => ⟨fun h3 => ?_, fun h3 => ?_⟩⟩⟩
  · unfold AddR; rw [if_neg (fun e => e h), if_pos h1]
  · unfold AddR; rw [if_neg (fun e => e h), if_neg (by omega), if_pos h2]
  · unfold AddR; rw [if_neg (fun e => e h), if_neg (by omega), if_neg h2, if_pos (by omega)]
  · refine opt_of (add_eq hX (by omega) (by omega)) ?_
    unfold AddR; rw [if_neg (fun e => e h), if_neg (by omega), if_neg h2, if_neg (by omega)]
end Go.Proofs.Ytoiafcpnhhplnaa
