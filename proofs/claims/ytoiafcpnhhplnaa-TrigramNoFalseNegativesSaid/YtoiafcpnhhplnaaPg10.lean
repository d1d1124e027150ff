/- Remove; candidates. -/
import Derived.Test.YtoiafcpnhhplnaaPg9
namespace Go.Proofs.Ytoiafcpnhhplnaa
open Go.Fx
set_option linter.unusedVariables false
set_option linter.unusedSimpArgs false
set_option maxRecDepth 20000

def noN (n : Int) (l : List Int) : List Int := l.filter fun k => !decide (k = n)
theorem noN_mem {n k : Int} {l : List Int} : k ∈ noN n l ↔ k ∈ l ∧ k ≠ n := by
  unfold noN; rw [List.mem_filter]; simp
theorem noN_len {n : Int} {l : List Int} : (noN n l).length ≤ l.length := List.length_filter_le _ _
def lessP (n : Int) (P : List Posting) : List Posting := (P.map fun p => (⟨p.Gram, noN n p.Texts⟩ : Posting)).filter fun p => decide (0 < p.Texts.length)
/-- An index without a text. -/
def remM (x : TrigramIndex) (n : Int) : TrigramIndex := ⟨noN n x.Texts, lessP n x.Postings⟩
theorem lessP_take {n : Int} {P : List Posting} {i : Nat} (h : i < P.length) : lessP n (P.take (i + 1)) = lessP n (P.take i) ++ (if 0 < (noN n P[i].Texts).length then [⟨P[i].Gram, noN n P[i].Texts⟩] else []) := by
  unfold lessP
  rw [List.take_succ_eq_append_getElem h, List.map_append, List.filter_append]
  congr 1
  simp only [List.map_cons, List.map_nil, List.filter_cons, List.filter_nil, decide_eq_true_eq]
theorem lessP_len (n : Int) (P : List Posting) : (lessP n P).length ≤ P.length := by
  unfold lessP; exact Nat.le_trans (List.length_filter_le _ _) (by rw [List.length_map]; exact Nat.le_refl _)
theorem lessP_mem {n : Int} {P : List Posting} {q : Posting} : q ∈ lessP n P ↔ ∃ p ∈ P, q = ⟨p.Gram, noN n p.Texts⟩ ∧ q.Texts ≠ [] := by
  unfold lessP
  rw [List.mem_filter, List.mem_map, decide_eq_true_eq, List.length_pos_iff]
  constructor
  · rintro ⟨⟨p, hp, e⟩, h⟩; exact ⟨p, hp, e.symm, h⟩
  · rintro ⟨p, hp, e, h⟩; exact ⟨⟨p, hp, e.symm⟩, h⟩
theorem lessP_rel {n : Int} {P : List Posting} {g : ByteArray} {m : Int} : Rel (lessP n P) g m ↔ Rel P g m ∧ m ≠ n := by
  unfold Rel
  constructor
  · rintro ⟨q, hq, e, hm⟩
    obtain ⟨p, hp, rfl, _⟩ := lessP_mem.1 hq
    have := noN_mem.1 hm
    exact ⟨⟨p, hp, e, this.1⟩, this.2⟩
  · rintro ⟨⟨p, hp, e, hm⟩, hn⟩
    have h := noN_mem.2 ⟨hm, hn⟩
    exact ⟨⟨p.Gram, noN n p.Texts⟩, lessP_mem.2 ⟨p, hp, rfl, List.ne_nil_of_mem h⟩, e, h⟩
theorem remM_ok {x : TrigramIndex} {n : Int} (h : OkX x) : OkX (remM x n) := by
  refine ⟨fun m hm => h.tr m (noN_mem.1 hm).1, h.ti.sublist List.filter_sublist, fun q hq => ?_, ?_, fun q hq => ?_, fun q hq => ?_, fun q hq m hm => ?_⟩
  · obtain ⟨p, hp, rfl, _⟩ := lessP_mem.1 hq; exact h.ps.g3 p hp
  · show (lessP n x.Postings).Pairwise _
    unfold lessP
    refine List.Pairwise.sublist List.filter_sublist ?_
    rw [List.pairwise_map]; exact h.ps.gi
  · obtain ⟨p, hp, rfl, h2⟩ := lessP_mem.1 hq; exact h2
  · obtain ⟨p, hp, rfl, h2⟩ := lessP_mem.1 hq; exact (h.ps.ti p hp).sublist List.filter_sublist
  · obtain ⟨p, hp, rfl, h2⟩ := lessP_mem.1 hq
    have := noN_mem.1 hm
    exact noN_mem.2 ⟨h.ps.sub p hp m this.1, this.2⟩
theorem Remove1_eq {l : List Int} (n : Int) (hl : l.length ≤ 1000) : trigram_Remove_1.f l n = some (noN n l) := by
  have h1 : (fun x => trigram_Remove_1_1.f x n) = (fun x => some (decide (x = n))) := by
    funext x
    refine retOf_of ?_
    unfold trigram_Remove_1_1.body
    simp only [WL, trigram_Remove_1_1.retv, trigram_Remove_1_1.r0, trigram_Remove_1_1.r1]
  refine retOf_of ?_
  unfold trigram_Remove_1.body
  simp only [WL, trigram_Remove_1.retv, trigram_Remove_1.r0, trigram_Remove_1.r1, Clone_eq hl, h1, DeleteFunc_eq l _ hl]
  rfl
theorem less_eq {l : List Int} (n : Int) (hl : l.length ≤ 1000) : ref4_less.f l n = some (noN n l) := by
  refine retOf_of ?_
  unfold ref4_less.body
  simp only [WL, ref4_less.retv, ref4_less.r0, ref4_less.r1, ref4_less.r2, ref4_less.r3, ref4_less.r5, ref4_less.r6, ref4_less.r4, ref4_less.r7]
  refine W_iter (fun s => s.l_0 = l ∧ s.n_1 = n ∧ ∃ i : Nat, s.i_6 = i ∧ i ≤ l.length ∧ s.out_5 = noN n (l.take i)) (fun s => l.length - s.i_6.toNat) ⟨rfl, rfl, 0, rfl, by omega, rfl⟩ ?_
  rintro s ⟨e0, e1, i, e6, hi, e5⟩
  simp only [WL, ref4_less.retv, ref4_less.r0, ref4_less.r1, ref4_less.r2, ref4_less.r3, ref4_less.r5, ref4_less.r6, ref4_less.r4, ref4_less.r7, e0, e1, e6, e5]
  have hle : (noN n (l.take i)).length ≤ 1000 := Nat.le_trans noN_len (by rw [List.length_take]; omega)
  refine ⟨fun hlt => ?_, fun hge => ?_⟩
  · have hlt : i < l.length := by omega
    have ht : noN n (l.take (i + 1)) = noN n (l.take i) ++ (if (!decide (l[i] = n)) = true then [l[i]] else []) := take_filter hlt
    rw [w64_succ (by omega)]
    refine opt_of (idx_nat' hlt) ⟨fun h => opt_of (idx_nat' hlt) (opt_of (appI (by simp; omega)) ⟨⟨i + 1, rfl, by omega, ?_⟩, by omega⟩), fun h => ⟨⟨i + 1, rfl, by omega, ?_⟩, by omega⟩⟩
    · rw [ht, decide_eq_false h]; rfl
    · rw [ht, decide_eq_true h]; simp
  · have : i = l.length := by omega
    subst this
    rw [List.take_length]
/-- Remove. -/
def RemR (x : TrigramIndex) (n : Int) : TrigramIndex × Fault :=
  if ¬ xFault x = ⟨0, 0⟩ then (noX, xFault x) else if ¬ n ∈ x.Texts then (noX, ⟨6, -1⟩) else (remM x n, ⟨0, 0⟩)
theorem Remove_eq {x : TrigramIndex} (hf : Fine x) (n : Int) : trigram_Remove.f x n = some (RemR x n) := by
  refine retOf_of ?_
  unfold trigram_Remove.body
  simp only [WL, trigram_Remove.retv, trigram_Remove.r0, trigram_Remove.r1, trigram_Remove.r2, trigram_Remove.r3, trigram_Remove.r4, trigram_Remove.r5, trigram_Remove.r6, trigram_Remove.r7, trigram_Remove.r8, trigram_Remove.r9, trigram_Remove.r10, trigram_Remove.r11, trigram_Remove.r12, trigram_Remove.r13, trigram_Remove.r14, trigram_Remove.r15, Validate_eq hf]
  refine ⟨fun h => ?_, fun h => ?_⟩
  · unfold RemR; rw [if_pos h]
  have hX := okX (x := x) (by rw [h])
  have hl := hX.len
  have hpl := hX.ps.len
  simp only [WL, Contains_eq x.Texts n (by omega)]
  refine ⟨fun h1 => ?_, fun h1 => ?_⟩
  · unfold RemR; rw [if_neg (fun e => e h), if_pos h1]
  refine opt_of (Remove1_eq n (by omega)) ?_
  have hR : RemR x n = (remM x n, ⟨0, 0⟩) := by unfold RemR; rw [if_neg (fun e => e h), if_neg (fun e => e h1)]
  rw [hR]
  refine W_iter (fun s => s.x_2 = x ∧ s.n_3 = n ∧ s.t_33 = x.Postings ∧ s.t_34 = x.Postings.length ∧ ∃ i : Nat, s.t_35 = i ∧ i ≤ x.Postings.length ∧ s.out_8 = ⟨noN n x.Texts, lessP n (x.Postings.take i)⟩) (fun s => x.Postings.length - s.t_35.toNat) ⟨rfl, rfl, rfl, rfl, 0, rfl, by omega, rfl⟩ ?_
  rintro s ⟨e2, e3, e33, e34, i, e35, hi, e8⟩
  simp only [WL, trigram_Remove.retv, trigram_Remove.r0, trigram_Remove.r1, trigram_Remove.r2, trigram_Remove.r3, trigram_Remove.r4, trigram_Remove.r5, trigram_Remove.r6, trigram_Remove.r7, trigram_Remove.r8, trigram_Remove.r9, trigram_Remove.r10, trigram_Remove.r11, trigram_Remove.r12, trigram_Remove.r13, trigram_Remove.r14, trigram_Remove.r15, e2, e3, e33, e34, e35, e8]
  refine ⟨fun hlt => ?_, fun hge => ?_⟩
  · have hlt : i < x.Postings.length := by omega
    have htl := hX.ps.tlen hX.tr (List.getElem_mem hlt)
    have hle := lessP_len n (x.Postings.take i)
    rw [List.length_take] at hle
    rw [w64_succ (by omega)]
    refine opt_of (idx_nat' hlt) (opt_of (Remove1_eq n (by omega)) ⟨fun h2 => opt_of (appP (by simp; omega)) ⟨⟨i + 1, rfl, by omega, ?_⟩, by omega⟩, fun h2 => ⟨⟨i + 1, rfl, by omega, ?_⟩, by omega⟩⟩)
    · rw [lessP_take hlt, if_pos (by omega)]
    · rw [lessP_take hlt, if_neg (by omega), List.append_nil]
  · have : i = x.Postings.length := by omega
    subst this
    rw [List.take_length]; rfl
theorem RemoveText_eq {x : TrigramIndex} (hX : OkX x) (n : Int) : ref4_RemoveText.f x n = some (remM x n) := by
  have hl := hX.len
  have hpl := hX.ps.len
  refine retOf_of ?_
  unfold ref4_RemoveText.body
  simp only [WL, ref4_RemoveText.retv, ref4_RemoveText.r0, ref4_RemoveText.r1, ref4_RemoveText.r2, ref4_RemoveText.r3, ref4_RemoveText.r5, ref4_RemoveText.r6, ref4_RemoveText.r7, ref4_RemoveText.r4, ref4_RemoveText.r8, less_eq n (by omega : x.Texts.length ≤ 1000)]
  refine W_iter (fun s => s.x_2 = x ∧ s.n_1 = n ∧ ∃ i : Nat, s.i_6 = i ∧ i ≤ x.Postings.length ∧ s.out_5 = ⟨noN n x.Texts, lessP n (x.Postings.take i)⟩) (fun s => x.Postings.length - s.i_6.toNat) ⟨rfl, rfl, 0, rfl, by omega, rfl⟩ ?_
  rintro s ⟨e2, e1, i, e6, hi, e5⟩
  simp only [WL, ref4_RemoveText.retv, ref4_RemoveText.r0, ref4_RemoveText.r1, ref4_RemoveText.r2, ref4_RemoveText.r3, ref4_RemoveText.r5, ref4_RemoveText.r6, ref4_RemoveText.r7, ref4_RemoveText.r4, ref4_RemoveText.r8, e2, e1, e6, e5]
  refine ⟨fun hlt => ?_, fun hge => ?_⟩
  · have hlt : i < x.Postings.length := by omega
    have htl := hX.ps.tlen hX.tr (List.getElem_mem hlt)
    have hle := lessP_len n (x.Postings.take i)
    rw [List.length_take] at hle
    rw [w64_succ (by omega)]
    refine opt_of (idx_nat' hlt) (opt_of (less_eq n (by omega)) ⟨fun h2 => opt_of (idx_nat' hlt) (opt_of (appP (by simp; omega)) ⟨⟨i + 1, rfl, by omega, ?_⟩, by omega⟩), fun h2 => ⟨⟨i + 1, rfl, by omega, ?_⟩, by omega⟩⟩)
    · rw [lessP_take hlt, if_pos (by omega)]
    · rw [lessP_take hlt, if_neg (by omega), List.append_nil]
  · have : i = x.Postings.length := by omega
    subst this
    rw [List.take_length]; rfl
def relB (P : List Posting) (g : ByteArray) (n : Int) : Bool := P.any fun p => decide (p.Gram = g) && decide (n ∈ p.Texts)
theorem relB_iff {P : List Posting} {g : ByteArray} {n : Int} : relB P g n = true ↔ Rel P g n := by
  unfold relB Rel
  rw [List.any_eq_true]
  simp only [Bool.and_eq_true, decide_eq_true_eq]
/-- The texts that have all trigrams. -/
def candM (x : TrigramIndex) (part : ByteArray) : List Int := x.Texts.filter fun n => (tri part).all fun g => relB x.Postings g n
theorem At.rel {T : List Int} {P : List Posting} {g : ByteArray} {i : Nat} {b : Bool} (hP : OkP T P) (h : At P g i b) : (b = true → ∃ h : i < P.length, ∀ n, Rel P g n ↔ n ∈ P[i].Texts) ∧ (b = false → ∀ n, ¬ Rel P g n) := by
  constructor
  · intro hb
    obtain ⟨hi, he⟩ := h.is.1 hb
    refine ⟨hi, fun n => ⟨?_, fun hn => ⟨P[i], List.getElem_mem hi, he, hn⟩⟩⟩
    rintro ⟨p, hp, e, hn⟩
    obtain ⟨j, hj, rfl⟩ := List.getElem_of_mem hp
    have : j = i := by
      rcases Nat.lt_trichotomy j i with h1 | h1 | h1
      · have := List.pairwise_iff_getElem.1 hP.gi j i hj hi h1; rw [e, he] at this; omega
      · exact h1
      · have := List.pairwise_iff_getElem.1 hP.gi i j hi hj h1; rw [e, he] at this; omega
    subst this; exact hn
  · rintro hb n ⟨p, hp, e, hn⟩
    obtain ⟨j, hj, rfl⟩ := List.getElem_of_mem hp
    have hji : j = i := by
      rcases Nat.lt_trichotomy j i with h1 | h1 | h1
      · have := h.lo j h1 hj; rw [e] at this; omega
      · exact h1
      · have hi : i < P.length := by omega
        have h2 := List.pairwise_iff_getElem.1 hP.gi i j hi hj h1
        have h3 := h.hi i (Nat.le_refl _) hi
        rw [e] at h2; omega
    subst hji
    have := h.is.2 ⟨hj, e⟩
    rw [hb] at this; cases this
def CandR (x : TrigramIndex) (part : ByteArray) : List Int × Fault :=
  if ¬ xFault x = ⟨0, 0⟩ then ([], xFault x) else if 400 < part.size then ([], ⟨10, -1⟩) else (candM x part, ⟨0, 0⟩)
theorem all_take {α : Type} {gs : List α} {p : α → Bool} {j : Nat} (h : j < gs.length) : (gs.take (j + 1)).all p = ((gs.take j).all p && p gs[j]) := by
  rw [List.take_succ_eq_append_getElem h, List.all_append]
  simp
theorem Cand1_eq {l : List Int} (hl : l.length ≤ 1000) : (fun y => trigram_Candidates_1.f y l) = (fun y => some (!decide (y ∈ l))) := by
  funext y
  refine retOf_of ?_
  unfold trigram_Candidates_1.body
  simp only [WL, trigram_Candidates_1.retv, trigram_Candidates_1.r0, trigram_Candidates_1.r1, Contains_eq l y (by omega)]
theorem all_mem {gs gs' : List ByteArray} {p : ByteArray → Bool} (h : ∀ g, g ∈ gs ↔ g ∈ gs') : gs.all p = gs'.all p := by
  rw [Bool.eq_iff_iff, List.all_eq_true, List.all_eq_true]
  exact ⟨fun a g hg => a g ((h g).2 hg), fun a g hg => a g ((h g).1 hg)⟩
theorem Candidates_eq {x : TrigramIndex} (hf : Fine x) (part : ByteArray) : trigram_Candidates.f x part = some (CandR x part) := by
  refine retOf_of ?_
  unfold trigram_Candidates.body
  simp only [WL, trigram_Candidates.retv, trigram_Candidates.r0, trigram_Candidates.r1, trigram_Candidates.r2, trigram_Candidates.r3, trigram_Candidates.r4, trigram_Candidates.r5, trigram_Candidates.r6, trigram_Candidates.r7, trigram_Candidates.r8, trigram_Candidates.r9, trigram_Candidates.r10, trigram_Candidates.r11, trigram_Candidates.r12, trigram_Candidates.r13, trigram_Candidates.r14, trigram_Candidates.r15, trigram_Candidates.r16, Validate_eq hf]
  refine ⟨fun h => ?_, fun h => ⟨fun h1 => ?_, fun h1 => ?_⟩⟩
  · unfold CandR; rw [if_pos h]
  · unfold CandR; rw [if_neg (fun e => e h), if_pos (by omega)]
  have hX := okX (x := x) (by rw [h])
  have hl := hX.len
  have hpl := hX.ps.len
  obtain ⟨gs, hgs, hgl, hgm⟩ := grams_ex (t := part) (by omega)
  have hR : CandR x part = (candM x part, ⟨0, 0⟩) := by unfold CandR; rw [if_neg (fun e => e h), if_neg (by omega)]
  rw [hR]
  refine opt_of (Clone_eq (by omega)) (opt_of hgs ?_)
  refine W_iter (fun s => s.x_2 = x ∧ s.t_27 = gs ∧ s.t_28 = gs.length ∧ ∃ j : Nat, s.t_29 = j ∧ j ≤ gs.length ∧ s.out_7 = x.Texts.filter fun n => (gs.take j).all fun g => relB x.Postings g n) (fun s => gs.length - s.t_29.toNat) ⟨rfl, rfl, rfl, 0, rfl, by omega, (List.filter_eq_self.2 fun _ _ => rfl).symm⟩ ?_
  rintro s ⟨e2, e27, e28, j, e29, hj, e7⟩
  simp only [WL, trigram_Candidates.retv, trigram_Candidates.r0, trigram_Candidates.r1, trigram_Candidates.r2, trigram_Candidates.r3, trigram_Candidates.r4, trigram_Candidates.r5, trigram_Candidates.r6, trigram_Candidates.r7, trigram_Candidates.r8, trigram_Candidates.r9, trigram_Candidates.r10, trigram_Candidates.r11, trigram_Candidates.r12, trigram_Candidates.r13, trigram_Candidates.r14, trigram_Candidates.r15, trigram_Candidates.r16, e2, e27, e28, e29, e7]
  have hol : (x.Texts.filter fun n => (gs.take j).all fun g => relB x.Postings g n).length ≤ 1000 := Nat.le_trans (List.length_filter_le _ _) (by omega)
  refine ⟨fun hlt => ?_, fun hge => ?_⟩
  · have hlt : j < gs.length := by omega
    have hg : gs[j].size = 3 := tri_size ((hgm _).1 (List.getElem_mem hlt))
    obtain ⟨i, b, hfi, hA⟩ := find_ex (ts := x.Texts) hX.ps hg
    obtain ⟨hr1, hr2⟩ := hA.rel hX.ps
    have key : ∀ l : List Int, l.length ≤ 1000 → (∀ n, Rel x.Postings gs[j] n ↔ n ∈ l) → Opt (slices_DeleteFunc_int_int.f (x.Texts.filter fun n => (gs.take j).all fun g => relB x.Postings g n) (fun y => trigram_Candidates_1.f y l)) fun r => (∃ j_1 : Nat, w64 ((j : Int) + 1) = j_1 ∧ j_1 ≤ gs.length ∧ r = x.Texts.filter fun n => (gs.take j_1).all fun g => relB x.Postings g n) ∧ gs.length - (w64 ((j : Int) + 1)).toNat < gs.length - (j : Int).toNat := fun l hll hrel => by
      rw [Cand1_eq hll, w64_succ (by omega)]
      refine opt_of (DeleteFunc_eq _ _ hol) ⟨⟨j + 1, rfl, by omega, ?_⟩, by omega⟩
      rw [List.filter_filter]
      congr 1
      funext n
      rw [all_take hlt, Bool.not_not, Bool.and_comm]
      congr 1
      rw [Bool.eq_iff_iff, relB_iff, hrel, decide_eq_true_eq]
    refine opt_of (idx_nat' hlt) (opt_of hfi ⟨fun hb => ?_, fun hb => ?_⟩)
    · obtain ⟨hi, hr⟩ := hr1 hb
      have htl := hX.ps.tlen hX.tr (List.getElem_mem hi)
      exact opt_of (idx_nat' hi) (key _ (by omega) hr)
    · exact key [] (by simp) (fun n => by simp [hr2 hb n])
  · have : j = gs.length := by omega
    subst this
    rw [List.take_length]
    unfold candM
    simp only [all_mem hgm]
end Go.Proofs.Ytoiafcpnhhplnaa
