/- Candidates by the reference; containment. -/
import Derived.Test.YtoiafcpnhhplnaaPg10
namespace Go.Proofs.Ytoiafcpnhhplnaa
open Go.Fx
set_option linter.unusedVariables false
set_option linter.unusedSimpArgs false
set_option maxRecDepth 20000

theorem any_take {α : Type} {gs : List α} {p : α → Bool} {j : Nat} (h : j < gs.length) : (gs.take (j + 1)).any p = ((gs.take j).any p || p gs[j]) := by
  rw [List.take_succ_eq_append_getElem h, List.any_append]
  simp
theorem filter_take {xs : List Int} {g : Int → Bool} {i : Nat} (h : i < xs.length) : (xs.take (i + 1)).filter g = (xs.take i).filter g ++ (if g xs[i] = true then [xs[i]] else []) := take_filter h
theorem CandidatesFor_eq {x : TrigramIndex} (hX : OkX x) {part : ByteArray} (hs : part.size ≤ 400) : ref4_CandidatesFor.f x part = some (candM x part) := by
  have hl := hX.len
  have hpl := hX.ps.len
  refine retOf_of ?_
  unfold ref4_CandidatesFor.body
  simp only [WL, ref4_CandidatesFor.retv, ref4_CandidatesFor.r0, ref4_CandidatesFor.r1, ref4_CandidatesFor.r2, ref4_CandidatesFor.r3, ref4_CandidatesFor.r5, ref4_CandidatesFor.r6, ref4_CandidatesFor.r7, ref4_CandidatesFor.r9, ref4_CandidatesFor.r10, ref4_CandidatesFor.r11, ref4_CandidatesFor.r13, ref4_CandidatesFor.r12, ref4_CandidatesFor.r14, ref4_CandidatesFor.r8, ref4_CandidatesFor.r15, ref4_CandidatesFor.r16, ref4_CandidatesFor.r4, ref4_CandidatesFor.r17]
  refine W_iter (fun s => s.t_1 = part ∧ s.t_2 = x ∧ ∃ i : Nat, s.t_6 = i ∧ i ≤ x.Texts.length ∧ s.t_5 = (x.Texts.take i).filter fun n => (tri part).all fun g => relB x.Postings g n) (fun s => x.Texts.length - s.t_6.toNat) ⟨rfl, rfl, 0, rfl, by omega, rfl⟩ ?_
  rintro s ⟨e1, e2, i, e6, hi, e5⟩
  simp only [WL, ref4_CandidatesFor.retv, ref4_CandidatesFor.r0, ref4_CandidatesFor.r1, ref4_CandidatesFor.r2, ref4_CandidatesFor.r3, ref4_CandidatesFor.r5, ref4_CandidatesFor.r6, ref4_CandidatesFor.r7, ref4_CandidatesFor.r9, ref4_CandidatesFor.r10, ref4_CandidatesFor.r11, ref4_CandidatesFor.r13, ref4_CandidatesFor.r12, ref4_CandidatesFor.r14, ref4_CandidatesFor.r8, ref4_CandidatesFor.r15, ref4_CandidatesFor.r16, ref4_CandidatesFor.r4, ref4_CandidatesFor.r17, e1, e2, e6, e5]
  refine ⟨fun hlt => ?_, fun hge => ?_⟩
  · have hlt : i < x.Texts.length := by omega
    have hol : ((x.Texts.take i).filter fun n => (tri part).all fun g => relB x.Postings g n).length ≤ 1000 := Nat.le_trans (List.length_filter_le _ _) (by rw [List.length_take]; omega)
    refine W_iter (fun s => s.t_1 = part ∧ s.t_2 = x ∧ s.t_6 = i ∧ s.t_5 = ((x.Texts.take i).filter fun n => (tri part).all fun g => relB x.Postings g n) ∧ ∃ k : Nat, s.t_8 = k ∧ (k + 2 ≤ part.size ∨ k = 0) ∧ s.t_7 = ((tri part).take k).all fun g => relB x.Postings g x.Texts[i]) (fun s => part.size - s.t_8.toNat) ⟨rfl, rfl, rfl, rfl, 0, rfl, .inr rfl, rfl⟩ ?_
    rintro s ⟨e1, e2, e6, e5, k, e8, hk, e7⟩
    have hw : w64 ((k : Int) + 3) = ((k + 3 : Nat) : Int) := by rw [w64_id (by omega) (by omega)]; omega
    simp only [WL, ref4_CandidatesFor.retv, ref4_CandidatesFor.r0, ref4_CandidatesFor.r1, ref4_CandidatesFor.r2, ref4_CandidatesFor.r3, ref4_CandidatesFor.r5, ref4_CandidatesFor.r6, ref4_CandidatesFor.r7, ref4_CandidatesFor.r9, ref4_CandidatesFor.r10, ref4_CandidatesFor.r11, ref4_CandidatesFor.r13, ref4_CandidatesFor.r12, ref4_CandidatesFor.r14, ref4_CandidatesFor.r8, ref4_CandidatesFor.r15, ref4_CandidatesFor.r16, ref4_CandidatesFor.r4, ref4_CandidatesFor.r17, e1, e2, e6, e5, e8, e7]
    refine ⟨fun hk3 => ?_, fun hk3 => ?_⟩
    · rw [hw] at hk3
      have hk3 : k + 3 ≤ part.size := by omega
      have hkt : k < (tri part).length := by rw [tri_len]; omega
      have hg : (tri part)[k] = part.extract k (k + 3) := by simp [tri]
      refine W_iter (fun s => s.t_1 = part ∧ s.t_2 = x ∧ s.t_6 = i ∧ s.t_5 = ((x.Texts.take i).filter fun n => (tri part).all fun g => relB x.Postings g n) ∧ s.t_8 = k ∧ s.t_7 = (((tri part).take k).all fun g => relB x.Postings g x.Texts[i]) ∧ ∃ j : Nat, s.t_10 = j ∧ j ≤ x.Postings.length ∧ s.t_9 = relB (x.Postings.take j) (tri part)[k] x.Texts[i]) (fun s => x.Postings.length - s.t_10.toNat) ⟨rfl, rfl, rfl, rfl, rfl, rfl, 0, rfl, by omega, rfl⟩ ?_
      rintro s ⟨e1, e2, e6, e5, e8, e7, j, e10, hj, e9⟩
      simp only [WL, ref4_CandidatesFor.retv, ref4_CandidatesFor.r0, ref4_CandidatesFor.r1, ref4_CandidatesFor.r2, ref4_CandidatesFor.r3, ref4_CandidatesFor.r5, ref4_CandidatesFor.r6, ref4_CandidatesFor.r7, ref4_CandidatesFor.r9, ref4_CandidatesFor.r10, ref4_CandidatesFor.r11, ref4_CandidatesFor.r13, ref4_CandidatesFor.r12, ref4_CandidatesFor.r14, ref4_CandidatesFor.r8, ref4_CandidatesFor.r15, ref4_CandidatesFor.r16, ref4_CandidatesFor.r4, ref4_CandidatesFor.r17, e1, e2, e6, e5, e8, e7, e10, e9]
      refine ⟨fun hjl => ?_, fun hjl => ?_⟩
      · have hjl : j < x.Postings.length := by omega
        have htl := hX.ps.tlen hX.tr (List.getElem_mem hjl)
        have ht : relB (x.Postings.take (j + 1)) (tri part)[k] x.Texts[i] = (relB (x.Postings.take j) (tri part)[k] x.Texts[i] || (decide (x.Postings[j].Gram = (tri part)[k]) && decide (x.Texts[i] ∈ x.Postings[j].Texts))) := any_take hjl
        rw [w64_succ (by omega)]
        refine ⟨fun h => ⟨⟨j + 1, rfl, by omega, ?_⟩, by omega⟩, fun h => opt_of (idx_nat' hjl) (opt_of (cut3 hk3 (by omega)) ⟨fun h2 => opt_of (idx_nat' hjl) (opt_of (idx_nat' hlt) (opt_of (Has_eq _ _ (by omega)) ⟨⟨j + 1, rfl, by omega, ?_⟩, by omega⟩)), fun h2 => ⟨⟨j + 1, rfl, by omega, ?_⟩, by omega⟩⟩)⟩
        · rw [ht, h]; rfl
        · rw [ht, Bool.eq_false_iff.mpr h, hg, decide_eq_true h2]; rfl
        · rw [ht, Bool.eq_false_iff.mpr h, hg, decide_eq_false h2]; rfl
      · have : j = x.Postings.length := by omega
        subst this
        rw [List.take_length, w64_succ (by omega)]
        refine ⟨⟨k + 1, rfl, by omega, ?_⟩, by omega⟩
        rw [all_take hkt]
    · rw [hw] at hk3
      rw [List.take_of_length_le (by rw [tri_len]; omega), w64_succ (by omega)]
      have ht := filter_take (g := fun n => (tri part).all fun g => relB x.Postings g n) hlt
      refine ⟨fun h => opt_of (idx_nat' hlt) (opt_of (appI (by simp; omega)) ⟨⟨i + 1, rfl, by omega, ?_⟩, by omega⟩), fun h => ⟨⟨i + 1, rfl, by omega, ?_⟩, by omega⟩⟩
      · rw [ht, if_pos h]
      · rw [ht, if_neg (by rw [h]; decide), List.append_nil]
  · have : i = x.Texts.length := by omega
    subst this
    rw [List.take_length]; rfl
theorem ba_ext {s t : ByteArray} (h : bl s = bl t) : s = t := bl_inj h
theorem bl_extract (t : ByteArray) (i j : Nat) : bl (t.extract i j) = ((bl t).drop i).take (j - i) := by
  unfold bl
  rw [ByteArray.data_extract, Array.toList_extract]
/-- What is contained has its trigrams there. -/
theorem tri_sub {t part : ByteArray} {i : Nat} (h : i + part.size ≤ t.size) (he : t.extract i (i + part.size) = part) {g : ByteArray} (hg : g ∈ tri part) : g ∈ tri t := by
  unfold tri at hg ⊢
  obtain ⟨k, hk, rfl⟩ := List.mem_map.1 hg
  rw [List.mem_range] at hk
  refine List.mem_map.2 ⟨i + k, List.mem_range.2 (by omega), ?_⟩
  apply bl_inj
  have hb : bl part = ((bl t).drop i).take part.size := by
    have := congrArg bl he
    rw [bl_extract, Nat.add_sub_cancel_left] at this
    exact this.symm
  rw [bl_extract, bl_extract, hb, List.drop_take, List.take_take, List.drop_drop, Nat.add_sub_cancel_left, Nat.add_sub_cancel_left, Nat.min_eq_left (by omega)]
theorem Contains_ex {t part : ByteArray} (ht : t.size ≤ 400) (hp : part.size ≤ 400) : ∃ b, ref4_Contains.f t part = some b ∧ (b = true → ∀ g, g ∈ tri part → g ∈ tri t) := by
  refine retOf_ex ?_
  unfold ref4_Contains.body
  simp only [WL, ref4_Contains.retv, ref4_Contains.r0, ref4_Contains.r1, ref4_Contains.r2, ref4_Contains.r4, ref4_Contains.r5, ref4_Contains.r3, ref4_Contains.r6]
  refine W_iter (fun s => s.text_0 = t ∧ s.part_1 = part ∧ ∃ i : Nat, s.i_5 = i ∧ i ≤ 401) (fun s => 401 - s.i_5.toNat) ⟨rfl, rfl, 0, rfl, by omega⟩ ?_
  rintro s ⟨e0, e1, i, e5, hi⟩
  have hw : w64 ((i : Int) + (part.size : Int)) = ((i + part.size : Nat) : Int) := by rw [w64_id (by omega) (by omega)]; omega
  simp only [WL, ref4_Contains.retv, ref4_Contains.r0, ref4_Contains.r1, ref4_Contains.r2, ref4_Contains.r4, ref4_Contains.r5, ref4_Contains.r3, ref4_Contains.r6, e0, e1, e5, hw]
  refine ⟨fun hlt => ?_, fun hge => ⟨_, rfl, fun h => by cases h⟩⟩
  have hlt : i + part.size ≤ t.size := by omega
  have hc : cutS t (i : Int) ((i + part.size : Nat) : Int) = some (t.extract i (i + part.size)) := by
    unfold cutS; rw [if_pos ⟨by omega, by omega, by omega⟩]; rfl
  refine opt_of hc ⟨fun h => ⟨_, rfl, fun _ g hg => tri_sub hlt h hg⟩, fun h => ?_⟩
  rw [w64_succ (by omega)]
  exact ⟨⟨i + 1, rfl, by omega⟩, by omega⟩
end Go.Proofs.Ytoiafcpnhhplnaa
