/- The search among postings; one text laid into an index. -/
import Derived.Test.YtoiafcpnhhplnaaPg4
namespace Go.Proofs.Ytoiafcpnhhplnaa
open Go.Fx
set_option linter.unusedVariables false
set_option linter.unusedSimpArgs false
set_option maxRecDepth 20000

theorem find1_eq (p : Posting) (g : ByteArray) : trigram_find_1.f p g = CompareS.f p.Gram g := by
  show _ = some (Lib.compareBytes (bl p.Gram) (bl g))
  refine retOf_of ?_
  unfold trigram_find_1.body
  have h : ∀ a b, CompareS.f a b = some (Lib.compareBytes (bl a) (bl b)) := fun _ _ => rfl
  simp only [WL, trigram_find_1.retv, trigram_find_1.r0, trigram_find_1.r1, h]
/-- Where a trigram stands, or would stand. -/
structure At (P : List Posting) (g : ByteArray) (i : Nat) (b : Bool) : Prop where
  le : i ≤ P.length
  lo : ∀ j, j < i → ∀ (h : j < P.length), gv P[j].Gram < gv g
  hi : ∀ j, i ≤ j → ∀ (h : j < P.length), gv g ≤ gv P[j].Gram
  is : b = true ↔ ∃ h : i < P.length, P[i].Gram = g
theorem find_ex {T ts : List Int} {P : List Posting} {g : ByteArray} (hP : OkP T P) (hg : g.size = 3) : ∃ (i : Nat) (b : Bool), trigram_find.f ⟨ts, P⟩ g = some ((i : Int), b) ∧ At P g i b := by
  have hsl : ∀ (i j : Nat) (hi : i < P.length) (hj : j < P.length), i ≤ j → gv P[i].Gram ≤ gv P[j].Gram := fun i j hi hj h => by
    by_cases e : i = j
    · subst e; exact Nat.le_refl _
    · have := List.pairwise_iff_getElem.1 hP.gi i j hi hj (by omega); omega
  have hlen := hP.len
  have hcmp : ∀ (i : Nat) (hi : i < P.length), ∃ r, CompareS.f P[i].Gram g = some r ∧ (r < 0 ↔ gv P[i].Gram < gv g) ∧ (r = 0 ↔ P[i].Gram = g) := fun i hi => Compare_ex (hP.g3 _ (List.getElem_mem hi)) hg
  have hB : ∃ r, slices_BinarySearchFunc_api_Posting_api_Posting_string.f P g (fun x => trigram_find_1.f x.1 x.2) = some r ∧ ∃ (i : Nat) (b : Bool), r = ((i : Int), b) ∧ At P g i b := by
    refine retOf_ex ?_
    unfold slices_BinarySearchFunc_api_Posting_api_Posting_string.body
    simp only [WL, slices_BinarySearchFunc_api_Posting_api_Posting_string.retv, slices_BinarySearchFunc_api_Posting_api_Posting_string.r0, slices_BinarySearchFunc_api_Posting_api_Posting_string.r1, slices_BinarySearchFunc_api_Posting_api_Posting_string.r2, slices_BinarySearchFunc_api_Posting_api_Posting_string.r3, slices_BinarySearchFunc_api_Posting_api_Posting_string.r4, slices_BinarySearchFunc_api_Posting_api_Posting_string.r5, slices_BinarySearchFunc_api_Posting_api_Posting_string.r6, slices_BinarySearchFunc_api_Posting_api_Posting_string.r7, slices_BinarySearchFunc_api_Posting_api_Posting_string.r8]
    refine W_iter (fun s => s.x_0 = P ∧ s.target_1 = g ∧ s.cmp_2 = (fun x => trigram_find_1.f x.1 x.2) ∧ s.n_8 = P.length ∧ ∃ i j : Nat, s.i_9 = i ∧ s.j_10 = j ∧ i ≤ j ∧ j ≤ P.length ∧ (∀ k, k < i → ∀ (h : k < P.length), gv P[k].Gram < gv g) ∧ (∀ k, j ≤ k → ∀ (h : k < P.length), gv g ≤ gv P[k].Gram)) (fun s => s.j_10.toNat - s.i_9.toNat)
      ⟨rfl, rfl, rfl, rfl, 0, P.length, rfl, rfl, by omega, by omega, fun k hk => by omega, fun k hk h => by omega⟩ ?_
    rintro s ⟨h0, h1, h2, h8, i, j, hi, hj, hij, hjl, hlo, hhi⟩
    simp only [WL, slices_BinarySearchFunc_api_Posting_api_Posting_string.retv, slices_BinarySearchFunc_api_Posting_api_Posting_string.r0, slices_BinarySearchFunc_api_Posting_api_Posting_string.r1, slices_BinarySearchFunc_api_Posting_api_Posting_string.r2, slices_BinarySearchFunc_api_Posting_api_Posting_string.r3, slices_BinarySearchFunc_api_Posting_api_Posting_string.r4, slices_BinarySearchFunc_api_Posting_api_Posting_string.r5, slices_BinarySearchFunc_api_Posting_api_Posting_string.r6, slices_BinarySearchFunc_api_Posting_api_Posting_string.r7, slices_BinarySearchFunc_api_Posting_api_Posting_string.r8, h0, h1, h2, h8, hi, hj, find1_eq, half_eq (by omega : i + j ≤ 9223372036854775807)]
    refine ⟨fun hlt => ?_, fun hge => ?_⟩
    · have hlt : i < j := by omega
      have hm : (i + j) / 2 < P.length := by omega
      obtain ⟨c, hc, hc1, hc2⟩ := hcmp _ hm
      refine opt_of (idx_nat' hm) (opt_of hc ⟨fun h => ?_, fun h => ?_⟩)
      · rw [w64_succ (by omega)]
        refine ⟨⟨(i + j) / 2 + 1, j, rfl, rfl, by omega, hjl, fun k hk hkl => ?_, hhi⟩, by omega⟩
        have := hsl k ((i + j) / 2) hkl hm (by omega)
        have := hc1.1 h
        omega
      · refine ⟨⟨i, (i + j) / 2, rfl, rfl, by omega, by omega, hlo, fun k hk hkl => ?_⟩, by omega⟩
        have := hsl ((i + j) / 2) k hm hkl (by omega)
        have h3 : ¬ gv P[(i + j) / 2].Gram < gv g := fun e => by have := hc1.2 e; omega
        omega
    · obtain rfl : i = j := by omega
      refine ⟨fun h => ?_, fun h => ?_⟩
      · have h : i < P.length := by omega
        obtain ⟨c, hc, hc1, hc2⟩ := hcmp _ h
        refine opt_of (idx_nat' h) (opt_of hc ⟨_, rfl, i, _, rfl, hjl, hlo, hhi, ?_⟩)
        rw [decide_eq_true_eq, hc2]
        exact ⟨fun e => ⟨h, e⟩, fun ⟨_, e⟩ => e⟩
      · refine ⟨_, rfl, i, _, rfl, hjl, hlo, hhi, ?_⟩
        constructor
        · intro e; cases e
        · rintro ⟨e, _⟩; omega
  obtain ⟨r, h1, i, b, rfl, h2⟩ := hB
  refine ⟨i, b, ?_, h2⟩
  refine retOf_of ?_
  unfold trigram_find.body
  simp only [WL, trigram_find.retv, trigram_find.r0, trigram_find.r1, h1]
theorem appP {xs ys : List Posting} (h : xs.length + ys.length ≤ 100000000) : appL 40 xs ys = some (xs ++ ys) := appL_of (by omega)
theorem post_eq {T : List Int} {P : List Posting} {g : ByteArray} {n : Int} (hP : OkP T P) (hT : ∀ n ∈ T, 0 ≤ n ∧ n < 20) (hg : g.size = 3) : ref4_post.f P g n = some (postM g n P) := by
  have hlen := hP.len
  refine retOf_of ?_
  unfold ref4_post.body
  simp only [WL, ref4_post.retv, ref4_post.r0, ref4_post.r1, ref4_post.r2, ref4_post.r3, ref4_post.r4, ref4_post.r5, ref4_post.r6, ref4_post.r7, ref4_post.r8]
  refine W_iter (fun s => s.l_0 = P ∧ s.gram_1 = g ∧ s.n_2 = n ∧ ∃ i : Nat, s.at_7 = i ∧ i ≤ P.length ∧ ∀ j, j < i → ∀ (h : j < P.length), gv P[j].Gram < gv g) (fun s => P.length - s.at_7.toNat) ⟨rfl, rfl, rfl, 0, rfl, by omega, by omega⟩ ?_
  rintro s ⟨e0, e1, e2, i, e7, hi, hlo⟩
  have hap1 : appL 40 ([] : List Posting) (P.take i) = some (P.take i) := by rw [appP (by rw [List.length_take]; simp; omega)]; rfl
  have hap2 : appL 40 (P.take i) [(⟨g, [n]⟩ : Posting)] = some (P.take i ++ [⟨g, [n]⟩]) := appP (by rw [List.length_take]; simp; omega)
  have hap3 : appL 40 (P.take i ++ [(⟨g, [n]⟩ : Posting)]) (P.drop i) = some (P.take i ++ [⟨g, [n]⟩] ++ P.drop i) := appP (by simp; omega)
  simp only [WL, ref4_post.retv, ref4_post.r0, ref4_post.r1, ref4_post.r2, ref4_post.r3, ref4_post.r4, ref4_post.r5, ref4_post.r6, ref4_post.r7, ref4_post.r8, e0, e1, e2, e7, hap1, hap2, hap3, cutTo_nat hi, cutFrom_nat hi]
  refine ⟨fun hlt => ?_, fun hge => ?_⟩
  · have hlt : i < P.length := by omega
    have hgi := hP.g3 _ (List.getElem_mem hlt)
    refine opt_of (idx_nat' hlt) ⟨fun hx => ?_, fun hx => ⟨fun _ => opt_of (idx_nat' hlt) ⟨fun he => ?_, fun he => ?_⟩, fun h => by omega⟩⟩
    · rw [sLess_eq hgi hg, decide_eq_true_eq] at hx
      rw [w64_succ (by omega)]
      refine ⟨⟨i + 1, rfl, by omega, fun j hj hjl => ?_⟩, by omega⟩
      by_cases e : j = i
      · subst e; exact hx
      · exact hlo j (by omega) hjl
    · have htl := hP.tlen hT (List.getElem_mem hlt)
      refine opt_of (idx_nat' hlt) (opt_of (Insert_eq (hP.ti _ (List.getElem_mem hlt)) (by omega)) (opt_of (idx_nat' hlt) ?_))
      rw [postM_in hP hlt hlo he]
    · rw [sLess_eq hgi hg, decide_eq_false_iff_not] at hx
      rw [postM_new hP hi hlo fun h => ⟨by omega, he⟩]
  · refine ⟨fun h => by omega, fun _ => ?_⟩
    rw [postM_new hP hi hlo fun h => by omega]
/-- One text laid into an index. -/
def addM (x : TrigramIndex) (n : Int) (t : ByteArray) : TrigramIndex := ⟨insI x.Texts n, posts (tri t) n x.Postings⟩
end Go.Proofs.Ytoiafcpnhhplnaa
