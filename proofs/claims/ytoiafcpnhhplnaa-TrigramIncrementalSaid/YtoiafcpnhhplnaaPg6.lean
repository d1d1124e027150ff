/- One text laid into an index: the program's way and the reference's. -/
import Derived.Test.YtoiafcpnhhplnaaPg5
namespace Go.Proofs.Ytoiafcpnhhplnaa
open Go.Fx
set_option linter.unusedVariables false
set_option linter.unusedSimpArgs false
set_option maxRecDepth 20000

/-- A valid index. -/
structure OkX (x : TrigramIndex) : Prop where
  tr : ∀ n ∈ x.Texts, 0 ≤ n ∧ n < 20
  ti : x.Texts.Pairwise (· < ·)
  ps : OkP x.Texts x.Postings
theorem OkX.len {x : TrigramIndex} (h : OkX x) : x.Texts.length ≤ 20 := inc_len (n := 20) h.tr h.ti
theorem OkX.nil : OkX ⟨[], []⟩ := ⟨by simp, List.Pairwise.nil, OkP.nil _⟩
theorem insI_r {l : List Int} {n : Int} (h : ∀ m ∈ l, 0 ≤ m ∧ m < 20) (h0 : 0 ≤ n ∧ n < 20) : ∀ m ∈ insI l n, 0 ≤ m ∧ m < 20 := fun m hm => (insI_mem.1 hm).elim (h m) fun e => e ▸ h0
theorem addM_ok {x : TrigramIndex} {n : Int} {t : ByteArray} (h : OkX x) (h0 : 0 ≤ n ∧ n < 20) : OkX (addM x n t) :=
  ⟨insI_r h.tr h0, insI_inc h.ti, posts_ok (insI_mem.2 (.inr rfl)) (fun g hg => tri_size hg) (h.ps.mono fun m hm => insI_mem.2 (.inl hm))⟩
theorem setL_mid {A B : List Posting} {p q : Posting} : setL (A ++ [p] ++ B) (A.length : Int) q = A ++ [q] ++ B := by
  unfold setL
  rw [Int.toNat_natCast, List.append_assoc, List.append_assoc, List.set_append_right _ _ (Nat.le_refl _), Nat.sub_self]
  rfl
theorem add_eq {x : TrigramIndex} {n : Int} {t : ByteArray} (h : OkX x) (h0 : 0 ≤ n ∧ n < 20) (ht : t.size ≤ 1000) : trigram_add.f x n t = some (addM x n t) := by
  have hl := h.len
  have hpl := h.ps.len
  have hTr := insI_r h.tr h0
  have hnT : n ∈ insI x.Texts n := insI_mem.2 (.inr rfl)
  have hP0 : OkP (insI x.Texts n) x.Postings := h.ps.mono fun m hm => insI_mem.2 (.inl hm)
  obtain ⟨gs, hgs, hgl, hgm⟩ := grams_ex ht
  have hg3 : ∀ g ∈ gs, g.size = 3 := fun g hg => tri_size ((hgm g).1 hg)
  refine retOf_of ?_
  unfold trigram_add.body
  simp only [WL, trigram_add.retv, trigram_add.r0, trigram_add.r1, trigram_add.r2, trigram_add.r3, trigram_add.r4, trigram_add.r5, trigram_add.r6, trigram_add.r7, trigram_add.r8, trigram_add.r9, trigram_add.r10, trigram_add.r11, trigram_add.r12, trigram_add.r13, trigram_add.r14, trigram_add.r15, with_eq h.ti (by omega : x.Texts.length ≤ 1000)]
  refine W_iter (fun s => s.t_1 = n ∧ s.t_2 = t ∧ s.t_20 = x.Postings ∧ s.t_21 = x.Postings.length ∧ ∃ i : Nat, s.t_22 = i ∧ i ≤ x.Postings.length ∧ s.t_7 = ⟨insI x.Texts n, x.Postings.take i⟩) (fun s => x.Postings.length - s.t_22.toNat) ⟨rfl, rfl, rfl, rfl, 0, rfl, by omega, rfl⟩ ?_
  rintro s ⟨e1, e2, e20, e21, i, e22, hi, e7⟩
  simp only [WL, trigram_add.retv, trigram_add.r0, trigram_add.r1, trigram_add.r2, trigram_add.r3, trigram_add.r4, trigram_add.r5, trigram_add.r6, trigram_add.r7, trigram_add.r8, trigram_add.r9, trigram_add.r10, trigram_add.r11, trigram_add.r12, trigram_add.r13, trigram_add.r14, trigram_add.r15, e1, e2, e20, e21, e22, e7, hgs]
  refine ⟨fun hlt => ?_, fun hge => ?_⟩
  · have hlt : i < x.Postings.length := by omega
    have htl := h.ps.tlen h.tr (List.getElem_mem hlt)
    refine opt_of (idx_nat' hlt) (opt_of (Clone_eq (by omega)) (opt_of (appP (by rw [List.length_take]; simp; omega)) ?_))
    rw [w64_succ (by omega)]
    refine ⟨⟨i + 1, rfl, by omega, ?_⟩, by omega⟩
    rw [List.take_succ_eq_append_getElem hlt]
  · have : i = x.Postings.length := by omega
    subst this
    rw [List.take_length]
    refine W_iter (fun s => s.t_1 = n ∧ s.t_39 = gs ∧ s.t_40 = gs.length ∧ ∃ j : Nat, s.t_41 = j ∧ j ≤ gs.length ∧ s.t_7 = ⟨insI x.Texts n, posts (gs.take j) n x.Postings⟩) (fun s => gs.length - s.t_41.toNat) ⟨rfl, rfl, rfl, 0, rfl, by omega, rfl⟩ ?_
    rintro s ⟨e1, e39, e40, j, e41, hj, e7⟩
    have hPj : OkP (insI x.Texts n) (posts (gs.take j) n x.Postings) := posts_ok hnT (fun g hg => hg3 g (List.mem_of_mem_take hg)) hP0
    have hPl := hPj.len
    simp only [WL, trigram_add.retv, trigram_add.r0, trigram_add.r1, trigram_add.r2, trigram_add.r3, trigram_add.r4, trigram_add.r5, trigram_add.r6, trigram_add.r7, trigram_add.r8, trigram_add.r9, trigram_add.r10, trigram_add.r11, trigram_add.r12, trigram_add.r13, trigram_add.r14, trigram_add.r15, e1, e39, e40, e41, e7]
    refine ⟨fun hlt => ?_, fun hge => ?_⟩
    · have hlt : j < gs.length := by omega
      have hg := hg3 _ (List.getElem_mem hlt)
      obtain ⟨i, b, hf, hA⟩ := find_ex (ts := insI x.Texts n) hPj hg
      have hpt := posts_take (n := n) (P := x.Postings) hlt
      refine opt_of (idx_nat' hlt) (opt_of hf ?_)
      rw [w64_succ (by omega)]
      refine ⟨fun hb => ?_, fun hb => ?_⟩
      · have hn : ¬ ∃ h : i < (posts (gs.take j) n x.Postings).length, (posts (gs.take j) n x.Postings)[i].Gram = gs[j] := fun e => by have h1 := hA.is.2 e; have h2 : b = false := hb; rw [h2] at h1; cases h1
        generalize hQ : posts (gs.take j) n x.Postings = Q at *
        have hI : InsertP.f Q (i : Int) [(⟨gs[j], []⟩ : Posting)] = some (Q.take i ++ [⟨gs[j], []⟩] ++ Q.drop i) := by
          unfold InsertP.f
          have := hA.le
          rw [if_pos ⟨by omega, by omega, by omega, by simp⟩, Int.toNat_natCast]
        have hil : (Q.take i).length = i := by rw [List.length_take]; have := hA.le; omega
        have hix : idx (Q.take i ++ [(⟨gs[j], []⟩ : Posting)] ++ Q.drop i) (i : Int) = some ⟨gs[j], []⟩ := by
          rw [idx_nat, List.append_assoc, List.getElem?_append_right (by rw [hil]; exact Nat.le_refl _), hil, Nat.sub_self]; rfl
        have hs := setL_mid (A := Q.take i) (B := Q.drop i) (p := ⟨gs[j], []⟩) (q := ⟨gs[j], [n]⟩)
        rw [hil] at hs
        refine opt_of hI (opt_of hix (opt_of (with_eq List.Pairwise.nil (by simp)) (opt_of hix ?_)))
        refine ⟨⟨j + 1, rfl, by omega, ?_⟩, by omega⟩
        show (⟨_, setL _ _ ⟨gs[j], [n]⟩⟩ : TrigramIndex) = _
        rw [hs, hpt, postM_new hPj hA.le hA.lo fun h => ⟨hA.hi i (Nat.le_refl _) h, fun e => hn ⟨h, e⟩⟩]
      · obtain ⟨hil, he⟩ := hA.is.1 hb
        generalize hQ : posts (gs.take j) n x.Postings = Q at *
        have htl := hPj.tlen hTr (List.getElem_mem hil)
        refine opt_of (idx_nat' hil) (opt_of (with_eq (hPj.ti _ (List.getElem_mem hil)) (by omega)) (opt_of (idx_nat' hil) ?_))
        refine ⟨⟨j + 1, rfl, by omega, ?_⟩, by omega⟩
        rw [hpt, postM_in hPj hil hA.lo he]
    · have : j = gs.length := by omega
      subst this
      rw [List.take_length, posts_eq hnT hg3 hgm hP0]
      rfl
theorem appI {xs ys : List Int} (h : xs.length + ys.length ≤ 10000) : appL 8 xs ys = some (xs ++ ys) := appL_of (by omega)
theorem AddText_eq {x : TrigramIndex} {n : Int} {t : ByteArray} (h : OkX x) (h0 : 0 ≤ n ∧ n < 20) (ht : t.size ≤ 1000) : ref4_AddText.f x n t = some (addM x n t) := by
  have hl := h.len
  have hpl := h.ps.len
  have hTr := insI_r h.tr h0
  have hnT : n ∈ insI x.Texts n := insI_mem.2 (.inr rfl)
  have hP0 : OkP (insI x.Texts n) x.Postings := h.ps.mono fun m hm => insI_mem.2 (.inl hm)
  refine retOf_of ?_
  unfold ref4_AddText.body
  simp only [WL, ref4_AddText.retv, ref4_AddText.r0, ref4_AddText.r1, ref4_AddText.r2, ref4_AddText.r3, ref4_AddText.r5, ref4_AddText.r4, ref4_AddText.r6, ref4_AddText.r7, ref4_AddText.r9, ref4_AddText.r8, ref4_AddText.r10, Insert_eq h.ti (by omega : x.Texts.length ≤ 1000)]
  refine W_iter (fun s => s.n_1 = n ∧ s.text_2 = t ∧ s.x_3 = x ∧ ∃ i : Nat, s.i_8 = i ∧ i ≤ x.Postings.length ∧ s.out_7 = ⟨insI x.Texts n, x.Postings.take i⟩) (fun s => x.Postings.length - s.i_8.toNat) ⟨rfl, rfl, rfl, 0, rfl, by omega, rfl⟩ ?_
  rintro s ⟨e1, e2, e3, i, e8, hi, e7⟩
  simp only [WL, ref4_AddText.retv, ref4_AddText.r0, ref4_AddText.r1, ref4_AddText.r2, ref4_AddText.r3, ref4_AddText.r5, ref4_AddText.r4, ref4_AddText.r6, ref4_AddText.r7, ref4_AddText.r9, ref4_AddText.r8, ref4_AddText.r10, e1, e2, e3, e8, e7]
  refine ⟨fun hlt => ?_, fun hge => ?_⟩
  · have hlt : i < x.Postings.length := by omega
    have htl := h.ps.tlen h.tr (List.getElem_mem hlt)
    refine opt_of (idx_nat' hlt) (opt_of (idx_nat' hlt) (opt_of (appI (by simp; omega)) (opt_of (appP (by rw [List.length_take]; simp; omega)) ?_)))
    rw [w64_succ (by omega)]
    refine ⟨⟨i + 1, rfl, by omega, ?_⟩, by omega⟩
    rw [List.take_succ_eq_append_getElem hlt, List.nil_append]
  · have : i = x.Postings.length := by omega
    subst this
    rw [List.take_length]
    refine W_iter (fun s => s.n_1 = n ∧ s.text_2 = t ∧ ∃ j : Nat, s.k_9 = j ∧ (j + 2 ≤ t.size ∨ j = 0) ∧ s.out_7 = ⟨insI x.Texts n, posts ((tri t).take j) n x.Postings⟩) (fun s => t.size - s.k_9.toNat) ⟨rfl, rfl, 0, rfl, .inr rfl, rfl⟩ ?_
    rintro s ⟨e1, e2, j, e9, hj, e7⟩
    have hPj : OkP (insI x.Texts n) (posts ((tri t).take j) n x.Postings) := posts_ok hnT (fun g hg => tri_size (List.mem_of_mem_take hg)) hP0
    have hw : w64 ((j : Int) + 3) = ((j + 3 : Nat) : Int) := by rw [w64_id (by omega) (by omega)]; omega
    simp only [WL, ref4_AddText.retv, ref4_AddText.r0, ref4_AddText.r1, ref4_AddText.r2, ref4_AddText.r3, ref4_AddText.r5, ref4_AddText.r4, ref4_AddText.r6, ref4_AddText.r7, ref4_AddText.r9, ref4_AddText.r8, ref4_AddText.r10, e1, e2, e9, e7]
    refine ⟨fun hlt => ?_, fun hge => ?_⟩
    · rw [hw] at hlt
      have hlt : j + 3 ≤ t.size := by omega
      have hjt : j < (tri t).length := by rw [tri_len]; omega
      have hg : (tri t)[j] = t.extract j (j + 3) := by simp [tri]
      refine opt_of (cut3 hlt ht) (opt_of (post_eq hPj hTr (by rw [ext_size (by omega) (by omega)]; omega)) ?_)
      rw [w64_succ (by omega)]
      refine ⟨⟨j + 1, rfl, by omega, ?_⟩, by omega⟩
      rw [posts_take hjt, hg]
    · rw [hw] at hge
      rw [List.take_of_length_le (by rw [tri_len]; omega)]
      rfl
end Go.Proofs.Ytoiafcpnhhplnaa
