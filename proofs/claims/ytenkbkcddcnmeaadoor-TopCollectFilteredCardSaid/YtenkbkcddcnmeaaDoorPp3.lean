/- gc.Missing and what the reference says of it. -/
import Derived.Test.YtenkbkcddcnmeaaDoorPp2
namespace Go.Proofs.YtenkbkcddcnmeaaDoor
open Go.Fx
set_option linter.unusedVariables false
set_option linter.unusedSimpArgs false
set_option maxRecDepth 20000
theorem icompact_mem {zs : List Int} {x : Int} : x ∈ Lib.compact zs ↔ x ∈ zs := by
  unfold Lib.compact Lib.compactUpTo
  simp only [List.mem_map, List.mem_filter, List.mem_range]
  constructor
  · rintro ⟨j, ⟨hj, _⟩, rfl⟩
    have : zs.toArray[j]! = zs[j] := by simp [hj]
    rw [this]; exact List.getElem_mem hj
  · intro hx
    obtain ⟨j, hj, rfl⟩ := List.getElem_of_mem hx
    induction j with
    | zero => exact ⟨0, ⟨hj, by simp [Lib.keeps]⟩, by simp [hj]⟩
    | succ j ih =>
      cases hk : Lib.keeps zs.toArray (j + 1) with
      | true => exact ⟨j + 1, ⟨hj, hk⟩, by simp [hj]⟩
      | false =>
        have e : zs[j + 1] = zs[j]'(by omega) := by
          unfold Lib.keeps at hk
          rw [decide_eq_false_iff_not] at hk
          have h2 : ¬ ¬ (zs.toArray[j + 1]! = zs.toArray[j + 1 - 1]!) := fun h => hk (.inr h)
          have h3 := Classical.not_not.1 h2
          simpa [hj, show j < zs.length by omega] using h3
        obtain ⟨i, h1, h2⟩ := ih (by omega) (List.getElem_mem _)
        exact ⟨i, h1, by rw [e]; exact h2⟩
theorem icompact_inc {zs : List Int} (h : zs.Pairwise (· ≤ ·)) : (Lib.compact zs).Pairwise (· < ·) := by
  unfold Lib.compact Lib.compactUpTo
  rw [List.pairwise_map, List.pairwise_filter]
  have hh := List.pairwise_iff_getElem.1 h
  refine List.pairwise_iff_getElem.2 fun i j hi hj hij hki hkj => ?_
  rw [List.length_range] at hi hj
  simp only [List.getElem_range] at hki hkj ⊢
  have e1 : zs.toArray[i]! = zs[i] := by simp [hi]
  have e2 : zs.toArray[j]! = zs[j] := by simp [hj]
  have e3 : zs.toArray[j - 1]! = zs[j - 1] := by simp [show j - 1 < zs.length by omega]
  rw [e1, e2]
  unfold Lib.keeps at hkj
  rw [decide_eq_true_eq] at hkj
  have hne : zs[j] ≠ zs[j - 1] := by
    rcases hkj with hk | hk
    · omega
    · rw [e2, e3] at hk; exact hk
  have h1 := hh (j - 1) j (by omega) hj (by omega)
  have h2 : zs[i] ≤ zs[j - 1] := by
    by_cases e : i = j - 1
    · subst e; exact Int.le_refl _
    · exact hh i (j - 1) hi (by omega) (by omega)
  omega
theorem isort_le (xs : List Int) : (xs.mergeSort fun x y => decide (x ≤ y)).Pairwise (· ≤ ·) :=
  (List.pairwise_mergeSort (le := fun x y : Int => decide (x ≤ y)) (fun a b c h1 h2 => by simp at *; omega) (fun a b => by simp; omega) xs).imp fun h => of_decide_eq_true h
theorem icompact_len (zs : List Int) : (Lib.compact zs).length ≤ zs.length := by
  unfold Lib.compact Lib.compactUpTo
  rw [List.length_map]
  exact Nat.le_trans (List.length_filter_le _ _) (by rw [List.length_range]; exact Nat.le_refl _)
theorem nodup_len : ∀ {xs ys : List Int}, xs.Nodup → (∀ x ∈ xs, x ∈ ys) → xs.length ≤ ys.length
  | [], _, _, _ => Nat.zero_le _
  | x :: xs, ys, hn, h => by
    rw [List.nodup_cons] at hn
    have hx : x ∈ ys := h x List.mem_cons_self
    have h1 := nodup_len (xs := xs) (ys := ys.erase x) hn.2 fun y hy => (List.mem_erase_of_ne (fun e : y = x => hn.1 (e ▸ hy))).2 (h y (List.mem_cons_of_mem _ hy))
    have h2 := List.length_erase_of_mem hx
    have h3 := List.length_pos_of_mem hx
    rw [List.length_cons]
    omega
/-- The links that lead out of a store. -/
def outL (l : List StoredObject) (d : Int) : Prop := (∃ x ∈ l, d ∈ x.Object.Links) ∧ ∀ y ∈ l, y.Digest ≠ d
theorem ex_take {α : Type} {l : List α} {i : Nat} (h : i < l.length) (p : α → Prop) : (∃ x ∈ l.take (i + 1), p x) ↔ (∃ x ∈ l.take i, p x) ∨ p l[i] := by
  rw [List.take_succ_eq_append_getElem h]
  simp only [List.mem_append, List.mem_singleton]
  constructor
  · rintro ⟨x, hx | rfl, hp⟩
    · exact .inl ⟨x, hx, hp⟩
    · exact .inr hp
  · rintro (⟨x, hx, hp⟩ | hp)
    · exact ⟨x, .inl hx, hp⟩
    · exact ⟨_, .inr rfl, hp⟩
theorem mem_take {l : List Int} {i : Nat} (h : i < l.length) (d : Int) : d ∈ l.take (i + 1) ↔ d ∈ l.take i ∨ d = l[i] := by
  rw [List.take_succ_eq_append_getElem h, List.mem_append, List.mem_singleton]
theorem Missing_ex {l : List StoredObject} (hS : OkS l) : ∃ m, gc_Missing.f ⟨l⟩ = some (m, ⟨0, 0⟩) ∧ m.Pairwise (· < ·) ∧ m.length ≤ 1200 ∧ ∀ d, d ∈ m ↔ outL l d := by
  have hll := hS.len
  obtain ⟨⟨m, f⟩, h1, rfl, h2⟩ : ∃ r, gc_Missing.f ⟨l⟩ = some r ∧ r.2 = ⟨0, 0⟩ ∧ r.1.Pairwise (· < ·) ∧ r.1.length ≤ 1200 ∧ ∀ d, d ∈ r.1 ↔ outL l d := by
    refine retOf_ex ?_
    unfold gc_Missing.body
    simp only [WL, gc_Missing.retv, gc_Missing.r0, gc_Missing.r1, gc_Missing.r2, gc_Missing.r3, gc_Missing.r4, gc_Missing.r5, gc_Missing.r6, gc_Missing.r7, gc_Missing.r8, gc_Missing.r9, gc_Missing.r10, gc_Missing.r11, gc_Missing.r12, gc_Missing.r13, gc_Missing.r14, gc_Missing.r15, gc_Missing.r16, gc_Missing.r17, gc_Missing.r18, gc_Missing.r19, gc_Missing.r20, gc_Missing.r21, Validate_ok hS]
    refine W_iter (fun s => s.s_1 = ⟨l⟩ ∧ s.out_6 = [] ∧ s.t_21 = l ∧ s.t_22 = (l.length : Int) ∧ ∃ i : Nat, s.t_23 = i ∧ i ≤ l.length ∧ ∀ d, sn s.have_5 d = true ↔ ∃ x ∈ l.take i, x.Digest = d) (fun s => l.length - s.t_23.toNat) ⟨rfl, rfl, rfl, rfl, 0, rfl, Nat.zero_le _, fun d => by simp [sn, mget]⟩ ?_
    rintro s ⟨e1, e6, e21, e22, i, e23, hi, hs⟩
    generalize h5 : s.have_5 = m at hs
    simp only [WL, gc_Missing.retv, gc_Missing.r0, gc_Missing.r1, gc_Missing.r2, gc_Missing.r3, gc_Missing.r4, gc_Missing.r5, gc_Missing.r6, gc_Missing.r7, gc_Missing.r8, gc_Missing.r9, gc_Missing.r10, gc_Missing.r11, gc_Missing.r12, gc_Missing.r13, gc_Missing.r14, gc_Missing.r15, gc_Missing.r16, gc_Missing.r17, gc_Missing.r18, gc_Missing.r19, gc_Missing.r20, gc_Missing.r21, e1, e6, e21, e22, e23, h5]
    refine ⟨fun hlt => ?_, fun hge => ?_⟩
    · have hlt : i < l.length := by omega
      refine opt_of (idx_nat' hlt) ?_
      rw [w64_succ (by omega)]
      refine ⟨⟨i + 1, rfl, by omega, fun d => ?_⟩, by omega⟩
      rw [sn_put, Bool.or_eq_true, decide_eq_true_eq, hs, ex_take hlt]
      exact Or.comm
    have : i = l.length := by omega
    subst this
    rw [List.take_length] at hs
    clear e1 e6 e21 e22 e23 hi hge h5
    refine W_iter (fun s => s.have_5 = m ∧ s.t_32 = l ∧ s.t_33 = (l.length : Int) ∧ ∃ i : Nat, s.t_34 = i ∧ i ≤ l.length ∧ s.out_6.length ≤ 30 * i ∧ ∀ d, d ∈ s.out_6 ↔ (∃ x ∈ l.take i, d ∈ x.Object.Links) ∧ ∀ y ∈ l, y.Digest ≠ d) (fun s => l.length - s.t_34.toNat) ⟨rfl, rfl, rfl, 0, rfl, Nat.zero_le _, Nat.zero_le _, fun d => by simp⟩ ?_
    clear s
    rintro s ⟨e5, e32, e33, i, e34, hi, hlen, ho⟩
    generalize h6 : s.out_6 = out at hlen ho
    simp only [WL, gc_Missing.retv, gc_Missing.r0, gc_Missing.r1, gc_Missing.r2, gc_Missing.r3, gc_Missing.r4, gc_Missing.r5, gc_Missing.r6, gc_Missing.r7, gc_Missing.r8, gc_Missing.r9, gc_Missing.r10, gc_Missing.r11, gc_Missing.r12, gc_Missing.r13, gc_Missing.r14, gc_Missing.r15, gc_Missing.r16, gc_Missing.r17, gc_Missing.r18, gc_Missing.r19, gc_Missing.r20, gc_Missing.r21, e5, e32, e33, e34, h6]
    refine ⟨fun hlt => ?_, fun hge => ?_⟩
    · have hlt : i < l.length := by omega
      have hx := (hS.obj _ (List.getElem_mem hlt)).1.ll
      refine opt_of (idx_nat' hlt) ?_
      refine W_iter (fun s => s.have_5 = m ∧ s.t_32 = l ∧ s.t_33 = (l.length : Int) ∧ s.t_34 = (i : Int) ∧ s.t_40 = l[i].Object.Links ∧ s.t_41 = (l[i].Object.Links.length : Int) ∧ ∃ k : Nat, s.t_42 = k ∧ k ≤ l[i].Object.Links.length ∧ s.out_6.length ≤ 30 * i + k ∧ ∀ d, d ∈ s.out_6 ↔ ((∃ x ∈ l.take i, d ∈ x.Object.Links) ∨ d ∈ l[i].Object.Links.take k) ∧ ∀ y ∈ l, y.Digest ≠ d) (fun s => l[i].Object.Links.length - s.t_42.toNat) ⟨rfl, rfl, rfl, rfl, rfl, rfl, 0, rfl, Nat.zero_le _, hlen, fun d => by rw [ho]; simp⟩ ?_
      clear s e5 e32 e33 e34 h6 ho hlen
      rintro s ⟨e5, e32, e33, e34, e40, e41, k, e42, hk, hlen, ho⟩
      generalize h6 : s.out_6 = out at hlen ho
      simp only [WL, gc_Missing.retv, gc_Missing.r0, gc_Missing.r1, gc_Missing.r2, gc_Missing.r3, gc_Missing.r4, gc_Missing.r5, gc_Missing.r6, gc_Missing.r7, gc_Missing.r8, gc_Missing.r9, gc_Missing.r10, gc_Missing.r11, gc_Missing.r12, gc_Missing.r13, gc_Missing.r14, gc_Missing.r15, gc_Missing.r16, gc_Missing.r17, gc_Missing.r18, gc_Missing.r19, gc_Missing.r20, gc_Missing.r21, e5, e32, e33, e34, e40, e41, e42, h6]
      refine ⟨fun hlt2 => ?_, fun hge => ?_⟩
      · have hlt2 : k < l[i].Object.Links.length := by omega
        refine opt_of (idx_nat' hlt2) ⟨fun hb => ?_, fun hb => ?_⟩
        · have hn : ∀ y ∈ l, y.Digest ≠ l[i].Object.Links[k] := by
            intro y hy e
            have := (hs l[i].Object.Links[k]).2 ⟨y, hy, e⟩
            unfold sn at this
            rw [this] at hb; cases hb
          rw [app8i (by omega), opt_some, w64_succ (by omega)]
          refine ⟨⟨k + 1, rfl, by omega, by rw [List.length_append, List.length_singleton]; omega, fun d => ?_⟩, by omega⟩
          rw [List.mem_append, List.mem_singleton, ho, mem_take hlt2]
          constructor
          · rintro (⟨h1 | h1, h2⟩ | rfl)
            · exact ⟨.inl h1, h2⟩
            · exact ⟨.inr (.inl h1), h2⟩
            · exact ⟨.inr (.inr rfl), hn⟩
          · rintro ⟨h1 | h1 | h1, h2⟩
            · exact .inl ⟨.inl h1, h2⟩
            · exact .inl ⟨.inr h1, h2⟩
            · exact .inr h1
        · have hn : ∃ y ∈ l, y.Digest = l[i].Object.Links[k] := (hs _).1 (by unfold sn; simpa using hb)
          rw [w64_succ (by omega)]
          refine ⟨⟨k + 1, rfl, by omega, by omega, fun d => ?_⟩, by omega⟩
          rw [ho, mem_take hlt2]
          constructor
          · rintro ⟨h1 | h1, h2⟩
            · exact ⟨.inl h1, h2⟩
            · exact ⟨.inr (.inl h1), h2⟩
          · rintro ⟨h1 | h1 | h1, h2⟩
            · exact ⟨.inl h1, h2⟩
            · exact ⟨.inr h1, h2⟩
            · obtain ⟨y, hy, e⟩ := hn
              exact absurd (e.trans h1.symm) (h2 y hy)
      · have : k = l[i].Object.Links.length := by omega
        subst this
        rw [List.take_length] at ho
        rw [w64_succ (by omega)]
        refine ⟨⟨i + 1, rfl, by omega, by omega, fun d => ?_⟩, by omega⟩
        rw [ho, ex_take hlt]
    · have : i = l.length := by omega
      subst this
      rw [List.take_length] at ho
      have hS2 : SortI.f out = some (out.mergeSort fun x y => decide (x ≤ y)) := if_pos (by omega)
      have hlS : (out.mergeSort fun x y => decide (x ≤ y)).length = out.length := List.length_mergeSort _
      refine opt_of hS2 (opt_of (if_pos (by rw [hlS]; omega)) ?_)
      refine ⟨_, rfl, rfl, icompact_inc (isort_le _), ?_, fun d => ?_⟩
      · exact Nat.le_trans (icompact_len _) (by rw [hlS]; omega)
      · rw [icompact_mem, List.mem_mergeSort, ho]; rfl
  exact ⟨m, h1, h2⟩
theorem MissingOf_ex {l : List StoredObject} (hS : OkS l) : ∃ m, ref4_MissingOf.f ⟨l⟩ = some m ∧ m.Pairwise (· < ·) ∧ ∀ d, d ∈ m ↔ outL l d := by
  have hll := hS.len
  refine retOf_ex ?_
  unfold ref4_MissingOf.body
  simp only [WL, ref4_MissingOf.retv, ref4_MissingOf.r0, ref4_MissingOf.r1, ref4_MissingOf.r2, ref4_MissingOf.r3, ref4_MissingOf.r5, ref4_MissingOf.r6, ref4_MissingOf.r7, ref4_MissingOf.r9, ref4_MissingOf.r10, ref4_MissingOf.r8, ref4_MissingOf.r4, ref4_MissingOf.r11]
  refine W_iter (fun s => s.s_1 = ⟨l⟩ ∧ ∃ i : Nat, s.i_4 = i ∧ i ≤ l.length ∧ s.out_3.length ≤ 30 * i ∧ s.out_3.Pairwise (· < ·) ∧ ∀ d, d ∈ s.out_3 ↔ (∃ x ∈ l.take i, d ∈ x.Object.Links) ∧ ∀ y ∈ l, y.Digest ≠ d) (fun s => l.length - s.i_4.toNat) ⟨rfl, 0, rfl, Nat.zero_le _, Nat.zero_le _, List.Pairwise.nil, fun d => by simp⟩ ?_
  rintro s ⟨e1, i, e4, hi, hlen, hp, ho⟩
  generalize h3 : s.out_3 = out at hlen ho hp
  simp only [WL, ref4_MissingOf.retv, ref4_MissingOf.r0, ref4_MissingOf.r1, ref4_MissingOf.r2, ref4_MissingOf.r3, ref4_MissingOf.r5, ref4_MissingOf.r6, ref4_MissingOf.r7, ref4_MissingOf.r9, ref4_MissingOf.r10, ref4_MissingOf.r8, ref4_MissingOf.r4, ref4_MissingOf.r11, e1, e4, h3]
  refine ⟨fun hlt => ?_, fun hge => ?_⟩
  · have hlt : i < l.length := by omega
    have hx := (hS.obj _ (List.getElem_mem hlt)).1.ll
    refine opt_of (idx_nat' hlt) ?_
    refine W_iter (fun s => s.s_1 = ⟨l⟩ ∧ s.i_4 = (i : Int) ∧ s.l_5 = l[i].Object.Links ∧ ∃ k : Nat, s.k_6 = k ∧ k ≤ l[i].Object.Links.length ∧ s.out_3.length ≤ 30 * i + k ∧ s.out_3.Pairwise (· < ·) ∧ ∀ d, d ∈ s.out_3 ↔ ((∃ x ∈ l.take i, d ∈ x.Object.Links) ∨ d ∈ l[i].Object.Links.take k) ∧ ∀ y ∈ l, y.Digest ≠ d) (fun s => l[i].Object.Links.length - s.k_6.toNat) ⟨rfl, rfl, rfl, 0, rfl, Nat.zero_le _, hlen, hp, fun d => by rw [ho]; simp⟩ ?_
    clear s e1 e4 h3 ho hlen hp
    rintro s ⟨e1, e4, e5, k, e6, hk, hlen, hp, ho⟩
    generalize h3 : s.out_3 = out at hlen ho hp
    simp only [WL, ref4_MissingOf.retv, ref4_MissingOf.r0, ref4_MissingOf.r1, ref4_MissingOf.r2, ref4_MissingOf.r3, ref4_MissingOf.r5, ref4_MissingOf.r6, ref4_MissingOf.r7, ref4_MissingOf.r9, ref4_MissingOf.r10, ref4_MissingOf.r8, ref4_MissingOf.r4, ref4_MissingOf.r11, e1, e4, e5, e6, h3]
    refine ⟨fun hlt2 => ?_, fun hge => ?_⟩
    · have hlt2 : k < l[i].Object.Links.length := by omega
      obtain ⟨r, hr, hc⟩ := At_eq l l[i].Object.Links[k] (by omega)
      refine opt_of (idx_nat' hlt2) (opt_of hr ⟨fun hb => opt_of (idx_nat' hlt2) ?_, fun hb => ?_⟩)
      · have hn : ∀ y ∈ l, y.Digest ≠ l[i].Object.Links[k] := by
          have hb' : r < 0 := by simpa using hb
          rcases hc with ⟨_, h⟩ | ⟨j, _, e, _⟩
          · exact h
          · omega
        obtain ⟨o2, h1, h2, h3'⟩ := InsertI_ex out l[i].Object.Links[k] hp (by omega)
        refine opt_of h1 ?_
        rw [w64_succ (by omega)]
        have hl2 : o2.length ≤ 30 * i + (k + 1) := by
          have hsub : ∀ x ∈ o2, x ∈ l[i].Object.Links[k] :: out := fun x hx => by
            rcases (h3' x).1 hx with h | rfl
            · exact List.mem_cons_of_mem _ h
            · exact List.mem_cons_self
          have hnd : o2.Nodup := h2.imp fun h => by omega
          have := nodup_len hnd hsub
          rw [List.length_cons] at this
          omega
        refine ⟨⟨k + 1, rfl, by omega, hl2, h2, fun d => ?_⟩, by omega⟩
        rw [h3', ho, mem_take hlt2]
        constructor
        · rintro (⟨h1 | h1, h2⟩ | rfl)
          · exact ⟨.inl h1, h2⟩
          · exact ⟨.inr (.inl h1), h2⟩
          · exact ⟨.inr (.inr rfl), hn⟩
        · rintro ⟨h1 | h1 | h1, h2⟩
          · exact .inl ⟨.inl h1, h2⟩
          · exact .inl ⟨.inr h1, h2⟩
          · exact .inr h1
      · have hn : ∃ y ∈ l, y.Digest = l[i].Object.Links[k] := by
          have hb' : ¬ r < 0 := by simpa using hb
          rcases hc with ⟨e, _⟩ | ⟨j, hj, _, e⟩
          · omega
          · exact ⟨_, List.getElem_mem hj, e⟩
        rw [w64_succ (by omega)]
        refine ⟨⟨k + 1, rfl, by omega, by omega, hp, fun d => ?_⟩, by omega⟩
        rw [ho, mem_take hlt2]
        constructor
        · rintro ⟨h1 | h1, h2⟩
          · exact ⟨.inl h1, h2⟩
          · exact ⟨.inr (.inl h1), h2⟩
        · rintro ⟨h1 | h1 | h1, h2⟩
          · exact ⟨.inl h1, h2⟩
          · exact ⟨.inr h1, h2⟩
          · obtain ⟨y, hy, e⟩ := hn
            exact absurd (e.trans h1.symm) (h2 y hy)
    · have : k = l[i].Object.Links.length := by omega
      subst this
      rw [List.take_length] at ho
      rw [w64_succ (by omega)]
      refine ⟨⟨i + 1, rfl, by omega, by omega, hp, fun d => ?_⟩, by omega⟩
      rw [ho, ex_take hlt]
  · have : i = l.length := by omega
    subst this
    rw [List.take_length] at ho
    exact ⟨_, rfl, hp, ho⟩
theorem Missing_eq {l : List StoredObject} (hS : OkS l) : ∃ m, gc_Missing.f ⟨l⟩ = some (m, ⟨0, 0⟩) ∧ ref4_MissingOf.f ⟨l⟩ = some m ∧ m.length ≤ 1200 ∧ ∀ d, d ∈ m ↔ outL l d := by
  obtain ⟨m, h1, h2, h3, h4⟩ := Missing_ex hS
  obtain ⟨m', g1, g2, g3⟩ := MissingOf_ex hS
  obtain rfl : m = m' := inc_ext h2 g2 fun d => by rw [h4, g3]
  exact ⟨m, h1, g1, h3, h4⟩
theorem Missing_bad {s : ObjectStore} (h : ¬ (sFault s).Code = 0) : gc_Missing.f s = some ([], sFault s) := by
  refine retOf_of ?_
  unfold gc_Missing.body
  simp only [WL, gc_Missing.retv, gc_Missing.r0, gc_Missing.r1, gc_Missing.r2, gc_Missing.r3, gc_Missing.r4, gc_Missing.r5, gc_Missing.r6, gc_Missing.r7, gc_Missing.r8, gc_Missing.r9, gc_Missing.r10, gc_Missing.r11, gc_Missing.r12, gc_Missing.r13, gc_Missing.r14, gc_Missing.r15, gc_Missing.r16, gc_Missing.r17, gc_Missing.r18, gc_Missing.r19, gc_Missing.r20, gc_Missing.r21, Validate_eq]
  refine ⟨fun _ => trivial, fun e => absurd (by rw [e]) h⟩
theorem Mark_bad1 {s : ObjectStore} {roots : List Int} (h : ¬ (sFault s).Code = 0) : gc_Mark.f s roots = some ([], sFault s) := by
  refine retOf_of ?_
  unfold gc_Mark.body
  simp only [WL, gc_Mark.retv, gc_Mark.r0, gc_Mark.r1, gc_Mark.r2, gc_Mark.r3, gc_Mark.r4, gc_Mark.r5, gc_Mark.r6, gc_Mark.r7, gc_Mark.r8, gc_Mark.r9, gc_Mark.r10, gc_Mark.r11, gc_Mark.r12, gc_Mark.r13, Validate_eq]
  refine ⟨fun _ => trivial, fun e => absurd (by rw [e]) h⟩
theorem Mark_bad2 {l : List StoredObject} (hS : OkS l) {roots : List Int} (h : 50 < roots.length) : gc_Mark.f ⟨l⟩ roots = some ([], ⟨2, -1⟩) := by
  refine retOf_of ?_
  unfold gc_Mark.body
  simp only [WL, gc_Mark.retv, gc_Mark.r0, gc_Mark.r1, gc_Mark.r2, gc_Mark.r3, gc_Mark.r4, gc_Mark.r5, gc_Mark.r6, gc_Mark.r7, gc_Mark.r8, gc_Mark.r9, gc_Mark.r10, gc_Mark.r11, gc_Mark.r12, gc_Mark.r13, Validate_ok hS]
  refine ⟨fun _ => trivial, fun e => by omega⟩
end Go.Proofs.YtenkbkcddcnmeaaDoor
