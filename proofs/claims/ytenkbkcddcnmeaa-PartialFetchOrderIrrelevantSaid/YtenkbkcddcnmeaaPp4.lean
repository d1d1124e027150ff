/- Lists of digests and stores: search, membership, comparison, choice. -/
import Derived.Test.YtenkbkcddcnmeaaPp3
namespace Go.Proofs.Ytenkbkcddcnmeaa
open Go.Fx
set_option linter.unusedVariables false
set_option linter.unusedSimpArgs false
set_option maxRecDepth 20000

theorem take_filter {α : Type} {xs : List α} {g : α → Bool} {i : Nat} (h : i < xs.length) : (xs.take (i + 1)).filter g = (xs.take i).filter g ++ (if g xs[i] = true then [xs[i]] else []) := by
  rw [List.take_add_one, List.getElem?_eq_getElem h, List.filter_append]
  simp only [Option.toList, List.filter_cons, List.filter_nil]
theorem take_map {α β : Type} {xs : List α} {g : α → β} {i : Nat} (h : i < xs.length) : (xs.take (i + 1)).map g = (xs.take i).map g ++ [g xs[i]] := by
  rw [List.take_add_one, List.getElem?_eq_getElem h, List.map_append]
  simp only [Option.toList, List.map_cons, List.map_nil]
theorem inc_ext : ∀ {xs ys : List Int}, xs.Pairwise (· < ·) → ys.Pairwise (· < ·) → (∀ n, n ∈ xs ↔ n ∈ ys) → xs = ys
  | [], ys, _, _, h => (List.eq_nil_iff_forall_not_mem.2 fun n hn => by have := (h n).2 hn; simp at this).symm
  | x :: xs, [], _, _, h => by have := (h x).1 (by simp); simp at this
  | x :: xs, y :: ys, hx, hy, h => by
    rw [List.pairwise_cons] at hx hy
    have e : x = y := by
      rcases List.mem_cons.1 ((h x).1 (by simp)) with e | e
      · exact e
      · rcases List.mem_cons.1 ((h y).2 (by simp)) with e2 | e2
        · exact e2.symm
        · have := hx.1 _ e2; have := hy.1 _ e; omega
    subst e
    rw [inc_ext hx.2 hy.2 fun n => ?_]
    constructor
    · intro hn
      rcases List.mem_cons.1 ((h n).1 (List.mem_cons_of_mem _ hn)) with e | e
      · have := hx.1 _ hn; omega
      · exact e
    · intro hn
      rcases List.mem_cons.1 ((h n).2 (List.mem_cons_of_mem _ hn)) with e | e
      · have := hy.1 _ hn; omega
      · exact e
theorem Has_eq (l : List Int) (n : Int) (hl : l.length ≤ 9223372036854775806) : ref3_Has.f l n = some (decide (n ∈ l)) := by
  refine retOf_of ?_
  unfold ref3_Has.body
  simp only [WL, ref3_Has.retv, ref3_Has.r0, ref3_Has.r1, ref3_Has.r2, ref3_Has.r4, ref3_Has.r5, ref3_Has.r3, ref3_Has.r6]
  refine W_iter (fun s => s.l_0 = l ∧ s.n_1 = n ∧ ∃ i : Nat, s.i_5 = i ∧ i ≤ l.length ∧ ∀ j (hj : j < i) (hjl : j < l.length), l[j] ≠ n) (fun s => l.length - s.i_5.toNat) ⟨rfl, rfl, 0, rfl, by omega, by omega⟩ ?_
  rintro s ⟨h0, h1, i, hi, hle, hno⟩
  simp only [WL, ref3_Has.retv, ref3_Has.r0, ref3_Has.r1, ref3_Has.r2, ref3_Has.r4, ref3_Has.r5, ref3_Has.r3, ref3_Has.r6, h0, h1, hi]
  refine ⟨fun hlt => ?_, fun hge => ?_⟩
  · have hlt : i < l.length := by omega
    refine opt_of (idx_nat' hlt) ⟨fun h => ?_, fun h => ?_⟩
    · rw [decide_eq_true (by rw [← h]; exact List.getElem_mem hlt)]
    · rw [w64_succ (by omega)]
      refine ⟨⟨i + 1, rfl, by omega, fun j hj hjl => ?_⟩, by omega⟩
      by_cases e : j = i
      · subst e; exact h
      · exact hno j (by omega) hjl
  · rw [decide_eq_false]
    intro h
    obtain ⟨j, hj, e⟩ := List.getElem_of_mem h
    exact hno j (by omega) hj e
theorem Less_eq (a b : Int) : cmp_Less_int.f a b = some (decide (a < b)) := by
  have h : ∀ x, cmp_isNaN_int.f x = some false := fun x => by
    refine retOf_of ?_
    unfold cmp_isNaN_int.body
    simp only [WL, cmp_isNaN_int.retv, cmp_isNaN_int.r0, cmp_isNaN_int.r1, decide_true, Bool.not_true]
  refine retOf_of ?_
  unfold cmp_Less_int.body
  simp only [WL, cmp_Less_int.retv, cmp_Less_int.r0, cmp_Less_int.r1, h, Bool.false_or]
theorem isNaN_eq (x : Int) : slices_isNaN_int.f x = some false := by
  refine retOf_of ?_
  unfold slices_isNaN_int.body
  simp only [WL, slices_isNaN_int.retv, slices_isNaN_int.r0, slices_isNaN_int.r1, decide_true, Bool.not_true]
/-- The search in an increasing list. -/
structure Fi (l : List Int) (d : Int) (p : Nat) (b : Bool) : Prop where
  le : p ≤ l.length
  ok : b = (l[p]?).any (fun x => decide (x = d))
  mem : l.Pairwise (· < ·) → (b = true ↔ d ∈ l)
theorem BI_eq {l : List Int} {t : Int} (hl : l.length ≤ 1000) :
    ∃ r, slices_BinarySearch_int_int.f l t = some r ∧ ∃ (p : Nat) (b : Bool), r = ((p : Int), b) ∧ Fi l t p b := by
  suffices h : ∃ r, slices_BinarySearch_int_int.f l t = some r ∧ ∃ p : Nat, p ≤ l.length ∧ r = ((p : Int), (l[p]?).any (fun x => decide (x = t))) ∧ (l.Pairwise (· < ·) → ∀ (j : Nat) (x : Int), l[j]? = some x → (j < p ↔ x < t)) by
    obtain ⟨r, h1, p, h2, rfl, h3⟩ := h
    refine ⟨_, h1, p, _, rfl, h2, rfl, fun hM => ⟨fun hb => ?_, fun ht => ?_⟩⟩
    · cases hx : l[p]? with
      | none => rw [hx] at hb; cases hb
      | some x =>
        rw [hx] at hb
        have : x = t := by simpa using hb
        exact this ▸ List.mem_of_getElem? hx
    · obtain ⟨j, hj, rfl⟩ := List.getElem_of_mem ht
      have hx' : l[j]? = some l[j] := List.getElem?_eq_getElem hj
      have hjp : ¬ j < p := by rw [h3 hM j _ hx']; omega
      have hpj : p = j := by
        by_cases hlt : p < j
        · have hpl : p < l.length := by omega
          have h1 := List.pairwise_iff_getElem.1 hM p j hpl hj hlt
          have h2 := (h3 hM p _ (List.getElem?_eq_getElem hpl)).2 h1
          omega
        · omega
      subst hpj
      rw [hx']; simp
  refine retOf_ex ?_
  unfold slices_BinarySearch_int_int.body
  simp only [WL, slices_BinarySearch_int_int.retv, slices_BinarySearch_int_int.r0, slices_BinarySearch_int_int.r1, slices_BinarySearch_int_int.r2, slices_BinarySearch_int_int.r3, slices_BinarySearch_int_int.r4, slices_BinarySearch_int_int.r5, slices_BinarySearch_int_int.r6, slices_BinarySearch_int_int.r7, slices_BinarySearch_int_int.r8]
  refine W_iter (fun s => s.x_0 = l ∧ s.target_1 = t ∧ s.n_6 = (l.length : Int) ∧ ∃ i j : Nat, s.i_7 = i ∧ s.j_8 = j ∧ i ≤ j ∧ j ≤ l.length ∧ (l.Pairwise (· < ·) → (∀ (k : Nat) (x : Int), k < i → l[k]? = some x → x < t) ∧ (∀ (k : Nat) (x : Int), j ≤ k → l[k]? = some x → t ≤ x))) (fun s => (s.j_8 - s.i_7).toNat)
    ⟨rfl, rfl, rfl, 0, l.length, rfl, rfl, by omega, by omega, fun _ => ⟨fun k x hk => by omega, fun k x hk hx => by rw [List.getElem?_eq_none hk] at hx; cases hx⟩⟩ ?_
  rintro s ⟨e0, e1, e6, i, j, e7, e8, hij, hj, hI⟩
  simp only [WL, slices_BinarySearch_int_int.retv, slices_BinarySearch_int_int.r0, slices_BinarySearch_int_int.r1, slices_BinarySearch_int_int.r2, slices_BinarySearch_int_int.r3, slices_BinarySearch_int_int.r4, slices_BinarySearch_int_int.r5, slices_BinarySearch_int_int.r6, slices_BinarySearch_int_int.r7, slices_BinarySearch_int_int.r8, e0, e1, e6, e7, e8, half_eq (show i + j ≤ 100000 by omega), Less_eq, isNaN_eq]
  refine ⟨fun hlt => ?_, fun hge => ?_⟩
  · have hh : (i + j) / 2 < l.length := by omega
    refine opt_of (idx_nat' hh) ?_
    refine ⟨fun hneg => ?_, fun hneg => ?_⟩
    · rw [w64_succ (by omega)]
      refine ⟨⟨(i + j) / 2 + 1, j, rfl, rfl, by omega, hj, fun hM => ⟨fun k x hk hx => ?_, (hI hM).2⟩⟩, by omega⟩
      by_cases hk2 : k = (i + j) / 2
      · subst hk2
        rw [List.getElem?_eq_getElem hh] at hx
        cases hx; exact hneg
      · obtain ⟨hk3, rfl⟩ := List.getElem?_eq_some_iff.1 hx
        have := List.pairwise_iff_getElem.1 hM k ((i + j) / 2) hk3 hh (by omega)
        omega
    · refine ⟨⟨i, (i + j) / 2, rfl, rfl, by omega, by omega, fun hM => ⟨(hI hM).1, fun k x hk hx => ?_⟩⟩, by omega⟩
      by_cases hk2 : k = (i + j) / 2
      · subst hk2
        rw [List.getElem?_eq_getElem hh] at hx
        cases hx; omega
      · obtain ⟨hk3, rfl⟩ := List.getElem?_eq_some_iff.1 hx
        have := List.pairwise_iff_getElem.1 hM ((i + j) / 2) k hh hk3 (by omega)
        omega
  · have hij' : i = j := by omega
    subst hij'
    have hfin : l.Pairwise (· < ·) → ∀ (j : Nat) (x : Int), l[j]? = some x → (j < i ↔ x < t) := fun hM k x hx => ⟨fun h => (hI hM).1 k x h hx, fun h => by
      by_cases hk : k < i
      · exact hk
      · have := (hI hM).2 k x (by omega) hx; omega⟩
    refine ⟨fun hlt => ?_, fun hge => ?_⟩
    · have hlt : i < l.length := by omega
      refine opt_of (idx_nat' hlt) ⟨fun hx => ?_, fun hx => opt_of (idx_nat' hlt) ?_⟩
      · refine ⟨_, rfl, i, hj, ?_, hfin⟩
        rw [List.getElem?_eq_getElem hlt, hx]; simp
      · refine ⟨_, rfl, i, hj, ?_, hfin⟩
        rw [List.getElem?_eq_getElem hlt]; simp [hx]
    · refine ⟨_, rfl, i, hj, ?_, hfin⟩
      rw [List.getElem?_eq_none (by omega)]; rfl
theorem At_eq (l : List StoredObject) (d : Int) (hl : l.length ≤ 1000) : ∃ r : Int, ref3_At.f ⟨l⟩ d = some r ∧ ((r = -1 ∧ ∀ x ∈ l, x.Digest ≠ d) ∨ ∃ (i : Nat) (h : i < l.length), r = i ∧ l[i].Digest = d) := by
  refine retOf_ex ?_
  unfold ref3_At.body
  simp only [WL, ref3_At.retv, ref3_At.r0, ref3_At.r1, ref3_At.r2, ref3_At.r4, ref3_At.r5, ref3_At.r3, ref3_At.r6]
  refine W_iter (fun s => s.s_2.Objects = l ∧ s.d_1 = d ∧ ∃ i : Nat, s.i_5 = i ∧ i ≤ l.length ∧ ∀ j (hj : j < i) (hjl : j < l.length), l[j].Digest ≠ d) (fun s => l.length - s.i_5.toNat) ⟨rfl, rfl, 0, rfl, by omega, by omega⟩ ?_
  rintro s ⟨h0, h1, i, hi, hle, hno⟩
  simp only [WL, ref3_At.retv, ref3_At.r0, ref3_At.r1, ref3_At.r2, ref3_At.r4, ref3_At.r5, ref3_At.r3, ref3_At.r6, h0, h1, hi]
  refine ⟨fun hlt => ?_, fun hge => ?_⟩
  · have hlt : i < l.length := by omega
    refine opt_of (idx_nat' hlt) ⟨fun h => ?_, fun h => ?_⟩
    · exact ⟨_, rfl, .inr ⟨i, hlt, rfl, h⟩⟩
    · rw [w64_succ (by omega)]
      refine ⟨⟨i + 1, rfl, by omega, fun j hj hjl => ?_⟩, by omega⟩
      by_cases e : j = i
      · subst e; exact h
      · exact hno j (by omega) hjl
  · refine ⟨_, rfl, .inl ⟨rfl, fun x hx e => ?_⟩⟩
    obtain ⟨j, hj, rfl⟩ := List.getElem_of_mem hx
    exact hno j (by omega) hj e
theorem sto_ext (a b : StoredObject) : a = b ↔ a.Digest = b.Digest ∧ a.Object = b.Object := by
  cases a; cases b; simp
theorem Stores_eq {a b : List StoredObject} (ha : a.length ≤ 1000) (hL : ∀ x ∈ a, x.Object.Links.length ≤ 100000) : ref3_Stores.f ⟨a⟩ ⟨b⟩ = some (decide (a = b)) := by
  refine retOf_of ?_
  unfold ref3_Stores.body
  simp only [WL, ref3_Stores.retv, ref3_Stores.r0, ref3_Stores.r1, ref3_Stores.r2, ref3_Stores.r3, ref3_Stores.r4, ref3_Stores.r6, ref3_Stores.r7, ref3_Stores.r5, ref3_Stores.r8]
  refine ⟨fun hne => ?_, fun hle => ?_⟩
  · rw [decide_eq_false (fun h => hne (by rw [h]))]
  have hle : a.length = b.length := by omega
  refine W_iter (fun s => s.a_2.Objects = a ∧ s.b_3.Objects = b ∧ ∃ i : Nat, s.i_5 = i ∧ i ≤ a.length ∧ a.take i = b.take i) (fun s => a.length - s.i_5.toNat) ⟨rfl, rfl, 0, rfl, by omega, by simp⟩ ?_
  rintro s ⟨e0, e1, i, e5, hi, hI⟩
  simp only [WL, ref3_Stores.retv, ref3_Stores.r0, ref3_Stores.r1, ref3_Stores.r2, ref3_Stores.r3, ref3_Stores.r4, ref3_Stores.r6, ref3_Stores.r7, ref3_Stores.r5, ref3_Stores.r8, e0, e1, e5]
  refine ⟨fun hlt => ?_, fun hge => ?_⟩
  · have hlt : i < a.length := by omega
    have hlt2 : i < b.length := by omega
    refine opt_of (idx_nat' hlt) (opt_of (idx_nat' hlt2) ?_)
    have hO := Objects_eq (a := a[i].Object) (b := b[i].Object) (hL _ (List.getElem_mem hlt))
    refine ⟨fun hne => ?_, fun he => opt_of (idx_nat' hlt) (opt_of (idx_nat' hlt2) (opt_of hO ?_))⟩
    · rw [decide_eq_false (fun h => hne (by simp only [h]))]
    · refine ⟨fun hne => ?_, fun he2 => ?_⟩
      · rw [decide_eq_false (fun h => by simp [h] at hne)]
      · rw [w64_succ (by omega)]
        have he2 : a[i].Object = b[i].Object := by simpa using he2
        exact ⟨⟨i + 1, rfl, by omega, by rw [List.take_succ_eq_append_getElem hlt, List.take_succ_eq_append_getElem hlt2, hI, (sto_ext a[i] b[i]).2 ⟨he, he2⟩]⟩, by omega⟩
  · have hie : i = a.length := by omega
    rw [hie, List.take_length, hle, List.take_length] at hI
    rw [decide_eq_true hI]
theorem Chosen_eq {l : List StoredObject} (hl : l.length ≤ 1000) (p : StoredObject → Bool) (which : Bool) : ref4_Chosen.f ⟨l⟩ (l.map p) which = some ⟨l.filter fun x => p x == which⟩ := by
  refine retOf_of ?_
  unfold ref4_Chosen.body
  simp only [WL, ref4_Chosen.retv, ref4_Chosen.r0, ref4_Chosen.r1, ref4_Chosen.r2, ref4_Chosen.r3, ref4_Chosen.r5, ref4_Chosen.r6, ref4_Chosen.r4, ref4_Chosen.r7]
  refine W_iter (fun s => s.s_3.Objects = l ∧ s.in_1 = l.map p ∧ s.which_2 = which ∧ ∃ i : Nat, s.i_8 = i ∧ i ≤ l.length ∧ s.out_7.Objects = (l.take i).filter fun x => p x == which) (fun s => l.length - s.i_8.toNat) ⟨rfl, rfl, rfl, 0, rfl, by omega, rfl⟩ ?_
  rintro s ⟨e0, e1, e2, i, e8, hi, e7⟩
  have hlen : (l.map p).length = l.length := List.length_map _
  simp only [WL, ref4_Chosen.retv, ref4_Chosen.r0, ref4_Chosen.r1, ref4_Chosen.r2, ref4_Chosen.r3, ref4_Chosen.r5, ref4_Chosen.r6, ref4_Chosen.r4, ref4_Chosen.r7, e0, e1, e2, e8, e7, hlen]
  refine ⟨fun hlt => ?_, fun hge => ?_⟩
  · have hlt : i < l.length := by omega
    refine opt_of (idx_nat' (xs := l.map p) (by omega)) ⟨fun hx => ?_, fun hx => ?_⟩
    · have hx : p l[i] = which := by simpa using hx
      have hle : ((l.take i).filter fun x => p x == which).length ≤ 1000 := Nat.le_trans (List.length_filter_le _ _) (by rw [List.length_take]; omega)
      refine opt_of (idx_nat' hlt) ?_
      rw [app64 hle, opt_some, w64_succ (by omega)]
      exact ⟨⟨i + 1, rfl, by omega, by rw [take_filter hlt, if_pos (by simp [hx])]⟩, by omega⟩
    · have hx : p l[i] ≠ which := by simpa using hx
      rw [w64_succ (by omega)]
      exact ⟨⟨i + 1, rfl, by omega, by rw [take_filter hlt, if_neg (by simp [hx]), List.append_nil]⟩, by omega⟩
  · have : i = l.length := by omega
    subst this
    rw [List.take_length]
theorem DigestsOf_eq {l : List StoredObject} (hl : l.length ≤ 1000) : ref4_DigestsOf.f ⟨l⟩ = some (l.map (·.Digest)) := by
  refine retOf_of ?_
  unfold ref4_DigestsOf.body
  simp only [WL, ref4_DigestsOf.retv, ref4_DigestsOf.r0, ref4_DigestsOf.r1, ref4_DigestsOf.r2, ref4_DigestsOf.r3, ref4_DigestsOf.r5, ref4_DigestsOf.r4, ref4_DigestsOf.r6]
  refine W_iter (fun s => s.s_1.Objects = l ∧ ∃ i : Nat, s.i_4 = i ∧ i ≤ l.length ∧ s.out_3 = (l.take i).map (·.Digest)) (fun s => l.length - s.i_4.toNat) ⟨rfl, 0, rfl, by omega, rfl⟩ ?_
  rintro s ⟨e0, i, e4, hi, e3⟩
  simp only [WL, ref4_DigestsOf.retv, ref4_DigestsOf.r0, ref4_DigestsOf.r1, ref4_DigestsOf.r2, ref4_DigestsOf.r3, ref4_DigestsOf.r5, ref4_DigestsOf.r4, ref4_DigestsOf.r6, e0, e4, e3]
  refine ⟨fun hlt => ?_, fun hge => ?_⟩
  · have hlt : i < l.length := by omega
    refine opt_of (idx_nat' hlt) ?_
    rw [app8i (by rw [List.length_map, List.length_take]; omega), opt_some, w64_succ (by omega)]
    exact ⟨⟨i + 1, rfl, by omega, by rw [take_map hlt]⟩, by omega⟩
  · have : i = l.length := by omega
    subst this
    rw [List.take_length]
end Go.Proofs.Ytenkbkcddcnmeaa
