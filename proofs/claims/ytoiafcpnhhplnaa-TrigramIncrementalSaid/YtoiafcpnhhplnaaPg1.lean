/- Small functions of the trigram laws: lists of numbers. -/
import Derived.Test.YtoiafcpnhhplnaaPA
import Derived.Test.YtoiafcpnhhplnaaFx11
import Derived.IntWalk
namespace Go.Proofs.Ytoiafcpnhhplnaa
open Go.Fx
set_option linter.unusedVariables false
set_option linter.unusedSimpArgs false
set_option maxRecDepth 20000

theorem idx_nat' {α : Type} {xs : List α} {i : Nat} (h : i < xs.length) : idx xs (i : Int) = some (xs[i]'h) := idx_of_lt h
theorem w64_succ {i : Nat} (h : i < 9223372036854775807) : w64 ((i : Int) + 1) = ((i + 1 : Nat) : Int) := by
  rw [w64_id (by omega) (by omega)]; omega

theorem Has_eq (l : List Int) (n : Int) (hl : l.length ≤ 9223372036854775807) : ref3_Has.f l n = some (decide (n ∈ l)) := by
  refine retOf_of ?_
  unfold ref3_Has.body
  simp only [W_seq, W_block, W_reg, ref3_Has.r0, ref3_Has.r1, opt_some, thenQ_nrm]
  refine W_iter (fun s => s.l_0 = l ∧ s.n_1 = n ∧ ∃ i : Nat, s.i_5 = i ∧ i ≤ l.length ∧ ∀ j (hj : j < i) (hjl : j < l.length), l[j] ≠ n) (fun s => l.length - s.i_5.toNat) ⟨rfl, rfl, 0, rfl, by omega, by omega⟩ ?_
  rintro s ⟨rfl, rfl, i, hi, hle, hno⟩
  simp only [W_seq, W_block, W_reg, W_cond, W_skip, W_ext, W_ret, ref3_Has.r2, ref3_Has.r3, ref3_Has.r4, ref3_Has.r5, ref3_Has.r6, ref3_Has.retv, opt_some, opt_bind, thenQ_nrm, thenQ_ext, thenQ_ret, blkQ_nrm, blkQ_ext, blkQ_ret, hi, if_true]
  refine ⟨fun hlt => ?_, fun hge => ?_⟩
  · have hlt : i < s.l_0.length := by simpa using hlt
    refine opt_of (idx_nat' hlt) ⟨fun h => ?_, fun h => ?_⟩
    · have : s.l_0[i] = s.n_1 := by simpa using h
      rw [← this]; simp
    · have : s.l_0[i] ≠ s.n_1 := by simpa using h
      rw [w64_succ (by omega)]
      refine ⟨⟨trivial, trivial, i + 1, rfl, by omega, fun j hj hjl => ?_⟩, by omega⟩
      by_cases e : j = i
      · subst e; exact this
      · exact hno j (by omega) hjl
  · have hge : s.l_0.length ≤ i := by simpa using hge
    have : ¬ s.n_1 ∈ s.l_0 := fun h => by
      obtain ⟨j, hj, e⟩ := List.getElem_of_mem h
      exact hno j (by omega) hj e
    simp [this]

theorem Ints_eq (a b : List Int) (hl : a.length ≤ 9223372036854775807) : ref3_Ints.f a b = some (decide (a = b)) := by
  refine retOf_of ?_
  unfold ref3_Ints.body
  simp only [W_seq, W_block, W_reg, W_cond, W_skip, W_ext, W_ret, ref3_Ints.r0, ref3_Ints.r1, ref3_Ints.r2, ref3_Ints.r3, ref3_Ints.retv, opt_some, thenQ_nrm, thenQ_ext, thenQ_ret, blkQ_nrm, blkQ_ext, blkQ_ret]
  refine ⟨fun hne => ?_, fun he => ?_⟩
  · have : a ≠ b := fun e => by subst e; simp at hne
    simp [this]
  have hlen : a.length = b.length := by simp at he; omega
  refine W_iter (fun s => s.a_0 = a ∧ s.b_1 = b ∧ ∃ i : Nat, s.i_5 = i ∧ i ≤ a.length ∧ ∀ j, j < i → a[j]? = b[j]?) (fun s => a.length - s.i_5.toNat) ⟨rfl, rfl, 0, rfl, by omega, by omega⟩ ?_
  rintro s ⟨rfl, rfl, i, hi, hle, hno⟩
  simp only [W_seq, W_block, W_reg, W_cond, W_skip, W_ext, W_ret, ref3_Ints.r4, ref3_Ints.r5, ref3_Ints.r6, ref3_Ints.r7, ref3_Ints.r8, ref3_Ints.retv, opt_some, opt_bind, thenQ_nrm, thenQ_ext, thenQ_ret, blkQ_nrm, blkQ_ext, blkQ_ret, hi, if_true]
  refine ⟨fun hlt => ?_, fun hge => ?_⟩
  · have hlt : i < s.a_0.length := by simpa using hlt
    refine opt_of (idx_nat' hlt) (opt_of (idx_nat' (by omega : i < s.b_1.length)) ⟨fun h => ?_, fun h => ?_⟩)
    · have h : s.a_0[i] ≠ s.b_1[i] := by simpa using h
      have : s.a_0 ≠ s.b_1 := fun e => h (by simp only [e])
      simp [this]
    · have h : s.a_0[i] = s.b_1[i] := by simpa using h
      rw [w64_succ (by omega)]
      refine ⟨⟨trivial, trivial, i + 1, rfl, by omega, fun j hj => ?_⟩, by omega⟩
      by_cases e : j = i
      · subst e; rw [List.getElem?_eq_getElem hlt, List.getElem?_eq_getElem (by omega), h]
      · exact hno j (by omega)
  · have hge : s.a_0.length ≤ i := by simpa using hge
    have : s.a_0 = s.b_1 := List.ext_getElem? fun j => by
      by_cases hj : j < i
      · exact hno j hj
      · rw [List.getElem?_eq_none (by omega), List.getElem?_eq_none (by omega)]
    simp [this]

theorem cutTo_nat {α : Type} {xs : List α} {n : Nat} (h : n ≤ xs.length) : cutTo xs (n : Int) = some (xs.take n) := by
  unfold cutTo; rw [if_pos ⟨by omega, by omega⟩]; simp
theorem cutFrom_nat {α : Type} {xs : List α} {n : Nat} (h : n ≤ xs.length) : cutFrom xs (n : Int) = some (xs.drop n) := by
  unfold cutFrom; rw [if_pos ⟨by omega, by omega⟩]; simp
theorem Fault_eq (a b : Int) : ref3_Fault.f a b = some ⟨a, b⟩ := rfl
theorem In_eq (n lo hi : Int) : ref3_In.f n lo hi = some (decide (lo ≤ n ∧ n ≤ hi)) := by
  show some (decide (lo ≤ n) && decide (n ≤ hi)) = _
  rw [Bool.decide_and]
theorem setL_len {α : Type} {v : List α} {p : Int} {x : α} : (setL v p x).length = v.length := by unfold setL; rw [List.length_set]
theorem take_filter {α : Type} {xs : List α} {g : α → Bool} {i : Nat} (h : i < xs.length) : (xs.take (i + 1)).filter g = (xs.take i).filter g ++ (if g xs[i] = true then [xs[i]] else []) := by
  rw [List.take_add_one, List.getElem?_eq_getElem h, List.filter_append]
  simp only [Option.toList, List.filter_cons, List.filter_nil]
theorem take_map {α β : Type} {xs : List α} {g : α → β} {i : Nat} (h : i < xs.length) : (xs.take (i + 1)).map g = (xs.take i).map g ++ [g xs[i]] := by
  rw [List.take_add_one, List.getElem?_eq_getElem h, List.map_append]
  simp only [Option.toList, List.map_cons, List.map_nil]
theorem inc_ext : ∀ {xs ys : List Int}, xs.Pairwise (· < ·) → ys.Pairwise (· < ·) → (∀ n, n ∈ xs ↔ n ∈ ys) → xs = ys
  | [], ys, _, _, h => (List.eq_nil_iff_forall_not_mem.2 fun n hn => by have := (h n).2 hn; simp at this).symm
  | x :: xs, [], _, _, h => by have := (h x).1 (by simp); simp at this
  | x :: xs, y :: ys, hx, hy, h => by
    rw [List.pairwise_cons] at hx hy
    have e : x = y := by
      rcases List.mem_cons.1 ((h x).1 (by simp)) with e | e
      · exact e
      · rcases List.mem_cons.1 ((h y).2 (by simp)) with e2 | e2
        · exact e2.symm
        · have := hx.1 _ e2; have := hy.1 _ e; omega
    subst e
    rw [inc_ext hx.2 hy.2 fun n => ?_]
    constructor
    · intro hn
      rcases List.mem_cons.1 ((h n).1 (List.mem_cons_of_mem _ hn)) with e | e
      · have := hx.1 _ hn; omega
      · exact e
    · intro hn
      rcases List.mem_cons.1 ((h n).2 (List.mem_cons_of_mem _ hn)) with e | e
      · have := hy.1 _ hn; omega
      · exact e
theorem inc_len {n : Nat} {ns : List Int} (hr : ∀ x ∈ ns, 0 ≤ x ∧ x < (n : Int)) (hi : ns.Pairwise (· < ·)) : ns.length ≤ n := by
  have key : ∀ (i : Nat) (h : i < ns.length), (i : Int) ≤ ns[i] := by
    intro i
    induction i with
    | zero => intro h; have := hr _ (List.getElem_mem h); omega
    | succ i ih =>
      intro h
      have h1 := ih (by omega)
      have h2 := List.pairwise_iff_getElem.1 hi i (i + 1) (by omega) h (by omega)
      omega
  by_cases e : ns.length = 0
  · omega
  · have h1 := key (ns.length - 1) (by omega)
    have h2 := hr _ (List.getElem_mem (by omega : ns.length - 1 < ns.length))
    omega
theorem retOf_ex {σ τ : Type} {m : σ → Option (Ctl σ τ)} {s : σ} {p : τ → Prop} (h : W m (fun o => ∃ r, o = .ret r ∧ p r) s) : ∃ r, retOf (m s) = some r ∧ p r := by
  obtain ⟨o, h1, r, rfl, h2⟩ := h
  exact ⟨r, by rw [h1]; rfl, h2⟩
theorem cmpNaN_eq (x : Int) : cmp_isNaN_int.f x = some false := by
  refine retOf_of ?_
  unfold cmp_isNaN_int.body
  simp only [WL, cmp_isNaN_int.retv, cmp_isNaN_int.r0, cmp_isNaN_int.r1]
  simp
theorem slNaN_eq (x : Int) : slices_isNaN_int.f x = some false := by
  refine retOf_of ?_
  unfold slices_isNaN_int.body
  simp only [WL, slices_isNaN_int.retv, slices_isNaN_int.r0, slices_isNaN_int.r1]
  simp
theorem Less_eq (x y : Int) : cmp_Less_int.f x y = some (decide (x < y)) := by
  refine retOf_of ?_
  unfold cmp_Less_int.body
  simp only [WL, cmp_Less_int.retv, cmp_Less_int.r0, cmp_Less_int.r1, cmpNaN_eq]
  simp [Opt]
/-- How many of a list lie below t. -/
def below (xs : List Int) (t : Int) : Nat := xs.countP fun x => decide (x < t)
theorem below_of {xs : List Int} {t : Int} {i : Nat} (hi : i ≤ xs.length) (h1 : ∀ j, j < i → ∀ (h : j < xs.length), xs[j] < t) (h2 : ∀ j, i ≤ j → ∀ (h : j < xs.length), t ≤ xs[j]) : below xs t = i := by
  unfold below
  rw [← List.take_append_drop i xs, List.countP_append]
  have a : (xs.take i).countP (fun x => decide (x < t)) = (xs.take i).length := by
    rw [List.countP_eq_length]
    intro x hx
    obtain ⟨j, hj, e⟩ := List.getElem_of_mem hx
    rw [List.length_take] at hj
    rw [List.getElem_take] at e
    rw [← e]
    exact decide_eq_true (h1 j (by omega) (by omega))
  have b : (xs.drop i).countP (fun x => decide (x < t)) = 0 := by
    rw [List.countP_eq_zero]
    intro x hx
    obtain ⟨j, hj, e⟩ := List.getElem_of_mem hx
    rw [List.length_drop] at hj
    rw [List.getElem_drop] at e
    rw [← e]
    have := h2 (i + j) (by omega) (by omega)
    simp; omega
  rw [a, b, List.length_take]; omega
theorem half_eq {a b : Nat} (h : a + b ≤ 9223372036854775807) : w64 (shrV .u64 (IntKind.u64.wrap (w64 ((a : Int) + b))) 1) = (((a + b) / 2 : Nat) : Int) := by
  rw [w64_id (n := (a : Int) + b) (by omega) (by omega), IntWalk.u64_in _ (by omega)]
  unfold shrV
  have : (min (1 : Int).toNat IntKind.u64.bits) = 1 := by decide
  rw [this, Int.fdiv_eq_ediv_of_nonneg _ (by omega)]
  rw [w64_id (by omega) (by omega)]
  omega
theorem BinarySearch_eq (xs : List Int) (t : Int) (hl : xs.length ≤ 4611686018427387903) (hs : xs.Pairwise (· < ·)) : slices_BinarySearch_int_int.f xs t = some ((below xs t : Int), decide (t ∈ xs)) := by
  refine retOf_of ?_
  unfold slices_BinarySearch_int_int.body
  have hsl : ∀ (i j : Nat) (hi : i < xs.length) (hj : j < xs.length), i < j → xs[i] < xs[j] := List.pairwise_iff_getElem.1 hs
  have hsl' : ∀ (i j : Nat) (hi : i < xs.length) (hj : j < xs.length), i ≤ j → xs[i] ≤ xs[j] := fun i j hi hj h => by
    by_cases e : i = j
    · subst e; exact Int.le_refl _
    · have := hsl i j hi hj (by omega); omega
  simp only [WL, slices_BinarySearch_int_int.r0, slices_BinarySearch_int_int.r1, slices_BinarySearch_int_int.r2]
  refine W_iter (fun s => s.x_0 = xs ∧ s.target_1 = t ∧ s.n_6 = xs.length ∧ ∃ i j : Nat, s.i_7 = i ∧ s.j_8 = j ∧ i ≤ j ∧ j ≤ xs.length ∧ (∀ k, k < i → ∀ (h : k < xs.length), xs[k] < t) ∧ (∀ k, j ≤ k → ∀ (h : k < xs.length), t ≤ xs[k])) (fun s => s.j_8.toNat - s.i_7.toNat)
    ⟨rfl, rfl, rfl, 0, xs.length, rfl, rfl, by omega, by omega, fun k hk => by omega, fun k hk h => by omega⟩ ?_
  rintro s ⟨h0, h1, h6, i, j, hi, hj, hij, hjl, hlo, hhi⟩
  simp only [WL, slices_BinarySearch_int_int.r3, slices_BinarySearch_int_int.r4, slices_BinarySearch_int_int.r5, slices_BinarySearch_int_int.r6, slices_BinarySearch_int_int.r7, slices_BinarySearch_int_int.r8, slices_BinarySearch_int_int.retv, h0, h1, h6, hi, hj, Less_eq, slNaN_eq, half_eq (by omega : i + j ≤ 9223372036854775807)]
  refine ⟨fun hlt => ?_, fun hge => ?_⟩
  · have hlt : i < j := by omega
    have hm : (i + j) / 2 < xs.length := by omega
    refine opt_of (idx_nat' hm) ⟨fun h => ?_, fun h => ?_⟩
    · rw [w64_succ (by omega)]
      refine ⟨⟨(i + j) / 2 + 1, j, rfl, rfl, by omega, hjl, fun k hk hkl => ?_, hhi⟩, by omega⟩
      have := hsl' k ((i + j) / 2) hkl hm (by omega)
      omega
    · refine ⟨⟨i, (i + j) / 2, rfl, rfl, by omega, by omega, hlo, fun k hk hkl => ?_⟩, by omega⟩
      have := hsl' ((i + j) / 2) k hm hkl (by omega)
      omega
  · obtain rfl : i = j := by omega
    rw [below_of hjl hlo hhi]
    refine ⟨fun h => ?_, fun h => ?_⟩
    · have h : i < xs.length := by omega
      have hmem : t ∈ xs ↔ xs[i] = t := by
        constructor
        · intro ht
          obtain ⟨k, hk, e⟩ := List.getElem_of_mem ht
          by_cases hki : k < i
          · have := hlo k hki hk; omega
          · have h3 := hsl' i k h hk (by omega)
            have h4 := hhi i (by omega) h
            omega
        · intro e; rw [← e]; exact List.getElem_mem h
      refine opt_of (idx_nat' h) ⟨fun e => ?_, fun e => opt_of (idx_nat' h) ?_⟩
      · rw [decide_eq_true (hmem.2 e)]
      · rw [decide_eq_false (fun hh => e (hmem.1 hh))]
    · have : ¬ t ∈ xs := fun ht => by
        obtain ⟨k, hk, e⟩ := List.getElem_of_mem ht
        have := hlo k (by omega) hk; omega
      rw [decide_eq_false this]
/-- The first that passes, or -1. -/
theorem IndexFunc_ex (xs : List Int) (p : Int → Bool) (hl : xs.length ≤ 9223372036854775807) : (∃ i : Nat, slices_IndexFunc_int_int.f xs (fun x => some (p x)) = some (i : Int) ∧ ∃ h : i < xs.length, p xs[i] = true ∧ ∀ y ∈ xs.take i, p y = false) ∨ (slices_IndexFunc_int_int.f xs (fun x => some (p x)) = some (-1) ∧ ∀ y ∈ xs, p y = false) := by
  have main : W slices_IndexFunc_int_int.body (fun o => (∃ i : Nat, o = .ret (i : Int) ∧ ∃ h : i < xs.length, p xs[i] = true ∧ ∀ y ∈ xs.take i, p y = false) ∨ (o = .ret (-1) ∧ ∀ y ∈ xs, p y = false)) { s_0 := xs, f_1 := (fun x => some (p x)), t_4 := (0 : Int), i_5 := (0 : Int), t_7 := (0 : Int), t_8 := (0 : Int), t_9 := false, t_16 := false } := by
    unfold slices_IndexFunc_int_int.body
    simp only [WL, slices_IndexFunc_int_int.retv, slices_IndexFunc_int_int.r0, slices_IndexFunc_int_int.r1, slices_IndexFunc_int_int.r2, slices_IndexFunc_int_int.r3, slices_IndexFunc_int_int.r4, slices_IndexFunc_int_int.r5, slices_IndexFunc_int_int.r6, slices_IndexFunc_int_int.r7]
    refine W_iter (fun s => s.s_0 = xs ∧ s.f_1 = (fun x => some (p x)) ∧ s.t_7 = xs.length ∧ ∃ i : Nat, s.t_8 = i ∧ i ≤ xs.length ∧ ∀ y ∈ xs.take i, p y = false) (fun s => xs.length - s.t_8.toNat) ⟨rfl, rfl, rfl, 0, rfl, by omega, by simp⟩ ?_
    rintro s ⟨e0, e1, e7, i, e8, hi, hno⟩
    simp only [WL, slices_IndexFunc_int_int.retv, slices_IndexFunc_int_int.r0, slices_IndexFunc_int_int.r1, slices_IndexFunc_int_int.r2, slices_IndexFunc_int_int.r3, slices_IndexFunc_int_int.r4, slices_IndexFunc_int_int.r5, slices_IndexFunc_int_int.r6, slices_IndexFunc_int_int.r7, e0, e1, e7, e8]
    refine ⟨fun hlt => ?_, fun hge => ?_⟩
    · have hlt : i < xs.length := by omega
      rw [w64_succ (by omega)]
      refine opt_of (idx_nat' hlt) ⟨fun h => .inl ⟨i, rfl, hlt, h, hno⟩, fun h => ⟨⟨i + 1, rfl, by omega, fun y hy => ?_⟩, by omega⟩⟩
      rw [List.take_add_one, List.getElem?_eq_getElem hlt] at hy
      simp only [Option.toList, List.mem_append, List.mem_singleton] at hy
      rcases hy with h2 | rfl
      · exact hno y h2
      · exact h
    · have : i = xs.length := by omega
      subst this
      rw [List.take_length] at hno
      exact .inr hno
  obtain ⟨o, h1, h2⟩ := main
  rcases h2 with ⟨i, rfl, h2⟩ | ⟨rfl, h2⟩
  · exact .inl ⟨i, by unfold slices_IndexFunc_int_int.f; rw [h1]; rfl, h2⟩
  · exact .inr ⟨by unfold slices_IndexFunc_int_int.f; rw [h1]; rfl, h2⟩

theorem filter_none {xs : List Int} {p : Int → Bool} (h : ∀ y ∈ xs, p y = false) : xs.filter (fun y => !p y) = xs := by
  rw [List.filter_eq_self]; intro y hy; rw [h y hy]; rfl
theorem DeleteFunc_eq (xs : List Int) (p : Int → Bool) (hl : xs.length ≤ 1000) : slices_DeleteFunc_int_int.f xs (fun x => some (p x)) = some (xs.filter fun y => !p y) := by
  refine retOf_of ?_
  unfold slices_DeleteFunc_int_int.body
  generalize hr : xs.filter (fun y => !p y) = r
  rcases IndexFunc_ex xs p (by omega) with ⟨i0, hI, hi0, hp0, hno⟩ | ⟨hI, hno⟩
  rotate_left
  · have : r = xs := by rw [← hr]; exact filter_none hno
    simp only [WL, slices_DeleteFunc_int_int.retv, slices_DeleteFunc_int_int.r0, slices_DeleteFunc_int_int.r1, slices_DeleteFunc_int_int.r2, slices_DeleteFunc_int_int.r3, slices_DeleteFunc_int_int.r4, slices_DeleteFunc_int_int.r5, slices_DeleteFunc_int_int.r7, slices_DeleteFunc_int_int.r8, slices_DeleteFunc_int_int.r9, slices_DeleteFunc_int_int.r10, slices_DeleteFunc_int_int.r6, slices_DeleteFunc_int_int.r11, slices_DeleteFunc_int_int.r12, hI, this, not_true_eq_false]
  have hne : ¬ ((i0 : Int) = -1) := by omega
  have hw0 : w64 ((i0 : Int) + 1) = ((i0 + 1 : Nat) : Int) := w64_succ (by omega)
  simp only [WL, slices_DeleteFunc_int_int.retv, slices_DeleteFunc_int_int.r0, slices_DeleteFunc_int_int.r1, slices_DeleteFunc_int_int.r2, slices_DeleteFunc_int_int.r3, slices_DeleteFunc_int_int.r4, slices_DeleteFunc_int_int.r5, slices_DeleteFunc_int_int.r7, slices_DeleteFunc_int_int.r8, slices_DeleteFunc_int_int.r9, slices_DeleteFunc_int_int.r10, slices_DeleteFunc_int_int.r6, slices_DeleteFunc_int_int.r11, slices_DeleteFunc_int_int.r12, hI, hne, hw0, not_false_eq_true, false_implies]
  have hf0 : (xs.take (i0 + 1)).filter (fun y => !p y) = xs.take i0 := by
    rw [take_filter hi0, hp0, if_neg (by decide), List.append_nil]; exact filter_none hno
  refine W_iter (fun s => s.del_1 = (fun x => some (p x)) ∧ ∃ i j : Nat, s.i_5 = i ∧ s.j_6 = j ∧ i < j ∧ j ≤ xs.length ∧ s.s_0.length = xs.length ∧ s.s_0.take i = (xs.take j).filter (fun y => !p y) ∧ s.s_0.drop j = xs.drop j) (fun s => xs.length - s.j_6.toNat)
    ⟨rfl, i0, i0 + 1, rfl, rfl, by omega, by omega, rfl, hf0.symm, rfl⟩ ?_
  rintro s ⟨e1, i, j, e5, e6, hij, hj, hsl, htk, hdr⟩
  simp only [WL, slices_DeleteFunc_int_int.retv, slices_DeleteFunc_int_int.r0, slices_DeleteFunc_int_int.r1, slices_DeleteFunc_int_int.r2, slices_DeleteFunc_int_int.r3, slices_DeleteFunc_int_int.r4, slices_DeleteFunc_int_int.r5, slices_DeleteFunc_int_int.r7, slices_DeleteFunc_int_int.r8, slices_DeleteFunc_int_int.r9, slices_DeleteFunc_int_int.r10, slices_DeleteFunc_int_int.r6, slices_DeleteFunc_int_int.r11, slices_DeleteFunc_int_int.r12, e1, e5, e6]
  refine ⟨fun hlt => ?_, fun hge => ?_⟩
  · have hlt : j < xs.length := by omega
    have hlt' : j < s.s_0.length := by omega
    have hsj : s.s_0[j] = xs[j] := by
      have h1 : (s.s_0.drop j)[0]? = (xs.drop j)[0]? := by rw [hdr]
      rw [List.getElem?_drop, List.getElem?_drop] at h1
      simpa [hlt, hlt'] using h1
    have hd2 : s.s_0.drop (j + 1) = xs.drop (j + 1) := by
      rw [← List.drop_drop, hdr, List.drop_drop]
    have hil : i < s.s_0.length := by omega
    have hwi : w64 ((i : Int) + 1) = ((i + 1 : Nat) : Int) := w64_succ (by omega)
    rw [w64_succ (i := j) (by omega)]
    refine opt_of (idx_nat' hlt') ?_
    rw [hsj]
    refine ⟨fun h => opt_of (idx_nat' hil) ?_, fun h => ⟨⟨i, j + 1, rfl, rfl, by omega, by omega, hsl, ?_, hd2⟩, by omega⟩⟩
    · rw [hwi]
      refine ⟨⟨i + 1, j + 1, rfl, rfl, by omega, by omega, by rw [setL_len]; exact hsl, ?_, ?_⟩, by omega⟩
      · rw [take_filter hlt, h, if_pos (by decide), ← htk]
        unfold setL
        rw [Int.toNat_natCast, List.take_add_one, List.getElem?_set_self hil, List.take_set_of_le (Nat.le_refl _)]; rfl
      · unfold setL
        rw [Int.toNat_natCast, List.drop_set_of_lt (by omega), hd2]
    · rw [take_filter hlt, h, if_neg (by decide), List.append_nil, htk]
  · have : j = xs.length := by omega
    subst this
    rw [List.take_length, hr] at htk
    have hc1 : cutFrom s.s_0 (i : Int) = some (s.s_0.drop i) := by unfold cutFrom; rw [if_pos (by omega)]; simp
    have hcl : (clearFrom 0 s.s_0 (i : Int)).take i = s.s_0.take i := by
      unfold clearFrom
      rw [Int.toNat_natCast, List.take_append_of_le_length (by rw [List.length_take]; omega), List.take_take, Nat.min_self]
    have hcll : (clearFrom 0 s.s_0 (i : Int)).length = s.s_0.length := by
      unfold clearFrom; rw [List.length_append, List.length_take, List.length_replicate, Int.toNat_natCast]; omega
    have hc2 : cutTo (clearFrom 0 s.s_0 (i : Int)) (i : Int) = some r := by
      unfold cutTo; rw [if_pos (by omega), Int.toNat_natCast, hcl, htk]
    exact opt_of hc1 (opt_of hc2 rfl)
theorem li_mem {l : List Int} {k : Nat} {n x : Int} : x ∈ l.take k ++ [n] ++ l.drop k ↔ x ∈ l ∨ x = n := by
  have : x ∈ l ↔ x ∈ l.take k ∨ x ∈ l.drop k := by
    rw [← List.mem_append, List.take_append_drop]
  rw [this]
  simp only [List.mem_append, List.mem_singleton]
  constructor
  · rintro ((h | h) | h)
    · exact .inl (.inl h)
    · exact .inr h
    · exact .inl (.inr h)
  · rintro ((h | h) | h)
    · exact .inl (.inl h)
    · exact .inr h
    · exact .inl (.inr h)
theorem InsertI_ex (l : List Int) (n : Int) (hs : l.Pairwise (· < ·)) (hl : l.length ≤ 1000) : ∃ r, ref4_Insert.f l n = some r ∧ r.Pairwise (· < ·) ∧ ∀ x, x ∈ r ↔ x ∈ l ∨ x = n := by
  have hsl : ∀ (i j : Nat) (hi : i < l.length) (hj : j < l.length), i < j → l[i] < l[j] := List.pairwise_iff_getElem.1 hs
  refine retOf_ex ?_
  unfold ref4_Insert.body
  simp only [WL, ref4_Insert.retv, ref4_Insert.r0, ref4_Insert.r1, ref4_Insert.r2, ref4_Insert.r3, ref4_Insert.r4, ref4_Insert.r5, ref4_Insert.r6, Has_eq l n (by omega)]
  refine ⟨fun h => ⟨l, rfl, hs, fun x => ⟨.inl, fun hx => hx.elim id fun e => e ▸ h⟩⟩, fun h => ?_⟩
  refine W_iter (fun s => s.l_0 = l ∧ s.n_1 = n ∧ ∃ i : Nat, s.at_5 = i ∧ i ≤ l.length ∧ ∀ j, j < i → ∀ (h : j < l.length), l[j] < n) (fun s => l.length - s.at_5.toNat) ⟨rfl, rfl, 0, rfl, by omega, by omega⟩ ?_
  rintro s ⟨h0, h1, i, hi, hle, hlo⟩
  have hend : (∀ j, i ≤ j → ∀ (h : j < l.length), n < l[j]) → (l.take i ++ [n] ++ l.drop i).Pairwise (· < ·) := fun hhi => by
    rw [List.append_assoc, List.pairwise_append]
    refine ⟨hs.sublist (List.take_sublist _ _), ?_, ?_⟩
    · rw [List.singleton_append, List.pairwise_cons]
      refine ⟨fun x hx => ?_, hs.sublist (List.drop_sublist _ _)⟩
      obtain ⟨j, hj, e⟩ := List.getElem_of_mem hx
      rw [List.length_drop] at hj
      rw [List.getElem_drop] at e
      have := hhi (i + j) (by omega) (by omega)
      omega
    · intro x hx y hy
      obtain ⟨j, hj, e⟩ := List.getElem_of_mem hx
      rw [List.length_take] at hj
      rw [List.getElem_take] at e
      have hxn : x < n := by have := hlo j (by omega) (by omega); omega
      rcases List.mem_cons.1 hy with rfl | hy
      · exact hxn
      · have hy : y ∈ l.drop i := hy
        obtain ⟨j', hj', e'⟩ := List.getElem_of_mem hy
        rw [List.length_drop] at hj'
        rw [List.getElem_drop] at e'
        have := hhi (i + j') (by omega) (by omega)
        omega
  have hap1 : appL 8 ([] : List Int) (l.take i) = some (l.take i) := by rw [appL_of (by rw [List.length_take]; simp; omega)]; rfl
  have hap2 : appL 8 (l.take i) [n] = some (l.take i ++ [n]) := appL_of (by rw [List.length_take]; simp; omega)
  have hap3 : appL 8 (l.take i ++ [n]) (l.drop i) = some (l.take i ++ [n] ++ l.drop i) := appL_of (by simp; omega)
  have hc1 : cutTo l (i : Int) = some (l.take i) := by unfold cutTo; rw [if_pos (by omega)]; simp
  have hc2 : cutFrom l (i : Int) = some (l.drop i) := by unfold cutFrom; rw [if_pos (by omega)]; simp
  simp only [WL, ref4_Insert.retv, ref4_Insert.r0, ref4_Insert.r1, ref4_Insert.r2, ref4_Insert.r3, ref4_Insert.r4, ref4_Insert.r5, ref4_Insert.r6, h0, h1, hi, hap1, hap2, hap3, hc1, hc2]
  refine ⟨fun hlt => ?_, fun hge => ?_⟩
  · have hlt : i < l.length := by omega
    refine opt_of (idx_nat' hlt) ⟨fun hx => ?_, fun hx => ?_⟩
    · rw [w64_succ (by omega)]
      refine ⟨⟨i + 1, rfl, by omega, fun j hj hjl => ?_⟩, by omega⟩
      by_cases e : j = i
      · subst e; exact hx
      · exact hlo j (by omega) hjl
    · refine ⟨_, rfl, hend fun j hj hjl => ?_, fun x => li_mem⟩
      have hne : l[i] ≠ n := fun e => h (e ▸ List.getElem_mem hlt)
      by_cases e : i = j
      · subst e; omega
      · have := hsl i j hlt hjl (by omega); omega
  · refine ⟨_, rfl, hend fun j hj hjl => by omega, fun x => li_mem⟩
end Go.Proofs.Ytoiafcpnhhplnaa
