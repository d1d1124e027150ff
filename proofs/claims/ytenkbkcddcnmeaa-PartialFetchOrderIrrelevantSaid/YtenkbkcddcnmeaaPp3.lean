/- Stores: search, copies, comparison. -/
import Derived.Test.YtenkbkcddcnmeaaPp2
namespace Go.Proofs.Ytenkbkcddcnmeaa
open Go.Fx
set_option linter.unusedVariables false
set_option linter.unusedSimpArgs false
set_option maxRecDepth 20000

theorem half_eq {i j : Nat} (h : i + j ≤ 100000) : w64 (shrV .u64 (IntKind.u64.wrap (w64 ((i : Int) + (j : Int)))) 1) = (((i + j) / 2 : Nat) : Int) := by
  rw [w64_id (n := (i : Int) + j) (by omega) (by omega), u64_id (by omega) (by omega)]
  have e : (2 : Int) ^ (min (1 : Int).toNat IntKind.u64.bits) = 2 := by decide
  unfold shrV
  rw [e, Int.fdiv_eq_ediv_of_nonneg _ (by decide), w64_id (by omega) (by omega)]
  omega
theorem retOf_ex {σ τ : Type} {m : σ → Option (Ctl σ τ)} {s : σ} {p : τ → Prop} (h : W m (fun o => ∃ r, o = .ret r ∧ p r) s) : ∃ r, retOf (m s) = some r ∧ p r := by
  obtain ⟨o, h1, r, rfl, h2⟩ := h
  exact ⟨r, by rw [h1]; rfl, h2⟩
def Mono (l : List StoredObject) (c : StoredObject → Int) : Prop := ∀ (i j : Nat) (x y : StoredObject), i < j → l[i]? = some x → l[j]? = some y → c y < 0 → c x < 0
theorem BS_eq {l : List StoredObject} {t : Int} {g : StoredObject × Int → Option Int} {c : StoredObject → Int} (hl : l.length ≤ 1000) (hc : ∀ x, g (x, t) = some (c x)) :
    ∃ r, slices_BinarySearchFunc_api_StoredObject_api_StoredObject_int.f l t g = some r ∧ ∃ p : Nat, p ≤ l.length ∧ r = ((p : Int), (l[p]?).any (fun x => decide (c x = 0))) ∧ (Mono l c → ∀ (j : Nat) (x : StoredObject), l[j]? = some x → (j < p ↔ c x < 0)) := by
  refine retOf_ex ?_
  unfold slices_BinarySearchFunc_api_StoredObject_api_StoredObject_int.body
  simp only [WL, slices_BinarySearchFunc_api_StoredObject_api_StoredObject_int.retv, slices_BinarySearchFunc_api_StoredObject_api_StoredObject_int.r0, slices_BinarySearchFunc_api_StoredObject_api_StoredObject_int.r1, slices_BinarySearchFunc_api_StoredObject_api_StoredObject_int.r2, slices_BinarySearchFunc_api_StoredObject_api_StoredObject_int.r3, slices_BinarySearchFunc_api_StoredObject_api_StoredObject_int.r4, slices_BinarySearchFunc_api_StoredObject_api_StoredObject_int.r5, slices_BinarySearchFunc_api_StoredObject_api_StoredObject_int.r6, slices_BinarySearchFunc_api_StoredObject_api_StoredObject_int.r7, slices_BinarySearchFunc_api_StoredObject_api_StoredObject_int.r8]
  refine W_iter (fun s => s.x_0 = l ∧ s.target_1 = t ∧ s.cmp_2 = g ∧ s.n_8 = (l.length : Int) ∧ ∃ i j : Nat, s.i_9 = i ∧ s.j_10 = j ∧ i ≤ j ∧ j ≤ l.length ∧ (Mono l c → (∀ (k : Nat) (x : StoredObject), k < i → l[k]? = some x → c x < 0) ∧ (∀ (k : Nat) (x : StoredObject), j ≤ k → l[k]? = some x → 0 ≤ c x))) (fun s => (s.j_10 - s.i_9).toNat)
    ⟨rfl, rfl, rfl, rfl, 0, l.length, rfl, rfl, by omega, by omega, fun _ => ⟨fun k x hk => by omega, fun k x hk hx => by rw [List.getElem?_eq_none hk] at hx; cases hx⟩⟩ ?_
  rintro s ⟨e0, e1, e2, e8, i, j, e9, e10, hij, hj, hI⟩
  simp only [WL, slices_BinarySearchFunc_api_StoredObject_api_StoredObject_int.retv, slices_BinarySearchFunc_api_StoredObject_api_StoredObject_int.r0, slices_BinarySearchFunc_api_StoredObject_api_StoredObject_int.r1, slices_BinarySearchFunc_api_StoredObject_api_StoredObject_int.r2, slices_BinarySearchFunc_api_StoredObject_api_StoredObject_int.r3, slices_BinarySearchFunc_api_StoredObject_api_StoredObject_int.r4, slices_BinarySearchFunc_api_StoredObject_api_StoredObject_int.r5, slices_BinarySearchFunc_api_StoredObject_api_StoredObject_int.r6, slices_BinarySearchFunc_api_StoredObject_api_StoredObject_int.r7, slices_BinarySearchFunc_api_StoredObject_api_StoredObject_int.r8, e0, e1, e2, e8, e9, e10, half_eq (show i + j ≤ 100000 by omega), hc]
  refine ⟨fun hlt => ?_, fun hge => ?_⟩
  · have hh : (i + j) / 2 < l.length := by omega
    refine opt_of (idx_nat' hh) ?_
    refine ⟨fun hneg => ?_, fun hneg => ?_⟩
    · rw [w64_succ (by omega)]
      refine ⟨⟨(i + j) / 2 + 1, j, rfl, rfl, by omega, hj, fun hM => ⟨fun k x hk hx => ?_, (hI hM).2⟩⟩, by omega⟩
      by_cases hk2 : k = (i + j) / 2
      · subst hk2
        rw [List.getElem?_eq_getElem hh] at hx
        cases hx; exact hneg
      · exact hM k ((i + j) / 2) x _ (by omega) hx (List.getElem?_eq_getElem hh) hneg
    · refine ⟨⟨i, (i + j) / 2, rfl, rfl, by omega, by omega, fun hM => ⟨(hI hM).1, fun k x hk hx => ?_⟩⟩, by omega⟩
      by_cases hk2 : k = (i + j) / 2
      · subst hk2
        rw [List.getElem?_eq_getElem hh] at hx
        cases hx; omega
      · by_cases hn : c x < 0
        · have := hM ((i + j) / 2) k _ x (by omega) (List.getElem?_eq_getElem hh) hx hn
          omega
        · omega
  · have hij' : i = j := by omega
    subst hij'
    refine ⟨fun hlt => ?_, fun hge => ?_⟩
    · have hlt : i < l.length := by omega
      refine opt_of (idx_nat' hlt) ?_
      refine ⟨_, rfl, i, hj, ?_, fun hM k x hx => ⟨fun h => (hI hM).1 k x h hx, fun h => ?_⟩⟩
      · rw [List.getElem?_eq_getElem hlt]; rfl
      · by_cases hk : k < i
        · exact hk
        · have := (hI hM).2 k x (by omega) hx; omega
    · refine ⟨_, rfl, i, hj, ?_, fun hM k x hx => ⟨fun h => (hI hM).1 k x h hx, fun h => ?_⟩⟩
      · rw [List.getElem?_eq_none (by omega)]; rfl
      · by_cases hk : k < i
        · exact hk
        · have := (hI hM).2 k x (by omega) hx; omega
theorem find1_eq (x : StoredObject) (d : Int) : objects_find_1.f x d = some (w64 (x.Digest - d)) := rfl
/-- The search in a valid store. -/
structure Fd (l : List StoredObject) (d : Int) (p : Nat) (b : Bool) : Prop where
  le : p ≤ l.length
  ok : b = (l[p]?).any (fun x => decide (x.Digest = d))
  mem : b = true ↔ ∃ x ∈ l, x.Digest = d
  pos : 0 ≤ d → d < 2305843009213693951 → ∀ (j : Nat) (x : StoredObject), l[j]? = some x → (j < p ↔ x.Digest < d)
theorem OkS.dlt {l : List StoredObject} (h : OkS l) {x : StoredObject} (hx : x ∈ l) : 0 ≤ x.Digest ∧ x.Digest < 2305843009213693951 := by
  have := dig_lt (objBytes x.Object)
  rw [(h.obj x hx).2] at this
  exact this
theorem OkS.lt {l : List StoredObject} (h : OkS l) {i j : Nat} {x y : StoredObject} (hij : i < j) (hx : l[i]? = some x) (hy : l[j]? = some y) : x.Digest < y.Digest := by
  obtain ⟨h1, rfl⟩ := List.getElem?_eq_some_iff.1 hx
  obtain ⟨h2, rfl⟩ := List.getElem?_eq_some_iff.1 hy
  exact List.pairwise_iff_getElem.1 h.inc i j h1 h2 hij
theorem find_eq {l : List StoredObject} (h : OkS l) {d : Int} (d0 : -9223372036854775808 ≤ d) (d1 : d ≤ 9223372036854775807) : ∃ r, objects_find.f ⟨l⟩ d = some r ∧ ∃ (p : Nat) (b : Bool), r = ((p : Int), b) ∧ Fd l d p b := by
  obtain ⟨r, hr, p, hp, rfl, hm⟩ := BS_eq (l := l) (t := d) (g := fun x => objects_find_1.f x.1 x.2) (c := fun x => w64 (x.Digest - d)) (by have := h.len; omega) (fun x => find1_eq x d)
  have hz : ∀ x ∈ l, (w64 (x.Digest - d) = 0 ↔ x.Digest = d) := by
    intro x hx
    have := h.dlt hx
    unfold w64
    rw [IntKind.wrap_i64]
    omega
  have hany : (l[p]?).any (fun x => decide (w64 (x.Digest - d) = 0)) = (l[p]?).any (fun x => decide (x.Digest = d)) := by
    cases hx : l[p]? with
    | none => rfl
    | some x => simp only [Option.any_some]; rw [decide_eq_decide]; exact hz x (List.mem_of_getElem? hx)
  refine ⟨((p : Int), (l[p]?).any (fun x => decide (x.Digest = d))), retOf_of ?_, p, _, rfl, hp, rfl, ?_, ?_⟩
  · unfold objects_find.body
    simp only [WL, objects_find.retv, objects_find.r0, objects_find.r1, hr, hany]
  · have hpos : 0 ≤ d → d < 2305843009213693951 → ∀ (j : Nat) (x : StoredObject), l[j]? = some x → (j < p ↔ x.Digest < d) := by
      intro e0 e1 j x hx
      have hw : ∀ y ∈ l, w64 (y.Digest - d) = y.Digest - d := fun y hy => by have := h.dlt hy; exact w64_id (by omega) (by omega)
      have := hm (fun i j x y hij hx hy hc => by
        have := h.lt hij hx hy
        dsimp only at hc ⊢
        rw [hw y (List.mem_of_getElem? hy)] at hc
        rw [hw x (List.mem_of_getElem? hx)]
        omega) j x hx
      rw [this, hw x (List.mem_of_getElem? hx)]
      omega
    constructor
    · intro hb
      cases hx : l[p]? with
      | none => rw [hx] at hb; cases hb
      | some x => rw [hx] at hb; exact ⟨x, List.mem_of_getElem? hx, by simpa using hb⟩
    · rintro ⟨x, hx, rfl⟩
      have hd := h.dlt hx
      obtain ⟨j, hj, rfl⟩ := List.mem_iff_getElem.1 hx
      have hx' : l[j]? = some l[j] := List.getElem?_eq_getElem hj
      have hjp : ¬ j < p := by rw [hpos hd.1 hd.2 j _ hx']; omega
      have hpj : p = j := by
        by_cases hlt : p < j
        · have hpl : p < l.length := by omega
          have h1 := h.lt hlt (List.getElem?_eq_getElem hpl) hx'
          have h2 := (hpos hd.1 hd.2 p _ (List.getElem?_eq_getElem hpl)).2 h1
          omega
        · omega
      subst hpj
      rw [hx']; simp
  · intro e0 e1 j x hx
    have hw : ∀ y ∈ l, w64 (y.Digest - d) = y.Digest - d := fun y hy => by have := h.dlt hy; exact w64_id (by omega) (by omega)
    have := hm (fun i j x y hij hx hy hc => by
      have := h.lt hij hx hy
      dsimp only at hc ⊢
      rw [hw y (List.mem_of_getElem? hy)] at hc
      rw [hw x (List.mem_of_getElem? hx)]
      omega) j x hx
    rw [this, hw x (List.mem_of_getElem? hx)]
    omega
theorem Clone_eq {o : Object} (h : OkO o) : objects_Clone.f o = some o := by
  have h1 : CloneI.f o.Links = some o.Links := by unfold CloneI.f; rw [if_pos (by have := h.ll; omega)]
  have h2 : CloneB.f o.Data = some o.Data := by unfold CloneB.f; rw [if_pos (by have := h.dl; omega)]
  refine retOf_of ?_
  unfold objects_Clone.body
  simp only [WL, objects_Clone.retv, objects_Clone.r0, objects_Clone.r1, h1, h2]
theorem app64 {xs : List StoredObject} {x : StoredObject} (h : xs.length ≤ 1000) : appL 64 xs [x] = some (xs ++ [x]) := appL_of (by simp only [List.length_cons, List.length_nil]; omega)
theorem app8i {xs : List Int} {x : Int} (h : xs.length ≤ 10000) : appL 8 xs [x] = some (xs ++ [x]) := appL_of (by simp only [List.length_cons, List.length_nil]; omega)
theorem copied_eq {l : List StoredObject} (h : OkS l) : objects_copied.f ⟨l⟩ = some ⟨l⟩ := by
  have hl := h.len
  refine retOf_of ?_
  unfold objects_copied.body
  simp only [WL, objects_copied.retv, objects_copied.r0, objects_copied.r1, objects_copied.r2, objects_copied.r3, objects_copied.r4, objects_copied.r5, objects_copied.r6, objects_copied.r7]
  refine W_iter (fun s => s.t_8 = l ∧ s.t_9 = (l.length : Int) ∧ ∃ i : Nat, s.t_10 = i ∧ i ≤ l.length ∧ s.out_3.Objects = l.take i) (fun s => l.length - s.t_10.toNat) ⟨rfl, rfl, 0, rfl, by omega, by simp⟩ ?_
  rintro s ⟨e8, e9, i, e10, hi, e3⟩
  simp only [WL, objects_copied.retv, objects_copied.r0, objects_copied.r1, objects_copied.r2, objects_copied.r3, objects_copied.r4, objects_copied.r5, objects_copied.r6, objects_copied.r7, e8, e9, e10, e3]
  refine ⟨fun hlt => ?_, fun hge => ?_⟩
  · have hlt : i < l.length := by omega
    refine opt_of (idx_nat' hlt) (opt_of (Clone_eq (h.obj _ (List.getElem_mem hlt)).1) ?_)
    rw [app64 (by rw [List.length_take]; omega), opt_some, w64_succ (by omega)]
    exact ⟨⟨i + 1, rfl, by omega, by rw [List.take_succ_eq_append_getElem hlt]⟩, by omega⟩
  · have : i = l.length := by omega
    subst this
    rw [List.take_length]
theorem Ints_eq {a b : List Int} (ha : a.length ≤ 100000) : ref3_Ints.f a b = some (decide (a = b)) := by
  refine retOf_of ?_
  unfold ref3_Ints.body
  simp only [WL, ref3_Ints.retv, ref3_Ints.r0, ref3_Ints.r1, ref3_Ints.r2, ref3_Ints.r3, ref3_Ints.r4, ref3_Ints.r6, ref3_Ints.r7, ref3_Ints.r5, ref3_Ints.r8]
  refine ⟨fun hne => ?_, fun hle => ?_⟩
  · rw [decide_eq_false (fun h => hne (by rw [h]))]
  have hle : a.length = b.length := by omega
  refine W_iter (fun s => s.a_0 = a ∧ s.b_1 = b ∧ ∃ i : Nat, s.i_5 = i ∧ i ≤ a.length ∧ a.take i = b.take i) (fun s => a.length - s.i_5.toNat) ⟨rfl, rfl, 0, rfl, by omega, by simp⟩ ?_
  rintro s ⟨e0, e1, i, e5, hi, hI⟩
  simp only [WL, ref3_Ints.retv, ref3_Ints.r0, ref3_Ints.r1, ref3_Ints.r2, ref3_Ints.r3, ref3_Ints.r4, ref3_Ints.r6, ref3_Ints.r7, ref3_Ints.r5, ref3_Ints.r8, e0, e1, e5]
  refine ⟨fun hlt => ?_, fun hge => ?_⟩
  · have hlt : i < a.length := by omega
    have hlt2 : i < b.length := by omega
    refine opt_of (idx_nat' hlt) (opt_of (idx_nat' hlt2) ⟨fun hne => ?_, fun he => ?_⟩)
    · rw [decide_eq_false (fun h => hne (by simp only [h]))]
    · rw [w64_succ (by omega)]
      exact ⟨⟨i + 1, rfl, by omega, by rw [List.take_succ_eq_append_getElem hlt, List.take_succ_eq_append_getElem hlt2, hI, he]⟩, by omega⟩
  · have hie : i = a.length := by omega
    rw [hie, List.take_length, hle, List.take_length] at hI
    rw [decide_eq_true hI]
theorem Equal_eq {a b : List Int} (ha : a.length ≤ 100000) : slices_Equal_int_int.f a b = some (decide (a = b)) := by
  refine retOf_of ?_
  unfold slices_Equal_int_int.body
  simp only [WL, slices_Equal_int_int.retv, slices_Equal_int_int.r0, slices_Equal_int_int.r1, slices_Equal_int_int.r2, slices_Equal_int_int.r3, slices_Equal_int_int.r4, slices_Equal_int_int.r5, slices_Equal_int_int.r6, slices_Equal_int_int.r7, slices_Equal_int_int.r8, slices_Equal_int_int.r9]
  refine ⟨fun hne => ?_, fun hle => ?_⟩
  · rw [decide_eq_false (fun h => hne (by rw [h]))]
  have hle : a.length = b.length := by omega
  refine W_iter (fun s => s.s1_0 = a ∧ s.s2_1 = b ∧ s.t_12 = (a.length : Int) ∧ ∃ i : Nat, s.t_13 = i ∧ i ≤ a.length ∧ a.take i = b.take i) (fun s => a.length - s.t_13.toNat) ⟨rfl, rfl, rfl, 0, rfl, by omega, by simp⟩ ?_
  rintro s ⟨e0, e1, e12, i, e5, hi, hI⟩
  simp only [WL, slices_Equal_int_int.retv, slices_Equal_int_int.r0, slices_Equal_int_int.r1, slices_Equal_int_int.r2, slices_Equal_int_int.r3, slices_Equal_int_int.r4, slices_Equal_int_int.r5, slices_Equal_int_int.r6, slices_Equal_int_int.r7, slices_Equal_int_int.r8, slices_Equal_int_int.r9, e0, e1, e12, e5]
  refine ⟨fun hlt => ?_, fun hge => ?_⟩
  · have hlt : i < a.length := by omega
    have hlt2 : i < b.length := by omega
    refine opt_of (idx_nat' hlt) (opt_of (idx_nat' hlt2) ⟨fun hne => ?_, fun he => ?_⟩)
    · rw [decide_eq_false (fun h => hne (by simp only [h]))]
    · rw [w64_succ (by omega)]
      exact ⟨⟨i + 1, rfl, by omega, by rw [List.take_succ_eq_append_getElem hlt, List.take_succ_eq_append_getElem hlt2, hI, he]⟩, by omega⟩
  · have hie : i = a.length := by omega
    rw [hie, List.take_length, hle, List.take_length] at hI
    rw [decide_eq_true hI]
theorem obj_ext (a b : Object) : a = b ↔ a.Kind = b.Kind ∧ a.Links = b.Links ∧ a.Data = b.Data := by
  cases a; cases b; simp
theorem Objects_eq {a b : Object} (ha : a.Links.length ≤ 100000) : ref3_Objects.f a b = some (decide (a = b)) := by
  refine retOf_of ?_
  unfold ref3_Objects.body
  simp only [WL, ref3_Objects.retv, ref3_Objects.r0, ref3_Objects.r1, Ints_eq ha, strOf_inj]
  refine ⟨fun hk => ?_, fun hk => ?_⟩
  · rw [Bool.and_eq_decide]; congr 1; rw [decide_eq_decide]; rw [obj_ext]; simp [hk]
  · rw [decide_eq_false (fun h : a = b => hk (by rw [h]))]; rfl
theorem Same_eq {a b : Object} (ha : a.Links.length ≤ 100000) : objects_Same.f a b = some (decide (a = b)) := by
  have hB : bytes_Equal.f a.Data b.Data = some (decide (strOf a.Data = strOf b.Data)) := rfl
  refine retOf_of ?_
  unfold objects_Same.body
  simp only [WL, objects_Same.retv, objects_Same.r0, objects_Same.r1, Equal_eq ha, hB, strOf_inj]
  refine ⟨fun hk => ⟨fun hL => ?_, fun hL => ?_⟩, fun hk => ?_⟩
  · congr 1; rw [decide_eq_decide, obj_ext]; simp [hk, hL]
  · rw [decide_eq_false (fun h : a = b => hL (by rw [h]))]
  · rw [decide_eq_false (fun h : a = b => hk (by rw [h]))]
end Go.Proofs.Ytenkbkcddcnmeaa
