/- Plain laws of stores (out of another seat's texts, by wip/fx/trim.py). -/
import Derived.Test.YtenkbkcddcnmeaaDoorPp1
import Derived.Test.YtenkbkcddcnmeaaDoorFx11
import Derived.Test.YtenkbkcddcnmeaaDoorFx10
namespace Go.Proofs.YtenkbkcddcnmeaaDoor
open Go.Fx
set_option linter.unusedVariables false
set_option linter.unusedSimpArgs false
set_option maxRecDepth 20000

theorem half_eq {i j : Nat} (h : i + j ≤ 100000) : w64 (shrV .u64 (IntKind.u64.wrap (w64 ((i : Int) + (j : Int)))) 1) = (((i + j) / 2 : Nat) : Int) := by
  rw [w64_id (n := (i : Int) + j) (by omega) (by omega), u64_id (by omega) (by omega)]
  have e : (2 : Int) ^ (min (1 : Int).toNat IntKind.u64.bits) = 2 := by decide
  unfold shrV
  rw [e, Int.fdiv_eq_ediv_of_nonneg _ (by decide), w64_id (by omega) (by omega)]
  omega
theorem retOf_ex {σ τ : Type} {m : σ → Option (Ctl σ τ)} {s : σ} {p : τ → Prop} (h : W m (fun o => ∃ r, o = .ret r ∧ p r) s) : ∃ r, retOf (m s) = some r ∧ p r := by
  obtain ⟨o, h1, r, rfl, h2⟩ := h
  exact ⟨r, by rw [h1]; rfl, h2⟩
def Mono (l : List StoredObject) (c : StoredObject → Int) : Prop := ∀ (i j : Nat) (x y : StoredObject), i < j → l[i]? = some x → l[j]? = some y → c y < 0 → c x < 0
theorem BS_eq {l : List StoredObject} {t : Int} {g : StoredObject × Int → Option Int} {c : StoredObject → Int} (hl : l.length ≤ 1000) (hc : ∀ x, g (x, t) = some (c x)) :
    ∃ r, slices_BinarySearchFunc_api_StoredObject_api_StoredObject_int.f l t g = some r ∧ ∃ p : Nat, p ≤ l.length ∧ r = ((p : Int), (l[p]?).any (fun x => decide (c x = 0))) ∧ (Mono l c → ∀ (j : Nat) (x : StoredObject), l[j]? = some x → (j < p ↔ c x < 0)) := by
  refine retOf_ex ?_
  unfold slices_BinarySearchFunc_api_StoredObject_api_StoredObject_int.body
  simp only [WL, slices_BinarySearchFunc_api_StoredObject_api_StoredObject_int.retv, slices_BinarySearchFunc_api_StoredObject_api_StoredObject_int.r0, slices_BinarySearchFunc_api_StoredObject_api_StoredObject_int.r1, slices_BinarySearchFunc_api_StoredObject_api_StoredObject_int.r2, slices_BinarySearchFunc_api_StoredObject_api_StoredObject_int.r3, slices_BinarySearchFunc_api_StoredObject_api_StoredObject_int.r4, slices_BinarySearchFunc_api_StoredObject_api_StoredObject_int.r5, slices_BinarySearchFunc_api_StoredObject_api_StoredObject_int.r6, slices_BinarySearchFunc_api_StoredObject_api_StoredObject_int.r7, slices_BinarySearchFunc_api_StoredObject_api_StoredObject_int.r8]
  refine W_iter (fun s => s.x_0 = l ∧ s.target_1 = t ∧ s.cmp_2 = g ∧ s.n_8 = (l.length : Int) ∧ ∃ i j : Nat, s.i_9 = i ∧ s.j_10 = j ∧ i ≤ j ∧ j ≤ l.length ∧ (Mono l c → (∀ (k : Nat) (x : StoredObject), k < i → l[k]? = some x → c x < 0) ∧ (∀ (k : Nat) (x : StoredObject), j ≤ k → l[k]? = some x → 0 ≤ c x))) (fun s => (s.j_10 - s.i_9).toNat)
    ⟨rfl, rfl, rfl, rfl, 0, l.length, rfl, rfl, by omega, by omega, fun _ => ⟨fun k x hk => by omega, fun k x hk hx => by rw [List.getElem?_eq_none hk] at hx; cases hx⟩⟩ ?_
  rintro s ⟨e0, e1, e2, e8, i, j, e9, e10, hij, hj, hI⟩
  simp only [WL, slices_BinarySearchFunc_api_StoredObject_api_StoredObject_int.retv, slices_BinarySearchFunc_api_StoredObject_api_StoredObject_int.r0, slices_BinarySearchFunc_api_StoredObject_api_StoredObject_int.r1, slices_BinarySearchFunc_api_StoredObject_api_StoredObject_int.r2, slices_BinarySearchFunc_api_StoredObject_api_StoredObject_int.r3, slices_BinarySearchFunc_api_StoredObject_api_StoredObject_int.r4, slices_BinarySearchFunc_api_StoredObject_api_StoredObject_int.r5, slices_BinarySearchFunc_api_StoredObject_api_StoredObject_int.r6, slices_BinarySearchFunc_api_StoredObject_api_StoredObject_int.r7, slices_BinarySearchFunc_api_StoredObject_api_StoredObject_int.r8, e0, e1, e2, e8, e9, e10, half_eq (show i + j ≤ 100000 by omega), hc]
  refine ⟨fun hlt => ?_, fun hge => ?_⟩
  · have hh : (i + j) / 2 < l.length := by omega
    refine opt_of (idx_nat' hh) ?_
    refine ⟨fun hneg => ?_, fun hneg => ?_⟩
    · rw [w64_succ (by omega)]
      refine ⟨⟨(i + j) / 2 + 1, j, rfl, rfl, by omega, hj, fun hM => ⟨fun k x hk hx => ?_, (hI hM).2⟩⟩, by omega⟩
      by_cases hk2 : k = (i + j) / 2
      · subst hk2
        rw [List.getElem?_eq_getElem hh] at hx
        cases hx; exact hneg
      · exact hM k ((i + j) / 2) x _ (by omega) hx (List.getElem?_eq_getElem hh) hneg
    · refine ⟨⟨i, (i + j) / 2, rfl, rfl, by omega, by omega, fun hM => ⟨(hI hM).1, fun k x hk hx => ?_⟩⟩, by omega⟩
      by_cases hk2 : k = (i + j) / 2
      · subst hk2
        rw [List.getElem?_eq_getElem hh] at hx
        cases hx; omega
      · by_cases hn : c x < 0
        · have := hM ((i + j) / 2) k _ x (by omega) (List.getElem?_eq_getElem hh) hx hn
          omega
        · omega
  · have hij' : i = j := by omega
    subst hij'
    refine ⟨fun hlt => ?_, fun hge => ?_⟩
    · have hlt : i < l.length := by omega
      refine opt_of (idx_nat' hlt) ?_
      refine ⟨_, rfl, i, hj, ?_, fun hM k x hx => ⟨fun h => (hI hM).1 k x h hx, fun h => ?_⟩⟩
      · rw [List.getElem?_eq_getElem hlt]; rfl
      · by_cases hk : k < i
        · exact hk
        · have := (hI hM).2 k x (by omega) hx; omega
    · refine ⟨_, rfl, i, hj, ?_, fun hM k x hx => ⟨fun h => (hI hM).1 k x h hx, fun h => ?_⟩⟩
      · rw [List.getElem?_eq_none (by omega)]; rfl
      · by_cases hk : k < i
        · exact hk
        · have := (hI hM).2 k x (by omega) hx; omega
theorem find1_eq (x : StoredObject) (d : Int) : objects_find_1.f x d = some (w64 (x.Digest - d)) := rfl
/-- The search in a valid store. -/
structure Fd (l : List StoredObject) (d : Int) (p : Nat) (b : Bool) : Prop where
  le : p ≤ l.length
  ok : b = (l[p]?).any (fun x => decide (x.Digest = d))
  mem : b = true ↔ ∃ x ∈ l, x.Digest = d
  pos : 0 ≤ d → d < 2305843009213693951 → ∀ (j : Nat) (x : StoredObject), l[j]? = some x → (j < p ↔ x.Digest < d)
theorem OkS.dlt {l : List StoredObject} (h : OkS l) {x : StoredObject} (hx : x ∈ l) : 0 ≤ x.Digest ∧ x.Digest < 2305843009213693951 := by
  have := dig_lt (objBytes x.Object)
  rw [(h.obj x hx).2] at this
  exact this
theorem OkS.lt {l : List StoredObject} (h : OkS l) {i j : Nat} {x y : StoredObject} (hij : i < j) (hx : l[i]? = some x) (hy : l[j]? = some y) : x.Digest < y.Digest := by
  obtain ⟨h1, rfl⟩ := List.getElem?_eq_some_iff.1 hx
  obtain ⟨h2, rfl⟩ := List.getElem?_eq_some_iff.1 hy
  exact List.pairwise_iff_getElem.1 h.inc i j h1 h2 hij
theorem find_eq {l : List StoredObject} (h : OkS l) {d : Int} (d0 : -9223372036854775808 ≤ d) (d1 : d ≤ 9223372036854775807) : ∃ r, objects_find.f ⟨l⟩ d = some r ∧ ∃ (p : Nat) (b : Bool), r = ((p : Int), b) ∧ Fd l d p b := by
  obtain ⟨r, hr, p, hp, rfl, hm⟩ := BS_eq (l := l) (t := d) (g := fun x => objects_find_1.f x.1 x.2) (c := fun x => w64 (x.Digest - d)) (by have := h.len; omega) (fun x => find1_eq x d)
  have hz : ∀ x ∈ l, (w64 (x.Digest - d) = 0 ↔ x.Digest = d) := by
    intro x hx
    have := h.dlt hx
    unfold w64
    rw [IntKind.wrap_i64]
    omega
  have hany : (l[p]?).any (fun x => decide (w64 (x.Digest - d) = 0)) = (l[p]?).any (fun x => decide (x.Digest = d)) := by
    cases hx : l[p]? with
    | none => rfl
    | some x => simp only [Option.any_some]; rw [decide_eq_decide]; exact hz x (List.mem_of_getElem? hx)
  refine ⟨((p : Int), (l[p]?).any (fun x => decide (x.Digest = d))), retOf_of ?_, p, _, rfl, hp, rfl, ?_, ?_⟩
  · unfold objects_find.body
    simp only [WL, objects_find.retv, objects_find.r0, objects_find.r1, hr, hany]
  · have hpos : 0 ≤ d → d < 2305843009213693951 → ∀ (j : Nat) (x : StoredObject), l[j]? = some x → (j < p ↔ x.Digest < d) := by
      intro e0 e1 j x hx
      have hw : ∀ y ∈ l, w64 (y.Digest - d) = y.Digest - d := fun y hy => by have := h.dlt hy; exact w64_id (by omega) (by omega)
      have := hm (fun i j x y hij hx hy hc => by
        have := h.lt hij hx hy
        dsimp only at hc ⊢
        rw [hw y (List.mem_of_getElem? hy)] at hc
        rw [hw x (List.mem_of_getElem? hx)]
        omega) j x hx
      rw [this, hw x (List.mem_of_getElem? hx)]
      omega
    constructor
    · intro hb
      cases hx : l[p]? with
      | none => rw [hx] at hb; cases hb
      | some x => rw [hx] at hb; exact ⟨x, List.mem_of_getElem? hx, by simpa using hb⟩
    · rintro ⟨x, hx, rfl⟩
      have hd := h.dlt hx
      obtain ⟨j, hj, rfl⟩ := List.mem_iff_getElem.1 hx
      have hx' : l[j]? = some l[j] := List.getElem?_eq_getElem hj
      have hjp : ¬ j < p := by rw [hpos hd.1 hd.2 j _ hx']; omega
      have hpj : p = j := by
        by_cases hlt : p < j
        · have hpl : p < l.length := by omega
          have h1 := h.lt hlt (List.getElem?_eq_getElem hpl) hx'
          have h2 := (hpos hd.1 hd.2 p _ (List.getElem?_eq_getElem hpl)).2 h1
          omega
        · omega
      subst hpj
      rw [hx']; simp
  · intro e0 e1 j x hx
    have hw : ∀ y ∈ l, w64 (y.Digest - d) = y.Digest - d := fun y hy => by have := h.dlt hy; exact w64_id (by omega) (by omega)
    have := hm (fun i j x y hij hx hy hc => by
      have := h.lt hij hx hy
      dsimp only at hc ⊢
      rw [hw y (List.mem_of_getElem? hy)] at hc
      rw [hw x (List.mem_of_getElem? hx)]
      omega) j x hx
    rw [this, hw x (List.mem_of_getElem? hx)]
    omega
theorem Clone_eq {o : Object} (h : OkO o) : objects_Clone.f o = some o := by
  have h1 : CloneI.f o.Links = some o.Links := by unfold CloneI.f; rw [if_pos (by have := h.ll; omega)]
  have h2 : CloneB.f o.Data = some o.Data := by unfold CloneB.f; rw [if_pos (by have := h.dl; omega)]
  refine retOf_of ?_
  unfold objects_Clone.body
  simp only [WL, objects_Clone.retv, objects_Clone.r0, objects_Clone.r1, h1, h2]
theorem app64 {xs : List StoredObject} {x : StoredObject} (h : xs.length ≤ 1000) : appL 64 xs [x] = some (xs ++ [x]) := appL_of (by simp only [List.length_cons, List.length_nil]; omega)
theorem app8i {xs : List Int} {x : Int} (h : xs.length ≤ 10000) : appL 8 xs [x] = some (xs ++ [x]) := appL_of (by simp only [List.length_cons, List.length_nil]; omega)
theorem copied_eq {l : List StoredObject} (h : OkS l) : objects_copied.f ⟨l⟩ = some ⟨l⟩ := by
  have hl := h.len
  refine retOf_of ?_
  unfold objects_copied.body
  simp only [WL, objects_copied.retv, objects_copied.r0, objects_copied.r1, objects_copied.r2, objects_copied.r3, objects_copied.r4, objects_copied.r5, objects_copied.r6, objects_copied.r7]
  refine W_iter (fun s => s.t_8 = l ∧ s.t_9 = (l.length : Int) ∧ ∃ i : Nat, s.t_10 = i ∧ i ≤ l.length ∧ s.out_3.Objects = l.take i) (fun s => l.length - s.t_10.toNat) ⟨rfl, rfl, 0, rfl, by omega, by simp⟩ ?_
  rintro s ⟨e8, e9, i, e10, hi, e3⟩
  simp only [WL, objects_copied.retv, objects_copied.r0, objects_copied.r1, objects_copied.r2, objects_copied.r3, objects_copied.r4, objects_copied.r5, objects_copied.r6, objects_copied.r7, e8, e9, e10, e3]
  refine ⟨fun hlt => ?_, fun hge => ?_⟩
  · have hlt : i < l.length := by omega
    refine opt_of (idx_nat' hlt) (opt_of (Clone_eq (h.obj _ (List.getElem_mem hlt)).1) ?_)
    rw [app64 (by rw [List.length_take]; omega), opt_some, w64_succ (by omega)]
    exact ⟨⟨i + 1, rfl, by omega, by rw [List.take_succ_eq_append_getElem hlt]⟩, by omega⟩
  · have : i = l.length := by omega
    subst this
    rw [List.take_length]
theorem Ints_eq {a b : List Int} (ha : a.length ≤ 100000) : ref3_Ints.f a b = some (decide (a = b)) := by
  refine retOf_of ?_
  unfold ref3_Ints.body
  simp only [WL, ref3_Ints.retv, ref3_Ints.r0, ref3_Ints.r1, ref3_Ints.r2, ref3_Ints.r3, ref3_Ints.r4, ref3_Ints.r6, ref3_Ints.r7, ref3_Ints.r5, ref3_Ints.r8]
  refine ⟨fun hne => ?_, fun hle => ?_⟩
  · rw [decide_eq_false (fun h => hne (by rw [h]))]
  have hle : a.length = b.length := by omega
  refine W_iter (fun s => s.a_0 = a ∧ s.b_1 = b ∧ ∃ i : Nat, s.i_5 = i ∧ i ≤ a.length ∧ a.take i = b.take i) (fun s => a.length - s.i_5.toNat) ⟨rfl, rfl, 0, rfl, by omega, by simp⟩ ?_
  rintro s ⟨e0, e1, i, e5, hi, hI⟩
  simp only [WL, ref3_Ints.retv, ref3_Ints.r0, ref3_Ints.r1, ref3_Ints.r2, ref3_Ints.r3, ref3_Ints.r4, ref3_Ints.r6, ref3_Ints.r7, ref3_Ints.r5, ref3_Ints.r8, e0, e1, e5]
  refine ⟨fun hlt => ?_, fun hge => ?_⟩
  · have hlt : i < a.length := by omega
    have hlt2 : i < b.length := by omega
    refine opt_of (idx_nat' hlt) (opt_of (idx_nat' hlt2) ⟨fun hne => ?_, fun he => ?_⟩)
    · rw [decide_eq_false (fun h => hne (by simp only [h]))]
    · rw [w64_succ (by omega)]
      exact ⟨⟨i + 1, rfl, by omega, by rw [List.take_succ_eq_append_getElem hlt, List.take_succ_eq_append_getElem hlt2, hI, he]⟩, by omega⟩
  · have hie : i = a.length := by omega
    rw [hie, List.take_length, hle, List.take_length] at hI
    rw [decide_eq_true hI]
theorem obj_ext (a b : Object) : a = b ↔ a.Kind = b.Kind ∧ a.Links = b.Links ∧ a.Data = b.Data := by
  cases a; cases b; simp
theorem Objects_eq {a b : Object} (ha : a.Links.length ≤ 100000) : ref3_Objects.f a b = some (decide (a = b)) := by
  refine retOf_of ?_
  unfold ref3_Objects.body
  simp only [WL, ref3_Objects.retv, ref3_Objects.r0, ref3_Objects.r1, Ints_eq ha, strOf_inj]
  refine ⟨fun hk => ?_, fun hk => ?_⟩
  · rw [Bool.and_eq_decide]; congr 1; rw [decide_eq_decide]; rw [obj_ext]; simp [hk]
  · rw [decide_eq_false (fun h : a = b => hk (by rw [h]))]; rfl
open Go.Fx
set_option linter.unusedVariables false
set_option linter.unusedSimpArgs false
set_option maxRecDepth 20000

theorem take_filter {α : Type} {xs : List α} {g : α → Bool} {i : Nat} (h : i < xs.length) : (xs.take (i + 1)).filter g = (xs.take i).filter g ++ (if g xs[i] = true then [xs[i]] else []) := by
  rw [List.take_add_one, List.getElem?_eq_getElem h, List.filter_append]
  simp only [Option.toList, List.filter_cons, List.filter_nil]
theorem take_map {α β : Type} {xs : List α} {g : α → β} {i : Nat} (h : i < xs.length) : (xs.take (i + 1)).map g = (xs.take i).map g ++ [g xs[i]] := by
  rw [List.take_add_one, List.getElem?_eq_getElem h, List.map_append]
  simp only [Option.toList, List.map_cons, List.map_nil]
theorem Has_eq (l : List Int) (n : Int) (hl : l.length ≤ 9223372036854775806) : ref3_Has.f l n = some (decide (n ∈ l)) := by
  refine retOf_of ?_
  unfold ref3_Has.body
  simp only [WL, ref3_Has.retv, ref3_Has.r0, ref3_Has.r1, ref3_Has.r2, ref3_Has.r4, ref3_Has.r5, ref3_Has.r3, ref3_Has.r6]
  refine W_iter (fun s => s.l_0 = l ∧ s.n_1 = n ∧ ∃ i : Nat, s.i_5 = i ∧ i ≤ l.length ∧ ∀ j (hj : j < i) (hjl : j < l.length), l[j] ≠ n) (fun s => l.length - s.i_5.toNat) ⟨rfl, rfl, 0, rfl, by omega, by omega⟩ ?_
  rintro s ⟨h0, h1, i, hi, hle, hno⟩
  simp only [WL, ref3_Has.retv, ref3_Has.r0, ref3_Has.r1, ref3_Has.r2, ref3_Has.r4, ref3_Has.r5, ref3_Has.r3, ref3_Has.r6, h0, h1, hi]
  refine ⟨fun hlt => ?_, fun hge => ?_⟩
  · have hlt : i < l.length := by omega
    refine opt_of (idx_nat' hlt) ⟨fun h => ?_, fun h => ?_⟩
    · rw [decide_eq_true (by rw [← h]; exact List.getElem_mem hlt)]
    · rw [w64_succ (by omega)]
      refine ⟨⟨i + 1, rfl, by omega, fun j hj hjl => ?_⟩, by omega⟩
      by_cases e : j = i
      · subst e; exact h
      · exact hno j (by omega) hjl
  · rw [decide_eq_false]
    intro h
    obtain ⟨j, hj, e⟩ := List.getElem_of_mem h
    exact hno j (by omega) hj e
theorem sto_ext (a b : StoredObject) : a = b ↔ a.Digest = b.Digest ∧ a.Object = b.Object := by
  cases a; cases b; simp
theorem Stores_eq {a b : List StoredObject} (ha : a.length ≤ 1000) (hL : ∀ x ∈ a, x.Object.Links.length ≤ 100000) : ref3_Stores.f ⟨a⟩ ⟨b⟩ = some (decide (a = b)) := by
  refine retOf_of ?_
  unfold ref3_Stores.body
  simp only [WL, ref3_Stores.retv, ref3_Stores.r0, ref3_Stores.r1, ref3_Stores.r2, ref3_Stores.r3, ref3_Stores.r4, ref3_Stores.r6, ref3_Stores.r7, ref3_Stores.r5, ref3_Stores.r8]
  refine ⟨fun hne => ?_, fun hle => ?_⟩
  · rw [decide_eq_false (fun h => hne (by rw [h]))]
  have hle : a.length = b.length := by omega
  refine W_iter (fun s => s.a_2.Objects = a ∧ s.b_3.Objects = b ∧ ∃ i : Nat, s.i_5 = i ∧ i ≤ a.length ∧ a.take i = b.take i) (fun s => a.length - s.i_5.toNat) ⟨rfl, rfl, 0, rfl, by omega, by simp⟩ ?_
  rintro s ⟨e0, e1, i, e5, hi, hI⟩
  simp only [WL, ref3_Stores.retv, ref3_Stores.r0, ref3_Stores.r1, ref3_Stores.r2, ref3_Stores.r3, ref3_Stores.r4, ref3_Stores.r6, ref3_Stores.r7, ref3_Stores.r5, ref3_Stores.r8, e0, e1, e5]
  refine ⟨fun hlt => ?_, fun hge => ?_⟩
  · have hlt : i < a.length := by omega
    have hlt2 : i < b.length := by omega
    refine opt_of (idx_nat' hlt) (opt_of (idx_nat' hlt2) ?_)
    have hO := Objects_eq (a := a[i].Object) (b := b[i].Object) (hL _ (List.getElem_mem hlt))
    refine ⟨fun hne => ?_, fun he => opt_of (idx_nat' hlt) (opt_of (idx_nat' hlt2) (opt_of hO ?_))⟩
    · rw [decide_eq_false (fun h => hne (by simp only [h]))]
    · refine ⟨fun hne => ?_, fun he2 => ?_⟩
      · rw [decide_eq_false (fun h => by simp [h] at hne)]
      · rw [w64_succ (by omega)]
        have he2 : a[i].Object = b[i].Object := by simpa using he2
        exact ⟨⟨i + 1, rfl, by omega, by rw [List.take_succ_eq_append_getElem hlt, List.take_succ_eq_append_getElem hlt2, hI, (sto_ext a[i] b[i]).2 ⟨he, he2⟩]⟩, by omega⟩
  · have hie : i = a.length := by omega
    rw [hie, List.take_length, hle, List.take_length] at hI
    rw [decide_eq_true hI]
theorem Chosen_eq {l : List StoredObject} (hl : l.length ≤ 1000) (p : StoredObject → Bool) (which : Bool) : ref4_Chosen.f ⟨l⟩ (l.map p) which = some ⟨l.filter fun x => p x == which⟩ := by
  refine retOf_of ?_
  unfold ref4_Chosen.body
  simp only [WL, ref4_Chosen.retv, ref4_Chosen.r0, ref4_Chosen.r1, ref4_Chosen.r2, ref4_Chosen.r3, ref4_Chosen.r5, ref4_Chosen.r6, ref4_Chosen.r4, ref4_Chosen.r7]
  refine W_iter (fun s => s.s_3.Objects = l ∧ s.in_1 = l.map p ∧ s.which_2 = which ∧ ∃ i : Nat, s.i_8 = i ∧ i ≤ l.length ∧ s.out_7.Objects = (l.take i).filter fun x => p x == which) (fun s => l.length - s.i_8.toNat) ⟨rfl, rfl, rfl, 0, rfl, by omega, rfl⟩ ?_
  rintro s ⟨e0, e1, e2, i, e8, hi, e7⟩
  have hlen : (l.map p).length = l.length := List.length_map _
  simp only [WL, ref4_Chosen.retv, ref4_Chosen.r0, ref4_Chosen.r1, ref4_Chosen.r2, ref4_Chosen.r3, ref4_Chosen.r5, ref4_Chosen.r6, ref4_Chosen.r4, ref4_Chosen.r7, e0, e1, e2, e8, e7, hlen]
  refine ⟨fun hlt => ?_, fun hge => ?_⟩
  · have hlt : i < l.length := by omega
    refine opt_of (idx_nat' (xs := l.map p) (by omega)) ⟨fun hx => ?_, fun hx => ?_⟩
    · have hx : p l[i] = which := by simpa using hx
      have hle : ((l.take i).filter fun x => p x == which).length ≤ 1000 := Nat.le_trans (List.length_filter_le _ _) (by rw [List.length_take]; omega)
      refine opt_of (idx_nat' hlt) ?_
      rw [app64 hle, opt_some, w64_succ (by omega)]
      exact ⟨⟨i + 1, rfl, by omega, by rw [take_filter hlt, if_pos (by simp [hx])]⟩, by omega⟩
    · have hx : p l[i] ≠ which := by simpa using hx
      rw [w64_succ (by omega)]
      exact ⟨⟨i + 1, rfl, by omega, by rw [take_filter hlt, if_neg (by simp [hx]), List.append_nil]⟩, by omega⟩
  · have : i = l.length := by omega
    subst this
    rw [List.take_length]
theorem DigestsOf_eq {l : List StoredObject} (hl : l.length ≤ 1000) : ref4_DigestsOf.f ⟨l⟩ = some (l.map (·.Digest)) := by
  refine retOf_of ?_
  unfold ref4_DigestsOf.body
  simp only [WL, ref4_DigestsOf.retv, ref4_DigestsOf.r0, ref4_DigestsOf.r1, ref4_DigestsOf.r2, ref4_DigestsOf.r3, ref4_DigestsOf.r5, ref4_DigestsOf.r4, ref4_DigestsOf.r6]
  refine W_iter (fun s => s.s_1.Objects = l ∧ ∃ i : Nat, s.i_4 = i ∧ i ≤ l.length ∧ s.out_3 = (l.take i).map (·.Digest)) (fun s => l.length - s.i_4.toNat) ⟨rfl, 0, rfl, by omega, rfl⟩ ?_
  rintro s ⟨e0, i, e4, hi, e3⟩
  simp only [WL, ref4_DigestsOf.retv, ref4_DigestsOf.r0, ref4_DigestsOf.r1, ref4_DigestsOf.r2, ref4_DigestsOf.r3, ref4_DigestsOf.r5, ref4_DigestsOf.r4, ref4_DigestsOf.r6, e0, e4, e3]
  refine ⟨fun hlt => ?_, fun hge => ?_⟩
  · have hlt : i < l.length := by omega
    refine opt_of (idx_nat' hlt) ?_
    rw [app8i (by rw [List.length_map, List.length_take]; omega), opt_some, w64_succ (by omega)]
    exact ⟨⟨i + 1, rfl, by omega, by rw [take_map hlt]⟩, by omega⟩
  · have : i = l.length := by omega
    subst this
    rw [List.take_length]
open Go.Fx
set_option linter.unusedVariables false
set_option linter.unusedSimpArgs false
set_option maxRecDepth 20000

theorem Validate_ok {l : List StoredObject} (h : OkS l) : objects_Validate.f ⟨l⟩ = some ⟨0, 0⟩ := by
  rw [Validate_eq, sFault_eq0.2 (show OkS (⟨l⟩ : ObjectStore).Objects from h)]
theorem OkS.filter {l : List StoredObject} (h : OkS l) (p : StoredObject → Bool) : OkS (l.filter p) where
  len := Nat.le_trans (List.length_filter_le _ _) h.len
  obj := fun o ho => h.obj o ((List.mem_filter.1 ho).1)
  inc := h.inc.sublist List.filter_sublist
theorem OkS.uniq {l : List StoredObject} (h : OkS l) {x y : StoredObject} (hx : x ∈ l) (hy : y ∈ l) (e : x.Digest = y.Digest) : x = y := by
  obtain ⟨i, hi, rfl⟩ := List.getElem_of_mem hx
  obtain ⟨j, hj, rfl⟩ := List.getElem_of_mem hy
  by_cases h1 : i < j
  · have := h.lt h1 (List.getElem?_eq_getElem hi) (List.getElem?_eq_getElem hj); omega
  by_cases h2 : j < i
  · have := h.lt h2 (List.getElem?_eq_getElem hj) (List.getElem?_eq_getElem hi); omega
  have : i = j := by omega
  subst this; rfl
def keep (limit : Int) (x : StoredObject) : Bool := !(decide (x.Object.Kind = 1) && decide (limit < (x.Object.Data.length : Int)))
/-- A store with one object more. -/
def ins (x : StoredObject) : List StoredObject → List StoredObject
  | [] => [x]
  | y :: l => if x.Digest < y.Digest then x :: y :: l else y :: ins x l
theorem ins_mem (x : StoredObject) : ∀ {l : List StoredObject} {y : StoredObject}, y ∈ ins x l ↔ y = x ∨ y ∈ l
  | [], y => by simp [ins]
  | z :: l, y => by
    unfold ins
    by_cases h : x.Digest < z.Digest
    · rw [if_pos h, List.mem_cons]
    · rw [if_neg h, List.mem_cons, ins_mem x, List.mem_cons]
      exact ⟨fun h => h.elim (fun h => .inr (.inl h)) fun h => h.elim .inl fun h => .inr (.inr h), fun h => h.elim (fun h => .inr (.inl h)) fun h => h.elim .inl fun h => .inr (.inr h)⟩
theorem ins_len (x : StoredObject) : ∀ l : List StoredObject, (ins x l).length = l.length + 1
  | [] => rfl
  | z :: l => by
    unfold ins
    by_cases h : x.Digest < z.Digest
    · rw [if_pos h]; rfl
    · rw [if_neg h, List.length_cons, ins_len x l]; rfl
theorem ins_inc (x : StoredObject) : ∀ {l : List StoredObject}, l.Pairwise (fun a b => a.Digest < b.Digest) → (∀ y ∈ l, y.Digest ≠ x.Digest) → (ins x l).Pairwise (fun a b => a.Digest < b.Digest)
  | [], _, _ => List.pairwise_singleton _ _
  | z :: l, hp, hn => by
    unfold ins
    have hz := hn z (by simp)
    rw [List.pairwise_cons] at hp
    by_cases h : x.Digest < z.Digest
    · rw [if_pos h, List.pairwise_cons, List.pairwise_cons]
      refine ⟨fun y hy => ?_, hp⟩
      rcases List.mem_cons.1 hy with rfl | hy
      · exact h
      · have := hp.1 y hy; omega
    · rw [if_neg h, List.pairwise_cons]
      refine ⟨fun y hy => ?_, ins_inc x hp.2 fun y hy => hn y (List.mem_cons_of_mem _ hy)⟩
      rcases (ins_mem x).1 hy with rfl | hy
      · omega
      · exact hp.1 y hy
theorem ins_at (x : StoredObject) : ∀ {l : List StoredObject} {p : Nat}, p ≤ l.length → (∀ (j : Nat) (y : StoredObject), l[j]? = some y → (j < p ↔ y.Digest < x.Digest)) → (∀ y ∈ l, y.Digest ≠ x.Digest) → l.take p ++ [x] ++ l.drop p = ins x l
  | [], p, hp, _, _ => by
    have : p = 0 := by simpa using hp
    subst this; rfl
  | z :: l, 0, hp, hj, hn => by
    have := (hj 0 z rfl).2
    have hz := hn z (by simp)
    unfold ins
    rw [if_pos (by omega)]; rfl
  | z :: l, p + 1, hp, hj, hn => by
    have := (hj 0 z rfl).1 (by omega)
    unfold ins
    rw [if_neg (by omega), ← ins_at x (p := p) (by simpa using hp) (fun j y hy => by rw [← hj (j + 1) y hy]; omega) fun y hy => hn y (List.mem_cons_of_mem _ hy)]
    rfl
theorem OkS.put {l : List StoredObject} (h : OkS l) {x : StoredObject} (ho : OkO x.Object ∧ dig (objBytes x.Object) = x.Digest) (hn : ∀ y ∈ l, y.Digest ≠ x.Digest) (hl : l.length < 40) : OkS (ins x l) where
  len := by rw [ins_len]; omega
  obj := fun y hy => by
    rcases (ins_mem x).1 hy with e | hy
    · rw [e]; exact ho
    · exact h.obj y hy
  inc := ins_inc x h.inc hn
theorem Insert_eq {l : List StoredObject} {x : StoredObject} {p : Nat} (hl : l.length ≤ 1000) (hp : p ≤ l.length) : Insert.f l (p : Int) [x] = some (l.take p ++ [x] ++ l.drop p) := by
  unfold Insert.f
  rw [if_pos ⟨by omega, by omega, hl, by simp⟩, Int.toNat_natCast]
theorem Put_eq {l : List StoredObject} (h : OkS l) {o : Object} {d : Int} (ho : OkO o) (hd : dig (objBytes o) = d) (hn : ∀ y ∈ l, y.Digest ≠ d) (hl : l.length < 40) :
    objects_Put.f ⟨l⟩ o = some (⟨ins ⟨d, o⟩ l⟩, d, ⟨0, 0⟩) := by
  have hD := Digest_eq ho
  have hd' := dig_lt (objBytes o)
  rw [hd] at hD hd'
  clear hd
  obtain ⟨r, hr, p, b, rfl, hF⟩ := find_eq h (d := d) (by omega) (by omega)
  have hb : b = false := by
    cases b with
    | false => rfl
    | true => obtain ⟨x, hx, e⟩ := hF.mem.1 rfl; exact absurd e (hn x hx)
  subst hb
  have hI := Insert_eq (l := l) (x := ⟨d, o⟩) (by omega) hF.le
  rw [ins_at ⟨d, o⟩ hF.le (hF.pos hd'.1 hd'.2) hn] at hI
  refine retOf_of ?_
  unfold objects_Put.body
  simp only [WL, objects_Put.retv, objects_Put.r0, objects_Put.r1, objects_Put.r2, objects_Put.r3, objects_Put.r4, objects_Put.r5, objects_Put.r6, objects_Put.r7, objects_Put.r8, objects_Put.r9, objects_Put.r10, objects_Put.r11, objects_Put.r12, objects_Put.r13, objects_Put.r14, objects_Put.r15, objects_Put.r16, Validate_ok h, hr, copied_eq h, hD, Clone_eq ho, hI, decide_true, Bool.not_true]
  exact ⟨fun e => by omega, fun _ => trivial⟩
theorem OkS.nil : OkS [] := ⟨by decide, fun _ h => by simp at h, List.Pairwise.nil⟩
open Go.Fx
set_option linter.unusedVariables false
set_option linter.unusedSimpArgs false
set_option maxRecDepth 20000

def I64 (d : Int) : Prop := -9223372036854775808 ≤ d ∧ d ≤ 9223372036854775807
open Go.Fx
set_option linter.unusedVariables false
set_option linter.unusedSimpArgs false
set_option maxRecDepth 20000

/-- What can be reached from the roots by the links of a store. -/
inductive Rch (l : List StoredObject) (roots : List Int) : Int → Prop
  | root {d : Int} : d ∈ roots → Rch l roots d
  | step {x : StoredObject} {d : Int} : x ∈ l → Rch l roots x.Digest → d ∈ x.Object.Links → Rch l roots d
theorem Rch.i64 {l : List StoredObject} {roots : List Int} (h : OkS l) (hr : ∀ d ∈ roots, I64 d) {d : Int} (hd : Rch l roots d) : I64 d := by
  induction hd with
  | root h => exact hr _ h
  | step hx _ hd _ => have := (h.obj _ hx).1.lk _ hd; exact ⟨by omega, by omega⟩
theorem mget_mput {β : Type} (k k' : Int) (v : β) : ∀ m : List (Int × β), mget (mput m k v) k' = if k = k' then some v else mget m k'
  | [] => by unfold mput mget; by_cases h : k = k' <;> simp [h, mget]
  | (a, b) :: m => by
    unfold mput
    by_cases h : a = k
    · subst h
      rw [if_pos rfl]
      by_cases h2 : a = k'
      · subst h2; simp [mget]
      · simp [mget, h2]
    · rw [if_neg h]
      by_cases h2 : a = k'
      · subst h2
        simp [mget, Ne.symm h]
      · rw [mget, if_neg h2, mget_mput k k' v m, mget, if_neg h2]
theorem cutFrom1 {d : Int} {line : List Int} : cutFrom (d :: line) 1 = some line := by
  unfold cutFrom
  rw [if_pos ⟨by omega, by rw [List.length_cons]; omega⟩]; rfl
def cf (xs : List Bool) : Nat := (xs.filter fun b => !b).length
theorem cf_set : ∀ {xs : List Bool} {i : Nat}, xs[i]? = some false → cf (xs.set i true) < cf xs
  | [], i, h => by simp at h
  | b :: xs, 0, h => by
    have : b = false := by simpa using h
    subst this
    simp [cf]
  | b :: xs, i + 1, h => by
    have := cf_set (xs := xs) (i := i) (by simpa using h)
    unfold cf at *
    cases b <;> simp at * <;> omega
/-- Marks that are sound. -/
structure MS (l : List StoredObject) (roots : List Int) (m : List Bool) : Prop where
  len : m.length = l.length
  snd : ∀ (i : Nat) (h : i < l.length), m[i]? = some true → Rch l roots l[i].Digest
def hit (l : List StoredObject) (roots : List Int) (m : List Bool) (n : Nat) (d : Int) : Prop := d ∈ roots ∨ ∃ (k : Nat) (h : k < l.length), k < n ∧ m[k]? = some true ∧ d ∈ l[k].Object.Links
theorem hit_rch {l : List StoredObject} {roots : List Int} {m : List Bool} {n : Nat} {d : Int} (hM : MS l roots m) (h : hit l roots m n d) : Rch l roots d := by
  rcases h with h | ⟨k, hk, _, h1, h2⟩
  · exact .root h
  · exact .step (List.getElem_mem hk) (hM.snd k hk h1) h2
theorem MS.set {l : List StoredObject} {roots : List Int} {m : List Bool} (h : MS l roots m) {i : Nat} (hi : i < l.length) (hr : Rch l roots l[i].Digest) : MS l roots (setL m (i : Int) true) where
  len := by unfold setL; rw [List.length_set]; exact h.len
  snd := fun j hj hm => by
    unfold setL at hm
    rw [Int.toNat_natCast, List.getElem?_set] at hm
    by_cases e : i = j
    · subst e; exact hr
    · rw [if_neg e] at hm
      exact h.snd j hj hm
open Classical in
noncomputable def marks (l : List StoredObject) (roots : List Int) : List Bool := l.map fun x => decide (Rch l roots x.Digest)
open Classical in
theorem marks_of {l : List StoredObject} {roots : List Int} {m : List Bool} (h : MS l roots m) (hc : ∀ (i : Nat) (hi : i < l.length), hit l roots m l.length l[i].Digest → m[i]? = some true) : m = marks l roots := by
  have hr : ∀ d, Rch l roots d → ∀ (i : Nat) (hi : i < l.length), l[i].Digest = d → m[i]? = some true := fun d hd => by
    induction hd with
    | root hd => intro i hi e; exact hc i hi (.inl (e ▸ hd))
    | @step x d hx _ hd ih =>
      intro i hi e
      obtain ⟨k, hk, rfl⟩ := List.getElem_of_mem hx
      exact hc i hi (.inr ⟨k, hk, hk, ih k hk rfl, e ▸ hd⟩)
  unfold marks
  refine List.ext_getElem (by rw [List.length_map]; exact h.len) fun i h1 h2 => ?_
  rw [List.getElem_map]
  have hi : i < l.length := by rw [← h.len]; exact h1
  cases hb : m[i] with
  | true =>
    have := h.snd i hi (by rw [List.getElem?_eq_getElem h1, hb])
    rw [decide_eq_true this]
  | false =>
    rw [decide_eq_false]
    intro hd
    have := hr _ hd i hi rfl
    rw [List.getElem?_eq_getElem h1, hb] at this
    cases this
theorem mkL_eq {n : Nat} (h : n ≤ 1000) : mkL 1 false (n : Int) = some (List.replicate n false) := by
  unfold mkL; rw [if_pos (by omega), Int.toNat_natCast]
theorem MS.zero {l : List StoredObject} {roots : List Int} : MS l roots (List.replicate l.length false) where
  len := List.length_replicate
  snd := fun i h hm => by
    rw [List.getElem?_replicate] at hm
    split at hm <;> cases hm
theorem Marked_eq {l : List StoredObject} {roots : List Int} (hS : OkS l) (hl : roots.length ≤ 1000) : ref4_Marked.f ⟨l⟩ roots = some (marks l roots) := by
  have hll := hS.len
  refine retOf_of ?_
  unfold ref4_Marked.body
  simp only [WL, ref4_Marked.retv, ref4_Marked.r0, ref4_Marked.r1, ref4_Marked.r2, ref4_Marked.r3, ref4_Marked.r4, ref4_Marked.r5, ref4_Marked.r6, ref4_Marked.r8, ref4_Marked.r9, ref4_Marked.r10, ref4_Marked.r11, ref4_Marked.r13, ref4_Marked.r12, ref4_Marked.r14, ref4_Marked.r15, ref4_Marked.r16, ref4_Marked.r7, ref4_Marked.r17, mkL_eq (show l.length ≤ 1000 by omega)]
  refine W_iter (fun s => s.t_1 = roots ∧ s.t_2 = ⟨l⟩ ∧ MS l roots s.t_5 ∧ (s.t_6 = false → ∀ (i : Nat) (hi : i < l.length), hit l roots s.t_5 l.length l[i].Digest → s.t_5[i]? = some true)) (fun s => 2 * cf s.t_5 + if s.t_6 = true then 1 else 0) ⟨rfl, rfl, MS.zero, fun h => by cases h⟩ ?_
  rintro s ⟨e1, e2, hM, hC⟩
  generalize hm : s.t_5 = m at hM hC
  cases h6 : s.t_6 with
  | false =>
    rw [marks_of hM (hC h6)] at hm
    simp only [WL, ref4_Marked.retv, ref4_Marked.r0, ref4_Marked.r1, ref4_Marked.r2, ref4_Marked.r3, ref4_Marked.r4, ref4_Marked.r5, ref4_Marked.r6, ref4_Marked.r8, ref4_Marked.r9, ref4_Marked.r10, ref4_Marked.r11, ref4_Marked.r13, ref4_Marked.r12, ref4_Marked.r14, ref4_Marked.r15, ref4_Marked.r16, ref4_Marked.r7, ref4_Marked.r17, h6, hm]
  | true =>
    simp only [WL, ref4_Marked.retv, ref4_Marked.r0, ref4_Marked.r1, ref4_Marked.r2, ref4_Marked.r3, ref4_Marked.r4, ref4_Marked.r5, ref4_Marked.r6, ref4_Marked.r8, ref4_Marked.r9, ref4_Marked.r10, ref4_Marked.r11, ref4_Marked.r13, ref4_Marked.r12, ref4_Marked.r14, ref4_Marked.r15, ref4_Marked.r16, ref4_Marked.r7, ref4_Marked.r17, e1, e2, h6, hm]
    refine W_iter (fun s => s.t_1 = roots ∧ s.t_2 = ⟨l⟩ ∧ MS l roots s.t_5 ∧ cf s.t_5 ≤ cf m ∧ (s.t_6 = true → cf s.t_5 < cf m) ∧ ∃ i : Nat, s.t_7 = i ∧ i ≤ l.length ∧ (s.t_6 = false → ∀ (j : Nat) (hj : j < l.length), j < i → hit l roots s.t_5 l.length l[j].Digest → s.t_5[j]? = some true)) (fun s => l.length - s.t_7.toNat) ⟨rfl, rfl, hM, Nat.le_refl _, fun h => absurd h Bool.false_ne_true, 0, rfl, Nat.zero_le _, fun _ j _ hj => absurd hj (Nat.not_lt_zero _)⟩ ?_
    rintro s ⟨e1, e2, hM', hcf, hcf', i, e7, hi, hC⟩
    generalize hm' : s.t_5 = m' at hM' hcf hcf' hC
    simp only [WL, ref4_Marked.retv, ref4_Marked.r0, ref4_Marked.r1, ref4_Marked.r2, ref4_Marked.r3, ref4_Marked.r4, ref4_Marked.r5, ref4_Marked.r6, ref4_Marked.r8, ref4_Marked.r9, ref4_Marked.r10, ref4_Marked.r11, ref4_Marked.r13, ref4_Marked.r12, ref4_Marked.r14, ref4_Marked.r15, ref4_Marked.r16, ref4_Marked.r7, ref4_Marked.r17, e1, e2, e7, hm']
    refine ⟨fun hlt => ?_, fun hge => ?_⟩
    · have hlt : i < l.length := by omega
      have hH := Has_eq roots l[i].Digest (by omega)
      refine opt_of (idx_nat' hlt) ?_
      simp only [WL, ref4_Marked.retv, ref4_Marked.r0, ref4_Marked.r1, ref4_Marked.r2, ref4_Marked.r3, ref4_Marked.r4, ref4_Marked.r5, ref4_Marked.r6, ref4_Marked.r8, ref4_Marked.r9, ref4_Marked.r10, ref4_Marked.r11, ref4_Marked.r13, ref4_Marked.r12, ref4_Marked.r14, ref4_Marked.r15, ref4_Marked.r16, ref4_Marked.r7, ref4_Marked.r17, hH]
      refine W_iter (fun s => s.t_1 = roots ∧ s.t_2 = ⟨l⟩ ∧ s.t_5 = m' ∧ s.t_7 = (i : Int) ∧ s.t_8 = l[i].Digest ∧ (s.t_6 = true → cf m' < cf m) ∧ (s.t_6 = false → ∀ (j : Nat) (hj : j < l.length), j < i → hit l roots m' l.length l[j].Digest → m'[j]? = some true) ∧ ∃ k : Nat, s.t_10 = k ∧ k ≤ l.length ∧ (s.t_9 = true ↔ hit l roots m' k l[i].Digest)) (fun s => l.length - s.t_10.toNat) ⟨rfl, rfl, rfl, rfl, rfl, hcf', hC, 0, rfl, Nat.zero_le _, ?_⟩ ?_
      · show decide _ = true ↔ _
        rw [decide_eq_true_eq]
        exact ⟨.inl, fun h => h.elim id fun ⟨k, _, hk, _⟩ => absurd hk (Nat.not_lt_zero _)⟩
      rintro s ⟨e1, e2, e5, e7, e8, hcf', hC, k, e10, hk, his⟩
      generalize h9 : s.t_9 = is at his
      simp only [WL, ref4_Marked.retv, ref4_Marked.r0, ref4_Marked.r1, ref4_Marked.r2, ref4_Marked.r3, ref4_Marked.r4, ref4_Marked.r5, ref4_Marked.r6, ref4_Marked.r8, ref4_Marked.r9, ref4_Marked.r10, ref4_Marked.r11, ref4_Marked.r13, ref4_Marked.r12, ref4_Marked.r14, ref4_Marked.r15, ref4_Marked.r16, ref4_Marked.r7, ref4_Marked.r17, e1, e2, e5, e7, e8, h9, e10]
      refine ⟨fun hltk => ?_, fun hgek => ?_⟩
      · have hltk : k < l.length := by omega
        have hmk : k < m'.length := by rw [hM'.len]; exact hltk
        have hstep : hit l roots m' (k + 1) l[i].Digest ↔ hit l roots m' k l[i].Digest ∨ (m'[k]? = some true ∧ l[i].Digest ∈ l[k].Object.Links) := by
          constructor
          · rintro (h | ⟨j, hj, h1, h2, h3⟩)
            · exact .inl (.inl h)
            · by_cases e : j = k
              · subst e; exact .inr ⟨h2, h3⟩
              · exact .inl (.inr ⟨j, hj, by omega, h2, h3⟩)
          · rintro ((h | ⟨j, hj, h1, h2, h3⟩) | ⟨h2, h3⟩)
            · exact .inl h
            · exact .inr ⟨j, hj, by omega, h2, h3⟩
            · exact .inr ⟨k, hltk, by omega, h2, h3⟩
        have hnext : ∀ b : Prop, (b ↔ hit l roots m' (k + 1) l[i].Digest) → (∃ k1 : Nat, w64 ((k : Int) + 1) = k1 ∧ k1 ≤ l.length ∧ (b ↔ hit l roots m' k1 l[i].Digest)) ∧ l.length - (w64 ((k : Int) + 1)).toNat < l.length - (k : Int).toNat := by
          intro b hb
          rw [w64_succ (by omega)]
          exact ⟨⟨k + 1, rfl, by omega, hb⟩, by omega⟩
        have hL := Has_eq l[k].Object.Links l[i].Digest (by have := (hS.obj _ (List.getElem_mem hltk)).1.ll; omega)
        refine ⟨fun h => ?_, fun h => opt_of (idx_nat' hmk) ⟨fun hk1 => opt_of (idx_nat' hltk) (opt_of hL ?_), fun hk1 => ?_⟩⟩
        · have := hnext True (by rw [hstep]; exact ⟨fun _ => .inl (his.1 h), fun _ => trivial⟩)
          exact ⟨⟨hcf', hC, this.1⟩, this.2⟩
        · have hnh : ¬ hit l roots m' k l[i].Digest := fun e => h (his.2 e)
          have hk2 : m'[k]? = some true := by rw [List.getElem?_eq_getElem hmk, hk1]
          have := hnext (l[i].Digest ∈ l[k].Object.Links) (by rw [hstep]; exact ⟨fun e => .inr ⟨hk2, e⟩, fun e => e.elim (fun e => absurd e hnh) And.right⟩)
          simp only [WL]
          exact ⟨⟨hcf', hC, this.1⟩, this.2⟩
        · have hnh : ¬ hit l roots m' k l[i].Digest := fun e => h (his.2 e)
          have hk2 : m'[k]? = some false := by rw [List.getElem?_eq_getElem hmk]; simp [hk1]
          have := hnext False (by rw [hstep]; exact ⟨False.elim, fun e => e.elim hnh fun e => by rw [hk2] at e; cases e.1⟩)
          exact ⟨⟨hcf', hC, this.1⟩, this.2⟩
      · have hkl : k = l.length := by omega
        subst hkl
        have him : i < m'.length := by rw [hM'.len]; exact hlt
        have hfin : ∀ c : Bool, (c = false → ∀ (j : Nat) (hj : j < l.length), j < i → hit l roots m' l.length l[j].Digest → m'[j]? = some true) → (c = false → hit l roots m' l.length l[i].Digest → m'[i]? = some true) → (∃ i1 : Nat, w64 ((i : Int) + 1) = i1 ∧ i1 ≤ l.length ∧ (c = false → ∀ (j : Nat) (hj : j < l.length), j < i1 → hit l roots m' l.length l[j].Digest → m'[j]? = some true)) ∧ l.length - (w64 ((i : Int) + 1)).toNat < l.length - (i : Int).toNat := by
          intro c h1 h2
          rw [w64_succ (by omega)]
          refine ⟨⟨i + 1, rfl, by omega, fun hc j hj hji => ?_⟩, by omega⟩
          by_cases e : j = i
          · subst e; exact h2 hc
          · exact h1 hc j hj (by omega)
        refine ⟨fun h => opt_of (idx_nat' him) ⟨fun hb => opt_of (idx_nat' him) ?_, fun hb => ?_⟩, fun h => ?_⟩
        · have hb2 : m'[i]? = some false := by rw [List.getElem?_eq_getElem him, hb]
          have hc := cf_set hb2
          have hcs : cf (setL m' (i : Int) true) < cf m' := by unfold setL; rw [Int.toNat_natCast]; exact hc
          rw [w64_succ (by omega)]
          refine ⟨⟨hM'.set hlt (hit_rch hM' (his.1 h)), by omega, by omega, i + 1, rfl, by omega⟩, by omega⟩
        · have hb2 : m'[i]? = some true := by rw [List.getElem?_eq_getElem him]; simpa using hb
          have := hfin s.t_6 hC fun _ _ => hb2
          exact ⟨⟨hM', hcf, hcf', this.1⟩, this.2⟩
        · have := hfin s.t_6 hC fun _ e => absurd (his.2 e) h
          exact ⟨⟨hM', hcf, hcf', this.1⟩, this.2⟩
    · have hil : i = l.length := by omega
      subst hil
      cases h6' : s.t_6 with
      | false =>
        refine ⟨⟨hM', fun _ j hj h => hC h6' j hj hj h⟩, ?_⟩
        rw [if_neg (by decide)]; omega
      | true =>
        have := hcf' h6'
        refine ⟨⟨hM', fun h => by cases h⟩, ?_⟩
        rw [if_pos rfl]; omega
open Go.Fx
set_option linter.unusedVariables false
set_option linter.unusedSimpArgs false
set_option maxRecDepth 20000

theorem app8g' {xs ys : List Int} (h : xs.length + ys.length ≤ 200000) : appL 8 xs ys = some (xs ++ ys) := appL_of (by omega)
/-- The places of the first k objects. -/
structure AtI (l : List StoredObject) (k : Nat) (m : List (Int × Int)) : Prop where
  to : ∀ (j : Nat) (h : j < l.length), j < k → mget m l[j].Digest = some (j : Int)
  of : ∀ (d i : Int), mget m d = some i → ∃ (j : Nat) (h : j < l.length), j < k ∧ i = j ∧ l[j].Digest = d
theorem AtI.next {l : List StoredObject} (hS : OkS l) {k : Nat} {m : List (Int × Int)} (h : AtI l k m) (hk : k < l.length) : AtI l (k + 1) (mput m l[k].Digest (k : Int)) where
  to := fun j hj hjk => by
    rw [mget_mput]
    by_cases e : j = k
    · subst e; rw [if_pos rfl]
    · rw [if_neg, h.to j hj (by omega)]
      intro e2
      have := hS.lt (i := j) (j := k) (by omega) (List.getElem?_eq_getElem hj) (List.getElem?_eq_getElem hk)
      omega
  of := fun d i hd => by
    rw [mget_mput] at hd
    by_cases e : l[k].Digest = d
    · rw [if_pos e] at hd
      cases hd
      exact ⟨k, hk, by omega, rfl, e⟩
    · rw [if_neg e] at hd
      obtain ⟨j, hj, h1, h2, h3⟩ := h.of d i hd
      exact ⟨j, hj, by omega, h2, h3⟩
/-- What the walk of gc keeps. -/
structure GI (l : List StoredObject) (roots : List Int) (m : List Bool) (line : List Int) : Prop where
  a : ∀ d ∈ line, Rch l roots d
  ms : MS l roots m
  c : ∀ d ∈ roots, d ∈ line ∨ ∀ (i : Nat) (h : i < l.length), l[i].Digest = d → m[i]? = some true
  d : ∀ (k : Nat) (h : k < l.length), m[k]? = some true → ∀ d ∈ l[k].Object.Links, d ∈ line ∨ ∀ (i : Nat) (h : i < l.length), l[i].Digest = d → m[i]? = some true
  h : line.length + 30 * cf m ≤ 100000
theorem GI.skip {l : List StoredObject} {roots : List Int} {m : List Bool} {line : List Int} {d : Int} (h : GI l roots m (d :: line)) (hd : ∀ (i : Nat) (h : i < l.length), l[i].Digest = d → m[i]? = some true) : GI l roots m line where
  a := fun x hx => h.a x (.tail _ hx)
  ms := h.ms
  c := fun x hx => (h.c x hx).elim (fun hx => (List.mem_cons.1 hx).elim (fun e => .inr (e ▸ hd)) .inl) .inr
  d := fun k hk hm x hx => (h.d k hk hm x hx).elim (fun hx => (List.mem_cons.1 hx).elim (fun e => .inr (e ▸ hd)) .inl) .inr
  h := by have := h.h; rw [List.length_cons] at this; omega
theorem GI.zero {l : List StoredObject} {roots : List Int} (hS : OkS l) (hl : roots.length ≤ 1000) : GI l roots (List.replicate l.length false) roots where
  a := fun d hd => .root hd
  ms := MS.zero
  c := fun d hd => .inl hd
  d := fun k hk hm => by
    rw [List.getElem?_replicate] at hm
    split at hm <;> cases hm
  h := by
    have : cf (List.replicate l.length false) ≤ l.length := by unfold cf; exact Nat.le_trans (List.length_filter_le _ _) (by rw [List.length_replicate]; exact Nat.le_refl _)
    have := hS.len
    omega
theorem setL_get {m : List Bool} {k i : Nat} (h : m[i]? = some true) : (setL m (k : Int) true)[i]? = some true := by
  unfold setL
  rw [Int.toNat_natCast, List.getElem?_set]
  by_cases e : k = i
  · subst e
    rw [if_pos rfl, if_pos]
    exact (List.getElem?_eq_some_iff.1 h).1
  · rw [if_neg e, h]
theorem setL_self {m : List Bool} {k : Nat} (h : k < m.length) : (setL m (k : Int) true)[k]? = some true := by
  unfold setL
  rw [Int.toNat_natCast, List.getElem?_set, if_pos rfl, if_pos h]
theorem GI.more {l : List StoredObject} {roots : List Int} {m : List Bool} {line : List Int} (hS : OkS l) {k : Nat} (hk : k < l.length) (h : GI l roots m (l[k].Digest :: line)) (hm : m[k]? = some false) : GI l roots (setL m (k : Int) true) (line ++ l[k].Object.Links) := by
  have hkm : k < m.length := by rw [h.ms.len]; exact hk
  have hcov : ∀ (i : Nat) (h : i < l.length), l[i].Digest = l[k].Digest → (setL m (k : Int) true)[i]? = some true := fun i hi e => by
    have e2 : i = k := by
      by_cases h1 : i < k
      · have := hS.lt h1 (List.getElem?_eq_getElem hi) (List.getElem?_eq_getElem hk); omega
      · by_cases h2 : k < i
        · have := hS.lt h2 (List.getElem?_eq_getElem hk) (List.getElem?_eq_getElem hi); omega
        · omega
    subst e2
    exact setL_self hkm
  refine ⟨fun x hx => ?_, h.ms.set hk (h.a _ (.head _)), fun x hx => ?_, fun j hj hmj x hx => ?_, ?_⟩
  · rcases List.mem_append.1 hx with hx | hx
    · exact h.a x (.tail _ hx)
    · exact .step (List.getElem_mem hk) (h.a _ (.head _)) hx
  · rw [List.mem_append]
    rcases h.c x hx with hx | hx
    · rcases List.mem_cons.1 hx with e | hx
      · rw [e]; exact .inr hcov
      · exact .inl (.inl hx)
    · exact .inr fun i hi e => setL_get (hx i hi e)
  · rw [List.mem_append]
    by_cases e : j = k
    · subst e; exact .inl (.inr hx)
    · have hmj2 : m[j]? = some true := by
        unfold setL at hmj
        rw [Int.toNat_natCast, List.getElem?_set, if_neg (fun h => e h.symm)] at hmj
        exact hmj
      rcases h.d j hj hmj2 x hx with hx | hx
      · rcases List.mem_cons.1 hx with e | hx
        · rw [e]; exact .inr hcov
        · exact .inl (.inl hx)
      · exact .inr fun i hi e => setL_get (hx i hi e)
  · have h1 := cf_set hm
    have h2 : cf (setL m (k : Int) true) = cf (m.set k true) := by unfold setL; rw [Int.toNat_natCast]
    have h3 := h.h
    have h4 := (hS.obj _ (List.getElem_mem hk)).1.ll
    rw [List.length_cons] at h3
    rw [List.length_append, h2]
    omega
theorem GI.done {l : List StoredObject} {roots : List Int} {m : List Bool} (h : GI l roots m []) : m = marks l roots := by
  refine marks_of h.ms fun i hi hh => ?_
  rcases hh with hr | ⟨k, hk, _, h1, h2⟩
  · exact (h.c _ hr).elim (fun h => by simp at h) fun h => h i hi rfl
  · exact (h.d k hk h1 _ h2).elim (fun h => by simp at h) fun h => h i hi rfl
theorem gcmark_eq {l : List StoredObject} {roots : List Int} (hS : OkS l) (hl : roots.length ≤ 1000) : gc_mark.f ⟨l⟩ roots = some (marks l roots) := by
  have hll := hS.len
  have hCl : CloneI.f roots = some roots := by unfold CloneI.f; rw [if_pos (by omega)]
  refine retOf_of ?_
  unfold gc_mark.body
  simp only [WL, gc_mark.retv, gc_mark.r0, gc_mark.r1, gc_mark.r2, gc_mark.r3, gc_mark.r4, gc_mark.r5, gc_mark.r6, gc_mark.r7, gc_mark.r8, gc_mark.r9, gc_mark.r10, gc_mark.r11, gc_mark.r12, gc_mark.r13, gc_mark.r14, gc_mark.r15]
  refine W_iter (fun s => s.t_1 = roots ∧ s.t_2 = ⟨l⟩ ∧ s.t_14 = l ∧ s.t_15 = (l.length : Int) ∧ ∃ k : Nat, s.t_16 = k ∧ k ≤ l.length ∧ AtI l k s.t_5) (fun s => l.length - s.t_16.toNat) ⟨rfl, rfl, rfl, rfl, 0, rfl, Nat.zero_le _, ⟨fun j _ h => absurd h (Nat.not_lt_zero _), fun d i h => by cases h⟩⟩ ?_
  rintro s ⟨e1, e2, e14, e15, k, e16, hk, hA⟩
  generalize h5 : s.t_5 = at5 at hA
  simp only [WL, gc_mark.retv, gc_mark.r0, gc_mark.r1, gc_mark.r2, gc_mark.r3, gc_mark.r4, gc_mark.r5, gc_mark.r6, gc_mark.r7, gc_mark.r8, gc_mark.r9, gc_mark.r10, gc_mark.r11, gc_mark.r12, gc_mark.r13, gc_mark.r14, gc_mark.r15, e1, e2, e14, e15, e16, h5, hCl, mkL_eq (show l.length ≤ 1000 by omega)]
  refine ⟨fun hlt => ?_, fun hge => ?_⟩
  · have hlt : k < l.length := by omega
    refine opt_of (idx_nat' hlt) ?_
    rw [w64_succ (by omega)]
    exact ⟨⟨k + 1, rfl, by omega, hA.next hS hlt⟩, by omega⟩
  have hkl : k = l.length := by omega
  subst hkl
  refine W_iter (fun s => s.t_2 = ⟨l⟩ ∧ s.t_5 = at5 ∧ GI l roots s.t_8 s.t_9) (fun s => s.t_9.length + 30 * cf s.t_8) ⟨rfl, rfl, GI.zero hS hl⟩ ?_
  clear s e1 e2 e14 e15 e16 h5 hge hk
  rintro s ⟨e2, e5, hI⟩
  generalize h8 : s.t_8 = m at hI
  cases hline : s.t_9 with
  | nil =>
    rw [hline] at hI
    rw [hI.done] at h8
    simp only [WL, gc_mark.retv, gc_mark.r0, gc_mark.r1, gc_mark.r2, gc_mark.r3, gc_mark.r4, gc_mark.r5, gc_mark.r6, gc_mark.r7, gc_mark.r8, gc_mark.r9, gc_mark.r10, gc_mark.r11, gc_mark.r12, gc_mark.r13, gc_mark.r14, gc_mark.r15, e2, e5, h8, hline, List.length_nil]
    exact ⟨fun e => absurd e (by decide), fun _ => trivial⟩
  | cons d line =>
    rw [hline] at hI
    have hidx : idx (d :: line) 0 = some d := rfl
    have hpos : (0 : Int) < ((d :: line).length : Int) := by rw [List.length_cons]; omega
    have hlen := hI.h
    rw [List.length_cons] at hlen
    simp only [WL, gc_mark.retv, gc_mark.r0, gc_mark.r1, gc_mark.r2, gc_mark.r3, gc_mark.r4, gc_mark.r5, gc_mark.r6, gc_mark.r7, gc_mark.r8, gc_mark.r9, gc_mark.r10, gc_mark.r11, gc_mark.r12, gc_mark.r13, gc_mark.r14, gc_mark.r15, e2, e5, h8, hline, hidx, hpos]
    refine opt_of cutFrom1 ?_
    cases hg : mget at5 d with
    | none =>
      simp only [WL, Option.isSome_none]
      refine ⟨hI.skip fun i hi e => ?_, by rw [List.length_cons]; omega⟩
      have := hA.to i hi hi
      rw [e, hg] at this; cases this
    | some i =>
      obtain ⟨j, hj, _, rfl, e⟩ := hA.of d i hg
      subst e
      have hjm : j < m.length := by rw [hI.ms.len]; exact hj
      simp only [WL, Option.isSome_some, Option.getD_some]
      refine opt_of (idx_nat' hjm) ⟨fun hb => opt_of (idx_nat' hjm) (opt_of (idx_nat' hj) ?_), fun hb => ?_⟩
      · have hb2 : m[j]? = some false := by rw [List.getElem?_eq_getElem hjm, hb]
        have h4 := (hS.obj _ (List.getElem_mem hj)).1.ll
        refine opt_of (app8g' (by omega)) ⟨hI.more hS hj hb2, ?_⟩
        have h1 := cf_set hb2
        have h2 : cf (setL m (j : Int) true) = cf (m.set j true) := by unfold setL; rw [Int.toNat_natCast]
        rw [List.length_cons, List.length_append, h2]; omega
      · have hb2 : m[j]? = some true := by rw [List.getElem?_eq_getElem hjm]; simpa using hb
        refine ⟨hI.skip fun i hi e => ?_, by rw [List.length_cons]; omega⟩
        have e2 : i = j := by
          by_cases h1 : i < j
          · have := hS.lt h1 (List.getElem?_eq_getElem hi) (List.getElem?_eq_getElem hj); omega
          · by_cases h2 : j < i
            · have := hS.lt h2 (List.getElem?_eq_getElem hj) (List.getElem?_eq_getElem hi); omega
            · omega
        subst e2; exact hb2
open Classical in
theorem Mark_eq {l : List StoredObject} {roots : List Int} (hS : OkS l) (hl : roots.length ≤ 50) : gc_Mark.f ⟨l⟩ roots = some ((l.filter fun x => decide (Rch l roots x.Digest)).map (·.Digest), ⟨0, 0⟩) := by
  have hll := hS.len
  have hml : (marks l roots).length = l.length := by unfold marks; rw [List.length_map]
  refine retOf_of ?_
  unfold gc_Mark.body
  simp only [WL, gc_Mark.retv, gc_Mark.r0, gc_Mark.r1, gc_Mark.r2, gc_Mark.r3, gc_Mark.r4, gc_Mark.r5, gc_Mark.r6, gc_Mark.r7, gc_Mark.r8, gc_Mark.r9, gc_Mark.r10, gc_Mark.r11, gc_Mark.r12, gc_Mark.r13, Validate_ok hS, gcmark_eq hS (show roots.length ≤ 1000 by omega), hml]
  refine ⟨fun e => by omega, fun _ => ?_⟩
  refine W_iter (fun s => s.s_2 = ⟨l⟩ ∧ s.t_22 = marks l roots ∧ s.t_23 = (l.length : Int) ∧ ∃ i : Nat, s.t_24 = i ∧ i ≤ l.length ∧ s.out_7 = ((l.take i).filter fun x => decide (Rch l roots x.Digest)).map (·.Digest)) (fun s => l.length - s.t_24.toNat) ⟨rfl, rfl, rfl, 0, rfl, Nat.zero_le _, rfl⟩ ?_
  rintro s ⟨e2, e22, e23, i, e24, hi, e7⟩
  simp only [WL, gc_Mark.retv, gc_Mark.r0, gc_Mark.r1, gc_Mark.r2, gc_Mark.r3, gc_Mark.r4, gc_Mark.r5, gc_Mark.r6, gc_Mark.r7, gc_Mark.r8, gc_Mark.r9, gc_Mark.r10, gc_Mark.r11, gc_Mark.r12, gc_Mark.r13, e2, e22, e23, e24, e7]
  refine ⟨fun hlt => ?_, fun hge => ?_⟩
  · have hlt : i < l.length := by omega
    have hmi : idx (marks l roots) (i : Int) = some (decide (Rch l roots l[i].Digest)) := by
      rw [show marks l roots = l.map (fun x => decide (Rch l roots x.Digest)) from rfl, idx_nat' (by rw [List.length_map]; exact hlt), List.getElem_map]
    have hlen : (((l.take i).filter fun x => decide (Rch l roots x.Digest)).map (·.Digest)).length ≤ 1000 := by
      rw [List.length_map]; exact Nat.le_trans (List.length_filter_le _ _) (by rw [List.length_take]; omega)
    refine opt_of hmi ⟨fun h => opt_of (idx_nat' hlt) ?_, fun h => ?_⟩
    · rw [app8i (by omega), opt_some, w64_succ (by omega)]
      exact ⟨⟨i + 1, rfl, by omega, by rw [take_filter hlt, if_pos h, List.map_append]; rfl⟩, by omega⟩
    · rw [w64_succ (by omega)]
      exact ⟨⟨i + 1, rfl, by omega, by rw [take_filter hlt, if_neg (by rw [h]; decide), List.append_nil]⟩, by omega⟩
  · have : i = l.length := by omega
    subst this
    rw [List.take_length]
open Go.Fx
set_option linter.unusedVariables false
set_option linter.unusedSimpArgs false
set_option maxRecDepth 20000

def o1 : Object := ⟨1, [], [7]⟩
def o2 : Object := ⟨2, [17106956], []⟩
theorem ok1 : OkO o1 := okO rfl
theorem ok2 : OkO o2 := okO rfl
theorem dig1_eq : dig (objBytes o1) = 17106956 := by decide +kernel
theorem dig2_eq : dig (objBytes o2) = 1662115313083863167 := by decide +kernel
def x1 : StoredObject := ⟨17106956, o1⟩
def x2 : StoredObject := ⟨1662115313083863167, o2⟩
theorem okS1 : OkS [x1] where
  len := by decide
  obj := fun o h => by rw [List.mem_singleton.1 h]; exact ⟨ok1, dig1_eq⟩
  inc := List.pairwise_singleton _ _
theorem okS2 : OkS [x1, x2] where
  len := by decide
  obj := fun o h => by
    rcases List.mem_cons.1 h with e | h
    · rw [e]; exact ⟨ok1, dig1_eq⟩
    · rw [List.mem_singleton.1 h]; exact ⟨ok2, dig2_eq⟩
  inc := List.pairwise_cons.2 ⟨fun y hy => by rw [List.mem_singleton.1 hy]; decide, List.pairwise_singleton _ _⟩
theorem put1 : objects_Put.f ⟨[]⟩ o1 = some (⟨[x1]⟩, 17106956, ⟨0, 0⟩) := Put_eq OkS.nil ok1 dig1_eq (fun _ h => by simp at h) (by decide)
theorem put2 : objects_Put.f ⟨[x1]⟩ o2 = some (⟨[x1, x2]⟩, 1662115313083863167, ⟨0, 0⟩) := by
  rw [Put_eq okS1 ok2 dig2_eq (fun y h => by rw [List.mem_singleton.1 h]; decide) (by decide)]
  rfl
theorem small_eq : law4_small.f = some (⟨[x1, x2]⟩, 17106956, 1662115313083863167, true) := by
  have h1 : objects_Put.f ⟨[]⟩ ⟨1, [], [7]⟩ = some (⟨[x1]⟩, 17106956, ⟨0, 0⟩) := put1
  have h2 : objects_Put.f ⟨[x1]⟩ ⟨2, [17106956], []⟩ = some (⟨[x1, x2]⟩, 1662115313083863167, ⟨0, 0⟩) := put2
  refine retOf_of ?_
  unfold law4_small.body
  simp only [WL, law4_small.retv, law4_small.r0, law4_small.r1, law4_small.r2, law4_small.r3, h1, h2]
  exact ⟨fun _ => rfl, fun e => absurd e (by decide)⟩
theorem w64_00 {α β : Type} : w64 ((([] : List α).length : Int) + (([] : List β).length : Int)) = 0 := by
  rw [List.length_nil, List.length_nil]; decide
open Go.Fx
set_option linter.unusedVariables false
set_option linter.unusedSimpArgs false
set_option maxRecDepth 20000

end Go.Proofs.YtenkbkcddcnmeaaDoor
