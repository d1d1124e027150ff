/- Filter, Has, Get, Put, Merge with an empty store. -/
import Derived.Test.YtenkbkcddcnmeaaPp4
namespace Go.Proofs.Ytenkbkcddcnmeaa
open Go.Fx
set_option linter.unusedVariables false
set_option linter.unusedSimpArgs false
set_option maxRecDepth 20000

theorem Validate_ok {l : List StoredObject} (h : OkS l) : objects_Validate.f ⟨l⟩ = some ⟨0, 0⟩ := by
  rw [Validate_eq, sFault_eq0.2 (show OkS (⟨l⟩ : ObjectStore).Objects from h)]
theorem OkS.filter {l : List StoredObject} (h : OkS l) (p : StoredObject → Bool) : OkS (l.filter p) where
  len := Nat.le_trans (List.length_filter_le _ _) h.len
  obj := fun o ho => h.obj o ((List.mem_filter.1 ho).1)
  inc := h.inc.sublist List.filter_sublist
theorem OkS.uniq {l : List StoredObject} (h : OkS l) {x y : StoredObject} (hx : x ∈ l) (hy : y ∈ l) (e : x.Digest = y.Digest) : x = y := by
  obtain ⟨i, hi, rfl⟩ := List.getElem_of_mem hx
  obtain ⟨j, hj, rfl⟩ := List.getElem_of_mem hy
  by_cases h1 : i < j
  · have := h.lt h1 (List.getElem?_eq_getElem hi) (List.getElem?_eq_getElem hj); omega
  by_cases h2 : j < i
  · have := h.lt h2 (List.getElem?_eq_getElem hj) (List.getElem?_eq_getElem hi); omega
  have : i = j := by omega
  subst this; rfl
def keep (limit : Int) (x : StoredObject) : Bool := !(decide (x.Object.Kind = 1) && decide (limit < (x.Object.Data.length : Int)))
theorem Filter_eq {l : List StoredObject} (h : OkS l) {limit : Int} (h0 : 0 ≤ limit) (h1 : limit ≤ 1000) :
    partial_Filter.f ⟨l⟩ limit = some (⟨l.filter (keep limit)⟩, (l.filter fun x => !keep limit x).map (·.Digest), ⟨0, 0⟩) := by
  have hl := h.len
  refine retOf_of ?_
  unfold partial_Filter.body
  simp only [WL, partial_Filter.retv, partial_Filter.r0, partial_Filter.r1, partial_Filter.r2, partial_Filter.r3, partial_Filter.r4, partial_Filter.r5, partial_Filter.r6, partial_Filter.r7, partial_Filter.r8, partial_Filter.r9, partial_Filter.r10, partial_Filter.r11, partial_Filter.r12, partial_Filter.r13, partial_Filter.r14, Validate_ok h]
  refine ⟨fun hb => by omega, fun _ => ?_⟩
  refine W_iter (fun s => s.t_1 = limit ∧ s.t_29 = l ∧ s.t_30 = (l.length : Int) ∧ ∃ i : Nat, s.t_31 = i ∧ i ≤ l.length ∧ s.t_8.Objects = (l.take i).filter (keep limit) ∧ s.t_9 = ((l.take i).filter fun x => !keep limit x).map (·.Digest)) (fun s => l.length - s.t_31.toNat) ⟨rfl, rfl, rfl, 0, rfl, by omega, rfl, rfl⟩ ?_
  rintro s ⟨e1, e29, e30, i, e31, hi, e8, e9⟩
  simp only [WL, partial_Filter.retv, partial_Filter.r0, partial_Filter.r1, partial_Filter.r2, partial_Filter.r3, partial_Filter.r4, partial_Filter.r5, partial_Filter.r6, partial_Filter.r7, partial_Filter.r8, partial_Filter.r9, partial_Filter.r10, partial_Filter.r11, partial_Filter.r12, partial_Filter.r13, partial_Filter.r14, e1, e29, e30, e31, e8, e9]
  refine ⟨fun hlt => ?_, fun hge => ?_⟩
  · have hlt : i < l.length := by omega
    have hlen : ∀ g : StoredObject → Bool, ((l.take i).filter g).length ≤ 1000 := fun g => Nat.le_trans (List.length_filter_le _ _) (by rw [List.length_take]; omega)
    refine opt_of (idx_nat' hlt) ⟨fun hx => ?_, fun hx => ?_⟩
    · have hk : keep limit l[i] = false := by unfold keep; rw [decide_eq_true hx.1, decide_eq_true hx.2]; rfl
      rw [app8i (by have := hlen (fun x => !keep limit x); rw [List.length_map]; omega), opt_some, w64_succ (by omega)]
      exact ⟨⟨i + 1, rfl, by omega, by rw [take_filter hlt, if_neg (by rw [hk]; decide), List.append_nil], by rw [take_filter hlt, if_pos (by rw [hk]; rfl), List.map_append]; rfl⟩, by omega⟩
    · have hk : keep limit l[i] = true := by
        unfold keep
        rcases hx with hx | hx
        · rw [decide_eq_false hx]; rfl
        · rw [decide_eq_false (show ¬ limit < (l[i].Object.Data.length : Int) by omega), Bool.and_false]; rfl
      refine opt_of (Clone_eq (h.obj _ (List.getElem_mem hlt)).1) ?_
      rw [app64 (hlen _), opt_some, w64_succ (by omega)]
      exact ⟨⟨i + 1, rfl, by omega, by rw [take_filter hlt, if_pos hk], by rw [take_filter hlt, if_neg (by rw [hk]; decide), List.append_nil]⟩, by omega⟩
  · have : i = l.length := by omega
    subst this
    rw [List.take_length]
theorem Filter_bad1 {s : ObjectStore} {limit : Int} (h : ¬ (sFault s).Code = 0) : partial_Filter.f s limit = some (⟨[]⟩, [], sFault s) := by
  have hb : (!decide (sFault s = ⟨0, 0⟩)) = true := by
    rw [decide_eq_false (fun e => h (by rw [e]))]; rfl
  refine retOf_of ?_
  unfold partial_Filter.body
  simp only [WL, partial_Filter.retv, partial_Filter.r0, partial_Filter.r1, partial_Filter.r2, partial_Filter.r3, partial_Filter.r4, partial_Filter.r5, partial_Filter.r6, partial_Filter.r7, partial_Filter.r8, partial_Filter.r9, partial_Filter.r10, partial_Filter.r11, partial_Filter.r12, partial_Filter.r13, partial_Filter.r14, Validate_eq]
  refine ⟨fun _ => trivial, fun e => absurd (by rw [e]) h⟩
theorem Filter_bad2 {l : List StoredObject} (h : OkS l) {limit : Int} (h1 : ¬ (0 ≤ limit ∧ limit ≤ 1000)) : partial_Filter.f ⟨l⟩ limit = some (⟨[]⟩, [], ⟨3, -1⟩) := by
  refine retOf_of ?_
  unfold partial_Filter.body
  simp only [WL, partial_Filter.retv, partial_Filter.r0, partial_Filter.r1, partial_Filter.r2, partial_Filter.r3, partial_Filter.r4, partial_Filter.r5, partial_Filter.r6, partial_Filter.r7, partial_Filter.r8, partial_Filter.r9, partial_Filter.r10, partial_Filter.r11, partial_Filter.r12, partial_Filter.r13, partial_Filter.r14, Validate_ok h]
  refine ⟨fun _ => trivial, fun e => absurd ⟨by omega, by omega⟩ h1⟩
theorem objHas_eq {l : List StoredObject} (h : OkS l) {d : Int} (d0 : -9223372036854775808 ≤ d) (d1 : d ≤ 9223372036854775807) : objects_Has.f ⟨l⟩ d = some (decide (∃ x ∈ l, x.Digest = d), ⟨0, 0⟩) := by
  obtain ⟨r, hr, p, b, rfl, hF⟩ := find_eq h d0 d1
  have hb : b = decide (∃ x ∈ l, x.Digest = d) := by
    cases b with
    | true => rw [decide_eq_true (hF.mem.1 rfl)]
    | false => rw [decide_eq_false (fun e => by have := hF.mem.2 e; cases this)]
  refine retOf_of ?_
  unfold objects_Has.body
  simp only [WL, objects_Has.retv, objects_Has.r0, objects_Has.r1, objects_Has.r2, objects_Has.r3, objects_Has.r4, objects_Has.r5, Validate_ok h, hr, hb, decide_true, Bool.not_true]
theorem Get_eq {l : List StoredObject} (h : OkS l) {x : StoredObject} (hx : x ∈ l) : objects_Get.f ⟨l⟩ x.Digest = some (x.Object, ⟨0, 0⟩) := by
  have hd := h.dlt hx
  obtain ⟨r, hr, p, b, rfl, hF⟩ := find_eq h (d := x.Digest) (by omega) (by omega)
  have hb : b = true := hF.mem.2 ⟨x, hx, rfl⟩
  subst hb
  obtain ⟨y, hy⟩ : ∃ y, l[p]? = some y := by
    cases hy : l[p]? with
    | none => have := hF.ok; rw [hy] at this; cases this
    | some y => exact ⟨y, rfl⟩
  have hyd : y.Digest = x.Digest := by have := hF.ok; rw [hy] at this; simpa using this.symm
  have hyx := h.uniq (List.mem_of_getElem? hy) hx hyd
  subst hyx
  obtain ⟨hp, hy⟩ := List.getElem?_eq_some_iff.1 hy
  have hidx : idx l (p : Int) = some y := by rw [idx_nat' hp, hy]
  refine retOf_of ?_
  unfold objects_Get.body
  simp only [WL, objects_Get.retv, objects_Get.r0, objects_Get.r1, objects_Get.r2, objects_Get.r3, objects_Get.r4, objects_Get.r5, objects_Get.r6, objects_Get.r7, Validate_ok h, hr, hidx, Clone_eq (h.obj _ hx).1, decide_true, Bool.not_true]
theorem Get_none {l : List StoredObject} (h : OkS l) {d : Int} (d0 : -9223372036854775808 ≤ d) (d1 : d ≤ 9223372036854775807) (hn : ∀ x ∈ l, x.Digest ≠ d) : objects_Get.f ⟨l⟩ d = some (⟨0, [], []⟩, ⟨6, -1⟩) := by
  obtain ⟨r, hr, p, b, rfl, hF⟩ := find_eq h d0 d1
  have hb : b = false := by
    cases b with
    | false => rfl
    | true => obtain ⟨x, hx, e⟩ := hF.mem.1 rfl; exact absurd e (hn x hx)
  subst hb
  refine retOf_of ?_
  unfold objects_Get.body
  simp only [WL, objects_Get.retv, objects_Get.r0, objects_Get.r1, objects_Get.r2, objects_Get.r3, objects_Get.r4, objects_Get.r5, objects_Get.r6, objects_Get.r7, Validate_ok h, hr, decide_true, Bool.not_true, Bool.not_false]
/-- A store with one object more. -/
def ins (x : StoredObject) : List StoredObject → List StoredObject
  | [] => [x]
  | y :: l => if x.Digest < y.Digest then x :: y :: l else y :: ins x l
theorem ins_mem (x : StoredObject) : ∀ {l : List StoredObject} {y : StoredObject}, y ∈ ins x l ↔ y = x ∨ y ∈ l
  | [], y => by simp [ins]
  | z :: l, y => by
    unfold ins
    by_cases h : x.Digest < z.Digest
    · rw [if_pos h, List.mem_cons]
    · rw [if_neg h, List.mem_cons, ins_mem x, List.mem_cons]
      exact ⟨fun h => h.elim (fun h => .inr (.inl h)) fun h => h.elim .inl fun h => .inr (.inr h), fun h => h.elim (fun h => .inr (.inl h)) fun h => h.elim .inl fun h => .inr (.inr h)⟩
theorem ins_len (x : StoredObject) : ∀ l : List StoredObject, (ins x l).length = l.length + 1
  | [] => rfl
  | z :: l => by
    unfold ins
    by_cases h : x.Digest < z.Digest
    · rw [if_pos h]; rfl
    · rw [if_neg h, List.length_cons, ins_len x l]; rfl
theorem ins_inc (x : StoredObject) : ∀ {l : List StoredObject}, l.Pairwise (fun a b => a.Digest < b.Digest) → (∀ y ∈ l, y.Digest ≠ x.Digest) → (ins x l).Pairwise (fun a b => a.Digest < b.Digest)
  | [], _, _ => List.pairwise_singleton _ _
  | z :: l, hp, hn => by
    unfold ins
    have hz := hn z (by simp)
    rw [List.pairwise_cons] at hp
    by_cases h : x.Digest < z.Digest
    · rw [if_pos h, List.pairwise_cons, List.pairwise_cons]
      refine ⟨fun y hy => ?_, hp⟩
      rcases List.mem_cons.1 hy with rfl | hy
      · exact h
      · have := hp.1 y hy; omega
    · rw [if_neg h, List.pairwise_cons]
      refine ⟨fun y hy => ?_, ins_inc x hp.2 fun y hy => hn y (List.mem_cons_of_mem _ hy)⟩
      rcases (ins_mem x).1 hy with rfl | hy
      · omega
      · exact hp.1 y hy
theorem ins_at (x : StoredObject) : ∀ {l : List StoredObject} {p : Nat}, p ≤ l.length → (∀ (j : Nat) (y : StoredObject), l[j]? = some y → (j < p ↔ y.Digest < x.Digest)) → (∀ y ∈ l, y.Digest ≠ x.Digest) → l.take p ++ [x] ++ l.drop p = ins x l
  | [], p, hp, _, _ => by
    have : p = 0 := by simpa using hp
    subst this; rfl
  | z :: l, 0, hp, hj, hn => by
    have := (hj 0 z rfl).2
    have hz := hn z (by simp)
    unfold ins
    rw [if_pos (by omega)]; rfl
  | z :: l, p + 1, hp, hj, hn => by
    have := (hj 0 z rfl).1 (by omega)
    unfold ins
    rw [if_neg (by omega), ← ins_at x (p := p) (by simpa using hp) (fun j y hy => by rw [← hj (j + 1) y hy]; omega) fun y hy => hn y (List.mem_cons_of_mem _ hy)]
    rfl
theorem OkS.put {l : List StoredObject} (h : OkS l) {x : StoredObject} (ho : OkO x.Object ∧ dig (objBytes x.Object) = x.Digest) (hn : ∀ y ∈ l, y.Digest ≠ x.Digest) (hl : l.length < 40) : OkS (ins x l) where
  len := by rw [ins_len]; omega
  obj := fun y hy => by
    rcases (ins_mem x).1 hy with e | hy
    · rw [e]; exact ho
    · exact h.obj y hy
  inc := ins_inc x h.inc hn
theorem Insert_eq {l : List StoredObject} {x : StoredObject} {p : Nat} (hl : l.length ≤ 1000) (hp : p ≤ l.length) : Insert.f l (p : Int) [x] = some (l.take p ++ [x] ++ l.drop p) := by
  unfold Insert.f
  rw [if_pos ⟨by omega, by omega, hl, by simp⟩, Int.toNat_natCast]
theorem Put_eq {l : List StoredObject} (h : OkS l) {o : Object} {d : Int} (ho : OkO o) (hd : dig (objBytes o) = d) (hn : ∀ y ∈ l, y.Digest ≠ d) (hl : l.length < 40) :
    objects_Put.f ⟨l⟩ o = some (⟨ins ⟨d, o⟩ l⟩, d, ⟨0, 0⟩) := by
  have hD := Digest_eq ho
  have hd' := dig_lt (objBytes o)
  rw [hd] at hD hd'
  clear hd
  obtain ⟨r, hr, p, b, rfl, hF⟩ := find_eq h (d := d) (by omega) (by omega)
  have hb : b = false := by
    cases b with
    | false => rfl
    | true => obtain ⟨x, hx, e⟩ := hF.mem.1 rfl; exact absurd e (hn x hx)
  subst hb
  have hI := Insert_eq (l := l) (x := ⟨d, o⟩) (by omega) hF.le
  rw [ins_at ⟨d, o⟩ hF.le (hF.pos hd'.1 hd'.2) hn] at hI
  refine retOf_of ?_
  unfold objects_Put.body
  simp only [WL, objects_Put.retv, objects_Put.r0, objects_Put.r1, objects_Put.r2, objects_Put.r3, objects_Put.r4, objects_Put.r5, objects_Put.r6, objects_Put.r7, objects_Put.r8, objects_Put.r9, objects_Put.r10, objects_Put.r11, objects_Put.r12, objects_Put.r13, objects_Put.r14, objects_Put.r15, objects_Put.r16, Validate_ok h, hr, copied_eq h, hD, Clone_eq ho, hI, decide_true, Bool.not_true]
  exact ⟨fun e => by omega, fun _ => trivial⟩
theorem Put_full {l : List StoredObject} (h : OkS l) {o : Object} {d : Int} (ho : OkO o) (hd : dig (objBytes o) = d) (hn : ∀ y ∈ l, y.Digest ≠ d) (hl : l.length = 40) :
    objects_Put.f ⟨l⟩ o = some (⟨[]⟩, 0, ⟨14, -1⟩) := by
  have hD := Digest_eq ho
  have hd' := dig_lt (objBytes o)
  rw [hd] at hD hd'
  clear hd
  obtain ⟨r, hr, p, b, rfl, hF⟩ := find_eq h (d := d) (by omega) (by omega)
  have hb : b = false := by
    cases b with
    | false => rfl
    | true => obtain ⟨x, hx, e⟩ := hF.mem.1 rfl; exact absurd e (hn x hx)
  subst hb
  refine retOf_of ?_
  unfold objects_Put.body
  simp only [WL, objects_Put.retv, objects_Put.r0, objects_Put.r1, objects_Put.r2, objects_Put.r3, objects_Put.r4, objects_Put.r5, objects_Put.r6, objects_Put.r7, objects_Put.r8, objects_Put.r9, objects_Put.r10, objects_Put.r11, objects_Put.r12, objects_Put.r13, objects_Put.r14, objects_Put.r15, objects_Put.r16, Validate_ok h, hr, copied_eq h, hD, decide_true, Bool.not_true]
  exact ⟨fun _ => trivial, fun e => absurd (by rw [hl]; rfl) e⟩
theorem OkS.nil : OkS [] := ⟨by decide, fun _ h => by simp at h, List.Pairwise.nil⟩
theorem Merge_eq {l : List StoredObject} (h : OkS l) : objects_Merge.f ⟨l⟩ ⟨[]⟩ = some (⟨l⟩, ⟨0, 0⟩) := by
  have hl := h.len
  refine retOf_of ?_
  unfold objects_Merge.body
  simp only [WL, objects_Merge.retv, objects_Merge.r0, objects_Merge.r1, objects_Merge.r2, objects_Merge.r3, objects_Merge.r4, objects_Merge.r5, objects_Merge.r6, objects_Merge.r7, objects_Merge.r8, objects_Merge.r9, objects_Merge.r10, objects_Merge.r11, objects_Merge.r12, objects_Merge.r13, objects_Merge.r14, objects_Merge.r15, objects_Merge.r16, objects_Merge.r17, objects_Merge.r18, objects_Merge.r19, objects_Merge.r20]
  refine W_iter (fun s => s.t_2 = ⟨l⟩ ∧ s.t_3 = ⟨[]⟩ ∧ s.t_16 = [⟨l⟩, ⟨[]⟩] ∧ s.t_17 = 2 ∧ (s.t_18 = 0 ∨ s.t_18 = 1 ∨ s.t_18 = 2)) (fun s => 2 - s.t_18.toNat) ⟨rfl, rfl, rfl, rfl, .inl rfl⟩ ?_
  rintro s ⟨e2, e3, e16, e17, e18⟩
  have i0 : idx [(⟨l⟩ : ObjectStore), ⟨[]⟩] 0 = some ⟨l⟩ := rfl
  have i1 : idx [(⟨l⟩ : ObjectStore), ⟨[]⟩] 1 = some ⟨[]⟩ := rfl
  have w0 : w64 (0 + 1) = 1 := by decide
  have w1 : w64 (1 + 1) = 2 := by decide
  rcases e18 with e18 | e18 | e18
  · simp only [WL, objects_Merge.retv, objects_Merge.r0, objects_Merge.r1, objects_Merge.r2, objects_Merge.r3, objects_Merge.r4, objects_Merge.r5, objects_Merge.r6, objects_Merge.r7, objects_Merge.r8, objects_Merge.r9, objects_Merge.r10, objects_Merge.r11, objects_Merge.r12, objects_Merge.r13, objects_Merge.r14, objects_Merge.r15, objects_Merge.r16, objects_Merge.r17, objects_Merge.r18, objects_Merge.r19, objects_Merge.r20, e2, e3, e16, e17, e18, i0, Validate_ok h, w0, decide_true, Bool.not_true]
    exact ⟨fun _ => ⟨.inr (.inl trivial), by decide⟩, fun e => absurd e (by decide)⟩
  · simp only [WL, objects_Merge.retv, objects_Merge.r0, objects_Merge.r1, objects_Merge.r2, objects_Merge.r3, objects_Merge.r4, objects_Merge.r5, objects_Merge.r6, objects_Merge.r7, objects_Merge.r8, objects_Merge.r9, objects_Merge.r10, objects_Merge.r11, objects_Merge.r12, objects_Merge.r13, objects_Merge.r14, objects_Merge.r15, objects_Merge.r16, objects_Merge.r17, objects_Merge.r18, objects_Merge.r19, objects_Merge.r20, e2, e3, e16, e17, e18, i1, Validate_ok OkS.nil, w1, decide_true, Bool.not_true]
    exact ⟨fun _ => ⟨.inr (.inr trivial), by decide⟩, fun e => absurd e (by decide)⟩
  · simp only [WL, objects_Merge.retv, objects_Merge.r0, objects_Merge.r1, objects_Merge.r2, objects_Merge.r3, objects_Merge.r4, objects_Merge.r5, objects_Merge.r6, objects_Merge.r7, objects_Merge.r8, objects_Merge.r9, objects_Merge.r10, objects_Merge.r11, objects_Merge.r12, objects_Merge.r13, objects_Merge.r14, objects_Merge.r15, objects_Merge.r16, objects_Merge.r17, objects_Merge.r18, objects_Merge.r19, objects_Merge.r20, e2, e3, e16, e17, e18, copied_eq h, copied_eq OkS.nil]
    refine ⟨fun e => absurd e (by decide), fun _ => ?_⟩
    refine W_iter (fun s => s.t_9.Objects = l ∧ s.t_34 = [] ∧ s.t_35 = 0 ∧ s.t_36 = 0) (fun s => 0) ⟨rfl, rfl, rfl, rfl⟩ ?_
    rintro s ⟨e9, e34, e35, e36⟩
    simp only [WL, objects_Merge.retv, objects_Merge.r0, objects_Merge.r1, objects_Merge.r2, objects_Merge.r3, objects_Merge.r4, objects_Merge.r5, objects_Merge.r6, objects_Merge.r7, objects_Merge.r8, objects_Merge.r9, objects_Merge.r10, objects_Merge.r11, objects_Merge.r12, objects_Merge.r13, objects_Merge.r14, objects_Merge.r15, objects_Merge.r16, objects_Merge.r17, objects_Merge.r18, objects_Merge.r19, objects_Merge.r20, e9, e34, e35, e36]
    exact ⟨fun e => absurd e (by decide), fun _ => ⟨fun e => by omega, fun _ => trivial⟩⟩
end Go.Proofs.Ytenkbkcddcnmeaa
