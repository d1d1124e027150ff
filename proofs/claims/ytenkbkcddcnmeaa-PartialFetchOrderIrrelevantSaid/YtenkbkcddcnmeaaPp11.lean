/- Faults ahead; what the laws of fetching need. -/
import Derived.Test.YtenkbkcddcnmeaaPp10
import Derived.Test.YtenkbkcddcnmeaaFx10
namespace Go.Proofs.Ytenkbkcddcnmeaa
open Go.Fx
set_option linter.unusedVariables false
set_option linter.unusedSimpArgs false
set_option maxRecDepth 20000

theorem okI64 {d : Int} (h : okI .i64 d) : I64 d := by
  have h1 : IntKind.i64.min = -9223372036854775808 := by decide
  have h2 : IntKind.i64.max = 9223372036854775807 := by decide
  unfold okI at h
  rw [h1, h2] at h
  exact h
theorem Needed_bad1 {s : ObjectStore} {pr roots : List Int} (hp : ∀ d ∈ pr, I64 d) (h : ¬ (pFault s pr).Code = 0) : partial_Needed.f s pr roots = some ([], pFault s pr) := by
  have hC := pcheck_eq s hp
  refine retOf_of ?_
  unfold partial_Needed.body
  simp only [WL, partial_Needed.retv, partial_Needed.r0, partial_Needed.r1, partial_Needed.r2, partial_Needed.r3, partial_Needed.r4, partial_Needed.r5, partial_Needed.r6, partial_Needed.r7, partial_Needed.r8, partial_Needed.r10, partial_Needed.r11, partial_Needed.r12, partial_Needed.r13, partial_Needed.r14, partial_Needed.r15, partial_Needed.r16, partial_Needed.r17, partial_Needed.r18, partial_Needed.r19, partial_Needed.r9, partial_Needed.r20, partial_Needed.r21, hC]
  exact ⟨fun _ => trivial, fun e => absurd (by rw [e]) h⟩
theorem Needed_bad2 {l : List StoredObject} {pr roots : List Int} (hS : OkS l) (hP : OkP l pr) (h : 40 < roots.length) : partial_Needed.f ⟨l⟩ pr roots = some ([], ⟨2, -1⟩) := by
  have hC := pcheck_eq ⟨l⟩ (pr := pr) fun d hd => ⟨by have := hP.rng d hd; omega, by have := hP.rng d hd; omega⟩
  rw [pFault_eq0.2 ⟨hS, hP⟩] at hC
  refine retOf_of ?_
  unfold partial_Needed.body
  simp only [WL, partial_Needed.retv, partial_Needed.r0, partial_Needed.r1, partial_Needed.r2, partial_Needed.r3, partial_Needed.r4, partial_Needed.r5, partial_Needed.r6, partial_Needed.r7, partial_Needed.r8, partial_Needed.r10, partial_Needed.r11, partial_Needed.r12, partial_Needed.r13, partial_Needed.r14, partial_Needed.r15, partial_Needed.r16, partial_Needed.r17, partial_Needed.r18, partial_Needed.r19, partial_Needed.r9, partial_Needed.r20, partial_Needed.r21, hC]
  exact ⟨fun _ => trivial, fun e => by omega⟩
theorem Fetch_bad1 {s : ObjectStore} {pr : List Int} {re : ObjectStore} {ws : List Int} (hp : ∀ d ∈ pr, I64 d) (h : ¬ (pFault s pr).Code = 0) : partial_Fetch.f s pr re ws = some (⟨[]⟩, [], pFault s pr) := by
  have hC := pcheck_eq s hp
  refine retOf_of ?_
  unfold partial_Fetch.body
  simp only [WL, partial_Fetch.retv, partial_Fetch.r0, partial_Fetch.r1, partial_Fetch.r2, partial_Fetch.r3, partial_Fetch.r4, partial_Fetch.r5, partial_Fetch.r6, partial_Fetch.r7, partial_Fetch.r8, partial_Fetch.r9, partial_Fetch.r10, partial_Fetch.r11, partial_Fetch.r12, partial_Fetch.r13, partial_Fetch.r14, partial_Fetch.r15, partial_Fetch.r16, partial_Fetch.r17, partial_Fetch.r18, partial_Fetch.r19, partial_Fetch.r20, partial_Fetch.r21, partial_Fetch.r22, partial_Fetch.r23, partial_Fetch.r24, partial_Fetch.r25, hC]
  exact ⟨fun _ => trivial, fun e => absurd (by rw [e]) h⟩
theorem Fetch_bad2 {l : List StoredObject} {pr : List Int} {re : ObjectStore} {ws : List Int} (hS : OkS l) (hP : OkP l pr) (h : ¬ (sFault re).Code = 0) : partial_Fetch.f ⟨l⟩ pr re ws = some (⟨[]⟩, [], ⟨(sFault re).Code, -1⟩) := by
  have hC := pcheck_eq ⟨l⟩ (pr := pr) fun d hd => ⟨by have := hP.rng d hd; omega, by have := hP.rng d hd; omega⟩
  rw [pFault_eq0.2 ⟨hS, hP⟩] at hC
  refine retOf_of ?_
  unfold partial_Fetch.body
  simp only [WL, partial_Fetch.retv, partial_Fetch.r0, partial_Fetch.r1, partial_Fetch.r2, partial_Fetch.r3, partial_Fetch.r4, partial_Fetch.r5, partial_Fetch.r6, partial_Fetch.r7, partial_Fetch.r8, partial_Fetch.r9, partial_Fetch.r10, partial_Fetch.r11, partial_Fetch.r12, partial_Fetch.r13, partial_Fetch.r14, partial_Fetch.r15, partial_Fetch.r16, partial_Fetch.r17, partial_Fetch.r18, partial_Fetch.r19, partial_Fetch.r20, partial_Fetch.r21, partial_Fetch.r22, partial_Fetch.r23, partial_Fetch.r24, partial_Fetch.r25, hC, Validate_eq]
  exact ⟨fun _ => trivial, fun e => absurd (by rw [e]) h⟩
theorem Fetch_bad3 {l : List StoredObject} {pr : List Int} {re : List StoredObject} {ws : List Int} (hS : OkS l) (hP : OkP l pr) (hR : OkS re) (h : 40 < ws.length) : partial_Fetch.f ⟨l⟩ pr ⟨re⟩ ws = some (⟨[]⟩, [], ⟨2, -1⟩) := by
  have hC := pcheck_eq ⟨l⟩ (pr := pr) fun d hd => ⟨by have := hP.rng d hd; omega, by have := hP.rng d hd; omega⟩
  rw [pFault_eq0.2 ⟨hS, hP⟩] at hC
  refine retOf_of ?_
  unfold partial_Fetch.body
  simp only [WL, partial_Fetch.retv, partial_Fetch.r0, partial_Fetch.r1, partial_Fetch.r2, partial_Fetch.r3, partial_Fetch.r4, partial_Fetch.r5, partial_Fetch.r6, partial_Fetch.r7, partial_Fetch.r8, partial_Fetch.r9, partial_Fetch.r10, partial_Fetch.r11, partial_Fetch.r12, partial_Fetch.r13, partial_Fetch.r14, partial_Fetch.r15, partial_Fetch.r16, partial_Fetch.r17, partial_Fetch.r18, partial_Fetch.r19, partial_Fetch.r20, partial_Fetch.r21, partial_Fetch.r22, partial_Fetch.r23, partial_Fetch.r24, partial_Fetch.r25, hC, Validate_ok hR]
  exact ⟨fun _ => trivial, fun e => by omega⟩
/-- A store that is filtered, and what it is promised. -/
theorem keep_P {l : List StoredObject} (h : OkS l) (limit : Int) : OkP (l.filter (keep limit)) ((l.filter fun x => !keep limit x).map (·.Digest)) where
  len := by rw [List.length_map]; exact (h.filter _).len
  rng := fun d hd => by
    obtain ⟨x, hx, rfl⟩ := List.mem_map.1 hd
    exact (h.filter _).dlt hx
  inc := by
    rw [List.pairwise_map]
    exact (h.filter _).inc
  dis := fun d hd x hx e => by
    obtain ⟨y, hy, rfl⟩ := List.mem_map.1 hd
    have hx' := List.mem_filter.1 hx
    have hy' := List.mem_filter.1 hy
    have := h.uniq hx'.1 hy'.1 e
    subst this
    have h1 := hx'.2
    have h2 := hy'.2
    rw [h1] at h2
    cases h2
/-- All wants can be fetched. -/
theorem fetchL_good {pr : List Int} {re : List StoredObject} (hR : OkS re) : ∀ (ws dn : List Int) (cur : List StoredObject) (i : Nat), FI pr dn cur → ws.Nodup → (∀ d ∈ ws, d ∈ pr ∧ d ∉ dn ∧ ∃ x ∈ re, x.Digest = d) → cur.length + ws.length ≤ 40 →
    ∃ r, fetchL pr re dn cur ws i = (r, ⟨0, 0⟩) ∧ OkS r ∧ ∀ x, x ∈ r ↔ x ∈ cur ∨ (x ∈ re ∧ x.Digest ∈ ws)
  | [], dn, cur, i, hF, _, _, _ => ⟨cur, rfl, hF.ok, fun x => by simp⟩
  | d :: ws, dn, cur, i, hF, hn, hw, hl => by
    rw [List.nodup_cons] at hn
    obtain ⟨hp, hd, x, hx, rfl⟩ := hw d (.head _)
    rw [List.length_cons] at hl
    have h40 : cur.length ≠ 40 := by omega
    rw [fetchL_cons, if_neg (fun e => e ⟨hp, hd⟩), got_some hR hx]
    dsimp only
    rw [if_neg h40]
    obtain ⟨r, h1, h2, h3⟩ := fetchL_good hR ws (dn ++ [x.Digest]) (ins x cur) (i + 1) (hF.next hR hx hp hd h40) hn.2 (fun d hd => by
      obtain ⟨a, b, c⟩ := hw d (.tail _ hd)
      refine ⟨a, ?_, c⟩
      rw [List.mem_append, List.mem_singleton, not_or]
      exact ⟨b, fun e => hn.1 (e ▸ hd)⟩) (by rw [ins_len]; omega)
    refine ⟨r, h1, h2, fun y => ?_⟩
    rw [h3, ins_mem, List.mem_cons]
    constructor
    · rintro ((rfl | h) | ⟨h, h'⟩)
      · exact .inr ⟨hx, .inl rfl⟩
      · exact .inl h
      · exact .inr ⟨h, .inr h'⟩
    · rintro (h | ⟨h, h' | h'⟩)
      · exact .inl (.inr h)
      · exact .inl (.inl (hR.uniq h hx h'))
      · exact .inr ⟨h, h'⟩
/-- What can be fetched was asked for once, and promised. -/
theorem fetchL_only {pr : List Int} {re : List StoredObject} : ∀ (ws dn : List Int) (cur : List StoredObject) (i : Nat), (fetchL pr re dn cur ws i).2.Code = 0 → ws.Nodup ∧ ∀ d ∈ ws, d ∈ pr ∧ d ∉ dn
  | [], _, _, _, _ => ⟨List.Pairwise.nil, fun d h => by simp at h⟩
  | d :: ws, dn, cur, i, h => by
    rw [fetchL_cons] at h
    by_cases hp : d ∈ pr ∧ d ∉ dn
    · rw [if_neg (fun e => e hp)] at h
      cases hg : got re d with
      | none => rw [hg] at h; cases h
      | some x =>
        rw [hg] at h
        dsimp only at h
        by_cases h40 : cur.length = 40
        · rw [if_pos h40] at h; cases h
        · rw [if_neg h40] at h
          obtain ⟨h1, h2⟩ := fetchL_only ws (dn ++ [d]) (ins x cur) (i + 1) h
          refine ⟨List.nodup_cons.2 ⟨fun hd => ?_, h1⟩, fun y hy => ?_⟩
          · have := (h2 d hd).2
            simp at this
          · rcases List.mem_cons.1 hy with rfl | hy
            · exact hp
            · have := h2 y hy
              rw [List.mem_append, not_or] at this
              exact ⟨this.1, this.2.1⟩
    · rw [if_pos hp] at h; cases h
/-- Stores with the same objects are the same. -/
theorem sto_inc_ext : ∀ {xs ys : List StoredObject}, xs.Pairwise (fun a b => a.Digest < b.Digest) → ys.Pairwise (fun a b => a.Digest < b.Digest) → (∀ n, n ∈ xs ↔ n ∈ ys) → xs = ys
  | [], ys, _, _, h => (List.eq_nil_iff_forall_not_mem.2 fun n hn => by have := (h n).2 hn; simp at this).symm
  | x :: xs, [], _, _, h => by have := (h x).1 (by simp); simp at this
  | x :: xs, y :: ys, hx, hy, h => by
    rw [List.pairwise_cons] at hx hy
    have e : x = y := by
      rcases List.mem_cons.1 ((h x).1 (by simp)) with e | e
      · exact e
      · rcases List.mem_cons.1 ((h y).2 (by simp)) with e2 | e2
        · exact e2.symm
        · have := hx.1 _ e2; have := hy.1 _ e; omega
    subst e
    rw [sto_inc_ext hx.2 hy.2 fun n => ?_]
    constructor
    · intro hn
      rcases List.mem_cons.1 ((h n).1 (List.mem_cons_of_mem _ hn)) with e | e
      · have := hx.1 _ hn; rw [e] at this; omega
      · exact e
    · intro hn
      rcases List.mem_cons.1 ((h n).2 (List.mem_cons_of_mem _ hn)) with e | e
      · have := hy.1 _ hn; rw [e] at this; omega
      · exact e
/-- What a fetch answers. -/
theorem fetchL_fin {pr : List Int} {re : List StoredObject} (hR : OkS re) : ∀ (ws dn : List Int) (cur : List StoredObject) (i : Nat), FI pr dn cur → (fetchL pr re dn cur ws i).2.Code = 0 → ∃ r, fetchL pr re dn cur ws i = (r, ⟨0, 0⟩) ∧ OkS r
  | [], _, cur, _, hF, _ => ⟨cur, rfl, hF.ok⟩
  | d :: ws, dn, cur, i, hF, h => by
    rw [fetchL_cons] at h ⊢
    by_cases hp : d ∈ pr ∧ d ∉ dn
    · rw [if_neg (fun e => e hp)] at h ⊢
      cases hg : got re d with
      | none => rw [hg] at h; cases h
      | some x =>
        rw [hg] at h
        dsimp only at h ⊢
        by_cases h40 : cur.length = 40
        · rw [if_pos h40] at h; cases h
        · rw [if_neg h40] at h ⊢
          have hx := List.mem_of_find?_eq_some hg
          have hd : x.Digest = d := by unfold got at hg; simpa using List.find?_some hg
          subst hd
          exact fetchL_fin hR ws _ _ _ (hF.next hR hx hp.1 hp.2 h40) h
    · rw [if_pos hp] at h; cases h
theorem fetchR_cases {l : List StoredObject} {pr : List Int} {re : List StoredObject} {ws : List Int} (hS : OkS l) (hP : OkP l pr) (hR : OkS re) :
    (∃ r, fetchL pr re [] l ws 0 = (r, ⟨0, 0⟩) ∧ OkS r ∧ fetchR l pr re ws = (⟨r⟩, left pr ws, ⟨0, 0⟩)) ∨ ∃ f : Fault, ¬ f.Code = 0 ∧ (fetchL pr re [] l ws 0).2 = f ∧ fetchR l pr re ws = (⟨[]⟩, [], f) := by
  rcases Classical.em ((fetchL pr re [] l ws 0).2.Code = 0) with h | h
  · obtain ⟨r, h1, h2⟩ := fetchL_fin hR ws [] l 0 ⟨hS, fun d hd _ => hP.dis d hd⟩ h
    exact .inl ⟨r, h1, h2, fetchR_ok h1⟩
  · refine .inr ⟨_, h, rfl, ?_⟩
    exact fetchR_bad (r := (fetchL pr re [] l ws 0).1) rfl (fun e => h (by rw [e]))
theorem fetchR_good {l : List StoredObject} {pr : List Int} {re : List StoredObject} {ws : List Int} (hS : OkS l) (hP : OkP l pr) (hR : OkS re) (hn : ws.Nodup) (hw : ∀ d ∈ ws, d ∈ pr ∧ ∃ x ∈ re, x.Digest = d) (hl : l.length + ws.length ≤ 40) :
    ∃ r, fetchR l pr re ws = (⟨r⟩, left pr ws, ⟨0, 0⟩) ∧ OkS r ∧ ∀ x, x ∈ r ↔ x ∈ l ∨ (x ∈ re ∧ x.Digest ∈ ws) := by
  obtain ⟨r, h1, h2, h3⟩ := fetchL_good hR ws [] l 0 ⟨hS, fun d hd _ => hP.dis d hd⟩ hn (fun d hd => ⟨(hw d hd).1, by simp, (hw d hd).2⟩) hl
  exact ⟨r, fetchR_ok h1, h2, h3⟩
/-- What was filtered is the whole store's. -/
theorem keep_len {l : List StoredObject} (limit : Int) : (l.filter (keep limit)).length + ((l.filter fun x => !keep limit x).map (·.Digest)).length = l.length := by
  rw [List.length_map]
  induction l with
  | nil => rfl
  | cons x l ih =>
    rw [List.filter_cons, List.filter_cons]
    cases keep limit x <;> simp <;> omega
theorem keep_all {l : List StoredObject} (limit : Int) {d : Int} (h : d ∈ (l.filter fun x => !keep limit x).map (·.Digest)) : ∃ x ∈ l, x.Digest = d := by
  obtain ⟨x, hx, rfl⟩ := List.mem_map.1 h
  exact ⟨x, (List.mem_filter.1 hx).1, rfl⟩
end Go.Proofs.Ytenkbkcddcnmeaa
