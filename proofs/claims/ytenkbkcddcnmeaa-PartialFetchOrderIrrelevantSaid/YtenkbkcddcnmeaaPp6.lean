/- The faults of a partial store; PutObject. -/
import Derived.Test.YtenkbkcddcnmeaaPp5
namespace Go.Proofs.Ytenkbkcddcnmeaa
open Go.Fx
set_option linter.unusedVariables false
set_option linter.unusedSimpArgs false
set_option maxRecDepth 20000

def I64 (d : Int) : Prop := -9223372036854775808 ≤ d ∧ d ≤ 9223372036854775807
open Classical in
noncomputable def pfaultL (l : List StoredObject) : Option Int → List Int → Nat → Fault
  | _, [], _ => ⟨0, 0⟩
  | p, d :: ps, i => if d < 0 ∨ 2305843009213693951 ≤ d then ⟨3, -3 - (i : Int)⟩ else if (∃ q, p = some q ∧ d ≤ q) then ⟨5, -3 - (i : Int)⟩ else if (∃ x ∈ l, x.Digest = d) then ⟨7, -3 - (i : Int)⟩ else pfaultL l (some d) ps (i + 1)
open Classical in
theorem pfaultL_cons (l : List StoredObject) (p : Option Int) (d : Int) (ps : List Int) (i : Nat) : pfaultL l p (d :: ps) i = if d < 0 ∨ 2305843009213693951 ≤ d then ⟨3, -3 - (i : Int)⟩ else if (∃ q, p = some q ∧ d ≤ q) then ⟨5, -3 - (i : Int)⟩ else if (∃ x ∈ l, x.Digest = d) then ⟨7, -3 - (i : Int)⟩ else pfaultL l (some d) ps (i + 1) := by
  rw [pfaultL]
noncomputable def pFault (s : ObjectStore) (pr : List Int) : Fault := if ¬ (sFault s).Code = 0 then sFault s else if 40 < pr.length then ⟨2, -2⟩ else pfaultL s.Objects none pr 0
def prevI (l : List Int) (i : Nat) : Option Int := if i = 0 then none else l[i - 1]?
theorem prevI_succ {l : List Int} {i : Nat} (h : i < l.length) : prevI l (i + 1) = some l[i] := by
  unfold prevI
  rw [if_neg (by omega), Nat.add_sub_cancel, List.getElem?_eq_getElem h]
theorem pcheck_eq (s0 : ObjectStore) {pr : List Int} (hp : ∀ d ∈ pr, I64 d) : partial_check.f s0 pr = some (pFault s0 pr) := by
  rcases Classical.em (¬ (sFault s0).Code = 0) with hS | hS
  · have e : pFault s0 pr = sFault s0 := by unfold pFault; rw [if_pos hS]
    rw [e]
    refine retOf_of ?_
    unfold partial_check.body
    simp only [WL, partial_check.retv, partial_check.r0, partial_check.r1, partial_check.r2, partial_check.r3, partial_check.r4, partial_check.r5, partial_check.r6, partial_check.r7, partial_check.r8, partial_check.r9, partial_check.r10, partial_check.r11, partial_check.r12, partial_check.r13, partial_check.r14, partial_check.r15, partial_check.r16, partial_check.r17, Validate_eq]
    exact ⟨fun _ => trivial, fun e => absurd (by rw [e]) hS⟩
  have hS := Classical.not_not.1 hS
  have hO := sFault_ok.1 hS
  have hV := Validate_eq s0
  rw [sFault_eq0.2 hO] at hV
  by_cases hl : 40 < pr.length
  · have e : pFault s0 pr = ⟨2, -2⟩ := by unfold pFault; rw [if_neg (fun h => h hS), if_pos hl]
    rw [e]
    refine retOf_of ?_
    unfold partial_check.body
    simp only [WL, partial_check.retv, partial_check.r0, partial_check.r1, partial_check.r2, partial_check.r3, partial_check.r4, partial_check.r5, partial_check.r6, partial_check.r7, partial_check.r8, partial_check.r9, partial_check.r10, partial_check.r11, partial_check.r12, partial_check.r13, partial_check.r14, partial_check.r15, partial_check.r16, partial_check.r17, hV]
    exact ⟨fun _ => trivial, fun e => by omega⟩
  have e : pFault s0 pr = pfaultL s0.Objects none pr 0 := by unfold pFault; rw [if_neg (fun h => h hS), if_neg hl]
  rw [e]
  obtain ⟨l⟩ := s0
  dsimp only at *
  refine retOf_of ?_
  unfold partial_check.body
  simp only [WL, partial_check.retv, partial_check.r0, partial_check.r1, partial_check.r2, partial_check.r3, partial_check.r4, partial_check.r5, partial_check.r6, partial_check.r7, partial_check.r8, partial_check.r9, partial_check.r10, partial_check.r11, partial_check.r12, partial_check.r13, partial_check.r14, partial_check.r15, partial_check.r16, partial_check.r17, hV]
  refine ⟨fun e => by omega, fun _ => ?_⟩
  refine W_iter (fun s => s.t_1 = pr ∧ s.t_2 = ⟨l⟩ ∧ s.t_20 = pr ∧ s.t_21 = (pr.length : Int) ∧ ∃ i : Nat, s.t_22 = i ∧ i ≤ pr.length ∧ pfaultL l none pr 0 = pfaultL l (prevI pr i) (pr.drop i) i) (fun s => pr.length - s.t_22.toNat) ⟨rfl, rfl, rfl, rfl, 0, rfl, by omega, rfl⟩ ?_
  rintro s ⟨e1, e2, e20, e21, i, e22, hi, hI⟩
  simp only [WL, partial_check.retv, partial_check.r0, partial_check.r1, partial_check.r2, partial_check.r3, partial_check.r4, partial_check.r5, partial_check.r6, partial_check.r7, partial_check.r8, partial_check.r9, partial_check.r10, partial_check.r11, partial_check.r12, partial_check.r13, partial_check.r14, partial_check.r15, partial_check.r16, partial_check.r17, e1, e2, e20, e21, e22]
  refine ⟨fun hlt => ?_, fun hge => ?_⟩
  · have hlt : i < pr.length := by omega
    have hd := hp _ (List.getElem_mem hlt)
    refine opt_of (idx_nat' hlt) (opt_of (objHas_eq hO hd.1 hd.2) ?_)
    rw [List.drop_eq_getElem_cons hlt, pfaultL_cons, ← prevI_succ hlt] at hI
    have hw : w64 (-3 - (i : Int)) = -3 - (i : Int) := w64_id (by omega) (by omega)
    rw [hw]
    simp only [WL]
    refine ⟨fun hr => ?_, fun hr => ?_⟩
    · rw [if_pos (by omega)] at hI
      rw [hI]
    · rw [if_neg (by omega)] at hI
      have htail : ¬ (∃ q, prevI pr i = some q ∧ pr[i] ≤ q) → ((∃ x ∈ l, x.Digest = pr[i]) → Ctl.ret (⟨7, -3 - (i : Int)⟩ : Fault) = (Ctl.ret (pfaultL l none pr 0) : Ctl partial_check.S Fault)) ∧ (¬ (∃ x ∈ l, x.Digest = pr[i]) → (∃ j : Nat, w64 ((i : Int) + 1) = j ∧ j ≤ pr.length ∧ pfaultL l none pr 0 = pfaultL l (prevI pr j) (pr.drop j) j) ∧ pr.length - (w64 ((i : Int) + 1)).toNat < pr.length - (i : Int).toNat) := by
        intro hn
        rw [if_neg hn] at hI
        refine ⟨fun h => by rw [if_pos h] at hI; rw [hI], fun h => ?_⟩
        rw [if_neg h] at hI
        rw [w64_succ (by omega)]
        exact ⟨⟨i + 1, rfl, by omega, hI⟩, by omega⟩
      refine ⟨fun hz => ?_, fun hz => ?_⟩
      · have hlt1 : i - 1 < pr.length := by omega
        have hpv : prevI pr i = some pr[i - 1] := by
          have := prevI_succ hlt1
          rw [Nat.sub_add_cancel (by omega)] at this
          exact this
        rw [w64_id (by omega) (by omega), show (i : Int) - 1 = ((i - 1 : Nat) : Int) by omega]
        refine opt_of (idx_nat' hlt1) ⟨fun h => ?_, fun h => ?_⟩
        · rw [if_pos ⟨_, hpv, h⟩] at hI
          rw [hI]
        · refine htail ?_
          rintro ⟨q, hq, hle⟩
          rw [hpv] at hq
          cases hq
          exact absurd hle (by omega)
      · refine htail ?_
        rintro ⟨q, hq, _⟩
        have : i = 0 := by omega
        subst this
        cases hq
  · have : i = pr.length := by omega
    subst this
    rw [List.drop_length] at hI
    rw [hI]; rfl
theorem PromiseFault_eq (s0 : ObjectStore) (pr : List Int) : ref4_PromiseFault.f s0 pr = some (pFault s0 pr) := by
  rcases Classical.em (¬ (sFault s0).Code = 0) with hS | hS
  · have e : pFault s0 pr = sFault s0 := by unfold pFault; rw [if_pos hS]
    rw [e]
    refine retOf_of ?_
    unfold ref4_PromiseFault.body
    simp only [WL, ref4_PromiseFault.retv, ref4_PromiseFault.r0, ref4_PromiseFault.r1, ref4_PromiseFault.r2, ref4_PromiseFault.r3, ref4_PromiseFault.r4, ref4_PromiseFault.r5, ref4_PromiseFault.r6, ref4_PromiseFault.r7, ref4_PromiseFault.r9, ref4_PromiseFault.r10, ref4_PromiseFault.r11, ref4_PromiseFault.r12, ref4_PromiseFault.r13, ref4_PromiseFault.r14, ref4_PromiseFault.r8, ref4_PromiseFault.r15, StoreFault_eq]
    exact ⟨fun _ => trivial, fun e => absurd e hS⟩
  have hS := Classical.not_not.1 hS
  have hO := sFault_ok.1 hS
  have hV := StoreFault_eq s0
  rw [sFault_eq0.2 hO] at hV
  by_cases hl : 40 < pr.length
  · have e : pFault s0 pr = ⟨2, -2⟩ := by unfold pFault; rw [if_neg (fun h => h hS), if_pos hl]
    rw [e]
    refine retOf_of ?_
    unfold ref4_PromiseFault.body
    simp only [WL, ref4_PromiseFault.retv, ref4_PromiseFault.r0, ref4_PromiseFault.r1, ref4_PromiseFault.r2, ref4_PromiseFault.r3, ref4_PromiseFault.r4, ref4_PromiseFault.r5, ref4_PromiseFault.r6, ref4_PromiseFault.r7, ref4_PromiseFault.r9, ref4_PromiseFault.r10, ref4_PromiseFault.r11, ref4_PromiseFault.r12, ref4_PromiseFault.r13, ref4_PromiseFault.r14, ref4_PromiseFault.r8, ref4_PromiseFault.r15, hV, Fault_eq]
    exact ⟨fun _ => trivial, fun e => by omega⟩
  have e : pFault s0 pr = pfaultL s0.Objects none pr 0 := by unfold pFault; rw [if_neg (fun h => h hS), if_neg hl]
  rw [e]
  obtain ⟨l⟩ := s0
  dsimp only at *
  have hll := hO.len
  refine retOf_of ?_
  unfold ref4_PromiseFault.body
  simp only [WL, ref4_PromiseFault.retv, ref4_PromiseFault.r0, ref4_PromiseFault.r1, ref4_PromiseFault.r2, ref4_PromiseFault.r3, ref4_PromiseFault.r4, ref4_PromiseFault.r5, ref4_PromiseFault.r6, ref4_PromiseFault.r7, ref4_PromiseFault.r9, ref4_PromiseFault.r10, ref4_PromiseFault.r11, ref4_PromiseFault.r12, ref4_PromiseFault.r13, ref4_PromiseFault.r14, ref4_PromiseFault.r8, ref4_PromiseFault.r15, hV, Fault_eq]
  refine ⟨fun e => by omega, fun _ => ?_⟩
  refine W_iter (fun s => s.promised_1 = pr ∧ s.s_2 = ⟨l⟩ ∧ ∃ i : Nat, s.i_6 = i ∧ i ≤ pr.length ∧ pfaultL l none pr 0 = pfaultL l (prevI pr i) (pr.drop i) i) (fun s => pr.length - s.i_6.toNat) ⟨rfl, rfl, 0, rfl, by omega, rfl⟩ ?_
  rintro s ⟨e1, e2, i, e22, hi, hI⟩
  simp only [WL, ref4_PromiseFault.retv, ref4_PromiseFault.r0, ref4_PromiseFault.r1, ref4_PromiseFault.r2, ref4_PromiseFault.r3, ref4_PromiseFault.r4, ref4_PromiseFault.r5, ref4_PromiseFault.r6, ref4_PromiseFault.r7, ref4_PromiseFault.r9, ref4_PromiseFault.r10, ref4_PromiseFault.r11, ref4_PromiseFault.r12, ref4_PromiseFault.r13, ref4_PromiseFault.r14, ref4_PromiseFault.r8, ref4_PromiseFault.r15, e1, e2, e22, Fault_eq]
  refine ⟨fun hlt => ?_, fun hge => ?_⟩
  · have hlt : i < pr.length := by omega
    refine opt_of (idx_nat' hlt) ?_
    rw [In_eq]
    simp only [WL]
    rw [List.drop_eq_getElem_cons hlt, pfaultL_cons, ← prevI_succ hlt] at hI
    have hw : w64 (-3 - (i : Int)) = -3 - (i : Int) := w64_id (by omega) (by omega)
    rw [hw]
    refine ⟨fun hr => ?_, fun hr => ?_⟩
    · rw [if_pos (by omega)] at hI
      rw [hI]
    · rw [if_neg (by omega)] at hI
      obtain ⟨r, hr, hA⟩ := At_eq l pr[i] (by omega)
      have htail : ¬ (∃ q, prevI pr i = some q ∧ pr[i] ≤ q) → (0 ≤ r → Ctl.ret (⟨7, -3 - (i : Int)⟩ : Fault) = (Ctl.ret (pfaultL l none pr 0) : Ctl ref4_PromiseFault.S Fault)) ∧ (r < 0 → (∃ j : Nat, w64 ((i : Int) + 1) = j ∧ j ≤ pr.length ∧ pfaultL l none pr 0 = pfaultL l (prevI pr j) (pr.drop j) j) ∧ pr.length - (w64 ((i : Int) + 1)).toNat < pr.length - (i : Int).toNat) := by
        intro hn
        rw [if_neg hn] at hI
        refine ⟨fun h => ?_, fun h => ?_⟩
        · rcases hA with ⟨hA, _⟩ | ⟨j, hj, _, hA⟩
          · omega
          · rw [if_pos ⟨_, List.getElem_mem hj, hA⟩] at hI; rw [hI]
        · rcases hA with ⟨_, hA⟩ | ⟨j, hj, hA, _⟩
          · rw [if_neg (fun ⟨x, hx, e⟩ => hA x hx e)] at hI
            rw [w64_succ (by omega)]
            exact ⟨⟨i + 1, rfl, by omega, hI⟩, by omega⟩
          · omega
      refine ⟨fun hz => ?_, fun hz => ?_⟩
      · have hlt1 : i - 1 < pr.length := by omega
        have hpv : prevI pr i = some pr[i - 1] := by
          have := prevI_succ hlt1
          rw [Nat.sub_add_cancel (by omega)] at this
          exact this
        rw [w64_id (by omega) (by omega), show (i : Int) - 1 = ((i - 1 : Nat) : Int) by omega]
        refine opt_of (idx_nat' hlt1) (opt_of (idx_nat' hlt) ⟨fun h => ?_, fun h => opt_of (idx_nat' hlt) (opt_of hr ?_)⟩)
        · rw [if_pos ⟨_, hpv, h⟩] at hI
          rw [hI]
        · refine htail ?_
          rintro ⟨q, hq, hle⟩
          rw [hpv] at hq
          cases hq
          exact absurd hle (by omega)
      · refine opt_of (idx_nat' hlt) (opt_of hr (htail ?_))
        rintro ⟨q, hq, _⟩
        have : i = 0 := by omega
        subst this
        cases hq
  · have : i = pr.length := by omega
    subst this
    rw [List.drop_length] at hI
    rw [hI]; rfl
/-- Promises that fit a store. -/
structure OkP (l : List StoredObject) (pr : List Int) : Prop where
  len : pr.length ≤ 40
  rng : ∀ d ∈ pr, 0 ≤ d ∧ d < 2305843009213693951
  inc : pr.Pairwise (· < ·)
  dis : ∀ d ∈ pr, ∀ x ∈ l, x.Digest ≠ d
theorem pfaultL_iff (l : List StoredObject) : ∀ (ps : List Int) (p : Option Int) (i : Nat), (pfaultL l p ps i).Code = 0 ↔ ((∀ d ∈ ps, (0 ≤ d ∧ d < 2305843009213693951) ∧ ∀ x ∈ l, x.Digest ≠ d) ∧ ps.Pairwise (· < ·) ∧ ∀ q, p = some q → ∀ d ∈ ps, q < d)
  | [], _, _ => by simp [pfaultL]
  | d :: ps, p, i => by
    rw [pfaultL_cons]
    by_cases c1 : d < 0 ∨ 2305843009213693951 ≤ d
    · rw [if_pos c1]
      constructor
      · intro h; cases h
      · rintro ⟨h, _⟩; have := (h d (.head _)).1; omega
    · rw [if_neg c1]
      by_cases c2 : ∃ q, p = some q ∧ d ≤ q
      · rw [if_pos c2]
        constructor
        · intro h; cases h
        · rintro ⟨_, _, h⟩
          obtain ⟨q, hq, hle⟩ := c2
          have := h q hq d (.head _)
          omega
      · rw [if_neg c2]
        by_cases c3 : ∃ x ∈ l, x.Digest = d
        · rw [if_pos c3]
          constructor
          · intro h; cases h
          · rintro ⟨h, _⟩
            obtain ⟨x, hx, e⟩ := c3
            exact absurd e ((h d (.head _)).2 x hx)
        · rw [if_neg c3, pfaultL_iff l ps]
          constructor
          · rintro ⟨h1, h2, h3⟩
            refine ⟨fun x hx => ?_, List.pairwise_cons.2 ⟨fun x hx => h3 _ rfl x hx, h2⟩, fun q hq x hx => ?_⟩
            · rcases List.mem_cons.1 hx with rfl | hx
              · exact ⟨⟨by omega, by omega⟩, fun y hy e => c3 ⟨y, hy, e⟩⟩
              · exact h1 x hx
            · have ho : q < d := by
                by_cases hle : d ≤ q
                · exact absurd ⟨q, hq, hle⟩ c2
                · omega
              rcases List.mem_cons.1 hx with rfl | hx
              · exact ho
              · have := h3 _ rfl x hx; omega
          · rintro ⟨h1, h2, h3⟩
            have h2' := List.pairwise_cons.1 h2
            exact ⟨fun x hx => h1 x (.tail _ hx), h2'.2, fun q hq x hx => by cases hq; exact h2'.1 x hx⟩
theorem pFault_ok {s : ObjectStore} {pr : List Int} : (pFault s pr).Code = 0 ↔ OkS s.Objects ∧ OkP s.Objects pr := by
  unfold pFault
  by_cases hS : (sFault s).Code = 0
  · rw [if_neg (fun h => h hS)]
    by_cases hl : 40 < pr.length
    · rw [if_pos hl]
      constructor
      · intro h; cases h
      · intro h; have := h.2.len; omega
    · rw [if_neg hl, pfaultL_iff]
      constructor
      · rintro ⟨h1, h2, _⟩; exact ⟨sFault_ok.1 hS, by omega, fun d hd => (h1 d hd).1, h2, fun d hd => (h1 d hd).2⟩
      · intro h; exact ⟨fun d hd => ⟨h.2.rng d hd, h.2.dis d hd⟩, h.2.inc, by simp⟩
  · rw [if_pos hS]
    exact ⟨fun h => absurd h hS, fun h => absurd (sFault_ok.2 h.1) hS⟩
theorem pfaultL_zero (l : List StoredObject) : ∀ (ps : List Int) (p : Option Int) (i : Nat), (pfaultL l p ps i).Code = 0 → pfaultL l p ps i = ⟨0, 0⟩
  | [], _, _, _ => by simp [pfaultL]
  | d :: ps, p, i, h => by
    rw [pfaultL_cons] at h ⊢
    split at h
    · cases h
    · split at h
      · cases h
      · split at h
        · cases h
        · rename_i c1 c2 c3
          rw [if_neg c1, if_neg c2, if_neg c3]
          exact pfaultL_zero l ps _ _ h
theorem pFault_eq0 {s : ObjectStore} {pr : List Int} : pFault s pr = ⟨0, 0⟩ ↔ OkS s.Objects ∧ OkP s.Objects pr := by
  constructor
  · intro h; exact pFault_ok.1 (by rw [h])
  · intro h
    have hc := pFault_ok.2 h
    unfold pFault at hc ⊢
    rw [if_neg (fun e => e (sFault_ok.2 h.1)), if_neg (by have := h.2.len; omega)] at hc ⊢
    exact pfaultL_zero _ _ _ _ hc
theorem PutObject_eq {l : List StoredObject} {o : Object} {d : Int} (ho : OkO o) (hd : dig (objBytes o) = d) (hn : ∀ y ∈ l, y.Digest ≠ d) (hl : l.length ≤ 40) :
    ref3_PutObject.f ⟨l⟩ o = some (if l.length = 40 then (⟨[]⟩, 0, 14) else (⟨ins ⟨d, o⟩ l⟩, d, 0)) := by
  have hD := ObjectDigest_eq ho
  rw [hd] at hD
  clear hd
  obtain ⟨r, hr, hA⟩ := At_eq l d (by omega)
  obtain rfl : r = -1 := by
    rcases hA with ⟨h, _⟩ | ⟨j, hj, _, e⟩
    · exact h
    · exact absurd e (hn _ (List.getElem_mem hj))
  refine retOf_of ?_
  unfold ref3_PutObject.body
  simp only [WL, ref3_PutObject.retv, ref3_PutObject.r0, ref3_PutObject.r1, ref3_PutObject.r2, ref3_PutObject.r3, ref3_PutObject.r4, ref3_PutObject.r5, ref3_PutObject.r6, ref3_PutObject.r7, ref3_PutObject.r8, ref3_PutObject.r9, ref3_PutObject.r10, ref3_PutObject.r11, ref3_PutObject.r12, ref3_PutObject.r14, ref3_PutObject.r15, ref3_PutObject.r16, ref3_PutObject.r17, ref3_PutObject.r13, ref3_PutObject.r18, ref3_PutObject.r19, ref3_PutObject.r20, hD, hr]
  refine ⟨fun e => absurd e (by decide), fun _ => ⟨fun h => by rw [if_pos (by omega)], fun h => ?_⟩⟩
  rw [if_neg (by omega)]
  refine W_iter (fun s => s.t_2.Objects = l ∧ s.t_3 = o ∧ s.t_7 = d ∧ ∃ i : Nat, s.t_11 = i ∧ i ≤ l.length ∧ ((s.t_10 = false ∧ s.t_9.Objects = l.take i ∧ l.take i ++ ins ⟨d, o⟩ (l.drop i) = ins ⟨d, o⟩ l) ∨ (s.t_10 = true ∧ s.t_9.Objects ++ l.drop i = ins ⟨d, o⟩ l))) (fun s => l.length - s.t_11.toNat) ⟨rfl, rfl, rfl, 0, rfl, by omega, .inl ⟨rfl, rfl, rfl⟩⟩ ?_
  rintro s ⟨e2, e3, e7, i, e11, hi, hI⟩
  rcases hI with ⟨e10, e9, hI⟩ | ⟨e10, hI⟩
  · simp only [WL, ref3_PutObject.retv, ref3_PutObject.r0, ref3_PutObject.r1, ref3_PutObject.r2, ref3_PutObject.r3, ref3_PutObject.r4, ref3_PutObject.r5, ref3_PutObject.r6, ref3_PutObject.r7, ref3_PutObject.r8, ref3_PutObject.r9, ref3_PutObject.r10, ref3_PutObject.r11, ref3_PutObject.r12, ref3_PutObject.r14, ref3_PutObject.r15, ref3_PutObject.r16, ref3_PutObject.r17, ref3_PutObject.r13, ref3_PutObject.r18, ref3_PutObject.r19, ref3_PutObject.r20, e2, e3, e7, e9, e10, e11, Bool.not_false]
    have hlen : (l.take i).length ≤ 100 := by rw [List.length_take]; omega
    refine ⟨fun hlt => ?_, fun hge => ?_⟩
    · have hlt : i < l.length := by omega
      rw [List.drop_eq_getElem_cons hlt] at hI
      refine opt_of (idx_nat' hlt) ⟨fun hx => ?_, fun hx => ?_⟩
      · rw [app64 (by omega), opt_some]
        refine opt_of (idx_nat' hlt) ?_
        rw [app64 (by simp only [List.length_append, List.length_singleton]; omega), opt_some, w64_succ (by omega)]
        refine ⟨⟨i + 1, rfl, by omega, .inr ?_⟩, by omega⟩
        rw [← hI]
        unfold ins
        rw [if_pos hx]
        simp only [List.append_assoc, List.singleton_append, List.cons_append, List.nil_append]
      · refine opt_of (idx_nat' hlt) ?_
        rw [app64 (by omega), opt_some, w64_succ (by omega)]
        refine ⟨⟨i + 1, rfl, by omega, .inl ⟨by rw [List.take_succ_eq_append_getElem hlt], ?_⟩⟩, by omega⟩
        rw [← hI, List.take_succ_eq_append_getElem hlt]
        conv => rhs; unfold ins
        rw [if_neg (show ¬ (⟨d, o⟩ : StoredObject).Digest < l[i].Digest by dsimp only; omega)]
        simp only [List.append_assoc, List.singleton_append, List.cons_append, List.nil_append]
    · have : i = l.length := by omega
      subst this
      rw [app64 (by omega), opt_some, ← hI, List.drop_length]
      rfl
  · simp only [WL, ref3_PutObject.retv, ref3_PutObject.r0, ref3_PutObject.r1, ref3_PutObject.r2, ref3_PutObject.r3, ref3_PutObject.r4, ref3_PutObject.r5, ref3_PutObject.r6, ref3_PutObject.r7, ref3_PutObject.r8, ref3_PutObject.r9, ref3_PutObject.r10, ref3_PutObject.r11, ref3_PutObject.r12, ref3_PutObject.r14, ref3_PutObject.r15, ref3_PutObject.r16, ref3_PutObject.r17, ref3_PutObject.r13, ref3_PutObject.r18, ref3_PutObject.r19, ref3_PutObject.r20, e2, e3, e7, e10, e11, Bool.not_true]
    refine ⟨fun hlt => ?_, fun hge => ?_⟩
    · have hlt : i < l.length := by omega
      rw [List.drop_eq_getElem_cons hlt] at hI
      have hlen : s.t_9.Objects.length ≤ 100 := by
        have := congrArg List.length hI
        rw [ins_len, List.length_append] at this
        omega
      refine opt_of (idx_nat' hlt) ?_
      rw [app64 (by omega), opt_some, w64_succ (by omega)]
      refine ⟨⟨i + 1, rfl, by omega, .inr ?_⟩, by omega⟩
      rw [← hI, List.append_assoc]
      rfl
    · have : i = l.length := by omega
      subst this
      rw [List.drop_length, List.append_nil] at hI
      rw [hI]
end Go.Proofs.Ytenkbkcddcnmeaa
