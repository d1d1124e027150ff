/- Fetch. -/
import Derived.Test.YtenkbkcddcnmeaaPp8
namespace Go.Proofs.Ytenkbkcddcnmeaa
open Go.Fx
set_option linter.unusedVariables false
set_option linter.unusedSimpArgs false
set_option maxRecDepth 20000

def got (re : List StoredObject) (d : Int) : Option StoredObject := re.find? fun x => decide (x.Digest = d)
theorem got_some {re : List StoredObject} (h : OkS re) {x : StoredObject} (hx : x ∈ re) : got re x.Digest = some x := by
  unfold got
  cases hf : re.find? (fun y => decide (y.Digest = x.Digest)) with
  | none => have := List.find?_eq_none.1 hf x hx; simp at this
  | some y =>
    have h1 := List.mem_of_find?_eq_some hf
    have h2 := List.find?_some hf
    rw [h.uniq h1 hx (of_decide_eq_true h2)]
theorem got_none {re : List StoredObject} {d : Int} (h : ∀ x ∈ re, x.Digest ≠ d) : got re d = none := by
  unfold got
  rw [List.find?_eq_none]
  intro x hx
  simp [h x hx]
/-- The fetched store, or the fault. -/
def fetchL (pr : List Int) (re : List StoredObject) : List Int → List StoredObject → List Int → Nat → List StoredObject × Fault
  | _, cur, [], _ => (cur, ⟨0, 0⟩)
  | dn, cur, d :: ws, i => if ¬ (d ∈ pr ∧ d ∉ dn) then ([], ⟨6, i⟩) else match got re d with
    | none => ([], ⟨17, i⟩)
    | some x => if cur.length = 40 then ([], ⟨14, i⟩) else fetchL pr re (dn ++ [d]) (ins x cur) ws (i + 1)
theorem fetchL_cons (pr : List Int) (re : List StoredObject) (dn : List Int) (cur : List StoredObject) (d : Int) (ws : List Int) (i : Nat) : fetchL pr re dn cur (d :: ws) i = if ¬ (d ∈ pr ∧ d ∉ dn) then ([], ⟨6, i⟩) else match got re d with
    | none => ([], ⟨17, i⟩)
    | some x => if cur.length = 40 then ([], ⟨14, i⟩) else fetchL pr re (dn ++ [d]) (ins x cur) ws (i + 1) := by
  rw [fetchL]
def left (pr dn : List Int) : List Int := pr.filter fun d => !decide (d ∈ dn)
theorem left_mem {pr dn : List Int} {d : Int} : d ∈ left pr dn ↔ d ∈ pr ∧ d ∉ dn := by
  unfold left; rw [List.mem_filter]; simp
theorem left_inc {l : List StoredObject} {pr dn : List Int} (h : OkP l pr) : (left pr dn).Pairwise (· < ·) := h.inc.sublist List.filter_sublist
theorem left_len {l : List StoredObject} {pr dn : List Int} (h : OkP l pr) : (left pr dn).length ≤ 40 := Nat.le_trans (List.length_filter_le _ _) h.len
def fetchR (l : List StoredObject) (pr : List Int) (re : List StoredObject) (ws : List Int) : ObjectStore × List Int × Fault :=
  if (fetchL pr re [] l ws 0).2 = ⟨0, 0⟩ then (⟨(fetchL pr re [] l ws 0).1⟩, left pr ws, ⟨0, 0⟩) else (⟨[]⟩, [], (fetchL pr re [] l ws 0).2)
theorem fetchR_bad {l : List StoredObject} {pr : List Int} {re : List StoredObject} {ws : List Int} {r : List StoredObject} {f : Fault} (h : fetchL pr re [] l ws 0 = (r, f)) (hf : f ≠ ⟨0, 0⟩) : fetchR l pr re ws = (⟨[]⟩, [], f) := by
  unfold fetchR; rw [h]; dsimp only; rw [if_neg hf]
theorem fetchR_ok {l : List StoredObject} {pr : List Int} {re : List StoredObject} {ws : List Int} {r : List StoredObject} (h : fetchL pr re [] l ws 0 = (r, ⟨0, 0⟩)) : fetchR l pr re ws = (⟨r⟩, left pr ws, ⟨0, 0⟩) := by
  unfold fetchR; rw [h]; dsimp only; rw [if_pos rfl]
theorem del_eq : ∀ {l : List Int} {p : Nat} {d : Int}, l.Pairwise (· < ·) → l[p]? = some d → l.take p ++ l.drop (p + 1) = l.filter fun x => !decide (x = d)
  | [], p, d, _, h => by simp at h
  | y :: l, 0, d, hi, h => by
    have : y = d := by simpa using h
    subst this
    rw [List.pairwise_cons] at hi
    rw [List.filter_cons]
    simp only [decide_true, Bool.not_true, Bool.false_eq_true, if_false, List.take_zero, List.nil_append, List.drop_succ_cons, List.drop_zero]
    symm
    rw [List.filter_eq_self]
    intro x hx
    have := hi.1 x hx
    simp; omega
  | y :: l, p + 1, d, hi, h => by
    rw [List.pairwise_cons] at hi
    have h' : l[p]? = some d := by simpa using h
    have := hi.1 d (List.mem_of_getElem? h')
    rw [List.filter_cons, if_pos (by simp; omega), ← del_eq hi.2 h']
    rfl
theorem left_del {l : List StoredObject} {pr dn : List Int} (h : OkP l pr) {p : Nat} {d : Int} (hp : (left pr dn)[p]? = some d) : Delete.f (left pr dn) (p : Int) ((p : Int) + 1) = some (left pr (dn ++ [d])) := by
  have hlt : p < (left pr dn).length := (List.getElem?_eq_some_iff.1 hp).1
  unfold Delete.f
  rw [if_pos ⟨by omega, by omega, by omega⟩, Int.toNat_natCast, show ((p : Int) + 1).toNat = p + 1 by omega, del_eq (left_inc h) hp]
  congr 1
  refine inc_ext ((left_inc h).sublist List.filter_sublist) (left_inc h) fun x => ?_
  rw [List.mem_filter, left_mem, left_mem, List.mem_append, List.mem_singleton]
  simp only [Bool.not_eq_true', decide_eq_false_iff_not, not_or, and_assoc]
/-- What the loop of Fetch keeps. -/
structure FI (pr dn : List Int) (cur : List StoredObject) : Prop where
  ok : OkS cur
  dis : ∀ d ∈ pr, d ∉ dn → ∀ x ∈ cur, x.Digest ≠ d
theorem FI.next {pr dn : List Int} {cur re : List StoredObject} (h : FI pr dn cur) (hR : OkS re) {x : StoredObject} (hx : x ∈ re) (hp : x.Digest ∈ pr) (hd : x.Digest ∉ dn) (hl : cur.length ≠ 40) : FI pr (dn ++ [x.Digest]) (ins x cur) where
  ok := h.ok.put (hR.obj x hx) (h.dis _ hp hd) (by have := h.ok.len; omega)
  dis := fun d hdp hdn y hy => by
    rw [List.mem_append, List.mem_singleton, not_or] at hdn
    rcases (ins_mem x).1 hy with e | hy
    · rw [e]; exact fun e => hdn.2 e.symm
    · exact h.dis d hdp hdn.1 y hy
theorem Fetch_eq {l : List StoredObject} {pr : List Int} {re : List StoredObject} {ws : List Int} (hS : OkS l) (hP : OkP l pr) (hR : OkS re) (hw : ws.length ≤ 40) :
    partial_Fetch.f ⟨l⟩ pr ⟨re⟩ ws = some (fetchR l pr re ws) := by
  have hC := pcheck_eq ⟨l⟩ (pr := pr) fun d hd => ⟨by have := hP.rng d hd; omega, by have := hP.rng d hd; omega⟩
  rw [pFault_eq0.2 ⟨hS, hP⟩] at hC
  have hpl := hP.len
  have hCl : CloneI.f pr = some pr := by unfold CloneI.f; rw [if_pos (by omega)]
  refine retOf_of ?_
  unfold partial_Fetch.body
  simp only [WL, partial_Fetch.retv, partial_Fetch.r0, partial_Fetch.r1, partial_Fetch.r2, partial_Fetch.r3, partial_Fetch.r4, partial_Fetch.r5, partial_Fetch.r6, partial_Fetch.r7, partial_Fetch.r8, partial_Fetch.r9, partial_Fetch.r10, partial_Fetch.r11, partial_Fetch.r12, partial_Fetch.r13, partial_Fetch.r14, partial_Fetch.r15, partial_Fetch.r16, partial_Fetch.r17, partial_Fetch.r18, partial_Fetch.r19, partial_Fetch.r20, partial_Fetch.r21, partial_Fetch.r22, partial_Fetch.r23, partial_Fetch.r24, partial_Fetch.r25, hC, hCl, Validate_ok hR, Merge_eq hS]
  refine ⟨fun e => by omega, fun _ => ?_⟩
  refine W_iter (fun s => s.t_6 = ⟨re⟩ ∧ s.t_52 = ws ∧ s.t_53 = (ws.length : Int) ∧ ∃ (i : Nat) (cur : List StoredObject), s.t_54 = i ∧ i ≤ ws.length ∧ s.t_14 = ⟨cur⟩ ∧ s.t_13 = left pr (ws.take i) ∧ FI pr (ws.take i) cur ∧ fetchL pr re [] l ws 0 = fetchL pr re (ws.take i) cur (ws.drop i) i) (fun s => ws.length - s.t_54.toNat) ⟨rfl, rfl, rfl, 0, l, rfl, Nat.zero_le _, rfl, ?_, ⟨hS, fun d hd _ => hP.dis d hd⟩, rfl⟩ ?_
  · show pr = left pr []
    unfold left; symm; rw [List.filter_eq_self]; intro x _; simp
  rintro s ⟨e6, e52, e53, i, cur, e54, hi, e14, e13, hF, hI⟩
  simp only [WL, partial_Fetch.retv, partial_Fetch.r0, partial_Fetch.r1, partial_Fetch.r2, partial_Fetch.r3, partial_Fetch.r4, partial_Fetch.r5, partial_Fetch.r6, partial_Fetch.r7, partial_Fetch.r8, partial_Fetch.r9, partial_Fetch.r10, partial_Fetch.r11, partial_Fetch.r12, partial_Fetch.r13, partial_Fetch.r14, partial_Fetch.r15, partial_Fetch.r16, partial_Fetch.r17, partial_Fetch.r18, partial_Fetch.r19, partial_Fetch.r20, partial_Fetch.r21, partial_Fetch.r22, partial_Fetch.r23, partial_Fetch.r24, partial_Fetch.r25, e6, e52, e53, e54, e14, e13]
  refine ⟨fun hlt => ?_, fun hge => ?_⟩
  · have hlt : i < ws.length := by omega
    refine opt_of (idx_nat' hlt) ?_
    obtain ⟨r, hB, p, b, rfl, hFi⟩ := BI_eq (l := left pr (ws.take i)) (t := ws[i]) (by have := left_len (dn := ws.take i) hP; omega)
    have hFm := hFi.mem (left_inc hP)
    rw [left_mem] at hFm
    refine opt_of hB ?_
    rw [List.drop_eq_getElem_cons hlt, fetchL_cons] at hI
    refine ⟨fun hb => ?_, fun hb => ?_⟩
    · have hb : b = false := hb
      rw [if_pos (fun e => by rw [hFm.2 e] at hb; cases hb)] at hI
      rw [fetchR_bad hI (by simp)]
    · have hb : b = true := hb
      have hm := hFm.1 hb
      rw [if_neg (fun e => e hm)] at hI
      have hrg := hP.rng _ hm.1
      by_cases hx : ∃ x ∈ re, x.Digest = ws[i]
      · obtain ⟨x, hx, hxd⟩ := hx
        have hG := Get_eq hR hx
        rw [hxd] at hG
        have hgot := got_some hR hx
        rw [hxd] at hgot
        rw [hgot] at hI
        dsimp only at hI
        refine opt_of hG ⟨fun e => absurd rfl e, fun _ => ?_⟩
        have hob := hR.obj x hx
        rw [hxd] at hob
        by_cases h40 : cur.length = 40
        · rw [if_pos h40] at hI
          refine opt_of (Put_full hF.ok hob.1 hob.2 (hF.dis _ hm.1 hm.2) h40) ⟨fun _ => ?_, fun e => absurd e (by decide)⟩
          rw [fetchR_bad hI (by simp)]
        · rw [if_neg h40] at hI
          have hPut := Put_eq hF.ok hob.1 hob.2 (hF.dis _ hm.1 hm.2) (by have := hF.ok.len; omega)
          have hxe : (⟨ws[i], x.Object⟩ : StoredObject) = x := by rw [← hxd]
          rw [hxe] at hPut
          refine opt_of hPut ⟨fun e => absurd rfl e, fun _ => ?_⟩
          have hpi : (left pr (ws.take i))[p]? = some ws[i] := by
            have := hFi.ok
            rw [hb] at this
            cases hq : (left pr (ws.take i))[p]? with
            | none => rw [hq] at this; cases this
            | some y => rw [hq] at this; have : y = ws[i] := by simpa using this.symm
                        rw [this]
          have hpl2 : p < 100 := by have := (List.getElem?_eq_some_iff.1 hpi).1; have := left_len (dn := ws.take i) hP; omega
          have hD := left_del hP hpi
          rw [show w64 ((p : Int) + 1) = (p : Int) + 1 from w64_id (by omega) (by omega)]
          refine opt_of hD ?_
          rw [w64_succ (by omega)]
          have hN := hF.next hR hx (by rw [hxd]; exact hm.1) (by rw [hxd]; exact hm.2) h40
          rw [hxd] at hN
          rw [← List.take_succ_eq_append_getElem hlt] at hN hI ⊢
          exact ⟨⟨i + 1, ins x cur, rfl, by omega, rfl, rfl, hN, hI⟩, by omega⟩
      · rw [got_none (fun x h e => hx ⟨x, h, e⟩)] at hI
        dsimp only at hI
        refine opt_of (Get_none hR (by omega) (by omega) fun x h e => hx ⟨x, h, e⟩) ⟨fun _ => ?_, fun e => absurd e (by decide)⟩
        rw [fetchR_bad hI (by simp)]
  · have : i = ws.length := by omega
    subst this
    rw [List.drop_length, List.take_length] at hI
    rw [fetchR_ok hI, List.take_length]
theorem cutToN {xs : List Int} {n : Nat} (h : n ≤ xs.length) : cutTo xs (n : Int) = some (xs.take n) := by
  unfold cutTo; rw [if_pos (by omega)]; simp
theorem FetchOf_eq {l : List StoredObject} {pr : List Int} {re : List StoredObject} {ws : List Int} (hS : OkS l) (hP : OkP l pr) (hR : OkS re) (hw : ws.length ≤ 40) :
    ref4_FetchOf.f ⟨l⟩ pr ⟨re⟩ ws = some (fetchR l pr re ws) := by
  have hpl := hP.len
  have hrl := hR.len
  refine retOf_of ?_
  unfold ref4_FetchOf.body
  simp only [WL, ref4_FetchOf.retv, ref4_FetchOf.r0, ref4_FetchOf.r1, ref4_FetchOf.r2, ref4_FetchOf.r4, ref4_FetchOf.r5, ref4_FetchOf.r6, ref4_FetchOf.r7, ref4_FetchOf.r8, ref4_FetchOf.r9, ref4_FetchOf.r10, ref4_FetchOf.r11, ref4_FetchOf.r12, ref4_FetchOf.r3, ref4_FetchOf.r13, ref4_FetchOf.r14, ref4_FetchOf.r15, ref4_FetchOf.r17, ref4_FetchOf.r18, ref4_FetchOf.r16, ref4_FetchOf.r19, Fault_eq]
  refine W_iter (fun s => s.t_1 = pr ∧ s.t_6 = ⟨re⟩ ∧ s.t_3 = ws ∧ ∃ (i : Nat) (cur : List StoredObject), s.t_11 = i ∧ i ≤ ws.length ∧ s.t_4 = ⟨cur⟩ ∧ FI pr (ws.take i) cur ∧ fetchL pr re [] l ws 0 = fetchL pr re (ws.take i) cur (ws.drop i) i) (fun s => ws.length - s.t_11.toNat) ⟨rfl, rfl, rfl, 0, l, rfl, Nat.zero_le _, rfl, ⟨hS, fun d hd _ => hP.dis d hd⟩, rfl⟩ ?_
  rintro s ⟨e1, e6, e3, i, cur, e11, hi, e4, hF, hI⟩
  simp only [WL, ref4_FetchOf.retv, ref4_FetchOf.r0, ref4_FetchOf.r1, ref4_FetchOf.r2, ref4_FetchOf.r4, ref4_FetchOf.r5, ref4_FetchOf.r6, ref4_FetchOf.r7, ref4_FetchOf.r8, ref4_FetchOf.r9, ref4_FetchOf.r10, ref4_FetchOf.r11, ref4_FetchOf.r12, ref4_FetchOf.r3, ref4_FetchOf.r13, ref4_FetchOf.r14, ref4_FetchOf.r15, ref4_FetchOf.r17, ref4_FetchOf.r18, ref4_FetchOf.r16, ref4_FetchOf.r19, e1, e6, e3, e11, e4, Fault_eq]
  refine ⟨fun hlt => ?_, fun hge => ?_⟩
  · have hlt : i < ws.length := by omega
    rw [List.drop_eq_getElem_cons hlt, fetchL_cons] at hI
    have hH1 := Has_eq pr ws[i] (by omega)
    have hH2 := Has_eq (ws.take i) ws[i] (by rw [List.length_take]; omega)
    have hbad : ¬ (ws[i] ∈ pr ∧ ws[i] ∉ ws.take i) → Ctl.ret ((⟨[]⟩ : ObjectStore), ([] : List Int), (⟨6, (i : Int)⟩ : Fault)) = (Ctl.ret (fetchR l pr re ws) : Ctl ref4_FetchOf.S ref4_FetchOf.R) := by
      intro h
      rw [if_pos h] at hI
      rw [fetchR_bad hI (by simp)]
    refine opt_of (idx_nat' hlt) (opt_of hH1 ⟨fun h => ?_, fun h => opt_of (cutToN (by omega)) (opt_of (idx_nat' hlt) (opt_of hH2 ⟨fun h2 => ?_, fun h2 => ?_⟩))⟩)
    · exact hbad fun e => of_decide_eq_false h e.1
    · exact hbad fun e => e.2 (of_decide_eq_true h2)
    · have hp : ws[i] ∈ pr := by simpa using h
      have hd : ws[i] ∉ ws.take i := of_decide_eq_false h2
      rw [if_neg (fun e => e ⟨hp, hd⟩)] at hI
      obtain ⟨r, hr, hA⟩ := At_eq re ws[i] (by omega)
      refine opt_of (idx_nat' hlt) (opt_of hr ⟨fun (hneg : r < 0) => ?_, fun (hpos : 0 ≤ r) => ?_⟩)
      · rcases hA with ⟨_, hA⟩ | ⟨j, hj, hA, _⟩
        · rw [got_none hA] at hI
          dsimp only at hI
          rw [fetchR_bad hI (by simp)]
        · omega
      · rcases hA with ⟨hA, _⟩ | ⟨j, hj, rfl, hxd⟩
        · omega
        · have hx := List.getElem_mem hj
          have hgot := got_some hR hx
          rw [hxd] at hgot
          rw [hgot] at hI
          dsimp only at hI
          have hob := hR.obj _ hx
          rw [hxd] at hob
          refine opt_of (idx_nat' hj) ?_
          have hPO := PutObject_eq hob.1 hob.2 (hF.dis _ hp hd) hF.ok.len
          have hxe : (⟨ws[i], re[j].Object⟩ : StoredObject) = re[j] := by rw [← hxd]
          rw [hxe] at hPO
          refine opt_of hPO ?_
          by_cases h40 : cur.length = 40
          · rw [if_pos h40] at hI ⊢
            refine ⟨fun _ => ?_, fun e => absurd e (by decide)⟩
            rw [fetchR_bad hI (by simp)]
          · rw [if_neg h40] at hI ⊢
            refine ⟨fun e => absurd rfl e, fun _ => ?_⟩
            have hN := hF.next hR hx (by rw [hxd]; exact hp) (by rw [hxd]; exact hd) h40
            rw [hxd] at hN
            rw [w64_succ (by omega)]
            rw [← List.take_succ_eq_append_getElem hlt] at hN hI
            exact ⟨⟨i + 1, ins re[j] cur, rfl, by omega, rfl, hN, hI⟩, by omega⟩
  · have hiw : i = ws.length := by omega
    subst hiw
    rw [List.drop_length, List.take_length] at hI
    have hFR := fetchR_ok hI
    rw [hFR]
    refine W_iter (fun s => s.t_1 = pr ∧ s.t_3 = ws ∧ s.t_4 = ⟨cur⟩ ∧ ∃ k : Nat, s.t_17 = k ∧ k ≤ pr.length ∧ s.t_16 = left (pr.take k) ws) (fun s => pr.length - s.t_17.toNat) ⟨rfl, rfl, rfl, 0, rfl, Nat.zero_le _, rfl⟩ ?_
    clear s e1 e6 e3 e11 e4 hge
    rintro s ⟨e1, e3, e4, k, e17, hk, e16⟩
    simp only [WL, ref4_FetchOf.retv, ref4_FetchOf.r0, ref4_FetchOf.r1, ref4_FetchOf.r2, ref4_FetchOf.r4, ref4_FetchOf.r5, ref4_FetchOf.r6, ref4_FetchOf.r7, ref4_FetchOf.r8, ref4_FetchOf.r9, ref4_FetchOf.r10, ref4_FetchOf.r11, ref4_FetchOf.r12, ref4_FetchOf.r3, ref4_FetchOf.r13, ref4_FetchOf.r14, ref4_FetchOf.r15, ref4_FetchOf.r17, ref4_FetchOf.r18, ref4_FetchOf.r16, ref4_FetchOf.r19, e1, e3, e4, e17, e16]
    refine ⟨fun hlt => ?_, fun hge => ?_⟩
    · have hlt : k < pr.length := by omega
      have hH := Has_eq ws pr[k] (by omega)
      refine opt_of (idx_nat' hlt) (opt_of hH ⟨fun h => opt_of (idx_nat' hlt) ?_, fun h => ?_⟩)
      · have hlen : (left (pr.take k) ws).length ≤ 1000 := Nat.le_trans (List.length_filter_le _ _) (by rw [List.length_take]; omega)
        rw [app8i (by omega), opt_some, w64_succ (by omega)]
        refine ⟨⟨k + 1, rfl, by omega, ?_⟩, by omega⟩
        unfold left
        rw [take_filter hlt, if_pos (by rw [h]; rfl)]
      · rw [w64_succ (by omega)]
        refine ⟨⟨k + 1, rfl, by omega, ?_⟩, by omega⟩
        unfold left
        rw [take_filter hlt, if_neg (by rw [h]; decide), List.append_nil]
    · have : k = pr.length := by omega
      subst this
      rw [List.take_length]
end Go.Proofs.Ytenkbkcddcnmeaa
