/- ShallowExtractKeepsAncestry, the plain part. -/
import Derived.Test.YtilodamhgepjoaaPu12
import Derived.Test.YtilodamhgepjoaaPureShallowBoundaryDecides
namespace Go.Proofs.Ytilodamhgepjoaa.Pure
open Go.Fx Go.RowKit
set_option linter.unusedVariables false
set_option linter.unusedSimpArgs false
theorem ext_get {l : List Commit} {ns : List Int} (hS : Sel l ns) {i : Nat} (hi : i < ns.length) : ∃ c, l[ns[i].toNat]? = some c ∧ (ns.map (exc l ns))[i]? = some { c with Parents := xpar ns c.Parents } := by
  have hin := hS.inr _ (List.getElem_mem hi)
  obtain ⟨c, _, hcl, _⟩ := idx_par hin.1 hin.2
  refine ⟨c, hcl, ?_⟩
  rw [List.getElem?_map, List.getElem?_eq_getElem hi, Option.map_some, exc_xpar hcl]
/-- The extract is a valid history. -/
theorem ext_hist {l : List Commit} {ns : List Int} (hS : Sel l ns) : hFault (ns.map (exc l ns)) = ⟨0, 0⟩ := by
  have h1 := hS.len
  have h2 := hS.hist.len
  unfold hFault
  rw [if_neg (by rw [List.length_map]; omega), fs_none]
  · rfl
  · intro i hi
    rw [List.length_map] at hi
    obtain ⟨c, hc, hx⟩ := ext_get hS hi
    unfold hF
    rw [hx]
    simp only [Option.bind_some, Option.map_eq_none_iff]
    have hin := hS.inr _ (List.getElem_mem hi)
    have hf := hS.hist.fine _ c hc
    obtain ⟨hp3, hpr, hpi⟩ := Go.Proofs.Ytilodamhgepjoaa.cFault_none hf
    have hxl := xpar_len (ns := ns) (ps := c.Parents)
    have hinc := xpar_inc hS.inc hpi
    have hxr : ∀ x ∈ xpar ns c.Parents, 0 ≤ x ∧ x < (i : Int) := fun x hx => by
      obtain ⟨p, hp, hpn, rfl⟩ := xpar_mem.1 hx
      have := below_lt hS.inc hpn (List.getElem_mem hi) (by have := (hpr p hp).2; omega)
      rw [below_get hS.inc hi] at this
      omega
    have hrest : (if c.Author < 0 ∨ 7 < c.Author ∨ c.Time < 0 ∨ 100000 < c.Time ∨ c.Tree < 0 ∨ 2305843009213693951 ≤ c.Tree then some (3 : Int) else if 80 < c.Message.size then some 10 else none) = none := by
      unfold cFault at hf
      rw [if_neg (by omega)] at hf
      split at hf
      · cases hf
      · exact hf
    unfold cFault
    rw [if_neg (by show ¬ 3 < (xpar ns c.Parents).length; omega)]
    have hps : (List.range (xpar ns c.Parents).length).findSome? (pFault i (xpar ns c.Parents)) = none := fs_none fun k hk => by
      have e1 : (xpar ns c.Parents).getD k 0 = (xpar ns c.Parents)[k] := by simp [List.getD, hk]
      have := hxr _ (List.getElem_mem hk)
      unfold pFault
      rw [e1, if_neg (by omega), if_neg]
      rintro ⟨hk0, hle⟩
      have hk1 : k - 1 < (xpar ns c.Parents).length := by omega
      have e2 : (xpar ns c.Parents).getD (k - 1) 0 = (xpar ns c.Parents)[k - 1] := by simp [List.getD, hk1]
      have := List.pairwise_iff_getElem.1 hinc (k - 1) k hk1 hk (by omega)
      omega
    show (match (List.range (xpar ns c.Parents).length).findSome? (pFault i (xpar ns c.Parents)) with
      | some x => some x
      | none => _) = none
    rw [hps]
    exact hrest
theorem anc_down {l : List Commit} {ns : List Int} (hS : Sel l ns) {i k : Nat} (h : Anc (ns.map (exc l ns)) i k) : ∀ (hi : i < ns.length) (hk : k < ns.length), Anc l ns[i].toNat ns[k].toNat := by
  induction h with
  | refl i => intro hi hk; exact .refl _
  | @step i k p c hc hp ha ih =>
    intro hi hk
    obtain ⟨c', hc', hx⟩ := ext_get hS hi
    rw [hx] at hc
    cases hc
    obtain ⟨q, hq, hqn, e⟩ := xpar_mem.1 hp
    obtain ⟨h1, e1⟩ := mem_below hS.inc hqn
    have e : p = below ns q := by omega
    subst e
    have := ih h1 hk
    rw [e1] at this
    have hq0 := (hS.inr q hqn).1
    exact .step hc' (by rw [show ((q.toNat : Nat) : Int) = q by omega]; exact hq) this
theorem anc_up {l : List Commit} {ns : List Int} (hS : Sel l ns) (hcl : ∀ m ∈ ns, ∀ p ∈ Go.Proofs.Ytilodamhgepjoaa.par l m, p ∈ ns) {n m : Nat} (h : Anc l n m) : ∀ (hn : (n : Int) ∈ ns) (hm : (m : Int) ∈ ns), Anc (ns.map (exc l ns)) (below ns n) (below ns m) := by
  induction h with
  | refl i => intro hi hk; exact .refl _
  | @step i k p c hc hp ha ih =>
    intro hi hk
    have hpn : (p : Int) ∈ ns := hcl _ hi _ (by unfold Go.Proofs.Ytilodamhgepjoaa.par; rw [Int.toNat_natCast, hc]; exact hp)
    obtain ⟨h1, e1⟩ := mem_below hS.inc hi
    obtain ⟨c', hc', hx⟩ := ext_get hS h1
    rw [e1, Int.toNat_natCast, hc] at hc'
    cases hc'
    exact .step hx (xpar_mem.2 ⟨p, hp, hpn, rfl⟩) (ih hpn hk)
theorem ShallowExtractKeepsAncestry {l : List Commit} {ns : List Int} (hl : okL ok_Commit l) (hn : okL (okI .i64) ns) : law4_ShallowExtractKeepsAncestry.f l ns = some true := by
  refine retOf_of ?_
  unfold law4_ShallowExtractKeepsAncestry.body
  by_cases h : sFault l ns = ⟨0, 0⟩
  · have hS := sel_of h
    have h1 := hS.len
    have h2 := hS.hist.len
    have fB : shallow_Boundary.f l ns = some (bnd l ns, ⟨0, 0⟩) := by rw [Boundary_eq l ns hn.1, h]; rfl
    have fX : shallow_Extract.f l ns = some (ns.map (exc l ns), ⟨0, 0⟩) := by rw [Extract_eq l ns hn.1, h]; rfl
    have fS : ref4_SelectionFault.f l ns = some ⟨0, 0⟩ := by rw [SelectionFault_eq l ns hn.1, h]
    have fH : ref3_HistoryFault.f (ns.map (exc l ns)) = some ⟨0, 0⟩ := by rw [HistoryFault_eq, ext_hist hS]
    obtain ⟨T, fT, hTl, hT⟩ := Reach_ex l hS.hist
    obtain ⟨U, fU, hUl, hU⟩ := Reach_ex (ns.map (exc l ns)) (hist_of (ext_hist hS))
    have hxl : (ns.map (exc l ns)).length = ns.length := List.length_map ..
    rw [hxl] at hUl hU
    simp only [W_seq, W_block, W_reg, W_cond, W_skip, W_ext, W_ret, opt_some, opt_bind, opt_ite, thenQ_nrm, thenQ_ext, thenQ_ret, blkQ_nrm, blkQ_ext, blkQ_ret, if_true, true_and, and_true, decide_eq_true_eq, decide_eq_false_iff_not, Bool.or_eq_true, Bool.and_eq_true, Bool.or_eq_false_iff, Bool.and_eq_false_iff, Bool.true_eq_false, not_or, Classical.not_not, Bool.not_eq_true', Bool.not_eq_false', Int.not_lt, Int.not_le, Bool.false_eq_true, false_implies, true_implies, and_self, not_true_eq_false, not_false_eq_true, law4_ShallowExtractKeepsAncestry.retv, law4_ShallowExtractKeepsAncestry.r0, law4_ShallowExtractKeepsAncestry.r1, law4_ShallowExtractKeepsAncestry.r2, law4_ShallowExtractKeepsAncestry.r3, law4_ShallowExtractKeepsAncestry.r4, law4_ShallowExtractKeepsAncestry.r5, law4_ShallowExtractKeepsAncestry.r6, law4_ShallowExtractKeepsAncestry.r7, law4_ShallowExtractKeepsAncestry.r8, law4_ShallowExtractKeepsAncestry.r9, law4_ShallowExtractKeepsAncestry.r10, law4_ShallowExtractKeepsAncestry.r11, law4_ShallowExtractKeepsAncestry.r13, law4_ShallowExtractKeepsAncestry.r14, law4_ShallowExtractKeepsAncestry.r16, law4_ShallowExtractKeepsAncestry.r17, law4_ShallowExtractKeepsAncestry.r18, law4_ShallowExtractKeepsAncestry.r15, law4_ShallowExtractKeepsAncestry.r12, law4_ShallowExtractKeepsAncestry.r19, example_eq, fB, fX, fS, fH, fT, fU, hxl, not_true_eq_false, or_self, Bool.not_true, decide_true]
    refine W_iter (fun s => s.t_1 = ns ∧ s.t_5 = ns.map (exc l ns) ∧ s.t_7 = bnd l ns ∧ s.t_9 = T ∧ s.t_10 = U ∧ ∃ i : Nat, s.t_11 = i ∧ i ≤ ns.length) (fun s => ns.length - s.t_11.toNat) ⟨rfl, rfl, rfl, rfl, rfl, 0, rfl, by omega⟩ ?_
    rintro s ⟨e1, e5, e7, e9, e10, i, e11, hi⟩
    simp only [W_seq, W_block, W_reg, W_cond, W_skip, W_ext, W_ret, opt_some, opt_bind, opt_ite, thenQ_nrm, thenQ_ext, thenQ_ret, blkQ_nrm, blkQ_ext, blkQ_ret, if_true, true_and, and_true, decide_eq_true_eq, decide_eq_false_iff_not, Bool.or_eq_true, Bool.and_eq_true, Bool.or_eq_false_iff, Bool.and_eq_false_iff, Bool.true_eq_false, not_or, Classical.not_not, Bool.not_eq_true', Bool.not_eq_false', Int.not_lt, Int.not_le, Bool.false_eq_true, false_implies, true_implies, and_self, not_true_eq_false, not_false_eq_true, law4_ShallowExtractKeepsAncestry.retv, law4_ShallowExtractKeepsAncestry.r0, law4_ShallowExtractKeepsAncestry.r1, law4_ShallowExtractKeepsAncestry.r2, law4_ShallowExtractKeepsAncestry.r3, law4_ShallowExtractKeepsAncestry.r4, law4_ShallowExtractKeepsAncestry.r5, law4_ShallowExtractKeepsAncestry.r6, law4_ShallowExtractKeepsAncestry.r7, law4_ShallowExtractKeepsAncestry.r8, law4_ShallowExtractKeepsAncestry.r9, law4_ShallowExtractKeepsAncestry.r10, law4_ShallowExtractKeepsAncestry.r11, law4_ShallowExtractKeepsAncestry.r13, law4_ShallowExtractKeepsAncestry.r14, law4_ShallowExtractKeepsAncestry.r16, law4_ShallowExtractKeepsAncestry.r17, law4_ShallowExtractKeepsAncestry.r18, law4_ShallowExtractKeepsAncestry.r15, law4_ShallowExtractKeepsAncestry.r12, law4_ShallowExtractKeepsAncestry.r19, e1, e5, e7, e9, e10, e11, hxl]
    refine ⟨fun hlt => ?_, fun hge => trivial⟩
    have hlt : i < ns.length := by omega
    have hwi : w64 ((i : Int) + 1) = ((i + 1 : Nat) : Int) := w64_succ (by omega)
    refine W_iter (fun s => s.t_1 = ns ∧ s.t_5 = ns.map (exc l ns) ∧ s.t_7 = bnd l ns ∧ s.t_9 = T ∧ s.t_10 = U ∧ s.t_11 = i ∧ ∃ k : Nat, s.t_12 = k ∧ k ≤ ns.length) (fun s => ns.length - s.t_12.toNat) ⟨rfl, rfl, rfl, rfl, rfl, rfl, 0, rfl, by omega⟩ ?_
    rintro s ⟨e1, e5, e7, e9, e10, e11, k, e12, hk⟩
    simp only [W_seq, W_block, W_reg, W_cond, W_skip, W_ext, W_ret, opt_some, opt_bind, opt_ite, thenQ_nrm, thenQ_ext, thenQ_ret, blkQ_nrm, blkQ_ext, blkQ_ret, if_true, true_and, and_true, decide_eq_true_eq, decide_eq_false_iff_not, Bool.or_eq_true, Bool.and_eq_true, Bool.or_eq_false_iff, Bool.and_eq_false_iff, Bool.true_eq_false, not_or, Classical.not_not, Bool.not_eq_true', Bool.not_eq_false', Int.not_lt, Int.not_le, Bool.false_eq_true, false_implies, true_implies, and_self, not_true_eq_false, not_false_eq_true, law4_ShallowExtractKeepsAncestry.retv, law4_ShallowExtractKeepsAncestry.r0, law4_ShallowExtractKeepsAncestry.r1, law4_ShallowExtractKeepsAncestry.r2, law4_ShallowExtractKeepsAncestry.r3, law4_ShallowExtractKeepsAncestry.r4, law4_ShallowExtractKeepsAncestry.r5, law4_ShallowExtractKeepsAncestry.r6, law4_ShallowExtractKeepsAncestry.r7, law4_ShallowExtractKeepsAncestry.r8, law4_ShallowExtractKeepsAncestry.r9, law4_ShallowExtractKeepsAncestry.r10, law4_ShallowExtractKeepsAncestry.r11, law4_ShallowExtractKeepsAncestry.r13, law4_ShallowExtractKeepsAncestry.r14, law4_ShallowExtractKeepsAncestry.r16, law4_ShallowExtractKeepsAncestry.r17, law4_ShallowExtractKeepsAncestry.r18, law4_ShallowExtractKeepsAncestry.r15, law4_ShallowExtractKeepsAncestry.r12, law4_ShallowExtractKeepsAncestry.r19, e1, e5, e7, e9, e10, e11, e12, hxl, hwi]
    refine ⟨fun hkl => ?_, fun hkl => ⟨⟨i + 1, rfl, by omega⟩, by omega⟩⟩
    have hkl : k < ns.length := by omega
    have hni := hS.inr _ (List.getElem_mem hlt)
    have hnk := hS.inr _ (List.getElem_mem hkl)
    have hTi := hT ns[i].toNat (by omega)
    have hUi := hU i hlt
    have x1 : idx T ns[i] = some (T.getD ns[i].toNat []) := by
      have := idx_getD (xs := T) (i := ns[i].toNat) (d := []) (by omega)
      rwa [show ((ns[i].toNat : Nat) : Int) = ns[i] by omega] at this
    have x2 : idx (T.getD ns[i].toNat []) ns[k] = some ((T.getD ns[i].toNat []).getD ns[k].toNat false) := by
      have := idx_getD (xs := T.getD ns[i].toNat []) (i := ns[k].toNat) (d := false) (by rw [hTi.1]; omega)
      rwa [show ((ns[k].toNat : Nat) : Int) = ns[k] by omega] at this
    have x3 : idx U (i : Int) = some (U.getD i []) := idx_getD (by omega)
    have x4 : idx (U.getD i []) (k : Int) = some ((U.getD i []).getD k false) := idx_getD (by rw [hUi.1, hxl]; omega)
    have hTa := hTi.2 ns[k].toNat (by omega)
    have hUa := hUi.2 k (by rw [hxl]; omega)
    refine opt_of (idx_nat' hlt) (opt_of x1 (opt_of (idx_nat' hkl) (opt_of x2 (opt_of x3 (opt_of x4 ?_)))))
    have hdown : (U.getD i []).getD k false = true → (T.getD ns[i].toNat []).getD ns[k].toNat false = true := fun h => hTa.2 (anc_down hS (hUa.1 h) hlt hkl)
    have hup : bnd l ns = [] → (T.getD ns[i].toNat []).getD ns[k].toNat false = true → (U.getD i []).getD k false = true := fun hb h => by
      have hcl : ∀ m ∈ ns, ∀ p ∈ Go.Proofs.Ytilodamhgepjoaa.par l m, p ∈ ns := by
        have : ∀ n ∈ ns, ¬ isCut l ns n = true := by
          have := hb; unfold bnd at this; rw [List.filter_eq_nil_iff] at this; exact this
        intro m hm p hp
        have := this m hm
        unfold isCut at this
        simp only [List.any_eq_true, not_exists, not_and] at this
        have := this p hp
        simpa using this
      have ha := anc_up hS hcl (hTa.1 h) (by rw [show ((ns[i].toNat : Nat) : Int) = ns[i] by omega]; exact List.getElem_mem hlt) (by rw [show ((ns[k].toNat : Nat) : Int) = ns[k] by omega]; exact List.getElem_mem hkl)
      rw [show ((ns[i].toNat : Nat) : Int) = ns[i] by omega, show ((ns[k].toNat : Nat) : Int) = ns[k] by omega, below_get hS.inc hlt, below_get hS.inc hkl] at ha
      exact hUa.2 ha
    rw [w64_succ (by omega)]
    have hgo : (∃ k_1 : Nat, ((k + 1 : Nat) : Int) = k_1 ∧ k_1 ≤ ns.length) ∧ ns.length - (((k + 1 : Nat) : Int)).toNat < ns.length - ((k : Int)).toNat := ⟨⟨k + 1, rfl, by omega⟩, by omega⟩
    refine ⟨fun h => ?_, fun _ => ⟨fun ht => opt_of x3 (opt_of x4 ⟨fun h => ?_, fun _ => hgo⟩), fun _ => ⟨fun h => h.1.elim, fun _ => hgo⟩⟩⟩
    · have := hdown h.1; rw [h.2] at this; cases this
    · have hb : bnd l ns = [] := List.eq_nil_of_length_eq_zero (by omega)
      have := hup hb ht; rw [h.1] at this; cases this
  · have hc := sFault_code h
    have fB : shallow_Boundary.f l ns = some ([], sFault l ns) := by rw [Boundary_eq l ns hn.1, if_pos h]
    have fX : shallow_Extract.f l ns = some ([], sFault l ns) := by rw [Extract_eq l ns hn.1, if_pos h]
    simp only [W_seq, W_block, W_reg, W_cond, W_skip, W_ext, W_ret, opt_some, opt_bind, opt_ite, thenQ_nrm, thenQ_ext, thenQ_ret, blkQ_nrm, blkQ_ext, blkQ_ret, if_true, true_and, and_true, decide_eq_true_eq, decide_eq_false_iff_not, Bool.or_eq_true, Bool.and_eq_true, Bool.or_eq_false_iff, Bool.and_eq_false_iff, Bool.true_eq_false, not_or, Classical.not_not, Bool.not_eq_true', Bool.not_eq_false', Int.not_lt, Int.not_le, Bool.false_eq_true, false_implies, true_implies, and_self, not_true_eq_false, not_false_eq_true, law4_ShallowExtractKeepsAncestry.retv, law4_ShallowExtractKeepsAncestry.r0, law4_ShallowExtractKeepsAncestry.r1, law4_ShallowExtractKeepsAncestry.r2, law4_ShallowExtractKeepsAncestry.r3, law4_ShallowExtractKeepsAncestry.r4, law4_ShallowExtractKeepsAncestry.r5, law4_ShallowExtractKeepsAncestry.r6, law4_ShallowExtractKeepsAncestry.r7, law4_ShallowExtractKeepsAncestry.r8, law4_ShallowExtractKeepsAncestry.r9, law4_ShallowExtractKeepsAncestry.r10, law4_ShallowExtractKeepsAncestry.r11, law4_ShallowExtractKeepsAncestry.r13, law4_ShallowExtractKeepsAncestry.r14, law4_ShallowExtractKeepsAncestry.r16, law4_ShallowExtractKeepsAncestry.r17, law4_ShallowExtractKeepsAncestry.r18, law4_ShallowExtractKeepsAncestry.r15, law4_ShallowExtractKeepsAncestry.r12, law4_ShallowExtractKeepsAncestry.r19, example_eq, fB, fX, SelectionFault_eq l ns hn.1]
    simp [hc, w64_id]
end Go.Proofs.Ytilodamhgepjoaa.Pure
