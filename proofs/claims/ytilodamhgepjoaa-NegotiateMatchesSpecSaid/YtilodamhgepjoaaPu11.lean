/- The reference: the boundary and the extract; lists of commits that are the same. -/
import Derived.Test.YtilodamhgepjoaaPu10
import Derived.Test.YtilodamhgepjoaaPA
namespace Go.Proofs.Ytilodamhgepjoaa
open Go.Fx
set_option linter.unusedVariables false
set_option linter.unusedSimpArgs false

theorem BoundaryOf_eq (l : List Commit) (ns : List Int) (hS : Sel l ns) : ref4_BoundaryOf.f l ns = some (bnd l ns) := by
  refine retOf_of ?_
  unfold ref4_BoundaryOf.body
  have hl60 := hS.hist.len
  have hnl := hS.len
  simp only [W_seq, W_block, W_reg, W_cond, W_skip, W_ext, W_ret, opt_some, opt_bind, opt_ite, thenQ_nrm, thenQ_ext, thenQ_ret, blkQ_nrm, blkQ_ext, blkQ_ret, if_true, true_and, and_true, decide_eq_true_eq, decide_eq_false_iff_not, Bool.or_eq_true, Bool.and_eq_true, Bool.or_eq_false_iff, Bool.and_eq_false_iff, Bool.true_eq_false, not_or, Classical.not_not, Bool.not_eq_true', Bool.not_eq_false', Int.not_lt, Int.not_le, Bool.false_eq_true, false_implies, true_implies, and_self, not_true_eq_false, not_false_eq_true, ref4_BoundaryOf.retv, ref4_BoundaryOf.r0, ref4_BoundaryOf.r1, ref4_BoundaryOf.r2, ref4_BoundaryOf.r3, ref4_BoundaryOf.r5, ref4_BoundaryOf.r6, ref4_BoundaryOf.r7, ref4_BoundaryOf.r9, ref4_BoundaryOf.r8, ref4_BoundaryOf.r10, ref4_BoundaryOf.r11, ref4_BoundaryOf.r4, ref4_BoundaryOf.r12]
  refine W_iter (fun s => s.l_0 = l ∧ s.numbers_1 = ns ∧ ∃ i : Nat, s.i_6 = i ∧ i ≤ ns.length ∧ s.out_5 = (ns.take i).filter (isCut l ns)) (fun s => ns.length - s.i_6.toNat) ⟨rfl, rfl, 0, rfl, by omega, by simp⟩ ?_
  rintro s ⟨h0, h1, i, hi, hle, hout⟩
  have houtl : ((ns.take i).filter (isCut l ns)).length ≤ ns.length := Nat.le_trans (List.length_filter_le _ _) (by rw [List.length_take]; omega)
  simp only [W_seq, W_block, W_reg, W_cond, W_skip, W_ext, W_ret, opt_some, opt_bind, opt_ite, thenQ_nrm, thenQ_ext, thenQ_ret, blkQ_nrm, blkQ_ext, blkQ_ret, if_true, true_and, and_true, decide_eq_true_eq, decide_eq_false_iff_not, Bool.or_eq_true, Bool.and_eq_true, Bool.or_eq_false_iff, Bool.and_eq_false_iff, Bool.true_eq_false, not_or, Classical.not_not, Bool.not_eq_true', Bool.not_eq_false', Int.not_lt, Int.not_le, Bool.false_eq_true, false_implies, true_implies, and_self, not_true_eq_false, not_false_eq_true, ref4_BoundaryOf.retv, ref4_BoundaryOf.r0, ref4_BoundaryOf.r1, ref4_BoundaryOf.r2, ref4_BoundaryOf.r3, ref4_BoundaryOf.r5, ref4_BoundaryOf.r6, ref4_BoundaryOf.r7, ref4_BoundaryOf.r9, ref4_BoundaryOf.r8, ref4_BoundaryOf.r10, ref4_BoundaryOf.r11, ref4_BoundaryOf.r4, ref4_BoundaryOf.r12, h0, h1, hi]
  refine ⟨fun hlt => ?_, fun hge => ?_⟩
  · have hlt : i < ns.length := by omega
    have hin := hS.inr _ (List.getElem_mem hlt)
    obtain ⟨c, hc, hcl, hp⟩ := idx_par hin.1 hin.2
    have hpl := hS.hist.pars c (List.mem_of_getElem? hcl)
    have hcut : isCut l ns ns[i] = c.Parents.any fun p => !decide (p ∈ ns) := by unfold isCut; rw [hp]
    refine W_iter (fun s' => s'.l_0 = l ∧ s'.numbers_1 = ns ∧ s'.i_6 = i ∧ s'.out_5 = (ns.take i).filter (isCut l ns) ∧ ∃ k : Nat, s'.k_8 = k ∧ k ≤ c.Parents.length ∧ s'.cut_7 = (c.Parents.take k).any fun p => !decide (p ∈ ns)) (fun s' => c.Parents.length - s'.k_8.toNat)
      ⟨rfl, rfl, rfl, hout, 0, rfl, by omega, by simp⟩ ?_
    rintro s' ⟨h0, h1, h6, hout, k, h8, hk, hcu⟩
    have hwi : w64 ((i : Int) + 1) = ((i + 1 : Nat) : Int) := w64_succ (by omega)
    simp only [W_seq, W_block, W_reg, W_cond, W_skip, W_ext, W_ret, opt_some, opt_bind, opt_ite, thenQ_nrm, thenQ_ext, thenQ_ret, blkQ_nrm, blkQ_ext, blkQ_ret, if_true, true_and, and_true, decide_eq_true_eq, decide_eq_false_iff_not, Bool.or_eq_true, Bool.and_eq_true, Bool.or_eq_false_iff, Bool.and_eq_false_iff, Bool.true_eq_false, not_or, Classical.not_not, Bool.not_eq_true', Bool.not_eq_false', Int.not_lt, Int.not_le, Bool.false_eq_true, false_implies, true_implies, and_self, not_true_eq_false, not_false_eq_true, ref4_BoundaryOf.retv, ref4_BoundaryOf.r0, ref4_BoundaryOf.r1, ref4_BoundaryOf.r2, ref4_BoundaryOf.r3, ref4_BoundaryOf.r5, ref4_BoundaryOf.r6, ref4_BoundaryOf.r7, ref4_BoundaryOf.r9, ref4_BoundaryOf.r8, ref4_BoundaryOf.r10, ref4_BoundaryOf.r11, ref4_BoundaryOf.r4, ref4_BoundaryOf.r12, h0, h1, h6, h8, hout, hcu, hwi]
    refine opt_of (idx_nat' hlt) (opt_of hc ⟨fun hkl => ?_, fun hkl => ?_⟩)
    · have hkl : k < c.Parents.length := by omega
      rw [w64_succ (by omega)]
      refine ⟨fun ha => ⟨⟨k + 1, rfl, by omega, ?_⟩, by omega⟩, fun ha => opt_of (idx_nat' hlt) (opt_of hc (opt_of (idx_nat' hkl) (opt_of (Has_eq ns _ (by omega)) ⟨⟨k + 1, rfl, by omega, ?_⟩, by omega⟩)))⟩
      · rw [any_take hkl, ha]; rfl
      · rw [any_take hkl, Bool.eq_false_iff.2 ha]; rfl
    · obtain rfl : k = c.Parents.length := by omega
      rw [List.take_length]
      refine ⟨fun ha => opt_of (idx_nat' hlt) (opt_of (appL_of (by simp only [List.length_cons, List.length_nil]; omega)) ⟨⟨i + 1, rfl, by omega, ?_⟩, by omega⟩), fun ha => ⟨⟨i + 1, rfl, by omega, ?_⟩, by omega⟩⟩
      · rw [take_filter hlt, hcut, if_pos ha]
      · rw [take_filter hlt, hcut, if_neg (by rw [ha]; decide), List.append_nil]
  · obtain rfl : i = ns.length := by omega
    rw [hout, List.take_length]; rfl

theorem below_get {ns : List Int} (hs : ns.Pairwise (· < ·)) {k : Nat} (hk : k < ns.length) : below ns ns[k] = k := by
  have hsl : ∀ (i j : Nat) (hi : i < ns.length) (hj : j < ns.length), i < j → ns[i] < ns[j] := List.pairwise_iff_getElem.1 hs
  refine below_of (by omega) (fun j hj hjl => hsl j k hjl hk hj) fun j hj hjl => ?_
  by_cases e : k = j
  · subst e; exact Int.le_refl _
  · have := hsl k j hk hjl (by omega); omega
theorem mem_below {ns : List Int} (hs : ns.Pairwise (· < ·)) {p : Int} (hp : p ∈ ns) : ∃ h : below ns p < ns.length, ns[below ns p] = p := by
  obtain ⟨k, hk, e⟩ := List.getElem_of_mem hp
  have := below_get hs hk
  rw [e] at this
  subst this
  exact ⟨hk, e⟩
theorem below_lt {ns : List Int} (hs : ns.Pairwise (· < ·)) {p q : Int} (hp : p ∈ ns) (hq : q ∈ ns) (h : p < q) : below ns p < below ns q := by
  obtain ⟨h1, e1⟩ := mem_below hs hp
  obtain ⟨h2, e2⟩ := mem_below hs hq
  have hsl : ∀ (i j : Nat) (hi : i < ns.length) (hj : j < ns.length), i < j → ns[i] < ns[j] := List.pairwise_iff_getElem.1 hs
  rcases Nat.lt_trichotomy (below ns p) (below ns q) with h3 | h3 | h3
  · exact h3
  · have : ns[below ns p] = ns[below ns q] := by congr 1
    omega
  · have := hsl _ _ h2 h1 h3; omega
/-- The parents in the extract. -/
def xpar (ns ps : List Int) : List Int := (ps.filter fun p => decide (p ∈ ns)).map fun p => (below ns p : Int)
theorem xpar_inc {ns ps : List Int} (hs : ns.Pairwise (· < ·)) (hp : ps.Pairwise (· < ·)) : (xpar ns ps).Pairwise (· < ·) := by
  unfold xpar
  rw [List.pairwise_map]
  refine List.Pairwise.imp_of_mem (fun {a b} ha hb (h : a < b) => ?_) (hp.filter _)
  have ha : a ∈ ns := by simpa using (List.mem_filter.1 ha).2
  have hb : b ∈ ns := by simpa using (List.mem_filter.1 hb).2
  have := below_lt hs ha hb h
  omega
theorem xpar_mem {ns ps : List Int} {x : Int} : x ∈ xpar ns ps ↔ ∃ p ∈ ps, p ∈ ns ∧ x = (below ns p : Int) := by
  unfold xpar
  simp only [List.mem_map, List.mem_filter, decide_eq_true_eq]
  constructor
  · rintro ⟨p, ⟨h1, h2⟩, rfl⟩; exact ⟨p, h1, h2, rfl⟩
  · rintro ⟨p, h1, h2, rfl⟩; exact ⟨p, ⟨h1, h2⟩, rfl⟩
/-- .. as the reference finds them. -/
theorem xpar_range {l : List Commit} {ns : List Int} (hS : Sel l ns) {i : Nat} (hi : i < ns.length) {c : Commit} (hc : l[ns[i].toNat]? = some c) : ((List.range i).filter fun k => decide (ns.getD k 0 ∈ c.Parents)).map (fun (k : Nat) => (k : Int)) = xpar ns c.Parents := by
  have hin := hS.inr _ (List.getElem_mem hi)
  have hsl : ∀ (i j : Nat) (hi : i < ns.length) (hj : j < ns.length), i < j → ns[i] < ns[j] := List.pairwise_iff_getElem.1 hS.inc
  refine inc_ext ?_ (xpar_inc hS.inc (hS.hist.inc c (List.mem_of_getElem? hc))) fun x => ?_
  · rw [List.pairwise_map]
    exact List.Pairwise.imp (fun {a b} (h : a < b) => by omega) (List.pairwise_lt_range.filter _)
  · rw [xpar_mem]
    simp only [List.mem_map, List.mem_filter, List.mem_range, decide_eq_true_eq]
    constructor
    · rintro ⟨k, ⟨hk, hp⟩, rfl⟩
      have hkl : k < ns.length := by omega
      have e : ns.getD k 0 = ns[k] := by simp [List.getD, hkl]
      rw [e] at hp
      exact ⟨_, hp, List.getElem_mem hkl, by rw [below_get hS.inc hkl]⟩
    · rintro ⟨p, hp, hpn, rfl⟩
      obtain ⟨h1, e1⟩ := mem_below hS.inc hpn
      have hlt := hS.hist.topo _ c hc p hp
      refine ⟨_, ⟨?_, ?_⟩, rfl⟩
      · rcases Nat.lt_or_ge (below ns p) i with h | h
        · exact h
        · by_cases e : i = below ns p
          · have : ns[i] = ns[below ns p] := by congr 1
            omega
          · have := hsl i (below ns p) hi h1 (by omega); omega
      · have e : ns.getD (below ns p) 0 = ns[below ns p] := by simp [List.getD, h1]
        rw [e, e1]; exact hp
theorem exc_xpar {l : List Commit} {ns : List Int} {n : Int} {c : Commit} (hc : l[n.toNat]? = some c) : exc l ns n = { c with Parents := xpar ns c.Parents } := by
  unfold exc; rw [hc]; rfl
theorem xpar_len {ns ps : List Int} : (xpar ns ps).length ≤ ps.length := by
  unfold xpar; rw [List.length_map]; exact List.length_filter_le _ _

theorem ExtractOf_eq (l : List Commit) (ns : List Int) (hS : Sel l ns) : ref4_ExtractOf.f l ns = some (ns.map (exc l ns)) := by
  refine retOf_of ?_
  unfold ref4_ExtractOf.body
  have hl60 := hS.hist.len
  have hnl := hS.len
  simp only [W_seq, W_block, W_reg, W_cond, W_skip, W_ext, W_ret, opt_some, opt_bind, opt_ite, thenQ_nrm, thenQ_ext, thenQ_ret, blkQ_nrm, blkQ_ext, blkQ_ret, if_true, true_and, and_true, decide_eq_true_eq, decide_eq_false_iff_not, Bool.or_eq_true, Bool.and_eq_true, Bool.or_eq_false_iff, Bool.and_eq_false_iff, Bool.true_eq_false, not_or, Classical.not_not, Bool.not_eq_true', Bool.not_eq_false', Int.not_lt, Int.not_le, Bool.false_eq_true, false_implies, true_implies, and_self, not_true_eq_false, not_false_eq_true, ref4_ExtractOf.retv, ref4_ExtractOf.r0, ref4_ExtractOf.r1, ref4_ExtractOf.r2, ref4_ExtractOf.r3, ref4_ExtractOf.r5, ref4_ExtractOf.r6, ref4_ExtractOf.r7, ref4_ExtractOf.r8, ref4_ExtractOf.r10, ref4_ExtractOf.r11, ref4_ExtractOf.r9, ref4_ExtractOf.r12, ref4_ExtractOf.r4, ref4_ExtractOf.r13]
  refine W_iter (fun s => s.l_0 = l ∧ s.numbers_1 = ns ∧ ∃ i : Nat, s.i_6 = i ∧ i ≤ ns.length ∧ s.out_5 = (ns.take i).map (exc l ns)) (fun s => ns.length - s.i_6.toNat) ⟨rfl, rfl, 0, rfl, by omega, by simp⟩ ?_
  rintro s ⟨h0, h1, i, hi, hle, hout⟩
  simp only [W_seq, W_block, W_reg, W_cond, W_skip, W_ext, W_ret, opt_some, opt_bind, opt_ite, thenQ_nrm, thenQ_ext, thenQ_ret, blkQ_nrm, blkQ_ext, blkQ_ret, if_true, true_and, and_true, decide_eq_true_eq, decide_eq_false_iff_not, Bool.or_eq_true, Bool.and_eq_true, Bool.or_eq_false_iff, Bool.and_eq_false_iff, Bool.true_eq_false, not_or, Classical.not_not, Bool.not_eq_true', Bool.not_eq_false', Int.not_lt, Int.not_le, Bool.false_eq_true, false_implies, true_implies, and_self, not_true_eq_false, not_false_eq_true, ref4_ExtractOf.retv, ref4_ExtractOf.r0, ref4_ExtractOf.r1, ref4_ExtractOf.r2, ref4_ExtractOf.r3, ref4_ExtractOf.r5, ref4_ExtractOf.r6, ref4_ExtractOf.r7, ref4_ExtractOf.r8, ref4_ExtractOf.r10, ref4_ExtractOf.r11, ref4_ExtractOf.r9, ref4_ExtractOf.r12, ref4_ExtractOf.r4, ref4_ExtractOf.r13, h0, h1, hi]
  refine ⟨fun hlt => ?_, fun hge => ?_⟩
  · have hlt : i < ns.length := by omega
    have hin := hS.inr _ (List.getElem_mem hlt)
    obtain ⟨c, hc, hcl, hp⟩ := idx_par hin.1 hin.2
    have hpl := hS.hist.pars c (List.mem_of_getElem? hcl)
    have hwi : w64 ((i : Int) + 1) = ((i + 1 : Nat) : Int) := w64_succ (by omega)
    refine opt_of (idx_nat' hlt) (opt_of hc ?_)
    refine W_iter (fun s' => s'.l_0 = l ∧ s'.numbers_1 = ns ∧ s'.i_6 = i ∧ s'.c_7 = c ∧ s'.out_5 = (ns.take i).map (exc l ns) ∧ ∃ k : Nat, s'.k_9 = k ∧ k ≤ i ∧ s'.parents_8 = ((List.range k).filter fun k => decide (ns.getD k 0 ∈ c.Parents)).map (fun (k : Nat) => (k : Int))) (fun s' => i - s'.k_9.toNat)
      ⟨rfl, rfl, rfl, rfl, hout, 0, rfl, by omega, by simp⟩ ?_
    rintro s' ⟨h0, h1, h6, h7, hout, k, h8, hk, hpa⟩
    have hpal : (((List.range k).filter fun k => decide (ns.getD k 0 ∈ c.Parents)).map (fun (k : Nat) => (k : Int))).length ≤ 60 := by
      rw [List.length_map]
      exact Nat.le_trans (List.length_filter_le _ _) (by rw [List.length_range]; omega)
    simp only [W_seq, W_block, W_reg, W_cond, W_skip, W_ext, W_ret, opt_some, opt_bind, opt_ite, thenQ_nrm, thenQ_ext, thenQ_ret, blkQ_nrm, blkQ_ext, blkQ_ret, if_true, true_and, and_true, decide_eq_true_eq, decide_eq_false_iff_not, Bool.or_eq_true, Bool.and_eq_true, Bool.or_eq_false_iff, Bool.and_eq_false_iff, Bool.true_eq_false, not_or, Classical.not_not, Bool.not_eq_true', Bool.not_eq_false', Int.not_lt, Int.not_le, Bool.false_eq_true, false_implies, true_implies, and_self, not_true_eq_false, not_false_eq_true, ref4_ExtractOf.retv, ref4_ExtractOf.r0, ref4_ExtractOf.r1, ref4_ExtractOf.r2, ref4_ExtractOf.r3, ref4_ExtractOf.r5, ref4_ExtractOf.r6, ref4_ExtractOf.r7, ref4_ExtractOf.r8, ref4_ExtractOf.r10, ref4_ExtractOf.r11, ref4_ExtractOf.r9, ref4_ExtractOf.r12, ref4_ExtractOf.r4, ref4_ExtractOf.r13, h0, h1, h6, h7, h8, hout, hpa, hwi]
    refine ⟨fun hkl => ?_, fun hkl => ?_⟩
    · have hkl : k < i := by omega
      have hkn : k < ns.length := by omega
      have e : ns.getD k 0 = ns[k] := by simp [List.getD, hkn]
      rw [w64_succ (by omega)]
      refine opt_of (idx_nat' hkn) (opt_of (Has_eq c.Parents _ (by omega)) ⟨fun hm => ?_, fun hm => ?_⟩)
      · refine opt_of (appL_of (by simp only [List.length_cons, List.length_nil]; omega)) ⟨⟨k + 1, rfl, by omega, ?_⟩, by omega⟩
        rw [List.range_succ, List.filter_append, List.map_append]
        simp only [List.filter_cons, List.filter_nil, e, hm, if_true]; rfl
      · refine ⟨⟨k + 1, rfl, by omega, ?_⟩, by omega⟩
        rw [List.range_succ, List.filter_append, List.map_append]
        simp only [List.filter_cons, List.filter_nil, e, hm, if_false, Bool.false_eq_true, List.map_nil, List.append_nil]
    · obtain rfl : k = i := by omega
      refine opt_of (appL_of (by simp only [List.length_cons, List.length_nil, List.length_map, List.length_take]; omega)) ⟨⟨k + 1, rfl, by omega, ?_⟩, by omega⟩
      rw [take_map hlt, exc_xpar hcl, xpar_range hS hlt hcl]
  · obtain rfl : i = ns.length := by omega
    rw [hout, List.take_length]

theorem Commits_refl (a : List Commit) (hl : a.length ≤ 60) (hp : ∀ c ∈ a, c.Parents.length ≤ 60) : ref3_Commits.f a a = some true := by
  refine retOf_of ?_
  unfold ref3_Commits.body
  simp only [W_seq, W_block, W_reg, W_cond, W_skip, W_ext, W_ret, opt_some, opt_bind, opt_ite, thenQ_nrm, thenQ_ext, thenQ_ret, blkQ_nrm, blkQ_ext, blkQ_ret, if_true, true_and, and_true, decide_eq_true_eq, decide_eq_false_iff_not, Bool.or_eq_true, Bool.and_eq_true, Bool.or_eq_false_iff, Bool.and_eq_false_iff, Bool.true_eq_false, not_or, Classical.not_not, Bool.not_eq_true', Bool.not_eq_false', Int.not_lt, Int.not_le, Bool.false_eq_true, false_implies, true_implies, and_self, not_true_eq_false, not_false_eq_true, ref3_Commits.retv, ref3_Commits.r0, ref3_Commits.r1, ref3_Commits.r2, ref3_Commits.r3, ref3_Commits.r4, ref3_Commits.r6, ref3_Commits.r7, ref3_Commits.r8, ref3_Commits.r5, ref3_Commits.r9, not_true_eq_false, decide_true, Bool.not_true]
  refine W_iter (fun s => s.a_0 = a ∧ s.b_1 = a ∧ ∃ i : Nat, s.i_5 = i ∧ i ≤ a.length) (fun s => a.length - s.i_5.toNat) ⟨rfl, rfl, 0, rfl, by omega⟩ ?_
  rintro s ⟨h0, h1, i, hi, hle⟩
  simp only [W_seq, W_block, W_reg, W_cond, W_skip, W_ext, W_ret, opt_some, opt_bind, opt_ite, thenQ_nrm, thenQ_ext, thenQ_ret, blkQ_nrm, blkQ_ext, blkQ_ret, if_true, true_and, and_true, decide_eq_true_eq, decide_eq_false_iff_not, Bool.or_eq_true, Bool.and_eq_true, Bool.or_eq_false_iff, Bool.and_eq_false_iff, Bool.true_eq_false, not_or, Classical.not_not, Bool.not_eq_true', Bool.not_eq_false', Int.not_lt, Int.not_le, Bool.false_eq_true, false_implies, true_implies, and_self, not_true_eq_false, not_false_eq_true, ref3_Commits.retv, ref3_Commits.r0, ref3_Commits.r1, ref3_Commits.r2, ref3_Commits.r3, ref3_Commits.r4, ref3_Commits.r6, ref3_Commits.r7, ref3_Commits.r8, ref3_Commits.r5, ref3_Commits.r9, h0, h1, hi]
  refine ⟨fun hlt => ?_, fun hge => trivial⟩
  have hlt : i < a.length := by omega
  have hI : ref3_Ints.f a[i].Parents a[i].Parents = some true := by
    rw [Ints_eq _ _ (by have := hp _ (List.getElem_mem hlt); omega)]; simp
  refine opt_of (idx_nat' hlt) (opt_of (idx_nat' hlt) (opt_of hI ?_))
  rw [w64_succ (by omega)]
  simp
  exact ⟨⟨i + 1, by omega, by omega⟩, by omega⟩
end Go.Proofs.Ytilodamhgepjoaa
