/- Boundary and Extract. -/
import Derived.Test.YtilodamhgepjoaaPu7
namespace Go.Proofs.Ytilodamhgepjoaa
open Go.Fx
set_option linter.unusedVariables false
set_option linter.unusedSimpArgs false

theorem take_filter {α : Type} {xs : List α} {g : α → Bool} {i : Nat} (h : i < xs.length) : (xs.take (i + 1)).filter g = (xs.take i).filter g ++ (if g xs[i] = true then [xs[i]] else []) := by
  rw [List.take_add_one, List.getElem?_eq_getElem h, List.filter_append]
  simp only [Option.toList, List.filter_cons, List.filter_nil]
theorem take_map {α β : Type} {xs : List α} {g : α → β} {i : Nat} (h : i < xs.length) : (xs.take (i + 1)).map g = (xs.take i).map g ++ [g xs[i]] := by
  rw [List.take_add_one, List.getElem?_eq_getElem h, List.map_append]
  simp only [Option.toList, List.map_cons, List.map_nil]
theorem any_take {α : Type} {xs : List α} {g : α → Bool} {i : Nat} (h : i < xs.length) : (xs.take (i + 1)).any g = ((xs.take i).any g || g xs[i]) := by
  rw [List.take_add_one, List.getElem?_eq_getElem h, List.any_append]
  simp only [Option.toList, List.any_cons, List.any_nil, Bool.or_false]

def par (l : List Commit) (n : Int) : List Int := match l[n.toNat]? with | some c => c.Parents | none => []
theorem idx_par {l : List Commit} {n : Int} (h0 : 0 ≤ n) (h : n < l.length) : ∃ c, idx l n = some c ∧ l[n.toNat]? = some c ∧ par l n = c.Parents := by
  have hn : n.toNat < l.length := by omega
  refine ⟨l[n.toNat], ?_, List.getElem?_eq_getElem hn, ?_⟩
  · unfold idx; rw [if_pos h0, List.getElem?_eq_getElem hn]
  · unfold par; rw [List.getElem?_eq_getElem hn]
def isCut (l : List Commit) (ns : List Int) (n : Int) : Bool := (par l n).any fun p => !decide (p ∈ ns)
def bnd (l : List Commit) (ns : List Int) : List Int := ns.filter (isCut l ns)
def exc (l : List Commit) (ns : List Int) (n : Int) : Commit := match l[n.toNat]? with
  | some c => { c with Parents := (c.Parents.filter fun p => decide (p ∈ ns)).map fun p => (below ns p : Int) }
  | none => ⟨[], 0, 0, 0, ByteArray.empty⟩

theorem Boundary_eq (l : List Commit) (ns : List Int) (hn : ns.length ≤ 9223372036854775807) : shallow_Boundary.f l ns = some (if sFault l ns ≠ ⟨0, 0⟩ then ([], sFault l ns) else (bnd l ns, ⟨0, 0⟩)) := by
  refine retOf_of ?_
  unfold shallow_Boundary.body
  simp only [W_seq, W_block, W_reg, W_cond, W_skip, W_ext, W_ret, opt_some, opt_bind, opt_ite, thenQ_nrm, thenQ_ext, thenQ_ret, blkQ_nrm, blkQ_ext, blkQ_ret, if_true, true_and, and_true, decide_eq_true_eq, decide_eq_false_iff_not, Bool.or_eq_true, Bool.and_eq_true, Bool.or_eq_false_iff, Bool.and_eq_false_iff, Bool.true_eq_false, not_or, Classical.not_not, Bool.not_eq_true', Bool.not_eq_false', Int.not_lt, Int.not_le, Bool.false_eq_true, false_implies, true_implies, and_self, not_true_eq_false, not_false_eq_true, shallow_Boundary.retv, shallow_Boundary.r0, shallow_Boundary.r1, shallow_Boundary.r2, shallow_Boundary.r3, shallow_Boundary.r4, shallow_Boundary.r5, shallow_Boundary.r6, shallow_Boundary.r7, shallow_Boundary.r8, shallow_Boundary.r9, shallow_Boundary.r10, shallow_Boundary.r11, shallow_Boundary.r12, shallow_Boundary.r13, shallow_Boundary.r14, shallow_Boundary.r15, shallow_Boundary.r16, check_eq l ns hn]
  refine ⟨fun h => by rw [if_pos h], fun h => ?_⟩
  have hS := sel_of h
  have hl60 := hS.hist.len
  have hnl := hS.len
  rw [if_neg (by simpa using h)]
  refine W_iter (fun s => s.commits_0 = l ∧ s.numbers_1 = ns ∧ s.t_21 = ns ∧ s.t_22 = ns.length ∧ ∃ i : Nat, s.t_23 = i ∧ i ≤ ns.length ∧ s.out_7 = (ns.take i).filter (isCut l ns)) (fun s => ns.length - s.t_23.toNat)
    ⟨rfl, rfl, rfl, rfl, 0, rfl, by omega, by simp⟩ ?_
  rintro s ⟨h0, h1, h21, h22, i, hi, hle, hout⟩
  have houtl : ((ns.take i).filter (isCut l ns)).length ≤ ns.length := Nat.le_trans (List.length_filter_le _ _) (by rw [List.length_take]; omega)
  simp only [W_seq, W_block, W_reg, W_cond, W_skip, W_ext, W_ret, opt_some, opt_bind, opt_ite, thenQ_nrm, thenQ_ext, thenQ_ret, blkQ_nrm, blkQ_ext, blkQ_ret, if_true, true_and, and_true, decide_eq_true_eq, decide_eq_false_iff_not, Bool.or_eq_true, Bool.and_eq_true, Bool.or_eq_false_iff, Bool.and_eq_false_iff, Bool.true_eq_false, not_or, Classical.not_not, Bool.not_eq_true', Bool.not_eq_false', Int.not_lt, Int.not_le, Bool.false_eq_true, false_implies, true_implies, and_self, not_true_eq_false, not_false_eq_true, shallow_Boundary.retv, shallow_Boundary.r0, shallow_Boundary.r1, shallow_Boundary.r2, shallow_Boundary.r3, shallow_Boundary.r4, shallow_Boundary.r5, shallow_Boundary.r6, shallow_Boundary.r7, shallow_Boundary.r8, shallow_Boundary.r9, shallow_Boundary.r10, shallow_Boundary.r11, shallow_Boundary.r12, shallow_Boundary.r13, shallow_Boundary.r14, shallow_Boundary.r15, shallow_Boundary.r16, h0, h1, h21, h22, hi]
  refine ⟨fun hlt => ?_, fun hge => ?_⟩
  · have hlt : i < ns.length := by omega
    have hin := hS.inr _ (List.getElem_mem hlt)
    obtain ⟨c, hc, hcl, hp⟩ := idx_par hin.1 hin.2
    have hpl := hS.hist.pars c (List.mem_of_getElem? hcl)
    refine opt_of (idx_nat' hlt) (opt_of hc ?_)
    have hcut : isCut l ns ns[i] = c.Parents.any fun p => !decide (p ∈ ns) := by unfold isCut; rw [hp]
    refine W_iter (fun s' => s'.commits_0 = l ∧ s'.numbers_1 = ns ∧ s'.t_21 = ns ∧ s'.t_22 = ns.length ∧ s'.t_23 = i ∧ s'.n_9 = ns[i] ∧ s'.t_31 = c.Parents ∧ s'.t_32 = c.Parents.length ∧ s'.out_7 = (ns.take i).filter (isCut l ns) ∧ ∃ k : Nat, s'.t_33 = k ∧ k ≤ c.Parents.length ∧ ((c.Parents.take k).any fun p => !decide (p ∈ ns)) = false) (fun s' => c.Parents.length - s'.t_33.toNat)
      ⟨rfl, rfl, rfl, rfl, rfl, rfl, rfl, rfl, hout, 0, rfl, by omega, by simp⟩ ?_
    rintro s' ⟨h0, h1, h21, h22, h23, h9, h31, h32, hout, k, h33, hk, hno⟩
    simp only [W_seq, W_block, W_reg, W_cond, W_skip, W_ext, W_ret, opt_some, opt_bind, opt_ite, thenQ_nrm, thenQ_ext, thenQ_ret, blkQ_nrm, blkQ_ext, blkQ_ret, if_true, true_and, and_true, decide_eq_true_eq, decide_eq_false_iff_not, Bool.or_eq_true, Bool.and_eq_true, Bool.or_eq_false_iff, Bool.and_eq_false_iff, Bool.true_eq_false, not_or, Classical.not_not, Bool.not_eq_true', Bool.not_eq_false', Int.not_lt, Int.not_le, Bool.false_eq_true, false_implies, true_implies, and_self, not_true_eq_false, not_false_eq_true, shallow_Boundary.retv, shallow_Boundary.r0, shallow_Boundary.r1, shallow_Boundary.r2, shallow_Boundary.r3, shallow_Boundary.r4, shallow_Boundary.r5, shallow_Boundary.r6, shallow_Boundary.r7, shallow_Boundary.r8, shallow_Boundary.r9, shallow_Boundary.r10, shallow_Boundary.r11, shallow_Boundary.r12, shallow_Boundary.r13, shallow_Boundary.r14, shallow_Boundary.r15, shallow_Boundary.r16, h0, h1, h21, h22, h23, h9, h31, h32, h33, hout, BinarySearch_eq ns _ (by omega) hS.inc]
    refine ⟨fun hkl => ?_, fun hkl => ?_⟩
    · have hkl : k < c.Parents.length := by omega
      refine opt_of (idx_nat' hkl) ⟨fun hm => ?_, fun hm => ?_⟩
      · have hany : c.Parents.any (fun p => !decide (p ∈ ns)) = true := by
          rw [List.any_eq_true]; exact ⟨_, List.getElem_mem hkl, by simpa using hm⟩
        refine opt_of (appL_of (by simp only [List.length_cons, List.length_nil]; omega)) ?_
        have hwi : w64 ((i : Int) + 1) = ((i + 1 : Nat) : Int) := w64_succ (by omega)
        simp only [W_seq, W_block, W_reg, W_cond, W_skip, W_ext, W_ret, opt_some, opt_bind, opt_ite, thenQ_nrm, thenQ_ext, thenQ_ret, blkQ_nrm, blkQ_ext, blkQ_ret, if_true, true_and, and_true, decide_eq_true_eq, decide_eq_false_iff_not, Bool.or_eq_true, Bool.and_eq_true, Bool.or_eq_false_iff, Bool.and_eq_false_iff, Bool.true_eq_false, not_or, Classical.not_not, Bool.not_eq_true', Bool.not_eq_false', Int.not_lt, Int.not_le, Bool.false_eq_true, false_implies, true_implies, and_self, not_true_eq_false, not_false_eq_true, shallow_Boundary.retv, shallow_Boundary.r0, shallow_Boundary.r1, shallow_Boundary.r2, shallow_Boundary.r3, shallow_Boundary.r4, shallow_Boundary.r5, shallow_Boundary.r6, shallow_Boundary.r7, shallow_Boundary.r8, shallow_Boundary.r9, shallow_Boundary.r10, shallow_Boundary.r11, shallow_Boundary.r12, shallow_Boundary.r13, shallow_Boundary.r14, shallow_Boundary.r15, shallow_Boundary.r16, hwi]
        refine ⟨⟨i + 1, rfl, by omega, ?_⟩, by omega⟩
        rw [take_filter hlt, hcut, if_pos hany]
      · rw [w64_succ (by omega)]
        refine ⟨⟨k + 1, rfl, by omega, ?_⟩, by omega⟩
        rw [any_take hkl, hno]
        simpa using hm
    · obtain rfl : k = c.Parents.length := by omega
      rw [List.take_length] at hno
      rw [w64_succ (by omega)]
      refine ⟨⟨i + 1, rfl, by omega, ?_⟩, by omega⟩
      rw [take_filter hlt, hcut, hno, if_neg (by decide), List.append_nil]
  · obtain rfl : i = ns.length := by omega
    rw [hout, List.take_length]; rfl

theorem Extract_eq (l : List Commit) (ns : List Int) (hn : ns.length ≤ 9223372036854775807) : shallow_Extract.f l ns = some (if sFault l ns ≠ ⟨0, 0⟩ then ([], sFault l ns) else (ns.map (exc l ns), ⟨0, 0⟩)) := by
  refine retOf_of ?_
  unfold shallow_Extract.body
  simp only [W_seq, W_block, W_reg, W_cond, W_skip, W_ext, W_ret, opt_some, opt_bind, opt_ite, thenQ_nrm, thenQ_ext, thenQ_ret, blkQ_nrm, blkQ_ext, blkQ_ret, if_true, true_and, and_true, decide_eq_true_eq, decide_eq_false_iff_not, Bool.or_eq_true, Bool.and_eq_true, Bool.or_eq_false_iff, Bool.and_eq_false_iff, Bool.true_eq_false, not_or, Classical.not_not, Bool.not_eq_true', Bool.not_eq_false', Int.not_lt, Int.not_le, Bool.false_eq_true, false_implies, true_implies, and_self, not_true_eq_false, not_false_eq_true, shallow_Extract.retv, shallow_Extract.r0, shallow_Extract.r1, shallow_Extract.r2, shallow_Extract.r3, shallow_Extract.r4, shallow_Extract.r5, shallow_Extract.r6, shallow_Extract.r7, shallow_Extract.r8, shallow_Extract.r9, shallow_Extract.r10, shallow_Extract.r11, shallow_Extract.r12, shallow_Extract.r13, shallow_Extract.r14, shallow_Extract.r15, shallow_Extract.r16, shallow_Extract.r17, shallow_Extract.r18, shallow_Extract.r19, shallow_Extract.r20, check_eq l ns hn]
  refine ⟨fun h => by rw [if_pos h], fun h => ?_⟩
  have hS := sel_of h
  have hl60 := hS.hist.len
  have hnl := hS.len
  rw [if_neg (by simpa using h)]
  refine W_iter (fun s => s.commits_0 = l ∧ s.numbers_1 = ns ∧ s.t_23 = ns ∧ s.t_24 = ns.length ∧ ∃ i : Nat, s.t_25 = i ∧ i ≤ ns.length ∧ s.out_7 = (ns.take i).map (exc l ns)) (fun s => ns.length - s.t_25.toNat)
    ⟨rfl, rfl, rfl, rfl, 0, rfl, by omega, by simp⟩ ?_
  rintro s ⟨h0, h1, h21, h22, i, hi, hle, hout⟩
  simp only [W_seq, W_block, W_reg, W_cond, W_skip, W_ext, W_ret, opt_some, opt_bind, opt_ite, thenQ_nrm, thenQ_ext, thenQ_ret, blkQ_nrm, blkQ_ext, blkQ_ret, if_true, true_and, and_true, decide_eq_true_eq, decide_eq_false_iff_not, Bool.or_eq_true, Bool.and_eq_true, Bool.or_eq_false_iff, Bool.and_eq_false_iff, Bool.true_eq_false, not_or, Classical.not_not, Bool.not_eq_true', Bool.not_eq_false', Int.not_lt, Int.not_le, Bool.false_eq_true, false_implies, true_implies, and_self, not_true_eq_false, not_false_eq_true, shallow_Extract.retv, shallow_Extract.r0, shallow_Extract.r1, shallow_Extract.r2, shallow_Extract.r3, shallow_Extract.r4, shallow_Extract.r5, shallow_Extract.r6, shallow_Extract.r7, shallow_Extract.r8, shallow_Extract.r9, shallow_Extract.r10, shallow_Extract.r11, shallow_Extract.r12, shallow_Extract.r13, shallow_Extract.r14, shallow_Extract.r15, shallow_Extract.r16, shallow_Extract.r17, shallow_Extract.r18, shallow_Extract.r19, shallow_Extract.r20, h0, h1, h21, h22, hi]
  refine ⟨fun hlt => ?_, fun hge => ?_⟩
  · have hlt : i < ns.length := by omega
    have hin := hS.inr _ (List.getElem_mem hlt)
    obtain ⟨c, hc, hcl, hp⟩ := idx_par hin.1 hin.2
    have hpl := hS.hist.pars c (List.mem_of_getElem? hcl)
    refine opt_of (idx_nat' hlt) (opt_of hc ?_)
    have hex : exc l ns ns[i] = { c with Parents := (c.Parents.filter fun p => decide (p ∈ ns)).map fun p => (below ns p : Int) } := by unfold exc; rw [hcl]
    refine W_iter (fun s' => s'.commits_0 = l ∧ s'.numbers_1 = ns ∧ s'.t_23 = ns ∧ s'.t_24 = ns.length ∧ s'.t_25 = i ∧ s'.c_10 = c ∧ s'.t_34 = c.Parents ∧ s'.t_35 = c.Parents.length ∧ s'.out_7 = (ns.take i).map (exc l ns) ∧ ∃ k : Nat, s'.t_36 = k ∧ k ≤ c.Parents.length ∧ s'.parents_11 = ((c.Parents.take k).filter fun p => decide (p ∈ ns)).map fun p => (below ns p : Int)) (fun s' => c.Parents.length - s'.t_36.toNat)
      ⟨rfl, rfl, rfl, rfl, rfl, rfl, rfl, rfl, hout, 0, rfl, by omega, by simp⟩ ?_
    rintro s' ⟨h0, h1, h21, h22, h23, h9, h31, h32, hout, k, h33, hk, hpa⟩
    simp only [W_seq, W_block, W_reg, W_cond, W_skip, W_ext, W_ret, opt_some, opt_bind, opt_ite, thenQ_nrm, thenQ_ext, thenQ_ret, blkQ_nrm, blkQ_ext, blkQ_ret, if_true, true_and, and_true, decide_eq_true_eq, decide_eq_false_iff_not, Bool.or_eq_true, Bool.and_eq_true, Bool.or_eq_false_iff, Bool.and_eq_false_iff, Bool.true_eq_false, not_or, Classical.not_not, Bool.not_eq_true', Bool.not_eq_false', Int.not_lt, Int.not_le, Bool.false_eq_true, false_implies, true_implies, and_self, not_true_eq_false, not_false_eq_true, shallow_Extract.retv, shallow_Extract.r0, shallow_Extract.r1, shallow_Extract.r2, shallow_Extract.r3, shallow_Extract.r4, shallow_Extract.r5, shallow_Extract.r6, shallow_Extract.r7, shallow_Extract.r8, shallow_Extract.r9, shallow_Extract.r10, shallow_Extract.r11, shallow_Extract.r12, shallow_Extract.r13, shallow_Extract.r14, shallow_Extract.r15, shallow_Extract.r16, shallow_Extract.r17, shallow_Extract.r18, shallow_Extract.r19, shallow_Extract.r20, h0, h1, h21, h22, h23, h9, h31, h32, h33, hout, hpa, BinarySearch_eq ns _ (by omega) hS.inc]
    refine ⟨fun hkl => ?_, fun hkl => ?_⟩
    · have hkl : k < c.Parents.length := by omega
      have hfl : ((c.Parents.take k).filter fun p => decide (p ∈ ns)).length ≤ 3 := Nat.le_trans (List.length_filter_le _ _) (by rw [List.length_take]; omega)
      rw [w64_succ (by omega)]
      refine opt_of (idx_nat' hkl) ⟨fun hm => ?_, fun hm => ?_⟩
      · refine opt_of (appL_of (by simp only [List.length_cons, List.length_nil, List.length_map]; omega)) ?_
        refine ⟨⟨k + 1, rfl, by omega, ?_⟩, by omega⟩
        rw [take_filter hkl, if_pos (decide_eq_true hm), List.map_append]; rfl
      · refine ⟨⟨k + 1, rfl, by omega, ?_⟩, by omega⟩
        rw [take_filter hkl, if_neg (by simpa using hm), List.append_nil]
    · obtain rfl : k = c.Parents.length := by omega
      rw [w64_succ (by omega)]
      refine opt_of (appL_of (by simp only [List.length_cons, List.length_nil, List.length_map, List.length_take]; omega)) ?_
      refine ⟨⟨i + 1, rfl, by omega, ?_⟩, by omega⟩
      rw [take_map hlt, hex, List.take_length]
  · obtain rfl : i = ns.length := by omega
    rw [hout, List.take_length]
end Go.Proofs.Ytilodamhgepjoaa
