/- TransferRunMatchesSpec, the plain part. -/
import Derived.Test.YtpdkgodonemonaaPt4
import Derived.Test.YtpdkgodonemonaaOp
namespace Go.Proofs.Ytpdkgodonemonaa.Pure
open Go.Fx Go.RowKit
set_option linter.unusedVariables false
set_option linter.unusedSimpArgs false
theorem run_tail {data : List UInt8} {es : List LinkEvent} {b : List UInt8} {n : Int} {g : Fault} {x : Int × Int × Fault} (hd : data.length ≤ 4096) (he : es.length ≤ 200) (hv : runOf data es = (b, n, g)) (hx : ref4_TransferOf.f (cnt data : Int) es = some x) :
    (¬ x.2.2.Code = 0 → (decide (g = x.2.2) && decide (w64 ((b.length : Int) + n) = 0)) = true) ∧ (x.2.2.Code = 0 → (g.Code = 0 ∧ n = x.2.1) ∧ cutTo data (min (data.length : Int) (w64 (16 * x.1))) = some b) := by
  have hcl := chunks_len data
  have hcm : cnt data ≤ 256 := by unfold cnt; omega
  have hT := TransferOf_eq (chunks 16 data) es (by omega) he
  rw [hcl, hx] at hT
  have hT := Option.some.inj hT
  obtain ⟨o, L, hS⟩ : ∃ o L, simF (link0 (chunks 16 data)) 0 es = (o, L) := ⟨_, _, rfl⟩
  rw [hS] at hT
  unfold runOf at hv
  rw [hS] at hv
  cases o with
  | some f =>
    have hc := simF_code hS
    simp only [Prod.mk.injEq] at hv hT
    obtain ⟨h1, h2, h3⟩ := hv
    subst h1; subst h2; subst h3
    subst hT
    exact ⟨fun _ => by simp [w64_id], fun h => absurd h hc⟩
  | none =>
    have hL := (simF_none (LI.zero _) hS).1
    obtain ⟨fr, sl, al, k0, kc, cm, sm, am⟩ := hL
    rw [hcl] at cm
    simp only [Prod.mk.injEq] at hv hT
    obtain ⟨h1, h2, h3⟩ := hv
    subst h1; subst h2; subst h3
    subst hT
    obtain ⟨c, hc⟩ : ∃ c : Nat, L.count = c := ⟨L.count.toNat, by omega⟩
    refine ⟨fun h => absurd rfl h, fun _ => ⟨⟨rfl, rfl⟩, ?_⟩⟩
    show cutTo data (min (data.length : Int) (w64 (16 * L.count))) = _
    rw [hc, w64_id (by omega) (by omega), show min (data.length : Int) (16 * (c : Int)) = ((min data.length (16 * c) : Nat) : Int) by omega, cutTo_nat (by omega)]
    congr 1
    rw [Int.toNat_natCast]
    by_cases h : 16 * c ≤ data.length
    · rw [Nat.min_eq_right h]
    · rw [Nat.min_eq_left (by omega), List.take_of_length_le (Nat.le_refl _), List.take_of_length_le (by omega)]
theorem TransferRunMatchesSpec {data : List UInt8} {es : List LinkEvent} (h1 : okL (fun _ => True) data) (h2 : okL ok_LinkEvent es) : law4_TransferRunMatchesSpec.f data es = some true := by
  refine retOf_of ?_
  unfold law4_TransferRunMatchesSpec.body
  by_cases hd : data.length ≤ 4096
  · have hcl := chunks_len data
    have hcm : cnt data ≤ 256 := by unfold cnt; omega
    have hcn : cnt data ≤ data.length := by unfold cnt; omega
    obtain ⟨b, n, g, hR, hs, hl⟩ : ∃ b n g, transfer_Run.f data es = some (b, n, g) ∧ (es.length ≤ 200 → runOf data es = (b, n, g)) ∧ (200 < es.length → b = [] ∧ n = 0 ∧ g = ⟨2, -2⟩) := by
      by_cases he : es.length ≤ 200
      · exact ⟨_, _, _, Run_eq data es hd he, fun _ => rfl, fun h => by omega⟩
      · exact ⟨_, _, _, Run_many data es hd (by omega), fun h => by omega, fun _ => ⟨rfl, rfl, rfl⟩⟩
    obtain ⟨x, hX⟩ : ∃ x, es.length ≤ 200 → ref4_TransferOf.f (cnt data : Int) es = some x := ⟨_, fun he => by have := TransferOf_eq (chunks 16 data) es (by omega) he; rw [hcl] at this; exact this⟩
    have hX1 := fun he => (run_tail hd he (hs he) (hX he)).1
    have hX2 := fun he => (run_tail hd he (hs he) (hX he)).2
    have hl1 := fun h => (hl h).1
    have hl2 := fun h => (hl h).2.1
    have hl3 := fun h => (hl h).2.2
    clear hl hs
    simp only [W_none, W_seq, W_block, W_reg, W_cond, W_skip, W_ext, W_ret, opt_some, opt_bind, opt_ite, thenQ_nrm, thenQ_ext, thenQ_ret, blkQ_nrm, blkQ_ext, blkQ_ret, if_true, true_and, and_true, decide_eq_true_eq, decide_eq_false_iff_not, Bool.or_eq_true, Bool.and_eq_true, Bool.or_eq_false_iff, Bool.and_eq_false_iff, Bool.true_eq_false, not_or, Classical.not_not, Bool.not_eq_true', Bool.not_eq_false', Int.not_lt, Int.not_le, Bool.false_eq_true, false_implies, true_implies, and_self, not_true_eq_false, not_false_eq_true, law4_TransferRunMatchesSpec.retv, law4_TransferRunMatchesSpec.r0, law4_TransferRunMatchesSpec.r1, law4_TransferRunMatchesSpec.r2, law4_TransferRunMatchesSpec.r3, law4_TransferRunMatchesSpec.r4, law4_TransferRunMatchesSpec.r5, law4_TransferRunMatchesSpec.r6, law4_TransferRunMatchesSpec.r7, law4_TransferRunMatchesSpec.r8, law4_TransferRunMatchesSpec.r9, law4_TransferRunMatchesSpec.r10, law4_TransferRunMatchesSpec.r11, law4_TransferRunMatchesSpec.r13, law4_TransferRunMatchesSpec.r14, law4_TransferRunMatchesSpec.r12, law4_TransferRunMatchesSpec.r15, law4_TransferRunMatchesSpec.r16, law4_TransferRunMatchesSpec.r17, law4_TransferRunMatchesSpec.r18, law4_TransferRunMatchesSpec.r19, law4_TransferRunMatchesSpec.r20, law4_TransferRunMatchesSpec.r21, law4_TransferRunMatchesSpec.r22, example_eq, Frames_eq data hd, hR, FrameCount_eq data hd, Fault_eq, Bool.not_true]
    refine ⟨fun h => by omega, fun _ => ?_⟩
    refine ⟨fun h => by omega, fun _ => ?_⟩
    refine W_iter (fun s => s.t_0 = data ∧ s.t_1 = es ∧ s.t_5 = chunks 16 data ∧ s.t_7 = b ∧ s.t_8 = n ∧ s.t_9 = g ∧ ∃ i : Nat, s.t_11 = i ∧ i ≤ cnt data) (fun s => cnt data - s.t_11.toNat) ⟨rfl, rfl, rfl, rfl, rfl, rfl, 0, rfl, by omega⟩ ?_
    rintro s ⟨e0, e1, e5, e7, e8, e9, i, e11, hi⟩
    simp only [W_none, W_seq, W_block, W_reg, W_cond, W_skip, W_ext, W_ret, opt_some, opt_bind, opt_ite, thenQ_nrm, thenQ_ext, thenQ_ret, blkQ_nrm, blkQ_ext, blkQ_ret, if_true, true_and, and_true, decide_eq_true_eq, decide_eq_false_iff_not, Bool.or_eq_true, Bool.and_eq_true, Bool.or_eq_false_iff, Bool.and_eq_false_iff, Bool.true_eq_false, not_or, Classical.not_not, Bool.not_eq_true', Bool.not_eq_false', Int.not_lt, Int.not_le, Bool.false_eq_true, false_implies, true_implies, and_self, not_true_eq_false, not_false_eq_true, law4_TransferRunMatchesSpec.retv, law4_TransferRunMatchesSpec.r0, law4_TransferRunMatchesSpec.r1, law4_TransferRunMatchesSpec.r2, law4_TransferRunMatchesSpec.r3, law4_TransferRunMatchesSpec.r4, law4_TransferRunMatchesSpec.r5, law4_TransferRunMatchesSpec.r6, law4_TransferRunMatchesSpec.r7, law4_TransferRunMatchesSpec.r8, law4_TransferRunMatchesSpec.r9, law4_TransferRunMatchesSpec.r10, law4_TransferRunMatchesSpec.r11, law4_TransferRunMatchesSpec.r13, law4_TransferRunMatchesSpec.r14, law4_TransferRunMatchesSpec.r12, law4_TransferRunMatchesSpec.r15, law4_TransferRunMatchesSpec.r16, law4_TransferRunMatchesSpec.r17, law4_TransferRunMatchesSpec.r18, law4_TransferRunMatchesSpec.r19, law4_TransferRunMatchesSpec.r20, law4_TransferRunMatchesSpec.r21, law4_TransferRunMatchesSpec.r22, e0, e1, e5, e7, e8, e9, e11, Fault_eq, hcl]
    refine ⟨fun hlt => ?_, fun hge => ?_⟩
    · have hlt : i < cnt data := by omega
      have hlt' : i < (chunks 16 data).length := by omega
      have hg := chunks_get data hlt
      rw [List.getElem?_eq_getElem hlt'] at hg
      refine opt_of (idx_nat' hlt') (opt_of (FrameOf_eq data hlt hd) ⟨fun h => absurd (by rw [Option.some.inj hg]) h, fun _ => ?_⟩)
      rw [w64_succ (by omega)]
      exact ⟨⟨i + 1, rfl, by omega⟩, by omega⟩
    · refine ⟨fun h => ?_, fun h => ?_⟩
      · have h' : 200 < es.length := by omega
        rw [hl1 h', hl2 h', hl3 h']
        refine ⟨fun _ => ?_, fun h => by omega⟩
        simp [w64_id]
      · have he : es.length ≤ 200 := by omega
        refine opt_of (hX he) ⟨fun h => by rw [hX1 he h], fun h => ?_⟩
        refine ⟨fun _ => ?_, fun h' => absurd (hX2 he h).1 h'⟩
        exact opt_of (hX2 he h).2 (by simp)
  · simp only [W_none, W_seq, W_block, W_reg, W_cond, W_skip, W_ext, W_ret, opt_some, opt_bind, opt_ite, thenQ_nrm, thenQ_ext, thenQ_ret, blkQ_nrm, blkQ_ext, blkQ_ret, if_true, true_and, and_true, decide_eq_true_eq, decide_eq_false_iff_not, Bool.or_eq_true, Bool.and_eq_true, Bool.or_eq_false_iff, Bool.and_eq_false_iff, Bool.true_eq_false, not_or, Classical.not_not, Bool.not_eq_true', Bool.not_eq_false', Int.not_lt, Int.not_le, Bool.false_eq_true, false_implies, true_implies, and_self, not_true_eq_false, not_false_eq_true, law4_TransferRunMatchesSpec.retv, law4_TransferRunMatchesSpec.r0, law4_TransferRunMatchesSpec.r1, law4_TransferRunMatchesSpec.r2, law4_TransferRunMatchesSpec.r3, law4_TransferRunMatchesSpec.r4, law4_TransferRunMatchesSpec.r5, law4_TransferRunMatchesSpec.r6, law4_TransferRunMatchesSpec.r7, law4_TransferRunMatchesSpec.r8, law4_TransferRunMatchesSpec.r9, law4_TransferRunMatchesSpec.r10, law4_TransferRunMatchesSpec.r11, law4_TransferRunMatchesSpec.r13, law4_TransferRunMatchesSpec.r14, law4_TransferRunMatchesSpec.r12, law4_TransferRunMatchesSpec.r15, law4_TransferRunMatchesSpec.r16, law4_TransferRunMatchesSpec.r17, law4_TransferRunMatchesSpec.r18, law4_TransferRunMatchesSpec.r19, law4_TransferRunMatchesSpec.r20, law4_TransferRunMatchesSpec.r21, law4_TransferRunMatchesSpec.r22, example_eq, Frames_big data (by omega), Run_big data es (by omega), Fault_eq, Bool.not_true]
    exact ⟨fun _ => by simp [w64_id], fun h => by omega⟩
end Go.Proofs.Ytpdkgodonemonaa.Pure
