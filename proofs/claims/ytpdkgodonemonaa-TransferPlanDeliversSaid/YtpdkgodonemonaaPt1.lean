/- Frames, and what small functions come to. -/
import Derived.Test.YtpdkgodonemonaaPA
import Derived.Test.YtpdkgodonemonaaFx11
namespace Go.Proofs.Ytpdkgodonemonaa
open Go.Fx
set_option linter.unusedVariables false
set_option linter.unusedSimpArgs false

theorem idx_nat' {α : Type} {xs : List α} {i : Nat} (h : i < xs.length) : idx xs (i : Int) = some (xs[i]'h) := idx_of_lt h
theorem w64_succ {i : Nat} (h : i < 9223372036854775807) : w64 ((i : Int) + 1) = ((i + 1 : Nat) : Int) := by
  rw [w64_id (by omega) (by omega)]; omega
theorem cutTo_nat {α : Type} {xs : List α} {n : Nat} (h : n ≤ xs.length) : cutTo xs (n : Int) = some (xs.take n) := by
  unfold cutTo; rw [if_pos ⟨by omega, by omega⟩]; simp
theorem cutFrom_nat {α : Type} {xs : List α} {n : Nat} (h : n ≤ xs.length) : cutFrom xs (n : Int) = some (xs.drop n) := by
  unfold cutFrom; rw [if_pos ⟨by omega, by omega⟩]; simp
theorem Fault_eq (a b : Int) : ref3_Fault.f a b = some ⟨a, b⟩ := rfl
theorem In_eq (n lo hi : Int) : ref3_In.f n lo hi = some (decide (lo ≤ n ∧ n ≤ hi)) := by
  show some (decide (lo ≤ n) && decide (n ≤ hi)) = _
  rw [Bool.decide_and]
/-- How many frames. -/
def cnt (data : List UInt8) : Nat := (data.length + 15) / 16
theorem FrameCount_eq (data : List UInt8) (h : data.length ≤ 4096) : ref4_FrameCount.f data = some (cnt data : Int) := by
  show some (w64 (Int.tdiv (w64 (w64 ((data.length : Int) + (16 : Int)) - (1 : Int))) (16 : Int))) = _
  rw [w64_id (n := (data.length : Int) + 16) (by omega) (by omega), w64_id (n := (data.length : Int) + 16 - 1) (by omega) (by omega), Int.tdiv_eq_ediv_of_nonneg (by omega), w64_id (by omega) (by omega)]
  unfold cnt
  congr 1
  omega
theorem chunks_len (data : List UInt8) : (chunks 16 data).length = cnt data := by simp [chunks, cnt]
theorem chunks_get (data : List UInt8) {i : Nat} (h : i < cnt data) : (chunks 16 data)[i]? = some ((data.drop (i * 16)).take 16) := by
  have h' : i < (data.length + 16 - 1) / 16 := h
  unfold chunks
  rw [List.getElem?_map, List.getElem?_range h']
  rfl
theorem FrameOf_eq (data : List UInt8) {i : Nat} (h : i < cnt data) (hl : data.length ≤ 4096) : ref4_FrameOf.f data (i : Int) = some ((data.drop (i * 16)).take 16) := by
  have h' : i * 16 < data.length := by unfold cnt at h; omega
  have e1 : w64 ((16 : Int) * (i : Int)) = ((i * 16 : Nat) : Int) := by rw [w64_id (by omega) (by omega)]; omega
  have e2 : w64 (((i * 16 : Nat) : Int) + 16) = ((i * 16 + 16 : Nat) : Int) := by rw [w64_id (by omega) (by omega)]; omega
  refine retOf_of ?_
  unfold ref4_FrameOf.body
  simp only [W_none, W_seq, W_block, W_reg, W_cond, W_skip, W_ext, W_ret, opt_some, opt_bind, opt_ite, thenQ_nrm, thenQ_ext, thenQ_ret, blkQ_nrm, blkQ_ext, blkQ_ret, if_true, true_and, and_true, decide_eq_true_eq, decide_eq_false_iff_not, Bool.or_eq_true, Bool.and_eq_true, Bool.or_eq_false_iff, Bool.and_eq_false_iff, Bool.true_eq_false, not_or, Classical.not_not, Bool.not_eq_true', Bool.not_eq_false', Int.not_lt, Int.not_le, Bool.false_eq_true, false_implies, true_implies, and_self, not_true_eq_false, not_false_eq_true, ref4_FrameOf.retv, ref4_FrameOf.r0, ref4_FrameOf.r1, e1, e2]
  refine opt_of (x := (data.drop (i * 16)).take 16) ?_ rfl
  unfold cutL
  rw [if_pos ⟨by omega, by omega, by omega⟩]
  congr 1
  rw [Int.toNat_natCast]
  by_cases hm : i * 16 + 16 ≤ data.length
  · congr 1; omega
  · rw [List.take_of_length_le (by rw [List.length_drop]; omega), List.take_of_length_le (by rw [List.length_drop]; omega)]
theorem chunks_flat (data : List UInt8) : ∀ c : Nat, c ≤ cnt data → ((chunks 16 data).take c).flatten = data.take (16 * c)
  | 0, _ => by simp
  | c + 1, h => by
    have hc : c < (chunks 16 data).length := by rw [chunks_len]; omega
    have hg := chunks_get data (i := c) (by omega)
    rw [List.getElem?_eq_getElem hc] at hg
    rw [List.take_succ_eq_append_getElem hc, List.flatten_append, chunks_flat data c (by omega), Option.some.inj hg]
    simp only [List.flatten_cons, List.flatten_nil, List.append_nil]
    rw [show 16 * (c + 1) = 16 * c + 16 by omega, List.take_add, Nat.mul_comm c 16]
theorem chunks_sum {data : List UInt8} {x : List UInt8} (h : x ∈ chunks 16 data) : x.length ≤ 16 := by
  simp only [chunks, List.mem_map] at h
  obtain ⟨j, _, rfl⟩ := h
  rw [List.length_take]; omega
theorem Frames_big (data : List UInt8) (h : 4096 < data.length) : transfer_Frames.f data = some ([], ⟨2, -1⟩) := by
  refine retOf_of ?_
  unfold transfer_Frames.body
  simp only [W_none, W_seq, W_block, W_reg, W_cond, W_skip, W_ext, W_ret, opt_some, opt_bind, opt_ite, thenQ_nrm, thenQ_ext, thenQ_ret, blkQ_nrm, blkQ_ext, blkQ_ret, if_true, true_and, and_true, decide_eq_true_eq, decide_eq_false_iff_not, Bool.or_eq_true, Bool.and_eq_true, Bool.or_eq_false_iff, Bool.and_eq_false_iff, Bool.true_eq_false, not_or, Classical.not_not, Bool.not_eq_true', Bool.not_eq_false', Int.not_lt, Int.not_le, Bool.false_eq_true, false_implies, true_implies, and_self, not_true_eq_false, not_false_eq_true, transfer_Frames.retv, transfer_Frames.r0, transfer_Frames.r1, transfer_Frames.r2, transfer_Frames.r3, transfer_Frames.r4, transfer_Frames.r5, transfer_Frames.r6, transfer_Frames.r7]
  exact ⟨fun _ => trivial, fun h' => by omega⟩
theorem Frames_eq (data : List UInt8) (h : data.length ≤ 4096) : transfer_Frames.f data = some (chunks 16 data, ⟨0, 0⟩) := by
  refine retOf_of ?_
  unfold transfer_Frames.body
  have hC : Chunk.f data (16 : Int) = some (chunks 16 data) := by unfold Chunk.f; rw [if_pos ⟨by decide, by omega⟩]; rfl
  simp only [W_none, W_seq, W_block, W_reg, W_cond, W_skip, W_ext, W_ret, opt_some, opt_bind, opt_ite, thenQ_nrm, thenQ_ext, thenQ_ret, blkQ_nrm, blkQ_ext, blkQ_ret, if_true, true_and, and_true, decide_eq_true_eq, decide_eq_false_iff_not, Bool.or_eq_true, Bool.and_eq_true, Bool.or_eq_false_iff, Bool.and_eq_false_iff, Bool.true_eq_false, not_or, Classical.not_not, Bool.not_eq_true', Bool.not_eq_false', Int.not_lt, Int.not_le, Bool.false_eq_true, false_implies, true_implies, and_self, not_true_eq_false, not_false_eq_true, transfer_Frames.retv, transfer_Frames.r0, transfer_Frames.r1, transfer_Frames.r2, transfer_Frames.r3, transfer_Frames.r4, transfer_Frames.r5, transfer_Frames.r6, transfer_Frames.r7, hC]
  refine ⟨fun h' => absurd h' (by omega), fun _ => ?_⟩
  rw [W_range]
  have hn : cnt data ≤ 256 := by unfold cnt; omega
  have hl := chunks_len data
  refine W_forL (fun k s => s.out_4 = (chunks 16 data).take k) (by simp) (fun k x s hx hI => ?_) (fun s hI => ?_)
  · have hk : k < (chunks 16 data).length := (List.getElem?_eq_some_iff.1 hx).1
    have hx16 := chunks_sum (List.mem_of_getElem? hx)
    have hCl : Clone.f x = some x := by unfold Clone.f; rw [if_pos (by omega)]
    simp only [W_none, W_seq, W_block, W_reg, W_cond, W_skip, W_ext, W_ret, opt_some, opt_bind, opt_ite, thenQ_nrm, thenQ_ext, thenQ_ret, blkQ_nrm, blkQ_ext, blkQ_ret, if_true, true_and, and_true, decide_eq_true_eq, decide_eq_false_iff_not, Bool.or_eq_true, Bool.and_eq_true, Bool.or_eq_false_iff, Bool.and_eq_false_iff, Bool.true_eq_false, not_or, Classical.not_not, Bool.not_eq_true', Bool.not_eq_false', Int.not_lt, Int.not_le, Bool.false_eq_true, false_implies, true_implies, and_self, not_true_eq_false, not_false_eq_true, transfer_Frames.retv, transfer_Frames.r0, transfer_Frames.r1, transfer_Frames.r2, transfer_Frames.r3, transfer_Frames.r4, transfer_Frames.r5, transfer_Frames.r6, transfer_Frames.r7, hCl, hI]
    rw [appL_of (by rw [List.length_take]; simp only [List.length_cons, List.length_nil]; omega), opt_some]
    rw [List.take_succ_eq_append_getElem hk]
    rw [List.getElem?_eq_getElem hk] at hx
    rw [Option.some.inj hx]
  · simp only [W_none, W_seq, W_block, W_reg, W_cond, W_skip, W_ext, W_ret, opt_some, opt_bind, opt_ite, thenQ_nrm, thenQ_ext, thenQ_ret, blkQ_nrm, blkQ_ext, blkQ_ret, if_true, true_and, and_true, decide_eq_true_eq, decide_eq_false_iff_not, Bool.or_eq_true, Bool.and_eq_true, Bool.or_eq_false_iff, Bool.and_eq_false_iff, Bool.true_eq_false, not_or, Classical.not_not, Bool.not_eq_true', Bool.not_eq_false', Int.not_lt, Int.not_le, Bool.false_eq_true, false_implies, true_implies, and_self, not_true_eq_false, not_false_eq_true, transfer_Frames.retv, transfer_Frames.r0, transfer_Frames.r1, transfer_Frames.r2, transfer_Frames.r3, transfer_Frames.r4, transfer_Frames.r5, transfer_Frames.r6, transfer_Frames.r7, hI]
    show Ctl.ret (List.take (chunks 16 data).length (chunks 16 data), _) = _
    rw [List.take_length]
theorem Concat_eq (xs : List (List UInt8)) (hx : ∀ x ∈ xs, x.length ≤ 16) (hl : xs.length ≤ 256) : slices_Concat_byte_byte.f xs = some xs.flatten := by
  have hfl : ∀ n, ((xs.take n).flatten).length ≤ 16 * n := by
    intro n
    induction n with
    | zero => simp
    | succ n ih =>
      by_cases hn : n < xs.length
      · rw [List.take_succ_eq_append_getElem hn, List.flatten_append, List.length_append]
        have := hx xs[n] (List.getElem_mem hn)
        simp only [List.flatten_cons, List.flatten_nil, List.append_nil]
        omega
      · rw [List.take_of_length_le (by omega)] at ih ⊢
        omega
  have hstep : ∀ i (hi : i < xs.length), (xs.take (i + 1)).flatten = (xs.take i).flatten ++ xs[i] := fun i hi => by
    rw [List.take_succ_eq_append_getElem hi, List.flatten_append]; simp
  refine retOf_of ?_
  unfold slices_Concat_byte_byte.body
  simp only [W_none, W_seq, W_block, W_reg, W_cond, W_skip, W_ext, W_ret, opt_some, opt_bind, opt_ite, thenQ_nrm, thenQ_ext, thenQ_ret, blkQ_nrm, blkQ_ext, blkQ_ret, if_true, true_and, and_true, decide_eq_true_eq, decide_eq_false_iff_not, Bool.or_eq_true, Bool.and_eq_true, Bool.or_eq_false_iff, Bool.and_eq_false_iff, Bool.true_eq_false, not_or, Classical.not_not, Bool.not_eq_true', Bool.not_eq_false', Int.not_lt, Int.not_le, Bool.false_eq_true, false_implies, true_implies, and_self, not_true_eq_false, not_false_eq_true, slices_Concat_byte_byte.retv, slices_Concat_byte_byte.r0, slices_Concat_byte_byte.r1, slices_Concat_byte_byte.r2, slices_Concat_byte_byte.r3, slices_Concat_byte_byte.r4, slices_Concat_byte_byte.r5, slices_Concat_byte_byte.r6, slices_Concat_byte_byte.r7, slices_Concat_byte_byte.r8, slices_Concat_byte_byte.r9, slices_Concat_byte_byte.r10, slices_Concat_byte_byte.r11, slices_Concat_byte_byte.r12, slices_Concat_byte_byte.r13, slices_Concat_byte_byte.r14, slices_Concat_byte_byte.r15]
  refine W_iter (fun s => s.slices_0 = xs ∧ s.t_9 = xs ∧ s.t_10 = (xs.length : Int) ∧ ∃ i : Nat, s.t_11 = i ∧ i ≤ xs.length ∧ s.size_3 = (((xs.take i).flatten).length : Int)) (fun s => xs.length - s.t_11.toNat) ⟨rfl, rfl, rfl, 0, rfl, by omega, by simp⟩ ?_
  rintro s ⟨e0, e9, e10, i, e11, hi, e3⟩
  simp only [W_none, W_seq, W_block, W_reg, W_cond, W_skip, W_ext, W_ret, opt_some, opt_bind, opt_ite, thenQ_nrm, thenQ_ext, thenQ_ret, blkQ_nrm, blkQ_ext, blkQ_ret, if_true, true_and, and_true, decide_eq_true_eq, decide_eq_false_iff_not, Bool.or_eq_true, Bool.and_eq_true, Bool.or_eq_false_iff, Bool.and_eq_false_iff, Bool.true_eq_false, not_or, Classical.not_not, Bool.not_eq_true', Bool.not_eq_false', Int.not_lt, Int.not_le, Bool.false_eq_true, false_implies, true_implies, and_self, not_true_eq_false, not_false_eq_true, slices_Concat_byte_byte.retv, slices_Concat_byte_byte.r0, slices_Concat_byte_byte.r1, slices_Concat_byte_byte.r2, slices_Concat_byte_byte.r3, slices_Concat_byte_byte.r4, slices_Concat_byte_byte.r5, slices_Concat_byte_byte.r6, slices_Concat_byte_byte.r7, slices_Concat_byte_byte.r8, slices_Concat_byte_byte.r9, slices_Concat_byte_byte.r10, slices_Concat_byte_byte.r11, slices_Concat_byte_byte.r12, slices_Concat_byte_byte.r13, slices_Concat_byte_byte.r14, slices_Concat_byte_byte.r15, e0, e9, e10, e11, e3]
  refine ⟨fun hlt => ?_, fun hge => ?_⟩
  · have hlt : i < xs.length := by omega
    refine opt_of (idx_nat' hlt) ?_
    have e : w64 ((((xs.take i).flatten).length : Int) + ((xs[i]).length : Int)) = (((xs.take (i + 1)).flatten).length : Int) := by
      have h1 := hfl (i + 1)
      rw [hstep i hlt] at h1 ⊢
      rw [List.length_append] at h1 ⊢
      rw [w64_id (by omega) (by omega)]; omega
    rw [e]
    refine ⟨fun h => absurd h (by omega), fun _ => ?_⟩
    rw [w64_succ (by omega)]
    exact ⟨⟨i + 1, rfl, by omega, rfl⟩, by omega⟩
  · have hie : i = xs.length := by omega
    subst hie
    have hG : Grow.f [] (((xs.take xs.length).flatten).length : Int) = some [] := by
      unfold Grow.f
      have := hfl xs.length
      rw [if_pos ⟨rfl, by omega, by omega⟩]
    simp only [hG, W_none, W_seq, W_block, W_reg, W_cond, W_skip, W_ext, W_ret, opt_some, opt_bind, opt_ite, thenQ_nrm, thenQ_ext, thenQ_ret, blkQ_nrm, blkQ_ext, blkQ_ret, if_true, true_and, and_true, decide_eq_true_eq, decide_eq_false_iff_not, Bool.or_eq_true, Bool.and_eq_true, Bool.or_eq_false_iff, Bool.and_eq_false_iff, Bool.true_eq_false, not_or, Classical.not_not, Bool.not_eq_true', Bool.not_eq_false', Int.not_lt, Int.not_le, Bool.false_eq_true, false_implies, true_implies, and_self, not_true_eq_false, not_false_eq_true]
    refine W_iter (fun s => s.t_25 = xs ∧ s.t_26 = (xs.length : Int) ∧ ∃ i : Nat, s.t_27 = i ∧ i ≤ xs.length ∧ s.newslice_6 = (xs.take i).flatten) (fun s => xs.length - s.t_27.toNat) ⟨rfl, rfl, 0, rfl, by omega, by simp⟩ ?_
    rintro s ⟨e25, e26, i, e27, hi, e6⟩
    simp only [W_none, W_seq, W_block, W_reg, W_cond, W_skip, W_ext, W_ret, opt_some, opt_bind, opt_ite, thenQ_nrm, thenQ_ext, thenQ_ret, blkQ_nrm, blkQ_ext, blkQ_ret, if_true, true_and, and_true, decide_eq_true_eq, decide_eq_false_iff_not, Bool.or_eq_true, Bool.and_eq_true, Bool.or_eq_false_iff, Bool.and_eq_false_iff, Bool.true_eq_false, not_or, Classical.not_not, Bool.not_eq_true', Bool.not_eq_false', Int.not_lt, Int.not_le, Bool.false_eq_true, false_implies, true_implies, and_self, not_true_eq_false, not_false_eq_true, slices_Concat_byte_byte.retv, slices_Concat_byte_byte.r0, slices_Concat_byte_byte.r1, slices_Concat_byte_byte.r2, slices_Concat_byte_byte.r3, slices_Concat_byte_byte.r4, slices_Concat_byte_byte.r5, slices_Concat_byte_byte.r6, slices_Concat_byte_byte.r7, slices_Concat_byte_byte.r8, slices_Concat_byte_byte.r9, slices_Concat_byte_byte.r10, slices_Concat_byte_byte.r11, slices_Concat_byte_byte.r12, slices_Concat_byte_byte.r13, slices_Concat_byte_byte.r14, slices_Concat_byte_byte.r15, e25, e26, e27, e6]
    refine ⟨fun hlt => ?_, fun hge => ?_⟩
    · have hlt : i < xs.length := by omega
      refine opt_of (idx_nat' hlt) ?_
      have h1 := hfl (i + 1)
      rw [hstep i hlt, List.length_append] at h1
      rw [appL_of (by omega), opt_some, ← hstep i hlt, w64_succ (by omega)]
      exact ⟨⟨i + 1, rfl, by omega, rfl⟩, by omega⟩
    · have hie : i = xs.length := by omega
      subst hie
      rw [List.take_length]
end Go.Proofs.Ytpdkgodonemonaa
