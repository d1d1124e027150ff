/- A plan: the program's and the reference's; that its events are accepted; the example. -/
import Derived.Test.YtpdkgodonemonaaPt3
namespace Go.Proofs.Ytpdkgodonemonaa
open Go.Fx
set_option linter.unusedVariables false
set_option linter.unusedSimpArgs false

def evLost : List LinkEvent := [⟨1, 0⟩, ⟨3, 0⟩]
def evGood : List LinkEvent := [⟨1, 0⟩, ⟨2, 0⟩, ⟨5, 0⟩]
/-- A plan for m frames, d of them delivered, at the try t, behind the events out. -/
def planF (m : Nat) (lost : List Bool) : Nat → Nat → Nat → List LinkEvent → List LinkEvent × Bool
  | 0, _, _, out => (out, false)
  | n + 1, t, d, out =>
    if d < m then
      if lost.getD t false = true then (if 198 < out.length then (out, false) else planF m lost n (t + 1) d (out ++ evLost))
      else (if 197 < out.length then (out, false) else planF m lost n (t + 1) (d + 1) (out ++ evGood))
    else (out, true)
def planOf (m : Nat) (lost : List Bool) : List LinkEvent × Bool := planF m lost 102 0 0 []
theorem lost_br {lost : List Bool} {t : Nat} {A G : Prop} (hA : lost.getD t false = true → A) (hG : lost.getD t false = false → G) : ((t : Int) < (lost.length : Int) → Opt (idx lost (t : Int)) fun x => (x = true → A) ∧ (x = false → G)) ∧ ((lost.length : Int) ≤ (t : Int) → G) := by
  refine ⟨fun h => ?_, fun h => ?_⟩
  · have h : t < lost.length := by omega
    have hg : lost.getD t false = lost[t] := by simp [List.getD, List.getElem?_eq_getElem h]
    rw [hg] at hA hG
    exact opt_of (idx_nat' h) ⟨hA, hG⟩
  · exact hG (by simp [List.getD, List.getElem?_eq_none (by omega : lost.length ≤ t)])
theorem PlanOf_eq (m : Nat) (lost : List Bool) (hm : m ≤ 256) (hl : lost.length ≤ 100) : ref4_PlanOf.f (m : Int) lost = some (planOf m lost) := by
  refine retOf_of ?_
  unfold ref4_PlanOf.body
  simp only [W_none, W_seq, W_block, W_reg, W_cond, W_skip, W_ext, W_ret, opt_some, opt_bind, opt_ite, thenQ_nrm, thenQ_ext, thenQ_ret, blkQ_nrm, blkQ_ext, blkQ_ret, if_true, true_and, and_true, decide_eq_true_eq, decide_eq_false_iff_not, Bool.or_eq_true, Bool.and_eq_true, Bool.or_eq_false_iff, Bool.and_eq_false_iff, Bool.true_eq_false, not_or, Classical.not_not, Bool.not_eq_true', Bool.not_eq_false', Int.not_lt, Int.not_le, Bool.false_eq_true, false_implies, true_implies, and_self, not_true_eq_false, not_false_eq_true, ref4_PlanOf.retv, ref4_PlanOf.r0, ref4_PlanOf.r1, ref4_PlanOf.r2, ref4_PlanOf.r3, ref4_PlanOf.r4, ref4_PlanOf.r6, ref4_PlanOf.r7, ref4_PlanOf.r8, ref4_PlanOf.r9, ref4_PlanOf.r10, ref4_PlanOf.r11, ref4_PlanOf.r12, ref4_PlanOf.r13, ref4_PlanOf.r5, ref4_PlanOf.r14]
  refine W_iter (fun s => s.frames_0 = (m : Int) ∧ s.lost_1 = lost ∧ ∃ n t d : Nat, s.try_7 = t ∧ s.sent_8 = d ∧ t ≤ s.out_6.length ∧ d ≤ m ∧ s.out_6.length ≤ 200 ∧ 204 ≤ s.out_6.length + 2 * n ∧ planOf m lost = planF m lost n t d s.out_6) (fun s => 300 - s.out_6.length)
    ⟨rfl, rfl, 102, 0, 0, rfl, rfl, by simp, by omega, by simp, by simp, rfl⟩ ?_
  rintro s ⟨e0, e1, n, t, d, e7, e8, ht, hd, hb, hn, hP⟩
  obtain ⟨n, rfl⟩ : ∃ k, n = k + 1 := ⟨n - 1, by omega⟩
  simp only [planF] at hP
  generalize hout : s.out_6 = out at *
  simp only [W_none, W_seq, W_block, W_reg, W_cond, W_skip, W_ext, W_ret, opt_some, opt_bind, opt_ite, thenQ_nrm, thenQ_ext, thenQ_ret, blkQ_nrm, blkQ_ext, blkQ_ret, if_true, true_and, and_true, decide_eq_true_eq, decide_eq_false_iff_not, Bool.or_eq_true, Bool.and_eq_true, Bool.or_eq_false_iff, Bool.and_eq_false_iff, Bool.true_eq_false, not_or, Classical.not_not, Bool.not_eq_true', Bool.not_eq_false', Int.not_lt, Int.not_le, Bool.false_eq_true, false_implies, true_implies, and_self, not_true_eq_false, not_false_eq_true, ref4_PlanOf.retv, ref4_PlanOf.r0, ref4_PlanOf.r1, ref4_PlanOf.r2, ref4_PlanOf.r3, ref4_PlanOf.r4, ref4_PlanOf.r6, ref4_PlanOf.r7, ref4_PlanOf.r8, ref4_PlanOf.r9, ref4_PlanOf.r10, ref4_PlanOf.r11, ref4_PlanOf.r12, ref4_PlanOf.r13, ref4_PlanOf.r5, ref4_PlanOf.r14, e0, e1, e7, e8, hout]
  refine ⟨fun hdm => ?_, fun hdm => ?_⟩
  · rw [if_pos (by omega)] at hP
    refine lost_br (fun hc => ?_) (fun hc => ?_)
    · rw [if_pos hc] at hP
      refine ⟨fun h => ?_, fun h => ?_⟩
      · rw [hP, if_pos (by omega)]
      · rw [if_neg (by omega)] at hP
        refine opt_of (appL_of (by simp only [List.length_cons, List.length_nil]; omega)) ?_
        rw [w64_succ (by omega), List.length_append]
        exact ⟨⟨n, t + 1, d, rfl, rfl, by simp; omega, hd, by simp; omega, by simp; omega, hP⟩, by simp; omega⟩
    · rw [if_neg (by rw [hc]; decide)] at hP
      refine ⟨fun h => ?_, fun h => ?_⟩
      · rw [hP, if_pos (by omega)]
      · rw [if_neg (by omega)] at hP
        refine opt_of (appL_of (by simp only [List.length_cons, List.length_nil]; omega)) ?_
        rw [w64_succ (by omega), w64_succ (by omega), List.length_append]
        exact ⟨⟨n, t + 1, d + 1, rfl, rfl, by simp; omega, by omega, by simp; omega, by simp; omega, hP⟩, by simp; omega⟩
  · rw [hP, if_neg (by omega)]
theorem Plan_big (data : List UInt8) (lost : List Bool) (h : 4096 < data.length) : transfer_Plan.f data lost = some ([], false, ⟨2, -1⟩) := by
  refine retOf_of ?_
  unfold transfer_Plan.body
  simp only [W_none, W_seq, W_block, W_reg, W_cond, W_skip, W_ext, W_ret, opt_some, opt_bind, opt_ite, thenQ_nrm, thenQ_ext, thenQ_ret, blkQ_nrm, blkQ_ext, blkQ_ret, if_true, true_and, and_true, decide_eq_true_eq, decide_eq_false_iff_not, Bool.or_eq_true, Bool.and_eq_true, Bool.or_eq_false_iff, Bool.and_eq_false_iff, Bool.true_eq_false, not_or, Classical.not_not, Bool.not_eq_true', Bool.not_eq_false', Int.not_lt, Int.not_le, Bool.false_eq_true, false_implies, true_implies, and_self, not_true_eq_false, not_false_eq_true, transfer_Plan.retv, transfer_Plan.r0, transfer_Plan.r1, transfer_Plan.r2, transfer_Plan.r3, transfer_Plan.r4, transfer_Plan.r5, transfer_Plan.r6, transfer_Plan.r7, transfer_Plan.r8, transfer_Plan.r9, transfer_Plan.r11, transfer_Plan.r12, transfer_Plan.r13, transfer_Plan.r14, transfer_Plan.r15, transfer_Plan.r16, transfer_Plan.r17, transfer_Plan.r18, transfer_Plan.r10, transfer_Plan.r19, Frames_big data h]
  simp
theorem Plan_many (data : List UInt8) (lost : List Bool) (h : data.length ≤ 4096) (hl : 100 < lost.length) : transfer_Plan.f data lost = some ([], false, ⟨2, -2⟩) := by
  refine retOf_of ?_
  unfold transfer_Plan.body
  simp only [W_none, W_seq, W_block, W_reg, W_cond, W_skip, W_ext, W_ret, opt_some, opt_bind, opt_ite, thenQ_nrm, thenQ_ext, thenQ_ret, blkQ_nrm, blkQ_ext, blkQ_ret, if_true, true_and, and_true, decide_eq_true_eq, decide_eq_false_iff_not, Bool.or_eq_true, Bool.and_eq_true, Bool.or_eq_false_iff, Bool.and_eq_false_iff, Bool.true_eq_false, not_or, Classical.not_not, Bool.not_eq_true', Bool.not_eq_false', Int.not_lt, Int.not_le, Bool.false_eq_true, false_implies, true_implies, and_self, not_true_eq_false, not_false_eq_true, transfer_Plan.retv, transfer_Plan.r0, transfer_Plan.r1, transfer_Plan.r2, transfer_Plan.r3, transfer_Plan.r4, transfer_Plan.r5, transfer_Plan.r6, transfer_Plan.r7, transfer_Plan.r8, transfer_Plan.r9, transfer_Plan.r11, transfer_Plan.r12, transfer_Plan.r13, transfer_Plan.r14, transfer_Plan.r15, transfer_Plan.r16, transfer_Plan.r17, transfer_Plan.r18, transfer_Plan.r10, transfer_Plan.r19, Frames_eq data h]
  exact ⟨fun _ => trivial, fun h => by omega⟩
theorem Plan_eq (data : List UInt8) (lost : List Bool) (h : data.length ≤ 4096) (hl : lost.length ≤ 100) : transfer_Plan.f data lost = some ((planOf (cnt data) lost).1, (planOf (cnt data) lost).2, ⟨0, 0⟩) := by
  have hcl := chunks_len data
  have hm : cnt data ≤ 256 := by unfold cnt; omega
  refine retOf_of ?_
  unfold transfer_Plan.body
  simp only [W_none, W_seq, W_block, W_reg, W_cond, W_skip, W_ext, W_ret, opt_some, opt_bind, opt_ite, thenQ_nrm, thenQ_ext, thenQ_ret, blkQ_nrm, blkQ_ext, blkQ_ret, if_true, true_and, and_true, decide_eq_true_eq, decide_eq_false_iff_not, Bool.or_eq_true, Bool.and_eq_true, Bool.or_eq_false_iff, Bool.and_eq_false_iff, Bool.true_eq_false, not_or, Classical.not_not, Bool.not_eq_true', Bool.not_eq_false', Int.not_lt, Int.not_le, Bool.false_eq_true, false_implies, true_implies, and_self, not_true_eq_false, not_false_eq_true, transfer_Plan.retv, transfer_Plan.r0, transfer_Plan.r1, transfer_Plan.r2, transfer_Plan.r3, transfer_Plan.r4, transfer_Plan.r5, transfer_Plan.r6, transfer_Plan.r7, transfer_Plan.r8, transfer_Plan.r9, transfer_Plan.r11, transfer_Plan.r12, transfer_Plan.r13, transfer_Plan.r14, transfer_Plan.r15, transfer_Plan.r16, transfer_Plan.r17, transfer_Plan.r18, transfer_Plan.r10, transfer_Plan.r19, Frames_eq data h]
  refine ⟨fun h => by omega, fun _ => ?_⟩
  refine W_iter (fun s => s.t_7 = chunks 16 data ∧ s.t_1 = lost ∧ ∃ n t d : Nat, s.t_11 = t ∧ s.t_10 = d ∧ t ≤ s.t_9.length ∧ d ≤ cnt data ∧ s.t_9.length ≤ 200 ∧ 204 ≤ s.t_9.length + 2 * n ∧ planOf (cnt data) lost = planF (cnt data) lost n t d s.t_9) (fun s => 300 - s.t_9.length)
    ⟨rfl, rfl, 102, 0, 0, rfl, rfl, by simp, by omega, by simp, by simp, rfl⟩ ?_
  rintro s ⟨e0, e1, n, t, d, e7, e8, ht, hd, hb, hn, hP⟩
  obtain ⟨n, rfl⟩ : ∃ k, n = k + 1 := ⟨n - 1, by omega⟩
  simp only [planF] at hP
  generalize hout : s.t_9 = out at *
  simp only [W_none, W_seq, W_block, W_reg, W_cond, W_skip, W_ext, W_ret, opt_some, opt_bind, opt_ite, thenQ_nrm, thenQ_ext, thenQ_ret, blkQ_nrm, blkQ_ext, blkQ_ret, if_true, true_and, and_true, decide_eq_true_eq, decide_eq_false_iff_not, Bool.or_eq_true, Bool.and_eq_true, Bool.or_eq_false_iff, Bool.and_eq_false_iff, Bool.true_eq_false, not_or, Classical.not_not, Bool.not_eq_true', Bool.not_eq_false', Int.not_lt, Int.not_le, Bool.false_eq_true, false_implies, true_implies, and_self, not_true_eq_false, not_false_eq_true, transfer_Plan.retv, transfer_Plan.r0, transfer_Plan.r1, transfer_Plan.r2, transfer_Plan.r3, transfer_Plan.r4, transfer_Plan.r5, transfer_Plan.r6, transfer_Plan.r7, transfer_Plan.r8, transfer_Plan.r9, transfer_Plan.r11, transfer_Plan.r12, transfer_Plan.r13, transfer_Plan.r14, transfer_Plan.r15, transfer_Plan.r16, transfer_Plan.r17, transfer_Plan.r18, transfer_Plan.r10, transfer_Plan.r19, e0, e1, e7, e8, hout, hcl]
  have w2 : w64 ((out.length : Int) + ([(⟨1, 0⟩ : LinkEvent), ⟨3, 0⟩].length : Int)) = (out.length : Int) + 2 := by simp only [List.length_cons, List.length_nil]; rw [w64_id (by omega) (by omega)]; omega
  have w3 : w64 ((out.length : Int) + ([(⟨1, 0⟩ : LinkEvent), ⟨2, 0⟩, ⟨5, 0⟩].length : Int)) = (out.length : Int) + 3 := by simp only [List.length_cons, List.length_nil]; rw [w64_id (by omega) (by omega)]; omega
  rw [w2, w3]
  refine ⟨fun hdm => ?_, fun hdm => ?_⟩
  · rw [if_pos (by omega)] at hP
    refine lost_br (fun hc => ?_) (fun hc => ?_)
    · rw [if_pos hc] at hP
      refine ⟨fun h => ?_, fun h => ?_⟩
      · rw [hP, if_pos (by omega)]
      · rw [if_neg (by omega)] at hP
        refine opt_of (appL_of (by simp only [List.length_cons, List.length_nil]; omega)) ?_
        rw [w64_succ (by omega), List.length_append]
        exact ⟨⟨n, t + 1, d, rfl, rfl, by simp; omega, hd, by simp; omega, by simp; omega, hP⟩, by simp; omega⟩
    · rw [if_neg (by rw [hc]; decide)] at hP
      refine ⟨fun h => ?_, fun h => ?_⟩
      · rw [hP, if_pos (by omega)]
      · rw [if_neg (by omega)] at hP
        refine opt_of (appL_of (by simp only [List.length_cons, List.length_nil]; omega)) ?_
        rw [w64_succ (by omega), w64_succ (by omega), List.length_append]
        exact ⟨⟨n, t + 1, d + 1, rfl, rfl, by simp; omega, by omega, by simp; omega, by simp; omega, hP⟩, by simp; omega⟩
  · rw [hP, if_neg (by omega)]
theorem Events_eq (xs : List LinkEvent) (h : xs.length ≤ 1000) : ref4_Events.f xs xs = some true := by
  refine retOf_of ?_
  unfold ref4_Events.body
  simp only [W_none, W_seq, W_block, W_reg, W_cond, W_skip, W_ext, W_ret, opt_some, opt_bind, opt_ite, thenQ_nrm, thenQ_ext, thenQ_ret, blkQ_nrm, blkQ_ext, blkQ_ret, if_true, true_and, and_true, decide_eq_true_eq, decide_eq_false_iff_not, Bool.or_eq_true, Bool.and_eq_true, Bool.or_eq_false_iff, Bool.and_eq_false_iff, Bool.true_eq_false, not_or, Classical.not_not, Bool.not_eq_true', Bool.not_eq_false', Int.not_lt, Int.not_le, Bool.false_eq_true, false_implies, true_implies, and_self, not_true_eq_false, not_false_eq_true, ref4_Events.retv, ref4_Events.r0, ref4_Events.r1, ref4_Events.r2, ref4_Events.r3, ref4_Events.r4, ref4_Events.r6, ref4_Events.r7, ref4_Events.r5, ref4_Events.r8]
  refine W_iter (fun s => s.a_0 = xs ∧ s.b_1 = xs ∧ ∃ i : Nat, s.i_5 = i ∧ i ≤ xs.length) (fun s => xs.length - s.i_5.toNat) ⟨rfl, rfl, 0, rfl, by omega⟩ ?_
  rintro s ⟨e0, e1, i, e5, hi⟩
  simp only [W_none, W_seq, W_block, W_reg, W_cond, W_skip, W_ext, W_ret, opt_some, opt_bind, opt_ite, thenQ_nrm, thenQ_ext, thenQ_ret, blkQ_nrm, blkQ_ext, blkQ_ret, if_true, true_and, and_true, decide_eq_true_eq, decide_eq_false_iff_not, Bool.or_eq_true, Bool.and_eq_true, Bool.or_eq_false_iff, Bool.and_eq_false_iff, Bool.true_eq_false, not_or, Classical.not_not, Bool.not_eq_true', Bool.not_eq_false', Int.not_lt, Int.not_le, Bool.false_eq_true, false_implies, true_implies, and_self, not_true_eq_false, not_false_eq_true, ref4_Events.retv, ref4_Events.r0, ref4_Events.r1, ref4_Events.r2, ref4_Events.r3, ref4_Events.r4, ref4_Events.r6, ref4_Events.r7, ref4_Events.r5, ref4_Events.r8, e0, e1, e5]
  refine ⟨fun hlt => ?_, fun hge => by trivial⟩
  have hlt : i < xs.length := by omega
  refine opt_of (idx_nat' hlt) (opt_of (idx_nat' hlt) ⟨fun h => absurd rfl h, fun _ => ?_⟩)
  rw [w64_succ (by omega)]
  exact ⟨⟨i + 1, rfl, by omega⟩, by omega⟩
/-- A plan's events are accepted: d frames are delivered and known to be. -/
def stand (fs : List (List UInt8)) (d : Nat) : Transfer_link := ⟨fs, [], [], d, d⟩
theorem sim_lost {fs : List (List UInt8)} {d i : Nat} (hd : d < fs.length) : simF (stand fs d) i evLost = (none, stand fs d) := by
  have h1 : lcode (stand fs d) ⟨1, 0⟩ = 0 := by
    have : ¬ ((d : Int) = (fs.length : Int)) := by omega
    simp [lcode, stand, this]
  have h2 : lnext (stand fs d) ⟨1, 0⟩ = ⟨fs, [(d : Int)], [], d, d⟩ := by simp [lnext, stand]
  have h3 : lcode ⟨fs, [(d : Int)], [], d, d⟩ ⟨3, 0⟩ = 0 := by simp [lcode, lway]
  have h4 : lnext ⟨fs, [(d : Int)], [], d, d⟩ ⟨3, 0⟩ = stand fs d := by simp [lnext, stand]
  simp [simF, evLost, h1, h2, h3, h4]
theorem sim_good {fs : List (List UInt8)} {d i : Nat} (hd : d < fs.length) : simF (stand fs d) i evGood = (none, stand fs (d + 1)) := by
  have h1 : lcode (stand fs d) ⟨1, 0⟩ = 0 := by
    have : ¬ ((d : Int) = (fs.length : Int)) := by omega
    simp [lcode, stand, this]
  have h2 : lnext (stand fs d) ⟨1, 0⟩ = ⟨fs, [(d : Int)], [], d, d⟩ := by simp [lnext, stand]
  have h3 : lcode ⟨fs, [(d : Int)], [], d, d⟩ ⟨2, 0⟩ = 0 := by simp [lcode, lway]
  have h4 : lnext ⟨fs, [(d : Int)], [], d, d⟩ ⟨2, 0⟩ = ⟨fs, [], [(d : Int) + 1], (d : Int) + 1, d⟩ := by simp [lnext, cntUp]
  have h5 : lcode ⟨fs, [], [(d : Int) + 1], (d : Int) + 1, d⟩ ⟨5, 0⟩ = 0 := by simp [lcode, lway]
  have h6 : lnext ⟨fs, [], [(d : Int) + 1], (d : Int) + 1, d⟩ ⟨5, 0⟩ = stand fs (d + 1) := by
    simp [lnext, stand]
    omega
  simp [simF, evGood, h1, h2, h3, h4, h5, h6]
theorem planF_good {fs : List (List UInt8)} {lost : List Bool} : ∀ {n t d : Nat} {out : List LinkEvent}, d ≤ fs.length → out.length ≤ 200 → simF (link0 fs) 0 out = (none, stand fs d) →
    ∃ e, e ≤ fs.length ∧ (planF fs.length lost n t d out).1.length ≤ 200 ∧ simF (link0 fs) 0 (planF fs.length lost n t d out).1 = (none, stand fs e) ∧ ((planF fs.length lost n t d out).2 = true → e = fs.length)
  | 0, t, d, out, hd, hl, hs => ⟨d, hd, hl, hs, fun h => by simp [planF] at h⟩
  | n + 1, t, d, out, hd, hl, hs => by
    simp only [planF]
    split
    · rename_i hdm
      split
      · split
        · exact ⟨d, hd, hl, hs, fun h => by simp at h⟩
        · refine planF_good hd (by simp [evLost]; omega) ?_
          rw [simF_append, hs]
          exact sim_lost hdm
      · split
        · exact ⟨d, hd, hl, hs, fun h => by simp at h⟩
        · refine planF_good hdm (by simp [evGood]; omega) ?_
          rw [simF_append, hs]
          exact sim_good hdm
    · rename_i hdm
      exact ⟨d, hd, hl, hs, fun _ => by omega⟩
theorem planOf_good (fs : List (List UInt8)) (lost : List Bool) : ∃ e, e ≤ fs.length ∧ (planOf fs.length lost).1.length ≤ 200 ∧ simF (link0 fs) 0 (planOf fs.length lost).1 = (none, stand fs e) ∧ ((planOf fs.length lost).2 = true → e = fs.length) :=
  planF_good (by omega) (by simp) rfl
/-- What Run answers, in any case. -/
theorem Run_any (data : List UInt8) (es : List LinkEvent) : (∃ f : Fault, ¬ f.Code = 0 ∧ transfer_Run.f data es = some ([], 0, f)) ∨
    (data.length ≤ 4096 ∧ es.length ≤ 200 ∧ ∃ (c k : Nat) (L : Transfer_link), k ≤ c ∧ c ≤ cnt data ∧ simF (link0 (chunks 16 data)) 0 es = (none, L) ∧ L.count = c ∧ L.acked = k ∧ transfer_Run.f data es = some (data.take (16 * c), (k : Int), ⟨0, 0⟩)) := by
  by_cases hd : data.length ≤ 4096
  · by_cases he : es.length ≤ 200
    · have hR := Run_eq data es hd he
      cases hS : simF (link0 (chunks 16 data)) 0 es with
      | mk o L =>
        cases o with
        | some f =>
          have hv : runOf data es = ([], 0, f) := by unfold runOf; rw [hS]
          exact .inl ⟨f, simF_code hS, by rw [hR, hv]⟩
        | none =>
          have hL := (simF_none (LI.zero _) hS).1
          obtain ⟨fr, sl, al, k0, kc, cm, sm, am⟩ := hL
          rw [chunks_len] at cm
          obtain ⟨c, hc⟩ : ∃ c : Nat, L.count = c := ⟨L.count.toNat, by omega⟩
          obtain ⟨k, hk⟩ : ∃ k : Nat, L.acked = k := ⟨L.acked.toNat, by omega⟩
          have hv : runOf data es = (data.take (16 * c), (k : Int), ⟨0, 0⟩) := by unfold runOf; rw [hS]; simp [hc, hk]
          exact .inr ⟨hd, he, c, k, L, by omega, by omega, rfl, hc, hk, by rw [hR, hv]⟩
    · exact .inl ⟨⟨2, -2⟩, by decide, Run_many data es hd (by omega)⟩
  · exact .inl ⟨⟨2, -1⟩, by decide, Run_big data es (by omega)⟩
theorem take_len_cut (data : List UInt8) (n : Nat) : cutTo data (((data.take n).length : Nat) : Int) = some (data.take n) := by
  rw [cutTo_nat (by rw [List.length_take]; omega), List.length_take]
  by_cases h : n ≤ data.length
  · rw [Nat.min_eq_left h]
  · rw [Nat.min_eq_right (by omega), List.take_of_length_le (Nat.le_refl _), List.take_of_length_le (by omega)]
theorem example_eq : law4_transferExample.f = some true := by
  have h1 : runOf [7] [⟨1, 0⟩, ⟨4, 0⟩, ⟨2, 0⟩, ⟨2, 0⟩] = ([7], 0, ⟨0, 0⟩) := by decide
  have h2 : planOf (cnt [7]) [true] = ([⟨1, 0⟩, ⟨3, 0⟩, ⟨1, 0⟩, ⟨2, 0⟩, ⟨5, 0⟩], true) := by decide
  have h1' := (Run_eq [7] [⟨1, 0⟩, ⟨4, 0⟩, ⟨2, 0⟩, ⟨2, 0⟩] (by decide) (by decide)).trans (congrArg some h1)
  have h2' := Plan_eq [7] [true] (by decide) (by decide)
  rw [h2] at h2'
  refine retOf_of ?_
  unfold law4_transferExample.body
  simp only [W_none, W_seq, W_block, W_reg, W_cond, W_skip, W_ext, W_ret, opt_some, opt_bind, opt_ite, thenQ_nrm, thenQ_ext, thenQ_ret, blkQ_nrm, blkQ_ext, blkQ_ret, if_true, true_and, and_true, decide_eq_true_eq, decide_eq_false_iff_not, Bool.or_eq_true, Bool.and_eq_true, Bool.or_eq_false_iff, Bool.and_eq_false_iff, Bool.true_eq_false, not_or, Classical.not_not, Bool.not_eq_true', Bool.not_eq_false', Int.not_lt, Int.not_le, Bool.false_eq_true, false_implies, true_implies, and_self, not_true_eq_false, not_false_eq_true, law4_transferExample.retv, law4_transferExample.r0, law4_transferExample.r1, law4_transferExample.r2, law4_transferExample.r3, h1', h2']
  simp [strOf]
end Go.Proofs.Ytpdkgodonemonaa
