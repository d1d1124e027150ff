/- gc.Collect. -/
import Derived.Test.YtenkbkcddcnmeaaDoorPp3
namespace Go.Proofs.YtenkbkcddcnmeaaDoor
open Go.Fx
set_option linter.unusedVariables false
set_option linter.unusedSimpArgs false
set_option maxRecDepth 20000
def rootsOf (r : RefStore) (ls : List Lease) (time : Int) : List Int := r.Refs.map (·.Target) ++ (ls.filter fun x => decide (time < x.Until)).map (·.Digest)
theorem rootsOf_len {r : RefStore} {ls : List Lease} {time : Int} (hr : r.Refs.length ≤ 30) (hl : ls.length ≤ 20) : (rootsOf r ls time).length ≤ 50 := by
  unfold rootsOf
  rw [List.length_append, List.length_map, List.length_map]
  have := List.length_filter_le (fun x : Lease => decide (time < x.Until)) ls
  omega
def lbad (x : Lease) : Bool := decide (x.Digest < 0) || decide (2305843009213693951 ≤ x.Digest) || decide (x.Until < 0) || decide (100000 < x.Until)
def leaseF : List Lease → Nat → Fault
  | [], _ => ⟨0, 0⟩
  | x :: l, i => if lbad x = true then ⟨3, -3 - (i : Int)⟩ else leaseF l (i + 1)
theorem leaseF_cons (x : Lease) (l : List Lease) (i : Nat) : leaseF (x :: l) i = if lbad x = true then ⟨3, -3 - (i : Int)⟩ else leaseF l (i + 1) := rfl
theorem leaseF_bad {ls : List Lease} {i : Nat} (h : leaseF (ls.drop i) i = leaseF ls 0) (hi : i < ls.length) (hb : lbad ls[i] = true) : leaseF ls 0 = ⟨3, -3 - (i : Int)⟩ := by
  rw [← h, List.drop_eq_getElem_cons hi, leaseF_cons, if_pos hb]
theorem leaseF_next {ls : List Lease} {i : Nat} (h : leaseF (ls.drop i) i = leaseF ls 0) (hi : i < ls.length) (hb : lbad ls[i] = false) : leaseF (ls.drop (i + 1)) (i + 1) = leaseF ls 0 := by
  rw [← h, List.drop_eq_getElem_cons hi, leaseF_cons, if_neg (by rw [hb]; decide)]
theorem leaseF_end {ls : List Lease} (h : leaseF (ls.drop ls.length) ls.length = leaseF ls 0) : leaseF ls 0 = ⟨0, 0⟩ := by
  rw [← h, List.drop_length]; rfl
open Classical in
noncomputable def keptL (l : List StoredObject) (roots : List Int) (b : Bool) : List StoredObject := l.filter fun x => decide (Rch l roots x.Digest) == b
open Classical in
noncomputable def keptLi (l : List StoredObject) (roots : List Int) (i : Nat) (b : Bool) : List StoredObject := (l.take i).filter fun x => decide (Rch l roots x.Digest) == b
noncomputable def collR (l : List StoredObject) (r : RefStore) (ls : List Lease) (time : Int) : ObjectStore × List Int × Fault :=
  if ¬ (leaseF ls 0).Code = 0 then (⟨[]⟩, [], leaseF ls 0) else if time < 0 ∨ 100000 < time then (⟨[]⟩, [], ⟨3, -2⟩) else (⟨keptL l (rootsOf r ls time) true⟩, (keptL l (rootsOf r ls time) false).map (·.Digest), ⟨0, 0⟩)
open Classical in
theorem Collect_eq {l : List StoredObject} (hS : OkS l) {r : RefStore} (hv : refs_Validate.f r = some ⟨0, 0⟩) (hr : r.Refs.length ≤ 30) {ls : List Lease} (hl : ls.length ≤ 20) (time : Int) : gc_Collect.f ⟨l⟩ r ls time = some (collR l r ls time) := by
  have hll := hS.len
  refine retOf_of ?_
  unfold gc_Collect.body
  simp only [WL, gc_Collect.retv, gc_Collect.r0, gc_Collect.r1, gc_Collect.r2, gc_Collect.r3, gc_Collect.r4, gc_Collect.r5, gc_Collect.r6, gc_Collect.r7, gc_Collect.r8, gc_Collect.r9, gc_Collect.r10, gc_Collect.r11, gc_Collect.r12, gc_Collect.r13, gc_Collect.r14, gc_Collect.r15, gc_Collect.r16, gc_Collect.r17, gc_Collect.r18, gc_Collect.r19, gc_Collect.r20, gc_Collect.r21, gc_Collect.r22, gc_Collect.r23, gc_Collect.r24, gc_Collect.r25, gc_Collect.r26, gc_Collect.r27, gc_Collect.r28, gc_Collect.r29, gc_Collect.r30, gc_Collect.r31, gc_Collect.r32, gc_Collect.r33, gc_Collect.r34, Validate_ok hS, hv]
  refine ⟨fun e => by omega, fun _ => ?_⟩
  refine W_iter (fun s => s.t_2 = ls ∧ s.t_3 = time ∧ s.t_4 = ⟨l⟩ ∧ s.t_45 = r.Refs ∧ s.t_46 = (r.Refs.length : Int) ∧ ∃ i : Nat, s.t_47 = i ∧ i ≤ r.Refs.length ∧ s.t_13 = (r.Refs.take i).map (·.Target)) (fun s => r.Refs.length - s.t_47.toNat) ⟨rfl, rfl, rfl, rfl, rfl, 0, rfl, Nat.zero_le _, rfl⟩ ?_
  rintro s ⟨e2, e3, e4, e45, e46, i, e47, hi, e13⟩
  simp only [WL, gc_Collect.retv, gc_Collect.r0, gc_Collect.r1, gc_Collect.r2, gc_Collect.r3, gc_Collect.r4, gc_Collect.r5, gc_Collect.r6, gc_Collect.r7, gc_Collect.r8, gc_Collect.r9, gc_Collect.r10, gc_Collect.r11, gc_Collect.r12, gc_Collect.r13, gc_Collect.r14, gc_Collect.r15, gc_Collect.r16, gc_Collect.r17, gc_Collect.r18, gc_Collect.r19, gc_Collect.r20, gc_Collect.r21, gc_Collect.r22, gc_Collect.r23, gc_Collect.r24, gc_Collect.r25, gc_Collect.r26, gc_Collect.r27, gc_Collect.r28, gc_Collect.r29, gc_Collect.r30, gc_Collect.r31, gc_Collect.r32, gc_Collect.r33, gc_Collect.r34, e2, e3, e4, e45, e46, e47, e13]
  refine ⟨fun hlt => ?_, fun hge => ?_⟩
  · have hlt : i < r.Refs.length := by omega
    refine opt_of (idx_nat' hlt) ?_
    rw [app8i (by rw [List.length_map, List.length_take]; omega), opt_some, w64_succ (by omega)]
    exact ⟨⟨i + 1, rfl, by omega, by rw [List.take_succ_eq_append_getElem hlt, List.map_append]; rfl⟩, by omega⟩
  have : i = r.Refs.length := by omega
  subst this
  rw [List.take_length]
  clear e2 e3 e4 e45 e46 e47 e13 hi hge
  refine W_iter (fun s => s.t_3 = time ∧ s.t_4 = ⟨l⟩ ∧ s.t_57 = ls ∧ s.t_58 = (ls.length : Int) ∧ ∃ i : Nat, s.t_59 = i ∧ i ≤ ls.length ∧ leaseF (ls.drop i) i = leaseF ls 0 ∧ s.t_13 = r.Refs.map (·.Target) ++ ((ls.take i).filter fun x => decide (time < x.Until)).map (·.Digest)) (fun s => ls.length - s.t_59.toNat) ⟨rfl, rfl, rfl, rfl, 0, rfl, Nat.zero_le _, rfl, by rw [List.take_zero]; simp⟩ ?_
  clear s
  rintro s ⟨e3, e4, e57, e58, i, e59, hi, hF, e13⟩
  simp only [WL, gc_Collect.retv, gc_Collect.r0, gc_Collect.r1, gc_Collect.r2, gc_Collect.r3, gc_Collect.r4, gc_Collect.r5, gc_Collect.r6, gc_Collect.r7, gc_Collect.r8, gc_Collect.r9, gc_Collect.r10, gc_Collect.r11, gc_Collect.r12, gc_Collect.r13, gc_Collect.r14, gc_Collect.r15, gc_Collect.r16, gc_Collect.r17, gc_Collect.r18, gc_Collect.r19, gc_Collect.r20, gc_Collect.r21, gc_Collect.r22, gc_Collect.r23, gc_Collect.r24, gc_Collect.r25, gc_Collect.r26, gc_Collect.r27, gc_Collect.r28, gc_Collect.r29, gc_Collect.r30, gc_Collect.r31, gc_Collect.r32, gc_Collect.r33, gc_Collect.r34, e3, e4, e57, e58, e59, e13]
  refine ⟨fun hlt => ?_, fun hge => ?_⟩
  · have hlt : i < ls.length := by omega
    refine opt_of (idx_nat' hlt) ⟨fun hb => ?_, fun hb => ?_⟩
    · have hb' : lbad ls[i] = true := by unfold lbad; simpa using hb
      have hf := leaseF_bad hF hlt hb'
      unfold collR
      rw [hf, if_pos (show ¬ (3 : Int) = 0 by decide), w64_id (by omega) (by omega)]
    · have hb' : lbad ls[i] = false := by unfold lbad; simpa using hb
      have hf := leaseF_next hF hlt hb'
      refine ⟨fun hu => ?_, fun hu => ?_⟩
      · have hu' : time < ls[i].Until := by simpa using hu
        have h1 := List.length_filter_le (fun x : Lease => decide (time < x.Until)) (ls.take i)
        rw [List.length_take] at h1
        rw [app8i (by rw [List.length_append, List.length_map, List.length_map]; omega), opt_some, w64_succ (by omega)]
        exact ⟨⟨i + 1, rfl, by omega, hf, by rw [take_filter hlt, if_pos (by simpa using hu'), List.map_append, List.append_assoc]; rfl⟩, by omega⟩
      · have hu' : ¬ time < ls[i].Until := by simpa using hu
        rw [w64_succ (by omega)]
        exact ⟨⟨i + 1, rfl, by omega, hf, by rw [take_filter hlt, if_neg (by simpa using hu'), List.append_nil]⟩, by omega⟩
  have : i = ls.length := by omega
  subst this
  have hf0 := leaseF_end hF
  have hRl := rootsOf_len (time := time) hr hl
  have hR : r.Refs.map (·.Target) ++ ((ls.take ls.length).filter fun x => decide (time < x.Until)).map (·.Digest) = rootsOf r ls time := by rw [List.take_length]; rfl
  rw [hR]
  generalize hroots : rootsOf r ls time = roots at hRl
  clear e3 e4 e57 e58 e59 e13 hi hge hF hR
  unfold collR
  rw [hf0, if_neg (by decide), hroots]
  have hml : (marks l roots).length = l.length := by unfold marks; rw [List.length_map]
  refine ⟨fun hb => ?_, fun hb => ?_⟩
  · rw [if_pos (by simpa using hb)]
  · rw [if_neg (by simpa using hb)]
    refine opt_of (gcmark_eq hS (by omega)) ?_
    refine W_iter (fun s => s.t_4 = ⟨l⟩ ∧ s.t_107 = marks l roots ∧ s.t_108 = (l.length : Int) ∧ ∃ i : Nat, s.t_109 = i ∧ i ≤ l.length ∧ s.t_18.Objects = keptLi l roots i true ∧ s.t_19 = (keptLi l roots i false).map (·.Digest)) (fun s => l.length - s.t_109.toNat) ⟨rfl, rfl, by rw [hml], 0, rfl, Nat.zero_le _, rfl, rfl⟩ ?_
    clear s
    rintro s ⟨e4, e107, e108, i, e109, hi, e18, e19⟩
    simp only [WL, gc_Collect.retv, gc_Collect.r0, gc_Collect.r1, gc_Collect.r2, gc_Collect.r3, gc_Collect.r4, gc_Collect.r5, gc_Collect.r6, gc_Collect.r7, gc_Collect.r8, gc_Collect.r9, gc_Collect.r10, gc_Collect.r11, gc_Collect.r12, gc_Collect.r13, gc_Collect.r14, gc_Collect.r15, gc_Collect.r16, gc_Collect.r17, gc_Collect.r18, gc_Collect.r19, gc_Collect.r20, gc_Collect.r21, gc_Collect.r22, gc_Collect.r23, gc_Collect.r24, gc_Collect.r25, gc_Collect.r26, gc_Collect.r27, gc_Collect.r28, gc_Collect.r29, gc_Collect.r30, gc_Collect.r31, gc_Collect.r32, gc_Collect.r33, gc_Collect.r34, e4, e107, e108, e109, e18, e19]
    refine ⟨fun hlt => ?_, fun hge => ?_⟩
    · have hlt : i < l.length := by omega
      have hmi : idx (marks l roots) (i : Int) = some (decide (Rch l roots l[i].Digest)) := by
        rw [show marks l roots = l.map (fun x => decide (Rch l roots x.Digest)) from rfl, idx_nat' (by rw [List.length_map]; exact hlt), List.getElem_map]
      have hlen : ∀ b, (keptLi l roots i b).length ≤ 1000 := fun b => Nat.le_trans (List.length_filter_le _ _) (by rw [List.length_take]; omega)
      refine opt_of hmi (opt_of (idx_nat' hlt) ⟨fun h => ?_, fun h => ?_⟩)
      · refine opt_of (Clone_eq (hS.obj _ (List.getElem_mem hlt)).1) ?_
        rw [app64 (hlen _), opt_some, w64_succ (by omega)]
        have h' : decide (Rch l roots l[i].Digest) = true := h
        exact ⟨⟨i + 1, rfl, by omega, by unfold keptLi; rw [take_filter hlt, if_pos (by rw [h']; rfl)], by unfold keptLi; rw [take_filter hlt, if_neg (by rw [h']; decide), List.append_nil]⟩, by omega⟩
      · rw [app8i (by rw [List.length_map]; have := hlen false; omega), opt_some, w64_succ (by omega)]
        have h' : decide (Rch l roots l[i].Digest) = false := h
        exact ⟨⟨i + 1, rfl, by omega, by unfold keptLi; rw [take_filter hlt, if_neg (by rw [h']; decide), List.append_nil], by unfold keptLi; rw [take_filter hlt, if_pos (by rw [h']; rfl), List.map_append]; rfl⟩, by omega⟩
    · have : i = l.length := by omega
      subst this
      unfold keptLi keptL
      rw [List.take_length]
theorem Collect_bad1 {s : ObjectStore} {r : RefStore} {ls : List Lease} {time : Int} (h : ¬ (sFault s).Code = 0) : gc_Collect.f s r ls time = some (⟨[]⟩, [], sFault s) := by
  refine retOf_of ?_
  unfold gc_Collect.body
  simp only [WL, gc_Collect.retv, gc_Collect.r0, gc_Collect.r1, gc_Collect.r2, gc_Collect.r3, gc_Collect.r4, gc_Collect.r5, gc_Collect.r6, gc_Collect.r7, gc_Collect.r8, gc_Collect.r9, gc_Collect.r10, gc_Collect.r11, gc_Collect.r12, gc_Collect.r13, gc_Collect.r14, gc_Collect.r15, gc_Collect.r16, gc_Collect.r17, gc_Collect.r18, gc_Collect.r19, gc_Collect.r20, gc_Collect.r21, gc_Collect.r22, gc_Collect.r23, gc_Collect.r24, gc_Collect.r25, gc_Collect.r26, gc_Collect.r27, gc_Collect.r28, gc_Collect.r29, gc_Collect.r30, gc_Collect.r31, gc_Collect.r32, gc_Collect.r33, gc_Collect.r34, Validate_eq]
  refine ⟨fun _ => trivial, fun e => absurd (by rw [e]) h⟩
theorem Collect_bad2 {l : List StoredObject} (hS : OkS l) {r : RefStore} {f : Fault} (hv : refs_Validate.f r = some f) (hf : ¬ f.Code = 0) {ls : List Lease} {time : Int} : gc_Collect.f ⟨l⟩ r ls time = some (⟨[]⟩, [], ⟨f.Code, -1⟩) := by
  refine retOf_of ?_
  unfold gc_Collect.body
  simp only [WL, gc_Collect.retv, gc_Collect.r0, gc_Collect.r1, gc_Collect.r2, gc_Collect.r3, gc_Collect.r4, gc_Collect.r5, gc_Collect.r6, gc_Collect.r7, gc_Collect.r8, gc_Collect.r9, gc_Collect.r10, gc_Collect.r11, gc_Collect.r12, gc_Collect.r13, gc_Collect.r14, gc_Collect.r15, gc_Collect.r16, gc_Collect.r17, gc_Collect.r18, gc_Collect.r19, gc_Collect.r20, gc_Collect.r21, gc_Collect.r22, gc_Collect.r23, gc_Collect.r24, gc_Collect.r25, gc_Collect.r26, gc_Collect.r27, gc_Collect.r28, gc_Collect.r29, gc_Collect.r30, gc_Collect.r31, gc_Collect.r32, gc_Collect.r33, gc_Collect.r34, Validate_ok hS, hv]
  refine ⟨fun _ => trivial, fun e => absurd (by rw [e]) hf⟩
theorem Collect_bad3 {l : List StoredObject} (hS : OkS l) {r : RefStore} (hv : refs_Validate.f r = some ⟨0, 0⟩) {ls : List Lease} (hl : 20 < ls.length) {time : Int} : gc_Collect.f ⟨l⟩ r ls time = some (⟨[]⟩, [], ⟨2, -2⟩) := by
  refine retOf_of ?_
  unfold gc_Collect.body
  simp only [WL, gc_Collect.retv, gc_Collect.r0, gc_Collect.r1, gc_Collect.r2, gc_Collect.r3, gc_Collect.r4, gc_Collect.r5, gc_Collect.r6, gc_Collect.r7, gc_Collect.r8, gc_Collect.r9, gc_Collect.r10, gc_Collect.r11, gc_Collect.r12, gc_Collect.r13, gc_Collect.r14, gc_Collect.r15, gc_Collect.r16, gc_Collect.r17, gc_Collect.r18, gc_Collect.r19, gc_Collect.r20, gc_Collect.r21, gc_Collect.r22, gc_Collect.r23, gc_Collect.r24, gc_Collect.r25, gc_Collect.r26, gc_Collect.r27, gc_Collect.r28, gc_Collect.r29, gc_Collect.r30, gc_Collect.r31, gc_Collect.r32, gc_Collect.r33, gc_Collect.r34, Validate_ok hS, hv]
  refine ⟨fun _ => trivial, fun e => by omega⟩
end Go.Proofs.YtenkbkcddcnmeaaDoor
