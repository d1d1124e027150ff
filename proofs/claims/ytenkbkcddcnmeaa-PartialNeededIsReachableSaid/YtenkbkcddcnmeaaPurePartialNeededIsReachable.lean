/- PartialNeededIsReachable, the plain part. -/
import Derived.Test.YtenkbkcddcnmeaaPp11
import Derived.Test.YtenkbkcddcnmeaaOp
namespace Go.Proofs.Ytenkbkcddcnmeaa.Pure
open Go.Fx Go.RowKit
set_option linter.unusedVariables false
set_option linter.unusedSimpArgs false
set_option maxRecDepth 20000
theorem rch_keep {l : List StoredObject} (h : OkS l) {limit : Int} {roots : List Int} {d : Int} : Rch (l.filter (keep limit)) roots d ↔ Rch l roots d := by
  constructor
  · intro hd
    induction hd with
    | root h => exact .root h
    | step hx _ hd ih => exact .step (List.mem_filter.1 hx).1 ih hd
  · intro hd
    induction hd with
    | root h => exact .root h
    | @step x d hx _ hd ih =>
      refine .step (List.mem_filter.2 ⟨hx, ?_⟩) ih hd
      cases hk : keep limit x with
      | true => rfl
      | false =>
        have hb := (h.obj x hx).1.bl
        unfold keep at hk
        have hk1 : x.Object.Kind = 1 := by
          by_cases e : x.Object.Kind = 1
          · exact e
          · rw [decide_eq_false e] at hk; cases hk
        have hpos : 0 < x.Object.Links.length := List.length_pos_of_mem hd
        exact absurd ⟨hk1, hpos⟩ hb
open Classical in
theorem PartialNeededIsReachable {s : ObjectStore} {limit : Int} {roots : List Int} (h1 : ok_ObjectStore s) (h2 : okI .i64 limit) (h3 : okL (okI .i64) roots) : law4_PartialNeededIsReachable.f s limit roots = some true := by
  have hro : ∀ d ∈ roots, I64 d := fun d hd => okI64 (h3.2 d hd)
  refine retOf_of ?_
  unfold law4_PartialNeededIsReachable.body
  rcases Classical.em (¬ (sFault s).Code = 0) with hS | hS
  · simp only [WL, law4_PartialNeededIsReachable.retv, law4_PartialNeededIsReachable.r0, law4_PartialNeededIsReachable.r1, law4_PartialNeededIsReachable.r2, law4_PartialNeededIsReachable.r3, law4_PartialNeededIsReachable.r4, law4_PartialNeededIsReachable.r5, law4_PartialNeededIsReachable.r6, law4_PartialNeededIsReachable.r7, law4_PartialNeededIsReachable.r8, law4_PartialNeededIsReachable.r9, law4_PartialNeededIsReachable.r10, law4_PartialNeededIsReachable.r11, law4_PartialNeededIsReachable.r12, law4_PartialNeededIsReachable.r14, law4_PartialNeededIsReachable.r15, law4_PartialNeededIsReachable.r13, law4_PartialNeededIsReachable.r16, example_eq, Filter_bad1 hS, Bool.not_true, w64_00]
    refine ⟨fun _ => ?_, fun e => absurd e.1 hS⟩
    rw [decide_true, Bool.or_true]
  have hS := Classical.not_not.1 hS
  obtain ⟨l⟩ := s
  have hO : OkS l := sFault_ok.1 hS
  have hl := hO.len
  rcases Classical.em (¬ (0 ≤ limit ∧ limit ≤ 1000)) with hb | hb
  · simp only [WL, law4_PartialNeededIsReachable.retv, law4_PartialNeededIsReachable.r0, law4_PartialNeededIsReachable.r1, law4_PartialNeededIsReachable.r2, law4_PartialNeededIsReachable.r3, law4_PartialNeededIsReachable.r4, law4_PartialNeededIsReachable.r5, law4_PartialNeededIsReachable.r6, law4_PartialNeededIsReachable.r7, law4_PartialNeededIsReachable.r8, law4_PartialNeededIsReachable.r9, law4_PartialNeededIsReachable.r10, law4_PartialNeededIsReachable.r11, law4_PartialNeededIsReachable.r12, law4_PartialNeededIsReachable.r14, law4_PartialNeededIsReachable.r15, law4_PartialNeededIsReachable.r13, law4_PartialNeededIsReachable.r16, example_eq, Filter_bad2 hO hb, Bool.not_true, w64_00]
    refine ⟨fun _ => ?_, fun e => absurd e.1 (by decide)⟩
    rw [decide_true, Bool.or_true]
  have hb := Classical.not_not.1 hb
  rcases Classical.em (40 < roots.length) with hr | hr
  · simp only [WL, law4_PartialNeededIsReachable.retv, law4_PartialNeededIsReachable.r0, law4_PartialNeededIsReachable.r1, law4_PartialNeededIsReachable.r2, law4_PartialNeededIsReachable.r3, law4_PartialNeededIsReachable.r4, law4_PartialNeededIsReachable.r5, law4_PartialNeededIsReachable.r6, law4_PartialNeededIsReachable.r7, law4_PartialNeededIsReachable.r8, law4_PartialNeededIsReachable.r9, law4_PartialNeededIsReachable.r10, law4_PartialNeededIsReachable.r11, law4_PartialNeededIsReachable.r12, law4_PartialNeededIsReachable.r14, law4_PartialNeededIsReachable.r15, law4_PartialNeededIsReachable.r13, law4_PartialNeededIsReachable.r16, example_eq, Filter_eq hO hb.1 hb.2, Bool.not_true]
    refine ⟨fun _ => ?_, fun e => by omega⟩
    rw [decide_true, Bool.true_or]
  have hr' : ¬ (40 : Int) < (roots.length : Int) := by omega
  have hP := keep_P hO limit
  have hK := hO.filter (keep limit)
  have hM := Mark_eq hO (roots := roots) (by omega)
  have hN := Needed_eq hK hP (roots := roots) (by omega) hro
  have hml : ((l.filter fun x => decide (Rch l roots x.Digest)).map (·.Digest)).length ≤ 40 := by rw [List.length_map]; exact (hO.filter _).len
  generalize hp : (l.filter fun x => !keep limit x).map (·.Digest) = pr at *
  generalize hm : (l.filter fun x => decide (Rch l roots x.Digest)).map (·.Digest) = ms at *
  have hpl := hP.len
  rcases Classical.em (okN (l.filter (keep limit)) pr roots) with hk | hk
  · rw [if_pos hk] at hN
    have hneed : need (l.filter (keep limit)) pr roots = ms.filter fun d => decide (d ∈ pr) := by
      have hmi : ms.Pairwise (· < ·) := by rw [← hm, List.pairwise_map]; exact (hO.filter _).inc
      refine inc_ext (need_inc hP) (hmi.sublist List.filter_sublist) fun d => ?_
      rw [need_mem, rch_keep hO, List.mem_filter, decide_eq_true_eq, ← hm, List.mem_map]
      constructor
      · rintro ⟨ha, hb⟩
        refine ⟨?_, ha⟩
        rw [← hp] at ha
        obtain ⟨x, hx, rfl⟩ := keep_all limit ha
        exact ⟨x, List.mem_filter.2 ⟨hx, decide_eq_true hb⟩, rfl⟩
      · rintro ⟨⟨x, hx, rfl⟩, ha⟩
        exact ⟨ha, of_decide_eq_true (List.mem_filter.1 hx).2⟩
    rw [hneed] at hN
    simp only [WL, law4_PartialNeededIsReachable.retv, law4_PartialNeededIsReachable.r0, law4_PartialNeededIsReachable.r1, law4_PartialNeededIsReachable.r2, law4_PartialNeededIsReachable.r3, law4_PartialNeededIsReachable.r4, law4_PartialNeededIsReachable.r5, law4_PartialNeededIsReachable.r6, law4_PartialNeededIsReachable.r7, law4_PartialNeededIsReachable.r8, law4_PartialNeededIsReachable.r9, law4_PartialNeededIsReachable.r10, law4_PartialNeededIsReachable.r11, law4_PartialNeededIsReachable.r12, law4_PartialNeededIsReachable.r14, law4_PartialNeededIsReachable.r15, law4_PartialNeededIsReachable.r13, law4_PartialNeededIsReachable.r16, example_eq, Filter_eq hO hb.1 hb.2, hp, hN, hM, Bool.not_true]
    refine ⟨fun e => absurd (e.elim False.elim id) hr', fun _ => ?_⟩
    refine ⟨fun e => (e.elim id id).elim, ?_⟩
    refine W_iter (fun s => s.t_8 = pr ∧ s.t_10 = (ms.filter fun d => decide (d ∈ pr)) ∧ s.t_12 = ms ∧ ∃ i : Nat, s.t_15 = i ∧ i ≤ ms.length ∧ s.t_14 = (ms.take i).filter fun d => decide (d ∈ pr)) (fun s => ms.length - s.t_15.toNat) ⟨rfl, rfl, rfl, 0, rfl, Nat.zero_le _, rfl⟩ ?_
    rintro s ⟨e8, e10, e12, i, e15, hi, e14⟩
    simp only [WL, law4_PartialNeededIsReachable.retv, law4_PartialNeededIsReachable.r0, law4_PartialNeededIsReachable.r1, law4_PartialNeededIsReachable.r2, law4_PartialNeededIsReachable.r3, law4_PartialNeededIsReachable.r4, law4_PartialNeededIsReachable.r5, law4_PartialNeededIsReachable.r6, law4_PartialNeededIsReachable.r7, law4_PartialNeededIsReachable.r8, law4_PartialNeededIsReachable.r9, law4_PartialNeededIsReachable.r10, law4_PartialNeededIsReachable.r11, law4_PartialNeededIsReachable.r12, law4_PartialNeededIsReachable.r14, law4_PartialNeededIsReachable.r15, law4_PartialNeededIsReachable.r13, law4_PartialNeededIsReachable.r16, e8, e10, e12, e15, e14]
    refine ⟨fun hlt => ?_, fun hge => ?_⟩
    · have hlt : i < ms.length := by omega
      have hH := Has_eq pr ms[i] (by omega)
      refine opt_of (idx_nat' hlt) (opt_of hH ⟨fun h => opt_of (idx_nat' hlt) ?_, fun h => ?_⟩)
      · have hlen : ((ms.take i).filter fun d => decide (d ∈ pr)).length ≤ 1000 := Nat.le_trans (List.length_filter_le _ _) (by rw [List.length_take]; omega)
        rw [app8i (by omega), opt_some, w64_succ (by omega)]
        refine ⟨⟨i + 1, rfl, by omega, ?_⟩, by omega⟩
        rw [take_filter hlt, if_pos h]
      · rw [w64_succ (by omega)]
        refine ⟨⟨i + 1, rfl, by omega, ?_⟩, by omega⟩
        rw [take_filter hlt, if_neg (by rw [h]; decide), List.append_nil]
    · have : i = ms.length := by omega
      subst this
      have hI := Ints_eq (a := ms.filter fun d => decide (d ∈ pr)) (b := ms.filter fun d => decide (d ∈ pr)) (by have : (ms.filter fun d => decide (d ∈ pr)).length ≤ ms.length := List.length_filter_le _ _; omega)
      rw [List.take_length]
      refine opt_of hI ?_
      rw [decide_eq_true rfl]
  · rw [if_neg hk] at hN
    have hc : ((([] : List Int).length : Int) = 0) = True := eq_true rfl
    simp only [WL, law4_PartialNeededIsReachable.retv, law4_PartialNeededIsReachable.r0, law4_PartialNeededIsReachable.r1, law4_PartialNeededIsReachable.r2, law4_PartialNeededIsReachable.r3, law4_PartialNeededIsReachable.r4, law4_PartialNeededIsReachable.r5, law4_PartialNeededIsReachable.r6, law4_PartialNeededIsReachable.r7, law4_PartialNeededIsReachable.r8, law4_PartialNeededIsReachable.r9, law4_PartialNeededIsReachable.r10, law4_PartialNeededIsReachable.r11, law4_PartialNeededIsReachable.r12, law4_PartialNeededIsReachable.r14, law4_PartialNeededIsReachable.r15, law4_PartialNeededIsReachable.r13, law4_PartialNeededIsReachable.r16, example_eq, Filter_eq hO hb.1 hb.2, hp, hN, hM, Bool.not_true, hc]
    exact ⟨fun e => absurd (e.elim False.elim id) hr', fun _ => ⟨fun _ => by rw [decide_true]; rfl, fun e => absurd e (by decide)⟩⟩
end Go.Proofs.Ytenkbkcddcnmeaa.Pure
