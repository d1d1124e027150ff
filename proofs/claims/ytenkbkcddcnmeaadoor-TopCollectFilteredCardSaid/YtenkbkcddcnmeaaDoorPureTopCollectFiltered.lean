/- TopCollectFiltered, the plain part. -/
import Derived.Test.YtenkbkcddcnmeaaDoorPp10
import Derived.Test.YtenkbkcddcnmeaaDoorOp
namespace Go.Proofs.YtenkbkcddcnmeaaDoor.Pure
open Go.Fx Go.RowKit
set_option linter.unusedVariables false
set_option linter.unusedSimpArgs false
set_option maxRecDepth 20000
theorem app1 {xs ys : List UInt8} (h : xs.length + ys.length ≤ 100000) : appL 1 xs ys = some (xs ++ ys) := appL_of (by omega)
theorem number_ex (b : List UInt8) (n : Int) (hb : b.length ≤ 10000) : ∃ r, pack_number.f b n = some r ∧ r.length = b.length + 8 := by
  refine retOf_ex ?_
  unfold pack_number.body
  simp only [WL, pack_number.retv, pack_number.r0, pack_number.r1, pack_number.r2, pack_number.r4, pack_number.r3, pack_number.r5]
  refine W_iter (fun s => ∃ i : Nat, i ≤ 8 ∧ s.s_5 = 56 - 8 * (i : Int) ∧ s.b_0.length = b.length + i) (fun s => (s.s_5 + 8).toNat) ⟨0, by omega, rfl, rfl⟩ ?_
  rintro s ⟨i, hi, e5, e0⟩
  simp only [WL, pack_number.retv, pack_number.r0, pack_number.r1, pack_number.r2, pack_number.r4, pack_number.r3, pack_number.r5, e5]
  refine ⟨fun hge => ⟨fun _ => ?_, fun h => absurd h (by omega)⟩, fun hlt => ?_⟩
  · refine opt_of (app1 (by simp only [List.length_cons, List.length_nil]; omega)) ?_
    rw [w64_id (by omega) (by omega)]
    exact ⟨⟨i + 1, by omega, by omega, by rw [List.length_append, List.length_singleton]; omega⟩, by omega⟩
  · exact ⟨_, rfl, by omega⟩
theorem entry_ex (b : List UInt8) (hb : b.length ≤ 1000) : ∃ r, pack_entry.f b o1 = some r ∧ r.length = b.length + 5 := by
  refine retOf_ex ?_
  unfold pack_entry.body
  simp only [WL, pack_entry.retv, pack_entry.r0, pack_entry.r1, pack_entry.r2, pack_entry.r3, pack_entry.r4, pack_entry.r5, pack_entry.r6, pack_entry.r7]
  refine opt_of (app1 (by simp only [List.length_cons, List.length_nil]; omega)) ?_
  generalize hb' : b ++ _ = b'
  have hl : b'.length = b.length + 4 := by rw [← hb', List.length_append]; rfl
  refine W_iter (fun s => s.o_3 = o1 ∧ s.b_0 = b' ∧ s.t_28 = 0 ∧ s.t_29 = 0) (fun s => 0) ⟨rfl, rfl, rfl, rfl⟩ ?_
  rintro s ⟨e3, e0, e28, e29⟩
  simp only [WL, pack_entry.retv, pack_entry.r0, pack_entry.r1, pack_entry.r2, pack_entry.r3, pack_entry.r4, pack_entry.r5, pack_entry.r6, pack_entry.r7, e3, e0, e28, e29]
  refine ⟨fun e => absurd e (by decide), fun _ => ?_⟩
  refine opt_of (app1 (by rw [show o1.Data.length = 1 from rfl]; omega)) ⟨_, rfl, ?_⟩
  show (b' ++ o1.Data).length = _
  rw [List.length_append, show o1.Data.length = 1 from rfl]; omega
theorem Build_ex : ∃ b, pack_Build.f ⟨[x1]⟩ = some (b, ⟨0, 0⟩) ∧ b.length = 16 := by
  obtain ⟨⟨b, f⟩, h1, rfl, h2⟩ : ∃ r, pack_Build.f ⟨[x1]⟩ = some r ∧ r.2 = ⟨0, 0⟩ ∧ r.1.length = 16 := by
    refine retOf_ex ?_
    unfold pack_Build.body
    simp only [WL, pack_Build.retv, pack_Build.r0, pack_Build.r1, pack_Build.r2, pack_Build.r3, pack_Build.r4, pack_Build.r5, pack_Build.r6, pack_Build.r7, pack_Build.r8, pack_Build.r9, pack_Build.r10, pack_Build.r11, pack_Build.r12, pack_Build.r13, Validate_ok okS1]
    refine W_iter (fun s => s.t_22 = [x1] ∧ s.t_23 = 1 ∧ ∃ i : Nat, s.t_24 = i ∧ i ≤ 1 ∧ s.b_5.length = 3 + 5 * i) (fun s => 1 - s.t_24.toNat) ⟨rfl, rfl, 0, rfl, by omega, rfl⟩ ?_
    rintro s ⟨e22, e23, i, e24, hi, e5⟩
    simp only [WL, pack_Build.retv, pack_Build.r0, pack_Build.r1, pack_Build.r2, pack_Build.r3, pack_Build.r4, pack_Build.r5, pack_Build.r6, pack_Build.r7, pack_Build.r8, pack_Build.r9, pack_Build.r10, pack_Build.r11, pack_Build.r12, pack_Build.r13, e22, e23, e24]
    refine ⟨fun hlt => ?_, fun hge => ?_⟩
    · have : i = 0 := by omega
      subst this
      obtain ⟨r, hr, hrl⟩ := entry_ex s.b_5 (by omega)
      refine opt_of (show idx [x1] ((0 : Nat) : Int) = some x1 from rfl) (opt_of hr ?_)
      exact ⟨⟨1, rfl, by omega, by omega⟩, by decide⟩
    · have : i = 1 := by omega
      subst this
      refine ⟨fun h => absurd h (by omega), fun _ => ?_⟩
      refine opt_of (Of_eq (by omega)) ?_
      obtain ⟨r, hr, hrl⟩ := number_ex s.b_5 (dig s.b_5) (by omega)
      exact opt_of hr ⟨_, rfl, rfl, by show r.length = 16; omega⟩
  exact ⟨b, h1, h2⟩
theorem ml_ex : ∃ d, top_mlStore.f = some (⟨[x1]⟩, d, true) := by
  obtain ⟨b, h1, h2⟩ := Build_ex
  refine ⟨17106956, retOf_of ?_⟩
  unfold top_mlStore.body
  simp only [WL, top_mlStore.retv, top_mlStore.r0, top_mlStore.r1, top_mlStore.r2, top_mlStore.r3]
  refine opt_of put1 ?_
  refine opt_of h1 ?_
  simp [h2]
theorem rch_keep {l : List StoredObject} (hO : OkS l) (limit : Int) {roots : List Int} {d : Int} : Rch (l.filter (keep limit)) roots d ↔ Rch l roots d := by
  constructor
  · intro h
    induction h with
    | root h => exact .root h
    | step hx _ hd ih => exact .step (List.mem_filter.1 hx).1 ih hd
  · intro h
    induction h with
    | root h => exact .root h
    | @step x d hx _ hd ih =>
      refine .step (List.mem_filter.2 ⟨hx, ?_⟩) ih hd
      have hb := (hO.obj x hx).1.bl
      have hp := List.length_pos_of_mem hd
      unfold keep
      rw [decide_eq_false (show ¬ x.Object.Kind = 1 from fun e => hb ⟨e, hp⟩)]
      rfl
open Classical in
theorem both {l : List StoredObject} (hO : OkS l) (limit : Int) (roots : List Int) : keptL (l.filter (keep limit)) roots true = (keptL l roots true).filter (keep limit) := by
  unfold keptL
  rw [List.filter_filter, List.filter_filter]
  refine List.filter_congr fun x hx => ?_
  rw [Bool.and_comm]
  congr 2
  rw [Bool.eq_iff_iff, decide_eq_true_eq, decide_eq_true_eq, rch_keep hO]
theorem TopCollectFiltered {s : ObjectStore} {r : RefStore} {ls : List Lease} {time limit : Int} (h1 : ok_ObjectStore s) (h2 : ok_RefStore r) (h3 : okL ok_Lease ls) (h4 : okI .i64 time) (h5 : okI .i64 limit) : top_TopCollectFiltered.f s r ls time limit = some true := by
  obtain ⟨w, hw, hc⟩ := collect_cases s r ls time
  obtain ⟨d, hml⟩ := ml_ex
  refine retOf_of ?_
  unfold top_TopCollectFiltered.body
  have hF : ∃ p q f, partial_Filter.f s limit = some (p, q, f) := by
    by_cases hs : (sFault s).Code = 0
    · obtain ⟨l⟩ := s
      have hO : OkS l := sFault_ok.1 hs
      by_cases hb : 0 ≤ limit ∧ limit ≤ 1000
      · exact ⟨_, _, _, Filter_eq hO hb.1 hb.2⟩
      · exact ⟨_, _, _, Filter_bad2 hO hb⟩
    · exact ⟨_, _, _, Filter_bad1 hs⟩
  rcases hc with ⟨hn, hc⟩ | ⟨rfl, hC⟩
  · obtain ⟨p, q, f, hF⟩ := hF
    simp only [WL, top_TopCollectFiltered.retv, top_TopCollectFiltered.r0, top_TopCollectFiltered.r1, top_TopCollectFiltered.r2, top_TopCollectFiltered.r3, top_TopCollectFiltered.r4, top_TopCollectFiltered.r5, top_TopCollectFiltered.r6, top_TopCollectFiltered.r7, top_TopCollectFiltered.r8, top_TopCollectFiltered.r9, top_TopCollectFiltered.r10, top_TopCollectFiltered.r11, top_TopCollectFiltered.r12, top_TopCollectFiltered.r13, top_TopCollectFiltered.r15, top_TopCollectFiltered.r16, top_TopCollectFiltered.r14, top_TopCollectFiltered.r17, hml, hc, hF, Bool.not_true, List.length_nil]
    simp [hn]
  obtain ⟨l⟩ := s
  have hC : Coll l r ls time := hC
  have hO := hC.ok
  have hll := hO.len
  have hE := hC.eq
  by_cases hb : 0 ≤ limit ∧ limit ≤ 1000
  case neg =>
    simp only [WL, top_TopCollectFiltered.retv, top_TopCollectFiltered.r0, top_TopCollectFiltered.r1, top_TopCollectFiltered.r2, top_TopCollectFiltered.r3, top_TopCollectFiltered.r4, top_TopCollectFiltered.r5, top_TopCollectFiltered.r6, top_TopCollectFiltered.r7, top_TopCollectFiltered.r8, top_TopCollectFiltered.r9, top_TopCollectFiltered.r10, top_TopCollectFiltered.r11, top_TopCollectFiltered.r12, top_TopCollectFiltered.r13, top_TopCollectFiltered.r15, top_TopCollectFiltered.r16, top_TopCollectFiltered.r14, top_TopCollectFiltered.r17, hml, hE, Filter_bad2 hO hb, Bool.not_true, List.length_nil]
    simp
  have hC2 : Coll (l.filter (keep limit)) r ls time := { hC with ok := hO.filter _ }
  have hE2 := hC2.eq
  generalize hro : rootsOf r ls time = roots at hE hE2
  rw [both hO limit roots] at hE2
  have hA := Filter_eq (kept_ok (roots := roots) hO true) hb.1 hb.2
  have hB := Filter_eq hO hb.1 hb.2
  have hTl : ((keptL l roots true).filter (keep limit)).length ≤ 40 := Nat.le_trans (List.length_filter_le _ _) (Nat.le_trans (List.length_filter_le _ _) hll)
  have hSt := Stores_eq (a := (keptL l roots true).filter (keep limit)) (b := (keptL l roots true).filter (keep limit)) (by omega) (fun x hx => by have := (hO.obj x (kept_mem.1 (List.mem_filter.1 hx).1).1).1.ll; omega)
  obtain ⟨q, hq⟩ : ∃ q, ((keptL l roots true).filter fun x => !keep limit x).map (·.Digest) = q := ⟨_, rfl⟩
  obtain ⟨p, hp⟩ : ∃ p, (l.filter fun x => !keep limit x).map (·.Digest) = p := ⟨_, rfl⟩
  rw [hq] at hA
  rw [hp] at hB
  simp only [WL, top_TopCollectFiltered.retv, top_TopCollectFiltered.r0, top_TopCollectFiltered.r1, top_TopCollectFiltered.r2, top_TopCollectFiltered.r3, top_TopCollectFiltered.r4, top_TopCollectFiltered.r5, top_TopCollectFiltered.r6, top_TopCollectFiltered.r7, top_TopCollectFiltered.r8, top_TopCollectFiltered.r9, top_TopCollectFiltered.r10, top_TopCollectFiltered.r11, top_TopCollectFiltered.r12, top_TopCollectFiltered.r13, top_TopCollectFiltered.r15, top_TopCollectFiltered.r16, top_TopCollectFiltered.r14, top_TopCollectFiltered.r17, hml, hE, hB, hA, hE2, hSt, Bool.not_true]
  have hpl : p.length ≤ 40 := by rw [← hp, List.length_map]; exact Nat.le_trans (List.length_filter_le _ _) hll
  have hql : q.length ≤ 40 := by rw [← hq, List.length_map]; exact Nat.le_trans (List.length_filter_le _ _) (Nat.le_trans (List.length_filter_le _ _) hll)
  have hsub : ∀ x ∈ q, x ∈ p := by
    intro x hx
    rw [← hq] at hx
    rw [← hp]
    obtain ⟨y, hy, rfl⟩ := List.mem_map.1 hx
    have hy' := List.mem_filter.1 hy
    exact List.mem_map.2 ⟨y, List.mem_filter.2 ⟨(kept_mem.1 hy'.1).1, hy'.2⟩, rfl⟩
  refine ⟨fun h => absurd h (by simp), fun h => absurd h (by simp), ?_⟩
  refine W_iter (fun s => s.t_18 = p ∧ s.t_21 = q ∧ ∃ i : Nat, s.t_26 = i ∧ i ≤ q.length) (fun s => q.length - s.t_26.toNat) ⟨rfl, rfl, 0, rfl, Nat.zero_le _⟩ ?_
  rintro s ⟨e18, e21, i, e26, hi⟩
  simp only [WL, top_TopCollectFiltered.retv, top_TopCollectFiltered.r0, top_TopCollectFiltered.r1, top_TopCollectFiltered.r2, top_TopCollectFiltered.r3, top_TopCollectFiltered.r4, top_TopCollectFiltered.r5, top_TopCollectFiltered.r6, top_TopCollectFiltered.r7, top_TopCollectFiltered.r8, top_TopCollectFiltered.r9, top_TopCollectFiltered.r10, top_TopCollectFiltered.r11, top_TopCollectFiltered.r12, top_TopCollectFiltered.r13, top_TopCollectFiltered.r15, top_TopCollectFiltered.r16, top_TopCollectFiltered.r14, top_TopCollectFiltered.r17, e18, e21, e26]
  refine ⟨fun hlt => ?_, fun hge => trivial⟩
  have hlt : i < q.length := by omega
  refine opt_of (idx_nat' hlt) (opt_of (Has_eq _ _ (by omega)) ⟨fun h => ?_, fun _ => ?_⟩)
  · rw [decide_eq_true (hsub _ (List.getElem_mem hlt))] at h; cases h
  · rw [w64_succ (by omega)]
    exact ⟨⟨i + 1, rfl, by omega⟩, by omega⟩
end Go.Proofs.YtenkbkcddcnmeaaDoor.Pure
