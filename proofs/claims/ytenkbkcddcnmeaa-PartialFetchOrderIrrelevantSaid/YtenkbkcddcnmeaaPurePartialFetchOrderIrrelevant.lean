/- PartialFetchOrderIrrelevant, the plain part. -/
import Derived.Test.YtenkbkcddcnmeaaPp11
import Derived.Test.YtenkbkcddcnmeaaOp
import Derived.Test.YtenkbkcddcnmeaaFx14
namespace Go.Proofs.Ytenkbkcddcnmeaa.Pure
open Go.Fx Go.RowKit
set_option linter.unusedVariables false
set_option linter.unusedSimpArgs false
set_option maxRecDepth 20000
/-- What a fetch of filtered objects answers: it depends on the wants as a set, and on whether they come twice. -/
theorem fetch_wants {l : List StoredObject} (hO : OkS l) (limit : Int) (ws : List Int) (hw : ws.length ≤ 40) :
    (ws.Nodup ∧ (∀ d ∈ ws, d ∈ (l.filter fun x => !keep limit x).map (·.Digest)) ∧ ∃ r, fetchR (l.filter (keep limit)) ((l.filter fun x => !keep limit x).map (·.Digest)) l ws = (⟨r⟩, left ((l.filter fun x => !keep limit x).map (·.Digest)) ws, ⟨0, 0⟩) ∧ OkS r ∧ ∀ x, x ∈ r ↔ x ∈ l.filter (keep limit) ∨ (x ∈ l ∧ x.Digest ∈ ws)) ∨
    (¬ (ws.Nodup ∧ ∀ d ∈ ws, d ∈ (l.filter fun x => !keep limit x).map (·.Digest)) ∧ ∃ f : Fault, ¬ f.Code = 0 ∧ fetchR (l.filter (keep limit)) ((l.filter fun x => !keep limit x).map (·.Digest)) l ws = (⟨[]⟩, [], f)) := by
  have hP := keep_P hO limit
  have hK := hO.filter (keep limit)
  have hlen := keep_len (l := l) limit
  rcases Classical.em (ws.Nodup ∧ ∀ d ∈ ws, d ∈ (l.filter fun x => !keep limit x).map (·.Digest)) with h | h
  · have hsub : ws.length ≤ ((l.filter fun x => !keep limit x).map (·.Digest)).length := by
      have h1 : (ws.mergeSort fun x y => decide (x ≤ y)) = ((l.filter fun x => !keep limit x).map (·.Digest)).filter fun d => decide (d ∈ ws) := inc_ext (sort_inc h.1) (hP.inc.sublist List.filter_sublist) fun d => by
        rw [List.mem_mergeSort, List.mem_filter, decide_eq_true_eq]
        exact ⟨fun hd => ⟨h.2 d hd, hd⟩, fun hd => hd.2⟩
      have h2 := congrArg List.length h1
      rw [List.length_mergeSort] at h2
      rw [h2]
      exact List.length_filter_le _ _
    obtain ⟨r, h1, h2, h3⟩ := fetchR_good hK hP hO h.1 (fun d hd => ⟨h.2 d hd, keep_all limit (h.2 d hd)⟩) (by have := hO.len; omega)
    exact .inl ⟨h.1, h.2, r, h1, h2, h3⟩
  · rcases fetchR_cases (ws := ws) hK hP hO with ⟨r, h1, h2, h3⟩ | ⟨f, h1, _, h3⟩
    · have := fetchL_only ws [] (l.filter (keep limit)) 0 (by rw [h1])
      exact absurd ⟨this.1, fun d hd => (this.2 d hd).1⟩ h
    · exact .inr ⟨h, f, h1, h3⟩
theorem PartialFetchOrderIrrelevant {s : ObjectStore} {limit : Int} {ws : List Int} (h1 : ok_ObjectStore s) (h2 : okI .i64 limit) (h3 : okL (okI .i64) ws) (hz : ws.length * 8 ≤ reachBytes) : law4_PartialFetchOrderIrrelevant.f s limit ws = some true := by
  have hz : ws.length * 8 < 140737488355328 := Nat.lt_of_le_of_lt hz (by decide)
  refine retOf_of ?_
  unfold law4_PartialFetchOrderIrrelevant.body
  rcases Classical.em (¬ (sFault s).Code = 0) with hS | hS
  · simp only [WL, law4_PartialFetchOrderIrrelevant.retv, law4_PartialFetchOrderIrrelevant.r0, law4_PartialFetchOrderIrrelevant.r1, law4_PartialFetchOrderIrrelevant.r2, law4_PartialFetchOrderIrrelevant.r3, law4_PartialFetchOrderIrrelevant.r4, law4_PartialFetchOrderIrrelevant.r5, law4_PartialFetchOrderIrrelevant.r6, law4_PartialFetchOrderIrrelevant.r7, law4_PartialFetchOrderIrrelevant.r8, law4_PartialFetchOrderIrrelevant.r10, law4_PartialFetchOrderIrrelevant.r9, law4_PartialFetchOrderIrrelevant.r11, law4_PartialFetchOrderIrrelevant.r12, law4_PartialFetchOrderIrrelevant.r13, example_eq, Filter_bad1 hS, Bool.not_true, w64_00]
    exact ⟨fun _ => by rw [decide_true], fun e => absurd e hS⟩
  have hS := Classical.not_not.1 hS
  obtain ⟨l⟩ := s
  have hO : OkS l := sFault_ok.1 hS
  have hl := hO.len
  rcases Classical.em (¬ (0 ≤ limit ∧ limit ≤ 1000)) with hb | hb
  · simp only [WL, law4_PartialFetchOrderIrrelevant.retv, law4_PartialFetchOrderIrrelevant.r0, law4_PartialFetchOrderIrrelevant.r1, law4_PartialFetchOrderIrrelevant.r2, law4_PartialFetchOrderIrrelevant.r3, law4_PartialFetchOrderIrrelevant.r4, law4_PartialFetchOrderIrrelevant.r5, law4_PartialFetchOrderIrrelevant.r6, law4_PartialFetchOrderIrrelevant.r7, law4_PartialFetchOrderIrrelevant.r8, law4_PartialFetchOrderIrrelevant.r10, law4_PartialFetchOrderIrrelevant.r9, law4_PartialFetchOrderIrrelevant.r11, law4_PartialFetchOrderIrrelevant.r12, law4_PartialFetchOrderIrrelevant.r13, example_eq, Filter_bad2 hO hb, Bool.not_true, w64_00]
    exact ⟨fun _ => by rw [decide_true], fun e => absurd e (by decide)⟩
  have hb := Classical.not_not.1 hb
  have hP := keep_P hO limit
  have hK := hO.filter (keep limit)
  simp only [WL, law4_PartialFetchOrderIrrelevant.retv, law4_PartialFetchOrderIrrelevant.r0, law4_PartialFetchOrderIrrelevant.r1, law4_PartialFetchOrderIrrelevant.r2, law4_PartialFetchOrderIrrelevant.r3, law4_PartialFetchOrderIrrelevant.r4, law4_PartialFetchOrderIrrelevant.r5, law4_PartialFetchOrderIrrelevant.r6, law4_PartialFetchOrderIrrelevant.r7, law4_PartialFetchOrderIrrelevant.r8, law4_PartialFetchOrderIrrelevant.r10, law4_PartialFetchOrderIrrelevant.r9, law4_PartialFetchOrderIrrelevant.r11, law4_PartialFetchOrderIrrelevant.r12, law4_PartialFetchOrderIrrelevant.r13, example_eq, Filter_eq hO hb.1 hb.2, Bool.not_true]
  have hw0 : w64 ((ws.length : Int) - 1) = (ws.length : Int) - 1 := w64_id (by omega) (by omega)
  rw [hw0]
  refine W_iter (fun s => s.t_2 = ws ∧ s.t_3 = ⟨l⟩ ∧ s.t_7 = ⟨l.filter (keep limit)⟩ ∧ s.t_8 = (l.filter fun x => !keep limit x).map (·.Digest) ∧ ∃ n : Nat, s.t_11 = (n : Int) - 1 ∧ n ≤ ws.length ∧ s.t_10 = (ws.drop n).reverse) (fun s => (s.t_11 + 1).toNat) ⟨rfl, rfl, rfl, rfl, ws.length, rfl, Nat.le_refl _, by rw [List.drop_length]; rfl⟩ ?_
  rintro s ⟨e2, e3, e7, e8, n, e11, hn, e10⟩
  simp only [WL, law4_PartialFetchOrderIrrelevant.retv, law4_PartialFetchOrderIrrelevant.r0, law4_PartialFetchOrderIrrelevant.r1, law4_PartialFetchOrderIrrelevant.r2, law4_PartialFetchOrderIrrelevant.r3, law4_PartialFetchOrderIrrelevant.r4, law4_PartialFetchOrderIrrelevant.r5, law4_PartialFetchOrderIrrelevant.r6, law4_PartialFetchOrderIrrelevant.r7, law4_PartialFetchOrderIrrelevant.r8, law4_PartialFetchOrderIrrelevant.r10, law4_PartialFetchOrderIrrelevant.r9, law4_PartialFetchOrderIrrelevant.r11, law4_PartialFetchOrderIrrelevant.r12, law4_PartialFetchOrderIrrelevant.r13, e2, e3, e7, e8, e11, e10]
  refine ⟨fun hge => ?_, fun hlt => ?_⟩
  · obtain ⟨k, rfl⟩ : ∃ k, n = k + 1 := ⟨n - 1, by omega⟩
    have hk : k < ws.length := by omega
    rw [show ((k + 1 : Nat) : Int) - 1 = (k : Int) by omega]
    refine opt_of (idx_nat' hk) ?_
    have hlen : (ws.drop (k + 1)).reverse.length ≤ ws.length - 1 := by rw [List.length_reverse, List.length_drop]; omega
    rw [appL_of (by rw [List.length_singleton]; omega), opt_some, w64_id (by omega) (by omega)]
    refine ⟨⟨k, rfl, by omega, ?_⟩, by omega⟩
    rw [List.drop_eq_getElem_cons hk, List.reverse_cons]
  · have : n = 0 := by omega
    subst this
    rw [List.drop_zero]
    have hrl : ws.reverse.length = ws.length := List.length_reverse
    rcases Classical.em (40 < ws.length) with h40 | h40
    · have hF := Fetch_bad3 hK hP hO h40
      have hG := Fetch_bad3 hK hP hO (ws := ws.reverse) (by omega)
      have hSt := Stores_eq (a := []) (b := []) (by decide) (fun x h => by simp at h)
      have hI := Ints_eq (a := []) (b := []) (by decide)
      simp only [WL, hF, hG, hSt, hI]
      rw [decide_true]
    have hF := Fetch_eq hK hP hO (ws := ws) (by omega)
    have hG := Fetch_eq hK hP hO (ws := ws.reverse) (by omega)
    have hrn : ws.reverse.Nodup ↔ ws.Nodup := (List.reverse_perm ws).nodup_iff
    rcases fetch_wants hO limit ws (by omega) with ⟨a1, a2, r, a3, a4, a5⟩ | ⟨a1, f, a2, a3⟩ <;> rcases fetch_wants hO limit ws.reverse (by omega) with ⟨b1, b2, r', b3, b4, b5⟩ | ⟨b1, g, b2, b3⟩
    · rw [a3] at hF
      rw [b3] at hG
      have hrr : r' = r := sto_inc_ext b4.inc a4.inc fun x => by rw [a5, b5, List.mem_reverse]
      have hll : left ((l.filter fun x => !keep limit x).map (·.Digest)) ws.reverse = left ((l.filter fun x => !keep limit x).map (·.Digest)) ws := inc_ext (left_inc hP) (left_inc hP) fun d => by rw [left_mem, left_mem, List.mem_reverse]
      rw [hrr, hll] at hG
      have hSt := Stores_eq (a := r) (b := r) (by have := a4.len; omega) (fun x hx => by have := (a4.obj x hx).1.ll; omega)
      have hI := Ints_eq (a := left ((l.filter fun x => !keep limit x).map (·.Digest)) ws) (b := left ((l.filter fun x => !keep limit x).map (·.Digest)) ws) (by have := left_len (dn := ws) hP; omega)
      simp only [WL, hF, hG, hSt, hI]
      rw [decide_true]
    · exact absurd ⟨hrn.2 a1, fun d hd => a2 d (List.mem_reverse.1 hd)⟩ b1
    · exact absurd ⟨hrn.1 b1, fun d hd => b2 d (List.mem_reverse.2 hd)⟩ a1
    · rw [a3] at hF
      rw [b3] at hG
      have hSt := Stores_eq (a := []) (b := []) (by decide) (fun x h => by simp at h)
      have hI := Ints_eq (a := []) (b := []) (by decide)
      simp only [WL, hF, hG, hSt, hI]
      exact ⟨fun _ => by rw [decide_true], fun e => absurd (by rw [decide_eq_false a2, decide_eq_false b2]) e⟩
end Go.Proofs.Ytenkbkcddcnmeaa.Pure
