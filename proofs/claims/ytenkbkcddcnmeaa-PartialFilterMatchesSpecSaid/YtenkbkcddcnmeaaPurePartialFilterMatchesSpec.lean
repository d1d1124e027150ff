/- PartialFilterMatchesSpec, the plain part. -/
import Derived.Test.YtenkbkcddcnmeaaPp10
import Derived.Test.YtenkbkcddcnmeaaOp
namespace Go.Proofs.Ytenkbkcddcnmeaa.Pure
open Go.Fx Go.RowKit
set_option linter.unusedVariables false
set_option linter.unusedSimpArgs false
set_option maxRecDepth 20000
theorem PartialFilterMatchesSpec {s : ObjectStore} {limit : Int} (h1 : ok_ObjectStore s) (h2 : okI .i64 limit) : law4_PartialFilterMatchesSpec.f s limit = some true := by
  refine retOf_of ?_
  unfold law4_PartialFilterMatchesSpec.body
  rcases Classical.em (¬ (sFault s).Code = 0) with hS | hS
  · simp only [WL, law4_PartialFilterMatchesSpec.retv, law4_PartialFilterMatchesSpec.r0, law4_PartialFilterMatchesSpec.r1, law4_PartialFilterMatchesSpec.r2, law4_PartialFilterMatchesSpec.r3, law4_PartialFilterMatchesSpec.r4, law4_PartialFilterMatchesSpec.r5, law4_PartialFilterMatchesSpec.r6, law4_PartialFilterMatchesSpec.r7, law4_PartialFilterMatchesSpec.r8, law4_PartialFilterMatchesSpec.r9, law4_PartialFilterMatchesSpec.r10, law4_PartialFilterMatchesSpec.r11, law4_PartialFilterMatchesSpec.r13, law4_PartialFilterMatchesSpec.r12, law4_PartialFilterMatchesSpec.r14, example_eq, Filter_bad1 hS, StoreFault_eq, In_eq, Fault_eq, Bool.not_true, w64_00]
    refine ⟨fun e => absurd e hS, fun _ => ⟨fun _ => by rw [decide_true]; rfl, fun e => absurd e hS⟩⟩
  have hS := Classical.not_not.1 hS
  obtain ⟨l⟩ := s
  have hO : OkS l := sFault_ok.1 hS
  have hl := hO.len
  have hV := StoreFault_eq ⟨l⟩
  rw [sFault_eq0.2 hO] at hV
  rcases Classical.em (¬ (0 ≤ limit ∧ limit ≤ 1000)) with hb | hb
  · simp only [WL, law4_PartialFilterMatchesSpec.retv, law4_PartialFilterMatchesSpec.r0, law4_PartialFilterMatchesSpec.r1, law4_PartialFilterMatchesSpec.r2, law4_PartialFilterMatchesSpec.r3, law4_PartialFilterMatchesSpec.r4, law4_PartialFilterMatchesSpec.r5, law4_PartialFilterMatchesSpec.r6, law4_PartialFilterMatchesSpec.r7, law4_PartialFilterMatchesSpec.r8, law4_PartialFilterMatchesSpec.r9, law4_PartialFilterMatchesSpec.r10, law4_PartialFilterMatchesSpec.r11, law4_PartialFilterMatchesSpec.r13, law4_PartialFilterMatchesSpec.r12, law4_PartialFilterMatchesSpec.r14, example_eq, Filter_bad2 hO hb, hV, In_eq, Fault_eq, Bool.not_true, w64_00]
    exact ⟨fun _ => ⟨fun _ => by rw [decide_true]; rfl, fun e => absurd e (by decide)⟩, fun e => absurd e hb⟩
  have hb := Classical.not_not.1 hb
  simp only [WL, law4_PartialFilterMatchesSpec.retv, law4_PartialFilterMatchesSpec.r0, law4_PartialFilterMatchesSpec.r1, law4_PartialFilterMatchesSpec.r2, law4_PartialFilterMatchesSpec.r3, law4_PartialFilterMatchesSpec.r4, law4_PartialFilterMatchesSpec.r5, law4_PartialFilterMatchesSpec.r6, law4_PartialFilterMatchesSpec.r7, law4_PartialFilterMatchesSpec.r8, law4_PartialFilterMatchesSpec.r9, law4_PartialFilterMatchesSpec.r10, law4_PartialFilterMatchesSpec.r11, law4_PartialFilterMatchesSpec.r13, law4_PartialFilterMatchesSpec.r12, law4_PartialFilterMatchesSpec.r14, example_eq, Filter_eq hO hb.1 hb.2, hV, In_eq, Fault_eq, Bool.not_true, mkL_eq (show l.length ≤ 1000 by omega)]
  refine ⟨fun e => absurd hb e, fun _ => ?_⟩
  refine W_iter (fun s => s.t_2 = ⟨l⟩ ∧ s.t_1 = limit ∧ s.t_5 = ⟨l.filter (keep limit)⟩ ∧ s.t_6 = (l.filter fun x => !keep limit x).map (·.Digest) ∧ s.t_7 = ⟨0, 0⟩ ∧ ∃ i : Nat, s.t_10 = i ∧ i ≤ l.length ∧ s.t_9.length = l.length ∧ ∀ (j : Nat) (h : j < l.length), j < i → s.t_9[j]? = some (keep limit l[j])) (fun s => l.length - s.t_10.toNat) ⟨rfl, rfl, rfl, rfl, rfl, 0, rfl, Nat.zero_le _, List.length_replicate, fun j _ h => absurd h (Nat.not_lt_zero _)⟩ ?_
  rintro s ⟨e2, e1, e5, e6, e7, i, e10, hi, h9l, h9⟩
  generalize h9e : s.t_9 = m at h9l h9
  simp only [WL, law4_PartialFilterMatchesSpec.retv, law4_PartialFilterMatchesSpec.r0, law4_PartialFilterMatchesSpec.r1, law4_PartialFilterMatchesSpec.r2, law4_PartialFilterMatchesSpec.r3, law4_PartialFilterMatchesSpec.r4, law4_PartialFilterMatchesSpec.r5, law4_PartialFilterMatchesSpec.r6, law4_PartialFilterMatchesSpec.r7, law4_PartialFilterMatchesSpec.r8, law4_PartialFilterMatchesSpec.r9, law4_PartialFilterMatchesSpec.r10, law4_PartialFilterMatchesSpec.r11, law4_PartialFilterMatchesSpec.r13, law4_PartialFilterMatchesSpec.r12, law4_PartialFilterMatchesSpec.r14, e2, e1, e5, e6, e7, e10, h9e]
  refine ⟨fun hlt => ?_, fun hge => ?_⟩
  · have hlt : i < l.length := by omega
    have hnext : ∀ b : Bool, b = keep limit l[i] → (∃ i1 : Nat, w64 ((i : Int) + 1) = i1 ∧ i1 ≤ l.length ∧ (setL m (i : Int) b).length = l.length ∧ ∀ (j : Nat) (h : j < l.length), j < i1 → (setL m (i : Int) b)[j]? = some (keep limit l[j])) ∧ l.length - (w64 ((i : Int) + 1)).toNat < l.length - (i : Int).toNat := by
      intro b hb
      rw [w64_succ (by omega)]
      refine ⟨⟨i + 1, rfl, by omega, by unfold setL; rw [List.length_set]; exact h9l, fun j hj hji => ?_⟩, by omega⟩
      unfold setL
      rw [Int.toNat_natCast, List.getElem?_set]
      by_cases e : i = j
      · subst e; rw [if_pos rfl, if_pos (by omega), hb]
      · rw [if_neg e]; exact h9 j hj (by omega)
    refine opt_of (idx_nat' hlt) ⟨fun hk => opt_of (idx_nat' (xs := m) (by omega)) ?_, fun hk => opt_of (idx_nat' hlt) (opt_of (idx_nat' (xs := m) (by omega)) ?_)⟩
    · exact hnext true (by unfold keep; rw [decide_eq_false hk]; rfl)
    · refine hnext _ ?_
      unfold keep
      rw [decide_eq_true hk, Bool.true_and, ← decide_not]
      exact decide_eq_decide.2 (by omega)
  · have : i = l.length := by omega
    subst this
    have hm : m = l.map (keep limit) := by
      refine List.ext_getElem (by rw [List.length_map]; exact h9l) fun j h1 h2 => ?_
      have hj : j < l.length := by omega
      have := h9 j hj hj
      rw [List.getElem?_eq_getElem h1] at this
      rw [List.getElem_map]
      exact Option.some.inj this
    subst hm
    have hf1 : (l.filter fun x => keep limit x == true) = l.filter (keep limit) := List.filter_congr fun x _ => by simp
    have hf2 : (l.filter fun x => keep limit x == false) = l.filter fun x => !keep limit x := List.filter_congr fun x _ => by cases keep limit x <;> rfl
    have hC1 := Chosen_eq (l := l) (by omega) (keep limit) true
    have hC2 := Chosen_eq (l := l) (by omega) (keep limit) false
    rw [hf1] at hC1
    rw [hf2] at hC2
    have hSt := Stores_eq (a := l.filter (keep limit)) (b := l.filter (keep limit)) (by have := (hO.filter (keep limit)).len; omega) (fun x hx => by have := ((hO.filter (keep limit)).obj x hx).1.ll; omega)
    have hD := DigestsOf_eq (l := l.filter fun x => !keep limit x) (by have := (hO.filter (fun x => !keep limit x)).len; omega)
    have hI := Ints_eq (a := (l.filter fun x => !keep limit x).map (·.Digest)) (b := (l.filter fun x => !keep limit x).map (·.Digest)) (by rw [List.length_map]; have := (hO.filter (fun x => !keep limit x)).len; omega)
    refine opt_of hC1 (opt_of hSt ⟨fun _ => opt_of hC2 (opt_of hD (opt_of hI ?_)), fun e => absurd (decide_eq_true rfl) e⟩)
    rw [decide_eq_true rfl]
end Go.Proofs.Ytenkbkcddcnmeaa.Pure
