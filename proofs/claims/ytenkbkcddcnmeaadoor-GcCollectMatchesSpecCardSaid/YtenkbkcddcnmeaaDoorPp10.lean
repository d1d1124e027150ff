/- What gc.Collect answers, in every case. -/
import Derived.Test.YtenkbkcddcnmeaaDoorPp9
import Derived.Test.YtenkbkcddcnmeaaDoorPp5
namespace Go.Proofs.YtenkbkcddcnmeaaDoor
open Go.Fx
set_option linter.unusedVariables false
set_option linter.unusedSimpArgs false
set_option maxRecDepth 20000
theorem HeldBy_eq {r : RefStore} {ls : List Lease} {time : Int} (hr : r.Refs.length ≤ 30) (hl : ls.length ≤ 20) : ref4_HeldBy.f r ls time = some (rootsOf r ls time) := by
  refine retOf_of ?_
  unfold ref4_HeldBy.body
  simp only [WL, ref4_HeldBy.retv, ref4_HeldBy.r0, ref4_HeldBy.r1, ref4_HeldBy.r2, ref4_HeldBy.r3, ref4_HeldBy.r5, ref4_HeldBy.r4, ref4_HeldBy.r6, ref4_HeldBy.r7, ref4_HeldBy.r9, ref4_HeldBy.r10, ref4_HeldBy.r8, ref4_HeldBy.r11]
  refine W_iter (fun s => s.leases_1 = ls ∧ s.time_2 = time ∧ s.r_3 = r ∧ ∃ i : Nat, s.i_8 = i ∧ i ≤ r.Refs.length ∧ s.out_7 = (r.Refs.take i).map (·.Target)) (fun s => r.Refs.length - s.i_8.toNat) ⟨rfl, rfl, rfl, 0, rfl, Nat.zero_le _, rfl⟩ ?_
  rintro s ⟨e1, e2, e3, i, e8, hi, e7⟩
  simp only [WL, ref4_HeldBy.retv, ref4_HeldBy.r0, ref4_HeldBy.r1, ref4_HeldBy.r2, ref4_HeldBy.r3, ref4_HeldBy.r5, ref4_HeldBy.r4, ref4_HeldBy.r6, ref4_HeldBy.r7, ref4_HeldBy.r9, ref4_HeldBy.r10, ref4_HeldBy.r8, ref4_HeldBy.r11, e1, e2, e3, e8, e7]
  refine ⟨fun hlt => ?_, fun hge => ?_⟩
  · have hlt : i < r.Refs.length := by omega
    refine opt_of (idx_nat' hlt) ?_
    rw [app8i (by rw [List.length_map, List.length_take]; omega), opt_some, w64_succ (by omega)]
    exact ⟨⟨i + 1, rfl, by omega, by rw [List.take_succ_eq_append_getElem hlt, List.map_append]; rfl⟩, by omega⟩
  have : i = r.Refs.length := by omega
  subst this
  rw [List.take_length]
  clear e1 e2 e3 e8 e7 hi hge
  refine W_iter (fun s => s.leases_1 = ls ∧ s.time_2 = time ∧ ∃ i : Nat, s.i_9 = i ∧ i ≤ ls.length ∧ s.out_7 = r.Refs.map (·.Target) ++ ((ls.take i).filter fun x => decide (time < x.Until)).map (·.Digest)) (fun s => ls.length - s.i_9.toNat) ⟨rfl, rfl, 0, rfl, Nat.zero_le _, by rw [List.take_zero]; simp⟩ ?_
  clear s
  rintro s ⟨e1, e2, i, e9, hi, e7⟩
  simp only [WL, ref4_HeldBy.retv, ref4_HeldBy.r0, ref4_HeldBy.r1, ref4_HeldBy.r2, ref4_HeldBy.r3, ref4_HeldBy.r5, ref4_HeldBy.r4, ref4_HeldBy.r6, ref4_HeldBy.r7, ref4_HeldBy.r9, ref4_HeldBy.r10, ref4_HeldBy.r8, ref4_HeldBy.r11, e1, e2, e9, e7]
  refine ⟨fun hlt => ?_, fun hge => ?_⟩
  · have hlt : i < ls.length := by omega
    refine opt_of (idx_nat' hlt) ⟨fun hu => opt_of (idx_nat' hlt) ?_, fun hu => ?_⟩
    · have hu' : time < ls[i].Until := by simpa using hu
      have h1 := List.length_filter_le (fun x : Lease => decide (time < x.Until)) (ls.take i)
      rw [List.length_take] at h1
      rw [app8i (by rw [List.length_append, List.length_map, List.length_map]; omega), opt_some, w64_succ (by omega)]
      exact ⟨⟨i + 1, rfl, by omega, by rw [take_filter hlt, if_pos (by simpa using hu'), List.map_append, List.append_assoc]; rfl⟩, by omega⟩
    · have hu' : ¬ time < ls[i].Until := by simpa using hu
      rw [w64_succ (by omega)]
      exact ⟨⟨i + 1, rfl, by omega, by rw [take_filter hlt, if_neg (by simpa using hu'), List.append_nil]⟩, by omega⟩
  have : i = ls.length := by omega
  subst this
  rw [List.take_length]
  rfl
def endF (ls : List Lease) (time : Int) : Fault := if ¬ (leaseF ls 0).Code = 0 then leaseF ls 0 else if time < 0 ∨ 100000 < time then ⟨3, -2⟩ else ⟨0, 0⟩
theorem CollectFault_eq {l : List StoredObject} (hS : OkS l) {r : RefStore} (hv : ref3_RefsFault.f r = some ⟨0, 0⟩) {ls : List Lease} (hl : ls.length ≤ 20) (time : Int) : ref4_CollectFault.f ⟨l⟩ r ls time = some (endF ls time) := by
  have hV := StoreFault_eq ⟨l⟩
  rw [sFault_eq0.2 hS] at hV
  refine retOf_of ?_
  unfold ref4_CollectFault.body
  simp only [WL, ref4_CollectFault.retv, ref4_CollectFault.r0, ref4_CollectFault.r1, ref4_CollectFault.r2, ref4_CollectFault.r3, ref4_CollectFault.r4, ref4_CollectFault.r5, ref4_CollectFault.r6, ref4_CollectFault.r7, ref4_CollectFault.r8, ref4_CollectFault.r9, ref4_CollectFault.r10, ref4_CollectFault.r12, ref4_CollectFault.r13, ref4_CollectFault.r11, ref4_CollectFault.r14, ref4_CollectFault.r15, ref4_CollectFault.r16, hV, hv, Fault_eq]
  refine ⟨fun e => by omega, fun _ => ?_⟩
  refine W_iter (fun s => s.leases_2 = ls ∧ s.time_3 = time ∧ ∃ i : Nat, s.i_11 = i ∧ i ≤ ls.length ∧ leaseF (ls.drop i) i = leaseF ls 0) (fun s => ls.length - s.i_11.toNat) ⟨rfl, rfl, 0, rfl, Nat.zero_le _, rfl⟩ ?_
  rintro s ⟨e2, e3, i, e11, hi, hF⟩
  simp only [WL, ref4_CollectFault.retv, ref4_CollectFault.r0, ref4_CollectFault.r1, ref4_CollectFault.r2, ref4_CollectFault.r3, ref4_CollectFault.r4, ref4_CollectFault.r5, ref4_CollectFault.r6, ref4_CollectFault.r7, ref4_CollectFault.r8, ref4_CollectFault.r9, ref4_CollectFault.r10, ref4_CollectFault.r12, ref4_CollectFault.r13, ref4_CollectFault.r11, ref4_CollectFault.r14, ref4_CollectFault.r15, ref4_CollectFault.r16, e2, e3, e11, Fault_eq, In_eq]
  refine ⟨fun hlt => ?_, fun hge => ?_⟩
  · have hlt : i < ls.length := by omega
    refine opt_of (idx_nat' hlt) ?_
    by_cases hb : lbad ls[i] = true
    · have hf := leaseF_bad hF hlt hb
      have hres : Ctl.ret (⟨3, w64 (-3 - (i : Int))⟩ : Fault) = (Ctl.ret (endF ls time) : Ctl ref4_CollectFault.S Fault) := by
        unfold endF
        rw [hf, if_pos (show ¬ (3 : Int) = 0 by decide), w64_id (by omega) (by omega)]
      unfold lbad at hb
      simp only [WL] at hb
      refine ⟨fun _ => hres, fun h1 => opt_of (idx_nat' hlt) ⟨fun _ => hres, fun h2 => ?_⟩⟩
      omega
    · have hb' : lbad ls[i] = false := by simpa using hb
      have hf := leaseF_next hF hlt hb'
      unfold lbad at hb'
      simp only [WL] at hb'
      refine ⟨fun h1 => absurd h1 (by omega), fun h1 => opt_of (idx_nat' hlt) ⟨fun h2 => absurd h2 (by omega), fun h2 => ?_⟩⟩
      rw [w64_succ (by omega)]
      exact ⟨⟨i + 1, rfl, by omega, hf⟩, by omega⟩
  have : i = ls.length := by omega
  subst this
  have hf0 := leaseF_end hF
  unfold endF
  rw [hf0, if_neg (by decide)]
  refine ⟨fun hb => ?_, fun hb => ?_⟩
  · rw [if_pos (by omega)]
  · rw [if_neg (by omega)]
theorem CollectFault_bad1 {s : ObjectStore} {r : RefStore} {ls : List Lease} {time : Int} (h : ¬ (sFault s).Code = 0) : ref4_CollectFault.f s r ls time = some (sFault s) := by
  refine retOf_of ?_
  unfold ref4_CollectFault.body
  simp only [WL, ref4_CollectFault.retv, ref4_CollectFault.r0, ref4_CollectFault.r1, ref4_CollectFault.r2, ref4_CollectFault.r3, ref4_CollectFault.r4, ref4_CollectFault.r5, ref4_CollectFault.r6, ref4_CollectFault.r7, ref4_CollectFault.r8, ref4_CollectFault.r9, ref4_CollectFault.r10, ref4_CollectFault.r12, ref4_CollectFault.r13, ref4_CollectFault.r11, ref4_CollectFault.r14, ref4_CollectFault.r15, ref4_CollectFault.r16, StoreFault_eq]
  refine ⟨fun _ => trivial, fun e => absurd e h⟩
theorem CollectFault_bad2 {l : List StoredObject} (hS : OkS l) {r : RefStore} {f : Fault} (hv : ref3_RefsFault.f r = some f) (hf : ¬ f.Code = 0) {ls : List Lease} {time : Int} : ref4_CollectFault.f ⟨l⟩ r ls time = some ⟨f.Code, -1⟩ := by
  have hV := StoreFault_eq ⟨l⟩
  rw [sFault_eq0.2 hS] at hV
  refine retOf_of ?_
  unfold ref4_CollectFault.body
  simp only [WL, ref4_CollectFault.retv, ref4_CollectFault.r0, ref4_CollectFault.r1, ref4_CollectFault.r2, ref4_CollectFault.r3, ref4_CollectFault.r4, ref4_CollectFault.r5, ref4_CollectFault.r6, ref4_CollectFault.r7, ref4_CollectFault.r8, ref4_CollectFault.r9, ref4_CollectFault.r10, ref4_CollectFault.r12, ref4_CollectFault.r13, ref4_CollectFault.r11, ref4_CollectFault.r14, ref4_CollectFault.r15, ref4_CollectFault.r16, hV, hv, Fault_eq]
  refine ⟨fun _ => trivial, fun e => absurd e hf⟩
theorem CollectFault_bad3 {l : List StoredObject} (hS : OkS l) {r : RefStore} (hv : ref3_RefsFault.f r = some ⟨0, 0⟩) {ls : List Lease} (hl : 20 < ls.length) {time : Int} : ref4_CollectFault.f ⟨l⟩ r ls time = some ⟨2, -2⟩ := by
  have hV := StoreFault_eq ⟨l⟩
  rw [sFault_eq0.2 hS] at hV
  refine retOf_of ?_
  unfold ref4_CollectFault.body
  simp only [WL, ref4_CollectFault.retv, ref4_CollectFault.r0, ref4_CollectFault.r1, ref4_CollectFault.r2, ref4_CollectFault.r3, ref4_CollectFault.r4, ref4_CollectFault.r5, ref4_CollectFault.r6, ref4_CollectFault.r7, ref4_CollectFault.r8, ref4_CollectFault.r9, ref4_CollectFault.r10, ref4_CollectFault.r12, ref4_CollectFault.r13, ref4_CollectFault.r11, ref4_CollectFault.r14, ref4_CollectFault.r15, ref4_CollectFault.r16, hV, hv, Fault_eq]
  refine ⟨fun _ => trivial, fun e => by omega⟩
/-- The collection goes through. -/
structure Coll (l : List StoredObject) (r : RefStore) (ls : List Lease) (time : Int) : Prop where
  ok : OkS l
  rl : r.Refs.length ≤ 30
  ll : ls.length ≤ 20
  lf : (leaseF ls 0).Code = 0
  tm : ¬ (time < 0 ∨ 100000 < time)
  rv : refs_Validate.f r = some ⟨0, 0⟩
theorem Coll.eq {l : List StoredObject} {r : RefStore} {ls : List Lease} {time : Int} (h : Coll l r ls time) : gc_Collect.f ⟨l⟩ r ls time = some (⟨keptL l (rootsOf r ls time) true⟩, (keptL l (rootsOf r ls time) false).map (·.Digest), ⟨0, 0⟩) := by
  rw [Collect_eq h.ok h.rv h.rl h.ll]
  unfold collR
  rw [if_neg (fun e => e h.lf), if_neg h.tm]
theorem Coll.len {l : List StoredObject} {r : RefStore} {ls : List Lease} {time : Int} (h : Coll l r ls time) (b : Bool) : (keptL l (rootsOf r ls time) b).length ≤ 40 := Nat.le_trans (List.length_filter_le _ _) h.ok.len
theorem collect_cases (s : ObjectStore) (r : RefStore) (ls : List Lease) (time : Int) : ∃ w, ref4_CollectFault.f s r ls time = some w ∧ ((¬ w.Code = 0 ∧ gc_Collect.f s r ls time = some (⟨[]⟩, [], w)) ∨ (w = ⟨0, 0⟩ ∧ Coll s.Objects r ls time)) := by
  by_cases hs : (sFault s).Code = 0
  case neg => exact ⟨_, CollectFault_bad1 hs, .inl ⟨hs, Collect_bad1 hs⟩⟩
  obtain ⟨l⟩ := s
  have hO : OkS l := sFault_ok.1 hs
  obtain ⟨f, h1, h2, h3⟩ := refs_ex r
  by_cases hf : f.Code = 0
  case neg => exact ⟨_, CollectFault_bad2 hO h2 hf, .inl ⟨hf, Collect_bad2 hO h1 hf⟩⟩
  obtain ⟨rfl, hr⟩ := h3 hf
  by_cases hl : ls.length ≤ 20
  case neg => exact ⟨_, CollectFault_bad3 hO h2 (by omega), .inl ⟨by decide, Collect_bad3 hO h1 (by omega)⟩⟩
  refine ⟨_, CollectFault_eq hO h2 hl time, ?_⟩
  have hC := Collect_eq hO h1 hr hl time
  unfold collR at hC
  unfold endF
  by_cases h4 : (leaseF ls 0).Code = 0
  case neg =>
    rw [if_pos h4] at hC ⊢
    exact .inl ⟨h4, hC⟩
  rw [if_neg (fun e => e h4)] at hC ⊢
  by_cases h5 : time < 0 ∨ 100000 < time
  · rw [if_pos h5] at hC ⊢
    exact .inl ⟨by decide, hC⟩
  rw [if_neg h5] at hC ⊢
  exact .inr ⟨rfl, hO, hr, hl, h4, h5, h1⟩
theorem kept_mem {l : List StoredObject} {roots : List Int} {x : StoredObject} : x ∈ keptL l roots true ↔ x ∈ l ∧ Rch l roots x.Digest := by
  unfold keptL
  rw [List.mem_filter]
  simp
end Go.Proofs.YtenkbkcddcnmeaaDoor
