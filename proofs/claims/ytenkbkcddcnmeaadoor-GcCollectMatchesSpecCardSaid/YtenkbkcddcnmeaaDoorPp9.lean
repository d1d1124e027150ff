/- The faults of a set of references: the program's answer and the reference's. -/
import Derived.Test.YtenkbkcddcnmeaaDoorPp8
namespace Go.Proofs.YtenkbkcddcnmeaaDoor
open Go.Fx
set_option linter.unusedVariables false
set_option linter.unusedSimpArgs false
set_option maxRecDepth 20000
def tgt (r : RefTy) : Prop := 0 ≤ r.Target ∧ r.Target < 2305843009213693951
def prevBad (l : List RefTy) (i : Nat) (r : RefTy) : Prop := 0 < i ∧ ∃ q, l[i - 1]? = some q ∧ sLess q.Name r.Name = false
open Classical in
noncomputable def rcode (l : List RefTy) (i : Nat) (r : RefTy) : Int := if goodP r.Name = false then 12 else if ¬ tgt r then 3 else if prevBad l i r then 5 else if ∃ q ∈ l.take i, withinP q.Name r.Name = true then 19 else 0
theorem rc12 {l : List RefTy} {i : Nat} {r : RefTy} (h : goodP r.Name = false) : rcode l i r = 12 := if_pos h
theorem rc3 {l : List RefTy} {i : Nat} {r : RefTy} (h : goodP r.Name = true) (h2 : ¬ tgt r) : rcode l i r = 3 := by
  unfold rcode; rw [if_neg (by rw [h]; decide), if_pos h2]
theorem rc5 {l : List RefTy} {i : Nat} {r : RefTy} (h : goodP r.Name = true) (h2 : tgt r) (h3 : prevBad l i r) : rcode l i r = 5 := by
  unfold rcode; rw [if_neg (by rw [h]; decide), if_neg (fun e => e h2), if_pos h3]
theorem rc19 {l : List RefTy} {i : Nat} {r : RefTy} (h : goodP r.Name = true) (h2 : tgt r) (h3 : ¬ prevBad l i r) (h4 : ∃ q ∈ l.take i, withinP q.Name r.Name = true) : rcode l i r = 19 := by
  unfold rcode; rw [if_neg (by rw [h]; decide), if_neg (fun e => e h2), if_neg h3, if_pos h4]
theorem rc0 {l : List RefTy} {i : Nat} {r : RefTy} (h : goodP r.Name = true) (h2 : tgt r) (h3 : ¬ prevBad l i r) (h4 : ¬ ∃ q ∈ l.take i, withinP q.Name r.Name = true) : rcode l i r = 0 := by
  unfold rcode; rw [if_neg (by rw [h]; decide), if_neg (fun e => e h2), if_neg h3, if_neg h4]
theorem rc_good {l : List RefTy} {i : Nat} {r : RefTy} (h : rcode l i r = 0) : goodP r.Name = true := by
  cases hg : goodP r.Name with
  | true => rfl
  | false => rw [rc12 hg] at h; exact absurd h (by decide)
def RF (l : List RefTy) (f : Fault) : Prop := (∃ (i : Nat) (r : RefTy), l[i]? = some r ∧ rcode l i r ≠ 0 ∧ (∀ j q, j < i → l[j]? = some q → rcode l j q = 0) ∧ f = ⟨rcode l i r, i⟩) ∨ ((∀ j q, l[j]? = some q → rcode l j q = 0) ∧ f = ⟨0, 0⟩)
theorem RF.uniq {l : List RefTy} {f g : Fault} (h : RF l f) (k : RF l g) : f = g := by
  rcases h with ⟨i, r, h1, h2, h3, rfl⟩ | ⟨h1, rfl⟩
  · rcases k with ⟨i', r', k1, k2, k3, rfl⟩ | ⟨k1, rfl⟩
    · by_cases e : i < i'
      · exact absurd (k3 i r e h1) h2
      by_cases e2 : i' < i
      · exact absurd (h3 i' r' e2 k1) k2
      obtain rfl : i = i' := by omega
      obtain rfl := Option.some.inj (h1.symm.trans k1)
      rfl
    · exact absurd (k1 i r h1) h2
  · rcases k with ⟨i', r', k1, k2, k3, rfl⟩ | ⟨k1, rfl⟩
    · exact absurd (h1 i' r' k1) k2
    · rfl
theorem RF.zero {l : List RefTy} {f : Fault} (h : RF l f) (hf : f.Code = 0) : f = ⟨0, 0⟩ := by
  rcases h with ⟨i, r, h1, h2, h3, rfl⟩ | ⟨h1, rfl⟩
  · exact absurd hf h2
  · rfl
theorem target_eq (d : Int) : refs_target.f d = some ((decide ((0 : Int) ≤ d)) && (decide (d < (2305843009213693951 : Int)))) := by
  refine retOf_of ?_
  unfold refs_target.body
  simp only [WL, refs_target.retv, refs_target.r0, refs_target.r1]
theorem isDigest_eq (d : Int) : ref3_isDigest.f d = some (decide (0 ≤ d ∧ d ≤ 2305843009213693950)) := by
  refine retOf_of ?_
  unfold ref3_isDigest.body
  simp only [WL, ref3_isDigest.retv, ref3_isDigest.r0, ref3_isDigest.r1, In_eq]
theorem IndexF_ex {xs : List RefTy} {g : RefTy → Option Bool} {p : RefTy → Bool} (hl : xs.length ≤ 1000) (hg : ∀ x ∈ xs, g x = some (p x)) : ∃ r, slices_IndexFunc_api_Ref_api_Ref.f xs g = some r ∧ (0 ≤ r ↔ ∃ x ∈ xs, p x = true) := by
  refine retOf_ex ?_
  unfold slices_IndexFunc_api_Ref_api_Ref.body
  simp only [WL, slices_IndexFunc_api_Ref_api_Ref.retv, slices_IndexFunc_api_Ref_api_Ref.r0, slices_IndexFunc_api_Ref_api_Ref.r1, slices_IndexFunc_api_Ref_api_Ref.r2, slices_IndexFunc_api_Ref_api_Ref.r3, slices_IndexFunc_api_Ref_api_Ref.r4, slices_IndexFunc_api_Ref_api_Ref.r5, slices_IndexFunc_api_Ref_api_Ref.r6, slices_IndexFunc_api_Ref_api_Ref.r7]
  refine W_iter (fun s => s.s_0 = xs ∧ s.f_1 = g ∧ s.t_7 = (xs.length : Int) ∧ ∃ i : Nat, s.t_8 = i ∧ i ≤ xs.length ∧ ∀ x ∈ xs.take i, p x = false) (fun s => xs.length - s.t_8.toNat) ⟨rfl, rfl, rfl, 0, rfl, Nat.zero_le _, fun x h => by simp at h⟩ ?_
  rintro s ⟨e0, e1, e7, i, e8, hi, hI⟩
  simp only [WL, slices_IndexFunc_api_Ref_api_Ref.retv, slices_IndexFunc_api_Ref_api_Ref.r0, slices_IndexFunc_api_Ref_api_Ref.r1, slices_IndexFunc_api_Ref_api_Ref.r2, slices_IndexFunc_api_Ref_api_Ref.r3, slices_IndexFunc_api_Ref_api_Ref.r4, slices_IndexFunc_api_Ref_api_Ref.r5, slices_IndexFunc_api_Ref_api_Ref.r6, slices_IndexFunc_api_Ref_api_Ref.r7, e0, e1, e7, e8]
  refine ⟨fun hlt => ?_, fun hge => ?_⟩
  · have hlt : i < xs.length := by omega
    refine opt_of (idx_nat' hlt) (opt_of (hg _ (List.getElem_mem hlt)) ⟨fun hb => ?_, fun hb => ?_⟩)
    · exact ⟨_, rfl, fun _ => ⟨_, List.getElem_mem hlt, hb⟩, fun _ => by show (0 : Int) ≤ (i : Int); omega⟩
    · rw [w64_succ (by omega)]
      refine ⟨⟨i + 1, rfl, by omega, fun x hx => ?_⟩, by omega⟩
      rw [List.take_succ_eq_append_getElem hlt] at hx
      rcases List.mem_append.1 hx with h | h
      · exact hI x h
      · rw [List.mem_singleton.1 h]; exact hb
  · have : i = xs.length := by omega
    subst this
    rw [List.take_length] at hI
    refine ⟨_, rfl, fun h => absurd h (by decide), ?_⟩
    rintro ⟨x, hx, h⟩
    rw [hI x hx] at h; cases h
theorem ContainsF_ex {xs : List RefTy} {g : RefTy → Option Bool} {p : RefTy → Bool} (hl : xs.length ≤ 1000) (hg : ∀ x ∈ xs, g x = some (p x)) : ∃ b, slices_ContainsFunc_api_Ref_api_Ref.f xs g = some b ∧ (b = true ↔ ∃ x ∈ xs, p x = true) := by
  obtain ⟨r, h1, h2⟩ := IndexF_ex hl hg
  refine retOf_ex ?_
  unfold slices_ContainsFunc_api_Ref_api_Ref.body
  simp only [WL, slices_ContainsFunc_api_Ref_api_Ref.retv, slices_ContainsFunc_api_Ref_api_Ref.r0, slices_ContainsFunc_api_Ref_api_Ref.r1, h1]
  exact ⟨_, rfl, by show decide _ = true ↔ _; rw [decide_eq_true_eq, h2]⟩
theorem v1_eq {x r : RefTy} (hx : x.Name.size ≤ 60) (hr : r.Name.size ≤ 60) : refs_Validate_1.f x r = some (withinP x.Name r.Name) := by
  refine retOf_of ?_
  unfold refs_Validate_1.body
  simp only [WL, refs_Validate_1.retv, refs_Validate_1.r0, refs_Validate_1.r1, within_eq hx hr]
theorem prev_opt {l : List RefTy} {i : Nat} {r : RefTy} {s : refs_Validate.S} {Q : refs_Validate.S → Prop} (h1 : s.s_1 = ⟨l⟩) (h3 : s.i_3 = (i : Int)) (h4 : s.r_4 = r) (hi : i < l.length) (hl : l.length ≤ 100) (K : ∀ b : Bool, (b = true ↔ prevBad l i r) → Q { s with t_32 := b }) : Opt (refs_Validate.r10 s) Q := by
  unfold refs_Validate.r10
  rw [h1, h3, h4]
  by_cases h0 : 0 < i
  · have hx : idx l (w64 ((i : Int) - 1)) = some l[i - 1] := by
      rw [w64_id (by omega) (by omega), show (i : Int) - 1 = ((i - 1 : Nat) : Int) by omega]
      exact idx_nat' (by omega)
    have hc := K (!sLess l[i - 1].Name r.Name) (by
      rw [Bool.not_eq_true']
      unfold prevBad
      rw [List.getElem?_eq_getElem (show i - 1 < l.length by omega)]
      exact ⟨fun h => ⟨h0, _, rfl, h⟩, fun ⟨_, q, e, h⟩ => by rw [Option.some.inj e]; exact h⟩)
    refine ⟨_, ?_, hc⟩
    rw [if_pos (by rw [decide_eq_true_eq]; omega), hx]
    simp only [Option.bind_some, h1, h3, h4]
  · have hc := K false ⟨(fun h => by cases h), fun h => absurd h.1 h0⟩
    refine ⟨_, ?_, hc⟩
    rw [if_neg (by rw [decide_eq_true_eq]; omega)]
    simp only [Option.bind_some, h1, h3, h4]
theorem prev2_opt {l : List RefTy} {i : Nat} {s : ref3_RefsFault.S} {Q : ref3_RefsFault.S → Prop} (h1 : s.t_1 = ⟨l⟩) (h3 : s.t_3 = (i : Int)) (hi : i < l.length) (hl : l.length ≤ 100) (K : ∀ b : Bool, (b = true ↔ prevBad l i l[i]) → Q { s with t_54 := b }) : Opt (ref3_RefsFault.r10 s) Q := by
  unfold ref3_RefsFault.r10
  rw [h1, h3]
  by_cases h0 : 0 < i
  · have hx : idx l (w64 ((i : Int) - 1)) = some l[i - 1] := by
      rw [w64_id (by omega) (by omega), show (i : Int) - 1 = ((i - 1 : Nat) : Int) by omega]
      exact idx_nat' (by omega)
    have hc := K (sLess l[i].Name l[i - 1].Name || decide (l[i].Name = l[i - 1].Name)) (by
      rw [Bool.or_eq_true, decide_eq_true_eq, ← sless_iff]
      unfold prevBad
      rw [List.getElem?_eq_getElem (show i - 1 < l.length by omega)]
      exact ⟨fun h => ⟨h0, _, rfl, h⟩, fun ⟨_, q, e, h⟩ => by rw [Option.some.inj e]; exact h⟩)
    refine ⟨_, ?_, hc⟩
    rw [if_pos (by rw [decide_eq_true_eq]; omega), idx_nat' hi, hx]
    simp only [Option.bind_some, h1, h3]
  · have hc := K false ⟨(fun h => by cases h), fun h => absurd h.1 h0⟩
    refine ⟨_, ?_, hc⟩
    rw [if_neg (by rw [decide_eq_true_eq]; omega)]
    simp only [Option.bind_some, h1, h3]
theorem take_good {l : List RefTy} {i : Nat} (hI : ∀ j q, j < i → l[j]? = some q → rcode l j q = 0) {x : RefTy} (hx : x ∈ l.take i) : x.Name.size ≤ 60 := by
  obtain ⟨j, hj, rfl⟩ := List.getElem_of_mem hx
  rw [List.length_take] at hj
  refine goodP_size (rc_good (hI j _ (by omega) ?_))
  rw [List.getElem_take]
  exact List.getElem?_eq_getElem (by omega)
theorem step0 {l : List RefTy} {i : Nat} (hlt : i < l.length) (hI : ∀ j q, j < i → l[j]? = some q → rcode l j q = 0) (h : rcode l i l[i] = 0) : ∀ j q, j < i + 1 → l[j]? = some q → rcode l j q = 0 := by
  intro j q hj hq
  by_cases e : j = i
  · subst e
    rw [List.getElem?_eq_getElem hlt] at hq
    rw [← Option.some.inj hq]; exact h
  · exact hI j q (by omega) hq
theorem Validate_RF {l : List RefTy} (hl : l.length ≤ 30) : ∃ f, refs_Validate.f ⟨l⟩ = some f ∧ RF l f := by
  refine retOf_ex ?_
  unfold refs_Validate.body
  simp only [WL, refs_Validate.r0, refs_Validate.r1, refs_Validate.r2, refs_Validate.r3]
  refine ⟨fun e => by omega, fun _ => ?_⟩
  refine W_iter (fun s => s.s_1 = ⟨l⟩ ∧ s.t_11 = l ∧ s.t_12 = (l.length : Int) ∧ ∃ i : Nat, s.t_13 = i ∧ i ≤ l.length ∧ ∀ j q, j < i → l[j]? = some q → rcode l j q = 0) (fun s => l.length - s.t_13.toNat) ⟨rfl, rfl, rfl, 0, rfl, Nat.zero_le _, fun j q h => absurd h (Nat.not_lt_zero _)⟩ ?_
  rintro s ⟨e1, e11, e12, i, e13, hi, hI⟩
  simp only [WL, refs_Validate.r4, refs_Validate.r5, refs_Validate.r6, refs_Validate.r7, e1, e11, e12, e13]
  refine ⟨fun hlt => ?_, fun hge => ?_⟩
  · have hlt : i < l.length := by omega
    have hx : l[i]? = some l[i] := List.getElem?_eq_getElem hlt
    refine opt_of (idx_nat' hlt) (opt_of (good_eq _) ⟨fun hb => ?_, fun hg => ?_⟩)
    · have hb : goodP l[i].Name = false := hb
      exact ⟨_, rfl, .inl ⟨i, l[i], hx, by rw [rc12 hb]; decide, hI, by rw [rc12 hb]; rfl⟩⟩
    have hg : goodP l[i].Name = true := hg
    simp only [WL, refs_Validate.r8, refs_Validate.r9]
    refine opt_of (target_eq _) ⟨fun hb => ?_, fun ht => ?_⟩
    · have hb : ¬ tgt l[i] := by unfold tgt; simp only [WL] at hb; omega
      exact ⟨_, rfl, .inl ⟨i, l[i], hx, by rw [rc3 hg hb]; decide, hI, by rw [rc3 hg hb]; rfl⟩⟩
    have ht : tgt l[i] := by unfold tgt; simp only [WL] at ht; exact ht
    refine prev_opt (l := l) (i := i) (r := l[i]) rfl rfl rfl hlt (by omega) fun b hb => ?_
    simp only [WL, refs_Validate.r11, refs_Validate.r12, refs_Validate.r13, refs_Validate.r14]
    refine ⟨fun hbt => ?_, fun hbf => ?_⟩
    · have hp := hb.1 hbt
      exact ⟨_, rfl, .inl ⟨i, l[i], hx, by rw [rc5 hg ht hp]; decide, hI, by rw [rc5 hg ht hp]; rfl⟩⟩
    have hp : ¬ prevBad l i l[i] := fun h => by rw [hb.2 h] at hbf; cases hbf
    obtain ⟨c, hc1, hc2⟩ := ContainsF_ex (xs := l.take i) (g := fun x => refs_Validate_1.f x l[i]) (p := fun q => withinP q.Name l[i].Name) (by rw [List.length_take]; omega) (fun x hxm => v1_eq (take_good hI hxm) (goodP_size hg))
    refine opt_of (scut hi) (opt_of hc1 ⟨fun hct => ?_, fun hcf => ?_⟩)
    · have hw := hc2.1 hct
      exact ⟨_, rfl, .inl ⟨i, l[i], hx, by rw [rc19 hg ht hp hw]; decide, hI, by rw [rc19 hg ht hp hw]; rfl⟩⟩
    · have hw : ¬ ∃ q ∈ l.take i, withinP q.Name l[i].Name = true := fun h => by have h' : c = false := hcf; rw [hc2.2 h] at h'; cases h'
      rw [w64_succ (by omega)]
      exact ⟨⟨i + 1, rfl, by omega, step0 hlt hI (rc0 hg ht hp hw)⟩, by omega⟩
  · have : i = l.length := by omega
    subst this
    simp only [WL, refs_Validate.r15]
    exact ⟨_, rfl, .inr ⟨fun j q hq => hI j q (List.getElem?_eq_some_iff.1 hq).1 hq, rfl⟩⟩
theorem RefsFault_RF {l : List RefTy} (hl : l.length ≤ 30) : ∃ f, ref3_RefsFault.f ⟨l⟩ = some f ∧ RF l f := by
  refine retOf_ex ?_
  unfold ref3_RefsFault.body
  simp only [WL, ref3_RefsFault.r0, ref3_RefsFault.r1, ref3_RefsFault.r2, ref3_RefsFault.r3]
  refine ⟨fun e => by omega, fun _ => ?_⟩
  refine W_iter (fun s => s.t_1 = ⟨l⟩ ∧ ∃ i : Nat, s.t_3 = i ∧ i ≤ l.length ∧ ∀ j q, j < i → l[j]? = some q → rcode l j q = 0) (fun s => l.length - s.t_3.toNat) ⟨rfl, 0, rfl, Nat.zero_le _, fun j q h => absurd h (Nat.not_lt_zero _)⟩ ?_
  rintro s ⟨e1, i, e3, hi, hI⟩
  simp only [WL, ref3_RefsFault.r4, ref3_RefsFault.r5, ref3_RefsFault.r6, ref3_RefsFault.r7, ref3_RefsFault.r8, ref3_RefsFault.r9, e1, e3, Fault_eq]
  refine ⟨fun hlt => ?_, fun hge => ?_⟩
  · have hlt : i < l.length := by omega
    have hx : l[i]? = some l[i] := List.getElem?_eq_getElem hlt
    refine opt_of (idx_nat' hlt) (opt_of (RefName_eq _) ⟨fun hb => ?_, fun hg => ?_⟩)
    · have hb : goodP l[i].Name = false := hb
      exact ⟨_, rfl, .inl ⟨i, l[i], hx, by rw [rc12 hb]; decide, hI, by rw [rc12 hb]; rfl⟩⟩
    have hg : goodP l[i].Name = true := hg
    refine opt_of (idx_nat' hlt) (opt_of (isDigest_eq _) ⟨fun hb => ?_, fun ht => ?_⟩)
    · have hb : ¬ tgt l[i] := by unfold tgt; simp only [WL] at hb; omega
      exact ⟨_, rfl, .inl ⟨i, l[i], hx, by rw [rc3 hg hb]; decide, hI, by rw [rc3 hg hb]; rfl⟩⟩
    have ht : tgt l[i] := by unfold tgt; simp only [WL] at ht; omega
    refine prev2_opt (l := l) (i := i) rfl rfl hlt (by omega) fun b hb => ?_
    simp only [WL, ref3_RefsFault.r11, ref3_RefsFault.r12, Fault_eq]
    refine ⟨fun hbt => ?_, fun hbf => ?_⟩
    · have hp := hb.1 hbt
      exact ⟨_, rfl, .inl ⟨i, l[i], hx, by rw [rc5 hg ht hp]; decide, hI, by rw [rc5 hg ht hp]; rfl⟩⟩
    have hp : ¬ prevBad l i l[i] := fun h => by rw [hb.2 h] at hbf; cases hbf
    refine W_iter (fun s => s.t_1 = ⟨l⟩ ∧ s.t_3 = (i : Int) ∧ ∃ k : Nat, s.t_4 = k ∧ k ≤ i ∧ ∀ q ∈ l.take k, withinP q.Name l[i].Name = false) (fun s => i - s.t_4.toNat) ⟨rfl, rfl, 0, rfl, Nat.zero_le _, fun q h => by simp at h⟩ ?_
    clear s e1 e3
    rintro s ⟨e1, e3, k, e4, hk, hW⟩
    simp only [WL, ref3_RefsFault.r13, ref3_RefsFault.r14, ref3_RefsFault.r15, ref3_RefsFault.r16, ref3_RefsFault.r5, e1, e3, e4, Fault_eq]
    refine ⟨fun hlt2 => ?_, fun hge => ?_⟩
    · have hlt2 : k < i := by omega
      have hkl : k < l.length := by omega
      have hmem : l[k] ∈ l.take i := by
        rw [List.mem_take_iff_getElem]
        exact ⟨k, by omega, rfl⟩
      refine opt_of (idx_nat' hkl) (opt_of (idx_nat' hlt) (opt_of (Conflict_eq (take_good hI hmem) (goodP_size hg)) ⟨fun hct => ?_, fun hcf => ?_⟩))
      · have hw : ∃ q ∈ l.take i, withinP q.Name l[i].Name = true := ⟨_, hmem, hct⟩
        exact ⟨_, rfl, .inl ⟨i, l[i], hx, by rw [rc19 hg ht hp hw]; decide, hI, by rw [rc19 hg ht hp hw]; rfl⟩⟩
      · rw [w64_succ (by omega)]
        refine ⟨⟨k + 1, rfl, by omega, fun q hq => ?_⟩, by omega⟩
        rw [List.take_succ_eq_append_getElem hkl] at hq
        rcases List.mem_append.1 hq with h | h
        · exact hW q h
        · rw [List.mem_singleton.1 h]; exact hcf
    · have : k = i := by omega
      subst this
      have hw : ¬ ∃ q ∈ l.take k, withinP q.Name l[k].Name = true := by
        rintro ⟨q, hq, h⟩
        rw [hW q hq] at h; cases h
      rw [w64_succ (by omega)]
      exact ⟨⟨k + 1, rfl, by omega, step0 hlt hI (rc0 hg ht hp hw)⟩, by omega⟩
  · have : i = l.length := by omega
    subst this
    simp only [WL, ref3_RefsFault.r17]
    exact ⟨_, rfl, .inr ⟨fun j q hq => hI j q (List.getElem?_eq_some_iff.1 hq).1 hq, rfl⟩⟩
theorem refs_ex (r : RefStore) : ∃ f, refs_Validate.f r = some f ∧ ref3_RefsFault.f r = some f ∧ (f.Code = 0 → f = ⟨0, 0⟩ ∧ r.Refs.length ≤ 30) := by
  obtain ⟨l⟩ := r
  by_cases h : l.length ≤ 30
  · obtain ⟨f, h1, h2⟩ := Validate_RF h
    obtain ⟨g, g1, g2⟩ := RefsFault_RF h
    obtain rfl := h2.uniq g2
    exact ⟨f, h1, g1, fun hf => ⟨h2.zero hf, h⟩⟩
  · refine ⟨⟨2, -1⟩, ?_, ?_, fun hf => absurd hf (by decide)⟩
    · refine retOf_of ?_
      unfold refs_Validate.body
      simp only [WL, refs_Validate.r0, refs_Validate.r1, refs_Validate.r2]
      exact ⟨fun _ => rfl, fun e => absurd e (by omega)⟩
    · refine retOf_of ?_
      unfold ref3_RefsFault.body
      simp only [WL, ref3_RefsFault.r0, ref3_RefsFault.r1, ref3_RefsFault.r2, Fault_eq]
      exact ⟨fun _ => rfl, fun e => absurd e (by omega)⟩
end Go.Proofs.YtenkbkcddcnmeaaDoor
