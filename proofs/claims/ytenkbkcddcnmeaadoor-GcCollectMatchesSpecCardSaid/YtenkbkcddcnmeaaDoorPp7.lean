/- Names: the program's and the reference's tests of a name come to the same. -/
import Derived.Test.YtenkbkcddcnmeaaDoorPp6
namespace Go.Proofs.YtenkbkcddcnmeaaDoor
open Go.Fx
set_option linter.unusedVariables false
set_option linter.unusedSimpArgs false
set_option maxRecDepth 20000
def preP (p : List UInt8) : Prop := p = [] ∨ p.head? = some 46 ∨ Lib.hasSuffix p lockB = true
theorem head_iff {p : List UInt8} (h : 0 < p.length) : ((p[0].toNat : Int) = 46) ↔ p.head? = some 46 := by
  cases p with
  | nil => cases h
  | cons c t =>
    show ((c.toNat : Int) = 46) ↔ some c = some 46
    rw [Option.some.injEq, ← UInt8.toNat_inj]
    have e : (46 : UInt8).toNat = 46 := rfl
    omega
theorem r5_opt {s : refs_good.S} {Q : refs_good.S → Prop} (h : s.part_3.size ≤ 60) (k : ∀ b : Bool, (b = true ↔ preP (bytesOf s.part_3) ∨ dots (bytesOf s.part_3)) → Q { s with t_26 := b }) : Opt (refs_good.r5 s) Q := by
  unfold refs_good.r5
  by_cases he : s.part_3 = ⟨#[]⟩
  · refine ⟨{ s with t_26 := true }, by rw [decide_eq_true he]; rfl, k true ⟨fun _ => .inl (.inl (isE_iff.1 he)), fun _ => rfl⟩⟩
  have hne : bytesOf s.part_3 ≠ [] := fun e => he (isE_iff.2 e)
  have hlt : 0 < (bytesOf s.part_3).length := List.length_pos_iff.2 hne
  have h0 : idxB s.part_3 (0 : Int) = some (bytesOf s.part_3)[0] := idxB_eq (i := 0) hlt
  have h1 : HasSuffixS.f s.part_3 ⟨#[46, 108, 111, 99, 107]⟩ = some (Lib.hasSuffix (bytesOf s.part_3) lockB) := if_pos (by omega)
  have h2 : ContainsS.f s.part_3 ⟨#[46, 46]⟩ = some (Lib.contains (bytesOf s.part_3) [46, 46]) := if_pos (by omega)
  have hd := head_iff hlt
  refine ⟨{ s with t_26 := decide (((bytesOf s.part_3)[0].toNat : Int) = 46) || Lib.hasSuffix (bytesOf s.part_3) lockB || Lib.contains (bytesOf s.part_3) [46, 46] }, ?_, k _ ?_⟩
  · rw [decide_eq_false he, h0, h1, h2]
    simp only [Bool.false_eq_true, if_false, Option.bind_some]
    cases decide (((bytesOf s.part_3)[0].toNat : Int) = 46) <;> cases Lib.hasSuffix (bytesOf s.part_3) lockB <;> rfl
  · rw [Bool.or_eq_true, Bool.or_eq_true, decide_eq_true_eq, hd, contains_dots]
    unfold preP
    exact ⟨fun h => h.elim (fun h => .inl (.inr h)) .inr, fun h => h.elim (fun h => h.elim (fun e => absurd e hne) .inl) .inr⟩
open Classical in
theorem good_eq (name : ByteArray) : refs_good.f name = some (goodP name) := by
  have hlen := bytesOf_len name
  refine retOf_of ?_
  unfold refs_good.body
  simp only [WL, refs_good.r0, refs_good.r1, refs_good.r2, refs_good.r3]
  refine ⟨fun hb => ?_, fun hb => ?_⟩
  · have : goodP name = false := by
      cases hg : goodP name with
      | false => rfl
      | true => have := goodP_size hg; omega
    rw [this]; rfl
  have hs : name.size ≤ 60 := by omega
  refine opt_of (x := (partsL 47 (bytesOf name)).map strOf) (if_pos ⟨by omega, rfl⟩) ?_
  rw [W_range]
  refine W_forL (fun k s' => ∀ j, j < k → ∀ p, (partsL 47 (bytesOf name))[j]? = some p → ¬ badP p) (fun j h => absurd h (Nat.not_lt_zero _)) ?_ ?_
  · intro k x s' hx hI
    replace hx : ((partsL 47 (bytesOf name)).map strOf)[k]? = some x := hx
    rw [List.getElem?_map] at hx
    obtain ⟨p, hp, rfl⟩ := Option.map_eq_some_iff.1 hx
    have hmem := List.mem_of_getElem? hp
    have hpl : p.length ≤ 60 := by have := part_len hmem; omega
    have hsz : (strOf p).size = p.length := by rw [← bytesOf_len, bytesOf_strOf]
    simp only [WL, refs_good.r4]
    refine r5_opt (by rw [show _ = (strOf p).size from rfl]; omega) fun b hb => ?_
    simp only [WL, refs_good.r6, refs_good.r7, bytesOf_strOf] at hb ⊢
    refine ⟨fun hbt => ?_, fun hbf => ?_⟩
    · rw [goodP_bad hmem ((hb.1 hbt).elim (fun h => h.elim .inl fun h => h.elim (fun h => .inr (.inl h)) fun h => .inr (.inr (.inl h))) fun h => .inr (.inr (.inr (.inl h))))]
      rfl
    have hnb : ¬ (preP p ∨ dots p) := fun h => by rw [hb.2 h] at hbf; cases hbf
    refine W_iter (fun s => s.t_28 = p ∧ s.t_29 = (p.length : Int) ∧ ∃ j : Nat, s.t_30 = j ∧ j ≤ p.length ∧ ∀ c ∈ p.take j, ¬ badC c) (fun s => p.length - s.t_30.toNat) ⟨rfl, rfl, 0, rfl, Nat.zero_le _, fun c h => by simp at h⟩ ?_
    rintro s ⟨e28, e29, j, e30, hj, hc⟩
    simp only [WL, refs_good.r8, refs_good.r9, refs_good.r10, refs_good.r11, refs_good.r12, e28, e29, e30]
    refine ⟨fun hlt => ?_, fun hge => ?_⟩
    · have hlt : j < p.length := by omega
      refine opt_of (idx_nat' hlt) ⟨fun hq => ?_, fun hq => ?_⟩
      · rw [goodP_bad hmem (.inr (.inr (.inr (.inr ⟨p[j], List.getElem_mem hlt, by unfold badC; omega⟩))))]
        rfl
      · rw [w64_succ (by omega)]
        refine ⟨⟨j + 1, rfl, by omega, fun c hc' => ?_⟩, by omega⟩
        rw [List.take_succ_eq_append_getElem hlt] at hc'
        rcases List.mem_append.1 hc' with h | h
        · exact hc c h
        · rw [List.mem_singleton.1 h]; unfold badC; omega
    · have : j = p.length := by omega
      subst this
      rw [List.take_length] at hc
      intro j' hj' q hq
      by_cases e : j' = k
      · subst e
        obtain rfl := Option.some.inj (hp.symm.trans hq)
        rintro (h | h | h | h | ⟨c, h1, h2⟩)
        · exact hnb (.inl (.inl h))
        · exact hnb (.inl (.inr (.inl h)))
        · exact hnb (.inl (.inr (.inr h)))
        · exact hnb (.inr h)
        · exact hc c h1 h2
      · exact hI j' (by omega) q hq
  · intro s' hI
    replace hI : ∀ j, j < ((partsL 47 (bytesOf name)).map strOf).length → ∀ p, (partsL 47 (bytesOf name))[j]? = some p → ¬ badP p := hI
    have hg : goodP name = true := by
      refine decide_eq_true ⟨hs, fun p hp => ?_⟩
      obtain ⟨j, hj, rfl⟩ := List.getElem_of_mem hp
      exact hI j (by rw [List.length_map]; exact hj) _ (List.getElem?_eq_getElem hj)
    simp only [WL, refs_good.r13]
    rw [hg]; rfl
theorem r8_opt {s : ref3_RefName.S} {Q : ref3_RefName.S → Prop} (h : s.t_5.size ≤ 60) (k : ∀ b : Bool, (b = true ↔ preP (bytesOf s.t_5)) → Q { s with t_42 := b }) : Opt (ref3_RefName.r8 s) Q := by
  have hlen := bytesOf_len s.t_5
  unfold ref3_RefName.r8
  by_cases he : s.t_5 = ⟨#[]⟩
  · refine ⟨{ s with t_42 := true }, by rw [decide_eq_true he]; rfl, k true ⟨fun _ => .inl (isE_iff.1 he), fun _ => rfl⟩⟩
  have hne : bytesOf s.t_5 ≠ [] := fun e => he (isE_iff.2 e)
  have hlt : 0 < (bytesOf s.t_5).length := List.length_pos_iff.2 hne
  have h0 : idxB s.t_5 (0 : Int) = some (bytesOf s.t_5)[0] := idxB_eq (i := 0) hlt
  have hd := head_iff hlt
  have hin : (if (decide ((5 : Int) ≤ (s.t_5.size : Int))) = true then (cutS s.t_5 (w64 ((s.t_5.size : Int) - (5 : Int))) (s.t_5.size : Int)).bind fun x39 => some (decide (x39 = (⟨#[46, 108, 111, 99, 107]⟩ : ByteArray))) else some false) = some (Lib.hasSuffix (bytesOf s.t_5) lockB) := by
    by_cases h5 : (5 : Int) ≤ (s.t_5.size : Int)
    · rw [if_pos (decide_eq_true h5), w64_id (by omega) (by omega)]
      unfold cutS
      rw [if_pos ⟨by omega, by omega, by omega⟩, show ((s.t_5.size : Int) - 5).toNat = s.t_5.size - 5 by omega, Int.toNat_natCast]
      show some (decide _) = some _
      have e : bytesOf (s.t_5.extract (s.t_5.size - 5) s.t_5.size) = (bytesOf s.t_5).drop (s.t_5.size - 5) := by
        rw [bytesOf_extract, List.take_of_length_le (by rw [List.length_drop]; omega)]
      congr 1
      rw [Bool.eq_iff_iff, decide_eq_true_eq, sfx_iff]
      constructor
      · intro hh
        refine ⟨by omega, ?_⟩
        rw [hlen, ← e, hh]; rfl
      · rintro ⟨_, hh⟩
        refine bytesOf_inj ?_
        rw [e, ← hlen, hh]; rfl
    · rw [if_neg (by rw [decide_eq_true_eq]; exact h5)]
      have : Lib.hasSuffix (bytesOf s.t_5) lockB = false := by
        rw [Bool.eq_false_iff]
        intro hh
        have := (sfx_iff.1 hh).1
        omega
      rw [this]
  refine ⟨{ s with t_42 := decide (((bytesOf s.t_5)[0].toNat : Int) = 46) || Lib.hasSuffix (bytesOf s.t_5) lockB }, ?_, k _ ?_⟩
  · rw [decide_eq_false he, h0, hin]
    simp only [Bool.false_eq_true, if_false, Option.bind_some]
    cases decide (((bytesOf s.t_5)[0].toNat : Int) = 46) <;> rfl
  · rw [Bool.or_eq_true, decide_eq_true_eq, hd]
    unfold preP
    exact ⟨.inr, fun h => h.elim (fun e => absurd e hne) id⟩
theorem r14_opt {s : ref3_RefName.S} {Q : ref3_RefName.S → Prop} {k : Nat} (hk : s.t_6 = (k : Int)) (hlt : k < (bytesOf s.t_5).length) (hl : s.t_5.size ≤ 60) (K : ∀ b : Bool, (b = true ↔ badC s.t_7 ∨ (0 < k ∧ (s.t_7.toNat : Int) = 46 ∧ (bytesOf s.t_5)[k - 1]? = some 46)) → Q { s with t_6 := (k : Int), t_93 := b }) : Opt (ref3_RefName.r14 s) Q := by
  have hlen := bytesOf_len s.t_5
  unfold ref3_RefName.r14
  rw [hk]
  by_cases hb : badC s.t_7
  · refine ⟨{ s with t_6 := (k : Int), t_93 := true }, ?_, K true ⟨fun _ => .inl hb, fun _ => rfl⟩⟩
    rw [if_pos (by unfold badC at hb; simp only [Bool.not_eq_true', Bool.or_eq_false_iff, Bool.and_eq_false_iff, decide_eq_false_iff_not]; omega)]
    rfl
  have hnb : ¬ (!((((((decide ((97 : Int) ≤ (s.t_7.toNat : Int))) && (decide ((s.t_7.toNat : Int) ≤ (122 : Int)))) || ((decide ((48 : Int) ≤ (s.t_7.toNat : Int))) && (decide ((s.t_7.toNat : Int) ≤ (57 : Int))))) || (decide ((s.t_7.toNat : Int) = (45 : Int)))) || (decide ((s.t_7.toNat : Int) = (95 : Int)))) || (decide ((s.t_7.toNat : Int) = (46 : Int))))) = true := by
    unfold badC at hb
    simp only [Bool.not_eq_true', Bool.or_eq_false_iff, Bool.and_eq_false_iff, decide_eq_false_iff_not]
    omega
  rw [if_neg hnb]
  by_cases hd : 0 < k ∧ (s.t_7.toNat : Int) = 46
  · have h0 : idxB s.t_5 (w64 ((k : Int) - 1)) = some (bytesOf s.t_5)[k - 1] := by
      rw [w64_id (by omega) (by omega), show (k : Int) - 1 = ((k - 1 : Nat) : Int) by omega]
      exact idxB_eq (by omega)
    rw [if_pos (by rw [Bool.and_eq_true, decide_eq_true_eq, decide_eq_true_eq]; exact ⟨by omega, hd.2⟩), h0]
    refine ⟨_, rfl, K _ ?_⟩
    rw [decide_eq_true_eq, List.getElem?_eq_getElem (by omega), Option.some.injEq, ← UInt8.toNat_inj]
    have e : (46 : UInt8).toNat = 46 := rfl
    constructor
    · intro h; exact .inr ⟨hd.1, hd.2, by omega⟩
    · rintro (h | h)
      · exact absurd h hb
      · omega
  · rw [if_neg (by rw [Bool.and_eq_true, decide_eq_true_eq, decide_eq_true_eq]; omega)]
    refine ⟨_, rfl, K false ⟨(fun h => by cases h), ?_⟩⟩
    rintro (h | h)
    · exact absurd h hb
    · exact absurd ⟨h.1, h.2.1⟩ hd
open Classical in
theorem RefName_eq (name : ByteArray) : ref3_RefName.f name = some (goodP name) := by
  have hlen := bytesOf_len name
  refine retOf_of ?_
  unfold ref3_RefName.body
  simp only [WL, ref3_RefName.r0, ref3_RefName.r1, ref3_RefName.r2, ref3_RefName.r3, ref3_RefName.r4]
  refine ⟨fun hb => ?_, fun hb => ?_⟩
  · have : goodP name = false := by
      cases hg : goodP name with
      | false => rfl
      | true => have := goodP_size hg; omega
    rw [this]; rfl
  have hs : name.size ≤ 60 := by omega
  refine opt_of (components_eq hs) ?_
  have hpl := parts_le (bytesOf name)
  generalize hps : (partsL 47 (bytesOf name)).map strOf = ps
  have hpsl : ps.length = (partsL 47 (bytesOf name)).length := by rw [← hps, List.length_map]
  refine W_iter (fun s => s.t_3 = ps ∧ ∃ i : Nat, s.t_4 = i ∧ i ≤ ps.length ∧ ∀ j, j < i → ∀ p, (partsL 47 (bytesOf name))[j]? = some p → ¬ badP p) (fun s => ps.length - s.t_4.toNat) ⟨rfl, 0, rfl, Nat.zero_le _, fun j h => absurd h (Nat.not_lt_zero _)⟩ ?_
  rintro s ⟨e3, i, e4, hi, hI⟩
  simp only [WL, ref3_RefName.r5, ref3_RefName.r6, ref3_RefName.r7, e3, e4]
  refine ⟨fun hlt => ?_, fun hge => ?_⟩
  · have hlt : i < ps.length := by omega
    have hx : ps[i]? = some ps[i] := List.getElem?_eq_getElem hlt
    have hx' : ((partsL 47 (bytesOf name)).map strOf)[i]? = some ps[i] := by rw [hps]; exact hx
    rw [List.getElem?_map] at hx'
    obtain ⟨p, hp, hpx⟩ := Option.map_eq_some_iff.1 hx'
    have hmem := List.mem_of_getElem? hp
    have hpl2 : p.length ≤ 60 := by have := part_len hmem; omega
    have hsz : (strOf p).size = p.length := by rw [← bytesOf_len, bytesOf_strOf]
    refine opt_of (idx_nat' hlt) ?_
    rw [← hpx]
    refine r8_opt (by rw [show _ = (strOf p).size from rfl]; omega) fun b hb => ?_
    simp only [WL, ref3_RefName.r9, ref3_RefName.r10, bytesOf_strOf] at hb ⊢
    refine ⟨fun hbt => ?_, fun hbf => ?_⟩
    · rw [goodP_bad hmem ((hb.1 hbt).elim .inl fun h => h.elim (fun h => .inr (.inl h)) fun h => .inr (.inr (.inl h)))]
      rfl
    have hnb : ¬ preP p := fun h => by rw [hb.2 h] at hbf; cases hbf
    refine W_iter (fun s => s.t_3 = ps ∧ s.t_4 = (i : Int) ∧ s.t_5 = strOf p ∧ ∃ k : Nat, s.t_6 = k ∧ k ≤ p.length ∧ (∀ c ∈ p.take k, ¬ badC c) ∧ ∀ j, j + 1 < k → ¬ (p[j]? = some 46 ∧ p[j + 1]? = some 46)) (fun s => p.length - s.t_6.toNat) ⟨rfl, rfl, rfl, 0, rfl, Nat.zero_le _, fun c h => by simp at h, fun j h => absurd h (Nat.not_lt_zero _)⟩ ?_
    clear s e3 e4
    rintro s ⟨e3, e4, e5, k, e6, hk, hc, hdd⟩
    simp only [WL, ref3_RefName.r11, ref3_RefName.r12, ref3_RefName.r13, e3, e4, e5, e6, hsz]
    refine ⟨fun hlt => ?_, fun hge => ?_⟩
    · have hlt : k < p.length := by omega
      have hix : idxB (strOf p) (k : Int) = some p[k] := by
        have := idxB_eq (s := strOf p) (i := k) (by rw [bytesOf_strOf]; exact hlt)
        rw [this]; simp only [bytesOf_strOf]
      refine opt_of hix ?_
      refine r14_opt (k := k) rfl (by rw [show bytesOf _ = bytesOf (strOf p) from rfl, bytesOf_strOf]; exact hlt) (by rw [show _ = (strOf p).size from rfl]; omega) fun b hb => ?_
      simp only [WL, ref3_RefName.r12, ref3_RefName.r15, bytesOf_strOf] at hb ⊢
      have h46 : ((p[k].toNat : Int) = 46) ↔ p[k]? = some 46 := by
        rw [List.getElem?_eq_getElem hlt, Option.some.injEq, ← UInt8.toNat_inj]
        have e : (46 : UInt8).toNat = 46 := rfl
        omega
      rw [h46] at hb
      refine ⟨fun hbt => ?_, fun hbf => ?_⟩
      · have : badP p := by
          rcases hb.1 hbt with h | ⟨h0, h1, h2⟩
          · exact .inr (.inr (.inr (.inr ⟨p[k], List.getElem_mem hlt, h⟩)))
          · exact .inr (.inr (.inr (.inl ⟨k - 1, h2, by rw [Nat.sub_add_cancel h0]; exact h1⟩)))
        rw [goodP_bad hmem this]; rfl
      · have hn : ¬ (badC p[k] ∨ (0 < k ∧ p[k]? = some 46 ∧ p[k - 1]? = some 46)) := fun h => by rw [hb.2 h] at hbf; cases hbf
        rw [w64_succ (by omega)]
        refine ⟨⟨k + 1, rfl, by omega, fun c hc' => ?_, fun j hj hh => ?_⟩, by omega⟩
        · rw [List.take_succ_eq_append_getElem hlt] at hc'
          rcases List.mem_append.1 hc' with h | h
          · exact hc c h
          · rw [List.mem_singleton.1 h]; exact fun h => hn (.inl h)
        · by_cases e : j + 1 = k
          · subst e
            exact hn (.inr ⟨by omega, hh.2, by rw [Nat.add_sub_cancel]; exact hh.1⟩)
          · exact hdd j (by omega) hh
    · have : k = p.length := by omega
      subst this
      rw [List.take_length] at hc
      simp only [WL, ref3_RefName.r6]
      rw [w64_succ (by omega)]
      refine ⟨⟨i + 1, rfl, by omega, fun j' hj' q hq => ?_⟩, by omega⟩
      by_cases e : j' = i
      · subst e
        obtain rfl := Option.some.inj (hp.symm.trans hq)
        rintro (h | h | h | ⟨m, h1, h2⟩ | ⟨c, h1, h2⟩)
        · exact hnb (.inl h)
        · exact hnb (.inr (.inl h))
        · exact hnb (.inr (.inr h))
        · have := (List.getElem?_eq_some_iff.1 h2).1
          exact hdd m this ⟨h1, h2⟩
        · exact hc c h1 h2
      · exact hI j' (by omega) q hq
  · have : i = ps.length := by omega
    subst this
    have hg : goodP name = true := by
      refine decide_eq_true ⟨hs, fun p hp => ?_⟩
      obtain ⟨j, hj, rfl⟩ := List.getElem_of_mem hp
      exact hI j (by omega) _ (List.getElem?_eq_getElem hj)
    simp only [WL, ref3_RefName.r16]
    rw [hg]; rfl
end Go.Proofs.YtenkbkcddcnmeaaDoor
