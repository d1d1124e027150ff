/- A transfer as a whole: the program's and the reference's. -/
import Derived.Test.YtpdkgodonemonaaPt2
namespace Go.Proofs.Ytpdkgodonemonaa
open Go.Fx
set_option linter.unusedVariables false
set_option linter.unusedSimpArgs false

/-- A transfer, event by event: the first fault, and the state. -/
def simF (L : Transfer_link) (i : Nat) : List LinkEvent → Option Fault × Transfer_link
  | [] => (none, L)
  | e :: es => if lcode L e = 0 then simF (lnext L e) (i + 1) es else (some ⟨lcode L e, i⟩, L)
/-- What is true of a transfer of m frames after i events. -/
structure LI (m : Nat) (L : Transfer_link) (i : Nat) : Prop where
  fr : L.frames.length = m
  sl : L.sent.length ≤ i
  al : L.acks.length ≤ i
  k0 : 0 ≤ L.acked
  kc : L.acked ≤ L.count
  cm : L.count ≤ m
  sm : ∀ x ∈ L.sent, 0 ≤ x ∧ x < m
  am : ∀ a ∈ L.acks, 0 ≤ a ∧ a ≤ L.count
theorem LI.lb {m : Nat} {L : Transfer_link} {i : Nat} (h : LI m L i) (hm : m ≤ 256) (hi : i ≤ 200) : LB L :=
  ⟨by have := h.sl; omega, by have := h.al; omega, by have := h.k0; have := h.kc; omega, by have := h.cm; omega⟩
structure Ok0 (L : Transfer_link) (e : LinkEvent) : Prop where
  lo : 1 ≤ e.Kind
  hi : e.Kind ≤ 6
  n1 : e.Kind = 1 → e.N = 0 ∧ ¬ L.acked = (L.frames.length : Int)
  nw : ¬ e.Kind = 1 → 0 ≤ e.N ∧ e.N < ((lway L e).length : Int)
theorem ok0 {L : Transfer_link} {e : LinkEvent} (h : lcode L e = 0) : Ok0 L e := by
  unfold lcode at h
  split at h
  · cases h
  split at h
  · cases h
  split at h
  · cases h
  split at h
  · cases h
  rename_i c1 c2 c3 c4
  exact ⟨by omega, by omega, fun h1 => ⟨by omega, fun h2 => c3 ⟨h1, h2⟩⟩, fun h1 => ⟨by omega, by omega⟩⟩
theorem getD_mem {xs : List Int} {n : Int} (h0 : 0 ≤ n) (h1 : n < xs.length) : xs.getD n.toNat 0 ∈ xs := by
  rw [List.getD_eq_getElem?_getD, List.getElem?_eq_getElem (by omega)]
  exact List.getElem_mem _
theorem cntUp_cases (L : Transfer_link) (n : Nat) : (cntUp L n = L.count + 1 ∧ L.sent.getD n 0 = L.count) ∨ cntUp L n = L.count := by
  unfold cntUp; split
  · rename_i h; exact .inl ⟨rfl, h⟩
  · exact .inr rfl
theorem LI.next {m : Nat} {L : Transfer_link} {e : LinkEvent} {i : Nat} (h : LI m L i) (hc : lcode L e = 0) : LI m (lnext L e) (i + 1) ∧ L.count ≤ (lnext L e).count ∧ L.acked ≤ (lnext L e).acked ∧ (lnext L e).frames = L.frames := by
  obtain ⟨klo, khi, n1, nw⟩ := ok0 hc
  obtain ⟨fr, sl, al, k0, kc, cm, sm, am⟩ := h
  unfold lnext
  split
  · rename_i h1
    have := n1 h1
    refine ⟨⟨fr, by simp; omega, by show L.acks.length ≤ _; omega, k0, kc, cm, fun x hx => ?_, am⟩, Int.le_refl _, Int.le_refl _, rfl⟩
    rcases List.mem_append.1 hx with hx | hx
    · exact sm x hx
    · have : x = L.acked := by simpa using hx
      subst this; omega
  split
  · rename_i h1 h2
    have hw : lway L e = L.sent := by unfold lway; rw [if_neg (by omega)]
    have hn := nw h1
    rw [hw] at hn
    have hme := sm _ (getD_mem hn.1 hn.2)
    have hcu : L.count ≤ cntUp L e.N.toNat ∧ cntUp L e.N.toNat ≤ m := by
      rcases cntUp_cases L e.N.toNat with ⟨h, h'⟩ | h
      · rw [h]; rw [h'] at hme; omega
      · rw [h]; omega
    refine ⟨⟨fr, ?_, by simp; omega, k0, ?_, hcu.2, fun x hx => sm x (List.mem_of_mem_eraseIdx hx), fun a ha => ?_⟩, hcu.1, Int.le_refl _, rfl⟩
    · have := List.length_eraseIdx_le L.sent e.N.toNat; show (L.sent.eraseIdx _).length ≤ _; omega
    · show L.acked ≤ cntUp _ _; omega
    · show 0 ≤ a ∧ a ≤ cntUp L e.N.toNat
      rcases List.mem_append.1 ha with ha | ha
      · have := am a ha; omega
      · have : a = cntUp L e.N.toNat := by simpa using ha
        subst this; omega
  split
  · rename_i h1 h2 h4
    have hw : lway L e = L.sent := by unfold lway; rw [if_neg (by omega)]
    have hn := nw h1
    rw [hw] at hn
    have hme := sm _ (getD_mem hn.1 hn.2)
    refine ⟨⟨fr, by simp; omega, by show L.acks.length ≤ _; omega, k0, kc, cm, fun x hx => ?_, am⟩, Int.le_refl _, Int.le_refl _, rfl⟩
    rcases List.mem_append.1 hx with hx | hx
    · exact sm x hx
    · have : x = L.sent.getD e.N.toNat 0 := by simpa using hx
      subst this; exact hme
  split
  · rename_i h1 h2 h4 h5
    have hw : lway L e = L.acks := by unfold lway; rw [if_pos (by omega)]
    have hn := nw h1
    rw [hw] at hn
    have hme := am _ (getD_mem hn.1 hn.2)
    refine ⟨⟨fr, by show L.sent.length ≤ _; omega, ?_, ?_, ?_, cm, sm, fun a ha => am a (List.mem_of_mem_eraseIdx ha)⟩, Int.le_refl _, ?_, rfl⟩
    · have := List.length_eraseIdx_le L.acks e.N.toNat; show (L.acks.eraseIdx _).length ≤ _; omega
    · show 0 ≤ max _ _; omega
    · show max _ _ ≤ L.count; omega
    · show L.acked ≤ max _ _; omega
  split
  · refine ⟨⟨fr, by show L.sent.length ≤ _; omega, ?_, k0, kc, cm, sm, fun a ha => am a (List.mem_of_mem_eraseIdx ha)⟩, Int.le_refl _, Int.le_refl _, rfl⟩
    have := List.length_eraseIdx_le L.acks e.N.toNat; show (L.acks.eraseIdx _).length ≤ _; omega
  · refine ⟨⟨fr, ?_, by show L.acks.length ≤ _; omega, k0, kc, cm, fun x hx => sm x (List.mem_of_mem_eraseIdx hx), am⟩, Int.le_refl _, Int.le_refl _, rfl⟩
    have := List.length_eraseIdx_le L.sent e.N.toNat; show (L.sent.eraseIdx _).length ≤ _; omega
/-- Behind events that are accepted. -/
theorem simF_none {m : Nat} : ∀ {es : List LinkEvent} {L L' : Transfer_link} {i : Nat}, LI m L i → simF L i es = (none, L') → LI m L' (i + es.length) ∧ L.count ≤ L'.count ∧ L.acked ≤ L'.acked ∧ L'.frames = L.frames
  | [], L, L', i, h, hs => by
    simp only [simF, Prod.mk.injEq, true_and] at hs
    subst hs
    exact ⟨h, Int.le_refl _, Int.le_refl _, rfl⟩
  | e :: es, L, L', i, h, hs => by
    simp only [simF] at hs
    split at hs
    · rename_i hc
      obtain ⟨h1, h2, h3, h4⟩ := h.next hc
      obtain ⟨g1, g2, g3, g4⟩ := simF_none h1 hs
      refine ⟨?_, by omega, by omega, g4.trans h4⟩
      rw [List.length_cons, show i + (es.length + 1) = i + 1 + es.length by omega]; exact g1
    · cases hs
theorem simF_append : ∀ {es fs : List LinkEvent} {L : Transfer_link} {i : Nat}, simF L i (es ++ fs) = match simF L i es with | (none, L') => simF L' (i + es.length) fs | o => o
  | [], fs, L, i => by simp [simF]
  | e :: es, fs, L, i => by
    simp only [List.cons_append, simF]
    split
    · rw [simF_append]
      rw [List.length_cons, show i + 1 + es.length = i + (es.length + 1) by omega]
    · rfl
theorem lcode_bad {L : Transfer_link} {e : LinkEvent} (h : ¬ lcode L e = 0) : lcode L e = 4 ∨ lcode L e = 5 ∨ lcode L e = 11 ∨ lcode L e = 6 := by
  unfold lcode at h ⊢
  split
  · exact .inl rfl
  split
  · exact .inr (.inl rfl)
  split
  · exact .inr (.inr (.inl rfl))
  split
  · exact .inr (.inr (.inr rfl))
  rename_i c1 c2 c3 c4
  rw [if_neg c1, if_neg c2, if_neg c3, if_neg c4] at h
  exact absurd rfl h
theorem simF_code : ∀ {es : List LinkEvent} {L L' : Transfer_link} {i : Nat} {f : Fault}, simF L i es = (some f, L') → ¬ f.Code = 0
  | [], L, L', i, f, hs => by simp [simF] at hs
  | e :: es, L, L', i, f, hs => by
    simp only [simF] at hs
    split at hs
    · exact simF_code hs
    · rename_i h
      simp only [Prod.mk.injEq, Option.some.injEq] at hs
      rw [← hs.1]; exact h
def link0 (fs : List (List UInt8)) : Transfer_link := ⟨fs, [], [], 0, 0⟩
theorem LI.zero (fs : List (List UInt8)) : LI fs.length (link0 fs) 0 := ⟨rfl, by simp [link0], by simp [link0], Int.le_refl _, Int.le_refl _, by simp [link0], by simp [link0], by simp [link0]⟩
/-- What Run answers. -/
def runOf (data : List UInt8) (es : List LinkEvent) : List UInt8 × Int × Fault :=
  match simF (link0 (chunks 16 data)) 0 es with
  | (some f, _) => ([], 0, f)
  | (none, L) => (data.take (16 * L.count.toNat), L.acked, ⟨0, 0⟩)
theorem Run_big (data : List UInt8) (es : List LinkEvent) (h : 4096 < data.length) : transfer_Run.f data es = some ([], 0, ⟨2, -1⟩) := by
  refine retOf_of ?_
  unfold transfer_Run.body
  simp only [W_none, W_seq, W_block, W_reg, W_cond, W_skip, W_ext, W_ret, opt_some, opt_bind, opt_ite, thenQ_nrm, thenQ_ext, thenQ_ret, blkQ_nrm, blkQ_ext, blkQ_ret, if_true, true_and, and_true, decide_eq_true_eq, decide_eq_false_iff_not, Bool.or_eq_true, Bool.and_eq_true, Bool.or_eq_false_iff, Bool.and_eq_false_iff, Bool.true_eq_false, not_or, Classical.not_not, Bool.not_eq_true', Bool.not_eq_false', Int.not_lt, Int.not_le, Bool.false_eq_true, false_implies, true_implies, and_self, not_true_eq_false, not_false_eq_true, transfer_Run.retv, transfer_Run.r0, transfer_Run.r1, transfer_Run.r2, transfer_Run.r3, transfer_Run.r4, transfer_Run.r5, transfer_Run.r6, transfer_Run.r7, transfer_Run.r8, transfer_Run.r9, transfer_Run.r10, transfer_Run.r11, transfer_Run.r12, transfer_Run.r13, transfer_Run.r14, Frames_big data h]
  simp
theorem Run_many (data : List UInt8) (es : List LinkEvent) (h : data.length ≤ 4096) (he : 200 < es.length) : transfer_Run.f data es = some ([], 0, ⟨2, -2⟩) := by
  refine retOf_of ?_
  unfold transfer_Run.body
  simp only [W_none, W_seq, W_block, W_reg, W_cond, W_skip, W_ext, W_ret, opt_some, opt_bind, opt_ite, thenQ_nrm, thenQ_ext, thenQ_ret, blkQ_nrm, blkQ_ext, blkQ_ret, if_true, true_and, and_true, decide_eq_true_eq, decide_eq_false_iff_not, Bool.or_eq_true, Bool.and_eq_true, Bool.or_eq_false_iff, Bool.and_eq_false_iff, Bool.true_eq_false, not_or, Classical.not_not, Bool.not_eq_true', Bool.not_eq_false', Int.not_lt, Int.not_le, Bool.false_eq_true, false_implies, true_implies, and_self, not_true_eq_false, not_false_eq_true, transfer_Run.retv, transfer_Run.r0, transfer_Run.r1, transfer_Run.r2, transfer_Run.r3, transfer_Run.r4, transfer_Run.r5, transfer_Run.r6, transfer_Run.r7, transfer_Run.r8, transfer_Run.r9, transfer_Run.r10, transfer_Run.r11, transfer_Run.r12, transfer_Run.r13, transfer_Run.r14, Frames_eq data h]
  exact ⟨fun _ => trivial, fun h => by omega⟩
theorem Run_eq (data : List UInt8) (es : List LinkEvent) (h : data.length ≤ 4096) (he : es.length ≤ 200) : transfer_Run.f data es = some (runOf data es) := by
  have hcl := chunks_len data
  have hm : (chunks 16 data).length ≤ 256 := by rw [hcl]; unfold cnt; omega
  refine retOf_of ?_
  unfold transfer_Run.body
  simp only [W_none, W_seq, W_block, W_reg, W_cond, W_skip, W_ext, W_ret, opt_some, opt_bind, opt_ite, thenQ_nrm, thenQ_ext, thenQ_ret, blkQ_nrm, blkQ_ext, blkQ_ret, if_true, true_and, and_true, decide_eq_true_eq, decide_eq_false_iff_not, Bool.or_eq_true, Bool.and_eq_true, Bool.or_eq_false_iff, Bool.and_eq_false_iff, Bool.true_eq_false, not_or, Classical.not_not, Bool.not_eq_true', Bool.not_eq_false', Int.not_lt, Int.not_le, Bool.false_eq_true, false_implies, true_implies, and_self, not_true_eq_false, not_false_eq_true, transfer_Run.retv, transfer_Run.r0, transfer_Run.r1, transfer_Run.r2, transfer_Run.r3, transfer_Run.r4, transfer_Run.r5, transfer_Run.r6, transfer_Run.r7, transfer_Run.r8, transfer_Run.r9, transfer_Run.r10, transfer_Run.r11, transfer_Run.r12, transfer_Run.r13, transfer_Run.r14, Frames_eq data h]
  refine ⟨fun h => by omega, fun _ => ?_⟩
  refine W_iter (fun s => s.t_28 = es ∧ s.t_29 = (es.length : Int) ∧ s.frames_7 = chunks 16 data ∧ ∃ i : Nat, s.t_30 = i ∧ i ≤ es.length ∧ LI (chunks 16 data).length s.k_8 i ∧ simF (link0 (chunks 16 data)) 0 es = simF s.k_8 i (es.drop i)) (fun s => es.length - s.t_30.toNat)
    ⟨rfl, rfl, rfl, 0, rfl, by omega, LI.zero _, rfl⟩ ?_
  rintro s ⟨e28, e29, e7, i, e30, hi, hL, hS⟩
  simp only [W_none, W_seq, W_block, W_reg, W_cond, W_skip, W_ext, W_ret, opt_some, opt_bind, opt_ite, thenQ_nrm, thenQ_ext, thenQ_ret, blkQ_nrm, blkQ_ext, blkQ_ret, if_true, true_and, and_true, decide_eq_true_eq, decide_eq_false_iff_not, Bool.or_eq_true, Bool.and_eq_true, Bool.or_eq_false_iff, Bool.and_eq_false_iff, Bool.true_eq_false, not_or, Classical.not_not, Bool.not_eq_true', Bool.not_eq_false', Int.not_lt, Int.not_le, Bool.false_eq_true, false_implies, true_implies, and_self, not_true_eq_false, not_false_eq_true, transfer_Run.retv, transfer_Run.r0, transfer_Run.r1, transfer_Run.r2, transfer_Run.r3, transfer_Run.r4, transfer_Run.r5, transfer_Run.r6, transfer_Run.r7, transfer_Run.r8, transfer_Run.r9, transfer_Run.r10, transfer_Run.r11, transfer_Run.r12, transfer_Run.r13, transfer_Run.r14, e28, e29, e7, e30]
  refine ⟨fun hlt => ?_, fun hge => ?_⟩
  · have hlt : i < es.length := by omega
    refine opt_of (idx_nat' hlt) (opt_of (do_eq s.k_8 es[i] (hL.lb hm (by omega))) ?_)
    rw [List.drop_eq_getElem_cons hlt] at hS
    simp only [simF] at hS
    by_cases hc : lcode s.k_8 es[i] = 0
    · have hr : lres s.k_8 es[i] = (0, lnext s.k_8 es[i]) := by unfold lres; rw [if_pos hc]
      rw [hr]
      rw [if_pos hc] at hS
      refine ⟨fun h => absurd rfl h, fun _ => ?_⟩
      rw [w64_succ (by omega)]
      exact ⟨⟨i + 1, rfl, by omega, (hL.next hc).1, hS⟩, by omega⟩
    · have hr : lres s.k_8 es[i] = (lcode s.k_8 es[i], s.k_8) := by unfold lres; rw [if_neg hc]
      rw [hr]
      rw [if_neg hc] at hS
      refine ⟨fun _ => ?_, fun h => absurd h hc⟩
      unfold runOf
      rw [hS]
  · have hie : i = es.length := by omega
    subst hie
    rw [List.drop_length] at hS
    simp only [simF] at hS
    obtain ⟨c, hc⟩ : ∃ c : Nat, s.k_8.count = c := ⟨s.k_8.count.toNat, by have := hL.k0; have := hL.kc; omega⟩
    have hcm : c ≤ cnt data := by have := hL.cm; omega
    rw [hc]
    refine opt_of (cutTo_nat (by omega)) ?_
    refine opt_of (Concat_eq _ (fun x hx => chunks_sum (List.mem_of_mem_take hx)) (by rw [List.length_take]; omega)) ?_
    rw [chunks_flat data c hcm]
    unfold runOf
    rw [hS]
    simp [hc]
theorem without_eq {xs : List Int} {n : Int} (h0 : 0 ≤ n) (h1 : n < xs.length) (hb : xs.length ≤ 1000) : ref4_without.f xs n = some (xs.eraseIdx n.toNat) := by
  obtain ⟨i, rfl⟩ : ∃ i : Nat, n = i := ⟨n.toNat, by omega⟩
  refine retOf_of ?_
  unfold ref4_without.body
  simp only [W_none, W_seq, W_block, W_reg, W_cond, W_skip, W_ext, W_ret, opt_some, opt_bind, opt_ite, thenQ_nrm, thenQ_ext, thenQ_ret, blkQ_nrm, blkQ_ext, blkQ_ret, if_true, true_and, and_true, decide_eq_true_eq, decide_eq_false_iff_not, Bool.or_eq_true, Bool.and_eq_true, Bool.or_eq_false_iff, Bool.and_eq_false_iff, Bool.true_eq_false, not_or, Classical.not_not, Bool.not_eq_true', Bool.not_eq_false', Int.not_lt, Int.not_le, Bool.false_eq_true, false_implies, true_implies, and_self, not_true_eq_false, not_false_eq_true, ref4_without.retv, ref4_without.r0, ref4_without.r1, w64_succ (show i < 9223372036854775807 by omega)]
  refine opt_of (cutTo_nat (by omega)) (opt_of (cutFrom_nat (by omega)) ?_)
  rw [appL_of (by rw [List.length_take]; simp only [List.length_nil]; omega), opt_some]
  rw [appL_of (by rw [List.nil_append, List.length_take, List.length_drop]; omega), opt_some, List.eraseIdx_eq_take_drop_succ]
  simp
theorem fourT {A B nB Is Ia FA T : Prop} (h6 : (A ∧ ¬Is ∨ B ∧ ¬Ia) → FA) (h0 : ¬(A ∧ ¬Is ∨ B ∧ ¬Ia) → T) (hB : nB → ¬B := by omega) : (A → (¬Is → FA) ∧ (Is → (B → (¬Ia → FA) ∧ (Ia → T)) ∧ (nB → T))) ∧ (¬A → (B → (¬Ia → FA) ∧ (Ia → T)) ∧ (nB → T)) := by
  refine ⟨fun a => ⟨fun h => h6 (.inl ⟨a, h⟩), fun h => ⟨fun b => ⟨fun h' => h6 (.inr ⟨b, h'⟩), fun h' => h0 ?_⟩, fun b => h0 ?_⟩⟩, fun a => ⟨fun b => ⟨fun h' => h6 (.inr ⟨b, h'⟩), fun h' => h0 ?_⟩, fun b => h0 ?_⟩⟩
  · rintro (⟨_, g⟩ | ⟨_, g⟩)
    · exact g h
    · exact g h'
  · rintro (⟨_, g⟩ | ⟨g, _⟩)
    · exact g h
    · exact hB b g
  · rintro (⟨g, _⟩ | ⟨_, g⟩)
    · exact a g
    · exact g h'
  · rintro (⟨g, _⟩ | ⟨g, _⟩)
    · exact a g
    · exact hB b g
/-- What the reference answers. -/
theorem TransferOf_eq (fs : List (List UInt8)) (es : List LinkEvent) (hm : fs.length ≤ 256) (he : es.length ≤ 200) : ref4_TransferOf.f (fs.length : Int) es = some (match simF (link0 fs) 0 es with | (some f, _) => (0, 0, f) | (none, L) => (L.count, L.acked, ⟨0, 0⟩)) := by
  refine retOf_of ?_
  unfold ref4_TransferOf.body
  simp only [W_none, W_seq, W_block, W_reg, W_cond, W_skip, W_ext, W_ret, opt_some, opt_bind, opt_ite, thenQ_nrm, thenQ_ext, thenQ_ret, blkQ_nrm, blkQ_ext, blkQ_ret, if_true, true_and, and_true, decide_eq_true_eq, decide_eq_false_iff_not, Bool.or_eq_true, Bool.and_eq_true, Bool.or_eq_false_iff, Bool.and_eq_false_iff, Bool.true_eq_false, not_or, Classical.not_not, Bool.not_eq_true', Bool.not_eq_false', Int.not_lt, Int.not_le, Bool.false_eq_true, false_implies, true_implies, and_self, not_true_eq_false, not_false_eq_true, ref4_TransferOf.retv, ref4_TransferOf.r0, ref4_TransferOf.r1, ref4_TransferOf.r2, ref4_TransferOf.r3, ref4_TransferOf.r4, ref4_TransferOf.r6, ref4_TransferOf.r7, ref4_TransferOf.r8, ref4_TransferOf.r9, ref4_TransferOf.r10, ref4_TransferOf.r11, ref4_TransferOf.r12, ref4_TransferOf.r13, ref4_TransferOf.r14, ref4_TransferOf.r15, ref4_TransferOf.r16, ref4_TransferOf.r17, ref4_TransferOf.r18, ref4_TransferOf.r19, ref4_TransferOf.r20, ref4_TransferOf.r21, ref4_TransferOf.r22, ref4_TransferOf.r23, ref4_TransferOf.r24, ref4_TransferOf.r25, ref4_TransferOf.r26, ref4_TransferOf.r27, ref4_TransferOf.r28, ref4_TransferOf.r29, ref4_TransferOf.r30, ref4_TransferOf.r31, ref4_TransferOf.r32, ref4_TransferOf.r33, ref4_TransferOf.r5, ref4_TransferOf.r34]
  refine W_iter (fun s => s.t_0 = (fs.length : Int) ∧ s.t_1 = es ∧ ∃ i : Nat, s.t_11 = i ∧ i ≤ es.length ∧ LI fs.length ⟨fs, s.t_7, s.t_8, s.t_9, s.t_10⟩ i ∧ simF (link0 fs) 0 es = simF ⟨fs, s.t_7, s.t_8, s.t_9, s.t_10⟩ i (es.drop i)) (fun s => es.length - s.t_11.toNat)
    ⟨rfl, rfl, 0, rfl, by omega, LI.zero _, rfl⟩ ?_
  rintro s ⟨e0, e1, i, e11, hi, hL, hS⟩
  obtain ⟨L, hLd⟩ : ∃ L : Transfer_link, L = ⟨fs, s.t_7, s.t_8, s.t_9, s.t_10⟩ := ⟨_, rfl⟩
  have f7 : s.t_7 = L.sent := by rw [hLd]
  have f8 : s.t_8 = L.acks := by rw [hLd]
  have f9 : s.t_9 = L.count := by rw [hLd]
  have f10 : s.t_10 = L.acked := by rw [hLd]
  have ff : L.frames = fs := by rw [hLd]
  rw [← hLd] at hL hS
  clear hLd
  simp only [W_none, W_seq, W_block, W_reg, W_cond, W_skip, W_ext, W_ret, opt_some, opt_bind, opt_ite, thenQ_nrm, thenQ_ext, thenQ_ret, blkQ_nrm, blkQ_ext, blkQ_ret, if_true, true_and, and_true, decide_eq_true_eq, decide_eq_false_iff_not, Bool.or_eq_true, Bool.and_eq_true, Bool.or_eq_false_iff, Bool.and_eq_false_iff, Bool.true_eq_false, not_or, Classical.not_not, Bool.not_eq_true', Bool.not_eq_false', Int.not_lt, Int.not_le, Bool.false_eq_true, false_implies, true_implies, and_self, not_true_eq_false, not_false_eq_true, ref4_TransferOf.retv, ref4_TransferOf.r0, ref4_TransferOf.r1, ref4_TransferOf.r2, ref4_TransferOf.r3, ref4_TransferOf.r4, ref4_TransferOf.r6, ref4_TransferOf.r7, ref4_TransferOf.r8, ref4_TransferOf.r9, ref4_TransferOf.r10, ref4_TransferOf.r11, ref4_TransferOf.r12, ref4_TransferOf.r13, ref4_TransferOf.r14, ref4_TransferOf.r15, ref4_TransferOf.r16, ref4_TransferOf.r17, ref4_TransferOf.r18, ref4_TransferOf.r19, ref4_TransferOf.r20, ref4_TransferOf.r21, ref4_TransferOf.r22, ref4_TransferOf.r23, ref4_TransferOf.r24, ref4_TransferOf.r25, ref4_TransferOf.r26, ref4_TransferOf.r27, ref4_TransferOf.r28, ref4_TransferOf.r29, ref4_TransferOf.r30, ref4_TransferOf.r31, ref4_TransferOf.r32, ref4_TransferOf.r33, ref4_TransferOf.r5, ref4_TransferOf.r34, e0, e1, e11, f7, f8, f9, f10, In_eq, Fault_eq]
  refine ⟨fun hlt => ?_, fun hge => ?_⟩
  · have hlt : i < es.length := by omega
    have hb := hL.lb hm (by omega)
    have b1 := hb.sent
    have b2 := hb.acks
    have b3 := hb.lo
    have b4 := hb.hi
    have kc := hL.kc
    have cm := hL.cm
    have k0 := hL.k0
    refine opt_of (idx_nat' hlt) ?_
    refine opt_of (idx_nat' hlt) ?_
    rw [List.drop_eq_getElem_cons hlt] at hS
    generalize es[i] = e at hS ⊢
    simp only [simF] at hS
    have hend : ∀ c : Int, ¬ c = 0 → lcode L e = c → (match simF (link0 fs) 0 es with | (some f, _) => ((0 : Int), (0 : Int), f) | (none, L) => (L.count, L.acked, (⟨0, 0⟩ : Fault))) = (0, 0, ⟨c, i⟩) := by
      intro c hc he
      rw [hS, if_neg (by rw [he]; exact hc), he]
    have hfl : (L.frames.length : Int) = fs.length := by rw [ff]
    refine ⟨fun h => ?_, fun c1 => ⟨fun h => ?_, fun c2 => ⟨fun h => ?_, fun c3 => ?_⟩⟩⟩
    · rw [hend 4 (by decide) (by unfold lcode; rw [if_pos (by omega)])]
    · rw [hend 5 (by decide) (by unfold lcode; rw [if_neg (by omega), if_pos (by omega)])]
    · rw [hend 11 (by decide) (by unfold lcode; rw [if_neg (by omega), if_neg (by omega), if_pos (by omega)])]
    · refine fourT (fun hf => ?_) (fun hn => ?_)
      · rw [hend 6 (by decide) (by
          unfold lcode lway
          rw [if_neg (by omega), if_neg (by omega), if_neg (by omega)]
          rw [w64_id (by omega) (by omega), w64_id (by omega) (by omega)] at hf
          by_cases h56 : e.Kind = 5 ∨ e.Kind = 6
          · rw [if_pos h56, if_pos (by omega)]
          · rw [if_neg h56, if_pos (by omega)])]
      · rw [w64_id (n := (L.sent.length : Int) - 1) (by omega) (by omega), w64_id (n := (L.acks.length : Int) - 1) (by omega) (by omega)] at hn
        have h0 : lcode L e = 0 := by
          unfold lcode lway
          rw [if_neg (by omega), if_neg (by omega), if_neg (by omega)]
          by_cases h56 : e.Kind = 5 ∨ e.Kind = 6
          · rw [if_pos h56, if_neg (by omega)]
          · rw [if_neg h56, if_neg (by omega)]
        rw [if_pos h0] at hS
        have hfin : ∀ x7 x8 x9 x10, lnext L e = ⟨fs, x7, x8, x9, x10⟩ → (∃ j : Nat, w64 ((i : Int) + 1) = j ∧ j ≤ es.length ∧ LI fs.length ⟨fs, x7, x8, x9, x10⟩ j ∧ simF (link0 fs) 0 es = simF ⟨fs, x7, x8, x9, x10⟩ j (es.drop j)) ∧ es.length - (w64 ((i : Int) + 1)).toNat < es.length - (i : Int).toNat := by
          intro x7 x8 x9 x10 hx
          rw [← hx, w64_succ (by omega)]
          exact ⟨⟨i + 1, rfl, by omega, (hL.next h0).1, hS⟩, by omega⟩
        refine ⟨fun h1 => ?_, fun h1 => ⟨fun h2 => ?_, fun h2 => ⟨fun h3 => ?_, fun h3 => ⟨fun h4 => ?_, fun h4 => ⟨fun h5 => ?_, fun h5 => ⟨fun h6 => ?_, fun h6 => by omega⟩⟩⟩⟩⟩⟩
        · rw [app1 b1, opt_some]
          refine hfin _ _ _ _ ?_
          simp [lnext, h1, ff]
        · refine opt_of (idx_getD (by omega) (by omega)) ⟨fun hx => ?_, fun hx => ?_⟩
          · have hc : cntUp L e.N.toNat = L.count + 1 := if_pos hx
            rw [app1 b2, opt_some, w64_id (n := L.count + 1) (by omega) (by omega)]
            refine opt_of (without_eq (by omega) (by omega) b1) (hfin _ _ _ _ ?_)
            simp [lnext, h2, hc, ff]
          · have hc : cntUp L e.N.toNat = L.count := if_neg hx
            rw [app1 b2, opt_some]
            refine opt_of (without_eq (by omega) (by omega) b1) (hfin _ _ _ _ ?_)
            simp [lnext, h2, hc, ff]
        · refine opt_of (without_eq (by omega) (by omega) b1) (hfin _ _ _ _ ?_)
          simp [lnext, h3, ff]
        · refine opt_of (idx_getD (by omega) (by omega)) ?_
          rw [app1 b1, opt_some]
          refine hfin _ _ _ _ ?_
          simp [lnext, h4, ff]
        · refine opt_of (idx_getD (by omega) (by omega)) ⟨fun hx => ?_, fun hx => ?_⟩
          · refine opt_of (idx_getD (by omega) (by omega)) ?_
            refine opt_of (without_eq (by omega) (by omega) b2) (hfin _ _ _ _ ?_)
            simp only [lnext, h5, ff, Int.max_def, if_pos (Int.le_of_lt hx)]
            simp
          · refine opt_of (without_eq (by omega) (by omega) b2) (hfin _ _ _ _ ?_)
            have hm : max L.acked (L.acks.getD e.N.toNat 0) = L.acked := by omega
            simp only [lnext, h5, ff, hm]
            simp
        · refine opt_of (without_eq (by omega) (by omega) b2) (hfin _ _ _ _ ?_)
          simp [lnext, h6, ff]
  · have hie : i = es.length := by omega
    subst hie
    rw [List.drop_length] at hS
    simp only [simF] at hS
    rw [hS]
end Go.Proofs.Ytpdkgodonemonaa
