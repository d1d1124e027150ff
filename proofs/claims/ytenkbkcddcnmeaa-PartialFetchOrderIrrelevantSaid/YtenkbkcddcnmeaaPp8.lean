/- NeededOf; gc.Mark. -/
import Derived.Test.YtenkbkcddcnmeaaPp7
namespace Go.Proofs.Ytenkbkcddcnmeaa
open Go.Fx
set_option linter.unusedVariables false
set_option linter.unusedSimpArgs false
set_option maxRecDepth 20000

theorem li_mem {l : List Int} {k : Nat} {n x : Int} : x ∈ l.take k ++ [n] ++ l.drop k ↔ x ∈ l ∨ x = n := by
  have : x ∈ l ↔ x ∈ l.take k ∨ x ∈ l.drop k := by
    rw [← List.mem_append, List.take_append_drop]
  rw [this]
  simp only [List.mem_append, List.mem_singleton]
  constructor
  · rintro ((h | h) | h)
    · exact .inl (.inl h)
    · exact .inr h
    · exact .inl (.inr h)
  · rintro ((h | h) | h)
    · exact .inl (.inl h)
    · exact .inr h
    · exact .inl (.inr h)
theorem InsertI_ex (l : List Int) (n : Int) (hs : l.Pairwise (· < ·)) (hl : l.length ≤ 1000) : ∃ r, ref4_Insert.f l n = some r ∧ r.Pairwise (· < ·) ∧ ∀ x, x ∈ r ↔ x ∈ l ∨ x = n := by
  have hsl : ∀ (i j : Nat) (hi : i < l.length) (hj : j < l.length), i < j → l[i] < l[j] := List.pairwise_iff_getElem.1 hs
  refine retOf_ex ?_
  unfold ref4_Insert.body
  simp only [WL, ref4_Insert.retv, ref4_Insert.r0, ref4_Insert.r1, ref4_Insert.r2, ref4_Insert.r3, ref4_Insert.r4, ref4_Insert.r5, ref4_Insert.r6, Has_eq l n (by omega)]
  refine ⟨fun h => ⟨l, rfl, hs, fun x => ⟨.inl, fun hx => hx.elim id fun e => e ▸ h⟩⟩, fun h => ?_⟩
  refine W_iter (fun s => s.l_0 = l ∧ s.n_1 = n ∧ ∃ i : Nat, s.at_5 = i ∧ i ≤ l.length ∧ ∀ j, j < i → ∀ (h : j < l.length), l[j] < n) (fun s => l.length - s.at_5.toNat) ⟨rfl, rfl, 0, rfl, by omega, by omega⟩ ?_
  rintro s ⟨h0, h1, i, hi, hle, hlo⟩
  have hend : (∀ j, i ≤ j → ∀ (h : j < l.length), n < l[j]) → (l.take i ++ [n] ++ l.drop i).Pairwise (· < ·) := fun hhi => by
    rw [List.append_assoc, List.pairwise_append]
    refine ⟨hs.sublist (List.take_sublist _ _), ?_, ?_⟩
    · rw [List.singleton_append, List.pairwise_cons]
      refine ⟨fun x hx => ?_, hs.sublist (List.drop_sublist _ _)⟩
      obtain ⟨j, hj, e⟩ := List.getElem_of_mem hx
      rw [List.length_drop] at hj
      rw [List.getElem_drop] at e
      have := hhi (i + j) (by omega) (by omega)
      omega
    · intro x hx y hy
      obtain ⟨j, hj, e⟩ := List.getElem_of_mem hx
      rw [List.length_take] at hj
      rw [List.getElem_take] at e
      have hxn : x < n := by have := hlo j (by omega) (by omega); omega
      rcases List.mem_cons.1 hy with rfl | hy
      · exact hxn
      · have hy : y ∈ l.drop i := hy
        obtain ⟨j', hj', e'⟩ := List.getElem_of_mem hy
        rw [List.length_drop] at hj'
        rw [List.getElem_drop] at e'
        have := hhi (i + j') (by omega) (by omega)
        omega
  have hap1 : appL 8 ([] : List Int) (l.take i) = some (l.take i) := by rw [appL_of (by rw [List.length_take]; simp; omega)]; rfl
  have hap2 : appL 8 (l.take i) [n] = some (l.take i ++ [n]) := appL_of (by rw [List.length_take]; simp; omega)
  have hap3 : appL 8 (l.take i ++ [n]) (l.drop i) = some (l.take i ++ [n] ++ l.drop i) := appL_of (by simp; omega)
  have hc1 : cutTo l (i : Int) = some (l.take i) := by unfold cutTo; rw [if_pos (by omega)]; simp
  have hc2 : cutFrom l (i : Int) = some (l.drop i) := by unfold cutFrom; rw [if_pos (by omega)]; simp
  simp only [WL, ref4_Insert.retv, ref4_Insert.r0, ref4_Insert.r1, ref4_Insert.r2, ref4_Insert.r3, ref4_Insert.r4, ref4_Insert.r5, ref4_Insert.r6, h0, h1, hi, hap1, hap2, hap3, hc1, hc2]
  refine ⟨fun hlt => ?_, fun hge => ?_⟩
  · have hlt : i < l.length := by omega
    refine opt_of (idx_nat' hlt) ⟨fun hx => ?_, fun hx => ?_⟩
    · rw [w64_succ (by omega)]
      refine ⟨⟨i + 1, rfl, by omega, fun j hj hjl => ?_⟩, by omega⟩
      by_cases e : j = i
      · subst e; exact hx
      · exact hlo j (by omega) hjl
    · refine ⟨_, rfl, hend fun j hj hjl => ?_, fun x => li_mem⟩
      have hne : l[i] ≠ n := fun e => h (e ▸ List.getElem_mem hlt)
      by_cases e : i = j
      · subst e; omega
      · have := hsl i j hlt hjl (by omega); omega
  · refine ⟨_, rfl, hend fun j hj hjl => by omega, fun x => li_mem⟩
open Classical in
noncomputable def nd (pr : List Int) (S : Int → Prop) : List Int := pr.filter fun d => decide (S d)
open Classical in
theorem nd_mem {pr : List Int} {S : Int → Prop} {d : Int} : d ∈ nd pr S ↔ d ∈ pr ∧ S d := by
  unfold nd; rw [List.mem_filter, decide_eq_true_eq]
theorem nd_inc {l : List StoredObject} {pr : List Int} (h : OkP l pr) (S : Int → Prop) : (nd pr S).Pairwise (· < ·) := h.inc.sublist List.filter_sublist
theorem nd_len {l : List StoredObject} {pr : List Int} (h : OkP l pr) (S : Int → Prop) : (nd pr S).length ≤ 40 := Nat.le_trans (List.length_filter_le _ _) h.len
theorem nd_ins {l : List StoredObject} {pr : List Int} (h : OkP l pr) {S : Int → Prop} {x : Int} (hx : x ∈ pr) : ref4_Insert.f (nd pr S) x = some (nd pr fun d => S d ∨ d = x) := by
  obtain ⟨r, h1, h2, h3⟩ := InsertI_ex (nd pr S) x (nd_inc h S) (by have := nd_len h S; omega)
  rw [h1, inc_ext h2 (nd_inc h _) fun d => ?_]
  rw [h3, nd_mem, nd_mem]
  constructor
  · rintro (⟨a, b⟩ | rfl)
    · exact ⟨a, .inl b⟩
    · exact ⟨hx, .inr rfl⟩
  · rintro ⟨a, b | rfl⟩
    · exact .inl ⟨a, b⟩
    · exact .inr rfl
theorem nd_not {l : List StoredObject} {pr : List Int} (h : OkP l pr) {S : Int → Prop} {x : Int} (hx : x ∉ pr) : nd pr S = nd pr fun d => S d ∨ d = x := by
  refine inc_ext (nd_inc h _) (nd_inc h _) fun d => ?_
  rw [nd_mem, nd_mem]
  constructor
  · rintro ⟨a, b⟩; exact ⟨a, .inl b⟩
  · rintro ⟨a, b | rfl⟩
    · exact ⟨a, b⟩
    · exact absurd a hx
open Classical in
noncomputable def okD (l : List StoredObject) (pr : List Int) (S : Int → Prop) : Bool := decide (∀ d, S d → d ∈ pr ∨ ∃ x ∈ l, x.Digest = d)
open Classical in
theorem okD_add {l : List StoredObject} {pr : List Int} {S : Int → Prop} {x : Int} (hx : x ∈ pr ∨ ∃ y ∈ l, y.Digest = x) : okD l pr S = okD l pr fun d => S d ∨ d = x := by
  unfold okD
  rw [decide_eq_decide]
  constructor
  · rintro h d (hd | rfl)
    · exact h d hd
    · exact hx
  · exact fun h d hd => h d (.inl hd)
open Classical in
theorem okD_bad {l : List StoredObject} {pr : List Int} {S : Int → Prop} {x : Int} (hx : ¬ (x ∈ pr ∨ ∃ y ∈ l, y.Digest = x)) : false = okD l pr fun d => S d ∨ d = x := by
  unfold okD
  rw [decide_eq_false]
  exact fun h => hx (h x (.inr rfl))
theorem Needed_inner {l : List StoredObject} {pr roots : List Int} (hS : OkS l) (hP : OkP l pr) {ms : List Bool} {i : Int} {c : Bool} (hc : (i < 0 ∧ c = true) ∨ (0 ≤ i ∧ idx ms i = some c)) {cur : List Int} (hcur : cur.length ≤ 1000) (S : Int → Prop) (s : ref4_NeededOf.S)
    (e1 : s.t_1 = pr) (e2 : s.t_2 = roots) (e3 : s.t_3 = ⟨l⟩) (e8 : s.t_8 = ms) (e9 : s.t_9 = nd pr S) (e10 : s.t_10 = okD l pr S) (e11 : s.t_11 = i) (e12 : s.t_12 = cur) (e13 : s.t_13 = 0) :
    W (iterM (seqM (seqM (regM ref4_NeededOf.r11)
  (condM (fun s => s.t_47) skipM
  (extM 2)))
  (seqM (blockM 3 (seqM (regM ref4_NeededOf.r13)
  (condM (fun s => s.t_55) (regM ref4_NeededOf.r14)
  (seqM (regM ref4_NeededOf.r15)
  (condM (fun s => s.t_68) (regM ref4_NeededOf.r16)
  skipM)))))
  (regM ref4_NeededOf.r12)))) (fun o => ∃ s' : ref4_NeededOf.S, o = (Ctl.ext 2 s' : Ctl ref4_NeededOf.S ref4_NeededOf.R) ∧ s'.t_1 = pr ∧ s'.t_2 = roots ∧ s'.t_3 = ⟨l⟩ ∧ s'.t_8 = ms ∧ s'.t_11 = i ∧ s'.t_9 = nd pr (fun d => S d ∨ (c = true ∧ d ∈ cur)) ∧ s'.t_10 = okD l pr (fun d => S d ∨ (c = true ∧ d ∈ cur))) s := by
  have hll := hS.len
  have hpl := hP.len
  refine W_iter (fun s => s.t_1 = pr ∧ s.t_2 = roots ∧ s.t_3 = ⟨l⟩ ∧ s.t_8 = ms ∧ s.t_11 = i ∧ s.t_12 = cur ∧ ∃ k : Nat, s.t_13 = k ∧ k ≤ cur.length ∧ (c = false → k = 0) ∧ s.t_9 = nd pr (fun d => S d ∨ d ∈ cur.take k) ∧ s.t_10 = okD l pr (fun d => S d ∨ d ∈ cur.take k)) (fun s => cur.length - s.t_13.toNat) ⟨e1, e2, e3, e8, e11, e12, 0, by rw [e13]; rfl, Nat.zero_le _, fun _ => rfl, ?_, ?_⟩ ?_
  · rw [e9]; simp
  · rw [e10]; simp
  clear e1 e2 e3 e8 e9 e10 e11 e12 e13 s
  rintro s ⟨e1, e2, e3, e8, e11, e12, k, e13, hk, hck, e9, e10⟩
  simp only [WL, ref4_NeededOf.retv, ref4_NeededOf.r0, ref4_NeededOf.r1, ref4_NeededOf.r2, ref4_NeededOf.r3, ref4_NeededOf.r4, ref4_NeededOf.r5, ref4_NeededOf.r7, ref4_NeededOf.r8, ref4_NeededOf.r9, ref4_NeededOf.r10, ref4_NeededOf.r11, ref4_NeededOf.r13, ref4_NeededOf.r14, ref4_NeededOf.r15, ref4_NeededOf.r16, ref4_NeededOf.r12, ref4_NeededOf.r6, ref4_NeededOf.r17, e1, e2, e3, e8, e9, e10, e11, e12, e13]
  have hbody : c = true → k < cur.length → Opt (idx cur (k : Int)) fun x => Opt (ref3_Has.f pr x) fun x_1 =>
      (x_1 = true → Opt (idx cur (k : Int)) fun x => Opt (ref4_Insert.f (nd pr fun d => S d ∨ d ∈ cur.take k) x) fun x => (∃ k1 : Nat, w64 ((k : Int) + 1) = k1 ∧ k1 ≤ cur.length ∧ (c = false → k1 = 0) ∧ x = nd pr (fun d => S d ∨ d ∈ cur.take k1) ∧ okD l pr (fun d => S d ∨ d ∈ cur.take k) = okD l pr (fun d => S d ∨ d ∈ cur.take k1)) ∧ cur.length - (w64 ((k : Int) + 1)).toNat < cur.length - (k : Int).toNat) ∧
      (x_1 = false → Opt (idx cur (k : Int)) fun x => Opt (ref3_At.f ⟨l⟩ x) fun (x : Int) =>
        (x < 0 → (∃ k1 : Nat, w64 ((k : Int) + 1) = k1 ∧ k1 ≤ cur.length ∧ (c = false → k1 = 0) ∧ nd pr (fun d => S d ∨ d ∈ cur.take k) = nd pr (fun d => S d ∨ d ∈ cur.take k1) ∧ false = okD l pr (fun d => S d ∨ d ∈ cur.take k1)) ∧ cur.length - (w64 ((k : Int) + 1)).toNat < cur.length - (k : Int).toNat) ∧
        (0 ≤ x → (∃ k1 : Nat, w64 ((k : Int) + 1) = k1 ∧ k1 ≤ cur.length ∧ (c = false → k1 = 0) ∧ nd pr (fun d => S d ∨ d ∈ cur.take k) = nd pr (fun d => S d ∨ d ∈ cur.take k1) ∧ okD l pr (fun d => S d ∨ d ∈ cur.take k) = okD l pr (fun d => S d ∨ d ∈ cur.take k1)) ∧ cur.length - (w64 ((k : Int) + 1)).toNat < cur.length - (k : Int).toNat)) := by
    intro hct hlt
    have hT : (fun d => S d ∨ d ∈ cur.take (k + 1)) = fun d => (S d ∨ d ∈ cur.take k) ∨ d = cur[k] := by
      funext d
      rw [List.take_succ_eq_append_getElem hlt, List.mem_append, List.mem_singleton, or_assoc]
    rw [w64_succ (by omega)]
    refine opt_of (idx_nat' hlt) (opt_of (Has_eq pr cur[k] (by omega)) ⟨fun h => opt_of (idx_nat' hlt) ?_, fun h => opt_of (idx_nat' hlt) ?_⟩)
    · have hin : cur[k] ∈ pr := of_decide_eq_true h
      refine opt_of (nd_ins hP hin) ⟨⟨k + 1, rfl, by omega, (fun h => by rw [hct] at h; cases h), ?_, ?_⟩, by omega⟩
      · rw [hT]
      · rw [hT]; exact okD_add (.inl hin)
    · have hin : cur[k] ∉ pr := of_decide_eq_false h
      obtain ⟨r, hr, hA⟩ := At_eq l cur[k] (by omega)
      refine opt_of hr ⟨fun h => ⟨⟨k + 1, rfl, by omega, (fun h => by rw [hct] at h; cases h), ?_, ?_⟩, by omega⟩, fun h => ⟨⟨k + 1, rfl, by omega, (fun h => by rw [hct] at h; cases h), ?_, ?_⟩, by omega⟩⟩
      · rw [hT]; exact nd_not hP hin
      · rw [hT]; refine okD_bad ?_
        rintro (h1 | ⟨y, hy, e⟩)
        · exact hin h1
        · rcases hA with ⟨_, h2⟩ | ⟨j, hj, h2, _⟩
          · exact h2 y hy e
          · omega
      · rw [hT]; exact nd_not hP hin
      · rw [hT]; refine okD_add (.inr ?_)
        rcases hA with ⟨h2, _⟩ | ⟨j, hj, _, h2⟩
        · omega
        · exact ⟨_, List.getElem_mem hj, h2⟩
  have hstop : (c = true → k = cur.length) → nd pr (fun d => S d ∨ d ∈ cur.take k) = nd pr (fun d => S d ∨ (c = true ∧ d ∈ cur)) ∧ okD l pr (fun d => S d ∨ d ∈ cur.take k) = okD l pr (fun d => S d ∨ (c = true ∧ d ∈ cur)) := by
    intro h
    have : (fun d => S d ∨ d ∈ cur.take k) = fun d => S d ∨ (c = true ∧ d ∈ cur) := by
      funext d
      cases c with
      | true => rw [h rfl, List.take_length]; simp
      | false => rw [hck rfl]; simp
    rw [this]; exact ⟨rfl, rfl⟩
  refine ⟨fun hlt => ⟨fun hneg => ?_, fun hpos => ?_⟩, fun hge => ?_⟩
  · have hct : c = true := by rcases hc with ⟨_, h⟩ | ⟨h, _⟩; exact h; omega
    exact hbody hct (by omega)
  · have hci : idx ms i = some c := by rcases hc with ⟨h, _⟩ | ⟨_, h⟩; omega; exact h
    refine opt_of hci ⟨fun h => hbody h (by omega), fun h => ?_⟩
    obtain ⟨h1, h2⟩ := hstop (fun e => by rw [h] at e; cases e)
    exact ⟨_, rfl, rfl, rfl, rfl, rfl, rfl, h1, h2⟩
  · obtain ⟨h1, h2⟩ := hstop (fun e => by omega)
    exact ⟨_, rfl, rfl, rfl, rfl, rfl, rfl, h1, h2⟩
open Classical in
theorem NeededOf_eq {l : List StoredObject} {pr roots : List Int} (hS : OkS l) (hP : OkP l pr) (hl : roots.length ≤ 40) :
    ref4_NeededOf.f ⟨l⟩ pr roots = some (need l pr roots, decide (okN l pr roots)) := by
  have hll := hS.len
  refine retOf_of ?_
  unfold ref4_NeededOf.body
  simp only [WL, ref4_NeededOf.retv, ref4_NeededOf.r0, ref4_NeededOf.r1, ref4_NeededOf.r2, ref4_NeededOf.r3, ref4_NeededOf.r4, ref4_NeededOf.r5, ref4_NeededOf.r7, ref4_NeededOf.r8, ref4_NeededOf.r9, ref4_NeededOf.r10, ref4_NeededOf.r11, ref4_NeededOf.r13, ref4_NeededOf.r14, ref4_NeededOf.r15, ref4_NeededOf.r16, ref4_NeededOf.r12, ref4_NeededOf.r6, ref4_NeededOf.r17, Marked_eq hS (show roots.length ≤ 1000 by omega)]
  refine W_iter (fun s => s.t_1 = pr ∧ s.t_2 = roots ∧ s.t_3 = ⟨l⟩ ∧ s.t_8 = marks l roots ∧ ∃ n : Nat, s.t_11 = (n : Int) - 1 ∧ n ≤ l.length + 1 ∧ s.t_9 = nd pr (fun d => (0 < n ∧ d ∈ roots) ∨ ∃ (j : Nat) (h : j < l.length), j + 1 < n ∧ Rch l roots l[j].Digest ∧ d ∈ l[j].Object.Links) ∧ s.t_10 = okD l pr (fun d => (0 < n ∧ d ∈ roots) ∨ ∃ (j : Nat) (h : j < l.length), j + 1 < n ∧ Rch l roots l[j].Digest ∧ d ∈ l[j].Object.Links)) (fun s => (l.length - s.t_11).toNat) ⟨rfl, rfl, rfl, rfl, 0, rfl, by omega, ?_, ?_⟩ ?_
  · symm; unfold nd; rw [List.filter_eq_nil_iff]; simp
  · symm; unfold okD; simp
  rintro s ⟨e1, e2, e3, e8, n, e11, hn, e9, e10⟩
  have hrest : ∀ (S' : Int → Prop) (ii : Int), ii = (n : Int) - 1 → (S' = fun d => (0 < n + 1 ∧ d ∈ roots) ∨ ∃ (j : Nat) (h : j < l.length), j + 1 < n + 1 ∧ Rch l roots l[j].Digest ∧ d ∈ l[j].Object.Links) → n < l.length + 1 → (∃ n1 : Nat, w64 (ii + 1) = (n1 : Int) - 1 ∧ n1 ≤ l.length + 1 ∧ nd pr S' = nd pr (fun d => (0 < n1 ∧ d ∈ roots) ∨ ∃ (j : Nat) (h : j < l.length), j + 1 < n1 ∧ Rch l roots l[j].Digest ∧ d ∈ l[j].Object.Links) ∧ okD l pr S' = okD l pr (fun d => (0 < n1 ∧ d ∈ roots) ∨ ∃ (j : Nat) (h : j < l.length), j + 1 < n1 ∧ Rch l roots l[j].Digest ∧ d ∈ l[j].Object.Links)) ∧ ((l.length : Int) - w64 (ii + 1)).toNat < ((l.length : Int) - ii).toNat := by
    intro S' ii hii hS' hlt
    subst hii
    rw [w64_id (by omega) (by omega)]
    exact ⟨⟨n + 1, by omega, by omega, by rw [hS'], by rw [hS']⟩, by omega⟩
  simp only [WL, ref4_NeededOf.retv, ref4_NeededOf.r0, ref4_NeededOf.r1, ref4_NeededOf.r2, ref4_NeededOf.r3, ref4_NeededOf.r4, ref4_NeededOf.r5, ref4_NeededOf.r7, ref4_NeededOf.r8, ref4_NeededOf.r9, ref4_NeededOf.r10, ref4_NeededOf.r11, ref4_NeededOf.r13, ref4_NeededOf.r14, ref4_NeededOf.r15, ref4_NeededOf.r16, ref4_NeededOf.r12, ref4_NeededOf.r6, ref4_NeededOf.r17, e1, e2, e3, e8, e11]
  refine ⟨fun hlt => ?_, fun hge => ?_⟩
  · cases n with
    | zero =>
      refine ⟨fun h => by omega, fun _ => ?_⟩
      refine W.mono (Needed_inner (roots := roots) hS hP (ms := marks l roots) (i := ((0 : Nat) : Int) - 1) (c := true) (.inl ⟨by omega, rfl⟩) (cur := roots) (by omega) _ _ rfl rfl rfl rfl e9 e10 rfl rfl rfl) ?_
      rintro o ⟨s', rfl, e1, e2, e3, e8, e11, e9, e10⟩
      simp only [WL, ref4_NeededOf.retv, ref4_NeededOf.r0, ref4_NeededOf.r1, ref4_NeededOf.r2, ref4_NeededOf.r3, ref4_NeededOf.r4, ref4_NeededOf.r5, ref4_NeededOf.r7, ref4_NeededOf.r8, ref4_NeededOf.r9, ref4_NeededOf.r10, ref4_NeededOf.r11, ref4_NeededOf.r13, ref4_NeededOf.r14, ref4_NeededOf.r15, ref4_NeededOf.r16, ref4_NeededOf.r12, ref4_NeededOf.r6, ref4_NeededOf.r17, e1, e2, e3, e8, e11, e9, e10]
      refine hrest _ _ rfl ?_ (by omega)
      funext d
      simp
    | succ n =>
      have hn' : n < l.length := by omega
      have e : ((n + 1 : Nat) : Int) - 1 = (n : Int) := by omega
      rw [e]
      refine ⟨fun _ => opt_of (idx_nat' hn') ?_, fun h => by omega⟩
      have hLl := (hS.obj _ (List.getElem_mem hn')).1.ll
      have hmi : idx (marks l roots) (n : Int) = some (decide (Rch l roots l[n].Digest)) := by
        rw [show marks l roots = l.map (fun x => decide (Rch l roots x.Digest)) from rfl, idx_nat' (by rw [List.length_map]; exact hn'), List.getElem_map]
      refine W.mono (Needed_inner (roots := roots) hS hP (ms := marks l roots) (i := (n : Int)) (c := decide (Rch l roots l[n].Digest)) (.inr ⟨by omega, hmi⟩) (cur := l[n].Object.Links) (by omega) _ _ rfl rfl rfl rfl e9 e10 rfl rfl rfl) ?_
      rintro o ⟨s', rfl, e1, e2, e3, e8, e11, e9, e10⟩
      simp only [WL, ref4_NeededOf.retv, ref4_NeededOf.r0, ref4_NeededOf.r1, ref4_NeededOf.r2, ref4_NeededOf.r3, ref4_NeededOf.r4, ref4_NeededOf.r5, ref4_NeededOf.r7, ref4_NeededOf.r8, ref4_NeededOf.r9, ref4_NeededOf.r10, ref4_NeededOf.r11, ref4_NeededOf.r13, ref4_NeededOf.r14, ref4_NeededOf.r15, ref4_NeededOf.r16, ref4_NeededOf.r12, ref4_NeededOf.r6, ref4_NeededOf.r17, e1, e2, e3, e8, e11, e9, e10]
      refine hrest _ _ e.symm ?_ (by omega)
      funext d
      refine propext ⟨?_, ?_⟩
      · rintro ((⟨h1, h2⟩ | ⟨j, hj, h1, h2, h3⟩) | ⟨h1, h2⟩)
        · exact .inl ⟨by omega, h2⟩
        · exact .inr ⟨j, hj, by omega, h2, h3⟩
        · exact .inr ⟨n, hn', by omega, h1, h2⟩
      · rintro (⟨h1, h2⟩ | ⟨j, hj, h1, h2, h3⟩)
        · exact .inl (.inl ⟨by omega, h2⟩)
        · by_cases ej : j = n
          · subst ej; exact .inr ⟨h2, h3⟩
          · exact .inl (.inr ⟨j, hj, by omega, h2, h3⟩)
  · have hnl : n = l.length + 1 := by omega
    subst hnl
    have hA : (fun d => (0 < l.length + 1 ∧ d ∈ roots) ∨ ∃ (j : Nat) (h : j < l.length), j + 1 < l.length + 1 ∧ Rch l roots l[j].Digest ∧ d ∈ l[j].Object.Links) = Rch l roots := by
      funext d
      refine propext ⟨?_, fun h => ?_⟩
      · rintro (⟨_, h⟩ | ⟨j, hj, _, h1, h2⟩)
        · exact .root h
        · exact .step (List.getElem_mem hj) h1 h2
      · cases h with
        | root h => exact .inl ⟨by omega, h⟩
        | step hx h1 h2 =>
          obtain ⟨j, hj, rfl⟩ := List.getElem_of_mem hx
          exact .inr ⟨j, hj, by omega, h1, h2⟩
    rw [e9, e10, hA]
    rfl

/-! ## gc.Mark -/
theorem app8g' {xs ys : List Int} (h : xs.length + ys.length ≤ 200000) : appL 8 xs ys = some (xs ++ ys) := appL_of (by omega)
/-- The places of the first k objects. -/
structure AtI (l : List StoredObject) (k : Nat) (m : List (Int × Int)) : Prop where
  to : ∀ (j : Nat) (h : j < l.length), j < k → mget m l[j].Digest = some (j : Int)
  of : ∀ (d i : Int), mget m d = some i → ∃ (j : Nat) (h : j < l.length), j < k ∧ i = j ∧ l[j].Digest = d
theorem AtI.next {l : List StoredObject} (hS : OkS l) {k : Nat} {m : List (Int × Int)} (h : AtI l k m) (hk : k < l.length) : AtI l (k + 1) (mput m l[k].Digest (k : Int)) where
  to := fun j hj hjk => by
    rw [mget_mput]
    by_cases e : j = k
    · subst e; rw [if_pos rfl]
    · rw [if_neg, h.to j hj (by omega)]
      intro e2
      have := hS.lt (i := j) (j := k) (by omega) (List.getElem?_eq_getElem hj) (List.getElem?_eq_getElem hk)
      omega
  of := fun d i hd => by
    rw [mget_mput] at hd
    by_cases e : l[k].Digest = d
    · rw [if_pos e] at hd
      cases hd
      exact ⟨k, hk, by omega, rfl, e⟩
    · rw [if_neg e] at hd
      obtain ⟨j, hj, h1, h2, h3⟩ := h.of d i hd
      exact ⟨j, hj, by omega, h2, h3⟩
/-- What the walk of gc keeps. -/
structure GI (l : List StoredObject) (roots : List Int) (m : List Bool) (line : List Int) : Prop where
  a : ∀ d ∈ line, Rch l roots d
  ms : MS l roots m
  c : ∀ d ∈ roots, d ∈ line ∨ ∀ (i : Nat) (h : i < l.length), l[i].Digest = d → m[i]? = some true
  d : ∀ (k : Nat) (h : k < l.length), m[k]? = some true → ∀ d ∈ l[k].Object.Links, d ∈ line ∨ ∀ (i : Nat) (h : i < l.length), l[i].Digest = d → m[i]? = some true
  h : line.length + 30 * cf m ≤ 100000
theorem GI.skip {l : List StoredObject} {roots : List Int} {m : List Bool} {line : List Int} {d : Int} (h : GI l roots m (d :: line)) (hd : ∀ (i : Nat) (h : i < l.length), l[i].Digest = d → m[i]? = some true) : GI l roots m line where
  a := fun x hx => h.a x (.tail _ hx)
  ms := h.ms
  c := fun x hx => (h.c x hx).elim (fun hx => (List.mem_cons.1 hx).elim (fun e => .inr (e ▸ hd)) .inl) .inr
  d := fun k hk hm x hx => (h.d k hk hm x hx).elim (fun hx => (List.mem_cons.1 hx).elim (fun e => .inr (e ▸ hd)) .inl) .inr
  h := by have := h.h; rw [List.length_cons] at this; omega
theorem GI.zero {l : List StoredObject} {roots : List Int} (hS : OkS l) (hl : roots.length ≤ 1000) : GI l roots (List.replicate l.length false) roots where
  a := fun d hd => .root hd
  ms := MS.zero
  c := fun d hd => .inl hd
  d := fun k hk hm => by
    rw [List.getElem?_replicate] at hm
    split at hm <;> cases hm
  h := by
    have : cf (List.replicate l.length false) ≤ l.length := by unfold cf; exact Nat.le_trans (List.length_filter_le _ _) (by rw [List.length_replicate]; exact Nat.le_refl _)
    have := hS.len
    omega
theorem setL_get {m : List Bool} {k i : Nat} (h : m[i]? = some true) : (setL m (k : Int) true)[i]? = some true := by
  unfold setL
  rw [Int.toNat_natCast, List.getElem?_set]
  by_cases e : k = i
  · subst e
    rw [if_pos rfl, if_pos]
    exact (List.getElem?_eq_some_iff.1 h).1
  · rw [if_neg e, h]
theorem setL_self {m : List Bool} {k : Nat} (h : k < m.length) : (setL m (k : Int) true)[k]? = some true := by
  unfold setL
  rw [Int.toNat_natCast, List.getElem?_set, if_pos rfl, if_pos h]
theorem GI.more {l : List StoredObject} {roots : List Int} {m : List Bool} {line : List Int} (hS : OkS l) {k : Nat} (hk : k < l.length) (h : GI l roots m (l[k].Digest :: line)) (hm : m[k]? = some false) : GI l roots (setL m (k : Int) true) (line ++ l[k].Object.Links) := by
  have hkm : k < m.length := by rw [h.ms.len]; exact hk
  have hcov : ∀ (i : Nat) (h : i < l.length), l[i].Digest = l[k].Digest → (setL m (k : Int) true)[i]? = some true := fun i hi e => by
    have e2 : i = k := by
      by_cases h1 : i < k
      · have := hS.lt h1 (List.getElem?_eq_getElem hi) (List.getElem?_eq_getElem hk); omega
      · by_cases h2 : k < i
        · have := hS.lt h2 (List.getElem?_eq_getElem hk) (List.getElem?_eq_getElem hi); omega
        · omega
    subst e2
    exact setL_self hkm
  refine ⟨fun x hx => ?_, h.ms.set hk (h.a _ (.head _)), fun x hx => ?_, fun j hj hmj x hx => ?_, ?_⟩
  · rcases List.mem_append.1 hx with hx | hx
    · exact h.a x (.tail _ hx)
    · exact .step (List.getElem_mem hk) (h.a _ (.head _)) hx
  · rw [List.mem_append]
    rcases h.c x hx with hx | hx
    · rcases List.mem_cons.1 hx with e | hx
      · rw [e]; exact .inr hcov
      · exact .inl (.inl hx)
    · exact .inr fun i hi e => setL_get (hx i hi e)
  · rw [List.mem_append]
    by_cases e : j = k
    · subst e; exact .inl (.inr hx)
    · have hmj2 : m[j]? = some true := by
        unfold setL at hmj
        rw [Int.toNat_natCast, List.getElem?_set, if_neg (fun h => e h.symm)] at hmj
        exact hmj
      rcases h.d j hj hmj2 x hx with hx | hx
      · rcases List.mem_cons.1 hx with e | hx
        · rw [e]; exact .inr hcov
        · exact .inl (.inl hx)
      · exact .inr fun i hi e => setL_get (hx i hi e)
  · have h1 := cf_set hm
    have h2 : cf (setL m (k : Int) true) = cf (m.set k true) := by unfold setL; rw [Int.toNat_natCast]
    have h3 := h.h
    have h4 := (hS.obj _ (List.getElem_mem hk)).1.ll
    rw [List.length_cons] at h3
    rw [List.length_append, h2]
    omega
theorem GI.done {l : List StoredObject} {roots : List Int} {m : List Bool} (h : GI l roots m []) : m = marks l roots := by
  refine marks_of h.ms fun i hi hh => ?_
  rcases hh with hr | ⟨k, hk, _, h1, h2⟩
  · exact (h.c _ hr).elim (fun h => by simp at h) fun h => h i hi rfl
  · exact (h.d k hk h1 _ h2).elim (fun h => by simp at h) fun h => h i hi rfl
theorem gcmark_eq {l : List StoredObject} {roots : List Int} (hS : OkS l) (hl : roots.length ≤ 1000) : gc_mark.f ⟨l⟩ roots = some (marks l roots) := by
  have hll := hS.len
  have hCl : CloneI.f roots = some roots := by unfold CloneI.f; rw [if_pos (by omega)]
  refine retOf_of ?_
  unfold gc_mark.body
  simp only [WL, gc_mark.retv, gc_mark.r0, gc_mark.r1, gc_mark.r2, gc_mark.r3, gc_mark.r4, gc_mark.r5, gc_mark.r6, gc_mark.r7, gc_mark.r8, gc_mark.r9, gc_mark.r10, gc_mark.r11, gc_mark.r12, gc_mark.r13, gc_mark.r14, gc_mark.r15]
  refine W_iter (fun s => s.t_1 = roots ∧ s.t_2 = ⟨l⟩ ∧ s.t_14 = l ∧ s.t_15 = (l.length : Int) ∧ ∃ k : Nat, s.t_16 = k ∧ k ≤ l.length ∧ AtI l k s.t_5) (fun s => l.length - s.t_16.toNat) ⟨rfl, rfl, rfl, rfl, 0, rfl, Nat.zero_le _, ⟨fun j _ h => absurd h (Nat.not_lt_zero _), fun d i h => by cases h⟩⟩ ?_
  rintro s ⟨e1, e2, e14, e15, k, e16, hk, hA⟩
  generalize h5 : s.t_5 = at5 at hA
  simp only [WL, gc_mark.retv, gc_mark.r0, gc_mark.r1, gc_mark.r2, gc_mark.r3, gc_mark.r4, gc_mark.r5, gc_mark.r6, gc_mark.r7, gc_mark.r8, gc_mark.r9, gc_mark.r10, gc_mark.r11, gc_mark.r12, gc_mark.r13, gc_mark.r14, gc_mark.r15, e1, e2, e14, e15, e16, h5, hCl, mkL_eq (show l.length ≤ 1000 by omega)]
  refine ⟨fun hlt => ?_, fun hge => ?_⟩
  · have hlt : k < l.length := by omega
    refine opt_of (idx_nat' hlt) ?_
    rw [w64_succ (by omega)]
    exact ⟨⟨k + 1, rfl, by omega, hA.next hS hlt⟩, by omega⟩
  have hkl : k = l.length := by omega
  subst hkl
  refine W_iter (fun s => s.t_2 = ⟨l⟩ ∧ s.t_5 = at5 ∧ GI l roots s.t_8 s.t_9) (fun s => s.t_9.length + 30 * cf s.t_8) ⟨rfl, rfl, GI.zero hS hl⟩ ?_
  clear s e1 e2 e14 e15 e16 h5 hge hk
  rintro s ⟨e2, e5, hI⟩
  generalize h8 : s.t_8 = m at hI
  cases hline : s.t_9 with
  | nil =>
    rw [hline] at hI
    rw [hI.done] at h8
    simp only [WL, gc_mark.retv, gc_mark.r0, gc_mark.r1, gc_mark.r2, gc_mark.r3, gc_mark.r4, gc_mark.r5, gc_mark.r6, gc_mark.r7, gc_mark.r8, gc_mark.r9, gc_mark.r10, gc_mark.r11, gc_mark.r12, gc_mark.r13, gc_mark.r14, gc_mark.r15, e2, e5, h8, hline, List.length_nil]
    exact ⟨fun e => absurd e (by decide), fun _ => trivial⟩
  | cons d line =>
    rw [hline] at hI
    have hidx : idx (d :: line) 0 = some d := rfl
    have hpos : (0 : Int) < ((d :: line).length : Int) := by rw [List.length_cons]; omega
    have hlen := hI.h
    rw [List.length_cons] at hlen
    simp only [WL, gc_mark.retv, gc_mark.r0, gc_mark.r1, gc_mark.r2, gc_mark.r3, gc_mark.r4, gc_mark.r5, gc_mark.r6, gc_mark.r7, gc_mark.r8, gc_mark.r9, gc_mark.r10, gc_mark.r11, gc_mark.r12, gc_mark.r13, gc_mark.r14, gc_mark.r15, e2, e5, h8, hline, hidx, hpos]
    refine opt_of cutFrom1 ?_
    cases hg : mget at5 d with
    | none =>
      simp only [WL, Option.isSome_none]
      refine ⟨hI.skip fun i hi e => ?_, by rw [List.length_cons]; omega⟩
      have := hA.to i hi hi
      rw [e, hg] at this; cases this
    | some i =>
      obtain ⟨j, hj, _, rfl, e⟩ := hA.of d i hg
      subst e
      have hjm : j < m.length := by rw [hI.ms.len]; exact hj
      simp only [WL, Option.isSome_some, Option.getD_some]
      refine opt_of (idx_nat' hjm) ⟨fun hb => opt_of (idx_nat' hjm) (opt_of (idx_nat' hj) ?_), fun hb => ?_⟩
      · have hb2 : m[j]? = some false := by rw [List.getElem?_eq_getElem hjm, hb]
        have h4 := (hS.obj _ (List.getElem_mem hj)).1.ll
        refine opt_of (app8g' (by omega)) ⟨hI.more hS hj hb2, ?_⟩
        have h1 := cf_set hb2
        have h2 : cf (setL m (j : Int) true) = cf (m.set j true) := by unfold setL; rw [Int.toNat_natCast]
        rw [List.length_cons, List.length_append, h2]; omega
      · have hb2 : m[j]? = some true := by rw [List.getElem?_eq_getElem hjm]; simpa using hb
        refine ⟨hI.skip fun i hi e => ?_, by rw [List.length_cons]; omega⟩
        have e2 : i = j := by
          by_cases h1 : i < j
          · have := hS.lt h1 (List.getElem?_eq_getElem hi) (List.getElem?_eq_getElem hj); omega
          · by_cases h2 : j < i
            · have := hS.lt h2 (List.getElem?_eq_getElem hj) (List.getElem?_eq_getElem hi); omega
            · omega
        subst e2; exact hb2
open Classical in
theorem Mark_eq {l : List StoredObject} {roots : List Int} (hS : OkS l) (hl : roots.length ≤ 50) : gc_Mark.f ⟨l⟩ roots = some ((l.filter fun x => decide (Rch l roots x.Digest)).map (·.Digest), ⟨0, 0⟩) := by
  have hll := hS.len
  have hml : (marks l roots).length = l.length := by unfold marks; rw [List.length_map]
  refine retOf_of ?_
  unfold gc_Mark.body
  simp only [WL, gc_Mark.retv, gc_Mark.r0, gc_Mark.r1, gc_Mark.r2, gc_Mark.r3, gc_Mark.r4, gc_Mark.r5, gc_Mark.r6, gc_Mark.r7, gc_Mark.r8, gc_Mark.r9, gc_Mark.r10, gc_Mark.r11, gc_Mark.r12, gc_Mark.r13, Validate_ok hS, gcmark_eq hS (show roots.length ≤ 1000 by omega), hml]
  refine ⟨fun e => by omega, fun _ => ?_⟩
  refine W_iter (fun s => s.s_2 = ⟨l⟩ ∧ s.t_22 = marks l roots ∧ s.t_23 = (l.length : Int) ∧ ∃ i : Nat, s.t_24 = i ∧ i ≤ l.length ∧ s.out_7 = ((l.take i).filter fun x => decide (Rch l roots x.Digest)).map (·.Digest)) (fun s => l.length - s.t_24.toNat) ⟨rfl, rfl, rfl, 0, rfl, Nat.zero_le _, rfl⟩ ?_
  rintro s ⟨e2, e22, e23, i, e24, hi, e7⟩
  simp only [WL, gc_Mark.retv, gc_Mark.r0, gc_Mark.r1, gc_Mark.r2, gc_Mark.r3, gc_Mark.r4, gc_Mark.r5, gc_Mark.r6, gc_Mark.r7, gc_Mark.r8, gc_Mark.r9, gc_Mark.r10, gc_Mark.r11, gc_Mark.r12, gc_Mark.r13, e2, e22, e23, e24, e7]
  refine ⟨fun hlt => ?_, fun hge => ?_⟩
  · have hlt : i < l.length := by omega
    have hmi : idx (marks l roots) (i : Int) = some (decide (Rch l roots l[i].Digest)) := by
      rw [show marks l roots = l.map (fun x => decide (Rch l roots x.Digest)) from rfl, idx_nat' (by rw [List.length_map]; exact hlt), List.getElem_map]
    have hlen : (((l.take i).filter fun x => decide (Rch l roots x.Digest)).map (·.Digest)).length ≤ 1000 := by
      rw [List.length_map]; exact Nat.le_trans (List.length_filter_le _ _) (by rw [List.length_take]; omega)
    refine opt_of hmi ⟨fun h => opt_of (idx_nat' hlt) ?_, fun h => ?_⟩
    · rw [app8i (by omega), opt_some, w64_succ (by omega)]
      exact ⟨⟨i + 1, rfl, by omega, by rw [take_filter hlt, if_pos h, List.map_append]; rfl⟩, by omega⟩
    · rw [w64_succ (by omega)]
      exact ⟨⟨i + 1, rfl, by omega, by rw [take_filter hlt, if_neg (by rw [h]; decide), List.append_nil]⟩, by omega⟩
  · have : i = l.length := by omega
    subst this
    rw [List.take_length]
end Go.Proofs.Ytenkbkcddcnmeaa
