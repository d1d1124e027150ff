/- What can be reached: Needed, Marked. -/
import Derived.Test.YtenkbkcddcnmeaaPp6
namespace Go.Proofs.Ytenkbkcddcnmeaa
open Go.Fx
set_option linter.unusedVariables false
set_option linter.unusedSimpArgs false
set_option maxRecDepth 20000

/-- What can be reached from the roots by the links of a store. -/
inductive Rch (l : List StoredObject) (roots : List Int) : Int → Prop
  | root {d : Int} : d ∈ roots → Rch l roots d
  | step {x : StoredObject} {d : Int} : x ∈ l → Rch l roots x.Digest → d ∈ x.Object.Links → Rch l roots d
theorem Rch.i64 {l : List StoredObject} {roots : List Int} (h : OkS l) (hr : ∀ d ∈ roots, I64 d) {d : Int} (hd : Rch l roots d) : I64 d := by
  induction hd with
  | root h => exact hr _ h
  | step hx _ hd _ => have := (h.obj _ hx).1.lk _ hd; exact ⟨by omega, by omega⟩
theorem mget_mput {β : Type} (k k' : Int) (v : β) : ∀ m : List (Int × β), mget (mput m k v) k' = if k = k' then some v else mget m k'
  | [] => by unfold mput mget; by_cases h : k = k' <;> simp [h, mget]
  | (a, b) :: m => by
    unfold mput
    by_cases h : a = k
    · subst h
      rw [if_pos rfl]
      by_cases h2 : a = k'
      · subst h2; simp [mget]
      · simp [mget, h2]
    · rw [if_neg h]
      by_cases h2 : a = k'
      · subst h2
        simp [mget, Ne.symm h]
      · rw [mget, if_neg h2, mget_mput k k' v m, mget, if_neg h2]
def sn (m : List (Int × Bool)) (d : Int) : Bool := (mget m d).getD false
theorem sn_put (m : List (Int × Bool)) (k d : Int) : sn (mput m k true) d = (decide (k = d) || sn m d) := by
  unfold sn
  rw [mget_mput]
  by_cases h : k = d <;> simp [h]
theorem filter_lt {α : Type} {p q : α → Bool} : ∀ {l : List α}, (∀ x, q x = true → p x = true) → (l.filter q).length ≤ (l.filter p).length ∧ ∀ x ∈ l, p x = true → q x = false → (l.filter q).length < (l.filter p).length
  | [], _ => ⟨Nat.le_refl _, fun x hx => by simp at hx⟩
  | y :: l, h => by
    obtain ⟨h1, h2⟩ := filter_lt (l := l) h
    have hy : (List.filter q (y :: l)).length = (if q y = true then 1 else 0) + (l.filter q).length := by
      rw [List.filter_cons]; split <;> simp <;> omega
    have hy' : (List.filter p (y :: l)).length = (if p y = true then 1 else 0) + (l.filter p).length := by
      rw [List.filter_cons]; split <;> simp <;> omega
    rw [hy, hy']
    have hyy : q y = true → p y = true := h y
    refine ⟨by by_cases a : q y = true <;> by_cases b : p y = true <;> simp_all <;> omega, fun x hx hp hq => ?_⟩
    rcases List.mem_cons.1 hx with rfl | hx
    · rw [hp, hq]; simp; omega
    · have := h2 x hx hp hq
      by_cases a : q y = true <;> by_cases b : p y = true <;> simp_all <;> omega
/-- The number of objects that were not seen. -/
def un (l : List StoredObject) (m : List (Int × Bool)) : Nat := (l.filter fun x => !sn m x.Digest).length
theorem un_put {l : List StoredObject} {m : List (Int × Bool)} {d : Int} : un l (mput m d true) ≤ un l m := by
  refine (filter_lt fun x hx => ?_).1
  rw [sn_put] at hx
  simp at hx ⊢
  exact hx.2
theorem un_put' {l : List StoredObject} {m : List (Int × Bool)} {x : StoredObject} (hx : x ∈ l) (h : sn m x.Digest = false) : un l (mput m x.Digest true) < un l m := by
  refine (filter_lt fun y hy => ?_).2 x hx (by simp [h]) (by rw [sn_put]; simp)
  rw [sn_put] at hy
  simp at hy ⊢
  exact hy.2
theorem sort_inc {xs : List Int} (h : xs.Nodup) : (xs.mergeSort fun x y => decide (x ≤ y)).Pairwise (· < ·) := by
  have h1 := List.pairwise_mergeSort (le := fun x y : Int => decide (x ≤ y)) (fun a b c h1 h2 => by simp at *; omega) (fun a b => by simp; omega) xs
  have h2 : (xs.mergeSort fun x y => decide (x ≤ y)).Nodup := (List.mergeSort_perm xs _).nodup_iff.2 h
  refine (h1.and h2).imp fun {a b} h => ?_
  have := of_decide_eq_true h.1
  have := h.2
  omega
def okN (l : List StoredObject) (pr roots : List Int) : Prop := ∀ d, Rch l roots d → d ∈ pr ∨ ∃ x ∈ l, x.Digest = d
open Classical in
noncomputable def need (l : List StoredObject) (pr roots : List Int) : List Int := pr.filter fun d => decide (Rch l roots d)
theorem need_inc {l : List StoredObject} {pr roots : List Int} (h : OkP l pr) : (need l pr roots).Pairwise (· < ·) := h.inc.sublist List.filter_sublist
open Classical in
theorem need_mem {l : List StoredObject} {pr roots : List Int} {d : Int} : d ∈ need l pr roots ↔ d ∈ pr ∧ Rch l roots d := by
  unfold need; rw [List.mem_filter, decide_eq_true_eq]
/-- What the walk keeps. -/
structure NI (l : List StoredObject) (pr roots : List Int) (m : List (Int × Bool)) (out line : List Int) : Prop where
  a : ∀ d ∈ line, Rch l roots d
  b : ∀ d, sn m d = true → Rch l roots d
  c : ∀ d ∈ roots, sn m d = true ∨ d ∈ line
  d : ∀ x ∈ l, sn m x.Digest = true → ∀ d ∈ x.Object.Links, sn m d = true ∨ d ∈ line
  e : ∀ d, sn m d = true → d ∈ pr ∨ ∃ x ∈ l, x.Digest = d
  f : ∀ d, d ∈ out ↔ d ∈ pr ∧ sn m d = true
  g : out.Nodup
  h : line.length + 30 * un l m ≤ 1240
theorem NI.skip {l : List StoredObject} {pr roots : List Int} {m : List (Int × Bool)} {out line : List Int} {d : Int} (h : NI l pr roots m out (d :: line)) (hd : sn m d = true) : NI l pr roots m out line where
  a := fun x hx => h.a x (.tail _ hx)
  b := h.b
  c := fun x hx => (h.c x hx).elim .inl fun hx => (List.mem_cons.1 hx).elim (fun e => .inl (e ▸ hd)) .inr
  d := fun x hx hs y hy => (h.d x hx hs y hy).elim .inl fun hx => (List.mem_cons.1 hx).elim (fun e => .inl (e ▸ hd)) .inr
  e := h.e
  f := h.f
  g := h.g
  h := by have := h.h; rw [List.length_cons] at this; omega
theorem NI.take {l : List StoredObject} {pr roots : List Int} {m : List (Int × Bool)} {out line : List Int} {d : Int} (hP : OkP l pr) (h : NI l pr roots m out (d :: line)) (hd : sn m d = false) (hp : d ∈ pr) : NI l pr roots (mput m d true) (out ++ [d]) line where
  a := fun x hx => h.a x (.tail _ hx)
  b := fun x hx => by
    rw [sn_put, Bool.or_eq_true, decide_eq_true_eq] at hx
    rcases hx with rfl | hx
    · exact h.a _ (.head _)
    · exact h.b x hx
  c := fun x hx => by
    rw [sn_put, Bool.or_eq_true, decide_eq_true_eq]
    exact (h.c x hx).elim (fun h => .inl (.inr h)) fun hx => (List.mem_cons.1 hx).elim (fun e => .inl (.inl e.symm)) .inr
  d := fun x hx hs y hy => by
    rw [sn_put, Bool.or_eq_true, decide_eq_true_eq] at hs ⊢
    rcases hs with e | hs
    · exact absurd e.symm (hP.dis d hp x hx)
    · exact (h.d x hx hs y hy).elim (fun h => .inl (.inr h)) fun hx => (List.mem_cons.1 hx).elim (fun e => .inl (.inl e.symm)) .inr
  e := fun x hx => by
    rw [sn_put, Bool.or_eq_true, decide_eq_true_eq] at hx
    rcases hx with rfl | hx
    · exact .inl hp
    · exact h.e x hx
  f := fun x => by
    rw [sn_put, Bool.or_eq_true, decide_eq_true_eq, List.mem_append, List.mem_singleton, h.f x]
    constructor
    · rintro (⟨h1, h2⟩ | rfl)
      · exact ⟨h1, .inr h2⟩
      · exact ⟨hp, .inl rfl⟩
    · rintro ⟨h1, rfl | h2⟩
      · exact .inr rfl
      · exact .inl ⟨h1, h2⟩
  g := by
    rw [List.nodup_append]
    refine ⟨h.g, List.pairwise_singleton _ _, fun a ha b hb => ?_⟩
    rw [List.mem_singleton.1 hb]
    rintro rfl
    have := ((h.f _).1 ha).2
    rw [hd] at this; cases this
  h := by have := h.h; have := un_put (l := l) (m := m) (d := d); rw [List.length_cons] at *; omega
theorem NI.more {l : List StoredObject} {pr roots : List Int} {m : List (Int × Bool)} {out line : List Int} {x : StoredObject} (hS : OkS l) (hP : OkP l pr) (h : NI l pr roots m out (x.Digest :: line)) (hd : sn m x.Digest = false) (hx : x ∈ l) : NI l pr roots (mput m x.Digest true) out (line ++ x.Object.Links) where
  a := fun y hy => (List.mem_append.1 hy).elim (fun hy => h.a y (.tail _ hy)) fun hy => .step hx (h.a _ (.head _)) hy
  b := fun y hy => by
    rw [sn_put, Bool.or_eq_true, decide_eq_true_eq] at hy
    rcases hy with rfl | hy
    · exact h.a _ (.head _)
    · exact h.b y hy
  c := fun y hy => by
    rw [sn_put, Bool.or_eq_true, decide_eq_true_eq, List.mem_append]
    exact (h.c y hy).elim (fun h => .inl (.inr h)) fun hx => (List.mem_cons.1 hx).elim (fun e => .inl (.inl e.symm)) fun h => .inr (.inl h)
  d := fun z hz hs y hy => by
    rw [sn_put, Bool.or_eq_true, decide_eq_true_eq] at hs ⊢
    rw [List.mem_append]
    rcases hs with e | hs
    · rw [← hS.uniq hx hz e] at hy
      exact .inr (.inr hy)
    · exact (h.d z hz hs y hy).elim (fun h => .inl (.inr h)) fun hx => (List.mem_cons.1 hx).elim (fun e => .inl (.inl e.symm)) fun h => .inr (.inl h)
  e := fun y hy => by
    rw [sn_put, Bool.or_eq_true, decide_eq_true_eq] at hy
    rcases hy with rfl | hy
    · exact .inr ⟨x, hx, rfl⟩
    · exact h.e y hy
  f := fun y => by
    rw [sn_put, Bool.or_eq_true, decide_eq_true_eq, h.f y]
    constructor
    · rintro ⟨h1, h2⟩; exact ⟨h1, .inr h2⟩
    · rintro ⟨h1, rfl | h2⟩
      · exact absurd rfl (hP.dis _ h1 x hx)
      · exact ⟨h1, h2⟩
  g := h.g
  h := by
    have := h.h
    have := un_put' hx hd
    have := (hS.obj x hx).1.ll
    rw [List.length_cons] at *
    rw [List.length_append]
    omega
theorem NI.done {l : List StoredObject} {pr roots : List Int} {m : List (Int × Bool)} {out : List Int} (hP : OkP l pr) (h : NI l pr roots m out []) : okN l pr roots ∧ (out.mergeSort fun x y => decide (x ≤ y)) = need l pr roots := by
  have hr : ∀ d, Rch l roots d → sn m d = true := fun d hd => by
    induction hd with
    | root hd => exact (h.c _ hd).elim id fun h => by simp at h
    | step hx _ hd ih => exact (h.d _ hx ih _ hd).elim id fun h => by simp at h
  refine ⟨fun d hd => h.e d (hr d hd), inc_ext (sort_inc h.g) (need_inc hP) fun d => ?_⟩
  rw [List.mem_mergeSort, need_mem, h.f]
  exact ⟨fun h1 => ⟨h1.1, h.b d h1.2⟩, fun h1 => ⟨h1.1, hr d h1.2⟩⟩
theorem NI.len {l : List StoredObject} {pr roots : List Int} {m : List (Int × Bool)} {out line : List Int} (hP : OkP l pr) (h : NI l pr roots m out line) : out.length ≤ 40 := by
  have h1 : (out.mergeSort fun x y => decide (x ≤ y)) = pr.filter fun d => sn m d := inc_ext (sort_inc h.g) (hP.inc.sublist List.filter_sublist) fun d => by
    rw [List.mem_mergeSort, h.f, List.mem_filter]
  have h2 := congrArg List.length h1
  rw [List.length_mergeSort] at h2
  rw [h2]
  exact Nat.le_trans (List.length_filter_le _ _) hP.len
theorem app8g {xs ys : List Int} (h : xs.length + ys.length ≤ 10000) : appL 8 xs ys = some (xs ++ ys) := appL_of (by omega)
theorem cutFrom1 {d : Int} {line : List Int} : cutFrom (d :: line) 1 = some line := by
  unfold cutFrom
  rw [if_pos ⟨by omega, by rw [List.length_cons]; omega⟩]; rfl
open Classical in
theorem Needed_eq {l : List StoredObject} {pr roots : List Int} (hS : OkS l) (hP : OkP l pr) (hl : roots.length ≤ 40) (hr : ∀ d ∈ roots, I64 d) :
    partial_Needed.f ⟨l⟩ pr roots = some (if okN l pr roots then (need l pr roots, ⟨0, 0⟩) else ([], ⟨6, -1⟩)) := by
  have hC := pcheck_eq ⟨l⟩ (pr := pr) fun d hd => ⟨by have := hP.rng d hd; omega, by have := hP.rng d hd; omega⟩
  rw [pFault_eq0.2 ⟨hS, hP⟩] at hC
  have hCl : CloneI.f roots = some roots := by unfold CloneI.f; rw [if_pos (by omega)]
  refine retOf_of ?_
  unfold partial_Needed.body
  simp only [WL, partial_Needed.retv, partial_Needed.r0, partial_Needed.r1, partial_Needed.r2, partial_Needed.r3, partial_Needed.r4, partial_Needed.r5, partial_Needed.r6, partial_Needed.r7, partial_Needed.r8, partial_Needed.r10, partial_Needed.r11, partial_Needed.r12, partial_Needed.r13, partial_Needed.r14, partial_Needed.r15, partial_Needed.r16, partial_Needed.r17, partial_Needed.r18, partial_Needed.r19, partial_Needed.r9, partial_Needed.r20, partial_Needed.r21, hC, hCl]
  refine ⟨fun e => by omega, fun _ => ?_⟩
  refine W_iter (fun s => s.t_1 = pr ∧ s.t_3 = ⟨l⟩ ∧ NI l pr roots s.t_9 s.t_10 s.t_11) (fun s => s.t_11.length + 30 * un l s.t_9) ⟨rfl, rfl, ?_⟩ ?_
  · exact ⟨fun d hd => .root hd, fun d hd => by simp [sn, mget] at hd, fun d hd => .inr hd, fun x hx hd => by simp [sn, mget] at hd, fun d hd => by simp [sn, mget] at hd, fun d => by simp [sn, mget], List.Pairwise.nil, by
      show roots.length + 30 * un l [] ≤ 1240
      have : un l [] ≤ l.length := List.length_filter_le _ _
      have := hS.len
      omega⟩
  rintro s ⟨e1, e3, hI⟩
  generalize hm : s.t_9 = m at hI
  generalize ho : s.t_10 = out at hI
  have hol := hI.len hP
  cases hline : s.t_11 with
  | nil =>
    rw [hline] at hI
    obtain ⟨d1, d2⟩ := hI.done hP
    have hSo : SortI.f out = some (need l pr roots) := by unfold SortI.f; rw [if_pos (by omega), d2]
    simp only [WL, partial_Needed.retv, partial_Needed.r0, partial_Needed.r1, partial_Needed.r2, partial_Needed.r3, partial_Needed.r4, partial_Needed.r5, partial_Needed.r6, partial_Needed.r7, partial_Needed.r8, partial_Needed.r10, partial_Needed.r11, partial_Needed.r12, partial_Needed.r13, partial_Needed.r14, partial_Needed.r15, partial_Needed.r16, partial_Needed.r17, partial_Needed.r18, partial_Needed.r19, partial_Needed.r9, partial_Needed.r20, partial_Needed.r21, e1, e3, hm, ho, hline, hSo, List.length_nil, if_pos d1]
    exact ⟨fun e => absurd e (by decide), fun _ => trivial⟩
  | cons d line =>
    rw [hline] at hI
    have hidx : idx (d :: line) 0 = some d := rfl
    have hpos : (0 : Int) < ((d :: line).length : Int) := by rw [List.length_cons]; omega
    have hlen := hI.h
    rw [List.length_cons] at hlen
    have hRd := hI.a d (.head _)
    have hd6 := hRd.i64 hS hr
    obtain ⟨r, hB, p, b, rfl, hF⟩ := BI_eq (l := pr) (t := d) (by have := hP.len; omega)
    have hFm := hF.mem hP.inc
    simp only [WL, partial_Needed.retv, partial_Needed.r0, partial_Needed.r1, partial_Needed.r2, partial_Needed.r3, partial_Needed.r4, partial_Needed.r5, partial_Needed.r6, partial_Needed.r7, partial_Needed.r8, partial_Needed.r10, partial_Needed.r11, partial_Needed.r12, partial_Needed.r13, partial_Needed.r14, partial_Needed.r15, partial_Needed.r16, partial_Needed.r17, partial_Needed.r18, partial_Needed.r19, partial_Needed.r9, partial_Needed.r20, partial_Needed.r21, e1, e3, hm, ho, hline, hidx, hpos, hB]
    refine ⟨fun hs => opt_of cutFrom1 ⟨hI.skip hs, by rw [List.length_cons]; omega⟩, fun hs => ⟨fun hb => ?_, fun hb => ?_⟩⟩
    · refine opt_of (app8i (by omega)) (opt_of cutFrom1 ⟨hI.take hP hs (hFm.1 hb), ?_⟩)
      have := un_put (l := l) (m := m) (d := d)
      rw [List.length_cons]; omega
    · have hnp : d ∉ pr := fun h => by rw [hFm.2 h] at hb; cases hb
      by_cases hx : ∃ x ∈ l, x.Digest = d
      · obtain ⟨x, hx, rfl⟩ := hx
        refine opt_of (Get_eq hS hx) ⟨fun e => absurd rfl e, fun _ => ?_⟩
        have hxl := (hS.obj x hx).1.ll
        refine opt_of (app8g (ys := x.Object.Links) (by rw [List.length_cons]; omega)) (opt_of cutFrom1 ⟨hI.more hS hP hs hx, ?_⟩)
        have := un_put' hx hs
        show (line ++ x.Object.Links).length + 30 * un l (mput m x.Digest true) < line.length + 1 + 30 * un l m
        rw [List.length_append]; omega
      · refine opt_of (Get_none hS hd6.1 hd6.2 fun x h e => hx ⟨x, h, e⟩) ⟨fun _ => ?_, fun e => absurd e (by decide)⟩
        rw [if_neg (fun h => (h d hRd).elim hnp hx)]

/-! ## The reference's marks -/
def cf (xs : List Bool) : Nat := (xs.filter fun b => !b).length
theorem cf_set : ∀ {xs : List Bool} {i : Nat}, xs[i]? = some false → cf (xs.set i true) < cf xs
  | [], i, h => by simp at h
  | b :: xs, 0, h => by
    have : b = false := by simpa using h
    subst this
    simp [cf]
  | b :: xs, i + 1, h => by
    have := cf_set (xs := xs) (i := i) (by simpa using h)
    unfold cf at *
    cases b <;> simp at * <;> omega
/-- Marks that are sound. -/
structure MS (l : List StoredObject) (roots : List Int) (m : List Bool) : Prop where
  len : m.length = l.length
  snd : ∀ (i : Nat) (h : i < l.length), m[i]? = some true → Rch l roots l[i].Digest
def hit (l : List StoredObject) (roots : List Int) (m : List Bool) (n : Nat) (d : Int) : Prop := d ∈ roots ∨ ∃ (k : Nat) (h : k < l.length), k < n ∧ m[k]? = some true ∧ d ∈ l[k].Object.Links
theorem hit_rch {l : List StoredObject} {roots : List Int} {m : List Bool} {n : Nat} {d : Int} (hM : MS l roots m) (h : hit l roots m n d) : Rch l roots d := by
  rcases h with h | ⟨k, hk, _, h1, h2⟩
  · exact .root h
  · exact .step (List.getElem_mem hk) (hM.snd k hk h1) h2
theorem MS.set {l : List StoredObject} {roots : List Int} {m : List Bool} (h : MS l roots m) {i : Nat} (hi : i < l.length) (hr : Rch l roots l[i].Digest) : MS l roots (setL m (i : Int) true) where
  len := by unfold setL; rw [List.length_set]; exact h.len
  snd := fun j hj hm => by
    unfold setL at hm
    rw [Int.toNat_natCast, List.getElem?_set] at hm
    by_cases e : i = j
    · subst e; exact hr
    · rw [if_neg e] at hm
      exact h.snd j hj hm
open Classical in
noncomputable def marks (l : List StoredObject) (roots : List Int) : List Bool := l.map fun x => decide (Rch l roots x.Digest)
open Classical in
theorem marks_of {l : List StoredObject} {roots : List Int} {m : List Bool} (h : MS l roots m) (hc : ∀ (i : Nat) (hi : i < l.length), hit l roots m l.length l[i].Digest → m[i]? = some true) : m = marks l roots := by
  have hr : ∀ d, Rch l roots d → ∀ (i : Nat) (hi : i < l.length), l[i].Digest = d → m[i]? = some true := fun d hd => by
    induction hd with
    | root hd => intro i hi e; exact hc i hi (.inl (e ▸ hd))
    | @step x d hx _ hd ih =>
      intro i hi e
      obtain ⟨k, hk, rfl⟩ := List.getElem_of_mem hx
      exact hc i hi (.inr ⟨k, hk, hk, ih k hk rfl, e ▸ hd⟩)
  unfold marks
  refine List.ext_getElem (by rw [List.length_map]; exact h.len) fun i h1 h2 => ?_
  rw [List.getElem_map]
  have hi : i < l.length := by rw [← h.len]; exact h1
  cases hb : m[i] with
  | true =>
    have := h.snd i hi (by rw [List.getElem?_eq_getElem h1, hb])
    rw [decide_eq_true this]
  | false =>
    rw [decide_eq_false]
    intro hd
    have := hr _ hd i hi rfl
    rw [List.getElem?_eq_getElem h1, hb] at this
    cases this
theorem mkL_eq {n : Nat} (h : n ≤ 1000) : mkL 1 false (n : Int) = some (List.replicate n false) := by
  unfold mkL; rw [if_pos (by omega), Int.toNat_natCast]
theorem MS.zero {l : List StoredObject} {roots : List Int} : MS l roots (List.replicate l.length false) where
  len := List.length_replicate
  snd := fun i h hm => by
    rw [List.getElem?_replicate] at hm
    split at hm <;> cases hm
theorem Marked_eq {l : List StoredObject} {roots : List Int} (hS : OkS l) (hl : roots.length ≤ 1000) : ref4_Marked.f ⟨l⟩ roots = some (marks l roots) := by
  have hll := hS.len
  refine retOf_of ?_
  unfold ref4_Marked.body
  simp only [WL, ref4_Marked.retv, ref4_Marked.r0, ref4_Marked.r1, ref4_Marked.r2, ref4_Marked.r3, ref4_Marked.r4, ref4_Marked.r5, ref4_Marked.r6, ref4_Marked.r8, ref4_Marked.r9, ref4_Marked.r10, ref4_Marked.r11, ref4_Marked.r13, ref4_Marked.r12, ref4_Marked.r14, ref4_Marked.r15, ref4_Marked.r16, ref4_Marked.r7, ref4_Marked.r17, mkL_eq (show l.length ≤ 1000 by omega)]
  refine W_iter (fun s => s.t_1 = roots ∧ s.t_2 = ⟨l⟩ ∧ MS l roots s.t_5 ∧ (s.t_6 = false → ∀ (i : Nat) (hi : i < l.length), hit l roots s.t_5 l.length l[i].Digest → s.t_5[i]? = some true)) (fun s => 2 * cf s.t_5 + if s.t_6 = true then 1 else 0) ⟨rfl, rfl, MS.zero, fun h => by cases h⟩ ?_
  rintro s ⟨e1, e2, hM, hC⟩
  generalize hm : s.t_5 = m at hM hC
  cases h6 : s.t_6 with
  | false =>
    rw [marks_of hM (hC h6)] at hm
    simp only [WL, ref4_Marked.retv, ref4_Marked.r0, ref4_Marked.r1, ref4_Marked.r2, ref4_Marked.r3, ref4_Marked.r4, ref4_Marked.r5, ref4_Marked.r6, ref4_Marked.r8, ref4_Marked.r9, ref4_Marked.r10, ref4_Marked.r11, ref4_Marked.r13, ref4_Marked.r12, ref4_Marked.r14, ref4_Marked.r15, ref4_Marked.r16, ref4_Marked.r7, ref4_Marked.r17, h6, hm]
  | true =>
    simp only [WL, ref4_Marked.retv, ref4_Marked.r0, ref4_Marked.r1, ref4_Marked.r2, ref4_Marked.r3, ref4_Marked.r4, ref4_Marked.r5, ref4_Marked.r6, ref4_Marked.r8, ref4_Marked.r9, ref4_Marked.r10, ref4_Marked.r11, ref4_Marked.r13, ref4_Marked.r12, ref4_Marked.r14, ref4_Marked.r15, ref4_Marked.r16, ref4_Marked.r7, ref4_Marked.r17, e1, e2, h6, hm]
    refine W_iter (fun s => s.t_1 = roots ∧ s.t_2 = ⟨l⟩ ∧ MS l roots s.t_5 ∧ cf s.t_5 ≤ cf m ∧ (s.t_6 = true → cf s.t_5 < cf m) ∧ ∃ i : Nat, s.t_7 = i ∧ i ≤ l.length ∧ (s.t_6 = false → ∀ (j : Nat) (hj : j < l.length), j < i → hit l roots s.t_5 l.length l[j].Digest → s.t_5[j]? = some true)) (fun s => l.length - s.t_7.toNat) ⟨rfl, rfl, hM, Nat.le_refl _, fun h => absurd h Bool.false_ne_true, 0, rfl, Nat.zero_le _, fun _ j _ hj => absurd hj (Nat.not_lt_zero _)⟩ ?_
    rintro s ⟨e1, e2, hM', hcf, hcf', i, e7, hi, hC⟩
    generalize hm' : s.t_5 = m' at hM' hcf hcf' hC
    simp only [WL, ref4_Marked.retv, ref4_Marked.r0, ref4_Marked.r1, ref4_Marked.r2, ref4_Marked.r3, ref4_Marked.r4, ref4_Marked.r5, ref4_Marked.r6, ref4_Marked.r8, ref4_Marked.r9, ref4_Marked.r10, ref4_Marked.r11, ref4_Marked.r13, ref4_Marked.r12, ref4_Marked.r14, ref4_Marked.r15, ref4_Marked.r16, ref4_Marked.r7, ref4_Marked.r17, e1, e2, e7, hm']
    refine ⟨fun hlt => ?_, fun hge => ?_⟩
    · have hlt : i < l.length := by omega
      have hH := Has_eq roots l[i].Digest (by omega)
      refine opt_of (idx_nat' hlt) ?_
      simp only [WL, ref4_Marked.retv, ref4_Marked.r0, ref4_Marked.r1, ref4_Marked.r2, ref4_Marked.r3, ref4_Marked.r4, ref4_Marked.r5, ref4_Marked.r6, ref4_Marked.r8, ref4_Marked.r9, ref4_Marked.r10, ref4_Marked.r11, ref4_Marked.r13, ref4_Marked.r12, ref4_Marked.r14, ref4_Marked.r15, ref4_Marked.r16, ref4_Marked.r7, ref4_Marked.r17, hH]
      refine W_iter (fun s => s.t_1 = roots ∧ s.t_2 = ⟨l⟩ ∧ s.t_5 = m' ∧ s.t_7 = (i : Int) ∧ s.t_8 = l[i].Digest ∧ (s.t_6 = true → cf m' < cf m) ∧ (s.t_6 = false → ∀ (j : Nat) (hj : j < l.length), j < i → hit l roots m' l.length l[j].Digest → m'[j]? = some true) ∧ ∃ k : Nat, s.t_10 = k ∧ k ≤ l.length ∧ (s.t_9 = true ↔ hit l roots m' k l[i].Digest)) (fun s => l.length - s.t_10.toNat) ⟨rfl, rfl, rfl, rfl, rfl, hcf', hC, 0, rfl, Nat.zero_le _, ?_⟩ ?_
      · show decide _ = true ↔ _
        rw [decide_eq_true_eq]
        exact ⟨.inl, fun h => h.elim id fun ⟨k, _, hk, _⟩ => absurd hk (Nat.not_lt_zero _)⟩
      rintro s ⟨e1, e2, e5, e7, e8, hcf', hC, k, e10, hk, his⟩
      generalize h9 : s.t_9 = is at his
      simp only [WL, ref4_Marked.retv, ref4_Marked.r0, ref4_Marked.r1, ref4_Marked.r2, ref4_Marked.r3, ref4_Marked.r4, ref4_Marked.r5, ref4_Marked.r6, ref4_Marked.r8, ref4_Marked.r9, ref4_Marked.r10, ref4_Marked.r11, ref4_Marked.r13, ref4_Marked.r12, ref4_Marked.r14, ref4_Marked.r15, ref4_Marked.r16, ref4_Marked.r7, ref4_Marked.r17, e1, e2, e5, e7, e8, h9, e10]
      refine ⟨fun hltk => ?_, fun hgek => ?_⟩
      · have hltk : k < l.length := by omega
        have hmk : k < m'.length := by rw [hM'.len]; exact hltk
        have hstep : hit l roots m' (k + 1) l[i].Digest ↔ hit l roots m' k l[i].Digest ∨ (m'[k]? = some true ∧ l[i].Digest ∈ l[k].Object.Links) := by
          constructor
          · rintro (h | ⟨j, hj, h1, h2, h3⟩)
            · exact .inl (.inl h)
            · by_cases e : j = k
              · subst e; exact .inr ⟨h2, h3⟩
              · exact .inl (.inr ⟨j, hj, by omega, h2, h3⟩)
          · rintro ((h | ⟨j, hj, h1, h2, h3⟩) | ⟨h2, h3⟩)
            · exact .inl h
            · exact .inr ⟨j, hj, by omega, h2, h3⟩
            · exact .inr ⟨k, hltk, by omega, h2, h3⟩
        have hnext : ∀ b : Prop, (b ↔ hit l roots m' (k + 1) l[i].Digest) → (∃ k1 : Nat, w64 ((k : Int) + 1) = k1 ∧ k1 ≤ l.length ∧ (b ↔ hit l roots m' k1 l[i].Digest)) ∧ l.length - (w64 ((k : Int) + 1)).toNat < l.length - (k : Int).toNat := by
          intro b hb
          rw [w64_succ (by omega)]
          exact ⟨⟨k + 1, rfl, by omega, hb⟩, by omega⟩
        have hL := Has_eq l[k].Object.Links l[i].Digest (by have := (hS.obj _ (List.getElem_mem hltk)).1.ll; omega)
        refine ⟨fun h => ?_, fun h => opt_of (idx_nat' hmk) ⟨fun hk1 => opt_of (idx_nat' hltk) (opt_of hL ?_), fun hk1 => ?_⟩⟩
        · have := hnext True (by rw [hstep]; exact ⟨fun _ => .inl (his.1 h), fun _ => trivial⟩)
          exact ⟨⟨hcf', hC, this.1⟩, this.2⟩
        · have hnh : ¬ hit l roots m' k l[i].Digest := fun e => h (his.2 e)
          have hk2 : m'[k]? = some true := by rw [List.getElem?_eq_getElem hmk, hk1]
          have := hnext (l[i].Digest ∈ l[k].Object.Links) (by rw [hstep]; exact ⟨fun e => .inr ⟨hk2, e⟩, fun e => e.elim (fun e => absurd e hnh) And.right⟩)
          simp only [WL]
          exact ⟨⟨hcf', hC, this.1⟩, this.2⟩
        · have hnh : ¬ hit l roots m' k l[i].Digest := fun e => h (his.2 e)
          have hk2 : m'[k]? = some false := by rw [List.getElem?_eq_getElem hmk]; simp [hk1]
          have := hnext False (by rw [hstep]; exact ⟨False.elim, fun e => e.elim hnh fun e => by rw [hk2] at e; cases e.1⟩)
          exact ⟨⟨hcf', hC, this.1⟩, this.2⟩
      · have hkl : k = l.length := by omega
        subst hkl
        have him : i < m'.length := by rw [hM'.len]; exact hlt
        have hfin : ∀ c : Bool, (c = false → ∀ (j : Nat) (hj : j < l.length), j < i → hit l roots m' l.length l[j].Digest → m'[j]? = some true) → (c = false → hit l roots m' l.length l[i].Digest → m'[i]? = some true) → (∃ i1 : Nat, w64 ((i : Int) + 1) = i1 ∧ i1 ≤ l.length ∧ (c = false → ∀ (j : Nat) (hj : j < l.length), j < i1 → hit l roots m' l.length l[j].Digest → m'[j]? = some true)) ∧ l.length - (w64 ((i : Int) + 1)).toNat < l.length - (i : Int).toNat := by
          intro c h1 h2
          rw [w64_succ (by omega)]
          refine ⟨⟨i + 1, rfl, by omega, fun hc j hj hji => ?_⟩, by omega⟩
          by_cases e : j = i
          · subst e; exact h2 hc
          · exact h1 hc j hj (by omega)
        refine ⟨fun h => opt_of (idx_nat' him) ⟨fun hb => opt_of (idx_nat' him) ?_, fun hb => ?_⟩, fun h => ?_⟩
        · have hb2 : m'[i]? = some false := by rw [List.getElem?_eq_getElem him, hb]
          have hc := cf_set hb2
          have hcs : cf (setL m' (i : Int) true) < cf m' := by unfold setL; rw [Int.toNat_natCast]; exact hc
          rw [w64_succ (by omega)]
          refine ⟨⟨hM'.set hlt (hit_rch hM' (his.1 h)), by omega, by omega, i + 1, rfl, by omega⟩, by omega⟩
        · have hb2 : m'[i]? = some true := by rw [List.getElem?_eq_getElem him]; simpa using hb
          have := hfin s.t_6 hC fun _ _ => hb2
          exact ⟨⟨hM', hcf, hcf', this.1⟩, this.2⟩
        · have := hfin s.t_6 hC fun _ e => absurd (his.2 e) h
          exact ⟨⟨hM', hcf, hcf', this.1⟩, this.2⟩
    · have hil : i = l.length := by omega
      subst hil
      cases h6' : s.t_6 with
      | false =>
        refine ⟨⟨hM', fun _ j hj h => hC h6' j hj hj h⟩, ?_⟩
        rw [if_neg (by decide)]; omega
      | true =>
        have := hcf' h6'
        refine ⟨⟨hM', fun h => by cases h⟩, ?_⟩
        rw [if_pos rfl]; omega
end Go.Proofs.Ytenkbkcddcnmeaa
