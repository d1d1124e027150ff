/- Rows of the call's own: what is appended to, stored into, made. -/
import Derived.Test.YtenkbkcddcnmeaaDoorFx3
namespace Go.Fx
open Go.RowKit
set_option linter.unusedVariables false
set_option linter.unusedSimpArgs false

/-- Nothing; one block. -/
def nrow : BSet := fun _ => False
def ob (o : Option Nat) : BSet := fun g => o = some g
/-- The state of a call: what was there before it is as it was, but for the block 'row' (an argument that the call writes); the frozen blocks. -/
structure Wk (row : BSet) (w0 : World) (F0 F : BSet) (w : World) : Prop where
  os : w.os = w0.os
  tape : w.tape = w0.tape
  output : w.output = w0.output
  le : w0.heap.size ≤ w.heap.size
  block : ∀ k, k < w0.heap.size → ¬ row k → w.heap[k]? = w0.heap[k]?
  ok : ∀ b, F b → b < w.heap.size
  mono : ∀ b, F0 b → F b
  old : ∀ b, b < w0.heap.size → F b → F0 b

theorem Wk.below {w0 w : World} {F0 F : BSet} (h : Wk nrow w0 F0 F w) : Below w0.heap.size w0 w := ⟨h.os, h.tape, h.output, h.le, fun k hk => h.block k hk (fun h => h)⟩
/-- What the call may write: what is new, and that argument. -/
def Bs (w0 : World) (row : BSet) : BSet := fun g => w0.heap.size ≤ g ∨ row g
/-- What is new since w. -/
def Nw (w : World) : BSet := fun g => w.heap.size ≤ g
section
variable {row r : BSet} {w0 w w' : World} {F0 F F' : BSet}
theorem Wk.refl (h : ∀ b, F b → b < w.heap.size) : Wk row w F F w := ⟨rfl, rfl, rfl, Nat.le_refl _, fun _ _ _ => rfl, h, fun _ hb => hb, fun _ _ hb => hb⟩
theorem Wk.transR (h : Wk row w0 F0 F w) (k : Wk r w F F' w') (hr : ∀ g, r g → Bs w0 row g) : Wk row w0 F0 F' w' :=
  ⟨k.os.trans h.os, k.tape.trans h.tape, k.output.trans h.output, Nat.le_trans h.le k.le, fun i hi hne => (k.block i (Nat.lt_of_lt_of_le hi h.le) (fun e => by
    rcases hr i e with h1 | h1
    · omega
    · exact hne h1)).trans (h.block i hi hne), k.ok, fun b hb => k.mono b (h.mono b hb), fun b hb hF => h.old b hb (k.old b (Nat.lt_of_lt_of_le hb h.le) hF)⟩
theorem Wk.trans (h : Wk row w0 F0 F w) (k : Wk nrow w F F' w') : Wk row w0 F0 F' w' := h.transR k (fun g e => e.elim)
theorem Wk.stpR (k : Wk r w F F' w') (ok : ∀ b, F b → b < w.heap.size) (hr : ∀ g, r g → ¬ F g) : Stp F w F' w' :=
  ⟨fun b hb => k.block b (ok b hb) (fun e => hr b e hb), k.mono⟩
theorem Wk.stp (k : Wk nrow w F F' w') (ok : ∀ b, F b → b < w.heap.size) : Stp F w F' w' := k.stpR ok (fun g e => e.elim)
theorem Wk.of_below (h : Below w.heap.size w w') (ok : ∀ b, F b → b < w.heap.size) : Wk row w F F w' :=
  ⟨h.os, h.tape, h.output, h.size, fun k hk _ => h.block k hk, fun b hb => Nat.lt_of_lt_of_le (ok b hb) h.size, fun _ h => h, fun _ _ h => h⟩
theorem Wk.alloc (ok : ∀ b, F b → b < w.heap.size) (o : Obj) : Wk row w F F (w.alloc o) := Wk.of_below ((Below.refl _ _).alloc (Nat.le_refl _) o) ok
theorem Wk.drew (ok : ∀ b, F b → b < w.heap.size) : Wk row w F F w.drew := Wk.of_below (Below.refl _ _).drew ok
def fadd (F : BSet) (g : Nat) : BSet := fun b => F b ∨ b = g
/-- A block of the call's own is written, or a new one made in its place. -/
theorem Wk.mut {q : Option Nat} (h : Wk row w0 F0 F w) (hg : w.grownBy w' q) (hr : ∀ g, q = some g → Bs w0 row g) : Wk row w0 F0 F w' :=
  h.transR (r := ob q) ⟨hg.os, hg.tape, hg.output, hg.size, fun k hk hne => hg.block k hk (fun e => hne e.symm), fun b hb => Nat.lt_of_lt_of_le (h.ok b hb) hg.size, fun _ h => h, fun _ _ h => h⟩ hr
theorem Stp.mut {q : Option Nat} (ok : ∀ b, F b → b < w.heap.size) (hg : w.grownBy w' q) (hr : ∀ g, q = some g → ¬ F g) : Stp F w F w' :=
  ⟨fun b hb => hg.block b (ok b hb) (fun e => hr b e.symm hb), fun _ h => h⟩
theorem Stp.fadd (F : BSet) (w : World) (g : Nat) : Stp F w (fadd F g) w := ⟨fun _ _ => rfl, fun _ h => .inl h⟩
/-- A call to which rows were lent: what it froze is let go. -/
theorem Wk.lend {F1 F2 : BSet} (k : Wk row w F1 F2 w') (ok : ∀ b, F b → b < w.heap.size) : Wk row w F F w' :=
  ⟨k.os, k.tape, k.output, k.le, k.block, fun b hb => Nat.lt_of_lt_of_le (ok b hb) k.le, fun _ h => h, fun _ _ h => h⟩
end

/-! ### rows as lists of cells -/
section
variable {α : Type} {k : Kd α} {F F' : BSet} {w w' : World}

def Cat (k : Kd α) (F : BSet) (w : World) : List α → List Value → Prop
  | [], cs => cs = []
  | x :: xs, cs => ∃ c d, cs = c ++ d ∧ k.rep F w x c ∧ Cat k F w xs d

theorem Cat.len : ∀ {xs : List α} {cs : List Value}, Cat k F w xs cs → cs.length = xs.length * k.sz
  | [], _, h => by rw [show _ = [] from h]; simp
  | x :: xs, _, ⟨c, d, e, hc, hd⟩ => by rw [e, List.length_append, k.len hc, Cat.len hd, List.length_cons, Nat.add_mul]; omega
theorem Cat.keep (s : Stp F w F' w') : ∀ {xs : List α} {cs : List Value}, Cat k F w xs cs → Cat k F' w' xs cs
  | [], _, h => h
  | _ :: _, _, ⟨c, d, e, hc, hd⟩ => ⟨c, d, e, k.keep s hc, Cat.keep s hd⟩
theorem Cat.one : ∀ {xs : List α} {cs : List Value}, Cat k F w xs cs → ∀ u ∈ cs, u.oneCell' = true
  | [], _, h, u, hu => by rw [show _ = [] from h] at hu; cases hu
  | _ :: _, _, ⟨c, d, e, hc, hd⟩, u, hu => by
    subst e
    rcases List.mem_append.1 hu with hu | hu
    · exact k.one hc u hu
    · exact Cat.one hd u hu
theorem Cat.append : ∀ {xs ys : List α} {cs ds : List Value}, Cat k F w xs cs → Cat k F w ys ds → Cat k F w (xs ++ ys) (cs ++ ds)
  | [], _, _, _, h, h' => by rw [show _ = [] from h]; exact h'
  | _ :: _, _, _, _, ⟨c, d, e, hc, hd⟩, h' => ⟨c, d ++ _, by rw [e, List.append_assoc], hc, Cat.append hd h'⟩
theorem Cat.cut (hsz : True) : ∀ {xs : List α} {cs : List Value} (i : Nat), Cat k F w xs cs → Cat k F w (xs.take i) (cs.take (i * k.sz)) ∧ Cat k F w (xs.drop i) (cs.drop (i * k.sz))
  | [], cs, i, h => by rw [show cs = [] from h]; simp [Cat]
  | x :: xs, cs, 0, h => by simp only [List.take_zero, Nat.zero_mul, List.drop_zero]; exact ⟨rfl, h⟩
  | x :: xs, cs, i + 1, ⟨c, d, e, hc, hd⟩ => by
    subst e
    obtain ⟨h1, h2⟩ := Cat.cut trivial i hd
    have hl : (i + 1) * k.sz = c.length + i * k.sz := by rw [k.len hc, Nat.add_mul]; omega
    simp only [List.take_succ_cons, List.drop_succ_cons, hl]
    refine ⟨⟨c, d.take (i * k.sz), ?_, hc, h1⟩, ?_⟩
    · rw [List.take_length_add_append]
    · rw [List.drop_length_add_append]; exact h2
theorem Cat.get {xs : List α} {cs : List Value} (h : Cat k F w xs cs) {i : Nat} {x : α} (hx : xs[i]? = some x) : k.rep F w x ((cs.drop (i * k.sz)).take k.sz) := by
  have h2 := (Cat.cut trivial i h).2
  obtain ⟨hi, hx'⟩ := List.getElem?_eq_some_iff.1 hx
  rw [List.drop_eq_getElem_cons hi] at h2
  obtain ⟨c, d, e, hc, _⟩ := h2
  have : (List.drop (i * k.sz) cs).take k.sz = c := by
    rw [e, ← k.len hc]; exact List.take_left
  rw [this, ← hx']; exact hc
theorem Cat.set : ∀ {xs : List α} {cs : List Value} {i : Nat} {x : α} {c : List Value}, Cat k F w xs cs → i < xs.length → k.rep F w x c → Cat k F w (xs.set i x) (cs.take (i * k.sz) ++ c ++ cs.drop ((i + 1) * k.sz))
  | [], _, _, _, _, _, hi, _ => by simp at hi
  | y :: ys, cs, 0, x, c, ⟨c0, d, e, h0, hd⟩, _, hc => by
    subst e
    simp only [List.set_cons_zero, Nat.zero_mul, List.take_zero, List.nil_append, Nat.zero_add, Nat.one_mul]
    refine ⟨c, d, ?_, hc, hd⟩
    rw [← k.len h0, List.drop_left]
  | y :: ys, cs, i + 1, x, c, ⟨c0, d, e, h0, hd⟩, hi, hc => by
    subst e
    have ih := Cat.set (i := i) hd (by simpa using hi) hc
    rw [List.set_cons_succ]
    refine ⟨c0, _, ?_, h0, ih⟩
    have h1 : (i + 1) * k.sz = c0.length + i * k.sz := by rw [k.len h0, Nat.add_mul]; omega
    have h2 : (i + 1 + 1) * k.sz = c0.length + (i + 1) * k.sz := by rw [k.len h0, Nat.add_mul (i + 1)]; omega
    rw [h1, h2, List.take_length_add_append, List.drop_length_add_append]
    simp only [List.append_assoc, h1]

/-- The cells of a row that reads as xs. -/
theorem Row.cat {b o : Nat} : ∀ (xs : List α) (o : Nat), (∀ i x, xs[i]? = some x → Lies k F w b (o + i * k.sz) x) → ∃ cs, Cat k F w xs cs ∧ ∀ j u, cs[j]? = some u → w.cell? ⟨b, o + j, none⟩ = some u
  | [], _, _ => ⟨[], rfl, fun j u h => by simp at h⟩
  | x :: xs, o, h => by
    obtain ⟨_, c, hc, hcell⟩ := h 0 x rfl
    obtain ⟨d, hd, hdc⟩ := Row.cat (b := b) (o := o) xs (o + k.sz) (fun i y hy => by
      have := h (i + 1) y (by simpa using hy)
      have e : o + (i + 1) * k.sz = o + k.sz + i * k.sz := by rw [Nat.add_mul]; omega
      rwa [e] at this)
    refine ⟨c ++ d, ⟨c, d, rfl, hc, hd⟩, fun j u hu => ?_⟩
    by_cases hj : j < k.sz
    · rw [List.getElem?_append_left (by rw [k.len hc]; exact hj)] at hu
      have := hcell j hj
      simp only [Nat.zero_mul, Nat.add_zero] at this
      rw [this, hu]
    · rw [List.getElem?_append_right (by rw [k.len hc]; omega), k.len hc] at hu
      have := hdc (j - k.sz) u hu
      rwa [show o + k.sz + (j - k.sz) = o + j by omega] at this

theorem addr_add (b o j : Nat) : (⟨b, o, none⟩ : Addr).add j = ⟨b, o + j, none⟩ := by unfold Addr.add; split <;> simp_all

/-- A slice of the call's own: its row may be written and appended to. -/
def OwnV (k : Kd α) (e : TypeId) (B : BSet) (F : BSet) (w : World) (v : Value) (xs : List α) : Prop :=
  (v = .slice none 0 0 ∧ xs = []) ∨
  ∃ g o cap cur cs, v = .slice (some ⟨g, o, none⟩) xs.length cap ∧ B g ∧ ¬ F g ∧ w.heap[g]? = some (.cells cur e (0, 0)) ∧ (xs.length ≤ cap ∧ cap ≤ 9223372036854775807) ∧ o + cap * k.sz ≤ cur.size ∧
    Cat k F w xs cs ∧ (cur.toList.drop o).take cs.length = cs

theorem OwnV.nil (k : Kd α) (e : TypeId) (B : BSet) (F : BSet) (w : World) : OwnV k e B F w (.slice none 0 0) [] := .inl ⟨rfl, rfl⟩
theorem OwnV.shape {e : TypeId} {B : BSet} {v : Value} {xs : List α} (h : OwnV k e B F w v xs) : ∃ A c, v = .slice A xs.length c ∧ xs.length ≤ c := by
  rcases h with ⟨rfl, rfl⟩ | ⟨g, o, cap, cur, cs, rfl, _, _, _, ⟨hc, _⟩, _⟩
  · exact ⟨none, 0, rfl, Nat.le_refl _⟩
  · exact ⟨_, cap, rfl, hc⟩
theorem OwnV.lt {e : TypeId} {B : BSet} {v : Value} {xs : List α} (h : OwnV k e B F w v xs) {g : Nat} (hg : v.ownBlock = some g) : B g ∧ ¬ F g ∧ g < w.heap.size := by
  rcases h with ⟨rfl, rfl⟩ | ⟨g', o, cap, cur, cs, rfl, hB, hF, hh, _⟩
  · simp [Value.ownBlock] at hg
  · simp [Value.ownBlock] at hg
    subst hg
    exact ⟨hB, hF, (Array.getElem?_eq_some_iff.1 hh).1⟩
theorem OwnV.rebase {e : TypeId} {B B' : BSet} {v : Value} {xs : List α} (h : OwnV k e B F w v xs) (hB : ∀ g, v.ownBlock = some g → B' g) : OwnV k e B' F w v xs := by
  rcases h with h | ⟨g, o, cap, cur, cs, rfl, hg, rest⟩
  · exact .inl h
  · exact .inr ⟨g, o, cap, cur, cs, rfl, hB g rfl, rest⟩
/-- What is new since w is new since w0. -/
theorem OwnV.base {e : TypeId} {w0 w1 : World} {row : BSet} {v : Value} {xs : List α} (h : OwnV k e (Nw w1) F w v xs) (hB : w0.heap.size ≤ w1.heap.size) : OwnV k e (Bs w0 row) F w v xs := by
  rcases h with h | ⟨g, o, cap, cur, cs, hv, hg, rest⟩
  · exact .inl h
  · exact .inr ⟨g, o, cap, cur, cs, hv, .inl (Nat.le_trans hB hg), rest⟩
theorem OwnV.move {e : TypeId} {B : BSet} {v : Value} {xs : List α} (h : OwnV k e B F w v xs) (s : Stp F w F' w') (hb : ∀ g, v.ownBlock = some g → w'.heap[g]? = w.heap[g]? ∧ ¬ F' g) : OwnV k e B F' w' v xs := by
  rcases h with h | ⟨g, o, cap, cur, cs, rfl, hB, hF, hh, ⟨hc, hcm⟩, hs, hcat, htake⟩
  · exact .inl h
  · obtain ⟨h1, h2⟩ := hb g rfl
    exact .inr ⟨g, o, cap, cur, cs, rfl, hB, h2, h1.trans hh, ⟨hc, hcm⟩, hs, hcat.keep s, htake⟩
def Apart (a b : Option Nat) : Prop := ∀ g, a = some g → b ≠ some g
theorem Apart.symm {a b : Option Nat} (h : Apart a b) : Apart b a := fun g hg hv => h g hv hg
theorem Apart.none (b : Option Nat) : Apart Option.none b := fun g hg => by cases hg
/-- A set of blocks lies apart from a block. -/
def ApS (r : BSet) (b : Option Nat) : Prop := ∀ g, r g → b ≠ some g
/-- Behind a call that may have written the blocks of r. -/
theorem OwnV.wkR {e : TypeId} {B : BSet} {r : BSet} {v : Value} {xs : List α} (h : OwnV k e B F w v xs) (hap : ApS r v.ownBlock) (s : Wk r w F F' w') (st : Stp F w F' w') : OwnV k e B F' w' v xs :=
  h.move st fun g hg => ⟨s.block g (h.lt hg).2.2 (fun e => hap g e hg), fun hF => (h.lt hg).2.1 (s.old g (h.lt hg).2.2 hF)⟩
/-- Behind a step that changes nothing that was there. -/
theorem OwnV.wk {e : TypeId} {B : BSet} {v : Value} {xs : List α} (h : OwnV k e B F w v xs) (s : Wk nrow w F F' w') (ok : ∀ b, F b → b < w.heap.size) : OwnV k e B F' w' v xs :=
  h.wkR (fun _ h => h.elim) s (s.stp ok)
/-- Behind a step that may have changed the block of v. -/
theorem OwnV.mut {e : TypeId} {B : BSet} {u : Value} {row : Option Nat} {xs : List α} (h : OwnV k e B F w u xs) (hap : Apart row u.ownBlock) (hg : w.grownBy w' row) (s : Stp F w F w') : OwnV k e B F w' u xs :=
  h.move s fun g hu => ⟨hg.block g (h.lt hu).2.2 (fun e => hap g e.symm hu), (h.lt hu).2.1⟩
theorem OwnV.freeze {e : TypeId} {B : BSet} {v : Value} {xs : List α} (h : OwnV k e B F w v xs) : ∃ F', (∀ b, F' b → F b ∨ v.ownBlock = some b) ∧ (∀ b, F b → F' b) ∧ SlR k F' w v xs := by
  rcases h with ⟨rfl, rfl⟩ | ⟨g, o, cap, cur, cs, rfl, hB, hF, hh, ⟨hc, hcm⟩, hs, hcat, htake⟩
  · exact ⟨F, fun _ h => .inl h, fun _ h => h, SlR.nil k F w⟩
  · refine ⟨fadd F g, fun b hb => by rcases hb with hb | rfl; exact .inl hb; exact .inr rfl, fun _ h => .inl h, _, cap, rfl, hc, ?_⟩
    rcases xs with _ | ⟨x, xs⟩
    · exact .inl rfl
    · refine .inr ⟨g, o, rfl, fun i y hy => ⟨.inr rfl, _, k.keep (Stp.fadd F w g) (hcat.get hy), fun j hj => ?_⟩⟩
      have hi : i < (x :: xs).length := (List.getElem?_eq_some_iff.1 hy).1
      have hlen := hcat.len
      have hlt : i * k.sz + j < cs.length := by
        rw [hlen]
        have : (i + 1) * k.sz ≤ (x :: xs).length * k.sz := Nat.mul_le_mul_right _ hi
        rw [Nat.add_mul] at this; omega
      have hcell : w.cell? ⟨g, o + i * k.sz + j, none⟩ = cur[o + i * k.sz + j]? := by simp [World.cell?, hh]
      rw [hcell, List.getElem?_take, if_pos hj, List.getElem?_drop, ← htake, List.getElem?_take, if_pos hlt, List.getElem?_drop, Array.getElem?_toList]
      congr 1; omega

/-- Lent: read alone for a while. -/
theorem OwnV.lent {e : TypeId} {B : BSet} {v : Value} {xs : List α} (h : OwnV k e B F w v xs) (ok : ∀ b, F b → b < w.heap.size) : ∃ F', (∀ b, F' b → b < w.heap.size) ∧ Stp F w F' w ∧ (∀ b, F' b → F b ∨ v.ownBlock = some b) ∧ SlR k F' w v xs := by
  obtain ⟨F', h1, h2, h3⟩ := h.freeze
  refine ⟨F', fun b hb => ?_, ⟨fun _ _ => rfl, h2⟩, h1, h3⟩
  rcases h1 b hb with hb | hb
  · exact ok b hb
  · exact (h.lt hb).2.2
theorem OwnV.frozenN {row : BSet} {w0 : World} {F0 : BSet} {e : TypeId} {B : BSet} {v : Value} {xs : List α} (h : OwnV k e B F w v xs) (hB : ∀ g, v.ownBlock = some g → w0.heap.size ≤ g) (hW : Wk row w0 F0 F w) :
    ∃ F', Wk row w0 F0 F' w ∧ Stp F w F' w ∧ (∀ b, F' b → F b ∨ v.ownBlock = some b) ∧ SlR k F' w v xs := by
  obtain ⟨F', h1, h2, h3⟩ := h.freeze
  refine ⟨F', ⟨hW.os, hW.tape, hW.output, hW.le, hW.block, fun b hb => ?_, fun b hb => h2 b (hW.mono b hb), fun b hb hF => ?_⟩, ⟨fun _ _ => rfl, h2⟩, h1, h3⟩
  · rcases h1 b hb with hb | hb
    · exact hW.ok b hb
    · exact (h.lt hb).2.2
  · rcases h1 b hF with hF | hF
    · exact hW.old b hb hF
    · have := hB b hF; omega
theorem OwnV.frozen {w0 : World} {F0 : BSet} {e : TypeId} {v : Value} {xs : List α} (h : OwnV k e (Bs w0 nrow) F w v xs) (hW : Wk nrow w0 F0 F w) : ∃ F', Wk nrow w0 F0 F' w ∧ Stp F w F' w ∧ (∀ b, F' b → F b ∨ v.ownBlock = some b) ∧ SlR k F' w v xs :=
  h.frozenN (fun g hg => (h.lt hg).1.resolve_right (fun h => h)) hW
/-- Kinds whose values lead nowhere. -/
def Plain (k : Kd α) : Prop := ∀ {F w F' w' x cs}, k.rep F w x cs → k.rep F' w' x cs
theorem Cat.plain (hk : Plain k) : ∀ {xs : List α} {cs : List Value}, Cat k F w xs cs → Cat k F' w' xs cs
  | [], _, h => h
  | _ :: _, _, ⟨c, d, e, hc, hd⟩ => ⟨c, d, e, hk hc, Cat.plain hk hd⟩
theorem OwnV.plain (hk : Plain k) {e : TypeId} {v : Value} {xs : List α} {w1 : World} (h : OwnV k e (Nw w1) F' w v xs) (ok : ∀ b, F b → b < w1.heap.size) : OwnV k e (Nw w1) F w v xs := by
  rcases h with h | ⟨g, o, cap, cur, cs, rfl, hB, hF, hh, ⟨hc, hcm⟩, hs, hcat, ht⟩
  · exact .inl h
  · exact .inr ⟨g, o, cap, cur, cs, rfl, hB, fun hF' => absurd (ok g hF') (by have := hB; unfold Nw at this; omega), hh, ⟨hc, hcm⟩, hs, hcat.plain hk, ht⟩
theorem Val.plain (hk : Plain k) {v : Value} {x : α} (h : Val k F' w' v x) : Val k F w v x := let ⟨cs, hr, e⟩ := h; ⟨cs, hk hr, e⟩
theorem plain_int (i : IntKind) : Plain (kInt i) := fun h => h
theorem plain_bool : Plain kBool := fun h => h
theorem plain_pair {β : Type} {l : Kd β} (h : Plain k) (h' : Plain l) : Plain (kPair k l) := fun ⟨c, d, e, hc, hd⟩ => ⟨c, d, e, h hc, h' hd⟩
theorem plain_iso {β : Type} {l : Kd β} (f : α → β) (h : Plain l) : Plain (kIso l f) := fun hr => h hr

/-- An element of a slice of one's own. -/
theorem OwnV.get {e : TypeId} {B : BSet} {v : Value} {xs : List α} (h : OwnV k e B F w v xs) {i : Nat} {x : α} (hx : xs[i]? = some x) :
    ∃ g o cap, v = .slice (some ⟨g, o, none⟩) xs.length cap ∧ LiesAt k F w g (o + i * k.sz) x := by
  rcases h with ⟨rfl, rfl⟩ | ⟨g, o, cap, cur, cs, rfl, hB, hF, hh, ⟨hc, hcm⟩, hs, hcat, htake⟩
  · simp at hx
  · refine ⟨g, o, cap, rfl, _, hcat.get hx, fun j hj => ?_⟩
    have hi : i < xs.length := (List.getElem?_eq_some_iff.1 hx).1
    have hlen := hcat.len
    have hlt : i * k.sz + j < cs.length := by
      rw [hlen]
      have : (i + 1) * k.sz ≤ xs.length * k.sz := Nat.mul_le_mul_right _ hi
      rw [Nat.add_mul] at this; omega
    have hcell : w.cell? ⟨g, o + i * k.sz + j, none⟩ = cur[o + i * k.sz + j]? := by simp [World.cell?, hh]
    rw [hcell, List.getElem?_take, if_pos hj, List.getElem?_drop, ← htake, List.getElem?_take, if_pos hlt, List.getElem?_drop, Array.getElem?_toList]
    congr 1; omega
end

/-! ### append -/

/-- What is told of a slice type and its elements. -/
structure SlT {α : Type} (P : Program) (t e : TypeId) (k : Kd α) (bytes : Nat) (x0 : α) : Prop where
  under : P.underlying t = some (.slice e)
  info : ∃ i z, P.info? e = some i ∧ i.zero = some z ∧ i.size = k.sz ∧ i.bytes = bytes ∧ z.cells.size = k.sz ∧ ∀ F w, k.rep F w x0 z.cells.toList
  pos : 0 < k.sz
  bpos : 0 < bytes
theorem SlT.mk' {α : Type} {P : Program} {t e : TypeId} {k : Kd α} {bytes : Nat} {x0 : α} {z : Value} (h : P.underlying t = some (.slice e)) (hi : (P.info? e).map (fun i => (i.zero, i.size, i.bytes)) = some (some z, k.sz, bytes))
    (hz : ∀ F w, k.rep F w x0 z.cells.toList) (hp : 0 < k.sz) (hb : 0 < bytes) : SlT P t e k bytes x0 := by
  refine ⟨h, ?_, hp, hb⟩
  cases hh : P.info? e with
  | none => rw [hh] at hi; cases hi
  | some i =>
    rw [hh] at hi
    simp only [Option.map_some, Option.some.injEq, Prod.mk.injEq] at hi
    refine ⟨i, z, rfl, hi.1, hi.2.1, hi.2.2, ?_, hz⟩
    have := k.len (hz (fun _ => True) default)
    simpa using this
theorem SlT.sl {α : Type} {P : Program} {t e : TypeId} {k : Kd α} {bytes : Nat} {x0 : α} (h : SlT P t e k bytes x0) : SlOk P t e := h.under
theorem SlT.sz {α : Type} {P : Program} {t e : TypeId} {k : Kd α} {bytes : Nat} {x0 : α} (h : SlT P t e k bytes x0) : (P.info? e).map (·.size) = some k.sz := by
  obtain ⟨i, z, hi, _, hs, _⟩ := h.info
  rw [hi]; simp [hs]

/-- append, where a slice takes at most 2^47 bytes. -/
def appL {α : Type} (bytes : Nat) (xs ys : List α) : Option (List α) := if (xs.length + ys.length) * bytes ≤ 140737488355328 then some (xs ++ ys) else none
theorem appL_some {α : Type} {bytes : Nat} {xs ys zs : List α} (h : appL bytes xs ys = some zs) : (xs.length + ys.length) * bytes ≤ 140737488355328 ∧ zs = xs ++ ys := by
  unfold appL at h
  split at h
  · exact ⟨by assumption, (Option.some.inj h).symm⟩
  · cases h
theorem appL_of {α : Type} {bytes : Nat} {xs ys : List α} (h : (xs.length + ys.length) * bytes ≤ 140737488355328) : appL bytes xs ys = some (xs ++ ys) := if_pos h

theorem run_append_empty {P : Program} (w : World) (t ty e : TypeId) (i : TypeInfo) (ht : P.underlying t = some (.slice e)) (hi : P.info? e = some i) (A : Option Addr) (n c : Nat) (B : Option Addr) (d : Nat) (hnc : n ≤ c) :
    (Builtin.append_ #[t, t] ty #[.slice A n c, .slice B 0 d]).run P w = .ok (.slice A n c) w := by
  cases A <;> cases B <;> simp [Builtin.append_, run_underlying ht, sizeOf, typeInfo, hi, Builtin.lenOf, Builtin.firstCells, hnc, storeCells, loadCells, loadCellsFrom]

theorem run_append_in {P : Program} (w : World) (t ty e : TypeId) (i : TypeInfo) (ht : P.underlying t = some (.slice e)) (hi : P.info? e = some i)
    (g o sLen sCap : Nat) (cur : Array Value) (hg : w.heap[g]? = some (.cells cur e (0, 0)))
    (a : Addr) (m c : Nat) (news : List Value) (hl : news.length = m * i.size) (hnews : ∀ j u, news[j]? = some u → w.cell? (a.add j) = some u) (h1 : ∀ u ∈ news, u.oneCell' = true)
    (hroom : sLen + m ≤ sCap) (hfit : o + sLen * i.size + news.length ≤ cur.size) :
    (Builtin.append_ #[t, t] ty #[.slice (some ⟨g, o, none⟩) sLen sCap, .slice (some a) m c]).run P w =
      .ok (.slice (some ⟨g, o, none⟩) (sLen + m) sCap) (w.setRow g (cur.toList.take (o + sLen * i.size) ++ news ++ cur.toList.drop (o + sLen * i.size + news.length)).toArray) := by
  have hf := run_firstCells_some (P := P) w i.size m a m c news hl hnews
  have hst := run_storeCells_at P g (o + sLen * i.size) e news 0 cur w hg (by simpa using hfit) h1
  simp only [Nat.add_zero] at hst
  simp [Builtin.append_, run_underlying ht, sizeOf, typeInfo, hi, Builtin.lenOf, hroom, hf, addr_add, hst]

section
variable {α : Type} {k : Kd α} {F : BSet} {w : World} {P : Program}

theorem own_new {e : TypeId} {B : BSet} {xs : List α} {cs : List Value} {cap : Nat} {rest : Array Value} (ok : ∀ b, F b → b < w.heap.size) (hB : B w.heap.size) (hc : Cat k F w xs cs) (hcap : xs.length ≤ cap) (hcm : cap ≤ 9223372036854775807) (hr : rest.size = (cap - xs.length) * k.sz) :
    OwnV k e B F (w.alloc (.cells (cs.toArray ++ rest) e)) (.slice (some ⟨w.heap.size, 0, none⟩) xs.length cap) xs := by
  refine .inr ⟨w.heap.size, 0, cap, _, cs, rfl, hB, fun hF => absurd (ok _ hF) (by omega), heap_alloc_new w _, ⟨hcap, hcm⟩, ?_, hc.keep ((Wk.alloc (row := nrow) ok _).stp ok), ?_⟩
  · rw [Array.size_append, hr, List.size_toArray, hc.len, ← Nat.add_mul, Nat.zero_add]
    exact Nat.mul_le_mul_right _ (by omega)
  · simp

/-- Cells that read as xs, there to be copied. -/
def SlQ (k : Kd α) (F : BSet) (w : World) (v : Value) (xs : List α) : Prop :=
  ∃ A c, v = .slice A xs.length c ∧ xs.length ≤ c ∧ (xs = [] ∨ ∃ b o, A = some ⟨b, o, none⟩ ∧ ∃ cs, Cat k F w xs cs ∧ ∀ j u, cs[j]? = some u → w.cell? ⟨b, o + j, none⟩ = some u)
theorem SlR.q {v : Value} {xs : List α} (h : SlR k F w v xs) : SlQ k F w v xs := by
  obtain ⟨A, c, e, hc, hR⟩ := h
  refine ⟨A, c, e, hc, ?_⟩
  rcases hR with h | ⟨b, o, e, hR⟩
  · exact .inl h
  · exact .inr ⟨b, o, e, Row.cat (o := o) xs o hR⟩
theorem OwnV.q {e : TypeId} {B : BSet} {v : Value} {xs : List α} (h : OwnV k e B F w v xs) : SlQ k F w v xs := by
  rcases h with ⟨rfl, rfl⟩ | ⟨g, o, cap, cur, cs, rfl, hB, hF, hh, ⟨hc, hcm⟩, hs, hcat, htake⟩
  · exact ⟨none, 0, rfl, Nat.le_refl _, .inl rfl⟩
  · refine ⟨_, cap, rfl, hc, .inr ⟨g, o, rfl, cs, hcat, fun j u hu => ?_⟩⟩
    have hj := (List.getElem?_eq_some_iff.1 hu).1
    have hcell : w.cell? ⟨g, o + j, none⟩ = cur[o + j]? := by simp [World.cell?, hh]
    rw [hcell, ← hu]
    conv => rhs; rw [← htake]
    rw [List.getElem?_take, if_pos hj, List.getElem?_drop, Array.getElem?_toList]
theorem run_appendO {t ty e : TypeId} {bytes : Nat} {x0 : α} (T : SlT P t e k bytes x0) {B : BSet} {v vx : Value} {xs ys : List α} (ok : ∀ b, F b → b < w.heap.size) (hB : B w.heap.size) (ho : OwnV k e B F w v xs) (hy : SlQ k F w vx ys)
    (hb : (xs.length + ys.length) * bytes ≤ 140737488355328) :
    ∃ v' w', (Builtin.append_ #[t, t] ty #[v, vx]).run P w = .ok v' w' ∧ OwnV k e B F w' v' (xs ++ ys) ∧ w.grownBy w' v.ownBlock ∧ (v'.ownBlock = v.ownBlock ∨ v'.ownBlock = some w.heap.size) := by
  obtain ⟨i, z, hi, hz, hsz, hby, hzs, hzr⟩ := T.info
  have hpos := T.pos
  have hbp := T.bpos
  obtain ⟨A, c, rfl, hc, hR⟩ := hy
  have hsm : xs.length + ys.length ≤ 140737488355328 := Nat.le_trans (Nat.le_mul_of_pos_right _ hbp) hb
  rcases hR with rfl | ⟨b, ob, rfl, news, hcat, hcell⟩
  · obtain ⟨A', c', rfl, hc'⟩ := ho.shape
    have hr := run_append_empty (P := P) w t ty e i T.under hi A' xs.length c' A c hc'
    exact ⟨_, w, hr, by simpa using ho, World.grownBy.refl w _, .inl rfl⟩
  · have hnl : news.length = ys.length * i.size := by rw [hcat.len, hsz]
    have hcell' : ∀ j u, news[j]? = some u → w.cell? ((⟨b, ob, none⟩ : Addr).add j) = some u := fun j u hu => by rw [addr_add]; exact hcell j u hu
    by_cases hys : ys = []
    · subst hys
      obtain ⟨A', c', rfl, hc'⟩ := ho.shape
      have hr := run_append_empty (P := P) w t ty e i T.under hi A' xs.length c' (some ⟨b, ob, none⟩) c hc'
      exact ⟨_, w, hr, by simpa using ho, World.grownBy.refl w _, .inl rfl⟩
    have hm : 0 < ys.length := List.length_pos_iff.2 hys
    have grown : ∀ (old : Nat) (cs : List Value), Cat k F w xs cs → ∀ row : Option Nat,
        OwnV k e B F (w.drew.alloc (.cells (cs.toArray ++ news.toArray ++ Builtin.zeroCells z.cells (grownCap w (xs.length + ys.length) old e - (xs.length + ys.length))) e))
          (.slice (some ⟨w.heap.size, 0, none⟩) (xs.length + ys.length) (grownCap w (xs.length + ys.length) old e)) (xs ++ ys) ∧
        w.grownBy (w.drew.alloc (.cells (cs.toArray ++ news.toArray ++ Builtin.zeroCells z.cells (grownCap w (xs.length + ys.length) old e - (xs.length + ys.length))) e)) row := by
      intro old cs hcs row
      have hge := grownCap_ge w (xs.length + ys.length) old e
      have hcat2 : Cat k F w.drew (xs ++ ys) (cs ++ news) := Cat.keep ((Wk.drew (row := nrow) ok).stp ok) (hcs.append hcat)
      have h1 := own_new (w := w.drew) (e := e) (B := B) (rest := Builtin.zeroCells z.cells (grownCap w (xs.length + ys.length) old e - (xs.length + ys.length))) ok hB hcat2
        (cap := grownCap w (xs.length + ys.length) old e) (by rw [List.length_append]; exact hge) (grownCap_le_maxLen w _ old e (by show _ ≤ 9223372036854775807; omega)) (by rw [size_zeroCells, hzs, List.length_append])
      rw [List.length_append] at h1
      have e1 : (cs ++ news).toArray = cs.toArray ++ news.toArray := by simp
      rw [e1] at h1
      exact ⟨h1, ⟨rfl, rfl, rfl, by simp, fun j hj _ => Below.heap_alloc w.drew _ j hj⟩⟩
    rcases ho with ⟨rfl, rfl⟩ | ⟨g, o, cap, cur, cs, rfl, hBg, hFg, hh, ⟨hcap, hcm⟩, hsize, hcs, htake⟩
    · have hr := run_append_nil (P := P) w t ty e i z T.under hi hz ⟨b, ob, none⟩ ys.length c news hnl hcell' hm (by omega) (by rw [hby]; simp only [List.length_nil, Nat.zero_add] at hb; omega)
      have hgr := grown 0 [] rfl (Value.ownBlock (.slice none 0 0))
      simp only [List.length_nil, Nat.zero_add, List.nil_append, Array.empty_append] at hgr ⊢
      exact ⟨_, _, hr, hgr.1, hgr.2, .inr rfl⟩
    · by_cases hroom : xs.length + ys.length ≤ cap
      · have hcl := hcs.len
        have hle : (xs.length + ys.length) * k.sz ≤ cap * k.sz := Nat.mul_le_mul_right _ hroom
        rw [Nat.add_mul] at hle
        have hnl' : news.length = ys.length * k.sz := hcat.len
        have hfit : o + xs.length * i.size + news.length ≤ cur.size := by rw [hsz]; omega
        have hr := run_append_in (P := P) w t ty e i T.under hi g o xs.length cap cur hh ⟨b, ob, none⟩ ys.length c news hnl hcell' hcat.one hroom hfit
        have hgr : w.grownBy (w.setRow g (cur.toList.take (o + xs.length * i.size) ++ news ++ cur.toList.drop (o + xs.length * i.size + news.length)).toArray) (some g) :=
          ⟨rfl, rfl, rfl, by simp, fun j _ hj => setRow_other w g j _ (fun e => hj (by rw [e]))⟩
        have hs : Stp F w F (w.setRow g (cur.toList.take (o + xs.length * i.size) ++ news ++ cur.toList.drop (o + xs.length * i.size + news.length)).toArray) := Stp.mut ok hgr (fun g' e => by cases e; exact hFg)
        refine ⟨_, _, hr, .inr ⟨g, o, cap, _, cs ++ news, by rw [List.length_append], hBg, hFg, setRow_heap w g cur _ e _ hh, ⟨by rw [List.length_append]; exact hroom, hcm⟩, ?_, Cat.keep hs (hcs.append hcat), ?_⟩, hgr, .inl rfl⟩
        · rw [hsz] at hfit ⊢
          simp only [List.size_toArray, List.length_append, List.length_take, List.length_drop, Array.length_toList]
          omega
        · rw [hsz, ← hcl]
          have hA : (cur.toList.take (o + cs.length)).drop o = cs := by rw [List.drop_take, Nat.add_sub_cancel_left]; exact htake
          have hsz1 : cur.toList.length = cur.size := Array.length_toList
          have hlen1 : o ≤ (cur.toList.take (o + cs.length)).length := by rw [List.length_take]; omega
          rw [show (cur.toList.take (o + cs.length) ++ news ++ cur.toList.drop (o + cs.length + news.length)) = cur.toList.take (o + cs.length) ++ (news ++ cur.toList.drop (o + cs.length + news.length)) by rw [List.append_assoc]]
          rw [List.drop_append_of_le_length hlen1, hA, ← List.append_assoc]
          exact List.take_left
      · have holds : ∀ j u, cs[j]? = some u → w.cell? ((⟨g, o, none⟩ : Addr).add j) = some u := by
          intro j u hu
          have hj := (List.getElem?_eq_some_iff.1 hu).1
          rw [addr_add]
          have hcell : w.cell? ⟨g, o + j, none⟩ = cur[o + j]? := by simp [World.cell?, hh]
          rw [hcell, ← hu]
          conv => rhs; rw [← htake]
          rw [List.getElem?_take, if_pos hj, List.getElem?_drop, Array.getElem?_toList]
        have hr := run_append_grow (P := P) w t ty e i z T.under hi hz ⟨g, o, none⟩ xs.length cap cs (by rw [hcs.len, hsz]) holds ⟨b, ob, none⟩ ys.length c news hnl hcell' (by omega) (by omega) (growslice_fits (by omega) (by rw [hby]; exact hb))
        have hgr := grown cap cs hcs (Value.ownBlock (.slice (some ⟨g, o, none⟩) xs.length cap))
        exact ⟨_, _, hr, hgr.1, hgr.2, .inr rfl⟩
end
end Go.Fx
