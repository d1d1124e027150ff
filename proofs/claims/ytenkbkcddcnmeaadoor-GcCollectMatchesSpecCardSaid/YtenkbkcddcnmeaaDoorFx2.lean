/- What values read as, and what becomes of it over steps. -/
import Derived.Test.YtenkbkcddcnmeaaDoorFx1
namespace Go.Fx
open Go.RowKit
set_option linter.unusedVariables false

abbrev BSet := Nat → Prop

/-- What a step owes: blocks of F stay as they are; F only grows; all of it lies in the heap. -/
structure Stp (F : BSet) (w : World) (F' : BSet) (w' : World) : Prop where
  keep : ∀ b, F b → w'.heap[b]? = w.heap[b]?
  mono : ∀ b, F b → F' b

theorem Stp.refl (F : BSet) (w : World) : Stp F w F w := ⟨fun _ _ => rfl, fun _ h => h⟩
theorem Stp.trans {F F' F'' : BSet} {w w' w'' : World} (h : Stp F w F' w') (k : Stp F' w' F'' w'') : Stp F w F'' w'' :=
  ⟨fun b hb => (k.keep b (h.mono b hb)).trans (h.keep b hb), fun b hb => k.mono b (h.mono b hb)⟩

/-- A kind of values: how many cells, and what they read as; blocks that are led to lie in F. -/
structure Kd (α : Type) where
  sz : Nat
  agg : Bool
  rep : BSet → World → α → List Value → Prop
  len : ∀ {F w x cs}, rep F w x cs → cs.length = sz
  one : ∀ {F w x cs}, rep F w x cs → ∀ u ∈ cs, u.oneCell' = true
  keep : ∀ {F w F' w' x cs}, Stp F w F' w' → rep F w x cs → rep F' w' x cs
  atom : agg = false → sz = 1

def pack (agg : Bool) (cs : List Value) : Value := if agg then .agg cs.toArray else cs.headD undef

/-- The value v reads as x. -/
def Val {α : Type} (k : Kd α) (F : BSet) (w : World) (v : Value) (x : α) : Prop := ∃ cs, k.rep F w x cs ∧ v = pack k.agg cs

theorem Val.keep {α : Type} {k : Kd α} {F F' : BSet} {w w' : World} {v : Value} {x : α} (h : Val k F w v x) (s : Stp F w F' w') : Val k F' w' v x :=
  let ⟨cs, hr, e⟩ := h; ⟨cs, k.keep s hr, e⟩

def kInt (i : IntKind) : Kd Int where
  sz := 1
  agg := false
  rep _ _ n cs := cs = [.int i n]
  len h := by subst h; rfl
  one h := by subst h; simp [Value.oneCell']
  keep _ h := h
  atom _ := rfl
def kByte : Kd UInt8 where
  sz := 1
  agg := false
  rep _ _ n cs := cs = [.int .u8 n.toNat]
  len h := by subst h; rfl
  one h := by subst h; simp [Value.oneCell']
  keep _ h := h
  atom _ := rfl
def kBool : Kd Bool where
  sz := 1
  agg := false
  rep _ _ n cs := cs = [.bool n]
  len h := by subst h; rfl
  one h := by subst h; simp [Value.oneCell']
  keep _ h := h
  atom _ := rfl
def kStr : Kd ByteArray where
  sz := 1
  agg := false
  rep _ _ n cs := cs = [.string n]
  len h := by subst h; rfl
  one h := by subst h; simp [Value.oneCell']
  keep _ h := h
  atom _ := rfl

/-- From cell o of block b on lies x. -/
def Lies {α : Type} (k : Kd α) (F : BSet) (w : World) (b o : Nat) (x : α) : Prop :=
  F b ∧ ∃ cs, k.rep F w x cs ∧ ∀ j, j < k.sz → w.cell? ⟨b, o + j, none⟩ = cs[j]?

theorem Lies.keep {α : Type} {k : Kd α} {F F' : BSet} {w w' : World} {b o : Nat} {x : α} (h : Lies k F w b o x) (s : Stp F w F' w') : Lies k F' w' b o x :=
  let ⟨hb, cs, hr, hc⟩ := h
  ⟨s.mono b hb, cs, k.keep s hr, fun j hj => (World.cell?_of_block (a := ⟨b, o + j, none⟩) (s.keep b hb)).trans (hc j hj)⟩

/-- The row at A reads as xs. -/
def Row {α : Type} (k : Kd α) (F : BSet) (w : World) (A : Option Addr) (xs : List α) : Prop :=
  xs = [] ∨ ∃ b o, A = some ⟨b, o, none⟩ ∧ ∀ i x, xs[i]? = some x → Lies k F w b (o + i * k.sz) x

theorem Row.keep {α : Type} {k : Kd α} {F F' : BSet} {w w' : World} {A : Option Addr} {xs : List α} (h : Row k F w A xs) (s : Stp F w F' w') : Row k F' w' A xs := by
  rcases h with h | ⟨b, o, e, h⟩
  · exact .inl h
  · exact .inr ⟨b, o, e, fun i x hx => (h i x hx).keep s⟩

/-- A slice that is only read. -/
def SlR {α : Type} (k : Kd α) (F : BSet) (w : World) (v : Value) (xs : List α) : Prop :=
  ∃ A c, v = .slice A xs.length c ∧ xs.length ≤ c ∧ Row k F w A xs

theorem SlR.keep {α : Type} {k : Kd α} {F F' : BSet} {w w' : World} {v : Value} {xs : List α} (h : SlR k F w v xs) (s : Stp F w F' w') : SlR k F' w' v xs :=
  let ⟨A, c, e, hc, hr⟩ := h; ⟨A, c, e, hc, hr.keep s⟩
theorem SlR.nil {α : Type} (k : Kd α) (F : BSet) (w : World) : SlR k F w (.slice none 0 0) ([] : List α) := ⟨none, 0, rfl, Nat.le_refl _, .inl rfl⟩

def kSl {α : Type} (k : Kd α) : Kd (List α) where
  sz := 1
  agg := false
  rep F w xs cs := ∃ v, cs = [v] ∧ SlR k F w v xs
  len h := by obtain ⟨v, rfl, _⟩ := h; rfl
  one h := by
    obtain ⟨v, rfl, A, c, rfl, _⟩ := h
    simp [Value.oneCell']
  keep s h := let ⟨v, e, hv⟩ := h; ⟨v, e, hv.keep s⟩
  atom _ := rfl

/-- Two kinds side by side: a struct's parts. -/
def kPair {α β : Type} (k : Kd α) (l : Kd β) : Kd (α × β) where
  sz := k.sz + l.sz
  agg := true
  rep F w x cs := ∃ c d, cs = c ++ d ∧ k.rep F w x.1 c ∧ l.rep F w x.2 d
  len h := by
    obtain ⟨c, d, rfl, hc, hd⟩ := h
    rw [List.length_append, k.len hc, l.len hd]
  one h := by
    obtain ⟨c, d, rfl, hc, hd⟩ := h
    intro u hu
    rcases List.mem_append.1 hu with hu | hu
    · exact k.one hc u hu
    · exact l.one hd u hu
  keep s h := by
    obtain ⟨c, d, e, hc, hd⟩ := h
    exact ⟨c, d, e, k.keep s hc, l.keep s hd⟩
  atom h := by cases h
def kIso {α β : Type} (k : Kd β) (f : α → β) : Kd α where
  sz := k.sz
  agg := true
  rep F w x cs := k.rep F w (f x) cs
  len h := k.len h
  one h := k.one h
  keep s h := k.keep s h
  atom h := by cases h

/-- Part p of a struct of kind k begins at its cell off. -/
def Fld {α β : Type} (k : Kd α) (off : Nat) (l : Kd β) (p : α → β) : Prop :=
  off + l.sz ≤ k.sz ∧ ∀ {F w x cs}, k.rep F w x cs → l.rep F w (p x) ((cs.drop off).take l.sz)

theorem Fld.fst {α β : Type} (k : Kd α) (l : Kd β) : Fld (kPair k l) 0 k (·.1) := by
  refine ⟨by simp [kPair], ?_⟩
  rintro F w x cs ⟨c, d, rfl, hc, hd⟩
  have : (List.drop 0 (c ++ d)).take k.sz = c := by rw [List.drop_zero, List.take_append_of_le_length (by rw [k.len hc]; exact Nat.le_refl _), List.take_of_length_le (by rw [k.len hc]; exact Nat.le_refl _)]
  rw [this]; exact hc
theorem Fld.snd {α β γ : Type} (k : Kd α) {l : Kd β} {off : Nat} {m : Kd γ} {p : β → γ} (h : Fld l off m p) : Fld (kPair k l) (k.sz + off) m (fun x => p x.2) := by
  refine ⟨by have := h.1; simp only [kPair]; omega, ?_⟩
  rintro F w x cs ⟨c, d, rfl, hc, hd⟩
  have : List.drop (k.sz + off) (c ++ d) = d.drop off := by
    have h0 : List.drop k.sz (c ++ d) = d := by rw [← k.len hc]; exact List.drop_left
    rw [← List.drop_drop, h0]
  rw [this]; exact h.2 hd
theorem Fld.whole {α : Type} (k : Kd α) : Fld k 0 k (fun x => x) := by
  refine ⟨by simp, ?_⟩
  intro F w x cs h
  rw [List.drop_zero, List.take_of_length_le (by rw [k.len h]; exact Nat.le_refl _)]
  exact h
theorem Fld.iso {α β γ : Type} {k : Kd β} {off : Nat} {l : Kd γ} {p : β → γ} (f : α → β) (h : Fld k off l p) : Fld (kIso k f) off l (fun x => p (f x)) := ⟨h.1, fun hr => h.2 hr⟩

theorem Lies.fld {α β : Type} {k : Kd α} {l : Kd β} {off : Nat} {p : α → β} {F : BSet} {w : World} {b o : Nat} {x : α} (h : Lies k F w b o x) (f : Fld k off l p) : Lies l F w b (o + off) (p x) := by
  obtain ⟨hb, cs, hr, hc⟩ := h
  refine ⟨hb, _, f.2 hr, fun j hj => ?_⟩
  have h1 := hc (off + j) (by have := f.1; omega)
  rw [Nat.add_assoc, h1, List.getElem?_take, if_pos hj, List.getElem?_drop]

theorem Row.get {α : Type} {k : Kd α} {F : BSet} {w : World} {A : Option Addr} {xs : List α} (h : Row k F w A xs) {i : Nat} {x : α} (hx : xs[i]? = some x) : ∃ b o, A = some ⟨b, o, none⟩ ∧ Lies k F w b (o + i * k.sz) x := by
  rcases h with rfl | ⟨b, o, e, h⟩
  · simp at hx
  · exact ⟨b, o, e, h i x hx⟩

theorem cells_of_one {v : Value} (h : v.oneCell' = true) : v.cells = #[v] := by cases v <;> first | rfl | (simp [Value.oneCell'] at h)
theorem Val.cells {α : Type} {k : Kd α} {F : BSet} {w : World} {v : Value} {x : α} (h : Val k F w v x) : k.rep F w x v.cells.toList := by
  obtain ⟨cs, hr, rfl⟩ := h
  unfold pack
  cases ha : k.agg with
  | true => simpa [Value.cells] using hr
  | false =>
    have hl := k.len hr
    rw [k.atom ha] at hl
    match cs, hl with
    | [c], _ =>
      have := k.one hr c (by simp)
      simp only [List.headD_cons, Bool.false_eq_true, if_false, cells_of_one this]
      exact hr
def kRaw : Kd Value where
  sz := 1
  agg := false
  rep _ _ n cs := cs = [n] ∧ n.oneCell' = true
  len h := by obtain ⟨rfl, _⟩ := h; rfl
  one h := by obtain ⟨rfl, h⟩ := h; simpa using h
  keep _ h := h
  atom _ := rfl

/-! ### What is told of types -/

structure TyOk {α : Type} (P : Program) (t : TypeId) (k : Kd α) : Prop where
  info : (P.info? t).map (·.size) = some k.sz
  agg : (match P.underlying t with | some (.struct _) | some (.array _ _) => some true | some _ => some false | none => none) = some k.agg

theorem TyOk.size {α : Type} {P : Program} {t : TypeId} {k : Kd α} (h : TyOk P t k) : ∃ i, P.info? t = some i ∧ i.size = k.sz := by
  have := h.info
  cases hi : P.info? t with
  | none => rw [hi] at this; cases this
  | some i => rw [hi] at this; exact ⟨i, rfl, Option.some.inj this⟩

theorem TyOk.run_isAgg {α : Type} {P : Program} {t : TypeId} {k : Kd α} (h : TyOk P t k) (w : World) : (isAgg t).run P w = .ok k.agg w := by
  have := h.agg
  cases hu : P.underlying t with
  | none => rw [hu] at this; cases this
  | some d =>
    rw [hu] at this
    unfold isAgg
    rw [Sem.run_bind, run_underlying hu, Result.andThen_ok]
    cases d <;> first | (injection this with e; rw [← e]; rfl)

theorem TyOk.run_sizeOf {α : Type} {P : Program} {t : TypeId} {k : Kd α} (h : TyOk P t k) (w : World) : (sizeOf t).run P w = .ok k.sz w := by
  obtain ⟨i, hi, hs⟩ := h.size
  simp [sizeOf, typeInfo, hi, hs]

/-- A field's address. -/
def FldOk (P : Program) (s f off : Nat) : Prop := ∃ fs fd i, P.underlying s = some (.struct fs) ∧ fs[f]? = some fd ∧ fd.offset = off ∧ P.info? fd.type = some i ∧ i.size ≠ 0
theorem FldOk.mk {P : Program} {s f off : Nat} (h : (match P.underlying s with | some (.struct fs) => (match fs[f]? with | some fd => fd.offset == off && (match P.info? fd.type with | some i => i.size != 0 | none => false) | none => false) | _ => false) = true) : FldOk P s f off := by
  split at h <;> try (cases h; done)
  rename_i fs hu
  split at h <;> try (cases h; done)
  rename_i fd hf
  rw [Bool.and_eq_true] at h
  obtain ⟨h1, h2⟩ := h
  split at h2 <;> try (cases h2; done)
  rename_i i hi
  exact ⟨fs, fd, i, hu, hf, by simpa using h1, hi, by simpa using h2⟩

def SlOk (P : Program) (t e : TypeId) : Prop := P.underlying t = some (.slice e)

theorem run_loadCellsFrom {P : Program} {w : World} (b o : Nat) : ∀ (n i : Nat) (acc : Array Value) (cs : List Value), cs.length = n → (∀ j, j < n → w.cell? ⟨b, o + (i + j), none⟩ = cs[j]?) →
    (loadCellsFrom ⟨b, o, none⟩ i n acc).run P w = .ok (acc ++ cs.toArray) w
  | 0, i, acc, cs, hl, _ => by
    have : cs = [] := List.eq_nil_of_length_eq_zero hl
    subst this
    simp [loadCellsFrom]
  | n + 1, i, acc, cs, hl, hc => by
    cases cs with
    | nil => cases hl
    | cons c cs =>
      have h0 := hc 0 (by omega)
      simp only [Nat.add_zero, List.getElem?_cons_zero] at h0
      have hadd : (⟨b, o, none⟩ : Addr).add i = ⟨b, o + i, none⟩ := by unfold Addr.add; split <;> simp_all
      unfold loadCellsFrom
      rw [Sem.run_bind, hadd]
      have hl0 : (load ⟨b, o + i, none⟩).run P w = .ok c w := by simp [h0]
      rw [hl0, Result.andThen_ok]
      rw [run_loadCellsFrom b o n (i + 1) (acc.push c) cs (by simpa using hl) (fun j hj => by
        have := hc (j + 1) (by omega)
        rw [List.getElem?_cons_succ] at this
        rw [← this]
        congr 2
        omega)]
      simp

/-- A load, wherever it comes from. -/
theorem run_loadAt_cells {α : Type} {P : Program} {w : World} {t : TypeId} {k : Kd α} (ht : TyOk P t k) {F : BSet} {b o : Nat} {x : α} {cs : List Value} (hr : k.rep F w x cs) (hc : ∀ j, j < k.sz → w.cell? ⟨b, o + j, none⟩ = cs[j]?) :
    (Instr.loadAt t (.pointer (some ⟨b, o, none⟩))).run P w = .ok (pack k.agg cs) w := by
  have hA := ht.run_isAgg w
  have hS := ht.run_sizeOf w
  unfold Instr.loadAt Instr.sureAddr loadVar
  rw [Sem.run_bind, Sem.run_pure, Result.andThen_ok, Sem.run_bind, hA, Result.andThen_ok]
  cases hk : k.agg with
  | true =>
    rw [if_pos rfl, Sem.run_bind, hS, Result.andThen_ok, Sem.run_bind]
    unfold loadCells
    rw [run_loadCellsFrom b o k.sz 0 #[] cs (k.len hr) (fun j hj => by rw [Nat.zero_add]; exact hc j hj)]
    simp [pack]
  | false =>
    rw [if_neg (by simp)]
    have hs := k.atom hk
    have hl := k.len hr
    rw [hs] at hl
    match cs, hl with
    | [c], _ =>
      have := hc 0 (by omega)
      simp only [Nat.add_zero, List.getElem?_cons_zero] at this
      simp [this, pack]
end Go.Fx
