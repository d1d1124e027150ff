/- How the plain functions are reasoned about: what must hold ahead for Q to hold behind. -/
import Derived.Test.YtenkbkcddcnmeaaDoorFx9
namespace Go.Fx
set_option linter.unusedVariables false

/-- m answers at s, and Q holds of the answer. -/
def W {σ τ : Type} (m : σ → Option (Ctl σ τ)) (Q : Ctl σ τ → Prop) (s : σ) : Prop := ∃ o, m s = some o ∧ Q o

/-- There is an answer, and p holds of it. -/
def Opt {α : Type} (o : Option α) (p : α → Prop) : Prop := ∃ x, o = some x ∧ p x
theorem opt_some {α : Type} {x : α} {p : α → Prop} : Opt (some x) p ↔ p x := by simp [Opt]
theorem opt_bind {α β : Type} {o : Option α} {f : α → Option β} {p : β → Prop} : Opt (o.bind f) p ↔ Opt o (fun x => Opt (f x) p) := by
  cases o <;> simp [Opt]
theorem opt_ite {α : Type} {c : Prop} [Decidable c] {a b : Option α} {p : α → Prop} : Opt (if c then a else b) p ↔ (c → Opt a p) ∧ (¬ c → Opt b p) := by
  by_cases h : c <;> simp [h]
theorem opt_of {α : Type} {o : Option α} {x : α} {p : α → Prop} (h : o = some x) (hp : p x) : Opt o p := ⟨x, h, hp⟩
section
variable {σ τ : Type} {m k : σ → Option (Ctl σ τ)} {Q Q' : Ctl σ τ → Prop} {s : σ}
theorem W.mono (h : W m Q s) (hq : ∀ o, Q o → Q' o) : W m Q' s := let ⟨o, h1, h2⟩ := h; ⟨o, h1, hq o h2⟩
/-- Behind the first part. -/
def thenQ (k : σ → Option (Ctl σ τ)) (Q : Ctl σ τ → Prop) : Ctl σ τ → Prop
  | .nrm s' => W k Q s'
  | .ext i s' => Q (.ext i s')
  | .ret r => Q (.ret r)
def blkQ (i : Nat) (Q : Ctl σ τ → Prop) : Ctl σ τ → Prop
  | .nrm s' => Q (.nrm s')
  | .ext j s' => if j = i then Q (.nrm s') else Q (.ext j s')
  | .ret r => Q (.ret r)
theorem W_seq : W (seqM m k) Q s ↔ W m (thenQ k Q) s := by
  unfold W seqM
  cases hm : m s with
  | none => simp
  | some o => cases o <;> simp [thenQ, W]
theorem W_cond {b : σ → Bool} : W (condM b m k) Q s ↔ (b s = true → W m Q s) ∧ (b s = false → W k Q s) := by
  unfold W condM
  cases hb : b s <;> simp
theorem W_block {i : Nat} : W (blockM i m) Q s ↔ W m (blkQ i Q) s := by
  unfold W blockM
  cases hm : m s with
  | none => simp
  | some o =>
    cases o with
    | nrm s' => simp [blkQ]
    | ext j s' => by_cases hj : j = i <;> simp [blkQ, hj]
    | ret r => simp [blkQ]
theorem W_reg {r : σ → Option σ} : W (regM r) Q s ↔ Opt (r s) (fun s' => Q (.nrm s')) := by
  unfold W regM Opt
  cases hr : r s <;> simp
theorem W_ext {i : Nat} : W (extM i) Q s ↔ Q (.ext i s) := by simp [W, extM]
theorem W_ret {g : σ → τ} : W (retM g) Q s ↔ Q (.ret (g s)) := by simp [W, retM]
theorem W_skip : W skipM Q s ↔ Q (.nrm s) := by simp [W, skipM]
@[simp] theorem thenQ_nrm {s' : σ} : thenQ k Q (.nrm s') = W k Q s' := rfl
@[simp] theorem thenQ_ext {i : Nat} {s' : σ} : thenQ k Q (.ext i s') = Q (.ext i s') := rfl
@[simp] theorem thenQ_ret {r : τ} : thenQ k Q (.ret r) = Q (.ret r) := rfl
@[simp] theorem blkQ_nrm {i : Nat} {s' : σ} : blkQ i Q (.nrm s') = Q (.nrm s') := rfl
@[simp] theorem blkQ_ext {i j : Nat} {s' : σ} : blkQ i Q (.ext j s') = (if j = i then Q (.nrm s') else Q (.ext j s')) := rfl
@[simp] theorem blkQ_ret {i : Nat} {r : τ} : blkQ i Q (.ret r) = Q (.ret r) := rfl

/-- A loop: the invariant, the measure. -/
theorem W_iter (I : σ → Prop) (μ : σ → Nat) (h0 : I s) (hr : ∀ s, I s → W m (fun o => match o with | .nrm s' => I s' ∧ μ s' < μ s | .ext i s' => Q (.ext i s') | .ret r => Q (.ret r)) s) : W (iterM m) Q s := by
  generalize hn : μ s = n
  induction n using Nat.strongRecOn generalizing s with
  | _ n ih =>
    obtain ⟨o, h1, h2⟩ := hr s h0
    unfold W
    rw [iterM_eq, h1]
    cases o with
    | nrm s' => exact ih _ (by rw [← hn]; exact h2.2) h2.1 rfl
    | ext i s' => exact ⟨_, rfl, h2⟩
    | ret r => exact ⟨_, rfl, h2⟩
theorem retOf_of {r : τ} (h : W m (fun o => o = .ret r) s) : retOf (m s) = some r := by
  obtain ⟨o, h1, rfl⟩ := h; rw [h1]; rfl
end
/-- A range over an iterator. -/
theorem W_forL {σ τ β : Type} {setf : β → σ → σ} {mA mB : σ → Option (Ctl σ τ)} {Q : Ctl σ τ → Prop} {its : List β} {s : σ} (I : Nat → σ → Prop) (h0 : I 0 s)
    (hr : ∀ k x s, its[k]? = some x → I k s → W (seqM mA mB) (fun o => match o with | .nrm s' => I (k + 1) s' | .ext i s' => Q (.ext i s') | .ret r => Q (.ret r)) (setf x s))
    (hend : ∀ s, I its.length s → Q (.nrm s)) : W (forL setf mA mB its) Q s := by
  induction its generalizing s I with
  | nil => exact ⟨_, rfl, hend s h0⟩
  | cons x xs ih =>
    obtain ⟨o, h1, h2⟩ := hr 0 x s rfl h0
    unfold W
    simp only [forL, h1]
    cases o with
    | nrm s' => exact ih (fun k => I (k + 1)) h2 (fun k y s hy hi => hr (k + 1) y s (by simpa using hy) hi) (fun s hs => hend s hs)
    | ext i s' => exact ⟨_, rfl, h2⟩
    | ret r => exact ⟨_, rfl, h2⟩
theorem W_range {σ τ β : Type} {setf : β → σ → σ} {mA mB : σ → Option (Ctl σ τ)} {Q : Ctl σ τ → Prop} {its : σ → List β} {s : σ} : W (rangeM its setf mA mB) Q s ↔ W (forL setf mA mB (its s)) Q s := Iff.rfl
theorem W_none {σ τ : Type} {Q : Ctl σ τ → Prop} {s : σ} : W noneM Q s ↔ False := by simp [W, noneM]
/-- All the rules at once. -/
theorem WL : (∀ {σ τ : Type} {Q : Ctl σ τ → Prop} {s : σ}, W noneM Q s ↔ False) ∧
    (∀ {σ τ : Type} {Q : Ctl σ τ → Prop} {m k : σ → Option (Ctl σ τ)} {s : σ}, W (seqM m k) Q s ↔ W m (thenQ k Q) s) ∧
    (∀ {σ τ : Type} {Q : Ctl σ τ → Prop} {m : σ → Option (Ctl σ τ)} {s : σ} {i : Nat}, W (blockM i m) Q s ↔ W m (blkQ i Q) s) ∧
    (∀ {σ τ : Type} {Q : Ctl σ τ → Prop} {s : σ} {r : σ → Option σ}, W (regM r) Q s ↔ Opt (r s) (fun s' => Q (.nrm s'))) ∧
    (∀ {σ τ : Type} {Q : Ctl σ τ → Prop} {m k : σ → Option (Ctl σ τ)} {s : σ} {b : σ → Bool}, W (condM b m k) Q s ↔ (b s = true → W m Q s) ∧ (b s = false → W k Q s)) ∧
    (∀ {σ τ : Type} {Q : Ctl σ τ → Prop} {s : σ}, W skipM Q s ↔ Q (.nrm s)) ∧
    (∀ {σ τ : Type} {Q : Ctl σ τ → Prop} {s : σ} {i : Nat}, W (extM i) Q s ↔ Q (.ext i s)) ∧
    (∀ {σ τ : Type} {Q : Ctl σ τ → Prop} {s : σ} {g : σ → τ}, W (retM g) Q s ↔ Q (.ret (g s))) ∧
    (∀ {α : Type} {x : α} {p : α → Prop}, Opt (some x) p ↔ p x) ∧
    (∀ {α β : Type} {o : Option α} {f : α → Option β} {p : β → Prop}, Opt (o.bind f) p ↔ Opt o (fun x => Opt (f x) p)) ∧
    (∀ {α : Type} {c : Prop} [Decidable c] {a b : Option α} {p : α → Prop}, Opt (if c then a else b) p ↔ (c → Opt a p) ∧ (¬ c → Opt b p)) ∧
    (∀ {σ τ : Type} {Q : Ctl σ τ → Prop} {k : σ → Option (Ctl σ τ)} {s' : σ}, thenQ k Q (.nrm s') = W k Q s') ∧
    (∀ {σ τ : Type} {Q : Ctl σ τ → Prop} {k : σ → Option (Ctl σ τ)} {i : Nat} {s' : σ}, thenQ k Q (.ext i s') = Q (.ext i s')) ∧
    (∀ {σ τ : Type} {Q : Ctl σ τ → Prop} {k : σ → Option (Ctl σ τ)} {r : τ}, thenQ k Q (.ret r) = Q (.ret r)) ∧
    (∀ {σ τ : Type} {Q : Ctl σ τ → Prop} {i : Nat} {s' : σ}, blkQ i Q (.nrm s') = Q (.nrm s')) ∧
    (∀ {σ τ : Type} {Q : Ctl σ τ → Prop} {i j : Nat} {s' : σ}, blkQ i Q (.ext j s') = (if j = i then Q (.nrm s') else Q (.ext j s'))) ∧
    (∀ {σ τ : Type} {Q : Ctl σ τ → Prop} {i : Nat} {r : τ}, blkQ i Q (.ret r) = Q (.ret r)) ∧
    (∀ {α : Type} {_ : Decidable True} (t e : α), (if True then t else e) = t) ∧
    (∀ {_ : Decidable True} (t e : Prop), (if True then t else e) = t) ∧
    (∀ (p : Prop), (True ∧ p) = p) ∧
    (∀ (p : Prop), (p ∧ True) = p) ∧
    (∀ {p : Prop} [Decidable p], (decide p = true) = p) ∧
    (∀ {p : Prop} {_ : Decidable p}, decide p = false ↔ ¬p) ∧
    (∀ {a b : Bool}, ((a || b) = true) = (a = true ∨ b = true)) ∧
    (∀ {a b : Bool}, ((a && b) = true) = (a = true ∧ b = true)) ∧
    (∀ {x y : Bool}, (x || y) = false ↔ x = false ∧ y = false) ∧
    (∀ {x y : Bool}, (x && y) = false ↔ x = false ∨ y = false) ∧
    ((true = false) = False) ∧
    (∀ {p q : Prop}, ¬(p ∨ q) ↔ ¬p ∧ ¬q) ∧
    (∀ {a : Prop}, ¬¬a ↔ a) ∧
    (∀ (b : Bool), ((!b) = true) = (b = false)) ∧
    (∀ (b : Bool), ((!b) = false) = (b = true)) ∧
    (∀ {a b : Int}, ¬a < b ↔ b ≤ a) ∧
    (∀ {a b : Int}, ¬a ≤ b ↔ b < a) ∧
    ((false = true) = False) ∧
    (∀ (p : Prop), (False → p) = True) ∧
    (∀ (p : Prop), (True → p) = p) ∧
    (∀ (p : Prop), (p ∧ p) = p) ∧
    ((¬True) = False) ∧
    ((¬False) = True) :=
  ⟨W_none, W_seq, W_block, W_reg, W_cond, W_skip, W_ext, W_ret, opt_some, opt_bind, opt_ite, thenQ_nrm, thenQ_ext, thenQ_ret, blkQ_nrm, blkQ_ext, blkQ_ret, if_true, if_true, true_and, and_true, decide_eq_true_eq, decide_eq_false_iff_not, @fun a b => Bool.or_eq_true a b, @fun a b => Bool.and_eq_true a b, Bool.or_eq_false_iff, Bool.and_eq_false_iff, Bool.true_eq_false, not_or, Classical.not_not, Bool.not_eq_true', Bool.not_eq_false', Int.not_lt, Int.not_le, Bool.false_eq_true, false_implies, true_implies, and_self, not_true_eq_false, not_false_eq_true⟩
end Go.Fx
