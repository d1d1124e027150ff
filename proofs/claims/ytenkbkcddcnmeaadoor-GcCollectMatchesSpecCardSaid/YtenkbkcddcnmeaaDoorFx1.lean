/- The rules by which a function's code is read as a plain Lean function. -/
import Derived.WalkKit
import Derived.Below
import Derived.Deep.Draws
import Derived.Laws.OwnMore
import Derived.Deep.AppendLies
import Derived.Maps.AppendAt
import Derived.KernelRfl
import Derived.LoopN
import Derived.RegionTactic
import Derived.StillTail
import Derived.OrdersHeld
import Derived.OrdersIn
import Derived.LoopNIn
import Derived.TacticsIn
import Derived.RangeFuncNested
import Derived.RangeFuncLeaves
import Derived.RangeFuncBound
import Derived.RangeFuncCalls
namespace Go.Fx
open Go.RowKit
set_option linter.unusedVariables false

abbrev Env := Nat → Value

/-- A slot written. -/
def upd (ρ : Env) (d : Nat) (v : Value) : Env := fun t => cond (Nat.beq t d) v (ρ t)

theorem upd_same (ρ : Env) (d : Nat) (v : Value) : upd ρ d v d = v := by simp [upd]
theorem upd_ne (ρ : Env) {d t : Nat} (v : Value) (h : t ≠ d) : upd ρ d v t = ρ t := by
  have : Nat.beq t d = false := by
    cases hb : Nat.beq t d
    · rfl
    · exact absurd (Nat.eq_of_beq_eq_true hb) h
  simp [upd, this]

def ev (ρ : Env) : Operand → Value
  | .tmp t => ρ t
  | .const v => v
  | .global g => .pointer (some ⟨g, 0, none⟩)
  | .func f => .func (.func f) #[] #[]

/-- The frame a reads as ρ. -/
structure Fr (dl : List Deferred) (n : Nat) (a : Act) (ρ : Env) : Prop where
  defers : a.defers = dl
  size : a.tmps.size = n
  get : ∀ t, a.tmps.getD t undef = ρ t

theorem Fr.eval {dl : List Deferred} {n : Nat} {a : Act} {ρ : Env} (h : Fr dl n a ρ) : a.eval = ev ρ := by
  funext x
  cases x with
  | tmp t => exact h.get t
  | const v => rfl
  | global g => rfl
  | func f => rfl

theorem Fr.put {dl : List Deferred} {n : Nat} {a : Act} {ρ : Env} (h : Fr dl n a ρ) (d : Nat) (v : Value) (hd : Nat.blt d n = true) : Fr dl n (a.put (some d) v) (upd ρ d v) := by
  have hlt : d < n := by simp [Nat.blt] at hd; omega
  refine ⟨h.defers, by simp [Act.put, h.size], fun t => ?_⟩
  show (a.tmps.setIfInBounds d v).getD t undef = _
  by_cases e : t = d
  · subst e
    rw [upd_same]
    simp [Array.getD_eq_getD_getElem?, h.size, hlt]
  · rw [upd_ne ρ v e, ← h.get t]
    simp [Array.getD_eq_getD_getElem?, Ne.symm e]

theorem Fr.put_none {dl : List Deferred} {n : Nat} {a : Act} {ρ : Env} (h : Fr dl n a ρ) (v : Value) : Fr dl n (a.put none v) ρ := h

theorem Fr.ext {dl : List Deferred} {n : Nat} {a : Act} {ρ ρ' : Env} (h : Fr dl n a ρ) (e : ∀ t, ρ t = ρ' t) : Fr dl n a ρ' := ⟨h.defers, h.size, fun t => (h.get t).trans (e t)⟩

/-- The first frame: the arguments, then nothing. -/
theorem Fr.start (args : Array Value) (n : Nat) (h : args.size ≤ n) :
    Fr [] n { tmps := args ++ Array.replicate (n - args.size) undef, defers := [] } (fun t => args.getD t undef) := by
  refine ⟨rfl, by simp; omega, fun t => ?_⟩
  simp only [Array.getD_eq_getD_getElem?, Array.getElem?_append]
  by_cases ht : t < args.size
  · simp [ht]
  · rw [if_neg ht, Array.getElem?_replicate]
    simp only [Array.getElem?_eq_none (Nat.le_of_not_lt ht), Option.getD_none]
    split <;> rfl

/-! ### What a piece of code comes to -/

inductive Ctl (σ τ : Type) where
  | nrm (s : σ)
  | ext (i : Nat) (s : σ)
  | ret (r : τ)

section
variable {σ τ : Type}

def iterN (m : σ → Option (Ctl σ τ)) : Nat → σ → Option (Ctl σ τ)
  | 0, _ => none
  | k + 1, s =>
    match m s with
    | some (.nrm s') => iterN m k s'
    | o => o

theorem iterN_mono {m : σ → Option (Ctl σ τ)} : ∀ {k : Nat} {s : σ} {o : Ctl σ τ}, iterN m k s = some o → ∀ j, iterN m (k + j) s = some o
  | 0, _, _, h, _ => by simp [iterN] at h
  | k + 1, s, o, h, j => by
    rw [show k + 1 + j = (k + j) + 1 by omega]
    unfold iterN at h ⊢
    cases hm : m s with
    | none => rw [hm] at h; cases h
    | some c =>
      rw [hm] at h
      cases c with
      | nrm s' => exact iterN_mono (m := m) h j
      | ext i s' => exact h
      | ret r => exact h

theorem iterN_unique {m : σ → Option (Ctl σ τ)} {k l : Nat} {s : σ} {o o' : Ctl σ τ} (h : iterN m k s = some o) (h' : iterN m l s = some o') : o = o' := by
  have h1 := iterN_mono h l
  have h2 := iterN_mono h' k
  rw [Nat.add_comm] at h2
  rw [h1] at h2
  exact Option.some.inj h2

open Classical in
/-- A loop: rounds until one leaves. -/
noncomputable def iterM (m : σ → Option (Ctl σ τ)) (s : σ) : Option (Ctl σ τ) :=
  if h : ∃ k o, iterN m k s = some o then some (Classical.choose (Classical.choose_spec h)) else none

theorem iterM_of {m : σ → Option (Ctl σ τ)} {k : Nat} {s : σ} {o : Ctl σ τ} (h : iterN m k s = some o) : iterM m s = some o := by
  have hx : ∃ k o, iterN m k s = some o := ⟨k, o, h⟩
  unfold iterM
  rw [dif_pos hx]
  exact congrArg some (iterN_unique (Classical.choose_spec (Classical.choose_spec hx)) h)

theorem iterM_some {m : σ → Option (Ctl σ τ)} {s : σ} {o : Ctl σ τ} (h : iterM m s = some o) : ∃ k, iterN m k s = some o := by
  unfold iterM at h
  split at h
  · rename_i hx
    exact ⟨_, (Classical.choose_spec (Classical.choose_spec hx)).trans h⟩
  · cases h

theorem iterM_eq (m : σ → Option (Ctl σ τ)) (s : σ) : iterM m s = match m s with | some (.nrm s') => iterM m s' | o => o := by
  cases hm : m s with
  | none =>
    cases h : iterM m s with
    | none => rfl
    | some o =>
      obtain ⟨k, hk⟩ := iterM_some h
      cases k with
      | zero => simp [iterN] at hk
      | succ k => simp [iterN, hm] at hk
  | some c =>
    cases c with
    | nrm s' =>
      show iterM m s = iterM m s'
      cases h : iterM m s' with
      | some o =>
        obtain ⟨k, hk⟩ := iterM_some h
        exact iterM_of (k := k + 1) (by simp [iterN, hm, hk])
      | none =>
        cases h2 : iterM m s with
        | none => rfl
        | some o =>
          obtain ⟨k, hk⟩ := iterM_some h2
          cases k with
          | zero => simp [iterN] at hk
          | succ k =>
            simp only [iterN, hm] at hk
            rw [iterM_of hk] at h
            cases h
    | ext i s' => exact iterM_of (k := 1) (by simp [iterN, hm])
    | ret r => exact iterM_of (k := 1) (by simp [iterN, hm])

def seqM (m k : σ → Option (Ctl σ τ)) (s : σ) : Option (Ctl σ τ) :=
  match m s with
  | some (.nrm s') => k s'
  | o => o
def condM (c : σ → Bool) (m k : σ → Option (Ctl σ τ)) (s : σ) : Option (Ctl σ τ) := if c s = true then m s else k s
def blockM (i : Nat) (m : σ → Option (Ctl σ τ)) (s : σ) : Option (Ctl σ τ) :=
  match m s with
  | some (.ext j s') => if j = i then some (.nrm s') else some (.ext j s')
  | o => o
def extM (i : Nat) (s : σ) : Option (Ctl σ τ) := some (.ext i s)
def retM (g : σ → τ) (s : σ) : Option (Ctl σ τ) := some (.ret (g s))
def skipM (s : σ) : Option (Ctl σ τ) := some (.nrm s)
/-- A region: slots are computed, or the code would stop there. -/
def regM (r : σ → Option σ) (s : σ) : Option (Ctl σ τ) := (r s).map .nrm
def Qo (dl : List Deferred) (n : Nat) (B : σ → Env → World → Prop) (X : Nat → σ → Env → World → Prop) (R : τ → Env → World → Prop) (o : Ctl σ τ) : Exit → Act → World → Prop := fun e a w =>
  ∃ ρ, Fr dl n a ρ ∧ match o, e with
    | .nrm s, .normal => B s ρ w
    | .ext i s, .exit j => i = j ∧ X i s ρ w
    | .ret r, .ret => R r ρ w
    | _, _ => False

/-- The widest fence, in a round of the loop rd or in none. -/
abbrev wd (rd : Option Nat) : Fence := { Fence.wide with round := rd }
/-- The code does what m says, between the two descriptions of the frame and the memory (rd: within a round of that loop). -/
def RefG (rd : Option Nat) (P : Program) (n : Nat) (c : Code) (A : σ → Env → World → Prop) (m : σ → Option (Ctl σ τ)) (B : σ → Env → World → Prop)
    (X : Nat → σ → Env → World → Prop) (R : τ → Env → World → Prop) : Prop :=
  ∀ dl d s ρ w a, A s ρ w → Fr dl n a ρ → ∀ o, m s = some o → c.wpIn (wd rd) d P (Qo dl n B X R o) a w
abbrev Ref (P : Program) (n : Nat) (c : Code) (A : σ → Env → World → Prop) (m : σ → Option (Ctl σ τ)) (B : σ → Env → World → Prop)
    (X : Nat → σ → Env → World → Prop) (R : τ → Env → World → Prop) : Prop := RefG none P n c A m B X R

variable {rd : Option Nat} {P : Program} {n : Nat} {A B C : σ → Env → World → Prop} {X : Nat → σ → Env → World → Prop} {R : τ → Env → World → Prop} {c d : Code} {m k : σ → Option (Ctl σ τ)}

theorem Ref.pre {A' : σ → Env → World → Prop} (h : RefG rd P n c A m B X R) (ha : ∀ s ρ w, A' s ρ w → A s ρ w) : RefG rd P n c A' m B X R :=
  fun dl d s ρ w a hA => h dl d s ρ w a (ha _ _ _ hA)
theorem Ref.post {B' : σ → Env → World → Prop} (h : RefG rd P n c A m B X R) (hb : ∀ s ρ w, B s ρ w → B' s ρ w) : RefG rd P n c A m B' X R := by
  intro dl dp s ρ w a hA hF o hm
  refine wpIn_mono (h dl dp s ρ w a hA hF o hm) ?_
  rintro e a' w' ⟨ρ', hF', hq⟩
  refine ⟨ρ', hF', ?_⟩
  cases o <;> cases e <;> first | exact hb _ _ _ hq | exact hq

theorem Ref.seq (h1 : RefG rd P n c A m B X R) (h2 : RefG rd P n d B k C X R) : RefG rd P n (.seq c d) A (seqM m k) C X R := by
  intro dl dp s ρ w a hA hF o hm
  unfold seqM at hm
  cases h : m s with
  | none => rw [h] at hm; cases hm
  | some o1 =>
    rw [h] at hm
    refine wpIn_seq (wpIn_mono (h1 dl dp s ρ w a hA hF o1 h) ?_)
    rintro e a' w' ⟨ρ', hF', hq⟩
    cases o1 with
    | nrm s' =>
      cases e <;> first | exact hq.elim | exact h2 dl dp s' ρ' w' a' hq hF' o hm
    | ext i s' =>
      cases Option.some.inj hm
      cases e <;> first | exact hq.elim | exact ⟨ρ', hF', hq⟩
    | ret r =>
      cases Option.some.inj hm
      cases e <;> first | exact hq.elim | exact ⟨ρ', hF', hq⟩

theorem Ref.cond {x : Operand} {b : σ → Bool} (hb : ∀ s ρ w, A s ρ w → ev ρ x = .bool (b s))
    (h1 : RefG rd P n c (fun s ρ w => b s = true ∧ A s ρ w) m B X R) (h2 : RefG rd P n d (fun s ρ w => b s = false ∧ A s ρ w) k B X R) : RefG rd P n (.cond x c d) A (condM b m k) B X R := by
  intro dl dp s ρ w a hA hF o hm
  refine wpIn_cond (t := b s) (by rw [hF.eval]; exact hb s ρ w hA) ?_
  unfold condM at hm
  cases h : b s with
  | true =>
    rw [h] at hm
    exact h1 dl dp s ρ w a ⟨h, hA⟩ hF o hm
  | false =>
    rw [h] at hm
    exact h2 dl dp s ρ w a ⟨h, hA⟩ hF o hm

/-- .. with what each way needs. -/
theorem Ref.condP {x : Operand} {b : σ → Bool} {L K : σ → Env → World → Prop} (hb : ∀ s ρ w, A s ρ w → ev ρ x = .bool (b s) ∧ L s ρ w ∧ K s ρ w)
    (h1 : RefG rd P n c L m B X R) (h2 : RefG rd P n d K k B X R) : RefG rd P n (.cond x c d) A (condM b m k) B X R :=
  Ref.cond (fun s ρ w h => (hb s ρ w h).1) (Ref.pre h1 fun s ρ w h => (hb s ρ w h.2).2.1) (Ref.pre h2 fun s ρ w h => (hb s ρ w h.2).2.2)
theorem Ref.loop {B' : σ → Env → World → Prop} (h : RefG rd P n c A m A X R) : RefG rd P n (.loop c) A (iterM m) B' X R := by
  intro dl dp s ρ w a hA hF o hm
  obtain ⟨k, hk⟩ := iterM_some hm
  refine wpIn_loop_rounds k ?_
  clear hm
  induction k generalizing s ρ w a with
  | zero => simp [iterN] at hk
  | succ k ih =>
    show Code.wpIn _ _ _ _ _ _ _
    unfold iterN at hk
    cases hm : m s with
    | none => rw [hm] at hk; cases hk
    | some o1 =>
      rw [hm] at hk
      refine wpIn_mono (h dl dp s ρ w a hA hF o1 hm) ?_
      rintro e a' w' ⟨ρ', hF', hq⟩
      cases o1 with
      | nrm s' =>
        cases e <;> first | exact hq.elim | exact ih s' ρ' w' a' hq hF' hk
      | ext i s' =>
        cases Option.some.inj hk
        cases e <;> first | exact hq.elim | exact ⟨ρ', hF', hq⟩
      | ret r =>
        cases Option.some.inj hk
        cases e <;> first | exact hq.elim | exact ⟨ρ', hF', hq⟩

theorem Ref.block {i : Nat} (h : RefG rd P n c A m B (fun j s ρ w => if j = i then B s ρ w else X j s ρ w) R) : RefG rd P n (.block i c) A (blockM i m) B X R := by
  intro dl dp s ρ w a hA hF o hm
  unfold blockM at hm
  refine wpIn_block ?_
  cases h1 : m s with
  | none => rw [h1] at hm; cases hm
  | some o1 =>
    rw [h1] at hm
    refine wpIn_mono (h dl dp s ρ w a hA hF o1 h1) ?_
    rintro e a' w' ⟨ρ', hF', hq⟩
    cases o1 with
    | nrm s' =>
      cases Option.some.inj hm
      cases e <;> first | exact hq.elim | exact ⟨ρ', hF', hq⟩
    | ext j s' =>
      cases e <;> try exact hq.elim
      obtain ⟨rfl, hq⟩ := hq
      dsimp only at hm
      by_cases hj : j = i
      · rw [if_pos hj] at hm
        cases Option.some.inj hm
        rw [if_pos hj] at hq
        show (if j = i then _ else _)
        rw [if_pos hj]
        exact ⟨ρ', hF', hq⟩
      · rw [if_neg hj] at hm
        cases Option.some.inj hm
        rw [if_neg hj] at hq
        show (if j = i then _ else _)
        rw [if_neg hj]
        exact ⟨ρ', hF', rfl, hq⟩
    | ret r =>
      cases Option.some.inj hm
      cases e <;> first | exact hq.elim | exact ⟨ρ', hF', hq⟩

theorem Ref.exit {i : Nat} (h : ∀ s ρ w, A s ρ w → X i s ρ w) : RefG rd P n (.exit i) A (extM i) B X R := by
  intro dl dp s ρ w a hA hF o hm
  cases Option.some.inj hm
  exact wpIn_exit ⟨ρ, hF, rfl, h _ _ _ hA⟩

theorem Ref.ret {g : σ → τ} (h : ∀ s ρ w, A s ρ w → R (g s) ρ w) : RefG rd P n .ret A (retM g) B X R := by
  intro dl dp s ρ w a hA hF o hm
  cases Option.some.inj hm
  exact wpIn_ret ⟨ρ, hF, h _ _ _ hA⟩

theorem Ref.skip : RefG rd P n .skip A skipM A X R := by
  intro dl dp s ρ w a hA hF o hm
  cases Option.some.inj hm
  exact wpIn_skip ⟨ρ, hF, hA⟩

/-! ### A region in the order of its text -/

/-- The first m operations leave the world as it is (for a region that draws its order); the others as they come. -/
def hl (P : Program) (ops : Array Oper) (Q : Exit → Act → World → Prop) : Nat → List Oper → Act → World → Prop
  | 0, rest, a, w => wpList P ops Q rest a w
  | _ + 1, [], a, w => Q .normal a w
  | m + 1, o :: rest, a, w => if Region.wanted o (yielded ops a.tmps) then o.still P a w (fun a' => hl P ops Q m rest a' w) else hl P ops Q m rest (a.put o.dst undef) w

theorem hl_still {P : Program} {ops : Array Oper} {Q : Exit → Act → World → Prop} : ∀ (m : Nat) (l : List Oper) (a : Act) (w : World), hl P ops Q m l a w → wpStill P ops w (fun a' => wpList P ops Q (l.drop m) a' w) (l.take m) a
  | 0, l, a, w, h => h
  | m + 1, [], a, w, h => h
  | m + 1, o :: l, a, w, h => by
    simp only [List.take_succ_cons, List.drop_succ_cons, wpStill]
    simp only [hl] at h
    split
    · rename_i hw
      rw [if_pos hw] at h
      exact Oper.still_mono (fun a' h' => hl_still m l a' w h') h
    · rename_i hw
      rw [if_neg hw] at h
      exact hl_still m l _ w h

/-- The operations that are left, at a frame that reads as ρ. -/
def OL (P : Program) (ops : Array Oper) (Q : Env → World → Prop) (n m : Nat) (rest : List Oper) (ρ : Env) (w : World) : Prop :=
  ∀ dl a, Fr dl n a ρ → ∀ Q' : Exit → Act → World → Prop, (∀ ρ' w' a', Q ρ' w' → Fr dl n a' ρ' → Q' .normal a' w') → hl P ops Q' m rest a w

theorem Ref.region {id : Nat} {l : List Oper} {r : σ → Option σ}
    (h : ∀ s ρ w s', A s ρ w → r s = some s' → OL P l.toArray (fun ρ' w' => B s' ρ' w') n 0 l ρ w) : RefG none P n (.region id l.toArray false) A (regM r) B X R := by
  intro dl dp s ρ w a hA hF o hm
  unfold regM at hm
  cases hr : r s with
  | none => rw [hr] at hm; cases hm
  | some s' =>
    rw [hr] at hm
    cases Option.some.inj hm
    exact wpIn_wide.2 (wp_region_lit (h s ρ w s' hA hr dl a hF _ (fun ρ' w' a' hB hF' => ⟨ρ', hF', hB⟩)))

/-- No operation of the list is a deferred call. -/
def noDefer (l : List Oper) : Bool := l.all fun o => match o.op with | .defer _ => false | _ => true

theorem in_of_list {ops : Array Oper} {dp : Nat} {Q : Exit → Act → World → Prop} (hQ : ¬ LetsOut Q) : ∀ (l : List Oper), noDefer l = true → ∀ (a : Act) (w : World), wpList P ops Q l a w → wpListIn (wd rd) dp P ops Q l a w := by
  intro l
  induction l with
  | nil => exact fun _ a w h => h
  | cons o l ih =>
    intro hl a w h
    simp only [noDefer, List.all_cons, Bool.and_eq_true] at hl
    have ih' := ih hl.2
    simp only [wpList] at h
    simp only [wpListIn]
    split
    · rename_i hw
      rw [if_pos hw] at h
      have h := h.resolve_right (fun x => hQ x.2)
      refine ⟨fun f _ => trivial, ?_⟩
      have hs : o.semAt (wd rd).round a.eval = execOp a.eval o := by
        cases rd with
        | none => simp only [Oper.semAt_none]
        | some r => exact Oper.semAt_some r _ _ (fun c e => by rw [e] at hl; simp at hl)
      rw [hs]
      unfold Oper.wp at h
      generalize (execOp a.eval o).run P w = x at h ⊢
      cases x with
      | ok nx w' =>
        cases nx <;> simp only [Oper.upon] at h <;> simp only [Oper.uponIn] <;> try exact ih' _ _ h
        · refine ⟨fun e => by simp [Fence.wide] at e, ?_⟩
          refine CallsIn.mono (show CallsIn (wd rd) (dp - 1) P _ _ _ _ from callsIn_wide.2 h) ?_
          intro e w2 he
          cases e with
          | returned v => exact ih' _ _ he
          | panicked c => exact he
          | outgrown => exact he
        · refine ⟨fun e => by simp [Fence.wide] at e, ?_⟩
          rename_i row args
          exact fun c cs _ => let ⟨v, w2, hk, hs⟩ := h c cs; ⟨v, w2, ih' _ _ hk, stepsIn_wide.2 hs⟩
      | halt hh w' => cases hh <;> simp only [Oper.upon] at h <;> simp only [Oper.uponIn] <;> exact h
    · rename_i hw
      rw [if_neg hw] at h
      exact ⟨fun f _ => trivial, ih' _ _ h⟩

/-- A region within a round. -/
theorem Ref.regionR {id : Nat} {l : List Oper} {r : σ → Option σ} (hd : noDefer l = true)
    (h : ∀ s ρ w s', A s ρ w → r s = some s' → OL P l.toArray (fun ρ' w' => B s' ρ' w') n 0 l ρ w) : RefG rd P n (.region id l.toArray false) A (regM r) B X R := by
  intro dl dp s ρ w a hA hF o hm
  unfold regM at hm
  cases hr : r s with
  | none => rw [hr] at hm; cases hm
  | some s' =>
    rw [hr] at hm
    cases Option.some.inj hm
    exact wpIn_region_lit (in_of_list (by rintro ⟨a, w, ρ', hF', h⟩; exact h.elim) l hd a w (h s ρ w s' hA hr dl a hF _ (fun ρ' w' a' hB hF' => ⟨ρ', hF', hB⟩)))
end

/-- A region that draws its order: reads first, then the rest in the text's order. -/
theorem Ref.regionD {σ τ : Type} {P : Program} {n : Nat} {A B : σ → Env → World → Prop} {X : Nat → σ → Env → World → Prop} {R : τ → Env → World → Prop} {id : Nat} {l : List Oper} {r : σ → Option σ} (m : Nat) (hmx : P.follows .mixedOrders = true) (hB : Region.lexTailB .any l.toArray m = true)
    (hA : ∀ s ρ w, A s ρ w → A s ρ w.drew) (h : ∀ s ρ w s', A s ρ w → r s = some s' → OL P l.toArray (fun ρ' w' => B s' ρ' w') n m l ρ w) : Ref P n (.region id l.toArray true) A (regM r) B X R := by
  intro dl dp s ρ w a hA' hF o hm
  unfold regM at hm
  cases hr : r s with
  | none => rw [hr] at hm; cases hm
  | some s' =>
    rw [hr] at hm
    cases Option.some.inj hm
    refine wpIn_wide.2 ?_
    exact wp_region_still_tail m hmx hB (hl_still m l a w.drew (h s ρ w.drew s' (hA s ρ w hA') hr dl a hF _ (fun ρ' w' a' hB hF' => ⟨ρ', hF', hB⟩)))
/-- .. all of whose operations read alone. -/
theorem Ref.regionS {σ τ : Type} {P : Program} {n : Nat} {A B : σ → Env → World → Prop} {X : Nat → σ → Env → World → Prop} {R : τ → Env → World → Prop} {id : Nat} {l : List Oper} {r : σ → Option σ} (hmx : P.follows .mixedOrders = true) (hB : Region.lexB .any l.toArray = true)
    (hA : ∀ s ρ w, A s ρ w → A s ρ w.drew) (h : ∀ s ρ w s', A s ρ w → r s = some s' → OL P l.toArray (fun ρ' w' => B s' ρ' w') n l.length l ρ w) : Ref P n (.region id l.toArray true) A (regM r) B X R := by
  intro dl dp s ρ w a hA' hF o hm
  unfold regM at hm
  cases hr : r s with
  | none => rw [hr] at hm; cases hm
  | some s' =>
    rw [hr] at hm
    cases Option.some.inj hm
    refine wpIn_wide.2 ?_
    refine wp_region_still_lit hmx hB ?_
    have h1 := hl_still l.length l a w.drew (h s ρ w.drew s' (hA s ρ w hA') hr dl a hF (Qo dl n B X R (.nrm s')) (fun ρ' w' a' hB hF' => ⟨ρ', hF', hB⟩))
    rw [List.take_length, List.drop_length] at h1
    exact h1

section
variable {P : Program} {ops : Array Oper} {Q : Env → World → Prop} {n m : Nat} {rest : List Oper} {ρ : Env} {w : World}

theorem ol_nil (h : Q ρ w) : OL P ops Q n m [] ρ w := fun dl a hF Q' hQ => by cases m <;> exact hQ _ _ _ h hF
theorem ol_fin {σ : Type} {B : σ → Env → World → Prop} {x s' : σ} (hr : some x = some s') (h : B x ρ w) : OL P ops (fun ρ' w' => B s' ρ' w') n m [] ρ w := by
  obtain rfl := Option.some.inj hr
  exact ol_nil h

theorem hl_cut {Q' : Exit → Act → World → Prop} (i : Nat) : ∀ (l : List Oper) (m : Nat) (a : Act) (w : World), i ≤ l.length →
    hl P ops (fun e a' w' => match e with | .normal => hl P ops Q' (m - i) (l.drop i) a' w' | e => Q' e a' w') m (l.take i) a w → hl P ops Q' m l a w := by
  induction i with
  | zero =>
    intro l m a w _ h
    cases m with
    | zero => exact h
    | succ m => exact h
  | succ i ih =>
    intro l m a w hi h
    cases l with
    | nil => simp at hi
    | cons o l =>
      have hi' : i ≤ l.length := by simpa using hi
      simp only [List.take_succ_cons, List.drop_succ_cons] at h
      cases m with
      | zero =>
        have ih0 := fun a' w' => ih l 0 a' w' hi'
        simp only [Nat.zero_sub] at h ih0
        simp only [hl, wpList] at h ⊢
        split
        · rename_i hw
          rw [if_pos hw] at h
          refine h.imp (fun h => ?_) (fun ⟨h1, a0, w0, h2⟩ => ⟨h1, a0, w0, h2⟩)
          have h' := Oper.wp_mono (fun a' w' hk => ih0 a' w' hk) h
          unfold Oper.wp at h' ⊢
          generalize (execOp a.eval o).run P w = r at h' ⊢
          cases r with
          | ok nx w' =>
            cases nx <;> simp only [Oper.upon] at h' ⊢ <;> first | exact h' | exact Calls.mono h' (fun e w'' he => by cases e <;> first | exact he | (obtain ⟨a0, w0, h2⟩ := he; exact ⟨a0, w0, h2⟩))
          | halt hh w' => cases hh <;> simp only [Oper.upon] at h' ⊢ <;> exact h'
        · rename_i hw
          rw [if_neg hw] at h
          exact ih0 _ _ h
      | succ m =>
        have ih1 := fun a' w' => ih l m a' w' hi'
        rw [show m + 1 - (i + 1) = m - i by omega] at h
        simp only [hl] at h ⊢
        split
        · rename_i hw
          rw [if_pos hw] at h
          exact Oper.still_mono (fun a' hk => ih1 a' w hk) h
        · rename_i hw
          rw [if_neg hw] at h
          exact ih1 _ _ h
/-- What holds behind the first i operations. -/
theorem ol_cut {l : List Oper} (i : Nat) (K : Env → World → Prop) (hi : Nat.ble i l.length = true) (h1 : OL P ops K n m (l.take i) ρ w) (h2 : ∀ ρ' w', K ρ' w' → OL P ops Q n (m - i) (l.drop i) ρ' w') : OL P ops Q n m l ρ w :=
  fun dl a hF Q' hQ => hl_cut i l m a w (Nat.le_of_ble_eq_true hi) (h1 dl a hF _ fun ρ' w' a' hK hF' => h2 ρ' w' hK dl a' hF' Q' hQ)
/-- The frames agree but for the slots from lo to hi. -/
def Agr (lo hi : Nat) (ρ ρ' : Env) : Prop := ∀ t, (Nat.blt t lo || Nat.blt hi t) = true → ρ' t = ρ t
theorem Agr.refl (lo hi : Nat) (ρ : Env) : Agr lo hi ρ ρ := fun _ _ => rfl
theorem Agr.upd {lo hi d : Nat} {ρ ρ' : Env} {v : Value} (h : Agr lo hi ρ ρ') (h1 : Nat.ble lo d = true) (h2 : Nat.ble d hi = true) : Agr lo hi ρ (upd ρ' d v) := by
  intro t ht
  have : t ≠ d := by
    rintro rfl
    have a1 := Nat.le_of_ble_eq_true h1
    have a2 := Nat.le_of_ble_eq_true h2
    simp [Nat.blt] at ht
    omega
  rw [upd_ne _ _ this]
  exact h t ht
theorem Agr.u {lo hi d : Nat} {ρ ρ' : Env} {v : Value} (h : Agr lo hi ρ ρ') (h1 : Nat.ble lo d = true := by rfl) (h2 : Nat.ble d hi = true := by rfl) : Agr lo hi ρ (Go.Fx.upd ρ' d v) := h.upd h1 h2
theorem ol_cutA {l : List Oper} (i lo hi : Nat) (K : Env → World → Prop) (hi' : Nat.ble i l.length = true) (h1 : OL P ops (fun ρ' w' => K ρ' w' ∧ Agr lo hi ρ ρ') n m (l.take i) ρ w)
    (h2 : ∀ ρ' w', K ρ' w' ∧ Agr lo hi ρ ρ' → OL P ops Q n (m - i) (l.drop i) ρ' w') : OL P ops Q n m l ρ w := ol_cut i _ hi' h1 h2
theorem bv_and_t {b e : Bool} (hb : b = true) : Value.bool e = Value.bool (b && e) := by rw [hb]; rfl
theorem bv_and_f {b e : Bool} (hb : b = false) : Value.bool false = Value.bool (b && e) := by rw [hb]; rfl
theorem bv_or_t {b e : Bool} (hb : b = true) : Value.bool true = Value.bool (b || e) := by rw [hb]; rfl
theorem bv_or_f {b e : Bool} (hb : b = false) : Value.bool e = Value.bool (b || e) := by rw [hb]; rfl
theorem lcons {α : Type} {a b : α} {l l' : List α} (h : a = b) (h' : l = l') : a :: l = b :: l' := by rw [h, h']

/-- The operation yields v and does nothing else. -/
def Ev (P : Program) (ρ : Env) (w : World) (op : Op) (v : Value) : Prop :=
  ∀ (d : Option Tmp) (ty : TypeId) (pos : String) (after : Array Edge) (g : Option (Nat × Bool)), (execOp (ev ρ) { dst := d, op := op, type := ty, pos := pos, after := after, guard := g }).run P w = .ok (.value v) w
/-- The operation comes to one of R's values and worlds. -/
def Eff (P : Program) (ρ : Env) (n : Nat) (w : World) (op : Op) (R : Value → World → Prop) : Prop :=
  ∀ (d : Option Tmp) (ty : TypeId) (pos : String) (after : Array Edge) (g : Option (Nat × Bool)) (dl : List Deferred) (a : Act), Fr dl n a ρ → ∀ (K : Act → World → Prop) (Q' : Exit → Act → World → Prop), (∀ v w', R v w' → K (a.put d v) w') →
    Oper.wp P { dst := d, op := op, type := ty, pos := pos, after := after, guard := g } a w K Q'

theorem Eff.of_run {op : Op} {v : Value} {w' : World} {R : Value → World → Prop} (h : ∀ (d : Option Tmp) (ty : TypeId) (pos : String) (after : Array Edge) (g : Option (Nat × Bool)), (execOp (ev ρ) { dst := d, op := op, type := ty, pos := pos, after := after, guard := g }).run P w = .ok (.value v) w') (hR : R v w') : Eff P ρ n w op R := by
  intro d ty pos after g dl a hF K Q' hK
  unfold Oper.wp
  rw [hF.eval, h]
  exact hK _ _ hR
theorem Eff.of_runN {op : Op} {w' : World} {R : Value → World → Prop} (h : ∀ (d : Option Tmp) (ty : TypeId) (pos : String) (after : Array Edge) (g : Option (Nat × Bool)), (execOp (ev ρ) { dst := d, op := op, type := ty, pos := pos, after := after, guard := g }).run P w = .ok .skip w') (hR : R undef w') : Eff P ρ n w op R := by
  intro d ty pos after g dl a hF K Q' hK
  unfold Oper.wp
  rw [hF.eval, h]
  exact hK _ _ hR
theorem Ev.eff {op : Op} {v : Value} (h : Ev P ρ w op v) : Eff P ρ n w op (fun v' w' => v' = v ∧ w' = w) := Eff.of_run h ⟨rfl, rfl⟩

theorem hl_run {o : Oper} {a : Act} {v : Value} {Q' : Exit → Act → World → Prop} (hw : Region.wanted o (yielded ops a.tmps) = true) (hr : (execOp a.eval o).run P w = .ok (.value v) w) (k : hl P ops Q' (m - 1) rest (a.put o.dst v) w) : hl P ops Q' m (o :: rest) a w := by
  cases m with
  | zero =>
    simp only [hl, wpList]
    rw [if_pos hw]
    refine .inl ?_
    unfold Oper.wp
    rw [hr]
    exact k
  | succ m =>
    simp only [hl]
    rw [if_pos hw]
    unfold Oper.still
    rw [hr]
    exact ⟨rfl, k⟩
theorem hl_skip {o : Oper} {a : Act} {Q' : Exit → Act → World → Prop} (hw : Region.wanted o (yielded ops a.tmps) = false) (k : hl P ops Q' (m - 1) rest (a.put o.dst undef) w) : hl P ops Q' m (o :: rest) a w := by
  cases m with
  | zero =>
    simp only [hl, wpList]
    rw [hw, if_neg (by simp)]
    exact k
  | succ m =>
    simp only [hl]
    rw [hw, if_neg (by simp)]
    exact k

theorem ol_v {d : Nat} {op : Op} {ty : TypeId} {pos : String} {after : Array Edge} {v : Value} (hE : Ev P ρ w op v) (hn : Nat.blt d n = true) (k : OL P ops Q n (m - 1) rest (upd ρ d v) w) :
    OL P ops Q n m ({ dst := some d, op := op, type := ty, pos := pos, after := after, guard := none } :: rest) ρ w := by
  intro dl a hF Q' hQ
  exact hl_run (o := { dst := some d, op := op, type := ty, pos := pos, after := after, guard := none }) rfl (by rw [hF.eval]; exact hE _ _ _ _ _) (k _ _ (hF.put d v hn) Q' hQ)
theorem ol_e {d : Nat} {op : Op} {ty : TypeId} {pos : String} {after : Array Edge} {R : Value → World → Prop} (hE : Eff P ρ n w op R) (hn : Nat.blt d n = true) (hm : m = 0) (k : ∀ v w', R v w' → OL P ops Q n 0 rest (upd ρ d v) w') :
    OL P ops Q n m ({ dst := some d, op := op, type := ty, pos := pos, after := after, guard := none } :: rest) ρ w := by
  subst hm
  intro dl a hF Q' hQ
  exact wpList_plain rfl fun K hK => hE _ _ _ _ _ dl a hF K Q' fun v w' hR => hK _ _ (k v w' hR _ _ (hF.put d v hn) Q' hQ)
theorem ol_eN {op : Op} {ty : TypeId} {pos : String} {after : Array Edge} {R : Value → World → Prop} (hE : Eff P ρ n w op R) (hm : m = 0) (k : ∀ v w', R v w' → OL P ops Q n 0 rest ρ w') :
    OL P ops Q n m ({ dst := none, op := op, type := ty, pos := pos, after := after, guard := none } :: rest) ρ w := by
  subst hm
  intro dl a hF Q' hQ
  exact wpList_plain rfl fun K hK => hE _ _ _ _ _ dl a hF K Q' fun v w' hR => hK _ _ (k v w' hR _ _ (hF.put_none v) Q' hQ)

/-- What the slot of a guard holds. -/
theorem yielded_of {dl : List Deferred} {a : Act} (hF : Fr dl n a ρ) {j dj : Nat} (hj : (ops[j]?).bind (·.dst) = some dj) (hnj : Nat.blt dj n = true) : yielded ops a.tmps j = (match ρ dj with | .bool b => some b | _ => none) := by
  have hlt : dj < a.tmps.size := by rw [hF.size]; simp [Nat.blt] at hnj; omega
  have := hF.get dj
  simp only [Array.getD_eq_getD_getElem?, Array.getElem?_eq_getElem hlt, Option.getD_some] at this
  simp only [yielded, hj, Option.bind_some, Array.getElem?_eq_getElem hlt, this]
  cases ρ dj <;> rfl

/-- A guarded operation that isn't wanted. -/
theorem ol_not {d j dj : Nat} {op : Op} {ty : TypeId} {pos : String} {after : Array Edge} {want b : Bool} (hn : Nat.blt d n = true)
    (hj : (ops[j]?).bind (·.dst) = some dj) (hnj : Nat.blt dj n = true) (hb : ρ dj = .bool b) (hne : (b == want) = false)
    (k : OL P ops Q n (m - 1) rest (upd ρ d undef) w) : OL P ops Q n m ({ dst := some d, op := op, type := ty, pos := pos, after := after, guard := some (j, want) } :: rest) ρ w := by
  intro dl a hF Q' hQ
  have hy := yielded_of hF hj hnj
  rw [hb] at hy
  refine hl_skip (o := { dst := some d, op := op, type := ty, pos := pos, after := after, guard := some (j, want) }) ?_ (k _ _ (hF.put d undef hn) Q' hQ)
  simp only [Region.wanted, hy]
  cases b <;> cases want <;> simp_all
/-- A guarded operation behind one that was not wanted. -/
theorem ol_notU {d j dj : Nat} {op : Op} {ty : TypeId} {pos : String} {after : Array Edge} {want : Bool} (hn : Nat.blt d n = true)
    (hj : (ops[j]?).bind (·.dst) = some dj) (hnj : Nat.blt dj n = true) (hb : ρ dj = undef)
    (k : OL P ops Q n (m - 1) rest (upd ρ d undef) w) : OL P ops Q n m ({ dst := some d, op := op, type := ty, pos := pos, after := after, guard := some (j, want) } :: rest) ρ w := by
  intro dl a hF Q' hQ
  have hy := yielded_of hF hj hnj
  rw [hb] at hy
  refine hl_skip (o := { dst := some d, op := op, type := ty, pos := pos, after := after, guard := some (j, want) }) ?_ (k _ _ (hF.put d undef hn) Q' hQ)
  simp [Region.wanted, hy, undef]
/-- A guarded operation that is wanted is as a plain one. -/
theorem ol_yes {d j dj : Nat} {op : Op} {ty : TypeId} {pos : String} {after : Array Edge} {want : Bool}
    (hj : (ops[j]?).bind (·.dst) = some dj) (hnj : Nat.blt dj n = true) (hb : ρ dj = .bool want)
    (k : OL P ops Q n m ({ dst := some d, op := op, type := ty, pos := pos, after := after, guard := none } :: rest) ρ w) :
    OL P ops Q n m ({ dst := some d, op := op, type := ty, pos := pos, after := after, guard := some (j, want) } :: rest) ρ w := by
  intro dl a hF Q' hQ
  have hy := yielded_of hF hj hnj
  rw [hb] at hy
  have h := k dl a hF Q' hQ
  have hw : Region.wanted { dst := some d, op := op, type := ty, pos := pos, after := after, guard := some (j, want) } (yielded ops a.tmps) = true := by
    simp [Region.wanted, hy]
  cases m with
  | zero =>
    simp only [hl, wpList, Region.wanted, if_true] at h
    simp only [hl, wpList, hw, if_true]
    exact h
  | succ m =>
    simp only [hl, Region.wanted, if_true] at h
    simp only [hl, hw, if_true]
    exact h

theorem e_mv {x : Operand} (v : Value) (hx : ev ρ x = v) : Ev P ρ w (.move x) v := fun _ _ _ _ _ => by subst hx; rfl
theorem e_as {x : Operand} (v : Value) (hx : ev ρ x = v) : Ev P ρ w (.assign x) v := fun _ _ _ _ _ => by subst hx; rfl
theorem ol_m {d : Nat} {x : Operand} {ty : TypeId} {pos : String} {after : Array Edge} {v : Value} (hx : ev ρ x = v) (k : OL P ops Q n (m - 1) rest (upd ρ d v) w) (hn : Nat.blt d n = true := by rfl) :
    OL P ops Q n m ({ dst := some d, op := .move x, type := ty, pos := pos, after := after, guard := none } :: rest) ρ w := ol_v (e_mv v hx) hn k
theorem ol_a {d : Nat} {x : Operand} {ty : TypeId} {pos : String} {after : Array Edge} {v : Value} (hx : ev ρ x = v) (k : OL P ops Q n (m - 1) rest (upd ρ d v) w) (hn : Nat.blt d n = true := by rfl) :
    OL P ops Q n m ({ dst := some d, op := .assign x, type := ty, pos := pos, after := after, guard := none } :: rest) ρ w := ol_v (e_as v hx) hn k
theorem e_pick {c x y : Operand} (b : Bool) (v : Value) (hc : ev ρ c = .bool b) (hx : (if b = true then ev ρ x else ev ρ y) = v) : Ev P ρ w (.pick c x y) v :=
  fun _ _ _ _ _ => by subst hx; simp [execOp, hc, asBool, go_sem]

/-- A function with a body, that may be called. -/
structure FnOk (P : Program) (f : FuncId) : Prop where
  ok : ∃ fn, P.funcs[f]? = some fn ∧ (fn.name == "runtime.NumGoroutine") = false ∧ fn.body.isNone = false

/-- A call, by the callee's contract. -/
theorem f_call {f : Nat} {args : List Operand} {tys : Array TypeId} {R : Value → World → Prop} (vs : List Value) (hf : FnOk P f) (hv : args.map (ev ρ) = vs) (hc : Calls P f vs.toArray w fun e w' => ∃ v, e = .returned v ∧ R v w') :
    Eff P ρ n w (.call { callee := .value (.func f), args := args.toArray, argTypes := tys }) R := by
  obtain ⟨fn, hf, hname, hbody⟩ := hf.ok
  intro d ty pos after g dl a hF K Q' hK
  unfold Oper.wp
  rw [hF.eval]
  have hr : (execOp (ev ρ) { dst := d, op := .call { callee := .value (.func f), args := args.toArray, argTypes := tys }, type := ty, pos := pos, after := after, guard := g }).run P w = .ok (.enter f vs.toArray) w := by
    have h0 : (#[] : Array Value) ++ args.toArray.map (ev ρ) ++ #[] = vs.toArray := by simp [hv]
    have h1 : (execOp (ev ρ) { dst := d, op := .call { callee := .value (.func f), args := args.toArray, argTypes := tys }, type := ty, pos := pos, after := after, guard := g }) = callFunc f vs.toArray := by
      rw [← h0]; rfl
    rw [h1, callFunc, Sem.run_bind, run_program, Result.andThen_ok]
    simp only [hf, hname, hbody, Bool.false_eq_true, if_false]
    rfl
  rw [hr, Oper.upon_enter]
  refine hc.mono ?_
  rintro e w' ⟨v, rfl, hR⟩
  exact hK _ _ hR
end
end Go.Fx
