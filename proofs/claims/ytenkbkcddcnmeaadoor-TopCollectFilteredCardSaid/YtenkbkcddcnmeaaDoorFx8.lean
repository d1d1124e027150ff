/- Regions that draw their order, where writes stand among reads: every order is walked. -/
import Derived.Test.YtenkbkcddcnmeaaDoorFx7
namespace Go.Fx
open Go.RowKit
set_option linter.unusedVariables false

theorem Stp.back {F F' : BSet} {w w' : World} (h : Stp F w F' w') : Stp F w F w' := ⟨h.keep, fun _ h => h⟩

/-- The operations that are left (listed: which have come up), whatever order is drawn. -/
def OH (P : Program) (ops : Array Oper) (Q : Env → World → Prop) (S : World → Prop) (n fuel : Nat) (listed : Array Bool) (ρ : Env) (w : World) : Prop :=
  ∀ dl a, Fr dl n a ρ → ∀ Q' : Exit → Act → World → Prop, (∀ ρ' w' a', Q ρ' w' → Fr dl n a' ρ' → Q' .normal a' w') → (∀ c a' w', ¬ Q' (.panic c) a' w') → wpAnyH P .any ops Q' S fuel listed a w
/-- One operation comes up. -/
def OH1 (P : Program) (ops : Array Oper) (Q : Env → World → Prop) (S : World → Prop) (n fuel : Nat) (listed : Array Bool) (ρ : Env) (w : World) (i : Nat) : Prop :=
  ∀ dl a, Fr dl n a ρ → ∀ Q' : Exit → Act → World → Prop, (∀ ρ' w' a', Q ρ' w' → Fr dl n a' ρ' → Q' .normal a' w') → (∀ c a' w', ¬ Q' (.panic c) a' w') →
    wpOp P ops Q' i (fun a' w' => S w' ∧ wpAnyH P .any ops Q' S fuel (listed.setIfInBounds i true) a' w') a w
def OHs (P : Program) (ops : Array Oper) (Q : Env → World → Prop) (S : World → Prop) (n fuel : Nat) (listed : Array Bool) (ρ : Env) (w : World) : List Nat → Prop
  | [] => True
  | i :: is => OH1 P ops Q S n fuel listed ρ w i ∧ OHs P ops Q S n fuel listed ρ w is

/-- The region as a whole. -/
theorem Ref.regionH {σ τ : Type} {P : Program} {n : Nat} {A B : σ → Env → World → Prop} {X : Nat → σ → Env → World → Prop} {R : τ → Env → World → Prop} {id : Nat} {l : List Oper} {r : σ → Option σ} (hmx : P.follows .mixedOrders = true)
    (hA : ∀ s ρ w, A s ρ w → A s ρ w.drew) (h : ∀ s ρ w s', A s ρ w → r s = some s' → ∃ S, OH P l.toArray (fun ρ' w' => B s' ρ' w') S n l.toArray.size (Array.replicate l.toArray.size false) ρ w) : Ref P n (.region id l.toArray true) A (regM r) B X R := by
  intro dl dp s ρ w a hA' hF o hm
  unfold regM at hm
  cases hr : r s with
  | none => rw [hr] at hm; cases hm
  | some s' =>
    rw [hr] at hm
    cases Option.some.inj hm
    obtain ⟨S, hS⟩ := h s ρ w.drew s' (hA s ρ w hA') hr
    refine wpIn_wide.2 (wp_region_held (S := S) hmx ?_)
    exact hS dl a hF _ (fun ρ' w' a' hB hF' => ⟨ρ', hF', hB⟩) (by rintro c a' w' ⟨ρ', _, h⟩; exact h)

def isDefer (o : Oper) : Bool := match o.op with | .defer _ => true | _ => false
theorem opIn_of_op {rd : Option Nat} {dp : Nat} {P : Program} {o : Oper} {a : Act} {w : World} {K K' : Act → World → Prop} {Q : Exit → Act → World → Prop} (hQ : ¬ LetsOut Q) (hd : isDefer o = false) (hK : ∀ a w, K a w → K' a w)
    (h : o.wp P a w K Q ∨ (o.asks P a w ∧ LetsOut Q)) : o.wpIn (wd rd) dp P a w K' Q := by
  have h := h.resolve_right (fun x => hQ x.2)
  refine ⟨fun f _ => trivial, ?_⟩
  have hs : o.semAt (wd rd).round a.eval = execOp a.eval o := by
    cases rd with
    | none => simp only [Oper.semAt_none]
    | some r => exact Oper.semAt_some r _ _ (fun c e => by simp [isDefer, e] at hd)
  rw [hs]
  unfold Oper.wp at h
  generalize (execOp a.eval o).run P w = x at h ⊢
  cases x with
  | ok nx w' =>
    cases nx <;> simp only [Oper.upon] at h <;> simp only [Oper.uponIn] <;> try exact hK _ _ h
    · refine ⟨fun e => by simp [Fence.wide] at e, ?_⟩
      refine CallsIn.mono (show CallsIn (wd rd) (dp - 1) P _ _ _ _ from callsIn_wide.2 h) ?_
      intro e w2 he
      cases e with
      | returned v => exact hK _ _ he
      | panicked c => exact he
      | outgrown => exact he
    · refine ⟨fun e => by simp [Fence.wide] at e, ?_⟩
      exact fun c cs _ => let ⟨v, w2, hk, hs⟩ := h c cs; ⟨v, w2, hK _ _ hk, stepsIn_wide.2 hs⟩
  | halt hh w' => cases hh <;> simp only [Oper.upon] at h <;> simp only [Oper.uponIn] <;> exact h

theorem anyIn_of_any {rd : Option Nat} {dp : Nat} {P : Program} {md : Region.Mode} {ops : Array Oper} {Q : Exit → Act → World → Prop} (hQ : ¬ LetsOut Q) (hd : ∀ (i : Nat) (o : Oper), ops[i]? = some o → isDefer o = false) :
    ∀ (fuel : Nat) (listed : Array Bool) (a : Act) (w : World), wpAny P md ops Q fuel listed a w → wpAnyIn (wd rd) dp P md ops Q fuel listed a w
  | 0, listed, a, w, h => h
  | fuel + 1, listed, a, w, h => by
    refine ⟨h.1, fun i hi => ?_⟩
    have h1 := h.2 i hi
    have ih := anyIn_of_any (rd := rd) (dp := dp) (P := P) (md := md) hQ hd fuel (listed.setIfInBounds i true)
    unfold wpOp at h1
    unfold wpOpIn
    cases ho : ops[i]? with
    | none => rw [ho] at h1; exact ih _ _ h1
    | some o =>
      rw [ho] at h1
      dsimp only at h1 ⊢
      split
      · rename_i hw
        rw [if_pos hw] at h1
        exact opIn_of_op hQ (hd i o ho) ih h1
      · rename_i hw
        rw [if_neg hw] at h1
        exact ⟨fun f _ => trivial, ih _ _ h1⟩

/-- Reads first, then the rest in the text's order: so whatever order is drawn. -/
theorem any_of_tail {P : Program} {Q : Exit → Act → World → Prop} {l : List Oper} {a : Act} {w : World} (m : Nat) (hB : Region.lexTailB .any l.toArray m = true) (h : hl P l.toArray Q m l a w) :
    wpAny P .any l.toArray Q l.toArray.size (Array.replicate l.toArray.size false) a w := by
  have hst := hl_still m l a w h
  simp only [Region.lexTailB, Bool.and_eq_true, decide_eq_true_eq] at hB
  have hm : m < l.length := by simpa using hB.1.1.1.2
  have e1 : (l.take m).length = m := List.length_take_of_le (Nat.le_of_lt hm)
  have e2 : (l.drop m).length = l.length - m := List.length_drop
  have start : HeadInv .any l.toArray m (Array.replicate l.toArray.size false) :=
    { size := Array.size_replicate, closed := fun j oj _ hl => (by rw [getD_replicate_false] at hl; cases hl), tail := fun t _ ht => getD_in (by rw [Array.size_replicate]; exact ht) (getD_replicate_false _ _) }
  have head := wpAnyL_lex (md := .any) (w := w) (g := l.length - m) hB.1.1.1.1 hB.1.1.2 hB.1.2 hB.1.1.1.2 (l.take m) 0 _ a
    (fun j hj => by rw [e1] at hj; simp [hj]) (by rw [e1, Nat.zero_add]) start (by rw [e1]; simpa using hB.2) hst
  have whole := wpAny_of_head (Q' := Q) (g := l.length - m) (fun listed a' hL => by
    have hs := wpAny_of_seq (md := .any) (Q' := Q) (l.drop m) m listed a' w (fun j => by simp [List.getElem?_drop]) (by rw [e2]; exact hL.1) hL.2
    rw [e2] at hs; exact hs) _ _ _ head
  rw [e1, show m + (l.length - m) = l.toArray.size by simp; omega] at whole
  exact whole
theorem any_of_reads {P : Program} {Q : Exit → Act → World → Prop} {l : List Oper} {a : Act} {w : World} (hB : Region.lexB .any l.toArray = true) (h : hl P l.toArray Q l.length l a w) :
    wpAny P .any l.toArray Q l.toArray.size (Array.replicate l.toArray.size false) a w := by
  have hst := hl_still l.length l a w h
  rw [List.take_length, List.drop_length] at hst
  simp only [Region.lexB, Bool.and_eq_true] at hB
  have := wpAnyS_lex (md := .any) hB.1 l 0 (Array.replicate l.toArray.size false) a (by simp) (by simpa using hB.2) hst
  exact wpAny_of_still (Q := fun a' => Q .normal a' w) (fun _ h => h) _ _ _ this
/-- .. within a round. -/
theorem Ref.regionDR {σ τ : Type} {rd : Option Nat} {P : Program} {n : Nat} {A B : σ → Env → World → Prop} {X : Nat → σ → Env → World → Prop} {R : τ → Env → World → Prop} {id : Nat} {l : List Oper} {r : σ → Option σ} (m : Nat) (hnd : (l.all fun o => !isDefer o) = true) (hmx : P.follows .mixedOrders = true) (hB : Region.lexTailB .any l.toArray m = true)
    (hA : ∀ s ρ w, A s ρ w → A s ρ w.drew) (h : ∀ s ρ w s', A s ρ w → r s = some s' → OL P l.toArray (fun ρ' w' => B s' ρ' w') n m l ρ w) : RefG rd P n (.region id l.toArray true) A (regM r) B X R := by
  intro dl dp s ρ w a hA' hF o hm
  unfold regM at hm
  cases hr : r s with
  | none => rw [hr] at hm; cases hm
  | some s' =>
    rw [hr] at hm
    cases Option.some.inj hm
    refine wpIn_region_any hmx (anyIn_of_any (by rintro ⟨a, w, ρ', hF', h⟩; exact h.elim) (fun i o ho => ?_) _ _ _ _ (any_of_tail m hB (h s ρ w.drew s' (hA s ρ w hA') hr dl a hF _ (fun ρ' w' a' hB hF' => ⟨ρ', hF', hB⟩))))
    have := List.all_eq_true.1 hnd o (List.mem_of_getElem? (by simpa using ho))
    simpa using this
theorem Ref.regionSR {σ τ : Type} {rd : Option Nat} {P : Program} {n : Nat} {A B : σ → Env → World → Prop} {X : Nat → σ → Env → World → Prop} {R : τ → Env → World → Prop} {id : Nat} {l : List Oper} {r : σ → Option σ} (hnd : (l.all fun o => !isDefer o) = true) (hmx : P.follows .mixedOrders = true) (hB : Region.lexB .any l.toArray = true)
    (hA : ∀ s ρ w, A s ρ w → A s ρ w.drew) (h : ∀ s ρ w s', A s ρ w → r s = some s' → OL P l.toArray (fun ρ' w' => B s' ρ' w') n l.length l ρ w) : RefG rd P n (.region id l.toArray true) A (regM r) B X R := by
  intro dl dp s ρ w a hA' hF o hm
  unfold regM at hm
  cases hr : r s with
  | none => rw [hr] at hm; cases hm
  | some s' =>
    rw [hr] at hm
    cases Option.some.inj hm
    refine wpIn_region_any hmx (anyIn_of_any (by rintro ⟨a, w, ρ', hF', h⟩; exact h.elim) (fun i o ho => ?_) _ _ _ _ (any_of_reads hB (h s ρ w.drew s' (hA s ρ w hA') hr dl a hF _ (fun ρ' w' a' hB hF' => ⟨ρ', hF', hB⟩))))
    have := List.all_eq_true.1 hnd o (List.mem_of_getElem? (by simpa using ho))
    simpa using this

/-- .. within a round. -/
theorem Ref.regionHR {σ τ : Type} {rd : Option Nat} {P : Program} {n : Nat} {A B : σ → Env → World → Prop} {X : Nat → σ → Env → World → Prop} {R : τ → Env → World → Prop} {id : Nat} {l : List Oper} {r : σ → Option σ} (hnd : (l.all fun o => !isDefer o) = true) (hmx : P.follows .mixedOrders = true)
    (hA : ∀ s ρ w, A s ρ w → A s ρ w.drew) (h : ∀ s ρ w s', A s ρ w → r s = some s' → ∃ S, OH P l.toArray (fun ρ' w' => B s' ρ' w') S n l.toArray.size (Array.replicate l.toArray.size false) ρ w) : RefG rd P n (.region id l.toArray true) A (regM r) B X R := by
  intro dl dp s ρ w a hA' hF o hm
  unfold regM at hm
  cases hr : r s with
  | none => rw [hr] at hm; cases hm
  | some s' =>
    rw [hr] at hm
    cases Option.some.inj hm
    obtain ⟨S, hS⟩ := h s ρ w.drew s' (hA s ρ w hA') hr
    refine wpIn_region_any hmx (anyIn_of_any (by rintro ⟨a, w, ρ', hF', h⟩; exact h.elim) (fun i o ho => ?_) _ _ _ _ (wpAny_of_held (S := S) _ _ _ _ (hS dl a hF _ (fun ρ' w' a' hB hF' => ⟨ρ', hF', hB⟩) (by rintro c a' w' ⟨ρ', _, h⟩; exact h))))
    have := List.all_eq_true.1 hnd o (List.mem_of_getElem? (by simpa using ho))
    simpa using this

section
variable {P : Program} {ops : Array Oper} {Q : Env → World → Prop} {S : World → Prop} {n fuel : Nat} {listed : Array Bool} {ρ : Env} {w : World}

/-- Number i is taken first: it reads alone. -/
theorem oh_v {d : Nat} {op : Op} {ty : TypeId} {pos : String} {after : Array Edge} {v : Value} (i : Nat) (hi : ops[i]? = some { dst := some d, op := op, type := ty, pos := pos, after := after, guard := none })
    (hs : Region.noSelect ops = true) (hf : Region.free .any ops listed i = true) (hr : (Region.ready .any ops listed).contains i = true) (hS : S w) (hE : ∀ w', S w' → Ev P ρ w' op v) (hn : Nat.blt d n = true)
    (k : OH P ops Q S n fuel (listed.setIfInBounds i true) (upd ρ d v) w) : OH P ops Q S n (fuel + 1) listed ρ w := by
  intro dl a hF Q' hQ hp
  refine wpAnyH_take hi hs hf hr (fun c a' w' h => (hp _ _ _ h).elim) (.inl ⟨rfl, fun w' h' => by rw [hF.eval]; exact hE w' h' _ _ _ _ _⟩) hS ?_
  exact k dl _ (hF.put d v hn) Q' hQ hp

/-- Whichever of those that may come up comes up. -/
theorem oh_all (rs : List Nat) (hr : Region.ready .any ops listed = rs) (hne : rs.isEmpty = false) (h : OHs P ops Q S n fuel listed ρ w rs) : OH P ops Q S n (fuel + 1) listed ρ w := by
  intro dl a hF Q' hQ hp
  refine wpAnyH_all hr (by rintro rfl; simp at hne) ?_
  clear hr hne
  induction rs with
  | nil => intro i hi; cases hi
  | cons j js ih =>
    intro i hi
    rcases List.mem_cons.1 hi with rfl | hi
    · exact h.1 dl a hF Q' hQ hp
    · exact ih h.2 i hi

theorem oh1_e {d : Nat} {op : Op} {ty : TypeId} {pos : String} {after : Array Edge} {R : Value → World → Prop} {i : Nat} (hi : ops[i]? = some { dst := some d, op := op, type := ty, pos := pos, after := after, guard := none })
    (hE : Eff P ρ n w op R) (hn : Nat.blt d n = true) (k : ∀ v w', R v w' → S w' ∧ OH P ops Q S n fuel (listed.setIfInBounds i true) (upd ρ d v) w') : OH1 P ops Q S n fuel listed ρ w i := by
  intro dl a hF Q' hQ hp
  unfold wpOp
  simp only [hi]
  rw [if_pos (by rfl)]
  exact .inl (hE _ _ _ _ _ dl a hF _ Q' fun v w' hR => ⟨(k v w' hR).1, (k v w' hR).2 dl _ (hF.put d v hn) Q' hQ hp⟩)
theorem oh1_eN {op : Op} {ty : TypeId} {pos : String} {after : Array Edge} {R : Value → World → Prop} {i : Nat} (hi : ops[i]? = some { dst := none, op := op, type := ty, pos := pos, after := after, guard := none })
    (hE : Eff P ρ n w op R) (k : ∀ v w', R v w' → S w' ∧ OH P ops Q S n fuel (listed.setIfInBounds i true) ρ w') : OH1 P ops Q S n fuel listed ρ w i := by
  intro dl a hF Q' hQ hp
  unfold wpOp
  simp only [hi]
  rw [if_pos (by rfl)]
  exact .inl (hE _ _ _ _ _ dl a hF _ Q' fun v w' hR => ⟨(k v w' hR).1, (k v w' hR).2 dl _ (hF.put_none v) Q' hQ hp⟩)
/-- .. that reads alone, where the memory may have been written in the region. -/
theorem oh1_v {d : Nat} {op : Op} {ty : TypeId} {pos : String} {after : Array Edge} {v : Value} {i : Nat} (hi : ops[i]? = some { dst := some d, op := op, type := ty, pos := pos, after := after, guard := none })
    (hE : Ev P ρ w op v) (hn : Nat.blt d n = true) (k : S w ∧ OH P ops Q S n fuel (listed.setIfInBounds i true) (upd ρ d v) w) : OH1 P ops Q S n fuel listed ρ w i :=
  oh1_e hi hE.eff hn (by rintro v' w' ⟨rfl, rfl⟩; exact k)
theorem ite_T {c : Prop} [Decidable c] {γ : Type} {a b : Option γ} {x : γ} (hc : c) (h : (if c then a else b) = some x) : a = some x := by rw [if_pos hc] at h; exact h
theorem ite_N {c : Prop} [Decidable c] {γ : Type} {a b : Option γ} {x : γ} (hc : ¬ c) (h : (if c then a else b) = some x) : b = some x := by rw [if_neg hc] at h; exact h
/-- .. under a guard that holds, and one that does not. -/
theorem oh_vG {d : Nat} {op : Op} {ty : TypeId} {pos : String} {after : Array Edge} {v : Value} {j dj : Nat} {want : Bool} (i : Nat) (hi : ops[i]? = some { dst := some d, op := op, type := ty, pos := pos, after := after, guard := some (j, want) })
    (hs : Region.noSelect ops = true) (hf : Region.free .any ops listed i = true) (hr : (Region.ready .any ops listed).contains i = true) (hS : S w) (hj : (ops[j]?).bind (·.dst) = some dj) (hnj : Nat.blt dj n = true) (hb : ρ dj = .bool want) (hE : ∀ w', S w' → Ev P ρ w' op v) (hn : Nat.blt d n = true)
    (k : OH P ops Q S n fuel (listed.setIfInBounds i true) (upd ρ d v) w) : OH P ops Q S n (fuel + 1) listed ρ w := by
  intro dl a hF Q' hQ hp
  have hy := yielded_of hF hj hnj
  rw [hb] at hy
  refine wpAnyH_take hi hs hf hr (fun c a' w' h => (hp _ _ _ h).elim) (.inl ⟨by simp [Region.wanted, hy], fun w' h' => by rw [hF.eval]; exact hE w' h' _ _ _ _ _⟩) hS ?_
  exact k dl _ (hF.put d v hn) Q' hQ hp
theorem oh_not {d : Nat} {op : Op} {ty : TypeId} {pos : String} {after : Array Edge} {j dj : Nat} {want b : Bool} (i : Nat) (hi : ops[i]? = some { dst := some d, op := op, type := ty, pos := pos, after := after, guard := some (j, want) })
    (hs : Region.noSelect ops = true) (hf : Region.free .any ops listed i = true) (hr : (Region.ready .any ops listed).contains i = true) (hS : S w) (hj : (ops[j]?).bind (·.dst) = some dj) (hnj : Nat.blt dj n = true) (hb : ρ dj = .bool b) (hne : (b == want) = false) (hn : Nat.blt d n = true)
    (k : OH P ops Q S n fuel (listed.setIfInBounds i true) (upd ρ d undef) w) : OH P ops Q S n (fuel + 1) listed ρ w := by
  intro dl a hF Q' hQ hp
  have hy := yielded_of hF hj hnj
  rw [hb] at hy
  refine wpAnyH_take hi hs hf hr (fun c a' w' h => (hp _ _ _ h).elim) (.inr ⟨by simp only [Region.wanted, hy]; cases b <;> cases want <;> simp_all, rfl⟩) hS ?_
  exact k dl _ (hF.put d undef hn) Q' hQ hp
theorem oh_notU {d : Nat} {op : Op} {ty : TypeId} {pos : String} {after : Array Edge} {j dj : Nat} {want : Bool} (i : Nat) (hi : ops[i]? = some { dst := some d, op := op, type := ty, pos := pos, after := after, guard := some (j, want) })
    (hs : Region.noSelect ops = true) (hf : Region.free .any ops listed i = true) (hr : (Region.ready .any ops listed).contains i = true) (hS : S w) (hj : (ops[j]?).bind (·.dst) = some dj) (hnj : Nat.blt dj n = true) (hb : ρ dj = undef) (hn : Nat.blt d n = true)
    (k : OH P ops Q S n fuel (listed.setIfInBounds i true) (upd ρ d undef) w) : OH P ops Q S n (fuel + 1) listed ρ w := by
  intro dl a hF Q' hQ hp
  have hy := yielded_of hF hj hnj
  rw [hb] at hy
  refine wpAnyH_take hi hs hf hr (fun c a' w' h => (hp _ _ _ h).elim) (.inr ⟨by simp [Region.wanted, hy, undef], rfl⟩) hS ?_
  exact k dl _ (hF.put d undef hn) Q' hQ hp
theorem oh1_eG {d : Nat} {op : Op} {ty : TypeId} {pos : String} {after : Array Edge} {R : Value → World → Prop} {i j dj : Nat} {want : Bool} (hi : ops[i]? = some { dst := some d, op := op, type := ty, pos := pos, after := after, guard := some (j, want) })
    (hj : (ops[j]?).bind (·.dst) = some dj) (hnj : Nat.blt dj n = true) (hb : ρ dj = .bool want) (hE : Eff P ρ n w op R) (hn : Nat.blt d n = true) (k : ∀ v w', R v w' → S w' ∧ OH P ops Q S n fuel (listed.setIfInBounds i true) (upd ρ d v) w') : OH1 P ops Q S n fuel listed ρ w i := by
  intro dl a hF Q' hQ hp
  have hy := yielded_of hF hj hnj
  rw [hb] at hy
  unfold wpOp
  simp only [hi]
  rw [if_pos (by simp [Region.wanted, hy])]
  exact .inl (hE _ _ _ _ _ dl a hF _ Q' fun v w' hR => ⟨(k v w' hR).1, (k v w' hR).2 dl _ (hF.put d v hn) Q' hQ hp⟩)
theorem oh1_vG {d : Nat} {op : Op} {ty : TypeId} {pos : String} {after : Array Edge} {v : Value} {i j dj : Nat} {want : Bool} (hi : ops[i]? = some { dst := some d, op := op, type := ty, pos := pos, after := after, guard := some (j, want) })
    (hj : (ops[j]?).bind (·.dst) = some dj) (hnj : Nat.blt dj n = true) (hb : ρ dj = .bool want) (hE : Ev P ρ w op v) (hn : Nat.blt d n = true) (k : S w ∧ OH P ops Q S n fuel (listed.setIfInBounds i true) (upd ρ d v) w) : OH1 P ops Q S n fuel listed ρ w i :=
  oh1_eG hi hj hnj hb hE.eff hn (by rintro v' w' ⟨rfl, rfl⟩; exact k)
/-- All have come up. -/
theorem oh_done (hr : Region.ready .any ops listed = []) (h : Q ρ w) : OH P ops Q S n fuel listed ρ w :=
  fun dl a hF Q' hQ hp => wpAnyH_done hr (hQ _ _ _ h hF) fuel
end

theorem Apart.eqL {v v' : Value} {b : Option Nat} (e : v' = v) (h : Apart v.ownBlock b) : Apart v'.ownBlock b := e ▸ h
theorem Apart.eqR {v v' : Value} {b : Option Nat} (e : v' = v) (h : Apart b v.ownBlock) : Apart b v'.ownBlock := e ▸ h
/-- Shifts. -/
def shlV (i : IntKind) (a b : Int) : Int := i.wrap (a * 2 ^ (min b.toNat i.bits))
def shrV (i : IntKind) (a b : Int) : Int := a.fdiv (2 ^ (min b.toNat i.bits))
section
variable {P : Program} {ρ : Env} {w : World}
theorem e_shlV {x y : Operand} {tx tY : TypeId} {i j : IntKind} {a b : Int} (hx : ev ρ x = .int i a) (hy : ev ρ y = .int j b) (hc : (0 : Int) ≤ b) : Ev P ρ w (.binOp .shl tx x y tY) (.int i (shlV i a b)) :=
  e_shl hx hy (by rw [if_neg (by omega)])
theorem e_shrV {x y : Operand} {tx tY : TypeId} {i j : IntKind} {a b : Int} (hx : ev ρ x = .int i a) (hy : ev ρ y = .int j b) (hc : (0 : Int) ≤ b) : Ev P ρ w (.binOp .shr tx x y tY) (.int i (shrV i a b)) :=
  e_shr hx hy (by rw [if_neg (by omega)])
end
/-- A part of a struct that is held as a value. -/
def fieldTy (P : Program) (s f : Nat) : Option (TypeId × Nat) := match P.underlying s with | some (.struct fs) => (fs[f]?).map fun fd => (fd.type, fd.offset) | _ => none
section
variable {P : Program} {ρ : Env} {w : World} {α β : Type} {k : Kd α} {l : Kd β}
theorem e_field {x : Operand} {s f off : Nat} {t : TypeId} {p : α → β} {F : BSet} {v : Value} {y : α} (hf : fieldTy P s f = some (t, off)) (ht : TyOk P t l) (hfl : Fld k off l p) (hk : k.agg = true) (hv : Val k F w v y) (hx : ev ρ x = v) :
    ∃ u, Ev P ρ w (.field s x f) u ∧ Val l F w u (p y) := by
  obtain ⟨cs, hr, rfl⟩ := hv
  rw [hk] at hx
  have hx : ev ρ x = .agg cs.toArray := hx
  unfold fieldTy at hf
  cases hu : P.underlying s with
  | none => rw [hu] at hf; cases hf
  | some d =>
    rw [hu] at hf
    cases d <;> simp only [reduceCtorEq] at hf
    rename_i fs
    cases hd : fs[f]? with
    | none => rw [hd] at hf; cases hf
    | some fd =>
      rw [hd] at hf
      simp only [Option.map_some, Option.some.injEq, Prod.mk.injEq] at hf
      obtain ⟨rfl, rfl⟩ := hf
      have hl := hfl.2 hr
      refine ⟨_, ?_, _, hl, rfl⟩
      have hA := ht.run_isAgg w
      have hS := ht.run_sizeOf w
      intro d ty pos after g
      have hpart : (part fd.type cs.toArray fd.offset).run P w = .ok (pack l.agg ((cs.drop fd.offset).take l.sz)) w := by
        unfold part
        rw [Sem.run_bind, hA, Result.andThen_ok]
        cases hg : l.agg with
        | true =>
          rw [if_pos rfl, Sem.run_bind, hS, Result.andThen_ok]
          simp [pack]
        | false =>
          rw [if_neg (by simp)]
          have h1 := l.atom hg
          have hlen := l.len hl
          rw [h1] at hlen ⊢
          have : ∃ c, cs[fd.offset]? = some c ∧ (cs.drop fd.offset).take 1 = [c] := by
            match hq : (cs.drop fd.offset).take 1, hlen with
            | [c], _ =>
              refine ⟨c, ?_, rfl⟩
              have h0 : ((cs.drop fd.offset).take 1)[0]? = some c := by rw [hq]; rfl
              rw [List.getElem?_take, if_pos (by decide), List.getElem?_drop] at h0
              exact h0
          obtain ⟨c, hc, e⟩ := this
          rw [e]
          have : cs.toArray[fd.offset]? = some c := by simpa using hc
          rw [this]; rfl
      simp [execOp, hx, Instr.field, run_underlying hu, hd, asAgg, hpart]
theorem e_field_int {ik : IntKind} {x : Operand} {s f off : Nat} {t : TypeId} {p : α → Int} {F : BSet} {v : Value} {y : α} (hf : fieldTy P s f = some (t, off)) (ht : TyOk P t (kInt ik)) (hfl : Fld k off (kInt ik) p) (hk : k.agg = true) (hv : Val k F w v y) (hx : ev ρ x = v) : Ev P ρ w (.field s x f) (.int ik (p y)) := by
  obtain ⟨u, hu, cs, rfl, rfl⟩ := e_field hf ht hfl hk hv hx; exact hu
theorem e_field_bool {x : Operand} {s f off : Nat} {t : TypeId} {p : α → Bool} {F : BSet} {v : Value} {y : α} (hf : fieldTy P s f = some (t, off)) (ht : TyOk P t kBool) (hfl : Fld k off kBool p) (hk : k.agg = true) (hv : Val k F w v y) (hx : ev ρ x = v) : Ev P ρ w (.field s x f) (.bool (p y)) := by
  obtain ⟨u, hu, cs, rfl, rfl⟩ := e_field hf ht hfl hk hv hx; exact hu
theorem e_field_byte {x : Operand} {s f off : Nat} {t : TypeId} {p : α → UInt8} {F : BSet} {v : Value} {y : α} (hf : fieldTy P s f = some (t, off)) (ht : TyOk P t kByte) (hfl : Fld k off kByte p) (hk : k.agg = true) (hv : Val k F w v y) (hx : ev ρ x = v) : Ev P ρ w (.field s x f) (.int .u8 (p y).toNat) := by
  obtain ⟨u, hu, cs, rfl, rfl⟩ := e_field hf ht hfl hk hv hx; exact hu
theorem e_field_str {x : Operand} {s f off : Nat} {t : TypeId} {p : α → ByteArray} {F : BSet} {v : Value} {y : α} (hf : fieldTy P s f = some (t, off)) (ht : TyOk P t kStr) (hfl : Fld k off kStr p) (hk : k.agg = true) (hv : Val k F w v y) (hx : ev ρ x = v) : Ev P ρ w (.field s x f) (.string (p y)) := by
  obtain ⟨u, hu, cs, rfl, rfl⟩ := e_field hf ht hfl hk hv hx; exact hu
theorem e_field_sl {m : Kd β} {x : Operand} {s f off : Nat} {t : TypeId} {p : α → List β} {F : BSet} {v : Value} {y : α} (hf : fieldTy P s f = some (t, off)) (ht : TyOk P t (kSl m)) (hfl : Fld k off (kSl m) p) (hk : k.agg = true) (hv : Val k F w v y) (hx : ev ρ x = v) : ∃ u, Ev P ρ w (.field s x f) u ∧ SlR m F w u (p y) := by
  obtain ⟨u, hu, cs, ⟨z, rfl, hz⟩, rfl⟩ := e_field hf ht hfl hk hv hx; exact ⟨_, hu, hz⟩
theorem e_fieldU {s f off : Nat} {t : TypeId} {p : α → β} {F : BSet} {v : Value} {y : α} (hf : fieldTy P s f = some (t, off)) (ht : TyOk P t l) (hfl : Fld k off l p) (hk : k.agg = true) (hv : Val k F w v y) :
    ∃ u, (∀ (ρ : Env) (x : Operand), ev ρ x = v → Ev P ρ w (.field s x f) u) ∧ Val l F w u (p y) := by
  obtain ⟨u, hu, hv'⟩ := e_field (ρ := fun _ => undef) (x := .const v) hf ht hfl hk hv rfl
  refine ⟨u, fun ρ x hx d ty pos after g => ?_, hv'⟩
  have h := hu d ty pos after g
  simp only [execOp, hx] at h ⊢
  exact h
theorem e_fieldU_sl {m : Kd β} {s f off : Nat} {t : TypeId} {p : α → List β} {F : BSet} {v : Value} {y : α} (hf : fieldTy P s f = some (t, off)) (ht : TyOk P t (kSl m)) (hfl : Fld k off (kSl m) p) (hk : k.agg = true) (hv : Val k F w v y) :
    ∃ u, (∀ (ρ : Env) (x : Operand), ev ρ x = v → Ev P ρ w (.field s x f) u) ∧ SlR m F w u (p y) := by
  obtain ⟨u, hu, cs, ⟨z, rfl, hz⟩, rfl⟩ := e_fieldU hf ht hfl hk hv; exact ⟨_, hu, hz⟩
end
/-- Where the rest comes in the text's order, and reads alone. -/
theorem anyH_seq {P : Program} {ops : Array Oper} {S : World → Prop} {Q : Exit → Act → World → Prop} {w : World} (hS : S w) : ∀ (l : List Oper) (k : Nat) (listed : Array Bool) (a : Act), (∀ j, l[j]? = ops[k + j]?) → Region.seqB .any ops l.length k listed = true → hl P ops Q l.length l a w → wpAnyH P .any ops Q S l.length listed a w
  | [], _, _, _, _, hB, h => ⟨by simpa [Region.seqB] using hB, h⟩
  | o :: l, k, listed, a, hl', hB, h => by
    have h0 : ops[k]? = some o := by simpa using (hl' 0).symm
    simp only [List.length_cons, Region.seqB, Bool.and_eq_true, decide_eq_true_eq] at hB
    refine ⟨fun h1 => (by rw [hB.1] at h1; cases h1), fun i hi => ?_⟩
    rw [hB.1] at hi
    have hik : i = k := by simpa using hi
    subst hik
    have ih := fun a' => anyH_seq (P := P) (Q := Q) hS l (i + 1) (listed.setIfInBounds i true) a' (fun j => by have := hl' (j + 1); simpa [Nat.add_assoc, Nat.add_comm 1 j] using this) hB.2
    unfold wpOp
    simp only [h0]
    simp only [List.length_cons, hl] at h
    split
    · rename_i hw
      rw [if_pos hw] at h
      exact .inl (Oper.wp_of_still (fun a' h' => ⟨hS, ih a' h'⟩) h)
    · rename_i hw
      rw [if_neg hw] at h
      exact ⟨hS, ih _ h⟩
theorem oh_seq {P : Program} {ops l : List Oper} {Q : Env → World → Prop} {S : World → Prop} {n fuel : Nat} {listed : Array Bool} {ρ : Env} {w : World} (k : Nat) (hl' : ops.drop k = l) (hfu : l.length = fuel) (hS : S w) (hB : Region.seqB .any ops.toArray l.length k listed = true) (h : OL P ops.toArray Q n l.length l ρ w) : OH P ops.toArray Q S n fuel listed ρ w := by
  intro dl a hF Q' hQ hp
  subst hfu
  refine anyH_seq hS l k listed a (fun j => ?_) hB (h dl a hF Q' hQ)
  subst hl'
  simp [List.getElem?_drop]
/-! ### function values -/
section
variable {α β : Type} {P : Program} {F F' : BSet} {w w' : World} {ρ : Env} {n : Nat}
def ra1 (k : Kd α) (F : BSet) (w : World) (vs : List Value) (x : α) : Prop := ∃ v, vs = [v] ∧ Val k F w v x
def ra2 (k : Kd α) (l : Kd β) (F : BSet) (w : World) (vs : List Value) (x : α × β) : Prop := ∃ v u, vs = [v, u] ∧ Val k F w v x.1 ∧ Val l F w u x.2
/-- The value v is a function that answers as g does, and changes nothing that was there. -/
def FnV (P : Program) (ra : BSet → World → List Value → α → Prop) (enc : β → Value) (F : BSet) (w : World) (v : Value) (g : α → Option β) : Prop :=
  ∃ fn lb, v = .func (.func fn) #[] lb ∧ FnOk P fn ∧ ∀ F' W, Stp F w F' W → (∀ b, F' b → b < W.heap.size) → ∀ vs x r, ra F' W vs x → g x = some r →
    Calls P fn (vs.toArray ++ lb) W fun e W' => ∃ v, e = .returned v ∧ v = enc r ∧ ∃ F'', Wk nrow W F' F'' W'
theorem FnV.keep {ra : BSet → World → List Value → α → Prop} {enc : β → Value} {v : Value} {g : α → Option β} (h : FnV P ra enc F w v g) (s : Stp F w F' w') : FnV P ra enc F' w' v g :=
  let ⟨fn, lb, e, hf, h⟩ := h; ⟨fn, lb, e, hf, fun F2 W hs => h F2 W (s.trans hs)⟩
def kFn (P : Program) (ra : BSet → World → List Value → α → Prop) (enc : β → Value) : Kd (α → Option β) where
  sz := 1
  agg := false
  rep F w g cs := ∃ v, cs = [v] ∧ FnV P ra enc F w v g
  len h := by obtain ⟨v, rfl, _⟩ := h; rfl
  one h := by
    obtain ⟨v, rfl, fn, lb, rfl, _⟩ := h
    simp [Value.oneCell']
  keep s h := let ⟨v, e, hv⟩ := h; ⟨v, e, hv.keep s⟩
  atom _ := rfl
theorem val_fn {ra : BSet → World → List Value → α → Prop} {enc : β → Value} {v : Value} {g : α → Option β} (h : FnV P ra enc F w v g) : Val (kFn P ra enc) F w v g := ⟨[v], ⟨v, rfl, h⟩, rfl⟩
theorem FnV.of_val {ra : BSet → World → List Value → α → Prop} {enc : β → Value} {v : Value} {g : α → Option β} (h : Val (kFn P ra enc) F w v g) : FnV P ra enc F w v g := by
  obtain ⟨cs, ⟨v', rfl, h⟩, rfl⟩ := h; exact h
/-- A call through a value. -/
theorem f_callV {ra : BSet → World → List Value → α → Prop} {enc : β → Value} {v : Value} {g : α → Option β} {c : Operand} {args : List Operand} {tys : Array TypeId} {x : α} {r : β} (vs : List Value) (h : Val (kFn P ra enc) F w v g) (ok : ∀ b, F b → b < w.heap.size)
    (hc : ev ρ c = v) (hv : args.map (ev ρ) = vs) (hra : ra F w vs x) (hg : g x = some r) :
    Eff P ρ n w (.call { callee := .value c, args := args.toArray, argTypes := tys }) (fun v' w' => v' = enc r ∧ Wk nrow w F F w') := by
  obtain ⟨fn, lb, rfl, hf, h⟩ := FnV.of_val h
  obtain ⟨f, hf, hname, hbody⟩ := hf.ok
  intro d ty pos after gd dl a hF K Q' hK
  unfold Oper.wp
  rw [hF.eval]
  have hr : (execOp (ev ρ) { dst := d, op := .call { callee := .value c, args := args.toArray, argTypes := tys }, type := ty, pos := pos, after := after, guard := gd }).run P w = .ok (.enter fn (vs.toArray ++ lb)) w := by
    have h0 : args.toArray.map (ev ρ) = vs.toArray := by simp [hv]
    have h2 : (callFunc fn (vs.toArray ++ lb)).run P w = .ok (.enter fn (vs.toArray ++ lb)) w := by
      rw [callFunc, Sem.run_bind, run_program, Result.andThen_ok]
      simp only [hf, hname, hbody, Bool.false_eq_true, if_false]
      rfl
    simp only [execOp, resolve, hc, h0]
    simp [invoke, go_sem, h2]
  rw [hr, Oper.upon_enter]
  refine (h F w (Stp.refl F w) ok vs x r hra hg).mono ?_
  rintro e w' ⟨v, rfl, hv, F'', hk⟩
  exact hK _ _ ⟨hv, hk.lend ok⟩
/-- The block of a variable is as it was. -/
theorem Box.hpW {k : Kd α} {e g : Nat} {B F F' : BSet} {w w' : World} {x : α} {r : BSet} (h : Box k e B F w g x) (hap : ApS r (some g)) (s : Wk r w F F' w') : w'.heap[g]? = w.heap[g]? := s.block g h.lt (fun e => hap g e rfl)
theorem Box.hpw {k : Kd α} {e g : Nat} {B F F' : BSet} {w w' : World} {x : α} (h : Box k e B F w g x) (s : Wk nrow w F F' w') : w'.heap[g]? = w.heap[g]? := h.hpW (fun _ h => h.elim) s
theorem Box.hpm {k : Kd α} {e g : Nat} {B F : BSet} {w w' : World} {x : α} {r : Option Nat} (h : Box k e B F w g x) (hap : Apart r (some g)) (hg : w.grownBy w' r) : w'.heap[g]? = w.heap[g]? := hg.block g h.lt (fun e => hap g e.symm rfl)
theorem Box.lent {k : Kd α} {e g : Nat} {B : BSet} {x : α} (h : Box k e B F w g x) (ok : ∀ b, F b → b < w.heap.size) : ∃ F', (∀ b, F' b → b < w.heap.size) ∧ Stp F w F' w ∧ (∀ b, F' b → F b ∨ some g = some b) ∧ Lies k F' w g 0 x := by
  have hlt := h.lt
  obtain ⟨cs, hr, hc⟩ := h.at_
  refine ⟨fadd F g, fun b hb => ?_, Stp.fadd F w g, fun b hb => ?_, .inr rfl, cs, k.keep (Stp.fadd F w g) hr, hc⟩
  · rcases hb with hb | rfl
    · exact ok b hb
    · exact hlt
  · rcases hb with hb | rfl
    · exact .inl hb
    · exact .inr rfl
/-! ### an argument that is taken -/
/-- What comes back lies in the argument's block, or is new. -/
theorem Apart.took {a b c : Option Nat} {g0 : Nat} (h : ∀ g, a = some g → g0 ≤ g ∨ b = some g) (hb : Apart b c) (hc : ∀ g, c = some g → g < g0) : Apart a c := by
  intro g hg hcg
  rcases h g hg with h | h
  · exact absurd (hc g hcg) (by omega)
  · exact hb g h hcg
theorem ob_of {o : Option Nat} {g : Nat} (h : ob o g) : o = some g := h
theorem OwnV.plainB {k : Kd α} (hk : Plain k) {e : TypeId} {v : Value} {xs : List α} {B : BSet} (h : OwnV k e B F' w v xs) (hF : ∀ b, F b → F' b) : OwnV k e B F w v xs := by
  rcases h with h | ⟨g, o, cap, cur, cs, rfl, hB, hF', hh, ⟨hc, hcm⟩, hs, hcat, ht⟩
  · exact .inl h
  · exact .inr ⟨g, o, cap, cur, cs, rfl, hB, fun hF2 => hF' (hF g hF2), hh, ⟨hc, hcm⟩, hs, hcat.plain hk, ht⟩
/-- The first part of a row of the call's own. -/
theorem OwnV.cutTo {k : Kd α} {e : TypeId} {B : BSet} {A : Option Addr} {c : Nat} {xs ys : List α} {hi : Int} (h : OwnV k e B F w (.slice A xs.length c) xs) (hy : cutTo xs hi = some ys) :
    OwnV k e B F w (sliced A 0 hi.toNat c k.sz) ys ∧ ∀ g, (sliced A 0 hi.toNat c k.sz).ownBlock = some g → (Value.slice A xs.length c).ownBlock = some g := by
  obtain ⟨h0, h1, rfl⟩ := cutTo_some hy
  have hlen : (xs.take hi.toNat).length = hi.toNat := by rw [List.length_take]; omega
  rcases h with ⟨e1, rfl⟩ | ⟨g, o, cap, cur, cs, e1, hB, hF', hh, ⟨hc, hcm⟩, hs, hcat, ht⟩
  · simp only [Value.slice.injEq] at e1
    obtain ⟨rfl, _, rfl⟩ := e1
    have : hi.toNat = 0 := by simp at h1; omega
    refine ⟨.inl ⟨?_, by simp⟩, ?_⟩
    · simp [sliced, this]
    · intro g hg; simp [sliced, Value.ownBlock] at hg
  · simp only [Value.slice.injEq] at e1
    obtain ⟨rfl, _, rfl⟩ := e1
    have hsl : sliced (some ⟨g, o, none⟩) 0 hi.toNat c k.sz = .slice (some ⟨g, o, none⟩) hi.toNat c := by
      unfold sliced
      simp [addr_add]
    rw [hsl]
    refine ⟨.inr ⟨g, o, c, cur, cs.take (hi.toNat * k.sz), by rw [hlen], hB, hF', hh, ⟨by rw [hlen]; omega, hcm⟩, hs, (Cat.cut trivial _ hcat).1, ?_⟩, fun g' hg' => hg'⟩
    have hcl := hcat.len
    have hle : hi.toNat * k.sz ≤ cs.length := by rw [hcl]; exact Nat.mul_le_mul_right _ (by omega)
    rw [List.length_take, Nat.min_eq_left hle]
    conv => rhs; rw [← ht]
    rw [List.take_take, Nat.min_eq_left hle]
theorem OwnV.cutFrom {k : Kd α} {e : TypeId} {B : BSet} {A : Option Addr} {c : Nat} {xs ys : List α} {lo : Int} (h : OwnV k e B F w (.slice A xs.length c) xs) (hy : cutFrom xs lo = some ys) :
    OwnV k e B F w (sliced A lo.toNat xs.length c k.sz) ys ∧ ∀ g, (sliced A lo.toNat xs.length c k.sz).ownBlock = some g → (Value.slice A xs.length c).ownBlock = some g := by
  obtain ⟨h0, h1, rfl⟩ := cutFrom_some hy
  have hlen : (xs.drop lo.toNat).length = xs.length - lo.toNat := List.length_drop
  rcases h with ⟨e1, rfl⟩ | ⟨g, o, cap, cur, cs, e1, hB, hF', hh, ⟨hc, hcm⟩, hs, hcat, ht⟩
  · simp only [Value.slice.injEq] at e1
    obtain ⟨rfl, _, rfl⟩ := e1
    have : lo.toNat = 0 := by simp at h1; omega
    refine ⟨.inl ⟨?_, by simp⟩, ?_⟩
    · simp [sliced, this]
    · intro g hg; simp [sliced, Value.ownBlock] at hg
  · simp only [Value.slice.injEq] at e1
    obtain ⟨rfl, _, rfl⟩ := e1
    have hcl := hcat.len
    by_cases hcl' : c = lo.toNat
    · have hd : xs.drop lo.toNat = [] := List.drop_eq_nil_of_le (by omega)
      have hsl : sliced (some ⟨g, o, none⟩) lo.toNat xs.length c k.sz = .slice (some ⟨g, o, none⟩) 0 0 := by
        unfold sliced
        rw [if_pos hcl', show xs.length - lo.toNat = 0 by omega, show c - lo.toNat = 0 by omega]
      rw [hsl, hd]
      exact ⟨.inr ⟨g, o, 0, cur, [], rfl, hB, hF', hh, ⟨Nat.le_refl _, by omega⟩, by have := Nat.zero_le (c * k.sz); omega, rfl, by simp⟩, fun g' hg' => hg'⟩
    · have hsl : sliced (some ⟨g, o, none⟩) lo.toNat xs.length c k.sz = .slice (some ⟨g, o + lo.toNat * k.sz, none⟩) (xs.length - lo.toNat) (c - lo.toNat) := by
        unfold sliced
        rw [if_neg hcl']
        simp [addr_add]
      rw [hsl]
      have hle : lo.toNat * k.sz ≤ cs.length := by rw [hcl]; exact Nat.mul_le_mul_right _ (by omega)
      refine ⟨.inr ⟨g, _, c - lo.toNat, cur, cs.drop (lo.toNat * k.sz), by rw [hlen], hB, hF', hh, ⟨by rw [hlen]; omega, by omega⟩, ?_, (Cat.cut trivial _ hcat).2, ?_⟩, fun g' hg' => hg'⟩
      · have hm : (c - lo.toNat) * k.sz + lo.toNat * k.sz = c * k.sz := by rw [← Nat.add_mul, Nat.sub_add_cancel (by omega)]
        omega
      · rw [List.length_drop]
        conv => rhs; rw [← ht]
        rw [List.drop_take, List.drop_drop]
end
section
variable {α : Type} {P : Program} {F F0 : BSet} {w w0 : World} {row : BSet} {ρ : Env} {n : Nat} {k : Kd α}
/-- From lo on, all is the zero. -/
def clearFrom (x0 : α) (xs : List α) (lo : Int) : List α := xs.take lo.toNat ++ List.replicate (xs.length - lo.toNat) x0
theorem zero_cat {z : Array Value} {x0 : α} (hz : ∀ F w, k.rep F w x0 z.toList) (hs : z.size = k.sz) (hp : 0 < k.sz) : ∀ m, Cat k F w (List.replicate m x0) (Builtin.zeroCells z m).toList
  | 0 => by simp [Builtin.zeroCells, Cat]
  | m + 1 => by
    have ih := zero_cat hz hs hp m
    have h2 := Cat.append (k := k) ih (ys := [x0]) (ds := z.toList) ⟨z.toList, [], by simp, hz F w, rfl⟩
    rw [show List.replicate m x0 ++ [x0] = List.replicate (m + 1) x0 by rw [List.replicate_succ']] at h2
    have e : (Builtin.zeroCells z (m + 1)).toList = (Builtin.zeroCells z m).toList ++ z.toList := by
      unfold Builtin.zeroCells
      simp only [Array.toList_map, Array.toList_range]
      rw [Nat.add_mul, Nat.one_mul, List.range_add, List.map_append]
      congr 1
      rw [List.map_map]
      apply List.ext_getElem (by simp)
      intro i h1 h2
      have hi : i < z.size := by simpa using h2
      simp [Nat.mod_eq_of_lt hi, hi]
    rw [e]; exact h2
theorem f_clear {x : Operand} {t e : TypeId} {bytes : Nat} {x0 : α} {A : Option Addr} {c : Nat} {xs ys : List α} {lo : Int} (T : SlT P t e k bytes x0) (hW : Wk row w0 F0 F w) (ho : OwnV k e (Bs w0 row) F w (.slice A xs.length c) xs) (hy : cutFrom xs lo = some ys)
    (hx : ev ρ x = sliced A lo.toNat xs.length c k.sz) :
    Eff P ρ n w (.call { callee := .builtin .clear, args := #[x], argTypes := #[t] }) (fun _ w' => Wk row w0 F0 F w' ∧ OwnV k e (Bs w0 row) F w' (.slice A xs.length c) (clearFrom x0 xs lo) ∧ w.grownBy w' (Value.slice A xs.length c).ownBlock ∧ Stp F w F w') := by
  obtain ⟨h0, h1, _⟩ := cutFrom_some hy
  have ht := T.under
  obtain ⟨inf, z, hi, hz, hsz, _, hzs, hrep⟩ := T.info
  have hzv : (zeroValue e).run P w = .ok z w := by simp [zeroValue, typeInfo, hi, hz]
  by_cases hl : lo.toNat = xs.length
  · have hcf : clearFrom x0 xs lo = xs := by unfold clearFrom; rw [hl]; simp
    refine Eff.of_run (v := .tuple #[]) (fun d ty pos after g => ?_) ⟨hW, by rw [hcf]; exact ho, ⟨rfl, rfl, rfl, Nat.le_refl _, fun _ _ _ => rfl⟩, Stp.refl F w⟩
    have hsl : sliced A lo.toNat xs.length c k.sz = .slice (if c = lo.toNat then A else A.map (·.add (lo.toNat * k.sz))) 0 (c - lo.toNat) := by unfold sliced; rw [hl, Nat.sub_self]
    rw [hsl] at hx
    generalize (if c = lo.toNat then A else A.map (·.add (lo.toNat * k.sz))) = A' at hx
    cases A' <;> simp [execOp, resolve, invoke, builtin, hx, Builtin.clear_, run_underlying ht]
  · rcases ho with ⟨e1, rfl⟩ | ⟨g, o, cap, cur, cs, e1, hB, hF', hh, ⟨hc, hcm⟩, hs, hcat, htk⟩
    · simp at h1 hl; omega
    · simp only [Value.slice.injEq] at e1
      obtain ⟨rfl, _, rfl⟩ := e1
      have hlt : lo.toNat < xs.length := by omega
      have hsl : sliced (some ⟨g, o, none⟩) lo.toNat xs.length c k.sz = .slice (some ⟨g, o + lo.toNat * k.sz, none⟩) (xs.length - lo.toNat) (c - lo.toNat) := by
        unfold sliced; rw [if_neg (by omega)]; simp [addr_add]
      rw [hsl] at hx
      obtain ⟨m, hm⟩ : ∃ m, xs.length - lo.toNat = m + 1 := ⟨xs.length - lo.toNat - 1, by omega⟩
      have hcl := hcat.len
      have hle : lo.toNat * k.sz ≤ cs.length := by rw [hcl]; exact Nat.mul_le_mul_right _ (by omega)
      have hzcat := zero_cat (F := F) (w := w) hrep hzs T.pos (m + 1)
      have hzl : (Builtin.zeroCells z.cells (m + 1)).toList.length = (m + 1) * k.sz := by rw [hzcat.len, List.length_replicate]
      have hmul : lo.toNat * k.sz + (m + 1) * k.sz = xs.length * k.sz := by rw [← Nat.add_mul]; congr 1; omega
      have hmul2 : xs.length * k.sz ≤ c * k.sz := Nat.mul_le_mul_right _ hc
      have hst := run_storeCells_at (P := P) g (o + lo.toNat * k.sz) e (Builtin.zeroCells z.cells (m + 1)).toList 0 cur w hh (by rw [hzl]; omega) hzcat.one
      have hgr : w.grownBy (w.setRow g (cur.toList.take (o + lo.toNat * k.sz + 0) ++ (Builtin.zeroCells z.cells (m + 1)).toList ++ cur.toList.drop (o + lo.toNat * k.sz + 0 + (Builtin.zeroCells z.cells (m + 1)).toList.length)).toArray) (some g) :=
        ⟨rfl, rfl, rfl, by simp, fun j _ hj => setRow_other w g j _ (fun e => hj (by rw [e]))⟩
      have hst2 := Stp.mut hW.ok hgr (fun g0 e => by cases e; exact hF')
      refine Eff.of_run (v := .tuple #[]) (fun d ty pos after g => ?_) ⟨hW.mut hgr (fun g0 e => by cases e; exact hB), ?_, hgr, hst2⟩
      · rw [hm] at hx
        simp [execOp, resolve, invoke, builtin, hx, Builtin.clear_, run_underlying ht, hzv, hst]
      · have hlen : (clearFrom x0 xs lo).length = xs.length := by unfold clearFrom; simp; omega
        have hcat2 : Cat k F w (clearFrom x0 xs lo) (cs.take (lo.toNat * k.sz) ++ (Builtin.zeroCells z.cells (m + 1)).toList) := by
          unfold clearFrom; rw [hm]; exact (Cat.cut trivial _ hcat).1.append hzcat
        refine .inr ⟨g, o, c, _, _, by rw [hlen], hB, hF', setRow_heap w g cur _ e _ hh, ⟨by rw [hlen]; exact hc, hcm⟩, ?_, hcat2.keep hst2, ?_⟩
        · simp only [List.size_toArray, List.length_append, List.length_take, List.length_drop, Array.length_toList, hzl]
          omega
        · have hcurlen : cur.toList.length = cur.size := Array.length_toList
          have hl1 : (cs.take (lo.toNat * k.sz) ++ (Builtin.zeroCells z.cells (m + 1)).toList).length = xs.length * k.sz := by
            rw [List.length_append, List.length_take, Nat.min_eq_left hle, hzl, hmul]
          rw [hl1]
          have e2 : cs.take (lo.toNat * k.sz) = (cur.toList.drop o).take (lo.toNat * k.sz) := by
            conv => lhs; rw [← htk]
            rw [List.take_take, Nat.min_eq_left hle]
          have hA : (cur.toList.take (o + lo.toNat * k.sz + 0)).drop o = (cur.toList.drop o).take (lo.toNat * k.sz) := by
            rw [Nat.add_zero, List.drop_take, Nat.add_sub_cancel_left]
          have hAl : ((cur.toList.drop o).take (lo.toNat * k.sz)).length = lo.toNat * k.sz := by
            rw [List.length_take, List.length_drop]; omega
          rw [List.append_assoc, List.drop_append_of_le_length (by rw [List.length_take]; omega), hA, e2, ← List.append_assoc]
          rw [List.take_append_of_le_length (by rw [List.length_append, hAl, hzl, hmul]; exact Nat.le_refl _)]
          rw [List.take_of_length_le (by rw [List.length_append, hAl, hzl, hmul]; exact Nat.le_refl _)]
end
end Go.Fx
