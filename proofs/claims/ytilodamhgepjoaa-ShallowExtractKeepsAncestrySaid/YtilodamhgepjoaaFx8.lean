/- Regions that draw their order, where writes stand among reads: every order is walked. -/
import Derived.Test.YtilodamhgepjoaaFx7
namespace Go.Fx
open Go.RowKit
set_option linter.unusedVariables false

theorem Stp.back {F F' : BSet} {w w' : World} (h : Stp F w F' w') : Stp F w F w' := ⟨h.keep, fun _ h => h⟩

/-- The operations that are left (listed: which have come up), whatever order is drawn. -/
def OH (P : Program) (ops : Array Oper) (Q : Env → World → Prop) (S : World → Prop) (n fuel : Nat) (listed : Array Bool) (ρ : Env) (w : World) : Prop :=
  ∀ dl a, Fr dl n a ρ → ∀ Q' : Exit → Act → World → Prop, (∀ ρ' w' a', Q ρ' w' → Fr dl n a' ρ' → Q' .normal a' w') → (∀ c a' w', ¬ Q' (.panic c) a' w') → wpAnyH P .any ops Q' S fuel listed a w
/-- One operation comes up. -/
def OH1 (P : Program) (ops : Array Oper) (Q : Env → World → Prop) (S : World → Prop) (n fuel : Nat) (listed : Array Bool) (ρ : Env) (w : World) (i : Nat) : Prop :=
  ∀ dl a, Fr dl n a ρ → ∀ Q' : Exit → Act → World → Prop, (∀ ρ' w' a', Q ρ' w' → Fr dl n a' ρ' → Q' .normal a' w') → (∀ c a' w', ¬ Q' (.panic c) a' w') →
    wpOp P ops Q' i (fun a' w' => S w' ∧ wpAnyH P .any ops Q' S fuel (listed.setIfInBounds i true) a' w') a w
def OHs (P : Program) (ops : Array Oper) (Q : Env → World → Prop) (S : World → Prop) (n fuel : Nat) (listed : Array Bool) (ρ : Env) (w : World) : List Nat → Prop
  | [] => True
  | i :: is => OH1 P ops Q S n fuel listed ρ w i ∧ OHs P ops Q S n fuel listed ρ w is

/-- The region as a whole. -/
theorem Ref.regionH {σ τ : Type} {P : Program} {n : Nat} {A B : σ → Env → World → Prop} {X : Nat → σ → Env → World → Prop} {R : τ → Env → World → Prop} {id : Nat} {l : List Oper} {r : σ → Option σ} (hmx : P.follows .mixedOrders = true)
    (hA : ∀ s ρ w, A s ρ w → A s ρ w.drew) (h : ∀ s ρ w s', A s ρ w → r s = some s' → ∃ S, OH P l.toArray (fun ρ' w' => B s' ρ' w') S n l.toArray.size (Array.replicate l.toArray.size false) ρ w) : Ref P n (.region id l.toArray true) A (regM r) B X R := by
  intro dl dp s ρ w a hA' hF o hm
  unfold regM at hm
  cases hr : r s with
  | none => rw [hr] at hm; cases hm
  | some s' =>
    rw [hr] at hm
    cases Option.some.inj hm
    obtain ⟨S, hS⟩ := h s ρ w.drew s' (hA s ρ w hA') hr
    refine wpIn_wide.2 (wp_region_held (S := S) hmx ?_)
    exact hS dl a hF _ (fun ρ' w' a' hB hF' => ⟨ρ', hF', hB⟩) (by rintro c a' w' ⟨ρ', _, h⟩; exact h)

def isDefer (o : Oper) : Bool := match o.op with | .defer _ => true | _ => false
theorem opIn_of_op {rd : Option Nat} {dp : Nat} {P : Program} {o : Oper} {a : Act} {w : World} {K K' : Act → World → Prop} {Q : Exit → Act → World → Prop} (hQ : ¬ LetsOut Q) (hd : isDefer o = false) (hK : ∀ a w, K a w → K' a w)
    (h : o.wp P a w K Q ∨ (o.asks P a w ∧ LetsOut Q)) : o.wpIn (wd rd) dp P a w K' Q := by
  have h := h.resolve_right (fun x => hQ x.2)
  refine ⟨fun f _ => trivial, ?_⟩
  have hs : o.semAt (wd rd).round a.eval = execOp a.eval o := by
    cases rd with
    | none => simp only [Oper.semAt_none]
    | some r => exact Oper.semAt_some r _ _ (fun c e => by simp [isDefer, e] at hd)
  rw [hs]
  unfold Oper.wp at h
  generalize (execOp a.eval o).run P w = x at h ⊢
  cases x with
  | ok nx w' =>
    cases nx <;> simp only [Oper.upon] at h <;> simp only [Oper.uponIn] <;> try exact hK _ _ h
    · refine ⟨fun e => by simp [Fence.wide] at e, ?_⟩
      refine CallsIn.mono (show CallsIn (wd rd) (dp - 1) P _ _ _ _ from callsIn_wide.2 h) ?_
      intro e w2 he
      cases e with
      | returned v => exact hK _ _ he
      | panicked c => exact he
      | outgrown => exact he
    · refine ⟨fun e => by simp [Fence.wide] at e, ?_⟩
      exact fun c cs _ => let ⟨v, w2, hk, hs⟩ := h c cs; ⟨v, w2, hK _ _ hk, stepsIn_wide.2 hs⟩
  | halt hh w' => cases hh <;> simp only [Oper.upon] at h <;> simp only [Oper.uponIn] <;> exact h

theorem anyIn_of_any {rd : Option Nat} {dp : Nat} {P : Program} {md : Region.Mode} {ops : Array Oper} {Q : Exit → Act → World → Prop} (hQ : ¬ LetsOut Q) (hd : ∀ (i : Nat) (o : Oper), ops[i]? = some o → isDefer o = false) :
    ∀ (fuel : Nat) (listed : Array Bool) (a : Act) (w : World), wpAny P md ops Q fuel listed a w → wpAnyIn (wd rd) dp P md ops Q fuel listed a w
  | 0, listed, a, w, h => h
  | fuel + 1, listed, a, w, h => by
    refine ⟨h.1, fun i hi => ?_⟩
    have h1 := h.2 i hi
    have ih := anyIn_of_any (rd := rd) (dp := dp) (P := P) (md := md) hQ hd fuel (listed.setIfInBounds i true)
    unfold wpOp at h1
    unfold wpOpIn
    cases ho : ops[i]? with
    | none => rw [ho] at h1; exact ih _ _ h1
    | some o =>
      rw [ho] at h1
      dsimp only at h1 ⊢
      split
      · rename_i hw
        rw [if_pos hw] at h1
        exact opIn_of_op hQ (hd i o ho) ih h1
      · rename_i hw
        rw [if_neg hw] at h1
        exact ⟨fun f _ => trivial, ih _ _ h1⟩

/-- Reads first, then the rest in the text's order: so whatever order is drawn. -/
theorem any_of_tail {P : Program} {Q : Exit → Act → World → Prop} {l : List Oper} {a : Act} {w : World} (m : Nat) (hB : Region.lexTailB .any l.toArray m = true) (h : hl P l.toArray Q m l a w) :
    wpAny P .any l.toArray Q l.toArray.size (Array.replicate l.toArray.size false) a w := by
  have hst := hl_still m l a w h
  simp only [Region.lexTailB, Bool.and_eq_true, decide_eq_true_eq] at hB
  have hm : m < l.length := by simpa using hB.1.1.1.2
  have e1 : (l.take m).length = m := List.length_take_of_le (Nat.le_of_lt hm)
  have e2 : (l.drop m).length = l.length - m := List.length_drop
  have start : HeadInv .any l.toArray m (Array.replicate l.toArray.size false) :=
    { size := Array.size_replicate, closed := fun j oj _ hl => (by rw [getD_replicate_false] at hl; cases hl), tail := fun t _ ht => getD_in (by rw [Array.size_replicate]; exact ht) (getD_replicate_false _ _) }
  have head := wpAnyL_lex (md := .any) (w := w) (g := l.length - m) hB.1.1.1.1 hB.1.1.2 hB.1.2 hB.1.1.1.2 (l.take m) 0 _ a
    (fun j hj => by rw [e1] at hj; simp [hj]) (by rw [e1, Nat.zero_add]) start (by rw [e1]; simpa using hB.2) hst
  have whole := wpAny_of_head (Q' := Q) (g := l.length - m) (fun listed a' hL => by
    have hs := wpAny_of_seq (md := .any) (Q' := Q) (l.drop m) m listed a' w (fun j => by simp [List.getElem?_drop]) (by rw [e2]; exact hL.1) hL.2
    rw [e2] at hs; exact hs) _ _ _ head
  rw [e1, show m + (l.length - m) = l.toArray.size by simp; omega] at whole
  exact whole
theorem any_of_reads {P : Program} {Q : Exit → Act → World → Prop} {l : List Oper} {a : Act} {w : World} (hB : Region.lexB .any l.toArray = true) (h : hl P l.toArray Q l.length l a w) :
    wpAny P .any l.toArray Q l.toArray.size (Array.replicate l.toArray.size false) a w := by
  have hst := hl_still l.length l a w h
  rw [List.take_length, List.drop_length] at hst
  simp only [Region.lexB, Bool.and_eq_true] at hB
  have := wpAnyS_lex (md := .any) hB.1 l 0 (Array.replicate l.toArray.size false) a (by simp) (by simpa using hB.2) hst
  exact wpAny_of_still (Q := fun a' => Q .normal a' w) (fun _ h => h) _ _ _ this
/-- .. within a round. -/
theorem Ref.regionDR {σ τ : Type} {rd : Option Nat} {P : Program} {n : Nat} {A B : σ → Env → World → Prop} {X : Nat → σ → Env → World → Prop} {R : τ → Env → World → Prop} {id : Nat} {l : List Oper} {r : σ → Option σ} (m : Nat) (hnd : (l.all fun o => !isDefer o) = true) (hmx : P.follows .mixedOrders = true) (hB : Region.lexTailB .any l.toArray m = true)
    (hA : ∀ s ρ w, A s ρ w → A s ρ w.drew) (h : ∀ s ρ w s', A s ρ w → r s = some s' → OL P l.toArray (fun ρ' w' => B s' ρ' w') n m l ρ w) : RefG rd P n (.region id l.toArray true) A (regM r) B X R := by
  intro dl dp s ρ w a hA' hF o hm
  unfold regM at hm
  cases hr : r s with
  | none => rw [hr] at hm; cases hm
  | some s' =>
    rw [hr] at hm
    cases Option.some.inj hm
    refine wpIn_region_any hmx (anyIn_of_any (by rintro ⟨a, w, ρ', hF', h⟩; exact h.elim) (fun i o ho => ?_) _ _ _ _ (any_of_tail m hB (h s ρ w.drew s' (hA s ρ w hA') hr dl a hF _ (fun ρ' w' a' hB hF' => ⟨ρ', hF', hB⟩))))
    have := List.all_eq_true.1 hnd o (List.mem_of_getElem? (by simpa using ho))
    simpa using this
theorem Ref.regionSR {σ τ : Type} {rd : Option Nat} {P : Program} {n : Nat} {A B : σ → Env → World → Prop} {X : Nat → σ → Env → World → Prop} {R : τ → Env → World → Prop} {id : Nat} {l : List Oper} {r : σ → Option σ} (hnd : (l.all fun o => !isDefer o) = true) (hmx : P.follows .mixedOrders = true) (hB : Region.lexB .any l.toArray = true)
    (hA : ∀ s ρ w, A s ρ w → A s ρ w.drew) (h : ∀ s ρ w s', A s ρ w → r s = some s' → OL P l.toArray (fun ρ' w' => B s' ρ' w') n l.length l ρ w) : RefG rd P n (.region id l.toArray true) A (regM r) B X R := by
  intro dl dp s ρ w a hA' hF o hm
  unfold regM at hm
  cases hr : r s with
  | none => rw [hr] at hm; cases hm
  | some s' =>
    rw [hr] at hm
    cases Option.some.inj hm
    refine wpIn_region_any hmx (anyIn_of_any (by rintro ⟨a, w, ρ', hF', h⟩; exact h.elim) (fun i o ho => ?_) _ _ _ _ (any_of_reads hB (h s ρ w.drew s' (hA s ρ w hA') hr dl a hF _ (fun ρ' w' a' hB hF' => ⟨ρ', hF', hB⟩))))
    have := List.all_eq_true.1 hnd o (List.mem_of_getElem? (by simpa using ho))
    simpa using this

/-- .. within a round. -/
theorem Ref.regionHR {σ τ : Type} {rd : Option Nat} {P : Program} {n : Nat} {A B : σ → Env → World → Prop} {X : Nat → σ → Env → World → Prop} {R : τ → Env → World → Prop} {id : Nat} {l : List Oper} {r : σ → Option σ} (hnd : (l.all fun o => !isDefer o) = true) (hmx : P.follows .mixedOrders = true)
    (hA : ∀ s ρ w, A s ρ w → A s ρ w.drew) (h : ∀ s ρ w s', A s ρ w → r s = some s' → ∃ S, OH P l.toArray (fun ρ' w' => B s' ρ' w') S n l.toArray.size (Array.replicate l.toArray.size false) ρ w) : RefG rd P n (.region id l.toArray true) A (regM r) B X R := by
  intro dl dp s ρ w a hA' hF o hm
  unfold regM at hm
  cases hr : r s with
  | none => rw [hr] at hm; cases hm
  | some s' =>
    rw [hr] at hm
    cases Option.some.inj hm
    obtain ⟨S, hS⟩ := h s ρ w.drew s' (hA s ρ w hA') hr
    refine wpIn_region_any hmx (anyIn_of_any (by rintro ⟨a, w, ρ', hF', h⟩; exact h.elim) (fun i o ho => ?_) _ _ _ _ (wpAny_of_held (S := S) _ _ _ _ (hS dl a hF _ (fun ρ' w' a' hB hF' => ⟨ρ', hF', hB⟩) (by rintro c a' w' ⟨ρ', _, h⟩; exact h))))
    have := List.all_eq_true.1 hnd o (List.mem_of_getElem? (by simpa using ho))
    simpa using this

section
variable {P : Program} {ops : Array Oper} {Q : Env → World → Prop} {S : World → Prop} {n fuel : Nat} {listed : Array Bool} {ρ : Env} {w : World}

/-- Number i is taken first: it reads alone. -/
theorem oh_v {d : Nat} {op : Op} {ty : TypeId} {pos : String} {after : Array Edge} {v : Value} (i : Nat) (hi : ops[i]? = some { dst := some d, op := op, type := ty, pos := pos, after := after, guard := none })
    (hs : Region.noSelect ops = true) (hf : Region.free .any ops listed i = true) (hr : (Region.ready .any ops listed).contains i = true) (hS : S w) (hE : ∀ w', S w' → Ev P ρ w' op v) (hn : Nat.blt d n = true)
    (k : OH P ops Q S n fuel (listed.setIfInBounds i true) (upd ρ d v) w) : OH P ops Q S n (fuel + 1) listed ρ w := by
  intro dl a hF Q' hQ hp
  refine wpAnyH_take hi hs hf hr (fun c a' w' h => (hp _ _ _ h).elim) (.inl ⟨rfl, fun w' h' => by rw [hF.eval]; exact hE w' h' _ _ _ _ _⟩) hS ?_
  exact k dl _ (hF.put d v hn) Q' hQ hp

/-- Whichever of those that may come up comes up. -/
theorem oh_all (rs : List Nat) (hr : Region.ready .any ops listed = rs) (hne : rs.isEmpty = false) (h : OHs P ops Q S n fuel listed ρ w rs) : OH P ops Q S n (fuel + 1) listed ρ w := by
  intro dl a hF Q' hQ hp
  refine wpAnyH_all hr (by rintro rfl; simp at hne) ?_
  clear hr hne
  induction rs with
  | nil => intro i hi; cases hi
  | cons j js ih =>
    intro i hi
    rcases List.mem_cons.1 hi with rfl | hi
    · exact h.1 dl a hF Q' hQ hp
    · exact ih h.2 i hi

theorem oh1_e {d : Nat} {op : Op} {ty : TypeId} {pos : String} {after : Array Edge} {R : Value → World → Prop} {i : Nat} (hi : ops[i]? = some { dst := some d, op := op, type := ty, pos := pos, after := after, guard := none })
    (hE : Eff P ρ n w op R) (hn : Nat.blt d n = true) (k : ∀ v w', R v w' → S w' ∧ OH P ops Q S n fuel (listed.setIfInBounds i true) (upd ρ d v) w') : OH1 P ops Q S n fuel listed ρ w i := by
  intro dl a hF Q' hQ hp
  unfold wpOp
  simp only [hi]
  rw [if_pos (by rfl)]
  exact .inl (hE _ _ _ _ _ dl a hF _ Q' fun v w' hR => ⟨(k v w' hR).1, (k v w' hR).2 dl _ (hF.put d v hn) Q' hQ hp⟩)
theorem oh1_eN {op : Op} {ty : TypeId} {pos : String} {after : Array Edge} {R : Value → World → Prop} {i : Nat} (hi : ops[i]? = some { dst := none, op := op, type := ty, pos := pos, after := after, guard := none })
    (hE : Eff P ρ n w op R) (k : ∀ v w', R v w' → S w' ∧ OH P ops Q S n fuel (listed.setIfInBounds i true) ρ w') : OH1 P ops Q S n fuel listed ρ w i := by
  intro dl a hF Q' hQ hp
  unfold wpOp
  simp only [hi]
  rw [if_pos (by rfl)]
  exact .inl (hE _ _ _ _ _ dl a hF _ Q' fun v w' hR => ⟨(k v w' hR).1, (k v w' hR).2 dl _ (hF.put_none v) Q' hQ hp⟩)
/-- .. that reads alone, where the memory may have been written in the region. -/
theorem oh1_v {d : Nat} {op : Op} {ty : TypeId} {pos : String} {after : Array Edge} {v : Value} {i : Nat} (hi : ops[i]? = some { dst := some d, op := op, type := ty, pos := pos, after := after, guard := none })
    (hE : Ev P ρ w op v) (hn : Nat.blt d n = true) (k : S w ∧ OH P ops Q S n fuel (listed.setIfInBounds i true) (upd ρ d v) w) : OH1 P ops Q S n fuel listed ρ w i :=
  oh1_e hi hE.eff hn (by rintro v' w' ⟨rfl, rfl⟩; exact k)
/-- All have come up. -/
theorem oh_done (hr : Region.ready .any ops listed = []) (h : Q ρ w) : OH P ops Q S n fuel listed ρ w :=
  fun dl a hF Q' hQ hp => wpAnyH_done hr (hQ _ _ _ h hF) fuel
end

theorem Apart.eqL {v v' : Value} {b : Option Nat} (e : v' = v) (h : Apart v.ownBlock b) : Apart v'.ownBlock b := e ▸ h
theorem Apart.eqR {v v' : Value} {b : Option Nat} (e : v' = v) (h : Apart b v.ownBlock) : Apart b v'.ownBlock := e ▸ h
/-- Shifts. -/
def shlV (i : IntKind) (a b : Int) : Int := i.wrap (a * 2 ^ (min b.toNat i.bits))
def shrV (i : IntKind) (a b : Int) : Int := a.fdiv (2 ^ (min b.toNat i.bits))
section
variable {P : Program} {ρ : Env} {w : World}
theorem e_shlV {x y : Operand} {tx tY : TypeId} {i j : IntKind} {a b : Int} (hx : ev ρ x = .int i a) (hy : ev ρ y = .int j b) (hc : (0 : Int) ≤ b) : Ev P ρ w (.binOp .shl tx x y tY) (.int i (shlV i a b)) :=
  e_shl hx hy (by rw [if_neg (by omega)])
theorem e_shrV {x y : Operand} {tx tY : TypeId} {i j : IntKind} {a b : Int} (hx : ev ρ x = .int i a) (hy : ev ρ y = .int j b) (hc : (0 : Int) ≤ b) : Ev P ρ w (.binOp .shr tx x y tY) (.int i (shrV i a b)) :=
  e_shr hx hy (by rw [if_neg (by omega)])
end
/-- A part of a struct that is held as a value. -/
def fieldTy (P : Program) (s f : Nat) : Option (TypeId × Nat) := match P.underlying s with | some (.struct fs) => (fs[f]?).map fun fd => (fd.type, fd.offset) | _ => none
section
variable {P : Program} {ρ : Env} {w : World} {α β : Type} {k : Kd α} {l : Kd β}
theorem e_field {x : Operand} {s f off : Nat} {t : TypeId} {p : α → β} {F : BSet} {v : Value} {y : α} (hf : fieldTy P s f = some (t, off)) (ht : TyOk P t l) (hfl : Fld k off l p) (hk : k.agg = true) (hv : Val k F w v y) (hx : ev ρ x = v) :
    ∃ u, Ev P ρ w (.field s x f) u ∧ Val l F w u (p y) := by
  obtain ⟨cs, hr, rfl⟩ := hv
  rw [hk] at hx
  have hx : ev ρ x = .agg cs.toArray := hx
  unfold fieldTy at hf
  cases hu : P.underlying s with
  | none => rw [hu] at hf; cases hf
  | some d =>
    rw [hu] at hf
    cases d <;> simp only [reduceCtorEq] at hf
    rename_i fs
    cases hd : fs[f]? with
    | none => rw [hd] at hf; cases hf
    | some fd =>
      rw [hd] at hf
      simp only [Option.map_some, Option.some.injEq, Prod.mk.injEq] at hf
      obtain ⟨rfl, rfl⟩ := hf
      have hl := hfl.2 hr
      refine ⟨_, ?_, _, hl, rfl⟩
      have hA := ht.run_isAgg w
      have hS := ht.run_sizeOf w
      intro d ty pos after g
      have hpart : (part fd.type cs.toArray fd.offset).run P w = .ok (pack l.agg ((cs.drop fd.offset).take l.sz)) w := by
        unfold part
        rw [Sem.run_bind, hA, Result.andThen_ok]
        cases hg : l.agg with
        | true =>
          rw [if_pos rfl, Sem.run_bind, hS, Result.andThen_ok]
          simp [pack]
        | false =>
          rw [if_neg (by simp)]
          have h1 := l.atom hg
          have hlen := l.len hl
          rw [h1] at hlen ⊢
          have : ∃ c, cs[fd.offset]? = some c ∧ (cs.drop fd.offset).take 1 = [c] := by
            match hq : (cs.drop fd.offset).take 1, hlen with
            | [c], _ =>
              refine ⟨c, ?_, rfl⟩
              have h0 : ((cs.drop fd.offset).take 1)[0]? = some c := by rw [hq]; rfl
              rw [List.getElem?_take, if_pos (by decide), List.getElem?_drop] at h0
              exact h0
          obtain ⟨c, hc, e⟩ := this
          rw [e]
          have : cs.toArray[fd.offset]? = some c := by simpa using hc
          rw [this]; rfl
      simp [execOp, hx, Instr.field, run_underlying hu, hd, asAgg, hpart]
theorem e_field_int {ik : IntKind} {x : Operand} {s f off : Nat} {t : TypeId} {p : α → Int} {F : BSet} {v : Value} {y : α} (hf : fieldTy P s f = some (t, off)) (ht : TyOk P t (kInt ik)) (hfl : Fld k off (kInt ik) p) (hk : k.agg = true) (hv : Val k F w v y) (hx : ev ρ x = v) : Ev P ρ w (.field s x f) (.int ik (p y)) := by
  obtain ⟨u, hu, cs, rfl, rfl⟩ := e_field hf ht hfl hk hv hx; exact hu
theorem e_field_bool {x : Operand} {s f off : Nat} {t : TypeId} {p : α → Bool} {F : BSet} {v : Value} {y : α} (hf : fieldTy P s f = some (t, off)) (ht : TyOk P t kBool) (hfl : Fld k off kBool p) (hk : k.agg = true) (hv : Val k F w v y) (hx : ev ρ x = v) : Ev P ρ w (.field s x f) (.bool (p y)) := by
  obtain ⟨u, hu, cs, rfl, rfl⟩ := e_field hf ht hfl hk hv hx; exact hu
theorem e_field_byte {x : Operand} {s f off : Nat} {t : TypeId} {p : α → UInt8} {F : BSet} {v : Value} {y : α} (hf : fieldTy P s f = some (t, off)) (ht : TyOk P t kByte) (hfl : Fld k off kByte p) (hk : k.agg = true) (hv : Val k F w v y) (hx : ev ρ x = v) : Ev P ρ w (.field s x f) (.int .u8 (p y).toNat) := by
  obtain ⟨u, hu, cs, rfl, rfl⟩ := e_field hf ht hfl hk hv hx; exact hu
theorem e_field_str {x : Operand} {s f off : Nat} {t : TypeId} {p : α → ByteArray} {F : BSet} {v : Value} {y : α} (hf : fieldTy P s f = some (t, off)) (ht : TyOk P t kStr) (hfl : Fld k off kStr p) (hk : k.agg = true) (hv : Val k F w v y) (hx : ev ρ x = v) : Ev P ρ w (.field s x f) (.string (p y)) := by
  obtain ⟨u, hu, cs, rfl, rfl⟩ := e_field hf ht hfl hk hv hx; exact hu
theorem e_field_sl {m : Kd β} {x : Operand} {s f off : Nat} {t : TypeId} {p : α → List β} {F : BSet} {v : Value} {y : α} (hf : fieldTy P s f = some (t, off)) (ht : TyOk P t (kSl m)) (hfl : Fld k off (kSl m) p) (hk : k.agg = true) (hv : Val k F w v y) (hx : ev ρ x = v) : ∃ u, Ev P ρ w (.field s x f) u ∧ SlR m F w u (p y) := by
  obtain ⟨u, hu, cs, ⟨z, rfl, hz⟩, rfl⟩ := e_field hf ht hfl hk hv hx; exact ⟨_, hu, hz⟩
end
/-- Where the rest comes in the text's order, and reads alone. -/
theorem anyH_seq {P : Program} {ops : Array Oper} {S : World → Prop} {Q : Exit → Act → World → Prop} {w : World} (hS : S w) : ∀ (l : List Oper) (k : Nat) (listed : Array Bool) (a : Act), (∀ j, l[j]? = ops[k + j]?) → Region.seqB .any ops l.length k listed = true → hl P ops Q l.length l a w → wpAnyH P .any ops Q S l.length listed a w
  | [], _, _, _, _, hB, h => ⟨by simpa [Region.seqB] using hB, h⟩
  | o :: l, k, listed, a, hl', hB, h => by
    have h0 : ops[k]? = some o := by simpa using (hl' 0).symm
    simp only [List.length_cons, Region.seqB, Bool.and_eq_true, decide_eq_true_eq] at hB
    refine ⟨fun h1 => (by rw [hB.1] at h1; cases h1), fun i hi => ?_⟩
    rw [hB.1] at hi
    have hik : i = k := by simpa using hi
    subst hik
    have ih := fun a' => anyH_seq (P := P) (Q := Q) hS l (i + 1) (listed.setIfInBounds i true) a' (fun j => by have := hl' (j + 1); simpa [Nat.add_assoc, Nat.add_comm 1 j] using this) hB.2
    unfold wpOp
    simp only [h0]
    simp only [List.length_cons, hl] at h
    split
    · rename_i hw
      rw [if_pos hw] at h
      exact .inl (Oper.wp_of_still (fun a' h' => ⟨hS, ih a' h'⟩) h)
    · rename_i hw
      rw [if_neg hw] at h
      exact ⟨hS, ih _ h⟩
theorem oh_seq {P : Program} {ops l : List Oper} {Q : Env → World → Prop} {S : World → Prop} {n fuel : Nat} {listed : Array Bool} {ρ : Env} {w : World} (k : Nat) (hl' : ops.drop k = l) (hfu : l.length = fuel) (hS : S w) (hB : Region.seqB .any ops.toArray l.length k listed = true) (h : OL P ops.toArray Q n l.length l ρ w) : OH P ops.toArray Q S n fuel listed ρ w := by
  intro dl a hF Q' hQ hp
  subst hfu
  refine anyH_seq hS l k listed a (fun j => ?_) hB (h dl a hF Q' hQ)
  subst hl'
  simp [List.getElem?_drop]
end Go.Fx
