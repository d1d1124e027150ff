/- Regions that draw their order, where writes stand among reads: every order is walked. -/
import Derived.Test.YtenkbkcddcnmeaaDoorFx7
namespace Go.Fx
open Go.RowKit
set_option linter.unusedVariables false

theorem Stp.back {F F' : BSet} {w w' : World} (h : Stp F w F' w') : Stp F w F w' := ⟨h.keep, fun _ h => h⟩

/-- The operations that are left (listed: which have come up), whatever order is drawn. -/
def OH (P : Program) (ops : Array Oper) (Q : Env → World → Prop) (S : World → Prop) (n fuel : Nat) (listed : Array Bool) (ρ : Env) (w : World) : Prop :=
  ∀ dl a, Fr dl n a ρ → ∀ Q' : Exit → Act → World → Prop, (∀ ρ' w' a', Q ρ' w' → Fr dl n a' ρ' → Q' .normal a' w') → (∀ c a' w', ¬ Q' (.panic c) a' w') → wpAnyH P .any ops Q' S fuel listed a w
/-- One operation comes up. -/
def OH1 (P : Program) (ops : Array Oper) (Q : Env → World → Prop) (S : World → Prop) (n fuel : Nat) (listed : Array Bool) (ρ : Env) (w : World) (i : Nat) : Prop :=
  ∀ dl a, Fr dl n a ρ → ∀ Q' : Exit → Act → World → Prop, (∀ ρ' w' a', Q ρ' w' → Fr dl n a' ρ' → Q' .normal a' w') → (∀ c a' w', ¬ Q' (.panic c) a' w') →
    wpOp P ops Q' i (fun a' w' => S w' ∧ wpAnyH P .any ops Q' S fuel (listed.setIfInBounds i true) a' w') a w
def OHs (P : Program) (ops : Array Oper) (Q : Env → World → Prop) (S : World → Prop) (n fuel : Nat) (listed : Array Bool) (ρ : Env) (w : World) : List Nat → Prop
  | [] => True
  | i :: is => OH1 P ops Q S n fuel listed ρ w i ∧ OHs P ops Q S n fuel listed ρ w is

/-- The region as a whole. -/
theorem Ref.regionH {σ τ : Type} {P : Program} {n : Nat} {A B : σ → Env → World → Prop} {X : Nat → σ → Env → World → Prop} {R : τ → Env → World → Prop} {id : Nat} {l : List Oper} {r : σ → Option σ} (hmx : P.follows .mixedOrders = true)
    (hA : ∀ s ρ w, A s ρ w → A s ρ w.drew) (h : ∀ s ρ w s', A s ρ w → r s = some s' → ∃ S, OH P l.toArray (fun ρ' w' => B s' ρ' w') S n l.toArray.size (Array.replicate l.toArray.size false) ρ w) : Ref P n (.region id l.toArray true) A (regM r) B X R := by
  intro dl dp s ρ w a hA' hF o hm
  unfold regM at hm
  cases hr : r s with
  | none => rw [hr] at hm; cases hm
  | some s' =>
    rw [hr] at hm
    cases Option.some.inj hm
    obtain ⟨S, hS⟩ := h s ρ w.drew s' (hA s ρ w hA') hr
    refine wpIn_wide.2 (wp_region_held (S := S) hmx ?_)
    exact hS dl a hF _ (fun ρ' w' a' hB hF' => ⟨ρ', hF', hB⟩) (by rintro c a' w' ⟨ρ', _, h⟩; exact h)

section
variable {P : Program} {ops : Array Oper} {Q : Env → World → Prop} {S : World → Prop} {n fuel : Nat} {listed : Array Bool} {ρ : Env} {w : World}

/-- Number i is taken first: it reads alone. -/
theorem oh_v {d : Nat} {op : Op} {ty : TypeId} {pos : String} {after : Array Edge} {v : Value} (i : Nat) (hi : ops[i]? = some { dst := some d, op := op, type := ty, pos := pos, after := after, guard := none })
    (hs : Region.noSelect ops = true) (hf : Region.free .any ops listed i = true) (hr : (Region.ready .any ops listed).contains i = true) (hS : S w) (hE : ∀ w', S w' → Ev P ρ w' op v) (hn : Nat.blt d n = true)
    (k : OH P ops Q S n fuel (listed.setIfInBounds i true) (upd ρ d v) w) : OH P ops Q S n (fuel + 1) listed ρ w := by
  intro dl a hF Q' hQ hp
  refine wpAnyH_take hi hs hf hr (fun c a' w' h => (hp _ _ _ h).elim) (.inl ⟨rfl, fun w' h' => by rw [hF.eval]; exact hE w' h' _ _ _ _ _⟩) hS ?_
  exact k dl _ (hF.put d v hn) Q' hQ hp

/-- Whichever of those that may come up comes up. -/
theorem oh_all (rs : List Nat) (hr : Region.ready .any ops listed = rs) (hne : rs.isEmpty = false) (h : OHs P ops Q S n fuel listed ρ w rs) : OH P ops Q S n (fuel + 1) listed ρ w := by
  intro dl a hF Q' hQ hp
  refine wpAnyH_all hr (by rintro rfl; simp at hne) ?_
  clear hr hne
  induction rs with
  | nil => intro i hi; cases hi
  | cons j js ih =>
    intro i hi
    rcases List.mem_cons.1 hi with rfl | hi
    · exact h.1 dl a hF Q' hQ hp
    · exact ih h.2 i hi

theorem oh1_e {d : Nat} {op : Op} {ty : TypeId} {pos : String} {after : Array Edge} {R : Value → World → Prop} {i : Nat} (hi : ops[i]? = some { dst := some d, op := op, type := ty, pos := pos, after := after, guard := none })
    (hE : Eff P ρ n w op R) (hn : Nat.blt d n = true) (k : ∀ v w', R v w' → S w' ∧ OH P ops Q S n fuel (listed.setIfInBounds i true) (upd ρ d v) w') : OH1 P ops Q S n fuel listed ρ w i := by
  intro dl a hF Q' hQ hp
  unfold wpOp
  simp only [hi]
  rw [if_pos (by rfl)]
  exact .inl (hE _ _ _ _ _ dl a hF _ Q' fun v w' hR => ⟨(k v w' hR).1, (k v w' hR).2 dl _ (hF.put d v hn) Q' hQ hp⟩)
theorem oh1_eN {op : Op} {ty : TypeId} {pos : String} {after : Array Edge} {R : Value → World → Prop} {i : Nat} (hi : ops[i]? = some { dst := none, op := op, type := ty, pos := pos, after := after, guard := none })
    (hE : Eff P ρ n w op R) (k : ∀ v w', R v w' → S w' ∧ OH P ops Q S n fuel (listed.setIfInBounds i true) ρ w') : OH1 P ops Q S n fuel listed ρ w i := by
  intro dl a hF Q' hQ hp
  unfold wpOp
  simp only [hi]
  rw [if_pos (by rfl)]
  exact .inl (hE _ _ _ _ _ dl a hF _ Q' fun v w' hR => ⟨(k v w' hR).1, (k v w' hR).2 dl _ (hF.put_none v) Q' hQ hp⟩)
/-- .. that reads alone, where the memory may have been written in the region. -/
theorem oh1_v {d : Nat} {op : Op} {ty : TypeId} {pos : String} {after : Array Edge} {v : Value} {i : Nat} (hi : ops[i]? = some { dst := some d, op := op, type := ty, pos := pos, after := after, guard := none })
    (hE : Ev P ρ w op v) (hn : Nat.blt d n = true) (k : S w ∧ OH P ops Q S n fuel (listed.setIfInBounds i true) (upd ρ d v) w) : OH1 P ops Q S n fuel listed ρ w i :=
  oh1_e hi hE.eff hn (by rintro v' w' ⟨rfl, rfl⟩; exact k)
theorem ite_T {c : Prop} [Decidable c] {γ : Type} {a b : Option γ} {x : γ} (hc : c) (h : (if c then a else b) = some x) : a = some x := by rw [if_pos hc] at h; exact h
theorem ite_N {c : Prop} [Decidable c] {γ : Type} {a b : Option γ} {x : γ} (hc : ¬ c) (h : (if c then a else b) = some x) : b = some x := by rw [if_neg hc] at h; exact h
/-- .. under a guard that holds, and one that does not. -/
theorem oh_vG {d : Nat} {op : Op} {ty : TypeId} {pos : String} {after : Array Edge} {v : Value} {j dj : Nat} {want : Bool} (i : Nat) (hi : ops[i]? = some { dst := some d, op := op, type := ty, pos := pos, after := after, guard := some (j, want) })
    (hs : Region.noSelect ops = true) (hf : Region.free .any ops listed i = true) (hr : (Region.ready .any ops listed).contains i = true) (hS : S w) (hj : (ops[j]?).bind (·.dst) = some dj) (hnj : Nat.blt dj n = true) (hb : ρ dj = .bool want) (hE : ∀ w', S w' → Ev P ρ w' op v) (hn : Nat.blt d n = true)
    (k : OH P ops Q S n fuel (listed.setIfInBounds i true) (upd ρ d v) w) : OH P ops Q S n (fuel + 1) listed ρ w := by
  intro dl a hF Q' hQ hp
  have hy := yielded_of hF hj hnj
  rw [hb] at hy
  refine wpAnyH_take hi hs hf hr (fun c a' w' h => (hp _ _ _ h).elim) (.inl ⟨by simp [Region.wanted, hy], fun w' h' => by rw [hF.eval]; exact hE w' h' _ _ _ _ _⟩) hS ?_
  exact k dl _ (hF.put d v hn) Q' hQ hp
theorem oh_not {d : Nat} {op : Op} {ty : TypeId} {pos : String} {after : Array Edge} {j dj : Nat} {want b : Bool} (i : Nat) (hi : ops[i]? = some { dst := some d, op := op, type := ty, pos := pos, after := after, guard := some (j, want) })
    (hs : Region.noSelect ops = true) (hf : Region.free .any ops listed i = true) (hr : (Region.ready .any ops listed).contains i = true) (hS : S w) (hj : (ops[j]?).bind (·.dst) = some dj) (hnj : Nat.blt dj n = true) (hb : ρ dj = .bool b) (hne : (b == want) = false) (hn : Nat.blt d n = true)
    (k : OH P ops Q S n fuel (listed.setIfInBounds i true) (upd ρ d undef) w) : OH P ops Q S n (fuel + 1) listed ρ w := by
  intro dl a hF Q' hQ hp
  have hy := yielded_of hF hj hnj
  rw [hb] at hy
  refine wpAnyH_take hi hs hf hr (fun c a' w' h => (hp _ _ _ h).elim) (.inr ⟨by simp only [Region.wanted, hy]; cases b <;> cases want <;> simp_all, rfl⟩) hS ?_
  exact k dl _ (hF.put d undef hn) Q' hQ hp
theorem oh1_eG {d : Nat} {op : Op} {ty : TypeId} {pos : String} {after : Array Edge} {R : Value → World → Prop} {i j dj : Nat} {want : Bool} (hi : ops[i]? = some { dst := some d, op := op, type := ty, pos := pos, after := after, guard := some (j, want) })
    (hj : (ops[j]?).bind (·.dst) = some dj) (hnj : Nat.blt dj n = true) (hb : ρ dj = .bool want) (hE : Eff P ρ n w op R) (hn : Nat.blt d n = true) (k : ∀ v w', R v w' → S w' ∧ OH P ops Q S n fuel (listed.setIfInBounds i true) (upd ρ d v) w') : OH1 P ops Q S n fuel listed ρ w i := by
  intro dl a hF Q' hQ hp
  have hy := yielded_of hF hj hnj
  rw [hb] at hy
  unfold wpOp
  simp only [hi]
  rw [if_pos (by simp [Region.wanted, hy])]
  exact .inl (hE _ _ _ _ _ dl a hF _ Q' fun v w' hR => ⟨(k v w' hR).1, (k v w' hR).2 dl _ (hF.put d v hn) Q' hQ hp⟩)
/-- All have come up. -/
theorem oh_done (hr : Region.ready .any ops listed = []) (h : Q ρ w) : OH P ops Q S n fuel listed ρ w :=
  fun dl a hF Q' hQ hp => wpAnyH_done hr (hQ _ _ _ h hF) fuel
end

/-- Shifts. -/
def shlV (i : IntKind) (a b : Int) : Int := i.wrap (a * 2 ^ (min b.toNat i.bits))
def shrV (i : IntKind) (a b : Int) : Int := a.fdiv (2 ^ (min b.toNat i.bits))
section
variable {P : Program} {ρ : Env} {w : World}
theorem e_shlV {x y : Operand} {tx tY : TypeId} {i j : IntKind} {a b : Int} (hx : ev ρ x = .int i a) (hy : ev ρ y = .int j b) (hc : (0 : Int) ≤ b) : Ev P ρ w (.binOp .shl tx x y tY) (.int i (shlV i a b)) :=
  e_shl hx hy (by rw [if_neg (by omega)])
theorem e_shrV {x y : Operand} {tx tY : TypeId} {i j : IntKind} {a b : Int} (hx : ev ρ x = .int i a) (hy : ev ρ y = .int j b) (hc : (0 : Int) ≤ b) : Ev P ρ w (.binOp .shr tx x y tY) (.int i (shrV i a b)) :=
  e_shr hx hy (by rw [if_neg (by omega)])
end
section
variable {P : Program} {ρ : Env} {w : World} {α β : Type} {k : Kd α} {l : Kd β}
end
/-! ### function values -/
section
variable {α β : Type} {P : Program} {F F' : BSet} {w w' : World} {ρ : Env} {n : Nat}
def ra1 (k : Kd α) (F : BSet) (w : World) (vs : List Value) (x : α) : Prop := ∃ v, vs = [v] ∧ Val k F w v x
def ra2 (k : Kd α) (l : Kd β) (F : BSet) (w : World) (vs : List Value) (x : α × β) : Prop := ∃ v u, vs = [v, u] ∧ Val k F w v x.1 ∧ Val l F w u x.2
/-- The value v is a function that answers as g does, and changes nothing that was there. -/
def FnV (P : Program) (ra : BSet → World → List Value → α → Prop) (enc : β → Value) (F : BSet) (w : World) (v : Value) (g : α → Option β) : Prop :=
  ∃ fn lb, v = .func (.func fn) #[] lb ∧ FnOk P fn ∧ ∀ F' W, Stp F w F' W → (∀ b, F' b → b < W.heap.size) → ∀ vs x r, ra F' W vs x → g x = some r →
    Calls P fn (vs.toArray ++ lb) W fun e W' => ∃ v, e = .returned v ∧ v = enc r ∧ ∃ F'', Wk nrow W F' F'' W'
theorem FnV.keep {ra : BSet → World → List Value → α → Prop} {enc : β → Value} {v : Value} {g : α → Option β} (h : FnV P ra enc F w v g) (s : Stp F w F' w') : FnV P ra enc F' w' v g :=
  let ⟨fn, lb, e, hf, h⟩ := h; ⟨fn, lb, e, hf, fun F2 W hs => h F2 W (s.trans hs)⟩
def kFn (P : Program) (ra : BSet → World → List Value → α → Prop) (enc : β → Value) : Kd (α → Option β) where
  sz := 1
  agg := false
  rep F w g cs := ∃ v, cs = [v] ∧ FnV P ra enc F w v g
  len h := by obtain ⟨v, rfl, _⟩ := h; rfl
  one h := by
    obtain ⟨v, rfl, fn, lb, rfl, _⟩ := h
    simp [Value.oneCell']
  keep s h := let ⟨v, e, hv⟩ := h; ⟨v, e, hv.keep s⟩
  atom _ := rfl
theorem val_fn {ra : BSet → World → List Value → α → Prop} {enc : β → Value} {v : Value} {g : α → Option β} (h : FnV P ra enc F w v g) : Val (kFn P ra enc) F w v g := ⟨[v], ⟨v, rfl, h⟩, rfl⟩
theorem FnV.of_val {ra : BSet → World → List Value → α → Prop} {enc : β → Value} {v : Value} {g : α → Option β} (h : Val (kFn P ra enc) F w v g) : FnV P ra enc F w v g := by
  obtain ⟨cs, ⟨v', rfl, h⟩, rfl⟩ := h; exact h
/-- A call through a value. -/
theorem f_callV {ra : BSet → World → List Value → α → Prop} {enc : β → Value} {v : Value} {g : α → Option β} {c : Operand} {args : List Operand} {tys : Array TypeId} {x : α} {r : β} (vs : List Value) (h : Val (kFn P ra enc) F w v g) (ok : ∀ b, F b → b < w.heap.size)
    (hc : ev ρ c = v) (hv : args.map (ev ρ) = vs) (hra : ra F w vs x) (hg : g x = some r) :
    Eff P ρ n w (.call { callee := .value c, args := args.toArray, argTypes := tys }) (fun v' w' => v' = enc r ∧ Wk nrow w F F w') := by
  obtain ⟨fn, lb, rfl, hf, h⟩ := FnV.of_val h
  obtain ⟨f, hf, hname, hbody⟩ := hf.ok
  intro d ty pos after gd dl a hF K Q' hK
  unfold Oper.wp
  rw [hF.eval]
  have hr : (execOp (ev ρ) { dst := d, op := .call { callee := .value c, args := args.toArray, argTypes := tys }, type := ty, pos := pos, after := after, guard := gd }).run P w = .ok (.enter fn (vs.toArray ++ lb)) w := by
    have h0 : args.toArray.map (ev ρ) = vs.toArray := by simp [hv]
    have h2 : (callFunc fn (vs.toArray ++ lb)).run P w = .ok (.enter fn (vs.toArray ++ lb)) w := by
      rw [callFunc, Sem.run_bind, run_program, Result.andThen_ok]
      simp only [hf, hname, hbody, Bool.false_eq_true, if_false]
      rfl
    simp only [execOp, resolve, hc, h0]
    simp [invoke, go_sem, h2]
  rw [hr, Oper.upon_enter]
  refine (h F w (Stp.refl F w) ok vs x r hra hg).mono ?_
  rintro e w' ⟨v, rfl, hv, F'', hk⟩
  exact hK _ _ ⟨hv, hk.lend ok⟩
/-- The block of a variable is as it was. -/
theorem Box.hpW {k : Kd α} {e g : Nat} {B F F' : BSet} {w w' : World} {x : α} {r : BSet} (h : Box k e B F w g x) (hap : ApS r (some g)) (s : Wk r w F F' w') : w'.heap[g]? = w.heap[g]? := s.block g h.lt (fun e => hap g e rfl)
theorem Box.hpw {k : Kd α} {e g : Nat} {B F F' : BSet} {w w' : World} {x : α} (h : Box k e B F w g x) (s : Wk nrow w F F' w') : w'.heap[g]? = w.heap[g]? := h.hpW (fun _ h => h.elim) s
theorem Box.hpm {k : Kd α} {e g : Nat} {B F : BSet} {w w' : World} {x : α} {r : Option Nat} (h : Box k e B F w g x) (hap : Apart r (some g)) (hg : w.grownBy w' r) : w'.heap[g]? = w.heap[g]? := hg.block g h.lt (fun e => hap g e.symm rfl)
theorem Box.lent {k : Kd α} {e g : Nat} {B : BSet} {x : α} (h : Box k e B F w g x) (ok : ∀ b, F b → b < w.heap.size) : ∃ F', (∀ b, F' b → b < w.heap.size) ∧ Stp F w F' w ∧ (∀ b, F' b → F b ∨ some g = some b) ∧ Lies k F' w g 0 x := by
  have hlt := h.lt
  obtain ⟨cs, hr, hc⟩ := h.at_
  refine ⟨fadd F g, fun b hb => ?_, Stp.fadd F w g, fun b hb => ?_, .inr rfl, cs, k.keep (Stp.fadd F w g) hr, hc⟩
  · rcases hb with hb | rfl
    · exact ok b hb
    · exact hlt
  · rcases hb with hb | rfl
    · exact .inl hb
    · exact .inr rfl
/-! ### an argument that is taken -/
/-- The first part of a row of the call's own. -/
theorem OwnV.cutTo {k : Kd α} {e : TypeId} {B : BSet} {A : Option Addr} {c : Nat} {xs ys : List α} {hi : Int} (h : OwnV k e B F w (.slice A xs.length c) xs) (hy : cutTo xs hi = some ys) :
    OwnV k e B F w (sliced A 0 hi.toNat c k.sz) ys ∧ ∀ g, (sliced A 0 hi.toNat c k.sz).ownBlock = some g → (Value.slice A xs.length c).ownBlock = some g := by
  obtain ⟨h0, h1, rfl⟩ := cutTo_some hy
  have hlen : (xs.take hi.toNat).length = hi.toNat := by rw [List.length_take]; omega
  rcases h with ⟨e1, rfl⟩ | ⟨g, o, cap, cur, cs, e1, hB, hF', hh, ⟨hc, hcm⟩, hs, hcat, ht⟩
  · simp only [Value.slice.injEq] at e1
    obtain ⟨rfl, _, rfl⟩ := e1
    have : hi.toNat = 0 := by simp at h1; omega
    refine ⟨.inl ⟨?_, by simp⟩, ?_⟩
    · simp [sliced, this]
    · intro g hg; simp [sliced, Value.ownBlock] at hg
  · simp only [Value.slice.injEq] at e1
    obtain ⟨rfl, _, rfl⟩ := e1
    have hsl : sliced (some ⟨g, o, none⟩) 0 hi.toNat c k.sz = .slice (some ⟨g, o, none⟩) hi.toNat c := by
      unfold sliced
      simp [addr_add]
    rw [hsl]
    refine ⟨.inr ⟨g, o, c, cur, cs.take (hi.toNat * k.sz), by rw [hlen], hB, hF', hh, ⟨by rw [hlen]; omega, hcm⟩, hs, (Cat.cut trivial _ hcat).1, ?_⟩, fun g' hg' => hg'⟩
    have hcl := hcat.len
    have hle : hi.toNat * k.sz ≤ cs.length := by rw [hcl]; exact Nat.mul_le_mul_right _ (by omega)
    rw [List.length_take, Nat.min_eq_left hle]
    conv => rhs; rw [← ht]
    rw [List.take_take, Nat.min_eq_left hle]
theorem OwnV.cutFrom {k : Kd α} {e : TypeId} {B : BSet} {A : Option Addr} {c : Nat} {xs ys : List α} {lo : Int} (h : OwnV k e B F w (.slice A xs.length c) xs) (hy : cutFrom xs lo = some ys) :
    OwnV k e B F w (sliced A lo.toNat xs.length c k.sz) ys ∧ ∀ g, (sliced A lo.toNat xs.length c k.sz).ownBlock = some g → (Value.slice A xs.length c).ownBlock = some g := by
  obtain ⟨h0, h1, rfl⟩ := cutFrom_some hy
  have hlen : (xs.drop lo.toNat).length = xs.length - lo.toNat := List.length_drop
  rcases h with ⟨e1, rfl⟩ | ⟨g, o, cap, cur, cs, e1, hB, hF', hh, ⟨hc, hcm⟩, hs, hcat, ht⟩
  · simp only [Value.slice.injEq] at e1
    obtain ⟨rfl, _, rfl⟩ := e1
    have : lo.toNat = 0 := by simp at h1; omega
    refine ⟨.inl ⟨?_, by simp⟩, ?_⟩
    · simp [sliced, this]
    · intro g hg; simp [sliced, Value.ownBlock] at hg
  · simp only [Value.slice.injEq] at e1
    obtain ⟨rfl, _, rfl⟩ := e1
    have hcl := hcat.len
    by_cases hcl' : c = lo.toNat
    · have hd : xs.drop lo.toNat = [] := List.drop_eq_nil_of_le (by omega)
      have hsl : sliced (some ⟨g, o, none⟩) lo.toNat xs.length c k.sz = .slice (some ⟨g, o, none⟩) 0 0 := by
        unfold sliced
        rw [if_pos hcl', show xs.length - lo.toNat = 0 by omega, show c - lo.toNat = 0 by omega]
      rw [hsl, hd]
      exact ⟨.inr ⟨g, o, 0, cur, [], rfl, hB, hF', hh, ⟨Nat.le_refl _, by omega⟩, by have := Nat.zero_le (c * k.sz); omega, rfl, by simp⟩, fun g' hg' => hg'⟩
    · have hsl : sliced (some ⟨g, o, none⟩) lo.toNat xs.length c k.sz = .slice (some ⟨g, o + lo.toNat * k.sz, none⟩) (xs.length - lo.toNat) (c - lo.toNat) := by
        unfold sliced
        rw [if_neg hcl']
        simp [addr_add]
      rw [hsl]
      have hle : lo.toNat * k.sz ≤ cs.length := by rw [hcl]; exact Nat.mul_le_mul_right _ (by omega)
      refine ⟨.inr ⟨g, _, c - lo.toNat, cur, cs.drop (lo.toNat * k.sz), by rw [hlen], hB, hF', hh, ⟨by rw [hlen]; omega, by omega⟩, ?_, (Cat.cut trivial _ hcat).2, ?_⟩, fun g' hg' => hg'⟩
      · have hm : (c - lo.toNat) * k.sz + lo.toNat * k.sz = c * k.sz := by rw [← Nat.add_mul, Nat.sub_add_cancel (by omega)]
        omega
      · rw [List.length_drop]
        conv => rhs; rw [← ht]
        rw [List.drop_take, List.drop_drop]
end
section
variable {α : Type} {P : Program} {F F0 : BSet} {w w0 : World} {row : BSet} {ρ : Env} {n : Nat} {k : Kd α}
end
end Go.Fx
