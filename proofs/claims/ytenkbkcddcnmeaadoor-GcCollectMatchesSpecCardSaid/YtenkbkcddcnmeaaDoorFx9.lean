/- Ranges over functions. -/
import Derived.Test.YtenkbkcddcnmeaaDoorFx8
import Derived.Laws.BytesArg
namespace Go.Fx
open Go.RowKit
set_option linter.unusedVariables false

/-- The value v is an iterator: it yields the items, one by one, whatever the rounds do that leaves F as it is. -/
def IterOK (P : Program) (F : BSet) (w : World) (v : Value) (items : List (List Value)) : Prop :=
  ∃ gf lb, v = .func (.func gf) #[] lb ∧ (∀ args w, (callFunc gf args).run P w = .ok (.enter gf args) w) ∧
  ∀ (W : World), Stp F w F W → ∀ (l : Nat) (J : Nat → World → Prop), (∀ i W1, J i W1 → Stp F w F W1) → (∀ i W1, J i W1 → J i W1.drew) →
    (∀ i vs W1, items[i]? = some vs → J i W1 → YieldAt Fence.wide 0 P l vs.toArray W1 fun e W' => e = .returned (.bool true) ∧ J (i + 1) W') → J 0 W →
    CallsIn Fence.wide 0 P gf (#[.func (.yield l) #[] #[]] ++ lb) W fun e W' => (∃ u, e = .returned u) ∧ J items.length W'

theorem IterOK.keep {P : Program} {F F' : BSet} {w w' : World} {v : Value} {items : List (List Value)} (h : IterOK P F w v items) (s : Stp F w F' w') : IterOK P F' w' v items := by
  obtain ⟨gf, lb, e, hc, h⟩ := h
  refine ⟨gf, lb, e, hc, fun W hW l J hJ hD hY h0 => h W (s.trans ⟨hW.keep, hW.mono⟩).back l J (fun i W1 hj => (s.trans (hJ i W1 hj)).back) hD hY h0⟩

/-- What of a state speaks of the frozen blocks F and the call's own blocks B. -/
structure Core (K : BSet → BSet → World → Prop) : Prop where
  put : ∀ {F B : BSet} {w : World} {b : Nat} {o o' : Obj}, K F B w → ¬ F b → w.heap[b]? = some o → o.isCells = false → K F B (w.putObj b o')
  base : ∀ {F B B' : BSet} {w : World}, K F B w → (∀ g, B g → ¬ F g → (∃ o : Obj, w.heap[g]? = some o ∧ o.isCells = true) → B' g) → K F B' w
  wk : ∀ {F B : BSet} {w w' : World}, K F B w → Wk nrow w F F w' → (∀ b, F b → b < w.heap.size) → K F B w'
def GK (rs : BSet) (w0 : World) (F0 : BSet) (K : BSet → BSet → World → Prop) (w : World) : Prop := ∃ F, Wk rs w0 F0 F w ∧ K F (Bs w0 rs) w

theorem Core.ex {σ : Type} {K : σ → BSet → BSet → World → Prop} {p : σ → Prop} (h : ∀ s, Core (K s)) : Core (fun F B w => ∃ s, p s ∧ K s F B w) where
  put := fun ⟨s, hp, hk⟩ h1 h2 h3 => ⟨s, hp, (h s).put hk h1 h2 h3⟩
  base := fun ⟨s, hp, hk⟩ h1 => ⟨s, hp, (h s).base hk h1⟩
  wk := fun ⟨s, hp, hk⟩ h1 h2 => ⟨s, hp, (h s).wk hk h1 h2⟩
/-- The call's own cells, as a set of blocks. -/
def rsOf (B F : BSet) (w : World) : BSet := fun g => B g ∧ ¬ F g ∧ ∃ o : Obj, w.heap[g]? = some o ∧ o.isCells = true
theorem rsOf.not {B F : BSet} {w : World} {g : Nat} {o : Obj} (h : w.heap[g]? = some o) (hc : o.isCells = false) : ¬ rsOf B F w g := by
  rintro ⟨_, _, o', h', hc'⟩
  rw [h] at h'; cases h'; rw [hc] at hc'; cases hc'
theorem Wk.put {row F0 F : BSet} {w0 w : World} (h : Wk row w0 F0 F w) {D : Nat} (o : Obj) (hD : w0.heap.size ≤ D) : Wk row w0 F0 F (w.putObj D o) :=
  h.mut (grownBy_putObj' w D o) (fun g e => by cases e; exact .inl hD)
theorem Stp.put (F : BSet) (w : World) {D : Nat} (o : Obj) (h : ¬ F D) : Stp F w F (w.putObj D o) :=
  ⟨fun b hb => World.putObj_heap_other (fun e => h (e ▸ hb)), fun _ h => h⟩

/-- Two lists, one by one. -/
def All2 {α β : Type} (r : α → β → Prop) : List α → List β → Prop
  | [], [] => True
  | a :: as, b :: bs => r a b ∧ All2 r as bs
  | _, _ => False
theorem All2.len {α β : Type} {r : α → β → Prop} : ∀ {as : List α} {bs : List β}, All2 r as bs → as.length = bs.length
  | [], [], _ => rfl
  | a :: as, b :: bs, h => by simp [All2.len h.2]
theorem All2.get {α β : Type} {r : α → β → Prop} : ∀ {as : List α} {bs : List β}, All2 r as bs → ∀ {i : Nat} {a : α}, as[i]? = some a → ∃ b, bs.drop i = b :: bs.drop (i + 1) ∧ r a b
  | [], [], _, i, a, h => by simp at h
  | a :: as, b :: bs, h, 0, x, hx => by
    simp at hx; subst hx
    exact ⟨b, by simp, h.1⟩
  | a :: as, b :: bs, h, i + 1, x, hx => by
    obtain ⟨b', e, hr⟩ := All2.get h.2 (i := i) (a := x) (by simpa using hx)
    exact ⟨b', by simpa using e, hr⟩

def setps (ρ : Env) : List Nat → List Value → Env
  | p :: ps, v :: vs => setps (upd ρ p v) ps vs
  | _, _ => ρ

theorem fr_setpsL {n : Nat} : ∀ {ps : List Nat} {vs : List Value} {tmps : Array Value} {ρ : Env}, (ps.all fun p => Nat.blt p n) = true → vs.length = ps.length → Fr [] n { tmps := tmps, defers := [] } ρ →
    Fr [] n { tmps := (ps.zip vs).foldl (fun t (p, v) => t.setIfInBounds p v) tmps, defers := [] } (setps ρ ps vs)
  | [], [], tmps, ρ, _, _, h => h
  | p :: ps, v :: vs, tmps, ρ, hp, hl, h => by
    simp only [List.all_cons, Bool.and_eq_true] at hp
    exact fr_setpsL (ps := ps) (vs := vs) hp.2 (by simpa using hl) (Fr.put h p v hp.1)
theorem fr_setps {n : Nat} {ps : List Nat} {vs : List Value} {tmps : Array Value} {ρ : Env} (hp : (ps.all fun p => Nat.blt p n) = true) (hl : vs.length = ps.length) (h : Fr [] n { tmps := tmps, defers := [] } ρ) :
    Fr [] n { tmps := (ps.toArray.zip vs.toArray).foldl (fun t (p, v) => t.setIfInBounds p v) tmps, defers := [] } (setps ρ ps vs) := by
  have e : (ps.toArray.zip vs.toArray).foldl (fun (t : Array Value) (x : Nat × Value) => t.setIfInBounds x.1 x.2) tmps = (ps.zip vs).foldl (fun (t : Array Value) (x : Nat × Value) => t.setIfInBounds x.1 x.2) tmps := by simp
  have := fr_setpsL hp hl h
  rw [show (ps.toArray.zip vs.toArray).foldl (fun (t : Array Value) (x : Nat × Value) => match x with | (p, v) => t.setIfInBounds p v) tmps = _ from e]
  exact this

section
variable {σ τ β PT : Type}
def forL (set : β → σ → σ) (mA mB : σ → Option (Ctl σ τ)) : List β → σ → Option (Ctl σ τ)
  | [], s => some (.nrm s)
  | x :: xs, s => match seqM mA mB (set x s) with | some (.nrm s') => forL set mA mB xs s' | o => o
def rangeM (its : σ → List β) (set : β → σ → σ) (mA mB : σ → Option (Ctl σ τ)) (s : σ) : Option (Ctl σ τ) := forL set mA mB (its s) s

/-- What a function's body comes to, marks among its deferred calls and all. -/
def QT (n : Nat) (R : τ → Env → World → Prop) (o : Ctl σ τ) : Exit → Act → World → Prop := fun e a w =>
  ∃ dl ρ r, o = .ret r ∧ e = .ret ∧ Fr dl n a ρ ∧ ((dl = [] ∧ R r ρ w) ∨ ∃ D, dl = [{ target := .collected D, args := #[] }] ∧ w.heap[D]? = some (.deferred (some [])) ∧ R r ρ (w.putObj D (.deferred none)))
def RefT (P : Program) (n : Nat) (c : Code) (A : σ → Env → World → Prop) (m : σ → Option (Ctl σ τ)) (R : τ → Env → World → Prop) : Prop :=
  ∀ d s ρ w a, A s ρ w → Fr [] n a ρ → ∀ o, m s = some o → c.wpIn Fence.wide d P (QT n R o) a w

variable {P : Program} {n : Nat} {A B : σ → Env → World → Prop} {R : τ → Env → World → Prop} {c d : Code} {m k : σ → Option (Ctl σ τ)}
theorem RefT.seq (h1 : Ref P n c A m B (fun _ _ _ _ => False) R) (h2 : RefT P n d B k R) : RefT P n (.seq c d) A (seqM m k) R := by
  intro dp s ρ w a hA hF o hm
  unfold seqM at hm
  cases h : m s with
  | none => rw [h] at hm; cases hm
  | some o1 =>
    rw [h] at hm
    refine wpIn_seq (wpIn_mono (h1 [] dp s ρ w a hA hF o1 h) ?_)
    rintro e a' w' ⟨ρ', hF', hq⟩
    cases o1 with
    | nrm s' =>
      cases e <;> first | exact hq.elim | exact h2 dp s' ρ' w' a' hq hF' o hm
    | ext i s' =>
      cases e <;> first | exact hq.elim | exact hq.2.elim
    | ret r =>
      cases Option.some.inj hm
      cases e <;> first | exact hq.elim | exact ⟨[], ρ', r, rfl, rfl, hF', .inl ⟨rfl, hq⟩⟩
/-- Code that holds the loop: it is left with the loop's mark. -/
def RefD (P : Program) (n : Nat) (c : Code) (A : σ → Env → World → Prop) (m : σ → Option (Ctl σ τ)) (BD : Nat → σ → Env → World → Prop) : Prop :=
  ∀ d s ρ w a, A s ρ w → Fr [] n a ρ → ∀ o, m s = some o → c.wpIn Fence.wide d P (fun e a' w' => ∃ s' ρ' D, o = .nrm s' ∧ e = .normal ∧ Fr [{ target := .collected D, args := #[] }] n a' ρ' ∧ w'.heap[D]? = some (.deferred (some [])) ∧ BD D s' ρ' w') a w

theorem RefD.seq {BD : Nat → σ → Env → World → Prop} (h1 : Ref P n c A m B (fun _ _ _ _ => False) (fun _ _ _ => False)) (h2 : RefD P n d B k BD) : RefD P n (.seq c d) A (seqM m k) BD := by
  intro dp s ρ w a hA hF o hm
  unfold seqM at hm
  cases h : m s with
  | none => rw [h] at hm; cases hm
  | some o1 =>
    rw [h] at hm
    refine wpIn_seq (wpIn_mono (h1 [] dp s ρ w a hA hF o1 h) ?_)
    rintro e a' w' ⟨ρ', hF', hq⟩
    cases o1 with
    | nrm s' =>
      cases e <;> first | exact hq.elim | exact h2 dp s' ρ' w' a' hq hF' o hm
    | ext i s' =>
      cases e <;> first | exact hq.elim | exact hq.2.elim
    | ret r =>
      cases e <;> exact hq.elim

/-- The rest, behind the loop. -/
theorem RefT.rest {row w0F : BSet} {w0 : World} {KR : BSet → BSet → σ → Env → World → Prop} {KZ : BSet → BSet → τ → Env → World → Prop} {Z : σ → Env → World → Prop}
    (hrest : ∀ rs w1 F1, Ref P n d (fun s ρ w => GK rs w1 F1 (fun F B w => KR F B s ρ w) w) k Z (fun _ _ _ _ => False) (fun r ρ w => GK rs w1 F1 (fun F B w => KZ F B r ρ w) w))
    (hZ : ∀ s ρ w, ¬ Z s ρ w) (cR : ∀ s ρ, Core (fun F B w => KR F B s ρ w)) (cZ : ∀ r ρ, Core (fun F B w => KZ F B r ρ w)) (hz : ∀ r ρ w, GK row w0 w0F (fun F B w => KZ F B r ρ w) w → R r ρ w) :
    ∀ D d' s ρ w a, (∃ F, Wk row w0 w0F F w ∧ ¬ F D ∧ w0.heap.size ≤ D ∧ KR F (Bs w0 row) s ρ w) → w.heap[D]? = some (.deferred (some [])) → Fr [{ target := .collected D, args := #[] }] n a ρ → ∀ o, k s = some o → d.wpIn Fence.wide d' P (QT n R o) a w := by
  rintro D d' s ρ w a ⟨F, hW, hFD, hD, hK⟩ hh hF o hk
  have hlt : D < w.heap.size := (Array.getElem?_eq_some_iff.1 hh).1
  have hA : GK (rsOf (Bs w0 row) F w) w F (fun F B w => KR F B s ρ w) w := ⟨F, Wk.refl hW.ok, (cR s ρ).base hK (fun g hg hn ho => .inr ⟨hg, hn, ho⟩)⟩
  refine wpIn_mono (hrest (rsOf (Bs w0 row) F w) w F _ d' s ρ w a hA hF o hk) ?_
  rintro e a' w' ⟨ρ', hF', hq⟩
  cases o with
  | nrm s' => cases e <;> first | exact hq.elim | exact (hZ _ _ _ hq).elim
  | ext i s' => cases e <;> first | exact hq.elim | exact hq.2.elim
  | ret r =>
    cases e <;> first | exact hq.elim | skip
    obtain ⟨F', hW', hK'⟩ := hq
    have hnD : ¬ rsOf (Bs w0 row) F w D := rsOf.not hh rfl
    have hD' : w'.heap[D]? = some (.deferred (some [])) := (hW'.block D hlt hnD).trans hh
    have hFD' : ¬ F' D := fun h => hFD (hW'.old D hlt h)
    have hK1 := (cZ r ρ').put (o' := .deferred none) hK' hFD' hD' rfl
    have hK2 := (cZ r ρ').base (B' := Bs w0 row) hK1 (fun g hg _ _ => by
      rcases hg with hg | hg
      · exact .inl (Nat.le_trans hW.le hg)
      · exact hg.1)
    have hW2 : Wk row w0 w0F F' w' := hW.transR hW' (fun g hg => hg.1)
    refine ⟨_, ρ', r, rfl, rfl, hF', .inr ⟨D, rfl, hD', hz _ _ _ ⟨F', ?_, hK2⟩⟩⟩
    exact hW2.mut (grownBy_putObj' w' D _) (fun g e => by cases e; exact .inl hD)

/-- The loop itself. -/
theorem RefD.range {row F0 : BSet} {w0 : World} {i : Nat} {x : Operand} {ps : List Nat} {assign body : Code} {its : σ → List β} {setf : β → σ → σ} {mA mB : σ → Option (Ctl σ τ)} {rel : BSet → World → List Value → β → Prop}
    {KL : PT → BSet → BSet → σ → World → Prop} {KA KB KC : PT → BSet → BSet → σ → Env → World → Prop} {Pin : PT → Env → Prop}
    (hA : ∀ s ρ w, A s ρ w → ∃ p vss F, Wk row w0 F0 F w ∧ KL p F (Bs w0 row) s w ∧ Pin p ρ ∧ IterOK P F w (ev ρ x) vss ∧ All2 (rel F w) vss (its s))
    (hrel : ∀ {F w F' w' vs it}, rel F w vs it → Stp F w F' w' → rel F' w' vs it) (hps : ∀ {F w vs it}, rel F w vs it → vs.length = ps.length) (hpn : (ps.all fun p => Nat.blt p n) = true)
    (cL : ∀ p s, Core (fun F B w => KL p F B s w)) (hin : ∀ {p F B s ρ w vs it}, KL p F B s w → Pin p ρ → rel F w vs it → KA p F B (setf it s) (setps ρ ps vs) w)
    (cA : ∀ p s ρ, Core (fun F B w => KA p F B s ρ w))
    (hasg : ∀ l p rs w1 F1, RefG (some l) P n assign (fun s ρ w => GK rs w1 F1 (fun F B w => KA p F B s ρ w) w) mA (fun s ρ w => GK rs w1 F1 (fun F B w => KB p F B s ρ w) w) (fun _ _ _ _ => False) (fun _ _ _ => False))
    (cB : ∀ p s ρ, Core (fun F B w => KB p F B s ρ w))
    (hbody : ∀ l p rs w1 F1, RefG (some l) P n body (fun s ρ w => GK rs w1 F1 (fun F B w => KB p F B s ρ w) w) mB (fun s ρ w => GK rs w1 F1 (fun F B w => KC p F B s ρ w) w) (fun _ _ _ _ => False) (fun _ _ _ => False))
    (hout : ∀ {p F B s ρ w}, KC p F B s ρ w → KL p F B s w) :
    RefD P n (.block i (.rangeFunc x ps.toArray assign body)) A (blockM i (rangeM its setf mA mB)) (fun D s ρ w => ∃ p F, Wk row w0 F0 F w ∧ ¬ F D ∧ w0.heap.size ≤ D ∧ KL p F (Bs w0 row) s w ∧ Pin p ρ) := by
  intro dp s ρ w a hA' hF o hm
  obtain ⟨p, vss, F, hW, hK, hP, hIt, hR⟩ := hA s ρ w hA'
  obtain ⟨gf, lb, hv, hcf, hIt⟩ := hIt
  unfold blockM at hm
  cases hr : rangeM its setf mA mB s with
  | none => rw [hr] at hm; cases hm
  | some o1 =>
  rw [hr] at hm
  refine wpIn_block ?_
  refine wpIn_rangeFunc ?_
  intro fn hfn
  obtain ⟨rec, hrec⟩ : ∃ rec : LoopState → Option Code → Loop, rec = fun st pe => { state := st, pending := pe, fn, tmps := a.tmps, params := ps.toArray, assign, body, defers := w.heap.size } := ⟨_, rfl⟩
  obtain ⟨W1, hW1⟩ : ∃ W1, (w.alloc (.deferred (some []))).alloc (.loop (rec .ready none)) = W1 := ⟨_, rfl⟩
  have hL1 : W1.heap[w.heap.size + 1]? = some (.loop (rec .ready none)) := by
    rw [← hW1]; have := World.alloc_heap_new (w.alloc (.deferred (some []))) (.loop (rec .ready none)); rwa [World.size_alloc] at this
  have hK1 : W1.heap[w.heap.size]? = some (.deferred (some [])) := by
    rw [← hW1]; exact (Below.heap_alloc _ _ _ (by simp)).trans (World.alloc_heap_new w _)
  have hWA : Wk nrow w F F W1 := by
    rw [← hW1]; exact (Wk.alloc hW.ok _).trans (Wk.alloc (Wk.alloc (row := nrow) hW.ok _).ok _)
  have hFD : ¬ F w.heap.size := fun h => absurd (hW.ok _ h) (by omega)
  have hFl : ¬ F (w.heap.size + 1) := fun h => absurd (hW.ok _ h) (by omega)
  refine ⟨w.heap.size + 1, [{ target := .collected w.heap.size, args := #[] }], W1, { target := .fn (.func gf) lb, args := #[.func (.yield (w.heap.size + 1)) #[] #[]] }, W1, gf,
    #[.func (.yield (w.heap.size + 1)) #[] #[]] ++ lb, W1, ?_, ?_, ?_, ?_, fun e => by simp [Fence.wide] at e, ?_⟩
  · rw [← hW1, hrec]; exact run_enterLoop_outer _ _ _ _ _
  · have hv' : a.eval x = .func (.func gf) #[] lb := by rw [hF.eval]; exact hv
    simp only [resolve, hv']
    simp [go_sem]
  · intro f' hf'; trivial
  · simp [invoke, go_sem, hcf]
  · refine CallsIn.mono (show CallsIn Fence.wide _ P gf _ W1 _ from callsIn_wide.2 (callsIn_wide.1 (hIt W1 (hWA.stp hW.ok) (w.heap.size + 1)
      (fun i W => (∃ si F1, forL setf mA mB ((its s).drop i) si = some o1 ∧ Wk row w0 F0 F1 W ∧ Stp F w F1 W ∧ ¬ F1 w.heap.size ∧ ¬ F1 (w.heap.size + 1) ∧ KL p F1 (Bs w0 row) si W) ∧
        W.heap[w.heap.size + 1]? = some (.loop (rec .ready none)) ∧ W.heap[w.heap.size]? = some (.deferred (some [])))
      ?_ ?_ ?_ ?_))) ?_
    · rintro i W ⟨⟨si, F1, _, _, hs, _⟩, _⟩
      exact hs.back
    · rintro i W ⟨⟨si, F1, hfo, hWW, hs, hnD, hnl, hKL⟩, hl, hD⟩
      exact ⟨⟨si, F1, hfo, hWW.drewS, hs.trans (sd hWW), hnD, hnl, (cL _ _).wk hKL (Wk.drew hWW.ok) hWW.ok⟩, hl, hD⟩
    · rintro j vs W hj ⟨⟨si, F1, hfo, hWW, hs, hnD, hnl, hKL⟩, hl, hD⟩
      obtain ⟨it, hdr, hrl⟩ := All2.get hR hj
      have hlt : w.heap.size + 1 < W.heap.size := (Array.getElem?_eq_some_iff.1 hl).1
      have hy := run_yield (P := P) (args := vs.toArray) hl (by rw [hrec]; simp [hps hrl])
      rw [hrec] at hy
      rw [hdr] at hfo
      simp only [forL, seqM] at hfo
      refine ⟨fn, _, assign, body, hy, roundIn_of_wpIn hfn ?_⟩
      cases hoa : mA (setf it si) with
      | none => rw [hoa] at hfo; cases hfo
      | some oa =>
      rw [hoa] at hfo
      have hA1 : GK (rsOf (Bs w0 row) F1 W) W F1 (fun F B w => KA p F B (setf it si) (setps ρ ps vs) w) W :=
        ⟨F1, Wk.refl hWW.ok, (cA _ _ _).base (hin hKL hP (hrel hrl hs)) (fun g hg hn ho => .inr ⟨hg, hn, ho⟩)⟩
      have hF0 : Fr [] n { tmps := a.tmps, defers := [] } ρ := ⟨rfl, hF.size, hF.get⟩
      refine wpIn_mono (hasg (w.heap.size + 1) p _ W F1 [] 0 _ _ W _ hA1 (fr_setps hpn (hps hrl) hF0) oa hoa) ?_
      rintro e a2 W2 ⟨ρ2, hF2, hq⟩
      cases oa with
      | ret r => cases e <;> exact hq.elim
      | ext q s2 => cases e <;> first | exact hq.elim | exact hq.2.elim
      | nrm s2 =>
      cases e <;> first | exact hq.elim | skip
      obtain ⟨F2, hW2, hKB⟩ := hq
      dsimp only at hfo
      have hl2 : W2.heap[w.heap.size + 1]? = some (.loop (rec .ready none)) := (hW2.block _ hlt (rsOf.not hl rfl)).trans hl
      have hD2 : W2.heap[w.heap.size]? = some (.deferred (some [])) := (hW2.block _ (by omega) (rsOf.not hD rfl)).trans hD
      have hnl2 : ¬ F2 (w.heap.size + 1) := fun h => hnl (hW2.old _ hlt h)
      have hnD2 : ¬ F2 w.heap.size := fun h => hnD (hW2.old _ (by omega) h)
      have hs2 : Stp F w F2 W2 := hs.trans (hW2.stpR hWW.ok (fun g hg => hg.2.1))
      have hWW2 : Wk row w0 F0 F2 W2 := hWW.transR hW2 (fun g hg => hg.1)
      have hlt2 : w.heap.size + 1 < W2.heap.size := (Array.getElem?_eq_some_iff.1 hl2).1
      refine ⟨_, run_beginRound hl2 (by rw [hrec]), ?_⟩
      obtain ⟨W2', hW2'⟩ : ∃ W2', W2.putObj (w.heap.size + 1) (.loop { rec .ready none with state := .busy }) = W2' := ⟨_, rfl⟩
      rw [hW2']
      have hl3 : W2'.heap[w.heap.size + 1]? = some (.loop { rec .ready none with state := .busy }) := by rw [← hW2']; exact World.putObj_heap_same hlt2
      have hD3 : W2'.heap[w.heap.size]? = some (.deferred (some [])) := by rw [← hW2']; exact (World.putObj_heap_other (by omega)).trans hD2
      have hs3 : Stp F w F2 W2' := by rw [← hW2']; exact hs2.trans (Stp.put _ _ _ hnl2)
      have hWW3 : Wk row w0 F0 F2 W2' := by rw [← hW2']; exact hWW2.put _ (by have := hW.le; omega)
      have hKB3 : KB p F2 (Bs W (rsOf (Bs w0 row) F1 W)) s2 ρ2 W2' := by rw [← hW2']; exact (cB _ _ _).put hKB hnl2 hl2 rfl
      have hback : ∀ g, Bs W (rsOf (Bs w0 row) F1 W) g → Bs w0 row g := fun g hg => by
        rcases hg with hg | hg
        · exact .inl (Nat.le_trans hWW.le hg)
        · exact hg.1
      have hB1 : GK (rsOf (Bs w0 row) F2 W2') W2' F2 (fun F B w => KB p F B s2 ρ2 w) W2' := ⟨F2, Wk.refl hWW3.ok, (cB _ _ _).base hKB3 (fun g hg hn ho => .inr ⟨hback g hg, hn, ho⟩)⟩
      have hlt3 : w.heap.size + 1 < W2'.heap.size := (Array.getElem?_eq_some_iff.1 hl3).1
      cases hob : mB s2 with
      | none => rw [hob] at hfo; cases hfo
      | some ob =>
      rw [hob] at hfo
      refine wpIn_mono (hbody (w.heap.size + 1) p _ W2' F2 [] 0 _ _ W2' _ hB1 hF2 ob hob) ?_
      rintro e a3 W3 ⟨ρ3, hF3, hq⟩
      cases ob with
      | ret r => cases e <;> exact hq.elim
      | ext q s2 => cases e <;> first | exact hq.elim | exact hq.2.elim
      | nrm s3 =>
      cases e <;> first | exact hq.elim | skip
      obtain ⟨F3, hW3, hKC⟩ := hq
      dsimp only at hfo
      have hl4 : W3.heap[w.heap.size + 1]? = some (.loop { rec .ready none with state := .busy }) := (hW3.block _ hlt3 (rsOf.not hl3 rfl)).trans hl3
      have hD4 : W3.heap[w.heap.size]? = some (.deferred (some [])) := (hW3.block _ (by omega) (rsOf.not hD3 rfl)).trans hD3
      have hnl4 : ¬ F3 (w.heap.size + 1) := fun h => hnl2 (hW3.old _ hlt3 h)
      have hnD4 : ¬ F3 w.heap.size := fun h => hnD2 (hW3.old _ (by omega) h)
      have hs4 : Stp F w F3 W3 := hs3.trans (hW3.stpR hWW3.ok (fun g hg => hg.2.1))
      have hWW4 : Wk row w0 F0 F3 W3 := hWW3.transR hW3 (fun g hg => hg.1)
      have hlt4 : w.heap.size + 1 < W3.heap.size := (Array.getElem?_eq_some_iff.1 hl4).1
      have hend := run_endRound (P := P) none hl4
      have hnew : ({ rec .ready none with state := if Option.isNone (none : Option Code) = true then LoopState.ready else LoopState.done, pending := none } : Loop) = rec .ready none := by rw [hrec]; rfl
      refine ⟨_, _, hend, rfl, ⟨s3, F3, hfo, hWW4.put _ (by have := hW.le; omega), hs4.trans (Stp.put _ _ _ hnl4), hnD4, hnl4, ?_⟩, ?_, (World.putObj_heap_other (by omega)).trans hD4⟩
      · refine (cL _ _).base ((cL _ _).put (hout hKC) hnl4 hl4 rfl) (fun g hg _ _ => ?_)
        rcases hg with hg | hg
        · exact .inl (Nat.le_trans hWW3.le hg)
        · exact hg.1
      · rw [World.putObj_heap_same hlt4]
        exact congrArg (fun x => some (Obj.loop x)) hnew
    · exact ⟨⟨s, F, hr, hW.trans hWA, hWA.stp hW.ok, hFD, hFl, (cL _ _).wk hK hWA hW.ok⟩, hL1, hK1⟩
    · rintro e W2 ⟨⟨v, rfl⟩, ⟨si, F1, hfo, hWW, hs, hnD, hnl, hKL⟩, hl, hD⟩
      have hlen : (its s).drop vss.length = [] := by rw [hR.len]; simp
      rw [hlen] at hfo
      simp only [forL] at hfo
      cases Option.some.inj hfo
      cases Option.some.inj hm
      have hlt : w.heap.size + 1 < W2.heap.size := (Array.getElem?_eq_some_iff.1 hl).1
      have hpen : (rec .ready none).pending = none := by rw [hrec]
      have hel := run_endLoop (P := P) hl (by rw [hrec]; simp)
      rw [hpen] at hel
      refine ⟨none, _, hel, ?_⟩
      refine ⟨si, ρ, w.heap.size, rfl, rfl, ⟨by simp [hF.defers], hF.size, hF.get⟩, (World.putObj_heap_other (by omega)).trans hD, p, F1, hWW.put _ (by have := hW.le; omega), hnD, hW.le, ?_, hP⟩
      exact (cL _ _).put hKL hnl hl rfl
end

/-- A function's contract, where its body holds a range over a function. -/
theorem calls_of_refT {σ τ : Type} {P : Program} {w : World} {n f : Nat} {fn : Func} {c : Code} {args : List Value} {A : σ → Env → World → Prop} {R : τ → Env → World → Prop} {m : σ → Option (Ctl σ τ)} {post : Value → World → Prop} {r : τ} (s0 : σ)
    (hf : P.funcs[f]? = some fn) (hb : fn.body = some c) (hn : fn.ntmps = n) (hs : Nat.ble args.length n = true) (href : RefT P n c A m R) (hA : A s0 (fun t => args.toArray.getD t undef) w) (ho : m s0 = some (.ret r))
    (hret : ∀ ρ w' dl a, R r ρ w' → Fr dl n a ρ → ∃ v, (results fn a.tmps).run P w' = .ok v w' ∧ post v w') : Calls P f args.toArray w fun e w' => ∃ v, e = .returned v ∧ post v w' := by
  refine callsIn_wide.1 (callsIn_of_wp_marks (F := Fence.wide) (n := 0) hf hb trivial ?_)
  have hF := Fr.start args.toArray n (by have := Nat.le_of_ble_eq_true hs; simpa using this)
  rw [← hn] at hF
  refine wpIn_mono (href 0 s0 _ w _ hA (hn ▸ hF) _ ho) ?_
  rintro e a w' ⟨dl, ρ, r', he, rfl, hF', hq⟩
  cases he
  rcases hq with ⟨rfl, hq⟩ | ⟨D, rfl, hD, hq⟩
  · obtain ⟨v, hr, hp⟩ := hret ρ w' _ a hq hF'
    show LeavesInM _ _ _ _ _ _ a.defers _ _
    rw [hF'.defers]
    exact ⟨v, hr, v, rfl, hp⟩
  · obtain ⟨v, hr, hp⟩ := hret ρ _ _ a hq hF'
    show LeavesInM _ _ _ _ _ _ a.defers _ _
    rw [hF'.defers]
    exact ⟨by simp, .inl ⟨D, _, rfl, run_takeDeferred hD, v, hr, v, rfl, hp⟩⟩

/-! ### iterators -/
section
variable {α : Type} {k : Kd α} {e : TypeId} {B B' F : BSet} {w : World}
theorem OwnV.apartN {v : Value} {xs : List α} (h : OwnV k e B F w v xs) {b : Nat} {o : Obj} (hb : w.heap[b]? = some o) (hc : o.isCells = false) : Apart (some b) v.ownBlock := by
  rintro g hg hv
  cases hg
  rcases h with ⟨rfl, _⟩ | ⟨g', o', cap, cur, cs, rfl, _, _, hh, _⟩
  · simp [Value.ownBlock] at hv
  · simp [Value.ownBlock] at hv
    subst hv
    rw [hb] at hh; cases hh; cases hc
theorem OwnV.putN {v : Value} {xs : List α} (h : OwnV k e B F w v xs) {b : Nat} {o o' : Obj} (hF : ¬ F b) (hb : w.heap[b]? = some o) (hc : o.isCells = false) : OwnV k e B F (w.putObj b o') v xs :=
  h.mut (h.apartN hb hc) (grownBy_putObj' w b o') (Stp.put _ _ _ hF)
theorem OwnV.baseN {v : Value} {xs : List α} (h : OwnV k e B F w v xs) (hB : ∀ g, B g → ¬ F g → (∃ o : Obj, w.heap[g]? = some o ∧ o.isCells = true) → B' g) : OwnV k e B' F w v xs := by
  rcases h with h | ⟨g, o, cap, cur, cs, e1, h1, h2, h3, h4⟩
  · exact .inl h
  · exact .inr ⟨g, o, cap, cur, cs, e1, hB g h1 h2 ⟨_, h3, rfl⟩, h2, h3, h4⟩
theorem Box.putN {g : Nat} {x : α} (h : Box k e B F w g x) {b : Nat} {o o' : Obj} (hF : ¬ F b) (hb : w.heap[b]? = some o) (hc : o.isCells = false) : Box k e B F (w.putObj b o') g x := by
  refine h.mut (r := some b) ?_ (grownBy_putObj' w b o') (Stp.put _ _ _ hF)
  rintro g' hg' hv
  cases hg'; cases hv
  obtain ⟨cs, hh, _⟩ := h
  rw [hb] at hh; cases hh; cases hc
theorem Box.baseN {g : Nat} {x : α} (h : Box k e B F w g x) (hB : ∀ g, B g → ¬ F g → (∃ o : Obj, w.heap[g]? = some o ∧ o.isCells = true) → B' g) : Box k e B' F w g x := by
  obtain ⟨cs, h1, h2, h3, h4⟩ := h
  exact ⟨cs, h1, h2, hB g h3 h4 ⟨_, h1, rfl⟩, h4⟩
theorem OwnV.raw {v : Value} {xs : List α} (h : OwnV k e B F w v xs) : Val kRaw F w v v := by
  obtain ⟨A, c, rfl, _⟩ := h.shape
  exact ⟨[_], ⟨rfl, rfl⟩, rfl⟩
theorem SlR.raw {v : Value} {xs : List α} (h : SlR k F w v xs) : Val kRaw F w v v := by
  obtain ⟨A, c, rfl, _⟩ := h
  exact ⟨[_], ⟨rfl, rfl⟩, rfl⟩
end
theorem e_mkf {P : Program} {ρ : Env} {w : World} {fn : Fn} {xs ys : List Operand} {us vs : List Value} (hx : xs.map (ev ρ) = us) (hy : ys.map (ev ρ) = vs) : Ev P ρ w (.makeFunc fn xs.toArray ys.toArray) (.func fn us.toArray vs.toArray) :=
  fun _ _ _ _ _ => by subst hx; subst hy; simp [execOp, Instr.makeFunc]
section
variable {P : Program} {ops : Array Oper} {F : Fence} {d : Nat}
theorem in_append {Q : Exit → Act → World → Prop} {l2 : List Oper} : ∀ (l1 : List Oper) (a : Act) (w : World),
    wpListIn F d P ops (fun e a' w' => match e with | .normal => wpListIn F d P ops Q l2 a' w' | e => Q e a' w') l1 a w → wpListIn F d P ops Q (l1 ++ l2) a w
  | [], a, w, h => h
  | o :: l1, a, w, h => by
    have ih := in_append (Q := Q) (l2 := l2) l1
    simp only [List.cons_append, wpListIn] at h ⊢
    split
    · rename_i hw
      rw [if_pos hw] at h
      refine ⟨h.1, ?_⟩
      have h2 := h.2
      generalize (o.semAt F.round a.eval).run P w = x at h2 ⊢
      cases x with
      | ok nx w' =>
        cases nx <;> simp only [Oper.uponIn] at h2 ⊢ <;> try exact ih _ _ h2
        · exact ⟨h2.1, h2.2.mono fun e w2 he => by cases e <;> first | exact ih _ _ he | exact he⟩
        · first | exact ⟨h2.1, h2.2.mono fun v w2 he => ih _ _ he⟩ | exact ⟨h2.1, h2.2.mono fun e w2 he => by cases e <;> first | exact ih _ _ he | exact he⟩
        · first | exact ⟨h2.1, h2.2.mono fun v w2 he => ih _ _ he⟩ | exact ⟨h2.1, h2.2.mono fun e w2 he => by cases e <;> first | exact ih _ _ he | exact he⟩
      | halt hh w' => cases hh <;> simp only [Oper.uponIn] at h2 ⊢ <;> exact h2
    · rename_i hw
      rw [if_neg hw] at h
      exact ⟨h.1, ih _ _ h.2⟩

/-- The first operations of a region, by their own rules. -/
theorem ol_part {rd : Option Nat} {n : Nat} {l1 l2 : List Oper} {ρ : Env} {w : World} {dl : List Deferred} {a : Act} {Q : Exit → Act → World → Prop} (K : Env → World → Prop) (hd : noDefer l1 = true) (h : OL P ops K n 0 l1 ρ w) (hF : Fr dl n a ρ) (hQ : ¬ LetsOut Q)
    (k : ∀ ρ' w' a', K ρ' w' → Fr dl n a' ρ' → wpListIn (wd rd) d P ops Q l2 a' w') : wpListIn (wd rd) d P ops Q (l1 ++ l2) a w :=
  in_append _ _ _ (in_of_list (by rintro ⟨a0, w0, h0⟩; exact hQ ⟨a0, w0, h0⟩) l1 hd a w (h dl a hF _ fun ρ' w' a' hK hF' => k ρ' w' a' hK hF'))

/-- A region, as it comes. -/
theorem wp_reg {rd : Option Nat} {n id : Nat} {l : List Oper} {ρ : Env} {w : World} {dl : List Deferred} {a : Act} {Q : Exit → Act → World → Prop} (K : Env → World → Prop) (hd : noDefer l = true) (h : OL P l.toArray K n 0 l ρ w) (hF : Fr dl n a ρ) (hQ : ¬ LetsOut Q)
    (k : ∀ ρ' w' a', K ρ' w' → Fr dl n a' ρ' → Q .normal a' w') : (Code.region id l.toArray false).wpIn (wd rd) d P Q a w :=
  wpIn_region_lit (in_of_list hQ l hd a w (h dl a hF Q k))
end
section
variable {α : Type} {k : Kd α} {F : BSet} {w : World} {v : Value}
theorem eqv_int {i : IntKind} {n : Int} (h : Val (kInt i) F w v n) : v = .int i n := by obtain ⟨cs, rfl, rfl⟩ := h; rfl
theorem eqv_bool {n : Bool} (h : Val kBool F w v n) : v = .bool n := by obtain ⟨cs, rfl, rfl⟩ := h; rfl
theorem Apart.sub {a b c : Option Nat} (h : ∀ g, a = some g → b = some g) (hb : Apart b c) : Apart a c := fun g hg hc => hb g (h g hg) hc
end
/-! ### several blocks that a call may write; a struct in memory with rows of its own -/
/-- The cell holds v. -/
def CellAt (w : World) (g o : Nat) (v : Value) : Prop := ∃ cur e, w.heap[g]? = some (.cells cur e (0, 0)) ∧ cur[o]? = some v
section
variable {α β : Type} {P : Program} {k : Kd α} {l : Kd β} {F F0 : BSet} {w w' w0 : World} {row : BSet}
theorem Box.stored {e g off : Nat} {t : TypeId} {x : α} {y : β} {u : Value} {put : α → β → α} (hW : Wk row w0 F0 F w) (h : Box k e (Bs w0 row) F w g x) (hp : FldS k off l put) (ht : TyOk P t l) (hu : Val l F w u y)
    (hst : (Instr.storeAt t (.pointer (some ⟨g, off, none⟩)) u).run P w = .ok () w') : Wk row w0 F0 F w' ∧ Box k e (Bs w0 row) F w' g (put x y) ∧ w.grownBy w' (some g) ∧ Stp F w F w' := by
  obtain ⟨w2, hr, h3, h4⟩ := h.store (P := P) hW.ok hp ht hu
  rw [hst] at hr
  obtain ⟨_, rfl⟩ := Result.ok.inj hr
  exact ⟨hW.mut h4 (fun g' e => by cases e; exact h.ge), h3, h4, Stp.mut hW.ok h4 (fun g' e => by cases e; exact h.nF)⟩
theorem CellAt.lies {g o : Nat} {v : Value} (h : CellAt w g o v) (hv : v.oneCell' = true) : LiesV kRaw F w g o v v := by
  obtain ⟨cur, e, h1, h2⟩ := h
  refine ⟨[v], ⟨rfl, hv⟩, fun j hj => ?_, rfl⟩
  have : j = 0 := by have : j < 1 := hj; omega
  subst this
  simp [World.cell?, h1, h2]
end
/-- A branch that is not gone. -/
def noneM {σ τ : Type} (s : σ) : Option (Ctl σ τ) := none
theorem Ref.noneM {σ τ : Type} {rd : Option Nat} {P : Program} {n : Nat} {c : Code} {A B : σ → Env → World → Prop} {X : Nat → σ → Env → World → Prop} {R : τ → Env → World → Prop} : RefG rd P n c A Go.Fx.noneM B X R := fun dl d s ρ w a hA hF o hm => by cases hm
/-! ### bytes as a string -/
def strOf (xs : List UInt8) : ByteArray := ⟨xs.toArray⟩
theorem strOf_inj {xs ys : List UInt8} : strOf xs = strOf ys ↔ xs = ys := by
  constructor
  · intro h
    have := congrArg (fun b : ByteArray => b.data.toList) h
    simpa [strOf] using this
  · rintro rfl; rfl
section
variable {P : Program} {ρ : Env} {w : World} {F : BSet}
theorem strOf_nums (xs : List UInt8) : strOfNums (xs.map fun x => (x.toNat : Int)) = strOf xs := by
  have : List.map ((fun n : Int => UInt8.ofNat n.toNat) ∘ fun x : UInt8 => (x.toNat : Int)) xs = xs := by
    rw [List.map_congr_left (g := id) (fun x _ => by simp)]; simp
  simp [strOfNums, strOf, this]
theorem e_b2s_at {x : Operand} {t e d : TypeId} {b o c : Nat} {xs : List UInt8} (ht : SlOk P t e) (he : P.underlying e = some (.int .u8)) (hd : P.underlying d = some .string) (hx : ev ρ x = .slice (some ⟨b, o, none⟩) xs.length c)
    (hc : ∀ i y, xs[i]? = some y → w.cell? ⟨b, o + i, none⟩ = some (.int .u8 y.toNat)) : Ev P ρ w (.convert t d x) (.string (strOf xs)) := by
  have h := run_convert_bytes_arg (P := P) w t e ht he b o xs.length c (xs.map fun x => (x.toNat : Int)) (by simp) (fun i hi => by
    rw [hc i xs[i] (List.getElem?_eq_getElem hi)]
    simp [List.getD, List.getElem?_map, hi]) d hd
  rw [strOf_nums] at h
  intro d' ty pos after g
  simp only [execOp, hx, Sem.run_bind, h, Result.andThen_ok, Sem.run_pure]
theorem e_b2s_nil {x : Operand} {t e d : TypeId} {A : Option Addr} {c : Nat} (ht : SlOk P t e) (he : P.underlying e = some (.int .u8)) (hd : P.underlying d = some .string) (hx : ev ρ x = .slice A 0 c) : Ev P ρ w (.convert t d x) (.string (strOf [])) := by
  have h : (convert t d (.slice A 0 c)).run P w = .ok (.string (strOf [])) w := by
    cases A with
    | none => exact run_convert_bytes_nil (P := P) w t e ht he 0 c d hd
    | some a =>
      rw [run_convert_bytes_string w t d e _ 0 c ht he hd]
      exact run_bytesToString (P := P) w a 0 c [] (by simp [loadCells, loadCellsFrom])
  intro d' ty pos after g
  simp only [execOp, hx, Sem.run_bind, h, Result.andThen_ok, Sem.run_pure]
theorem e_b2s {x : Operand} {t e d : TypeId} {v : Value} {xs : List UInt8} (ht : SlOk P t e) (he : P.underlying e = some (.int .u8)) (hd : P.underlying d = some .string) (hs : SlR kByte F w v xs) (hx : ev ρ x = v) : Ev P ρ w (.convert t d x) (.string (strOf xs)) := by
  obtain ⟨A, c, rfl, hc, hR⟩ := hs
  rcases hR with rfl | ⟨b, o, rfl, hR⟩
  · exact e_b2s_nil ht he hd hx
  · refine e_b2s_at ht he hd hx (fun i y hy => ?_)
    obtain ⟨_, cs, hr, hcell⟩ := hR i y hy
    have h0 := hcell 0 (Nat.zero_lt_one)
    obtain rfl := hr
    simpa [kByte] using h0
end
end Go.Fx
