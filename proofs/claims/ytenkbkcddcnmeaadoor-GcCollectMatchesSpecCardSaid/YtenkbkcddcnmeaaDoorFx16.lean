/- Ranges over functions that the body may leave by a return; iterators with a variable of their own. -/
import Derived.Test.YtenkbkcddcnmeaaDoorFx15
namespace Go.Fx
open Go.RowKit
set_option linter.unusedVariables false

/-- Block g holds cells. -/
def SelfAt (w : World) (g : Nat) : Prop := ∃ o : Obj, w.heap[g]? = some o ∧ o.isCells = true
theorem SelfAt.lt {w : World} {g : Nat} (h : SelfAt w g) : g < w.heap.size := by obtain ⟨o, h, _⟩ := h; exact (Array.getElem?_eq_some_iff.1 h).1
theorem SelfAt.same {w w' : World} {g : Nat} (h : SelfAt w g) (e : w'.heap[g]? = w.heap[g]?) : SelfAt w' g := by obtain ⟨o, h, hc⟩ := h; exact ⟨o, e.trans h, hc⟩
/-- The value v is an iterator with a variable of its own in block g: it yields the items, one by one, until a round says no. -/
def IterS (P : Program) (F : BSet) (w : World) (g : Nat) (v : Value) (items : List (List Value)) : Prop :=
  ∃ gf lb, v = .func (.func gf) #[] lb ∧ (∀ args w, (callFunc gf args).run P w = .ok (.enter gf args) w) ∧ SelfAt w g ∧ ¬ F g ∧
  ∀ (W : World), Stp F w F W → W.heap[g]? = w.heap[g]? → ∀ (l : Nat) (J : Nat → World → Prop) (Jx : World → Prop), (∀ i W1, J i W1 → Stp F w F W1) → (∀ i W1, J i W1 → J i W1.drew) → (∀ W1, Jx W1 → Jx W1.drew) →
    (∀ i W1 W2, J i W1 → W1.grownBy W2 (some g) → SelfAt W2 g → J i W2) →
    (∀ i vs W1, items[i]? = some vs → J i W1 → YieldAt Fence.wide 0 P l vs.toArray W1 fun e W' => (e = .returned (.bool true) ∧ J (i + 1) W' ∧ W'.heap[g]? = W1.heap[g]?) ∨ (e = .returned (.bool false) ∧ Jx W')) → J 0 W →
    CallsIn Fence.wide 0 P gf (#[.func (.yield l) #[] #[]] ++ lb) W fun e W' => (∃ u, e = .returned u) ∧ (J items.length W' ∨ Jx W')
theorem IterS.keep {P : Program} {F F' : BSet} {w w' : World} {g : Nat} {v : Value} {items : List (List Value)} (h : IterS P F w g v items) (s : Stp F w F' w') (hg : w'.heap[g]? = w.heap[g]?) (hn : ¬ F' g) : IterS P F' w' g v items := by
  obtain ⟨gf, lb, e, hc, h1, _, h⟩ := h
  refine ⟨gf, lb, e, hc, h1.same hg, hn, fun W hW hWg l J Jx hJ hD hDx hO hY h0 => h W (s.trans ⟨hW.keep, hW.mono⟩).back (hWg.trans hg) l J Jx (fun i W1 hj => (s.trans (hJ i W1 hj)).back) hD hDx hO hY h0⟩

/-- .. and what abides a step of a block that is none of its own. -/
structure CoreO (K : BSet → BSet → World → Prop) : Prop extends Core K where
  own : ∀ {F B : BSet} {w w' : World} {g : Nat}, K F B w → ¬ F g → ¬ B g → w.grownBy w' (some g) → (∀ b, F b → b < w.heap.size) → K F B w'
theorem OwnV.ownB {α : Type} {k : Kd α} {e : TypeId} {B F : BSet} {w w' : World} {v : Value} {xs : List α} {g : Nat} (h : OwnV k e B F w v xs) (hF : ¬ F g) (hB : ¬ B g) (hg : w.grownBy w' (some g)) (ok : ∀ b, F b → b < w.heap.size) : OwnV k e B F w' v xs :=
  h.mut (fun a ha hv => by cases ha; exact hB (h.lt hv).1) hg (Stp.mut ok hg (fun a ha => by cases ha; exact hF))
theorem Box.ownB {α : Type} {k : Kd α} {e : TypeId} {B F : BSet} {w w' : World} {b : Nat} {x : α} {g : Nat} (h : Box k e B F w b x) (hF : ¬ F g) (hB : ¬ B g) (hg : w.grownBy w' (some g)) (ok : ∀ b, F b → b < w.heap.size) : Box k e B F w' b x :=
  h.mut (fun a ha hv => by cases ha; cases hv; exact hB h.ge) hg (Stp.mut ok hg (fun a ha => by cases ha; exact hF))
theorem stpOwn {F : BSet} {w w' : World} {g : Nat} (hF : ¬ F g) (hg : w.grownBy w' (some g)) (ok : ∀ b, F b → b < w.heap.size) : Stp F w F w' := Stp.mut ok hg (fun a ha => by cases ha; exact hF)
/-- All but the iterator's own block. -/
def Bs' (w0 : World) (row : BSet) (g : Nat) : BSet := fun b => Bs w0 row b ∧ b ≠ g
section
variable {σ τ β PT : Type} {P : Program} {n : Nat} {A B : σ → Env → World → Prop} {R : τ → Env → World → Prop} {c d : Code} {m k : σ → Option (Ctl σ τ)}
/-- Code that holds the loop: it is left with the loop's mark, or by a return. -/
def RefS (P : Program) (n : Nat) (c : Code) (A : σ → Env → World → Prop) (m : σ → Option (Ctl σ τ)) (BD : Nat → σ → Env → World → Prop) (BX : Nat → τ → Env → World → Prop) : Prop :=
  ∀ d s ρ w a, A s ρ w → Fr [] n a ρ → ∀ o, m s = some o → c.wpIn Fence.wide d P (fun e a' w' => ∃ ρ' D, Fr [{ target := .collected D, args := #[] }] n a' ρ' ∧ w'.heap[D]? = some (.deferred (some [])) ∧
    ((∃ s', o = .nrm s' ∧ e = .normal ∧ BD D s' ρ' w') ∨ (∃ r, o = .ret r ∧ e = .ret ∧ BX D r ρ' w'))) a w
theorem RefS.seq {BD : Nat → σ → Env → World → Prop} {BX : Nat → τ → Env → World → Prop} (h1 : Ref P n c A m B (fun _ _ _ _ => False) (fun _ _ _ => False)) (h2 : RefS P n d B k BD BX) : RefS P n (.seq c d) A (seqM m k) BD BX := by
  intro dp s ρ w a hA hF o hm
  unfold seqM at hm
  cases h : m s with
  | none => rw [h] at hm; cases hm
  | some o1 =>
    rw [h] at hm
    refine wpIn_seq (wpIn_mono (h1 [] dp s ρ w a hA hF o1 h) ?_)
    rintro e a' w' ⟨ρ', hF', hq⟩
    cases o1 with
    | nrm s' =>
      cases e <;> first | exact hq.elim | exact h2 dp s' ρ' w' a' hq hF' o hm
    | ext i s' =>
      cases e <;> first | exact hq.elim | exact hq.2.elim
    | ret r =>
      cases e <;> exact hq.elim
theorem RefT.seqS {BD : Nat → σ → Env → World → Prop} {BX : Nat → τ → Env → World → Prop} (h1 : RefS P n c A m BD BX)
    (h2 : ∀ D d' s ρ w a, BD D s ρ w → w.heap[D]? = some (.deferred (some [])) → Fr [{ target := .collected D, args := #[] }] n a ρ → ∀ o, k s = some o → d.wpIn Fence.wide d' P (QT n R o) a w)
    (hx : ∀ D r ρ w, BX D r ρ w → w.heap[D]? = some (.deferred (some [])) → R r ρ (w.putObj D (.deferred none))) : RefT P n (.seq c d) A (seqM m k) R := by
  intro dp s ρ w a hA hF o hm
  unfold seqM at hm
  cases h : m s with
  | none => rw [h] at hm; cases hm
  | some o1 =>
    rw [h] at hm
    refine wpIn_seq (wpIn_mono (h1 dp s ρ w a hA hF o1 h) ?_)
    rintro e a' w' ⟨ρ', D, hF', hh, hb⟩
    rcases hb with ⟨s', rfl, rfl, hb⟩ | ⟨r, rfl, rfl, hb⟩
    · exact h2 D dp s' ρ' w' a' hb hh hF' o hm
    · cases Option.some.inj hm
      exact ⟨_, ρ', r, rfl, rfl, hF', .inr ⟨D, rfl, hh, hx D r ρ' w' hb hh⟩⟩
/-- The loop itself. -/
theorem RefS.range {row F0 : BSet} {w0 : World} {i : Nat} {x : Operand} {ps : List Nat} {assign body : Code} {its : σ → List β} {setf : β → σ → σ} {mA mB : σ → Option (Ctl σ τ)} {rel : BSet → World → List Value → β → Prop}
    {KL : PT → BSet → BSet → σ → World → Prop} {KA KB KC : PT → BSet → BSet → σ → Env → World → Prop} {KY : PT → BSet → BSet → τ → Env → World → Prop} {KX : PT → BSet → BSet → τ → World → Prop} {Pin : PT → Env → Prop}
    (hA : ∀ s ρ w, A s ρ w → ∃ p vss F g, Wk row w0 F0 F w ∧ KL p F (Bs' w0 row g) s w ∧ Pin p ρ ∧ Bs w0 row g ∧ IterS P F w g (ev ρ x) vss ∧ All2 (rel F w) vss (its s))
    (hrel : ∀ {F w F' w' vs it}, rel F w vs it → Stp F w F' w' → rel F' w' vs it) (hps : ∀ {F w vs it}, rel F w vs it → vs.length = ps.length) (hpn : (ps.all fun p => Nat.blt p n) = true)
    (cL : ∀ p s, CoreO (fun F B w => KL p F B s w)) (cX : ∀ p r, Core (fun F B w => KX p F B r w)) (hin : ∀ {p F B s ρ w vs it}, KL p F B s w → Pin p ρ → rel F w vs it → KA p F B (setf it s) (setps ρ ps vs) w)
    (cA : ∀ p s ρ, Core (fun F B w => KA p F B s ρ w))
    (hasg : ∀ l p rs w1 F1, RefG (some l) P n assign (fun s ρ w => GK rs w1 F1 (fun F B w => KA p F B s ρ w) w) mA (fun s ρ w => GK rs w1 F1 (fun F B w => KB p F B s ρ w) w) (fun _ _ _ _ => False) (fun _ _ _ => False))
    (cB : ∀ p s ρ, Core (fun F B w => KB p F B s ρ w))
    (hbody : ∀ l p rs w1 F1, RefG (some l) P n body (fun s ρ w => GK rs w1 F1 (fun F B w => KB p F B s ρ w) w) mB (fun s ρ w => GK rs w1 F1 (fun F B w => KC p F B s ρ w) w) (fun _ _ _ _ => False) (fun r ρ w => GK rs w1 F1 (fun F B w => KY p F B r ρ w) w))
    (hout : ∀ {p F B s ρ w}, KC p F B s ρ w → KL p F B s w) (hoY : ∀ {p F B r ρ w}, KY p F B r ρ w → KX p F B r w) :
    RefS P n (.block i (.rangeFunc x ps.toArray assign body)) A (blockM i (rangeM its setf mA mB)) (fun D s ρ w => ∃ p F, Wk row w0 F0 F w ∧ ¬ F D ∧ w0.heap.size ≤ D ∧ KL p F (Bs w0 row) s w ∧ Pin p ρ)
      (fun D r ρ w => ∃ p F, Wk row w0 F0 F w ∧ ¬ F D ∧ w0.heap.size ≤ D ∧ KX p F (Bs w0 row) r w ∧ Pin p ρ) := by
  intro dp s ρ w a hA' hF o hm
  obtain ⟨p, vss, F, g, hW, hK, hP, hBg, hIt, hR⟩ := hA s ρ w hA'
  obtain ⟨gf, lb, hv, hcf, hself, hFg, hIt⟩ := hIt
  have hgl := hself.lt
  unfold blockM at hm
  cases hr : rangeM its setf mA mB s with
  | none => rw [hr] at hm; cases hm
  | some o1 =>
  rw [hr] at hm
  refine wpIn_block ?_
  refine wpIn_rangeFunc ?_
  intro fn hfn
  obtain ⟨rec, hrec⟩ : ∃ rec : LoopState → Option Code → Loop, rec = fun st pe => { state := st, pending := pe, fn, tmps := a.tmps, params := ps.toArray, assign, body, defers := w.heap.size } := ⟨_, rfl⟩
  obtain ⟨W1, hW1⟩ : ∃ W1, (w.alloc (.deferred (some []))).alloc (.loop (rec .ready none)) = W1 := ⟨_, rfl⟩
  have hL1 : W1.heap[w.heap.size + 1]? = some (.loop (rec .ready none)) := by
    rw [← hW1]; have := World.alloc_heap_new (w.alloc (.deferred (some []))) (.loop (rec .ready none)); rwa [World.size_alloc] at this
  have hK1 : W1.heap[w.heap.size]? = some (.deferred (some [])) := by
    rw [← hW1]; exact (Below.heap_alloc _ _ _ (by simp)).trans (World.alloc_heap_new w _)
  have hWA : Wk nrow w F F W1 := by
    rw [← hW1]; exact (Wk.alloc hW.ok _).trans (Wk.alloc (Wk.alloc (row := nrow) hW.ok _).ok _)
  have hFD : ¬ F w.heap.size := fun h => absurd (hW.ok _ h) (by omega)
  have hFl : ¬ F (w.heap.size + 1) := fun h => absurd (hW.ok _ h) (by omega)
  refine ⟨w.heap.size + 1, [{ target := .collected w.heap.size, args := #[] }], W1, { target := .fn (.func gf) lb, args := #[.func (.yield (w.heap.size + 1)) #[] #[]] }, W1, gf,
    #[.func (.yield (w.heap.size + 1)) #[] #[]] ++ lb, W1, ?_, ?_, ?_, ?_, fun e => by simp [Fence.wide] at e, ?_⟩
  · rw [← hW1, hrec]; exact run_enterLoop_outer _ _ _ _ _
  · have hv' : a.eval x = .func (.func gf) #[] lb := by rw [hF.eval]; exact hv
    simp only [resolve, hv']
    simp [go_sem]
  · intro f' hf'; trivial
  · simp [invoke, go_sem, hcf]
  · refine CallsIn.mono (show CallsIn Fence.wide _ P gf _ W1 _ from callsIn_wide.2 (callsIn_wide.1 (hIt W1 (hWA.stp hW.ok) (hWA.block g hgl (fun h => h)) (w.heap.size + 1)
      (fun i W => (∃ si F1, forL setf mA mB ((its s).drop i) si = some o1 ∧ Wk row w0 F0 F1 W ∧ Stp F w F1 W ∧ ¬ F1 w.heap.size ∧ ¬ F1 (w.heap.size + 1) ∧ ¬ F1 g ∧ KL p F1 (Bs' w0 row g) si W) ∧
        W.heap[w.heap.size + 1]? = some (.loop (rec .ready none)) ∧ W.heap[w.heap.size]? = some (.deferred (some [])))
      (fun W => (∃ r F1, o1 = .ret r ∧ Wk row w0 F0 F1 W ∧ ¬ F1 w.heap.size ∧ ¬ F1 (w.heap.size + 1) ∧ KX p F1 (Bs w0 row) r W) ∧
        W.heap[w.heap.size + 1]? = some (.loop (rec .done (some .ret))) ∧ W.heap[w.heap.size]? = some (.deferred (some [])))
      ?_ ?_ ?_ ?_ ?_ ?_))) ?_
    · rintro i W ⟨⟨si, F1, _, _, hs, _⟩, _⟩
      exact hs.back
    · rintro i W ⟨⟨si, F1, hfo, hWW, hs, hnD, hnl, hng, hKL⟩, hl, hD⟩
      exact ⟨⟨si, F1, hfo, hWW.drewS, hs.trans (sd hWW), hnD, hnl, hng, (cL _ _).wk hKL (Wk.drew hWW.ok) hWW.ok⟩, hl, hD⟩
    · rintro W ⟨⟨r, F1, e1, hWW, hnD, hnl, hKX⟩, hl, hD⟩
      exact ⟨⟨r, F1, e1, hWW.drewS, hnD, hnl, (cX _ _).wk hKX (Wk.drew hWW.ok) hWW.ok⟩, hl, hD⟩
    · rintro i W W' ⟨⟨si, F1, hfo, hWW, hs, hnD, hnl, hng, hKL⟩, hl, hD⟩ hgr _
      have hlt : w.heap.size + 1 < W.heap.size := (Array.getElem?_eq_some_iff.1 hl).1
      refine ⟨⟨si, F1, hfo, hWW.mut hgr (fun a ha => by cases ha; exact hBg), hs.trans (stpOwn hng hgr hWW.ok), hnD, hnl, hng, (cL _ _).own hKL hng (fun h => h.2 rfl) hgr hWW.ok⟩, ?_, ?_⟩
      · exact (hgr.block _ hlt (fun e => by have := Option.some.inj e; omega)).trans hl
      · exact (hgr.block _ (by omega) (fun e => by have := Option.some.inj e; omega)).trans hD
    · rintro j vs W hj ⟨⟨si, F1, hfo, hWW, hs, hnD, hnl, hng, hKL⟩, hl, hD⟩
      have hgW : g < W.heap.size := Nat.lt_of_lt_of_le hgl (Nat.le_of_lt (Nat.lt_of_lt_of_le (Nat.lt_succ_self _) (Nat.le_of_lt (Array.getElem?_eq_some_iff.1 hl).1)))
      have hrg : ∀ F' W', ¬ rsOf (Bs' w0 row g) F' W' g := fun F' W' h => h.1.2 rfl
      obtain ⟨it, hdr, hrl⟩ := All2.get hR hj
      have hlt : w.heap.size + 1 < W.heap.size := (Array.getElem?_eq_some_iff.1 hl).1
      have hy := run_yield (P := P) (args := vs.toArray) hl (by rw [hrec]; simp [hps hrl])
      rw [hrec] at hy
      rw [hdr] at hfo
      simp only [forL, seqM] at hfo
      refine ⟨fn, _, assign, body, hy, roundIn_of_wpIn hfn ?_⟩
      cases hoa : mA (setf it si) with
      | none => rw [hoa] at hfo; cases hfo
      | some oa =>
      rw [hoa] at hfo
      have hA1 : GK (rsOf (Bs' w0 row g) F1 W) W F1 (fun F B w => KA p F B (setf it si) (setps ρ ps vs) w) W :=
        ⟨F1, Wk.refl hWW.ok, (cA _ _ _).base (hin hKL hP (hrel hrl hs)) (fun g hg hn ho => .inr ⟨hg, hn, ho⟩)⟩
      have hF0 : Fr [] n { tmps := a.tmps, defers := [] } ρ := ⟨rfl, hF.size, hF.get⟩
      refine wpIn_mono (hasg (w.heap.size + 1) p _ W F1 [] 0 _ _ W _ hA1 (fr_setps hpn (hps hrl) hF0) oa hoa) ?_
      rintro e a2 W2 ⟨ρ2, hF2, hq⟩
      cases oa with
      | ret r => cases e <;> exact hq.elim
      | ext q s2 => cases e <;> first | exact hq.elim | exact hq.2.elim
      | nrm s2 =>
      cases e <;> first | exact hq.elim | skip
      obtain ⟨F2, hW2, hKB⟩ := hq
      dsimp only at hfo
      have hl2 : W2.heap[w.heap.size + 1]? = some (.loop (rec .ready none)) := (hW2.block _ hlt (rsOf.not hl rfl)).trans hl
      have hD2 : W2.heap[w.heap.size]? = some (.deferred (some [])) := (hW2.block _ (by omega) (rsOf.not hD rfl)).trans hD
      have hnl2 : ¬ F2 (w.heap.size + 1) := fun h => hnl (hW2.old _ hlt h)
      have hnD2 : ¬ F2 w.heap.size := fun h => hnD (hW2.old _ (by omega) h)
      have hng2 : ¬ F2 g := fun h => hng (hW2.old _ hgW h)
      have hg2 : W2.heap[g]? = W.heap[g]? := hW2.block _ hgW (hrg _ _)
      have hs2 : Stp F w F2 W2 := hs.trans (hW2.stpR hWW.ok (fun g hg => hg.2.1))
      have hWW2 : Wk row w0 F0 F2 W2 := hWW.transR hW2 (fun g hg => hg.1.1)
      have hlt2 : w.heap.size + 1 < W2.heap.size := (Array.getElem?_eq_some_iff.1 hl2).1
      refine ⟨_, run_beginRound hl2 (by rw [hrec]), ?_⟩
      obtain ⟨W2', hW2'⟩ : ∃ W2', W2.putObj (w.heap.size + 1) (.loop { rec .ready none with state := .busy }) = W2' := ⟨_, rfl⟩
      rw [hW2']
      have hl3 : W2'.heap[w.heap.size + 1]? = some (.loop { rec .ready none with state := .busy }) := by rw [← hW2']; exact World.putObj_heap_same hlt2
      have hD3 : W2'.heap[w.heap.size]? = some (.deferred (some [])) := by rw [← hW2']; exact (World.putObj_heap_other (by omega)).trans hD2
      have hs3 : Stp F w F2 W2' := by rw [← hW2']; exact hs2.trans (Stp.put _ _ _ hnl2)
      have hWW3 : Wk row w0 F0 F2 W2' := by rw [← hW2']; exact hWW2.put _ (by have := hW.le; omega)
      have hlt3' : w.heap.size + 1 < W2'.heap.size := (Array.getElem?_eq_some_iff.1 hl3).1
      have hKB3 : KB p F2 (Bs W (rsOf (Bs' w0 row g) F1 W)) s2 ρ2 W2' := by rw [← hW2']; exact (cB _ _ _).put hKB hnl2 hl2 rfl
      have hback : ∀ b, Bs W (rsOf (Bs' w0 row g) F1 W) b → Bs' w0 row g b := fun b hb => by
        rcases hb with hb | hb
        · exact ⟨.inl (Nat.le_trans hWW.le hb), fun e => by omega⟩
        · exact hb.1
      have hg3 : W2'.heap[g]? = W.heap[g]? := by rw [← hW2']; exact (World.putObj_heap_other (by omega)).trans hg2
      have hgW3 : g < W2'.heap.size := by have := hlt3'; omega
      have hB1 : GK (rsOf (Bs' w0 row g) F2 W2') W2' F2 (fun F B w => KB p F B s2 ρ2 w) W2' := ⟨F2, Wk.refl hWW3.ok, (cB _ _ _).base hKB3 (fun g hg hn ho => .inr ⟨hback g hg, hn, ho⟩)⟩
      have hlt3 : w.heap.size + 1 < W2'.heap.size := (Array.getElem?_eq_some_iff.1 hl3).1
      cases hob : mB s2 with
      | none => rw [hob] at hfo; cases hfo
      | some ob =>
      rw [hob] at hfo
      refine wpIn_mono (hbody (w.heap.size + 1) p _ W2' F2 [] 0 _ _ W2' _ hB1 hF2 ob hob) ?_
      rintro e a3 W3 ⟨ρ3, hF3, hq⟩
      cases ob with
      | ret r =>
        cases e <;> first | exact hq.elim | skip
        obtain ⟨F3, hW3, hKY⟩ := hq
        dsimp only at hfo
        have hl4 : W3.heap[w.heap.size + 1]? = some (.loop { rec .ready none with state := .busy }) := (hW3.block _ hlt3 (rsOf.not hl3 rfl)).trans hl3
        have hD4 : W3.heap[w.heap.size]? = some (.deferred (some [])) := (hW3.block _ (by omega) (rsOf.not hD3 rfl)).trans hD3
        have hnl4 : ¬ F3 (w.heap.size + 1) := fun h => hnl2 (hW3.old _ hlt3 h)
        have hnD4 : ¬ F3 w.heap.size := fun h => hnD2 (hW3.old _ (by omega) h)
        have hWW4 : Wk row w0 F0 F3 W3 := hWW3.transR hW3 (fun g hg => hg.1.1)
        have hlt4 : w.heap.size + 1 < W3.heap.size := (Array.getElem?_eq_some_iff.1 hl4).1
        have hend := run_endRound (P := P) (some .ret) hl4
        have hnew : ({ rec .ready none with state := if Option.isNone (some Code.ret) = true then LoopState.ready else LoopState.done, pending := some .ret } : Loop) = rec .done (some .ret) := by rw [hrec]; rfl
        refine ⟨_, _, hend, .inr ⟨rfl, ⟨r, F3, (Option.some.inj hfo).symm, hWW4.put _ (by have := hW.le; omega), hnD4, hnl4, ?_⟩, ?_, (World.putObj_heap_other (by omega)).trans hD4⟩⟩
        · refine (cX _ _).base ((cX _ _).put (hoY hKY) hnl4 hl4 rfl) (fun b hb _ _ => ?_)
          rcases hb with hb | hb
          · exact .inl (Nat.le_trans hWW3.le hb)
          · exact hb.1.1
        · rw [World.putObj_heap_same hlt4]
          exact congrArg (fun x => some (Obj.loop x)) hnew
      | ext q s2 => cases e <;> first | exact hq.elim | exact hq.2.elim
      | nrm s3 =>
      cases e <;> first | exact hq.elim | skip
      obtain ⟨F3, hW3, hKC⟩ := hq
      dsimp only at hfo
      have hl4 : W3.heap[w.heap.size + 1]? = some (.loop { rec .ready none with state := .busy }) := (hW3.block _ hlt3 (rsOf.not hl3 rfl)).trans hl3
      have hD4 : W3.heap[w.heap.size]? = some (.deferred (some [])) := (hW3.block _ (by omega) (rsOf.not hD3 rfl)).trans hD3
      have hnl4 : ¬ F3 (w.heap.size + 1) := fun h => hnl2 (hW3.old _ hlt3 h)
      have hnD4 : ¬ F3 w.heap.size := fun h => hnD2 (hW3.old _ (by omega) h)
      have hs4 : Stp F w F3 W3 := hs3.trans (hW3.stpR hWW3.ok (fun g hg => hg.2.1))
      have hWW4 : Wk row w0 F0 F3 W3 := hWW3.transR hW3 (fun g hg => hg.1.1)
      have hng4 : ¬ F3 g := fun h => hng2 (hW3.old _ hgW3 h)
      have hg4 : W3.heap[g]? = W.heap[g]? := (hW3.block _ hgW3 (hrg _ _)).trans hg3
      have hlt4 : w.heap.size + 1 < W3.heap.size := (Array.getElem?_eq_some_iff.1 hl4).1
      have hend := run_endRound (P := P) none hl4
      have hnew : ({ rec .ready none with state := if Option.isNone (none : Option Code) = true then LoopState.ready else LoopState.done, pending := none } : Loop) = rec .ready none := by rw [hrec]; rfl
      refine ⟨_, _, hend, .inl ⟨rfl, ⟨⟨s3, F3, hfo, hWW4.put _ (by have := hW.le; omega), hs4.trans (Stp.put _ _ _ hnl4), hnD4, hnl4, hng4, ?_⟩, ?_, (World.putObj_heap_other (by omega)).trans hD4⟩, (World.putObj_heap_other (by omega)).trans hg4⟩⟩
      · refine (cL _ _).base ((cL _ _).put (hout hKC) hnl4 hl4 rfl) (fun b hb _ _ => ?_)
        rcases hb with hb | hb
        · exact ⟨.inl (Nat.le_trans hWW3.le hb), fun e => by omega⟩
        · exact hb.1
      · rw [World.putObj_heap_same hlt4]
        exact congrArg (fun x => some (Obj.loop x)) hnew
    · exact ⟨⟨s, F, hr, hW.trans hWA, hWA.stp hW.ok, hFD, hFl, hFg, (cL _ _).wk hK hWA hW.ok⟩, hL1, hK1⟩
    · rintro e W2 ⟨⟨v, rfl⟩, hend⟩
      rcases hend with ⟨⟨si, F1, hfo, hWW, hs, hnD, hnl, hng, hKL⟩, hl, hD⟩ | ⟨⟨r, F1, e1, hWW, hnD, hnl, hKX⟩, hl, hD⟩
      rotate_left
      · subst e1
        cases Option.some.inj hm
        have hlt : w.heap.size + 1 < W2.heap.size := (Array.getElem?_eq_some_iff.1 hl).1
        have hel := run_endLoop (P := P) hl (by rw [hrec]; simp)
        have hpen : (rec .done (some .ret)).pending = some .ret := by rw [hrec]
        rw [hpen] at hel
        refine ⟨some .ret, _, hel, ?_⟩
        refine wpIn_ret ?_
        refine ⟨ρ, w.heap.size, ⟨by simp [hF.defers], hF.size, hF.get⟩, (World.putObj_heap_other (by omega)).trans hD, .inr ⟨r, rfl, rfl, p, F1, hWW.put _ (by have := hW.le; omega), hnD, hW.le, ?_, hP⟩⟩
        exact (cX _ _).put hKX hnl hl rfl
      have hlen : (its s).drop vss.length = [] := by rw [hR.len]; simp
      rw [hlen] at hfo
      simp only [forL] at hfo
      cases Option.some.inj hfo
      cases Option.some.inj hm
      have hlt : w.heap.size + 1 < W2.heap.size := (Array.getElem?_eq_some_iff.1 hl).1
      have hpen : (rec .ready none).pending = none := by rw [hrec]
      have hel := run_endLoop (P := P) hl (by rw [hrec]; simp)
      rw [hpen] at hel
      refine ⟨none, _, hel, ?_⟩
      refine ⟨ρ, w.heap.size, ⟨by simp [hF.defers], hF.size, hF.get⟩, (World.putObj_heap_other (by omega)).trans hD, .inl ⟨si, rfl, rfl, p, F1, hWW.put _ (by have := hW.le; omega), hnD, hW.le, ?_, hP⟩⟩
      exact (cL _ _).base ((cL _ _).put hKL hnl hl rfl) (fun b hb _ _ => hb.1)
end

end Go.Fx
