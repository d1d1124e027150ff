/- Maps of the call's own, whose keys are integers and whose values are plain. -/
import Derived.Test.YtenkbkcddcnmeaaDoorFx9
import Derived.MapKept
set_option linter.unusedVariables false
namespace Go.Fx
section
variable {β : Type}
/-- What a key leads to. -/
def mget : List (Int × β) → Int → Option β
  | [], _ => none
  | (a, b) :: m, k => if a = k then some b else mget m k
/-- A key and its value are laid into a map. -/
def mput : List (Int × β) → Int → β → List (Int × β)
  | [], k, v => [(k, v)]
  | (a, b) :: m, k, v => if a = k then (a, v) :: m else (a, b) :: mput m k v
end
end Go.Fx
namespace Go
def Value.mapBlk : Value → Option Nat
  | .map (some g) => some g
  | _ => none
end Go
namespace Go.Fx
section
variable {β : Type} {i : IntKind} {enc : β → Value} {B B' F F' : BSet} {w w' w0 : World} {v : Value} {m : List (Int × β)} {P : Program} {ρ : Env} {n : Nat} {row : BSet} {F0 : BSet}
def kv (e : MapEntry) : Value × Value := (e.key, e.val)
def MapV (i : IntKind) (enc : β → Value) (B F : BSet) (w : World) (v : Value) (m : List (Int × β)) : Prop :=
  ∃ g es clock, v = .map (some g) ∧ B g ∧ ¬ F g ∧ w.heap[g]? = some (.map es clock) ∧ es.toList.map kv = m.map (fun p => (Value.int i p.1, enc p.2))
theorem MapV.eqv {v' : Value} (e : v' = v) (h : MapV i enc B F w v m) : MapV i enc B F w v' m := e ▸ h
theorem MapV.ltw (h : MapV i enc B F w v m) : ∀ j, v.mapBlk = some j → j < w.heap.size := by
  obtain ⟨g, es, c, rfl, _, _, hh, _⟩ := h
  rintro j hj; cases hj
  exact (Array.getElem?_eq_some_iff.1 hh).1
theorem MapV.rebase (h : MapV i enc B F w v m) (hB : ∀ g, v.mapBlk = some g → B' g) : MapV i enc B' F w v m := by
  obtain ⟨g, es, c, rfl, h1, h2, h3, h4⟩ := h
  exact ⟨g, es, c, rfl, hB g rfl, h2, h3, h4⟩
theorem MapV.base {w1 : World} (h : MapV i enc (Nw w1) F w v m) (hB : w0.heap.size ≤ w1.heap.size) : MapV i enc (Bs w0 row) F w v m := by
  obtain ⟨g, es, c, rfl, h1, h2, h3, h4⟩ := h
  exact ⟨g, es, c, rfl, .inl (Nat.le_trans hB h1), h2, h3, h4⟩
theorem MapV.wkR {r : BSet} (h : MapV i enc B F w v m) (hap : ApS r v.mapBlk) (s : Wk r w F F' w') (st : Stp F w F' w') : MapV i enc B F' w' v m := by
  obtain ⟨g, es, c, rfl, h1, h2, h3, h4⟩ := h
  have hlt := (Array.getElem?_eq_some_iff.1 h3).1
  exact ⟨g, es, c, rfl, h1, fun hF => h2 (s.old g hlt hF), (s.block g hlt (fun e => hap g e rfl)).trans h3, h4⟩
theorem MapV.wk (h : MapV i enc B F w v m) (s : Wk nrow w F F' w') (ok : ∀ b, F b → b < w.heap.size) : MapV i enc B F' w' v m := h.wkR (fun _ h => h.elim) s (s.stp ok)
theorem MapV.mut {r : Option Nat} (h : MapV i enc B F w v m) (hap : Apart r v.mapBlk) (hg : w.grownBy w' r) (s : Stp F w F w') : MapV i enc B F w' v m := by
  obtain ⟨g, es, c, rfl, h1, h2, h3, h4⟩ := h
  have hlt := (Array.getElem?_eq_some_iff.1 h3).1
  exact ⟨g, es, c, rfl, h1, h2, (hg.block g hlt (fun e => hap g e.symm rfl)).trans h3, h4⟩
theorem MapV.frz {r : Option Nat} (h : MapV i enc B F w v m) (hap : Apart r v.mapBlk) (hF : ∀ b, F' b → F b ∨ r = some b) (s : Stp F w F' w) : MapV i enc B F' w v m := by
  obtain ⟨g, es, c, rfl, h1, h2, h3, h4⟩ := h
  exact ⟨g, es, c, rfl, h1, fun hb => (hF g hb).elim h2 (fun e => hap g e rfl), h3, h4⟩
theorem apart_mo {α : Type} {k : Kd α} {e : TypeId} {B2 : BSet} {u : Value} {xs : List α} (h : MapV i enc B F w v m) (h2 : OwnV k e B2 F w u xs) : Apart v.mapBlk u.ownBlock := by
  obtain ⟨g, es, c, rfl, _, _, h3, _⟩ := h
  rintro j hj hu
  cases hj
  rcases h2 with ⟨rfl, _⟩ | ⟨g2, o, cap, cur, cs, rfl, _, _, hh, _⟩
  · cases hu
  · cases hu
    rw [h3] at hh; cases hh
theorem apart_mb {α : Type} {k : Kd α} {e g2 : Nat} {B2 : BSet} {x : α} (h : MapV i enc B F w v m) (h2 : Box k e B2 F w g2 x) : Apart v.mapBlk (some g2) := by
  obtain ⟨g, es, c, rfl, _, _, h3, _⟩ := h
  rintro j hj hu
  cases hj; cases hu
  obtain ⟨cs, hh, _⟩ := h2
  rw [h3] at hh; cases hh

/-- The map's type: the keys' kind, what is not there is told as. -/
def MpT (P : Program) (t : TypeId) (i : IntKind) (z : Value) : Prop := ∃ kt et, P.underlying t = some (.map kt et) ∧ P.underlying kt = some (.int i) ∧ ∀ w, (zeroValue et).run P w = .ok z w

theorem find_m (k : Int) : ∀ (l : List MapEntry) (m : List (Int × β)) (n : Nat), l.map kv = m.map (fun p => (Value.int i p.1, enc p.2)) →
    (Instr.findNow (.int i) (.int i k) l n = some none ∧ mget m k = none ∧ ∀ v, mput m k v = m ++ [(k, v)]) ∨
    (∃ j b, Instr.findNow (.int i) (.int i k) l n = some (some (n + j, enc b)) ∧ m[j]? = some (k, b) ∧ mget m k = some b ∧ ∀ v, mput m k v = m.set j (k, v))
  | [], [], _, _ => .inl ⟨rfl, rfl, fun _ => rfl⟩
  | [], _ :: _, _, h => by simp at h
  | _ :: _, [], _, h => by simp at h
  | e :: l, (a, b) :: m, n, h => by
    simp only [List.map_cons, List.cons.injEq] at h
    obtain ⟨h1, h2⟩ := h
    have hk : e.key = .int i a := congrArg Prod.fst h1
    have hv : e.val = enc b := congrArg Prod.snd h1
    by_cases hak : a = k
    · subst hak
      refine .inr ⟨0, b, ?_, rfl, by simp [mget], fun v => by simp [mput]⟩
      simp [Instr.findNow, Instr.sameNow, hk, hv]
    · have hs : Instr.sameNow (.int i) (.int i k) e.key = some false := by
        rw [hk]; simp [Instr.sameNow]; exact fun h => hak h.symm
      rcases find_m k l m (n + 1) h2 with ⟨f1, f2, f3⟩ | ⟨j, b', f1, f2, f3, f4⟩
      · exact .inl ⟨by simp [Instr.findNow, hs, f1], by simp [mget, hak, f2], fun v => by simp [mput, hak, f3]⟩
      · refine .inr ⟨j + 1, b', ?_, by simpa using f2, by simp [mget, hak, f3], fun v => by simp [mput, hak, f4]⟩
        simp only [Instr.findNow, hs, f1]
        rw [show n + 1 + j = n + (j + 1) by omega]
theorem isKey_int (k : Int) : MapKept.IsKey (.int i) (.int i k) := by simp [MapKept.IsKey]

theorem f_mkMap {t : TypeId} (hW : Wk row w0 F0 F w) : Eff P ρ n w (.makeMap t none) (fun v w' => Wk nrow w F F w' ∧ MapV i enc (Nw w) F w' v []) := by
  refine Eff.of_run (v := .map (some w.heap.size)) (w' := w.alloc (.map #[] 0)) (fun d ty pos after g => ?_) ⟨Wk.alloc hW.ok _, w.heap.size, #[], 0, rfl, Nat.le_refl _, fun hF => absurd (hW.ok _ hF) (by omega), heap_alloc_new w _, rfl⟩
  simp [execOp, Instr.makeMap, Result.andThen]

theorem run_look {t : TypeId} {z : β} (T : MpT P t i (enc z)) (h : MapV i enc B F w v m) (k : Int) (ok : Bool) :
    (Instr.lookup t v (.int i k) ok).run P w = .ok (if ok then .tuple #[enc ((mget m k).getD z), .bool (mget m k).isSome] else enc ((mget m k).getD z)) w := by
  obtain ⟨kt, et, hm, hd, hz⟩ := T
  obtain ⟨g, es, c, rfl, _, _, h3, h4⟩ := h
  rcases find_m k es.toList m 0 h4 with ⟨f1, f2, f3⟩ | ⟨j, b', f1, f2, f3, f4⟩
  · simp [Instr.lookup, run_underlying hm, MapKept.run_getObj_map h3, MapKept.run_checkKey hd (isKey_int k), MapKept.run_findKey hd f1, Result.andThen, hz, f2]
  · simp [Instr.lookup, run_underlying hm, MapKept.run_getObj_map h3, MapKept.run_checkKey hd (isKey_int k), MapKept.run_findKey hd f1, Result.andThen, f3]
theorem e_lookOk {t : TypeId} {x y : Operand} {z : β} {k : Int} (T : MpT P t i (enc z)) (h : MapV i enc B F w v m) (hx : ev ρ x = v) (hy : ev ρ y = .int i k) : Ev P ρ w (.lookup t x y true) (.tuple #[enc ((mget m k).getD z), .bool (mget m k).isSome]) := by
  intro d ty pos after g
  have hr := run_look T h k true
  simp only [execOp, hx, hy, Sem.run_bind, hr]
  rfl

theorem MapV.put {t : TypeId} {z : Value} (T : MpT P t i z) (h : MapV i enc B F w v m) (k : Int) (u : β) :
    ∃ w', (Instr.mapUpdate t v (.int i k) (enc u)).run P w = .ok () w' ∧ MapV i enc B F w' v (mput m k u) ∧ w.grownBy w' v.mapBlk := by
  obtain ⟨kt, et, hm, hd, hz⟩ := T
  obtain ⟨g, es, c, rfl, h1, h2, h3, h4⟩ := h
  have hgr : ∀ o, w.grownBy { w with heap := w.heap.setIfInBounds g o } (some g) := fun o => ⟨rfl, rfl, rfl, by simp, fun j hj hne => (MapKept.heap_set h3).2 j (fun e => hne (by rw [e]))⟩
  rcases find_m k es.toList m 0 h4 with ⟨f1, f2, f3⟩ | ⟨j, b', f1, f2, f3, f4⟩
  · refine ⟨_, by simp [Instr.mapUpdate, run_underlying hm, MapKept.run_getObj_map h3, MapKept.run_checkKey hd (isKey_int k), MapKept.run_findKey hd f1, MapKept.run_setObj_map _ h3, Result.andThen]; rfl, ⟨g, _, _, rfl, h1, h2, (MapKept.heap_set h3).1, ?_⟩, hgr _⟩
    rw [f3, Array.toList_push, List.map_append, List.map_append, h4]
    rfl
  · have hjm : j < m.length := (List.getElem?_eq_some_iff.1 f2).1
    have hlen : es.toList.length = m.length := by have := congrArg List.length h4; simpa using this
    obtain ⟨e, he⟩ : ∃ e, es[j]? = some e := ⟨es[j]'(by rw [Array.length_toList] at hlen; omega), Array.getElem?_eq_getElem (by rw [Array.length_toList] at hlen; omega)⟩
    have hek : e.key = .int i k := by
      have h5 := congrArg (fun l => l[j]?) h4
      simp only [List.getElem?_map, Array.getElem?_toList, he, f2, Option.map_some] at h5
      exact congrArg Prod.fst (Option.some.inj h5)
    refine ⟨_, by simp [Instr.mapUpdate, run_underlying hm, MapKept.run_getObj_map h3, MapKept.run_checkKey hd (isKey_int k), MapKept.run_findKey hd f1, he, hek, MapKept.run_keyThatStays (d := .int i) (isKey_int k), MapKept.run_setObj_map _ h3, Result.andThen]; rfl, ⟨g, _, _, rfl, h1, h2, (MapKept.heap_set h3).1, ?_⟩, hgr _⟩
    rw [f4]
    apply List.ext_getElem?
    intro q
    have h5 := congrArg (fun l => l[q]?) h4
    simp only [List.getElem?_map, Array.getElem?_toList] at h5
    simp only [List.getElem?_map, Array.getElem?_toList, Array.getElem?_modify, List.getElem?_set]
    by_cases hq : j = q
    · subst hq
      rw [if_pos rfl, if_pos rfl, if_pos hjm, he]
      rfl
    · rw [if_neg hq, if_neg hq]
      exact h5
theorem f_mput {t : TypeId} {x y o : Operand} {z : Value} {k : Int} {u : β} (T : MpT P t i z) (hW : Wk row w0 F0 F w) (h : MapV i enc (Bs w0 row) F w v m) (hx : ev ρ x = v) (hy : ev ρ y = .int i k) (ho : ev ρ o = enc u) :
    Eff P ρ n w (.mapUpdate t x y o) (fun _ w' => Wk row w0 F0 F w' ∧ MapV i enc (Bs w0 row) F w' v (mput m k u) ∧ w.grownBy w' v.mapBlk ∧ Stp F w F w') := by
  obtain ⟨w', hr, h3, h4⟩ := h.put T k u
  obtain ⟨g, es, c, rfl, h1, h2, h5, h6⟩ := h
  have hs : Stp F w F w' := Stp.mut hW.ok h4 (fun g' e => by cases e; exact h2)
  refine Eff.of_runN (fun d ty pos after g => ?_) ⟨hW.mut h4 (fun g' e => by cases e; exact h1), h3, h4, hs⟩
  simp only [execOp, hx, hy, ho, Sem.run_bind, hr, Result.andThen_ok, Sem.run_pure]
end
end Go.Fx
