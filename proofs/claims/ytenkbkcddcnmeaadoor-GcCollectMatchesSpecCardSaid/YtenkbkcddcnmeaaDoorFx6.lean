/- Stores, variables in memory, parts of slices and strings, structs. -/
import Derived.Test.YtenkbkcddcnmeaaDoorFx5
import Derived.Laws.Slices
import Derived.Laws.StructEq
namespace Go.Fx
open Go.RowKit
set_option linter.unusedVariables false
set_option linter.unusedSimpArgs false

section
variable {P : Program} {n : Nat} {ρ : Env} {w w' w0 : World} {F F' F0 : BSet} {row : BSet} {r : Option Nat}
variable {α β : Type} {k : Kd α} {l : Kd β}

def setL {α : Type} (xs : List α) (i : Int) (x : α) : List α := xs.set i.toNat x

theorem f_stO {a x : Operand} {t e : TypeId} {v u : Value} {xs : List α} {i : Int} {off : Nat} {put : α → β → α} {x0 : α} {y : β} {g o cap : Nat} (hW : Wk row w0 F0 F w) (ho : OwnV k e (Bs w0 row) F w v xs) (hx : idx xs i = some x0) (hp : FldS k off l put) (ht : TyOk P t l) (hu : Val l F w u y)
    (hv : v = .slice (some ⟨g, o, none⟩) xs.length cap) (ha : ev ρ a = .pointer (some ⟨g, o + i.toNat * k.sz + off, none⟩)) (hxv : ev ρ x = u) :
    Eff P ρ n w (.store t a x) (fun _ w' => Wk row w0 F0 F w' ∧ OwnV k e (Bs w0 row) F w' v (setL xs i (put x0 y)) ∧ w.grownBy w' v.ownBlock ∧ Stp F w F w') := by
  obtain ⟨h0, h1, h2⟩ := idx_some hx
  obtain ⟨w', hr, h3, h4, h5⟩ := ho.store (P := P) hW.ok h2 hp ht hu hv
  have hs : Stp F w F w' := Stp.mut hW.ok h4 (fun g hg => (ho.lt hg).2.1)
  refine Eff.of_runN (fun d ty pos after g => ?_) ⟨hW.mut h4 (fun g hg => (ho.lt hg).1), h3, h4, hs⟩
  simp only [execOp, ha, hxv, Sem.run_bind, hr, Result.andThen_ok, Sem.run_pure]

/-! #### a variable in memory -/
def Box (k : Kd α) (e : TypeId) (B : BSet) (F : BSet) (w : World) (g : Nat) (x : α) : Prop := ∃ cs, w.heap[g]? = some (.cells cs.toArray e (0, 0)) ∧ k.rep F w x cs ∧ B g ∧ ¬ F g
theorem Box.lt {e g : Nat} {B : BSet} {x : α} (h : Box k e B F w g x) : g < w.heap.size := by obtain ⟨cs, hh, _⟩ := h; exact (Array.getElem?_eq_some_iff.1 hh).1
theorem Box.ltw {e g : Nat} {B : BSet} {x : α} (h : Box k e B F w g x) : ∀ j, some g = some j → j < w.heap.size := fun j e => by cases e; exact h.lt
theorem Box.ge {e g : Nat} {B : BSet} {x : α} (h : Box k e B F w g x) : B g := by obtain ⟨cs, _, _, h, _⟩ := h; exact h
theorem Box.nF {e g : Nat} {B : BSet} {x : α} (h : Box k e B F w g x) : ¬ F g := by obtain ⟨cs, _, _, _, h⟩ := h; exact h
theorem Box.rebase {e g : Nat} {B B' : BSet} {x : α} (h : Box k e B F w g x) (hB : B' g) : Box k e B' F w g x := by obtain ⟨cs, h1, h2, h3, h4⟩ := h; exact ⟨cs, h1, h2, hB, h4⟩
theorem Box.base {e g : Nat} {w1 : World} {x : α} (h : Box k e (Nw w1) F w g x) (hB : w0.heap.size ≤ w1.heap.size) : Box k e (Bs w0 row) F w g x := h.rebase (.inl (Nat.le_trans hB h.ge))
theorem Box.wkR {e g : Nat} {B : BSet} {r : BSet} {x : α} (h : Box k e B F w g x) (hap : ApS r (some g)) (s : Wk r w F F' w') (st : Stp F w F' w') : Box k e B F' w' g x := by
  have hlt := h.lt
  obtain ⟨cs, h1, h2, h3, h4⟩ := h
  exact ⟨cs, (s.block g hlt (fun e => hap g e rfl)).trans h1, k.keep st h2, h3, fun hF => h4 (s.old g hlt hF)⟩
theorem Box.wk {e g : Nat} {B : BSet} {x : α} (h : Box k e B F w g x) (s : Wk nrow w F F' w') (ok : ∀ b, F b → b < w.heap.size) : Box k e B F' w' g x := h.wkR (fun _ h => h.elim) s (s.stp ok)
theorem Box.mut {e g : Nat} {B : BSet} {x : α} (h : Box k e B F w g x) (hap : Apart r (some g)) (hg : w.grownBy w' r) (s : Stp F w F w') : Box k e B F w' g x := by
  have hlt := h.lt
  obtain ⟨cs, h1, h2, h3, h4⟩ := h
  exact ⟨cs, (hg.block g hlt (fun e => hap g e.symm rfl)).trans h1, k.keep s h2, h3, h4⟩
/-- Behind a freeze of something else. -/
theorem Box.frz {e g : Nat} {B : BSet} {x : α} (h : Box k e B F w g x) (hap : Apart r (some g)) (hF : ∀ b, F' b → F b ∨ r = some b) (s : Stp F w F' w) : Box k e B F' w g x := by
  obtain ⟨cs, h1, h2, h3, h4⟩ := h
  exact ⟨cs, h1, k.keep s h2, h3, fun hb => (hF g hb).elim h4 (fun e => hap g e rfl)⟩
theorem OwnV.frz {e : Nat} {B : BSet} {row : Option Nat} {u : Value} {xs : List α} (h : OwnV k e B F w u xs) (hap : Apart row u.ownBlock) (hF : ∀ b, F' b → F b ∨ row = some b) (s : Stp F w F' w) : OwnV k e B F' w u xs :=
  h.move s fun g hg => ⟨rfl, fun hb => (hF g hb).elim (h.lt hg).2.1 (fun e => hap g e hg)⟩
theorem Box.at_ {e g : Nat} {B : BSet} {x : α} (h : Box k e B F w g x) : LiesAt k F w g 0 x := by
  obtain ⟨cs, h1, h2, _, _⟩ := h
  refine ⟨cs, h2, fun j _ => ?_⟩
  simp [World.cell?, h1]
theorem Box.store {e g off : Nat} {B : BSet} {t : TypeId} {x : α} {y : β} {u : Value} {put : α → β → α} (h : Box k e B F w g x) (ok : ∀ b, F b → b < w.heap.size) (hp : FldS k off l put) (ht : TyOk P t l) (hu : Val l F w u y) :
    ∃ w', (Instr.storeAt t (.pointer (some ⟨g, off, none⟩)) u).run P w = .ok () w' ∧ Box k e B F w' g (put x y) ∧ w.grownBy w' (some g) := by
  obtain ⟨cs, h1, h2, h3, h4⟩ := h
  have hl := k.len h2
  have hfit := hp.1
  have hr := run_storeAt (P := P) ht hu (o := off) h1 (by rw [List.size_toArray, hl]; exact hfit)
  have hgr : w.grownBy (w.setRow g (cs.toArray.toList.take off ++ u.cells.toList ++ cs.toArray.toList.drop (off + l.sz)).toArray) (some g) := ⟨rfl, rfl, rfl, by simp, fun j _ hj => setRow_other w g j _ (fun e => hj (by rw [e]))⟩
  exact ⟨_, hr, ⟨_, setRow_heap w g _ _ e _ h1, k.keep (Stp.mut ok hgr (fun g0 e => by cases e; exact h4)) (hp.2 h2 hu.cells), h3, h4⟩, hgr⟩

/-- A new block, its content known. -/
theorem box_new {e : TypeId} {x : α} {cs : List Value} (hW : Wk row w0 F0 F w) (hr : k.rep F w x cs) : Box k e (Nw w) F (w.alloc (.cells cs.toArray e)) w.heap.size x :=
  ⟨cs, heap_alloc_new w _, k.keep ((Wk.alloc (row := nrow) hW.ok _).stp hW.ok) hr, (show Nw w w.heap.size from Nat.le_refl _), fun hF => absurd (hW.ok _ hF) (by omega)⟩

theorem f_box {t : TypeId} {x : Operand} {v : Value} {u : α} (hW : Wk row w0 F0 F w) (hx : ev ρ x = v) (hv : Val k F w v u) :
    Eff P ρ n w (.box t x) (fun p w' => ∃ g, p = .pointer (some ⟨g, 0, none⟩) ∧ Wk nrow w F F w' ∧ Box k t (Nw w) F w' g u) := by
  have hb := box_new (e := t) hW hv.cells
  refine Eff.of_run (fun d ty pos after g => ?_) ⟨_, rfl, Wk.alloc hW.ok _, hb⟩
  simp only [execOp, hx, Instr.box, newVar, newRow]
  rfl

structure Zer (P : Program) (t : TypeId) (k : Kd α) (x0 : α) : Prop where
  info : ∃ i z, P.info? t = some i ∧ i.zero = some z ∧ ∀ F w, k.rep F w x0 z.cells.toList
theorem Zer.mk' {t : TypeId} {x0 : α} {z : Value} (hi : (P.info? t).bind (·.zero) = some z) (hz : ∀ F w, k.rep F w x0 z.cells.toList) : Zer P t k x0 := by
  cases h : P.info? t with
  | none => rw [h] at hi; cases hi
  | some i => rw [h] at hi; exact ⟨i, z, h, hi, hz⟩

theorem f_alloc {t : TypeId} {x0 : α} (Z : Zer P t k x0) (hW : Wk row w0 F0 F w) : Eff P ρ n w (.alloc t) (fun p w' => ∃ g, p = .pointer (some ⟨g, 0, none⟩) ∧ Wk nrow w F F w' ∧ Box k t (Nw w) F w' g x0) := by
  obtain ⟨i, z, hi, hz, hr⟩ := Z.info
  have hb := box_new (e := t) hW (hr F w)
  refine Eff.of_run (fun d ty pos after g => ?_) ⟨_, rfl, Wk.alloc hW.ok _, hb⟩
  simp only [execOp, Instr.alloc, newVar, newRow, zeroValue, typeInfo, Sem.run_bind, run_program, Result.andThen_ok, hi, hz, Sem.run_pure]
  rfl

theorem f_stB {a x : Operand} {t : TypeId} {e g off : Nat} {x0 : α} {y : β} {u : Value} {put : α → β → α} (hW : Wk row w0 F0 F w) (hb : Box k e (Bs w0 row) F w g x0) (hp : FldS k off l put) (ht : TyOk P t l) (hu : Val l F w u y)
    (ha : ev ρ a = .pointer (some ⟨g, off, none⟩)) (hxv : ev ρ x = u) :
    Eff P ρ n w (.store t a x) (fun _ w' => Wk row w0 F0 F w' ∧ Box k e (Bs w0 row) F w' g (put x0 y) ∧ w.grownBy w' (some g) ∧ Stp F w F w') := by
  obtain ⟨w', hr, h3, h4⟩ := hb.store (P := P) hW.ok hp ht hu
  have hs : Stp F w F w' := Stp.mut hW.ok h4 (fun g' e => by cases e; exact hb.nF)
  refine Eff.of_runN (fun d ty pos after g => ?_) ⟨hW.mut h4 (fun g' e => by cases e; exact hb.ge), h3, h4, hs⟩
  simp only [execOp, ha, hxv, Sem.run_bind, hr, Result.andThen_ok, Sem.run_pure]

/-! #### structs as values -/
theorem run_mapM {γ δ : Type} (f : γ → Sem δ) (g : γ → δ) (w : World) : ∀ (l : List γ), (∀ x ∈ l, (f x).run P w = .ok (g x) w) → (l.mapM f).run P w = .ok (l.map g) w
  | [], _ => by simp
  | x :: l, h => by
    rw [List.mapM_cons, Sem.run_bind, h x (by simp), Result.andThen_ok, Sem.run_bind, run_mapM f g w l (fun y hy => h y (by simp [hy])), Result.andThen_ok]
    simp

structure Bld (P : Program) (t : TypeId) (pl : List (Nat × Nat)) (z : Value) : Prop where
  z : (P.info? t).bind (·.zero) = some z
  u : ∃ fs : List Field, P.underlying t = some (.struct fs.toArray) ∧ fs.map (fun f => (P.info? f.type).map fun i => (f.offset, i.size)) = pl.map some
theorem run_build {t : TypeId} {pl : List (Nat × Nat)} {z : Value} (hB : Bld P t pl z) {parts : Array (Nat × Value)} {cells : Array Value} (hf : Instr.fill (pl.toArray[·]?) z.cells parts.toList = some cells) (w : World) :
    (Instr.build t parts).run P w = .ok (.agg cells) w := by
  obtain ⟨fs, hu, hpl⟩ := hB.u
  have hz0 : (zeroValue t).run P w = .ok z w := by
    have := hB.z
    cases hi : P.info? t with
    | none => rw [hi] at this; cases this
    | some i => rw [hi] at this; simp only [Option.bind_some] at this; simp [zeroValue, typeInfo, hi, this]
  have hm : ((fs.toArray.mapM fun f => (do pure (f.offset, ← sizeOf f.type) : Sem (Nat × Nat)))).run P w = .ok pl.toArray w := by
    rw [List.mapM_toArray]
    have hk : ∀ x ∈ fs, ((do pure (x.offset, ← sizeOf x.type) : Sem (Nat × Nat))).run P w = .ok (((P.info? x.type).map fun i => (x.offset, i.size)).getD (0, 0)) w := by
      intro x hx
      have h1 : ((P.info? x.type).map fun i => (x.offset, i.size)) ∈ pl.map some := by rw [← hpl]; exact List.mem_map_of_mem hx
      obtain ⟨q, _, hq⟩ := List.mem_map.1 h1
      cases hi : P.info? x.type with
      | none => rw [hi] at hq; cases hq
      | some i => simp [sizeOf, typeInfo, hi]
    have h2 := run_mapM (P := P) (fun f => (do pure (f.offset, ← sizeOf f.type) : Sem (Nat × Nat))) _ w fs hk
    have h3 : fs.map (fun x => ((P.info? x.type).map fun i => (x.offset, i.size)).getD (0, 0)) = pl := by
      have : (fs.map (fun f => (P.info? f.type).map fun i => (f.offset, i.size))).map (fun o => o.getD (0, 0)) = (pl.map some).map (fun o => o.getD (0, 0)) := by rw [hpl]
      simpa [List.map_map, Function.comp_def] using this
    rw [map_eq_pure_bind, Sem.run_bind, h2, Result.andThen_ok, h3]
    rfl
  simp only [Instr.build, Sem.run_bind, hz0, Result.andThen_ok, run_underlying hu, hm, hf]
  rfl

theorem e_bld {t : TypeId} {pl : List (Nat × Nat)} {z : Value} (hB : Bld P t pl z) {parts : List (Nat × Operand)} {vs : List (Nat × Value)} {cells : Array Value} (hv : parts.map (fun p => (p.1, ev ρ p.2)) = vs) (hf : Instr.fill (pl.toArray[·]?) z.cells vs = some cells) :
    Ev P ρ w (.build t parts.toArray) (.agg cells) := by
  have hr := run_build (P := P) (parts := vs.toArray) hB hf w
  rw [← hv] at hr
  intro d ty pos after g
  have e : (parts.toArray.map fun (i, x) => (i, ev ρ x)) = (parts.map (fun p => (p.1, ev ρ p.2))).toArray := by simp
  simp only [execOp, e, Sem.run_bind, hr, Result.andThen_ok, Sem.run_pure]

/-! #### parts of slices and strings -/
def cutFrom {α : Type} (xs : List α) (lo : Int) : Option (List α) := if 0 ≤ lo ∧ lo ≤ xs.length then some (xs.drop lo.toNat) else none
def cutTo {α : Type} (xs : List α) (hi : Int) : Option (List α) := if 0 ≤ hi ∧ hi ≤ xs.length then some (xs.take hi.toNat) else none

theorem SlR.part {A : Option Addr} {c0 : Nat} {xs : List α} (hR : Row k F w A xs) (hc : xs.length ≤ c0) {lo hi : Nat} (h1 : lo ≤ hi) (h2 : hi ≤ xs.length) : SlR k F w (sliced A lo hi c0 k.sz) ((xs.drop lo).take (hi - lo)) := by
  have hl : ((xs.drop lo).take (hi - lo)).length = hi - lo := by rw [List.length_take, List.length_drop]; omega
  refine ⟨_, c0 - lo, by rw [hl]; rfl, by rw [hl]; omega, ?_⟩
  rcases Nat.eq_or_lt_of_le h1 with e | hlt
  · exact .inl (by rw [e, Nat.sub_self, List.take_zero])
  · rcases hR with rfl | ⟨b, o, rfl, hR⟩
    · simp at h2; omega
    · refine .inr ⟨b, o + lo * k.sz, ?_, fun i x hx => ?_⟩
      · rw [if_neg (by omega)]; simp [addr_add]
      · rw [List.getElem?_take] at hx
        split at hx
        · rw [List.getElem?_drop] at hx
          have := hR _ _ hx
          rwa [Nat.add_mul, ← Nat.add_assoc] at this
        · cases hx

theorem SlOk.elem {t e : TypeId} (ht : SlOk P t e) : P.elem t = e := by simp [Program.elem, show P.underlying t = _ from ht]
theorem run_sizeOf' {e : TypeId} {sz : Nat} (hs : (P.info? e).map (·.size) = some sz) : (sizeOf e).run P w = .ok sz w := by
  cases hi : P.info? e with
  | none => rw [hi] at hs; cases hs
  | some i => rw [hi] at hs; simp [sizeOf, typeInfo, hi, Option.some.inj hs]
theorem cutFrom_some {xs ys : List α} {lo : Int} (h : cutFrom xs lo = some ys) : 0 ≤ lo ∧ lo ≤ xs.length ∧ ys = xs.drop lo.toNat := by
  unfold cutFrom at h
  split at h <;> cases h
  rename_i h
  exact ⟨h.1, h.2, rfl⟩
theorem cutTo_some {xs ys : List α} {hi : Int} (h : cutTo xs hi = some ys) : 0 ≤ hi ∧ hi ≤ xs.length ∧ ys = xs.take hi.toNat := by
  unfold cutTo at h
  split at h <;> cases h
  rename_i h
  exact ⟨h.1, h.2, rfl⟩
theorem SlR.cutFrom {A : Option Addr} {c0 : Nat} {xs ys : List α} {lo : Int} (hR : Row k F w A xs) (hc : xs.length ≤ c0) (h : cutFrom xs lo = some ys) : SlR k F w (sliced A lo.toNat xs.length c0 k.sz) ys := by
  obtain ⟨h0, h1, rfl⟩ := cutFrom_some h
  have := SlR.part hR hc (lo := lo.toNat) (hi := xs.length) (by omega) (Nat.le_refl _)
  rwa [List.take_of_length_le (by rw [List.length_drop]; exact Nat.le_refl _)] at this
theorem SlR.cutTo {A : Option Addr} {c0 : Nat} {xs ys : List α} {hi : Int} (hR : Row k F w A xs) (hc : xs.length ≤ c0) (h : cutTo xs hi = some ys) : SlR k F w (sliced A 0 hi.toNat c0 k.sz) ys := by
  obtain ⟨h0, h1, rfl⟩ := cutTo_some h
  have := SlR.part hR hc (lo := 0) (hi := hi.toNat) (by omega) (by omega)
  rwa [List.drop_zero, Nat.sub_zero] at this
theorem SlQ.part {A : Option Addr} {c0 : Nat} {xs : List α} (h : SlQ k F w (.slice A xs.length c0) xs) {lo hi : Nat} (h1 : lo ≤ hi) (h2 : hi ≤ xs.length) : SlQ k F w (sliced A lo hi c0 k.sz) ((xs.drop lo).take (hi - lo)) := by
  obtain ⟨A', c', e, hc, hR⟩ := h
  cases e
  have hl : ((xs.drop lo).take (hi - lo)).length = hi - lo := by rw [List.length_take, List.length_drop]; omega
  refine ⟨_, c0 - lo, by rw [hl]; rfl, by rw [hl]; omega, ?_⟩
  rcases Nat.eq_or_lt_of_le h1 with e | hlt
  · exact .inl (by rw [e, Nat.sub_self, List.take_zero])
  · rcases hR with rfl | ⟨b, o, rfl, cs, hcat, hcell⟩
    · simp at h2; omega
    · have hcut := (Cat.cut trivial (hi - lo) (Cat.cut trivial lo hcat).2).1
      refine .inr ⟨b, o + lo * k.sz, ?_, _, hcut, fun j u hu => ?_⟩
      · rw [if_neg (by omega)]; simp [addr_add]
      · rw [List.getElem?_take] at hu
        split at hu
        · rw [List.getElem?_drop] at hu
          have := hcell _ _ hu
          rwa [← Nat.add_assoc] at this
        · cases hu
theorem SlQ.cutTo {A : Option Addr} {c0 : Nat} {xs ys : List α} {hi : Int} (hq : SlQ k F w (.slice A xs.length c0) xs) (h : cutTo xs hi = some ys) : SlQ k F w (sliced A 0 hi.toNat c0 k.sz) ys := by
  obtain ⟨h0, h1, rfl⟩ := cutTo_some h
  have := SlQ.part hq (lo := 0) (hi := hi.toNat) (by omega) (by omega)
  rwa [List.drop_zero, Nat.sub_zero] at this
theorem SlQ.cutFrom {A : Option Addr} {c0 : Nat} {xs ys : List α} {lo : Int} (hq : SlQ k F w (.slice A xs.length c0) xs) (h : cutFrom xs lo = some ys) : SlQ k F w (sliced A lo.toNat xs.length c0 k.sz) ys := by
  obtain ⟨h0, h1, rfl⟩ := cutFrom_some h
  have := SlQ.part hq (lo := lo.toNat) (hi := xs.length) (by omega) (Nat.le_refl _)
  rwa [List.take_of_length_le (by rw [List.length_drop]; exact Nat.le_refl _)] at this
theorem SlQ.eqv {v v' : Value} {xs : List α} (e : v = v') (h : SlQ k F w v xs) : SlQ k F w v' xs := e ▸ h
theorem e_slL {t e : TypeId} {x a : Operand} {A : Option Addr} {sz c0 : Nat} {xs ys : List α} {ka : IntKind} {lo : Int} (ht : SlOk P t e) (hs : (P.info? e).map (·.size) = some sz) (hc0 : xs.length ≤ c0) (hx : ev ρ x = .slice A xs.length c0)
    (ha : ev ρ a = .int ka lo) (hy : cutFrom xs lo = some ys) : Ev P ρ w (.slice t x (some a) none none) (sliced A lo.toNat xs.length c0 sz) := by
  obtain ⟨h0, h1, _⟩ := cutFrom_some hy
  have hu : P.underlying t = some (.slice (P.elem t)) := by rw [ht.elem]; exact ht
  intro d ty pos after g
  simp only [execOp, Option.map_some, Option.map_none, hx, ha, Sem.run_bind, run_sliceAt_slice (P := P) w t _ _ _ _ hu]
  rw [run_slice_l (P := P) w t A xs.length c0 hu ka lo h0 (by omega), ht.elem, run_sizeOf' hs, Result.andThen_ok, Result.andThen_ok, Sem.run_pure]
theorem e_slH {t e : TypeId} {x b : Operand} {A : Option Addr} {sz c0 : Nat} {xs ys : List α} {kb : IntKind} {hi : Int} (ht : SlOk P t e) (hs : (P.info? e).map (·.size) = some sz) (hc0 : xs.length ≤ c0) (hx : ev ρ x = .slice A xs.length c0)
    (hb : ev ρ b = .int kb hi) (hy : cutTo xs hi = some ys) : Ev P ρ w (.slice t x none (some b) none) (sliced A 0 hi.toNat c0 sz) := by
  obtain ⟨h0, h1, _⟩ := cutTo_some hy
  have hu : P.underlying t = some (.slice (P.elem t)) := by rw [ht.elem]; exact ht
  intro d ty pos after g
  simp only [execOp, Option.map_some, Option.map_none, hx, hb, Sem.run_bind, run_sliceAt_slice (P := P) w t _ _ _ _ hu]
  rw [run_slice_h (P := P) w t A xs.length c0 hu kb hi h0 (by omega), ht.elem, run_sizeOf' hs, Result.andThen_ok, Result.andThen_ok, Sem.run_pure]

/-! #### strings -/
theorem str_beq (a b : ByteArray) : (a.toList == b.toList) = decide (a = b) := by
  rw [ByteArray.toList_eq, ByteArray.toList_eq]
  have : (a.data.toList = b.data.toList) ↔ a = b := by
    constructor
    · intro h
      have := Array.toList_inj.1 h
      cases a; cases b; simp_all
    · rintro rfl; rfl
  rw [Bool.eq_iff_iff, beq_iff_eq, decide_eq_true_iff]
  exact this
theorem e_seql {x y : Operand} {tx tY : TypeId} {a b : ByteArray} (hx : ev ρ x = .string a) (hy : ev ρ y = .string b) : Ev P ρ w (.binOp .eql tx x y tY) (.bool (decide (a = b))) := fun _ _ _ _ _ => by simp [execOp, hx, hy, eqGuard, binOp, Op.stringOp, str_beq]
theorem e_sneq {x y : Operand} {tx tY : TypeId} {a b : ByteArray} (hx : ev ρ x = .string a) (hy : ev ρ y = .string b) : Ev P ρ w (.binOp .neq tx x y tY) (.bool (!decide (a = b))) := fun _ _ _ _ _ => by simp [execOp, hx, hy, eqGuard, binOp, Op.stringOp, str_beq]
end
end Go.Fx
