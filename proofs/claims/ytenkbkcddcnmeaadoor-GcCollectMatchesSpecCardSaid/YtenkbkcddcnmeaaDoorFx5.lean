/- The operations that make or write memory, one rule each. -/
import Derived.Test.YtenkbkcddcnmeaaDoorFx4
namespace Go.Fx
open Go.RowKit
set_option linter.unusedVariables false
set_option linter.unusedSimpArgs false

section
variable {P : Program} {n : Nat} {ρ : Env} {w w0 : World} {F F0 : BSet} {row : BSet}
variable {α β : Type} {k : Kd α} {l : Kd β}

theorem f_appQ {x y : Operand} {t e : TypeId} {bytes : Nat} {x0 : α} (T : SlT P t e k bytes x0) (hW : Wk row w0 F0 F w) {v vx : Value} {xs ys zs : List α} (ho : OwnV k e (Bs w0 row) F w v xs) (hy : SlQ k F w vx ys)
    (hz : appL bytes xs ys = some zs) (hx : ev ρ x = v) (hyv : ev ρ y = vx) :
    Eff P ρ n w (.call { callee := .builtin .append, args := #[x, y], argTypes := #[t, t] }) (fun v' w' => Wk row w0 F0 F w' ∧ OwnV k e (Bs w0 row) F w' v' zs ∧ w.grownBy w' v.ownBlock ∧ Stp F w F w' ∧ (v'.ownBlock = v.ownBlock ∨ v'.ownBlock = some w.heap.size)) := by
  obtain ⟨hb, rfl⟩ := appL_some hz
  intro d ty pos after g
  obtain ⟨v', w', hr, h1, h2, h3⟩ := run_appendO (ty := ty) T hW.ok (show Bs w0 row w.heap.size from .inl hW.le) ho hy hb
  have hs : Stp F w F w' := Stp.mut hW.ok h2 (fun g hg => (ho.lt hg).2.1)
  intro dl a hF K Q' hK
  unfold Oper.wp
  rw [hF.eval]
  simp only [execOp, resolve, invoke, builtin, List.map_toArray, List.map_cons, List.map_nil, hx, hyv, Sem.run_bind, Sem.run_pure, Result.andThen_ok, hr]
  exact hK _ _ ⟨hW.mut h2 (fun g hg => (ho.lt hg).1), h1, h2, hs, h3⟩

theorem f_app {x y : Operand} {t e : TypeId} {bytes : Nat} {x0 : α} (T : SlT P t e k bytes x0) (hW : Wk row w0 F0 F w) {v vx : Value} {xs ys zs : List α} (ho : OwnV k e (Bs w0 row) F w v xs) (hy : SlR k F w vx ys)
    (hz : appL bytes xs ys = some zs) (hx : ev ρ x = v) (hyv : ev ρ y = vx) :
    Eff P ρ n w (.call { callee := .builtin .append, args := #[x, y], argTypes := #[t, t] }) (fun v' w' => Wk row w0 F0 F w' ∧ OwnV k e (Bs w0 row) F w' v' zs ∧ w.grownBy w' v.ownBlock ∧ Stp F w F w' ∧ (v'.ownBlock = v.ownBlock ∨ v'.ownBlock = some w.heap.size)) :=
  f_appQ T hW ho hy.q hz hx hyv

/-- Apartness behind an append. -/
theorem Apart.grown {a a' b : Option Nat} {g0 : Nat} (h : Apart a b) (hu : ∀ g, b = some g → g < g0) (hv : a' = a ∨ a' = some g0) : Apart a' b := by
  intro g hg hug
  rcases hv with e | e
  · exact h g (e ▸ hg) hug
  · rw [e] at hg; cases hg; exact absurd (hu _ hug) (by omega)
theorem OwnV.ltw {e : TypeId} {B : BSet} {v : Value} {xs : List α} (h : OwnV k e B F w v xs) : ∀ g, v.ownBlock = some g → g < w.heap.size := fun g hg => (h.lt hg).2.2
theorem Apart.new {b : Option Nat} {g0 : Nat} (hu : ∀ g, b = some g → g < g0) : Apart (some g0) b := by
  intro g hg hug
  cases hg
  exact absurd (hu _ hug) (by omega)
/-- What is new lies apart from what was there. -/
theorem Apart.base {a b : Option Nat} {g0 : Nat} (h : ∀ g, a = some g → g0 ≤ g) (hu : ∀ g, b = some g → g < g0) : Apart a b := by
  intro g hg hug
  have := h g hg
  exact absurd (hu _ hug) (by omega)

/-! #### literals of slices -/
def Vals (k : Kd α) (F : BSet) (w : World) : List α → List Value → Prop
  | [], vs => vs = []
  | x :: xs, vs => ∃ v us, vs = v :: us ∧ Val k F w v x ∧ Vals k F w xs us

theorem Vals.len : ∀ {xs : List α} {vs : List Value}, Vals k F w xs vs → vs.length = xs.length
  | [], _, h => by rw [show _ = [] from h]; rfl
  | _ :: _, _, ⟨v, us, e, _, h⟩ => by rw [e, List.length_cons, List.length_cons, Vals.len h]

theorem foldl_set (vs : List Value) : ∀ (cells : List Value) (o : Nat), o + vs.length ≤ cells.length →
    ((vs.zipIdx 0).foldl (fun (cs : Array Value) (p : Value × Nat) => cs.setIfInBounds (o + p.2) p.1) cells.toArray) = (cells.take o ++ vs ++ cells.drop (o + vs.length)).toArray := by
  have key : ∀ (vs : List Value) (cells : List Value) (o i : Nat), o + i + vs.length ≤ cells.length →
      ((vs.zipIdx i).foldl (fun (cs : Array Value) (p : Value × Nat) => cs.setIfInBounds (o + p.2) p.1) cells.toArray) = (cells.take (o + i) ++ vs ++ cells.drop (o + i + vs.length)).toArray := by
    intro vs
    induction vs with
    | nil => intro cells o i _; simp
    | cons v vs ih =>
      intro cells o i h
      simp only [List.zipIdx_cons, List.foldl_cons, List.setIfInBounds_toArray]
      rw [ih (cells.set (o + i) v) o (i + 1) (by simp at h ⊢; omega)]
      congr 1
      have hlt : o + i < cells.length := by simp at h; omega
      have h1 : (cells.set (o + i) v).take (o + (i + 1)) = cells.take (o + i) ++ [v] := by
        rw [show o + (i + 1) = (o + i) + 1 by omega, List.take_succ_eq_append_getElem (by simpa using hlt)]
        simp [List.take_set_of_le]
      have h2 : (cells.set (o + i) v).drop (o + (i + 1) + vs.length) = cells.drop (o + i + (v :: vs).length) := by
        rw [List.drop_set_of_lt (by omega), List.length_cons, show o + (i + 1) + vs.length = o + i + (vs.length + 1) by omega]
      rw [h1, h2]
      simp
  intro cells o h
  exact key vs cells o 0 (by simpa using h)

theorem fill_one {size : Nat} {cells : List Value} {i : Nat} {v : Value} {rest : List (Nat × Value)} (hv : v.cells.size = size) (h : i * size + size ≤ cells.length) :
    Instr.fill (fun i => some (i * size, size)) cells.toArray ((i, v) :: rest) = Instr.fill (fun i => some (i * size, size)) (cells.take (i * size) ++ v.cells.toList ++ cells.drop (i * size + size)).toArray rest := by
  have hno : (decide (v.cells.size ≠ size) || decide (i * size + v.cells.size > cells.toArray.size)) = false := by
    have h1 : ¬ (v.cells.size ≠ size) := by omega
    have h2 : ¬ (i * size + v.cells.size > cells.toArray.size) := by rw [hv, List.size_toArray]; omega
    rw [decide_eq_false h1, decide_eq_false h2]; rfl
  conv => lhs; unfold Instr.fill
  dsimp only
  rw [hno, if_neg (by simp)]
  congr 1
  have := foldl_set v.cells.toList cells (i * size) (by rw [Array.length_toList, hv]; exact h)
  rw [Array.length_toList, hv] at this
  rw [← this]
  obtain ⟨vl⟩ := v.cells
  simp

theorem fill_all {size : Nat} : ∀ (xs : List α) (vs : List Value) (j : Nat) (done : List Value) (cells : List Value), k.sz = size → Vals k F w xs vs → done.length = j * size → cells.length = vs.length * size →
    ∃ cs, Cat k F w xs cs ∧ Instr.fill (fun i => some (i * size, size)) (done ++ cells).toArray ((vs.zipIdx j).map fun p => (p.2, p.1)) = some (done ++ cs).toArray
  | [], vs, j, done, cells, hk, h, hd, hc => by
    rw [show vs = [] from h] at hc ⊢
    have : cells = [] := List.eq_nil_of_length_eq_zero (by simpa using hc)
    subst this
    exact ⟨[], rfl, rfl⟩
  | x :: xs, vs, j, done, cells, hk, ⟨v, us, e, hv, h⟩, hd, hc => by
    subst e
    have hr := hv.cells
    have hvl : v.cells.size = size := by have := k.len hr; rw [Array.length_toList] at this; omega
    have hcl : size ≤ cells.length := by rw [hc, List.length_cons, Nat.add_mul]; omega
    obtain ⟨cs, hcat, hf⟩ := fill_all xs us (j + 1) (done ++ v.cells.toList) (cells.drop size) hk h (by rw [List.length_append, hd, Array.length_toList, hvl, Nat.add_mul]; omega) (by rw [List.length_drop, hc, List.length_cons, Nat.add_mul]; omega)
    refine ⟨v.cells.toList ++ cs, ⟨_, cs, rfl, hr, hcat⟩, ?_⟩
    rw [List.zipIdx_cons, List.map_cons, fill_one hvl (by rw [List.length_append]; show j * size + size ≤ _; omega)]
    dsimp only
    have e1 : (done ++ cells).take (j * size) = done := by rw [← hd, List.take_left]
    have e2 : (done ++ cells).drop (j * size + size) = cells.drop size := by rw [← hd, List.drop_length_add_append]
    rw [e1, e2, hf]
    simp

theorem run_buildSlice {t e : TypeId} {bytes : Nat} {x0 : α} (T : SlT P t e k bytes x0) {xs : List α} {vs : List Value} (hv : Vals k F w xs vs) (hsm : xs.length * k.sz ≤ 16777216) {parts : Array (Nat × Value)} (hp : parts.toList = (vs.zipIdx 0).map fun p => (p.2, p.1)) :
    ∃ cs, Cat k F w xs cs ∧ (Instr.buildSlice t xs.length parts).run P w = .ok (.slice (some ⟨w.heap.size, 0, none⟩) xs.length xs.length) (w.alloc (.cells cs.toArray e)) := by
  obtain ⟨i, z, hi, hz, hsz, hby, hzs, hzr⟩ := T.info
  have hno : ¬ (xs.length * i.size > 2 ^ 24) := by rw [hsz]; omega
  by_cases h0 : xs.length * i.size = 0
  · have hx : xs = [] := by
      have := T.pos
      rcases Nat.mul_eq_zero.1 h0 with h | h
      · exact List.eq_nil_of_length_eq_zero h
      · omega
    subst hx
    have hvs : vs = [] := hv
    subst hvs
    refine ⟨[], rfl, ?_⟩
    simp only [Instr.buildSlice, List.length_nil, Nat.zero_mul, hp, List.zipIdx_nil, List.map_nil]
    simp [run_underlying T.under, sizeOf, typeInfo, hi, Instr.fill, newRow, Array.range_zero']
  · obtain ⟨cs, hcat, hf⟩ := fill_all (k := k) (F := F) (w := w) (size := k.sz) xs vs 0 [] ((Array.range (xs.length * k.sz)).map (z.cells[· % z.cells.size]!)).toList rfl hv (by simp) (by simp [hv.len])
    refine ⟨cs, hcat, ?_⟩
    simp only [List.nil_append, Array.toArray_toList] at hf
    rw [← hp] at hf
    have h0' : ¬ (xs.length * k.sz = 0) := by rw [← hsz]; exact h0
    have hno' : ¬ (16777216 < xs.length * k.sz) := by omega
    simp only [Instr.buildSlice]
    simp [run_underlying T.under, sizeOf, typeInfo, hi, hsz, hno', h0', zeroValue, hz, hf, newRow]

theorem f_bsl {t e : TypeId} {bytes m : Nat} {x0 : α} {parts : List (Nat × Operand)} (T : SlT P t e k bytes x0) (hW : Wk row w0 F0 F w) (xs : List α) (vs : List Value) (hv : Vals k F w xs vs) (hm : m = xs.length) (hsm : xs.length * k.sz ≤ 16777216)
    (hp : (parts.map fun p => (p.1, ev ρ p.2)) = (vs.zipIdx 0).map fun p => (p.2, p.1)) : Eff P ρ n w (.buildSlice t m parts.toArray) (fun v w' => Wk nrow w F F w' ∧ OwnV k e (Nw w) F w' v xs) := by
  subst hm
  obtain ⟨cs, hcat, hr⟩ := run_buildSlice (P := P) (parts := (parts.map fun p => (p.1, ev ρ p.2)).toArray) T hv hsm (by rw [← hp])
  have hown := own_new (e := e) (B := Nw w) (cap := xs.length) (rest := #[]) hW.ok (show Nw w w.heap.size from Nat.le_refl _) hcat (Nat.le_refl _) (by have := T.pos; have := Nat.le_mul_of_pos_right xs.length this; omega) (by simp)
  rw [Array.append_empty] at hown
  refine Eff.of_run (fun d ty pos after g => ?_) ⟨Wk.alloc hW.ok _, hown⟩
  have e1 : (parts.toArray.map fun (i, x) => (i, ev ρ x)) = (parts.map fun p => (p.1, ev ρ p.2)).toArray := by simp
  simp only [execOp, e1, Sem.run_bind, hr, Result.andThen_ok, Sem.run_pure]
theorem Eff.mono {op : Op} {R R' : Value → World → Prop} (h : Eff P ρ n w op R) (hr : ∀ v w', R v w' → R' v w') : Eff P ρ n w op R' :=
  fun d ty pos after g dl a hF K Q' hK => h d ty pos after g dl a hF K Q' fun v w' hv => hK v w' (hr v w' hv)
/-- The same, only read from there on. -/
theorem f_bslF {t e : TypeId} {bytes m : Nat} {x0 : α} {parts : List (Nat × Operand)} (T : SlT P t e k bytes x0) (hW : Wk row w0 F0 F w) (xs : List α) (vs : List Value) (hv : Vals k F w xs vs) (hm : m = xs.length) (hsm : xs.length * k.sz ≤ 16777216)
    (hp : (parts.map fun p => (p.1, ev ρ p.2)) = (vs.zipIdx 0).map fun p => (p.2, p.1)) : Eff P ρ n w (.buildSlice t m parts.toArray) (fun v w' => ∃ F', Wk nrow w F F' w' ∧ SlR k F' w' v xs) :=
  (f_bsl T hW xs vs hv hm hsm hp).mono fun v w' ⟨hW', ho⟩ => by
    obtain ⟨F', h1, h2, h3, h4⟩ := ho.frozenN (w0 := w) (fun g hg => (ho.lt hg).1) hW'
    exact ⟨F', h1, h4⟩

/-! #### make -/
def mkL {α : Type} (bytes : Nat) (x0 : α) (m : Int) : Option (List α) := if 0 ≤ m ∧ m * bytes ≤ 140737488355328 then some (List.replicate m.toNat x0) else none
theorem mkL_some {bytes : Nat} {x0 : α} {m : Int} {xs : List α} (h : mkL bytes x0 m = some xs) : (0 ≤ m ∧ m * bytes ≤ 140737488355328) ∧ xs = List.replicate m.toNat x0 := by
  unfold mkL at h
  split at h
  · exact ⟨by assumption, (Option.some.inj h).symm⟩
  · cases h
theorem made_cat {z : Array Value} {x0 : α} (hz : ∀ F w, k.rep F w x0 z.toList) (hs : z.size = k.sz) (hp : 0 < k.sz) : ∀ m, Cat k F w (List.replicate m x0) (madeCells z (m * k.sz)).toList
  | 0 => by simp [madeCells, Cat]
  | m + 1 => by
    have ih := made_cat hz hs hp m
    have h1 : Cat k F w [x0] z.toList := ⟨z.toList, [], by simp, hz F w, rfl⟩
    have h2 := ih.append h1
    rw [show List.replicate m x0 ++ [x0] = List.replicate (m + 1) x0 by rw [List.replicate_succ']] at h2
    have e : (madeCells z (m * k.sz)).toList ++ z.toList = (madeCells z ((m + 1) * k.sz)).toList := by
      apply List.ext_getElem
      · simp [madeCells, hs, Nat.add_mul]
      · intro i h3 h4
        simp only [madeCells, Array.toList_map, Array.toList_range, List.getElem_map, List.getElem_range, List.getElem_append]
        simp only [List.length_map, List.length_range]
        split
        · rfl
        · rename_i hlt
          simp only [List.length_append, Array.length_toList, size_madeCells, hs] at h3
          have hmod : i % z.size = i - m * k.sz := by
            rw [hs]
            have hcm : k.sz * m = m * k.sz := Nat.mul_comm _ _
            have : i = (i - m * k.sz) + k.sz * m := by omega
            conv => lhs; rw [this]
            rw [Nat.add_mul_mod_self_left, Nat.mod_eq_of_lt (by omega)]
          have hb : i - m * k.sz < z.size := by omega
          rw [hmod, getElem!_pos z (i - m * k.sz) hb]
          simp
    rwa [e] at h2

theorem f_mks {t e : TypeId} {bytes : Nat} {x0 : α} {lo co : Operand} (T : SlT P t e k bytes x0) (hW : Wk row w0 F0 F w) {m : Int} {xs : List α} {kl kc : IntKind} (hl : ev ρ lo = .int kl m) (hc : ev ρ co = .int kc m) (hx : mkL bytes x0 m = some xs) :
    Eff P ρ n w (.makeSlice t lo co) (fun v w' => Wk nrow w F F w' ∧ OwnV k e (Nw w) F w' v xs) := by
  obtain ⟨⟨h0, hb⟩, rfl⟩ := mkL_some hx
  obtain ⟨i, z, hi, hz, hsz, hby, hzs, hzr⟩ := T.info
  have hbp := T.bpos
  have hm63 : m ≤ 140737488355328 := by
    have h2 : m * 1 ≤ m * (bytes : Int) := Int.mul_le_mul_of_nonneg_left (by omega) h0
    omega
  have hr := run_make (P := P) w t e i z T.under hi hz kl kc m m h0 (Int.le_refl _) (by rw [hby, Int.mul_comm]; omega) (by omega)
  have hcat := made_cat (F := F) (w := w) hzr hzs T.pos m.toNat
  have hown := own_new (e := e) (B := Nw w) (cap := m.toNat) (rest := #[]) hW.ok (show Nw w w.heap.size from Nat.le_refl _) hcat (by simp) (by omega) (by simp)
  rw [Array.append_empty, Array.toArray_toList] at hown
  rw [hsz] at hr
  simp only [List.length_replicate] at hown
  refine Eff.of_run (fun d ty pos after g => ?_) ⟨Wk.alloc hW.ok _, hown⟩
  simp only [execOp, hl, hc, Sem.run_bind, hr, Result.andThen_ok, Sem.run_pure]

/-! #### an element of a slice of one's own: its address, a store -/
theorem OwnV.at_ {e : TypeId} {v : Value} {xs : List α} {B : BSet} {i : Int} {u : α} (ho : OwnV k e B F w v xs) (hu : idx xs i = some u) : ∃ g o cap, v = .slice (some ⟨g, o, none⟩) xs.length cap ∧ LiesAt k F w g (o + i.toNat * k.sz) u :=
  ho.get (idx_some hu).2.2
theorem e_ixO {x ix : Operand} {t e : TypeId} {bytes : Nat} {x0 : α} {v : Value} {xs : List α} {ik : IntKind} {i : Int} {u : α} {g o cap : Nat} (T : SlT P t e k bytes x0) (hv : v = .slice (some ⟨g, o, none⟩) xs.length cap)
    (hu : idx xs i = some u) (hx : ev ρ x = v) (hi : ev ρ ix = .int ik i) : Ev P ρ w (.indexAddr t x ix) (.pointer (some ⟨g, o + i.toNat * k.sz, none⟩)) :=
  e_ix (A := some ⟨g, o, none⟩) T.sl T.sz rfl hu (hx.trans hv) hi

/-- A part of a struct is replaced. -/
def FldS (k : Kd α) (off : Nat) (l : Kd β) (put : α → β → α) : Prop :=
  off + l.sz ≤ k.sz ∧ ∀ {F w x y cs ds}, k.rep F w x cs → l.rep F w y ds → k.rep F w (put x y) (cs.take off ++ ds ++ cs.drop (off + l.sz))
theorem FldS.whole (k : Kd α) : FldS k 0 k (fun _ y => y) := by
  refine ⟨by simp, ?_⟩
  intro F w x y cs ds h1 h2
  rw [List.take_zero, Nat.zero_add, List.nil_append, List.drop_of_length_le (by rw [k.len h1]; exact Nat.le_refl _), List.append_nil]
  exact h2

theorem FldS.fst (k : Kd α) (l : Kd β) : FldS (kPair k l) 0 k (fun x y => (y, x.2)) := by
  refine ⟨by simp [kPair], ?_⟩
  rintro F w x y cs ds ⟨c, e, rfl, hc, he⟩ hd
  refine ⟨ds, e, ?_, hd, he⟩
  rw [List.take_zero, Nat.zero_add, List.nil_append, ← k.len hc, List.drop_left]
theorem FldS.snd {γ : Type} (k : Kd α) {l : Kd β} {off : Nat} {m : Kd γ} {put : β → γ → β} (h : FldS l off m put) : FldS (kPair k l) (k.sz + off) m (fun x y => (x.1, put x.2 y)) := by
  refine ⟨by have := h.1; simp only [kPair]; omega, ?_⟩
  rintro F w x y cs ds ⟨c, e, rfl, hc, he⟩ hd
  refine ⟨c, e.take off ++ ds ++ e.drop (off + m.sz), ?_, hc, h.2 he hd⟩
  rw [← k.len hc, List.take_length_add_append, Nat.add_assoc, List.drop_length_add_append]
  simp only [List.append_assoc]
theorem FldS.iso {γ : Type} {k : Kd β} {off : Nat} {l : Kd γ} {put : β → γ → β} (f : α → β) {put' : α → γ → α} (h : FldS k off l put) (hp : ∀ x y, f (put' x y) = put (f x) y) : FldS (kIso k f) off l put' := by
  refine ⟨h.1, ?_⟩
  intro F w x y cs ds h1 h2
  show k.rep F w (f (put' x y)) _
  rw [hp]
  exact h.2 h1 h2

theorem run_storeAt {t : TypeId} (ht : TyOk P t l) {v : Value} {y : β} (hv : Val l F w v y) {g o : Nat} {cur : Array Value} {e : TypeId} (hg : w.heap[g]? = some (.cells cur e (0, 0))) (hfit : o + l.sz ≤ cur.size) :
    (Instr.storeAt t (.pointer (some ⟨g, o, none⟩)) v).run P w = .ok () (w.setRow g (cur.toList.take o ++ v.cells.toList ++ cur.toList.drop (o + l.sz)).toArray) := by
  have hr := hv.cells
  have hl := l.len hr
  rw [Array.length_toList] at hl
  have hS := ht.run_sizeOf w
  have hst := run_storeCells_at P g o e v.cells.toList 0 cur w hg (by rw [Array.length_toList, hl]; omega) (l.one hr)
  simp only [Nat.add_zero, Array.length_toList, hl] at hst
  simp only [Instr.storeAt, Instr.sureAddr, storeVar, Sem.run_bind, Sem.run_pure, Result.andThen_ok, hS]
  rw [if_neg (by omega)]
  exact hst

theorem OwnV.store {e t : TypeId} {B : BSet} {v u : Value} {xs : List α} {i off : Nat} {put : α → β → α} {x : α} {y : β} (ho : OwnV k e B F w v xs) (ok : ∀ b, F b → b < w.heap.size) (hx : xs[i]? = some x) (hp : FldS k off l put) (ht : TyOk P t l) (hu : Val l F w u y)
    {g o cap : Nat} (hv : v = .slice (some ⟨g, o, none⟩) xs.length cap) :
    ∃ w', (Instr.storeAt t (.pointer (some ⟨g, o + i * k.sz + off, none⟩)) u).run P w = .ok () w' ∧ OwnV k e B F w' v (xs.set i (put x y)) ∧ w.grownBy w' v.ownBlock ∧ w'.heap.size = w.heap.size := by
  have hlt := fun g hg => ho.lt (g := g) hg
  rcases ho with ⟨rfl, rfl⟩ | ⟨g', o', cap', cur, cs, hv', hB, hF, hh, ⟨hcap, hcm⟩, hsize, hcat, htake⟩
  · simp at hx
  · rw [hv'] at hv
    injection hv with h1 _ h2
    injection h1 with h1
    injection h1 with h1a h1b
    subst h1a h1b h2
    have hi : i < xs.length := (List.getElem?_eq_some_iff.1 hx).1
    have hcl := hcat.len
    have hfl := hp.1
    have hle : (i + 1) * k.sz ≤ xs.length * k.sz := Nat.mul_le_mul_right _ hi
    have hle2 : xs.length * k.sz ≤ cap' * k.sz := Nat.mul_le_mul_right _ hcap
    rw [Nat.add_mul] at hle
    have hr := run_storeAt (P := P) ht hu (o := o' + i * k.sz + off) hh (by omega)
    have hgr : w.grownBy (w.setRow g' (cur.toList.take (o' + i * k.sz + off) ++ u.cells.toList ++ cur.toList.drop (o' + i * k.sz + off + l.sz)).toArray) (some g') :=
      ⟨rfl, rfl, rfl, by simp, fun j _ hj => setRow_other w g' j _ (fun e => hj (by rw [e]))⟩
    have hs := Stp.mut ok hgr (fun g0 e => by cases e; exact hF)
    have hul : u.cells.toList.length = l.sz := l.len hu.cells
    have hrepi := hp.2 (hcat.get hx) hu.cells
    have hset := hcat.set hi hrepi
    refine ⟨_, hr, ?_, by rw [hv']; exact hgr, by simp⟩
    rw [hv']
    refine .inr ⟨g', o', cap', _, _, by rw [List.length_set], hB, hF, setRow_heap w g' cur _ e _ hh, ⟨by rw [List.length_set]; exact hcap, hcm⟩, ?_, hset.keep hs, ?_⟩
    · simp only [List.size_toArray, List.length_append, List.length_take, List.length_drop, Array.length_toList, hul] at *
      omega
    · have hcurlen : cur.toList.length = cur.size := Array.length_toList
      apply List.ext_getElem?
      intro j
      simp only [List.length_append, List.length_take, List.length_drop, hul, hcl]
      by_cases hj : j < xs.length * k.sz
      · have hreach : min (i * k.sz) (xs.length * k.sz) + (min off (min k.sz (xs.length * k.sz - i * k.sz)) + l.sz + (min k.sz (xs.length * k.sz - i * k.sz) - (off + l.sz))) + (xs.length * k.sz - (i + 1) * k.sz) = xs.length * k.sz := by
          rw [Nat.add_mul]; omega
        rw [hreach, List.getElem?_take, if_pos hj, List.getElem?_drop]
        have hcj : cs[j]? = cur.toList[o' + j]? := by
          conv => lhs; rw [← htake]
          rw [List.getElem?_take, if_pos (by omega), List.getElem?_drop]
        by_cases a1 : j < i * k.sz
        · rw [List.getElem?_append_left (by rw [List.length_append, List.length_take]; omega), List.getElem?_append_left (by rw [List.length_take]; omega), List.getElem?_take, if_pos (by omega)]
          rw [List.getElem?_append_left (by simp only [List.length_append, List.length_take, List.length_drop, hul, hcl]; omega), List.getElem?_append_left (by rw [List.length_take]; omega), List.getElem?_take, if_pos a1, hcj]
        · by_cases a2 : j < i * k.sz + off
          · rw [List.getElem?_append_left (by rw [List.length_append, List.length_take]; omega), List.getElem?_append_left (by rw [List.length_take]; omega), List.getElem?_take, if_pos (by omega)]
            rw [List.getElem?_append_left (by simp only [List.length_append, List.length_take, List.length_drop, hul, hcl]; omega), List.getElem?_append_right (by rw [List.length_take]; omega), List.length_take, Nat.min_eq_left (by omega)]
            rw [List.getElem?_append_left (by simp only [List.length_append, List.length_take, List.length_drop, hul, hcl]; omega), List.getElem?_append_left (by simp only [List.length_take, List.length_drop, hcl]; omega)]
            rw [List.getElem?_take, if_pos (by omega), List.getElem?_take, if_pos (by omega), List.getElem?_drop, show i * k.sz + (j - i * k.sz) = j by omega, hcj]
          · by_cases a3 : j < i * k.sz + off + l.sz
            · rw [List.getElem?_append_left (by rw [List.length_append, List.length_take]; omega), List.getElem?_append_right (by rw [List.length_take]; omega), List.length_take, Nat.min_eq_left (by omega)]
              rw [List.getElem?_append_left (by simp only [List.length_append, List.length_take, List.length_drop, hul, hcl]; omega), List.getElem?_append_right (by rw [List.length_take]; omega), List.length_take, Nat.min_eq_left (by omega)]
              rw [List.getElem?_append_left (by simp only [List.length_append, List.length_take, List.length_drop, hul, hcl]; omega), List.getElem?_append_right (by simp only [List.length_take, List.length_drop, hcl]; omega)]
              simp only [List.length_take, List.length_drop, hcl]
              congr 1; omega
            · rw [List.getElem?_append_right (by rw [List.length_append, List.length_take]; omega), List.getElem?_drop]
              simp only [List.length_append, List.length_take, hul]
              rw [show o' + i * k.sz + off + l.sz + (o' + j - (min (o' + i * k.sz + off) cur.toList.length + l.sz)) = o' + j by omega, ← hcj]
              by_cases a4 : j < (i + 1) * k.sz
              · rw [Nat.add_mul] at a4
                rw [List.getElem?_append_left (by simp only [List.length_append, List.length_take, List.length_drop, hul, hcl]; omega), List.getElem?_append_right (by rw [List.length_take]; omega), List.length_take, Nat.min_eq_left (by omega)]
                rw [List.getElem?_append_right (by simp only [List.length_append, List.length_take, List.length_drop, hul, hcl]; omega), List.getElem?_drop, List.getElem?_take]
                simp only [List.length_append, List.length_take, List.length_drop, hul, hcl]
                rw [if_pos (by omega), List.getElem?_drop]
                congr 1; omega
              · rw [Nat.add_mul] at a4
                rw [List.getElem?_append_right (by simp only [List.length_append, List.length_take, List.length_drop, hul, hcl]; omega), List.getElem?_drop]
                simp only [List.length_append, List.length_take, List.length_drop, hul, hcl]
                congr 1
                rw [Nat.add_mul]; omega
      · rw [List.getElem?_eq_none (by simp only [List.length_take]; rw [Nat.add_mul]; omega), List.getElem?_eq_none (by simp only [List.length_append, List.length_take, List.length_drop, hul, hcl]; rw [Nat.add_mul]; omega)]
end
end Go.Fx
