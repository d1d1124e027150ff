/- What slices.Insert is made of: copy at elements of any size, an append of zeros that makes a new row, slices.overlaps at rows that lie apart. -/
import Derived.Test.YtenkbkcddcnmeaaDoorFx9
import Derived.Lib.AppendZeros
import GoSem.Extern.SlicesOverlaps
set_option linter.unusedVariables false
namespace Go.Fx
section
variable {P : Program} {ρ : Env} {n : Nat} {w w' : World}
theorem run_copyN (w : World) (dT sT ty e : TypeId) (sz : Nat) (D A : Option Addr) (g o dLen dCap sLen sCap : Nat) (cur : List Value) (te : TypeId) (cs : List Value) (hu : P.underlying dT = some (.slice e)) (hs : (P.info? e).map (·.size) = some sz)
    (hg : w.heap[g]? = some (.cells cur.toArray te (0, 0))) (hn : cs.length = Nat.min sLen dLen * sz) (hsrc : 0 < cs.length → D = some ⟨g, o, none⟩ ∧ ∃ a, A = some a ∧ ∀ j v, cs[j]? = some v → w.cell? (a.add j) = some v) (hfit : o + cs.length ≤ cur.length) (h1 : ∀ v ∈ cs, v.oneCell' = true) :
    ∃ v' w', (Builtin.copy_ #[dT, sT] ty #[.slice D dLen dCap, .slice A sLen sCap]).run P w = .ok v' w' ∧ w.grownBy w' (some g) ∧ w'.heap[g]? = some (.cells (cur.take o ++ cs ++ cur.drop (o + cs.length)).toArray te (0, 0)) := by
  cases hq : P.info? e with
  | none => simp [hq] at hs
  | some i =>
    have hi : i.size = sz := by simpa [hq] using hs
    by_cases h0 : cs = []
    · subst h0
      have hz : Nat.min sLen dLen * sz = 0 := by simpa using hn.symm
      refine ⟨goInt (Nat.min sLen dLen), w, ?_, World.grownBy.refl w _, by simpa using hg⟩
      have hl : ∀ (x : Addr), (loadCells x 0).run P w = .ok #[] w := fun x => by simpa using run_loadCells_list (P := P) w x [] (by simp)
      cases D <;> cases A <;> simp [Builtin.copy_, run_underlying hu, Builtin.lenOf, Builtin.firstCells, sizeOf, typeInfo, hq, hi, hz, storeCells, hl]
    · obtain ⟨rfl, a, rfl, hc⟩ := hsrc (List.length_pos_iff.2 h0)
      have hf := run_firstCells_some (P := P) w sz (Nat.min sLen dLen) a sLen sCap cs hn hc
      have hst := run_storeCells_at P g o te cs 0 cur.toArray w hg (by simpa using hfit) h1
      simp only [Nat.add_zero] at hst
      refine ⟨goInt (Nat.min sLen dLen), w.setRow g (cur.take o ++ cs ++ cur.drop (o + cs.length)).toArray, ?_, ⟨rfl, rfl, rfl, by simp, fun j _ hj => setRow_other w g j _ (fun e => hj (by rw [e]))⟩, setRow_heap w g cur.toArray _ te _ hg⟩
      simp [Builtin.copy_, run_underlying hu, Builtin.lenOf, sizeOf, typeInfo, hq, hi, hf, hst]
theorem f_copy {x y : Operand} {dT sT e : TypeId} {sz : Nat} {D A : Option Addr} {g o dLen dCap sLen sCap : Nat} {cur : List Value} {te : TypeId} {cs : List Value} (hu : P.underlying dT = some (.slice e)) (hs : (P.info? e).map (·.size) = some sz)
    (hg : w.heap[g]? = some (.cells cur.toArray te (0, 0))) (hn : cs.length = Nat.min sLen dLen * sz) (hsrc : 0 < cs.length → D = some ⟨g, o, none⟩ ∧ ∃ a, A = some a ∧ ∀ j v, cs[j]? = some v → w.cell? (a.add j) = some v) (hfit : o + cs.length ≤ cur.length) (h1 : ∀ v ∈ cs, v.oneCell' = true)
    (hx : ev ρ x = .slice D dLen dCap) (hy : ev ρ y = .slice A sLen sCap) :
    Eff P ρ n w (.call { callee := .builtin .copy, args := #[x, y], argTypes := #[dT, sT] }) (fun _ w' => w.grownBy w' (some g) ∧ w'.heap[g]? = some (.cells (cur.take o ++ cs ++ cur.drop (o + cs.length)).toArray te (0, 0))) := by
  intro d ty pos after gd dl a hF K Q' hK
  obtain ⟨v', w', hr, h2, h3⟩ := run_copyN w dT sT ty e sz D A g o dLen dCap sLen sCap cur te cs hu hs hg hn hsrc hfit h1
  have := Eff.of_run (P := P) (ρ := ρ) (n := n) (w := w) (op := .call { callee := .builtin .copy, args := #[x, y], argTypes := #[dT, sT] }) (v := v') (w' := w') (R := fun v w2 => v = v' ∧ w2 = w') (fun d2 ty2 pos2 after2 g2 => ?_) ⟨rfl, rfl⟩
  · exact this d ty pos after gd dl a hF K Q' (by rintro v w2 ⟨rfl, rfl⟩; exact hK _ _ ⟨h2, h3⟩)
  · simp only [execOp, resolve, invoke, builtin, List.map_toArray, List.map_cons, List.map_nil, hx, hy, Sem.run_bind, Sem.run_pure, Result.andThen_ok]
    have hr2 : (Builtin.copy_ #[dT, sT] ty2 #[.slice D dLen dCap, .slice A sLen sCap]).run P w = .ok v' w' := hr
    exact congrArg (fun x => Result.andThen x fun a w' => Result.ok (Next.value a) w') hr2
/-- append(s, make(.., m)...) where there is no room. -/
theorem run_append_zeros {t tn ty e : TypeId} {i : TypeInfo} {z : Value} {kn : IntKind} (ht : P.underlying t = some (.slice e)) (htn : P.underlying tn = some (.int kn)) (hi : P.info? e = some i) (hz : i.zero = some z)
    (b : Addr) (sLen sCap : Nat) (olds : List Value) (hlo : olds.length = sLen * i.size) (holds : ∀ j v, olds[j]? = some v → w.cell? (b.add j) = some v) (m : Nat) (h0 : 0 < m) (hsz : 0 < i.size)
    (hg : sCap < sLen + m) (h63 : ((sLen + m : Nat) : Int) ≤ 9223372036854775807) (hb : (sLen + m) * i.bytes ≤ 140737488355328) (hbp : 0 < i.bytes) (hsl : sLen ≤ sCap) :
    (Builtin.append_ #[t, tn] ty #[.slice (some b) sLen sCap, .int .i64 m]).run P w =
      .ok (.slice (some ⟨w.heap.size, 0, none⟩) (sLen + m) (grownCap w (sLen + m) sCap e))
        (w.drew.alloc (.cells (olds.toArray ++ Builtin.zeroCells z.cells m ++ Builtin.zeroCells z.cells (grownCap w (sLen + m) sCap e - (sLen + m))) e)) := by
  have hn : ¬ (sLen + m ≤ sCap) := by omega
  have hm : m ≠ 0 := by omega
  have hw : IntKind.i64.wrap (m : Int) = m := by rw [IntKind.wrap_i64]; omega
  have h63' : ¬ (9223372036854775807 < ((sLen : Int) + (m : Int))) := by omega
  have hfit := growslice_fits (old := sCap) (by omega) hb
  have h48' : ¬ (281474976710656 < Builtin.nextslicecap (sLen + m) sCap * i.bytes) := by omega
  have hmb : m * i.bytes ≤ (sLen + m) * i.bytes := Nat.mul_le_mul_right _ (by omega)
  have h48i : ¬ (281474976710656 < (m : Int) * (i.bytes : Int)) := by rw [← Int.natCast_mul]; omega
  have hneg : ¬ ((m : Int) < 0) := by omega
  have hns : ¬ (m * i.size = 0) := Nat.mul_ne_zero hm (by omega)
  have hfo := run_firstCells_some (P := P) w.drew i.size sLen b sLen sCap olds hlo (by simpa using holds)
  simp [Builtin.append_, run_underlying ht, run_underlying htn, sizeOf, typeInfo, zeroValue, hi, hz, asInt, asIntOf, hw, hn, hneg, hns, h63', h48', h48i, Question.forced, hfo, newRow, grownCap]
theorem run_overlaps {t e : TypeId} {rs : Array TypeId} {sz : Nat} {A B : Option Addr} {la ca lb cb : Nat} (ht : P.underlying t = some (.slice e)) (hs : (P.info? e).map (·.size) = some sz)
    {g : Nat} {cur : Array Value} {te : TypeId} (hB : ∀ b, B = some b → b.block = g ∧ b.spot = none) (hg : w.heap[g]? = some (.cells cur te (0, 0))) (hA : ∀ a, A = some a → 0 < la → a.block ≠ g ∧ ∃ v, w.cell? a = some v) :
    (Extern.SlicesOverlaps.overlaps #[t, t] rs #[.slice A la ca, .slice B lb cb]).run P w = .ok (.bool false) w := by
  delta Extern.SlicesOverlaps.overlaps Extern.SlicesOverlaps.overlaps.match_4
  dsimp [Array.getLit]
  cases hq : P.info? e with
  | none => simp [hq] at hs
  | some i =>
    have hi : i.size = sz := by simpa [hq] using hs
    cases A with
    | none => cases B <;> simp [run_underlying ht, sizeOf, typeInfo, hq]
    | some a =>
      cases B with
      | none => simp [run_underlying ht, sizeOf, typeInfo, hq]
      | some b =>
        by_cases hz : la = 0 ∨ lb = 0 ∨ sz = 0
        · simp [run_underlying ht, sizeOf, typeInfo, hq, hi, hz]
        · obtain ⟨hbb, hbs⟩ := hB b rfl
          obtain ⟨hne, v, hv⟩ := hA a rfl (by omega)
          have hbl : (a.block != b.block) = true := by simp [hbb, hne]
          have hfb : w.frozen? b = false := by
            obtain ⟨bb, bo, bs⟩ := b
            simp only at hbb hbs
            subst hbb hbs
            simp [World.frozen?, hg]
          have hne' : ¬ a.block = b.block := by rw [hbb]; exact hne
          simp [run_underlying ht, sizeOf, typeInfo, hq, hi, hz, hfb, hne']
          obtain ⟨c, te2, fr, hh, hc⟩ : ∃ c te2 fr, w.heap[a.block]? = some (.cells c te2 fr) ∧ c[a.off]? = some v := by
            unfold World.cell? at hv
            split at hv
            · rename_i c te2 fr hh
              split at hv
              · cases hv
              · exact ⟨c, te2, fr, hh, hv⟩
            · cases hv
          have hgb : w.heap[b.block]? = some (.cells cur te (0, 0)) := by rw [hbb]; exact hg
          have hsa : w.shape? a.block = some (te2, c.size) := by simp [World.shape?, hh]
          have hsb : w.shape? b.block = some (te, cur.size) := by simp [World.shape?, hgb]
          have hfz : w.frozen? { block := b.block, off := cur.size } = false := by simp [World.frozen?, hgb]
          have hcz : ¬ c.size = 0 := by
            have := (Array.getElem?_eq_some_iff.1 hc).1
            omega
          have h1 : (noView a).run P w = .ok () w := by simp [noView, viewAt, hsa]
          have h2 : (noView b).run P w = .ok () w := by simp [noView, viewAt, hsb]
          have h3 : (mayBeOne a b).run P w = .ok false w := by
            simp [mayBeOne, stringish, hsa, hsb, hfb, hfz]
            generalize c.size = q at hcz
            cases q with
            | zero => exact absurd rfl hcz
            | succ q => simp
          simp [h1, h2, h3, hne', Result.andThen]
theorem f_overlaps {x y : Operand} {f : FuncId} {fn : Func} {t e : TypeId} {rs tys : Array TypeId} {sz : Nat} {A B : Option Addr} {la ca lb cb : Nat} {ρ : Env} {n : Nat} (hf : P.funcs[f]? = some fn) (hname : (fn.name == "runtime.NumGoroutine") = false) (hb : fn.body.isNone = true) (hn : Extern.findNext fn = none) (he : Extern.find fn = some (Extern.SlicesOverlaps.overlaps #[t, t] rs))
    (ht : P.underlying t = some (.slice e)) (hs : (P.info? e).map (·.size) = some sz) {g : Nat} {cur : Array Value} {te : TypeId} (hB : ∀ b, B = some b → b.block = g ∧ b.spot = none) (hg : w.heap[g]? = some (.cells cur te (0, 0))) (hA : ∀ a, A = some a → 0 < la → a.block ≠ g ∧ ∃ v, w.cell? a = some v)
    (hx : ev ρ x = .slice A la ca) (hy : ev ρ y = .slice B lb cb) :
    Eff P ρ n w (.call { callee := .value (.func f), args := #[x, y], argTypes := tys }) (fun v w' => v = .bool false ∧ w' = w) := by
  refine Eff.of_run (v := .bool false) (w' := w) (fun d ty pos after gd => ?_) ⟨rfl, rfl⟩
  have hr := run_overlaps (P := P) (w := w) (rs := rs) (ca := ca) (cb := cb) ht hs hB hg hA (la := la) (lb := lb)
  have hc := run_callFunc_extern (P := P) hf hname hb hn he #[.slice A la ca, .slice B lb cb] w
  rw [hr, Result.andThen_ok] at hc
  have h0 : (#[] : Array Value) ++ (#[x, y] : Array Operand).map (ev ρ) ++ #[] = #[.slice A la ca, .slice B lb cb] := by simp [hx, hy]
  have h1 : (execOp (ev ρ) { dst := d, op := .call { callee := .value (.func f), args := #[x, y], argTypes := tys }, type := ty, pos := pos, after := after, guard := gd }) = callFunc f #[.slice A la ca, .slice B lb cb] := by
    rw [← h0]; rfl
  rw [h1]
  exact hc
end
end Go.Fx
