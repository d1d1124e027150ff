/- slices.Insert. -/
import Derived.Test.YtenkbkcddcnmeaaDoorNm
import Derived.Test.YtenkbkcddcnmeaaDoorFx13
namespace Go.Proofs.YtenkbkcddcnmeaaDoor
open Go.Fx Go.RowKit
set_option linter.unusedVariables false
set_option linter.unusedSimpArgs false
set_option maxRecDepth 20000

theorem e_cap' {P : Program} {ρ : Env} {w : World} {x : Operand} {t e : TypeId} {A : Option Addr} {l c0 : Nat} (ht : SlOk P t e) (hx : ev ρ x = .slice A l c0) : Ev P ρ w (.call { callee := .builtin .cap, args := #[x], argTypes := #[t] }) (.int .i64 (c0 : Int)) := fun _ _ _ _ _ => by simp [execOp, resolve, invoke, builtin, hx, Builtin.cap_, run_underlying ht, goInt]
theorem e_slHc {P : Program} {ρ : Env} {w : World} {t e : TypeId} {x b : Operand} {A : Option Addr} {sz l c0 : Nat} {kb : IntKind} {hi : Int} (ht : SlOk P t e) (hs : (P.info? e).map (·.size) = some sz) (hx : ev ρ x = .slice A l c0)
    (hb : ev ρ b = .int kb hi) (h0 : 0 ≤ hi) (h1 : hi ≤ c0) : Ev P ρ w (.slice t x none (some b) none) (sliced A 0 hi.toNat c0 sz) := by
  have hu : P.underlying t = some (.slice (P.elem t)) := by rw [ht.elem]; exact ht
  intro d ty pos after g
  simp only [execOp, Option.map_some, Option.map_none, hx, hb, Sem.run_bind, run_sliceAt_slice (P := P) w t _ _ _ _ hu]
  rw [run_slice_h (P := P) w t A l c0 hu kb hi h0 h1, ht.elem, run_sizeOf' hs, Result.andThen_ok, Result.andThen_ok, Sem.run_pure]
theorem e_slLc {P : Program} {ρ : Env} {w : World} {t e : TypeId} {x b : Operand} {A : Option Addr} {sz l c0 : Nat} {kb : IntKind} {lo : Nat} (ht : SlOk P t e) (hs : (P.info? e).map (·.size) = some sz) (hx : ev ρ x = .slice A l c0)
    (hb : ev ρ b = .int kb (lo : Int)) (h1 : lo ≤ l) (h2 : l ≤ c0) : Ev P ρ w (.slice t x (some b) none none) (sliced A lo l c0 sz) := by
  have h := e_slL (α := Unit) (P := P) (ρ := ρ) (w := w) (xs := List.replicate l ()) (ys := (List.replicate l ()).drop lo) (sz := sz) (lo := (lo : Int)) (x := x) (a := b) (c0 := c0) (A := A) ht hs (by simpa using h2) (by simpa using hx) hb (by unfold cutFrom; rw [if_pos ⟨by omega, by simpa using h1⟩]; simp)
  simpa using h
theorem e_slLa {P : Program} {ρ : Env} {w : World} {t e : TypeId} {x b : Operand} {g o : Nat} {sz l c0 : Nat} {kb : IntKind} {lo : Nat} (ht : SlOk P t e) (hs : (P.info? e).map (·.size) = some sz) (hx : ev ρ x = .slice (some ⟨g, o, none⟩) l c0)
    (hb : ev ρ b = .int kb (lo : Int)) (h1 : lo ≤ l) (h2 : l ≤ c0) (h3 : c0 ≠ lo) : Ev P ρ w (.slice t x (some b) none none) (.slice (some ⟨g, o + lo * sz, none⟩) (l - lo) (c0 - lo)) := by
  have h := e_slLc (P := P) (ρ := ρ) (w := w) ht hs hx hb h1 h2
  have e1 : sliced (some ⟨g, o, none⟩) lo l c0 sz = .slice (some ⟨g, o + lo * sz, none⟩) (l - lo) (c0 - lo) := by simp [sliced, addr_add, h3]
  rw [e1] at h; exact h
theorem e_slHa {P : Program} {ρ : Env} {w : World} {t e : TypeId} {x b : Operand} {g o : Nat} {sz l c0 : Nat} {kb : IntKind} {hi : Nat} (ht : SlOk P t e) (hs : (P.info? e).map (·.size) = some sz) (hx : ev ρ x = .slice (some ⟨g, o, none⟩) l c0)
    (hb : ev ρ b = .int kb (hi : Int)) (h1 : hi ≤ c0) : Ev P ρ w (.slice t x none (some b) none) (.slice (some ⟨g, o, none⟩) hi c0) := by
  have h := e_slHc (P := P) (ρ := ρ) (w := w) ht hs hx hb (by omega) (by omega)
  have e1 : sliced (some ⟨g, o, none⟩) 0 (hi : Int).toNat c0 sz = .slice (some ⟨g, o, none⟩) hi c0 := by simp [sliced, addr_add]
  rw [e1] at h; exact h
theorem World.cell?_congr {w w1 : World} {b o : Nat} (h : w1.heap[b]? = w.heap[b]?) : w1.cell? ⟨b, o, none⟩ = w.cell? ⟨b, o, none⟩ := by
  unfold World.cell?
  simp only [h]
namespace Insert
/-- slices.Insert. -/
def f (xs : List StoredObject) (i : Int) (ys : List StoredObject) : Option (List StoredObject) := if 0 ≤ i ∧ i ≤ xs.length ∧ xs.length ≤ 1000 ∧ ys.length ≤ 1000 then some (xs.take i.toNat ++ ys ++ xs.drop i.toNat) else none
def post (v0 : Value) (w : World) (F : BSet) (r : List StoredObject) (v : Value) (w' : World) : Prop := ∃ (F' : BSet) (v0' : Value), v = v0' ∧ Wk (ob v0.ownBlock) w F F' w' ∧ OwnV k_StoredObject 50 (Bs w (ob v0.ownBlock)) F' w' v0' r
abbrev Q (w : World) (F : BSet) (v0 : Value) (r : List StoredObject) (ρ : Env) (w1 : World) : Prop := Wk (ob v0.ownBlock) w F F w1 ∧ OwnV k_StoredObject 50 (Bs w (ob v0.ownBlock)) F w1 (ρ 6) r
section
variable {w : World} {F : BSet} {A0 A2 : Option Addr} {c0 c2 i : Nat} {xs ys : List StoredObject}
theorem close {m : Unit → Option (Ctl Unit Unit)} {r : List StoredObject} {c : Code} (hc : Tryd.f60.body = some c)
    (h : Ref Tryd.prog Tryd.f60.ntmps c (fun (_ : Unit) ρ w1 => (ρ 0 = .slice A0 xs.length c0 ∧ ρ 1 = .int .i64 (i : Int) ∧ ρ 2 = .slice A2 ys.length c2) ∧ w1 = w) m (fun _ _ _ => False) (fun _ _ _ _ => False) (fun (_ : Unit) ρ w1 => Q w F (.slice A0 xs.length c0) r ρ w1)) (hm : retOf (m ()) = some ()) :
    Calls Tryd.prog 60 #[.slice A0 xs.length c0, .int .i64 (i : Int), .slice A2 ys.length c2] w fun e w' => ∃ v, e = .returned v ∧ post (.slice A0 xs.length c0) w F r v w' := by
  refine calls_of_ref (args := [.slice A0 xs.length c0, .int .i64 (i : Int), .slice A2 ys.length c2]) () Tryd.func60 hc rfl rfl h ⟨⟨rfl, rfl, rfl⟩, rfl⟩ (retOf_some hm) ?_
  rintro ρ w' a ⟨h1, h2⟩ hF
  exact ⟨_, run_results (rs := [.tmp 6]) rfl hF (vs := [ρ 6]) ⟨_, rfl, rfl⟩, F, ρ 6, rfl, h1, h2⟩
end
/-- A new row that is being filled. -/
def NW (w : World) (F : BSet) (g : Nat) (cur : Array Value) (n m i c0 o : Nat) (A2 : Option Addr) (c2 : Nat) (k : Kd StoredObject) (C : List Value) (capN : Nat) (ρ : Env) (w1 : World) : Prop :=
  ρ 9 = .slice (some ⟨w.heap.size, 0, none⟩) (n + m) capN ∧ (ρ 0 = .slice (some ⟨g, o, none⟩) n c0 ∧ ρ 1 = .int .i64 (i : Int) ∧ ρ 2 = .slice A2 m c2) ∧ ρ 7 = .int .i64 (m : Int) ∧ n + m ≤ capN ∧ capN ≤ 9223372036854775807 ∧ capN * k.sz ≤ C.length ∧
    Wk nrow w F F w1 ∧ w1.heap[w.heap.size]? = some (.cells C.toArray 50 (0, 0)) ∧ w1.heap[g]? = some (.cells cur 50 (0, 0))
/-- The row in place. -/
def IP (w : World) (F : BSet) (g n m i c0 o : Nat) (A2 : Option Addr) (c2 : Nat) (C : List Value) (ρ : Env) (w1 : World) : Prop :=
  ρ 0 = .slice (some ⟨g, o, none⟩) (n + m) c0 ∧ ρ 1 = .int .i64 (i : Int) ∧ ρ 2 = .slice A2 m c2 ∧ ρ 7 = .int .i64 (m : Int) ∧ Wk (ob (some g)) w F F w1 ∧ w1.heap[g]? = some (.cells C.toArray 50 (0, 0))
theorem calls {w : World} {F : BSet} (hok : ∀ b, F b → b < w.heap.size) {v0 : Value} {a0 : List StoredObject} (h0 : OwnV k_StoredObject 50 (fun _ => True) F w v0 a0) (a1 : Int) {v2 : Value} {a2 : List StoredObject} (h2 : SlR k_StoredObject F w v2 a2) {r : List StoredObject} (hf : f a0 a1 a2 = some r) : Calls Tryd.prog 60 #[v0, .int .i64 a1, v2] w fun e w' => ∃ v, e = .returned v ∧ post v0 w F r v w' := by
  obtain ⟨⟨ci0, ci1, cb0, cb2⟩, hr⟩ := ite_some hf
  cases hr
  obtain ⟨i, rfl⟩ : ∃ i : Nat, a1 = i := ⟨a1.toNat, by omega⟩
  rw [Int.toNat_natCast]
  have ci : i ≤ a0.length := by omega
  have T := sl_22
  have htS : SlOk Tryd.prog 22 50 := SlT.sl sl_22
  have hsz0 : (Tryd.prog.info? 50).map (·.size) = some (k_StoredObject).sz := SlT.sz sl_22
  obtain ⟨A0, c0, rfl, hc0⟩ := h0.shape
  have h2' := h2
  obtain ⟨A2, c2, rfl, hc2, hR2⟩ := h2
  have hp := T.pos
  -- the part that all ways begin with
  have pre0 : ∀ {P : Prop}, P → P := fun h => h
  by_cases hm : a2 = []
  · -- nothing to insert
    have hml : a2.length = 0 := by rw [hm]; rfl
    refine close (m := seqM (regM fun s => some s) (seqM (regM fun s => some s) (seqM (regM fun s => some s) (seqM (seqM (regM fun s => some s) (condM (fun _ => true) (seqM (regM fun s => some s) (retM fun _ => ())) noneM)) noneM)))) rfl ?_ rfl
    refine Ref.seq (B := fun _ ρ w1 => (ρ 0 = .slice A0 a0.length c0 ∧ ρ 1 = .int .i64 (i : Int) ∧ ρ 2 = .slice A2 a2.length c2) ∧ w1 = w) ?_ (Ref.seq (B := fun _ ρ w1 => (ρ 0 = .slice A0 a0.length c0 ∧ ρ 1 = .int .i64 (i : Int) ∧ ρ 2 = .slice A2 a2.length c2) ∧ w1 = w) ?_ (Ref.seq (B := fun _ ρ w1 => ρ 7 = .int .i64 (a2.length : Int) ∧ (ρ 0 = .slice A0 a0.length c0 ∧ ρ 1 = .int .i64 (i : Int) ∧ ρ 2 = .slice A2 a2.length c2) ∧ w1 = w) ?_ (Ref.seq (B := fun _ _ _ => False) (Ref.seq (B := fun _ ρ w1 => ρ 16 = .bool true ∧ (ρ 0 = .slice A0 a0.length c0) ∧ w1 = w) ?_ (Ref.cond (fun s ρ w h => h.1) (Ref.seq (B := fun _ ρ w1 => Q w F (.slice A0 a0.length c0) _ ρ w1) ?_ (Ref.ret (fun s ρ w h => h))) Ref.noneM)) Ref.noneM)))
    · refine Ref.region (fun s ρ w1 s' h hr => ?_)
      refine ol_v (e_as _ rfl) rfl ?_
      exact ol_nil h
    · refine Ref.region (fun s ρ w1 s' h hr => ?_)
      refine ol_v (e_mv _ h.1.1) rfl ?_
      refine ol_v (e_mv _ h.1.2.1) rfl ?_
      refine ol_v (e_slLc htS hsz0 rfl rfl ci hc0) rfl ?_
      exact ol_nil h
    · refine Ref.region (fun s ρ w1 s' h hr => ?_)
      refine ol_v (e_mv _ h.1.2.2) rfl ?_
      refine ol_v (e_len htS rfl) rfl ?_
      refine ol_v (e_as _ rfl) rfl ?_
      exact ol_nil ⟨rfl, h⟩
    · refine Ref.region (fun s ρ w1 s' h hr => ?_)
      refine ol_v (e_mv _ h.1) rfl ?_
      refine ol_v (e_eql rfl rfl) rfl ?_
      refine ol_nil ⟨?_, h.2.1.1, h.2.2⟩
      show Value.bool (decide ((a2.length : Int) = 0)) = _
      rw [decide_eq_true (by omega)]
    · refine Ref.region (fun s ρ w1 s' h hr => ?_)
      obtain ⟨_, _, hρ, rfl⟩ := h
      refine ol_v (e_mv _ hρ) rfl ?_
      refine ol_v (e_as _ rfl) rfl ?_
      refine ol_nil ⟨Wk.refl hok, ?_⟩
      rw [hm, List.append_nil, List.take_append_drop]
      exact h0.rebase (fun g hg => .inr hg)
  have hm0 : 0 < a2.length := List.length_pos_iff.2 hm
  by_cases hin : i = a0.length
  · -- at the end
    refine close (m := seqM (regM fun s => some s) (seqM (regM fun s => some s) (seqM (regM fun s => some s) (seqM (seqM (regM fun s => some s) (condM (fun _ => false) noneM skipM)) (seqM (regM fun s => some s) (seqM (seqM (regM fun s => some s) (condM (fun _ => true) (seqM (regM fun s => some s) (retM fun _ => ())) noneM)) noneM)))))) rfl ?_ rfl
    refine Ref.seq (B := fun _ ρ w1 => (ρ 0 = .slice A0 a0.length c0 ∧ ρ 1 = .int .i64 (i : Int) ∧ ρ 2 = .slice A2 a2.length c2) ∧ w1 = w) ?_ (Ref.seq (B := fun _ ρ w1 => (ρ 0 = .slice A0 a0.length c0 ∧ ρ 1 = .int .i64 (i : Int) ∧ ρ 2 = .slice A2 a2.length c2) ∧ w1 = w) ?_ (Ref.seq (B := fun _ ρ w1 => ρ 7 = .int .i64 (a2.length : Int) ∧ (ρ 0 = .slice A0 a0.length c0 ∧ ρ 1 = .int .i64 (i : Int) ∧ ρ 2 = .slice A2 a2.length c2) ∧ w1 = w) ?_ (Ref.seq (B := fun _ ρ w1 => (ρ 0 = .slice A0 a0.length c0 ∧ ρ 1 = .int .i64 (i : Int) ∧ ρ 2 = .slice A2 a2.length c2) ∧ w1 = w)
      (Ref.seq (B := fun _ ρ w1 => ρ 16 = .bool false ∧ (ρ 0 = .slice A0 a0.length c0 ∧ ρ 1 = .int .i64 (i : Int) ∧ ρ 2 = .slice A2 a2.length c2) ∧ w1 = w) ?_ (Ref.cond (fun s ρ w h => h.1) Ref.noneM (Ref.pre Ref.skip (fun s ρ w h => h.2.2))))
      (Ref.seq (B := fun _ ρ w1 => ρ 8 = .int .i64 (a0.length : Int) ∧ (ρ 0 = .slice A0 a0.length c0 ∧ ρ 1 = .int .i64 (i : Int) ∧ ρ 2 = .slice A2 a2.length c2) ∧ w1 = w) ?_ (Ref.seq (B := fun _ _ _ => False) (Ref.seq (B := fun _ ρ w1 => ρ 22 = .bool true ∧ (ρ 0 = .slice A0 a0.length c0 ∧ ρ 2 = .slice A2 a2.length c2) ∧ w1 = w) ?_ (Ref.cond (fun s ρ w h => h.1) (Ref.seq (B := fun _ ρ w1 => Q w F (.slice A0 a0.length c0) _ ρ w1) ?_ (Ref.ret (fun s ρ w h => h))) Ref.noneM)) Ref.noneM)))))
    · refine Ref.region (fun s ρ w1 s' h hr => ?_)
      refine ol_v (e_as _ rfl) rfl ?_
      exact ol_nil h
    · refine Ref.region (fun s ρ w1 s' h hr => ?_)
      refine ol_v (e_mv _ h.1.1) rfl ?_
      refine ol_v (e_mv _ h.1.2.1) rfl ?_
      refine ol_v (e_slLc htS hsz0 rfl rfl ci hc0) rfl ?_
      exact ol_nil h
    · refine Ref.region (fun s ρ w1 s' h hr => ?_)
      refine ol_v (e_mv _ h.1.2.2) rfl ?_
      refine ol_v (e_len htS rfl) rfl ?_
      refine ol_v (e_as _ rfl) rfl ?_
      exact ol_nil ⟨rfl, h⟩
    · refine Ref.region (fun s ρ w1 s' h hr => ?_)
      refine ol_v (e_mv _ h.1) rfl ?_
      refine ol_v (e_eql rfl rfl) rfl ?_
      refine ol_nil ⟨?_, h.2⟩
      show Value.bool (decide ((a2.length : Int) = 0)) = _
      rw [decide_eq_false (by omega)]
    · refine Ref.region (fun s ρ w1 s' h hr => ?_)
      refine ol_v (e_mv _ h.1.1) rfl ?_
      refine ol_v (e_len htS rfl) rfl ?_
      refine ol_v (e_as _ rfl) rfl ?_
      exact ol_nil ⟨rfl, h⟩
    · refine Ref.region (fun s ρ w1 s' h hr => ?_)
      refine ol_v (e_mv _ h.2.1.2.1) rfl ?_
      refine ol_v (e_mv _ h.1) rfl ?_
      refine ol_v (e_eql rfl rfl) rfl ?_
      refine ol_nil ⟨?_, ⟨h.2.1.1, h.2.1.2.2⟩, h.2.2⟩
      show Value.bool (decide ((i : Int) = (a0.length : Int))) = _
      rw [decide_eq_true (by omega)]
    · refine Ref.region (fun s ρ w1 s' h hr => ?_)
      obtain ⟨_, _, ⟨hρ, hρ2⟩, rfl⟩ := h
      refine ol_v (e_mv _ hρ) rfl ?_
      refine ol_v (e_mv _ hρ2) rfl ?_
      refine ol_e (f_app (bytes := 64) T (Wk.refl (row := ob (Value.slice A0 a0.length c0).ownBlock) hok) (h0.rebase (fun g hg => .inr hg)) h2' (appL_of (by omega)) rfl rfl) rfl rfl ?_
      rintro v1 w2 ⟨kw1, ho, _⟩
      refine ol_v (e_as _ rfl) rfl ?_
      refine ol_nil ⟨kw1, ?_⟩
      rw [hin, List.take_length, List.drop_length, List.append_nil]
      exact ho
  -- in the midst: there is a row
  rcases h0 with ⟨e1, e2⟩ | ⟨g, o, cap, cur, X, e1, hB, hF, hh, ⟨hcap, hcm⟩, hs, hX, ht⟩
  · exfalso; rw [e2] at ci hin; simp at ci hin; omega
  simp only [Value.slice.injEq] at e1
  obtain ⟨rfl, _, rfl⟩ := e1
  -- what is inserted
  rcases hR2 with hR2 | ⟨b, ob2, rfl, hR2⟩
  · exact absurd hR2 hm
  obtain ⟨Y, hY, hYc⟩ := Row.cat (o := ob2) a2 ob2 hR2
  have hFb : F b := by
    obtain ⟨x, hx⟩ : ∃ x, a2[0]? = some x := ⟨a2[0], List.getElem?_eq_getElem hm0⟩
    exact (hR2 0 x hx).1
  have hbg : b ≠ g := fun h => hF (h ▸ hFb)
  have hbl := hok b hFb
  have hgl : g < w.heap.size := (Array.getElem?_eq_some_iff.1 hh).1
  have hXl := hX.len
  have hYl := hY.len
  have hcur : cur = cur.toList.toArray := by simp
  have hXs : X = X.take (i * (k_StoredObject).sz) ++ X.drop (i * (k_StoredObject).sz) := (List.take_append_drop _ _).symm
  obtain ⟨XA, hXA⟩ : ∃ XA, XA = X.take (i * (k_StoredObject).sz) := ⟨_, rfl⟩
  obtain ⟨XD, hXD⟩ : ∃ XD, XD = X.drop (i * (k_StoredObject).sz) := ⟨_, rfl⟩
  rw [← hXA, ← hXD] at hXs
  have hiz : i * (k_StoredObject).sz ≤ a0.length * (k_StoredObject).sz := Nat.mul_le_mul_right _ ci
  have hXAl : XA.length = i * (k_StoredObject).sz := by rw [hXA, List.length_take, hXl]; omega
  have hXDl : XD.length = (a0.length - i) * (k_StoredObject).sz := by rw [hXD, List.length_drop, hXl, Nat.sub_mul]
  have hX1 : ∀ v ∈ XD, v.oneCell' = true := fun v hv => hX.one v (by rw [hXs]; exact List.mem_append_right _ hv)
  have hY1 : ∀ v ∈ Y, v.oneCell' = true := fun v hv => hY.one v hv
  have hYp : 0 < Y.length := by rw [hYl]; exact Nat.mul_pos hm0 hp
  obtain ⟨PR, R0, hcl, hPR⟩ : ∃ PR R0, cur.toList = PR ++ (XA ++ XD) ++ R0 ∧ PR.length = o := by
    refine ⟨cur.toList.take o, (cur.toList.drop o).drop X.length, ?_, ?_⟩
    · rw [← hXs]
      conv => lhs; rw [← List.take_append_drop o cur.toList, ← List.take_append_drop X.length (cur.toList.drop o), ht]
      rw [List.append_assoc]
    · rw [List.length_take, Array.length_toList]; have := Nat.zero_le (c0 * (k_StoredObject).sz); omega
  have hcs : cur.size = PR.length + (XA.length + XD.length) + R0.length := by
    rw [← Array.length_toList, hcl, List.length_append, List.length_append, List.length_append]
  have hcat : ∀ {w1 : World}, Stp F w F w1 → Cat k_StoredObject F w1 (a0.take i ++ a2 ++ a0.drop i) (XA ++ Y ++ XD) := by
    intro w1 st
    have hc := Cat.cut trivial i hX
    rw [← hXA, ← hXD] at hc
    exact Cat.keep st ((hc.1.append hY).append hc.2)
  have hrl : (a0.take i ++ a2 ++ a0.drop i).length = a0.length + a2.length := by simp only [List.length_append, List.length_take, List.length_drop]; omega
  have sl0 : ∀ (g' o' h' m' s' : Nat), sliced (some ⟨g', o', none⟩) 0 h' m' s' = .slice (some ⟨g', o', none⟩) h' m' := by intro g' o' h' m' s'; simp [sliced, addr_add]
  have slN : ∀ (g' o' l' h' m' s' : Nat), m' ≠ l' → sliced (some ⟨g', o', none⟩) l' h' m' s' = .slice (some ⟨g', o' + l' * s', none⟩) (h' - l') (m' - l') := by intro g' o' l' h' m' s' hne; simp [sliced, addr_add, hne]
  have hYw : ∀ {w1 : World}, w1.heap[b]? = w.heap[b]? → ∀ j u, Y[j]? = some u → w1.cell? ((⟨b, ob2, none⟩ : Addr).add j) = some u := by
    intro w1 he j u hu
    rw [addr_add, World.cell?_congr (w := w) he]
    exact hYc j u hu
  have hYw' : ∀ {w1 : World}, w1.heap[b]? = w.heap[b]? → w1.cell? ⟨b, ob2, none⟩ = some Y[0] := by
    intro w1 he
    rw [World.cell?_congr (w := w) he]
    have := hYc 0 Y[0] (List.getElem?_eq_getElem hYp)
    exact this
  have wA : ∀ (x y : Nat), x + y ≤ 100000 → w64 ((x : Int) + (y : Int)) = ((x + y : Nat) : Int) := by intro x y hxy; rw [w64_id (by omega) (by omega)]; omega
  by_cases hgr : c0 < a0.length + a2.length
  · -- a new row
    have hq : ∃ q, q = a0.length + a2.length - i ∧ 0 < q := ⟨_, rfl, by omega⟩
    obtain ⟨q, hqe, hq0⟩ := hq
    refine close (m := seqM (regM fun s => some s) (seqM (regM fun s => some s) (seqM (regM fun s => some s) (seqM (seqM (regM fun s => some s) (condM (fun _ => false) noneM skipM)) (seqM (regM fun s => some s) (seqM (seqM (regM fun s => some s) (condM (fun _ => false) noneM skipM)) (seqM (seqM (regM fun s => some s) (condM (fun _ => true) (seqM (regM fun s => some s) (seqM (regM fun s => some s) (seqM (regM fun s => some s) (seqM (regM fun s => some s) (retM fun _ => ()))))) noneM)) noneM))))))) rfl ?_ rfl
    refine Ref.seq (B := fun _ ρ w1 => (ρ 0 = .slice (some ⟨g, o, none⟩) a0.length c0 ∧ ρ 1 = .int .i64 (i : Int) ∧ ρ 2 = .slice (some ⟨b, ob2, none⟩) a2.length c2) ∧ w1 = w) ?_ (Ref.seq (B := fun _ ρ w1 => (ρ 0 = .slice (some ⟨g, o, none⟩) a0.length c0 ∧ ρ 1 = .int .i64 (i : Int) ∧ ρ 2 = .slice (some ⟨b, ob2, none⟩) a2.length c2) ∧ w1 = w) ?_ (Ref.seq (B := fun _ ρ w1 => ρ 7 = .int .i64 (a2.length : Int) ∧ (ρ 0 = .slice (some ⟨g, o, none⟩) a0.length c0 ∧ ρ 1 = .int .i64 (i : Int) ∧ ρ 2 = .slice (some ⟨b, ob2, none⟩) a2.length c2) ∧ w1 = w) ?_ (Ref.seq (B := fun _ ρ w1 => ρ 7 = .int .i64 (a2.length : Int) ∧ (ρ 0 = .slice (some ⟨g, o, none⟩) a0.length c0 ∧ ρ 1 = .int .i64 (i : Int) ∧ ρ 2 = .slice (some ⟨b, ob2, none⟩) a2.length c2) ∧ w1 = w)
      (Ref.seq (B := fun _ ρ w1 => ρ 16 = .bool false ∧ ρ 7 = .int .i64 (a2.length : Int) ∧ (ρ 0 = .slice (some ⟨g, o, none⟩) a0.length c0 ∧ ρ 1 = .int .i64 (i : Int) ∧ ρ 2 = .slice (some ⟨b, ob2, none⟩) a2.length c2) ∧ w1 = w) ?_ (Ref.cond (fun s ρ w h => h.1) Ref.noneM (Ref.pre Ref.skip (fun s ρ w h => h.2.2))))
      (Ref.seq (B := fun _ ρ w1 => ρ 8 = .int .i64 (a0.length : Int) ∧ ρ 7 = .int .i64 (a2.length : Int) ∧ (ρ 0 = .slice (some ⟨g, o, none⟩) a0.length c0 ∧ ρ 1 = .int .i64 (i : Int) ∧ ρ 2 = .slice (some ⟨b, ob2, none⟩) a2.length c2) ∧ w1 = w) ?_ (Ref.seq (B := fun _ ρ w1 => ρ 8 = .int .i64 (a0.length : Int) ∧ ρ 7 = .int .i64 (a2.length : Int) ∧ (ρ 0 = .slice (some ⟨g, o, none⟩) a0.length c0 ∧ ρ 1 = .int .i64 (i : Int) ∧ ρ 2 = .slice (some ⟨b, ob2, none⟩) a2.length c2) ∧ w1 = w)
      (Ref.seq (B := fun _ ρ w1 => ρ 22 = .bool false ∧ ρ 8 = .int .i64 (a0.length : Int) ∧ ρ 7 = .int .i64 (a2.length : Int) ∧ (ρ 0 = .slice (some ⟨g, o, none⟩) a0.length c0 ∧ ρ 1 = .int .i64 (i : Int) ∧ ρ 2 = .slice (some ⟨b, ob2, none⟩) a2.length c2) ∧ w1 = w) ?_ (Ref.cond (fun s ρ w h => h.1) Ref.noneM (Ref.pre Ref.skip (fun s ρ w h => h.2.2))))
      (Ref.seq (B := fun _ _ _ => False) (Ref.seq (B := fun _ ρ w1 => ρ 31 = .bool true ∧ ρ 8 = .int .i64 (a0.length : Int) ∧ ρ 7 = .int .i64 (a2.length : Int) ∧ (ρ 0 = .slice (some ⟨g, o, none⟩) a0.length c0 ∧ ρ 1 = .int .i64 (i : Int) ∧ ρ 2 = .slice (some ⟨b, ob2, none⟩) a2.length c2) ∧ w1 = w) ?_ (Ref.cond (fun s ρ w h => h.1)
        (Ref.seq (B := fun _ ρ w1 => ∃ capN R, NW w F g cur a0.length a2.length i c0 o (some ⟨b, ob2, none⟩) c2 k_StoredObject (XA ++ R) capN ρ w1) ?_ (Ref.seq (B := fun _ ρ w1 => ∃ capN R, NW w F g cur a0.length a2.length i c0 o (some ⟨b, ob2, none⟩) c2 k_StoredObject (XA ++ Y ++ R) capN ρ w1) ?_ (Ref.seq (B := fun _ ρ w1 => ∃ capN R, NW w F g cur a0.length a2.length i c0 o (some ⟨b, ob2, none⟩) c2 k_StoredObject (XA ++ Y ++ XD ++ R) capN ρ w1) ?_ (Ref.seq (B := fun _ ρ w1 => Q w F (.slice (some ⟨g, o, none⟩) a0.length c0) _ ρ w1) ?_ (Ref.ret (fun s ρ w h => h)))))) Ref.noneM)) Ref.noneM))))))
    · refine Ref.region (fun s ρ w1 s' h hr => ?_)
      refine ol_v (e_as _ rfl) rfl ?_
      exact ol_nil h
    · refine Ref.region (fun s ρ w1 s' h hr => ?_)
      refine ol_v (e_mv _ h.1.1) rfl ?_
      refine ol_v (e_mv _ h.1.2.1) rfl ?_
      refine ol_v (e_slLc htS hsz0 rfl rfl ci hc0) rfl ?_
      exact ol_nil h
    · refine Ref.region (fun s ρ w1 s' h hr => ?_)
      refine ol_v (e_mv _ h.1.2.2) rfl ?_
      refine ol_v (e_len htS rfl) rfl ?_
      refine ol_v (e_as _ rfl) rfl ?_
      exact ol_nil ⟨rfl, h⟩
    · refine Ref.region (fun s ρ w1 s' h hr => ?_)
      refine ol_v (e_mv _ h.1) rfl ?_
      refine ol_v (e_eql rfl rfl) rfl ?_
      refine ol_nil ⟨?_, h⟩
      show Value.bool (decide ((a2.length : Int) = 0)) = _
      rw [decide_eq_false (by omega)]
    · refine Ref.region (fun s ρ w1 s' h hr => ?_)
      refine ol_v (e_mv _ h.2.1.1) rfl ?_
      refine ol_v (e_len htS rfl) rfl ?_
      refine ol_v (e_as _ rfl) rfl ?_
      exact ol_nil ⟨rfl, h⟩
    · refine Ref.region (fun s ρ w1 s' h hr => ?_)
      refine ol_v (e_mv _ h.2.2.1.2.1) rfl ?_
      refine ol_v (e_mv _ h.1) rfl ?_
      refine ol_v (e_eql rfl rfl) rfl ?_
      refine ol_nil ⟨?_, h⟩
      show Value.bool (decide ((i : Int) = (a0.length : Int))) = _
      rw [decide_eq_false (by omega)]
    · refine Ref.region (fun s ρ w1 s' h hr => ?_)
      refine ol_v (e_mv _ h.1) rfl ?_
      refine ol_v (e_mv _ h.2.1) rfl ?_
      refine ol_v (e_add rfl rfl) rfl ?_
      refine ol_v (e_mv _ h.2.2.1.1) rfl ?_
      refine ol_v (e_cap' htS rfl) rfl ?_
      refine ol_v (e_gtr rfl rfl) rfl ?_
      refine ol_nil ⟨?_, h⟩
      show Value.bool (decide ((c0 : Int) < w64 ((a0.length : Int) + (a2.length : Int)))) = _
      rw [wA _ _ (by omega), decide_eq_true (by omega)]
    · refine Ref.region (fun s ρ w1 s' h hr => ?_)
      obtain ⟨_, _, h8, h7, ⟨hρ0, hρ1, hρ2⟩, rfl⟩ := h
      refine ol_v (e_mv _ hρ0) rfl ?_
      refine ol_v (e_mv _ hρ1) rfl ?_
      refine ol_v (e_slHa htS hsz0 rfl rfl (by omega)) rfl ?_
      refine ol_v (e_mv _ h8) rfl ?_
      refine ol_v (e_mv _ h7) rfl ?_
      refine ol_v (e_add rfl rfl) rfl ?_
      refine ol_v (e_mv _ hρ1) rfl ?_
      refine ol_v (e_sub rfl rfl) rfl ?_
      obtain ⟨ti, tz, hti, htz, htsz, htby, htzs, htzr⟩ := T.info
      have hw : w64 (w64 ((a0.length : Int) + (a2.length : Int)) - (i : Int)) = (q : Int) := by rw [wA _ _ (by omega), w64_id (by omega) (by omega)]; omega
      have hXAc : ∀ j u, XA[j]? = some u → w1.cell? ((⟨g, o, none⟩ : Addr).add j) = some u := by
        intro j u hu
        have hj := (List.getElem?_eq_some_iff.1 hu).1
        rw [addr_add]
        have hcell : w1.cell? ⟨g, o + j, none⟩ = cur[o + j]? := by simp [World.cell?, hh]
        rw [hcell, ← Array.getElem?_toList, hcl, List.append_assoc, List.getElem?_append_right (by omega), show o + j - PR.length = j by omega, List.append_assoc, List.getElem?_append_left hj]
        exact hu
      have hrun := fun ty => run_append_zeros (P := Tryd.prog) (w := w1) (ty := ty) (tn := 3) (kn := .i64) sl_22.under Tryd.underlying3 hti htz ⟨g, o, none⟩ i c0 XA (by rw [hXAl, htsz]) hXAc q hq0 (by rw [htsz]; exact hp) (by omega) (by omega) (by rw [htby]; omega) (by rw [htby]; omega) (by omega)
      refine ol_e (R := fun v' w' => v' = .slice (some ⟨w1.heap.size, 0, none⟩) (i + q) (grownCap w1 (i + q) c0 50) ∧ w' = w1.drew.alloc (.cells (XA.toArray ++ Builtin.zeroCells tz.cells q ++ Builtin.zeroCells tz.cells (grownCap w1 (i + q) c0 50 - (i + q))) 50)) (Eff.of_run (fun d ty pos after gd => ?_) ⟨rfl, rfl⟩) rfl rfl ?_
      · simp only [execOp, resolve, invoke, builtin, List.map_toArray, List.map_cons, List.map_nil, Sem.run_bind, Sem.run_pure, Result.andThen_ok]
        have hr2 := hrun ty
        rw [← hw] at hr2
        exact congrArg (fun x => Result.andThen x fun a w' => Result.ok (Next.value a) w') hr2
      rintro v' w2 ⟨rfl, rfl⟩
      refine ol_v (e_as _ rfl) rfl ?_
      have hge := grownCap_ge w1 (i + q) c0 50
      have hle := grownCap_le_maxLen w1 (i + q) c0 50 (by show i + q ≤ 9223372036854775807; omega)
      refine ol_nil ⟨grownCap w1 (i + q) c0 50, (Builtin.zeroCells tz.cells q ++ Builtin.zeroCells tz.cells (grownCap w1 (i + q) c0 50 - (i + q))).toList, ?_⟩
      refine ⟨?_, ⟨hρ0, hρ1, hρ2⟩, h7, by omega, hle, ?_, (Wk.drew hok).trans (Wk.alloc (w := w1.drew) hok _), ?_, ?_⟩
      · show Value.slice (some ⟨w1.heap.size, 0, none⟩) (i + q) _ = _
        rw [show i + q = a0.length + a2.length by omega]
      · rw [List.length_append, hXAl, Array.length_toList, Array.size_append, size_zeroCells, size_zeroCells, htzs, ← Nat.add_mul, ← Nat.add_mul]
        exact Nat.mul_le_mul_right _ (by omega)
      · have h3 := heap_alloc_new w1.drew (.cells (XA.toArray ++ Builtin.zeroCells tz.cells q ++ Builtin.zeroCells tz.cells (grownCap w1 (i + q) c0 50 - (i + q))) 50)
        have e3 : (XA ++ (Builtin.zeroCells tz.cells q ++ Builtin.zeroCells tz.cells (grownCap w1 (i + q) c0 50 - (i + q))).toList).toArray = XA.toArray ++ Builtin.zeroCells tz.cells q ++ Builtin.zeroCells tz.cells (grownCap w1 (i + q) c0 50 - (i + q)) := by
          apply Array.ext'; simp
        rw [e3]; exact h3
      · exact (Below.heap_alloc w1.drew _ g hgl).trans hh
    · refine Ref.region (fun s ρ w1 s' h hr => ?_)
      obtain ⟨capN, R, h9, ⟨hρ0, hρ1, hρ2⟩, h7, hc1, hc2', hc3, kw, hg2, hgg⟩ := h
      have hmul : (i + a2.length) * (k_StoredObject).sz ≤ capN * (k_StoredObject).sz := Nat.mul_le_mul_right _ (by omega)
      rw [Nat.add_mul] at hmul
      rw [List.length_append] at hc3
      refine ol_v (e_mv _ h9) rfl ?_
      refine ol_v (e_mv _ hρ1) rfl ?_
      refine ol_v (e_slLa htS hsz0 rfl rfl (by omega) (by omega) (by omega)) rfl ?_
      refine ol_v (e_mv _ hρ2) rfl ?_
      refine ol_e (f_copy (cs := Y) (cur := XA ++ R) (g := w.heap.size) (o := 0 + i * (k_StoredObject).sz) sl_22.under hsz0 hg2 (by rw [hYl, show Nat.min a2.length (a0.length + a2.length - i) = a2.length from Nat.min_eq_left (by omega)]) (fun _ => ⟨rfl, _, rfl, hYw (kw.block b hbl (fun h => h))⟩) (by rw [List.length_append]; omega) hY1 rfl rfl) rfl rfl ?_
      rintro v1 w2 ⟨hgr2, hnew⟩
      have eC : (XA ++ R).take (0 + i * (k_StoredObject).sz) ++ Y ++ (XA ++ R).drop (0 + i * (k_StoredObject).sz + Y.length) = XA ++ Y ++ R.drop Y.length := by
        rw [show 0 + i * (k_StoredObject).sz = XA.length by omega, List.take_left, List.drop_length_add_append]
      rw [eC] at hnew
      refine ol_nil ⟨capN, R.drop Y.length, h9, ⟨hρ0, hρ1, hρ2⟩, h7, hc1, hc2', ?_, kw.mut hgr2 (fun g' e => .inl (by cases e; exact Nat.le_refl _)), hnew, (hgr2.block g (by have := kw.le; omega) (fun e => by have := Option.some.inj e; omega)).trans hgg⟩
      simp only [List.length_append, List.length_drop]; omega
    · refine Ref.regionD 8 (by kernel_rfl) (by kernel_rfl) (fun s ρ w1 h => ?_) (fun s ρ w1 s' h hr => ?_)
      · obtain ⟨capN, R, h9, h0', h7, hc1, hc2', hc3, kw, hg2, hgg⟩ := h
        exact ⟨capN, R, h9, h0', h7, hc1, hc2', hc3, kw.drewS, hg2, hgg⟩
      obtain ⟨capN, R, h9, ⟨hρ0, hρ1, hρ2⟩, h7, hc1, hc2', hc3, kw, hg2, hgg⟩ := h
      have hmul : (i + a2.length + (a0.length - i)) * (k_StoredObject).sz ≤ capN * (k_StoredObject).sz := Nat.mul_le_mul_right _ (by omega)
      rw [Nat.add_mul] at hmul
      have hmul2 : (i + a2.length) * (k_StoredObject).sz = (XA ++ Y).length := by rw [List.length_append, hXAl, hYl, Nat.add_mul]
      rw [List.length_append] at hc3
      refine ol_v (e_mv _ h9) rfl ?_
      refine ol_v (e_mv _ hρ1) rfl ?_
      refine ol_v (e_mv _ h7) rfl ?_
      refine ol_v (v := .int .i64 ((i + a2.length : Nat) : Int)) (by rw [← wA i a2.length (by omega)]; exact e_add rfl rfl) rfl ?_
      refine ol_v (e_slLa htS hsz0 rfl rfl (by omega) (by omega) (by omega)) rfl ?_
      refine ol_v (e_mv _ hρ0) rfl ?_
      refine ol_v (e_mv _ hρ1) rfl ?_
      refine ol_v (e_slLa htS hsz0 rfl rfl (by omega) (by omega) (by omega)) rfl ?_
      refine ol_e (f_copy (cs := XD) (cur := XA ++ Y ++ R) (g := w.heap.size) (o := 0 + (i + a2.length) * (k_StoredObject).sz) sl_22.under hsz0 hg2 (by rw [hXDl, show Nat.min (a0.length - i) (a0.length + a2.length - (i + a2.length)) = a0.length - i from Nat.min_eq_left (by omega)]) (fun _ => ⟨rfl, _, rfl, fun j u hu => ?_⟩) (by rw [List.length_append]; omega) hX1 rfl rfl) rfl rfl ?_
      · rw [addr_add]
        have hcell : w1.cell? ⟨g, o + i * (k_StoredObject).sz + j, none⟩ = cur[o + i * (k_StoredObject).sz + j]? := by simp [World.cell?, hgg]
        have hj := (List.getElem?_eq_some_iff.1 hu).1
        rw [hcell, ← Array.getElem?_toList, hcl, show PR ++ (XA ++ XD) ++ R0 = (PR ++ XA) ++ (XD ++ R0) by simp, List.getElem?_append_right (by rw [List.length_append]; omega), List.length_append, show o + i * (k_StoredObject).sz + j - (PR.length + XA.length) = j by omega, List.getElem?_append_left hj]
        exact hu
      rintro v1 w2 ⟨hgr2, hnew⟩
      have eC : (XA ++ Y ++ R).take (0 + (i + a2.length) * (k_StoredObject).sz) ++ XD ++ (XA ++ Y ++ R).drop (0 + (i + a2.length) * (k_StoredObject).sz + XD.length) = XA ++ Y ++ XD ++ R.drop XD.length := by
        rw [show 0 + (i + a2.length) * (k_StoredObject).sz = (XA ++ Y).length by omega, List.take_left, List.drop_length_add_append]
      rw [eC] at hnew
      refine ol_nil ⟨capN, R.drop XD.length, h9, ⟨hρ0, hρ1, hρ2⟩, h7, hc1, hc2', ?_, kw.mut hgr2 (fun g' e => .inl (by cases e; exact Nat.le_refl _)), hnew, (hgr2.block g (by have := kw.le; omega) (fun e => by have := Option.some.inj e; omega)).trans hgg⟩
      simp only [List.length_append, List.length_drop] at hc3 ⊢; omega
    · refine Ref.region (fun s ρ w1 s' h hr => ?_)
      obtain ⟨capN, R, h9, ⟨hρ0, hρ1, hρ2⟩, h7, hc1, hc2', hc3, kw, hg2, hgg⟩ := h
      refine ol_v (e_mv _ h9) rfl ?_
      refine ol_v (e_as _ rfl) rfl ?_
      refine ol_nil ⟨(Wk.refl hok).trans kw, .inr ⟨w.heap.size, 0, capN, _, XA ++ Y ++ XD, ?_, .inl (Nat.le_refl _), fun h => absurd (hok _ h) (by omega), hg2, ⟨by rw [hrl]; exact hc1, hc2'⟩, ?_, hcat (kw.stp hok), ?_⟩⟩
      · rw [hrl]; rfl
      · simp only [List.size_toArray]; omega
      · show ((XA ++ Y ++ XD ++ R).drop 0).take (XA ++ Y ++ XD).length = _
        rw [List.drop_zero, List.take_left]
  · -- in place
    refine close (m := seqM (regM fun s => some s) (seqM (regM fun s => some s) (seqM (regM fun s => some s) (seqM (seqM (regM fun s => some s) (condM (fun _ => false) noneM skipM)) (seqM (regM fun s => some s) (seqM (seqM (regM fun s => some s) (condM (fun _ => false) noneM skipM)) (seqM (seqM (regM fun s => some s) (condM (fun _ => false) noneM skipM)) (seqM (regM fun s => some s) (seqM (seqM (regM fun s => some s) (condM (fun _ => true) (seqM (regM fun s => some s) (seqM (regM fun s => some s) (seqM (regM fun s => some s) (retM fun _ => ())))) noneM)) noneM))))))))) rfl ?_ rfl
    refine Ref.seq (B := fun _ ρ w1 => (ρ 0 = .slice (some ⟨g, o, none⟩) a0.length c0 ∧ ρ 1 = .int .i64 (i : Int) ∧ ρ 2 = .slice (some ⟨b, ob2, none⟩) a2.length c2) ∧ w1 = w) ?_ (Ref.seq (B := fun _ ρ w1 => (ρ 0 = .slice (some ⟨g, o, none⟩) a0.length c0 ∧ ρ 1 = .int .i64 (i : Int) ∧ ρ 2 = .slice (some ⟨b, ob2, none⟩) a2.length c2) ∧ w1 = w) ?_ (Ref.seq (B := fun _ ρ w1 => ρ 7 = .int .i64 (a2.length : Int) ∧ (ρ 0 = .slice (some ⟨g, o, none⟩) a0.length c0 ∧ ρ 1 = .int .i64 (i : Int) ∧ ρ 2 = .slice (some ⟨b, ob2, none⟩) a2.length c2) ∧ w1 = w) ?_ (Ref.seq (B := fun _ ρ w1 => ρ 7 = .int .i64 (a2.length : Int) ∧ (ρ 0 = .slice (some ⟨g, o, none⟩) a0.length c0 ∧ ρ 1 = .int .i64 (i : Int) ∧ ρ 2 = .slice (some ⟨b, ob2, none⟩) a2.length c2) ∧ w1 = w)
      (Ref.seq (B := fun _ ρ w1 => ρ 16 = .bool false ∧ ρ 7 = .int .i64 (a2.length : Int) ∧ (ρ 0 = .slice (some ⟨g, o, none⟩) a0.length c0 ∧ ρ 1 = .int .i64 (i : Int) ∧ ρ 2 = .slice (some ⟨b, ob2, none⟩) a2.length c2) ∧ w1 = w) ?_ (Ref.cond (fun s ρ w h => h.1) Ref.noneM (Ref.pre Ref.skip (fun s ρ w h => h.2.2))))
      (Ref.seq (B := fun _ ρ w1 => ρ 8 = .int .i64 (a0.length : Int) ∧ ρ 7 = .int .i64 (a2.length : Int) ∧ (ρ 0 = .slice (some ⟨g, o, none⟩) a0.length c0 ∧ ρ 1 = .int .i64 (i : Int) ∧ ρ 2 = .slice (some ⟨b, ob2, none⟩) a2.length c2) ∧ w1 = w) ?_ (Ref.seq (B := fun _ ρ w1 => ρ 8 = .int .i64 (a0.length : Int) ∧ ρ 7 = .int .i64 (a2.length : Int) ∧ (ρ 0 = .slice (some ⟨g, o, none⟩) a0.length c0 ∧ ρ 1 = .int .i64 (i : Int) ∧ ρ 2 = .slice (some ⟨b, ob2, none⟩) a2.length c2) ∧ w1 = w)
      (Ref.seq (B := fun _ ρ w1 => ρ 22 = .bool false ∧ ρ 8 = .int .i64 (a0.length : Int) ∧ ρ 7 = .int .i64 (a2.length : Int) ∧ (ρ 0 = .slice (some ⟨g, o, none⟩) a0.length c0 ∧ ρ 1 = .int .i64 (i : Int) ∧ ρ 2 = .slice (some ⟨b, ob2, none⟩) a2.length c2) ∧ w1 = w) ?_ (Ref.cond (fun s ρ w h => h.1) Ref.noneM (Ref.pre Ref.skip (fun s ρ w h => h.2.2))))
      (Ref.seq (B := fun _ ρ w1 => ρ 8 = .int .i64 (a0.length : Int) ∧ ρ 7 = .int .i64 (a2.length : Int) ∧ (ρ 0 = .slice (some ⟨g, o, none⟩) a0.length c0 ∧ ρ 1 = .int .i64 (i : Int) ∧ ρ 2 = .slice (some ⟨b, ob2, none⟩) a2.length c2) ∧ w1 = w) (Ref.seq (B := fun _ ρ w1 => ρ 31 = .bool false ∧ ρ 8 = .int .i64 (a0.length : Int) ∧ ρ 7 = .int .i64 (a2.length : Int) ∧ (ρ 0 = .slice (some ⟨g, o, none⟩) a0.length c0 ∧ ρ 1 = .int .i64 (i : Int) ∧ ρ 2 = .slice (some ⟨b, ob2, none⟩) a2.length c2) ∧ w1 = w) ?_ (Ref.cond (fun s ρ w h => h.1) Ref.noneM (Ref.pre Ref.skip (fun s ρ w h => h.2.2))))
      (Ref.seq (B := fun _ ρ w1 => IP w F g a0.length a2.length i c0 o (some ⟨b, ob2, none⟩) c2 cur.toList ρ w1) ?_ (Ref.seq (B := fun _ _ _ => False) (Ref.seq (B := fun _ ρ w1 => ρ 68 = .bool true ∧ IP w F g a0.length a2.length i c0 o (some ⟨b, ob2, none⟩) c2 cur.toList ρ w1) ?_ (Ref.cond (fun s ρ w h => h.1)
        (Ref.seq (B := fun _ ρ w1 => ∃ M R, M.length = Y.length ∧ R0.length = Y.length + R.length ∧ IP w F g a0.length a2.length i c0 o (some ⟨b, ob2, none⟩) c2 (PR ++ XA ++ M ++ XD ++ R) ρ w1) (Ref.pre (A := fun _ ρ w1 => IP w F g a0.length a2.length i c0 o (some ⟨b, ob2, none⟩) c2 cur.toList ρ w1) ?_ (fun s ρ w h => h.2.2)) (Ref.seq (B := fun _ ρ w1 => ∃ R, R0.length = Y.length + R.length ∧ IP w F g a0.length a2.length i c0 o (some ⟨b, ob2, none⟩) c2 (PR ++ XA ++ Y ++ XD ++ R) ρ w1) ?_ (Ref.seq (B := fun _ ρ w1 => Q w F (.slice (some ⟨g, o, none⟩) a0.length c0) _ ρ w1) ?_ (Ref.ret (fun s ρ w h => h))))) Ref.noneM)) Ref.noneM))))))))
    · refine Ref.region (fun s ρ w1 s' h hr => ?_)
      refine ol_v (e_as _ rfl) rfl ?_
      exact ol_nil h
    · refine Ref.region (fun s ρ w1 s' h hr => ?_)
      refine ol_v (e_mv _ h.1.1) rfl ?_
      refine ol_v (e_mv _ h.1.2.1) rfl ?_
      refine ol_v (e_slLc htS hsz0 rfl rfl ci hc0) rfl ?_
      exact ol_nil h
    · refine Ref.region (fun s ρ w1 s' h hr => ?_)
      refine ol_v (e_mv _ h.1.2.2) rfl ?_
      refine ol_v (e_len htS rfl) rfl ?_
      refine ol_v (e_as _ rfl) rfl ?_
      exact ol_nil ⟨rfl, h⟩
    · refine Ref.region (fun s ρ w1 s' h hr => ?_)
      refine ol_v (e_mv _ h.1) rfl ?_
      refine ol_v (e_eql rfl rfl) rfl ?_
      refine ol_nil ⟨?_, h⟩
      show Value.bool (decide ((a2.length : Int) = 0)) = _
      rw [decide_eq_false (by omega)]
    · refine Ref.region (fun s ρ w1 s' h hr => ?_)
      refine ol_v (e_mv _ h.2.1.1) rfl ?_
      refine ol_v (e_len htS rfl) rfl ?_
      refine ol_v (e_as _ rfl) rfl ?_
      exact ol_nil ⟨rfl, h⟩
    · refine Ref.region (fun s ρ w1 s' h hr => ?_)
      refine ol_v (e_mv _ h.2.2.1.2.1) rfl ?_
      refine ol_v (e_mv _ h.1) rfl ?_
      refine ol_v (e_eql rfl rfl) rfl ?_
      refine ol_nil ⟨?_, h⟩
      show Value.bool (decide ((i : Int) = (a0.length : Int))) = _
      rw [decide_eq_false (by omega)]
    · refine Ref.region (fun s ρ w1 s' h hr => ?_)
      refine ol_v (e_mv _ h.1) rfl ?_
      refine ol_v (e_mv _ h.2.1) rfl ?_
      refine ol_v (e_add rfl rfl) rfl ?_
      refine ol_v (e_mv _ h.2.2.1.1) rfl ?_
      refine ol_v (e_cap' htS rfl) rfl ?_
      refine ol_v (e_gtr rfl rfl) rfl ?_
      refine ol_nil ⟨?_, h⟩
      show Value.bool (decide ((c0 : Int) < w64 ((a0.length : Int) + (a2.length : Int)))) = _
      rw [wA _ _ (by omega), decide_eq_false (by omega)]
    · refine Ref.region (fun s ρ w1 s' h hr => ?_)
      obtain ⟨h8, h7, ⟨hρ0, hρ1, hρ2⟩, rfl⟩ := h
      refine ol_v (e_mv _ hρ0) rfl ?_
      refine ol_v (e_mv _ h8) rfl ?_
      refine ol_v (e_mv _ h7) rfl ?_
      refine ol_v (v := .int .i64 ((a0.length + a2.length : Nat) : Int)) (by rw [← wA a0.length a2.length (by omega)]; exact e_add rfl rfl) rfl ?_
      refine ol_v (e_slHa htS hsz0 rfl rfl (by omega)) rfl ?_
      refine ol_v (e_as _ rfl) rfl ?_
      exact ol_nil ⟨rfl, hρ1, hρ2, h7, Wk.refl hok, by rw [← hcur]; exact hh⟩
    · refine Ref.region (fun s ρ w1 s' h hr => ?_)
      obtain ⟨hρ0, hρ1, hρ2, h7, kw, hgg⟩ := id h
      refine ol_v (e_mv _ hρ2) rfl ?_
      refine ol_v (e_mv _ hρ0) rfl ?_
      refine ol_v (e_mv _ hρ1) rfl ?_
      refine ol_v (e_mv _ h7) rfl ?_
      refine ol_v (v := .int .i64 ((i + a2.length : Nat) : Int)) (by rw [← wA i a2.length (by omega)]; exact e_add rfl rfl) rfl ?_
      refine ol_v (e_slLa htS hsz0 rfl rfl (by omega) (by omega) (by omega)) rfl ?_
      refine ol_e (f_overlaps (rs := Tryd.f88.resultTypes) (fn := Tryd.f88) Tryd.func88 (by kernel_rfl) (by kernel_rfl) (by kernel_rfl) (by kernel_rfl) sl_22.under hsz0 (g := g) (fun b' e => by cases e; exact ⟨rfl, rfl⟩) hgg (fun a' e _ => by cases e; exact ⟨hbg, _, hYw' (kw.block b hbl (fun h => hbg (Option.some.inj (id h.symm)))) ⟩) rfl rfl) rfl rfl ?_
      rintro v1 w2 ⟨rfl, rfl⟩
      refine ol_v (e_not_ rfl) rfl ?_
      exact ol_nil ⟨rfl, h⟩
    · refine Ref.regionD 8 (by kernel_rfl) (by kernel_rfl) (fun s ρ w1 h => ?_) (fun s ρ w1 s' h hr => ?_)
      · obtain ⟨hρ0, hρ1, hρ2, h7, kw, hgg⟩ := h
        exact ⟨hρ0, hρ1, hρ2, h7, kw.drewS, hgg⟩
      obtain ⟨hρ0, hρ1, hρ2, h7, kw, hgg⟩ := h
      have hmul : (i + a2.length + (a0.length - i)) * (k_StoredObject).sz ≤ c0 * (k_StoredObject).sz := Nat.mul_le_mul_right _ (by omega)
      rw [Nat.add_mul, Nat.add_mul] at hmul
      have hR0 : Y.length ≤ R0.length := by omega
      refine ol_v (e_mv _ hρ0) rfl ?_
      refine ol_v (e_mv _ hρ1) rfl ?_
      refine ol_v (e_mv _ h7) rfl ?_
      refine ol_v (v := .int .i64 ((i + a2.length : Nat) : Int)) (by rw [← wA i a2.length (by omega)]; exact e_add rfl rfl) rfl ?_
      refine ol_v (e_slLa htS hsz0 rfl rfl (by omega) (by omega) (by omega)) rfl ?_
      refine ol_v (e_mv _ hρ0) rfl ?_
      refine ol_v (e_mv _ hρ1) rfl ?_
      refine ol_v (e_slLa htS hsz0 rfl rfl (by omega) (by omega) (by omega)) rfl ?_
      have hmul2 : (i + a2.length) * (k_StoredObject).sz = XA.length + Y.length := by rw [hXAl, hYl, Nat.add_mul]
      refine ol_e (f_copy (cs := XD) (cur := cur.toList) (g := g) (o := o + (i + a2.length) * (k_StoredObject).sz) sl_22.under hsz0 hgg (by rw [hXDl, show Nat.min (a0.length + a2.length - i) (a0.length + a2.length - (i + a2.length)) = a0.length - i from (Nat.min_eq_right (by omega)).trans (by omega)]) (fun _ => ⟨rfl, _, rfl, fun j u hu => ?_⟩) (by have hlt : cur.toList.length = cur.size := Array.length_toList; omega) hX1 rfl rfl) rfl rfl ?_
      · rw [addr_add]
        have hcell : w1.cell? ⟨g, o + i * (k_StoredObject).sz + j, none⟩ = cur[o + i * (k_StoredObject).sz + j]? := by rw [← hcur] at hgg; simp [World.cell?, hgg]
        have hj := (List.getElem?_eq_some_iff.1 hu).1
        rw [hcell, ← Array.getElem?_toList, hcl, show PR ++ (XA ++ XD) ++ R0 = (PR ++ XA) ++ (XD ++ R0) by simp, List.getElem?_append_right (by rw [List.length_append]; omega), List.length_append, show o + i * (k_StoredObject).sz + j - (PR.length + XA.length) = j by omega, List.getElem?_append_left hj]
        exact hu
      rintro v1 w2 ⟨hgr2, hnew⟩
      have eC : cur.toList.take (o + (i + a2.length) * (k_StoredObject).sz) ++ XD ++ cur.toList.drop (o + (i + a2.length) * (k_StoredObject).sz + XD.length) = PR ++ XA ++ (XD ++ R0).take Y.length ++ XD ++ R0.drop Y.length := by
        have e0 : cur.toList = (PR ++ XA) ++ (XD ++ R0) := by rw [hcl]; simp
        rw [e0, show o + (i + a2.length) * (k_StoredObject).sz = (PR ++ XA).length + Y.length by rw [List.length_append]; omega, List.take_length_add_append]
        rw [show (PR ++ XA).length + Y.length + XD.length = (PR ++ XA).length + (XD.length + Y.length) by omega, List.drop_length_add_append, List.drop_length_add_append]
      rw [eC] at hnew
      exact ol_nil ⟨(XD ++ R0).take Y.length, R0.drop Y.length, by rw [List.length_take, List.length_append]; omega, by rw [List.length_drop]; omega, hρ0, hρ1, hρ2, h7, kw.mut hgr2 (fun g' e => .inr e), hnew⟩
    · refine Ref.region (fun s ρ w1 s' h hr => ?_)
      obtain ⟨M, R, hM, hR, hρ0, hρ1, hρ2, h7, kw, hgg⟩ := h
      refine ol_v (e_mv _ hρ0) rfl ?_
      refine ol_v (e_mv _ hρ1) rfl ?_
      refine ol_v (e_slLa htS hsz0 rfl rfl (by omega) (by omega) (by omega)) rfl ?_
      refine ol_v (e_mv _ hρ2) rfl ?_
      refine ol_e (f_copy (cs := Y) (cur := PR ++ XA ++ M ++ XD ++ R) (g := g) (o := o + i * (k_StoredObject).sz) sl_22.under hsz0 hgg (by rw [hYl, show Nat.min a2.length (a0.length + a2.length - i) = a2.length from Nat.min_eq_left (by omega)]) (fun _ => ⟨rfl, _, rfl, hYw (kw.block b hbl (fun h => hbg (Option.some.inj (id h.symm))))⟩) (by simp only [List.length_append]; omega) hY1 rfl rfl) rfl rfl ?_
      rintro v1 w2 ⟨hgr2, hnew⟩
      have eC : (PR ++ XA ++ M ++ XD ++ R).take (o + i * (k_StoredObject).sz) ++ Y ++ (PR ++ XA ++ M ++ XD ++ R).drop (o + i * (k_StoredObject).sz + Y.length) = PR ++ XA ++ Y ++ XD ++ R := by
        have e0 : PR ++ XA ++ M ++ XD ++ R = (PR ++ XA) ++ (M ++ (XD ++ R)) := by simp
        rw [e0, show o + i * (k_StoredObject).sz = (PR ++ XA).length by rw [List.length_append]; omega, List.take_left, List.drop_length_add_append, ← hM, List.drop_left]
        simp
      rw [eC] at hnew
      exact ol_nil ⟨R, hR, hρ0, hρ1, hρ2, h7, kw.mut hgr2 (fun g' e => .inr e), hnew⟩
    · refine Ref.region (fun s ρ w1 s' h hr => ?_)
      obtain ⟨R, hR, hρ0, hρ1, hρ2, h7, kw, hgg⟩ := h
      refine ol_v (e_mv _ hρ0) rfl ?_
      refine ol_v (e_as _ rfl) rfl ?_
      refine ol_nil ⟨kw, .inr ⟨g, o, c0, _, XA ++ Y ++ XD, ?_, .inr rfl, hF, hgg, ⟨by rw [hrl]; omega, hcm⟩, ?_, hcat (kw.stpR hok (fun g' e => by cases e; exact hF)), ?_⟩⟩
      · rw [hrl]; rfl
      · simp only [List.size_toArray, List.length_append]; omega
      · show ((PR ++ XA ++ Y ++ XD ++ R).drop o).take (XA ++ Y ++ XD).length = _
        rw [show PR ++ XA ++ Y ++ XD ++ R = PR ++ (XA ++ Y ++ XD ++ R) by simp, ← hPR, List.drop_left, List.take_left]
end Insert
end Go.Proofs.YtenkbkcddcnmeaaDoor
