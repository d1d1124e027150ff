/- slices.Delete, bytes.Clone, slices.Grow (at nil), and transfer.take. -/
import Derived.Test.YtpdkgodonemonaaNm
import Derived.Test.YtpdkgodonemonaaFx9
import Derived.Shelf.Slices.Delete
import Derived.Lib.AppendZeros
import Derived.Lib.SliceRun
namespace Go.Proofs
open Go.Shelf Go.Lib Go.Sort Go.RowKit
def Try.layDel_ren : Go.Shelf.Ren := ⟨fun | 23 => 27 | n => n, fun | 22 => 54 | 3 => 3 | 4 => 4 | 0 => 0 | n => n, fun | n => n⟩
theorem Try.layDel : Go.Proofs.Lays2.n23 Try.prog Try.layDel_ren := {
  mixed := by kernel_rfl,
  f23 := Try.func27.trans (congrArg some (by kernel_rfl)),
  t0 := Try.underlying0,
  a0 := Try.isAgg0,
  z0 := Try.sizeOf0,
  v0 := Try.zeroValue0,
  t3 := Try.underlying3,
  a3 := Try.isAgg3,
  z3 := Try.sizeOf3,
  v3 := Try.zeroValue3,
  t4 := Try.underlying4,
  a4 := Try.isAgg4,
  z4 := Try.sizeOf4,
  v4 := Try.zeroValue4,
  t22 := Try.underlying54,
  a22 := Try.isAgg54,
  z22 := Try.sizeOf54,
  v22 := Try.zeroValue54,
  i3 := by kernel_rfl }
end Go.Proofs
namespace Go.Proofs.Ytpdkgodonemonaa
open Go.Fx Go.RowKit
set_option linter.unusedVariables false
set_option linter.unusedSimpArgs false

section
open Go.Sort
theorem cat_int {i : IntKind} {F : BSet} {w : World} : ∀ {xs : List Int} {cs : List Value}, Cat (kInt i) F w xs cs → cs = xs.map (Value.int i)
  | [], _, h => by rw [show _ = [] from h]; rfl
  | x :: xs, _, ⟨c, d, e, hc, hd⟩ => by subst e; rw [cat_int hd, show c = [Value.int i x] from hc]; rfl
theorem int_cat {i : IntKind} {F : BSet} {w : World} : ∀ (xs : List Int), Cat (kInt i) F w xs (xs.map (Value.int i))
  | [] => rfl
  | x :: xs => ⟨[Value.int i x], _, rfl, rfl, int_cat xs⟩
theorem own_cell {F : BSet} {w : World} {g o e : Nat} {cur : Array Value} {xs : List Int} (hh : w.heap[g]? = some (.cells cur e (0, 0))) (ht : (cur.toList.drop o).take (xs.map (Value.int .i64)).length = xs.map (Value.int .i64)) : Holds (Value.int .i64) w g o xs.toArray := by
  intro j hj
  have hj' : j < xs.length := by simpa using hj
  refine ⟨?_, by simp [World.frozen?, hh]⟩
  have hc : w.cell? ⟨g, o + j, none⟩ = cur[o + j]? := by simp [World.cell?, hh]
  have h1 : (xs.map (Value.int .i64))[j]? = some (.int .i64 xs[j]) := by simp [List.getElem?_map, hj']
  rw [← ht, List.getElem?_take, if_pos (by simpa using hj'), List.getElem?_drop, Array.getElem?_toList] at h1
  rw [hc, h1]
  simp [hj']
/-- The world behind: that row's cells are written. -/
theorem own_putRow {F : BSet} {w : World} {B : BSet} {g o e cap q : Nat} {cur : Array Value} {ys zs : List Int} (hB : B g) (hF : ¬ F g) (hh : w.heap[g]? = some (.cells cur e (0, 0))) (hcap : ys.length ≤ cap) (hcm : cap ≤ 9223372036854775807) (hs : o + cap * 1 ≤ cur.size) (hz : (ys ++ zs).length ≤ cap) :
    let w' := putRow (Value.int .i64) (Sort.ahead w q) g o (ys ++ zs).toArray
    w.grownBy w' (some g) ∧ OwnV (kInt .i64) e B F w' (.slice (some ⟨g, o, none⟩) ys.length cap) ys := by
  intro w'
  have hw' : w'.heap = w.heap.modify g (onCells (putCells (Value.int .i64) o (ys ++ zs).toArray)) := rfl
  have hg : w'.heap[g]? = some (.cells (putCells (Value.int .i64) o (ys ++ zs).toArray cur) e (0, 0)) := by
    rw [hw', Array.getElem?_modify, if_pos rfl, hh]; rfl
  refine ⟨⟨rfl, rfl, rfl, by rw [hw']; simp, fun j hj hne => ?_⟩, .inr ⟨g, o, cap, _, ys.map (Value.int .i64), rfl, hB, hF, hg, ⟨hcap, hcm⟩, ?_, int_cat ys, ?_⟩⟩
  · rw [hw', Array.getElem?_modify, if_neg (fun e => hne (by rw [e]))]
  · show o + cap * 1 ≤ _
    simpa [putCells] using hs
  · rw [List.length_map]
    apply List.ext_getElem?
    intro j
    by_cases hj : j < ys.length
    · rw [List.getElem?_take, if_pos hj, List.getElem?_drop, Array.getElem?_toList, List.getElem?_map]
      have h2 : o + j < cur.size := by omega
      have h3 : o + j < o + (ys.length + zs.length) := by omega
      have hj2 : j < ys.length + zs.length := by omega
      simp [putCells, h2, h3, Array.getElem?_mapIdx, List.getElem?_append, hj, List.getElem_append]
    · rw [List.getElem?_take, if_neg hj, List.getElem?_map, List.getElem?_eq_none (by omega)]; rfl
end
namespace Delete
/-- slices.Delete, where there is something to delete. -/
def f (xs : List Int) (i j : Int) : Option (List Int) := if 0 ≤ i ∧ i < j ∧ j ≤ xs.length then some (xs.take i.toNat ++ xs.drop j.toNat) else none
def post (v0 : Value) (w : World) (F : BSet) (r : List Int) (v : Value) (w' : World) : Prop := ∃ (F' : BSet) (v0' : Value), v = v0' ∧ Wk (ob v0.ownBlock) w F F' w' ∧ OwnV (kInt .i64) 3 (Bs w (ob v0.ownBlock)) F' w' v0' r
theorem calls {w : World} {F : BSet} (hok : ∀ b, F b → b < w.heap.size) {v0 : Value} {a0 : List Int} (h0 : OwnV (kInt .i64) 3 (fun _ => True) F w v0 a0) (a1 a2 : Int) {r : List Int} (hf : f a0 a1 a2 = some r) : Calls Try.prog 27 #[v0, .int .i64 a1, .int .i64 a2] w fun e w' => ∃ v, e = .returned v ∧ post v0 w F r v w' := by
  obtain ⟨⟨c1, c2, c3⟩, hr⟩ := ite_some hf
  cases hr
  rcases h0 with ⟨rfl, rfl⟩ | ⟨g, o, cap, cur, cs, rfl, hB, hF, hh, ⟨hc, hcm⟩, hs, hcat, ht⟩
  · simp at c3; omega
  obtain rfl := cat_int hcat
  have hH := own_cell (F := F) hh ht
  have h := Any.slices_Delete_int Try.layDel g o cap a1.toNat a2.toNat a0 w hH hc hcm (by omega) (by omega)
  have e1 : ((a1.toNat : Nat) : Int) = a1 := by omega
  have e2 : ((a2.toNat : Nat) : Int) = a2 := by omega
  rw [e1, e2] at h
  have hlen : (a0.take a1.toNat ++ a0.drop a2.toNat).length = a0.length - (a2.toNat - a1.toNat) := by rw [List.length_append, List.length_take, List.length_drop]; omega
  refine (show Calls Try.prog 27 _ w _ from h).mono ?_
  rintro e w' ⟨rfl, q, rfl⟩
  obtain ⟨hg, ho⟩ := own_putRow (F := F) (B := Bs w (ob (Value.slice (some ⟨g, o, none⟩) a0.length cap).ownBlock)) (q := q) (ys := a0.take a1.toNat ++ a0.drop a2.toNat) (zs := List.replicate (a2.toNat - a1.toNat) 0) (.inr rfl) hF hh (by rw [hlen]; omega) hcm hs (by rw [List.length_append, hlen, List.length_replicate]; omega)
  rw [hlen] at ho
  exact ⟨_, rfl, F, _, rfl, (Wk.refl hok).mut hg (fun g' e => .inr e), ho⟩
end Delete

theorem e_nil_eq {P : Program} {ρ : Env} {w : World} {t e : TypeId} {x y : Operand} {tY : TypeId} {A : Option Addr} {n c : Nat} (ht : SlOk P t e) (hx : ev ρ x = .slice A n c) (hy : ev ρ y = .slice none 0 0) : Ev P ρ w (.binOp .eql t x y tY) (.bool A.isNone) := by
  intro d ty pos after g
  have h := Go.Lib.run_eql_slice_nil (P := P) w t e A n c 0 0 ht
  simp only [execOp, hx, hy, Sem.run_bind]
  simp [eqGuard, h]
namespace Clone
/-- bytes.Clone. -/
def f (xs : List UInt8) : Option (List UInt8) := if xs.length ≤ 140737488355328 then some xs else none
def post (w : World) (F : BSet) (r : List UInt8) (v : Value) (w' : World) : Prop := ∃ (F' : BSet) (v0' : Value), v = v0' ∧ Wk nrow w F F' w' ∧ OwnV kByte 5 (Nw w) F' w' v0' r
theorem calls {w : World} {F : BSet} (hok : ∀ b, F b → b < w.heap.size) {v0 : Value} {a0 : List UInt8} (h0 : SlR kByte F w v0 a0) {r : List UInt8} (hf : f a0 = some r) : Calls Try.prog 20 #[v0] w fun e w' => ∃ v, e = .returned v ∧ post w F r v w' := by
  obtain ⟨hl, hr⟩ := ite_some hf
  cases hr
  obtain ⟨A, c0, rfl, hc0, hR⟩ := id h0
  obtain ⟨c, hc, href⟩ : ∃ c, Try.f20.body = some c ∧ Ref Try.prog 8 c (fun (_ : Unit) ρ w1 => ρ 0 = .slice A a0.length c0 ∧ w1 = w) (seqM (regM fun s => some s) (seqM (seqM (regM fun s => some s) (condM (fun _ => A.isNone) (seqM (regM fun s => some s) (retM fun _ => ())) skipM)) (seqM (regM fun s => some s) (retM fun _ => ())))) (fun _ _ _ => False) (fun _ _ _ _ => False)
      (fun (_ : Unit) ρ w1 => Wk nrow w F F w1 ∧ OwnV kByte 5 (Nw w) F w1 (ρ 2) a0) := by
    refine ⟨_, rfl, ?_⟩
    refine Ref.seq (B := fun _ ρ w1 => ρ 0 = .slice A a0.length c0 ∧ w1 = w) ?_ (Ref.seq (B := fun _ ρ w1 => A.isNone = false ∧ ρ 0 = .slice A a0.length c0 ∧ w1 = w) (Ref.seq (B := fun _ ρ w1 => ρ 4 = .bool A.isNone ∧ ρ 0 = .slice A a0.length c0 ∧ w1 = w) ?_ (Ref.cond (b := fun _ => A.isNone) (fun s ρ w h => h.1) (Ref.seq (B := fun _ ρ w1 => Wk nrow w F F w1 ∧ OwnV kByte 5 (Nw w) F w1 (ρ 2) a0) ?_ (Ref.ret (fun s ρ w h => h))) (Ref.pre Ref.skip (fun s ρ w h => ⟨h.1, h.2.2⟩)))) (Ref.seq (B := fun _ ρ w1 => Wk nrow w F F w1 ∧ OwnV kByte 5 (Nw w) F w1 (ρ 2) a0) ?_ (Ref.ret (fun s ρ w h => h))))
    · refine Ref.region (fun s ρ w1 s' h hr => ?_)
      refine ol_v (e_as _ rfl) rfl ?_
      exact ol_nil ⟨h.1, h.2⟩
    · refine Ref.region (fun s ρ w1 s' h hr => ?_)
      refine ol_v (e_mv _ h.1) rfl ?_
      refine ol_v (e_nil_eq (SlT.sl sl_22) rfl rfl) rfl ?_
      exact ol_nil ⟨rfl, h.1, h.2⟩
    · refine Ref.region (fun s ρ w1 s' h hr => ?_)
      obtain ⟨hA, _, hρ, rfl⟩ := h
      refine ol_v (e_as _ rfl) rfl ?_
      refine ol_nil ⟨Wk.refl hok, ?_⟩
      have : a0 = [] := by
        rcases hR with h | ⟨b, o, rfl, _⟩
        · exact h
        · cases hA
      subst this
      exact OwnV.nil _ _ _ _ _
    · refine Ref.region (fun s ρ w1 s' h hr => ?_)
      obtain ⟨hA, hρ, rfl⟩ := h
      refine ol_e (f_bsl sl_22 (Wk.refl (row := nrow) hok) ([] : List UInt8) [] rfl rfl (Nat.le_of_ble_eq_true rfl) rfl) rfl rfl ?_
      rintro v1 w2 ⟨kw1, ho⟩
      refine ol_v (e_mv _ hρ) rfl ?_
      refine ol_e (f_app (bytes := 1) sl_22 kw1 (ho.rebase (fun g hg => .inl (ho.lt hg).1)) (h0.keep (kw1.stp hok)) (appL_of (by rw [List.length_nil]; omega)) rfl rfl) rfl rfl ?_
      rintro v2 w3 ⟨kw2, ho2, _⟩
      refine ol_v (e_as _ rfl) rfl ?_
      exact ol_nil ⟨kw2, ho2.rebase (fun g hg => (ho2.lt hg).1.resolve_right (fun h => h))⟩
  cases hA : A.isNone with
  | true =>
    refine calls_of_ref (args := [.slice A a0.length c0]) () Try.func20 hc rfl rfl href ⟨rfl, rfl⟩ (by simp [seqM, regM, condM, retM, hA]; rfl) ?_
    rintro ρ w' a ⟨hW, ho⟩ hF
    exact ⟨_, run_results (rs := [.tmp 2]) rfl hF (vs := [ρ 2]) ⟨_, rfl, rfl⟩, F, ρ 2, rfl, hW, ho⟩
  | false =>
    refine calls_of_ref (args := [.slice A a0.length c0]) () Try.func20 hc rfl rfl href ⟨rfl, rfl⟩ (by simp [seqM, regM, condM, retM, skipM, hA]; rfl) ?_
    rintro ρ w' a ⟨hW, ho⟩ hF
    exact ⟨_, run_results (rs := [.tmp 2]) rfl hF (vs := [ρ 2]) ⟨_, rfl, rfl⟩, F, ρ 2, rfl, hW, ho⟩
end Clone
namespace Grow
/-- slices.Grow at nil. -/
def f (xs : List UInt8) (n : Int) : Option (List UInt8) := if xs = [] ∧ 0 ≤ n ∧ n ≤ 140737488355328 then some [] else none
def post (w : World) (F : BSet) (r : List UInt8) (v : Value) (w' : World) : Prop := ∃ (F' : BSet) (v0' : Value), v = v0' ∧ Wk nrow w F F' w' ∧ OwnV kByte 5 (Nw w) F' w' v0' r
theorem e_cap {P : Program} {ρ : Env} {w : World} {x : Operand} {t e : TypeId} {A : Option Addr} {l c0 : Nat} (ht : SlOk P t e) (hx : ev ρ x = .slice A l c0) : Ev P ρ w (.call { callee := .builtin .cap, args := #[x], argTypes := #[t] }) (.int .i64 (c0 : Int)) := fun _ _ _ _ _ => by simp [execOp, resolve, invoke, builtin, hx, Builtin.cap_, run_underlying ht, goInt]
theorem calls {w : World} {F : BSet} (hok : ∀ b, F b → b < w.heap.size) {a0 : List UInt8} (h0 : SlR kByte F w (.slice none 0 0) a0) (n : Int) {r : List UInt8} (hf : f a0 n = some r) : Calls Try.prog 26 #[.slice none 0 0, .int .i64 n] w fun e w' => ∃ v, e = .returned v ∧ post w F r v w' := by
  obtain ⟨⟨rfl, hn0, hn1⟩, hr⟩ := ite_some hf
  cases hr
  obtain ⟨c, hc, href⟩ : ∃ c, Try.f26.body = some c ∧ Ref Try.prog 27 c (fun (_ : Unit) ρ w1 => ρ 0 = .slice none 0 0 ∧ ρ 1 = .int .i64 n ∧ w1 = w) (seqM (regM fun s => some s) (seqM (seqM (regM fun s => some s) (condM (fun _ => false) (regM fun _ => none) skipM)) (seqM (seqM (regM fun s => some s) (seqM (regM fun s => some s) (condM (fun _ => decide (0 < n)) (regM fun s => some s) skipM))) (seqM (regM fun s => some s) (retM fun _ => ()))))) (fun _ _ _ => False) (fun _ _ _ _ => False)
      (fun (_ : Unit) ρ w1 => Wk nrow w F F w1 ∧ OwnV kByte 5 (Nw w) F w1 (ρ 4) []) := by
    refine ⟨_, rfl, ?_⟩
    refine Ref.seq (B := fun _ ρ w1 => ρ 0 = .slice none 0 0 ∧ ρ 1 = .int .i64 n ∧ w1 = w) ?_ (Ref.seq (B := fun _ ρ w1 => ρ 0 = .slice none 0 0 ∧ ρ 1 = .int .i64 n ∧ w1 = w) (Ref.seq (B := fun _ ρ w1 => ρ 6 = .bool false ∧ ρ 0 = .slice none 0 0 ∧ ρ 1 = .int .i64 n ∧ w1 = w) ?_ (Ref.cond (b := fun _ => false) (fun s ρ w h => h.1) (Ref.region (fun s ρ w1 s' h hr => by cases hr)) (Ref.pre Ref.skip (fun s ρ w h => h.2.2)))) (Ref.seq (B := fun _ ρ w1 => Wk nrow w F F w1 ∧ OwnV kByte 5 (Nw w) F w1 (ρ 0) []) (Ref.seq (B := fun _ ρ w1 => ρ 0 = .slice none 0 0 ∧ ρ 1 = .int .i64 n ∧ w1 = w) ?_ (Ref.seq (B := fun _ ρ w1 => ρ 16 = .bool (decide (0 < n)) ∧ ρ 0 = .slice none 0 0 ∧ ρ 1 = .int .i64 n ∧ w1 = w) ?_ (Ref.cond (b := fun _ => decide (0 < n)) (fun s ρ w h => h.1) ?_ (Ref.pre Ref.skip ?_)))) (Ref.seq (B := fun _ ρ w1 => Wk nrow w F F w1 ∧ OwnV kByte 5 (Nw w) F w1 (ρ 4) []) ?_ (Ref.ret (fun s ρ w h => h)))))
    · refine Ref.region (fun s ρ w1 s' h hr => ?_)
      refine ol_v (e_as _ rfl) rfl ?_
      exact ol_nil h
    · refine Ref.region (fun s ρ w1 s' h hr => ?_)
      refine ol_v (e_mv _ h.2.1) rfl ?_
      refine ol_v (e_lss rfl rfl) rfl ?_
      refine ol_nil ⟨?_, h⟩
      show Value.bool (decide (n < 0)) = _
      rw [decide_eq_false (by omega)]
    · refine Ref.region (fun s ρ w1 s' h hr => ?_)
      refine ol_v (e_mv _ h.2.1) rfl ?_
      refine ol_v (e_mv _ h.1) rfl ?_
      refine ol_v (e_cap (SlT.sl sl_22) rfl) rfl ?_
      refine ol_v (e_mv _ h.1) rfl ?_
      refine ol_v (e_len (SlT.sl sl_22) rfl) rfl ?_
      refine ol_v (e_sub rfl rfl) rfl ?_
      refine ol_v (e_sub rfl rfl) rfl ?_
      refine ol_v (e_as _ rfl) rfl ?_
      refine ol_nil ⟨h.1, ?_, h.2.2⟩
      show Value.int .i64 (w64 (n - w64 (((0 : Nat) : Int) - ((0 : Nat) : Int)))) = _
      rw [show w64 (((0 : Nat) : Int) - ((0 : Nat) : Int)) = 0 by decide, Int.sub_zero, w64_id (by omega) (by omega)]
    · refine Ref.region (fun s ρ w1 s' h hr => ?_)
      refine ol_v (e_mv _ h.2.1) rfl ?_
      refine ol_v (e_gtr rfl rfl) rfl ?_
      exact ol_nil ⟨rfl, h⟩
    · refine Ref.region (fun s ρ w1 s' h hr => ?_)
      obtain ⟨hn, _, hρ, hρ1, rfl⟩ := h
      have hn : 0 < n := of_decide_eq_true hn
      refine ol_v (e_mv _ hρ) rfl ?_
      refine ol_v (e_mv _ hρ) rfl ?_
      refine ol_v (e_cap (SlT.sl sl_22) rfl) rfl ?_
      refine ol_v (e_slH (xs := ([] : List UInt8)) (ys := []) (SlT.sl sl_22) (SlT.sz sl_22) (Nat.le_refl _) rfl rfl rfl) rfl ?_
      refine ol_v (e_mv _ hρ1) rfl ?_
      obtain ⟨i, z, hi, hz, hsz, hby, hzs, hzr⟩ := sl_22.info
      obtain ⟨m, rfl⟩ : ∃ m : Nat, n = m := ⟨n.toNat, by omega⟩
      have hge := grownCap_ge w1 m 0 5
      have hlc := grownCap_le_maxLen w1 m 0 5 (by show m ≤ 9223372036854775807; omega)
      have hrun : ∀ ty, (Builtin.append_ #[22, 3] ty #[.slice none 0 0, .int .i64 m]).run Try.prog w1 = _ := fun ty => Go.Lib.run_append_nil_zeros w1 22 3 ty 5 i z .i64 .i64 sl_22.under Try.underlying3 hi hz m (by omega) (by rw [hsz]; exact sl_22.pos) (by omega) (by rw [hby]; omega)
      have hcat := zero_cat (k := kByte) (F := F) (w := w1) hzr hzs sl_22.pos m
      refine ol_e (R := fun v' w' => v' = .slice (some ⟨w1.heap.size, 0, none⟩) m (grownCap w1 m 0 5) ∧ w' = w1.drew.alloc (.cells (Builtin.zeroCells z.cells m ++ Builtin.zeroCells z.cells (grownCap w1 m 0 5 - m)) 5)) (Eff.of_run (fun d ty pos after g => ?_) ⟨rfl, rfl⟩) rfl rfl ?_
      · simp only [execOp, resolve, invoke, builtin, List.map_toArray, List.map_cons, List.map_nil, Sem.run_bind, Sem.run_pure, Result.andThen_ok]
        exact (congrArg (fun x => Result.andThen x fun a w' => Result.ok (Next.value a) w') (hrun ty))
      rintro v' w2 ⟨rfl, rfl⟩
      refine ol_v (e_mv _ hρ) rfl ?_
      refine ol_v (e_len (SlT.sl sl_22) rfl) rfl ?_
      refine ol_v (e_slH (xs := List.replicate m (0 : UInt8)) (ys := []) (c0 := grownCap w1 m 0 5) (A := some ⟨w1.heap.size, 0, none⟩) (SlT.sl sl_22) (SlT.sz sl_22) (by rw [List.length_replicate]; exact hge) (by rw [List.length_replicate]; rfl) rfl (by simp [cutTo])) rfl ?_
      refine ol_v (e_as _ rfl) rfl ?_
      refine ol_nil ⟨?_, ?_⟩
      · exact (Wk.drew (row := nrow) hok).trans (Wk.alloc (w := w1.drew) hok _)
      · refine .inr ⟨w1.heap.size, 0, grownCap w1 m 0 5, _, [], ?_, Nat.le_refl _, fun hF => absurd (hok _ hF) (by omega), heap_alloc_new w1.drew _, ⟨Nat.zero_le _, hlc⟩, ?_, rfl, rfl⟩
        · show sliced (some ⟨w1.heap.size, 0, none⟩) 0 ((((0 : Nat) : Int)).toNat) (grownCap w1 m 0 5) kByte.sz = _
          unfold sliced
          have h0 : grownCap w1 m 0 5 ≠ 0 := by omega
          simp [addr_add, h0]
        · have hz1 : z.cells.size = 1 := hzs
          rw [Array.size_append, size_zeroCells, size_zeroCells, hz1]
          show 0 + grownCap w1 m 0 5 * 1 ≤ _
          omega
    · rintro s ρ w1 ⟨hn, _, hρ, hρ1, rfl⟩
      refine ⟨Wk.refl hok, ?_⟩
      rw [hρ]; exact OwnV.nil _ _ _ _ _
    · refine Ref.region (fun s ρ w1 s' h hr => ?_)
      refine ol_v (e_mv _ rfl) rfl ?_
      refine ol_v (e_as _ rfl) rfl ?_
      exact ol_nil h
  refine calls_of_ref (args := [.slice none 0 0, .int .i64 n]) () Try.func26 hc rfl rfl href ⟨rfl, rfl, rfl⟩ (r := ()) ?_ ?_
  · by_cases h : 0 < n <;> simp [seqM, regM, condM, retM, skipM, h]
  rintro ρ w' a ⟨hW, ho⟩ hF
  exact ⟨_, run_results (rs := [.tmp 4]) rfl hF (vs := [ρ 4]) ⟨_, rfl, rfl⟩, F, ρ 4, rfl, hW, ho⟩
end Grow
theorem ty_54r : TyOk Try.prog 54 kRaw := ⟨by kernel_rfl, by kernel_rfl⟩
theorem fn_27' : FnOk Try.prog 27 := ⟨_, Try.func27, by kernel_rfl, by kernel_rfl⟩
theorem own_one {α : Type} {k : Kd α} {e : TypeId} {B F : BSet} {w : World} {v : Value} {xs : List α} (h : OwnV k e B F w v xs) : v.oneCell' = true := by
  obtain ⟨A, c, rfl, _⟩ := h.shape; rfl
namespace take
/-- transfer.take: the element, and the list without it. -/
def f (xs : List Int) (n : Int) : Option (Int × List Int) := (idx xs n).bind fun x => (Delete.f xs n (w64 (n + 1))).bind fun ys => some (x, ys)
theorem calls {w : World} {F : BSet} (hok : ∀ b, F b → b < w.heap.size) {g o : Nat} {v0 : Value} {a0 : List Int} (hc : CellAt w g o v0) (h0 : OwnV (kInt .i64) 3 (fun _ => True) F w v0 a0) (hap : Apart (some g) v0.ownBlock) (a1 : Int) {r : Int × List Int} (hf : f a0 a1 = some r) :
    Calls Try.prog 25 #[.pointer (some ⟨g, o, none⟩), .int .i64 a1] w fun e w' => ∃ v, e = .returned v ∧ ∃ (v0' : Value) (w1 : World), v = .int .i64 r.1 ∧ Wk (ob v0.ownBlock) w F F w1 ∧ OwnV (kInt .i64) 3 (Bs w (ob v0.ownBlock)) F w1 v0' r.2 ∧ (Instr.storeAt 54 (.pointer (some ⟨g, o, none⟩)) v0').run Try.prog w1 = .ok () w' := by
  obtain ⟨x, hx, hf⟩ := bind_some' hf
  obtain ⟨ys, hy, hf⟩ := bind_some' hf
  cases Option.some.inj hf
  have hl := hc.lies (F := F) (own_one h0)
  have hg : g < w.heap.size := by obtain ⟨cur, e, h1, _⟩ := hc; exact (Array.getElem?_eq_some_iff.1 h1).1
  obtain ⟨c, hcb, href⟩ : ∃ c, Try.f25.body = some c ∧ Ref Try.prog 22 c (fun (_ : Unit) ρ w1 => ρ 0 = .pointer (some ⟨g, o, none⟩) ∧ ρ 1 = .int .i64 a1 ∧ w1 = w) (seqM (regM fun s => some s) (seqM (regM fun s => some s) (seqM (regM fun s => some s) (seqM (regM fun s => some s) (retM fun _ => ()))))) (fun _ _ _ => False) (fun _ _ _ _ => False)
      (fun (_ : Unit) ρ w2 => ρ 4 = .int .i64 x ∧ ∃ (v0' : Value) (w1 : World), Wk (ob v0.ownBlock) w F F w1 ∧ OwnV (kInt .i64) 3 (Bs w (ob v0.ownBlock)) F w1 v0' ys ∧ (Instr.storeAt 54 (.pointer (some ⟨g, o, none⟩)) v0').run Try.prog w1 = .ok () w2) := by
    refine ⟨_, rfl, ?_⟩
    refine Ref.seq (B := fun _ ρ w1 => ρ 0 = .pointer (some ⟨g, o, none⟩) ∧ ρ 1 = .int .i64 a1 ∧ w1 = w) ?_ (Ref.seq (B := fun _ ρ w1 => ρ 5 = .int .i64 x ∧ ρ 0 = .pointer (some ⟨g, o, none⟩) ∧ ρ 1 = .int .i64 a1 ∧ w1 = w) ?_ (Ref.seq (B := fun _ ρ w2 => ρ 5 = .int .i64 x ∧ ∃ (v0' : Value) (w1 : World), Wk (ob v0.ownBlock) w F F w1 ∧ OwnV (kInt .i64) 3 (Bs w (ob v0.ownBlock)) F w1 v0' ys ∧ (Instr.storeAt 54 (.pointer (some ⟨g, o, none⟩)) v0').run Try.prog w1 = .ok () w2) ?_ (Ref.seq (B := fun _ ρ w2 => ρ 4 = .int .i64 x ∧ ∃ (v0' : Value) (w1 : World), Wk (ob v0.ownBlock) w F F w1 ∧ OwnV (kInt .i64) 3 (Bs w (ob v0.ownBlock)) F w1 v0' ys ∧ (Instr.storeAt 54 (.pointer (some ⟨g, o, none⟩)) v0').run Try.prog w1 = .ok () w2) ?_ (Ref.ret (fun s ρ w h => h)))))
    · refine Ref.region (fun s ρ w1 s' h hr => ?_)
      refine ol_v (e_as _ rfl) rfl ?_
      exact ol_nil h
    · refine Ref.region (fun s ρ w1 s' h hr => ?_)
      obtain ⟨hρ, hρ1, rfl⟩ := h
      refine ol_v (e_mv _ hρ) rfl ?_
      refine ol_v (e_nil_ rfl) rfl ?_
      refine ol_v (e_ld ty_54r hl rfl) rfl ?_
      refine ol_v (e_mv _ hρ1) rfl ?_
      obtain ⟨g1, o1, c1, hv, L⟩ := OwnV.at_ h0 hx
      refine ol_v (e_ixO sl_54 hv hx rfl rfl) rfl ?_
      refine ol_v (e_ld ty_3 (LiesV.int L) rfl) rfl ?_
      refine ol_v (e_as _ rfl) rfl ?_
      exact ol_nil ⟨rfl, hρ, hρ1, rfl⟩
    · refine Ref.region (fun s ρ w1 s' h hr => ?_)
      obtain ⟨h5, hρ, hρ1, rfl⟩ := h
      refine ol_v (e_mv _ hρ) rfl ?_
      refine ol_v (e_mv _ hρ) rfl ?_
      refine ol_v (e_nil_ rfl) rfl ?_
      refine ol_v (e_ld ty_54r hl rfl) rfl ?_
      refine ol_v (e_mv _ hρ1) rfl ?_
      refine ol_v (e_mv _ hρ1) rfl ?_
      refine ol_v (e_add rfl rfl) rfl ?_
      refine ol_e (f_call [v0, .int .i64 a1, .int .i64 (w64 (a1 + 1))] fn_27' rfl (Delete.calls hok h0 a1 (w64 (a1 + 1)) hy)) rfl rfl ?_
      rintro v1 w2 ⟨F2, _, rfl, kw, ho⟩
      have kw' := kw.lend hok
      have ho' := OwnV.plainB (plain_int _) ho kw.mono
      refine ol_v (e_nil_ rfl) rfl ?_
      have hc2 : CellAt w2 g o v0 := by
        obtain ⟨cur, e, h1, h2⟩ := hc
        exact ⟨cur, e, (kw.block g hg (fun h => hap g rfl h)).trans h1, h2⟩
      obtain ⟨w3, hst⟩ := hc2.run_store (P := Try.prog) (u := v1) (own_one ho) ty_54r
      refine ol_eN (R := fun _ w' => w' = w3) (Eff.of_runN (fun d ty pos after g => ?_) rfl) rfl ?_
      · simp only [execOp, ev, upd, Sem.run_bind]
        exact congrArg (fun x => Result.andThen x fun a w' => Result.ok Next.skip w') hst
      rintro _ _ rfl
      exact ol_nil ⟨h5, v1, w2, kw', ho', hst⟩
    · refine Ref.region (fun s ρ w1 s' h hr => ?_)
      refine ol_v (e_mv _ h.1) rfl ?_
      refine ol_v (e_as _ rfl) rfl ?_
      exact ol_nil ⟨rfl, h.2⟩
  refine calls_of_ref (args := [.pointer (some ⟨g, o, none⟩), .int .i64 a1]) () Try.func25 hcb rfl rfl href ⟨rfl, rfl, rfl⟩ rfl ?_
  rintro ρ w' a ⟨h4, v0', w1, h1, h2, h3⟩ hF
  exact ⟨_, run_results (rs := [.tmp 4]) rfl hF (vs := [ρ 4]) ⟨_, rfl, rfl⟩, v0', w1, h4, h1, h2, h3⟩
end take
end Go.Proofs.Ytpdkgodonemonaa
