/- The library's functions that seat C's laws reach: slices.Clone, bytes.Clone, slices.Delete, slices.Sort, bits.Mul64, bits.LeadingZeros64, slices.Insert. -/
import Derived.Test.YtenkbkcddcnmeaaNm
import Derived.Test.YtenkbkcddcnmeaaFx9
import Derived.Shelf.Slices.Delete
import Derived.Shelf.Bits.Mul64
import Derived.Shelf.Small.Bits
import Derived.Shelf.Sort.Plain
import Derived.Handy
import Derived.Lib.AppendZeros
import Derived.Lib.SliceRun
namespace Go.Proofs
open Go.Shelf Go.Lib Go.Sort Go.RowKit
def Try.layDel_ren : Go.Shelf.Ren := ⟨fun | 23 => 41 | n => n, fun | 22 => 26 | 3 => 3 | 4 => 4 | 0 => 0 | n => n, fun | n => n⟩
theorem Try.layDel : Go.Proofs.Lays2.n23 Try.prog Try.layDel_ren := {
  mixed := by kernel_rfl,
  f23 := Try.func41.trans (congrArg some (by kernel_rfl)),
  t0 := Try.underlying0,
  a0 := Try.isAgg0,
  z0 := Try.sizeOf0,
  v0 := Try.zeroValue0,
  t3 := Try.underlying3,
  a3 := Try.isAgg3,
  z3 := Try.sizeOf3,
  v3 := Try.zeroValue3,
  t4 := Try.underlying4,
  a4 := Try.isAgg4,
  z4 := Try.sizeOf4,
  v4 := Try.zeroValue4,
  t22 := Try.underlying26,
  a22 := Try.isAgg26,
  z22 := Try.sizeOf26,
  v22 := Try.zeroValue26,
  i3 := by kernel_rfl }
def Try.layMul_ren : Go.Shelf.Ren := ⟨fun | 264 => 85 | n => n, fun | 53 => 110 | 46 => 86 | n => n, fun | n => n⟩
theorem Try.layMul : Go.Proofs.Lays.n264 Try.prog Try.layMul_ren := {
  mixed := by kernel_rfl,
  f264 := Try.func85.trans (congrArg some (by kernel_rfl)),
  t46 := Try.underlying86,
  a46 := Try.isAgg86,
  z46 := Try.sizeOf86,
  v46 := Try.zeroValue86,
  t53 := Try.underlying110,
  a53 := Try.isAgg110,
  z53 := Try.sizeOf110,
  v53 := Try.zeroValue110 }
def Try.layLead_ren : Go.Shelf.Ren := ⟨fun | 134 => 89 | 129 => 72 | n => n, fun | 53 => 110 | 3 => 3 | 4 => 4 | 46 => 86 | 5 => 5 | 9 => 9 | n => n, fun | n => n⟩
theorem Try.layLead : Go.Proofs.Lays.n134 Try.prog Try.layLead_ren := {
  mixed := by kernel_rfl,
  f129 := Try.func72.trans (congrArg some (by kernel_rfl)),
  f134 := Try.func89.trans (congrArg some (by kernel_rfl)),
  t3 := Try.underlying3,
  a3 := Try.isAgg3,
  z3 := Try.sizeOf3,
  v3 := Try.zeroValue3,
  t4 := Try.underlying4,
  a4 := Try.isAgg4,
  z4 := Try.sizeOf4,
  v4 := Try.zeroValue4,
  t5 := Try.underlying5,
  a5 := Try.isAgg5,
  z5 := Try.sizeOf5,
  v5 := Try.zeroValue5,
  t9 := Try.underlying9,
  a9 := Try.isAgg9,
  z9 := Try.sizeOf9,
  v9 := Try.zeroValue9,
  t46 := Try.underlying86,
  a46 := Try.isAgg86,
  z46 := Try.sizeOf86,
  v46 := Try.zeroValue86,
  t53 := Try.underlying110,
  a53 := Try.isAgg110,
  z53 := Try.sizeOf110,
  v53 := Try.zeroValue110 }
def Try.laySort_ren : Go.Shelf.Ren := ⟨fun | 189 => 35 | 125 => 53 | 257 => 52 | 128 => 71 | 129 => 72 | 294 => 63 | 295 => 64 | 296 => 65 | 297 => 66 | 298 => 67 | 299 => 68 | 216 => 49 | 300 => 69 | 301 => 70 | 328 => 79 | 329 => 80 | 330 => 81 | 331 => 82 | 332 => 83 | 215 => 60 | 343 => 87 | n => n, fun | 28 => 26 | 3 => 3 | 46 => 86 | 0 => 0 | 51 => 108 | 53 => 110 | 4 => 4 | 183 => 102 | 182 => 101 | 131 => 64 | 5 => 5 | 9 => 9 | 218 => 116 | 222 => 120 | 228 => 125 | 229 => 126 | n => n, fun | n => n⟩
theorem Try.laySort : Go.Proofs.Lays.n189 Try.prog Try.laySort_ren := {
  mixed := by kernel_rfl,
  f125 := Try.func53.trans (congrArg some (by kernel_rfl)),
  f128 := Try.func71.trans (congrArg some (by kernel_rfl)),
  f129 := Try.func72.trans (congrArg some (by kernel_rfl)),
  f189 := Try.func35.trans (congrArg some (by kernel_rfl)),
  f215 := Try.func60.trans (congrArg some (by kernel_rfl)),
  f216 := Try.func49.trans (congrArg some (by kernel_rfl)),
  f257 := Try.func52.trans (congrArg some (by kernel_rfl)),
  f294 := Try.func63.trans (congrArg some (by kernel_rfl)),
  f295 := Try.func64.trans (congrArg some (by kernel_rfl)),
  f296 := Try.func65.trans (congrArg some (by kernel_rfl)),
  f297 := Try.func66.trans (congrArg some (by kernel_rfl)),
  f298 := Try.func67.trans (congrArg some (by kernel_rfl)),
  f299 := Try.func68.trans (congrArg some (by kernel_rfl)),
  f300 := Try.func69.trans (congrArg some (by kernel_rfl)),
  f301 := Try.func70.trans (congrArg some (by kernel_rfl)),
  f328 := Try.func79.trans (congrArg some (by kernel_rfl)),
  f329 := Try.func80.trans (congrArg some (by kernel_rfl)),
  f330 := Try.func81.trans (congrArg some (by kernel_rfl)),
  f331 := Try.func82.trans (congrArg some (by kernel_rfl)),
  f332 := Try.func83.trans (congrArg some (by kernel_rfl)),
  f343 := Try.func87.trans (congrArg some (by kernel_rfl)),
  t0 := Try.underlying0,
  a0 := Try.isAgg0,
  z0 := Try.sizeOf0,
  v0 := Try.zeroValue0,
  t3 := Try.underlying3,
  a3 := Try.isAgg3,
  z3 := Try.sizeOf3,
  v3 := Try.zeroValue3,
  t4 := Try.underlying4,
  a4 := Try.isAgg4,
  z4 := Try.sizeOf4,
  v4 := Try.zeroValue4,
  t5 := Try.underlying5,
  a5 := Try.isAgg5,
  z5 := Try.sizeOf5,
  v5 := Try.zeroValue5,
  t9 := Try.underlying9,
  a9 := Try.isAgg9,
  z9 := Try.sizeOf9,
  v9 := Try.zeroValue9,
  t28 := Try.underlying26,
  a28 := Try.isAgg26,
  z28 := Try.sizeOf26,
  v28 := Try.zeroValue26,
  t46 := Try.underlying86,
  a46 := Try.isAgg86,
  z46 := Try.sizeOf86,
  v46 := Try.zeroValue86,
  t51 := Try.underlying108,
  a51 := Try.isAgg108,
  z51 := Try.sizeOf108,
  v51 := Try.zeroValue108,
  t53 := Try.underlying110,
  a53 := Try.isAgg110,
  z53 := Try.sizeOf110,
  v53 := Try.zeroValue110,
  t131 := Try.underlying64,
  a131 := Try.isAgg64,
  z131 := Try.sizeOf64,
  v131 := Try.zeroValue64,
  t182 := Try.underlying101,
  a182 := Try.isAgg101,
  z182 := Try.sizeOf101,
  v182 := Try.zeroValue101,
  t183 := Try.underlying102,
  a183 := Try.isAgg102,
  z183 := Try.sizeOf102,
  v183 := Try.zeroValue102,
  t218 := Try.underlying116,
  a218 := Try.isAgg116,
  z218 := Try.sizeOf116,
  v218 := Try.zeroValue116,
  t222 := Try.underlying120,
  a222 := Try.isAgg120,
  z222 := Try.sizeOf120,
  v222 := Try.zeroValue120,
  t228 := Try.underlying125,
  a228 := Try.isAgg125,
  z228 := Try.sizeOf125,
  v228 := Try.zeroValue125,
  t229 := Try.underlying126,
  a229 := Try.isAgg126,
  z229 := Try.sizeOf126,
  v229 := Try.zeroValue126 }
set_option maxHeartbeats 2000000 in
set_option maxRecDepth 100000 in
theorem Try.ins_nil (w : World) : Calls Try.prog 63 #[.slice none 0 0, .int .i64 0, .int .i64 0] w fun e w' => e = .returned (.tuple #[]) ∧ w' = w := by
  go_enter Try.func63, Try.ntmps63
  go_wp2
  go_loopg [6] 0 (fun _ s6 wr => s6 = .int .i64 1 ∧ wr = w)
  case atStart => exact ⟨rfl, rfl⟩
  case round =>
    obtain ⟨rfl, rfl⟩ := hrel
    go_wp2
    go_returns
    exact ⟨rfl, rfl⟩
set_option maxHeartbeats 2000000 in
set_option maxRecDepth 100000 in
theorem Try.pdq_nil (w : World) (n : Int) : Calls Try.prog 52 #[.slice none 0 0, .int .i64 0, .int .i64 0, .int .i64 n] w fun e w' => e = .returned (.tuple #[]) ∧ w' = w := by
  go_enter Try.func52, Try.ntmps52
  go_wp2
  go_loopg [1, 2, 3, 8, 9] 0 (fun _ s1 s2 s3 s8 s9 wr => s1 = .int .i64 0 ∧ s2 = .int .i64 0 ∧ s3 = .int .i64 n ∧ s8 = .bool true ∧ s9 = .bool true ∧ wr = w)
  case atStart => exact ⟨rfl, rfl, rfl, rfl, rfl, rfl⟩
  case round =>
    obtain ⟨rfl, rfl, rfl, rfl, rfl, rfl⟩ := hrel
    go_wp2_with (go_at_call 63; refine (Try.ins_nil _).mono ?_; rintro e w' ⟨rfl, rfl⟩)
    go_returns
    exact ⟨rfl, rfl⟩
def Try.layLen_ren : Go.Shelf.Ren := ⟨fun | 125 => 53 | 128 => 71 | 129 => 72 | n => n, fun | 46 => 86 | 3 => 3 | 51 => 108 | 53 => 110 | 4 => 4 | 5 => 5 | 9 => 9 | n => n, fun | n => n⟩
theorem Try.layLen : Go.Proofs.Lays.n125 Try.prog Try.layLen_ren := {
  mixed := by kernel_rfl,
  f125 := Try.func53.trans (congrArg some (by kernel_rfl)),
  f128 := Try.func71.trans (congrArg some (by kernel_rfl)),
  f129 := Try.func72.trans (congrArg some (by kernel_rfl)),
  t3 := Try.underlying3,
  a3 := Try.isAgg3,
  z3 := Try.sizeOf3,
  v3 := Try.zeroValue3,
  t4 := Try.underlying4,
  a4 := Try.isAgg4,
  z4 := Try.sizeOf4,
  v4 := Try.zeroValue4,
  t5 := Try.underlying5,
  a5 := Try.isAgg5,
  z5 := Try.sizeOf5,
  v5 := Try.zeroValue5,
  t9 := Try.underlying9,
  a9 := Try.isAgg9,
  z9 := Try.sizeOf9,
  v9 := Try.zeroValue9,
  t46 := Try.underlying86,
  a46 := Try.isAgg86,
  z46 := Try.sizeOf86,
  v46 := Try.zeroValue86,
  t51 := Try.underlying108,
  a51 := Try.isAgg108,
  z51 := Try.sizeOf108,
  v51 := Try.zeroValue108,
  t53 := Try.underlying110,
  a53 := Try.isAgg110,
  z53 := Try.sizeOf110,
  v53 := Try.zeroValue110 }
set_option maxHeartbeats 2000000 in
set_option maxRecDepth 100000 in
theorem Try.sort_nil (w : World) : Calls Try.prog 35 #[.slice none 0 0] w fun e w' => e = .returned (.tuple #[]) ∧ w' = w := by
  have hn := Any.bits_Len Try.layLen 0 w (by omega) (by omega)
  go_enter Try.func35, Try.ntmps35
  go_wp2_with (first | (go_at_call 53; refine hn.mono ?_; rintro e w' ⟨rfl, rfl⟩) | (go_at_call 52; refine (Try.pdq_nil _ _).mono ?_; rintro e w' ⟨rfl, rfl⟩))
  go_returns
  exact ⟨rfl, rfl⟩
end Go.Proofs
namespace Go.Proofs.Ytenkbkcddcnmeaa
open Go.Fx Go.RowKit
set_option linter.unusedVariables false
set_option linter.unusedSimpArgs false
set_option maxRecDepth 20000

section
open Go.Sort
theorem cat_int {i : IntKind} {F : BSet} {w : World} : ∀ {xs : List Int} {cs : List Value}, Cat (kInt i) F w xs cs → cs = xs.map (Value.int i)
  | [], _, h => by rw [show _ = [] from h]; rfl
  | x :: xs, _, ⟨c, d, e, hc, hd⟩ => by subst e; rw [cat_int hd, show c = [Value.int i x] from hc]; rfl
theorem int_cat {i : IntKind} {F : BSet} {w : World} : ∀ (xs : List Int), Cat (kInt i) F w xs (xs.map (Value.int i))
  | [] => rfl
  | x :: xs => ⟨[Value.int i x], _, rfl, rfl, int_cat xs⟩
theorem own_cell {F : BSet} {w : World} {g o e : Nat} {cur : Array Value} {xs : List Int} (hh : w.heap[g]? = some (.cells cur e (0, 0))) (ht : (cur.toList.drop o).take (xs.map (Value.int .i64)).length = xs.map (Value.int .i64)) : Holds (Value.int .i64) w g o xs.toArray := by
  intro j hj
  have hj' : j < xs.length := by simpa using hj
  refine ⟨?_, by simp [World.frozen?, hh]⟩
  have hc : w.cell? ⟨g, o + j, none⟩ = cur[o + j]? := by simp [World.cell?, hh]
  have h1 : (xs.map (Value.int .i64))[j]? = some (.int .i64 xs[j]) := by simp [List.getElem?_map, hj']
  rw [← ht, List.getElem?_take, if_pos (by simpa using hj'), List.getElem?_drop, Array.getElem?_toList] at h1
  rw [hc, h1]
  simp [hj']
/-- The world behind: that row's cells are written. -/
theorem own_putRow {F : BSet} {w : World} {B : BSet} {g o e cap q : Nat} {cur : Array Value} {ys zs : List Int} (hB : B g) (hF : ¬ F g) (hh : w.heap[g]? = some (.cells cur e (0, 0))) (hcap : ys.length ≤ cap) (hcm : cap ≤ 9223372036854775807) (hs : o + cap * 1 ≤ cur.size) (hz : (ys ++ zs).length ≤ cap) :
    let w' := putRow (Value.int .i64) (Sort.ahead w q) g o (ys ++ zs).toArray
    w.grownBy w' (some g) ∧ OwnV (kInt .i64) e B F w' (.slice (some ⟨g, o, none⟩) ys.length cap) ys := by
  intro w'
  have hw' : w'.heap = w.heap.modify g (onCells (putCells (Value.int .i64) o (ys ++ zs).toArray)) := rfl
  have hg : w'.heap[g]? = some (.cells (putCells (Value.int .i64) o (ys ++ zs).toArray cur) e (0, 0)) := by
    rw [hw', Array.getElem?_modify, if_pos rfl, hh]; rfl
  refine ⟨⟨rfl, rfl, rfl, by rw [hw']; simp, fun j hj hne => ?_⟩, .inr ⟨g, o, cap, _, ys.map (Value.int .i64), rfl, hB, hF, hg, ⟨hcap, hcm⟩, ?_, int_cat ys, ?_⟩⟩
  · rw [hw', Array.getElem?_modify, if_neg (fun e => hne (by rw [e]))]
  · show o + cap * 1 ≤ _
    simpa [putCells] using hs
  · rw [List.length_map]
    apply List.ext_getElem?
    intro j
    by_cases hj : j < ys.length
    · rw [List.getElem?_take, if_pos hj, List.getElem?_drop, Array.getElem?_toList, List.getElem?_map]
      have h2 : o + j < cur.size := by omega
      have h3 : o + j < o + (ys.length + zs.length) := by omega
      have hj2 : j < ys.length + zs.length := by omega
      simp [putCells, h2, h3, Array.getElem?_mapIdx, List.getElem?_append, hj, List.getElem_append]
    · rw [List.getElem?_take, if_neg hj, List.getElem?_map, List.getElem?_eq_none (by omega)]; rfl
end
namespace Delete
/-- slices.Delete, where there is something to delete. -/
def f (xs : List Int) (i j : Int) : Option (List Int) := if 0 ≤ i ∧ i < j ∧ j ≤ xs.length then some (xs.take i.toNat ++ xs.drop j.toNat) else none
def post (v0 : Value) (w : World) (F : BSet) (r : List Int) (v : Value) (w' : World) : Prop := ∃ (F' : BSet) (v0' : Value), v = v0' ∧ Wk (ob v0.ownBlock) w F F' w' ∧ OwnV (kInt .i64) 3 (Bs w (ob v0.ownBlock)) F' w' v0' r
theorem calls {w : World} {F : BSet} (hok : ∀ b, F b → b < w.heap.size) {v0 : Value} {a0 : List Int} (h0 : OwnV (kInt .i64) 3 (fun _ => True) F w v0 a0) (a1 a2 : Int) {r : List Int} (hf : f a0 a1 a2 = some r) : Calls Try.prog 41 #[v0, .int .i64 a1, .int .i64 a2] w fun e w' => ∃ v, e = .returned v ∧ post v0 w F r v w' := by
  obtain ⟨⟨c1, c2, c3⟩, hr⟩ := ite_some hf
  cases hr
  rcases h0 with ⟨rfl, rfl⟩ | ⟨g, o, cap, cur, cs, rfl, hB, hF, hh, ⟨hc, hcm⟩, hs, hcat, ht⟩
  · simp at c3; omega
  obtain rfl := cat_int hcat
  have hH := own_cell (F := F) hh ht
  have h := Any.slices_Delete_int Try.layDel g o cap a1.toNat a2.toNat a0 w hH hc hcm (by omega) (by omega)
  have e1 : ((a1.toNat : Nat) : Int) = a1 := by omega
  have e2 : ((a2.toNat : Nat) : Int) = a2 := by omega
  rw [e1, e2] at h
  have hlen : (a0.take a1.toNat ++ a0.drop a2.toNat).length = a0.length - (a2.toNat - a1.toNat) := by rw [List.length_append, List.length_take, List.length_drop]; omega
  refine (show Calls Try.prog 41 _ w _ from h).mono ?_
  rintro e w' ⟨rfl, q, rfl⟩
  obtain ⟨hg, ho⟩ := own_putRow (F := F) (B := Bs w (ob (Value.slice (some ⟨g, o, none⟩) a0.length cap).ownBlock)) (q := q) (ys := a0.take a1.toNat ++ a0.drop a2.toNat) (zs := List.replicate (a2.toNat - a1.toNat) 0) (.inr rfl) hF hh (by rw [hlen]; omega) hcm hs (by rw [List.length_append, hlen, List.length_replicate]; omega)
  rw [hlen] at ho
  exact ⟨_, rfl, F, _, rfl, (Wk.refl hok).mut hg (fun g' e => .inr e), ho⟩
end Delete

theorem e_nil_eq {P : Program} {ρ : Env} {w : World} {t e : TypeId} {x y : Operand} {tY : TypeId} {A : Option Addr} {n c : Nat} (ht : SlOk P t e) (hx : ev ρ x = .slice A n c) (hy : ev ρ y = .slice none 0 0) : Ev P ρ w (.binOp .eql t x y tY) (.bool A.isNone) := by
  intro d ty pos after g
  have h := Go.Lib.run_eql_slice_nil (P := P) w t e A n c 0 0 ht
  simp only [execOp, hx, hy, Sem.run_bind]
  simp [eqGuard, h]
namespace CloneB
/-- bytes.Clone. -/
def f (xs : List UInt8) : Option (List UInt8) := if xs.length ≤ 140737488355328 then some xs else none
def post (w : World) (F : BSet) (r : List UInt8) (v : Value) (w' : World) : Prop := ∃ (F' : BSet) (v0' : Value), v = v0' ∧ Wk nrow w F F' w' ∧ OwnV kByte 5 (Nw w) F' w' v0' r
theorem calls {w : World} {F : BSet} (hok : ∀ b, F b → b < w.heap.size) {v0 : Value} {a0 : List UInt8} (h0 : SlR kByte F w v0 a0) {r : List UInt8} (hf : f a0 = some r) : Calls Try.prog 45 #[v0] w fun e w' => ∃ v, e = .returned v ∧ post w F r v w' := by
  obtain ⟨hl, hr⟩ := ite_some hf
  cases hr
  obtain ⟨A, c0, rfl, hc0, hR⟩ := id h0
  obtain ⟨c, hc, href⟩ : ∃ c, Try.f45.body = some c ∧ Ref Try.prog 8 c (fun (_ : Unit) ρ w1 => ρ 0 = .slice A a0.length c0 ∧ w1 = w) (seqM (regM fun s => some s) (seqM (seqM (regM fun s => some s) (condM (fun _ => A.isNone) (seqM (regM fun s => some s) (retM fun _ => ())) skipM)) (seqM (regM fun s => some s) (retM fun _ => ())))) (fun _ _ _ => False) (fun _ _ _ _ => False)
      (fun (_ : Unit) ρ w1 => Wk nrow w F F w1 ∧ OwnV kByte 5 (Nw w) F w1 (ρ 2) a0) := by
    refine ⟨_, rfl, ?_⟩
    refine Ref.seq (B := fun _ ρ w1 => ρ 0 = .slice A a0.length c0 ∧ w1 = w) ?_ (Ref.seq (B := fun _ ρ w1 => A.isNone = false ∧ ρ 0 = .slice A a0.length c0 ∧ w1 = w) (Ref.seq (B := fun _ ρ w1 => ρ 4 = .bool A.isNone ∧ ρ 0 = .slice A a0.length c0 ∧ w1 = w) ?_ (Ref.cond (b := fun _ => A.isNone) (fun s ρ w h => h.1) (Ref.seq (B := fun _ ρ w1 => Wk nrow w F F w1 ∧ OwnV kByte 5 (Nw w) F w1 (ρ 2) a0) ?_ (Ref.ret (fun s ρ w h => h))) (Ref.pre Ref.skip (fun s ρ w h => ⟨h.1, h.2.2⟩)))) (Ref.seq (B := fun _ ρ w1 => Wk nrow w F F w1 ∧ OwnV kByte 5 (Nw w) F w1 (ρ 2) a0) ?_ (Ref.ret (fun s ρ w h => h))))
    · refine Ref.region (fun s ρ w1 s' h hr => ?_)
      refine ol_v (e_as _ rfl) rfl ?_
      exact ol_nil ⟨h.1, h.2⟩
    · refine Ref.region (fun s ρ w1 s' h hr => ?_)
      refine ol_v (e_mv _ h.1) rfl ?_
      refine ol_v (e_nil_eq (SlT.sl sl_35) rfl rfl) rfl ?_
      exact ol_nil ⟨rfl, h.1, h.2⟩
    · refine Ref.region (fun s ρ w1 s' h hr => ?_)
      obtain ⟨hA, _, hρ, rfl⟩ := h
      refine ol_v (e_as _ rfl) rfl ?_
      refine ol_nil ⟨Wk.refl hok, ?_⟩
      have : a0 = [] := by
        rcases hR with h | ⟨b, o, rfl, _⟩
        · exact h
        · cases hA
      subst this
      exact OwnV.nil _ _ _ _ _
    · refine Ref.region (fun s ρ w1 s' h hr => ?_)
      obtain ⟨hA, hρ, rfl⟩ := h
      refine ol_e (f_bsl sl_35 (Wk.refl (row := nrow) hok) ([] : List UInt8) [] rfl rfl (Nat.le_of_ble_eq_true rfl) rfl) rfl rfl ?_
      rintro v1 w2 ⟨kw1, ho⟩
      refine ol_v (e_mv _ hρ) rfl ?_
      refine ol_e (f_app (bytes := 1) sl_35 kw1 (ho.rebase (fun g hg => .inl (ho.lt hg).1)) (h0.keep (kw1.stp hok)) (appL_of (by rw [List.length_nil]; omega)) rfl rfl) rfl rfl ?_
      rintro v2 w3 ⟨kw2, ho2, _⟩
      refine ol_v (e_as _ rfl) rfl ?_
      exact ol_nil ⟨kw2, ho2.rebase (fun g hg => (ho2.lt hg).1.resolve_right (fun h => h))⟩
  cases hA : A.isNone with
  | true =>
    refine calls_of_ref (args := [.slice A a0.length c0]) () Try.func45 hc rfl rfl href ⟨rfl, rfl⟩ (by simp [seqM, regM, condM, retM, hA]; rfl) ?_
    rintro ρ w' a ⟨hW, ho⟩ hF
    exact ⟨_, run_results (rs := [.tmp 2]) rfl hF (vs := [ρ 2]) ⟨_, rfl, rfl⟩, F, ρ 2, rfl, hW, ho⟩
  | false =>
    refine calls_of_ref (args := [.slice A a0.length c0]) () Try.func45 hc rfl rfl href ⟨rfl, rfl⟩ (by simp [seqM, regM, condM, retM, skipM, hA]; rfl) ?_
    rintro ρ w' a ⟨hW, ho⟩ hF
    exact ⟨_, run_results (rs := [.tmp 2]) rfl hF (vs := [ρ 2]) ⟨_, rfl, rfl⟩, F, ρ 2, rfl, hW, ho⟩
end CloneB
namespace CloneI
/-- slices.Clone. -/
def f (xs : List Int) : Option (List Int) := if xs.length ≤ 17592186044416 then some xs else none
def post (w : World) (F : BSet) (r : List Int) (v : Value) (w' : World) : Prop := ∃ (F' : BSet) (v0' : Value), v = v0' ∧ Wk nrow w F F' w' ∧ OwnV (kInt .i64) 3 (Nw w) F' w' v0' r
theorem calls {w : World} {F : BSet} (hok : ∀ b, F b → b < w.heap.size) {v0 : Value} {a0 : List Int} (h0 : SlR (kInt .i64) F w v0 a0) {r : List Int} (hf : f a0 = some r) : Calls Try.prog 32 #[v0] w fun e w' => ∃ v, e = .returned v ∧ post w F r v w' := by
  obtain ⟨hl, hr⟩ := ite_some hf
  cases hr
  obtain ⟨A, c0, rfl, hc0, hR⟩ := id h0
  obtain ⟨c, hc, href⟩ : ∃ c, Try.f32.body = some c ∧ Ref Try.prog 8 c (fun (_ : Unit) ρ w1 => ρ 0 = .slice A a0.length c0 ∧ w1 = w) (seqM (regM fun s => some s) (seqM (seqM (regM fun s => some s) (condM (fun _ => A.isNone) (seqM (regM fun s => some s) (retM fun _ => ())) skipM)) (seqM (regM fun s => some s) (retM fun _ => ())))) (fun _ _ _ => False) (fun _ _ _ _ => False)
      (fun (_ : Unit) ρ w1 => Wk nrow w F F w1 ∧ OwnV (kInt .i64) 3 (Nw w) F w1 (ρ 2) a0) := by
    refine ⟨_, rfl, ?_⟩
    refine Ref.seq (B := fun _ ρ w1 => ρ 0 = .slice A a0.length c0 ∧ w1 = w) ?_ (Ref.seq (B := fun _ ρ w1 => A.isNone = false ∧ ρ 0 = .slice A a0.length c0 ∧ w1 = w) (Ref.seq (B := fun _ ρ w1 => ρ 4 = .bool A.isNone ∧ ρ 0 = .slice A a0.length c0 ∧ w1 = w) ?_ (Ref.cond (b := fun _ => A.isNone) (fun s ρ w h => h.1) (Ref.seq (B := fun _ ρ w1 => Wk nrow w F F w1 ∧ OwnV (kInt .i64) 3 (Nw w) F w1 (ρ 2) a0) ?_ (Ref.ret (fun s ρ w h => h))) (Ref.pre Ref.skip (fun s ρ w h => ⟨h.1, h.2.2⟩)))) (Ref.seq (B := fun _ ρ w1 => Wk nrow w F F w1 ∧ OwnV (kInt .i64) 3 (Nw w) F w1 (ρ 2) a0) ?_ (Ref.ret (fun s ρ w h => h))))
    · refine Ref.region (fun s ρ w1 s' h hr => ?_)
      refine ol_v (e_as _ rfl) rfl ?_
      exact ol_nil ⟨h.1, h.2⟩
    · refine Ref.region (fun s ρ w1 s' h hr => ?_)
      refine ol_v (e_mv _ h.1) rfl ?_
      refine ol_v (e_nil_eq (SlT.sl sl_26) rfl rfl) rfl ?_
      exact ol_nil ⟨rfl, h.1, h.2⟩
    · refine Ref.region (fun s ρ w1 s' h hr => ?_)
      obtain ⟨hA, _, hρ, rfl⟩ := h
      refine ol_v (e_as _ rfl) rfl ?_
      refine ol_nil ⟨Wk.refl hok, ?_⟩
      have : a0 = [] := by
        rcases hR with h | ⟨b, o, rfl, _⟩
        · exact h
        · cases hA
      subst this
      exact OwnV.nil _ _ _ _ _
    · refine Ref.region (fun s ρ w1 s' h hr => ?_)
      obtain ⟨hA, hρ, rfl⟩ := h
      refine ol_e (f_bsl sl_26 (Wk.refl (row := nrow) hok) ([] : List Int) [] rfl rfl (Nat.le_of_ble_eq_true rfl) rfl) rfl rfl ?_
      rintro v1 w2 ⟨kw1, ho⟩
      refine ol_v (e_mv _ hρ) rfl ?_
      refine ol_e (f_app (bytes := 8) sl_26 kw1 (ho.rebase (fun g hg => .inl (ho.lt hg).1)) (h0.keep (kw1.stp hok)) (appL_of (by rw [List.length_nil]; omega)) rfl rfl) rfl rfl ?_
      rintro v2 w3 ⟨kw2, ho2, _⟩
      refine ol_v (e_as _ rfl) rfl ?_
      exact ol_nil ⟨kw2, ho2.rebase (fun g hg => (ho2.lt hg).1.resolve_right (fun h => h))⟩
  cases hA : A.isNone with
  | true =>
    refine calls_of_ref (args := [.slice A a0.length c0]) () Try.func32 hc rfl rfl href ⟨rfl, rfl⟩ (by simp [seqM, regM, condM, retM, hA]; rfl) ?_
    rintro ρ w' a ⟨hW, ho⟩ hF
    exact ⟨_, run_results (rs := [.tmp 2]) rfl hF (vs := [ρ 2]) ⟨_, rfl, rfl⟩, F, ρ 2, rfl, hW, ho⟩
  | false =>
    refine calls_of_ref (args := [.slice A a0.length c0]) () Try.func32 hc rfl rfl href ⟨rfl, rfl⟩ (by simp [seqM, regM, condM, retM, skipM, hA]; rfl) ?_
    rintro ρ w' a ⟨hW, ho⟩ hF
    exact ⟨_, run_results (rs := [.tmp 2]) rfl hF (vs := [ρ 2]) ⟨_, rfl, rfl⟩, F, ρ 2, rfl, hW, ho⟩
end CloneI
namespace Mul64
/-- bits.Mul64. -/
def f (x y : Int) : Option (Int × Int) := if 0 ≤ x ∧ x ≤ 18446744073709551615 ∧ 0 ≤ y ∧ y ≤ 18446744073709551615 then some (x * y / 18446744073709551616, x * y % 18446744073709551616) else none
def post (w : World) (F : BSet) (r : Int × Int) (v : Value) (w' : World) : Prop := ∃ (F' : BSet), v = .tuple #[.int .u64 r.1, .int .u64 r.2] ∧ Wk nrow w F F' w'
theorem calls {w : World} {F : BSet} (hok : ∀ b, F b → b < w.heap.size) (x y : Int) {r : Int × Int} (hf : f x y = some r) : Calls Try.prog 85 #[.int .u64 x, .int .u64 y] w fun e w' => ∃ v, e = .returned v ∧ post w F r v w' := by
  obtain ⟨⟨h1, h2, h3, h4⟩, hr⟩ := ite_some hf
  cases hr
  obtain ⟨a, rfl⟩ : ∃ a : Nat, x = a := ⟨x.toNat, by omega⟩
  obtain ⟨b, rfl⟩ : ∃ b : Nat, y = b := ⟨y.toNat, by omega⟩
  refine (show Calls Try.prog 85 _ w _ from Any.bits_Mul64 Try.layMul a b (by omega) (by omega) w).mono ?_
  rintro e w' ⟨rfl, rfl⟩
  refine ⟨_, rfl, F, ?_, Wk.refl hok⟩
  rw [Int.natCast_ediv, Int.natCast_emod, Int.natCast_mul]
  rfl
end Mul64
namespace Lead
/-- bits.LeadingZeros64. -/
def f (x : Int) : Option Int := if 0 ≤ x ∧ x ≤ 18446744073709551615 then some (64 - (Go.Lib.bitLen x.toNat : Int)) else none
def post (w : World) (F : BSet) (r : Int) (v : Value) (w' : World) : Prop := ∃ (F' : BSet), v = .int .i64 r ∧ Wk nrow w F F' w'
theorem calls {w : World} {F : BSet} (hok : ∀ b, F b → b < w.heap.size) (x : Int) {r : Int} (hf : f x = some r) : Calls Try.prog 89 #[.int .u64 x] w fun e w' => ∃ v, e = .returned v ∧ post w F r v w' := by
  obtain ⟨⟨h1, h2⟩, hr⟩ := ite_some hf
  cases hr
  refine (show Calls Try.prog 89 _ w _ from Any.bits_LeadingZeros64 Try.layLead x w h1 h2).mono ?_
  rintro e w' ⟨rfl, rfl⟩
  exact ⟨_, rfl, F, rfl, Wk.refl hok⟩
end Lead
namespace SortI
/-- slices.Sort at ints. -/
def f (xs : List Int) : Option (List Int) := if xs.length < 4611686018427387904 then some (xs.mergeSort fun x y => decide (x ≤ y)) else none
def post (v0 : Value) (w : World) (F : BSet) (r : List Int) (v : Value) (w' : World) : Prop := ∃ (F' : BSet), v = .tuple #[] ∧ Wk (ob v0.ownBlock) w F F' w' ∧ OwnV (kInt .i64) 3 (fun _ => True) F' w' v0 r
theorem calls {w : World} {F : BSet} (hok : ∀ b, F b → b < w.heap.size) {v0 : Value} {a0 : List Int} (h0 : OwnV (kInt .i64) 3 (fun _ => True) F w v0 a0) {r : List Int} (hf : f a0 = some r) : Calls Try.prog 35 #[v0] w fun e w' => ∃ v, e = .returned v ∧ post v0 w F r v w' := by
  obtain ⟨hl, hr⟩ := ite_some hf
  cases hr
  rcases h0 with ⟨rfl, rfl⟩ | ⟨g, o, cap, cur, cs, rfl, hB, hF, hh, ⟨hc, hcm⟩, hs, hcat, ht⟩
  · refine (Try.sort_nil w).mono ?_
    rintro e w' ⟨rfl, rfl⟩
    exact ⟨_, rfl, F, rfl, Wk.refl hok, by rw [List.mergeSort_nil]; exact OwnV.nil _ _ _ _ _⟩
  obtain rfl := cat_int hcat
  have hH := own_cell (F := F) hh ht
  have hg : g < w.heap.size := (Array.getElem?_eq_some_iff.1 hh).1
  have h := Any.slices_Sort_int Try.laySort g o cap a0 w hH hg hl
  refine (show Calls Try.prog 35 _ w _ from h).mono ?_
  rintro e w' ⟨rfl, q, os, rfl⟩
  have hlen : (a0.mergeSort fun x y => decide (x ≤ y)).length = a0.length := List.length_mergeSort _
  obtain ⟨hgr, ho⟩ := own_putRow (F := F) (B := fun _ => True) (q := q) (ys := a0.mergeSort fun x y => decide (x ≤ y)) (zs := []) trivial hF hh (by rw [hlen]; exact hc) hcm hs (by rw [List.append_nil, hlen]; exact hc)
  rw [List.append_nil, hlen] at ho
  rw [List.append_nil] at hgr
  have hm := (Wk.refl (row := ob (Value.slice (some ⟨g, o, none⟩) a0.length cap).ownBlock) hok).mut hgr (fun g' e => .inr e)
  have hgw : Wk nrow (Go.Sort.putRow (Value.int .i64) (Go.Sort.ahead w q) g o (a0.mergeSort fun x y => decide (x ≤ y)).toArray) F F (Go.Sort.grow (Go.Sort.putRow (Value.int .i64) (Go.Sort.ahead w q) g o (a0.mergeSort fun x y => decide (x ≤ y)).toArray) os) := by
    refine ⟨rfl, rfl, rfl, by rw [Go.Sort.size_grow]; omega, fun k hk _ => ?_, fun b hb => ?_, fun _ h => h, fun _ _ h => h⟩
    · show (_ ++ os)[k]? = _
      rw [Array.getElem?_append_left hk]
    · have := hm.ok b hb
      rw [Go.Sort.size_grow]; omega
  exact ⟨_, rfl, F, rfl, hm.trans hgw, ho.wk hgw hm.ok⟩
end SortI
end Go.Proofs.Ytenkbkcddcnmeaa
