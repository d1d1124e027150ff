/- The library's functions that the Gc laws reach. -/
import Derived.Test.YtenkbkcddcnmeaaDoorNm
import Derived.Test.YtenkbkcddcnmeaaDoorFx9
import Derived.Shelf.Sort.Plain
import Derived.Shelf.Slices.CompactI
import Derived.Shelf.Bits.Mul64
import Derived.Shelf.Small.Bits
import Derived.Shelf.Strings.Prefix
import Derived.Shelf.Strings.Shaped
import Derived.Handy
import Derived.Lib.AppendZeros
import Derived.Lib.SliceRun
import Derived.Test.YtenkbkcddcnmeaaDoorFx17
namespace Go.Proofs
open Go.Shelf Go.Lib Go.Sort Go.RowKit
def Tryd.layComp_ren : Go.Shelf.Ren := ⟨fun | 20 => 36 | n => n, fun | 22 => 30 | 3 => 3 | 4 => 4 | 0 => 0 | n => n, fun | n => n⟩
theorem Tryd.layComp : Go.Proofs.Lays2.n20 Tryd.prog Tryd.layComp_ren := {
  mixed := by kernel_rfl,
  f20 := Tryd.func36.trans (congrArg some (by kernel_rfl)),
  t0 := Tryd.underlying0,
  a0 := Tryd.isAgg0,
  z0 := Tryd.sizeOf0,
  v0 := Tryd.zeroValue0,
  t3 := Tryd.underlying3,
  a3 := Tryd.isAgg3,
  z3 := Tryd.sizeOf3,
  v3 := Tryd.zeroValue3,
  t4 := Tryd.underlying4,
  a4 := Tryd.isAgg4,
  z4 := Tryd.sizeOf4,
  v4 := Tryd.zeroValue4,
  t22 := Tryd.underlying30,
  a22 := Tryd.isAgg30,
  z22 := Tryd.sizeOf30,
  v22 := Tryd.zeroValue30,
  i3 := by kernel_rfl }
def Tryd.layMul_ren : Go.Shelf.Ren := ⟨fun | 264 => 103 | n => n, fun | 53 => 120 | 46 => 93 | n => n, fun | n => n⟩
theorem Tryd.layMul : Go.Proofs.Lays.n264 Tryd.prog Tryd.layMul_ren := {
  mixed := by kernel_rfl,
  f264 := Tryd.func103.trans (congrArg some (by kernel_rfl)),
  t46 := Tryd.underlying93,
  a46 := Tryd.isAgg93,
  z46 := Tryd.sizeOf93,
  v46 := Tryd.zeroValue93,
  t53 := Tryd.underlying120,
  a53 := Tryd.isAgg120,
  z53 := Tryd.sizeOf120,
  v53 := Tryd.zeroValue120 }
def Tryd.layLead_ren : Go.Shelf.Ren := ⟨fun | 134 => 110 | 129 => 82 | n => n, fun | 53 => 120 | 3 => 3 | 4 => 4 | 46 => 93 | 5 => 5 | 9 => 9 | n => n, fun | n => n⟩
theorem Tryd.layLead : Go.Proofs.Lays.n134 Tryd.prog Tryd.layLead_ren := {
  mixed := by kernel_rfl,
  f129 := Tryd.func82.trans (congrArg some (by kernel_rfl)),
  f134 := Tryd.func110.trans (congrArg some (by kernel_rfl)),
  t3 := Tryd.underlying3,
  a3 := Tryd.isAgg3,
  z3 := Tryd.sizeOf3,
  v3 := Tryd.zeroValue3,
  t4 := Tryd.underlying4,
  a4 := Tryd.isAgg4,
  z4 := Tryd.sizeOf4,
  v4 := Tryd.zeroValue4,
  t5 := Tryd.underlying5,
  a5 := Tryd.isAgg5,
  z5 := Tryd.sizeOf5,
  v5 := Tryd.zeroValue5,
  t9 := Tryd.underlying9,
  a9 := Tryd.isAgg9,
  z9 := Tryd.sizeOf9,
  v9 := Tryd.zeroValue9,
  t46 := Tryd.underlying93,
  a46 := Tryd.isAgg93,
  z46 := Tryd.sizeOf93,
  v46 := Tryd.zeroValue93,
  t53 := Tryd.underlying120,
  a53 := Tryd.isAgg120,
  z53 := Tryd.sizeOf120,
  v53 := Tryd.zeroValue120 }
def Tryd.layPre_ren : Go.Shelf.Ren := ⟨fun | 99 => 69 | 206 => 94 | n => n, fun | 9 => 9 | 4 => 4 | 3 => 3 | n => n, fun | n => n⟩
theorem Tryd.layPre : Go.Proofs.Lays.n99 Tryd.prog Tryd.layPre_ren := {
  mixed := by kernel_rfl,
  f99 := Tryd.func69.trans (congrArg some (by kernel_rfl)),
  f206 := Tryd.func94.trans (congrArg some (by kernel_rfl)),
  t3 := Tryd.underlying3,
  a3 := Tryd.isAgg3,
  z3 := Tryd.sizeOf3,
  v3 := Tryd.zeroValue3,
  t4 := Tryd.underlying4,
  a4 := Tryd.isAgg4,
  z4 := Tryd.sizeOf4,
  v4 := Tryd.zeroValue4,
  t9 := Tryd.underlying9,
  a9 := Tryd.isAgg9,
  z9 := Tryd.sizeOf9,
  v9 := Tryd.zeroValue9 }
def Tryd.laySuf_ren : Go.Shelf.Ren := ⟨fun | 100 => 66 | 207 => 92 | n => n, fun | 9 => 9 | 4 => 4 | 3 => 3 | n => n, fun | n => n⟩
theorem Tryd.laySuf : Go.Proofs.Lays.n100 Tryd.prog Tryd.laySuf_ren := {
  mixed := by kernel_rfl,
  f100 := Tryd.func66.trans (congrArg some (by kernel_rfl)),
  f207 := Tryd.func92.trans (congrArg some (by kernel_rfl)),
  t3 := Tryd.underlying3,
  a3 := Tryd.isAgg3,
  z3 := Tryd.sizeOf3,
  v3 := Tryd.zeroValue3,
  t4 := Tryd.underlying4,
  a4 := Tryd.isAgg4,
  z4 := Tryd.sizeOf4,
  v4 := Tryd.zeroValue4,
  t9 := Tryd.underlying9,
  a9 := Tryd.isAgg9,
  z9 := Tryd.sizeOf9,
  v9 := Tryd.zeroValue9 }
def Tryd.layIdx_ren : Go.Shelf.Ren := ⟨fun | 143 => 93 | 219 => 107 | 217 => 112 | 225 => 113 | 224 => 114 | 267 => 115 | 266 => 116 | 314 => 117 | n => n, fun | 9 => 9 | 3 => 3 | 4 => 4 | 5 => 5 | 46 => 93 | 146 => 153 | 51 => 118 | n => n, fun | 1 => 2 | n => n⟩
theorem Tryd.layIdx : Go.Proofs.Lays.n143 Tryd.prog Tryd.layIdx_ren := {
  mixed := by kernel_rfl,
  f143 := Tryd.func93.trans (congrArg some (by kernel_rfl)),
  f217 := Tryd.func112.trans (congrArg some (by kernel_rfl)),
  f219 := Tryd.func107.trans (congrArg some (by kernel_rfl)),
  f224 := Tryd.func114.trans (congrArg some (by kernel_rfl)),
  f225 := Tryd.func113.trans (congrArg some (by kernel_rfl)),
  f266 := Tryd.func116.trans (congrArg some (by kernel_rfl)),
  f267 := Tryd.func115.trans (congrArg some (by kernel_rfl)),
  f314 := Tryd.func117.trans (congrArg some (by kernel_rfl)),
  t3 := Tryd.underlying3,
  a3 := Tryd.isAgg3,
  z3 := Tryd.sizeOf3,
  v3 := Tryd.zeroValue3,
  t4 := Tryd.underlying4,
  a4 := Tryd.isAgg4,
  z4 := Tryd.sizeOf4,
  v4 := Tryd.zeroValue4,
  t5 := Tryd.underlying5,
  a5 := Tryd.isAgg5,
  z5 := Tryd.sizeOf5,
  v5 := Tryd.zeroValue5,
  t9 := Tryd.underlying9,
  a9 := Tryd.isAgg9,
  z9 := Tryd.sizeOf9,
  v9 := Tryd.zeroValue9,
  t46 := Tryd.underlying93,
  a46 := Tryd.isAgg93,
  z46 := Tryd.sizeOf93,
  v46 := Tryd.zeroValue93,
  t51 := Tryd.underlying118,
  a51 := Tryd.isAgg118,
  z51 := Tryd.sizeOf118,
  v51 := Tryd.zeroValue118,
  t146 := Tryd.underlying153,
  a146 := Tryd.isAgg153,
  z146 := Tryd.sizeOf153,
  v146 := Tryd.zeroValue153,
  g1 := by kernel_rfl }
def Tryd.layCon_ren : Go.Shelf.Ren := ⟨fun | 144 => 67 | 143 => 93 | 219 => 107 | 217 => 112 | 225 => 113 | 224 => 114 | 267 => 115 | 266 => 116 | 314 => 117 | n => n, fun | 9 => 9 | 4 => 4 | 3 => 3 | 5 => 5 | 46 => 93 | 146 => 153 | 51 => 118 | n => n, fun | 1 => 2 | n => n⟩
theorem Tryd.layCon : Go.Proofs.Lays.n144 Tryd.prog Tryd.layCon_ren := {
  mixed := by kernel_rfl,
  f143 := Tryd.func93.trans (congrArg some (by kernel_rfl)),
  f144 := Tryd.func67.trans (congrArg some (by kernel_rfl)),
  f217 := Tryd.func112.trans (congrArg some (by kernel_rfl)),
  f219 := Tryd.func107.trans (congrArg some (by kernel_rfl)),
  f224 := Tryd.func114.trans (congrArg some (by kernel_rfl)),
  f225 := Tryd.func113.trans (congrArg some (by kernel_rfl)),
  f266 := Tryd.func116.trans (congrArg some (by kernel_rfl)),
  f267 := Tryd.func115.trans (congrArg some (by kernel_rfl)),
  f314 := Tryd.func117.trans (congrArg some (by kernel_rfl)),
  t3 := Tryd.underlying3,
  a3 := Tryd.isAgg3,
  z3 := Tryd.sizeOf3,
  v3 := Tryd.zeroValue3,
  t4 := Tryd.underlying4,
  a4 := Tryd.isAgg4,
  z4 := Tryd.sizeOf4,
  v4 := Tryd.zeroValue4,
  t5 := Tryd.underlying5,
  a5 := Tryd.isAgg5,
  z5 := Tryd.sizeOf5,
  v5 := Tryd.zeroValue5,
  t9 := Tryd.underlying9,
  a9 := Tryd.isAgg9,
  z9 := Tryd.sizeOf9,
  v9 := Tryd.zeroValue9,
  t46 := Tryd.underlying93,
  a46 := Tryd.isAgg93,
  z46 := Tryd.sizeOf93,
  v46 := Tryd.zeroValue93,
  t51 := Tryd.underlying118,
  a51 := Tryd.isAgg118,
  z51 := Tryd.sizeOf118,
  v51 := Tryd.zeroValue118,
  t146 := Tryd.underlying153,
  a146 := Tryd.isAgg153,
  z146 := Tryd.sizeOf153,
  v146 := Tryd.zeroValue153,
  g1 := by kernel_rfl }
def Tryd.layConM_ren : Go.Shelf.Ren := ⟨fun | 144 => 67 | 143 => 93 | 219 => 107 | 217 => 112 | 225 => 113 | 224 => 114 | 267 => 115 | 266 => 116 | 314 => 117 | n => n, fun | 9 => 9 | 4 => 4 | 3 => 3 | 5 => 5 | 46 => 93 | 146 => 153 | 51 => 118 | n => n, fun | 1 => 2 | n => n⟩
theorem Tryd.layConM : Go.Proofs.LaysM.n144 Tryd.prog Tryd.layConM_ren := {
  mixed := by kernel_rfl,
  f143 := Tryd.func93.trans (congrArg some (by kernel_rfl)),
  f144 := Tryd.func67.trans (congrArg some (by kernel_rfl)),
  f217 := Tryd.func112.trans (congrArg some (by kernel_rfl)),
  f219 := Tryd.func107.trans (congrArg some (by kernel_rfl)),
  f224 := Tryd.func114.trans (congrArg some (by kernel_rfl)),
  f225 := Tryd.func113.trans (congrArg some (by kernel_rfl)),
  f266 := Tryd.func116.trans (congrArg some (by kernel_rfl)),
  f267 := Tryd.func115.trans (congrArg some (by kernel_rfl)),
  f314 := Tryd.func117.trans (congrArg some (by kernel_rfl)),
  t3 := Tryd.underlying3,
  a3 := Tryd.isAgg3,
  z3 := Tryd.sizeOf3,
  v3 := Tryd.zeroValue3,
  t4 := Tryd.underlying4,
  a4 := Tryd.isAgg4,
  z4 := Tryd.sizeOf4,
  v4 := Tryd.zeroValue4,
  t5 := Tryd.underlying5,
  a5 := Tryd.isAgg5,
  z5 := Tryd.sizeOf5,
  v5 := Tryd.zeroValue5,
  t9 := Tryd.underlying9,
  a9 := Tryd.isAgg9,
  z9 := Tryd.sizeOf9,
  v9 := Tryd.zeroValue9,
  t46 := Tryd.underlying93,
  a46 := Tryd.isAgg93,
  z46 := Tryd.sizeOf93,
  v46 := Tryd.zeroValue93,
  t51 := Tryd.underlying118,
  a51 := Tryd.isAgg118,
  z51 := Tryd.sizeOf118,
  v51 := Tryd.zeroValue118,
  t146 := Tryd.underlying153,
  a146 := Tryd.isAgg153,
  z146 := Tryd.sizeOf153,
  v146 := Tryd.zeroValue153,
  g1 := by kernel_rfl,
  i3 := by kernel_rfl,
  i4 := by kernel_rfl,
  i5 := by kernel_rfl,
  i9 := by kernel_rfl,
  i46 := by kernel_rfl,
  i51 := by kernel_rfl,
  i146 := by kernel_rfl,
  m1 := by kernel_rfl,
  s1_3 := fun w h => Go.Proofs.cell_of_shapedOpen_int (zero := #[.int .i64 0]) (t := 3) h (of_decide_eq_true (by kernel_rfl)) (by kernel_rfl) rfl (by kernel_rfl) (by kernel_rfl) Tryd.underlying3 }
end Go.Proofs
namespace Go.Proofs.YtenkbkcddcnmeaaDoor
open Go.Fx Go.RowKit
set_option linter.unusedVariables false
set_option linter.unusedSimpArgs false
set_option maxRecDepth 20000

section
open Go.Sort
theorem cat_int {i : IntKind} {F : BSet} {w : World} : ∀ {xs : List Int} {cs : List Value}, Cat (kInt i) F w xs cs → cs = xs.map (Value.int i)
  | [], _, h => by rw [show _ = [] from h]; rfl
  | x :: xs, _, ⟨c, d, e, hc, hd⟩ => by subst e; rw [cat_int hd, show c = [Value.int i x] from hc]; rfl
theorem int_cat {i : IntKind} {F : BSet} {w : World} : ∀ (xs : List Int), Cat (kInt i) F w xs (xs.map (Value.int i))
  | [] => rfl
  | x :: xs => ⟨[Value.int i x], _, rfl, rfl, int_cat xs⟩
theorem own_cell {F : BSet} {w : World} {g o e : Nat} {cur : Array Value} {xs : List Int} (hh : w.heap[g]? = some (.cells cur e (0, 0))) (ht : (cur.toList.drop o).take (xs.map (Value.int .i64)).length = xs.map (Value.int .i64)) : Holds (Value.int .i64) w g o xs.toArray := by
  intro j hj
  have hj' : j < xs.length := by simpa using hj
  refine ⟨?_, by simp [World.frozen?, hh]⟩
  have hc : w.cell? ⟨g, o + j, none⟩ = cur[o + j]? := by simp [World.cell?, hh]
  have h1 : (xs.map (Value.int .i64))[j]? = some (.int .i64 xs[j]) := by simp [List.getElem?_map, hj']
  rw [← ht, List.getElem?_take, if_pos (by simpa using hj'), List.getElem?_drop, Array.getElem?_toList] at h1
  rw [hc, h1]
  simp [hj']
/-- The world behind: that row's cells are written. -/
theorem own_putRow {F : BSet} {w : World} {B : BSet} {g o e cap q : Nat} {cur : Array Value} {ys zs : List Int} (hB : B g) (hF : ¬ F g) (hh : w.heap[g]? = some (.cells cur e (0, 0))) (hcap : ys.length ≤ cap) (hcm : cap ≤ 9223372036854775807) (hs : o + cap * 1 ≤ cur.size) (hz : (ys ++ zs).length ≤ cap) :
    let w' := putRow (Value.int .i64) (Sort.ahead w q) g o (ys ++ zs).toArray
    w.grownBy w' (some g) ∧ OwnV (kInt .i64) e B F w' (.slice (some ⟨g, o, none⟩) ys.length cap) ys := by
  intro w'
  have hw' : w'.heap = w.heap.modify g (onCells (putCells (Value.int .i64) o (ys ++ zs).toArray)) := rfl
  have hg : w'.heap[g]? = some (.cells (putCells (Value.int .i64) o (ys ++ zs).toArray cur) e (0, 0)) := by
    rw [hw', Array.getElem?_modify, if_pos rfl, hh]; rfl
  refine ⟨⟨rfl, rfl, rfl, by rw [hw']; simp, fun j hj hne => ?_⟩, .inr ⟨g, o, cap, _, ys.map (Value.int .i64), rfl, hB, hF, hg, ⟨hcap, hcm⟩, ?_, int_cat ys, ?_⟩⟩
  · rw [hw', Array.getElem?_modify, if_neg (fun e => hne (by rw [e]))]
  · show o + cap * 1 ≤ _
    simpa [putCells] using hs
  · rw [List.length_map]
    apply List.ext_getElem?
    intro j
    by_cases hj : j < ys.length
    · rw [List.getElem?_take, if_pos hj, List.getElem?_drop, Array.getElem?_toList, List.getElem?_map]
      have h2 : o + j < cur.size := by omega
      have h3 : o + j < o + (ys.length + zs.length) := by omega
      have hj2 : j < ys.length + zs.length := by omega
      simp [putCells, h2, h3, Array.getElem?_mapIdx, List.getElem?_append, hj, List.getElem_append]
    · rw [List.getElem?_take, if_neg hj, List.getElem?_map, List.getElem?_eq_none (by omega)]; rfl
end
theorem e_nil_eq {P : Program} {ρ : Env} {w : World} {t e : TypeId} {x y : Operand} {tY : TypeId} {A : Option Addr} {n c : Nat} (ht : SlOk P t e) (hx : ev ρ x = .slice A n c) (hy : ev ρ y = .slice none 0 0) : Ev P ρ w (.binOp .eql t x y tY) (.bool A.isNone) := by
  intro d ty pos after g
  have h := Go.Lib.run_eql_slice_nil (P := P) w t e A n c 0 0 ht
  simp only [execOp, hx, hy, Sem.run_bind]
  simp [eqGuard, h]
namespace CloneB
/-- bytes.Clone. -/
def f (xs : List UInt8) : Option (List UInt8) := if xs.length ≤ 140737488355328 then some xs else none
def post (w : World) (F : BSet) (r : List UInt8) (v : Value) (w' : World) : Prop := ∃ (F' : BSet) (v0' : Value), v = v0' ∧ Wk nrow w F F' w' ∧ OwnV kByte 5 (Nw w) F' w' v0' r
theorem calls {w : World} {F : BSet} (hok : ∀ b, F b → b < w.heap.size) {v0 : Value} {a0 : List UInt8} (h0 : SlR kByte F w v0 a0) {r : List UInt8} (hf : f a0 = some r) : Calls Tryd.prog 49 #[v0] w fun e w' => ∃ v, e = .returned v ∧ post w F r v w' := by
  obtain ⟨hl, hr⟩ := ite_some hf
  cases hr
  obtain ⟨A, c0, rfl, hc0, hR⟩ := id h0
  obtain ⟨c, hc, href⟩ : ∃ c, Tryd.f49.body = some c ∧ Ref Tryd.prog 8 c (fun (_ : Unit) ρ w1 => ρ 0 = .slice A a0.length c0 ∧ w1 = w) (seqM (regM fun s => some s) (seqM (seqM (regM fun s => some s) (condM (fun _ => A.isNone) (seqM (regM fun s => some s) (retM fun _ => ())) skipM)) (seqM (regM fun s => some s) (retM fun _ => ())))) (fun _ _ _ => False) (fun _ _ _ _ => False)
      (fun (_ : Unit) ρ w1 => Wk nrow w F F w1 ∧ OwnV kByte 5 (Nw w) F w1 (ρ 2) a0) := by
    refine ⟨_, rfl, ?_⟩
    refine Ref.seq (B := fun _ ρ w1 => ρ 0 = .slice A a0.length c0 ∧ w1 = w) ?_ (Ref.seq (B := fun _ ρ w1 => A.isNone = false ∧ ρ 0 = .slice A a0.length c0 ∧ w1 = w) (Ref.seq (B := fun _ ρ w1 => ρ 4 = .bool A.isNone ∧ ρ 0 = .slice A a0.length c0 ∧ w1 = w) ?_ (Ref.cond (b := fun _ => A.isNone) (fun s ρ w h => h.1) (Ref.seq (B := fun _ ρ w1 => Wk nrow w F F w1 ∧ OwnV kByte 5 (Nw w) F w1 (ρ 2) a0) ?_ (Ref.ret (fun s ρ w h => h))) (Ref.pre Ref.skip (fun s ρ w h => ⟨h.1, h.2.2⟩)))) (Ref.seq (B := fun _ ρ w1 => Wk nrow w F F w1 ∧ OwnV kByte 5 (Nw w) F w1 (ρ 2) a0) ?_ (Ref.ret (fun s ρ w h => h))))
    · refine Ref.region (fun s ρ w1 s' h hr => ?_)
      refine ol_v (e_as _ rfl) rfl ?_
      exact ol_nil ⟨h.1, h.2⟩
    · refine Ref.region (fun s ρ w1 s' h hr => ?_)
      refine ol_v (e_mv _ h.1) rfl ?_
      refine ol_v (e_nil_eq (SlT.sl sl_46) rfl rfl) rfl ?_
      exact ol_nil ⟨rfl, h.1, h.2⟩
    · refine Ref.region (fun s ρ w1 s' h hr => ?_)
      obtain ⟨hA, _, hρ, rfl⟩ := h
      refine ol_v (e_as _ rfl) rfl ?_
      refine ol_nil ⟨Wk.refl hok, ?_⟩
      have : a0 = [] := by
        rcases hR with h | ⟨b, o, rfl, _⟩
        · exact h
        · cases hA
      subst this
      exact OwnV.nil _ _ _ _ _
    · refine Ref.region (fun s ρ w1 s' h hr => ?_)
      obtain ⟨hA, hρ, rfl⟩ := h
      refine ol_e (f_bsl sl_46 (Wk.refl (row := nrow) hok) ([] : List UInt8) [] rfl rfl (Nat.le_of_ble_eq_true rfl) rfl) rfl rfl ?_
      rintro v1 w2 ⟨kw1, ho⟩
      refine ol_v (e_mv _ hρ) rfl ?_
      refine ol_e (f_app (bytes := 1) sl_46 kw1 (ho.rebase (fun g hg => .inl (ho.lt hg).1)) (h0.keep (kw1.stp hok)) (appL_of (by rw [List.length_nil]; omega)) rfl rfl) rfl rfl ?_
      rintro v2 w3 ⟨kw2, ho2, _⟩
      refine ol_v (e_as _ rfl) rfl ?_
      exact ol_nil ⟨kw2, ho2.rebase (fun g hg => (ho2.lt hg).1.resolve_right (fun h => h))⟩
  cases hA : A.isNone with
  | true =>
    refine calls_of_ref (args := [.slice A a0.length c0]) () Tryd.func49 hc rfl rfl href ⟨rfl, rfl⟩ (by simp [seqM, regM, condM, retM, hA]; rfl) ?_
    rintro ρ w' a ⟨hW, ho⟩ hF
    exact ⟨_, run_results (rs := [.tmp 2]) rfl hF (vs := [ρ 2]) ⟨_, rfl, rfl⟩, F, ρ 2, rfl, hW, ho⟩
  | false =>
    refine calls_of_ref (args := [.slice A a0.length c0]) () Tryd.func49 hc rfl rfl href ⟨rfl, rfl⟩ (by simp [seqM, regM, condM, retM, skipM, hA]; rfl) ?_
    rintro ρ w' a ⟨hW, ho⟩ hF
    exact ⟨_, run_results (rs := [.tmp 2]) rfl hF (vs := [ρ 2]) ⟨_, rfl, rfl⟩, F, ρ 2, rfl, hW, ho⟩
end CloneB
namespace CloneI
/-- slices.Clone. -/
def f (xs : List Int) : Option (List Int) := if xs.length ≤ 17592186044416 then some xs else none
def post (w : World) (F : BSet) (r : List Int) (v : Value) (w' : World) : Prop := ∃ (F' : BSet) (v0' : Value), v = v0' ∧ Wk nrow w F F' w' ∧ OwnV (kInt .i64) 3 (Nw w) F' w' v0' r
theorem calls {w : World} {F : BSet} (hok : ∀ b, F b → b < w.heap.size) {v0 : Value} {a0 : List Int} (h0 : SlR (kInt .i64) F w v0 a0) {r : List Int} (hf : f a0 = some r) : Calls Tryd.prog 48 #[v0] w fun e w' => ∃ v, e = .returned v ∧ post w F r v w' := by
  obtain ⟨hl, hr⟩ := ite_some hf
  cases hr
  obtain ⟨A, c0, rfl, hc0, hR⟩ := id h0
  obtain ⟨c, hc, href⟩ : ∃ c, Tryd.f48.body = some c ∧ Ref Tryd.prog 8 c (fun (_ : Unit) ρ w1 => ρ 0 = .slice A a0.length c0 ∧ w1 = w) (seqM (regM fun s => some s) (seqM (seqM (regM fun s => some s) (condM (fun _ => A.isNone) (seqM (regM fun s => some s) (retM fun _ => ())) skipM)) (seqM (regM fun s => some s) (retM fun _ => ())))) (fun _ _ _ => False) (fun _ _ _ _ => False)
      (fun (_ : Unit) ρ w1 => Wk nrow w F F w1 ∧ OwnV (kInt .i64) 3 (Nw w) F w1 (ρ 2) a0) := by
    refine ⟨_, rfl, ?_⟩
    refine Ref.seq (B := fun _ ρ w1 => ρ 0 = .slice A a0.length c0 ∧ w1 = w) ?_ (Ref.seq (B := fun _ ρ w1 => A.isNone = false ∧ ρ 0 = .slice A a0.length c0 ∧ w1 = w) (Ref.seq (B := fun _ ρ w1 => ρ 4 = .bool A.isNone ∧ ρ 0 = .slice A a0.length c0 ∧ w1 = w) ?_ (Ref.cond (b := fun _ => A.isNone) (fun s ρ w h => h.1) (Ref.seq (B := fun _ ρ w1 => Wk nrow w F F w1 ∧ OwnV (kInt .i64) 3 (Nw w) F w1 (ρ 2) a0) ?_ (Ref.ret (fun s ρ w h => h))) (Ref.pre Ref.skip (fun s ρ w h => ⟨h.1, h.2.2⟩)))) (Ref.seq (B := fun _ ρ w1 => Wk nrow w F F w1 ∧ OwnV (kInt .i64) 3 (Nw w) F w1 (ρ 2) a0) ?_ (Ref.ret (fun s ρ w h => h))))
    · refine Ref.region (fun s ρ w1 s' h hr => ?_)
      refine ol_v (e_as _ rfl) rfl ?_
      exact ol_nil ⟨h.1, h.2⟩
    · refine Ref.region (fun s ρ w1 s' h hr => ?_)
      refine ol_v (e_mv _ h.1) rfl ?_
      refine ol_v (e_nil_eq (SlT.sl sl_30) rfl rfl) rfl ?_
      exact ol_nil ⟨rfl, h.1, h.2⟩
    · refine Ref.region (fun s ρ w1 s' h hr => ?_)
      obtain ⟨hA, _, hρ, rfl⟩ := h
      refine ol_v (e_as _ rfl) rfl ?_
      refine ol_nil ⟨Wk.refl hok, ?_⟩
      have : a0 = [] := by
        rcases hR with h | ⟨b, o, rfl, _⟩
        · exact h
        · cases hA
      subst this
      exact OwnV.nil _ _ _ _ _
    · refine Ref.region (fun s ρ w1 s' h hr => ?_)
      obtain ⟨hA, hρ, rfl⟩ := h
      refine ol_e (f_bsl sl_30 (Wk.refl (row := nrow) hok) ([] : List Int) [] rfl rfl (Nat.le_of_ble_eq_true rfl) rfl) rfl rfl ?_
      rintro v1 w2 ⟨kw1, ho⟩
      refine ol_v (e_mv _ hρ) rfl ?_
      refine ol_e (f_app (bytes := 8) sl_30 kw1 (ho.rebase (fun g hg => .inl (ho.lt hg).1)) (h0.keep (kw1.stp hok)) (appL_of (by rw [List.length_nil]; omega)) rfl rfl) rfl rfl ?_
      rintro v2 w3 ⟨kw2, ho2, _⟩
      refine ol_v (e_as _ rfl) rfl ?_
      exact ol_nil ⟨kw2, ho2.rebase (fun g hg => (ho2.lt hg).1.resolve_right (fun h => h))⟩
  cases hA : A.isNone with
  | true =>
    refine calls_of_ref (args := [.slice A a0.length c0]) () Tryd.func48 hc rfl rfl href ⟨rfl, rfl⟩ (by simp [seqM, regM, condM, retM, hA]; rfl) ?_
    rintro ρ w' a ⟨hW, ho⟩ hF
    exact ⟨_, run_results (rs := [.tmp 2]) rfl hF (vs := [ρ 2]) ⟨_, rfl, rfl⟩, F, ρ 2, rfl, hW, ho⟩
  | false =>
    refine calls_of_ref (args := [.slice A a0.length c0]) () Tryd.func48 hc rfl rfl href ⟨rfl, rfl⟩ (by simp [seqM, regM, condM, retM, skipM, hA]; rfl) ?_
    rintro ρ w' a ⟨hW, ho⟩ hF
    exact ⟨_, run_results (rs := [.tmp 2]) rfl hF (vs := [ρ 2]) ⟨_, rfl, rfl⟩, F, ρ 2, rfl, hW, ho⟩
end CloneI
namespace Mul64
/-- bits.Mul64. -/
def f (x y : Int) : Option (Int × Int) := if 0 ≤ x ∧ x ≤ 18446744073709551615 ∧ 0 ≤ y ∧ y ≤ 18446744073709551615 then some (x * y / 18446744073709551616, x * y % 18446744073709551616) else none
def post (w : World) (F : BSet) (r : Int × Int) (v : Value) (w' : World) : Prop := ∃ (F' : BSet), v = .tuple #[.int .u64 r.1, .int .u64 r.2] ∧ Wk nrow w F F' w'
theorem calls {w : World} {F : BSet} (hok : ∀ b, F b → b < w.heap.size) (x y : Int) {r : Int × Int} (hf : f x y = some r) : Calls Tryd.prog 103 #[.int .u64 x, .int .u64 y] w fun e w' => ∃ v, e = .returned v ∧ post w F r v w' := by
  obtain ⟨⟨h1, h2, h3, h4⟩, hr⟩ := ite_some hf
  cases hr
  obtain ⟨a, rfl⟩ : ∃ a : Nat, x = a := ⟨x.toNat, by omega⟩
  obtain ⟨b, rfl⟩ : ∃ b : Nat, y = b := ⟨y.toNat, by omega⟩
  refine (show Calls Tryd.prog 103 _ w _ from Any.bits_Mul64 Tryd.layMul a b (by omega) (by omega) w).mono ?_
  rintro e w' ⟨rfl, rfl⟩
  refine ⟨_, rfl, F, ?_, Wk.refl hok⟩
  rw [Int.natCast_ediv, Int.natCast_emod, Int.natCast_mul]
  rfl
end Mul64
namespace Lead
/-- bits.LeadingZeros64. -/
def f (x : Int) : Option Int := if 0 ≤ x ∧ x ≤ 18446744073709551615 then some (64 - (Go.Lib.bitLen x.toNat : Int)) else none
def post (w : World) (F : BSet) (r : Int) (v : Value) (w' : World) : Prop := ∃ (F' : BSet), v = .int .i64 r ∧ Wk nrow w F F' w'
theorem calls {w : World} {F : BSet} (hok : ∀ b, F b → b < w.heap.size) (x : Int) {r : Int} (hf : f x = some r) : Calls Tryd.prog 110 #[.int .u64 x] w fun e w' => ∃ v, e = .returned v ∧ post w F r v w' := by
  obtain ⟨⟨h1, h2⟩, hr⟩ := ite_some hf
  cases hr
  refine (show Calls Tryd.prog 110 _ w _ from Any.bits_LeadingZeros64 Tryd.layLead x w h1 h2).mono ?_
  rintro e w' ⟨rfl, rfl⟩
  exact ⟨_, rfl, F, rfl, Wk.refl hok⟩
end Lead
namespace CompactI
/-- slices.Compact at ints. -/
def f (xs : List Int) : Option (List Int) := if xs.length ≤ 9223372036854775807 then some (Lib.compact xs) else none
def post (v0 : Value) (w : World) (F : BSet) (r : List Int) (v : Value) (w' : World) : Prop := ∃ (F' : BSet) (v0' : Value), v = v0' ∧ Wk (ob v0.ownBlock) w F F' w' ∧ OwnV (kInt .i64) 3 (Bs w (ob v0.ownBlock)) F' w' v0' r
theorem compact_len (zs : List Int) : (Lib.compact zs).length ≤ zs.length := by
  unfold Lib.compact Lib.compactUpTo
  rw [List.length_map]
  exact Nat.le_trans (List.length_filter_le _ _) (by rw [List.length_range]; exact Nat.le_refl _)
theorem calls {w : World} {F : BSet} (hok : ∀ b, F b → b < w.heap.size) {v0 : Value} {a0 : List Int} (h0 : OwnV (kInt .i64) 3 (fun _ => True) F w v0 a0) {r : List Int} (hf : f a0 = some r) : Calls Tryd.prog 36 #[v0] w fun e w' => ∃ v, e = .returned v ∧ post v0 w F r v w' := by
  obtain ⟨hl, hr⟩ := ite_some hf
  cases hr
  rcases h0 with ⟨rfl, rfl⟩ | ⟨g, o, cap, cur, cs, rfl, hB, hF, hh, ⟨hc, hcm⟩, hs, hcat, ht⟩
  · refine (show Calls Tryd.prog 36 _ w _ from Any.slices_Compact_int_empty Tryd.layComp none 0 w).mono ?_
    rintro e w' ⟨rfl, rfl⟩
    exact ⟨_, rfl, F, _, rfl, Wk.refl hok, OwnV.nil _ _ _ _ _⟩
  obtain rfl := cat_int hcat
  have hH := own_cell (F := F) hh ht
  have h := Any.slices_Compact_int Tryd.layComp g o cap a0 w hH hl hc
  refine (show Calls Tryd.prog 36 _ w _ from h).mono ?_
  rintro e w' ⟨rfl, q, rfl⟩
  have hlen := compact_len a0
  obtain ⟨hg, ho⟩ := own_putRow (F := F) (B := Bs w (ob (Value.slice (some ⟨g, o, none⟩) a0.length cap).ownBlock)) (q := q) (ys := Lib.compact a0) (zs := List.replicate (a0.length - (Lib.compact a0).length) 0) (.inr rfl) hF hh (by omega) hcm hs (by rw [List.length_append, List.length_replicate]; omega)
  exact ⟨_, rfl, F, _, rfl, (Wk.refl hok).mut hg (fun g' e => .inr e), ho⟩
end CompactI
namespace HasPrefixS
def f (a b : ByteArray) : Option Bool := some (Lib.hasPrefix (bytesOf a) (bytesOf b))
def post (w : World) (F : BSet) (r : Bool) (v : Value) (w' : World) : Prop := ∃ (F' : BSet), v = .bool r ∧ Wk nrow w F F' w'
theorem calls {w : World} {F : BSet} (hok : ∀ b, F b → b < w.heap.size) (a0 a1 : ByteArray) {r : Bool} (hf : f a0 a1 = some r) : Calls Tryd.prog 69 #[.string a0, .string a1] w fun e w' => ∃ v, e = .returned v ∧ post w F r v w' := by
  cases hf
  refine (show Calls Tryd.prog 69 _ w _ from Any.strings_HasPrefix Tryd.layPre a0 a1 w).mono ?_
  rintro e w' ⟨rfl, rfl⟩
  exact ⟨_, rfl, F, rfl, Wk.refl hok⟩
end HasPrefixS
namespace HasSuffixS
def f (a b : ByteArray) : Option Bool := if a.size ≤ 9223372036854775807 then some (Lib.hasSuffix (bytesOf a) (bytesOf b)) else none
def post (w : World) (F : BSet) (r : Bool) (v : Value) (w' : World) : Prop := ∃ (F' : BSet), v = .bool r ∧ Wk nrow w F F' w'
theorem calls {w : World} {F : BSet} (hok : ∀ b, F b → b < w.heap.size) (a0 a1 : ByteArray) {r : Bool} (hf : f a0 a1 = some r) : Calls Tryd.prog 66 #[.string a0, .string a1] w fun e w' => ∃ v, e = .returned v ∧ post w F r v w' := by
  obtain ⟨hl, hr⟩ := ite_some hf
  cases hr
  refine (show Calls Tryd.prog 66 _ w _ from Any.strings_HasSuffix Tryd.laySuf a0 a1 w hl).mono ?_
  rintro e w' ⟨rfl, rfl⟩
  exact ⟨_, rfl, F, rfl, Wk.refl hok⟩
end HasSuffixS
namespace ContainsS
def f (a b : ByteArray) : Option Bool := if a.size < 4294967281 then some (Lib.contains (bytesOf a) (bytesOf b)) else none
def post (w : World) (F : BSet) (r : Bool) (v : Value) (w' : World) : Prop := ∃ (F' : BSet), v = .bool r ∧ Wk nrow w F F' w'
theorem calls {w : World} {F : BSet} (hok : ∀ b, F b → b < w.heap.size) (hG : GL 2 F w) (a0 a1 : ByteArray) {r : Bool} (hf : f a0 a1 = some r) : Calls Tryd.prog 67 #[.string a0, .string a1] w fun e w' => ∃ v, e = .returned v ∧ post w F r v w' := by
  obtain ⟨hl, hr⟩ := ite_some hf
  cases hr
  obtain ⟨_, m, hm⟩ := hG
  refine (show Calls Tryd.prog 67 _ w _ from Any.strings_Contains Tryd.layCon a0 a1 m w hl hm).mono ?_
  rintro e w' ⟨rfl, rfl⟩
  exact ⟨_, rfl, F, rfl, Wk.refl hok⟩
end ContainsS
end Go.Proofs.YtenkbkcddcnmeaaDoor
