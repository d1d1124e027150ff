/- The library's functions that seat D's trigram laws reach: slices.Clone at ints, slices.Sort and slices.Compact at strings, strings.Compare. -/
import Derived.Test.YtoiafcpnhhplnaaNm
import Derived.Test.YtoiafcpnhhplnaaFx9
import Derived.Shelf.Sort.Plain
import Derived.Shelf.Slices.CompactS
import Derived.Shelf.Small.Strs
import Derived.Shelf.Small.Bits
import Derived.Handy
import Derived.Lib.AppendZeros
import Derived.Lib.SliceRun
namespace Go.Proofs
open Go.Shelf Go.Lib Go.Sort Go.RowKit
def Try.laySort_ren : Go.Shelf.Ren := ⟨fun | 190 => 48 | 125 => 58 | 258 => 57 | 128 => 74 | 129 => 75 | 302 => 65 | 303 => 66 | 304 => 67 | 305 => 68 | 306 => 69 | 307 => 70 | 308 => 71 | 309 => 72 | 310 => 73 | 333 => 80 | 329 => 81 | 330 => 82 | 334 => 83 | 335 => 84 | 336 => 85 | 344 => 87 | n => n, fun | 31 => 22 | 9 => 9 | 3 => 3 | 46 => 80 | 0 => 0 | 51 => 91 | 53 => 93 | 4 => 4 | 183 => 85 | 182 => 84 | 131 => 63 | 5 => 5 | 218 => 95 | 222 => 99 | 228 => 103 | 229 => 104 | n => n, fun | n => n⟩
theorem Try.laySort : Go.Proofs.Lays.n190 Try.prog Try.laySort_ren := {
  mixed := by kernel_rfl,
  f125 := Try.func58.trans (congrArg some (by kernel_rfl)),
  f128 := Try.func74.trans (congrArg some (by kernel_rfl)),
  f129 := Try.func75.trans (congrArg some (by kernel_rfl)),
  f190 := Try.func48.trans (congrArg some (by kernel_rfl)),
  f258 := Try.func57.trans (congrArg some (by kernel_rfl)),
  f302 := Try.func65.trans (congrArg some (by kernel_rfl)),
  f303 := Try.func66.trans (congrArg some (by kernel_rfl)),
  f304 := Try.func67.trans (congrArg some (by kernel_rfl)),
  f305 := Try.func68.trans (congrArg some (by kernel_rfl)),
  f306 := Try.func69.trans (congrArg some (by kernel_rfl)),
  f307 := Try.func70.trans (congrArg some (by kernel_rfl)),
  f308 := Try.func71.trans (congrArg some (by kernel_rfl)),
  f309 := Try.func72.trans (congrArg some (by kernel_rfl)),
  f310 := Try.func73.trans (congrArg some (by kernel_rfl)),
  f329 := Try.func81.trans (congrArg some (by kernel_rfl)),
  f330 := Try.func82.trans (congrArg some (by kernel_rfl)),
  f333 := Try.func80.trans (congrArg some (by kernel_rfl)),
  f334 := Try.func83.trans (congrArg some (by kernel_rfl)),
  f335 := Try.func84.trans (congrArg some (by kernel_rfl)),
  f336 := Try.func85.trans (congrArg some (by kernel_rfl)),
  f344 := Try.func87.trans (congrArg some (by kernel_rfl)),
  t0 := Try.underlying0,
  a0 := Try.isAgg0,
  z0 := Try.sizeOf0,
  v0 := Try.zeroValue0,
  t3 := Try.underlying3,
  a3 := Try.isAgg3,
  z3 := Try.sizeOf3,
  v3 := Try.zeroValue3,
  t4 := Try.underlying4,
  a4 := Try.isAgg4,
  z4 := Try.sizeOf4,
  v4 := Try.zeroValue4,
  t5 := Try.underlying5,
  a5 := Try.isAgg5,
  z5 := Try.sizeOf5,
  v5 := Try.zeroValue5,
  t9 := Try.underlying9,
  a9 := Try.isAgg9,
  z9 := Try.sizeOf9,
  v9 := Try.zeroValue9,
  t31 := Try.underlying22,
  a31 := Try.isAgg22,
  z31 := Try.sizeOf22,
  v31 := Try.zeroValue22,
  t46 := Try.underlying80,
  a46 := Try.isAgg80,
  z46 := Try.sizeOf80,
  v46 := Try.zeroValue80,
  t51 := Try.underlying91,
  a51 := Try.isAgg91,
  z51 := Try.sizeOf91,
  v51 := Try.zeroValue91,
  t53 := Try.underlying93,
  a53 := Try.isAgg93,
  z53 := Try.sizeOf93,
  v53 := Try.zeroValue93,
  t131 := Try.underlying63,
  a131 := Try.isAgg63,
  z131 := Try.sizeOf63,
  v131 := Try.zeroValue63,
  t182 := Try.underlying84,
  a182 := Try.isAgg84,
  z182 := Try.sizeOf84,
  v182 := Try.zeroValue84,
  t183 := Try.underlying85,
  a183 := Try.isAgg85,
  z183 := Try.sizeOf85,
  v183 := Try.zeroValue85,
  t218 := Try.underlying95,
  a218 := Try.isAgg95,
  z218 := Try.sizeOf95,
  v218 := Try.zeroValue95,
  t222 := Try.underlying99,
  a222 := Try.isAgg99,
  z222 := Try.sizeOf99,
  v222 := Try.zeroValue99,
  t228 := Try.underlying103,
  a228 := Try.isAgg103,
  z228 := Try.sizeOf103,
  v228 := Try.zeroValue103,
  t229 := Try.underlying104,
  a229 := Try.isAgg104,
  z229 := Try.sizeOf104,
  v229 := Try.zeroValue104 }
def Try.layComp_ren : Go.Shelf.Ren := ⟨fun | 194 => 49 | n => n, fun | 31 => 22 | 9 => 9 | 3 => 3 | 4 => 4 | 0 => 0 | n => n, fun | n => n⟩
theorem Try.layComp : Go.Proofs.Lays.n194 Try.prog Try.layComp_ren := {
  mixed := by kernel_rfl,
  f194 := Try.func49.trans (congrArg some (by kernel_rfl)),
  t0 := Try.underlying0,
  a0 := Try.isAgg0,
  z0 := Try.sizeOf0,
  v0 := Try.zeroValue0,
  t3 := Try.underlying3,
  a3 := Try.isAgg3,
  z3 := Try.sizeOf3,
  v3 := Try.zeroValue3,
  t4 := Try.underlying4,
  a4 := Try.isAgg4,
  z4 := Try.sizeOf4,
  v4 := Try.zeroValue4,
  t9 := Try.underlying9,
  a9 := Try.isAgg9,
  z9 := Try.sizeOf9,
  v9 := Try.zeroValue9,
  t31 := Try.underlying22,
  a31 := Try.isAgg22,
  z31 := Try.sizeOf22,
  v31 := Try.zeroValue22 }
def Try.layCmp_ren : Go.Shelf.Ren := ⟨fun | 106 => 52 | 213 => 59 | 265 => 76 | n => n, fun | 9 => 9 | 3 => 3 | n => n, fun | n => n⟩
theorem Try.layCmp : Go.Proofs.Lays.n106 Try.prog Try.layCmp_ren := {
  mixed := by kernel_rfl,
  f106 := Try.func52.trans (congrArg some (by kernel_rfl)),
  f213 := Try.func59.trans (congrArg some (by kernel_rfl)),
  f265 := Try.func76.trans (congrArg some (by kernel_rfl)),
  t3 := Try.underlying3,
  a3 := Try.isAgg3,
  z3 := Try.sizeOf3,
  v3 := Try.zeroValue3,
  t9 := Try.underlying9,
  a9 := Try.isAgg9,
  z9 := Try.sizeOf9,
  v9 := Try.zeroValue9 }
def Try.layLen_ren : Go.Shelf.Ren := ⟨fun | 125 => 58 | 128 => 74 | 129 => 75 | n => n, fun | 46 => 80 | 3 => 3 | 51 => 91 | 53 => 93 | 4 => 4 | 5 => 5 | 9 => 9 | n => n, fun | n => n⟩
theorem Try.layLen : Go.Proofs.Lays.n125 Try.prog Try.layLen_ren := {
  mixed := by kernel_rfl,
  f125 := Try.func58.trans (congrArg some (by kernel_rfl)),
  f128 := Try.func74.trans (congrArg some (by kernel_rfl)),
  f129 := Try.func75.trans (congrArg some (by kernel_rfl)),
  t3 := Try.underlying3,
  a3 := Try.isAgg3,
  z3 := Try.sizeOf3,
  v3 := Try.zeroValue3,
  t4 := Try.underlying4,
  a4 := Try.isAgg4,
  z4 := Try.sizeOf4,
  v4 := Try.zeroValue4,
  t5 := Try.underlying5,
  a5 := Try.isAgg5,
  z5 := Try.sizeOf5,
  v5 := Try.zeroValue5,
  t9 := Try.underlying9,
  a9 := Try.isAgg9,
  z9 := Try.sizeOf9,
  v9 := Try.zeroValue9,
  t46 := Try.underlying80,
  a46 := Try.isAgg80,
  z46 := Try.sizeOf80,
  v46 := Try.zeroValue80,
  t51 := Try.underlying91,
  a51 := Try.isAgg91,
  z51 := Try.sizeOf91,
  v51 := Try.zeroValue91,
  t53 := Try.underlying93,
  a53 := Try.isAgg93,
  z53 := Try.sizeOf93,
  v53 := Try.zeroValue93 }
set_option maxHeartbeats 2000000 in
set_option maxRecDepth 100000 in
theorem Try.ins_nil (w : World) : Calls Try.prog 65 #[.slice none 0 0, .int .i64 0, .int .i64 0] w fun e w' => e = .returned (.tuple #[]) ∧ w' = w := by
  go_enter Try.func65, Try.ntmps65
  go_wp2
  go_loopg [6] 0 (fun _ s6 wr => s6 = .int .i64 1 ∧ wr = w)
  case atStart => exact ⟨rfl, rfl⟩
  case round =>
    obtain ⟨rfl, rfl⟩ := hrel
    go_wp2
    go_returns
    exact ⟨rfl, rfl⟩
set_option maxHeartbeats 2000000 in
set_option maxRecDepth 100000 in
theorem Try.pdq_nil (w : World) (n : Int) : Calls Try.prog 57 #[.slice none 0 0, .int .i64 0, .int .i64 0, .int .i64 n] w fun e w' => e = .returned (.tuple #[]) ∧ w' = w := by
  go_enter Try.func57, Try.ntmps57
  go_wp2
  go_loopg [1, 2, 3, 8, 9] 0 (fun _ s1 s2 s3 s8 s9 wr => s1 = .int .i64 0 ∧ s2 = .int .i64 0 ∧ s3 = .int .i64 n ∧ s8 = .bool true ∧ s9 = .bool true ∧ wr = w)
  case atStart => exact ⟨rfl, rfl, rfl, rfl, rfl, rfl⟩
  case round =>
    obtain ⟨rfl, rfl, rfl, rfl, rfl, rfl⟩ := hrel
    go_wp2_with (go_at_call 65; refine (Try.ins_nil _).mono ?_; rintro e w' ⟨rfl, rfl⟩)
    go_returns
    exact ⟨rfl, rfl⟩
set_option maxHeartbeats 2000000 in
set_option maxRecDepth 100000 in
theorem Try.sort_nil (w : World) : Calls Try.prog 48 #[.slice none 0 0] w fun e w' => e = .returned (.tuple #[]) ∧ w' = w := by
  have hn := Any.bits_Len Try.layLen 0 w (by omega) (by omega)
  go_enter Try.func48, Try.ntmps48
  go_wp2_with (first | (go_at_call 58; refine hn.mono ?_; rintro e w' ⟨rfl, rfl⟩) | (go_at_call 57; refine (Try.pdq_nil _ _).mono ?_; rintro e w' ⟨rfl, rfl⟩))
  go_returns
  exact ⟨rfl, rfl⟩
end Go.Proofs
namespace Go.Fx
/-- The bytes of a string, as a list. -/
def bl (s : ByteArray) : List UInt8 := s.data.toList
def ofL (l : List UInt8) : ByteArray := ⟨l.toArray⟩
theorem ofL_bl (s : ByteArray) : ofL (bl s) = s := by simp [ofL, bl]
theorem bl_ofL (l : List UInt8) : bl (ofL l) = l := by simp [ofL, bl]
theorem map_ofL_bl (l : List ByteArray) : (l.map bl).map ofL = l := by rw [List.map_map]; simp [Function.comp_def, ofL_bl]
end Go.Fx
namespace Go.Proofs.Ytoiafcpnhhplnaa
open Go.Fx Go.RowKit
set_option linter.unusedVariables false
set_option linter.unusedSimpArgs false
set_option maxRecDepth 20000

section
open Go.Sort
theorem cat_str {F : BSet} {w : World} : ∀ {xs : List ByteArray} {cs : List Value}, Cat kStr F w xs cs → cs = (xs.map bl).map encStr
  | [], _, h => by rw [show _ = [] from h]; rfl
  | x :: xs, _, ⟨c, d, e, hc, hd⟩ => by subst e; rw [cat_str hd, show c = [Value.string x] from hc]; simp [encStr, bl]
theorem str_cat {F : BSet} {w : World} : ∀ (ls : List (List UInt8)), Cat kStr F w (ls.map ofL) (ls.map encStr)
  | [] => rfl
  | x :: xs => ⟨[encStr x], _, rfl, rfl, str_cat xs⟩
theorem own_cellS {F : BSet} {w : World} {g o e : Nat} {cur : Array Value} {xs : List (List UInt8)} (hh : w.heap[g]? = some (.cells cur e (0, 0))) (ht : (cur.toList.drop o).take (xs.map encStr).length = xs.map encStr) : Holds encStr w g o xs.toArray := by
  intro j hj
  have hj' : j < xs.length := by simpa using hj
  refine ⟨?_, by simp [World.frozen?, hh]⟩
  have hc : w.cell? ⟨g, o + j, none⟩ = cur[o + j]? := by simp [World.cell?, hh]
  have h1 : (xs.map encStr)[j]? = some (encStr xs[j]) := by simp [List.getElem?_map, hj']
  rw [← ht, List.getElem?_take, if_pos (by simpa using hj'), List.getElem?_drop, Array.getElem?_toList] at h1
  rw [hc, h1]
  simp [hj']
theorem own_putRowS {F : BSet} {w : World} {B : BSet} {g o e cap q : Nat} {cur : Array Value} {ys zs : List (List UInt8)} (hB : B g) (hF : ¬ F g) (hh : w.heap[g]? = some (.cells cur e (0, 0))) (hcap : ys.length ≤ cap) (hcm : cap ≤ 9223372036854775807) (hs : o + cap * 1 ≤ cur.size) (hz : (ys ++ zs).length ≤ cap) :
    let w' := putRow encStr (Sort.ahead w q) g o (ys ++ zs).toArray
    w.grownBy w' (some g) ∧ OwnV kStr e B F w' (.slice (some ⟨g, o, none⟩) ys.length cap) (ys.map ofL) := by
  intro w'
  have hw' : w'.heap = w.heap.modify g (onCells (putCells encStr o (ys ++ zs).toArray)) := rfl
  have hg : w'.heap[g]? = some (.cells (putCells encStr o (ys ++ zs).toArray cur) e (0, 0)) := by
    rw [hw', Array.getElem?_modify, if_pos rfl, hh]; rfl
  refine ⟨⟨rfl, rfl, rfl, by rw [hw']; simp, fun j hj hne => ?_⟩, .inr ⟨g, o, cap, _, ys.map encStr, by rw [List.length_map], hB, hF, hg, ⟨by rw [List.length_map]; exact hcap, hcm⟩, ?_, str_cat ys, ?_⟩⟩
  · rw [hw', Array.getElem?_modify, if_neg (fun e => hne (by rw [e]))]
  · show o + cap * 1 ≤ _
    simpa [putCells] using hs
  · rw [List.length_map]
    apply List.ext_getElem?
    intro j
    by_cases hj : j < ys.length
    · rw [List.getElem?_take, if_pos hj, List.getElem?_drop, Array.getElem?_toList, List.getElem?_map]
      have h2 : o + j < cur.size := by omega
      have h3 : o + j < o + (ys.length + zs.length) := by omega
      have hj2 : j < ys.length + zs.length := by omega
      simp [putCells, h2, h3, Array.getElem?_mapIdx, List.getElem?_append, hj, List.getElem_append]
    · rw [List.getElem?_take, if_neg hj, List.getElem?_map, List.getElem?_eq_none (by omega)]; rfl
theorem compact_len (zs : List (List UInt8)) : (Lib.compact zs).length ≤ zs.length := by
  unfold Lib.compact Lib.compactUpTo
  rw [List.length_map]
  exact Nat.le_trans (List.length_filter_le _ _) (by rw [List.length_range]; exact Nat.le_refl _)
end
theorem e_nil_eq {P : Program} {ρ : Env} {w : World} {t e : TypeId} {x y : Operand} {tY : TypeId} {A : Option Addr} {n c : Nat} (ht : SlOk P t e) (hx : ev ρ x = .slice A n c) (hy : ev ρ y = .slice none 0 0) : Ev P ρ w (.binOp .eql t x y tY) (.bool A.isNone) := by
  intro d ty pos after g
  have h := Go.Lib.run_eql_slice_nil (P := P) w t e A n c 0 0 ht
  simp only [execOp, hx, hy, Sem.run_bind]
  simp [eqGuard, h]
namespace CloneI
/-- slices.Clone. -/
def f (xs : List Int) : Option (List Int) := if xs.length ≤ 17592186044416 then some xs else none
def post (w : World) (F : BSet) (r : List Int) (v : Value) (w' : World) : Prop := ∃ (F' : BSet) (v0' : Value), v = v0' ∧ Wk nrow w F F' w' ∧ OwnV (kInt .i64) 3 (Nw w) F' w' v0' r
theorem calls {w : World} {F : BSet} (hok : ∀ b, F b → b < w.heap.size) {v0 : Value} {a0 : List Int} (h0 : SlR (kInt .i64) F w v0 a0) {r : List Int} (hf : f a0 = some r) : Calls Try.prog 35 #[v0] w fun e w' => ∃ v, e = .returned v ∧ post w F r v w' := by
  obtain ⟨hl, hr⟩ := ite_some hf
  cases hr
  obtain ⟨A, c0, rfl, hc0, hR⟩ := id h0
  obtain ⟨c, hc, href⟩ : ∃ c, Try.f35.body = some c ∧ Ref Try.prog 8 c (fun (_ : Unit) ρ w1 => ρ 0 = .slice A a0.length c0 ∧ w1 = w) (seqM (regM fun s => some s) (seqM (seqM (regM fun s => some s) (condM (fun _ => A.isNone) (seqM (regM fun s => some s) (retM fun _ => ())) skipM)) (seqM (regM fun s => some s) (retM fun _ => ())))) (fun _ _ _ => False) (fun _ _ _ _ => False)
      (fun (_ : Unit) ρ w1 => Wk nrow w F F w1 ∧ OwnV (kInt .i64) 3 (Nw w) F w1 (ρ 2) a0) := by
    refine ⟨_, rfl, ?_⟩
    refine Ref.seq (B := fun _ ρ w1 => ρ 0 = .slice A a0.length c0 ∧ w1 = w) ?_ (Ref.seq (B := fun _ ρ w1 => A.isNone = false ∧ ρ 0 = .slice A a0.length c0 ∧ w1 = w) (Ref.seq (B := fun _ ρ w1 => ρ 4 = .bool A.isNone ∧ ρ 0 = .slice A a0.length c0 ∧ w1 = w) ?_ (Ref.cond (b := fun _ => A.isNone) (fun s ρ w h => h.1) (Ref.seq (B := fun _ ρ w1 => Wk nrow w F F w1 ∧ OwnV (kInt .i64) 3 (Nw w) F w1 (ρ 2) a0) ?_ (Ref.ret (fun s ρ w h => h))) (Ref.pre Ref.skip (fun s ρ w h => ⟨h.1, h.2.2⟩)))) (Ref.seq (B := fun _ ρ w1 => Wk nrow w F F w1 ∧ OwnV (kInt .i64) 3 (Nw w) F w1 (ρ 2) a0) ?_ (Ref.ret (fun s ρ w h => h))))
    · refine Ref.region (fun s ρ w1 s' h hr => ?_)
      refine ol_v (e_as _ rfl) rfl ?_
      exact ol_nil ⟨h.1, h.2⟩
    · refine Ref.region (fun s ρ w1 s' h hr => ?_)
      refine ol_v (e_mv _ h.1) rfl ?_
      refine ol_v (e_nil_eq (SlT.sl sl_24) rfl rfl) rfl ?_
      exact ol_nil ⟨rfl, h.1, h.2⟩
    · refine Ref.region (fun s ρ w1 s' h hr => ?_)
      obtain ⟨hA, _, hρ, rfl⟩ := h
      refine ol_v (e_as _ rfl) rfl ?_
      refine ol_nil ⟨Wk.refl hok, ?_⟩
      have : a0 = [] := by
        rcases hR with h | ⟨b, o, rfl, _⟩
        · exact h
        · cases hA
      subst this
      exact OwnV.nil _ _ _ _ _
    · refine Ref.region (fun s ρ w1 s' h hr => ?_)
      obtain ⟨hA, hρ, rfl⟩ := h
      refine ol_e (f_bsl sl_24 (Wk.refl (row := nrow) hok) ([] : List Int) [] rfl rfl (Nat.le_of_ble_eq_true rfl) rfl) rfl rfl ?_
      rintro v1 w2 ⟨kw1, ho⟩
      refine ol_v (e_mv _ hρ) rfl ?_
      refine ol_e (f_app (bytes := 8) sl_24 kw1 (ho.rebase (fun g hg => .inl (ho.lt hg).1)) (h0.keep (kw1.stp hok)) (appL_of (by rw [List.length_nil]; omega)) rfl rfl) rfl rfl ?_
      rintro v2 w3 ⟨kw2, ho2, _⟩
      refine ol_v (e_as _ rfl) rfl ?_
      exact ol_nil ⟨kw2, ho2.rebase (fun g hg => (ho2.lt hg).1.resolve_right (fun h => h))⟩
  cases hA : A.isNone with
  | true =>
    refine calls_of_ref (args := [.slice A a0.length c0]) () Try.func35 hc rfl rfl href ⟨rfl, rfl⟩ (by simp [seqM, regM, condM, retM, hA]; rfl) ?_
    rintro ρ w' a ⟨hW, ho⟩ hF
    exact ⟨_, run_results (rs := [.tmp 2]) rfl hF (vs := [ρ 2]) ⟨_, rfl, rfl⟩, F, ρ 2, rfl, hW, ho⟩
  | false =>
    refine calls_of_ref (args := [.slice A a0.length c0]) () Try.func35 hc rfl rfl href ⟨rfl, rfl⟩ (by simp [seqM, regM, condM, retM, skipM, hA]; rfl) ?_
    rintro ρ w' a ⟨hW, ho⟩ hF
    exact ⟨_, run_results (rs := [.tmp 2]) rfl hF (vs := [ρ 2]) ⟨_, rfl, rfl⟩, F, ρ 2, rfl, hW, ho⟩
end CloneI

namespace SortS
/-- slices.Sort at strings. -/
def f (xs : List ByteArray) : Option (List ByteArray) := if xs.length < 4611686018427387904 then some (((xs.map bl).mergeSort fun x y => decide (x ≤ y)).map ofL) else none
def post (v0 : Value) (w : World) (F : BSet) (r : List ByteArray) (v : Value) (w' : World) : Prop := ∃ (F' : BSet), v = .tuple #[] ∧ Wk (ob v0.ownBlock) w F F' w' ∧ OwnV kStr 9 (fun _ => True) F' w' v0 r
theorem calls {w : World} {F : BSet} (hok : ∀ b, F b → b < w.heap.size) {v0 : Value} {a0 : List ByteArray} (h0 : OwnV kStr 9 (fun _ => True) F w v0 a0) {r : List ByteArray} (hf : f a0 = some r) : Calls Try.prog 48 #[v0] w fun e w' => ∃ v, e = .returned v ∧ post v0 w F r v w' := by
  obtain ⟨hl, hr⟩ := ite_some hf
  cases hr
  rcases h0 with ⟨rfl, rfl⟩ | ⟨g, o, cap, cur, cs, rfl, hB, hF, hh, ⟨hc, hcm⟩, hs, hcat, ht⟩
  · refine (Try.sort_nil w).mono ?_
    rintro e w' ⟨rfl, rfl⟩
    exact ⟨_, rfl, F, rfl, Wk.refl hok, by rw [List.map_nil, List.mergeSort_nil]; exact OwnV.nil _ _ _ _ _⟩
  obtain rfl := cat_str hcat
  have hH := own_cellS (F := F) hh ht
  have hg : g < w.heap.size := (Array.getElem?_eq_some_iff.1 hh).1
  have hl0 : (a0.map bl).length = a0.length := List.length_map _
  have h := Any.slices_Sort_string Try.laySort g o cap (a0.map bl) w hH hg (by rw [hl0]; exact hl)
  rw [hl0] at h
  refine (show Calls Try.prog 48 _ w _ from h).mono ?_
  rintro e w' ⟨rfl, q, os, rfl⟩
  have hlen : ((a0.map bl).mergeSort fun x y => decide (x ≤ y)).length = a0.length := by rw [List.length_mergeSort, hl0]
  obtain ⟨hgr, ho⟩ := own_putRowS (F := F) (B := fun _ => True) (q := q) (ys := (a0.map bl).mergeSort fun x y => decide (x ≤ y)) (zs := []) trivial hF hh (by rw [hlen]; exact hc) hcm hs (by rw [List.append_nil, hlen]; exact hc)
  rw [List.append_nil, hlen] at ho
  rw [List.append_nil] at hgr
  have hm := (Wk.refl (row := ob (Value.slice (some ⟨g, o, none⟩) a0.length cap).ownBlock) hok).mut hgr (fun g' e => .inr e)
  have hgw : Wk nrow (Go.Sort.putRow encStr (Go.Sort.ahead w q) g o ((a0.map bl).mergeSort fun x y => decide (x ≤ y)).toArray) F F (Go.Sort.grow (Go.Sort.putRow encStr (Go.Sort.ahead w q) g o ((a0.map bl).mergeSort fun x y => decide (x ≤ y)).toArray) os) := by
    refine ⟨rfl, rfl, rfl, by rw [Go.Sort.size_grow]; omega, fun k hk _ => ?_, fun b hb => ?_, fun _ h => h, fun _ _ h => h⟩
    · show (_ ++ os)[k]? = _
      rw [Array.getElem?_append_left hk]
    · have := hm.ok b hb
      rw [Go.Sort.size_grow]; omega
  exact ⟨_, rfl, F, rfl, hm.trans hgw, ho.wk hgw hm.ok⟩
end SortS
namespace CompactS
/-- slices.Compact at strings. -/
def f (xs : List ByteArray) : Option (List ByteArray) := if xs.length ≤ 9223372036854775807 then some ((Lib.compact (xs.map bl)).map ofL) else none
def post (v0 : Value) (w : World) (F : BSet) (r : List ByteArray) (v : Value) (w' : World) : Prop := ∃ (F' : BSet) (v0' : Value), v = v0' ∧ Wk (ob v0.ownBlock) w F F' w' ∧ OwnV kStr 9 (Bs w (ob v0.ownBlock)) F' w' v0' r
theorem calls {w : World} {F : BSet} (hok : ∀ b, F b → b < w.heap.size) {v0 : Value} {a0 : List ByteArray} (h0 : OwnV kStr 9 (fun _ => True) F w v0 a0) {r : List ByteArray} (hf : f a0 = some r) : Calls Try.prog 49 #[v0] w fun e w' => ∃ v, e = .returned v ∧ post v0 w F r v w' := by
  obtain ⟨hl, hr⟩ := ite_some hf
  cases hr
  rcases h0 with ⟨rfl, rfl⟩ | ⟨g, o, cap, cur, cs, rfl, hB, hF, hh, ⟨hc, hcm⟩, hs, hcat, ht⟩
  · refine (show Calls Try.prog 49 _ w _ from Any.slices_Compact_string_empty Try.layComp none 0 w).mono ?_
    rintro e w' ⟨rfl, rfl⟩
    exact ⟨_, rfl, F, _, rfl, Wk.refl hok, OwnV.nil _ _ _ _ _⟩
  obtain rfl := cat_str hcat
  have hH := own_cellS (F := F) hh ht
  have hl0 : (a0.map bl).length = a0.length := List.length_map _
  have h := Any.slices_Compact_string Try.layComp g o cap (a0.map bl) w hH (by rw [hl0]; exact hl) (by rw [hl0]; exact hc)
  rw [hl0] at h
  refine (show Calls Try.prog 49 _ w _ from h).mono ?_
  rintro e w' ⟨rfl, q, rfl⟩
  have hlen := compact_len (a0.map bl)
  rw [hl0] at hlen
  obtain ⟨hg, ho⟩ := own_putRowS (F := F) (B := Bs w (ob (Value.slice (some ⟨g, o, none⟩) a0.length cap).ownBlock)) (q := q) (ys := Lib.compact (a0.map bl)) (zs := List.replicate (a0.length - (Lib.compact (a0.map bl)).length) []) (.inr rfl) hF hh (by omega) hcm hs (by rw [List.length_append, List.length_replicate]; omega)
  exact ⟨_, rfl, F, _, rfl, (Wk.refl hok).mut hg (fun g' e => .inr e), ho⟩
end CompactS
namespace CompareS
/-- strings.Compare. -/
def f (a b : ByteArray) : Option Int := some (Lib.compareBytes (bl a) (bl b))
def post (w : World) (F : BSet) (r : Int) (v : Value) (w' : World) : Prop := ∃ (F' : BSet), v = .int .i64 r ∧ Wk nrow w F F' w'
theorem calls {w : World} {F : BSet} (hok : ∀ b, F b → b < w.heap.size) (a0 a1 : ByteArray) {r : Int} (hf : f a0 a1 = some r) : Calls Try.prog 52 #[.string a0, .string a1] w fun e w' => ∃ v, e = .returned v ∧ post w F r v w' := by
  cases hf
  refine (show Calls Try.prog 52 _ w _ from Any.strings_Compare Try.layCmp a0 a1 w).mono ?_
  rintro e w' ⟨rfl, rfl⟩
  exact ⟨_, rfl, F, rfl, Wk.refl hok⟩
end CompareS
end Go.Proofs.Ytoiafcpnhhplnaa
