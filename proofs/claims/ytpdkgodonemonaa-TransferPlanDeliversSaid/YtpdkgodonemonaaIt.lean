/- The iterator slices.Chunk over bytes. -/
import Derived.Test.YtpdkgodonemonaaNm
import Derived.Test.YtpdkgodonemonaaFx9
namespace Go.Proofs.Ytpdkgodonemonaa
open Go.Fx Go.RowKit
set_option linter.unusedVariables false
set_option linter.unusedSimpArgs false

/-- The parts of n elements, the last one shorter. -/
def chunks (n : Nat) (xs : List UInt8) : List (List UInt8) := (List.range ((xs.length + n - 1) / n)).map fun j => (xs.drop (j * n)).take n
def relChunk (F : BSet) (w : World) (vs : List Value) (it : List UInt8) : Prop := ∃ v, vs = [v] ∧ SlR kByte F w v it
theorem fn_24 : FnOk Try.prog 24 := ⟨_, Try.func24, by kernel_rfl, by kernel_rfl⟩
theorem ty_22r : TyOk Try.prog 22 kRaw := ⟨by kernel_rfl, by kernel_rfl⟩
theorem ty_3i : TyOk Try.prog 3 (kInt .i64) := ⟨by kernel_rfl, by kernel_rfl⟩
theorem all2_of_get {α β : Type} {r : α → β → Prop} : ∀ {us : List α} {bs : List β}, us.length = bs.length → (∀ (i : Nat) (a : α) (b : β), us[i]? = some a → bs[i]? = some b → r a b) → All2 r us bs
  | [], [], _, _ => trivial
  | a :: us, b :: bs, hl, h => ⟨h 0 a b rfl rfl, all2_of_get (by simpa using hl) fun i x y hx hy => h (i + 1) x y (by simpa using hx) (by simpa using hy)⟩
theorem slr_part {F : BSet} {w : World} {A : Option Addr} {xs : List UInt8} (hR : Row kByte F w A xs) {lo hi : Nat} (h1 : lo ≤ hi) (h2 : hi ≤ xs.length) : SlR kByte F w (sliced A lo hi hi 1) ((xs.drop lo).take (hi - lo)) := by
  have hl : ((xs.drop lo).take (hi - lo)).length = hi - lo := by rw [List.length_take, List.length_drop]; omega
  refine ⟨_, hi - lo, by rw [hl]; rfl, by rw [hl]; omega, ?_⟩
  rcases Nat.eq_or_lt_of_le h1 with e | hlt
  · exact .inl (by rw [e, Nat.sub_self, List.take_zero])
  · rcases hR with rfl | ⟨b, o, rfl, hR⟩
    · simp at h2; omega
    · refine .inr ⟨b, o + lo * 1, ?_, fun i x hx => ?_⟩
      · rw [if_neg (by omega)]; simp [addr_add]
      · rw [List.getElem?_take] at hx
        split at hx
        · rw [List.getElem?_drop] at hx
          have := hR _ _ hx
          rwa [show kByte.sz = 1 from rfl, Nat.add_mul, ← Nat.add_assoc] at this
        · cases hx
/-- The j-th part begins at j n and ends here. -/
def cend (n len j : Nat) : Nat := j * n + min n (len - j * n)
def citems (n len : Nat) (A : Option Addr) : List (List Value) := (List.range ((len + n - 1) / n)).map fun j => [sliced A (j * n) (cend n len j) (cend n len j) 1]
theorem lt_chunks {n len j : Nat} (hn : 0 < n) : j < (len + n - 1) / n ↔ j * n < len := by
  rw [Nat.lt_div_iff_mul_lt hn]; omega
theorem all2_chunks {F : BSet} {w : World} {A : Option Addr} {xs : List UInt8} {n : Nat} (hn : 0 < n) (hR : Row kByte F w A xs) : All2 (relChunk F w) (citems n xs.length A) (chunks n xs) := by
  refine all2_of_get (by simp [citems, chunks]) fun i a b ha hb => ?_
  unfold citems at ha
  unfold chunks at hb
  rw [List.getElem?_map] at ha hb
  by_cases hi : i < (xs.length + n - 1) / n
  · rw [List.getElem?_range hi] at ha hb
    simp at ha hb
    subst ha; subst hb
    have hlt := (lt_chunks hn).1 hi
    refine ⟨_, rfl, ?_⟩
    have h := slr_part hR (lo := i * n) (hi := cend n xs.length i) (by unfold cend; omega) (by unfold cend; omega)
    have e : (xs.drop (i * n)).take (cend n xs.length i - i * n) = (xs.drop (i * n)).take n := by
      unfold cend
      rw [Nat.add_sub_cancel_left]
      by_cases h2 : n ≤ xs.length - i * n
      · rw [Nat.min_eq_left h2]
      · rw [Nat.min_eq_right (by omega), List.take_of_length_le (by rw [List.length_drop]; omega), List.take_of_length_le (by rw [List.length_drop]; omega)]
    rw [e] at h; exact h
  · rw [List.getElem?_eq_none (by simpa using hi)] at ha; cases ha

theorem e_sl3 {P : Program} {ρ : Env} {w : World} {t e : TypeId} {x a b c : Operand} {A : Option Addr} {l c0 : Nat} {lo hi mx : Int} (ht : SlOk P t e) (hs : (P.info? e).map (·.size) = some 1) (hx : ev ρ x = .slice A l c0) (ha : ev ρ a = .int .i64 lo) (hb : ev ρ b = .int .i64 hi) (hc : ev ρ c = .int .i64 mx)
    (h0 : 0 ≤ lo) (h1 : lo ≤ hi) (h2 : hi ≤ mx) (h3 : mx ≤ c0) : Ev P ρ w (.slice t x (some a) (some b) (some c)) (sliced A lo.toNat hi.toNat mx.toNat 1) := by
  have hu : P.underlying t = some (.slice (P.elem t)) := by rw [ht.elem]; exact ht
  intro d ty pos after g
  simp only [execOp, Option.map_some, Option.map_none, hx, ha, hb, hc, Sem.run_bind, run_sliceAt_slice (P := P) w t _ _ _ _ hu]
  rw [run_slice_lhm (P := P) w t A l c0 hu .i64 .i64 .i64 lo hi mx h0 h1 h2 h3, ht.elem, run_sizeOf' hs, Result.andThen_ok, Result.andThen_ok, Sem.run_pure]

theorem chunk_item (w : World) (F : BSet) {v : Value} {xs : List UInt8} {n : Nat} (hx : SlR kByte F w v xs) (hn0 : 0 < n) (hn : xs.length + n ≤ 4611686018427387904) {g g2 : Nat} (hg : F g) (hb : LiesV kRaw F w g 0 v v) (hg2 : F g2) (hb2 : LiesV (kInt .i64) F w g2 0 (.int .i64 n) n) :
    ∃ vss, IterOK Try.prog F w (.func (.func 24) #[] #[.pointer (some ⟨g, 0, none⟩), .pointer (some ⟨g2, 0, none⟩)]) vss ∧ All2 (relChunk F w) vss (chunks n xs) := by
  obtain ⟨A, c, rfl, hc, hR⟩ := hx
  refine ⟨citems n xs.length A, ⟨24, _, rfl, fun args w => ?_, ?_⟩, all2_chunks hn0 hR⟩
  · obtain ⟨fn, hfn, hname, hbody⟩ := fn_24.ok
    rw [callFunc, Sem.run_bind, run_program, Result.andThen_ok]
    simp only [hfn, hname, hbody, Bool.false_eq_true, if_false]
    rfl
  intro W hW l J hJ hDr hY h0
  have hld : ∀ W1, Stp F w F W1 → LiesV kRaw F W1 g 0 (.slice A xs.length c) (.slice A xs.length c) := fun W1 s => hb.same s (s.keep g hg)
  have hld2 : ∀ W1, Stp F w F W1 → LiesV (kInt .i64) F W1 g2 0 (.int .i64 n) n := fun W1 s => hb2.same s (s.keep g2 hg2)
  obtain ⟨len, hlen⟩ : ∃ len, len = xs.length := ⟨_, rfl⟩
  rw [← hlen] at hc hn hld
  refine callsIn_of_wp (F := Fence.wide) (n := 0) Try.func24 rfl trivial ?_
  have hF := Fr.start (#[Value.func (.yield l) #[] #[]] ++ #[Value.pointer (some ⟨g, 0, none⟩), Value.pointer (some ⟨g2, 0, none⟩)]) 31 (by simp)
  refine wpIn_seq ?_
  refine wp_reg (rd := none) (fun ρ w' => ρ 0 = .func (.yield l) #[] #[] ∧ ρ 1 = .pointer (some ⟨g, 0, none⟩) ∧ ρ 2 = .pointer (some ⟨g2, 0, none⟩) ∧ ρ 4 = .int .i64 0 ∧ w' = W) (by rfl) ?_ hF (by rintro ⟨a, w, ⟨u, hu⟩, _⟩; cases hu) ?_
  · refine ol_v (e_as _ rfl) rfl ?_
    exact ol_nil ⟨rfl, rfl, rfl, rfl, rfl⟩
  rintro ρ0 w0 a0 ⟨h0y, h0p, h0q, h0i, rfl⟩ hF0
  refine wpIn_block ?_
  refine wpIn_loop (fun a W1 => ∃ (ρ : Env) (j : Nat), Fr [] 31 a ρ ∧ ρ 0 = .func (.yield l) #[] #[] ∧ ρ 1 = .pointer (some ⟨g, 0, none⟩) ∧ ρ 2 = .pointer (some ⟨g2, 0, none⟩) ∧ ρ 4 = .int .i64 ((j * n : Nat) : Int) ∧ j ≤ (len + n - 1) / n ∧ J j W1)
    (fun a _ => match a.tmps.getD 4 undef with | .int _ i => (len + n : Int).toNat - i.toNat | _ => 0) ⟨ρ0, 0, hF0, h0y, h0p, h0q, by simpa using h0i, Nat.zero_le _, h0⟩ ?_
  rintro a W1 ⟨ρ, j, hFr, hy, hp, hq, hi, hj, hJj⟩
  have hs := hJ j W1 hJj
  have hjle : j * n ≤ len + n - 1 := Nat.le_trans (Nat.mul_le_mul_right n hj) (Nat.div_mul_le_self _ _)
  refine wpIn_seq (wpIn_seq ?_)
  refine wp_reg (rd := none) (fun ρ' w' => ρ' 0 = .func (.yield l) #[] #[] ∧ ρ' 1 = .pointer (some ⟨g, 0, none⟩) ∧ ρ' 2 = .pointer (some ⟨g2, 0, none⟩) ∧ ρ' 4 = .int .i64 ((j * n : Nat) : Int) ∧ ρ' 9 = .bool (decide (((j * n : Nat) : Int) < (len : Int))) ∧ w' = W1) (by rfl) ?_ hFr (by rintro ⟨a, w, ⟨u, hu⟩, _⟩; cases hu) ?_
  · refine ol_v (e_mv _ hi) rfl ?_
    refine ol_v (e_ld (k := kRaw) ty_22r (hld W1 hs) hp) rfl ?_
    refine ol_v (e_len (SlT.sl sl_22) rfl) rfl ?_
    refine ol_v (e_lss rfl rfl) rfl ?_
    exact ol_nil ⟨hy, hp, hq, hi, rfl, rfl⟩
  rintro ρ1 w1 a1 ⟨hy1, hp1, hq1, hi1, hb1, rfl⟩ hF1
  by_cases hjn : j * n < len
  rotate_left
  · have hd : decide (((j * n : Nat) : Int) < (len : Int)) = false := by rw [decide_eq_false_iff_not]; omega
    rw [hd] at hb1
    refine wpIn_cond_false (by rw [hF1.eval]; exact hb1) (wpIn_exit ?_)
    simp only [Exit.then, Exit.inBlock, if_true]
    refine ⟨hF1.defers, _, (by simp [results, Try.f24] : (results Try.f24 a1.tmps).run Try.prog w1 = .ok (.tuple #[]) w1), ⟨_, rfl⟩, ?_⟩
    have hje : j = (len + n - 1) / n := by
      rcases Nat.lt_or_ge j ((len + n - 1) / n) with h | h
      · exact absurd ((lt_chunks hn0).1 h) hjn
      · exact Nat.le_antisymm hj h
    have : (citems n xs.length A).length = j := by unfold citems; rw [List.length_map, List.length_range, ← hlen, hje]
    rw [this]; exact hJj
  have hd : decide (((j * n : Nat) : Int) < (len : Int)) = true := by rw [decide_eq_true_iff]; omega
  rw [hd] at hb1
  refine wpIn_cond_true (by rw [hF1.eval]; exact hb1) (wpIn_skip ?_)
  refine wpIn_seq (wpIn_block (wpIn_seq ?_))
  have hend : min (n : Int) (((len - j * n : Nat)) : Int) = ((min n (len - j * n) : Nat) : Int) := by omega
  refine wpIn_mono ((Ref.regionSR (σ := Unit) (τ := Unit) (rd := none) (n := 31) (r := fun s => some s) (A := fun _ ρ' w' => ρ' 0 = .func (.yield l) #[] #[] ∧ ρ' 1 = .pointer (some ⟨g, 0, none⟩) ∧ ρ' 2 = .pointer (some ⟨g2, 0, none⟩) ∧ ρ' 4 = .int .i64 ((j * n : Nat) : Int) ∧ Stp F w F w' ∧ J j w')
    (B := fun _ ρ' w' => ρ' 0 = .func (.yield l) #[] #[] ∧ ρ' 1 = .pointer (some ⟨g, 0, none⟩) ∧ ρ' 2 = .pointer (some ⟨g2, 0, none⟩) ∧ ρ' 4 = .int .i64 ((j * n : Nat) : Int) ∧ ρ' 5 = .int .i64 ((min n (len - j * n) : Nat) : Int) ∧ Stp F w F w' ∧ J j w') (X := fun _ _ _ _ => False) (R := fun _ _ _ => False)
    (by rfl) (by kernel_rfl) (by kernel_rfl) (fun _ ρ' w' ⟨e0, e1, e2, e4, hst, hj⟩ => ⟨e0, e1, e2, e4, hJ j _ (hDr j _ hj), hDr j _ hj⟩) (fun _ ρ' w' _ ⟨e0, e1, e2, e4, hst, hj⟩ _ => ?_)) [] _ () ρ1 w1 a1 ⟨hy1, hp1, hq1, hi1, hs, hJj⟩ hF1 _ rfl) ?_
  · refine ol_v (e_ld ty_3i (hld2 w' hst) e2) rfl ?_
    refine ol_v (e_ld (k := kRaw) ty_22r (hld w' hst) e1) rfl ?_
    refine ol_v (e_mv _ e4) rfl ?_
    have hcx : xs.length ≤ c := by omega
    refine ol_v (e_slL (A := A) (c0 := c) (xs := xs) (lo := ((j * n : Nat) : Int)) (SlT.sl sl_22) (SlT.sz sl_22) hcx (hlen ▸ rfl) rfl (show cutFrom xs ((j * n : Nat) : Int) = some (xs.drop (j * n)) by unfold cutFrom; rw [if_pos (by omega), Int.toNat_natCast])) rfl ?_
    refine ol_v (e_len (SlT.sl sl_22) rfl) rfl ?_
    refine ol_v (e_min rfl rfl) rfl ?_
    refine ol_v (e_as _ rfl) rfl ?_
    refine ol_nil ⟨e0, e1, e2, e4, ?_, hst, hj⟩
    show Value.int _ (min (n : Int) _) = _
    rw [← hend]
    congr 2
    rw [Int.toNat_natCast, ← hlen]
  rintro e a2 w2 ⟨ρ2, hF2, hq2⟩
  cases e <;> first | exact hq2.elim | skip
  obtain ⟨hy2, hp2, hq2, hi2, he2, hs2, hJ2⟩ := hq2
  have hcur : ((j * n : Nat) : Int) + ((min n (len - j * n) : Nat) : Int) = ((cend n len j : Nat) : Int) := by unfold cend; omega
  have hcl : cend n len j ≤ len := by unfold cend; omega
  have hw : w64 (((j * n : Nat) : Int) + ((min n (len - j * n) : Nat) : Int)) = ((cend n len j : Nat) : Int) := by rw [w64_id (by omega) (by omega), hcur]
  refine wpIn_seq ?_
  refine wpIn_region_lit (l := [_, _, _, _, _, _, _, _, _, _, _, _]) ?_
  refine ol_part (rd := none) (l1 := [_, _, _, _, _, _, _, _, _, _]) (l2 := [_, _]) (fun ρ' w' => ρ' 0 = .func (.yield l) #[] #[] ∧ ρ' 1 = .pointer (some ⟨g, 0, none⟩) ∧ ρ' 2 = .pointer (some ⟨g2, 0, none⟩) ∧ ρ' 4 = .int .i64 ((j * n : Nat) : Int) ∧ ρ' 19 = .func (.yield l) #[] #[] ∧ ρ' 28 = sliced A (j * n) (cend n len j) (cend n len j) 1 ∧ w' = w2) (by rfl) ?_ hF2 (by rintro ⟨a, w, ⟨u, hu⟩, _⟩; cases hu) ?_
  · refine ol_v (e_mv _ hy2) rfl ?_
    refine ol_v (e_ld (k := kRaw) ty_22r (hld w2 hs2) hp2) rfl ?_
    refine ol_v (e_mv _ hi2) rfl ?_
    refine ol_v (e_mv _ hi2) rfl ?_
    refine ol_v (e_mv _ he2) rfl ?_
    refine ol_v (e_add rfl rfl) rfl ?_
    refine ol_v (e_mv _ hi2) rfl ?_
    refine ol_v (e_mv _ he2) rfl ?_
    refine ol_v (e_add rfl rfl) rfl ?_
    refine ol_v (e_sl3 (lo := ((j * n : Nat) : Int)) (hi := ((cend n len j : Nat) : Int)) (mx := ((cend n len j : Nat) : Int)) (SlT.sl sl_22) (SlT.sz sl_22) rfl rfl (congrArg _ hw) (congrArg _ hw) (by omega) (by unfold cend; omega) (Int.le_refl _) (by omega)) rfl ?_
    exact ol_nil ⟨hy2, hp2, hq2, hi2, rfl, rfl, rfl⟩
  rintro ρ3 w3 a3 ⟨hy3, hp3, hq3, hi3, hyy, hvv, rfl⟩ hF3
  have hget : (citems n xs.length A)[j]? = some [sliced A (j * n) (cend n len j) (cend n len j) 1] := by
    unfold citems
    rw [List.getElem?_map, ← hlen, List.getElem?_range ((lt_chunks hn0).2 hjn)]; rfl
  refine in_yield (vs := [sliced A (j * n) (cend n len j) (cend n len j) 1]) hF3 hyy (by simp [ev, hvv]) (hY j _ w3 hget hJ2) ?_
  intro W2 hJ3
  have hF4 := hF3.put 29 (.bool true) rfl
  have hs3 := hJ (j + 1) W2 hJ3
  refine ol_part (rd := none) (l1 := [_]) (l2 := []) (fun ρ' w' => ρ' 0 = .func (.yield l) #[] #[] ∧ ρ' 1 = .pointer (some ⟨g, 0, none⟩) ∧ ρ' 2 = .pointer (some ⟨g2, 0, none⟩) ∧ ρ' 4 = .int .i64 ((j * n : Nat) : Int) ∧ ρ' 30 = .bool false ∧ w' = W2) (by rfl) ?_ hF4 (by rintro ⟨a, w, ⟨u, hu⟩, _⟩; cases hu) ?_
  · refine ol_v (e_not_ rfl) rfl ?_
    exact ol_nil ⟨hy3, hp3, hq3, hi3, rfl, rfl⟩
  rintro ρ4 w4 a4 ⟨hy4, hp4, hq4, hi4, hb4, rfl⟩ hF5
  refine wpListIn_nil ?_
  refine wpIn_cond_false (by rw [hF5.eval]; exact hb4) (wpIn_skip ?_)
  refine wp_reg (rd := none) (fun ρ' w' => ρ' 0 = .func (.yield l) #[] #[] ∧ ρ' 1 = .pointer (some ⟨g, 0, none⟩) ∧ ρ' 2 = .pointer (some ⟨g2, 0, none⟩) ∧ ρ' 4 = .int .i64 (((j + 1) * n : Nat) : Int) ∧ w' = w4) (by rfl) ?_ hF5 (by rintro ⟨a, w, ⟨u, hu⟩, _⟩; cases hu) ?_
  · refine ol_v (e_mv _ hi4) rfl ?_
    refine ol_v (e_ld ty_3i (hld2 w4 hs3) hq4) rfl ?_
    refine ol_v (e_add rfl rfl) rfl ?_
    refine ol_v (e_as _ rfl) rfl ?_
    refine ol_nil ⟨hy4, hp4, hq4, ?_, rfl⟩
    show Value.int _ (w64 _) = _
    rw [w64_id (by omega) (by omega), Nat.add_mul, Nat.one_mul]
    congr 1
  rintro ρ5 w5 a5 ⟨hy5, hp5, hq5, hi5, rfl⟩ hF6
  refine ⟨⟨ρ5, j + 1, hF6, hy5, hp5, hq5, hi5, (lt_chunks hn0).2 hjn, hJ3⟩, ?_⟩
  rw [hF6.get, hFr.get, hi5, hi]
  simp only
  rw [Nat.add_mul, Nat.one_mul]
  omega
/-- The iterator's value reads as these parts. -/
def ItChunk (F : BSet) (w : World) (v : Value) (its : List (List UInt8)) : Prop := ∃ vss, IterOK Try.prog F w v vss ∧ All2 (relChunk F w) vss its
theorem relChunk.keep {F F' : BSet} {w w' : World} {vs : List Value} {it : List UInt8} (h : relChunk F w vs it) (s : Stp F w F' w') : relChunk F' w' vs it := let ⟨v, e, hv⟩ := h; ⟨v, e, hv.keep s⟩
theorem relChunk.len {F : BSet} {w : World} {vs : List Value} {it : List UInt8} (h : relChunk F w vs it) : vs.length = 1 := by obtain ⟨v, rfl, _⟩ := h; rfl
theorem all2_mono {α β : Type} {r q : α → β → Prop} (h : ∀ a b, r a b → q a b) : ∀ {us : List α} {bs : List β}, All2 r us bs → All2 q us bs
  | [], [], _ => trivial
  | a :: us, b :: bs, hr => ⟨h a b hr.1, all2_mono h hr.2⟩
theorem ItChunk.keep {F F' : BSet} {w w' : World} {v : Value} {its : List (List UInt8)} (h : ItChunk F w v its) (s : Stp F w F' w') : ItChunk F' w' v its :=
  let ⟨vss, h1, h2⟩ := h; ⟨vss, h1.keep s, all2_mono (fun _ _ h => h.keep s) h2⟩

namespace Chunk
def f (xs : List UInt8) (n : Int) : Option (List (List UInt8)) := if 1 ≤ n ∧ xs.length + n ≤ 4611686018427387904 then some (chunks n.toNat xs) else none
def post (w : World) (F : BSet) (r : List (List UInt8)) (v : Value) (w' : World) : Prop := ∃ (F' : BSet) (v0' : Value), v = v0' ∧ Wk nrow w F F' w' ∧ ItChunk F' w' v0' r
theorem calls {w : World} {F : BSet} (hok : ∀ b, F b → b < w.heap.size) {v0 : Value} {a0 : List UInt8} (h0 : SlR kByte F w v0 a0) (a1 : Int) {r : List (List UInt8)} (hf : f a0 a1 = some r) : Calls Try.prog 19 #[v0, .int .i64 a1] w fun e w' => ∃ v, e = .returned v ∧ post w F r v w' := by
  obtain ⟨⟨hn1, hn⟩, rfl⟩ : (1 ≤ a1 ∧ a0.length + a1 ≤ 4611686018427387904) ∧ chunks a1.toNat a0 = r := by
    unfold f at hf
    split at hf
    · exact ⟨by assumption, Option.some.inj hf⟩
    · cases hf
  have h1 : v0.oneCell' = true := by obtain ⟨A, c, rfl, _⟩ := h0; rfl
  obtain ⟨c, hc, href⟩ : ∃ c, Try.f19.body = some c ∧ Ref Try.prog 9 c (fun (_ : Unit) ρ w1 => ρ 0 = v0 ∧ ρ 1 = .int .i64 a1 ∧ w1 = w) (seqM (regM fun s => some s) (seqM (seqM (regM fun s => some s) (condM (fun _ => false) (regM fun _ => none) skipM)) (seqM (regM fun s => some s) (retM fun _ => ())))) (fun _ _ _ => False) (fun _ _ _ _ => False)
      (fun (_ : Unit) ρ w1 => ∃ g g2, ρ 4 = .func (.func 24) #[] #[.pointer (some ⟨g, 0, none⟩), .pointer (some ⟨g2, 0, none⟩)] ∧ Wk nrow w F F w1 ∧ Box kRaw 22 (Nw w) F w1 g v0 ∧ Box (kInt .i64) 3 (Nw w) F w1 g2 a1) := by
    refine ⟨_, rfl, ?_⟩
    refine Ref.seq (B := fun _ ρ w1 => ∃ g g2, ρ 2 = .pointer (some ⟨g, 0, none⟩) ∧ ρ 3 = .pointer (some ⟨g2, 0, none⟩) ∧ Wk nrow w F F w1 ∧ Box kRaw 22 (Nw w) F w1 g v0 ∧ Box (kInt .i64) 3 (Nw w) F w1 g2 a1) ?_ (Ref.seq (B := fun _ ρ w1 => ∃ g g2, ρ 2 = .pointer (some ⟨g, 0, none⟩) ∧ ρ 3 = .pointer (some ⟨g2, 0, none⟩) ∧ Wk nrow w F F w1 ∧ Box kRaw 22 (Nw w) F w1 g v0 ∧ Box (kInt .i64) 3 (Nw w) F w1 g2 a1) ?_ (Ref.seq (B := fun (_ : Unit) ρ w1 => ∃ g g2, ρ 4 = .func (.func 24) #[] #[.pointer (some ⟨g, 0, none⟩), .pointer (some ⟨g2, 0, none⟩)] ∧ Wk nrow w F F w1 ∧ Box kRaw 22 (Nw w) F w1 g v0 ∧ Box (kInt .i64) 3 (Nw w) F w1 g2 a1) ?_ (Ref.ret (fun s ρ w h => h))))
    · refine Ref.region (fun s ρ w1 s' h hr => ?_)
      obtain ⟨hρ, hρ1, rfl⟩ := h
      refine ol_e (f_box (k := kRaw) (u := v0) (Wk.refl (row := nrow) hok) hρ ⟨[v0], ⟨rfl, h1⟩, rfl⟩) rfl rfl ?_
      rintro _ w2 ⟨g, rfl, kw1, hB⟩
      refine ol_e (f_box (k := kInt .i64) (u := a1) kw1 hρ1 (val_int _ _)) rfl rfl ?_
      rintro _ w3 ⟨g2, rfl, kw2, hB2⟩
      refine ol_v (e_as _ rfl) rfl ?_
      exact ol_nil ⟨g, g2, rfl, rfl, kw1.trans kw2, hB.wk kw2 kw1.ok, hB2.rebase (Nat.le_trans kw1.le hB2.ge)⟩
    · refine Ref.seq (B := fun _ ρ w1 => ∃ g g2, ρ 2 = .pointer (some ⟨g, 0, none⟩) ∧ ρ 3 = .pointer (some ⟨g2, 0, none⟩) ∧ ρ 6 = .bool false ∧ Wk nrow w F F w1 ∧ Box kRaw 22 (Nw w) F w1 g v0 ∧ Box (kInt .i64) 3 (Nw w) F w1 g2 a1) ?_ ?_
      · refine Ref.region (fun s ρ w1 s' h hr => ?_)
        obtain ⟨g, g2, hp, hq, hW, hB, hB2⟩ := h
        refine ol_v (e_ld ty_3i (LiesV.int hB2.at_) hq) rfl ?_
        refine ol_v (e_lss rfl rfl) rfl ?_
        refine ol_nil ⟨g, g2, hp, hq, ?_, hW, hB, hB2⟩
        show Value.bool (decide (a1 < 1)) = _
        rw [decide_eq_false (by omega)]
      · refine Ref.cond (b := fun _ => false) (fun s ρ w ⟨_, _, _, _, h, _⟩ => h) (Ref.region (fun s ρ w1 s' h hr => by cases hr)) (Ref.pre (A := fun _ ρ w1 => ∃ g g2, ρ 2 = .pointer (some ⟨g, 0, none⟩) ∧ ρ 3 = .pointer (some ⟨g2, 0, none⟩) ∧ Wk nrow w F F w1 ∧ Box kRaw 22 (Nw w) F w1 g v0 ∧ Box (kInt .i64) 3 (Nw w) F w1 g2 a1) Ref.skip (fun s ρ w h => let ⟨g, g2, hp, hq, _, hr⟩ := h.2; ⟨g, g2, hp, hq, hr⟩))
    · refine Ref.region (fun s ρ w1 s' h hr => ?_)
      obtain ⟨g, g2, hp, hq, hW, hB, hB2⟩ := h
      refine ol_v (v := .func (.func 24) #[] #[.pointer (some ⟨g, 0, none⟩), .pointer (some ⟨g2, 0, none⟩)]) (fun _ _ _ _ _ => by simp [execOp, ev, hp, hq, Instr.makeFunc]) rfl ?_
      refine ol_v (e_as _ rfl) rfl ?_
      exact ol_nil ⟨g, g2, rfl, hW, hB, hB2⟩
  refine calls_of_ref (args := [v0, .int .i64 a1]) () Try.func19 hc rfl rfl href ⟨rfl, rfl, rfl⟩ rfl ?_
  rintro ρ w' a ⟨g, g2, hρ, hW, hB, hB2⟩ hF
  have hlt := hB.lt
  have hlt2 := hB2.lt
  have hld : LiesV kRaw F w' g 0 v0 v0 := LiesV.raw hB.at_
  have hld2 : LiesV (kInt .i64) F w' g2 0 (.int .i64 a1) a1 := LiesV.int hB2.at_
  have hs1 : Stp F w' (fadd (fadd F g) g2) w' := (Stp.fadd _ _ _).trans (Stp.fadd _ _ _)
  have hs : Stp F w (fadd (fadd F g) g2) w' := (hW.stp hok).trans hs1
  have hcast : ((a1.toNat : Nat) : Int) = a1 := by omega
  obtain ⟨vss, hI, hA⟩ := chunk_item w' (fadd (fadd F g) g2) (n := a1.toNat) (h0.keep hs) (by omega) (by omega) (.inl (.inr rfl)) (hld.same hs1 rfl) (.inr rfl) (by rw [hcast]; exact hld2.same hs1 rfl)
  refine ⟨_, run_results (rs := [.tmp 4]) rfl hF (vs := [ρ 4]) ⟨_, rfl, rfl⟩, fadd (fadd F g) g2, ρ 4, rfl, ?_, ?_⟩
  · refine ⟨hW.os, hW.tape, hW.output, hW.le, hW.block, fun b hb => ?_, fun b hb => .inl (.inl hb), fun b hb hF => ?_⟩
    · rcases hb with (hb | rfl) | rfl
      · exact hW.ok b hb
      · exact hlt
      · exact hlt2
    · rcases hF with (hF | rfl) | rfl
      · exact hF
      · exact absurd (show w.heap.size ≤ b from hB.ge) (by omega)
      · exact absurd (show w.heap.size ≤ b from hB2.ge) (by omega)
  · rw [hρ]; exact ⟨vss, hI, hA⟩
end Chunk
end Go.Proofs.Ytpdkgodonemonaa
