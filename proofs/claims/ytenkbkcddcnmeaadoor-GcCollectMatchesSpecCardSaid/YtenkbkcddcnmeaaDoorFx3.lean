/- The operations, one rule each. -/
import Derived.Test.YtenkbkcddcnmeaaDoorFx2
namespace Go.Fx
open Go.RowKit
set_option linter.unusedVariables false
set_option linter.unusedSimpArgs false

def w64 (n : Int) : Int := IntKind.i64.wrap n
theorem w64_id {n : Int} (h0 : -9223372036854775808 ≤ n) (h1 : n ≤ 9223372036854775807) : w64 n = n := by
  unfold w64
  rw [IntKind.wrap_i64]
  omega

def idx {α : Type} (xs : List α) (i : Int) : Option α := if 0 ≤ i then xs[i.toNat]? else none
theorem idx_some {α : Type} {xs : List α} {i : Int} {x : α} (h : idx xs i = some x) : 0 ≤ i ∧ i.toNat < xs.length ∧ xs[i.toNat]? = some x := by
  unfold idx at h
  split at h
  · exact ⟨by assumption, (List.getElem?_eq_some_iff.1 h).1, h⟩
  · cases h
theorem idx_nat {α : Type} (xs : List α) (i : Nat) : idx xs (i : Int) = xs[i]? := by simp [idx]
theorem idx_of_lt {α : Type} {xs : List α} {i : Nat} (h : i < xs.length) : idx xs (i : Int) = some xs[i] := by rw [idx_nat]; exact List.getElem?_eq_getElem h
def idxB (s : ByteArray) (i : Int) : Option UInt8 := if 0 ≤ i then s[i.toNat]? else none

def LiesAt {α : Type} (k : Kd α) (F : BSet) (w : World) (b o : Nat) (x : α) : Prop := ∃ cs, k.rep F w x cs ∧ ∀ j, j < k.sz → w.cell? ⟨b, o + j, none⟩ = cs[j]?
theorem Lies.at_ {α : Type} {k : Kd α} {F : BSet} {w : World} {b o : Nat} {x : α} (h : Lies k F w b o x) : LiesAt k F w b o x := h.2
theorem LiesAt.fld {α β : Type} {k : Kd α} {l : Kd β} {off : Nat} {p : α → β} {F : BSet} {w : World} {b o : Nat} {x : α} (h : LiesAt k F w b o x) (f : Fld k off l p) : LiesAt l F w b (o + off) (p x) := by
  obtain ⟨cs, hr, hc⟩ := h
  refine ⟨_, f.2 hr, fun j hj => ?_⟩
  have h1 := hc (off + j) (by have := f.1; omega)
  rw [Nat.add_assoc, h1, List.getElem?_take, if_pos hj, List.getElem?_drop]

section
variable {P : Program} {ρ : Env} {w : World}

/-! #### numbers -/
section
variable {x y : Operand} {tx tY : TypeId} {k : IntKind} {a b : Int}
theorem e_add (hx : ev ρ x = .int k a) (hy : ev ρ y = .int k b) : Ev P ρ w (.binOp .add tx x y tY) (.int k (k.wrap (a + b))) := fun _ _ _ _ _ => by simp [execOp, hx, hy, eqGuard, binOp, Op.intArith]
theorem e_sub (hx : ev ρ x = .int k a) (hy : ev ρ y = .int k b) : Ev P ρ w (.binOp .sub tx x y tY) (.int k (k.wrap (a - b))) := fun _ _ _ _ _ => by simp [execOp, hx, hy, eqGuard, binOp, Op.intArith]
theorem e_mul (hx : ev ρ x = .int k a) (hy : ev ρ y = .int k b) : Ev P ρ w (.binOp .mul tx x y tY) (.int k (k.wrap (a * b))) := fun _ _ _ _ _ => by simp [execOp, hx, hy, eqGuard, binOp, Op.intArith]
theorem e_quo (hx : ev ρ x = .int k a) (hy : ev ρ y = .int k b) (hb : b ≠ 0) : Ev P ρ w (.binOp .quo tx x y tY) (.int k (k.wrap (a.tdiv b))) := fun _ _ _ _ _ => by simp [execOp, hx, hy, eqGuard, binOp, Op.intDiv, hb]
theorem e_rem (hx : ev ρ x = .int k a) (hy : ev ρ y = .int k b) (hb : b ≠ 0) : Ev P ρ w (.binOp .rem tx x y tY) (.int k (a.tmod b)) := fun _ _ _ _ _ => by simp [execOp, hx, hy, eqGuard, binOp, Op.intDiv, hb]
theorem e_lss (hx : ev ρ x = .int k a) (hy : ev ρ y = .int k b) : Ev P ρ w (.binOp .lss tx x y tY) (.bool (decide (a < b))) := fun _ _ _ _ _ => by simp [execOp, hx, hy, eqGuard, binOp, Op.intCmp]
theorem e_leq (hx : ev ρ x = .int k a) (hy : ev ρ y = .int k b) : Ev P ρ w (.binOp .leq tx x y tY) (.bool (decide (a ≤ b))) := fun _ _ _ _ _ => by simp [execOp, hx, hy, eqGuard, binOp, Op.intCmp]
theorem e_gtr (hx : ev ρ x = .int k a) (hy : ev ρ y = .int k b) : Ev P ρ w (.binOp .gtr tx x y tY) (.bool (decide (b < a))) := fun _ _ _ _ _ => by simp [execOp, hx, hy, eqGuard, binOp, Op.intCmp]
theorem e_geq (hx : ev ρ x = .int k a) (hy : ev ρ y = .int k b) : Ev P ρ w (.binOp .geq tx x y tY) (.bool (decide (b ≤ a))) := fun _ _ _ _ _ => by simp [execOp, hx, hy, eqGuard, binOp, Op.intCmp]
theorem e_eql (hx : ev ρ x = .int k a) (hy : ev ρ y = .int k b) : Ev P ρ w (.binOp .eql tx x y tY) (.bool (decide (a = b))) := fun _ _ _ _ _ => by simp [execOp, hx, hy, eqGuard, binOp, Op.intCmp]; rfl
theorem e_neq (hx : ev ρ x = .int k a) (hy : ev ρ y = .int k b) : Ev P ρ w (.binOp .neq tx x y tY) (.bool (!decide (a = b))) := fun _ _ _ _ _ => by simp [execOp, hx, hy, eqGuard, binOp, Op.intCmp]; rfl
def andV (k : IntKind) (x y : Int) : Int := k.wrap (((BitVec.ofInt k.bits x) &&& (BitVec.ofInt k.bits y)).toNat : Int)
def orV (k : IntKind) (x y : Int) : Int := k.wrap (((BitVec.ofInt k.bits x) ||| (BitVec.ofInt k.bits y)).toNat : Int)
theorem e_andV (hx : ev ρ x = .int k a) (hy : ev ρ y = .int k b) : Ev P ρ w (.binOp .and tx x y tY) (.int k (andV k a b)) := fun _ _ _ _ _ => by simp [execOp, hx, hy, eqGuard, binOp, Op.intBits, andV]
theorem e_orV (hx : ev ρ x = .int k a) (hy : ev ρ y = .int k b) : Ev P ρ w (.binOp .or tx x y tY) (.int k (orV k a b)) := fun _ _ _ _ _ => by simp [execOp, hx, hy, eqGuard, binOp, Op.intBits, orV]
def toByte (a : Int) : UInt8 := UInt8.ofNat (a % 256).toNat
theorem toByte_int (a : Int) : ((toByte a).toNat : Int) = IntKind.u8.wrap a := by
  rw [IntKind.wrap_u8]
  unfold toByte
  have h : (a % 256).toNat < 256 := by omega
  rw [UInt8.toNat_ofNat_of_lt' h]
  omega
theorem e_convB {s t : TypeId} (hs : (P.underlying s).isSome = true) (ht : P.underlying t = some (.int .u8)) {j : IntKind} (hx : ev ρ x = .int j a) : Ev P ρ w (.convert s t x) (.int .u8 ((toByte a).toNat : Int)) := by
  rw [toByte_int]
  intro d ty pos after g
  cases hu : P.underlying s with
  | none => rw [hu] at hs; cases hs
  | some u => simp [execOp, hx, convert, run_underlying hu, run_underlying ht, Conv.intToInt]
theorem e_conv {s t : TypeId} (hs : (P.underlying s).isSome = true) (ht : P.underlying t = some (.int k)) {j : IntKind} (hx : ev ρ x = .int j a) : Ev P ρ w (.convert s t x) (.int k (k.wrap a)) := by
  intro d ty pos after g
  cases hu : P.underlying s with
  | none => rw [hu] at hs; cases hs
  | some u => simp [execOp, hx, convert, run_underlying hu, run_underlying ht, Conv.intToInt]
end

/-! #### truth -/
theorem e_not_ {x : Operand} {tx : TypeId} {b : Bool} (hx : ev ρ x = .bool b) : Ev P ρ w (.unOp .not tx x) (.bool (!b)) := fun _ _ _ _ _ => by simp [execOp, hx, Op.unary]
theorem run_equal_bool {t : TypeId} {a b : Bool} (ht : P.underlying t = some .bool) : (Op.equal t (.bool a) (.bool b)).run P w = .ok (a == b) w := by
  have h : ∀ d : Nat, (Op.equalIn (d + 1) t (.bool a) (.bool b)).run P w = .ok (a == b) w := fun d => by simp [Op.equalIn, run_underlying ht]
  exact h 9999
theorem e_beql {x y : Operand} {tx tY : TypeId} {a b : Bool} (ht : P.underlying tx = some .bool) (hx : ev ρ x = .bool a) (hy : ev ρ y = .bool b) : Ev P ρ w (.binOp .eql tx x y tY) (.bool (decide (a = b))) := by
  intro d ty pos after g
  have h1 : binOp .eql tx (.bool a) (.bool b) = (do pure (.bool (← Op.equal tx (.bool a) (.bool b)))) := rfl
  have h2 : (a == b) = decide (a = b) := by cases a <;> cases b <;> rfl
  simp only [execOp, hx, hy, h1]
  simp [eqGuard, run_equal_bool ht, h2]
/-! #### lengths, least and greatest -/
theorem e_len {x : Operand} {t e : TypeId} {A : Option Addr} {l c0 : Nat} (ht : SlOk P t e) (hx : ev ρ x = .slice A l c0) : Ev P ρ w (.call { callee := .builtin .len, args := #[x], argTypes := #[t] }) (.int .i64 (l : Int)) := fun _ _ _ _ _ => by simp [execOp, resolve, invoke, builtin, hx, Builtin.len_, run_underlying ht, goInt]
theorem e_lenS {x : Operand} {t : TypeId} {s : ByteArray} (ht : P.underlying t = some .string) (hx : ev ρ x = .string s) : Ev P ρ w (.call { callee := .builtin .len, args := #[x], argTypes := #[t] }) (.int .i64 (s.size : Int)) := fun _ _ _ _ _ => by simp [execOp, resolve, invoke, builtin, hx, Builtin.len_, run_underlying ht, goInt]
theorem e_min {x y : Operand} {ts : Array TypeId} {k k' : IntKind} {a b : Int} (hx : ev ρ x = .int k a) (hy : ev ρ y = .int k' b) : Ev P ρ w (.call { callee := .builtin .min, args := #[x, y], argTypes := ts }) (.int k (min a b)) := by
  intro d ty pos after g
  have : (if b < a then b else a) = min a b := by omega
  simp [execOp, resolve, invoke, builtin, hx, hy, Builtin.min_, Builtin.min2, this]
/-! #### addresses and loads -/
theorem e_fa {x : Operand} {s f off b o : Nat} (hf : FldOk P s f off) (hx : ev ρ x = .pointer (some ⟨b, o, none⟩)) : Ev P ρ w (.fieldAddr s x f) (.pointer (some ⟨b, o + off, none⟩)) := by
  obtain ⟨fs, fd, i, hu, hfd, rfl, hi, hs⟩ := hf
  intro d ty pos after g
  have hadd : (⟨b, o, none⟩ : Addr).add fd.offset = ⟨b, o + fd.offset, none⟩ := by unfold Addr.add; split <;> simp_all
  simp [execOp, hx, Instr.fieldAt, run_underlying hu, hfd, Instr.sureAddr, fieldPlace, sizeOf, typeInfo, hi, hs, hadd]

theorem run_indexAt {t e : TypeId} {sz : Nat} (ht : SlOk P t e) (hs : (P.info? e).map (·.size) = some sz) {b o l c0 : Nat} {k : IntKind} {i : Int} (h0 : 0 ≤ i) (h1 : i.toNat < l) :
    (Instr.indexAt t (.slice (some ⟨b, o, none⟩) l c0) (.int k i)).run P w = .ok (.pointer (some ⟨b, o + i.toNat * sz, none⟩)) w := by
  cases hi : P.info? e with
  | none => rw [hi] at hs; cases hs
  | some ti =>
    rw [hi] at hs
    have hsz : ti.size = sz := Option.some.inj hs
    have hl : i < (l : Int) := by omega
    have hadd : (⟨b, o, none⟩ : Addr).add (i.toNat * sz) = ⟨b, o + i.toNat * sz, none⟩ := by unfold Addr.add; split <;> simp_all
    simp [Instr.indexAt, asIntOf, run_underlying ht, h0, hl, sizeOf, typeInfo, hi, hsz, hadd]

theorem Row.at_ {α : Type} {k : Kd α} {F : BSet} {A : Option Addr} {xs : List α} {i : Int} {u : α} (hR : Row k F w A xs) (hu : idx xs i = some u) : ∃ b o, A = some ⟨b, o, none⟩ ∧ Lies k F w b (o + i.toNat * k.sz) u :=
  hR.get (idx_some hu).2.2
/-- An element of a slice: its address. -/
theorem e_ix {α : Type} {xs : List α} {x ix : Operand} {t e : TypeId} {sz b o c0 : Nat} {A : Option Addr} {ik : IntKind} {i : Int} {u : α} (ht : SlOk P t e) (hs : (P.info? e).map (·.size) = some sz)
    (hA : A = some ⟨b, o, none⟩) (hu : idx xs i = some u) (hx : ev ρ x = .slice A xs.length c0) (hi : ev ρ ix = .int ik i) : Ev P ρ w (.indexAddr t x ix) (.pointer (some ⟨b, o + i.toNat * sz, none⟩)) := by
  obtain ⟨h0, h1, h2⟩ := idx_some hu
  subst hA
  intro d ty pos after g
  simp only [execOp, hx, hi]
  rw [Sem.run_bind, run_indexAt ht hs h0 h1]
  rfl

/-- The value v lies there, and reads as x. -/
def LiesV {α : Type} (k : Kd α) (F : BSet) (w : World) (b o : Nat) (v : Value) (x : α) : Prop := ∃ cs, k.rep F w x cs ∧ (∀ j, j < k.sz → w.cell? ⟨b, o + j, none⟩ = cs[j]?) ∧ v = pack k.agg cs
theorem LiesAt.v {α : Type} {k : Kd α} {F : BSet} {b o : Nat} {x : α} (h : LiesAt k F w b o x) : ∃ v, LiesV k F w b o v x := let ⟨cs, hr, hc⟩ := h; ⟨_, cs, hr, hc, rfl⟩
theorem LiesV.val {α : Type} {k : Kd α} {F : BSet} {b o : Nat} {v : Value} {x : α} (h : LiesV k F w b o v x) : Val k F w v x := let ⟨cs, hr, _, e⟩ := h; ⟨cs, hr, e⟩
/-- The cells of block b are as they were. -/
theorem LiesV.same {α : Type} {k : Kd α} {F F' : BSet} {w' : World} {b o : Nat} {v : Value} {x : α} (h : LiesV k F w b o v x) (s : Stp F w F' w') (hb : w'.heap[b]? = w.heap[b]?) : LiesV k F' w' b o v x :=
  let ⟨cs, hr, hc, e⟩ := h; ⟨cs, k.keep s hr, fun j hj => (World.cell?_of_block (a := ⟨b, o + j, none⟩) hb).trans (hc j hj), e⟩
theorem LiesAt.same {α : Type} {k : Kd α} {F F' : BSet} {w' : World} {b o : Nat} {x : α} (h : LiesAt k F w b o x) (s : Stp F w F' w') (hb : w'.heap[b]? = w.heap[b]?) : LiesAt k F' w' b o x :=
  let ⟨cs, hr, hc⟩ := h; ⟨cs, k.keep s hr, fun j hj => (World.cell?_of_block (a := ⟨b, o + j, none⟩) hb).trans (hc j hj)⟩
theorem LiesV.int {ik : IntKind} {F : BSet} {b o : Nat} {x : Int} (h : LiesAt (kInt ik) F w b o x) : LiesV (kInt ik) F w b o (.int ik x) x := by obtain ⟨cs, hr, hc⟩ := h; obtain rfl := hr; exact ⟨_, rfl, hc, rfl⟩
theorem LiesV.byte {F : BSet} {b o : Nat} {x : UInt8} (h : LiesAt kByte F w b o x) : LiesV kByte F w b o (.int .u8 x.toNat) x := by obtain ⟨cs, hr, hc⟩ := h; obtain rfl := hr; exact ⟨_, rfl, hc, rfl⟩
theorem LiesV.bool {F : BSet} {b o : Nat} {x : Bool} (h : LiesAt kBool F w b o x) : LiesV kBool F w b o (.bool x) x := by obtain ⟨cs, hr, hc⟩ := h; obtain rfl := hr; exact ⟨_, rfl, hc, rfl⟩
theorem LiesV.str {F : BSet} {b o : Nat} {x : ByteArray} (h : LiesAt kStr F w b o x) : LiesV kStr F w b o (.string x) x := by obtain ⟨cs, hr, hc⟩ := h; obtain rfl := hr; exact ⟨_, rfl, hc, rfl⟩
theorem LiesV.raw {F : BSet} {b o : Nat} {x : Value} (h : LiesAt kRaw F w b o x) : LiesV kRaw F w b o x x := by obtain ⟨cs, hr, hc⟩ := h; obtain ⟨rfl, h1⟩ := hr; exact ⟨_, ⟨rfl, h1⟩, hc, rfl⟩
theorem LiesV.sl {α : Type} {k : Kd α} {F : BSet} {b o : Nat} {x : List α} (h : LiesAt (kSl k) F w b o x) : ∃ v, LiesV (kSl k) F w b o v x ∧ SlR k F w v x := by obtain ⟨cs, ⟨v, rfl, hv⟩, hc⟩ := h; exact ⟨v, ⟨_, ⟨v, rfl, hv⟩, hc, rfl⟩, hv⟩

theorem e_ld {α : Type} {k : Kd α} {F : BSet} {x : Operand} {t : TypeId} {b o : Nat} {v : Value} {u : α} (ht : TyOk P t k) (hL : LiesV k F w b o v u) (hx : ev ρ x = .pointer (some ⟨b, o, none⟩)) : Ev P ρ w (.load t x) v := by
  obtain ⟨cs, hr, hc, rfl⟩ := hL
  intro d ty pos after g
  simp only [execOp, hx]
  rw [Sem.run_bind, run_loadAt_cells ht hr hc]
  rfl

/-! #### several results -/
theorem e_ext {x : Operand} {i : Nat} {vs : Array Value} (v : Value) (hx : ev ρ x = .tuple vs) (hv : vs[i]? = some v) : Ev P ρ w (.extract x i) v := fun _ _ _ _ _ => by simp [execOp, hx, Instr.extract, hv]
end
end Go.Fx
