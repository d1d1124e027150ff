/- Strings: parts, order, joining, a byte of one. -/
import Derived.Test.YtenkbkcddcnmeaaDoorFx13
set_option linter.unusedVariables false
namespace Go.Fx
/-- s[lo:hi] -/
def cutS (s : ByteArray) (lo hi : Int) : Option ByteArray := if 0 ≤ lo ∧ lo ≤ hi ∧ hi ≤ s.size then some (s.extract lo.toNat hi.toNat) else none
def catS (a b : ByteArray) : Option ByteArray := if (a.size : Int) + b.size ≤ 9223372036854775807 then some (a ++ b) else none
/-- a < b -/
def sLess (a b : ByteArray) : Bool := Op.bytesLess a.toList b.toList
theorem cutS_some {s r : ByteArray} {lo hi : Int} (h : cutS s lo hi = some r) : 0 ≤ lo ∧ lo ≤ hi ∧ hi ≤ s.size ∧ r = s.extract lo.toNat hi.toNat := by
  unfold cutS at h
  split at h
  · rename_i c; exact ⟨c.1, c.2.1, c.2.2, (Option.some.inj h).symm⟩
  · cases h
section
variable {P : Program} {ρ : Env} {w : World}
theorem e_cutS {t : TypeId} {x a b : Operand} {s r : ByteArray} {ka kb : IntKind} {lo hi : Int} (ht : P.underlying t = some .string) (hx : ev ρ x = .string s) (ha : ev ρ a = .int ka lo) (hb : ev ρ b = .int kb hi) (hr : cutS s lo hi = some r) : Ev P ρ w (.slice t x (some a) (some b) none) (.string r) := by
  obtain ⟨h0, h1, h2, rfl⟩ := cutS_some hr
  intro d ty pos after g
  simp only [execOp, Option.map_some, Option.map_none, hx, ha, hb, Sem.run_bind, run_sliceAt_string (P := P) w t _ _ _ _ ht]
  rw [run_slice_string (P := P) w t s ka kb lo hi ht h0 h1 h2]; rfl
theorem e_cutSL {t : TypeId} {x a : Operand} {s r : ByteArray} {ka : IntKind} {lo : Int} (ht : P.underlying t = some .string) (hx : ev ρ x = .string s) (ha : ev ρ a = .int ka lo) (hr : cutS s lo (s.size : Int) = some r) : Ev P ρ w (.slice t x (some a) none none) (.string r) := by
  obtain ⟨h0, h1, h2, rfl⟩ := cutS_some hr
  intro d ty pos after g
  simp only [execOp, Option.map_some, Option.map_none, hx, ha, Sem.run_bind, run_sliceAt_string (P := P) w t _ _ _ _ ht]
  rw [run_slice_string_l (P := P) w t s ht ka lo h0 h1]; rfl
theorem e_cutSH {t : TypeId} {x b : Operand} {s r : ByteArray} {kb : IntKind} {hi : Int} (ht : P.underlying t = some .string) (hx : ev ρ x = .string s) (hb : ev ρ b = .int kb hi) (hr : cutS s 0 hi = some r) : Ev P ρ w (.slice t x none (some b) none) (.string r) := by
  obtain ⟨h0, h1, h2, rfl⟩ := cutS_some hr
  intro d ty pos after g
  simp only [execOp, Option.map_some, Option.map_none, hx, hb, Sem.run_bind, run_sliceAt_string (P := P) w t _ _ _ _ ht]
  rw [run_slice_string_h (P := P) w t s ht kb hi h1 h2]; rfl
theorem e_catS {x y : Operand} {tx tY : TypeId} {a b r : ByteArray} (hx : ev ρ x = .string a) (hy : ev ρ y = .string b) (hr : catS a b = some r) : Ev P ρ w (.binOp .add tx x y tY) (.string r) := by
  unfold catS at hr
  split at hr
  · rename_i c
    obtain rfl := Option.some.inj hr
    intro d ty pos after g
    have hm : IntKind.i64.max = 9223372036854775807 := by decide
    have hc : ¬ ((a.size : Int) + b.size > 9223372036854775807) := by omega
    simp [execOp, hx, hy, eqGuard, binOp, Op.stringOp, hm, hc]
  · cases hr
theorem e_sgeq {x y : Operand} {tx tY : TypeId} {a b : ByteArray} (hx : ev ρ x = .string a) (hy : ev ρ y = .string b) : Ev P ρ w (.binOp .geq tx x y tY) (.bool (!sLess a b)) := fun _ _ _ _ _ => by simp [execOp, hx, hy, eqGuard, binOp, Op.stringOp, sLess]
theorem e_sleq {x y : Operand} {tx tY : TypeId} {a b : ByteArray} (hx : ev ρ x = .string a) (hy : ev ρ y = .string b) : Ev P ρ w (.binOp .leq tx x y tY) (.bool (sLess a b || decide (a = b))) := fun _ _ _ _ _ => by simp [execOp, hx, hy, eqGuard, binOp, Op.stringOp, sLess, str_beq]
theorem e_ixS {t : TypeId} {x y : Operand} {s : ByteArray} {k : IntKind} {i : Int} {b : UInt8} (ht : P.underlying t = some .string) (hx : ev ρ x = .string s) (hy : ev ρ y = .int k i) (hb : idxB s i = some b) : Ev P ρ w (.index t x y) (.int .u8 (b.toNat : Int)) := by
  unfold idxB at hb
  split at hb
  · rename_i h0
    have hlt : i.toNat < s.size := by
      rcases Nat.lt_or_ge i.toNat s.size with h | h
      · exact h
      · rw [ByteArray.getElem?_ge' s _ (Nat.not_lt.mpr h)] at hb; cases hb
    rw [ByteArray.getElem?_lt' s _ hlt] at hb
    obtain rfl := Option.some.inj hb
    intro d ty pos after g
    simp only [execOp, hx, hy, Sem.run_bind]
    rw [run_index_string (P := P) w t s k i ht, dif_pos ⟨h0, by omega⟩]; rfl
  · cases hb
end
end Go.Fx
