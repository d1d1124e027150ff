/- A statement's arguments, laid open: what is handed in reads as plain values. -/
import Derived.Test.YtenkbkcddcnmeaaDoorFx9
import Derived.Deep.Slices
import Derived.ChangeArms
namespace Go.Fx
open Go.RowKit
set_option linter.unusedVariables false

/-- Every block of the memory. -/
def allF (w : World) : BSet := fun b => b < w.heap.size

/-- What is read by the types reads as a value of this kind, and is as large as such values are. -/
def Opn {α : Type} (P : Program) (t : TypeId) (k : Kd α) (ok : α → Prop) : Prop :=
  ∀ {H : Type} {enc : TypeId × Value → H} {w : World} {base : Nat} {spare : Nat → Bool} {held : Bool} {fuel : Nat} {cs : List Value} {x : DataW H × List MemPlace},
    DataW.trod enc P w base spare held fuel t cs = some x → ∃ u, k.rep (allF w) w u cs ∧ ok u

def okI (ik : IntKind) (n : Int) : Prop := ik.min ≤ n ∧ n ≤ ik.max
def okL {α : Type} (ok : α → Prop) (xs : List α) : Prop := xs.length ≤ 9223372036854775807 ∧ ∀ x ∈ xs, ok x
def okS (s : ByteArray) : Prop := s.size ≤ 9223372036854775807

section
variable {P : Program} {t e : TypeId} {α β : Type} {k : Kd α} {l : Kd β} {ok : α → Prop} {ok' : β → Prop}
theorem opn_int {ik : IntKind} (ht : P.underlying t = some (.int ik)) : Opn P t (kInt ik) (okI ik) := by
  intro H enc w base spare held fuel cs x h
  obtain ⟨n, rfl, _, hw⟩ := DataW.trod_int ht h
  simp only [Lit.wf, Bool.and_eq_true, decide_eq_true_eq] at hw
  exact ⟨n, rfl, hw⟩
theorem opn_byte (ht : P.underlying t = some (.int .u8)) : Opn P t kByte (fun _ => True) := by
  intro H enc w base spare held fuel cs x h
  obtain ⟨n, rfl, _, hw⟩ := DataW.trod_int ht h
  simp only [Lit.wf, Bool.and_eq_true, decide_eq_true_eq] at hw
  have h0 : 0 ≤ n := hw.1
  have h1 : n ≤ 255 := hw.2
  refine ⟨UInt8.ofNat n.toNat, ?_, trivial⟩
  show [Value.int .u8 n] = [Value.int .u8 _]
  have : ((UInt8.ofNat n.toNat).toNat : Int) = n := by
    rw [UInt8.toNat_ofNat_of_lt' (by show n.toNat < 256; omega)]
    omega
  rw [this]
theorem opn_str (ht : P.underlying t = some .string) : Opn P t kStr okS := by
  intro H enc w base spare held fuel cs x h
  obtain ⟨s, rfl, _, hs⟩ := DataW.trod_string ht h
  exact ⟨s, rfl, hs⟩
theorem opn_sl (ht : P.underlying t = some (.slice e)) (he : Opn P e k ok) (hsz : P.cellsOf e = k.sz) (hpos : Nat.blt 0 k.sz = true) : Opn P t (kSl k) (okL ok) := by
  intro H enc w base spare held fuel cs x h
  have hpos : 0 < k.sz := Nat.le_of_ble_eq_true hpos
  rcases Go.Deep.open_slice ht h with ⟨rfl, _⟩ | ⟨a, len, cap, m, n, D, Pl, rfl, hb, hl, hm, hmm, hx, hi⟩
  · exact ⟨[], ⟨_, rfl, SlR.nil _ _ _⟩, by simp [okL]⟩
  have hlm : len ≤ m := by rw [hmm]; split <;> omega
  rw [hsz] at hi
  have some0 : ∀ {b : Addr} {u : Value}, w.cell? b = some u → b.spot = none ∧ b.block < w.heap.size := by
    intro b u hc
    unfold World.cell? at hc
    split at hc
    · rename_i hb
      refine ⟨?_, (Array.getElem?_eq_some_iff.1 hb).1⟩
      cases hs : b.spot with
      | none => rfl
      | some s => rw [hs] at hc; simp at hc
    · cases hc
  have h1 : ∀ i, ∃ u : Option α, i < len → ∃ y, u = some y ∧ ok y ∧ Lies k (allF w) w a.block (a.off + i * k.sz) y ∧ a = ⟨a.block, a.off, none⟩ := by
    intro i
    by_cases hil : i < len
    · obtain ⟨cs0, hc0, _⟩ := hi 0 (by omega)
      obtain ⟨_, hlen0, hcell0⟩ := World.cells?_some hc0
      have h00 := hcell0 0 hpos
      rw [List.getElem?_eq_getElem (by omega), Nat.zero_mul] at h00
      have hsp := some0 h00
      have ha : a = ⟨a.block, a.off, none⟩ := by
        have : a.spot = none := by simpa [Addr.add] using hsp.1
        cases a; simp_all
      have hblk : a.block < w.heap.size := by simpa [Addr.add] using hsp.2
      obtain ⟨cs', hc, ht'⟩ := hi i (by omega)
      obtain ⟨y, hr, hok⟩ := he ht'
      obtain ⟨_, hlen, hcell⟩ := World.cells?_some hc
      refine ⟨some y, fun _ => ⟨y, rfl, hok, ⟨hblk, cs', hr, fun j hj => ?_⟩, ha⟩⟩
      rw [← hcell j hj]
      congr 1
      rw [ha, addr_add, addr_add]
    · exact ⟨none, fun h => absurd h hil⟩
  obtain ⟨f, hf⟩ := Classical.axiomOfChoice h1
  have hml : (maxLen : Nat) = 9223372036854775807 := by unfold maxLen; decide
  by_cases h0 : 0 < len
  · obtain ⟨y0, _⟩ := hf 0 h0
    have h2 : ∀ i, ∃ y : α, i < len → ok y ∧ Lies k (allF w) w a.block (a.off + i * k.sz) y ∧ a = ⟨a.block, a.off, none⟩ := by
      intro i
      by_cases hil : i < len
      · obtain ⟨y, _, hy⟩ := hf i hil; exact ⟨y, fun _ => hy⟩
      · exact ⟨y0, fun h => absurd h hil⟩
    obtain ⟨g, hg⟩ := Classical.axiomOfChoice h2
    have hlen : ((List.range len).map g).length = len := by rw [List.length_map, List.length_range]
    refine ⟨(List.range len).map g, ⟨_, rfl, some a, cap, by rw [hlen], by rw [hlen]; exact hl, .inr ⟨a.block, a.off, congrArg some (hg 0 h0).2.2, fun i x hx => ?_⟩⟩, ⟨by rw [hlen]; omega, fun x hx => ?_⟩⟩
    · have hi : i < len := by have := (List.getElem?_eq_some_iff.1 hx).1; rwa [hlen] at this
      rw [List.getElem?_map, List.getElem?_range hi] at hx
      cases Option.some.inj hx
      exact (hg i hi).2.1
    · obtain ⟨i, hi, rfl⟩ := List.mem_map.1 hx
      exact (hg i (List.mem_range.1 hi)).1
  · have : len = 0 := by omega
    subst this
    exact ⟨[], ⟨_, rfl, some a, cap, rfl, Nat.zero_le _, .inl rfl⟩, by simp [okL]⟩

theorem okI_of {ik : IntKind} {n : Int} (h : (Lit.int ik n).wf = true) : okI ik n := by
  simp only [Lit.wf, Bool.and_eq_true, decide_eq_true_eq] at h
  exact h
/-- A struct's parts. -/
theorem rep_pair {F : BSet} {w : World} {x : α} {y : β} {cs : List Value} (hk : k.rep F w x (cs.take k.sz)) (hl : l.rep F w y (cs.drop k.sz)) : (kPair k l).rep F w (x, y) cs := ⟨_, _, (List.take_append_drop _ _).symm, hk, hl⟩
theorem opn_struct {fs : Array Field} (ht : P.underlying t = some (.struct fs)) {okA : α → Prop} (hrep : ∀ {w : World} {cs : List Value}, cs.length = P.cellsOf t →
      (∀ (i : Nat) (f : Field), fs[i]? = some f → ∀ {γ : Type} {q : Kd γ} {oq : γ → Prop}, Opn P f.type q oq → ∃ u, q.rep (allF w) w u ((cs.drop f.offset).take (P.cellsOf f.type)) ∧ oq u) → ∃ u, k.rep (allF w) w u cs ∧ okA u) : Opn P t k okA := by
  intro H enc w base spare held fuel cs x h
  obtain ⟨xs, n, _, _, hlen, hxl, hg⟩ := DataW.trod_struct ht h
  refine hrep hlen (fun i f hf γ q oq hq => ?_)
  have h1 := hg i f hf
  have hi : i < xs.length := by rw [hxl]; exact (Array.getElem?_eq_some_iff.1 hf).1
  rw [List.getElem?_eq_getElem hi] at h1
  exact hq h1
end
end Go.Fx
