/- A string as bytes; a package's variable that is read. -/
import Derived.Test.YtenkbkcddcnmeaaDoorFx16
import Derived.Lib.ConvBytes
namespace Go.Fx
open Go.RowKit
set_option linter.unusedVariables false
section
variable {P : Program} {n : Nat} {ρ : Env} {w w0 : World} {F F0 : BSet} {row : BSet}
def bytesOf (s : ByteArray) : List UInt8 := s.data.toList
theorem f_s2b {src dst e : TypeId} {x : Operand} {s : ByteArray} (hW : Wk row w0 F0 F w) (hs : P.underlying src = some .string) (hd : P.underlying dst = some (.slice e)) (he : P.underlying e = some (.int .u8)) (hx : ev ρ x = .string s) :
    Eff P ρ n w (.convert src dst x) (fun v w' => ∃ F', Wk nrow w F F' w' ∧ SlR kByte F' w' v (bytesOf s)) := by
  have hr := Go.Lib.run_convert_string_bytes (P := P) w src dst e s hs hd he
  have hsz := Go.Lib.bytesWorld_size w e s
  have hl : (bytesOf s).length = s.size := Array.length_toList
  have hW2 : Wk nrow w F (fadd F w.heap.size) (Go.Lib.bytesWorld w e s) := by
    refine ⟨rfl, rfl, rfl, by rw [hsz]; omega, fun k hk _ => Go.Lib.bytesWorld_at_old w e s k hk, fun b hb => ?_, fun b hb => .inl hb, fun b hb hF => ?_⟩
    · rw [hsz]
      rcases hb with hb | rfl
      · have := hW.ok b hb; omega
      · omega
    · rcases hF with hF | rfl
      · exact hF
      · omega
  refine Eff.of_run (v := .slice (some ⟨w.heap.size, 0, none⟩) s.size (grownCap w s.size 0 e)) (w' := Go.Lib.bytesWorld w e s) (fun d ty pos after g => ?_) ⟨fadd F w.heap.size, hW2, _, _, by rw [hl], ?_, ?_⟩
  · simp only [execOp, hx, Sem.run_bind, hr, Result.andThen_ok, Sem.run_pure]
  · rw [hl]; exact grownCap_ge w s.size 0 e
  · rcases hb : bytesOf s with _ | ⟨y, ys⟩
    · exact .inl rfl
    · rw [← hb]
      refine .inr ⟨w.heap.size, 0, rfl, fun i z hz => ⟨.inr rfl, [.int .u8 z.toNat], rfl, fun j hj => ?_⟩⟩
      have : j = 0 := by have : j < 1 := hj; omega
      subst this
      have hi : i < s.size := by rw [← hl]; exact (List.getElem?_eq_some_iff.1 hz).1
      have hc := Go.Lib.bytesWorld_cell w e s i hi
      have hg : s.data.toList.getD i 0 = z := by unfold bytesOf at hz; simp [List.getD, hz]
      rw [hg] at hc
      simpa [kByte] using hc
end
/-- The package's variable g holds a number. -/
def GL (g : Nat) (F : BSet) (w : World) : Prop := F g ∧ ∃ m : Int, w.cell? ⟨g, 0, none⟩ = some (.int .i64 m)
theorem GL.keep {g : Nat} {F F' : BSet} {w w' : World} (h : GL g F w) (s : Stp F w F' w') : GL g F' w' := by
  obtain ⟨hF, m, hm⟩ := h
  refine ⟨s.mono g hF, m, ?_⟩
  rw [← hm]
  simp only [World.cell?, s.keep g hF]
end Go.Fx
