/- The size of what is handed in. -/
import Derived.Test.YtenkbkcddcnmeaaFx10
import Derived.SizedLaws
set_option linter.unusedVariables false
namespace Go.Fx
open Go
theorem sz_sl {α H : Type} {P : Program} {enc : TypeId × Value → H} {t e : TypeId} {k : Kd α} {F : BSet} {w w2 : World} {base fuel : Nat} {spare : Nat → Bool} {held : Bool} {A : Option Addr} {len cap : Nat} {d : DataW H} {p : List MemPlace} {a : List α}
    (ht : P.underlying t = some (.slice e)) (h : DataW.trod enc P w base spare held fuel t [.slice A len cap] = some (d, p))
    (hz : ∀ elems sp, d = .slice elems sp → (elems.length + sp.length) * P.bytesOf e ≤ reachBytes) (hs : SlR k F w2 (.slice A len cap) a) : a.length * P.bytesOf e ≤ reachBytes := by
  obtain ⟨arr, cap', hv, _⟩ := hs
  have hl : len = a.length := by cases hv; rfl
  rcases DataW.trod_slice ht h with ⟨hc, _⟩ | ⟨a', len', cap', elems, rest, n, _, hc, hx, _, _, _, hel, _⟩
  · cases hc
    rw [← hl]; simp
  · cases hc
    have hd : d = .slice (elems.map (·.1)) (rest.map (·.1)) := congrArg Prod.fst hx
    have := hz _ _ hd
    rw [List.length_map, List.length_map, hel, hl] at this
    exact Nat.le_trans (Nat.mul_le_mul_right _ (Nat.le_add_right _ _)) this
end Go.Fx
