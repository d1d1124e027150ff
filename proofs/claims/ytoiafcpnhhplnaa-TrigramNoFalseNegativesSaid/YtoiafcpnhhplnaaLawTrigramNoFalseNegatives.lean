/- The row of the law TrigramNoFalseNegatives (its frame by wip/fx/row.py). -/
import Derived.Test.YtoiafcpnhhplnaaRows
import Derived.Test.YtoiafcpnhhplnaaM14
import Derived.Test.YtoiafcpnhhplnaaOp
import Derived.Test.YtoiafcpnhhplnaaPureTrigramNoFalseNegatives
import Derived.ChangeMaps5
import Derived.WalkKit
import Derived.ProofKit
import Derived.OpenShut
import Derived.ShutString
import Derived.ChangeOld
import Derived.Below
import Derived.SizedLaws
namespace Go.Proofs.Ytoiafcpnhhplnaa.trigramNoFalseNegatives
open Go.Fx Go.ChangeShapes Go.WideShapes Go.ChangeAt Go.RowKit
open Go.ChangeMaps (open_string shut_string)
set_option linter.unusedVariables false
theorem own : ownKnob Try.prog.godebug = none := by kernel_rfl
theorem laidOut : laidOutB Try.prog = true := by kernel_rfl
set_option maxRecDepth 100000 in
theorem lifted (os : Os) (started : os.Started) (H : Type) (enc : TypeId × Value → H) :
    ReturnsInHanded {} Try.checked os 5 .any (Rows.trigramNoFalseNegativesSpec.pre6 enc Try.prog Try.f5 Rows.trigramNoFalseNegativesRow.domain false) (Rows.trigramNoFalseNegativesSpec.post enc Try.prog Try.f5 false true false false) := by
  refine returnsInHanded_of_change_sized (C := Try.checked) own started (by kernel_rfl) Try.func5
    (ChangeSpec.witness6 (enc := enc) (C := Try.checked) false ⟨#[], #[.slice none 0 0, .string ByteArray.empty], []⟩ 8 (by kernel_rfl) (by kernel_rfl) (by kernel_rfl) (by kernel_rfl)) ?_
  intro W base args ds gs before hval0 hW hcnd hsz0 _
  have hval : ∀ (j : Nat) t v, Try.f5.params[j]? = some t → args[j]? = some v → Value.okWide Try.prog W .any base t v := hval0
  have hW' := hW
  obtain ⟨p, q, hA0, hV, rfl, hfz, hnd⟩ := hW
  have hA : DataW.TrodAll enc Try.prog W 0 (fun _ => true) true Try.f5.params.toList args.toList ds p := hA0
  rw [Try.params5] at hA hval
  obtain ⟨v0, vs0, d0, ds0, p0, q0, hargs, rfl, rfl, h0, r0⟩ := trodAll_cons hA
  obtain ⟨v1, vs1, d1, ds1, p1, q1, rfl, rfl, rfl, h1, r1⟩ := trodAll_cons r0
  obtain ⟨rfl, rfl, rfl⟩ := trodAll_nil r1
  obtain rfl : args = #[v0, v1] := by cases args; simp_all
  obtain ⟨rfl, rfl⟩ := trodVars_none hV
  obtain ⟨A0, len0, cap0, rfl⟩ := okWide_slice Try.underlying22 (hval 0 22 v0 rfl rfl)
  have k0 := h0
  have lt0 : ∀ x ∈ p0, x.block < W.heap.size := by obtain ⟨m, hm⟩ := k0; exact DataW.trod_lt m _ _ _ hm
  obtain ⟨a0, s0, w0⟩ : ∃ u, SlR kStr (allF W) W (.slice A0 len0 cap0) u ∧ okL okS u := by
    obtain ⟨fuel, hf⟩ := h0
    obtain ⟨u, ⟨v, hv, hs⟩, hw⟩ := opn_22 hf
    obtain rfl : _ = v := by simpa [Value.cells] using hv
    exact ⟨u, hs, hw⟩
  obtain ⟨a1, rfl, rfl, rfl, y1⟩ := open_string Try.underlying9 (hval 1 9 v1 rfl rfl) h1
  have w1 : okS a1 := y1
  clear hA0 hval0 hsz0
  refine (law4_TrigramNoFalseNegatives.calls (fun b hb => hb) s0 a1 (Pure.TrigramNoFalseNegatives w0 w1)).mono fun e W' ⟨v, he, hp⟩ => ?_
  subst he
  obtain ⟨F', rfl, hk⟩ := hp
  have bel := hk.below
  exact ⟨_, rfl, _, _, _, [], _, [], hW', trodAll_mk1 (shut_bool Try.underlying4 _), (trodAll_cons_mk (Below.trod laidOut (by kernel_rfl) (of_decide_eq_true (by kernel_rfl)) k0 bel lt0) (trodAll_cons_mk (shut_string Try.underlying9 y1) trodAll_mk0)), rfl, bel.frame _, fun h => by cases h⟩
theorem over : Rows.trigramNoFalseNegativesRow.holds Try.pinned (OpenSpec.ofChange Rows.trigramNoFalseNegativesSpec) :=
  OpenClaim.holds_of_wide 5 Try.f5 rfl rfl rfl rfl rfl rfl rfl ⟨rfl, rfl, rfl, rfl, rfl⟩ rfl rfl rfl rfl rfl (by kernel_rfl) Try.func5 (by kernel_rfl)
    (of_decide_eq_true (by kernel_rfl)) (by unfold Func.isWrapper; first | (rw [if_pos (by decide +kernel)]; kernel_rfl) | (rw [if_neg (by decide +kernel)]; exact ⟨rfl, rfl⟩))
    (fun os started H enc _ => lifted os started H enc)
theorem proved : Rows.TrigramNoFalseNegativesSaid := over
end Go.Proofs.Ytoiafcpnhhplnaa.trigramNoFalseNegatives
namespace Go.Proofs.Ytoiafcpnhhplnaa
/-- The row, under a short name, for the claim. -/
theorem trigramNoFalseNegatives_holds : Rows.TrigramNoFalseNegativesSaid := trigramNoFalseNegatives.proved
end Go.Proofs.Ytoiafcpnhhplnaa
