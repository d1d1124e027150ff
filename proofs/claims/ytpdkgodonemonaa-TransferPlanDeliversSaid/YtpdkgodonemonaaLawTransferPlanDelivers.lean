/- The row of the law TransferPlanDelivers (its frame by wip/fx/row.py). -/
import Derived.Test.YtpdkgodonemonaaRows
import Derived.Test.YtpdkgodonemonaaM9
import Derived.Test.YtpdkgodonemonaaOp
import Derived.Test.YtpdkgodonemonaaPureTransferPlanDelivers
import Derived.WalkKit
import Derived.ProofKit
import Derived.OpenShut
import Derived.ShutString
import Derived.ChangeOld
import Derived.Below
import Derived.SizedLaws
namespace Go.Proofs.Ytpdkgodonemonaa.transferPlanDelivers
open Go.Fx Go.ChangeShapes Go.WideShapes Go.ChangeAt Go.RowKit
open Go.ChangeMaps (open_string shut_string)
set_option linter.unusedVariables false
theorem own : ownKnob Try.prog.godebug = none := by kernel_rfl
theorem laidOut : laidOutB Try.prog = true := by kernel_rfl
set_option maxRecDepth 100000 in
theorem lifted (os : Os) (started : os.Started) (H : Type) (enc : TypeId × Value → H) :
    ReturnsInHanded {} Try.checked os 7 .any (Rows.transferPlanDeliversSpec.pre6 enc Try.prog Try.f7 Rows.transferPlanDeliversRow.domain false) (Rows.transferPlanDeliversSpec.post enc Try.prog Try.f7 false true false false) := by
  refine returnsInHanded_of_change_sized (C := Try.checked) own started (by kernel_rfl) Try.func7
    (ChangeSpec.witness6 (enc := enc) (C := Try.checked) false ⟨#[], #[.slice none 0 0, .slice none 0 0], []⟩ 8 (by kernel_rfl) (by kernel_rfl) (by kernel_rfl) (by kernel_rfl)) ?_
  intro W base args ds gs before hval0 hW hcnd hsz0 _
  have hval : ∀ (j : Nat) t v, Try.f7.params[j]? = some t → args[j]? = some v → Value.okWide Try.prog W .any base t v := hval0
  have hW' := hW
  obtain ⟨p, q, hA0, hV, rfl, hfz, hnd⟩ := hW
  have hA : DataW.TrodAll enc Try.prog W 0 (fun _ => true) true Try.f7.params.toList args.toList ds p := hA0
  rw [Try.params7] at hA hval
  obtain ⟨v0, vs0, d0, ds0, p0, q0, hargs, rfl, rfl, h0, r0⟩ := trodAll_cons hA
  obtain ⟨v1, vs1, d1, ds1, p1, q1, rfl, rfl, rfl, h1, r1⟩ := trodAll_cons r0
  obtain ⟨rfl, rfl, rfl⟩ := trodAll_nil r1
  obtain rfl : args = #[v0, v1] := by cases args; simp_all
  obtain ⟨rfl, rfl⟩ := trodVars_none hV
  obtain ⟨A0, len0, cap0, rfl⟩ := okWide_slice Try.underlying22 (hval 0 22 v0 rfl rfl)
  have k0 := h0
  have lt0 : ∀ x ∈ p0, x.block < W.heap.size := by obtain ⟨m, hm⟩ := k0; exact DataW.trod_lt m _ _ _ hm
  obtain ⟨a0, s0, w0⟩ : ∃ u, SlR kByte (allF W) W (.slice A0 len0 cap0) u ∧ okL (fun _ => True) u := by
    obtain ⟨fuel, hf⟩ := h0
    obtain ⟨u, ⟨v, hv, hs⟩, hw⟩ := opn_22 hf
    obtain rfl : _ = v := by simpa [Value.cells] using hv
    exact ⟨u, hs, hw⟩
  obtain ⟨A1, len1, cap1, rfl⟩ := okWide_slice Try.underlying38 (hval 1 38 v1 rfl rfl)
  have k1 := h1
  have lt1 : ∀ x ∈ p1, x.block < W.heap.size := by obtain ⟨m, hm⟩ := k1; exact DataW.trod_lt m _ _ _ hm
  obtain ⟨a1, s1, w1⟩ : ∃ u, SlR kBool (allF W) W (.slice A1 len1 cap1) u ∧ okL (fun _ => True) u := by
    obtain ⟨fuel, hf⟩ := h1
    obtain ⟨u, ⟨v, hv, hs⟩, hw⟩ := opn_38 hf
    obtain rfl : _ = v := by simpa [Value.cells] using hv
    exact ⟨u, hs, hw⟩
  clear hA0 hval0 hsz0
  refine (law4_TransferPlanDelivers.calls (fun b hb => hb) s0 s1 (Pure.TransferPlanDelivers w0 w1)).mono fun e W' ⟨v, he, hp⟩ => ?_
  subst he
  obtain ⟨F', rfl, hk⟩ := hp
  have bel := hk.below
  exact ⟨_, rfl, _, _, _, [], _, [], hW', trodAll_mk1 (shut_bool Try.underlying4 _), (trodAll_cons_mk (Below.trod laidOut (by kernel_rfl) (of_decide_eq_true (by kernel_rfl)) k0 bel lt0) (trodAll_cons_mk (Below.trod laidOut (by kernel_rfl) (of_decide_eq_true (by kernel_rfl)) k1 bel lt1) trodAll_mk0)), rfl, bel.frame _, fun h => by cases h⟩
theorem over : Rows.transferPlanDeliversRow.holds Try.pinned (OpenSpec.ofChange Rows.transferPlanDeliversSpec) :=
  OpenClaim.holds_of_wide 7 Try.f7 rfl rfl rfl rfl rfl rfl rfl ⟨rfl, rfl, rfl, rfl, rfl⟩ rfl rfl rfl rfl rfl (by kernel_rfl) Try.func7 (by kernel_rfl)
    (of_decide_eq_true (by kernel_rfl)) (by unfold Func.isWrapper; first | (rw [if_pos (by decide +kernel)]; kernel_rfl) | (rw [if_neg (by decide +kernel)]; exact ⟨rfl, rfl⟩))
    (fun os started H enc _ => lifted os started H enc)
theorem proved : Rows.TransferPlanDeliversSaid := over
end Go.Proofs.Ytpdkgodonemonaa.transferPlanDelivers
namespace Go.Proofs.Ytpdkgodonemonaa
/-- The row, under a short name, for the claim. -/
theorem transferPlanDelivers_holds : Rows.TransferPlanDeliversSaid := transferPlanDelivers.proved
end Go.Proofs.Ytpdkgodonemonaa
