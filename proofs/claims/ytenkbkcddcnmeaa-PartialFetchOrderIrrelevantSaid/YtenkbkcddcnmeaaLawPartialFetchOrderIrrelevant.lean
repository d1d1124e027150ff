/- The row of the law PartialFetchOrderIrrelevant (its frame by wip/fx/row.py). -/
import Derived.Test.YtenkbkcddcnmeaaRows
import Derived.Test.YtenkbkcddcnmeaaM11
import Derived.Test.YtenkbkcddcnmeaaOp
import Derived.Test.YtenkbkcddcnmeaaPurePartialFetchOrderIrrelevant
import Derived.Test.YtenkbkcddcnmeaaFx14
import Derived.WalkKit
import Derived.ProofKit
import Derived.OpenShut
import Derived.ShutString
import Derived.ChangeOld
import Derived.Below
import Derived.SizedLaws
namespace Go.Proofs.Ytenkbkcddcnmeaa.partialFetchOrderIrrelevant
open Go.Fx Go.ChangeShapes Go.WideShapes Go.ChangeAt Go.RowKit
open Go.ChangeMaps (open_string shut_string)
set_option linter.unusedVariables false
theorem own : ownKnob Try.prog.godebug = none := by kernel_rfl
theorem laidOut : laidOutB Try.prog = true := by kernel_rfl
set_option maxRecDepth 100000 in
theorem lifted (os : Os) (started : os.Started) (H : Type) (enc : TypeId × Value → H) :
    ReturnsInHanded {} Try.checked os 7 .any (Rows.partialFetchOrderIrrelevantSpec.pre6 enc Try.prog Try.f7 Rows.partialFetchOrderIrrelevantRow.domain false) (Rows.partialFetchOrderIrrelevantSpec.post enc Try.prog Try.f7 false true false false) := by
  refine returnsInHanded_of_change_sized (C := Try.checked) own started (by kernel_rfl) Try.func7
    (ChangeSpec.witness6 (enc := enc) (C := Try.checked) false ⟨#[], #[.agg #[.slice none 0 0], .int .i64 0, .slice none 0 0], []⟩ 8 (by kernel_rfl) (by kernel_rfl) (by kernel_rfl) (by kernel_rfl)) ?_
  intro W base args ds gs before hval0 hW hcnd hsz0 _
  have hval : ∀ (j : Nat) t v, Try.f7.params[j]? = some t → args[j]? = some v → Value.okWide Try.prog W .any base t v := hval0
  have hW' := hW
  obtain ⟨p, q, hA0, hV, rfl, hfz, hnd⟩ := hW
  have hA : DataW.TrodAll enc Try.prog W 0 (fun _ => true) true Try.f7.params.toList args.toList ds p := hA0
  rw [Try.params7] at hA hval
  obtain ⟨v0, vs0, d0, ds0, p0, q0, hargs, rfl, rfl, h0, r0⟩ := trodAll_cons hA
  obtain ⟨v1, vs1, d1, ds1, p1, q1, rfl, rfl, rfl, h1, r1⟩ := trodAll_cons r0
  obtain ⟨v2, vs2, d2, ds2, p2, q2, rfl, rfl, rfl, h2, r2⟩ := trodAll_cons r1
  obtain ⟨rfl, rfl, rfl⟩ := trodAll_nil r2
  obtain rfl : args = #[v0, v1, v2] := by cases args; simp_all
  obtain ⟨rfl, rfl⟩ := trodVars_none hV
  obtain ⟨c0, rfl, cz0⟩ := okWide_struct Try.underlying24 (hval 0 24 v0 rfl rfl)
  have k0 := h0
  have lt0 : ∀ x ∈ p0, x.block < W.heap.size := by obtain ⟨m, hm⟩ := k0; exact DataW.trod_lt m _ _ _ hm
  obtain ⟨a0, s0, w0⟩ : ∃ u, Val k_ObjectStore (allF W) W (.agg c0) u ∧ ok_ObjectStore u := by
    obtain ⟨fuel, hf⟩ := h0
    obtain ⟨u, hr, hw⟩ := opn_24 hf
    exact ⟨u, ⟨_, hr, by show Value.agg c0 = Value.agg _; simp [Value.cells]⟩, hw⟩
  obtain ⟨a1, rfl, rfl, rfl, y1⟩ := open_int Try.underlying3 (hval 1 3 v1 rfl rfl) h1
  have w1 : okI .i64 a1 := okI_of y1
  obtain ⟨A2, len2, cap2, rfl⟩ := okWide_slice Try.underlying26 (hval 2 26 v2 rfl rfl)
  have k2 := h2
  have lt2 : ∀ x ∈ p2, x.block < W.heap.size := by obtain ⟨m, hm⟩ := k2; exact DataW.trod_lt m _ _ _ hm
  obtain ⟨a2, s2, w2⟩ : ∃ u, SlR (kInt .i64) (allF W) W (.slice A2 len2 cap2) u ∧ okL (okI .i64) u := by
    obtain ⟨fuel, hf⟩ := h2
    obtain ⟨u, ⟨v, hv, hs⟩, hw⟩ := opn_26 hf
    obtain rfl : _ = v := by simpa [Value.cells] using hv
    exact ⟨u, hs, hw⟩
  have z2 : a2.length * Try.prog.bytesOf 3 ≤ reachBytes := by
    obtain ⟨fuel, hf⟩ := k2
    exact sz_sl Try.underlying26 (by simpa [Value.cells] using hf) (fun el sp e => sized_slice hsz0 (j := 2) (t := 26) (by rw [Try.params7]; rfl) (by rw [e]; rfl) Try.underlying26) s2
  rw [(by kernel_rfl : Try.prog.bytesOf 3 = 8)] at z2
  clear hA0 hval0 hsz0
  refine (law4_PartialFetchOrderIrrelevant.calls (fun b hb => hb) s0 a1 s2 (Pure.PartialFetchOrderIrrelevant w0 w1 w2 z2)).mono fun e W' ⟨v, he, hp⟩ => ?_
  subst he
  obtain ⟨F', rfl, hk⟩ := hp
  have bel := hk.below
  exact ⟨_, rfl, _, _, _, [], _, [], hW', trodAll_mk1 (shut_bool Try.underlying4 _), (trodAll_cons_mk (Below.trod laidOut (by kernel_rfl) (of_decide_eq_true (by kernel_rfl)) k0 bel lt0) (trodAll_cons_mk (shut_int Try.underlying3 y1) (trodAll_cons_mk (Below.trod laidOut (by kernel_rfl) (of_decide_eq_true (by kernel_rfl)) k2 bel lt2) trodAll_mk0))), rfl, bel.frame _, fun h => by cases h⟩
theorem over : Rows.partialFetchOrderIrrelevantRow.holds Try.pinned (OpenSpec.ofChange Rows.partialFetchOrderIrrelevantSpec) :=
  OpenClaim.holds_of_wide 7 Try.f7 rfl rfl rfl rfl rfl rfl rfl ⟨rfl, rfl, rfl, rfl, rfl⟩ rfl rfl rfl rfl rfl (by kernel_rfl) Try.func7 (by kernel_rfl)
    (of_decide_eq_true (by kernel_rfl)) (by unfold Func.isWrapper; first | (rw [if_pos (by decide +kernel)]; kernel_rfl) | (rw [if_neg (by decide +kernel)]; exact ⟨rfl, rfl⟩))
    (fun os started H enc _ => lifted os started H enc)
theorem proved : Rows.PartialFetchOrderIrrelevantSaid := over
end Go.Proofs.Ytenkbkcddcnmeaa.partialFetchOrderIrrelevant
namespace Go.Proofs.Ytenkbkcddcnmeaa
/-- The row, under a short name, for the claim. -/
theorem partialFetchOrderIrrelevant_holds : Rows.PartialFetchOrderIrrelevantSaid := partialFetchOrderIrrelevant.proved
end Go.Proofs.Ytenkbkcddcnmeaa
