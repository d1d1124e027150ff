/- The row of the law TrigramAddMatchesSpec (its frame by wip/fx/row.py). -/
import Derived.Test.YtoiafcpnhhplnaaRows
import Derived.Test.YtoiafcpnhhplnaaM16
import Derived.Test.YtoiafcpnhhplnaaOp
import Derived.Test.YtoiafcpnhhplnaaPureTrigramAddMatchesSpec
import Derived.ChangeMaps5
import Derived.WalkKit
import Derived.ProofKit
import Derived.OpenShut
import Derived.ShutString
import Derived.ChangeOld
import Derived.Below
import Derived.SizedLaws
namespace Go.Proofs.Ytoiafcpnhhplnaa.trigramAddMatchesSpec
open Go.Fx Go.ChangeShapes Go.WideShapes Go.ChangeAt Go.RowKit
open Go.ChangeMaps (open_string shut_string)
set_option linter.unusedVariables false
theorem own : ownKnob Try.prog.godebug = none := by kernel_rfl
theorem laidOut : laidOutB Try.prog = true := by kernel_rfl
set_option maxRecDepth 100000 in
theorem lifted (os : Os) (started : os.Started) (H : Type) (enc : TypeId × Value → H) :
    ReturnsInHanded {} Try.checked os 7 .any (Rows.trigramAddMatchesSpecSpec.pre6 enc Try.prog Try.f7 Rows.trigramAddMatchesSpecRow.domain false) (Rows.trigramAddMatchesSpecSpec.post enc Try.prog Try.f7 false true false false) := by
  refine returnsInHanded_of_change_sized (C := Try.checked) own started (by kernel_rfl) Try.func7
    (ChangeSpec.witness6 (enc := enc) (C := Try.checked) false ⟨#[], #[.agg #[.slice none 0 0, .slice none 0 0], .int .i64 0, .string ByteArray.empty], []⟩ 8 (by kernel_rfl) (by kernel_rfl) (by kernel_rfl) (by kernel_rfl)) ?_
  intro W base args ds gs before hval0 hW hcnd hsz0 _
  have hval : ∀ (j : Nat) t v, Try.f7.params[j]? = some t → args[j]? = some v → Value.okWide Try.prog W .any base t v := hval0
  have hW' := hW
  obtain ⟨p, q, hA0, hV, rfl, hfz, hnd⟩ := hW
  have hA : DataW.TrodAll enc Try.prog W 0 (fun _ => true) true Try.f7.params.toList args.toList ds p := hA0
  rw [Try.params7] at hA hval
  obtain ⟨v0, vs0, d0, ds0, p0, q0, hargs, rfl, rfl, h0, r0⟩ := trodAll_cons hA
  obtain ⟨v1, vs1, d1, ds1, p1, q1, rfl, rfl, rfl, h1, r1⟩ := trodAll_cons r0
  obtain ⟨v2, vs2, d2, ds2, p2, q2, rfl, rfl, rfl, h2, r2⟩ := trodAll_cons r1
  obtain ⟨rfl, rfl, rfl⟩ := trodAll_nil r2
  obtain rfl : args = #[v0, v1, v2] := by cases args; simp_all
  obtain ⟨rfl, rfl⟩ := trodVars_none hV
  obtain ⟨c0, rfl, cz0⟩ := okWide_struct Try.underlying27 (hval 0 27 v0 rfl rfl)
  have k0 := h0
  have lt0 : ∀ x ∈ p0, x.block < W.heap.size := by obtain ⟨m, hm⟩ := k0; exact DataW.trod_lt m _ _ _ hm
  obtain ⟨a0, s0, w0⟩ : ∃ u, Val k_TrigramIndex (allF W) W (.agg c0) u ∧ ok_TrigramIndex u := by
    obtain ⟨fuel, hf⟩ := h0
    obtain ⟨u, hr, hw⟩ := opn_27 hf
    exact ⟨u, ⟨_, hr, by show Value.agg c0 = Value.agg _; simp [Value.cells]⟩, hw⟩
  obtain ⟨a1, rfl, rfl, rfl, y1⟩ := open_int Try.underlying3 (hval 1 3 v1 rfl rfl) h1
  have w1 : okI .i64 a1 := okI_of y1
  obtain ⟨a2, rfl, rfl, rfl, y2⟩ := open_string Try.underlying9 (hval 2 9 v2 rfl rfl) h2
  have w2 : okS a2 := y2
  clear hA0 hval0 hsz0
  refine (law4_TrigramAddMatchesSpec.calls (fun b hb => hb) s0 a1 a2 (Pure.TrigramAddMatchesSpec w0 w1 w2)).mono fun e W' ⟨v, he, hp⟩ => ?_
  subst he
  obtain ⟨F', rfl, hk⟩ := hp
  have bel := hk.below
  exact ⟨_, rfl, _, _, _, [], _, [], hW', trodAll_mk1 (shut_bool Try.underlying4 _), (trodAll_cons_mk (Below.trod laidOut (by kernel_rfl) (of_decide_eq_true (by kernel_rfl)) k0 bel lt0) (trodAll_cons_mk (shut_int Try.underlying3 y1) (trodAll_cons_mk (shut_string Try.underlying9 y2) trodAll_mk0))), rfl, bel.frame _, fun h => by cases h⟩
theorem over : Rows.trigramAddMatchesSpecRow.holds Try.pinned (OpenSpec.ofChange Rows.trigramAddMatchesSpecSpec) :=
  OpenClaim.holds_of_wide 7 Try.f7 rfl rfl rfl rfl rfl rfl rfl ⟨rfl, rfl, rfl, rfl, rfl⟩ rfl rfl rfl rfl rfl (by kernel_rfl) Try.func7 (by kernel_rfl)
    (of_decide_eq_true (by kernel_rfl)) (by unfold Func.isWrapper; first | (rw [if_pos (by decide +kernel)]; kernel_rfl) | (rw [if_neg (by decide +kernel)]; exact ⟨rfl, rfl⟩))
    (fun os started H enc _ => lifted os started H enc)
theorem proved : Rows.TrigramAddMatchesSpecSaid := over
end Go.Proofs.Ytoiafcpnhhplnaa.trigramAddMatchesSpec
namespace Go.Proofs.Ytoiafcpnhhplnaa
/-- The row, under a short name, for the claim. -/
theorem trigramAddMatchesSpec_holds : Rows.TrigramAddMatchesSpecSaid := trigramAddMatchesSpec.proved
end Go.Proofs.Ytoiafcpnhhplnaa
