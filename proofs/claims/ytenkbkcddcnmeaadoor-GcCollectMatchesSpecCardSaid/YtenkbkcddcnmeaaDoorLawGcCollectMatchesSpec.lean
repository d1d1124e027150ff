/- The row of the law GcCollectMatchesSpec (its frame by wip/fx/row.py). -/
import Derived.Test.YtenkbkcddcnmeaaDoorRows
import Derived.Test.YtenkbkcddcnmeaaDoorM12
import Derived.Test.YtenkbkcddcnmeaaDoorOp
import Derived.Test.YtenkbkcddcnmeaaDoorPureGcCollectMatchesSpec
import Derived.ChangeMaps5
import Derived.WalkKit
import Derived.ProofKit
import Derived.OpenShut
import Derived.ShutString
import Derived.ChangeOld
import Derived.Below
import Derived.SizedLaws
import Derived.Lay
import Derived.Deep.DeepHandedRow
import Derived.SevenTiedAt
import Derived.Test.YtenkbkcddcnmeaaDoorTie
import Derived.Test.YtenkbkcddcnmeaaDoorCards
namespace Go.Proofs.YtenkbkcddcnmeaaDoor.gcCollectMatchesSpec
open Go.Fx Go.ChangeShapes Go.WideShapes Go.ChangeAt Go.RowKit
open Go.ChangeMaps (open_string shut_string)
set_option linter.unusedVariables false
theorem own : ownKnob Tryd.prog.godebug = none := by kernel_rfl
theorem laidOut : laidOutB Tryd.prog = true := by kernel_rfl
theorem glW {W : World} (h : ∃ m : Int, W.cell? ⟨2, 0, none⟩ = some (.int .i64 m)) : GL 2 (allF W) W := by
  refine ⟨?_, h⟩
  obtain ⟨m, hm⟩ := h
  refine Classical.byContradiction fun hn => ?_
  have hs : W.heap[(2 : Nat)]? = none := Array.getElem?_eq_none (Nat.le_of_not_lt hn)
  simp [World.cell?, hs] at hm
theorem laidH (os : Os) (args : Array Value) : laidMetH Tryd.prog Rows.gcCollectMatchesSpecRow.laid ((World.laidAll Tryd.prog os Rows.gcCollectMatchesSpecRow.laid).forCall (fun _ _ => 0) ⟨#[], args, []⟩).memory := by
  have h := laidMet_laidAll (P := Tryd.prog) (os := os) (laid := Rows.gcCollectMatchesSpecRow.laid) args (by kernel_rfl) (by kernel_rfl)
  have e : (Rows.gcCollectMatchesSpecRow.laid.filter fun x => x.2.handleName?.isSome) = [] := by kernel_rfl
  unfold laidMetH
  rw [e]
  exact h
set_option maxRecDepth 100000 in
theorem lifted (os : Os) (started : os.Started) (H : Type) (enc : TypeId × Value → H) :
    ReturnsInHanded {} Tryd.checked os 3 .any ((OpenSpec.ofChange Rows.gcCollectMatchesSpecSpec).preRow enc Tryd.prog Tryd.f3 Rows.gcCollectMatchesSpecRow.domain false Rows.gcCollectMatchesSpecRow.laid) (Rows.gcCollectMatchesSpecSpec.post enc Tryd.prog Tryd.f3 false true false false) := by
  refine returnsInHanded_of_row (C := Tryd.checked) (s := OpenSpec.ofChange Rows.gcCollectMatchesSpecSpec) (F := fun _ _ _ => 0) own started (by kernel_rfl) Tryd.func3
    (witness_row_at (enc := enc) (C := Tryd.checked) false (World.laidAll Tryd.prog os Rows.gcCollectMatchesSpecRow.laid) #[.agg #[.slice none 0 0], .agg #[.slice none 0 0], .slice none 0 0, .int .i64 0] (World.laidAll_os _ _ _) (by kernel_rfl) (by kernel_rfl) (by kernel_rfl) (OpenSpec.preRow_of_B rfl 8 (by kernel_rfl) (by kernel_rfl) (laidH os _))) ?_
  intro W base args ds gs before hval0 hW hcnd _ hsz0 _ hsh _
  have hval : ∀ (j : Nat) t v, Tryd.f3.params[j]? = some t → args[j]? = some v → Value.okWide Tryd.prog W .any base t v := hval0
  have hW' := hW
  obtain ⟨p, q, hA0, hV, rfl, hfz, hnd⟩ := hW
  have hA : DataW.TrodAll enc Tryd.prog W 0 (fun _ => true) true Tryd.f3.params.toList args.toList ds p := hA0
  rw [Tryd.params3] at hA hval
  obtain ⟨v0, vs0, d0, ds0, p0, q0, hargs, rfl, rfl, h0, r0⟩ := trodAll_cons hA
  obtain ⟨v1, vs1, d1, ds1, p1, q1, rfl, rfl, rfl, h1, r1⟩ := trodAll_cons r0
  obtain ⟨v2, vs2, d2, ds2, p2, q2, rfl, rfl, rfl, h2, r2⟩ := trodAll_cons r1
  obtain ⟨v3, vs3, d3, ds3, p3, q3, rfl, rfl, rfl, h3, r3⟩ := trodAll_cons r2
  obtain ⟨rfl, rfl, rfl⟩ := trodAll_nil r3
  obtain rfl : args = #[v0, v1, v2, v3] := by cases args; simp_all
  obtain ⟨rfl, rfl⟩ := trodVars_none hV
  obtain ⟨c0, rfl, cz0⟩ := okWide_struct Tryd.underlying24 (hval 0 24 v0 rfl rfl)
  have k0 := h0
  have lt0 : ∀ x ∈ p0, x.block < W.heap.size := by obtain ⟨m, hm⟩ := k0; exact DataW.trod_lt m _ _ _ hm
  obtain ⟨a0, s0, w0⟩ : ∃ u, Val k_ObjectStore (allF W) W (.agg c0) u ∧ ok_ObjectStore u := by
    obtain ⟨fuel, hf⟩ := h0
    obtain ⟨u, hr, hw⟩ := opn_24 hf
    exact ⟨u, ⟨_, hr, by show Value.agg c0 = Value.agg _; simp [Value.cells]⟩, hw⟩
  obtain ⟨c1, rfl, cz1⟩ := okWide_struct Tryd.underlying27 (hval 1 27 v1 rfl rfl)
  have k1 := h1
  have lt1 : ∀ x ∈ p1, x.block < W.heap.size := by obtain ⟨m, hm⟩ := k1; exact DataW.trod_lt m _ _ _ hm
  obtain ⟨a1, s1, w1⟩ : ∃ u, Val k_RefStore (allF W) W (.agg c1) u ∧ ok_RefStore u := by
    obtain ⟨fuel, hf⟩ := h1
    obtain ⟨u, hr, hw⟩ := opn_27 hf
    exact ⟨u, ⟨_, hr, by show Value.agg c1 = Value.agg _; simp [Value.cells]⟩, hw⟩
  obtain ⟨A2, len2, cap2, rfl⟩ := okWide_slice Tryd.underlying28 (hval 2 28 v2 rfl rfl)
  have k2 := h2
  have lt2 : ∀ x ∈ p2, x.block < W.heap.size := by obtain ⟨m, hm⟩ := k2; exact DataW.trod_lt m _ _ _ hm
  obtain ⟨a2, s2, w2⟩ : ∃ u, SlR k_Lease (allF W) W (.slice A2 len2 cap2) u ∧ okL ok_Lease u := by
    obtain ⟨fuel, hf⟩ := h2
    obtain ⟨u, ⟨v, hv, hs⟩, hw⟩ := opn_28 hf
    obtain rfl : _ = v := by simpa [Value.cells] using hv
    exact ⟨u, hs, hw⟩
  obtain ⟨a3, rfl, rfl, rfl, y3⟩ := open_int Tryd.underlying3 (hval 3 3 v3 rfl rfl) h3
  have w3 : okI .i64 a3 := okI_of y3
  clear hA0 hval0 hsz0
  refine (law4_GcCollectMatchesSpec.calls (fun b hb => hb) (glW (Tryd.layConM.s1_3 W hsh)) s0 s1 s2 a3 (Pure.GcCollectMatchesSpec w0 w1 w2 w3)).mono fun e W' ⟨v, he, hp⟩ => ?_
  subst he
  obtain ⟨F', rfl, hk⟩ := hp
  have bel := hk.below
  exact ⟨_, rfl, _, _, _, [], _, [], hW', trodAll_mk1 (shut_bool Tryd.underlying4 _), (trodAll_cons_mk (Below.trod laidOut (by kernel_rfl) (of_decide_eq_true (by kernel_rfl)) k0 bel lt0) (trodAll_cons_mk (Below.trod laidOut (by kernel_rfl) (of_decide_eq_true (by kernel_rfl)) k1 bel lt1) (trodAll_cons_mk (Below.trod laidOut (by kernel_rfl) (of_decide_eq_true (by kernel_rfl)) k2 bel lt2) (trodAll_cons_mk (shut_int Tryd.underlying3 y3) trodAll_mk0)))), rfl, bel.frame _, fun h => by cases h⟩
theorem over : Rows.gcCollectMatchesSpecRow.holds Tryd.pinned (OpenSpec.ofChange Rows.gcCollectMatchesSpecSpec) :=
  OpenClaim.holds_of_wide 3 Tryd.f3 rfl rfl rfl rfl rfl rfl rfl ⟨rfl, rfl, rfl, rfl, rfl⟩ rfl rfl rfl rfl rfl (by kernel_rfl) Tryd.func3 (by kernel_rfl)
    (of_decide_eq_true (by kernel_rfl)) (by unfold Func.isWrapper; first | (rw [if_pos (by decide +kernel)]; kernel_rfl) | (rw [if_neg (by decide +kernel)]; exact ⟨rfl, rfl⟩))
    (fun os started H enc _ => by rw [OpenClaim.pre_eq_preRow]; exact lifted os started H enc)
theorem proved : Rows.GcCollectMatchesSpecSaid := over
theorem want : ∀ t ∈ [3, 24, 27, 28], Tryd.prog.wantsStandIn t = false := by
  intro t ht
  simp only [List.mem_cons, List.mem_nil_iff, or_false] at ht
  rcases ht with rfl | rfl | rfl | rfl
  · kernel_rfl
  · kernel_rfl
  · kernel_rfl
  · kernel_rfl
set_option maxRecDepth 100000 in
theorem card : Rows.GcCollectMatchesSpecCardSaid :=
  Claim7.holds_tied_plain_at .later [] [.data, .pinned] true (true, "e735f3cdd02bd8967d66236f74743591e7ee9a4efc9c243e1c8247e2e4aafc04") false
    over (fun _ h => by cases h) (by kernel_rfl) (fun _ h => by cases h) gcCollectMatchesSpec_row_tie rfl ⟨rfl, rfl⟩ (by kernel_rfl) rfl
    (fun f fn hf hfn => by
      obtain rfl : f = 3 := Option.some.inj ((show Tryd.prog.funcNamed Rows.gcCollectMatchesSpecRow.func = some 3 by kernel_rfl).symm.trans hf) |>.symm
      obtain rfl : fn = Tryd.f3 := (Option.some.inj (Tryd.func3.symm.trans hfn)).symm
      refine ⟨by kernel_rfl, fun j t ht => want t ?_⟩
      rw [Tryd.params3] at ht
      have h := List.mem_of_getElem? (l := #[24, 27, 28, 3].toList) (by simpa using ht)
      simp only [List.mem_cons, List.mem_nil_iff, or_false] at h
      rcases h with rfl | rfl | rfl | rfl <;> simp)
    (by kernel_rfl)
end Go.Proofs.YtenkbkcddcnmeaaDoor.gcCollectMatchesSpec
namespace Go.Proofs.YtenkbkcddcnmeaaDoor
/-- The row, under a short name, for the claim. -/
theorem gcCollectMatchesSpec_holds : Rows.GcCollectMatchesSpecSaid := gcCollectMatchesSpec.proved
theorem gcCollectMatchesSpec_card : Rows.GcCollectMatchesSpecCardSaid := gcCollectMatchesSpec.card
end Go.Proofs.YtenkbkcddcnmeaaDoor
