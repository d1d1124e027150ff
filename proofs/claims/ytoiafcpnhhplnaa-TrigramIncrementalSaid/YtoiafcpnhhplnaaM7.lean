/- The machine's calls come to these plain functions (written by a program, wip/fx/gen.py). -/
import Derived.Test.YtoiafcpnhhplnaaPA
import Derived.Test.YtoiafcpnhhplnaaNm
import Derived.Test.YtoiafcpnhhplnaaSl
import Derived.Test.YtoiafcpnhhplnaaIn
import Derived.Test.YtoiafcpnhhplnaaInP
import Derived.Test.YtoiafcpnhhplnaaFx15
namespace Go.Proofs.Ytoiafcpnhhplnaa
open Go.Fx Go.RowKit
set_option linter.unusedVariables false

namespace ref3_In
section
def G0 : GT S := fun w0 F0 s ρ w => ∃ F, Wk nrow w0 F0 F w ∧ ρ 0 = .int .i64 s.n_0 ∧ ρ 1 = .int .i64 s.low_1 ∧ ρ 2 = .int .i64 s.high_2
def G1 : GT S := fun w0 F0 s ρ w => ∃ F, Wk nrow w0 F0 F w ∧ ρ 6 = .bool s.t_6
set_option maxHeartbeats 4000000 in
set_option maxRecDepth 20000 in
theorem ref (w0 : World) (F0 : BSet) : ∃ c, Try.f23.body = some c ∧ Ref Try.prog 15 c (G0 w0 F0) body (fun _ _ _ => False) (fun _ _ _ _ => False) (fun r ρ w => ∃ s, retv s = r ∧ G1 w0 F0 s ρ w) := by
  refine ⟨_, rfl, ?_⟩; unfold body; refine Ref.seq (B := G0 w0 F0) ?_ ?_
  · refine Ref.region (fun s ρ w s' h hr => ?_); obtain ⟨F, hW, h0, h1, h2⟩ := h; refine ol_a rfl ?_; exact ol_fin hr ⟨F, hW, h0, h1, h2⟩
  refine Ref.seq (B := G1 w0 F0) ?_ ?_
  · refine Ref.region (fun s ρ w s' h hr => ?_); obtain ⟨F, hW, h0, h1, h2⟩ := h; refine ol_m h0 ?_; refine ol_m h1 ?_; refine ol_v (e_geq rfl rfl) rfl ?_; refine ol_cutA 5 10 14 (fun ρ' w' => w = w' ∧ ρ' 14 = .bool ((decide (s.low_1 ≤ s.n_0)) && (decide (s.n_0 ≤ s.high_2)))) rfl ?_ ?_
    · by_cases hb1 : (decide (s.low_1 ≤ s.n_0)) = true
      · refine ol_m rfl ?_; refine ol_yes rfl rfl (congrArg Value.bool hb1) ?_; refine ol_m h0 ?_; refine ol_yes rfl rfl (congrArg Value.bool hb1) ?_; refine ol_m h2 ?_; refine ol_yes rfl rfl (congrArg Value.bool hb1) ?_; refine ol_v (e_leq rfl rfl) rfl ?_; refine ol_v (e_pick true _ (congrArg Value.bool hb1) rfl) rfl ?_; exact ol_nil ⟨⟨rfl, (bv_and_t hb1)⟩, (Agr.refl _ _ _).u.u.u.u.u⟩
      · have hb2 := Bool.eq_false_iff.mpr hb1; refine ol_m rfl ?_; refine ol_not rfl rfl rfl (congrArg Value.bool hb2) rfl ?_; refine ol_not rfl rfl rfl (congrArg Value.bool hb2) rfl ?_; refine ol_not rfl rfl rfl (congrArg Value.bool hb2) rfl ?_; refine ol_v (e_pick false _ (congrArg Value.bool hb2) rfl) rfl ?_; exact ol_nil ⟨⟨rfl, (bv_and_f hb2)⟩, (Agr.refl _ _ _).u.u.u.u.u⟩
    rintro ρ3 _ ⟨⟨rfl, hp3⟩, hAg3⟩; refine ol_a hp3 ?_; exact ol_fin hr ⟨F, hW, rfl⟩
  exact Ref.ret (fun s ρ w h => ⟨s, rfl, h⟩)
def post (w : World) (F : BSet) (r : R) (v : Value) (w' : World) : Prop := ∃ (F' : BSet), v = .bool r ∧ Wk nrow w F F' w'
theorem calls {w : World} {F : BSet} (hok : ∀ b, F b → b < w.heap.size) (a0 : Int) (a1 : Int) (a2 : Int) {r : R} (hf : f a0 a1 a2 = some r) : Calls Try.prog 23 #[.int .i64 a0, .int .i64 a1, .int .i64 a2] w fun e w' => ∃ v, e = .returned v ∧ post w F r v w' := by
  obtain ⟨c, hc, href⟩ := ref w F; refine calls_of_ref (args := [.int .i64 a0, .int .i64 a1, .int .i64 a2]) _ Try.func23 hc rfl rfl href ?_ (retOf_some hf) ?_
  · exact ⟨F, Wk.refl hok, rfl, rfl, rfl⟩
  · rintro ρ w' a ⟨s, rfl, F', hW, h6⟩ hF; refine ⟨_, run_results (rs := [.tmp 6]) rfl hF (vs := [ρ 6]) (⟨_, rfl, rfl⟩), ?_⟩; have hv : resVal [ρ 6] = .bool s.t_6 := by rw [h6]; rfl
    exact ⟨F', hv, hW⟩
end
end ref3_In

end Go.Proofs.Ytoiafcpnhhplnaa
