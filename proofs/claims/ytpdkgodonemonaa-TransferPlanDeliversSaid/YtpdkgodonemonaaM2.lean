/- The machine's calls come to these plain functions (written by a program, wip/fx/gen.py). -/
import Derived.Test.YtpdkgodonemonaaPA
import Derived.Test.YtpdkgodonemonaaNm
import Derived.Test.YtpdkgodonemonaaIt
import Derived.Test.YtpdkgodonemonaaSl
namespace Go.Proofs.Ytpdkgodonemonaa
open Go.Fx Go.RowKit
set_option linter.unusedVariables false

namespace ref4_FrameCount
section
def G0 (w0 : World) (F0 : BSet) (s : S) (ρ : Env) (w : World) : Prop := ∃ (F : BSet), Wk nrow w0 F0 F w ∧ SlR kByte F w (ρ 0) s.data_0
def G1 (w0 : World) (F0 : BSet) (s : S) (ρ : Env) (w : World) : Prop := ∃ (F : BSet), Wk nrow w0 F0 F w ∧ ρ 2 = .int .i64 s.t_2
set_option maxHeartbeats 4000000 in
set_option maxRecDepth 20000 in
theorem ref (w0 : World) (F0 : BSet) : ∃ c, Try.f12.body = some c ∧ Ref Try.prog 8 c (G0 w0 F0) body (fun _ _ _ => False) (fun _ _ _ _ => False) (fun r ρ w => ∃ s, retv s = r ∧ G1 w0 F0 s ρ w) := by
  refine ⟨_, rfl, ?_⟩
  unfold body
  refine Ref.seq (B := G0 w0 F0) ?_ ?_
  · refine Ref.region (fun s ρ w s' h hr => ?_)
    obtain ⟨F, hW, h0⟩ := h
    refine ol_v (e_as _ rfl) rfl ?_
    obtain rfl := Option.some.inj hr
    exact ol_nil ⟨F, hW, h0⟩
  refine Ref.seq (B := G1 w0 F0) ?_ ?_
  · refine Ref.region (fun s ρ w s' h hr => ?_)
    obtain ⟨F, hW, h0⟩ := h
    refine ol_v (e_mv _ rfl) rfl ?_
    obtain ⟨A1, c2, e3, hc4, R5⟩ := id h0
    refine ol_v (e_len (SlT.sl sl_22) e3) rfl ?_
    refine ol_v (e_add rfl rfl) rfl ?_
    refine ol_v (e_sub rfl rfl) rfl ?_
    refine ol_v (e_quo rfl rfl (by decide)) rfl ?_
    refine ol_v (e_as _ rfl) rfl ?_
    obtain rfl := Option.some.inj hr
    exact ol_nil ⟨F, hW, rfl⟩
  exact Ref.ret (fun s ρ w h => ⟨s, rfl, h⟩)
def post (w : World) (F : BSet) (r : R) (v : Value) (w' : World) : Prop := ∃ (F' : BSet), v = .int .i64 r ∧ Wk nrow w F F' w'
theorem calls {w : World} {F : BSet} (hok : ∀ b, F b → b < w.heap.size) {v0 : Value} {a0 : (List UInt8)} (h0 : SlR kByte F w v0 a0) {r : R} (hf : f a0 = some r) : Calls Try.prog 12 #[v0] w fun e w' => ∃ v, e = .returned v ∧ post w F r v w' := by
  obtain ⟨c, hc, href⟩ := ref w F
  refine calls_of_ref (args := [v0]) _ Try.func12 hc rfl rfl href ?_ (retOf_some hf) ?_
  · exact ⟨F, Wk.refl hok, h0⟩
  · rintro ρ w' a ⟨s, rfl, F', hW, h2⟩ hF
    refine ⟨_, run_results (rs := [.tmp 2]) rfl hF (vs := [ρ 2]) (⟨_, rfl, rfl⟩), ?_⟩
    have hv : resVal [ρ 2] = .int .i64 s.t_2 := by rw [h2]; rfl
    exact ⟨F', hv, hW⟩
end
end ref4_FrameCount

end Go.Proofs.Ytpdkgodonemonaa
