/- The machine's calls come to these plain functions (written by a program, wip/fx/gen.py). -/
import Derived.Test.YtenkbkcddcnmeaaDoorPA
import Derived.Test.YtenkbkcddcnmeaaDoorNm
import Derived.Test.YtenkbkcddcnmeaaDoorSl
import Derived.Test.YtenkbkcddcnmeaaDoorIn
import Derived.Test.YtenkbkcddcnmeaaDoorIt
import Derived.Test.YtenkbkcddcnmeaaDoorFx17
namespace Go.Proofs.YtenkbkcddcnmeaaDoor
open Go.Fx Go.RowKit
set_option linter.unusedVariables false

namespace ref3_Has
section
abbrev c0 (F : BSet) (w : World) (ρ : Env) (s : S) (X : Prop) : Prop := SlR (kInt .i64) F w (ρ 0) s.l_0 ∧ ρ 1 = .int .i64 s.n_1 ∧ X
def G0 : GT S := fun w0 F0 s ρ w => ∃ F, Wk nrow w0 F0 F w ∧ SlR (kInt .i64) F w (ρ 0) s.l_0 ∧ ρ 1 = .int .i64 s.n_1
def G1 : GT S := fun w0 F0 s ρ w => ∃ F, Wk nrow w0 F0 F w ∧ c0 F w ρ s (ρ 5 = .int .i64 s.i_5)
def G2 : GT S := fun w0 F0 s ρ w => ∃ F, Wk nrow w0 F0 F w ∧ c0 F w ρ s (ρ 5 = .int .i64 s.i_5 ∧ ρ 9 = .bool s.t_9)
def G3 : GT S := fun w0 F0 s ρ w => ∃ F, Wk nrow w0 F0 F w
def G4 : GT S := fun w0 F0 s ρ w => ∃ F, Wk nrow w0 F0 F w ∧ c0 F w ρ s (ρ 5 = .int .i64 s.i_5 ∧ ρ 17 = .bool s.t_17)
def G5 : GT S := fun w0 F0 s ρ w => ∃ F, Wk nrow w0 F0 F w ∧ ρ 4 = .bool s.t_4
set_option maxHeartbeats 4000000 in
set_option maxRecDepth 20000 in
theorem ref (w0 : World) (F0 : BSet) : ∃ c, Tryd.f18.body = some c ∧ Ref Tryd.prog 18 c (G0 w0 F0) body (fun _ _ _ => False) (fun _ _ _ _ => False) (fun r ρ w => ∃ s, retv s = r ∧ G5 w0 F0 s ρ w) := by
  refine ⟨_, rfl, ?_⟩; unfold body; refine Ref.seq (B := G0 w0 F0) ?_ ?_
  · refine Ref.region (fun s ρ w s' h hr => ?_); obtain ⟨F, hW, h0, h1⟩ := h; refine ol_a rfl ?_; exact ol_fin hr ⟨F, hW, h0, h1⟩
  refine Ref.seq (B := G3 w0 F0) ?_ ?_
  · refine Ref.seq (B := G1 w0 F0) ?_ ?_
    · refine Ref.region (fun s ρ w s' h hr => ?_); obtain ⟨F, hW, h0, h1⟩ := h; refine ol_a rfl ?_; exact ol_fin hr ⟨F, hW, h0, h1, rfl⟩
    refine Ref.block ?_; refine Ref.loop ?_; refine Ref.seq (B := G1 w0 F0) ?_ ?_
    · refine Ref.seq (B := G2 w0 F0) ?_ ?_
      · refine Ref.region (fun s ρ w s' h hr => ?_); obtain ⟨F, hW, h0, h1, h5⟩ := h; refine ol_m h5 ?_; refine ol_m rfl ?_; obtain ⟨A1, c2, e3, hc4, R5⟩ := id h0; refine ol_v (e_len (SlT.sl sl_30) e3) rfl ?_; refine ol_v (e_lss rfl rfl) rfl ?_; exact ol_fin hr ⟨F, hW, h0, h1, h5, rfl⟩
      refine Ref.condP (b := fun s => s.t_9) (L := G1 w0 F0) (K := G3 w0 F0) ?_ ?_ ?_
      · rintro s ρ w ⟨F, hW, h0, h1, h5, h9⟩; exact ⟨h9, ⟨F, hW, h0, h1, h5⟩, F, hW⟩
      · exact Ref.skip
      · exact Ref.exit (fun s ρ w h => h)
    refine Ref.seq (B := G1 w0 F0) ?_ ?_
    · refine Ref.block ?_; refine Ref.seq (B := G4 w0 F0) ?_ ?_
      · refine Ref.region (fun s ρ w s' h hr => ?_); obtain ⟨F, hW, h0, h1, h5⟩ := h; refine ol_m rfl ?_; refine ol_m h5 ?_; obtain ⟨x6, hx6, hr⟩ := bind_some' hr; obtain ⟨A7, c8, e9, hc10, R11⟩ := id h0; obtain ⟨b12, o13, hA14, L15⟩ := Row.at_ R11 hx6; refine ol_v (e_ix (SlT.sl sl_30) (SlT.sz sl_30) hA14 hx6 e9 rfl) rfl ?_; refine ol_v (e_ld ty_3 (LiesV.int L15.at_) rfl) rfl ?_; refine ol_m h1 ?_; refine ol_v (e_eql rfl rfl) rfl ?_; exact ol_fin hr ⟨F, hW, h0, h1, h5, rfl⟩
      refine Ref.condP (b := fun s => s.t_17) (L := G3 w0 F0) (K := G1 w0 F0) ?_ ?_ ?_
      · rintro s ρ w ⟨F, hW, h0, h1, h5, h17⟩; exact ⟨h17, ⟨F, hW⟩, F, hW, h0, h1, h5⟩
      · refine Ref.seq (B := G5 w0 F0) ?_ ?_
        · refine Ref.region (fun s ρ w s' h hr => ?_); obtain ⟨F, hW⟩ := h; refine ol_a rfl ?_; exact ol_fin hr ⟨F, hW, rfl⟩
        exact Ref.ret (fun s ρ w h => ⟨s, rfl, h⟩)
      · exact Ref.skip
    refine Ref.region (fun s ρ w s' h hr => ?_); obtain ⟨F, hW, h0, h1, h5⟩ := h; refine ol_m h5 ?_; refine ol_v (e_add rfl rfl) rfl ?_; refine ol_a rfl ?_; exact ol_fin hr ⟨F, hW, h0, h1, rfl⟩
  refine Ref.seq (B := G5 w0 F0) ?_ ?_
  · refine Ref.region (fun s ρ w s' h hr => ?_); obtain ⟨F, hW⟩ := h; refine ol_a rfl ?_; exact ol_fin hr ⟨F, hW, rfl⟩
  exact Ref.ret (fun s ρ w h => ⟨s, rfl, h⟩)
def post (w : World) (F : BSet) (r : R) (v : Value) (w' : World) : Prop := ∃ (F' : BSet), v = .bool r ∧ Wk nrow w F F' w'
theorem calls {w : World} {F : BSet} (hok : ∀ b, F b → b < w.heap.size) {v0 : Value} {a0 : (List Int)} (h0 : SlR (kInt .i64) F w v0 a0) (a1 : Int) {r : R} (hf : f a0 a1 = some r) : Calls Tryd.prog 18 #[v0, .int .i64 a1] w fun e w' => ∃ v, e = .returned v ∧ post w F r v w' := by
  obtain ⟨c, hc, href⟩ := ref w F; refine calls_of_ref (args := [v0, .int .i64 a1]) _ Tryd.func18 hc rfl rfl href ?_ (retOf_some hf) ?_
  · exact ⟨F, Wk.refl hok, h0, rfl⟩
  · rintro ρ w' a ⟨s, rfl, F', hW, h4⟩ hF; refine ⟨_, run_results (rs := [.tmp 4]) rfl hF (vs := [ρ 4]) (⟨_, rfl, rfl⟩), ?_⟩; have hv : resVal [ρ 4] = .bool s.t_4 := by rw [h4]; rfl
    exact ⟨F', hv, hW⟩
end
end ref3_Has

end Go.Proofs.YtenkbkcddcnmeaaDoor
