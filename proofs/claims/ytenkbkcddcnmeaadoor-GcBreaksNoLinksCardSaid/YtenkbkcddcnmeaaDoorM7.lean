/- The machine's calls come to these plain functions (written by a program, wip/fx/gen.py). -/
import Derived.Test.YtenkbkcddcnmeaaDoorPA
import Derived.Test.YtenkbkcddcnmeaaDoorNm
import Derived.Test.YtenkbkcddcnmeaaDoorSl
import Derived.Test.YtenkbkcddcnmeaaDoorIn
import Derived.Test.YtenkbkcddcnmeaaDoorIt
import Derived.Test.YtenkbkcddcnmeaaDoorFx17
namespace Go.Proofs.YtenkbkcddcnmeaaDoor
open Go.Fx Go.RowKit
set_option linter.unusedVariables false

namespace ref3_At
section
abbrev c2 (ρ : Env) (g2 : Nat) (w0 w : World) (F : BSet) (s : S) (X : Prop) : Prop := ρ 2 = .pointer (some ⟨g2, 0, none⟩) ∧ Box k_ObjectStore 24 (Bs w0 nrow) F w g2 s.s_2 ∧ X
def G0 : GT S := fun w0 F0 s ρ w => ∃ F, Wk nrow w0 F0 F w ∧ Val k_ObjectStore F w (ρ 0) s.s_0 ∧ ρ 1 = .int .i64 s.d_1
def G1 : GT S := fun w0 F0 s ρ w => ∃ F, Wk nrow w0 F0 F w ∧ ∃ g2, ρ 1 = .int .i64 s.d_1 ∧ ρ 2 = .pointer (some ⟨g2, 0, none⟩) ∧ Box k_ObjectStore 24 (Bs w0 nrow) F w g2 s.s_2
def G2 : GT S := fun w0 F0 s ρ w => ∃ F, Wk nrow w0 F0 F w ∧ ∃ g2, ρ 1 = .int .i64 s.d_1 ∧ c2 ρ g2 w0 w F s (ρ 5 = .int .i64 s.i_5)
def G3 : GT S := fun w0 F0 s ρ w => ∃ F, Wk nrow w0 F0 F w ∧ ∃ g2, ρ 1 = .int .i64 s.d_1 ∧ c2 ρ g2 w0 w F s (ρ 5 = .int .i64 s.i_5 ∧ ρ 10 = .bool s.t_10)
def G4 : GT S := fun w0 F0 s ρ w => ∃ F, Wk nrow w0 F0 F w
def G5 : GT S := fun w0 F0 s ρ w => ∃ F, Wk nrow w0 F0 F w ∧ ∃ g2, ρ 1 = .int .i64 s.d_1 ∧ c2 ρ g2 w0 w F s (ρ 5 = .int .i64 s.i_5 ∧ ρ 20 = .bool s.t_20)
def G6 : GT S := fun w0 F0 s ρ w => ∃ F, Wk nrow w0 F0 F w ∧ ρ 5 = .int .i64 s.i_5
def G7 : GT S := fun w0 F0 s ρ w => ∃ F, Wk nrow w0 F0 F w ∧ ρ 4 = .int .i64 s.t_4
set_option maxHeartbeats 4000000 in
set_option maxRecDepth 20000 in
theorem ref (w0 : World) (F0 : BSet) : ∃ c, Tryd.f19.body = some c ∧ Ref Tryd.prog 22 c (G0 w0 F0) body (fun _ _ _ => False) (fun _ _ _ _ => False) (fun r ρ w => ∃ s, retv s = r ∧ G7 w0 F0 s ρ w) := by
  refine ⟨_, rfl, ?_⟩; unfold body; refine Ref.seq (B := G1 w0 F0) ?_ ?_
  · refine Ref.region (fun s ρ w s' h hr => ?_); obtain ⟨F, hW, h0, h1⟩ := h; refine ol_e (f_box hW rfl h0) rfl rfl ?_; rintro _ w4 ⟨g3, rfl, kw1, ho5⟩; have hW6 := hW.trans kw1; have st1 := kw1.stp hW.ok; refine ol_a rfl ?_; exact ol_fin hr ⟨F, hW6, g3, h1, rfl, (ho5.base (row := nrow) hW.le)⟩
  refine Ref.seq (B := G4 w0 F0) ?_ ?_
  · refine Ref.seq (B := G2 w0 F0) ?_ ?_
    · refine Ref.region (fun s ρ w s' h hr => ?_); obtain ⟨F, hW, g2, h1, p2, h2⟩ := h; refine ol_a rfl ?_; exact ol_fin hr ⟨F, hW, g2, h1, p2, h2, rfl⟩
    refine Ref.block ?_; refine Ref.loop ?_; refine Ref.seq (B := G2 w0 F0) ?_ ?_
    · refine Ref.seq (B := G3 w0 F0) ?_ ?_
      · refine Ref.region (fun s ρ w s' h hr => ?_); obtain ⟨F, hW, g2, h1, p2, h2, h5⟩ := h; refine ol_m h5 ?_; refine ol_v (e_fa fa_24_0 p2) rfl ?_; obtain ⟨v7, hl8, hs9⟩ := LiesV.sl ((h2).at_.fld fl_ObjectStore_0); refine ol_v (e_ld ty_22 hl8 rfl) rfl ?_; obtain ⟨A10, c11, e12, hc13, R14⟩ := id hs9; refine ol_v (e_len (SlT.sl sl_22) e12) rfl ?_; refine ol_v (e_lss rfl rfl) rfl ?_; exact ol_fin hr ⟨F, hW, g2, h1, p2, h2, h5, rfl⟩
      refine Ref.condP (b := fun s => s.t_10) (L := G2 w0 F0) (K := G4 w0 F0) ?_ ?_ ?_
      · rintro s ρ w ⟨F, hW, g2, h1, p2, h2, h5, h10⟩; exact ⟨h10, ⟨F, hW, g2, h1, p2, h2, h5⟩, F, hW⟩
      · exact Ref.skip
      · exact Ref.exit (fun s ρ w h => h)
    refine Ref.seq (B := G2 w0 F0) ?_ ?_
    · refine Ref.block ?_; refine Ref.seq (B := G5 w0 F0) ?_ ?_
      · refine Ref.region (fun s ρ w s' h hr => ?_); obtain ⟨F, hW, g2, h1, p2, h2, h5⟩ := h; refine ol_v (e_fa fa_24_0 p2) rfl ?_; obtain ⟨v15, hl16, hs17⟩ := LiesV.sl ((h2).at_.fld fl_ObjectStore_0); refine ol_v (e_ld ty_22 hl16 rfl) rfl ?_; refine ol_m h5 ?_; obtain ⟨x18, hx18, hr⟩ := bind_some' hr; obtain ⟨A19, c20, e21, hc22, R23⟩ := id hs17; obtain ⟨b24, o25, hA26, L27⟩ := Row.at_ R23 hx18; refine ol_v (e_ix (SlT.sl sl_22) (SlT.sz sl_22) hA26 hx18 e21 rfl) rfl ?_; refine ol_v (e_fa fa_50_0 rfl) rfl ?_; refine ol_v (e_ld ty_3 (LiesV.int (L27.fld fl_StoredObject_0).at_) rfl) rfl ?_; refine ol_m h1 ?_; refine ol_v (e_eql rfl rfl) rfl ?_; exact ol_fin hr ⟨F, hW, g2, h1, p2, h2, h5, rfl⟩
      refine Ref.condP (b := fun s => s.t_20) (L := G6 w0 F0) (K := G2 w0 F0) ?_ ?_ ?_
      · rintro s ρ w ⟨F, hW, g2, h1, p2, h2, h5, h20⟩; exact ⟨h20, ⟨F, hW, h5⟩, F, hW, g2, h1, p2, h2, h5⟩
      · refine Ref.seq (B := G7 w0 F0) ?_ ?_
        · refine Ref.region (fun s ρ w s' h hr => ?_); obtain ⟨F, hW, h5⟩ := h; refine ol_m h5 ?_; refine ol_a rfl ?_; exact ol_fin hr ⟨F, hW, rfl⟩
        exact Ref.ret (fun s ρ w h => ⟨s, rfl, h⟩)
      · exact Ref.skip
    refine Ref.region (fun s ρ w s' h hr => ?_); obtain ⟨F, hW, g2, h1, p2, h2, h5⟩ := h; refine ol_m h5 ?_; refine ol_v (e_add rfl rfl) rfl ?_; refine ol_a rfl ?_; exact ol_fin hr ⟨F, hW, g2, h1, p2, h2, rfl⟩
  refine Ref.seq (B := G7 w0 F0) ?_ ?_
  · refine Ref.region (fun s ρ w s' h hr => ?_); obtain ⟨F, hW⟩ := h; refine ol_a rfl ?_; exact ol_fin hr ⟨F, hW, rfl⟩
  exact Ref.ret (fun s ρ w h => ⟨s, rfl, h⟩)
def post (w : World) (F : BSet) (r : R) (v : Value) (w' : World) : Prop := ∃ (F' : BSet), v = .int .i64 r ∧ Wk nrow w F F' w'
theorem calls {w : World} {F : BSet} (hok : ∀ b, F b → b < w.heap.size) {v0 : Value} {a0 : ObjectStore} (h0 : Val k_ObjectStore F w v0 a0) (a1 : Int) {r : R} (hf : f a0 a1 = some r) : Calls Tryd.prog 19 #[v0, .int .i64 a1] w fun e w' => ∃ v, e = .returned v ∧ post w F r v w' := by
  obtain ⟨c, hc, href⟩ := ref w F; refine calls_of_ref (args := [v0, .int .i64 a1]) _ Tryd.func19 hc rfl rfl href ?_ (retOf_some hf) ?_
  · exact ⟨F, Wk.refl hok, h0, rfl⟩
  · rintro ρ w' a ⟨s, rfl, F', hW, h4⟩ hF; refine ⟨_, run_results (rs := [.tmp 4]) rfl hF (vs := [ρ 4]) (⟨_, rfl, rfl⟩), ?_⟩; have hv : resVal [ρ 4] = .int .i64 s.t_4 := by rw [h4]; rfl
    exact ⟨F', hv, hW⟩
end
end ref3_At

end Go.Proofs.YtenkbkcddcnmeaaDoor
