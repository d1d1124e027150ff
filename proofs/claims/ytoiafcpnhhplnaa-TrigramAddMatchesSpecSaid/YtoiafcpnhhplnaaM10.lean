/- The machine's calls come to these plain functions (written by a program, wip/fx/gen.py). -/
import Derived.Test.YtoiafcpnhhplnaaPA
import Derived.Test.YtoiafcpnhhplnaaNm
import Derived.Test.YtoiafcpnhhplnaaM5
import Derived.Test.YtoiafcpnhhplnaaM6
import Derived.Test.YtoiafcpnhhplnaaM7
import Derived.Test.YtoiafcpnhhplnaaSl
import Derived.Test.YtoiafcpnhhplnaaIn
import Derived.Test.YtoiafcpnhhplnaaInP
import Derived.Test.YtoiafcpnhhplnaaFx15
namespace Go.Proofs.Ytoiafcpnhhplnaa
open Go.Fx Go.RowKit
set_option linter.unusedVariables false

namespace ref4_Increasing
section
def G0 : GT S := fun w0 F0 s ρ w => ∃ F, Wk nrow w0 F0 F w ∧ SlR (kInt .i64) F w (ρ 0) s.l_0
def G1 : GT S := fun w0 F0 s ρ w => ∃ F, Wk nrow w0 F0 F w ∧ SlR (kInt .i64) F w (ρ 0) s.l_0 ∧ ρ 3 = .int .i64 s.i_3
def G2 : GT S := fun w0 F0 s ρ w => ∃ F, Wk nrow w0 F0 F w ∧ SlR (kInt .i64) F w (ρ 0) s.l_0 ∧ ρ 3 = .int .i64 s.i_3 ∧ ρ 7 = .bool s.t_7
def G3 : GT S := fun w0 F0 s ρ w => ∃ F, Wk nrow w0 F0 F w
def G4 : GT S := fun w0 F0 s ρ w => ∃ F, Wk nrow w0 F0 F w ∧ SlR (kInt .i64) F w (ρ 0) s.l_0 ∧ ρ 3 = .int .i64 s.i_3 ∧ ρ 19 = .bool s.t_19
def G5 : GT S := fun w0 F0 s ρ w => ∃ F, Wk nrow w0 F0 F w ∧ ρ 2 = .bool s.t_2
set_option maxHeartbeats 4000000 in
set_option maxRecDepth 20000 in
theorem ref (w0 : World) (F0 : BSet) : ∃ c, Try.f40.body = some c ∧ Ref Try.prog 20 c (G0 w0 F0) body (fun _ _ _ => False) (fun _ _ _ _ => False) (fun r ρ w => ∃ s, retv s = r ∧ G5 w0 F0 s ρ w) := by
  refine ⟨_, rfl, ?_⟩; unfold body; refine Ref.seq (B := G0 w0 F0) ?_ ?_
  · refine Ref.region (fun s ρ w s' h hr => ?_); obtain ⟨F, hW, h0⟩ := h; refine ol_a rfl ?_; exact ol_fin hr ⟨F, hW, h0⟩
  refine Ref.seq (B := G3 w0 F0) ?_ ?_
  · refine Ref.seq (B := G1 w0 F0) ?_ ?_
    · refine Ref.region (fun s ρ w s' h hr => ?_); obtain ⟨F, hW, h0⟩ := h; refine ol_a rfl ?_; exact ol_fin hr ⟨F, hW, h0, rfl⟩
    refine Ref.block ?_; refine Ref.loop ?_; refine Ref.seq (B := G1 w0 F0) ?_ ?_
    · refine Ref.seq (B := G2 w0 F0) ?_ ?_
      · refine Ref.region (fun s ρ w s' h hr => ?_); obtain ⟨F, hW, h0, h3⟩ := h; refine ol_m h3 ?_; refine ol_m rfl ?_; obtain ⟨A1, c2, e3, hc4, R5⟩ := id h0; refine ol_v (e_len (SlT.sl sl_24) e3) rfl ?_; refine ol_v (e_lss rfl rfl) rfl ?_; exact ol_fin hr ⟨F, hW, h0, h3, rfl⟩
      refine Ref.condP (b := fun s => s.t_7) (L := G1 w0 F0) (K := G3 w0 F0) ?_ ?_ ?_
      · rintro s ρ w ⟨F, hW, h0, h3, h7⟩; exact ⟨h7, ⟨F, hW, h0, h3⟩, F, hW⟩
      · exact Ref.skip
      · exact Ref.exit (fun s ρ w h => h)
    refine Ref.seq (B := G1 w0 F0) ?_ ?_
    · refine Ref.block ?_; refine Ref.seq (B := G4 w0 F0) ?_ ?_
      · refine Ref.regionS (by kernel_rfl) (by kernel_rfl) (fun s ρ w ⟨F, hW, h0, h3⟩ => ⟨F, hW.drewS, h0.keep (sd hW), h3⟩) (fun s ρ w s' h hr => ?_); obtain ⟨F, hW, h0, h3⟩ := h; refine ol_m rfl ?_; refine ol_m h3 ?_; obtain ⟨x6, hx6, hr⟩ := bind_some' hr; obtain ⟨A7, c8, e9, hc10, R11⟩ := id h0; obtain ⟨b12, o13, hA14, L15⟩ := Row.at_ R11 hx6; refine ol_v (e_ix (SlT.sl sl_24) (SlT.sz sl_24) hA14 hx6 e9 rfl) rfl ?_; refine ol_v (e_ld ty_3 (LiesV.int L15.at_) rfl) rfl ?_; refine ol_m rfl ?_; refine ol_m h3 ?_; refine ol_v (e_sub rfl rfl) rfl ?_; obtain ⟨x16, hx16, hr⟩ := bind_some' hr; obtain ⟨A17, c18, e19, hc20, R21⟩ := id h0; obtain ⟨b22, o23, hA24, L25⟩ := Row.at_ R21 hx16; refine ol_v (e_ix (SlT.sl sl_24) (SlT.sz sl_24) hA24 hx16 e19 rfl) rfl ?_; refine ol_v (e_ld ty_3 (LiesV.int L25.at_) rfl) rfl ?_; refine ol_v (e_leq rfl rfl) rfl ?_; exact ol_fin hr ⟨F, hW, h0, h3, rfl⟩
      refine Ref.condP (b := fun s => s.t_19) (L := G3 w0 F0) (K := G1 w0 F0) ?_ ?_ ?_
      · rintro s ρ w ⟨F, hW, h0, h3, h19⟩; exact ⟨h19, ⟨F, hW⟩, F, hW, h0, h3⟩
      · refine Ref.seq (B := G5 w0 F0) ?_ ?_
        · refine Ref.region (fun s ρ w s' h hr => ?_); obtain ⟨F, hW⟩ := h; refine ol_a rfl ?_; exact ol_fin hr ⟨F, hW, rfl⟩
        exact Ref.ret (fun s ρ w h => ⟨s, rfl, h⟩)
      · exact Ref.skip
    refine Ref.region (fun s ρ w s' h hr => ?_); obtain ⟨F, hW, h0, h3⟩ := h; refine ol_m h3 ?_; refine ol_v (e_add rfl rfl) rfl ?_; refine ol_a rfl ?_; exact ol_fin hr ⟨F, hW, h0, rfl⟩
  refine Ref.seq (B := G5 w0 F0) ?_ ?_
  · refine Ref.region (fun s ρ w s' h hr => ?_); obtain ⟨F, hW⟩ := h; refine ol_a rfl ?_; exact ol_fin hr ⟨F, hW, rfl⟩
  exact Ref.ret (fun s ρ w h => ⟨s, rfl, h⟩)
def post (w : World) (F : BSet) (r : R) (v : Value) (w' : World) : Prop := ∃ (F' : BSet), v = .bool r ∧ Wk nrow w F F' w'
theorem calls {w : World} {F : BSet} (hok : ∀ b, F b → b < w.heap.size) {v0 : Value} {a0 : (List Int)} (h0 : SlR (kInt .i64) F w v0 a0) {r : R} (hf : f a0 = some r) : Calls Try.prog 40 #[v0] w fun e w' => ∃ v, e = .returned v ∧ post w F r v w' := by
  obtain ⟨c, hc, href⟩ := ref w F; refine calls_of_ref (args := [v0]) _ Try.func40 hc rfl rfl href ?_ (retOf_some hf) ?_
  · exact ⟨F, Wk.refl hok, h0⟩
  · rintro ρ w' a ⟨s, rfl, F', hW, h2⟩ hF; refine ⟨_, run_results (rs := [.tmp 2]) rfl hF (vs := [ρ 2]) (⟨_, rfl, rfl⟩), ?_⟩; have hv : resVal [ρ 2] = .bool s.t_2 := by rw [h2]; rfl
    exact ⟨F', hv, hW⟩
end
end ref4_Increasing

namespace ref4_IndexFault
section
abbrev c1 (ρ : Env) (g1 : Nat) (w0 w : World) (F : BSet) (s : S) (X : Prop) : Prop := ρ 1 = .pointer (some ⟨g1, 0, none⟩) ∧ Box k_TrigramIndex 27 (Bs w0 nrow) F w g1 s.t_1 ∧ X
abbrev c2 (ρ : Env) (g2 : Nat) (w0 w : World) (F : BSet) (s : S) (X : Prop) : Prop := ρ 2 = .pointer (some ⟨g2, 0, none⟩) ∧ Box k_Fault 29 (Bs w0 nrow) F w g2 s.t_2 ∧ X
abbrev c8 (ρ : Env) (s : S) (X : Prop) : Prop := ρ 4 = .int .i64 s.t_4 ∧ X
abbrev c10 (ρ : Env) (g5 : Nat) (w0 w : World) (F : BSet) (s : S) (X : Prop) : Prop := ρ 5 = .pointer (some ⟨g5, 0, none⟩) ∧ Box k_Posting 55 (Bs w0 nrow) F w g5 s.t_5 ∧ X
def G0 : GT S := fun w0 F0 s ρ w => ∃ F, Wk nrow w0 F0 F w ∧ Val k_TrigramIndex F w (ρ 0) s.t_0
def G1 : GT S := fun w0 F0 s ρ w => ∃ F, Wk nrow w0 F0 F w ∧ ∃ g1 g2, c1 ρ g1 w0 w F s (ρ 2 = .pointer (some ⟨g2, 0, none⟩) ∧ Box k_Fault 29 (Bs w0 nrow) F w g2 s.t_2)
def G2 : GT S := fun w0 F0 s ρ w => ∃ F, Wk nrow w0 F0 F w ∧ ∃ g1 g2, c1 ρ g1 w0 w F s (c2 ρ g2 w0 w F s (ρ 10 = .bool s.t_10))
def G3 : GT S := fun w0 F0 s ρ w => ∃ F, Wk nrow w0 F0 F w ∧ ∃ g2, ρ 2 = .pointer (some ⟨g2, 0, none⟩) ∧ Box k_Fault 29 (Bs w0 nrow) F w g2 s.t_2
def G4 : GT S := fun w0 F0 s ρ w => ∃ F, Wk nrow w0 F0 F w ∧ ∃ g1 g2, c1 ρ g1 w0 w F s (c2 ρ g2 w0 w F s (ρ 3 = .int .i64 s.t_3))
def G5 : GT S := fun w0 F0 s ρ w => ∃ F, Wk nrow w0 F0 F w ∧ ∃ g1 g2, c1 ρ g1 w0 w F s (c2 ρ g2 w0 w F s (ρ 3 = .int .i64 s.t_3 ∧ ρ 16 = .bool s.t_16))
def G6 : GT S := fun w0 F0 s ρ w => ∃ F, Wk nrow w0 F0 F w ∧ ∃ g1 g2, c1 ρ g1 w0 w F s (c2 ρ g2 w0 w F s (ρ 3 = .int .i64 s.t_3 ∧ ρ 25 = .bool s.t_25))
def G7 : GT S := fun w0 F0 s ρ w => ∃ F, Wk nrow w0 F0 F w ∧ ∃ g2, c2 ρ g2 w0 w F s (ρ 3 = .int .i64 s.t_3)
def G8 : GT S := fun w0 F0 s ρ w => ∃ F, Wk nrow w0 F0 F w ∧ ∃ g1 g2, c1 ρ g1 w0 w F s (c2 ρ g2 w0 w F s (ρ 3 = .int .i64 s.t_3 ∧ ρ 44 = .bool s.t_44))
def G9 : GT S := fun w0 F0 s ρ w => ∃ F, Wk nrow w0 F0 F w ∧ ∃ g1 g2, c1 ρ g1 w0 w F s (c2 ρ g2 w0 w F s (ρ 4 = .int .i64 s.t_4))
def G10 : GT S := fun w0 F0 s ρ w => ∃ F, Wk nrow w0 F0 F w ∧ ∃ g1 g2, c1 ρ g1 w0 w F s (c2 ρ g2 w0 w F s (c8 ρ s (ρ 52 = .bool s.t_52)))
def G11 : GT S := fun w0 F0 s ρ w => ∃ F, Wk nrow w0 F0 F w ∧ ∃ g1 g2 g5, c1 ρ g1 w0 w F s (c2 ρ g2 w0 w F s (c8 ρ s (ρ 5 = .pointer (some ⟨g5, 0, none⟩) ∧ Box k_Posting 55 (Bs w0 nrow) F w g5 s.t_5)))
def G12 : GT S := fun w0 F0 s ρ w => ∃ F, Wk nrow w0 F0 F w ∧ ∃ g1 g2 g5, c1 ρ g1 w0 w F s (c2 ρ g2 w0 w F s (c8 ρ s (c10 ρ g5 w0 w F s (ρ 63 = .bool s.t_63))))
def G13 : GT S := fun w0 F0 s ρ w => ∃ F, Wk nrow w0 F0 F w ∧ ∃ g2, c2 ρ g2 w0 w F s (ρ 4 = .int .i64 s.t_4)
def G14 : GT S := fun w0 F0 s ρ w => ∃ F, Wk nrow w0 F0 F w ∧ ∃ g1 g2 g5, c1 ρ g1 w0 w F s (c2 ρ g2 w0 w F s (c8 ρ s (c10 ρ g5 w0 w F s (ρ 91 = .bool s.t_91))))
def G15 : GT S := fun w0 F0 s ρ w => ∃ F, Wk nrow w0 F0 F w ∧ ∃ g1 g2 g5, c1 ρ g1 w0 w F s (c2 ρ g2 w0 w F s (c8 ρ s (c10 ρ g5 w0 w F s (ρ 6 = .int .i64 s.t_6))))
def G16 : GT S := fun w0 F0 s ρ w => ∃ F, Wk nrow w0 F0 F w ∧ ∃ g1 g2 g5, c1 ρ g1 w0 w F s (c2 ρ g2 w0 w F s (c8 ρ s (c10 ρ g5 w0 w F s (ρ 6 = .int .i64 s.t_6 ∧ ρ 98 = .bool s.t_98))))
def G17 : GT S := fun w0 F0 s ρ w => ∃ F, Wk nrow w0 F0 F w ∧ ∃ g1 g2 g5, c1 ρ g1 w0 w F s (c2 ρ g2 w0 w F s (c8 ρ s (c10 ρ g5 w0 w F s (ρ 6 = .int .i64 s.t_6 ∧ ρ 109 = .bool s.t_109))))
set_option maxHeartbeats 4000000 in
set_option maxRecDepth 20000 in
theorem ref (w0 : World) (F0 : BSet) : ∃ c, Try.f17.body = some c ∧ Ref Try.prog 113 c (G0 w0 F0) body (fun _ _ _ => False) (fun _ _ _ _ => False) (fun r ρ w => ∃ s, retv s = r ∧ G3 w0 F0 s ρ w) := by
  refine ⟨_, rfl, ?_⟩; unfold body; refine Ref.seq (B := G1 w0 F0) ?_ ?_
  · refine Ref.region (fun s ρ w s' h hr => ?_); obtain ⟨F, hW, h0⟩ := h; refine ol_e (f_box hW rfl h0) rfl rfl ?_; rintro _ w2 ⟨g1, rfl, kw1, ho3⟩; have hW4 := hW.trans kw1; have st1 := kw1.stp hW.ok; refine ol_e (f_alloc zer_29 hW4) rfl rfl ?_; rintro _ w6 ⟨g5, rfl, kw2, ho7⟩; have hW8 := hW4.trans kw2; have st2 := kw2.stp hW4.ok; exact ol_fin hr ⟨F, hW8, g1, g5, rfl, ((ho3.base (row := nrow) hW.le).wk kw2 hW4.ok), rfl, (ho7.base (row := nrow) hW4.le)⟩
  refine Ref.seq (B := G1 w0 F0) ?_ ?_
  · refine Ref.seq (B := G2 w0 F0) ?_ ?_
    · refine Ref.region (fun s ρ w s' h hr => ?_); obtain ⟨F, hW, g1, g2, p1, h1, p2, h2⟩ := h; refine ol_v (e_fa fa_27_0 p1) rfl ?_; obtain ⟨v9, hl10, hs11⟩ := LiesV.sl ((h1).at_.fld fl_TrigramIndex_0); refine ol_v (e_ld ty_24 hl10 rfl) rfl ?_; obtain ⟨A12, c13, e14, hc15, R16⟩ := id hs11; refine ol_v (e_len (SlT.sl sl_24) e14) rfl ?_; refine ol_v (e_gtr rfl rfl) rfl ?_; exact ol_fin hr ⟨F, hW, g1, g2, p1, h1, p2, h2, rfl⟩
    refine Ref.condP (b := fun s => s.t_10) (L := G3 w0 F0) (K := G1 w0 F0) ?_ ?_ ?_
    · rintro s ρ w ⟨F, hW, g1, g2, p1, h1, p2, h2, h10⟩; exact ⟨h10, ⟨F, hW, g2, p2, h2⟩, F, hW, g1, g2, p1, h1, p2, h2⟩
    · refine Ref.seq (B := G3 w0 F0) ?_ ?_
      · refine Ref.region (fun s ρ w s' h hr => ?_); obtain ⟨F, hW, g2, p2, h2⟩ := h; obtain ⟨x17, hx17, hr⟩ := bind_some' hr; refine ol_e (f_call [.int .i64 (2 : Int), .int .i64 (-1 : Int)] fn_18 (lcons rfl (lcons rfl rfl)) (ref3_Fault.calls hW.ok (2 : Int) (-1 : Int) hx17)) rfl rfl ?_; rintro v20 w18 ⟨Fz19, _, rfl, kw1, hk21⟩; have hW23 := hW.trans kw1; have st1 := kw1.stp hW.ok; refine ol_eN (f_stB hW23 (h2.wk kw1 hW.ok) (FldS.whole _) ty_29 hk21 p2 rfl) rfl ?_; rintro - w24 ⟨hW25, ho26, hg2, st2⟩; exact ol_fin hr ⟨Fz19, hW25, g2, p2, ho26⟩
      exact Ref.ret (fun s ρ w h => ⟨s, rfl, h⟩)
    · exact Ref.skip
  refine Ref.seq (B := G1 w0 F0) ?_ ?_
  · refine Ref.seq (B := G4 w0 F0) ?_ ?_
    · refine Ref.region (fun s ρ w s' h hr => ?_); obtain ⟨F, hW, g1, g2, p1, h1, p2, h2⟩ := h; refine ol_a rfl ?_; exact ol_fin hr ⟨F, hW, g1, g2, p1, h1, p2, h2, rfl⟩
    refine Ref.block ?_; refine Ref.loop ?_; refine Ref.seq (B := G4 w0 F0) ?_ ?_
    · refine Ref.seq (B := G5 w0 F0) ?_ ?_
      · refine Ref.region (fun s ρ w s' h hr => ?_); obtain ⟨F, hW, g1, g2, p1, h1, p2, h2, h3⟩ := h; refine ol_m h3 ?_; refine ol_v (e_fa fa_27_0 p1) rfl ?_; obtain ⟨v27, hl28, hs29⟩ := LiesV.sl ((h1).at_.fld fl_TrigramIndex_0); refine ol_v (e_ld ty_24 hl28 rfl) rfl ?_; obtain ⟨A30, c31, e32, hc33, R34⟩ := id hs29; refine ol_v (e_len (SlT.sl sl_24) e32) rfl ?_; refine ol_v (e_lss rfl rfl) rfl ?_; exact ol_fin hr ⟨F, hW, g1, g2, p1, h1, p2, h2, h3, rfl⟩
      refine Ref.condP (b := fun s => s.t_16) (L := G4 w0 F0) (K := G1 w0 F0) ?_ ?_ ?_
      · rintro s ρ w ⟨F, hW, g1, g2, p1, h1, p2, h2, h3, h16⟩; exact ⟨h16, ⟨F, hW, g1, g2, p1, h1, p2, h2, h3⟩, F, hW, g1, g2, p1, h1, p2, h2⟩
      · exact Ref.skip
      · exact Ref.exit (fun s ρ w h => h)
    refine Ref.seq (B := G4 w0 F0) ?_ ?_
    · refine Ref.block ?_; refine Ref.seq (B := G4 w0 F0) ?_ ?_
      · refine Ref.seq (B := G6 w0 F0) ?_ ?_
        · refine Ref.region (fun s ρ w s' h hr => ?_); obtain ⟨F, hW, g1, g2, p1, h1, p2, h2, h3⟩ := h; refine ol_v (e_fa fa_27_0 p1) rfl ?_; obtain ⟨v35, hl36, hs37⟩ := LiesV.sl ((h1).at_.fld fl_TrigramIndex_0); refine ol_v (e_ld ty_24 hl36 rfl) rfl ?_; refine ol_m h3 ?_; obtain ⟨x38, hx38, hr⟩ := bind_some' hr; obtain ⟨A39, c40, e41, hc42, R43⟩ := id hs37; obtain ⟨b44, o45, hA46, L47⟩ := Row.at_ R43 hx38; refine ol_v (e_ix (SlT.sl sl_24) (SlT.sz sl_24) hA46 hx38 e41 rfl) rfl ?_; refine ol_v (e_ld ty_3 (LiesV.int L47.at_) rfl) rfl ?_; obtain ⟨x48, hx48, hr⟩ := bind_some' hr; refine ol_e (f_call [.int .i64 x38, .int .i64 (0 : Int), .int .i64 (19 : Int)] fn_23 (lcons rfl (lcons rfl (lcons rfl rfl))) (ref3_In.calls hW.ok x38 (0 : Int) (19 : Int) hx48)) rfl rfl ?_; rintro _ w49 ⟨Fz50, rfl, kw1⟩; have hW52 := hW.trans kw1; have st1 := kw1.stp hW.ok; refine ol_v (e_not_ rfl) rfl ?_; exact ol_fin hr ⟨Fz50, hW52, g1, g2, p1, (h1.wk kw1 hW.ok), p2, (h2.wk kw1 hW.ok), h3, rfl⟩
        refine Ref.condP (b := fun s => s.t_25) (L := G7 w0 F0) (K := G4 w0 F0) ?_ ?_ ?_
        · rintro s ρ w ⟨F, hW, g1, g2, p1, h1, p2, h2, h3, h25⟩; exact ⟨h25, ⟨F, hW, g2, p2, h2, h3⟩, F, hW, g1, g2, p1, h1, p2, h2, h3⟩
        · refine Ref.seq (B := G3 w0 F0) ?_ ?_
          · refine Ref.region (fun s ρ w s' h hr => ?_); obtain ⟨F, hW, g2, p2, h2, h3⟩ := h; refine ol_m h3 ?_; refine ol_v (e_sub rfl rfl) rfl ?_; obtain ⟨x53, hx53, hr⟩ := bind_some' hr; refine ol_e (f_call [.int .i64 (3 : Int), .int .i64 (w64 ((-2 : Int) - s.t_3))] fn_18 (lcons rfl (lcons rfl rfl)) (ref3_Fault.calls hW.ok (3 : Int) (w64 ((-2 : Int) - s.t_3)) hx53)) rfl rfl ?_; rintro v56 w54 ⟨Fz55, _, rfl, kw1, hk57⟩; have hW59 := hW.trans kw1; have st1 := kw1.stp hW.ok; refine ol_eN (f_stB hW59 (h2.wk kw1 hW.ok) (FldS.whole _) ty_29 hk57 p2 rfl) rfl ?_; rintro - w60 ⟨hW61, ho62, hg2, st2⟩; exact ol_fin hr ⟨Fz55, hW61, g2, p2, ho62⟩
          exact Ref.ret (fun s ρ w h => ⟨s, rfl, h⟩)
        · exact Ref.skip
      refine Ref.seq (B := G8 w0 F0) ?_ ?_
      · refine Ref.regionS (by kernel_rfl) (by kernel_rfl) (fun s ρ w ⟨F, hW, g1, g2, p1, h1, p2, h2, h3⟩ => ⟨F, hW.drewS, g1, g2, p1, h1.wk (Wk.drew (row := nrow) hW.ok) hW.ok, p2, h2.wk (Wk.drew (row := nrow) hW.ok) hW.ok, h3⟩) (fun s ρ w s' h hr => ?_); obtain ⟨F, hW, g1, g2, p1, h1, p2, h2, h3⟩ := h; refine ol_m h3 ?_; refine ol_v (e_gtr rfl rfl) rfl ?_; obtain ⟨x91, hx92, hr⟩ := bind_some' hr; refine ol_cutA 14 31 44 (fun ρ' w' => w = w' ∧ ρ' 44 = .bool x91) rfl ?_ ?_
        · by_cases hb63 : (decide ((0 : Int) < s.t_3)) = true
          · have hr := hx92; rw [if_pos hb63] at hr; refine ol_m rfl ?_; refine ol_yes rfl rfl (congrArg Value.bool hb63) ?_; refine ol_v (e_fa fa_27_0 p1) rfl ?_; refine ol_yes rfl rfl (congrArg Value.bool hb63) ?_; obtain ⟨v65, hl66, hs67⟩ := LiesV.sl ((h1).at_.fld fl_TrigramIndex_0); refine ol_v (e_ld ty_24 hl66 rfl) rfl ?_; refine ol_yes rfl rfl (congrArg Value.bool hb63) ?_; refine ol_m h3 ?_; refine ol_yes rfl rfl (congrArg Value.bool hb63) ?_; refine ol_v (e_sub rfl rfl) rfl ?_; refine ol_yes rfl rfl (congrArg Value.bool hb63) ?_; obtain ⟨x68, hx68, hr⟩ := bind_some' hr; obtain ⟨A69, c70, e71, hc72, R73⟩ := id hs67; obtain ⟨b74, o75, hA76, L77⟩ := Row.at_ R73 hx68; refine ol_v (e_ix (SlT.sl sl_24) (SlT.sz sl_24) hA76 hx68 e71 rfl) rfl ?_; refine ol_yes rfl rfl (congrArg Value.bool hb63) ?_; refine ol_v (e_ld ty_3 (LiesV.int L77.at_) rfl) rfl ?_; refine ol_yes rfl rfl (congrArg Value.bool hb63) ?_; refine ol_v (e_fa fa_27_0 p1) rfl ?_; refine ol_yes rfl rfl (congrArg Value.bool hb63) ?_; obtain ⟨v78, hl79, hs80⟩ := LiesV.sl ((h1).at_.fld fl_TrigramIndex_0); refine ol_v (e_ld ty_24 hl79 rfl) rfl ?_; refine ol_yes rfl rfl (congrArg Value.bool hb63) ?_; refine ol_m h3 ?_; refine ol_yes rfl rfl (congrArg Value.bool hb63) ?_; obtain ⟨x81, hx81, hr⟩ := bind_some' hr; obtain ⟨A82, c83, e84, hc85, R86⟩ := id hs80; obtain ⟨b87, o88, hA89, L90⟩ := Row.at_ R86 hx81; refine ol_v (e_ix (SlT.sl sl_24) (SlT.sz sl_24) hA89 hx81 e84 rfl) rfl ?_; refine ol_yes rfl rfl (congrArg Value.bool hb63) ?_; refine ol_v (e_ld ty_3 (LiesV.int L90.at_) rfl) rfl ?_; refine ol_yes rfl rfl (congrArg Value.bool hb63) ?_; refine ol_v (e_geq rfl rfl) rfl ?_; refine ol_v (e_pick true _ (congrArg Value.bool hb63) rfl) rfl ?_; exact ol_nil ⟨⟨rfl, (congrArg Value.bool (Option.some.inj hr))⟩, (Agr.refl _ _ _).u.u.u.u.u.u.u.u.u.u.u.u.u.u⟩
          · have hb64 := Bool.eq_false_iff.mpr hb63; have hr := hx92; rw [if_neg hb63] at hr; refine ol_m rfl ?_; refine ol_not rfl rfl rfl (congrArg Value.bool hb64) rfl ?_; refine ol_not rfl rfl rfl (congrArg Value.bool hb64) rfl ?_; refine ol_not rfl rfl rfl (congrArg Value.bool hb64) rfl ?_; refine ol_not rfl rfl rfl (congrArg Value.bool hb64) rfl ?_; refine ol_not rfl rfl rfl (congrArg Value.bool hb64) rfl ?_; refine ol_not rfl rfl rfl (congrArg Value.bool hb64) rfl ?_; refine ol_not rfl rfl rfl (congrArg Value.bool hb64) rfl ?_; refine ol_not rfl rfl rfl (congrArg Value.bool hb64) rfl ?_; refine ol_not rfl rfl rfl (congrArg Value.bool hb64) rfl ?_; refine ol_not rfl rfl rfl (congrArg Value.bool hb64) rfl ?_; refine ol_not rfl rfl rfl (congrArg Value.bool hb64) rfl ?_; refine ol_not rfl rfl rfl (congrArg Value.bool hb64) rfl ?_; refine ol_v (e_pick false _ (congrArg Value.bool hb64) rfl) rfl ?_; exact ol_nil ⟨⟨rfl, (congrArg Value.bool (Option.some.inj hr))⟩, (Agr.refl _ _ _).u.u.u.u.u.u.u.u.u.u.u.u.u.u⟩
        rintro ρ92 _ ⟨⟨rfl, hp92⟩, hAg92⟩; exact ol_fin hr ⟨F, hW, g1, g2, ((hAg92 1 rfl).trans p1), h1, ((hAg92 2 rfl).trans p2), h2, ((hAg92 3 rfl).trans h3), hp92⟩
      refine Ref.condP (b := fun s => s.t_44) (L := G7 w0 F0) (K := G4 w0 F0) ?_ ?_ ?_
      · rintro s ρ w ⟨F, hW, g1, g2, p1, h1, p2, h2, h3, h44⟩; exact ⟨h44, ⟨F, hW, g2, p2, h2, h3⟩, F, hW, g1, g2, p1, h1, p2, h2, h3⟩
      · refine Ref.seq (B := G3 w0 F0) ?_ ?_
        · refine Ref.region (fun s ρ w s' h hr => ?_); obtain ⟨F, hW, g2, p2, h2, h3⟩ := h; refine ol_m h3 ?_; refine ol_v (e_sub rfl rfl) rfl ?_; obtain ⟨x93, hx93, hr⟩ := bind_some' hr; refine ol_e (f_call [.int .i64 (5 : Int), .int .i64 (w64 ((-2 : Int) - s.t_3))] fn_18 (lcons rfl (lcons rfl rfl)) (ref3_Fault.calls hW.ok (5 : Int) (w64 ((-2 : Int) - s.t_3)) hx93)) rfl rfl ?_; rintro v96 w94 ⟨Fz95, _, rfl, kw1, hk97⟩; have hW99 := hW.trans kw1; have st1 := kw1.stp hW.ok; refine ol_eN (f_stB hW99 (h2.wk kw1 hW.ok) (FldS.whole _) ty_29 hk97 p2 rfl) rfl ?_; rintro - w100 ⟨hW101, ho102, hg2, st2⟩; exact ol_fin hr ⟨Fz95, hW101, g2, p2, ho102⟩
        exact Ref.ret (fun s ρ w h => ⟨s, rfl, h⟩)
      · exact Ref.skip
    refine Ref.region (fun s ρ w s' h hr => ?_); obtain ⟨F, hW, g1, g2, p1, h1, p2, h2, h3⟩ := h; refine ol_m h3 ?_; refine ol_v (e_add rfl rfl) rfl ?_; refine ol_a rfl ?_; exact ol_fin hr ⟨F, hW, g1, g2, p1, h1, p2, h2, rfl⟩
  refine Ref.seq (B := G3 w0 F0) ?_ ?_
  · refine Ref.seq (B := G9 w0 F0) ?_ ?_
    · refine Ref.region (fun s ρ w s' h hr => ?_); obtain ⟨F, hW, g1, g2, p1, h1, p2, h2⟩ := h; refine ol_a rfl ?_; exact ol_fin hr ⟨F, hW, g1, g2, p1, h1, p2, h2, rfl⟩
    refine Ref.block ?_; refine Ref.loop ?_; refine Ref.seq (B := G9 w0 F0) ?_ ?_
    · refine Ref.seq (B := G10 w0 F0) ?_ ?_
      · refine Ref.region (fun s ρ w s' h hr => ?_); obtain ⟨F, hW, g1, g2, p1, h1, p2, h2, h4⟩ := h; refine ol_m h4 ?_; refine ol_v (e_fa fa_27_1 p1) rfl ?_; obtain ⟨v103, hl104, hs105⟩ := LiesV.sl ((h1).at_.fld fl_TrigramIndex_1); refine ol_v (e_ld ty_25 hl104 rfl) rfl ?_; obtain ⟨A106, c107, e108, hc109, R110⟩ := id hs105; refine ol_v (e_len (SlT.sl sl_25) e108) rfl ?_; refine ol_v (e_lss rfl rfl) rfl ?_; exact ol_fin hr ⟨F, hW, g1, g2, p1, h1, p2, h2, h4, rfl⟩
      refine Ref.condP (b := fun s => s.t_52) (L := G9 w0 F0) (K := G3 w0 F0) ?_ ?_ ?_
      · rintro s ρ w ⟨F, hW, g1, g2, p1, h1, p2, h2, h4, h52⟩; exact ⟨h52, ⟨F, hW, g1, g2, p1, h1, p2, h2, h4⟩, F, hW, g2, p2, h2⟩
      · exact Ref.skip
      · exact Ref.exit (fun s ρ w h => h)
    refine Ref.seq (B := G9 w0 F0) ?_ ?_
    · refine Ref.block ?_; refine Ref.seq (B := G11 w0 F0) ?_ ?_
      · refine Ref.region (fun s ρ w s' h hr => ?_); obtain ⟨F, hW, g1, g2, p1, h1, p2, h2, h4⟩ := h; refine ol_v (e_fa fa_27_1 p1) rfl ?_; obtain ⟨v111, hl112, hs113⟩ := LiesV.sl ((h1).at_.fld fl_TrigramIndex_1); refine ol_v (e_ld ty_25 hl112 rfl) rfl ?_; refine ol_m h4 ?_; obtain ⟨x114, hx114, hr⟩ := bind_some' hr; obtain ⟨A115, c116, e117, hc118, R119⟩ := id hs113; obtain ⟨b120, o121, hA122, L123⟩ := Row.at_ R119 hx114; refine ol_v (e_ix (SlT.sl sl_25) (SlT.sz sl_25) hA122 hx114 e117 rfl) rfl ?_; obtain ⟨v124, hl125⟩ := LiesAt.v L123.at_; refine ol_v (e_ld ty_55 hl125 rfl) rfl ?_; refine ol_e (f_alloc zer_55 hW) rfl rfl ?_; rintro _ w127 ⟨g126, rfl, kw1, ho128⟩; have hW129 := hW.trans kw1; have st1 := kw1.stp hW.ok; refine ol_eN (f_stB hW129 (ho128.base (row := nrow) hW.le) (FldS.whole _) ty_55 (hl125.val.keep st1) rfl rfl) rfl ?_; rintro - w130 ⟨hW131, ho132, hg2, st2⟩; exact ol_fin hr ⟨F, hW131, g1, g2, g126, p1, ((h1.wk kw1 hW.ok).mut (apart_bb (ho128.base (row := nrow) hW.le) (h1.wk kw1 hW.ok) rfl) hg2 st2), p2, ((h2.wk kw1 hW.ok).mut (apart_bb (ho128.base (row := nrow) hW.le) (h2.wk kw1 hW.ok) rfl) hg2 st2), h4, rfl, ho132⟩
      refine Ref.seq (B := G11 w0 F0) ?_ ?_
      · refine Ref.seq (B := G12 w0 F0) ?_ ?_
        · refine Ref.region (fun s ρ w s' h hr => ?_); obtain ⟨F, hW, g1, g2, g5, p1, h1, p2, h2, h4, p5, h5⟩ := h; refine ol_v (e_fa fa_55_0 p5) rfl ?_; refine ol_v (e_ld ty_9 (LiesV.str ((h5).at_.fld fl_Posting_0)) rfl) rfl ?_; refine ol_v (e_lenS (by kernel_rfl) rfl) rfl ?_; refine ol_v (e_neq rfl rfl) rfl ?_; exact ol_fin hr ⟨F, hW, g1, g2, g5, p1, h1, p2, h2, h4, p5, h5, rfl⟩
        refine Ref.condP (b := fun s => s.t_63) (L := G13 w0 F0) (K := G11 w0 F0) ?_ ?_ ?_
        · rintro s ρ w ⟨F, hW, g1, g2, g5, p1, h1, p2, h2, h4, p5, h5, h63⟩; exact ⟨h63, ⟨F, hW, g2, p2, h2, h4⟩, F, hW, g1, g2, g5, p1, h1, p2, h2, h4, p5, h5⟩
        · refine Ref.seq (B := G3 w0 F0) ?_ ?_
          · refine Ref.region (fun s ρ w s' h hr => ?_); obtain ⟨F, hW, g2, p2, h2, h4⟩ := h; refine ol_m h4 ?_; obtain ⟨x133, hx133, hr⟩ := bind_some' hr; refine ol_e (f_call [.int .i64 (9 : Int), .int .i64 s.t_4] fn_18 (lcons rfl (lcons rfl rfl)) (ref3_Fault.calls hW.ok (9 : Int) s.t_4 hx133)) rfl rfl ?_; rintro v136 w134 ⟨Fz135, _, rfl, kw1, hk137⟩; have hW139 := hW.trans kw1; have st1 := kw1.stp hW.ok; refine ol_eN (f_stB hW139 (h2.wk kw1 hW.ok) (FldS.whole _) ty_29 hk137 p2 rfl) rfl ?_; rintro - w140 ⟨hW141, ho142, hg2, st2⟩; exact ol_fin hr ⟨Fz135, hW141, g2, p2, ho142⟩
          exact Ref.ret (fun s ρ w h => ⟨s, rfl, h⟩)
        · exact Ref.skip
      refine Ref.seq (B := G11 w0 F0) ?_ ?_
      · refine Ref.seq (B := G14 w0 F0) ?_ ?_
        · refine Ref.regionD 12 (by kernel_rfl) (by kernel_rfl) (fun s ρ w ⟨F, hW, g1, g2, g5, p1, h1, p2, h2, h4, p5, h5⟩ => ⟨F, hW.drewS, g1, g2, g5, p1, h1.wk (Wk.drew (row := nrow) hW.ok) hW.ok, p2, h2.wk (Wk.drew (row := nrow) hW.ok) hW.ok, h4, p5, h5.wk (Wk.drew (row := nrow) hW.ok) hW.ok⟩) (fun s ρ w s' h hr => ?_); obtain ⟨F, hW, g1, g2, g5, p1, h1, p2, h2, h4, p5, h5⟩ := h; refine ol_m h4 ?_; refine ol_v (e_gtr rfl rfl) rfl ?_; obtain ⟨x158, hx159, hr⟩ := bind_some' hr; refine ol_cutA 12 68 79 (fun ρ' w' => w = w' ∧ ρ' 79 = .bool x158) rfl ?_ ?_
          · by_cases hb143 : (decide ((0 : Int) < s.t_4)) = true
            · have hr := hx159; rw [if_pos hb143] at hr; refine ol_m rfl ?_; refine ol_yes rfl rfl (congrArg Value.bool hb143) ?_; refine ol_v (e_fa fa_27_1 p1) rfl ?_; refine ol_yes rfl rfl (congrArg Value.bool hb143) ?_; obtain ⟨v145, hl146, hs147⟩ := LiesV.sl ((h1).at_.fld fl_TrigramIndex_1); refine ol_v (e_ld ty_25 hl146 rfl) rfl ?_; refine ol_yes rfl rfl (congrArg Value.bool hb143) ?_; refine ol_m h4 ?_; refine ol_yes rfl rfl (congrArg Value.bool hb143) ?_; refine ol_v (e_sub rfl rfl) rfl ?_; refine ol_yes rfl rfl (congrArg Value.bool hb143) ?_; obtain ⟨x148, hx148, hr⟩ := bind_some' hr; obtain ⟨A149, c150, e151, hc152, R153⟩ := id hs147; obtain ⟨b154, o155, hA156, L157⟩ := Row.at_ R153 hx148; refine ol_v (e_ix (SlT.sl sl_25) (SlT.sz sl_25) hA156 hx148 e151 rfl) rfl ?_; refine ol_yes rfl rfl (congrArg Value.bool hb143) ?_; refine ol_v (e_fa fa_55_0 rfl) rfl ?_; refine ol_yes rfl rfl (congrArg Value.bool hb143) ?_; refine ol_v (e_ld ty_9 (LiesV.str (L157.fld fl_Posting_0).at_) rfl) rfl ?_; refine ol_yes rfl rfl (congrArg Value.bool hb143) ?_; refine ol_v (e_fa fa_55_0 p5) rfl ?_; refine ol_yes rfl rfl (congrArg Value.bool hb143) ?_; refine ol_v (e_ld ty_9 (LiesV.str ((h5).at_.fld fl_Posting_0)) rfl) rfl ?_; refine ol_yes rfl rfl (congrArg Value.bool hb143) ?_; refine ol_v (e_sgeq rfl rfl) rfl ?_; refine ol_v (e_pick true _ (congrArg Value.bool hb143) rfl) rfl ?_; exact ol_nil ⟨⟨rfl, (congrArg Value.bool (Option.some.inj hr))⟩, (Agr.refl _ _ _).u.u.u.u.u.u.u.u.u.u.u.u⟩
            · have hb144 := Bool.eq_false_iff.mpr hb143; have hr := hx159; rw [if_neg hb143] at hr; refine ol_m rfl ?_; refine ol_not rfl rfl rfl (congrArg Value.bool hb144) rfl ?_; refine ol_not rfl rfl rfl (congrArg Value.bool hb144) rfl ?_; refine ol_not rfl rfl rfl (congrArg Value.bool hb144) rfl ?_; refine ol_not rfl rfl rfl (congrArg Value.bool hb144) rfl ?_; refine ol_not rfl rfl rfl (congrArg Value.bool hb144) rfl ?_; refine ol_not rfl rfl rfl (congrArg Value.bool hb144) rfl ?_; refine ol_not rfl rfl rfl (congrArg Value.bool hb144) rfl ?_; refine ol_not rfl rfl rfl (congrArg Value.bool hb144) rfl ?_; refine ol_not rfl rfl rfl (congrArg Value.bool hb144) rfl ?_; refine ol_not rfl rfl rfl (congrArg Value.bool hb144) rfl ?_; refine ol_v (e_pick false _ (congrArg Value.bool hb144) rfl) rfl ?_; exact ol_nil ⟨⟨rfl, (congrArg Value.bool (Option.some.inj hr))⟩, (Agr.refl _ _ _).u.u.u.u.u.u.u.u.u.u.u.u⟩
          rintro ρ159 _ ⟨⟨rfl, hp159⟩, hAg159⟩; refine ol_cutA 6 80 85 (fun ρ' w' => w = w' ∧ ρ' 85 = .bool (x158 || (decide ((s.t_5.Texts.length : Int) < (1 : Int))))) rfl ?_ ?_
          · by_cases hb160 : x158 = true
            · refine ol_m hp159 ?_; refine ol_not rfl rfl rfl (congrArg Value.bool hb160) rfl ?_; refine ol_not rfl rfl rfl (congrArg Value.bool hb160) rfl ?_; refine ol_not rfl rfl rfl (congrArg Value.bool hb160) rfl ?_; refine ol_not rfl rfl rfl (congrArg Value.bool hb160) rfl ?_; refine ol_v (e_pick true _ (congrArg Value.bool hb160) rfl) rfl ?_; exact ol_nil ⟨⟨rfl, (bv_or_t hb160)⟩, (Agr.refl _ _ _).u.u.u.u.u.u⟩
            · have hb161 := Bool.eq_false_iff.mpr hb160; refine ol_m hp159 ?_; refine ol_yes rfl rfl (congrArg Value.bool hb161) ?_; refine ol_v (e_fa fa_55_1 ((hAg159 5 rfl).trans p5)) rfl ?_; refine ol_yes rfl rfl (congrArg Value.bool hb161) ?_; obtain ⟨v162, hl163, hs164⟩ := LiesV.sl ((h5).at_.fld fl_Posting_1); refine ol_v (e_ld ty_24 hl163 rfl) rfl ?_; refine ol_yes rfl rfl (congrArg Value.bool hb161) ?_; obtain ⟨A165, c166, e167, hc168, R169⟩ := id hs164; refine ol_v (e_len (SlT.sl sl_24) e167) rfl ?_; refine ol_yes rfl rfl (congrArg Value.bool hb161) ?_; refine ol_v (e_lss rfl rfl) rfl ?_; refine ol_v (e_pick false _ (congrArg Value.bool hb161) rfl) rfl ?_; exact ol_nil ⟨⟨rfl, (bv_or_f hb161)⟩, (Agr.refl _ _ _).u.u.u.u.u.u⟩
          rintro ρ170 _ ⟨⟨rfl, hp170⟩, hAg170⟩; obtain ⟨x181, hx182, hr⟩ := bind_some' hr; refine ol_cutA 6 86 91 (fun ρ' w' => ∃ F', Wk nrow w F F' w' ∧ ρ' 91 = .bool x181) rfl ?_ ?_
          · by_cases hb171 : (x158 || (decide ((s.t_5.Texts.length : Int) < (1 : Int)))) = true
            · have hr := hx182; rw [if_pos hb171] at hr; refine ol_m hp170 ?_; refine ol_not rfl rfl rfl (congrArg Value.bool hb171) rfl ?_; refine ol_not rfl rfl rfl (congrArg Value.bool hb171) rfl ?_; refine ol_not rfl rfl rfl (congrArg Value.bool hb171) rfl ?_; refine ol_not rfl rfl rfl (congrArg Value.bool hb171) rfl ?_; refine ol_v (e_pick true _ (congrArg Value.bool hb171) rfl) rfl ?_; exact ol_nil ⟨⟨_, Wk.refl hW.ok, (congrArg Value.bool (Option.some.inj hr))⟩, (Agr.refl _ _ _).u.u.u.u.u.u⟩
            · have hb172 := Bool.eq_false_iff.mpr hb171; have hr := hx182; rw [if_neg hb171] at hr; refine ol_m hp170 ?_; refine ol_yes rfl rfl (congrArg Value.bool hb172) ?_; refine ol_v (e_fa fa_55_1 ((hAg170 5 rfl).trans ((hAg159 5 rfl).trans p5))) rfl ?_; refine ol_yes rfl rfl (congrArg Value.bool hb172) ?_; obtain ⟨v173, hl174, hs175⟩ := LiesV.sl ((h5).at_.fld fl_Posting_1); refine ol_v (e_ld ty_24 hl174 rfl) rfl ?_; refine ol_yes rfl rfl (congrArg Value.bool hb172) ?_; obtain ⟨x176, hx176, hr⟩ := bind_some' hr; refine ol_e (f_call [v173] fn_40 (lcons rfl rfl) (ref4_Increasing.calls hW.ok hs175 hx176)) rfl rfl ?_; rintro _ w177 ⟨Fz178, rfl, kw1⟩; have hW180 := hW.trans kw1; have st1 := kw1.stp hW.ok; refine ol_yes rfl rfl (congrArg Value.bool hb172) ?_; refine ol_v (e_not_ rfl) rfl ?_; refine ol_v (e_pick false _ (congrArg Value.bool hb172) rfl) rfl ?_; exact ol_nil ⟨⟨_, kw1, (congrArg Value.bool (Option.some.inj hr))⟩, (Agr.refl _ _ _).u.u.u.u.u.u⟩
          rintro ρ182 w183 ⟨⟨Fz184, kw1, hp182⟩, hAg182⟩; have hW185 := hW.trans kw1; have st1 := kw1.stp hW.ok; exact ol_fin hr ⟨Fz184, hW185, g1, g2, g5, ((hAg182 1 rfl).trans ((hAg170 1 rfl).trans ((hAg159 1 rfl).trans p1))), (h1.wk kw1 hW.ok), ((hAg182 2 rfl).trans ((hAg170 2 rfl).trans ((hAg159 2 rfl).trans p2))), (h2.wk kw1 hW.ok), ((hAg182 4 rfl).trans ((hAg170 4 rfl).trans ((hAg159 4 rfl).trans h4))), ((hAg182 5 rfl).trans ((hAg170 5 rfl).trans ((hAg159 5 rfl).trans p5))), (h5.wk kw1 hW.ok), hp182⟩
        refine Ref.condP (b := fun s => s.t_91) (L := G13 w0 F0) (K := G11 w0 F0) ?_ ?_ ?_
        · rintro s ρ w ⟨F, hW, g1, g2, g5, p1, h1, p2, h2, h4, p5, h5, h91⟩; exact ⟨h91, ⟨F, hW, g2, p2, h2, h4⟩, F, hW, g1, g2, g5, p1, h1, p2, h2, h4, p5, h5⟩
        · refine Ref.seq (B := G3 w0 F0) ?_ ?_
          · refine Ref.region (fun s ρ w s' h hr => ?_); obtain ⟨F, hW, g2, p2, h2, h4⟩ := h; refine ol_m h4 ?_; obtain ⟨x186, hx186, hr⟩ := bind_some' hr; refine ol_e (f_call [.int .i64 (5 : Int), .int .i64 s.t_4] fn_18 (lcons rfl (lcons rfl rfl)) (ref3_Fault.calls hW.ok (5 : Int) s.t_4 hx186)) rfl rfl ?_; rintro v189 w187 ⟨Fz188, _, rfl, kw1, hk190⟩; have hW192 := hW.trans kw1; have st1 := kw1.stp hW.ok; refine ol_eN (f_stB hW192 (h2.wk kw1 hW.ok) (FldS.whole _) ty_29 hk190 p2 rfl) rfl ?_; rintro - w193 ⟨hW194, ho195, hg2, st2⟩; exact ol_fin hr ⟨Fz188, hW194, g2, p2, ho195⟩
          exact Ref.ret (fun s ρ w h => ⟨s, rfl, h⟩)
        · exact Ref.skip
      refine Ref.seq (B := G15 w0 F0) ?_ ?_
      · refine Ref.region (fun s ρ w s' h hr => ?_); obtain ⟨F, hW, g1, g2, g5, p1, h1, p2, h2, h4, p5, h5⟩ := h; refine ol_a rfl ?_; exact ol_fin hr ⟨F, hW, g1, g2, g5, p1, h1, p2, h2, h4, p5, h5, rfl⟩
      refine Ref.block ?_; refine Ref.loop ?_; refine Ref.seq (B := G15 w0 F0) ?_ ?_
      · refine Ref.seq (B := G16 w0 F0) ?_ ?_
        · refine Ref.region (fun s ρ w s' h hr => ?_); obtain ⟨F, hW, g1, g2, g5, p1, h1, p2, h2, h4, p5, h5, h6⟩ := h; refine ol_m h6 ?_; refine ol_v (e_fa fa_55_1 p5) rfl ?_; obtain ⟨v196, hl197, hs198⟩ := LiesV.sl ((h5).at_.fld fl_Posting_1); refine ol_v (e_ld ty_24 hl197 rfl) rfl ?_; obtain ⟨A199, c200, e201, hc202, R203⟩ := id hs198; refine ol_v (e_len (SlT.sl sl_24) e201) rfl ?_; refine ol_v (e_lss rfl rfl) rfl ?_; exact ol_fin hr ⟨F, hW, g1, g2, g5, p1, h1, p2, h2, h4, p5, h5, h6, rfl⟩
        refine Ref.condP (b := fun s => s.t_98) (L := G15 w0 F0) (K := G9 w0 F0) ?_ ?_ ?_
        · rintro s ρ w ⟨F, hW, g1, g2, g5, p1, h1, p2, h2, h4, p5, h5, h6, h98⟩; exact ⟨h98, ⟨F, hW, g1, g2, g5, p1, h1, p2, h2, h4, p5, h5, h6⟩, F, hW, g1, g2, p1, h1, p2, h2, h4⟩
        · exact Ref.skip
        · exact Ref.exit (fun s ρ w h => h)
      refine Ref.seq (B := G15 w0 F0) ?_ ?_
      · refine Ref.block ?_; refine Ref.seq (B := G17 w0 F0) ?_ ?_
        · refine Ref.regionD 7 (by kernel_rfl) (by kernel_rfl) (fun s ρ w ⟨F, hW, g1, g2, g5, p1, h1, p2, h2, h4, p5, h5, h6⟩ => ⟨F, hW.drewS, g1, g2, g5, p1, h1.wk (Wk.drew (row := nrow) hW.ok) hW.ok, p2, h2.wk (Wk.drew (row := nrow) hW.ok) hW.ok, h4, p5, h5.wk (Wk.drew (row := nrow) hW.ok) hW.ok, h6⟩) (fun s ρ w s' h hr => ?_); obtain ⟨F, hW, g1, g2, g5, p1, h1, p2, h2, h4, p5, h5, h6⟩ := h; refine ol_v (e_fa fa_27_0 p1) rfl ?_; obtain ⟨v204, hl205, hs206⟩ := LiesV.sl ((h1).at_.fld fl_TrigramIndex_0); refine ol_v (e_ld ty_24 hl205 rfl) rfl ?_; refine ol_v (e_fa fa_55_1 p5) rfl ?_; obtain ⟨v207, hl208, hs209⟩ := LiesV.sl ((h5).at_.fld fl_Posting_1); refine ol_v (e_ld ty_24 hl208 rfl) rfl ?_; refine ol_m h6 ?_; obtain ⟨x210, hx210, hr⟩ := bind_some' hr; obtain ⟨A211, c212, e213, hc214, R215⟩ := id hs209; obtain ⟨b216, o217, hA218, L219⟩ := Row.at_ R215 hx210; refine ol_v (e_ix (SlT.sl sl_24) (SlT.sz sl_24) hA218 hx210 e213 rfl) rfl ?_; refine ol_v (e_ld ty_3 (LiesV.int L219.at_) rfl) rfl ?_; obtain ⟨x220, hx220, hr⟩ := bind_some' hr; refine ol_e (f_call [v204, .int .i64 x210] fn_22 (lcons rfl (lcons rfl rfl)) (ref3_Has.calls hW.ok hs206 x210 hx220)) rfl rfl ?_; rintro _ w221 ⟨Fz222, rfl, kw1⟩; have hW224 := hW.trans kw1; have st1 := kw1.stp hW.ok; refine ol_v (e_not_ rfl) rfl ?_; exact ol_fin hr ⟨Fz222, hW224, g1, g2, g5, p1, (h1.wk kw1 hW.ok), p2, (h2.wk kw1 hW.ok), h4, p5, (h5.wk kw1 hW.ok), h6, rfl⟩
        refine Ref.condP (b := fun s => s.t_109) (L := G13 w0 F0) (K := G15 w0 F0) ?_ ?_ ?_
        · rintro s ρ w ⟨F, hW, g1, g2, g5, p1, h1, p2, h2, h4, p5, h5, h6, h109⟩; exact ⟨h109, ⟨F, hW, g2, p2, h2, h4⟩, F, hW, g1, g2, g5, p1, h1, p2, h2, h4, p5, h5, h6⟩
        · refine Ref.seq (B := G3 w0 F0) ?_ ?_
          · refine Ref.region (fun s ρ w s' h hr => ?_); obtain ⟨F, hW, g2, p2, h2, h4⟩ := h; refine ol_m h4 ?_; obtain ⟨x225, hx225, hr⟩ := bind_some' hr; refine ol_e (f_call [.int .i64 (6 : Int), .int .i64 s.t_4] fn_18 (lcons rfl (lcons rfl rfl)) (ref3_Fault.calls hW.ok (6 : Int) s.t_4 hx225)) rfl rfl ?_; rintro v228 w226 ⟨Fz227, _, rfl, kw1, hk229⟩; have hW231 := hW.trans kw1; have st1 := kw1.stp hW.ok; refine ol_eN (f_stB hW231 (h2.wk kw1 hW.ok) (FldS.whole _) ty_29 hk229 p2 rfl) rfl ?_; rintro - w232 ⟨hW233, ho234, hg2, st2⟩; exact ol_fin hr ⟨Fz227, hW233, g2, p2, ho234⟩
          exact Ref.ret (fun s ρ w h => ⟨s, rfl, h⟩)
        · exact Ref.skip
      refine Ref.region (fun s ρ w s' h hr => ?_); obtain ⟨F, hW, g1, g2, g5, p1, h1, p2, h2, h4, p5, h5, h6⟩ := h; refine ol_m h6 ?_; refine ol_v (e_add rfl rfl) rfl ?_; refine ol_a rfl ?_; exact ol_fin hr ⟨F, hW, g1, g2, g5, p1, h1, p2, h2, h4, p5, h5, rfl⟩
    refine Ref.region (fun s ρ w s' h hr => ?_); obtain ⟨F, hW, g1, g2, p1, h1, p2, h2, h4⟩ := h; refine ol_m h4 ?_; refine ol_v (e_add rfl rfl) rfl ?_; refine ol_a rfl ?_; exact ol_fin hr ⟨F, hW, g1, g2, p1, h1, p2, h2, rfl⟩
  refine Ref.seq (B := G3 w0 F0) ?_ ?_
  · refine Ref.region (fun s ρ w s' h hr => ?_); obtain ⟨F, hW, g2, p2, h2⟩ := h; refine ol_v (e_bld (cells := #[.int .i64 0, .int .i64 0]) bld_29 (vs := []) rfl rfl) rfl ?_; have hb235 : Val k_Fault F w (.agg #[.int .i64 0, .int .i64 0]) (⟨(0 : Int), (0 : Int)⟩ : Fault) := mk_Fault (val_int _ _) (val_int _ _); refine ol_eN (f_stB hW h2 (FldS.whole _) ty_29 hb235 p2 rfl) rfl ?_; rintro - w236 ⟨hW237, ho238, hg1, st1⟩; exact ol_fin hr ⟨F, hW237, g2, p2, ho238⟩
  exact Ref.ret (fun s ρ w h => ⟨s, rfl, h⟩)
def post (w : World) (F : BSet) (r : R) (v : Value) (w' : World) : Prop := ∃ (F' : BSet) (v0' : Value), v = v0' ∧ Wk nrow w F F' w' ∧ Val k_Fault F' w' v0' r
theorem calls {w : World} {F : BSet} (hok : ∀ b, F b → b < w.heap.size) {v0 : Value} {a0 : TrigramIndex} (h0 : Val k_TrigramIndex F w v0 a0) {r : R} (hf : f a0 = some r) : Calls Try.prog 17 #[v0] w fun e w' => ∃ v, e = .returned v ∧ post w F r v w' := by
  obtain ⟨c, hc, href⟩ := ref w F; refine calls_of_ref (args := [v0]) _ Try.func17 hc rfl rfl href ?_ (retOf_some hf) ?_
  · exact ⟨F, Wk.refl hok, h0⟩
  · rintro ρ w' a ⟨s, rfl, F', hW, g2, p2, h2⟩ hF; obtain ⟨u2, l2, k2⟩ := res_box (P := Try.prog) ty_29 h2; refine ⟨_, run_results (rs := [.cell 2 29]) rfl hF (vs := [u2]) (⟨_, _, _, rfl, p2, l2, rfl⟩), ?_⟩; exact ⟨F', u2, rfl, hW, k2⟩
end
end ref4_IndexFault

end Go.Proofs.Ytoiafcpnhhplnaa
