/- The machine's calls come to these plain functions (written by a program, wip/fx/gen.py). -/
import Derived.Test.YtenkbkcddcnmeaaPA
import Derived.Test.YtenkbkcddcnmeaaNm
import Derived.Test.YtenkbkcddcnmeaaM4
import Derived.Test.YtenkbkcddcnmeaaSl
import Derived.Test.YtenkbkcddcnmeaaIn
namespace Go.Proofs.Ytenkbkcddcnmeaa
open Go.Fx Go.RowKit
set_option linter.unusedVariables false

namespace ref3_At
section
abbrev c2 (ρ : Env) (g2 : Nat) (w0 w : World) (F : BSet) (s : S) (X : Prop) : Prop := ρ 2 = .pointer (some ⟨g2, 0, none⟩) ∧ Box k_ObjectStore 24 (Bs w0 nrow) F w g2 s.s_2 ∧ X
def G0 : GT S := fun w0 F0 s ρ w => ∃ F, Wk nrow w0 F0 F w ∧ Val k_ObjectStore F w (ρ 0) s.s_0 ∧ ρ 1 = .int .i64 s.d_1
def G1 : GT S := fun w0 F0 s ρ w => ∃ F, Wk nrow w0 F0 F w ∧ ∃ g2, ρ 1 = .int .i64 s.d_1 ∧ ρ 2 = .pointer (some ⟨g2, 0, none⟩) ∧ Box k_ObjectStore 24 (Bs w0 nrow) F w g2 s.s_2
def G2 : GT S := fun w0 F0 s ρ w => ∃ F, Wk nrow w0 F0 F w ∧ ∃ g2, ρ 1 = .int .i64 s.d_1 ∧ c2 ρ g2 w0 w F s (ρ 5 = .int .i64 s.i_5)
def G3 : GT S := fun w0 F0 s ρ w => ∃ F, Wk nrow w0 F0 F w ∧ ∃ g2, ρ 1 = .int .i64 s.d_1 ∧ c2 ρ g2 w0 w F s (ρ 5 = .int .i64 s.i_5 ∧ ρ 10 = .bool s.t_10)
def G4 : GT S := fun w0 F0 s ρ w => ∃ F, Wk nrow w0 F0 F w
def G5 : GT S := fun w0 F0 s ρ w => ∃ F, Wk nrow w0 F0 F w ∧ ∃ g2, ρ 1 = .int .i64 s.d_1 ∧ c2 ρ g2 w0 w F s (ρ 5 = .int .i64 s.i_5 ∧ ρ 20 = .bool s.t_20)
def G6 : GT S := fun w0 F0 s ρ w => ∃ F, Wk nrow w0 F0 F w ∧ ρ 5 = .int .i64 s.i_5
def G7 : GT S := fun w0 F0 s ρ w => ∃ F, Wk nrow w0 F0 F w ∧ ρ 4 = .int .i64 s.t_4
set_option maxHeartbeats 4000000 in
set_option maxRecDepth 20000 in
theorem ref (w0 : World) (F0 : BSet) : ∃ c, Try.f36.body = some c ∧ Ref Try.prog 22 c (G0 w0 F0) body (fun _ _ _ => False) (fun _ _ _ _ => False) (fun r ρ w => ∃ s, retv s = r ∧ G7 w0 F0 s ρ w) := by
  refine ⟨_, rfl, ?_⟩; unfold body; refine Ref.seq (B := G1 w0 F0) ?_ ?_
  · refine Ref.region (fun s ρ w s' h hr => ?_); obtain ⟨F, hW, h0, h1⟩ := h; refine ol_e (f_box hW rfl h0) rfl rfl ?_; rintro _ w2 ⟨g1, rfl, kw1, ho3⟩; have hW4 := hW.trans kw1; have st1 := kw1.stp hW.ok; refine ol_a rfl ?_; exact ol_fin hr ⟨F, hW4, g1, h1, rfl, (ho3.base (row := nrow) hW.le)⟩
  refine Ref.seq (B := G4 w0 F0) ?_ ?_
  · refine Ref.seq (B := G2 w0 F0) ?_ ?_
    · refine Ref.region (fun s ρ w s' h hr => ?_); obtain ⟨F, hW, g2, h1, p2, h2⟩ := h; refine ol_a rfl ?_; exact ol_fin hr ⟨F, hW, g2, h1, p2, h2, rfl⟩
    refine Ref.block ?_; refine Ref.loop ?_; refine Ref.seq (B := G2 w0 F0) ?_ ?_
    · refine Ref.seq (B := G3 w0 F0) ?_ ?_
      · refine Ref.region (fun s ρ w s' h hr => ?_); obtain ⟨F, hW, g2, h1, p2, h2, h5⟩ := h; refine ol_m h5 ?_; refine ol_v (e_fa fa_24_0 p2) rfl ?_; obtain ⟨v5, hl6, hs7⟩ := LiesV.sl ((h2).at_.fld fl_ObjectStore_0); refine ol_v (e_ld ty_22 hl6 rfl) rfl ?_; obtain ⟨A8, c9, e10, hc11, R12⟩ := id hs7; refine ol_v (e_len (SlT.sl sl_22) e10) rfl ?_; refine ol_v (e_lss rfl rfl) rfl ?_; exact ol_fin hr ⟨F, hW, g2, h1, p2, h2, h5, rfl⟩
      refine Ref.condP (b := fun s => s.t_10) (L := G2 w0 F0) (K := G4 w0 F0) ?_ ?_ ?_
      · rintro s ρ w ⟨F, hW, g2, h1, p2, h2, h5, h10⟩; exact ⟨h10, ⟨F, hW, g2, h1, p2, h2, h5⟩, F, hW⟩
      · exact Ref.skip
      · exact Ref.exit (fun s ρ w h => h)
    refine Ref.seq (B := G2 w0 F0) ?_ ?_
    · refine Ref.block ?_; refine Ref.seq (B := G5 w0 F0) ?_ ?_
      · refine Ref.region (fun s ρ w s' h hr => ?_); obtain ⟨F, hW, g2, h1, p2, h2, h5⟩ := h; refine ol_v (e_fa fa_24_0 p2) rfl ?_; obtain ⟨v13, hl14, hs15⟩ := LiesV.sl ((h2).at_.fld fl_ObjectStore_0); refine ol_v (e_ld ty_22 hl14 rfl) rfl ?_; refine ol_m h5 ?_; obtain ⟨x16, hx16, hr⟩ := bind_some' hr; obtain ⟨A17, c18, e19, hc20, R21⟩ := id hs15; obtain ⟨b22, o23, hA24, L25⟩ := Row.at_ R21 hx16; refine ol_v (e_ix (SlT.sl sl_22) (SlT.sz sl_22) hA24 hx16 e19 rfl) rfl ?_; refine ol_v (e_fa fa_39_0 rfl) rfl ?_; refine ol_v (e_ld ty_3 (LiesV.int (L25.fld fl_StoredObject_0).at_) rfl) rfl ?_; refine ol_m h1 ?_; refine ol_v (e_eql rfl rfl) rfl ?_; exact ol_fin hr ⟨F, hW, g2, h1, p2, h2, h5, rfl⟩
      refine Ref.condP (b := fun s => s.t_20) (L := G6 w0 F0) (K := G2 w0 F0) ?_ ?_ ?_
      · rintro s ρ w ⟨F, hW, g2, h1, p2, h2, h5, h20⟩; exact ⟨h20, ⟨F, hW, h5⟩, F, hW, g2, h1, p2, h2, h5⟩
      · refine Ref.seq (B := G7 w0 F0) ?_ ?_
        · refine Ref.region (fun s ρ w s' h hr => ?_); obtain ⟨F, hW, h5⟩ := h; refine ol_m h5 ?_; refine ol_a rfl ?_; exact ol_fin hr ⟨F, hW, rfl⟩
        exact Ref.ret (fun s ρ w h => ⟨s, rfl, h⟩)
      · exact Ref.skip
    refine Ref.region (fun s ρ w s' h hr => ?_); obtain ⟨F, hW, g2, h1, p2, h2, h5⟩ := h; refine ol_m h5 ?_; refine ol_v (e_add rfl rfl) rfl ?_; refine ol_a rfl ?_; exact ol_fin hr ⟨F, hW, g2, h1, p2, h2, rfl⟩
  refine Ref.seq (B := G7 w0 F0) ?_ ?_
  · refine Ref.region (fun s ρ w s' h hr => ?_); obtain ⟨F, hW⟩ := h; refine ol_a rfl ?_; exact ol_fin hr ⟨F, hW, rfl⟩
  exact Ref.ret (fun s ρ w h => ⟨s, rfl, h⟩)
def post (w : World) (F : BSet) (r : R) (v : Value) (w' : World) : Prop := ∃ (F' : BSet), v = .int .i64 r ∧ Wk nrow w F F' w'
theorem calls {w : World} {F : BSet} (hok : ∀ b, F b → b < w.heap.size) {v0 : Value} {a0 : ObjectStore} (h0 : Val k_ObjectStore F w v0 a0) (a1 : Int) {r : R} (hf : f a0 a1 = some r) : Calls Try.prog 36 #[v0, .int .i64 a1] w fun e w' => ∃ v, e = .returned v ∧ post w F r v w' := by
  obtain ⟨c, hc, href⟩ := ref w F; refine calls_of_ref (args := [v0, .int .i64 a1]) _ Try.func36 hc rfl rfl href ?_ (retOf_some hf) ?_
  · exact ⟨F, Wk.refl hok, h0, rfl⟩
  · rintro ρ w' a ⟨s, rfl, F', hW, h4⟩ hF; refine ⟨_, run_results (rs := [.tmp 4]) rfl hF (vs := [ρ 4]) (⟨_, rfl, rfl⟩), ?_⟩; have hv : resVal [ρ 4] = .int .i64 s.t_4 := by rw [h4]; rfl
    exact ⟨F', hv, hW⟩
end
end ref3_At

namespace ref4_PromiseFault
section
abbrev c1 (F : BSet) (w : World) (ρ : Env) (s : S) (X : Prop) : Prop := SlR (kInt .i64) F w (ρ 1) s.promised_1 ∧ X
abbrev c2 (ρ : Env) (g2 : Nat) (w0 w : World) (F : BSet) (s : S) (X : Prop) : Prop := ρ 2 = .pointer (some ⟨g2, 0, none⟩) ∧ Box k_ObjectStore 24 (Bs w0 nrow) F w g2 s.s_2 ∧ X
abbrev c3 (ρ : Env) (g4 : Nat) (w0 w : World) (F : BSet) (s : S) (X : Prop) : Prop := ρ 4 = .pointer (some ⟨g4, 0, none⟩) ∧ Box k_Fault 28 (Bs w0 nrow) F w g4 s.t_4 ∧ X
abbrev c4 (ρ : Env) (g5 : Nat) (w0 w : World) (F : BSet) (s : S) (X : Prop) : Prop := ρ 5 = .pointer (some ⟨g5, 0, none⟩) ∧ Box k_Fault 28 (Bs w0 nrow) F w g5 s.f_5 ∧ X
def G0 : GT S := fun w0 F0 s ρ w => ∃ F, Wk nrow w0 F0 F w ∧ Val k_ObjectStore F w (ρ 0) s.s_0 ∧ SlR (kInt .i64) F w (ρ 1) s.promised_1
def G1 : GT S := fun w0 F0 s ρ w => ∃ F, Wk nrow w0 F0 F w ∧ ∃ g2 g4, c1 F w ρ s (c2 ρ g2 w0 w F s (ρ 4 = .pointer (some ⟨g4, 0, none⟩) ∧ Box k_Fault 28 (Bs w0 nrow) F w g4 s.t_4))
def G2 : GT S := fun w0 F0 s ρ w => ∃ F, Wk nrow w0 F0 F w ∧ ∃ g2 g4 g5, c1 F w ρ s (c2 ρ g2 w0 w F s (c3 ρ g4 w0 w F s (c4 ρ g5 w0 w F s (Apart (some g4) (some g5)))))
def G3 : GT S := fun w0 F0 s ρ w => ∃ F, Wk nrow w0 F0 F w ∧ ∃ g2 g4 g5, c1 F w ρ s (c2 ρ g2 w0 w F s (c3 ρ g4 w0 w F s (c4 ρ g5 w0 w F s (ρ 11 = .bool s.t_11 ∧ Apart (some g4) (some g5)))))
def G4 : GT S := fun w0 F0 s ρ w => ∃ F, Wk nrow w0 F0 F w ∧ ∃ g4 g5, c3 ρ g4 w0 w F s (c4 ρ g5 w0 w F s (Apart (some g4) (some g5)))
def G5 : GT S := fun w0 F0 s ρ w => ∃ F, Wk nrow w0 F0 F w ∧ ∃ g4, ρ 4 = .pointer (some ⟨g4, 0, none⟩) ∧ Box k_Fault 28 (Bs w0 nrow) F w g4 s.t_4
def G6 : GT S := fun w0 F0 s ρ w => ∃ F, Wk nrow w0 F0 F w ∧ ∃ g2 g4, c1 F w ρ s (c2 ρ g2 w0 w F s (c3 ρ g4 w0 w F s (ρ 15 = .bool s.t_15)))
def G7 : GT S := fun w0 F0 s ρ w => ∃ F, Wk nrow w0 F0 F w ∧ ∃ g2 g4, c1 F w ρ s (c2 ρ g2 w0 w F s (c3 ρ g4 w0 w F s (ρ 6 = .int .i64 s.i_6)))
def G8 : GT S := fun w0 F0 s ρ w => ∃ F, Wk nrow w0 F0 F w ∧ ∃ g2 g4, c1 F w ρ s (c2 ρ g2 w0 w F s (c3 ρ g4 w0 w F s (ρ 6 = .int .i64 s.i_6 ∧ ρ 20 = .bool s.t_20)))
def G9 : GT S := fun w0 F0 s ρ w => ∃ F, Wk nrow w0 F0 F w ∧ ∃ g2 g4, c1 F w ρ s (c2 ρ g2 w0 w F s (c3 ρ g4 w0 w F s (ρ 6 = .int .i64 s.i_6 ∧ ρ 28 = .bool s.t_28)))
def G10 : GT S := fun w0 F0 s ρ w => ∃ F, Wk nrow w0 F0 F w ∧ ∃ g4, c3 ρ g4 w0 w F s (ρ 6 = .int .i64 s.i_6)
def G11 : GT S := fun w0 F0 s ρ w => ∃ F, Wk nrow w0 F0 F w ∧ ∃ g2 g4, c1 F w ρ s (c2 ρ g2 w0 w F s (c3 ρ g4 w0 w F s (ρ 6 = .int .i64 s.i_6 ∧ ρ 45 = .bool s.t_45)))
def G12 : GT S := fun w0 F0 s ρ w => ∃ F, Wk nrow w0 F0 F w ∧ ∃ g2 g4, c1 F w ρ s (c2 ρ g2 w0 w F s (c3 ρ g4 w0 w F s (ρ 6 = .int .i64 s.i_6 ∧ ρ 55 = .bool s.t_55)))
set_option maxHeartbeats 4000000 in
set_option maxRecDepth 20000 in
theorem ref (w0 : World) (F0 : BSet) : ∃ c, Try.f19.body = some c ∧ Ref Try.prog 60 c (G0 w0 F0) body (fun _ _ _ => False) (fun _ _ _ _ => False) (fun r ρ w => ∃ s, retv s = r ∧ G5 w0 F0 s ρ w) := by
  refine ⟨_, rfl, ?_⟩; unfold body; refine Ref.seq (B := G1 w0 F0) ?_ ?_
  · refine Ref.region (fun s ρ w s' h hr => ?_); obtain ⟨F, hW, h0, h1⟩ := h; refine ol_e (f_box hW rfl h0) rfl rfl ?_; rintro _ w2 ⟨g1, rfl, kw1, ho3⟩; have hW4 := hW.trans kw1; have st1 := kw1.stp hW.ok; refine ol_e (f_alloc zer_28 hW4) rfl rfl ?_; rintro _ w6 ⟨g5, rfl, kw2, ho7⟩; have hW8 := hW4.trans kw2; have st2 := kw2.stp hW4.ok; exact ol_fin hr ⟨F, hW8, g1, g5, (h1.keep (st1.trans st2)), rfl, ((ho3.base (row := nrow) hW.le).wk kw2 hW4.ok), rfl, (ho7.base (row := nrow) hW4.le)⟩
  refine Ref.seq (B := G1 w0 F0) ?_ ?_
  · refine Ref.seq (B := G2 w0 F0) ?_ ?_
    · refine Ref.region (fun s ρ w s' h hr => ?_); obtain ⟨F, hW, g2, g4, h1, p2, h2, p4, h4⟩ := h; obtain ⟨v9, hl10⟩ := LiesAt.v (h2).at_; refine ol_v (e_ld ty_24 hl10 p2) rfl ?_; obtain ⟨x11, hx11, hr⟩ := bind_some' hr; refine ol_e (f_call [v9] fn_11 (lcons rfl rfl) (ref3_StoreFault.calls hW.ok hl10.val hx11)) rfl rfl ?_; rintro v14 w12 ⟨Fz13, _, rfl, kw1, hk15⟩; have hW17 := hW.trans kw1; have st1 := kw1.stp hW.ok; refine ol_e (f_alloc zer_28 hW17) rfl rfl ?_; rintro _ w19 ⟨g18, rfl, kw2, ho20⟩; have hW21 := hW17.trans kw2; have st2 := kw2.stp hW17.ok; refine ol_eN (f_stB hW21 (ho20.base (row := nrow) hW17.le) (FldS.whole _) ty_28 (hk15.keep st2) rfl rfl) rfl ?_; rintro - w22 ⟨hW23, ho24, hg3, st3⟩; have z1 := (h2.wk kw1 hW.ok).wk kw2 hW17.ok; have z2 := h4.wk kw1 hW.ok; exact ol_fin hr ⟨Fz13, hW23, g2, g4, g18, (h1.keep (st1.trans (st2.trans st3))), p2, (z1.mut (apart_bb (ho20.base (row := nrow) hW17.le) z1 rfl) hg3 st3), p4, ((z2.wk kw2 hW17.ok).mut (Apart.base (fun _ e_ => by cases e_; exact ho20.ge) z2.ltw) hg3 st3), rfl, ho24, (Apart.base (fun _ e_ => by cases e_; exact ho20.ge) z2.ltw).symm⟩
    refine Ref.seq (B := G3 w0 F0) ?_ ?_
    · refine Ref.region (fun s ρ w s' h hr => ?_); obtain ⟨F, hW, g2, g4, g5, h1, p2, h2, p4, h4, p5, h5, a4b_5b⟩ := h; refine ol_v (e_fa fa_28_0 p5) rfl ?_; refine ol_v (e_ld ty_3 (LiesV.int ((h5).at_.fld fl_Fault_0)) rfl) rfl ?_; refine ol_v (e_neq rfl rfl) rfl ?_; exact ol_fin hr ⟨F, hW, g2, g4, g5, h1, p2, h2, p4, h4, p5, h5, rfl, a4b_5b⟩
    refine Ref.condP (b := fun s => s.t_11) (L := G4 w0 F0) (K := G1 w0 F0) ?_ ?_ ?_
    · rintro s ρ w ⟨F, hW, g2, g4, g5, h1, p2, h2, p4, h4, p5, h5, h11, a4b_5b⟩; exact ⟨h11, ⟨F, hW, g4, g5, p4, h4, p5, h5, a4b_5b⟩, F, hW, g2, g4, h1, p2, h2, p4, h4⟩
    · refine Ref.seq (B := G5 w0 F0) ?_ ?_
      · refine Ref.region (fun s ρ w s' h hr => ?_); obtain ⟨F, hW, g4, g5, p4, h4, p5, h5, a4b_5b⟩ := h; obtain ⟨v25, hl26⟩ := LiesAt.v (h5).at_; refine ol_v (e_ld ty_28 hl26 p5) rfl ?_; refine ol_eN (f_stB hW h4 (FldS.whole _) ty_28 hl26.val p4 rfl) rfl ?_; rintro - w27 ⟨hW28, ho29, hg1, st1⟩; exact ol_fin hr ⟨F, hW28, g4, p4, ho29⟩
      exact Ref.ret (fun s ρ w h => ⟨s, rfl, h⟩)
    · exact Ref.skip
  refine Ref.seq (B := G1 w0 F0) ?_ ?_
  · refine Ref.seq (B := G6 w0 F0) ?_ ?_
    · refine Ref.region (fun s ρ w s' h hr => ?_); obtain ⟨F, hW, g2, g4, h1, p2, h2, p4, h4⟩ := h; refine ol_m rfl ?_; obtain ⟨A30, c31, e32, hc33, R34⟩ := id h1; refine ol_v (e_len (SlT.sl sl_26) e32) rfl ?_; refine ol_v (e_gtr rfl rfl) rfl ?_; exact ol_fin hr ⟨F, hW, g2, g4, h1, p2, h2, p4, h4, rfl⟩
    refine Ref.condP (b := fun s => s.t_15) (L := G5 w0 F0) (K := G1 w0 F0) ?_ ?_ ?_
    · rintro s ρ w ⟨F, hW, g2, g4, h1, p2, h2, p4, h4, h15⟩; exact ⟨h15, ⟨F, hW, g4, p4, h4⟩, F, hW, g2, g4, h1, p2, h2, p4, h4⟩
    · refine Ref.seq (B := G5 w0 F0) ?_ ?_
      · refine Ref.region (fun s ρ w s' h hr => ?_); obtain ⟨F, hW, g4, p4, h4⟩ := h; obtain ⟨x35, hx35, hr⟩ := bind_some' hr; refine ol_e (f_call [.int .i64 (2 : Int), .int .i64 (-2 : Int)] fn_13 (lcons rfl (lcons rfl rfl)) (ref3_Fault.calls hW.ok (2 : Int) (-2 : Int) hx35)) rfl rfl ?_; rintro v38 w36 ⟨Fz37, _, rfl, kw1, hk39⟩; have hW41 := hW.trans kw1; have st1 := kw1.stp hW.ok; refine ol_eN (f_stB hW41 (h4.wk kw1 hW.ok) (FldS.whole _) ty_28 hk39 p4 rfl) rfl ?_; rintro - w42 ⟨hW43, ho44, hg2, st2⟩; exact ol_fin hr ⟨Fz37, hW43, g4, p4, ho44⟩
      exact Ref.ret (fun s ρ w h => ⟨s, rfl, h⟩)
    · exact Ref.skip
  refine Ref.seq (B := G5 w0 F0) ?_ ?_
  · refine Ref.seq (B := G7 w0 F0) ?_ ?_
    · refine Ref.region (fun s ρ w s' h hr => ?_); obtain ⟨F, hW, g2, g4, h1, p2, h2, p4, h4⟩ := h; refine ol_a rfl ?_; exact ol_fin hr ⟨F, hW, g2, g4, h1, p2, h2, p4, h4, rfl⟩
    refine Ref.block ?_; refine Ref.loop ?_; refine Ref.seq (B := G7 w0 F0) ?_ ?_
    · refine Ref.seq (B := G8 w0 F0) ?_ ?_
      · refine Ref.region (fun s ρ w s' h hr => ?_); obtain ⟨F, hW, g2, g4, h1, p2, h2, p4, h4, h6⟩ := h; refine ol_m h6 ?_; refine ol_m rfl ?_; obtain ⟨A45, c46, e47, hc48, R49⟩ := id h1; refine ol_v (e_len (SlT.sl sl_26) e47) rfl ?_; refine ol_v (e_lss rfl rfl) rfl ?_; exact ol_fin hr ⟨F, hW, g2, g4, h1, p2, h2, p4, h4, h6, rfl⟩
      refine Ref.condP (b := fun s => s.t_20) (L := G7 w0 F0) (K := G5 w0 F0) ?_ ?_ ?_
      · rintro s ρ w ⟨F, hW, g2, g4, h1, p2, h2, p4, h4, h6, h20⟩; exact ⟨h20, ⟨F, hW, g2, g4, h1, p2, h2, p4, h4, h6⟩, F, hW, g4, p4, h4⟩
      · exact Ref.skip
      · exact Ref.exit (fun s ρ w h => h)
    refine Ref.seq (B := G7 w0 F0) ?_ ?_
    · refine Ref.block ?_; refine Ref.seq (B := G7 w0 F0) ?_ ?_
      · refine Ref.seq (B := G9 w0 F0) ?_ ?_
        · refine Ref.region (fun s ρ w s' h hr => ?_); obtain ⟨F, hW, g2, g4, h1, p2, h2, p4, h4, h6⟩ := h; refine ol_m rfl ?_; refine ol_m h6 ?_; obtain ⟨x50, hx50, hr⟩ := bind_some' hr; obtain ⟨A51, c52, e53, hc54, R55⟩ := id h1; obtain ⟨b56, o57, hA58, L59⟩ := Row.at_ R55 hx50; refine ol_v (e_ix (SlT.sl sl_26) (SlT.sz sl_26) hA58 hx50 e53 rfl) rfl ?_; refine ol_v (e_ld ty_3 (LiesV.int L59.at_) rfl) rfl ?_; obtain ⟨x60, hx60, hr⟩ := bind_some' hr; refine ol_e (f_call [.int .i64 x50, .int .i64 (0 : Int), .int .i64 (2305843009213693950 : Int)] fn_12 (lcons rfl (lcons rfl (lcons rfl rfl))) (ref3_In.calls hW.ok x50 (0 : Int) (2305843009213693950 : Int) hx60)) rfl rfl ?_; rintro _ w61 ⟨Fz62, rfl, kw1⟩; have hW64 := hW.trans kw1; have st1 := kw1.stp hW.ok; refine ol_v (e_not_ rfl) rfl ?_; exact ol_fin hr ⟨Fz62, hW64, g2, g4, (h1.keep st1), p2, (h2.wk kw1 hW.ok), p4, (h4.wk kw1 hW.ok), h6, rfl⟩
        refine Ref.condP (b := fun s => s.t_28) (L := G10 w0 F0) (K := G7 w0 F0) ?_ ?_ ?_
        · rintro s ρ w ⟨F, hW, g2, g4, h1, p2, h2, p4, h4, h6, h28⟩; exact ⟨h28, ⟨F, hW, g4, p4, h4, h6⟩, F, hW, g2, g4, h1, p2, h2, p4, h4, h6⟩
        · refine Ref.seq (B := G5 w0 F0) ?_ ?_
          · refine Ref.region (fun s ρ w s' h hr => ?_); obtain ⟨F, hW, g4, p4, h4, h6⟩ := h; refine ol_m h6 ?_; refine ol_v (e_sub rfl rfl) rfl ?_; obtain ⟨x65, hx65, hr⟩ := bind_some' hr; refine ol_e (f_call [.int .i64 (3 : Int), .int .i64 (w64 ((-3 : Int) - s.i_6))] fn_13 (lcons rfl (lcons rfl rfl)) (ref3_Fault.calls hW.ok (3 : Int) (w64 ((-3 : Int) - s.i_6)) hx65)) rfl rfl ?_; rintro v68 w66 ⟨Fz67, _, rfl, kw1, hk69⟩; have hW71 := hW.trans kw1; have st1 := kw1.stp hW.ok; refine ol_eN (f_stB hW71 (h4.wk kw1 hW.ok) (FldS.whole _) ty_28 hk69 p4 rfl) rfl ?_; rintro - w72 ⟨hW73, ho74, hg2, st2⟩; exact ol_fin hr ⟨Fz67, hW73, g4, p4, ho74⟩
          exact Ref.ret (fun s ρ w h => ⟨s, rfl, h⟩)
        · exact Ref.skip
      refine Ref.seq (B := G7 w0 F0) ?_ ?_
      · refine Ref.seq (B := G11 w0 F0) ?_ ?_
        · refine Ref.regionS (by kernel_rfl) (by kernel_rfl) (fun s ρ w ⟨F, hW, g2, g4, h1, p2, h2, p4, h4, h6⟩ => ⟨F, hW.drewS, g2, g4, h1.keep (sd hW), p2, h2.wk (Wk.drew (row := nrow) hW.ok) hW.ok, p4, h4.wk (Wk.drew (row := nrow) hW.ok) hW.ok, h6⟩) (fun s ρ w s' h hr => ?_); obtain ⟨F, hW, g2, g4, h1, p2, h2, p4, h4, h6⟩ := h; refine ol_m h6 ?_; refine ol_v (e_gtr rfl rfl) rfl ?_; obtain ⟨x97, hx98, hr⟩ := bind_some' hr; refine ol_cutA 12 34 45 (fun ρ' w' => w = w' ∧ ρ' 45 = .bool x97) rfl ?_ ?_
          · by_cases hb75 : (decide ((0 : Int) < s.i_6)) = true
            · have hr := hx98; rw [if_pos hb75] at hr; refine ol_m rfl ?_; refine ol_yes rfl rfl (congrArg Value.bool hb75) ?_; refine ol_m rfl ?_; refine ol_yes rfl rfl (congrArg Value.bool hb75) ?_; refine ol_m h6 ?_; refine ol_yes rfl rfl (congrArg Value.bool hb75) ?_; refine ol_v (e_sub rfl rfl) rfl ?_; refine ol_yes rfl rfl (congrArg Value.bool hb75) ?_; obtain ⟨x77, hx77, hr⟩ := bind_some' hr; obtain ⟨A78, c79, e80, hc81, R82⟩ := id h1; obtain ⟨b83, o84, hA85, L86⟩ := Row.at_ R82 hx77; refine ol_v (e_ix (SlT.sl sl_26) (SlT.sz sl_26) hA85 hx77 e80 rfl) rfl ?_; refine ol_yes rfl rfl (congrArg Value.bool hb75) ?_; refine ol_v (e_ld ty_3 (LiesV.int L86.at_) rfl) rfl ?_; refine ol_yes rfl rfl (congrArg Value.bool hb75) ?_; refine ol_m rfl ?_; refine ol_yes rfl rfl (congrArg Value.bool hb75) ?_; refine ol_m h6 ?_; refine ol_yes rfl rfl (congrArg Value.bool hb75) ?_; obtain ⟨x87, hx87, hr⟩ := bind_some' hr; obtain ⟨A88, c89, e90, hc91, R92⟩ := id h1; obtain ⟨b93, o94, hA95, L96⟩ := Row.at_ R92 hx87; refine ol_v (e_ix (SlT.sl sl_26) (SlT.sz sl_26) hA95 hx87 e90 rfl) rfl ?_; refine ol_yes rfl rfl (congrArg Value.bool hb75) ?_; refine ol_v (e_ld ty_3 (LiesV.int L96.at_) rfl) rfl ?_; refine ol_yes rfl rfl (congrArg Value.bool hb75) ?_; refine ol_v (e_geq rfl rfl) rfl ?_; refine ol_v (e_pick true _ (congrArg Value.bool hb75) rfl) rfl ?_; exact ol_nil ⟨⟨rfl, (congrArg Value.bool (Option.some.inj hr))⟩, (Agr.refl _ _ _).u.u.u.u.u.u.u.u.u.u.u.u⟩
            · have hb76 := Bool.eq_false_iff.mpr hb75; have hr := hx98; rw [if_neg hb75] at hr; refine ol_m rfl ?_; refine ol_not rfl rfl rfl (congrArg Value.bool hb76) rfl ?_; refine ol_not rfl rfl rfl (congrArg Value.bool hb76) rfl ?_; refine ol_not rfl rfl rfl (congrArg Value.bool hb76) rfl ?_; refine ol_not rfl rfl rfl (congrArg Value.bool hb76) rfl ?_; refine ol_not rfl rfl rfl (congrArg Value.bool hb76) rfl ?_; refine ol_not rfl rfl rfl (congrArg Value.bool hb76) rfl ?_; refine ol_not rfl rfl rfl (congrArg Value.bool hb76) rfl ?_; refine ol_not rfl rfl rfl (congrArg Value.bool hb76) rfl ?_; refine ol_not rfl rfl rfl (congrArg Value.bool hb76) rfl ?_; refine ol_not rfl rfl rfl (congrArg Value.bool hb76) rfl ?_; refine ol_v (e_pick false _ (congrArg Value.bool hb76) rfl) rfl ?_; exact ol_nil ⟨⟨rfl, (congrArg Value.bool (Option.some.inj hr))⟩, (Agr.refl _ _ _).u.u.u.u.u.u.u.u.u.u.u.u⟩
          rintro ρ98 _ ⟨⟨rfl, hp98⟩, hAg98⟩; exact ol_fin hr ⟨F, hW, g2, g4, (SlR.eqv (hAg98 1 rfl) h1), ((hAg98 2 rfl).trans p2), h2, ((hAg98 4 rfl).trans p4), h4, ((hAg98 6 rfl).trans h6), hp98⟩
        refine Ref.condP (b := fun s => s.t_45) (L := G10 w0 F0) (K := G7 w0 F0) ?_ ?_ ?_
        · rintro s ρ w ⟨F, hW, g2, g4, h1, p2, h2, p4, h4, h6, h45⟩; exact ⟨h45, ⟨F, hW, g4, p4, h4, h6⟩, F, hW, g2, g4, h1, p2, h2, p4, h4, h6⟩
        · refine Ref.seq (B := G5 w0 F0) ?_ ?_
          · refine Ref.region (fun s ρ w s' h hr => ?_); obtain ⟨F, hW, g4, p4, h4, h6⟩ := h; refine ol_m h6 ?_; refine ol_v (e_sub rfl rfl) rfl ?_; obtain ⟨x99, hx99, hr⟩ := bind_some' hr; refine ol_e (f_call [.int .i64 (5 : Int), .int .i64 (w64 ((-3 : Int) - s.i_6))] fn_13 (lcons rfl (lcons rfl rfl)) (ref3_Fault.calls hW.ok (5 : Int) (w64 ((-3 : Int) - s.i_6)) hx99)) rfl rfl ?_; rintro v102 w100 ⟨Fz101, _, rfl, kw1, hk103⟩; have hW105 := hW.trans kw1; have st1 := kw1.stp hW.ok; refine ol_eN (f_stB hW105 (h4.wk kw1 hW.ok) (FldS.whole _) ty_28 hk103 p4 rfl) rfl ?_; rintro - w106 ⟨hW107, ho108, hg2, st2⟩; exact ol_fin hr ⟨Fz101, hW107, g4, p4, ho108⟩
          exact Ref.ret (fun s ρ w h => ⟨s, rfl, h⟩)
        · exact Ref.skip
      refine Ref.seq (B := G12 w0 F0) ?_ ?_
      · refine Ref.regionD 5 (by kernel_rfl) (by kernel_rfl) (fun s ρ w ⟨F, hW, g2, g4, h1, p2, h2, p4, h4, h6⟩ => ⟨F, hW.drewS, g2, g4, h1.keep (sd hW), p2, h2.wk (Wk.drew (row := nrow) hW.ok) hW.ok, p4, h4.wk (Wk.drew (row := nrow) hW.ok) hW.ok, h6⟩) (fun s ρ w s' h hr => ?_); obtain ⟨F, hW, g2, g4, h1, p2, h2, p4, h4, h6⟩ := h; obtain ⟨v109, hl110⟩ := LiesAt.v (h2).at_; refine ol_v (e_ld ty_24 hl110 p2) rfl ?_; refine ol_m rfl ?_; refine ol_m h6 ?_; obtain ⟨x111, hx111, hr⟩ := bind_some' hr; obtain ⟨A112, c113, e114, hc115, R116⟩ := id h1; obtain ⟨b117, o118, hA119, L120⟩ := Row.at_ R116 hx111; refine ol_v (e_ix (SlT.sl sl_26) (SlT.sz sl_26) hA119 hx111 e114 rfl) rfl ?_; refine ol_v (e_ld ty_3 (LiesV.int L120.at_) rfl) rfl ?_; obtain ⟨x121, hx121, hr⟩ := bind_some' hr; refine ol_e (f_call [v109, .int .i64 x111] fn_36 (lcons rfl (lcons rfl rfl)) (ref3_At.calls hW.ok hl110.val x111 hx121)) rfl rfl ?_; rintro _ w122 ⟨Fz123, rfl, kw1⟩; have hW125 := hW.trans kw1; have st1 := kw1.stp hW.ok; refine ol_v (e_geq rfl rfl) rfl ?_; exact ol_fin hr ⟨Fz123, hW125, g2, g4, (h1.keep st1), p2, (h2.wk kw1 hW.ok), p4, (h4.wk kw1 hW.ok), h6, rfl⟩
      refine Ref.condP (b := fun s => s.t_55) (L := G10 w0 F0) (K := G7 w0 F0) ?_ ?_ ?_
      · rintro s ρ w ⟨F, hW, g2, g4, h1, p2, h2, p4, h4, h6, h55⟩; exact ⟨h55, ⟨F, hW, g4, p4, h4, h6⟩, F, hW, g2, g4, h1, p2, h2, p4, h4, h6⟩
      · refine Ref.seq (B := G5 w0 F0) ?_ ?_
        · refine Ref.region (fun s ρ w s' h hr => ?_); obtain ⟨F, hW, g4, p4, h4, h6⟩ := h; refine ol_m h6 ?_; refine ol_v (e_sub rfl rfl) rfl ?_; obtain ⟨x126, hx126, hr⟩ := bind_some' hr; refine ol_e (f_call [.int .i64 (7 : Int), .int .i64 (w64 ((-3 : Int) - s.i_6))] fn_13 (lcons rfl (lcons rfl rfl)) (ref3_Fault.calls hW.ok (7 : Int) (w64 ((-3 : Int) - s.i_6)) hx126)) rfl rfl ?_; rintro v129 w127 ⟨Fz128, _, rfl, kw1, hk130⟩; have hW132 := hW.trans kw1; have st1 := kw1.stp hW.ok; refine ol_eN (f_stB hW132 (h4.wk kw1 hW.ok) (FldS.whole _) ty_28 hk130 p4 rfl) rfl ?_; rintro - w133 ⟨hW134, ho135, hg2, st2⟩; exact ol_fin hr ⟨Fz128, hW134, g4, p4, ho135⟩
        exact Ref.ret (fun s ρ w h => ⟨s, rfl, h⟩)
      · exact Ref.skip
    refine Ref.region (fun s ρ w s' h hr => ?_); obtain ⟨F, hW, g2, g4, h1, p2, h2, p4, h4, h6⟩ := h; refine ol_m h6 ?_; refine ol_v (e_add rfl rfl) rfl ?_; refine ol_a rfl ?_; exact ol_fin hr ⟨F, hW, g2, g4, h1, p2, h2, p4, h4, rfl⟩
  refine Ref.seq (B := G5 w0 F0) ?_ ?_
  · refine Ref.region (fun s ρ w s' h hr => ?_); obtain ⟨F, hW, g4, p4, h4⟩ := h; refine ol_v (e_bld (cells := #[.int .i64 0, .int .i64 0]) bld_28 (vs := []) rfl rfl) rfl ?_; have hb136 : Val k_Fault F w (.agg #[.int .i64 0, .int .i64 0]) (⟨(0 : Int), (0 : Int)⟩ : Fault) := mk_Fault (val_int _ _) (val_int _ _); refine ol_eN (f_stB hW h4 (FldS.whole _) ty_28 hb136 p4 rfl) rfl ?_; rintro - w137 ⟨hW138, ho139, hg1, st1⟩; exact ol_fin hr ⟨F, hW138, g4, p4, ho139⟩
  exact Ref.ret (fun s ρ w h => ⟨s, rfl, h⟩)
def post (w : World) (F : BSet) (r : R) (v : Value) (w' : World) : Prop := ∃ (F' : BSet) (v0' : Value), v = v0' ∧ Wk nrow w F F' w' ∧ Val k_Fault F' w' v0' r
theorem calls {w : World} {F : BSet} (hok : ∀ b, F b → b < w.heap.size) {v0 : Value} {a0 : ObjectStore} (h0 : Val k_ObjectStore F w v0 a0) {v1 : Value} {a1 : (List Int)} (h1 : SlR (kInt .i64) F w v1 a1) {r : R} (hf : f a0 a1 = some r) : Calls Try.prog 19 #[v0, v1] w fun e w' => ∃ v, e = .returned v ∧ post w F r v w' := by
  obtain ⟨c, hc, href⟩ := ref w F; refine calls_of_ref (args := [v0, v1]) _ Try.func19 hc rfl rfl href ?_ (retOf_some hf) ?_
  · exact ⟨F, Wk.refl hok, h0, h1⟩
  · rintro ρ w' a ⟨s, rfl, F', hW, g4, p4, h4⟩ hF; obtain ⟨u4, l4, k4⟩ := res_box (P := Try.prog) ty_28 h4; refine ⟨_, run_results (rs := [.cell 4 28]) rfl hF (vs := [u4]) (⟨_, _, _, rfl, p4, l4, rfl⟩), ?_⟩; exact ⟨F', u4, rfl, hW, k4⟩
end
end ref4_PromiseFault

end Go.Proofs.Ytenkbkcddcnmeaa
