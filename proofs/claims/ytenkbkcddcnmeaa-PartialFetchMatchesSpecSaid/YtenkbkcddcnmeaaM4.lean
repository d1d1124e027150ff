/- The machine's calls come to these plain functions (written by a program, wip/fx/gen.py). -/
import Derived.Test.YtenkbkcddcnmeaaPA
import Derived.Test.YtenkbkcddcnmeaaNm
import Derived.Test.YtenkbkcddcnmeaaSl
import Derived.Test.YtenkbkcddcnmeaaIn
namespace Go.Proofs.Ytenkbkcddcnmeaa
open Go.Fx Go.RowKit
set_option linter.unusedVariables false

namespace ref3_Fault
section
def G0 : GT S := fun w0 F0 s ρ w => ∃ F, Wk nrow w0 F0 F w ∧ ρ 0 = .int .i64 s.code_0 ∧ ρ 1 = .int .i64 s.index_1
def G1 : GT S := fun w0 F0 s ρ w => ∃ F, Wk nrow w0 F0 F w ∧ ∃ g4, ρ 0 = .int .i64 s.code_0 ∧ ρ 1 = .int .i64 s.index_1 ∧ ρ 4 = .pointer (some ⟨g4, 0, none⟩) ∧ Box k_Fault 28 (Bs w0 nrow) F w g4 s.t_4
def G2 : GT S := fun w0 F0 s ρ w => ∃ F, Wk nrow w0 F0 F w ∧ ∃ g4, ρ 4 = .pointer (some ⟨g4, 0, none⟩) ∧ Box k_Fault 28 (Bs w0 nrow) F w g4 s.t_4
set_option maxHeartbeats 4000000 in
set_option maxRecDepth 20000 in
theorem ref (w0 : World) (F0 : BSet) : ∃ c, Try.f13.body = some c ∧ Ref Try.prog 8 c (G0 w0 F0) body (fun _ _ _ => False) (fun _ _ _ _ => False) (fun r ρ w => ∃ s, retv s = r ∧ G2 w0 F0 s ρ w) := by
  refine ⟨_, rfl, ?_⟩; unfold body; refine Ref.seq (B := G1 w0 F0) ?_ ?_
  · refine Ref.region (fun s ρ w s' h hr => ?_); obtain ⟨F, hW, h0, h1⟩ := h; refine ol_e (f_alloc zer_28 hW) rfl rfl ?_; rintro _ w2 ⟨g1, rfl, kw1, ho3⟩; have hW4 := hW.trans kw1; have st1 := kw1.stp hW.ok; exact ol_fin hr ⟨F, hW4, g1, h0, h1, rfl, (ho3.base (row := nrow) hW.le)⟩
  refine Ref.seq (B := G2 w0 F0) ?_ ?_
  · refine Ref.region (fun s ρ w s' h hr => ?_); obtain ⟨F, hW, g4, h0, h1, p4, h4⟩ := h; refine ol_m h0 ?_; refine ol_m h1 ?_; refine ol_v (e_bld (cells := #[.int .i64 s.code_0, .int .i64 s.index_1]) bld_28 (vs := [(0, .int .i64 s.code_0), (1, .int .i64 s.index_1)]) (lcons (congrArg (Prod.mk 0) rfl) (lcons (congrArg (Prod.mk 1) rfl) rfl)) rfl) rfl ?_; have hb5 : Val k_Fault F w (.agg #[.int .i64 s.code_0, .int .i64 s.index_1]) (⟨s.code_0, s.index_1⟩ : Fault) := mk_Fault (val_int _ _) (val_int _ _); refine ol_eN (f_stB hW h4 (FldS.whole _) ty_28 hb5 p4 rfl) rfl ?_; rintro - w6 ⟨hW7, ho8, hg1, st1⟩; exact ol_fin hr ⟨F, hW7, g4, p4, ho8⟩
  exact Ref.ret (fun s ρ w h => ⟨s, rfl, h⟩)
def post (w : World) (F : BSet) (r : R) (v : Value) (w' : World) : Prop := ∃ (F' : BSet) (v0' : Value), v = v0' ∧ Wk nrow w F F' w' ∧ Val k_Fault F' w' v0' r
theorem calls {w : World} {F : BSet} (hok : ∀ b, F b → b < w.heap.size) (a0 : Int) (a1 : Int) {r : R} (hf : f a0 a1 = some r) : Calls Try.prog 13 #[.int .i64 a0, .int .i64 a1] w fun e w' => ∃ v, e = .returned v ∧ post w F r v w' := by
  obtain ⟨c, hc, href⟩ := ref w F; refine calls_of_ref (args := [.int .i64 a0, .int .i64 a1]) _ Try.func13 hc rfl rfl href ?_ (retOf_some hf) ?_
  · exact ⟨F, Wk.refl hok, rfl, rfl⟩
  · rintro ρ w' a ⟨s, rfl, F', hW, g4, p4, h4⟩ hF; obtain ⟨u4, l4, k4⟩ := res_box (P := Try.prog) ty_28 h4; refine ⟨_, run_results (rs := [.cell 4 28]) rfl hF (vs := [u4]) (⟨_, _, _, rfl, p4, l4, rfl⟩), ?_⟩; exact ⟨F', u4, rfl, hW, k4⟩
end
end ref3_Fault

namespace ref3_In
section
def G0 : GT S := fun w0 F0 s ρ w => ∃ F, Wk nrow w0 F0 F w ∧ ρ 0 = .int .i64 s.n_0 ∧ ρ 1 = .int .i64 s.low_1 ∧ ρ 2 = .int .i64 s.high_2
def G1 : GT S := fun w0 F0 s ρ w => ∃ F, Wk nrow w0 F0 F w ∧ ρ 6 = .bool s.t_6
set_option maxHeartbeats 4000000 in
set_option maxRecDepth 20000 in
theorem ref (w0 : World) (F0 : BSet) : ∃ c, Try.f12.body = some c ∧ Ref Try.prog 15 c (G0 w0 F0) body (fun _ _ _ => False) (fun _ _ _ _ => False) (fun r ρ w => ∃ s, retv s = r ∧ G1 w0 F0 s ρ w) := by
  refine ⟨_, rfl, ?_⟩; unfold body; refine Ref.seq (B := G0 w0 F0) ?_ ?_
  · refine Ref.region (fun s ρ w s' h hr => ?_); obtain ⟨F, hW, h0, h1, h2⟩ := h; refine ol_a rfl ?_; exact ol_fin hr ⟨F, hW, h0, h1, h2⟩
  refine Ref.seq (B := G1 w0 F0) ?_ ?_
  · refine Ref.region (fun s ρ w s' h hr => ?_); obtain ⟨F, hW, h0, h1, h2⟩ := h; refine ol_m h0 ?_; refine ol_m h1 ?_; refine ol_v (e_geq rfl rfl) rfl ?_; refine ol_cutA 5 10 14 (fun ρ' w' => w = w' ∧ ρ' 14 = .bool ((decide (s.low_1 ≤ s.n_0)) && (decide (s.n_0 ≤ s.high_2)))) rfl ?_ ?_
    · by_cases hb1 : (decide (s.low_1 ≤ s.n_0)) = true
      · refine ol_m rfl ?_; refine ol_yes rfl rfl (congrArg Value.bool hb1) ?_; refine ol_m h0 ?_; refine ol_yes rfl rfl (congrArg Value.bool hb1) ?_; refine ol_m h2 ?_; refine ol_yes rfl rfl (congrArg Value.bool hb1) ?_; refine ol_v (e_leq rfl rfl) rfl ?_; refine ol_v (e_pick true _ (congrArg Value.bool hb1) rfl) rfl ?_; exact ol_nil ⟨⟨rfl, (bv_and_t hb1)⟩, (Agr.refl _ _ _).u.u.u.u.u⟩
      · have hb2 := Bool.eq_false_iff.mpr hb1; refine ol_m rfl ?_; refine ol_not rfl rfl rfl (congrArg Value.bool hb2) rfl ?_; refine ol_not rfl rfl rfl (congrArg Value.bool hb2) rfl ?_; refine ol_not rfl rfl rfl (congrArg Value.bool hb2) rfl ?_; refine ol_v (e_pick false _ (congrArg Value.bool hb2) rfl) rfl ?_; exact ol_nil ⟨⟨rfl, (bv_and_f hb2)⟩, (Agr.refl _ _ _).u.u.u.u.u⟩
    rintro ρ3 _ ⟨⟨rfl, hp3⟩, hAg3⟩; refine ol_a hp3 ?_; exact ol_fin hr ⟨F, hW, rfl⟩
  exact Ref.ret (fun s ρ w h => ⟨s, rfl, h⟩)
def post (w : World) (F : BSet) (r : R) (v : Value) (w' : World) : Prop := ∃ (F' : BSet), v = .bool r ∧ Wk nrow w F F' w'
theorem calls {w : World} {F : BSet} (hok : ∀ b, F b → b < w.heap.size) (a0 : Int) (a1 : Int) (a2 : Int) {r : R} (hf : f a0 a1 a2 = some r) : Calls Try.prog 12 #[.int .i64 a0, .int .i64 a1, .int .i64 a2] w fun e w' => ∃ v, e = .returned v ∧ post w F r v w' := by
  obtain ⟨c, hc, href⟩ := ref w F; refine calls_of_ref (args := [.int .i64 a0, .int .i64 a1, .int .i64 a2]) _ Try.func12 hc rfl rfl href ?_ (retOf_some hf) ?_
  · exact ⟨F, Wk.refl hok, rfl, rfl, rfl⟩
  · rintro ρ w' a ⟨s, rfl, F', hW, h6⟩ hF; refine ⟨_, run_results (rs := [.tmp 6]) rfl hF (vs := [ρ 6]) (⟨_, rfl, rfl⟩), ?_⟩; have hv : resVal [ρ 6] = .bool s.t_6 := by rw [h6]; rfl
    exact ⟨F', hv, hW⟩
end
end ref3_In

namespace ref3_ObjectFault
section
abbrev c1 (ρ : Env) (g1 : Nat) (w0 w : World) (F : BSet) (s : S) (X : Prop) : Prop := ρ 1 = .pointer (some ⟨g1, 0, none⟩) ∧ Box k_Object 37 (Bs w0 nrow) F w g1 s.o_1 ∧ X
abbrev c2 (ρ : Env) (g2 : Nat) (w0 w : World) (F : BSet) (s : S) (X : Prop) : Prop := ρ 2 = .pointer (some ⟨g2, 0, none⟩) ∧ Box k_Fault 28 (Bs w0 nrow) F w g2 s.t_2 ∧ X
def G0 : GT S := fun w0 F0 s ρ w => ∃ F, Wk nrow w0 F0 F w ∧ Val k_Object F w (ρ 0) s.o_0
def G1 : GT S := fun w0 F0 s ρ w => ∃ F, Wk nrow w0 F0 F w ∧ ∃ g1 g2, c1 ρ g1 w0 w F s (ρ 2 = .pointer (some ⟨g2, 0, none⟩) ∧ Box k_Fault 28 (Bs w0 nrow) F w g2 s.t_2)
def G2 : GT S := fun w0 F0 s ρ w => ∃ F, Wk nrow w0 F0 F w ∧ ∃ g1 g2, c1 ρ g1 w0 w F s (c2 ρ g2 w0 w F s (ρ 7 = .bool s.t_7))
def G3 : GT S := fun w0 F0 s ρ w => ∃ F, Wk nrow w0 F0 F w ∧ ∃ g2, ρ 2 = .pointer (some ⟨g2, 0, none⟩) ∧ Box k_Fault 28 (Bs w0 nrow) F w g2 s.t_2
def G4 : GT S := fun w0 F0 s ρ w => ∃ F, Wk nrow w0 F0 F w ∧ ∃ g1 g2, c1 ρ g1 w0 w F s (c2 ρ g2 w0 w F s (ρ 12 = .bool s.t_12))
def G5 : GT S := fun w0 F0 s ρ w => ∃ F, Wk nrow w0 F0 F w ∧ ∃ g1 g2, c1 ρ g1 w0 w F s (c2 ρ g2 w0 w F s (ρ 17 = .bool s.t_17))
def G6 : GT S := fun w0 F0 s ρ w => ∃ F, Wk nrow w0 F0 F w ∧ ∃ g1 g2, c1 ρ g1 w0 w F s (c2 ρ g2 w0 w F s (ρ 27 = .bool s.t_27))
def G7 : GT S := fun w0 F0 s ρ w => ∃ F, Wk nrow w0 F0 F w ∧ ∃ g1 g2, c1 ρ g1 w0 w F s (c2 ρ g2 w0 w F s (ρ 3 = .int .i64 s.i_3))
def G8 : GT S := fun w0 F0 s ρ w => ∃ F, Wk nrow w0 F0 F w ∧ ∃ g1 g2, c1 ρ g1 w0 w F s (c2 ρ g2 w0 w F s (ρ 3 = .int .i64 s.i_3 ∧ ρ 33 = .bool s.t_33))
def G9 : GT S := fun w0 F0 s ρ w => ∃ F, Wk nrow w0 F0 F w ∧ ∃ g1 g2, c1 ρ g1 w0 w F s (c2 ρ g2 w0 w F s (ρ 3 = .int .i64 s.i_3 ∧ ρ 42 = .bool s.t_42))
def G10 : GT S := fun w0 F0 s ρ w => ∃ F, Wk nrow w0 F0 F w ∧ ∃ g2, c2 ρ g2 w0 w F s (ρ 3 = .int .i64 s.i_3)
set_option maxHeartbeats 4000000 in
set_option maxRecDepth 20000 in
theorem ref (w0 : World) (F0 : BSet) : ∃ c, Try.f28.body = some c ∧ Ref Try.prog 46 c (G0 w0 F0) body (fun _ _ _ => False) (fun _ _ _ _ => False) (fun r ρ w => ∃ s, retv s = r ∧ G3 w0 F0 s ρ w) := by
  refine ⟨_, rfl, ?_⟩; unfold body; refine Ref.seq (B := G1 w0 F0) ?_ ?_
  · refine Ref.region (fun s ρ w s' h hr => ?_); obtain ⟨F, hW, h0⟩ := h; refine ol_e (f_box hW rfl h0) rfl rfl ?_; rintro _ w2 ⟨g1, rfl, kw1, ho3⟩; have hW4 := hW.trans kw1; have st1 := kw1.stp hW.ok; refine ol_e (f_alloc zer_28 hW4) rfl rfl ?_; rintro _ w6 ⟨g5, rfl, kw2, ho7⟩; have hW8 := hW4.trans kw2; have st2 := kw2.stp hW4.ok; exact ol_fin hr ⟨F, hW8, g1, g5, rfl, ((ho3.base (row := nrow) hW.le).wk kw2 hW4.ok), rfl, (ho7.base (row := nrow) hW4.le)⟩
  refine Ref.seq (B := G1 w0 F0) ?_ ?_
  · refine Ref.seq (B := G2 w0 F0) ?_ ?_
    · refine Ref.region (fun s ρ w s' h hr => ?_); obtain ⟨F, hW, g1, g2, p1, h1, p2, h2⟩ := h; refine ol_v (e_fa fa_37_0 p1) rfl ?_; refine ol_v (e_ld ty_3 (LiesV.int ((h1).at_.fld fl_Object_0)) rfl) rfl ?_; obtain ⟨x9, hx9, hr⟩ := bind_some' hr; refine ol_e (f_call [.int .i64 s.o_1.Kind, .int .i64 (1 : Int), .int .i64 (3 : Int)] fn_12 (lcons rfl (lcons rfl (lcons rfl rfl))) (ref3_In.calls hW.ok s.o_1.Kind (1 : Int) (3 : Int) hx9)) rfl rfl ?_; rintro _ w10 ⟨Fz11, rfl, kw1⟩; have hW13 := hW.trans kw1; have st1 := kw1.stp hW.ok; refine ol_v (e_not_ rfl) rfl ?_; exact ol_fin hr ⟨Fz11, hW13, g1, g2, p1, (h1.wk kw1 hW.ok), p2, (h2.wk kw1 hW.ok), rfl⟩
    refine Ref.condP (b := fun s => s.t_7) (L := G3 w0 F0) (K := G1 w0 F0) ?_ ?_ ?_
    · rintro s ρ w ⟨F, hW, g1, g2, p1, h1, p2, h2, h7⟩; exact ⟨h7, ⟨F, hW, g2, p2, h2⟩, F, hW, g1, g2, p1, h1, p2, h2⟩
    · refine Ref.seq (B := G3 w0 F0) ?_ ?_
      · refine Ref.region (fun s ρ w s' h hr => ?_); obtain ⟨F, hW, g2, p2, h2⟩ := h; obtain ⟨x14, hx14, hr⟩ := bind_some' hr; refine ol_e (f_call [.int .i64 (4 : Int), .int .i64 (0 : Int)] fn_13 (lcons rfl (lcons rfl rfl)) (ref3_Fault.calls hW.ok (4 : Int) (0 : Int) hx14)) rfl rfl ?_; rintro v17 w15 ⟨Fz16, _, rfl, kw1, hk18⟩; have hW20 := hW.trans kw1; have st1 := kw1.stp hW.ok; refine ol_eN (f_stB hW20 (h2.wk kw1 hW.ok) (FldS.whole _) ty_28 hk18 p2 rfl) rfl ?_; rintro - w21 ⟨hW22, ho23, hg2, st2⟩; exact ol_fin hr ⟨Fz16, hW22, g2, p2, ho23⟩
      exact Ref.ret (fun s ρ w h => ⟨s, rfl, h⟩)
    · exact Ref.skip
  refine Ref.seq (B := G1 w0 F0) ?_ ?_
  · refine Ref.seq (B := G4 w0 F0) ?_ ?_
    · refine Ref.region (fun s ρ w s' h hr => ?_); obtain ⟨F, hW, g1, g2, p1, h1, p2, h2⟩ := h; refine ol_v (e_fa fa_37_1 p1) rfl ?_; obtain ⟨v24, hl25, hs26⟩ := LiesV.sl ((h1).at_.fld fl_Object_1); refine ol_v (e_ld ty_26 hl25 rfl) rfl ?_; obtain ⟨A27, c28, e29, hc30, R31⟩ := id hs26; refine ol_v (e_len (SlT.sl sl_26) e29) rfl ?_; refine ol_v (e_gtr rfl rfl) rfl ?_; exact ol_fin hr ⟨F, hW, g1, g2, p1, h1, p2, h2, rfl⟩
    refine Ref.condP (b := fun s => s.t_12) (L := G3 w0 F0) (K := G1 w0 F0) ?_ ?_ ?_
    · rintro s ρ w ⟨F, hW, g1, g2, p1, h1, p2, h2, h12⟩; exact ⟨h12, ⟨F, hW, g2, p2, h2⟩, F, hW, g1, g2, p1, h1, p2, h2⟩
    · refine Ref.seq (B := G3 w0 F0) ?_ ?_
      · refine Ref.region (fun s ρ w s' h hr => ?_); obtain ⟨F, hW, g2, p2, h2⟩ := h; obtain ⟨x32, hx32, hr⟩ := bind_some' hr; refine ol_e (f_call [.int .i64 (2 : Int), .int .i64 (0 : Int)] fn_13 (lcons rfl (lcons rfl rfl)) (ref3_Fault.calls hW.ok (2 : Int) (0 : Int) hx32)) rfl rfl ?_; rintro v35 w33 ⟨Fz34, _, rfl, kw1, hk36⟩; have hW38 := hW.trans kw1; have st1 := kw1.stp hW.ok; refine ol_eN (f_stB hW38 (h2.wk kw1 hW.ok) (FldS.whole _) ty_28 hk36 p2 rfl) rfl ?_; rintro - w39 ⟨hW40, ho41, hg2, st2⟩; exact ol_fin hr ⟨Fz34, hW40, g2, p2, ho41⟩
      exact Ref.ret (fun s ρ w h => ⟨s, rfl, h⟩)
    · exact Ref.skip
  refine Ref.seq (B := G1 w0 F0) ?_ ?_
  · refine Ref.seq (B := G5 w0 F0) ?_ ?_
    · refine Ref.region (fun s ρ w s' h hr => ?_); obtain ⟨F, hW, g1, g2, p1, h1, p2, h2⟩ := h; refine ol_v (e_fa fa_37_2 p1) rfl ?_; obtain ⟨v42, hl43, hs44⟩ := LiesV.sl ((h1).at_.fld fl_Object_2); refine ol_v (e_ld ty_35 hl43 rfl) rfl ?_; obtain ⟨A45, c46, e47, hc48, R49⟩ := id hs44; refine ol_v (e_len (SlT.sl sl_35) e47) rfl ?_; refine ol_v (e_gtr rfl rfl) rfl ?_; exact ol_fin hr ⟨F, hW, g1, g2, p1, h1, p2, h2, rfl⟩
    refine Ref.condP (b := fun s => s.t_17) (L := G3 w0 F0) (K := G1 w0 F0) ?_ ?_ ?_
    · rintro s ρ w ⟨F, hW, g1, g2, p1, h1, p2, h2, h17⟩; exact ⟨h17, ⟨F, hW, g2, p2, h2⟩, F, hW, g1, g2, p1, h1, p2, h2⟩
    · refine Ref.seq (B := G3 w0 F0) ?_ ?_
      · refine Ref.region (fun s ρ w s' h hr => ?_); obtain ⟨F, hW, g2, p2, h2⟩ := h; obtain ⟨x50, hx50, hr⟩ := bind_some' hr; refine ol_e (f_call [.int .i64 (10 : Int), .int .i64 (0 : Int)] fn_13 (lcons rfl (lcons rfl rfl)) (ref3_Fault.calls hW.ok (10 : Int) (0 : Int) hx50)) rfl rfl ?_; rintro v53 w51 ⟨Fz52, _, rfl, kw1, hk54⟩; have hW56 := hW.trans kw1; have st1 := kw1.stp hW.ok; refine ol_eN (f_stB hW56 (h2.wk kw1 hW.ok) (FldS.whole _) ty_28 hk54 p2 rfl) rfl ?_; rintro - w57 ⟨hW58, ho59, hg2, st2⟩; exact ol_fin hr ⟨Fz52, hW58, g2, p2, ho59⟩
      exact Ref.ret (fun s ρ w h => ⟨s, rfl, h⟩)
    · exact Ref.skip
  refine Ref.seq (B := G1 w0 F0) ?_ ?_
  · refine Ref.seq (B := G6 w0 F0) ?_ ?_
    · refine Ref.region (fun s ρ w s' h hr => ?_); obtain ⟨F, hW, g1, g2, p1, h1, p2, h2⟩ := h; refine ol_v (e_fa fa_37_0 p1) rfl ?_; refine ol_v (e_ld ty_3 (LiesV.int ((h1).at_.fld fl_Object_0)) rfl) rfl ?_; refine ol_v (e_eql rfl rfl) rfl ?_; refine ol_cutA 6 22 27 (fun ρ' w' => w = w' ∧ ρ' 27 = .bool ((decide (s.o_1.Kind = (1 : Int))) && (!decide ((s.o_1.Links.length : Int) = (0 : Int))))) rfl ?_ ?_
      · by_cases hb60 : (decide (s.o_1.Kind = (1 : Int))) = true
        · refine ol_m rfl ?_; refine ol_yes rfl rfl (congrArg Value.bool hb60) ?_; refine ol_v (e_fa fa_37_1 p1) rfl ?_; refine ol_yes rfl rfl (congrArg Value.bool hb60) ?_; obtain ⟨v62, hl63, hs64⟩ := LiesV.sl ((h1).at_.fld fl_Object_1); refine ol_v (e_ld ty_26 hl63 rfl) rfl ?_; refine ol_yes rfl rfl (congrArg Value.bool hb60) ?_; obtain ⟨A65, c66, e67, hc68, R69⟩ := id hs64; refine ol_v (e_len (SlT.sl sl_26) e67) rfl ?_; refine ol_yes rfl rfl (congrArg Value.bool hb60) ?_; refine ol_v (e_neq rfl rfl) rfl ?_; refine ol_v (e_pick true _ (congrArg Value.bool hb60) rfl) rfl ?_; exact ol_nil ⟨⟨rfl, (bv_and_t hb60)⟩, (Agr.refl _ _ _).u.u.u.u.u.u⟩
        · have hb61 := Bool.eq_false_iff.mpr hb60; refine ol_m rfl ?_; refine ol_not rfl rfl rfl (congrArg Value.bool hb61) rfl ?_; refine ol_not rfl rfl rfl (congrArg Value.bool hb61) rfl ?_; refine ol_not rfl rfl rfl (congrArg Value.bool hb61) rfl ?_; refine ol_not rfl rfl rfl (congrArg Value.bool hb61) rfl ?_; refine ol_v (e_pick false _ (congrArg Value.bool hb61) rfl) rfl ?_; exact ol_nil ⟨⟨rfl, (bv_and_f hb61)⟩, (Agr.refl _ _ _).u.u.u.u.u.u⟩
      rintro ρ70 _ ⟨⟨rfl, hp70⟩, hAg70⟩; exact ol_fin hr ⟨F, hW, g1, g2, ((hAg70 1 rfl).trans p1), h1, ((hAg70 2 rfl).trans p2), h2, hp70⟩
    refine Ref.condP (b := fun s => s.t_27) (L := G3 w0 F0) (K := G1 w0 F0) ?_ ?_ ?_
    · rintro s ρ w ⟨F, hW, g1, g2, p1, h1, p2, h2, h27⟩; exact ⟨h27, ⟨F, hW, g2, p2, h2⟩, F, hW, g1, g2, p1, h1, p2, h2⟩
    · refine Ref.seq (B := G3 w0 F0) ?_ ?_
      · refine Ref.region (fun s ρ w s' h hr => ?_); obtain ⟨F, hW, g2, p2, h2⟩ := h; obtain ⟨x71, hx71, hr⟩ := bind_some' hr; refine ol_e (f_call [.int .i64 (5 : Int), .int .i64 (0 : Int)] fn_13 (lcons rfl (lcons rfl rfl)) (ref3_Fault.calls hW.ok (5 : Int) (0 : Int) hx71)) rfl rfl ?_; rintro v74 w72 ⟨Fz73, _, rfl, kw1, hk75⟩; have hW77 := hW.trans kw1; have st1 := kw1.stp hW.ok; refine ol_eN (f_stB hW77 (h2.wk kw1 hW.ok) (FldS.whole _) ty_28 hk75 p2 rfl) rfl ?_; rintro - w78 ⟨hW79, ho80, hg2, st2⟩; exact ol_fin hr ⟨Fz73, hW79, g2, p2, ho80⟩
      exact Ref.ret (fun s ρ w h => ⟨s, rfl, h⟩)
    · exact Ref.skip
  refine Ref.seq (B := G3 w0 F0) ?_ ?_
  · refine Ref.seq (B := G7 w0 F0) ?_ ?_
    · refine Ref.region (fun s ρ w s' h hr => ?_); obtain ⟨F, hW, g1, g2, p1, h1, p2, h2⟩ := h; refine ol_a rfl ?_; exact ol_fin hr ⟨F, hW, g1, g2, p1, h1, p2, h2, rfl⟩
    refine Ref.block ?_; refine Ref.loop ?_; refine Ref.seq (B := G7 w0 F0) ?_ ?_
    · refine Ref.seq (B := G8 w0 F0) ?_ ?_
      · refine Ref.region (fun s ρ w s' h hr => ?_); obtain ⟨F, hW, g1, g2, p1, h1, p2, h2, h3⟩ := h; refine ol_m h3 ?_; refine ol_v (e_fa fa_37_1 p1) rfl ?_; obtain ⟨v81, hl82, hs83⟩ := LiesV.sl ((h1).at_.fld fl_Object_1); refine ol_v (e_ld ty_26 hl82 rfl) rfl ?_; obtain ⟨A84, c85, e86, hc87, R88⟩ := id hs83; refine ol_v (e_len (SlT.sl sl_26) e86) rfl ?_; refine ol_v (e_lss rfl rfl) rfl ?_; exact ol_fin hr ⟨F, hW, g1, g2, p1, h1, p2, h2, h3, rfl⟩
      refine Ref.condP (b := fun s => s.t_33) (L := G7 w0 F0) (K := G3 w0 F0) ?_ ?_ ?_
      · rintro s ρ w ⟨F, hW, g1, g2, p1, h1, p2, h2, h3, h33⟩; exact ⟨h33, ⟨F, hW, g1, g2, p1, h1, p2, h2, h3⟩, F, hW, g2, p2, h2⟩
      · exact Ref.skip
      · exact Ref.exit (fun s ρ w h => h)
    refine Ref.seq (B := G7 w0 F0) ?_ ?_
    · refine Ref.block ?_; refine Ref.seq (B := G9 w0 F0) ?_ ?_
      · refine Ref.region (fun s ρ w s' h hr => ?_); obtain ⟨F, hW, g1, g2, p1, h1, p2, h2, h3⟩ := h; refine ol_v (e_fa fa_37_1 p1) rfl ?_; obtain ⟨v89, hl90, hs91⟩ := LiesV.sl ((h1).at_.fld fl_Object_1); refine ol_v (e_ld ty_26 hl90 rfl) rfl ?_; refine ol_m h3 ?_; obtain ⟨x92, hx92, hr⟩ := bind_some' hr; obtain ⟨A93, c94, e95, hc96, R97⟩ := id hs91; obtain ⟨b98, o99, hA100, L101⟩ := Row.at_ R97 hx92; refine ol_v (e_ix (SlT.sl sl_26) (SlT.sz sl_26) hA100 hx92 e95 rfl) rfl ?_; refine ol_v (e_ld ty_3 (LiesV.int L101.at_) rfl) rfl ?_; obtain ⟨x102, hx102, hr⟩ := bind_some' hr; refine ol_e (f_call [.int .i64 x92, .int .i64 (0 : Int), .int .i64 (2305843009213693950 : Int)] fn_12 (lcons rfl (lcons rfl (lcons rfl rfl))) (ref3_In.calls hW.ok x92 (0 : Int) (2305843009213693950 : Int) hx102)) rfl rfl ?_; rintro _ w103 ⟨Fz104, rfl, kw1⟩; have hW106 := hW.trans kw1; have st1 := kw1.stp hW.ok; refine ol_v (e_not_ rfl) rfl ?_; exact ol_fin hr ⟨Fz104, hW106, g1, g2, p1, (h1.wk kw1 hW.ok), p2, (h2.wk kw1 hW.ok), h3, rfl⟩
      refine Ref.condP (b := fun s => s.t_42) (L := G10 w0 F0) (K := G7 w0 F0) ?_ ?_ ?_
      · rintro s ρ w ⟨F, hW, g1, g2, p1, h1, p2, h2, h3, h42⟩; exact ⟨h42, ⟨F, hW, g2, p2, h2, h3⟩, F, hW, g1, g2, p1, h1, p2, h2, h3⟩
      · refine Ref.seq (B := G3 w0 F0) ?_ ?_
        · refine Ref.region (fun s ρ w s' h hr => ?_); obtain ⟨F, hW, g2, p2, h2, h3⟩ := h; refine ol_m h3 ?_; obtain ⟨x107, hx107, hr⟩ := bind_some' hr; refine ol_e (f_call [.int .i64 (3 : Int), .int .i64 s.i_3] fn_13 (lcons rfl (lcons rfl rfl)) (ref3_Fault.calls hW.ok (3 : Int) s.i_3 hx107)) rfl rfl ?_; rintro v110 w108 ⟨Fz109, _, rfl, kw1, hk111⟩; have hW113 := hW.trans kw1; have st1 := kw1.stp hW.ok; refine ol_eN (f_stB hW113 (h2.wk kw1 hW.ok) (FldS.whole _) ty_28 hk111 p2 rfl) rfl ?_; rintro - w114 ⟨hW115, ho116, hg2, st2⟩; exact ol_fin hr ⟨Fz109, hW115, g2, p2, ho116⟩
        exact Ref.ret (fun s ρ w h => ⟨s, rfl, h⟩)
      · exact Ref.skip
    refine Ref.region (fun s ρ w s' h hr => ?_); obtain ⟨F, hW, g1, g2, p1, h1, p2, h2, h3⟩ := h; refine ol_m h3 ?_; refine ol_v (e_add rfl rfl) rfl ?_; refine ol_a rfl ?_; exact ol_fin hr ⟨F, hW, g1, g2, p1, h1, p2, h2, rfl⟩
  refine Ref.seq (B := G3 w0 F0) ?_ ?_
  · refine Ref.region (fun s ρ w s' h hr => ?_); obtain ⟨F, hW, g2, p2, h2⟩ := h; refine ol_v (e_bld (cells := #[.int .i64 0, .int .i64 0]) bld_28 (vs := []) rfl rfl) rfl ?_; have hb117 : Val k_Fault F w (.agg #[.int .i64 0, .int .i64 0]) (⟨(0 : Int), (0 : Int)⟩ : Fault) := mk_Fault (val_int _ _) (val_int _ _); refine ol_eN (f_stB hW h2 (FldS.whole _) ty_28 hb117 p2 rfl) rfl ?_; rintro - w118 ⟨hW119, ho120, hg1, st1⟩; exact ol_fin hr ⟨F, hW119, g2, p2, ho120⟩
  exact Ref.ret (fun s ρ w h => ⟨s, rfl, h⟩)
def post (w : World) (F : BSet) (r : R) (v : Value) (w' : World) : Prop := ∃ (F' : BSet) (v0' : Value), v = v0' ∧ Wk nrow w F F' w' ∧ Val k_Fault F' w' v0' r
theorem calls {w : World} {F : BSet} (hok : ∀ b, F b → b < w.heap.size) {v0 : Value} {a0 : Object} (h0 : Val k_Object F w v0 a0) {r : R} (hf : f a0 = some r) : Calls Try.prog 28 #[v0] w fun e w' => ∃ v, e = .returned v ∧ post w F r v w' := by
  obtain ⟨c, hc, href⟩ := ref w F; refine calls_of_ref (args := [v0]) _ Try.func28 hc rfl rfl href ?_ (retOf_some hf) ?_
  · exact ⟨F, Wk.refl hok, h0⟩
  · rintro ρ w' a ⟨s, rfl, F', hW, g2, p2, h2⟩ hF; obtain ⟨u2, l2, k2⟩ := res_box (P := Try.prog) ty_28 h2; refine ⟨_, run_results (rs := [.cell 2 28]) rfl hF (vs := [u2]) (⟨_, _, _, rfl, p2, l2, rfl⟩), ?_⟩; exact ⟨F', u2, rfl, hW, k2⟩
end
end ref3_ObjectFault

namespace ref3_Wide
section
def G0 : GT S := fun w0 F0 s ρ w => ∃ F, Wk nrow w0 F0 F w ∧ ρ 0 = .int .i64 s.n_0
def G1 : GT S := fun w0 F0 s ρ w => ∃ F, Wk nrow w0 F0 F w ∧ ρ 0 = .int .i64 s.n_0 ∧ OwnV kByte 5 (Bs w0 nrow) F w (ρ 3) s.out_3
def G2 : GT S := fun w0 F0 s ρ w => ∃ F, Wk nrow w0 F0 F w ∧ ρ 0 = .int .i64 s.n_0 ∧ OwnV kByte 5 (Bs w0 nrow) F w (ρ 3) s.out_3 ∧ ρ 4 = .int .i64 s.i_4
def G3 : GT S := fun w0 F0 s ρ w => ∃ F, Wk nrow w0 F0 F w ∧ ρ 0 = .int .i64 s.n_0 ∧ OwnV kByte 5 (Bs w0 nrow) F w (ρ 3) s.out_3 ∧ ρ 4 = .int .i64 s.i_4 ∧ ρ 7 = .bool s.t_7
def G4 : GT S := fun w0 F0 s ρ w => ∃ F, Wk nrow w0 F0 F w ∧ OwnV kByte 5 (Bs w0 nrow) F w (ρ 3) s.out_3
def G5 : GT S := fun w0 F0 s ρ w => ∃ F, Wk nrow w0 F0 F w ∧ OwnV kByte 5 (Bs w0 nrow) F w (ρ 2) s.t_2
set_option maxHeartbeats 4000000 in
set_option maxRecDepth 20000 in
theorem ref (w0 : World) (F0 : BSet) : ∃ c, Try.f46.body = some c ∧ Ref Try.prog 19 c (G0 w0 F0) body (fun _ _ _ => False) (fun _ _ _ _ => False) (fun r ρ w => ∃ s, retv s = r ∧ G5 w0 F0 s ρ w) := by
  refine ⟨_, rfl, ?_⟩; unfold body; refine Ref.seq (B := G0 w0 F0) ?_ ?_
  · refine Ref.region (fun s ρ w s' h hr => ?_); obtain ⟨F, hW, h0⟩ := h; refine ol_a rfl ?_; exact ol_fin hr ⟨F, hW, h0⟩
  refine Ref.seq (B := G1 w0 F0) ?_ ?_
  · refine Ref.region (fun s ρ w s' h hr => ?_); obtain ⟨F, hW, h0⟩ := h; obtain ⟨x1, hx1, hr⟩ := bind_some' hr; refine ol_e (f_mks sl_35 hW rfl rfl hx1) rfl rfl ?_; rintro v2 w3 ⟨kw1, ho4⟩; have hW5 := hW.trans kw1; have st1 := kw1.stp hW.ok; refine ol_a rfl ?_; exact ol_fin hr ⟨F, hW5, h0, (ho4.base (row := nrow) hW.le)⟩
  refine Ref.seq (B := G4 w0 F0) ?_ ?_
  · refine Ref.seq (B := G2 w0 F0) ?_ ?_
    · refine Ref.region (fun s ρ w s' h hr => ?_); obtain ⟨F, hW, h0, h3⟩ := h; refine ol_a rfl ?_; exact ol_fin hr ⟨F, hW, h0, h3, rfl⟩
    refine Ref.block ?_; refine Ref.loop ?_; refine Ref.seq (B := G2 w0 F0) ?_ ?_
    · refine Ref.seq (B := G3 w0 F0) ?_ ?_
      · refine Ref.region (fun s ρ w s' h hr => ?_); obtain ⟨F, hW, h0, h3, h4⟩ := h; refine ol_m h4 ?_; refine ol_v (e_geq rfl rfl) rfl ?_; exact ol_fin hr ⟨F, hW, h0, h3, h4, rfl⟩
      refine Ref.condP (b := fun s => s.t_7) (L := G2 w0 F0) (K := G4 w0 F0) ?_ ?_ ?_
      · rintro s ρ w ⟨F, hW, h0, h3, h4, h7⟩; exact ⟨h7, ⟨F, hW, h0, h3, h4⟩, F, hW, h3⟩
      · exact Ref.skip
      · exact Ref.exit (fun s ρ w h => h)
    refine Ref.seq (B := G2 w0 F0) ?_ ?_
    · refine Ref.block ?_; refine Ref.seq (B := G2 w0 F0) ?_ ?_
      · refine Ref.region (fun s ρ w s' h hr => ?_); obtain ⟨F, hW, h0, h3, h4⟩ := h; refine ol_m rfl ?_; refine ol_m h4 ?_; refine ol_m h0 ?_; refine ol_v (e_rem rfl rfl (by decide)) rfl ?_; refine ol_v (e_convB (by kernel_rfl) (by kernel_rfl) rfl) rfl ?_; obtain ⟨x6, hx6, hr⟩ := bind_some' hr; obtain ⟨g7, o8, c9, hv10, L11⟩ := OwnV.at_ h3 hx6; refine ol_v (e_ixO sl_35 hv10 hx6 rfl rfl) rfl ?_; refine ol_eN (f_stO hW h3 hx6 (FldS.whole _) ty_5 (val_byte _) hv10 rfl rfl) rfl ?_; rintro - w12 ⟨hW13, ho14, hg1, st1⟩; exact ol_fin hr ⟨F, hW13, h0, ho14, h4⟩
      refine Ref.region (fun s ρ w s' h hr => ?_); obtain ⟨F, hW, h0, h3, h4⟩ := h; refine ol_m h0 ?_; refine ol_v (e_quo rfl rfl (by decide)) rfl ?_; refine ol_a rfl ?_; exact ol_fin hr ⟨F, hW, rfl, h3, h4⟩
    refine Ref.region (fun s ρ w s' h hr => ?_); obtain ⟨F, hW, h0, h3, h4⟩ := h; refine ol_m h4 ?_; refine ol_v (e_sub rfl rfl) rfl ?_; refine ol_a rfl ?_; exact ol_fin hr ⟨F, hW, h0, h3, rfl⟩
  refine Ref.seq (B := G5 w0 F0) ?_ ?_
  · refine Ref.region (fun s ρ w s' h hr => ?_); obtain ⟨F, hW, h3⟩ := h; refine ol_m rfl ?_; refine ol_a rfl ?_; exact ol_fin hr ⟨F, hW, h3⟩
  exact Ref.ret (fun s ρ w h => ⟨s, rfl, h⟩)
def post (w : World) (F : BSet) (r : R) (v : Value) (w' : World) : Prop := ∃ (F' : BSet) (v0' : Value), v = v0' ∧ Wk nrow w F F' w' ∧ OwnV kByte 5 (Nw w) F' w' v0' r
theorem calls {w : World} {F : BSet} (hok : ∀ b, F b → b < w.heap.size) (a0 : Int) {r : R} (hf : f a0 = some r) : Calls Try.prog 46 #[.int .i64 a0] w fun e w' => ∃ v, e = .returned v ∧ post w F r v w' := by
  obtain ⟨c, hc, href⟩ := ref w F; refine calls_of_ref (args := [.int .i64 a0]) _ Try.func46 hc rfl rfl href ?_ (retOf_some hf) ?_
  · exact ⟨F, Wk.refl hok, rfl⟩
  · rintro ρ w' a ⟨s, rfl, F', hW, h2⟩ hF; refine ⟨_, run_results (rs := [.tmp 2]) rfl hF (vs := [ρ 2]) (⟨_, rfl, rfl⟩), ?_⟩; exact ⟨F', ρ 2, rfl, hW, h2.rebase (fun g hg => (h2.lt hg).1.resolve_right (fun h => h))⟩
end
end ref3_Wide

namespace ref3_double
section
def G0 : GT S := fun w0 F0 s ρ w => ∃ F, Wk nrow w0 F0 F w ∧ ρ 0 = .int .i64 s.n_0
def G1 : GT S := fun w0 F0 s ρ w => ∃ F, Wk nrow w0 F0 F w ∧ ρ 0 = .int .i64 s.n_0 ∧ ρ 7 = .bool s.t_7
def G2 : GT S := fun w0 F0 s ρ w => ∃ F, Wk nrow w0 F0 F w ∧ ρ 2 = .int .i64 s.t_2
set_option maxHeartbeats 4000000 in
set_option maxRecDepth 20000 in
theorem ref (w0 : World) (F0 : BSet) : ∃ c, Try.f78.body = some c ∧ Ref Try.prog 11 c (G0 w0 F0) body (fun _ _ _ => False) (fun _ _ _ _ => False) (fun r ρ w => ∃ s, retv s = r ∧ G2 w0 F0 s ρ w) := by
  refine ⟨_, rfl, ?_⟩; unfold body; refine Ref.seq (B := G0 w0 F0) ?_ ?_
  · refine Ref.region (fun s ρ w s' h hr => ?_); obtain ⟨F, hW, h0⟩ := h; refine ol_a rfl ?_; exact ol_fin hr ⟨F, hW, h0⟩
  refine Ref.seq (B := G0 w0 F0) ?_ ?_
  · refine Ref.region (fun s ρ w s' h hr => ?_); obtain ⟨F, hW, h0⟩ := h; refine ol_m h0 ?_; refine ol_m h0 ?_; refine ol_v (e_add rfl rfl) rfl ?_; refine ol_a rfl ?_; exact ol_fin hr ⟨F, hW, rfl⟩
  refine Ref.seq (B := G0 w0 F0) ?_ ?_
  · refine Ref.seq (B := G1 w0 F0) ?_ ?_
    · refine Ref.region (fun s ρ w s' h hr => ?_); obtain ⟨F, hW, h0⟩ := h; refine ol_m h0 ?_; refine ol_v (e_geq rfl rfl) rfl ?_; exact ol_fin hr ⟨F, hW, h0, rfl⟩
    refine Ref.condP (b := fun s => s.t_7) (L := G0 w0 F0) (K := G0 w0 F0) ?_ ?_ ?_
    · rintro s ρ w ⟨F, hW, h0, h7⟩; exact ⟨h7, ⟨F, hW, h0⟩, F, hW, h0⟩
    · refine Ref.region (fun s ρ w s' h hr => ?_); obtain ⟨F, hW, h0⟩ := h; refine ol_m h0 ?_; refine ol_v (e_sub rfl rfl) rfl ?_; refine ol_a rfl ?_; exact ol_fin hr ⟨F, hW, rfl⟩
    · exact Ref.skip
  refine Ref.seq (B := G2 w0 F0) ?_ ?_
  · refine Ref.region (fun s ρ w s' h hr => ?_); obtain ⟨F, hW, h0⟩ := h; refine ol_m h0 ?_; refine ol_a rfl ?_; exact ol_fin hr ⟨F, hW, rfl⟩
  exact Ref.ret (fun s ρ w h => ⟨s, rfl, h⟩)
def post (w : World) (F : BSet) (r : R) (v : Value) (w' : World) : Prop := ∃ (F' : BSet), v = .int .i64 r ∧ Wk nrow w F F' w'
theorem calls {w : World} {F : BSet} (hok : ∀ b, F b → b < w.heap.size) (a0 : Int) {r : R} (hf : f a0 = some r) : Calls Try.prog 78 #[.int .i64 a0] w fun e w' => ∃ v, e = .returned v ∧ post w F r v w' := by
  obtain ⟨c, hc, href⟩ := ref w F; refine calls_of_ref (args := [.int .i64 a0]) _ Try.func78 hc rfl rfl href ?_ (retOf_some hf) ?_
  · exact ⟨F, Wk.refl hok, rfl⟩
  · rintro ρ w' a ⟨s, rfl, F', hW, h2⟩ hF; refine ⟨_, run_results (rs := [.tmp 2]) rfl hF (vs := [ρ 2]) (⟨_, rfl, rfl⟩), ?_⟩; have hv : resVal [ρ 2] = .int .i64 s.t_2 := by rw [h2]; rfl
    exact ⟨F', hv, hW⟩
end
end ref3_double

namespace ref3_times
section
abbrev c0 (ρ : Env) (s : S) (X : Prop) : Prop := ρ 0 = .int .i64 s.n_0 ∧ ρ 1 = .int .i64 s.k_1 ∧ X
def G0 : GT S := fun w0 F0 s ρ w => ∃ F, Wk nrow w0 F0 F w ∧ ρ 0 = .int .i64 s.n_0 ∧ ρ 1 = .int .i64 s.k_1
def G1 : GT S := fun w0 F0 s ρ w => ∃ F, Wk nrow w0 F0 F w ∧ c0 ρ s (ρ 5 = .int .i64 s.out_5)
def G2 : GT S := fun w0 F0 s ρ w => ∃ F, Wk nrow w0 F0 F w ∧ c0 ρ s (ρ 5 = .int .i64 s.out_5 ∧ ρ 7 = .bool s.t_7)
def G3 : GT S := fun w0 F0 s ρ w => ∃ F, Wk nrow w0 F0 F w ∧ ρ 5 = .int .i64 s.out_5
def G4 : GT S := fun w0 F0 s ρ w => ∃ F, Wk nrow w0 F0 F w ∧ c0 ρ s (ρ 5 = .int .i64 s.out_5 ∧ ρ 10 = .bool s.t_10)
def G5 : GT S := fun w0 F0 s ρ w => ∃ F, Wk nrow w0 F0 F w ∧ ρ 4 = .int .i64 s.t_4
set_option maxHeartbeats 4000000 in
set_option maxRecDepth 20000 in
theorem ref (w0 : World) (F0 : BSet) : ∃ c, Try.f59.body = some c ∧ Ref Try.prog 20 c (G0 w0 F0) body (fun _ _ _ => False) (fun _ _ _ _ => False) (fun r ρ w => ∃ s, retv s = r ∧ G5 w0 F0 s ρ w) := by
  refine ⟨_, rfl, ?_⟩; unfold body; refine Ref.seq (B := G0 w0 F0) ?_ ?_
  · refine Ref.region (fun s ρ w s' h hr => ?_); obtain ⟨F, hW, h0, h1⟩ := h; refine ol_a rfl ?_; exact ol_fin hr ⟨F, hW, h0, h1⟩
  refine Ref.seq (B := G1 w0 F0) ?_ ?_
  · refine Ref.region (fun s ρ w s' h hr => ?_); obtain ⟨F, hW, h0, h1⟩ := h; refine ol_a rfl ?_; exact ol_fin hr ⟨F, hW, h0, h1, rfl⟩
  refine Ref.seq (B := G3 w0 F0) ?_ ?_
  · refine Ref.block ?_; refine Ref.loop ?_; refine Ref.seq (B := G1 w0 F0) ?_ ?_
    · refine Ref.seq (B := G2 w0 F0) ?_ ?_
      · refine Ref.region (fun s ρ w s' h hr => ?_); obtain ⟨F, hW, h0, h1, h5⟩ := h; refine ol_m h1 ?_; refine ol_v (e_gtr rfl rfl) rfl ?_; exact ol_fin hr ⟨F, hW, h0, h1, h5, rfl⟩
      refine Ref.condP (b := fun s => s.t_7) (L := G1 w0 F0) (K := G3 w0 F0) ?_ ?_ ?_
      · rintro s ρ w ⟨F, hW, h0, h1, h5, h7⟩; exact ⟨h7, ⟨F, hW, h0, h1, h5⟩, F, hW, h5⟩
      · exact Ref.skip
      · exact Ref.exit (fun s ρ w h => h)
    refine Ref.block ?_; refine Ref.seq (B := G1 w0 F0) ?_ ?_
    · refine Ref.seq (B := G4 w0 F0) ?_ ?_
      · refine Ref.region (fun s ρ w s' h hr => ?_); obtain ⟨F, hW, h0, h1, h5⟩ := h; refine ol_m h1 ?_; refine ol_v (e_rem rfl rfl (by decide)) rfl ?_; refine ol_v (e_eql rfl rfl) rfl ?_; exact ol_fin hr ⟨F, hW, h0, h1, h5, rfl⟩
      refine Ref.condP (b := fun s => s.t_10) (L := G1 w0 F0) (K := G1 w0 F0) ?_ ?_ ?_
      · rintro s ρ w ⟨F, hW, h0, h1, h5, h10⟩; exact ⟨h10, ⟨F, hW, h0, h1, h5⟩, F, hW, h0, h1, h5⟩
      · refine Ref.region (fun s ρ w s' h hr => ?_); obtain ⟨F, hW, h0, h1, h5⟩ := h; refine ol_m h5 ?_; refine ol_m h0 ?_; refine ol_v (e_add rfl rfl) rfl ?_; refine ol_v (e_rem rfl rfl (by decide)) rfl ?_; refine ol_a rfl ?_; exact ol_fin hr ⟨F, hW, h0, h1, rfl⟩
      · exact Ref.skip
    refine Ref.seq (B := G1 w0 F0) ?_ ?_
    · refine Ref.region (fun s ρ w s' h hr => ?_); obtain ⟨F, hW, h0, h1, h5⟩ := h; refine ol_m h0 ?_; obtain ⟨x1, hx1, hr⟩ := bind_some' hr; refine ol_e (f_call [.int .i64 s.n_0] fn_78 (lcons rfl rfl) (ref3_double.calls hW.ok s.n_0 hx1)) rfl rfl ?_; rintro _ w2 ⟨Fz3, rfl, kw1⟩; have hW5 := hW.trans kw1; have st1 := kw1.stp hW.ok; refine ol_a rfl ?_; exact ol_fin hr ⟨Fz3, hW5, rfl, h1, h5⟩
    refine Ref.region (fun s ρ w s' h hr => ?_); obtain ⟨F, hW, h0, h1, h5⟩ := h; refine ol_m h1 ?_; refine ol_v (e_quo rfl rfl (by decide)) rfl ?_; refine ol_a rfl ?_; exact ol_fin hr ⟨F, hW, h0, rfl, h5⟩
  refine Ref.seq (B := G5 w0 F0) ?_ ?_
  · refine Ref.region (fun s ρ w s' h hr => ?_); obtain ⟨F, hW, h5⟩ := h; refine ol_m h5 ?_; refine ol_a rfl ?_; exact ol_fin hr ⟨F, hW, rfl⟩
  exact Ref.ret (fun s ρ w h => ⟨s, rfl, h⟩)
def post (w : World) (F : BSet) (r : R) (v : Value) (w' : World) : Prop := ∃ (F' : BSet), v = .int .i64 r ∧ Wk nrow w F F' w'
theorem calls {w : World} {F : BSet} (hok : ∀ b, F b → b < w.heap.size) (a0 : Int) (a1 : Int) {r : R} (hf : f a0 a1 = some r) : Calls Try.prog 59 #[.int .i64 a0, .int .i64 a1] w fun e w' => ∃ v, e = .returned v ∧ post w F r v w' := by
  obtain ⟨c, hc, href⟩ := ref w F; refine calls_of_ref (args := [.int .i64 a0, .int .i64 a1]) _ Try.func59 hc rfl rfl href ?_ (retOf_some hf) ?_
  · exact ⟨F, Wk.refl hok, rfl, rfl⟩
  · rintro ρ w' a ⟨s, rfl, F', hW, h4⟩ hF; refine ⟨_, run_results (rs := [.tmp 4]) rfl hF (vs := [ρ 4]) (⟨_, rfl, rfl⟩), ?_⟩; have hv : resVal [ρ 4] = .int .i64 s.t_4 := by rw [h4]; rfl
    exact ⟨F', hv, hW⟩
end
end ref3_times

namespace ref3_DigestOf
section
def G0 : GT S := fun w0 F0 s ρ w => ∃ F, Wk nrow w0 F0 F w ∧ SlR kByte F w (ρ 0) s.b_0
def G1 : GT S := fun w0 F0 s ρ w => ∃ F, Wk nrow w0 F0 F w ∧ SlR kByte F w (ρ 0) s.b_0 ∧ ρ 3 = .int .i64 s.h_3
def G2 : GT S := fun w0 F0 s ρ w => ∃ F, Wk nrow w0 F0 F w ∧ SlR kByte F w (ρ 0) s.b_0 ∧ ρ 3 = .int .i64 s.h_3 ∧ ρ 4 = .int .i64 s.i_4
def G3 : GT S := fun w0 F0 s ρ w => ∃ F, Wk nrow w0 F0 F w ∧ SlR kByte F w (ρ 0) s.b_0 ∧ ρ 3 = .int .i64 s.h_3 ∧ ρ 4 = .int .i64 s.i_4 ∧ ρ 8 = .bool s.t_8
def G4 : GT S := fun w0 F0 s ρ w => ∃ F, Wk nrow w0 F0 F w ∧ ρ 3 = .int .i64 s.h_3
def G5 : GT S := fun w0 F0 s ρ w => ∃ F, Wk nrow w0 F0 F w ∧ ρ 2 = .int .i64 s.t_2
set_option maxHeartbeats 4000000 in
set_option maxRecDepth 20000 in
theorem ref (w0 : World) (F0 : BSet) : ∃ c, Try.f47.body = some c ∧ Ref Try.prog 22 c (G0 w0 F0) body (fun _ _ _ => False) (fun _ _ _ _ => False) (fun r ρ w => ∃ s, retv s = r ∧ G5 w0 F0 s ρ w) := by
  refine ⟨_, rfl, ?_⟩; unfold body; refine Ref.seq (B := G0 w0 F0) ?_ ?_
  · refine Ref.region (fun s ρ w s' h hr => ?_); obtain ⟨F, hW, h0⟩ := h; refine ol_a rfl ?_; exact ol_fin hr ⟨F, hW, h0⟩
  refine Ref.seq (B := G1 w0 F0) ?_ ?_
  · refine Ref.region (fun s ρ w s' h hr => ?_); obtain ⟨F, hW, h0⟩ := h; refine ol_a rfl ?_; exact ol_fin hr ⟨F, hW, h0, rfl⟩
  refine Ref.seq (B := G4 w0 F0) ?_ ?_
  · refine Ref.seq (B := G2 w0 F0) ?_ ?_
    · refine Ref.region (fun s ρ w s' h hr => ?_); obtain ⟨F, hW, h0, h3⟩ := h; refine ol_a rfl ?_; exact ol_fin hr ⟨F, hW, h0, h3, rfl⟩
    refine Ref.block ?_; refine Ref.loop ?_; refine Ref.seq (B := G2 w0 F0) ?_ ?_
    · refine Ref.seq (B := G3 w0 F0) ?_ ?_
      · refine Ref.region (fun s ρ w s' h hr => ?_); obtain ⟨F, hW, h0, h3, h4⟩ := h; refine ol_m h4 ?_; refine ol_m rfl ?_; obtain ⟨A1, c2, e3, hc4, R5⟩ := id h0; refine ol_v (e_len (SlT.sl sl_35) e3) rfl ?_; refine ol_v (e_lss rfl rfl) rfl ?_; exact ol_fin hr ⟨F, hW, h0, h3, h4, rfl⟩
      refine Ref.condP (b := fun s => s.t_8) (L := G2 w0 F0) (K := G4 w0 F0) ?_ ?_ ?_
      · rintro s ρ w ⟨F, hW, h0, h3, h4, h8⟩; exact ⟨h8, ⟨F, hW, h0, h3, h4⟩, F, hW, h3⟩
      · exact Ref.skip
      · exact Ref.exit (fun s ρ w h => h)
    refine Ref.seq (B := G2 w0 F0) ?_ ?_
    · refine Ref.block ?_; refine Ref.regionH (by kernel_rfl) (fun s ρ w ⟨F, hW, h0, h3, h4⟩ => ⟨F, hW.drewS, h0.keep (sd hW), h3, h4⟩) (fun s ρ w s' h hr => ?_); obtain ⟨F, hW, h0, h3, h4⟩ := h; refine ⟨fun w' => Stp F w F w', ?_⟩; refine oh_v 0 rfl (by kernel_rfl) (by kernel_rfl) (by kernel_rfl) (Stp.refl _ _) (fun wv_ SV => e_mv _ h3) rfl ?_; refine oh_v 2 rfl (by kernel_rfl) (by kernel_rfl) (by kernel_rfl) (Stp.refl _ _) (fun wv_ SV => e_mv _ rfl) rfl ?_; refine oh_v 3 rfl (by kernel_rfl) (by kernel_rfl) (by kernel_rfl) (Stp.refl _ _) (fun wv_ SV => e_mv _ h4) rfl ?_; obtain ⟨x6, hx6, hr⟩ := bind_some' hr; obtain ⟨A7, c8, e9, hc10, R11⟩ := id h0; obtain ⟨b12, o13, hA14, L15⟩ := Row.at_ R11 hx6; refine oh_v 4 rfl (by kernel_rfl) (by kernel_rfl) (by kernel_rfl) (Stp.refl _ _) (fun wv_ SV => e_ix (SlT.sl sl_35) (SlT.sz sl_35) hA14 hx6 e9 rfl) rfl ?_; refine oh_v 5 rfl (by kernel_rfl) (by kernel_rfl) (by kernel_rfl) (Stp.refl _ _) (fun wv_ SV => e_ld ty_5 (LiesV.byte (L15.keep SV).at_) rfl) rfl ?_; refine oh_v 6 rfl (by kernel_rfl) (by kernel_rfl) (by kernel_rfl) (Stp.refl _ _) (fun wv_ SV => e_conv (k := .i64) (by kernel_rfl) (by kernel_rfl) rfl) rfl ?_; refine oh_all [1] (by kernel_rfl) rfl ⟨?_, trivial⟩
      · obtain ⟨x16, hx16, hr⟩ := bind_some' hr; refine oh1_e rfl (f_call [.int .i64 s.h_3, .int .i64 (257 : Int)] fn_59 (lcons rfl (lcons rfl rfl)) (ref3_times.calls hW.ok s.h_3 (257 : Int) hx16)) rfl ?_; rintro _ w17 ⟨Fz18, rfl, kw1⟩; have hW20 := hW.trans kw1; have st1 := kw1.stp hW.ok; refine ⟨(Stp.back st1), ?_⟩; refine oh_v 7 rfl (by kernel_rfl) (by kernel_rfl) (by kernel_rfl) (Stp.back st1) (fun wv_ SV => e_add rfl rfl) rfl ?_; refine oh_v 8 rfl (by kernel_rfl) (by kernel_rfl) (by kernel_rfl) (Stp.back st1) (fun wv_ SV => e_add rfl rfl) rfl ?_; refine oh_v 9 rfl (by kernel_rfl) (by kernel_rfl) (by kernel_rfl) (Stp.back st1) (fun wv_ SV => e_rem rfl rfl (by decide)) rfl ?_; refine oh_v 10 rfl (by kernel_rfl) (by kernel_rfl) (by kernel_rfl) (Stp.back st1) (fun wv_ SV => e_as _ rfl) rfl ?_; obtain rfl := Option.some.inj hr; exact oh_done (by kernel_rfl) ⟨Fz18, hW20, (h0.keep st1), rfl, h4⟩
    refine Ref.region (fun s ρ w s' h hr => ?_); obtain ⟨F, hW, h0, h3, h4⟩ := h; refine ol_m h4 ?_; refine ol_v (e_add rfl rfl) rfl ?_; refine ol_a rfl ?_; exact ol_fin hr ⟨F, hW, h0, h3, rfl⟩
  refine Ref.seq (B := G5 w0 F0) ?_ ?_
  · refine Ref.region (fun s ρ w s' h hr => ?_); obtain ⟨F, hW, h3⟩ := h; refine ol_m h3 ?_; refine ol_a rfl ?_; exact ol_fin hr ⟨F, hW, rfl⟩
  exact Ref.ret (fun s ρ w h => ⟨s, rfl, h⟩)
def post (w : World) (F : BSet) (r : R) (v : Value) (w' : World) : Prop := ∃ (F' : BSet), v = .int .i64 r ∧ Wk nrow w F F' w'
theorem calls {w : World} {F : BSet} (hok : ∀ b, F b → b < w.heap.size) {v0 : Value} {a0 : (List UInt8)} (h0 : SlR kByte F w v0 a0) {r : R} (hf : f a0 = some r) : Calls Try.prog 47 #[v0] w fun e w' => ∃ v, e = .returned v ∧ post w F r v w' := by
  obtain ⟨c, hc, href⟩ := ref w F; refine calls_of_ref (args := [v0]) _ Try.func47 hc rfl rfl href ?_ (retOf_some hf) ?_
  · exact ⟨F, Wk.refl hok, h0⟩
  · rintro ρ w' a ⟨s, rfl, F', hW, h2⟩ hF; refine ⟨_, run_results (rs := [.tmp 2]) rfl hF (vs := [ρ 2]) (⟨_, rfl, rfl⟩), ?_⟩; have hv : resVal [ρ 2] = .int .i64 s.t_2 := by rw [h2]; rfl
    exact ⟨F', hv, hW⟩
end
end ref3_DigestOf

namespace ref3_ObjectDigest
section
abbrev c1 (ρ : Env) (g1 : Nat) (w0 w : World) (F : BSet) (s : S) (X : Prop) : Prop := ρ 1 = .pointer (some ⟨g1, 0, none⟩) ∧ Box k_Object 37 (Bs w0 nrow) F w g1 s.o_1 ∧ X
def G0 : GT S := fun w0 F0 s ρ w => ∃ F, Wk nrow w0 F0 F w ∧ Val k_Object F w (ρ 0) s.o_0
def G1 : GT S := fun w0 F0 s ρ w => ∃ F, Wk nrow w0 F0 F w ∧ ∃ g1, ρ 1 = .pointer (some ⟨g1, 0, none⟩) ∧ Box k_Object 37 (Bs w0 nrow) F w g1 s.o_1
def G2 : GT S := fun w0 F0 s ρ w => ∃ F, Wk nrow w0 F0 F w ∧ ∃ g1, c1 ρ g1 w0 w F s (OwnV kByte 5 (Bs w0 nrow) F w (ρ 3) s.b_3)
def G3 : GT S := fun w0 F0 s ρ w => ∃ F, Wk nrow w0 F0 F w ∧ ∃ g1, c1 ρ g1 w0 w F s (OwnV kByte 5 (Bs w0 nrow) F w (ρ 3) s.b_3 ∧ ρ 4 = .int .i64 s.i_4)
def G4 : GT S := fun w0 F0 s ρ w => ∃ F, Wk nrow w0 F0 F w ∧ ∃ g1, c1 ρ g1 w0 w F s (OwnV kByte 5 (Bs w0 nrow) F w (ρ 3) s.b_3 ∧ ρ 4 = .int .i64 s.i_4 ∧ ρ 17 = .bool s.t_17)
def G5 : GT S := fun w0 F0 s ρ w => ∃ F, Wk nrow w0 F0 F w ∧ ρ 2 = .int .i64 s.t_2
set_option maxHeartbeats 4000000 in
set_option maxRecDepth 20000 in
theorem ref (w0 : World) (F0 : BSet) : ∃ c, Try.f29.body = some c ∧ Ref Try.prog 33 c (G0 w0 F0) body (fun _ _ _ => False) (fun _ _ _ _ => False) (fun r ρ w => ∃ s, retv s = r ∧ G5 w0 F0 s ρ w) := by
  refine ⟨_, rfl, ?_⟩; unfold body; refine Ref.seq (B := G1 w0 F0) ?_ ?_
  · refine Ref.region (fun s ρ w s' h hr => ?_); obtain ⟨F, hW, h0⟩ := h; refine ol_e (f_box hW rfl h0) rfl rfl ?_; rintro _ w2 ⟨g1, rfl, kw1, ho3⟩; have hW4 := hW.trans kw1; have st1 := kw1.stp hW.ok; refine ol_a rfl ?_; exact ol_fin hr ⟨F, hW4, g1, rfl, (ho3.base (row := nrow) hW.le)⟩
  refine Ref.seq (B := G2 w0 F0) ?_ ?_
  · refine Ref.region (fun s ρ w s' h hr => ?_); obtain ⟨F, hW, g1, p1, h1⟩ := h; refine ol_v (e_fa fa_37_0 p1) rfl ?_; refine ol_v (e_ld ty_3 (LiesV.int ((h1).at_.fld fl_Object_0)) rfl) rfl ?_; refine ol_v (e_convB (by kernel_rfl) (by kernel_rfl) rfl) rfl ?_; refine ol_v (e_fa fa_37_1 p1) rfl ?_; obtain ⟨v5, hl6, hs7⟩ := LiesV.sl ((h1).at_.fld fl_Object_1); refine ol_v (e_ld ty_26 hl6 rfl) rfl ?_; obtain ⟨A8, c9, e10, hc11, R12⟩ := id hs7; refine ol_v (e_len (SlT.sl sl_26) e10) rfl ?_; refine ol_v (e_convB (by kernel_rfl) (by kernel_rfl) rfl) rfl ?_; refine ol_e (f_bsl sl_35 hW ([toByte s.o_1.Kind, toByte (s.o_1.Links.length : Int)] : List UInt8) [.int .u8 ((toByte s.o_1.Kind).toNat : Int), .int .u8 ((toByte (s.o_1.Links.length : Int)).toNat : Int)] (by exact ⟨_, _, rfl, (val_byte _), ⟨_, _, rfl, (val_byte _), rfl⟩⟩) rfl (Nat.le_of_ble_eq_true rfl) (lcons (congrArg (Prod.mk 0) rfl) (lcons (congrArg (Prod.mk 1) rfl) rfl))) rfl rfl ?_; rintro v13 w14 ⟨kw1, ho15⟩; have hW16 := hW.trans kw1; have st1 := kw1.stp hW.ok; refine ol_a rfl ?_; exact ol_fin hr ⟨F, hW16, g1, p1, (h1.wk kw1 hW.ok), (ho15.base (row := nrow) hW.le)⟩
  refine Ref.seq (B := G2 w0 F0) ?_ ?_
  · refine Ref.seq (B := G3 w0 F0) ?_ ?_
    · refine Ref.region (fun s ρ w s' h hr => ?_); obtain ⟨F, hW, g1, p1, h1, h3⟩ := h; refine ol_a rfl ?_; exact ol_fin hr ⟨F, hW, g1, p1, h1, h3, rfl⟩
    refine Ref.block ?_; refine Ref.loop ?_; refine Ref.seq (B := G3 w0 F0) ?_ ?_
    · refine Ref.seq (B := G4 w0 F0) ?_ ?_
      · refine Ref.region (fun s ρ w s' h hr => ?_); obtain ⟨F, hW, g1, p1, h1, h3, h4⟩ := h; refine ol_m h4 ?_; refine ol_v (e_fa fa_37_1 p1) rfl ?_; obtain ⟨v17, hl18, hs19⟩ := LiesV.sl ((h1).at_.fld fl_Object_1); refine ol_v (e_ld ty_26 hl18 rfl) rfl ?_; obtain ⟨A20, c21, e22, hc23, R24⟩ := id hs19; refine ol_v (e_len (SlT.sl sl_26) e22) rfl ?_; refine ol_v (e_lss rfl rfl) rfl ?_; exact ol_fin hr ⟨F, hW, g1, p1, h1, h3, h4, rfl⟩
      refine Ref.condP (b := fun s => s.t_17) (L := G3 w0 F0) (K := G2 w0 F0) ?_ ?_ ?_
      · rintro s ρ w ⟨F, hW, g1, p1, h1, h3, h4, h17⟩; exact ⟨h17, ⟨F, hW, g1, p1, h1, h3, h4⟩, F, hW, g1, p1, h1, h3⟩
      · exact Ref.skip
      · exact Ref.exit (fun s ρ w h => h)
    refine Ref.seq (B := G3 w0 F0) ?_ ?_
    · refine Ref.block ?_; refine Ref.region (fun s ρ w s' h hr => ?_); obtain ⟨F, hW, g1, p1, h1, h3, h4⟩ := h; refine ol_m rfl ?_; refine ol_v (e_fa fa_37_1 p1) rfl ?_; obtain ⟨v25, hl26, hs27⟩ := LiesV.sl ((h1).at_.fld fl_Object_1); refine ol_v (e_ld ty_26 hl26 rfl) rfl ?_; refine ol_m h4 ?_; obtain ⟨x28, hx28, hr⟩ := bind_some' hr; obtain ⟨A29, c30, e31, hc32, R33⟩ := id hs27; obtain ⟨b34, o35, hA36, L37⟩ := Row.at_ R33 hx28; refine ol_v (e_ix (SlT.sl sl_26) (SlT.sz sl_26) hA36 hx28 e31 rfl) rfl ?_; refine ol_v (e_ld ty_3 (LiesV.int L37.at_) rfl) rfl ?_; obtain ⟨x38, hx38, hr⟩ := bind_some' hr; refine ol_e (f_call [.int .i64 x28] fn_46 (lcons rfl rfl) (ref3_Wide.calls hW.ok x28 hx38)) rfl rfl ?_; rintro v41 w39 ⟨Fz40, _, rfl, kw1, hk42⟩; have hW44 := hW.trans kw1; have st1 := kw1.stp hW.ok; obtain ⟨Fz45, hWz46, st2, hF2, hz47⟩ := ((hk42.base (row := nrow) hW.le)).frozen hW44; obtain ⟨x48, hx48, hr⟩ := bind_some' hr; refine ol_e (f_app sl_35 hWz46 ((h3.wk kw1 hW.ok).frz (Apart.base (fun g_ hg_ => (hk42.lt hg_).1) h3.ltw) hF2 st2) hz47 hx48 rfl rfl) rfl rfl ?_; rintro v49 w50 ⟨hW51, ho52, hg3, st3, hor53⟩; refine ol_a rfl ?_; have z1 := h1.wk kw1 hW.ok; exact ol_fin hr ⟨Fz45, hW51, g1, p1, ((z1.frz (apart_bo z1 (hk42.base (row := nrow) hW.le) rfl).symm hF2 st2).mut (apart_bo (z1.frz (apart_bo z1 (hk42.base (row := nrow) hW.le) rfl).symm hF2 st2) ((h3.wk kw1 hW.ok).frz (Apart.base (fun g_ hg_ => (hk42.lt hg_).1) h3.ltw) hF2 st2) rfl).symm hg3 st3), ho52, h4⟩
    refine Ref.region (fun s ρ w s' h hr => ?_); obtain ⟨F, hW, g1, p1, h1, h3, h4⟩ := h; refine ol_m h4 ?_; refine ol_v (e_add rfl rfl) rfl ?_; refine ol_a rfl ?_; exact ol_fin hr ⟨F, hW, g1, p1, h1, h3, rfl⟩
  refine Ref.seq (B := G5 w0 F0) ?_ ?_
  · refine Ref.region (fun s ρ w s' h hr => ?_); obtain ⟨F, hW, g1, p1, h1, h3⟩ := h; refine ol_m rfl ?_; refine ol_v (e_fa fa_37_2 p1) rfl ?_; obtain ⟨v54, hl55, hs56⟩ := LiesV.sl ((h1).at_.fld fl_Object_2); refine ol_v (e_ld ty_35 hl55 rfl) rfl ?_; obtain ⟨x57, hx57, hr⟩ := bind_some' hr; refine ol_e (f_app sl_35 hW h3 hs56 hx57 rfl rfl) rfl rfl ?_; rintro v58 w59 ⟨hW60, ho61, hg1, st1, hor62⟩; obtain ⟨Fl63, okl63, stl63, hFl63, hl63⟩ := OwnV.lent ho61 hW60.ok; obtain ⟨x64, hx64, hr⟩ := bind_some' hr; refine ol_e (f_call [v58] fn_47 (lcons rfl rfl) (ref3_DigestOf.calls okl63 hl63 hx64)) rfl rfl ?_; rintro _ w65 ⟨Fz66, rfl, kw2⟩; have ko68 := kw2; have kw2 := kw2.lend hW60.ok; have hW69 := hW60.trans kw2; have st2 := kw2.stp hW60.ok; refine ol_a rfl ?_; exact ol_fin hr ⟨F, hW69, rfl⟩
  exact Ref.ret (fun s ρ w h => ⟨s, rfl, h⟩)
def post (w : World) (F : BSet) (r : R) (v : Value) (w' : World) : Prop := ∃ (F' : BSet), v = .int .i64 r ∧ Wk nrow w F F' w'
theorem calls {w : World} {F : BSet} (hok : ∀ b, F b → b < w.heap.size) {v0 : Value} {a0 : Object} (h0 : Val k_Object F w v0 a0) {r : R} (hf : f a0 = some r) : Calls Try.prog 29 #[v0] w fun e w' => ∃ v, e = .returned v ∧ post w F r v w' := by
  obtain ⟨c, hc, href⟩ := ref w F; refine calls_of_ref (args := [v0]) _ Try.func29 hc rfl rfl href ?_ (retOf_some hf) ?_
  · exact ⟨F, Wk.refl hok, h0⟩
  · rintro ρ w' a ⟨s, rfl, F', hW, h2⟩ hF; refine ⟨_, run_results (rs := [.tmp 2]) rfl hF (vs := [ρ 2]) (⟨_, rfl, rfl⟩), ?_⟩; have hv : resVal [ρ 2] = .int .i64 s.t_2 := by rw [h2]; rfl
    exact ⟨F', hv, hW⟩
end
end ref3_ObjectDigest

namespace ref3_StoreFault
section
abbrev c1 (ρ : Env) (g1 : Nat) (w0 w : World) (F : BSet) (s : S) (X : Prop) : Prop := ρ 1 = .pointer (some ⟨g1, 0, none⟩) ∧ Box k_ObjectStore 24 (Bs w0 nrow) F w g1 s.t_1 ∧ X
abbrev c2 (ρ : Env) (g2 : Nat) (w0 w : World) (F : BSet) (s : S) (X : Prop) : Prop := ρ 2 = .pointer (some ⟨g2, 0, none⟩) ∧ Box k_Fault 28 (Bs w0 nrow) F w g2 s.t_2 ∧ X
abbrev c4 (ρ : Env) (s : S) (X : Prop) : Prop := ρ 3 = .int .i64 s.t_3 ∧ X
abbrev c6 (ρ : Env) (g4 : Nat) (w0 w : World) (F : BSet) (s : S) (X : Prop) : Prop := ρ 4 = .pointer (some ⟨g4, 0, none⟩) ∧ Box k_Fault 28 (Bs w0 nrow) F w g4 s.t_4 ∧ X
def G0 : GT S := fun w0 F0 s ρ w => ∃ F, Wk nrow w0 F0 F w ∧ Val k_ObjectStore F w (ρ 0) s.t_0
def G1 : GT S := fun w0 F0 s ρ w => ∃ F, Wk nrow w0 F0 F w ∧ ∃ g1 g2, c1 ρ g1 w0 w F s (ρ 2 = .pointer (some ⟨g2, 0, none⟩) ∧ Box k_Fault 28 (Bs w0 nrow) F w g2 s.t_2)
def G2 : GT S := fun w0 F0 s ρ w => ∃ F, Wk nrow w0 F0 F w ∧ ∃ g1 g2, c1 ρ g1 w0 w F s (c2 ρ g2 w0 w F s (ρ 8 = .bool s.t_8))
def G3 : GT S := fun w0 F0 s ρ w => ∃ F, Wk nrow w0 F0 F w ∧ ∃ g2, ρ 2 = .pointer (some ⟨g2, 0, none⟩) ∧ Box k_Fault 28 (Bs w0 nrow) F w g2 s.t_2
def G4 : GT S := fun w0 F0 s ρ w => ∃ F, Wk nrow w0 F0 F w ∧ ∃ g1 g2, c1 ρ g1 w0 w F s (c2 ρ g2 w0 w F s (ρ 3 = .int .i64 s.t_3))
def G5 : GT S := fun w0 F0 s ρ w => ∃ F, Wk nrow w0 F0 F w ∧ ∃ g1 g2, c1 ρ g1 w0 w F s (c2 ρ g2 w0 w F s (c4 ρ s (ρ 14 = .bool s.t_14)))
def G6 : GT S := fun w0 F0 s ρ w => ∃ F, Wk nrow w0 F0 F w ∧ ∃ g1 g2 g4, c1 ρ g1 w0 w F s (c2 ρ g2 w0 w F s (c4 ρ s (c6 ρ g4 w0 w F s (Apart (some g2) (some g4)))))
def G7 : GT S := fun w0 F0 s ρ w => ∃ F, Wk nrow w0 F0 F w ∧ ∃ g1 g2 g4, c1 ρ g1 w0 w F s (c2 ρ g2 w0 w F s (c4 ρ s (c6 ρ g4 w0 w F s (ρ 26 = .bool s.t_26 ∧ Apart (some g2) (some g4)))))
def G8 : GT S := fun w0 F0 s ρ w => ∃ F, Wk nrow w0 F0 F w ∧ ∃ g2 g4, c2 ρ g2 w0 w F s (c4 ρ s (c6 ρ g4 w0 w F s (Apart (some g2) (some g4))))
def G9 : GT S := fun w0 F0 s ρ w => ∃ F, Wk nrow w0 F0 F w ∧ ∃ g1 g2, c1 ρ g1 w0 w F s (c2 ρ g2 w0 w F s (c4 ρ s (ρ 44 = .bool s.t_44)))
def G10 : GT S := fun w0 F0 s ρ w => ∃ F, Wk nrow w0 F0 F w ∧ ∃ g2, c2 ρ g2 w0 w F s (ρ 3 = .int .i64 s.t_3)
def G11 : GT S := fun w0 F0 s ρ w => ∃ F, Wk nrow w0 F0 F w ∧ ∃ g1 g2, c1 ρ g1 w0 w F s (c2 ρ g2 w0 w F s (c4 ρ s (ρ 64 = .bool s.t_64)))
set_option maxHeartbeats 4000000 in
set_option maxRecDepth 20000 in
theorem ref (w0 : World) (F0 : BSet) : ∃ c, Try.f11.body = some c ∧ Ref Try.prog 68 c (G0 w0 F0) body (fun _ _ _ => False) (fun _ _ _ _ => False) (fun r ρ w => ∃ s, retv s = r ∧ G3 w0 F0 s ρ w) := by
  refine ⟨_, rfl, ?_⟩; unfold body; refine Ref.seq (B := G1 w0 F0) ?_ ?_
  · refine Ref.region (fun s ρ w s' h hr => ?_); obtain ⟨F, hW, h0⟩ := h; refine ol_e (f_box hW rfl h0) rfl rfl ?_; rintro _ w2 ⟨g1, rfl, kw1, ho3⟩; have hW4 := hW.trans kw1; have st1 := kw1.stp hW.ok; refine ol_e (f_alloc zer_28 hW4) rfl rfl ?_; rintro _ w6 ⟨g5, rfl, kw2, ho7⟩; have hW8 := hW4.trans kw2; have st2 := kw2.stp hW4.ok; exact ol_fin hr ⟨F, hW8, g1, g5, rfl, ((ho3.base (row := nrow) hW.le).wk kw2 hW4.ok), rfl, (ho7.base (row := nrow) hW4.le)⟩
  refine Ref.seq (B := G1 w0 F0) ?_ ?_
  · refine Ref.seq (B := G2 w0 F0) ?_ ?_
    · refine Ref.region (fun s ρ w s' h hr => ?_); obtain ⟨F, hW, g1, g2, p1, h1, p2, h2⟩ := h; refine ol_v (e_fa fa_24_0 p1) rfl ?_; obtain ⟨v9, hl10, hs11⟩ := LiesV.sl ((h1).at_.fld fl_ObjectStore_0); refine ol_v (e_ld ty_22 hl10 rfl) rfl ?_; obtain ⟨A12, c13, e14, hc15, R16⟩ := id hs11; refine ol_v (e_len (SlT.sl sl_22) e14) rfl ?_; refine ol_v (e_gtr rfl rfl) rfl ?_; exact ol_fin hr ⟨F, hW, g1, g2, p1, h1, p2, h2, rfl⟩
    refine Ref.condP (b := fun s => s.t_8) (L := G3 w0 F0) (K := G1 w0 F0) ?_ ?_ ?_
    · rintro s ρ w ⟨F, hW, g1, g2, p1, h1, p2, h2, h8⟩; exact ⟨h8, ⟨F, hW, g2, p2, h2⟩, F, hW, g1, g2, p1, h1, p2, h2⟩
    · refine Ref.seq (B := G3 w0 F0) ?_ ?_
      · refine Ref.region (fun s ρ w s' h hr => ?_); obtain ⟨F, hW, g2, p2, h2⟩ := h; obtain ⟨x17, hx17, hr⟩ := bind_some' hr; refine ol_e (f_call [.int .i64 (2 : Int), .int .i64 (0 : Int)] fn_13 (lcons rfl (lcons rfl rfl)) (ref3_Fault.calls hW.ok (2 : Int) (0 : Int) hx17)) rfl rfl ?_; rintro v20 w18 ⟨Fz19, _, rfl, kw1, hk21⟩; have hW23 := hW.trans kw1; have st1 := kw1.stp hW.ok; refine ol_eN (f_stB hW23 (h2.wk kw1 hW.ok) (FldS.whole _) ty_28 hk21 p2 rfl) rfl ?_; rintro - w24 ⟨hW25, ho26, hg2, st2⟩; exact ol_fin hr ⟨Fz19, hW25, g2, p2, ho26⟩
      exact Ref.ret (fun s ρ w h => ⟨s, rfl, h⟩)
    · exact Ref.skip
  refine Ref.seq (B := G3 w0 F0) ?_ ?_
  · refine Ref.seq (B := G4 w0 F0) ?_ ?_
    · refine Ref.region (fun s ρ w s' h hr => ?_); obtain ⟨F, hW, g1, g2, p1, h1, p2, h2⟩ := h; refine ol_a rfl ?_; exact ol_fin hr ⟨F, hW, g1, g2, p1, h1, p2, h2, rfl⟩
    refine Ref.block ?_; refine Ref.loop ?_; refine Ref.seq (B := G4 w0 F0) ?_ ?_
    · refine Ref.seq (B := G5 w0 F0) ?_ ?_
      · refine Ref.region (fun s ρ w s' h hr => ?_); obtain ⟨F, hW, g1, g2, p1, h1, p2, h2, h3⟩ := h; refine ol_m h3 ?_; refine ol_v (e_fa fa_24_0 p1) rfl ?_; obtain ⟨v27, hl28, hs29⟩ := LiesV.sl ((h1).at_.fld fl_ObjectStore_0); refine ol_v (e_ld ty_22 hl28 rfl) rfl ?_; obtain ⟨A30, c31, e32, hc33, R34⟩ := id hs29; refine ol_v (e_len (SlT.sl sl_22) e32) rfl ?_; refine ol_v (e_lss rfl rfl) rfl ?_; exact ol_fin hr ⟨F, hW, g1, g2, p1, h1, p2, h2, h3, rfl⟩
      refine Ref.condP (b := fun s => s.t_14) (L := G4 w0 F0) (K := G3 w0 F0) ?_ ?_ ?_
      · rintro s ρ w ⟨F, hW, g1, g2, p1, h1, p2, h2, h3, h14⟩; exact ⟨h14, ⟨F, hW, g1, g2, p1, h1, p2, h2, h3⟩, F, hW, g2, p2, h2⟩
      · exact Ref.skip
      · exact Ref.exit (fun s ρ w h => h)
    refine Ref.seq (B := G4 w0 F0) ?_ ?_
    · refine Ref.block ?_; refine Ref.seq (B := G4 w0 F0) ?_ ?_
      · refine Ref.seq (B := G6 w0 F0) ?_ ?_
        · refine Ref.region (fun s ρ w s' h hr => ?_); obtain ⟨F, hW, g1, g2, p1, h1, p2, h2, h3⟩ := h; refine ol_v (e_fa fa_24_0 p1) rfl ?_; obtain ⟨v35, hl36, hs37⟩ := LiesV.sl ((h1).at_.fld fl_ObjectStore_0); refine ol_v (e_ld ty_22 hl36 rfl) rfl ?_; refine ol_m h3 ?_; obtain ⟨x38, hx38, hr⟩ := bind_some' hr; obtain ⟨A39, c40, e41, hc42, R43⟩ := id hs37; obtain ⟨b44, o45, hA46, L47⟩ := Row.at_ R43 hx38; refine ol_v (e_ix (SlT.sl sl_22) (SlT.sz sl_22) hA46 hx38 e41 rfl) rfl ?_; refine ol_v (e_fa fa_39_1 rfl) rfl ?_; obtain ⟨v48, hl49⟩ := LiesAt.v (L47.fld fl_StoredObject_1).at_; refine ol_v (e_ld ty_37 hl49 rfl) rfl ?_; obtain ⟨x50, hx50, hr⟩ := bind_some' hr; refine ol_e (f_call [v48] fn_28 (lcons rfl rfl) (ref3_ObjectFault.calls hW.ok hl49.val hx50)) rfl rfl ?_; rintro v53 w51 ⟨Fz52, _, rfl, kw1, hk54⟩; have hW56 := hW.trans kw1; have st1 := kw1.stp hW.ok; refine ol_e (f_alloc zer_28 hW56) rfl rfl ?_; rintro _ w58 ⟨g57, rfl, kw2, ho59⟩; have hW60 := hW56.trans kw2; have st2 := kw2.stp hW56.ok; refine ol_eN (f_stB hW60 (ho59.base (row := nrow) hW56.le) (FldS.whole _) ty_28 (hk54.keep st2) rfl rfl) rfl ?_; rintro - w61 ⟨hW62, ho63, hg3, st3⟩; have z1 := (h1.wk kw1 hW.ok).wk kw2 hW56.ok; have z2 := h2.wk kw1 hW.ok; exact ol_fin hr ⟨Fz52, hW62, g1, g2, g57, p1, (z1.mut (apart_bb (ho59.base (row := nrow) hW56.le) z1 rfl) hg3 st3), p2, ((z2.wk kw2 hW56.ok).mut (Apart.base (fun _ e_ => by cases e_; exact ho59.ge) z2.ltw) hg3 st3), h3, rfl, ho63, (Apart.base (fun _ e_ => by cases e_; exact ho59.ge) z2.ltw).symm⟩
        refine Ref.seq (B := G7 w0 F0) ?_ ?_
        · refine Ref.region (fun s ρ w s' h hr => ?_); obtain ⟨F, hW, g1, g2, g4, p1, h1, p2, h2, h3, p4, h4, a2b_4b⟩ := h; refine ol_v (e_fa fa_28_0 p4) rfl ?_; refine ol_v (e_ld ty_3 (LiesV.int ((h4).at_.fld fl_Fault_0)) rfl) rfl ?_; refine ol_v (e_neq rfl rfl) rfl ?_; exact ol_fin hr ⟨F, hW, g1, g2, g4, p1, h1, p2, h2, h3, p4, h4, rfl, a2b_4b⟩
        refine Ref.condP (b := fun s => s.t_26) (L := G8 w0 F0) (K := G4 w0 F0) ?_ ?_ ?_
        · rintro s ρ w ⟨F, hW, g1, g2, g4, p1, h1, p2, h2, h3, p4, h4, h26, a2b_4b⟩; exact ⟨h26, ⟨F, hW, g2, g4, p2, h2, h3, p4, h4, a2b_4b⟩, F, hW, g1, g2, p1, h1, p2, h2, h3⟩
        · refine Ref.seq (B := G3 w0 F0) ?_ ?_
          · refine Ref.region (fun s ρ w s' h hr => ?_); obtain ⟨F, hW, g2, g4, p2, h2, h3, p4, h4, a2b_4b⟩ := h; refine ol_v (e_fa fa_28_0 p4) rfl ?_; refine ol_v (e_ld ty_3 (LiesV.int ((h4).at_.fld fl_Fault_0)) rfl) rfl ?_; refine ol_m h3 ?_; obtain ⟨x64, hx64, hr⟩ := bind_some' hr; refine ol_e (f_call [.int .i64 s.t_4.Code, .int .i64 s.t_3] fn_13 (lcons rfl (lcons rfl rfl)) (ref3_Fault.calls hW.ok s.t_4.Code s.t_3 hx64)) rfl rfl ?_; rintro v67 w65 ⟨Fz66, _, rfl, kw1, hk68⟩; have hW70 := hW.trans kw1; have st1 := kw1.stp hW.ok; refine ol_eN (f_stB hW70 (h2.wk kw1 hW.ok) (FldS.whole _) ty_28 hk68 p2 rfl) rfl ?_; rintro - w71 ⟨hW72, ho73, hg2, st2⟩; exact ol_fin hr ⟨Fz66, hW72, g2, p2, ho73⟩
          exact Ref.ret (fun s ρ w h => ⟨s, rfl, h⟩)
        · exact Ref.skip
      refine Ref.seq (B := G4 w0 F0) ?_ ?_
      · refine Ref.seq (B := G9 w0 F0) ?_ ?_
        · refine Ref.regionH (by kernel_rfl) (fun s ρ w ⟨F, hW, g1, g2, p1, h1, p2, h2, h3⟩ => ⟨F, hW.drewS, g1, g2, p1, h1.wk (Wk.drew (row := nrow) hW.ok) hW.ok, p2, h2.wk (Wk.drew (row := nrow) hW.ok) hW.ok, h3⟩) (fun s ρ w s' h hr => ?_); obtain ⟨F, hW, g1, g2, p1, h1, p2, h2, h3⟩ := h; refine ⟨fun w' => Stp F w F w' ∧ w'.heap[g1]? = w.heap[g1]?, ?_⟩; refine oh_v 0 rfl (by kernel_rfl) (by kernel_rfl) (by kernel_rfl) ⟨(Stp.refl _ _), rfl⟩ (fun wv_ SV => e_fa fa_24_0 p1) rfl ?_; obtain ⟨v74, hl75, hs76⟩ := LiesV.sl ((h1).at_.fld fl_ObjectStore_0); refine oh_v 1 rfl (by kernel_rfl) (by kernel_rfl) (by kernel_rfl) ⟨(Stp.refl _ _), rfl⟩ (fun wv_ SV => e_ld ty_22 (hl75.same SV.1 SV.2) rfl) rfl ?_; refine oh_v 2 rfl (by kernel_rfl) (by kernel_rfl) (by kernel_rfl) ⟨(Stp.refl _ _), rfl⟩ (fun wv_ SV => e_mv _ h3) rfl ?_; obtain ⟨x77, hx77, hr⟩ := bind_some' hr; obtain ⟨A78, c79, e80, hc81, R82⟩ := id hs76; obtain ⟨b83, o84, hA85, L86⟩ := Row.at_ R82 hx77; refine oh_v 3 rfl (by kernel_rfl) (by kernel_rfl) (by kernel_rfl) ⟨(Stp.refl _ _), rfl⟩ (fun wv_ SV => e_ix (SlT.sl sl_22) (SlT.sz sl_22) hA85 hx77 e80 rfl) rfl ?_; refine oh_v 4 rfl (by kernel_rfl) (by kernel_rfl) (by kernel_rfl) ⟨(Stp.refl _ _), rfl⟩ (fun wv_ SV => e_fa fa_39_1 rfl) rfl ?_; obtain ⟨v87, hl88⟩ := LiesAt.v (L86.fld fl_StoredObject_1).at_; refine oh_v 5 rfl (by kernel_rfl) (by kernel_rfl) (by kernel_rfl) ⟨(Stp.refl _ _), rfl⟩ (fun wv_ SV => e_ld ty_37 (hl88.same SV.1 (SV.1.keep _ (L86.fld fl_StoredObject_1).1)) rfl) rfl ?_; refine oh_v 7 rfl (by kernel_rfl) (by kernel_rfl) (by kernel_rfl) ⟨(Stp.refl _ _), rfl⟩ (fun wv_ SV => e_fa fa_24_0 p1) rfl ?_; obtain ⟨v89, hl90, hs91⟩ := LiesV.sl ((h1).at_.fld fl_ObjectStore_0); refine oh_v 8 rfl (by kernel_rfl) (by kernel_rfl) (by kernel_rfl) ⟨(Stp.refl _ _), rfl⟩ (fun wv_ SV => e_ld ty_22 (hl90.same SV.1 SV.2) rfl) rfl ?_; refine oh_v 9 rfl (by kernel_rfl) (by kernel_rfl) (by kernel_rfl) ⟨(Stp.refl _ _), rfl⟩ (fun wv_ SV => e_mv _ h3) rfl ?_; obtain ⟨x92, hx92, hr⟩ := bind_some' hr; obtain ⟨A93, c94, e95, hc96, R97⟩ := id hs91; obtain ⟨b98, o99, hA100, L101⟩ := Row.at_ R97 hx92; refine oh_v 10 rfl (by kernel_rfl) (by kernel_rfl) (by kernel_rfl) ⟨(Stp.refl _ _), rfl⟩ (fun wv_ SV => e_ix (SlT.sl sl_22) (SlT.sz sl_22) hA100 hx92 e95 rfl) rfl ?_; refine oh_v 11 rfl (by kernel_rfl) (by kernel_rfl) (by kernel_rfl) ⟨(Stp.refl _ _), rfl⟩ (fun wv_ SV => e_fa fa_39_0 rfl) rfl ?_; refine oh_v 12 rfl (by kernel_rfl) (by kernel_rfl) (by kernel_rfl) ⟨(Stp.refl _ _), rfl⟩ (fun wv_ SV => e_ld ty_3 (LiesV.int ((L101.fld fl_StoredObject_0).keep SV.1).at_) rfl) rfl ?_; refine oh_all [6] (by kernel_rfl) rfl ⟨?_, trivial⟩
          · obtain ⟨x102, hx102, hr⟩ := bind_some' hr; refine oh1_e rfl (f_call [v87] fn_29 (lcons rfl rfl) (ref3_ObjectDigest.calls hW.ok hl88.val hx102)) rfl ?_; rintro _ w103 ⟨Fz104, rfl, kw1⟩; have hW106 := hW.trans kw1; have st1 := kw1.stp hW.ok; have hh1_1 : w103.heap[g1]? = w.heap[g1]? := (h1.hpw kw1); refine ⟨⟨(Stp.back st1), hh1_1⟩, ?_⟩; refine oh_v 13 rfl (by kernel_rfl) (by kernel_rfl) (by kernel_rfl) ⟨(Stp.back st1), hh1_1⟩ (fun wv_ SV => e_neq rfl rfl) rfl ?_; obtain rfl := Option.some.inj hr; exact oh_done (by kernel_rfl) ⟨Fz104, hW106, g1, g2, p1, (h1.wk kw1 hW.ok), p2, (h2.wk kw1 hW.ok), h3, rfl⟩
        refine Ref.condP (b := fun s => s.t_44) (L := G10 w0 F0) (K := G4 w0 F0) ?_ ?_ ?_
        · rintro s ρ w ⟨F, hW, g1, g2, p1, h1, p2, h2, h3, h44⟩; exact ⟨h44, ⟨F, hW, g2, p2, h2, h3⟩, F, hW, g1, g2, p1, h1, p2, h2, h3⟩
        · refine Ref.seq (B := G3 w0 F0) ?_ ?_
          · refine Ref.region (fun s ρ w s' h hr => ?_); obtain ⟨F, hW, g2, p2, h2, h3⟩ := h; refine ol_m h3 ?_; obtain ⟨x107, hx107, hr⟩ := bind_some' hr; refine ol_e (f_call [.int .i64 (18 : Int), .int .i64 s.t_3] fn_13 (lcons rfl (lcons rfl rfl)) (ref3_Fault.calls hW.ok (18 : Int) s.t_3 hx107)) rfl rfl ?_; rintro v110 w108 ⟨Fz109, _, rfl, kw1, hk111⟩; have hW113 := hW.trans kw1; have st1 := kw1.stp hW.ok; refine ol_eN (f_stB hW113 (h2.wk kw1 hW.ok) (FldS.whole _) ty_28 hk111 p2 rfl) rfl ?_; rintro - w114 ⟨hW115, ho116, hg2, st2⟩; exact ol_fin hr ⟨Fz109, hW115, g2, p2, ho116⟩
          exact Ref.ret (fun s ρ w h => ⟨s, rfl, h⟩)
        · exact Ref.skip
      refine Ref.seq (B := G11 w0 F0) ?_ ?_
      · refine Ref.regionS (by kernel_rfl) (by kernel_rfl) (fun s ρ w ⟨F, hW, g1, g2, p1, h1, p2, h2, h3⟩ => ⟨F, hW.drewS, g1, g2, p1, h1.wk (Wk.drew (row := nrow) hW.ok) hW.ok, p2, h2.wk (Wk.drew (row := nrow) hW.ok) hW.ok, h3⟩) (fun s ρ w s' h hr => ?_); obtain ⟨F, hW, g1, g2, p1, h1, p2, h2, h3⟩ := h; refine ol_m h3 ?_; refine ol_v (e_gtr rfl rfl) rfl ?_; obtain ⟨x145, hx146, hr⟩ := bind_some' hr; refine ol_cutA 16 49 64 (fun ρ' w' => w = w' ∧ ρ' 64 = .bool x145) rfl ?_ ?_
        · by_cases hb117 : (decide ((0 : Int) < s.t_3)) = true
          · have hr := hx146; rw [if_pos hb117] at hr; refine ol_m rfl ?_; refine ol_yes rfl rfl (congrArg Value.bool hb117) ?_; refine ol_v (e_fa fa_24_0 p1) rfl ?_; refine ol_yes rfl rfl (congrArg Value.bool hb117) ?_; obtain ⟨v119, hl120, hs121⟩ := LiesV.sl ((h1).at_.fld fl_ObjectStore_0); refine ol_v (e_ld ty_22 hl120 rfl) rfl ?_; refine ol_yes rfl rfl (congrArg Value.bool hb117) ?_; refine ol_m h3 ?_; refine ol_yes rfl rfl (congrArg Value.bool hb117) ?_; obtain ⟨x122, hx122, hr⟩ := bind_some' hr; obtain ⟨A123, c124, e125, hc126, R127⟩ := id hs121; obtain ⟨b128, o129, hA130, L131⟩ := Row.at_ R127 hx122; refine ol_v (e_ix (SlT.sl sl_22) (SlT.sz sl_22) hA130 hx122 e125 rfl) rfl ?_; refine ol_yes rfl rfl (congrArg Value.bool hb117) ?_; refine ol_v (e_fa fa_39_0 rfl) rfl ?_; refine ol_yes rfl rfl (congrArg Value.bool hb117) ?_; refine ol_v (e_ld ty_3 (LiesV.int (L131.fld fl_StoredObject_0).at_) rfl) rfl ?_; refine ol_yes rfl rfl (congrArg Value.bool hb117) ?_; refine ol_v (e_fa fa_24_0 p1) rfl ?_; refine ol_yes rfl rfl (congrArg Value.bool hb117) ?_; obtain ⟨v132, hl133, hs134⟩ := LiesV.sl ((h1).at_.fld fl_ObjectStore_0); refine ol_v (e_ld ty_22 hl133 rfl) rfl ?_; refine ol_yes rfl rfl (congrArg Value.bool hb117) ?_; refine ol_m h3 ?_; refine ol_yes rfl rfl (congrArg Value.bool hb117) ?_; refine ol_v (e_sub rfl rfl) rfl ?_; refine ol_yes rfl rfl (congrArg Value.bool hb117) ?_; obtain ⟨x135, hx135, hr⟩ := bind_some' hr; obtain ⟨A136, c137, e138, hc139, R140⟩ := id hs134; obtain ⟨b141, o142, hA143, L144⟩ := Row.at_ R140 hx135; refine ol_v (e_ix (SlT.sl sl_22) (SlT.sz sl_22) hA143 hx135 e138 rfl) rfl ?_; refine ol_yes rfl rfl (congrArg Value.bool hb117) ?_; refine ol_v (e_fa fa_39_0 rfl) rfl ?_; refine ol_yes rfl rfl (congrArg Value.bool hb117) ?_; refine ol_v (e_ld ty_3 (LiesV.int (L144.fld fl_StoredObject_0).at_) rfl) rfl ?_; refine ol_yes rfl rfl (congrArg Value.bool hb117) ?_; refine ol_v (e_leq rfl rfl) rfl ?_; refine ol_v (e_pick true _ (congrArg Value.bool hb117) rfl) rfl ?_; exact ol_nil ⟨⟨rfl, (congrArg Value.bool (Option.some.inj hr))⟩, (Agr.refl _ _ _).u.u.u.u.u.u.u.u.u.u.u.u.u.u.u.u⟩
          · have hb118 := Bool.eq_false_iff.mpr hb117; have hr := hx146; rw [if_neg hb117] at hr; refine ol_m rfl ?_; refine ol_not rfl rfl rfl (congrArg Value.bool hb118) rfl ?_; refine ol_not rfl rfl rfl (congrArg Value.bool hb118) rfl ?_; refine ol_not rfl rfl rfl (congrArg Value.bool hb118) rfl ?_; refine ol_not rfl rfl rfl (congrArg Value.bool hb118) rfl ?_; refine ol_not rfl rfl rfl (congrArg Value.bool hb118) rfl ?_; refine ol_not rfl rfl rfl (congrArg Value.bool hb118) rfl ?_; refine ol_not rfl rfl rfl (congrArg Value.bool hb118) rfl ?_; refine ol_not rfl rfl rfl (congrArg Value.bool hb118) rfl ?_; refine ol_not rfl rfl rfl (congrArg Value.bool hb118) rfl ?_; refine ol_not rfl rfl rfl (congrArg Value.bool hb118) rfl ?_; refine ol_not rfl rfl rfl (congrArg Value.bool hb118) rfl ?_; refine ol_not rfl rfl rfl (congrArg Value.bool hb118) rfl ?_; refine ol_not rfl rfl rfl (congrArg Value.bool hb118) rfl ?_; refine ol_not rfl rfl rfl (congrArg Value.bool hb118) rfl ?_; refine ol_v (e_pick false _ (congrArg Value.bool hb118) rfl) rfl ?_; exact ol_nil ⟨⟨rfl, (congrArg Value.bool (Option.some.inj hr))⟩, (Agr.refl _ _ _).u.u.u.u.u.u.u.u.u.u.u.u.u.u.u.u⟩
        rintro ρ146 _ ⟨⟨rfl, hp146⟩, hAg146⟩; exact ol_fin hr ⟨F, hW, g1, g2, ((hAg146 1 rfl).trans p1), h1, ((hAg146 2 rfl).trans p2), h2, ((hAg146 3 rfl).trans h3), hp146⟩
      refine Ref.condP (b := fun s => s.t_64) (L := G10 w0 F0) (K := G4 w0 F0) ?_ ?_ ?_
      · rintro s ρ w ⟨F, hW, g1, g2, p1, h1, p2, h2, h3, h64⟩; exact ⟨h64, ⟨F, hW, g2, p2, h2, h3⟩, F, hW, g1, g2, p1, h1, p2, h2, h3⟩
      · refine Ref.seq (B := G3 w0 F0) ?_ ?_
        · refine Ref.region (fun s ρ w s' h hr => ?_); obtain ⟨F, hW, g2, p2, h2, h3⟩ := h; refine ol_m h3 ?_; obtain ⟨x147, hx147, hr⟩ := bind_some' hr; refine ol_e (f_call [.int .i64 (5 : Int), .int .i64 s.t_3] fn_13 (lcons rfl (lcons rfl rfl)) (ref3_Fault.calls hW.ok (5 : Int) s.t_3 hx147)) rfl rfl ?_; rintro v150 w148 ⟨Fz149, _, rfl, kw1, hk151⟩; have hW153 := hW.trans kw1; have st1 := kw1.stp hW.ok; refine ol_eN (f_stB hW153 (h2.wk kw1 hW.ok) (FldS.whole _) ty_28 hk151 p2 rfl) rfl ?_; rintro - w154 ⟨hW155, ho156, hg2, st2⟩; exact ol_fin hr ⟨Fz149, hW155, g2, p2, ho156⟩
        exact Ref.ret (fun s ρ w h => ⟨s, rfl, h⟩)
      · exact Ref.skip
    refine Ref.region (fun s ρ w s' h hr => ?_); obtain ⟨F, hW, g1, g2, p1, h1, p2, h2, h3⟩ := h; refine ol_m h3 ?_; refine ol_v (e_add rfl rfl) rfl ?_; refine ol_a rfl ?_; exact ol_fin hr ⟨F, hW, g1, g2, p1, h1, p2, h2, rfl⟩
  refine Ref.seq (B := G3 w0 F0) ?_ ?_
  · refine Ref.region (fun s ρ w s' h hr => ?_); obtain ⟨F, hW, g2, p2, h2⟩ := h; refine ol_v (e_bld (cells := #[.int .i64 0, .int .i64 0]) bld_28 (vs := []) rfl rfl) rfl ?_; have hb157 : Val k_Fault F w (.agg #[.int .i64 0, .int .i64 0]) (⟨(0 : Int), (0 : Int)⟩ : Fault) := mk_Fault (val_int _ _) (val_int _ _); refine ol_eN (f_stB hW h2 (FldS.whole _) ty_28 hb157 p2 rfl) rfl ?_; rintro - w158 ⟨hW159, ho160, hg1, st1⟩; exact ol_fin hr ⟨F, hW159, g2, p2, ho160⟩
  exact Ref.ret (fun s ρ w h => ⟨s, rfl, h⟩)
def post (w : World) (F : BSet) (r : R) (v : Value) (w' : World) : Prop := ∃ (F' : BSet) (v0' : Value), v = v0' ∧ Wk nrow w F F' w' ∧ Val k_Fault F' w' v0' r
theorem calls {w : World} {F : BSet} (hok : ∀ b, F b → b < w.heap.size) {v0 : Value} {a0 : ObjectStore} (h0 : Val k_ObjectStore F w v0 a0) {r : R} (hf : f a0 = some r) : Calls Try.prog 11 #[v0] w fun e w' => ∃ v, e = .returned v ∧ post w F r v w' := by
  obtain ⟨c, hc, href⟩ := ref w F; refine calls_of_ref (args := [v0]) _ Try.func11 hc rfl rfl href ?_ (retOf_some hf) ?_
  · exact ⟨F, Wk.refl hok, h0⟩
  · rintro ρ w' a ⟨s, rfl, F', hW, g2, p2, h2⟩ hF; obtain ⟨u2, l2, k2⟩ := res_box (P := Try.prog) ty_28 h2; refine ⟨_, run_results (rs := [.cell 2 28]) rfl hF (vs := [u2]) (⟨_, _, _, rfl, p2, l2, rfl⟩), ?_⟩; exact ⟨F', u2, rfl, hW, k2⟩
end
end ref3_StoreFault

end Go.Proofs.Ytenkbkcddcnmeaa
