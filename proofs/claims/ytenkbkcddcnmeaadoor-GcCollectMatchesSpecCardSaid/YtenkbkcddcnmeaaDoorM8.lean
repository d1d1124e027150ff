/- The machine's calls come to these plain functions (written by a program, wip/fx/gen.py). -/
import Derived.Test.YtenkbkcddcnmeaaDoorPA
import Derived.Test.YtenkbkcddcnmeaaDoorNm
import Derived.Test.YtenkbkcddcnmeaaDoorSl
import Derived.Test.YtenkbkcddcnmeaaDoorIn
import Derived.Test.YtenkbkcddcnmeaaDoorIt
import Derived.Test.YtenkbkcddcnmeaaDoorFx17
namespace Go.Proofs.YtenkbkcddcnmeaaDoor
open Go.Fx Go.RowKit
set_option linter.unusedVariables false

namespace ref3_Fault
section
def G0 : GT S := fun w0 F0 s ρ w => ∃ F, Wk nrow w0 F0 F w ∧ ρ 0 = .int .i64 s.code_0 ∧ ρ 1 = .int .i64 s.index_1
def G1 : GT S := fun w0 F0 s ρ w => ∃ F, Wk nrow w0 F0 F w ∧ ∃ g4, ρ 0 = .int .i64 s.code_0 ∧ ρ 1 = .int .i64 s.index_1 ∧ ρ 4 = .pointer (some ⟨g4, 0, none⟩) ∧ Box k_Fault 32 (Bs w0 nrow) F w g4 s.t_4
def G2 : GT S := fun w0 F0 s ρ w => ∃ F, Wk nrow w0 F0 F w ∧ ∃ g4, ρ 4 = .pointer (some ⟨g4, 0, none⟩) ∧ Box k_Fault 32 (Bs w0 nrow) F w g4 s.t_4
set_option maxHeartbeats 4000000 in
set_option maxRecDepth 20000 in
theorem ref (w0 : World) (F0 : BSet) : ∃ c, Tryd.f24.body = some c ∧ Ref Tryd.prog 8 c (G0 w0 F0) body (fun _ _ _ => False) (fun _ _ _ _ => False) (fun r ρ w => ∃ s, retv s = r ∧ G2 w0 F0 s ρ w) := by
  refine ⟨_, rfl, ?_⟩; unfold body; refine Ref.seq (B := G1 w0 F0) ?_ ?_
  · refine Ref.region (fun s ρ w s' h hr => ?_); obtain ⟨F, hW, h0, h1⟩ := h; refine ol_e (f_alloc zer_32 hW) rfl rfl ?_; rintro _ w3 ⟨g2, rfl, kw1, ho4⟩; have hW5 := hW.trans kw1; have st1 := kw1.stp hW.ok; exact ol_fin hr ⟨F, hW5, g2, h0, h1, rfl, (ho4.base (row := nrow) hW.le)⟩
  refine Ref.seq (B := G2 w0 F0) ?_ ?_
  · refine Ref.region (fun s ρ w s' h hr => ?_); obtain ⟨F, hW, g4, h0, h1, p4, h4⟩ := h; refine ol_m h0 ?_; refine ol_m h1 ?_; refine ol_v (e_bld (cells := #[.int .i64 s.code_0, .int .i64 s.index_1]) bld_32 (vs := [(0, .int .i64 s.code_0), (1, .int .i64 s.index_1)]) (lcons (congrArg (Prod.mk 0) rfl) (lcons (congrArg (Prod.mk 1) rfl) rfl)) rfl) rfl ?_; have hb6 : Val k_Fault F w (.agg #[.int .i64 s.code_0, .int .i64 s.index_1]) (⟨s.code_0, s.index_1⟩ : Fault) := mk_Fault (val_int _ _) (val_int _ _); refine ol_eN (f_stB hW h4 (FldS.whole _) ty_32 hb6 p4 rfl) rfl ?_; rintro - w7 ⟨hW8, ho9, hg1, st1⟩; exact ol_fin hr ⟨F, hW8, g4, p4, ho9⟩
  exact Ref.ret (fun s ρ w h => ⟨s, rfl, h⟩)
def post (w : World) (F : BSet) (r : R) (v : Value) (w' : World) : Prop := ∃ (F' : BSet) (v0' : Value), v = v0' ∧ Wk nrow w F F' w' ∧ Val k_Fault F' w' v0' r
theorem calls {w : World} {F : BSet} (hok : ∀ b, F b → b < w.heap.size) (a0 : Int) (a1 : Int) {r : R} (hf : f a0 a1 = some r) : Calls Tryd.prog 24 #[.int .i64 a0, .int .i64 a1] w fun e w' => ∃ v, e = .returned v ∧ post w F r v w' := by
  obtain ⟨c, hc, href⟩ := ref w F; refine calls_of_ref (args := [.int .i64 a0, .int .i64 a1]) _ Tryd.func24 hc rfl rfl href ?_ (retOf_some hf) ?_
  · exact ⟨F, Wk.refl hok, rfl, rfl⟩
  · rintro ρ w' a ⟨s, rfl, F', hW, g4, p4, h4⟩ hF; obtain ⟨u4, l4, k4⟩ := res_box (P := Tryd.prog) ty_32 h4; refine ⟨_, run_results (rs := [.cell 4 32]) rfl hF (vs := [u4]) (⟨_, _, _, rfl, p4, l4, rfl⟩), ?_⟩; exact ⟨F', u4, rfl, hW, k4⟩
end
end ref3_Fault

namespace ref3_In
section
def G0 : GT S := fun w0 F0 s ρ w => ∃ F, Wk nrow w0 F0 F w ∧ ρ 0 = .int .i64 s.n_0 ∧ ρ 1 = .int .i64 s.low_1 ∧ ρ 2 = .int .i64 s.high_2
def G1 : GT S := fun w0 F0 s ρ w => ∃ F, Wk nrow w0 F0 F w ∧ ρ 6 = .bool s.t_6
set_option maxHeartbeats 4000000 in
set_option maxRecDepth 20000 in
theorem ref (w0 : World) (F0 : BSet) : ∃ c, Tryd.f33.body = some c ∧ Ref Tryd.prog 15 c (G0 w0 F0) body (fun _ _ _ => False) (fun _ _ _ _ => False) (fun r ρ w => ∃ s, retv s = r ∧ G1 w0 F0 s ρ w) := by
  refine ⟨_, rfl, ?_⟩; unfold body; refine Ref.seq (B := G0 w0 F0) ?_ ?_
  · refine Ref.region (fun s ρ w s' h hr => ?_); obtain ⟨F, hW, h0, h1, h2⟩ := h; refine ol_a rfl ?_; exact ol_fin hr ⟨F, hW, h0, h1, h2⟩
  refine Ref.seq (B := G1 w0 F0) ?_ ?_
  · refine Ref.region (fun s ρ w s' h hr => ?_); obtain ⟨F, hW, h0, h1, h2⟩ := h; refine ol_m h0 ?_; refine ol_m h1 ?_; refine ol_v (e_geq rfl rfl) rfl ?_; refine ol_cutA 5 10 14 (fun ρ' w' => w = w' ∧ ρ' 14 = .bool ((decide (s.low_1 ≤ s.n_0)) && (decide (s.n_0 ≤ s.high_2)))) rfl ?_ ?_
    · by_cases hb1 : (decide (s.low_1 ≤ s.n_0)) = true
      · refine ol_m rfl ?_; refine ol_yes rfl rfl (congrArg Value.bool hb1) ?_; refine ol_m h0 ?_; refine ol_yes rfl rfl (congrArg Value.bool hb1) ?_; refine ol_m h2 ?_; refine ol_yes rfl rfl (congrArg Value.bool hb1) ?_; refine ol_v (e_leq rfl rfl) rfl ?_; refine ol_v (e_pick true _ (congrArg Value.bool hb1) rfl) rfl ?_; exact ol_nil ⟨⟨rfl, (bv_and_t hb1)⟩, (Agr.refl _ _ _).u.u.u.u.u⟩
      · have hb2 := Bool.eq_false_iff.mpr hb1; refine ol_m rfl ?_; refine ol_not rfl rfl rfl (congrArg Value.bool hb2) rfl ?_; refine ol_not rfl rfl rfl (congrArg Value.bool hb2) rfl ?_; refine ol_not rfl rfl rfl (congrArg Value.bool hb2) rfl ?_; refine ol_v (e_pick false _ (congrArg Value.bool hb2) rfl) rfl ?_; exact ol_nil ⟨⟨rfl, (bv_and_f hb2)⟩, (Agr.refl _ _ _).u.u.u.u.u⟩
    rintro ρ3 _ ⟨⟨rfl, hp3⟩, hAg3⟩; refine ol_a hp3 ?_; exact ol_fin hr ⟨F, hW, rfl⟩
  exact Ref.ret (fun s ρ w h => ⟨s, rfl, h⟩)
def post (w : World) (F : BSet) (r : R) (v : Value) (w' : World) : Prop := ∃ (F' : BSet), v = .bool r ∧ Wk nrow w F F' w'
theorem calls {w : World} {F : BSet} (hok : ∀ b, F b → b < w.heap.size) (a0 : Int) (a1 : Int) (a2 : Int) {r : R} (hf : f a0 a1 a2 = some r) : Calls Tryd.prog 33 #[.int .i64 a0, .int .i64 a1, .int .i64 a2] w fun e w' => ∃ v, e = .returned v ∧ post w F r v w' := by
  obtain ⟨c, hc, href⟩ := ref w F; refine calls_of_ref (args := [.int .i64 a0, .int .i64 a1, .int .i64 a2]) _ Tryd.func33 hc rfl rfl href ?_ (retOf_some hf) ?_
  · exact ⟨F, Wk.refl hok, rfl, rfl, rfl⟩
  · rintro ρ w' a ⟨s, rfl, F', hW, h6⟩ hF; refine ⟨_, run_results (rs := [.tmp 6]) rfl hF (vs := [ρ 6]) (⟨_, rfl, rfl⟩), ?_⟩; have hv : resVal [ρ 6] = .bool s.t_6 := by rw [h6]; rfl
    exact ⟨F', hv, hW⟩
end
end ref3_In

namespace ref3_ObjectFault
section
abbrev c1 (ρ : Env) (g1 : Nat) (w0 w : World) (F : BSet) (s : S) (X : Prop) : Prop := ρ 1 = .pointer (some ⟨g1, 0, none⟩) ∧ Box k_Object 48 (Bs w0 nrow) F w g1 s.o_1 ∧ X
abbrev c2 (ρ : Env) (g2 : Nat) (w0 w : World) (F : BSet) (s : S) (X : Prop) : Prop := ρ 2 = .pointer (some ⟨g2, 0, none⟩) ∧ Box k_Fault 32 (Bs w0 nrow) F w g2 s.t_2 ∧ X
def G0 : GT S := fun w0 F0 s ρ w => ∃ F, Wk nrow w0 F0 F w ∧ Val k_Object F w (ρ 0) s.o_0
def G1 : GT S := fun w0 F0 s ρ w => ∃ F, Wk nrow w0 F0 F w ∧ ∃ g1 g2, c1 ρ g1 w0 w F s (ρ 2 = .pointer (some ⟨g2, 0, none⟩) ∧ Box k_Fault 32 (Bs w0 nrow) F w g2 s.t_2)
def G2 : GT S := fun w0 F0 s ρ w => ∃ F, Wk nrow w0 F0 F w ∧ ∃ g1 g2, c1 ρ g1 w0 w F s (c2 ρ g2 w0 w F s (ρ 7 = .bool s.t_7))
def G3 : GT S := fun w0 F0 s ρ w => ∃ F, Wk nrow w0 F0 F w ∧ ∃ g2, ρ 2 = .pointer (some ⟨g2, 0, none⟩) ∧ Box k_Fault 32 (Bs w0 nrow) F w g2 s.t_2
def G4 : GT S := fun w0 F0 s ρ w => ∃ F, Wk nrow w0 F0 F w ∧ ∃ g1 g2, c1 ρ g1 w0 w F s (c2 ρ g2 w0 w F s (ρ 12 = .bool s.t_12))
def G5 : GT S := fun w0 F0 s ρ w => ∃ F, Wk nrow w0 F0 F w ∧ ∃ g1 g2, c1 ρ g1 w0 w F s (c2 ρ g2 w0 w F s (ρ 17 = .bool s.t_17))
def G6 : GT S := fun w0 F0 s ρ w => ∃ F, Wk nrow w0 F0 F w ∧ ∃ g1 g2, c1 ρ g1 w0 w F s (c2 ρ g2 w0 w F s (ρ 27 = .bool s.t_27))
def G7 : GT S := fun w0 F0 s ρ w => ∃ F, Wk nrow w0 F0 F w ∧ ∃ g1 g2, c1 ρ g1 w0 w F s (c2 ρ g2 w0 w F s (ρ 3 = .int .i64 s.i_3))
def G8 : GT S := fun w0 F0 s ρ w => ∃ F, Wk nrow w0 F0 F w ∧ ∃ g1 g2, c1 ρ g1 w0 w F s (c2 ρ g2 w0 w F s (ρ 3 = .int .i64 s.i_3 ∧ ρ 33 = .bool s.t_33))
def G9 : GT S := fun w0 F0 s ρ w => ∃ F, Wk nrow w0 F0 F w ∧ ∃ g1 g2, c1 ρ g1 w0 w F s (c2 ρ g2 w0 w F s (ρ 3 = .int .i64 s.i_3 ∧ ρ 42 = .bool s.t_42))
def G10 : GT S := fun w0 F0 s ρ w => ∃ F, Wk nrow w0 F0 F w ∧ ∃ g2, c2 ρ g2 w0 w F s (ρ 3 = .int .i64 s.i_3)
set_option maxHeartbeats 4000000 in
set_option maxRecDepth 20000 in
theorem ref (w0 : World) (F0 : BSet) : ∃ c, Tryd.f37.body = some c ∧ Ref Tryd.prog 46 c (G0 w0 F0) body (fun _ _ _ => False) (fun _ _ _ _ => False) (fun r ρ w => ∃ s, retv s = r ∧ G3 w0 F0 s ρ w) := by
  refine ⟨_, rfl, ?_⟩; unfold body; refine Ref.seq (B := G1 w0 F0) ?_ ?_
  · refine Ref.region (fun s ρ w s' h hr => ?_); obtain ⟨F, hW, h0⟩ := h; refine ol_e (f_box hW rfl h0) rfl rfl ?_; rintro _ w5 ⟨g4, rfl, kw1, ho6⟩; have hW7 := hW.trans kw1; have st1 := kw1.stp hW.ok; refine ol_e (f_alloc zer_32 hW7) rfl rfl ?_; rintro _ w9 ⟨g8, rfl, kw2, ho10⟩; have hW11 := hW7.trans kw2; have st2 := kw2.stp hW7.ok; exact ol_fin hr ⟨F, hW11, g4, g8, rfl, ((ho6.base (row := nrow) hW.le).wk kw2 hW7.ok), rfl, (ho10.base (row := nrow) hW7.le)⟩
  refine Ref.seq (B := G1 w0 F0) ?_ ?_
  · refine Ref.seq (B := G2 w0 F0) ?_ ?_
    · refine Ref.region (fun s ρ w s' h hr => ?_); obtain ⟨F, hW, g1, g2, p1, h1, p2, h2⟩ := h; refine ol_v (e_fa fa_48_0 p1) rfl ?_; refine ol_v (e_ld ty_3 (LiesV.int ((h1).at_.fld fl_Object_0)) rfl) rfl ?_; obtain ⟨x12, hx12, hr⟩ := bind_some' hr; refine ol_e (f_call [.int .i64 s.o_1.Kind, .int .i64 (1 : Int), .int .i64 (3 : Int)] fn_33 (lcons rfl (lcons rfl (lcons rfl rfl))) (ref3_In.calls hW.ok s.o_1.Kind (1 : Int) (3 : Int) hx12)) rfl rfl ?_; rintro _ w13 ⟨Fz14, rfl, kw1⟩; have hW16 := hW.trans kw1; have st1 := kw1.stp hW.ok; refine ol_v (e_not_ rfl) rfl ?_; exact ol_fin hr ⟨Fz14, hW16, g1, g2, p1, (h1.wk kw1 hW.ok), p2, (h2.wk kw1 hW.ok), rfl⟩
    refine Ref.condP (b := fun s => s.t_7) (L := G3 w0 F0) (K := G1 w0 F0) ?_ ?_ ?_
    · rintro s ρ w ⟨F, hW, g1, g2, p1, h1, p2, h2, h7⟩; exact ⟨h7, ⟨F, hW, g2, p2, h2⟩, F, hW, g1, g2, p1, h1, p2, h2⟩
    · refine Ref.seq (B := G3 w0 F0) ?_ ?_
      · refine Ref.region (fun s ρ w s' h hr => ?_); obtain ⟨F, hW, g2, p2, h2⟩ := h; obtain ⟨x17, hx17, hr⟩ := bind_some' hr; refine ol_e (f_call [.int .i64 (4 : Int), .int .i64 (0 : Int)] fn_24 (lcons rfl (lcons rfl rfl)) (ref3_Fault.calls hW.ok (4 : Int) (0 : Int) hx17)) rfl rfl ?_; rintro v20 w18 ⟨Fz19, _, rfl, kw1, hk21⟩; have hW23 := hW.trans kw1; have st1 := kw1.stp hW.ok; refine ol_eN (f_stB hW23 (h2.wk kw1 hW.ok) (FldS.whole _) ty_32 hk21 p2 rfl) rfl ?_; rintro - w24 ⟨hW25, ho26, hg2, st2⟩; exact ol_fin hr ⟨Fz19, hW25, g2, p2, ho26⟩
      exact Ref.ret (fun s ρ w h => ⟨s, rfl, h⟩)
    · exact Ref.skip
  refine Ref.seq (B := G1 w0 F0) ?_ ?_
  · refine Ref.seq (B := G4 w0 F0) ?_ ?_
    · refine Ref.region (fun s ρ w s' h hr => ?_); obtain ⟨F, hW, g1, g2, p1, h1, p2, h2⟩ := h; refine ol_v (e_fa fa_48_1 p1) rfl ?_; obtain ⟨v28, hl29, hs30⟩ := LiesV.sl ((h1).at_.fld fl_Object_1); refine ol_v (e_ld ty_30 hl29 rfl) rfl ?_; obtain ⟨A31, c32, e33, hc34, R35⟩ := id hs30; refine ol_v (e_len (SlT.sl sl_30) e33) rfl ?_; refine ol_v (e_gtr rfl rfl) rfl ?_; exact ol_fin hr ⟨F, hW, g1, g2, p1, h1, p2, h2, rfl⟩
    refine Ref.condP (b := fun s => s.t_12) (L := G3 w0 F0) (K := G1 w0 F0) ?_ ?_ ?_
    · rintro s ρ w ⟨F, hW, g1, g2, p1, h1, p2, h2, h12⟩; exact ⟨h12, ⟨F, hW, g2, p2, h2⟩, F, hW, g1, g2, p1, h1, p2, h2⟩
    · refine Ref.seq (B := G3 w0 F0) ?_ ?_
      · refine Ref.region (fun s ρ w s' h hr => ?_); obtain ⟨F, hW, g2, p2, h2⟩ := h; obtain ⟨x36, hx36, hr⟩ := bind_some' hr; refine ol_e (f_call [.int .i64 (2 : Int), .int .i64 (0 : Int)] fn_24 (lcons rfl (lcons rfl rfl)) (ref3_Fault.calls hW.ok (2 : Int) (0 : Int) hx36)) rfl rfl ?_; rintro v39 w37 ⟨Fz38, _, rfl, kw1, hk40⟩; have hW42 := hW.trans kw1; have st1 := kw1.stp hW.ok; refine ol_eN (f_stB hW42 (h2.wk kw1 hW.ok) (FldS.whole _) ty_32 hk40 p2 rfl) rfl ?_; rintro - w43 ⟨hW44, ho45, hg2, st2⟩; exact ol_fin hr ⟨Fz38, hW44, g2, p2, ho45⟩
      exact Ref.ret (fun s ρ w h => ⟨s, rfl, h⟩)
    · exact Ref.skip
  refine Ref.seq (B := G1 w0 F0) ?_ ?_
  · refine Ref.seq (B := G5 w0 F0) ?_ ?_
    · refine Ref.region (fun s ρ w s' h hr => ?_); obtain ⟨F, hW, g1, g2, p1, h1, p2, h2⟩ := h; refine ol_v (e_fa fa_48_2 p1) rfl ?_; obtain ⟨v46, hl47, hs48⟩ := LiesV.sl ((h1).at_.fld fl_Object_2); refine ol_v (e_ld ty_46 hl47 rfl) rfl ?_; obtain ⟨A49, c50, e51, hc52, R53⟩ := id hs48; refine ol_v (e_len (SlT.sl sl_46) e51) rfl ?_; refine ol_v (e_gtr rfl rfl) rfl ?_; exact ol_fin hr ⟨F, hW, g1, g2, p1, h1, p2, h2, rfl⟩
    refine Ref.condP (b := fun s => s.t_17) (L := G3 w0 F0) (K := G1 w0 F0) ?_ ?_ ?_
    · rintro s ρ w ⟨F, hW, g1, g2, p1, h1, p2, h2, h17⟩; exact ⟨h17, ⟨F, hW, g2, p2, h2⟩, F, hW, g1, g2, p1, h1, p2, h2⟩
    · refine Ref.seq (B := G3 w0 F0) ?_ ?_
      · refine Ref.region (fun s ρ w s' h hr => ?_); obtain ⟨F, hW, g2, p2, h2⟩ := h; obtain ⟨x54, hx54, hr⟩ := bind_some' hr; refine ol_e (f_call [.int .i64 (10 : Int), .int .i64 (0 : Int)] fn_24 (lcons rfl (lcons rfl rfl)) (ref3_Fault.calls hW.ok (10 : Int) (0 : Int) hx54)) rfl rfl ?_; rintro v57 w55 ⟨Fz56, _, rfl, kw1, hk58⟩; have hW60 := hW.trans kw1; have st1 := kw1.stp hW.ok; refine ol_eN (f_stB hW60 (h2.wk kw1 hW.ok) (FldS.whole _) ty_32 hk58 p2 rfl) rfl ?_; rintro - w61 ⟨hW62, ho63, hg2, st2⟩; exact ol_fin hr ⟨Fz56, hW62, g2, p2, ho63⟩
      exact Ref.ret (fun s ρ w h => ⟨s, rfl, h⟩)
    · exact Ref.skip
  refine Ref.seq (B := G1 w0 F0) ?_ ?_
  · refine Ref.seq (B := G6 w0 F0) ?_ ?_
    · refine Ref.region (fun s ρ w s' h hr => ?_); obtain ⟨F, hW, g1, g2, p1, h1, p2, h2⟩ := h; refine ol_v (e_fa fa_48_0 p1) rfl ?_; refine ol_v (e_ld ty_3 (LiesV.int ((h1).at_.fld fl_Object_0)) rfl) rfl ?_; refine ol_v (e_eql rfl rfl) rfl ?_; refine ol_cutA 6 22 27 (fun ρ' w' => w = w' ∧ ρ' 27 = .bool ((decide (s.o_1.Kind = (1 : Int))) && (!decide ((s.o_1.Links.length : Int) = (0 : Int))))) rfl ?_ ?_
      · by_cases hb64 : (decide (s.o_1.Kind = (1 : Int))) = true
        · refine ol_m rfl ?_; refine ol_yes rfl rfl (congrArg Value.bool hb64) ?_; refine ol_v (e_fa fa_48_1 p1) rfl ?_; refine ol_yes rfl rfl (congrArg Value.bool hb64) ?_; obtain ⟨v66, hl67, hs68⟩ := LiesV.sl ((h1).at_.fld fl_Object_1); refine ol_v (e_ld ty_30 hl67 rfl) rfl ?_; refine ol_yes rfl rfl (congrArg Value.bool hb64) ?_; obtain ⟨A69, c70, e71, hc72, R73⟩ := id hs68; refine ol_v (e_len (SlT.sl sl_30) e71) rfl ?_; refine ol_yes rfl rfl (congrArg Value.bool hb64) ?_; refine ol_v (e_neq rfl rfl) rfl ?_; refine ol_v (e_pick true _ (congrArg Value.bool hb64) rfl) rfl ?_; exact ol_nil ⟨⟨rfl, (bv_and_t hb64)⟩, (Agr.refl _ _ _).u.u.u.u.u.u⟩
        · have hb65 := Bool.eq_false_iff.mpr hb64; refine ol_m rfl ?_; refine ol_not rfl rfl rfl (congrArg Value.bool hb65) rfl ?_; refine ol_not rfl rfl rfl (congrArg Value.bool hb65) rfl ?_; refine ol_not rfl rfl rfl (congrArg Value.bool hb65) rfl ?_; refine ol_not rfl rfl rfl (congrArg Value.bool hb65) rfl ?_; refine ol_v (e_pick false _ (congrArg Value.bool hb65) rfl) rfl ?_; exact ol_nil ⟨⟨rfl, (bv_and_f hb65)⟩, (Agr.refl _ _ _).u.u.u.u.u.u⟩
      rintro ρ74 _ ⟨⟨rfl, hp74⟩, hAg74⟩; exact ol_fin hr ⟨F, hW, g1, g2, ((hAg74 1 rfl).trans p1), h1, ((hAg74 2 rfl).trans p2), h2, hp74⟩
    refine Ref.condP (b := fun s => s.t_27) (L := G3 w0 F0) (K := G1 w0 F0) ?_ ?_ ?_
    · rintro s ρ w ⟨F, hW, g1, g2, p1, h1, p2, h2, h27⟩; exact ⟨h27, ⟨F, hW, g2, p2, h2⟩, F, hW, g1, g2, p1, h1, p2, h2⟩
    · refine Ref.seq (B := G3 w0 F0) ?_ ?_
      · refine Ref.region (fun s ρ w s' h hr => ?_); obtain ⟨F, hW, g2, p2, h2⟩ := h; obtain ⟨x75, hx75, hr⟩ := bind_some' hr; refine ol_e (f_call [.int .i64 (5 : Int), .int .i64 (0 : Int)] fn_24 (lcons rfl (lcons rfl rfl)) (ref3_Fault.calls hW.ok (5 : Int) (0 : Int) hx75)) rfl rfl ?_; rintro v78 w76 ⟨Fz77, _, rfl, kw1, hk79⟩; have hW81 := hW.trans kw1; have st1 := kw1.stp hW.ok; refine ol_eN (f_stB hW81 (h2.wk kw1 hW.ok) (FldS.whole _) ty_32 hk79 p2 rfl) rfl ?_; rintro - w82 ⟨hW83, ho84, hg2, st2⟩; exact ol_fin hr ⟨Fz77, hW83, g2, p2, ho84⟩
      exact Ref.ret (fun s ρ w h => ⟨s, rfl, h⟩)
    · exact Ref.skip
  refine Ref.seq (B := G3 w0 F0) ?_ ?_
  · refine Ref.seq (B := G7 w0 F0) ?_ ?_
    · refine Ref.region (fun s ρ w s' h hr => ?_); obtain ⟨F, hW, g1, g2, p1, h1, p2, h2⟩ := h; refine ol_a rfl ?_; exact ol_fin hr ⟨F, hW, g1, g2, p1, h1, p2, h2, rfl⟩
    refine Ref.block ?_; refine Ref.loop ?_; refine Ref.seq (B := G7 w0 F0) ?_ ?_
    · refine Ref.seq (B := G8 w0 F0) ?_ ?_
      · refine Ref.region (fun s ρ w s' h hr => ?_); obtain ⟨F, hW, g1, g2, p1, h1, p2, h2, h3⟩ := h; refine ol_m h3 ?_; refine ol_v (e_fa fa_48_1 p1) rfl ?_; obtain ⟨v85, hl86, hs87⟩ := LiesV.sl ((h1).at_.fld fl_Object_1); refine ol_v (e_ld ty_30 hl86 rfl) rfl ?_; obtain ⟨A88, c89, e90, hc91, R92⟩ := id hs87; refine ol_v (e_len (SlT.sl sl_30) e90) rfl ?_; refine ol_v (e_lss rfl rfl) rfl ?_; exact ol_fin hr ⟨F, hW, g1, g2, p1, h1, p2, h2, h3, rfl⟩
      refine Ref.condP (b := fun s => s.t_33) (L := G7 w0 F0) (K := G3 w0 F0) ?_ ?_ ?_
      · rintro s ρ w ⟨F, hW, g1, g2, p1, h1, p2, h2, h3, h33⟩; exact ⟨h33, ⟨F, hW, g1, g2, p1, h1, p2, h2, h3⟩, F, hW, g2, p2, h2⟩
      · exact Ref.skip
      · exact Ref.exit (fun s ρ w h => h)
    refine Ref.seq (B := G7 w0 F0) ?_ ?_
    · refine Ref.block ?_; refine Ref.seq (B := G9 w0 F0) ?_ ?_
      · refine Ref.region (fun s ρ w s' h hr => ?_); obtain ⟨F, hW, g1, g2, p1, h1, p2, h2, h3⟩ := h; refine ol_v (e_fa fa_48_1 p1) rfl ?_; obtain ⟨v93, hl94, hs95⟩ := LiesV.sl ((h1).at_.fld fl_Object_1); refine ol_v (e_ld ty_30 hl94 rfl) rfl ?_; refine ol_m h3 ?_; obtain ⟨x96, hx96, hr⟩ := bind_some' hr; obtain ⟨A97, c98, e99, hc100, R101⟩ := id hs95; obtain ⟨b102, o103, hA104, L105⟩ := Row.at_ R101 hx96; refine ol_v (e_ix (SlT.sl sl_30) (SlT.sz sl_30) hA104 hx96 e99 rfl) rfl ?_; refine ol_v (e_ld ty_3 (LiesV.int L105.at_) rfl) rfl ?_; obtain ⟨x106, hx106, hr⟩ := bind_some' hr; refine ol_e (f_call [.int .i64 x96, .int .i64 (0 : Int), .int .i64 (2305843009213693950 : Int)] fn_33 (lcons rfl (lcons rfl (lcons rfl rfl))) (ref3_In.calls hW.ok x96 (0 : Int) (2305843009213693950 : Int) hx106)) rfl rfl ?_; rintro _ w107 ⟨Fz108, rfl, kw1⟩; have hW110 := hW.trans kw1; have st1 := kw1.stp hW.ok; refine ol_v (e_not_ rfl) rfl ?_; exact ol_fin hr ⟨Fz108, hW110, g1, g2, p1, (h1.wk kw1 hW.ok), p2, (h2.wk kw1 hW.ok), h3, rfl⟩
      refine Ref.condP (b := fun s => s.t_42) (L := G10 w0 F0) (K := G7 w0 F0) ?_ ?_ ?_
      · rintro s ρ w ⟨F, hW, g1, g2, p1, h1, p2, h2, h3, h42⟩; exact ⟨h42, ⟨F, hW, g2, p2, h2, h3⟩, F, hW, g1, g2, p1, h1, p2, h2, h3⟩
      · refine Ref.seq (B := G3 w0 F0) ?_ ?_
        · refine Ref.region (fun s ρ w s' h hr => ?_); obtain ⟨F, hW, g2, p2, h2, h3⟩ := h; refine ol_m h3 ?_; obtain ⟨x111, hx111, hr⟩ := bind_some' hr; refine ol_e (f_call [.int .i64 (3 : Int), .int .i64 s.i_3] fn_24 (lcons rfl (lcons rfl rfl)) (ref3_Fault.calls hW.ok (3 : Int) s.i_3 hx111)) rfl rfl ?_; rintro v114 w112 ⟨Fz113, _, rfl, kw1, hk115⟩; have hW117 := hW.trans kw1; have st1 := kw1.stp hW.ok; refine ol_eN (f_stB hW117 (h2.wk kw1 hW.ok) (FldS.whole _) ty_32 hk115 p2 rfl) rfl ?_; rintro - w118 ⟨hW119, ho120, hg2, st2⟩; exact ol_fin hr ⟨Fz113, hW119, g2, p2, ho120⟩
        exact Ref.ret (fun s ρ w h => ⟨s, rfl, h⟩)
      · exact Ref.skip
    refine Ref.region (fun s ρ w s' h hr => ?_); obtain ⟨F, hW, g1, g2, p1, h1, p2, h2, h3⟩ := h; refine ol_m h3 ?_; refine ol_v (e_add rfl rfl) rfl ?_; refine ol_a rfl ?_; exact ol_fin hr ⟨F, hW, g1, g2, p1, h1, p2, h2, rfl⟩
  refine Ref.seq (B := G3 w0 F0) ?_ ?_
  · refine Ref.region (fun s ρ w s' h hr => ?_); obtain ⟨F, hW, g2, p2, h2⟩ := h; refine ol_v (e_bld (cells := #[.int .i64 0, .int .i64 0]) bld_32 (vs := []) rfl rfl) rfl ?_; have hb121 : Val k_Fault F w (.agg #[.int .i64 0, .int .i64 0]) (⟨(0 : Int), (0 : Int)⟩ : Fault) := mk_Fault (val_int _ _) (val_int _ _); refine ol_eN (f_stB hW h2 (FldS.whole _) ty_32 hb121 p2 rfl) rfl ?_; rintro - w122 ⟨hW123, ho124, hg1, st1⟩; exact ol_fin hr ⟨F, hW123, g2, p2, ho124⟩
  exact Ref.ret (fun s ρ w h => ⟨s, rfl, h⟩)
def post (w : World) (F : BSet) (r : R) (v : Value) (w' : World) : Prop := ∃ (F' : BSet) (v0' : Value), v = v0' ∧ Wk nrow w F F' w' ∧ Val k_Fault F' w' v0' r
theorem calls {w : World} {F : BSet} (hok : ∀ b, F b → b < w.heap.size) {v0 : Value} {a0 : Object} (h0 : Val k_Object F w v0 a0) {r : R} (hf : f a0 = some r) : Calls Tryd.prog 37 #[v0] w fun e w' => ∃ v, e = .returned v ∧ post w F r v w' := by
  obtain ⟨c, hc, href⟩ := ref w F; refine calls_of_ref (args := [v0]) _ Tryd.func37 hc rfl rfl href ?_ (retOf_some hf) ?_
  · exact ⟨F, Wk.refl hok, h0⟩
  · rintro ρ w' a ⟨s, rfl, F', hW, g2, p2, h2⟩ hF; obtain ⟨u2, l2, k2⟩ := res_box (P := Tryd.prog) ty_32 h2; refine ⟨_, run_results (rs := [.cell 2 32]) rfl hF (vs := [u2]) (⟨_, _, _, rfl, p2, l2, rfl⟩), ?_⟩; exact ⟨F', u2, rfl, hW, k2⟩
end
end ref3_ObjectFault

namespace ref3_Wide
section
def G0 : GT S := fun w0 F0 s ρ w => ∃ F, Wk nrow w0 F0 F w ∧ ρ 0 = .int .i64 s.n_0
def G1 : GT S := fun w0 F0 s ρ w => ∃ F, Wk nrow w0 F0 F w ∧ ρ 0 = .int .i64 s.n_0 ∧ OwnV kByte 5 (Bs w0 nrow) F w (ρ 3) s.out_3
def G2 : GT S := fun w0 F0 s ρ w => ∃ F, Wk nrow w0 F0 F w ∧ ρ 0 = .int .i64 s.n_0 ∧ OwnV kByte 5 (Bs w0 nrow) F w (ρ 3) s.out_3 ∧ ρ 4 = .int .i64 s.i_4
def G3 : GT S := fun w0 F0 s ρ w => ∃ F, Wk nrow w0 F0 F w ∧ ρ 0 = .int .i64 s.n_0 ∧ OwnV kByte 5 (Bs w0 nrow) F w (ρ 3) s.out_3 ∧ ρ 4 = .int .i64 s.i_4 ∧ ρ 7 = .bool s.t_7
def G4 : GT S := fun w0 F0 s ρ w => ∃ F, Wk nrow w0 F0 F w ∧ OwnV kByte 5 (Bs w0 nrow) F w (ρ 3) s.out_3
def G5 : GT S := fun w0 F0 s ρ w => ∃ F, Wk nrow w0 F0 F w ∧ OwnV kByte 5 (Bs w0 nrow) F w (ρ 2) s.t_2
set_option maxHeartbeats 4000000 in
set_option maxRecDepth 20000 in
theorem ref (w0 : World) (F0 : BSet) : ∃ c, Tryd.f55.body = some c ∧ Ref Tryd.prog 19 c (G0 w0 F0) body (fun _ _ _ => False) (fun _ _ _ _ => False) (fun r ρ w => ∃ s, retv s = r ∧ G5 w0 F0 s ρ w) := by
  refine ⟨_, rfl, ?_⟩; unfold body; refine Ref.seq (B := G0 w0 F0) ?_ ?_
  · refine Ref.region (fun s ρ w s' h hr => ?_); obtain ⟨F, hW, h0⟩ := h; refine ol_a rfl ?_; exact ol_fin hr ⟨F, hW, h0⟩
  refine Ref.seq (B := G1 w0 F0) ?_ ?_
  · refine Ref.region (fun s ρ w s' h hr => ?_); obtain ⟨F, hW, h0⟩ := h; obtain ⟨x1, hx1, hr⟩ := bind_some' hr; refine ol_e (f_mks sl_46 hW rfl rfl hx1) rfl rfl ?_; rintro v5 w6 ⟨kw1, ho7⟩; have hW8 := hW.trans kw1; have st1 := kw1.stp hW.ok; refine ol_a rfl ?_; exact ol_fin hr ⟨F, hW8, h0, (ho7.base (row := nrow) hW.le)⟩
  refine Ref.seq (B := G4 w0 F0) ?_ ?_
  · refine Ref.seq (B := G2 w0 F0) ?_ ?_
    · refine Ref.region (fun s ρ w s' h hr => ?_); obtain ⟨F, hW, h0, h3⟩ := h; refine ol_a rfl ?_; exact ol_fin hr ⟨F, hW, h0, h3, rfl⟩
    refine Ref.block ?_; refine Ref.loop ?_; refine Ref.seq (B := G2 w0 F0) ?_ ?_
    · refine Ref.seq (B := G3 w0 F0) ?_ ?_
      · refine Ref.region (fun s ρ w s' h hr => ?_); obtain ⟨F, hW, h0, h3, h4⟩ := h; refine ol_m h4 ?_; refine ol_v (e_geq rfl rfl) rfl ?_; exact ol_fin hr ⟨F, hW, h0, h3, h4, rfl⟩
      refine Ref.condP (b := fun s => s.t_7) (L := G2 w0 F0) (K := G4 w0 F0) ?_ ?_ ?_
      · rintro s ρ w ⟨F, hW, h0, h3, h4, h7⟩; exact ⟨h7, ⟨F, hW, h0, h3, h4⟩, F, hW, h3⟩
      · exact Ref.skip
      · exact Ref.exit (fun s ρ w h => h)
    refine Ref.seq (B := G2 w0 F0) ?_ ?_
    · refine Ref.block ?_; refine Ref.seq (B := G2 w0 F0) ?_ ?_
      · refine Ref.region (fun s ρ w s' h hr => ?_); obtain ⟨F, hW, h0, h3, h4⟩ := h; refine ol_m rfl ?_; refine ol_m h4 ?_; refine ol_m h0 ?_; refine ol_v (e_rem rfl rfl (by decide)) rfl ?_; refine ol_v (e_convB (by kernel_rfl) (by kernel_rfl) rfl) rfl ?_; obtain ⟨x9, hx9, hr⟩ := bind_some' hr; obtain ⟨g10, o11, c12, hv13, L14⟩ := OwnV.at_ h3 hx9; refine ol_v (e_ixO sl_46 hv13 hx9 rfl rfl) rfl ?_; refine ol_eN (f_stO hW h3 hx9 (FldS.whole _) ty_5 (val_byte _) hv13 rfl rfl) rfl ?_; rintro - w15 ⟨hW16, ho17, hg1, st1⟩; exact ol_fin hr ⟨F, hW16, h0, ho17, h4⟩
      refine Ref.region (fun s ρ w s' h hr => ?_); obtain ⟨F, hW, h0, h3, h4⟩ := h; refine ol_m h0 ?_; refine ol_v (e_quo rfl rfl (by decide)) rfl ?_; refine ol_a rfl ?_; exact ol_fin hr ⟨F, hW, rfl, h3, h4⟩
    refine Ref.region (fun s ρ w s' h hr => ?_); obtain ⟨F, hW, h0, h3, h4⟩ := h; refine ol_m h4 ?_; refine ol_v (e_sub rfl rfl) rfl ?_; refine ol_a rfl ?_; exact ol_fin hr ⟨F, hW, h0, h3, rfl⟩
  refine Ref.seq (B := G5 w0 F0) ?_ ?_
  · refine Ref.region (fun s ρ w s' h hr => ?_); obtain ⟨F, hW, h3⟩ := h; refine ol_m rfl ?_; refine ol_a rfl ?_; exact ol_fin hr ⟨F, hW, h3⟩
  exact Ref.ret (fun s ρ w h => ⟨s, rfl, h⟩)
def post (w : World) (F : BSet) (r : R) (v : Value) (w' : World) : Prop := ∃ (F' : BSet) (v0' : Value), v = v0' ∧ Wk nrow w F F' w' ∧ OwnV kByte 5 (Nw w) F' w' v0' r
theorem calls {w : World} {F : BSet} (hok : ∀ b, F b → b < w.heap.size) (a0 : Int) {r : R} (hf : f a0 = some r) : Calls Tryd.prog 55 #[.int .i64 a0] w fun e w' => ∃ v, e = .returned v ∧ post w F r v w' := by
  obtain ⟨c, hc, href⟩ := ref w F; refine calls_of_ref (args := [.int .i64 a0]) _ Tryd.func55 hc rfl rfl href ?_ (retOf_some hf) ?_
  · exact ⟨F, Wk.refl hok, rfl⟩
  · rintro ρ w' a ⟨s, rfl, F', hW, h2⟩ hF; refine ⟨_, run_results (rs := [.tmp 2]) rfl hF (vs := [ρ 2]) (⟨_, rfl, rfl⟩), ?_⟩; exact ⟨F', ρ 2, rfl, hW, h2.rebase (fun g hg => (h2.lt hg).1.resolve_right (fun h => h))⟩
end
end ref3_Wide

namespace ref3_double
section
def G0 : GT S := fun w0 F0 s ρ w => ∃ F, Wk nrow w0 F0 F w ∧ ρ 0 = .int .i64 s.n_0
def G1 : GT S := fun w0 F0 s ρ w => ∃ F, Wk nrow w0 F0 F w ∧ ρ 0 = .int .i64 s.n_0 ∧ ρ 7 = .bool s.t_7
def G2 : GT S := fun w0 F0 s ρ w => ∃ F, Wk nrow w0 F0 F w ∧ ρ 2 = .int .i64 s.t_2
set_option maxHeartbeats 4000000 in
set_option maxRecDepth 20000 in
theorem ref (w0 : World) (F0 : BSet) : ∃ c, Tryd.f101.body = some c ∧ Ref Tryd.prog 11 c (G0 w0 F0) body (fun _ _ _ => False) (fun _ _ _ _ => False) (fun r ρ w => ∃ s, retv s = r ∧ G2 w0 F0 s ρ w) := by
  refine ⟨_, rfl, ?_⟩; unfold body; refine Ref.seq (B := G0 w0 F0) ?_ ?_
  · refine Ref.region (fun s ρ w s' h hr => ?_); obtain ⟨F, hW, h0⟩ := h; refine ol_a rfl ?_; exact ol_fin hr ⟨F, hW, h0⟩
  refine Ref.seq (B := G0 w0 F0) ?_ ?_
  · refine Ref.region (fun s ρ w s' h hr => ?_); obtain ⟨F, hW, h0⟩ := h; refine ol_m h0 ?_; refine ol_m h0 ?_; refine ol_v (e_add rfl rfl) rfl ?_; refine ol_a rfl ?_; exact ol_fin hr ⟨F, hW, rfl⟩
  refine Ref.seq (B := G0 w0 F0) ?_ ?_
  · refine Ref.seq (B := G1 w0 F0) ?_ ?_
    · refine Ref.region (fun s ρ w s' h hr => ?_); obtain ⟨F, hW, h0⟩ := h; refine ol_m h0 ?_; refine ol_v (e_geq rfl rfl) rfl ?_; exact ol_fin hr ⟨F, hW, h0, rfl⟩
    refine Ref.condP (b := fun s => s.t_7) (L := G0 w0 F0) (K := G0 w0 F0) ?_ ?_ ?_
    · rintro s ρ w ⟨F, hW, h0, h7⟩; exact ⟨h7, ⟨F, hW, h0⟩, F, hW, h0⟩
    · refine Ref.region (fun s ρ w s' h hr => ?_); obtain ⟨F, hW, h0⟩ := h; refine ol_m h0 ?_; refine ol_v (e_sub rfl rfl) rfl ?_; refine ol_a rfl ?_; exact ol_fin hr ⟨F, hW, rfl⟩
    · exact Ref.skip
  refine Ref.seq (B := G2 w0 F0) ?_ ?_
  · refine Ref.region (fun s ρ w s' h hr => ?_); obtain ⟨F, hW, h0⟩ := h; refine ol_m h0 ?_; refine ol_a rfl ?_; exact ol_fin hr ⟨F, hW, rfl⟩
  exact Ref.ret (fun s ρ w h => ⟨s, rfl, h⟩)
def post (w : World) (F : BSet) (r : R) (v : Value) (w' : World) : Prop := ∃ (F' : BSet), v = .int .i64 r ∧ Wk nrow w F F' w'
theorem calls {w : World} {F : BSet} (hok : ∀ b, F b → b < w.heap.size) (a0 : Int) {r : R} (hf : f a0 = some r) : Calls Tryd.prog 101 #[.int .i64 a0] w fun e w' => ∃ v, e = .returned v ∧ post w F r v w' := by
  obtain ⟨c, hc, href⟩ := ref w F; refine calls_of_ref (args := [.int .i64 a0]) _ Tryd.func101 hc rfl rfl href ?_ (retOf_some hf) ?_
  · exact ⟨F, Wk.refl hok, rfl⟩
  · rintro ρ w' a ⟨s, rfl, F', hW, h2⟩ hF; refine ⟨_, run_results (rs := [.tmp 2]) rfl hF (vs := [ρ 2]) (⟨_, rfl, rfl⟩), ?_⟩; have hv : resVal [ρ 2] = .int .i64 s.t_2 := by rw [h2]; rfl
    exact ⟨F', hv, hW⟩
end
end ref3_double

namespace ref3_times
section
abbrev c0 (ρ : Env) (s : S) (X : Prop) : Prop := ρ 0 = .int .i64 s.n_0 ∧ ρ 1 = .int .i64 s.k_1 ∧ X
def G0 : GT S := fun w0 F0 s ρ w => ∃ F, Wk nrow w0 F0 F w ∧ ρ 0 = .int .i64 s.n_0 ∧ ρ 1 = .int .i64 s.k_1
def G1 : GT S := fun w0 F0 s ρ w => ∃ F, Wk nrow w0 F0 F w ∧ c0 ρ s (ρ 5 = .int .i64 s.out_5)
def G2 : GT S := fun w0 F0 s ρ w => ∃ F, Wk nrow w0 F0 F w ∧ c0 ρ s (ρ 5 = .int .i64 s.out_5 ∧ ρ 7 = .bool s.t_7)
def G3 : GT S := fun w0 F0 s ρ w => ∃ F, Wk nrow w0 F0 F w ∧ ρ 5 = .int .i64 s.out_5
def G4 : GT S := fun w0 F0 s ρ w => ∃ F, Wk nrow w0 F0 F w ∧ c0 ρ s (ρ 5 = .int .i64 s.out_5 ∧ ρ 10 = .bool s.t_10)
def G5 : GT S := fun w0 F0 s ρ w => ∃ F, Wk nrow w0 F0 F w ∧ ρ 4 = .int .i64 s.t_4
set_option maxHeartbeats 4000000 in
set_option maxRecDepth 20000 in
theorem ref (w0 : World) (F0 : BSet) : ∃ c, Tryd.f83.body = some c ∧ Ref Tryd.prog 20 c (G0 w0 F0) body (fun _ _ _ => False) (fun _ _ _ _ => False) (fun r ρ w => ∃ s, retv s = r ∧ G5 w0 F0 s ρ w) := by
  refine ⟨_, rfl, ?_⟩; unfold body; refine Ref.seq (B := G0 w0 F0) ?_ ?_
  · refine Ref.region (fun s ρ w s' h hr => ?_); obtain ⟨F, hW, h0, h1⟩ := h; refine ol_a rfl ?_; exact ol_fin hr ⟨F, hW, h0, h1⟩
  refine Ref.seq (B := G1 w0 F0) ?_ ?_
  · refine Ref.region (fun s ρ w s' h hr => ?_); obtain ⟨F, hW, h0, h1⟩ := h; refine ol_a rfl ?_; exact ol_fin hr ⟨F, hW, h0, h1, rfl⟩
  refine Ref.seq (B := G3 w0 F0) ?_ ?_
  · refine Ref.block ?_; refine Ref.loop ?_; refine Ref.seq (B := G1 w0 F0) ?_ ?_
    · refine Ref.seq (B := G2 w0 F0) ?_ ?_
      · refine Ref.region (fun s ρ w s' h hr => ?_); obtain ⟨F, hW, h0, h1, h5⟩ := h; refine ol_m h1 ?_; refine ol_v (e_gtr rfl rfl) rfl ?_; exact ol_fin hr ⟨F, hW, h0, h1, h5, rfl⟩
      refine Ref.condP (b := fun s => s.t_7) (L := G1 w0 F0) (K := G3 w0 F0) ?_ ?_ ?_
      · rintro s ρ w ⟨F, hW, h0, h1, h5, h7⟩; exact ⟨h7, ⟨F, hW, h0, h1, h5⟩, F, hW, h5⟩
      · exact Ref.skip
      · exact Ref.exit (fun s ρ w h => h)
    refine Ref.block ?_; refine Ref.seq (B := G1 w0 F0) ?_ ?_
    · refine Ref.seq (B := G4 w0 F0) ?_ ?_
      · refine Ref.region (fun s ρ w s' h hr => ?_); obtain ⟨F, hW, h0, h1, h5⟩ := h; refine ol_m h1 ?_; refine ol_v (e_rem rfl rfl (by decide)) rfl ?_; refine ol_v (e_eql rfl rfl) rfl ?_; exact ol_fin hr ⟨F, hW, h0, h1, h5, rfl⟩
      refine Ref.condP (b := fun s => s.t_10) (L := G1 w0 F0) (K := G1 w0 F0) ?_ ?_ ?_
      · rintro s ρ w ⟨F, hW, h0, h1, h5, h10⟩; exact ⟨h10, ⟨F, hW, h0, h1, h5⟩, F, hW, h0, h1, h5⟩
      · refine Ref.region (fun s ρ w s' h hr => ?_); obtain ⟨F, hW, h0, h1, h5⟩ := h; refine ol_m h5 ?_; refine ol_m h0 ?_; refine ol_v (e_add rfl rfl) rfl ?_; refine ol_v (e_rem rfl rfl (by decide)) rfl ?_; refine ol_a rfl ?_; exact ol_fin hr ⟨F, hW, h0, h1, rfl⟩
      · exact Ref.skip
    refine Ref.seq (B := G1 w0 F0) ?_ ?_
    · refine Ref.region (fun s ρ w s' h hr => ?_); obtain ⟨F, hW, h0, h1, h5⟩ := h; refine ol_m h0 ?_; obtain ⟨x1, hx1, hr⟩ := bind_some' hr; refine ol_e (f_call [.int .i64 s.n_0] fn_101 (lcons rfl rfl) (ref3_double.calls hW.ok s.n_0 hx1)) rfl rfl ?_; rintro _ w2 ⟨Fz3, rfl, kw1⟩; have hW5 := hW.trans kw1; have st1 := kw1.stp hW.ok; refine ol_a rfl ?_; exact ol_fin hr ⟨Fz3, hW5, rfl, h1, h5⟩
    refine Ref.region (fun s ρ w s' h hr => ?_); obtain ⟨F, hW, h0, h1, h5⟩ := h; refine ol_m h1 ?_; refine ol_v (e_quo rfl rfl (by decide)) rfl ?_; refine ol_a rfl ?_; exact ol_fin hr ⟨F, hW, h0, rfl, h5⟩
  refine Ref.seq (B := G5 w0 F0) ?_ ?_
  · refine Ref.region (fun s ρ w s' h hr => ?_); obtain ⟨F, hW, h5⟩ := h; refine ol_m h5 ?_; refine ol_a rfl ?_; exact ol_fin hr ⟨F, hW, rfl⟩
  exact Ref.ret (fun s ρ w h => ⟨s, rfl, h⟩)
def post (w : World) (F : BSet) (r : R) (v : Value) (w' : World) : Prop := ∃ (F' : BSet), v = .int .i64 r ∧ Wk nrow w F F' w'
theorem calls {w : World} {F : BSet} (hok : ∀ b, F b → b < w.heap.size) (a0 : Int) (a1 : Int) {r : R} (hf : f a0 a1 = some r) : Calls Tryd.prog 83 #[.int .i64 a0, .int .i64 a1] w fun e w' => ∃ v, e = .returned v ∧ post w F r v w' := by
  obtain ⟨c, hc, href⟩ := ref w F; refine calls_of_ref (args := [.int .i64 a0, .int .i64 a1]) _ Tryd.func83 hc rfl rfl href ?_ (retOf_some hf) ?_
  · exact ⟨F, Wk.refl hok, rfl, rfl⟩
  · rintro ρ w' a ⟨s, rfl, F', hW, h4⟩ hF; refine ⟨_, run_results (rs := [.tmp 4]) rfl hF (vs := [ρ 4]) (⟨_, rfl, rfl⟩), ?_⟩; have hv : resVal [ρ 4] = .int .i64 s.t_4 := by rw [h4]; rfl
    exact ⟨F', hv, hW⟩
end
end ref3_times

namespace ref3_DigestOf
section
def G0 : GT S := fun w0 F0 s ρ w => ∃ F, Wk nrow w0 F0 F w ∧ SlR kByte F w (ρ 0) s.b_0
def G1 : GT S := fun w0 F0 s ρ w => ∃ F, Wk nrow w0 F0 F w ∧ SlR kByte F w (ρ 0) s.b_0 ∧ ρ 3 = .int .i64 s.h_3
def G2 : GT S := fun w0 F0 s ρ w => ∃ F, Wk nrow w0 F0 F w ∧ SlR kByte F w (ρ 0) s.b_0 ∧ ρ 3 = .int .i64 s.h_3 ∧ ρ 4 = .int .i64 s.i_4
def G3 : GT S := fun w0 F0 s ρ w => ∃ F, Wk nrow w0 F0 F w ∧ SlR kByte F w (ρ 0) s.b_0 ∧ ρ 3 = .int .i64 s.h_3 ∧ ρ 4 = .int .i64 s.i_4 ∧ ρ 8 = .bool s.t_8
def G4 : GT S := fun w0 F0 s ρ w => ∃ F, Wk nrow w0 F0 F w ∧ ρ 3 = .int .i64 s.h_3
def G5 : GT S := fun w0 F0 s ρ w => ∃ F, Wk nrow w0 F0 F w ∧ ρ 2 = .int .i64 s.t_2
set_option maxHeartbeats 4000000 in
set_option maxRecDepth 20000 in
theorem ref (w0 : World) (F0 : BSet) : ∃ c, Tryd.f56.body = some c ∧ Ref Tryd.prog 22 c (G0 w0 F0) body (fun _ _ _ => False) (fun _ _ _ _ => False) (fun r ρ w => ∃ s, retv s = r ∧ G5 w0 F0 s ρ w) := by
  refine ⟨_, rfl, ?_⟩; unfold body; refine Ref.seq (B := G0 w0 F0) ?_ ?_
  · refine Ref.region (fun s ρ w s' h hr => ?_); obtain ⟨F, hW, h0⟩ := h; refine ol_a rfl ?_; exact ol_fin hr ⟨F, hW, h0⟩
  refine Ref.seq (B := G1 w0 F0) ?_ ?_
  · refine Ref.region (fun s ρ w s' h hr => ?_); obtain ⟨F, hW, h0⟩ := h; refine ol_a rfl ?_; exact ol_fin hr ⟨F, hW, h0, rfl⟩
  refine Ref.seq (B := G4 w0 F0) ?_ ?_
  · refine Ref.seq (B := G2 w0 F0) ?_ ?_
    · refine Ref.region (fun s ρ w s' h hr => ?_); obtain ⟨F, hW, h0, h3⟩ := h; refine ol_a rfl ?_; exact ol_fin hr ⟨F, hW, h0, h3, rfl⟩
    refine Ref.block ?_; refine Ref.loop ?_; refine Ref.seq (B := G2 w0 F0) ?_ ?_
    · refine Ref.seq (B := G3 w0 F0) ?_ ?_
      · refine Ref.region (fun s ρ w s' h hr => ?_); obtain ⟨F, hW, h0, h3, h4⟩ := h; refine ol_m h4 ?_; refine ol_m rfl ?_; obtain ⟨A1, c2, e3, hc4, R5⟩ := id h0; refine ol_v (e_len (SlT.sl sl_46) e3) rfl ?_; refine ol_v (e_lss rfl rfl) rfl ?_; exact ol_fin hr ⟨F, hW, h0, h3, h4, rfl⟩
      refine Ref.condP (b := fun s => s.t_8) (L := G2 w0 F0) (K := G4 w0 F0) ?_ ?_ ?_
      · rintro s ρ w ⟨F, hW, h0, h3, h4, h8⟩; exact ⟨h8, ⟨F, hW, h0, h3, h4⟩, F, hW, h3⟩
      · exact Ref.skip
      · exact Ref.exit (fun s ρ w h => h)
    refine Ref.seq (B := G2 w0 F0) ?_ ?_
    · refine Ref.block ?_; refine Ref.regionH (by kernel_rfl) (fun s ρ w ⟨F, hW, h0, h3, h4⟩ => ⟨F, hW.drewS, h0.keep (sd hW), h3, h4⟩) (fun s ρ w s' h hr => ?_); obtain ⟨F, hW, h0, h3, h4⟩ := h; refine ⟨fun w' => Stp F w F w', ?_⟩; refine oh_v 0 rfl (by kernel_rfl) (by kernel_rfl) (by kernel_rfl) (Stp.refl _ _) (fun wv_ SV => e_mv _ h3) rfl ?_; refine oh_v 2 rfl (by kernel_rfl) (by kernel_rfl) (by kernel_rfl) (Stp.refl _ _) (fun wv_ SV => e_mv _ rfl) rfl ?_; refine oh_v 3 rfl (by kernel_rfl) (by kernel_rfl) (by kernel_rfl) (Stp.refl _ _) (fun wv_ SV => e_mv _ h4) rfl ?_; obtain ⟨x6, hx6, hr⟩ := bind_some' hr; obtain ⟨A7, c8, e9, hc10, R11⟩ := id h0; obtain ⟨b12, o13, hA14, L15⟩ := Row.at_ R11 hx6; refine oh_v 4 rfl (by kernel_rfl) (by kernel_rfl) (by kernel_rfl) (Stp.refl _ _) (fun wv_ SV => e_ix (SlT.sl sl_46) (SlT.sz sl_46) hA14 hx6 e9 rfl) rfl ?_; refine oh_v 5 rfl (by kernel_rfl) (by kernel_rfl) (by kernel_rfl) (Stp.refl _ _) (fun wv_ SV => e_ld ty_5 (LiesV.byte (L15.keep SV).at_) rfl) rfl ?_; refine oh_v 6 rfl (by kernel_rfl) (by kernel_rfl) (by kernel_rfl) (Stp.refl _ _) (fun wv_ SV => e_conv (k := .i64) (by kernel_rfl) (by kernel_rfl) rfl) rfl ?_; refine oh_all [1] (by kernel_rfl) rfl ⟨?_, trivial⟩
      · obtain ⟨x16, hx16, hr⟩ := bind_some' hr; refine oh1_e rfl (f_call [.int .i64 s.h_3, .int .i64 (257 : Int)] fn_83 (lcons rfl (lcons rfl rfl)) (ref3_times.calls hW.ok s.h_3 (257 : Int) hx16)) rfl ?_; rintro _ w17 ⟨Fz18, rfl, kw1⟩; have hW20 := hW.trans kw1; have st1 := kw1.stp hW.ok; refine ⟨(Stp.back st1), ?_⟩; refine oh_v 7 rfl (by kernel_rfl) (by kernel_rfl) (by kernel_rfl) (Stp.back st1) (fun wv_ SV => e_add rfl rfl) rfl ?_; refine oh_v 8 rfl (by kernel_rfl) (by kernel_rfl) (by kernel_rfl) (Stp.back st1) (fun wv_ SV => e_add rfl rfl) rfl ?_; refine oh_v 9 rfl (by kernel_rfl) (by kernel_rfl) (by kernel_rfl) (Stp.back st1) (fun wv_ SV => e_rem rfl rfl (by decide)) rfl ?_; refine oh_v 10 rfl (by kernel_rfl) (by kernel_rfl) (by kernel_rfl) (Stp.back st1) (fun wv_ SV => e_as _ rfl) rfl ?_; obtain rfl := Option.some.inj hr; exact oh_done (by kernel_rfl) ⟨Fz18, hW20, (h0.keep st1), rfl, h4⟩
    refine Ref.region (fun s ρ w s' h hr => ?_); obtain ⟨F, hW, h0, h3, h4⟩ := h; refine ol_m h4 ?_; refine ol_v (e_add rfl rfl) rfl ?_; refine ol_a rfl ?_; exact ol_fin hr ⟨F, hW, h0, h3, rfl⟩
  refine Ref.seq (B := G5 w0 F0) ?_ ?_
  · refine Ref.region (fun s ρ w s' h hr => ?_); obtain ⟨F, hW, h3⟩ := h; refine ol_m h3 ?_; refine ol_a rfl ?_; exact ol_fin hr ⟨F, hW, rfl⟩
  exact Ref.ret (fun s ρ w h => ⟨s, rfl, h⟩)
def post (w : World) (F : BSet) (r : R) (v : Value) (w' : World) : Prop := ∃ (F' : BSet), v = .int .i64 r ∧ Wk nrow w F F' w'
theorem calls {w : World} {F : BSet} (hok : ∀ b, F b → b < w.heap.size) {v0 : Value} {a0 : (List UInt8)} (h0 : SlR kByte F w v0 a0) {r : R} (hf : f a0 = some r) : Calls Tryd.prog 56 #[v0] w fun e w' => ∃ v, e = .returned v ∧ post w F r v w' := by
  obtain ⟨c, hc, href⟩ := ref w F; refine calls_of_ref (args := [v0]) _ Tryd.func56 hc rfl rfl href ?_ (retOf_some hf) ?_
  · exact ⟨F, Wk.refl hok, h0⟩
  · rintro ρ w' a ⟨s, rfl, F', hW, h2⟩ hF; refine ⟨_, run_results (rs := [.tmp 2]) rfl hF (vs := [ρ 2]) (⟨_, rfl, rfl⟩), ?_⟩; have hv : resVal [ρ 2] = .int .i64 s.t_2 := by rw [h2]; rfl
    exact ⟨F', hv, hW⟩
end
end ref3_DigestOf

end Go.Proofs.YtenkbkcddcnmeaaDoor
