/- The machine's calls come to these plain functions (written by a program, wip/fx/gen.py). -/
import Derived.Test.YtenkbkcddcnmeaaPA
import Derived.Test.YtenkbkcddcnmeaaNm
import Derived.Test.YtenkbkcddcnmeaaSl
import Derived.Test.YtenkbkcddcnmeaaIn
namespace Go.Proofs.Ytenkbkcddcnmeaa
open Go.Fx Go.RowKit
set_option linter.unusedVariables false

namespace objects_check
section
abbrev c1 (ρ : Env) (g1 : Nat) (w0 w : World) (F : BSet) (s : S) (X : Prop) : Prop := ρ 1 = .pointer (some ⟨g1, 0, none⟩) ∧ Box k_Object 37 (Bs w0 nrow) F w g1 s.o_1 ∧ X
abbrev c2 (ρ : Env) (g2 : Nat) (w0 w : World) (F : BSet) (s : S) (X : Prop) : Prop := ρ 2 = .pointer (some ⟨g2, 0, none⟩) ∧ Box k_Fault 28 (Bs w0 nrow) F w g2 s.t_2 ∧ X
abbrev e7 (F : BSet) (w : World) (ρ : Env) (s : S) : Prop := SlR (kInt .i64) F w (ρ 39) s.t_39 ∧ ρ 40 = .int .i64 s.t_40 ∧ ρ 41 = .int .i64 s.t_41
def G0 : GT S := fun w0 F0 s ρ w => ∃ F, Wk nrow w0 F0 F w ∧ Val k_Object F w (ρ 0) s.o_0
def G1 : GT S := fun w0 F0 s ρ w => ∃ F, Wk nrow w0 F0 F w ∧ ∃ g1 g2, c1 ρ g1 w0 w F s (ρ 2 = .pointer (some ⟨g2, 0, none⟩) ∧ Box k_Fault 28 (Bs w0 nrow) F w g2 s.t_2)
def G2 : GT S := fun w0 F0 s ρ w => ∃ F, Wk nrow w0 F0 F w ∧ ∃ g1 g2, c1 ρ g1 w0 w F s (c2 ρ g2 w0 w F s (ρ 5 = .bool s.t_5))
def G3 : GT S := fun w0 F0 s ρ w => ∃ F, Wk nrow w0 F0 F w ∧ ∃ g2, ρ 2 = .pointer (some ⟨g2, 0, none⟩) ∧ Box k_Fault 28 (Bs w0 nrow) F w g2 s.t_2
def G4 : GT S := fun w0 F0 s ρ w => ∃ F, Wk nrow w0 F0 F w ∧ ∃ g1 g2, c1 ρ g1 w0 w F s (c2 ρ g2 w0 w F s (ρ 15 = .bool s.t_15))
def G5 : GT S := fun w0 F0 s ρ w => ∃ F, Wk nrow w0 F0 F w ∧ ∃ g1 g2, c1 ρ g1 w0 w F s (c2 ρ g2 w0 w F s (ρ 21 = .bool s.t_21))
def G6 : GT S := fun w0 F0 s ρ w => ∃ F, Wk nrow w0 F0 F w ∧ ∃ g1 g2, c1 ρ g1 w0 w F s (c2 ρ g2 w0 w F s (ρ 27 = .bool s.t_27))
def G7 : GT S := fun w0 F0 s ρ w => ∃ F, Wk nrow w0 F0 F w ∧ ∃ g2, c2 ρ g2 w0 w F s (e7 F w ρ s)
def G8 : GT S := fun w0 F0 s ρ w => ∃ F, Wk nrow w0 F0 F w ∧ ∃ g2, c2 ρ g2 w0 w F s (SlR (kInt .i64) F w (ρ 39) s.t_39 ∧ ρ 40 = .int .i64 s.t_40 ∧ ρ 41 = .int .i64 s.t_41 ∧ ρ 42 = .bool s.t_42)
def G9 : GT S := fun w0 F0 s ρ w => ∃ F, Wk nrow w0 F0 F w ∧ ∃ g2, c2 ρ g2 w0 w F s (ρ 3 = .int .i64 s.i_3 ∧ ρ 4 = .int .i64 s.d_4 ∧ e7 F w ρ s)
def G10 : GT S := fun w0 F0 s ρ w => ∃ F, Wk nrow w0 F0 F w ∧ ∃ g2, c2 ρ g2 w0 w F s (ρ 3 = .int .i64 s.i_3 ∧ SlR (kInt .i64) F w (ρ 39) s.t_39 ∧ ρ 40 = .int .i64 s.t_40 ∧ ρ 41 = .int .i64 s.t_41 ∧ ρ 51 = .bool s.t_51)
def G11 : GT S := fun w0 F0 s ρ w => ∃ F, Wk nrow w0 F0 F w ∧ ∃ g2, c2 ρ g2 w0 w F s (ρ 3 = .int .i64 s.i_3)
set_option maxHeartbeats 4000000 in
set_option maxRecDepth 20000 in
theorem ref (w0 : World) (F0 : BSet) : ∃ c, Try.f57.body = some c ∧ Ref Try.prog 56 c (G0 w0 F0) body (fun _ _ _ => False) (fun _ _ _ _ => False) (fun r ρ w => ∃ s, retv s = r ∧ G3 w0 F0 s ρ w) := by
  refine ⟨_, rfl, ?_⟩; unfold body; refine Ref.seq (B := G1 w0 F0) ?_ ?_
  · refine Ref.region (fun s ρ w s' h hr => ?_); obtain ⟨F, hW, h0⟩ := h; refine ol_e (f_box hW rfl h0) rfl rfl ?_; rintro _ w2 ⟨g1, rfl, kw1, ho3⟩; have hW4 := hW.trans kw1; have st1 := kw1.stp hW.ok; refine ol_e (f_alloc zer_28 hW4) rfl rfl ?_; rintro _ w6 ⟨g5, rfl, kw2, ho7⟩; have hW8 := hW4.trans kw2; have st2 := kw2.stp hW4.ok; exact ol_fin hr ⟨F, hW8, g1, g5, rfl, ((ho3.base (row := nrow) hW.le).wk kw2 hW4.ok), rfl, (ho7.base (row := nrow) hW4.le)⟩
  refine Ref.seq (B := G1 w0 F0) ?_ ?_
  · refine Ref.block ?_; refine Ref.seq (B := G2 w0 F0) ?_ ?_
    · refine Ref.region (fun s ρ w s' h hr => ?_); obtain ⟨F, hW, g1, g2, p1, h1, p2, h2⟩ := h; refine ol_v (e_fa fa_37_0 p1) rfl ?_; refine ol_v (e_ld ty_3 (LiesV.int ((h1).at_.fld fl_Object_0)) rfl) rfl ?_; refine ol_v (e_lss rfl rfl) rfl ?_; refine ol_cutA 5 9 13 (fun ρ' w' => w = w' ∧ ρ' 13 = .bool ((decide (s.o_1.Kind < (1 : Int))) || (decide ((3 : Int) < s.o_1.Kind)))) rfl ?_ ?_
      · by_cases hb9 : (decide (s.o_1.Kind < (1 : Int))) = true
        · refine ol_m rfl ?_; refine ol_not rfl rfl rfl (congrArg Value.bool hb9) rfl ?_; refine ol_not rfl rfl rfl (congrArg Value.bool hb9) rfl ?_; refine ol_not rfl rfl rfl (congrArg Value.bool hb9) rfl ?_; refine ol_v (e_pick true _ (congrArg Value.bool hb9) rfl) rfl ?_; exact ol_nil ⟨⟨rfl, (bv_or_t hb9)⟩, (Agr.refl _ _ _).u.u.u.u.u⟩
        · have hb10 := Bool.eq_false_iff.mpr hb9; refine ol_m rfl ?_; refine ol_yes rfl rfl (congrArg Value.bool hb10) ?_; refine ol_v (e_fa fa_37_0 p1) rfl ?_; refine ol_yes rfl rfl (congrArg Value.bool hb10) ?_; refine ol_v (e_ld ty_3 (LiesV.int ((h1).at_.fld fl_Object_0)) rfl) rfl ?_; refine ol_yes rfl rfl (congrArg Value.bool hb10) ?_; refine ol_v (e_gtr rfl rfl) rfl ?_; refine ol_v (e_pick false _ (congrArg Value.bool hb10) rfl) rfl ?_; exact ol_nil ⟨⟨rfl, (bv_or_f hb10)⟩, (Agr.refl _ _ _).u.u.u.u.u⟩
      rintro ρ11 _ ⟨⟨rfl, hp11⟩, hAg11⟩; refine ol_a hp11 ?_; exact ol_fin hr ⟨F, hW, g1, g2, ((hAg11 1 rfl).trans p1), h1, ((hAg11 2 rfl).trans p2), h2, rfl⟩
    refine Ref.condP (b := fun s => s.t_5) (L := G3 w0 F0) (K := G1 w0 F0) ?_ ?_ ?_
    · rintro s ρ w ⟨F, hW, g1, g2, p1, h1, p2, h2, h5⟩; exact ⟨h5, ⟨F, hW, g2, p2, h2⟩, F, hW, g1, g2, p1, h1, p2, h2⟩
    · refine Ref.seq (B := G3 w0 F0) ?_ ?_
      · refine Ref.region (fun s ρ w s' h hr => ?_); obtain ⟨F, hW, g2, p2, h2⟩ := h; refine ol_v (e_bld (cells := #[.int .i64 (4), .int .i64 0]) bld_28 (vs := [(0, .int .i64 (4))]) (lcons (congrArg (Prod.mk 0) rfl) rfl) rfl) rfl ?_; have hb12 : Val k_Fault F w (.agg #[.int .i64 (4), .int .i64 0]) (⟨(4 : Int), (0 : Int)⟩ : Fault) := mk_Fault (val_int _ _) (val_int _ _); refine ol_eN (f_stB hW h2 (FldS.whole _) ty_28 hb12 p2 rfl) rfl ?_; rintro - w13 ⟨hW14, ho15, hg1, st1⟩; exact ol_fin hr ⟨F, hW14, g2, p2, ho15⟩
      exact Ref.ret (fun s ρ w h => ⟨s, rfl, h⟩)
    · refine Ref.seq (B := G4 w0 F0) ?_ ?_
      · refine Ref.region (fun s ρ w s' h hr => ?_); obtain ⟨F, hW, g1, g2, p1, h1, p2, h2⟩ := h; refine ol_v (e_fa fa_37_1 p1) rfl ?_; obtain ⟨v16, hl17, hs18⟩ := LiesV.sl ((h1).at_.fld fl_Object_1); refine ol_v (e_ld ty_26 hl17 rfl) rfl ?_; obtain ⟨A19, c20, e21, hc22, R23⟩ := id hs18; refine ol_v (e_len (SlT.sl sl_26) e21) rfl ?_; refine ol_v (e_gtr rfl rfl) rfl ?_; refine ol_a rfl ?_; exact ol_fin hr ⟨F, hW, g1, g2, p1, h1, p2, h2, rfl⟩
      refine Ref.condP (b := fun s => s.t_15) (L := G3 w0 F0) (K := G1 w0 F0) ?_ ?_ ?_
      · rintro s ρ w ⟨F, hW, g1, g2, p1, h1, p2, h2, h15⟩; exact ⟨h15, ⟨F, hW, g2, p2, h2⟩, F, hW, g1, g2, p1, h1, p2, h2⟩
      · refine Ref.seq (B := G3 w0 F0) ?_ ?_
        · refine Ref.region (fun s ρ w s' h hr => ?_); obtain ⟨F, hW, g2, p2, h2⟩ := h; refine ol_v (e_bld (cells := #[.int .i64 (2), .int .i64 0]) bld_28 (vs := [(0, .int .i64 (2))]) (lcons (congrArg (Prod.mk 0) rfl) rfl) rfl) rfl ?_; have hb24 : Val k_Fault F w (.agg #[.int .i64 (2), .int .i64 0]) (⟨(2 : Int), (0 : Int)⟩ : Fault) := mk_Fault (val_int _ _) (val_int _ _); refine ol_eN (f_stB hW h2 (FldS.whole _) ty_28 hb24 p2 rfl) rfl ?_; rintro - w25 ⟨hW26, ho27, hg1, st1⟩; exact ol_fin hr ⟨F, hW26, g2, p2, ho27⟩
        exact Ref.ret (fun s ρ w h => ⟨s, rfl, h⟩)
      · refine Ref.seq (B := G5 w0 F0) ?_ ?_
        · refine Ref.region (fun s ρ w s' h hr => ?_); obtain ⟨F, hW, g1, g2, p1, h1, p2, h2⟩ := h; refine ol_v (e_fa fa_37_2 p1) rfl ?_; obtain ⟨v28, hl29, hs30⟩ := LiesV.sl ((h1).at_.fld fl_Object_2); refine ol_v (e_ld ty_35 hl29 rfl) rfl ?_; obtain ⟨A31, c32, e33, hc34, R35⟩ := id hs30; refine ol_v (e_len (SlT.sl sl_35) e33) rfl ?_; refine ol_v (e_gtr rfl rfl) rfl ?_; refine ol_a rfl ?_; exact ol_fin hr ⟨F, hW, g1, g2, p1, h1, p2, h2, rfl⟩
        refine Ref.condP (b := fun s => s.t_21) (L := G3 w0 F0) (K := G1 w0 F0) ?_ ?_ ?_
        · rintro s ρ w ⟨F, hW, g1, g2, p1, h1, p2, h2, h21⟩; exact ⟨h21, ⟨F, hW, g2, p2, h2⟩, F, hW, g1, g2, p1, h1, p2, h2⟩
        · refine Ref.seq (B := G3 w0 F0) ?_ ?_
          · refine Ref.region (fun s ρ w s' h hr => ?_); obtain ⟨F, hW, g2, p2, h2⟩ := h; refine ol_v (e_bld (cells := #[.int .i64 (10), .int .i64 0]) bld_28 (vs := [(0, .int .i64 (10))]) (lcons (congrArg (Prod.mk 0) rfl) rfl) rfl) rfl ?_; have hb36 : Val k_Fault F w (.agg #[.int .i64 (10), .int .i64 0]) (⟨(10 : Int), (0 : Int)⟩ : Fault) := mk_Fault (val_int _ _) (val_int _ _); refine ol_eN (f_stB hW h2 (FldS.whole _) ty_28 hb36 p2 rfl) rfl ?_; rintro - w37 ⟨hW38, ho39, hg1, st1⟩; exact ol_fin hr ⟨F, hW38, g2, p2, ho39⟩
          exact Ref.ret (fun s ρ w h => ⟨s, rfl, h⟩)
        · refine Ref.seq (B := G6 w0 F0) ?_ ?_
          · refine Ref.region (fun s ρ w s' h hr => ?_); obtain ⟨F, hW, g1, g2, p1, h1, p2, h2⟩ := h; refine ol_v (e_fa fa_37_0 p1) rfl ?_; refine ol_v (e_ld ty_3 (LiesV.int ((h1).at_.fld fl_Object_0)) rfl) rfl ?_; refine ol_v (e_eql rfl rfl) rfl ?_; refine ol_cutA 6 31 36 (fun ρ' w' => w = w' ∧ ρ' 36 = .bool ((decide (s.o_1.Kind = (1 : Int))) && (decide ((0 : Int) < (s.o_1.Links.length : Int))))) rfl ?_ ?_
            · by_cases hb40 : (decide (s.o_1.Kind = (1 : Int))) = true
              · refine ol_m rfl ?_; refine ol_yes rfl rfl (congrArg Value.bool hb40) ?_; refine ol_v (e_fa fa_37_1 p1) rfl ?_; refine ol_yes rfl rfl (congrArg Value.bool hb40) ?_; obtain ⟨v42, hl43, hs44⟩ := LiesV.sl ((h1).at_.fld fl_Object_1); refine ol_v (e_ld ty_26 hl43 rfl) rfl ?_; refine ol_yes rfl rfl (congrArg Value.bool hb40) ?_; obtain ⟨A45, c46, e47, hc48, R49⟩ := id hs44; refine ol_v (e_len (SlT.sl sl_26) e47) rfl ?_; refine ol_yes rfl rfl (congrArg Value.bool hb40) ?_; refine ol_v (e_gtr rfl rfl) rfl ?_; refine ol_v (e_pick true _ (congrArg Value.bool hb40) rfl) rfl ?_; exact ol_nil ⟨⟨rfl, (bv_and_t hb40)⟩, (Agr.refl _ _ _).u.u.u.u.u.u⟩
              · have hb41 := Bool.eq_false_iff.mpr hb40; refine ol_m rfl ?_; refine ol_not rfl rfl rfl (congrArg Value.bool hb41) rfl ?_; refine ol_not rfl rfl rfl (congrArg Value.bool hb41) rfl ?_; refine ol_not rfl rfl rfl (congrArg Value.bool hb41) rfl ?_; refine ol_not rfl rfl rfl (congrArg Value.bool hb41) rfl ?_; refine ol_v (e_pick false _ (congrArg Value.bool hb41) rfl) rfl ?_; exact ol_nil ⟨⟨rfl, (bv_and_f hb41)⟩, (Agr.refl _ _ _).u.u.u.u.u.u⟩
            rintro ρ50 _ ⟨⟨rfl, hp50⟩, hAg50⟩; refine ol_a hp50 ?_; exact ol_fin hr ⟨F, hW, g1, g2, ((hAg50 1 rfl).trans p1), h1, ((hAg50 2 rfl).trans p2), h2, rfl⟩
          refine Ref.condP (b := fun s => s.t_27) (L := G3 w0 F0) (K := G1 w0 F0) ?_ ?_ ?_
          · rintro s ρ w ⟨F, hW, g1, g2, p1, h1, p2, h2, h27⟩; exact ⟨h27, ⟨F, hW, g2, p2, h2⟩, F, hW, g1, g2, p1, h1, p2, h2⟩
          · refine Ref.seq (B := G3 w0 F0) ?_ ?_
            · refine Ref.region (fun s ρ w s' h hr => ?_); obtain ⟨F, hW, g2, p2, h2⟩ := h; refine ol_v (e_bld (cells := #[.int .i64 (5), .int .i64 0]) bld_28 (vs := [(0, .int .i64 (5))]) (lcons (congrArg (Prod.mk 0) rfl) rfl) rfl) rfl ?_; have hb51 : Val k_Fault F w (.agg #[.int .i64 (5), .int .i64 0]) (⟨(5 : Int), (0 : Int)⟩ : Fault) := mk_Fault (val_int _ _) (val_int _ _); refine ol_eN (f_stB hW h2 (FldS.whole _) ty_28 hb51 p2 rfl) rfl ?_; rintro - w52 ⟨hW53, ho54, hg1, st1⟩; exact ol_fin hr ⟨F, hW53, g2, p2, ho54⟩
            exact Ref.ret (fun s ρ w h => ⟨s, rfl, h⟩)
          · exact Ref.skip
  refine Ref.seq (B := G3 w0 F0) ?_ ?_
  · refine Ref.seq (B := G7 w0 F0) ?_ ?_
    · refine Ref.region (fun s ρ w s' h hr => ?_); obtain ⟨F, hW, g1, g2, p1, h1, p2, h2⟩ := h; refine ol_v (e_fa fa_37_1 p1) rfl ?_; obtain ⟨v55, hl56, hs57⟩ := LiesV.sl ((h1).at_.fld fl_Object_1); refine ol_v (e_ld ty_26 hl56 rfl) rfl ?_; obtain ⟨A58, c59, e60, hc61, R62⟩ := id hs57; refine ol_v (e_len (SlT.sl sl_26) e60) rfl ?_; refine ol_m rfl ?_; exact ol_fin hr ⟨F, hW, g2, p2, h2, hs57, rfl, rfl⟩
    refine Ref.block ?_; refine Ref.loop ?_; refine Ref.seq (B := G8 w0 F0) ?_ ?_
    · refine Ref.region (fun s ρ w s' h hr => ?_); obtain ⟨F, hW, g2, p2, h2, h39, h40, h41⟩ := h; refine ol_v (e_lss h41 h40) rfl ?_; exact ol_fin hr ⟨F, hW, g2, p2, h2, h39, h40, h41, rfl⟩
    refine Ref.seq (B := G7 w0 F0) ?_ ?_
    · refine Ref.condP (b := fun s => s.t_42) (L := G7 w0 F0) (K := G3 w0 F0) ?_ ?_ ?_
      · rintro s ρ w ⟨F, hW, g2, p2, h2, h39, h40, h41, h42⟩; exact ⟨h42, ⟨F, hW, g2, p2, h2, h39, h40, h41⟩, F, hW, g2, p2, h2⟩
      · exact Ref.skip
      · exact Ref.exit (fun s ρ w h => h)
    refine Ref.seq (B := G7 w0 F0) ?_ ?_
    · refine Ref.block ?_; refine Ref.seq (B := G9 w0 F0) ?_ ?_
      · refine Ref.region (fun s ρ w s' h hr => ?_); obtain ⟨F, hW, g2, p2, h2, h39, h40, h41⟩ := h; refine ol_m h41 ?_; obtain ⟨x63, hx63, hr⟩ := bind_some' hr; obtain ⟨A64, c65, e66, hc67, R68⟩ := id h39; obtain ⟨b69, o70, hA71, L72⟩ := Row.at_ R68 hx63; refine ol_v (e_ix (SlT.sl sl_26) (SlT.sz sl_26) hA71 hx63 e66 h41) rfl ?_; refine ol_v (e_ld ty_3 (LiesV.int L72.at_) rfl) rfl ?_; refine ol_a rfl ?_; refine ol_a rfl ?_; exact ol_fin hr ⟨F, hW, g2, p2, h2, rfl, rfl, h39, h40, h41⟩
      refine Ref.seq (B := G10 w0 F0) ?_ ?_
      · refine Ref.region (fun s ρ w s' h hr => ?_); obtain ⟨F, hW, g2, p2, h2, h3, h4, h39, h40, h41⟩ := h; refine ol_m h4 ?_; refine ol_v (e_lss rfl rfl) rfl ?_; refine ol_cutA 4 48 51 (fun ρ' w' => w = w' ∧ ρ' 51 = .bool ((decide (s.d_4 < (0 : Int))) || (decide ((2305843009213693951 : Int) ≤ s.d_4)))) rfl ?_ ?_
        · by_cases hb73 : (decide (s.d_4 < (0 : Int))) = true
          · refine ol_m rfl ?_; refine ol_not rfl rfl rfl (congrArg Value.bool hb73) rfl ?_; refine ol_not rfl rfl rfl (congrArg Value.bool hb73) rfl ?_; refine ol_v (e_pick true _ (congrArg Value.bool hb73) rfl) rfl ?_; exact ol_nil ⟨⟨rfl, (bv_or_t hb73)⟩, (Agr.refl _ _ _).u.u.u.u⟩
          · have hb74 := Bool.eq_false_iff.mpr hb73; refine ol_m rfl ?_; refine ol_yes rfl rfl (congrArg Value.bool hb74) ?_; refine ol_m h4 ?_; refine ol_yes rfl rfl (congrArg Value.bool hb74) ?_; refine ol_v (e_geq rfl rfl) rfl ?_; refine ol_v (e_pick false _ (congrArg Value.bool hb74) rfl) rfl ?_; exact ol_nil ⟨⟨rfl, (bv_or_f hb74)⟩, (Agr.refl _ _ _).u.u.u.u⟩
        rintro ρ75 _ ⟨⟨rfl, hp75⟩, hAg75⟩; exact ol_fin hr ⟨F, hW, g2, ((hAg75 2 rfl).trans p2), h2, ((hAg75 3 rfl).trans h3), (SlR.eqv (hAg75 39 rfl) h39), ((hAg75 40 rfl).trans h40), ((hAg75 41 rfl).trans h41), hp75⟩
      refine Ref.condP (b := fun s => s.t_51) (L := G11 w0 F0) (K := G7 w0 F0) ?_ ?_ ?_
      · rintro s ρ w ⟨F, hW, g2, p2, h2, h3, h39, h40, h41, h51⟩; exact ⟨h51, ⟨F, hW, g2, p2, h2, h3⟩, F, hW, g2, p2, h2, h39, h40, h41⟩
      · refine Ref.seq (B := G3 w0 F0) ?_ ?_
        · refine Ref.region (fun s ρ w s' h hr => ?_); obtain ⟨F, hW, g2, p2, h2, h3⟩ := h; refine ol_m h3 ?_; refine ol_v (e_bld (cells := #[.int .i64 (3), .int .i64 s.i_3]) bld_28 (vs := [(0, .int .i64 (3)), (1, .int .i64 s.i_3)]) (lcons (congrArg (Prod.mk 0) rfl) (lcons (congrArg (Prod.mk 1) rfl) rfl)) rfl) rfl ?_; have hb76 : Val k_Fault F w (.agg #[.int .i64 (3), .int .i64 s.i_3]) (⟨(3 : Int), s.i_3⟩ : Fault) := mk_Fault (val_int _ _) (val_int _ _); refine ol_eN (f_stB hW h2 (FldS.whole _) ty_28 hb76 p2 rfl) rfl ?_; rintro - w77 ⟨hW78, ho79, hg1, st1⟩; exact ol_fin hr ⟨F, hW78, g2, p2, ho79⟩
        exact Ref.ret (fun s ρ w h => ⟨s, rfl, h⟩)
      · exact Ref.skip
    refine Ref.region (fun s ρ w s' h hr => ?_); obtain ⟨F, hW, g2, p2, h2, h39, h40, h41⟩ := h; refine ol_v (e_add h41 rfl) rfl ?_; refine ol_m rfl ?_; exact ol_fin hr ⟨F, hW, g2, p2, h2, h39, h40, rfl⟩
  refine Ref.seq (B := G3 w0 F0) ?_ ?_
  · refine Ref.region (fun s ρ w s' h hr => ?_); obtain ⟨F, hW, g2, p2, h2⟩ := h; refine ol_v (e_bld (cells := #[.int .i64 0, .int .i64 0]) bld_28 (vs := []) rfl rfl) rfl ?_; have hb80 : Val k_Fault F w (.agg #[.int .i64 0, .int .i64 0]) (⟨(0 : Int), (0 : Int)⟩ : Fault) := mk_Fault (val_int _ _) (val_int _ _); refine ol_eN (f_stB hW h2 (FldS.whole _) ty_28 hb80 p2 rfl) rfl ?_; rintro - w81 ⟨hW82, ho83, hg1, st1⟩; exact ol_fin hr ⟨F, hW82, g2, p2, ho83⟩
  exact Ref.ret (fun s ρ w h => ⟨s, rfl, h⟩)
def post (w : World) (F : BSet) (r : R) (v : Value) (w' : World) : Prop := ∃ (F' : BSet) (v0' : Value), v = v0' ∧ Wk nrow w F F' w' ∧ Val k_Fault F' w' v0' r
theorem calls {w : World} {F : BSet} (hok : ∀ b, F b → b < w.heap.size) {v0 : Value} {a0 : Object} (h0 : Val k_Object F w v0 a0) {r : R} (hf : f a0 = some r) : Calls Try.prog 57 #[v0] w fun e w' => ∃ v, e = .returned v ∧ post w F r v w' := by
  obtain ⟨c, hc, href⟩ := ref w F; refine calls_of_ref (args := [v0]) _ Try.func57 hc rfl rfl href ?_ (retOf_some hf) ?_
  · exact ⟨F, Wk.refl hok, h0⟩
  · rintro ρ w' a ⟨s, rfl, F', hW, g2, p2, h2⟩ hF; obtain ⟨u2, l2, k2⟩ := res_box (P := Try.prog) ty_28 h2; refine ⟨_, run_results (rs := [.cell 2 28]) rfl hF (vs := [u2]) (⟨_, _, _, rfl, p2, l2, rfl⟩), ?_⟩; exact ⟨F', u2, rfl, hW, k2⟩
end
end objects_check

namespace bits_Div64
section
abbrev c0 (ρ : Env) (s : S) (X : Prop) : Prop := ρ 0 = .int .u64 s.t_0 ∧ X
abbrev c1 (ρ : Env) (s : S) (X : Prop) : Prop := ρ 1 = .int .u64 s.t_1 ∧ X
abbrev c2 (ρ : Env) (s : S) (X : Prop) : Prop := ρ 2 = .int .u64 s.t_2 ∧ X
abbrev c7 (ρ : Env) (s : S) (X : Prop) : Prop := ρ 8 = .int .u64 s.t_8 ∧ X
abbrev c8 (ρ : Env) (s : S) (X : Prop) : Prop := ρ 9 = .int .u64 s.t_9 ∧ X
abbrev c9 (ρ : Env) (s : S) (X : Prop) : Prop := ρ 10 = .int .u64 s.t_10 ∧ X
abbrev c10 (ρ : Env) (s : S) (X : Prop) : Prop := ρ 11 = .int .u64 s.t_11 ∧ X
abbrev c12 (ρ : Env) (s : S) (X : Prop) : Prop := ρ 13 = .int .u64 s.t_13 ∧ X
abbrev c13 (ρ : Env) (s : S) (X : Prop) : Prop := ρ 14 = .int .u64 s.t_14 ∧ X
abbrev c14 (ρ : Env) (s : S) (X : Prop) : Prop := ρ 15 = .int .u64 s.t_15 ∧ X
abbrev c15 (ρ : Env) (s : S) (X : Prop) : Prop := ρ 16 = .int .u64 s.t_16 ∧ X
abbrev c18 (ρ : Env) (s : S) (X : Prop) : Prop := ρ 17 = .int .u64 s.t_17 ∧ X
def G0 : GT S := fun w0 F0 s ρ w => ∃ F, Wk nrow w0 F0 F w ∧ c0 ρ s (c1 ρ s (ρ 2 = .int .u64 s.t_2))
def G1 : GT S := fun w0 F0 s ρ w => ∃ F, Wk nrow w0 F0 F w ∧ c0 ρ s (c1 ρ s (c2 ρ s (ρ 20 = .bool s.t_20)))
def G2 : GT S := fun w0 F0 s ρ w => ∃ F, Wk nrow w0 F0 F w ∧ c0 ρ s (c1 ρ s (c2 ρ s (ρ 24 = .bool s.t_24)))
def G3 : GT S := fun w0 F0 s ρ w => ∃ F, Wk nrow w0 F0 F w ∧ c0 ρ s (c1 ρ s (c2 ρ s (ρ 27 = .bool s.t_27)))
def G4 : GT S := fun w0 F0 s ρ w => ∃ F, Wk nrow w0 F0 F w ∧ c1 ρ s (ρ 2 = .int .u64 s.t_2)
def G5 : GT S := fun w0 F0 s ρ w => ∃ F, Wk nrow w0 F0 F w ∧ ρ 6 = .int .u64 s.t_6 ∧ ρ 7 = .int .u64 s.t_7
def G6 : GT S := fun w0 F0 s ρ w => ∃ F, Wk nrow w0 F0 F w ∧ c0 ρ s (c1 ρ s (c2 ρ s (ρ 8 = .int .u64 s.t_8)))
def G7 : GT S := fun w0 F0 s ρ w => ∃ F, Wk nrow w0 F0 F w ∧ c0 ρ s (c1 ρ s (c2 ρ s (c7 ρ s (ρ 9 = .int .u64 s.t_9))))
def G8 : GT S := fun w0 F0 s ρ w => ∃ F, Wk nrow w0 F0 F w ∧ c0 ρ s (c1 ρ s (c2 ρ s (c7 ρ s (c8 ρ s (ρ 10 = .int .u64 s.t_10)))))
def G9 : GT S := fun w0 F0 s ρ w => ∃ F, Wk nrow w0 F0 F w ∧ c1 ρ s (c2 ρ s (c7 ρ s (c8 ρ s (c9 ρ s (ρ 11 = .int .u64 s.t_11)))))
def G10 : GT S := fun w0 F0 s ρ w => ∃ F, Wk nrow w0 F0 F w ∧ c2 ρ s (c7 ρ s (c8 ρ s (c9 ρ s (c10 ρ s (ρ 12 = .int .u64 s.t_12)))))
def G11 : GT S := fun w0 F0 s ρ w => ∃ F, Wk nrow w0 F0 F w ∧ c2 ρ s (c7 ρ s (c8 ρ s (c9 ρ s (c10 ρ s (ρ 12 = .int .u64 s.t_12 ∧ ρ 13 = .int .u64 s.t_13)))))
def G12 : GT S := fun w0 F0 s ρ w => ∃ F, Wk nrow w0 F0 F w ∧ c2 ρ s (c7 ρ s (c8 ρ s (c9 ρ s (c10 ρ s (c12 ρ s (ρ 14 = .int .u64 s.t_14))))))
def G13 : GT S := fun w0 F0 s ρ w => ∃ F, Wk nrow w0 F0 F w ∧ c2 ρ s (c7 ρ s (c8 ρ s (c9 ρ s (c10 ρ s (c12 ρ s (c13 ρ s (ρ 15 = .int .u64 s.t_15)))))))
def G14 : GT S := fun w0 F0 s ρ w => ∃ F, Wk nrow w0 F0 F w ∧ c2 ρ s (c7 ρ s (c8 ρ s (c9 ρ s (c10 ρ s (c12 ρ s (c13 ρ s (c14 ρ s (ρ 16 = .int .u64 s.t_16))))))))
def G15 : GT S := fun w0 F0 s ρ w => ∃ F, Wk nrow w0 F0 F w ∧ c2 ρ s (c7 ρ s (c8 ρ s (c9 ρ s (c10 ρ s (c12 ρ s (c13 ρ s (c14 ρ s (c15 ρ s (ρ 78 = .bool s.t_78)))))))))
def G16 : GT S := fun w0 F0 s ρ w => ∃ F, Wk nrow w0 F0 F w ∧ c2 ρ s (c7 ρ s (c8 ρ s (c9 ρ s (c10 ρ s (c12 ρ s (c13 ρ s (c14 ρ s (c15 ρ s (ρ 85 = .bool s.t_85)))))))))
def G17 : GT S := fun w0 F0 s ρ w => ∃ F, Wk nrow w0 F0 F w ∧ c2 ρ s (c7 ρ s (c8 ρ s (c9 ρ s (c13 ρ s (c14 ρ s (ρ 17 = .int .u64 s.t_17))))))
def G18 : GT S := fun w0 F0 s ρ w => ∃ F, Wk nrow w0 F0 F w ∧ c2 ρ s (c7 ρ s (c8 ρ s (c9 ρ s (c13 ρ s (c14 ρ s (c18 ρ s (ρ 18 = .int .u64 s.t_18)))))))
def G19 : GT S := fun w0 F0 s ρ w => ∃ F, Wk nrow w0 F0 F w ∧ c2 ρ s (c7 ρ s (c8 ρ s (c9 ρ s (c13 ρ s (c14 ρ s (c15 ρ s (c18 ρ s (ρ 18 = .int .u64 s.t_18))))))))
def G20 : GT S := fun w0 F0 s ρ w => ∃ F, Wk nrow w0 F0 F w ∧ c2 ρ s (c7 ρ s (c8 ρ s (c9 ρ s (c13 ρ s (c14 ρ s (c15 ρ s (c18 ρ s (ρ 18 = .int .u64 s.t_18 ∧ ρ 113 = .bool s.t_113))))))))
def G21 : GT S := fun w0 F0 s ρ w => ∃ F, Wk nrow w0 F0 F w ∧ c2 ρ s (c7 ρ s (c13 ρ s (c14 ρ s (c18 ρ s (ρ 18 = .int .u64 s.t_18)))))
def G22 : GT S := fun w0 F0 s ρ w => ∃ F, Wk nrow w0 F0 F w ∧ c2 ρ s (c7 ρ s (c8 ρ s (c9 ρ s (c13 ρ s (c14 ρ s (c15 ρ s (c18 ρ s (ρ 18 = .int .u64 s.t_18 ∧ ρ 120 = .bool s.t_120))))))))
set_option maxHeartbeats 4000000 in
set_option maxRecDepth 20000 in
theorem ref (w0 : World) (F0 : BSet) : ∃ c, Try.f86.body = some c ∧ Ref Try.prog 135 c (G0 w0 F0) body (fun _ _ _ => False) (fun _ _ _ _ => False) (fun r ρ w => ∃ s, retv s = r ∧ G5 w0 F0 s ρ w) := by
  refine ⟨_, rfl, ?_⟩; unfold body; refine Ref.seq (B := G0 w0 F0) ?_ ?_
  · refine Ref.region (fun s ρ w s' h hr => ?_); obtain ⟨F, hW, h0, h1, h2⟩ := h; refine ol_a rfl ?_; refine ol_a rfl ?_; exact ol_fin hr ⟨F, hW, h0, h1, h2⟩
  refine Ref.seq (B := G0 w0 F0) ?_ ?_
  · refine Ref.seq (B := G1 w0 F0) ?_ ?_
    · refine Ref.region (fun s ρ w s' h hr => ?_); obtain ⟨F, hW, h0, h1, h2⟩ := h; refine ol_m h2 ?_; refine ol_v (e_eql rfl rfl) rfl ?_; exact ol_fin hr ⟨F, hW, h0, h1, h2, rfl⟩
    refine Ref.condP (b := fun s => s.t_20) (L := G0 w0 F0) (K := G0 w0 F0) ?_ ?_ ?_
    · rintro s ρ w ⟨F, hW, h0, h1, h2, h20⟩; exact ⟨h20, ⟨F, hW, h0, h1, h2⟩, F, hW, h0, h1, h2⟩
    · refine Ref.region (fun s ρ w s' h hr => ?_); cases hr
    · exact Ref.skip
  refine Ref.seq (B := G0 w0 F0) ?_ ?_
  · refine Ref.seq (B := G2 w0 F0) ?_ ?_
    · refine Ref.region (fun s ρ w s' h hr => ?_); obtain ⟨F, hW, h0, h1, h2⟩ := h; refine ol_m h2 ?_; refine ol_m h0 ?_; refine ol_v (e_leq rfl rfl) rfl ?_; exact ol_fin hr ⟨F, hW, h0, h1, h2, rfl⟩
    refine Ref.condP (b := fun s => s.t_24) (L := G0 w0 F0) (K := G0 w0 F0) ?_ ?_ ?_
    · rintro s ρ w ⟨F, hW, h0, h1, h2, h24⟩; exact ⟨h24, ⟨F, hW, h0, h1, h2⟩, F, hW, h0, h1, h2⟩
    · refine Ref.region (fun s ρ w s' h hr => ?_); cases hr
    · exact Ref.skip
  refine Ref.seq (B := G0 w0 F0) ?_ ?_
  · refine Ref.seq (B := G3 w0 F0) ?_ ?_
    · refine Ref.region (fun s ρ w s' h hr => ?_); obtain ⟨F, hW, h0, h1, h2⟩ := h; refine ol_m h0 ?_; refine ol_v (e_eql rfl rfl) rfl ?_; exact ol_fin hr ⟨F, hW, h0, h1, h2, rfl⟩
    refine Ref.condP (b := fun s => s.t_27) (L := G4 w0 F0) (K := G0 w0 F0) ?_ ?_ ?_
    · rintro s ρ w ⟨F, hW, h0, h1, h2, h27⟩; exact ⟨h27, ⟨F, hW, h1, h2⟩, F, hW, h0, h1, h2⟩
    · refine Ref.seq (B := G5 w0 F0) ?_ ?_
      · refine Ref.regionS (by kernel_rfl) (by kernel_rfl) (fun s ρ w ⟨F, hW, h1, h2⟩ => ⟨F, hW.drewS, h1, h2⟩) (fun s ρ w s' h hr => ?_); obtain ⟨F, hW, h1, h2⟩ := h; refine ol_m h1 ?_; refine ol_m h2 ?_; obtain ⟨hc1, hr⟩ := ite_some hr; refine ol_v (e_quo rfl rfl hc1) rfl ?_; refine ol_m h1 ?_; refine ol_m h2 ?_; obtain ⟨hc2, hr⟩ := ite_some hr; refine ol_v (e_rem rfl rfl hc2) rfl ?_; refine ol_a rfl ?_; refine ol_a rfl ?_; exact ol_fin hr ⟨F, hW, rfl, rfl⟩
      exact Ref.ret (fun s ρ w h => ⟨s, rfl, h⟩)
    · exact Ref.skip
  refine Ref.seq (B := G6 w0 F0) ?_ ?_
  · refine Ref.region (fun s ρ w s' h hr => ?_); obtain ⟨F, hW, h0, h1, h2⟩ := h; refine ol_m h2 ?_; obtain ⟨x3, hx3, hr⟩ := bind_some' hr; refine ol_e (f_call [.int .u64 s.t_2] fn_89 (lcons rfl rfl) (Lead.calls hW.ok s.t_2 hx3)) rfl rfl ?_; rintro _ w4 ⟨Fz5, rfl, kw1⟩; have hW7 := hW.trans kw1; have st1 := kw1.stp hW.ok; refine ol_v (e_conv (k := .u64) (by kernel_rfl) (by kernel_rfl) rfl) rfl ?_; refine ol_a rfl ?_; exact ol_fin hr ⟨Fz5, hW7, h0, h1, h2, rfl⟩
  refine Ref.seq (B := G6 w0 F0) ?_ ?_
  · refine Ref.region (fun s ρ w s' h hr => ?_); obtain ⟨F, hW, h0, h1, h2, h8⟩ := h; refine ol_m h2 ?_; refine ol_m h8 ?_; obtain ⟨hc8, hr⟩ := ite_some hr; refine ol_v (e_shlV rfl rfl hc8) rfl ?_; refine ol_a rfl ?_; exact ol_fin hr ⟨F, hW, h0, h1, rfl, h8⟩
  refine Ref.seq (B := G7 w0 F0) ?_ ?_
  · refine Ref.region (fun s ρ w s' h hr => ?_); obtain ⟨F, hW, h0, h1, h2, h8⟩ := h; refine ol_m h2 ?_; refine ol_v (e_shrV rfl rfl (by decide)) rfl ?_; refine ol_a rfl ?_; exact ol_fin hr ⟨F, hW, h0, h1, h2, h8, rfl⟩
  refine Ref.seq (B := G8 w0 F0) ?_ ?_
  · refine Ref.region (fun s ρ w s' h hr => ?_); obtain ⟨F, hW, h0, h1, h2, h8, h9⟩ := h; refine ol_m h2 ?_; refine ol_v (e_andV rfl rfl) rfl ?_; refine ol_a rfl ?_; exact ol_fin hr ⟨F, hW, h0, h1, h2, h8, h9, rfl⟩
  refine Ref.seq (B := G9 w0 F0) ?_ ?_
  · refine Ref.region (fun s ρ w s' h hr => ?_); obtain ⟨F, hW, h0, h1, h2, h8, h9, h10⟩ := h; refine ol_m h0 ?_; refine ol_m h8 ?_; obtain ⟨hc9, hr⟩ := ite_some hr; refine ol_v (e_shlV rfl rfl hc9) rfl ?_; refine ol_m h1 ?_; refine ol_m h8 ?_; refine ol_v (e_sub rfl rfl) rfl ?_; obtain ⟨hc10, hr⟩ := ite_some hr; refine ol_v (e_shrV rfl rfl hc10) rfl ?_; refine ol_v (e_orV rfl rfl) rfl ?_; refine ol_a rfl ?_; exact ol_fin hr ⟨F, hW, h1, h2, h8, h9, h10, rfl⟩
  refine Ref.seq (B := G10 w0 F0) ?_ ?_
  · refine Ref.region (fun s ρ w s' h hr => ?_); obtain ⟨F, hW, h1, h2, h8, h9, h10, h11⟩ := h; refine ol_m h1 ?_; refine ol_m h8 ?_; obtain ⟨hc11, hr⟩ := ite_some hr; refine ol_v (e_shlV rfl rfl hc11) rfl ?_; refine ol_a rfl ?_; exact ol_fin hr ⟨F, hW, h2, h8, h9, h10, h11, rfl⟩
  refine Ref.seq (B := G11 w0 F0) ?_ ?_
  · refine Ref.region (fun s ρ w s' h hr => ?_); obtain ⟨F, hW, h2, h8, h9, h10, h11, h12⟩ := h; refine ol_m h12 ?_; refine ol_v (e_shrV rfl rfl (by decide)) rfl ?_; refine ol_a rfl ?_; exact ol_fin hr ⟨F, hW, h2, h8, h9, h10, h11, h12, rfl⟩
  refine Ref.seq (B := G12 w0 F0) ?_ ?_
  · refine Ref.region (fun s ρ w s' h hr => ?_); obtain ⟨F, hW, h2, h8, h9, h10, h11, h12, h13⟩ := h; refine ol_m h12 ?_; refine ol_v (e_andV rfl rfl) rfl ?_; refine ol_a rfl ?_; exact ol_fin hr ⟨F, hW, h2, h8, h9, h10, h11, h13, rfl⟩
  refine Ref.seq (B := G13 w0 F0) ?_ ?_
  · refine Ref.region (fun s ρ w s' h hr => ?_); obtain ⟨F, hW, h2, h8, h9, h10, h11, h13, h14⟩ := h; refine ol_m h11 ?_; refine ol_m h9 ?_; obtain ⟨hc12, hr⟩ := ite_some hr; refine ol_v (e_quo rfl rfl hc12) rfl ?_; refine ol_a rfl ?_; exact ol_fin hr ⟨F, hW, h2, h8, h9, h10, h11, h13, h14, rfl⟩
  refine Ref.seq (B := G14 w0 F0) ?_ ?_
  · refine Ref.region (fun s ρ w s' h hr => ?_); obtain ⟨F, hW, h2, h8, h9, h10, h11, h13, h14, h15⟩ := h; refine ol_m h11 ?_; refine ol_m h15 ?_; refine ol_m h9 ?_; refine ol_v (e_mul rfl rfl) rfl ?_; refine ol_v (e_sub rfl rfl) rfl ?_; refine ol_a rfl ?_; exact ol_fin hr ⟨F, hW, h2, h8, h9, h10, h11, h13, h14, h15, rfl⟩
  refine Ref.seq (B := G13 w0 F0) ?_ ?_
  · refine Ref.block ?_; refine Ref.loop ?_; refine Ref.seq (B := G14 w0 F0) ?_ ?_
    · refine Ref.seq (B := G15 w0 F0) ?_ ?_
      · refine Ref.region (fun s ρ w s' h hr => ?_); obtain ⟨F, hW, h2, h8, h9, h10, h11, h13, h14, h15, h16⟩ := h; refine ol_m h15 ?_; refine ol_v (e_geq rfl rfl) rfl ?_; refine ol_cutA 10 69 78 (fun ρ' w' => w = w' ∧ ρ' 78 = .bool ((decide ((4294967296 : Int) ≤ s.t_15)) || (decide ((IntKind.u64.wrap (IntKind.u64.wrap ((4294967296 : Int) * s.t_16) + s.t_13)) < (IntKind.u64.wrap (s.t_15 * s.t_10)))))) rfl ?_ ?_
        · by_cases hb13 : (decide ((4294967296 : Int) ≤ s.t_15)) = true
          · refine ol_m rfl ?_; refine ol_not rfl rfl rfl (congrArg Value.bool hb13) rfl ?_; refine ol_not rfl rfl rfl (congrArg Value.bool hb13) rfl ?_; refine ol_not rfl rfl rfl (congrArg Value.bool hb13) rfl ?_; refine ol_not rfl rfl rfl (congrArg Value.bool hb13) rfl ?_; refine ol_not rfl rfl rfl (congrArg Value.bool hb13) rfl ?_; refine ol_not rfl rfl rfl (congrArg Value.bool hb13) rfl ?_; refine ol_not rfl rfl rfl (congrArg Value.bool hb13) rfl ?_; refine ol_not rfl rfl rfl (congrArg Value.bool hb13) rfl ?_; refine ol_v (e_pick true _ (congrArg Value.bool hb13) rfl) rfl ?_; exact ol_nil ⟨⟨rfl, (bv_or_t hb13)⟩, (Agr.refl _ _ _).u.u.u.u.u.u.u.u.u.u⟩
          · have hb14 := Bool.eq_false_iff.mpr hb13; refine ol_m rfl ?_; refine ol_yes rfl rfl (congrArg Value.bool hb14) ?_; refine ol_m h15 ?_; refine ol_yes rfl rfl (congrArg Value.bool hb14) ?_; refine ol_m h10 ?_; refine ol_yes rfl rfl (congrArg Value.bool hb14) ?_; refine ol_v (e_mul rfl rfl) rfl ?_; refine ol_yes rfl rfl (congrArg Value.bool hb14) ?_; refine ol_m h16 ?_; refine ol_yes rfl rfl (congrArg Value.bool hb14) ?_; refine ol_v (e_mul rfl rfl) rfl ?_; refine ol_yes rfl rfl (congrArg Value.bool hb14) ?_; refine ol_m h13 ?_; refine ol_yes rfl rfl (congrArg Value.bool hb14) ?_; refine ol_v (e_add rfl rfl) rfl ?_; refine ol_yes rfl rfl (congrArg Value.bool hb14) ?_; refine ol_v (e_gtr rfl rfl) rfl ?_; refine ol_v (e_pick false _ (congrArg Value.bool hb14) rfl) rfl ?_; exact ol_nil ⟨⟨rfl, (bv_or_f hb14)⟩, (Agr.refl _ _ _).u.u.u.u.u.u.u.u.u.u⟩
        rintro ρ15 _ ⟨⟨rfl, hp15⟩, hAg15⟩; exact ol_fin hr ⟨F, hW, ((hAg15 2 rfl).trans h2), ((hAg15 8 rfl).trans h8), ((hAg15 9 rfl).trans h9), ((hAg15 10 rfl).trans h10), ((hAg15 11 rfl).trans h11), ((hAg15 13 rfl).trans h13), ((hAg15 14 rfl).trans h14), ((hAg15 15 rfl).trans h15), ((hAg15 16 rfl).trans h16), hp15⟩
      refine Ref.condP (b := fun s => s.t_78) (L := G14 w0 F0) (K := G13 w0 F0) ?_ ?_ ?_
      · rintro s ρ w ⟨F, hW, h2, h8, h9, h10, h11, h13, h14, h15, h16, h78⟩; exact ⟨h78, ⟨F, hW, h2, h8, h9, h10, h11, h13, h14, h15, h16⟩, F, hW, h2, h8, h9, h10, h11, h13, h14, h15⟩
      · exact Ref.skip
      · exact Ref.exit (fun s ρ w h => h)
    refine Ref.block ?_; refine Ref.seq (B := G14 w0 F0) ?_ ?_
    · refine Ref.region (fun s ρ w s' h hr => ?_); obtain ⟨F, hW, h2, h8, h9, h10, h11, h13, h14, h15, h16⟩ := h; refine ol_m h15 ?_; refine ol_v (e_sub rfl rfl) rfl ?_; refine ol_a rfl ?_; exact ol_fin hr ⟨F, hW, h2, h8, h9, h10, h11, h13, h14, rfl, h16⟩
    refine Ref.seq (B := G14 w0 F0) ?_ ?_
    · refine Ref.region (fun s ρ w s' h hr => ?_); obtain ⟨F, hW, h2, h8, h9, h10, h11, h13, h14, h15, h16⟩ := h; refine ol_m h16 ?_; refine ol_m h9 ?_; refine ol_v (e_add rfl rfl) rfl ?_; refine ol_a rfl ?_; exact ol_fin hr ⟨F, hW, h2, h8, h9, h10, h11, h13, h14, h15, rfl⟩
    refine Ref.seq (B := G16 w0 F0) ?_ ?_
    · refine Ref.region (fun s ρ w s' h hr => ?_); obtain ⟨F, hW, h2, h8, h9, h10, h11, h13, h14, h15, h16⟩ := h; refine ol_m h16 ?_; refine ol_v (e_geq rfl rfl) rfl ?_; exact ol_fin hr ⟨F, hW, h2, h8, h9, h10, h11, h13, h14, h15, h16, rfl⟩
    refine Ref.condP (b := fun s => s.t_85) (L := G13 w0 F0) (K := G14 w0 F0) ?_ ?_ ?_
    · rintro s ρ w ⟨F, hW, h2, h8, h9, h10, h11, h13, h14, h15, h16, h85⟩; exact ⟨h85, ⟨F, hW, h2, h8, h9, h10, h11, h13, h14, h15⟩, F, hW, h2, h8, h9, h10, h11, h13, h14, h15, h16⟩
    · exact Ref.exit (fun s ρ w h => h)
    · exact Ref.skip
  refine Ref.seq (B := G17 w0 F0) ?_ ?_
  · refine Ref.region (fun s ρ w s' h hr => ?_); obtain ⟨F, hW, h2, h8, h9, h10, h11, h13, h14, h15⟩ := h; refine ol_m h11 ?_; refine ol_v (e_mul rfl rfl) rfl ?_; refine ol_m h13 ?_; refine ol_v (e_add rfl rfl) rfl ?_; refine ol_m h15 ?_; refine ol_m h2 ?_; refine ol_v (e_mul rfl rfl) rfl ?_; refine ol_v (e_sub rfl rfl) rfl ?_; refine ol_a rfl ?_; exact ol_fin hr ⟨F, hW, h2, h8, h9, h10, h14, h15, rfl⟩
  refine Ref.seq (B := G18 w0 F0) ?_ ?_
  · refine Ref.region (fun s ρ w s' h hr => ?_); obtain ⟨F, hW, h2, h8, h9, h10, h14, h15, h17⟩ := h; refine ol_m h17 ?_; refine ol_m h9 ?_; obtain ⟨hc16, hr⟩ := ite_some hr; refine ol_v (e_quo rfl rfl hc16) rfl ?_; refine ol_a rfl ?_; exact ol_fin hr ⟨F, hW, h2, h8, h9, h10, h14, h15, h17, rfl⟩
  refine Ref.seq (B := G19 w0 F0) ?_ ?_
  · refine Ref.region (fun s ρ w s' h hr => ?_); obtain ⟨F, hW, h2, h8, h9, h10, h14, h15, h17, h18⟩ := h; refine ol_m h17 ?_; refine ol_m h18 ?_; refine ol_m h9 ?_; refine ol_v (e_mul rfl rfl) rfl ?_; refine ol_v (e_sub rfl rfl) rfl ?_; refine ol_a rfl ?_; exact ol_fin hr ⟨F, hW, h2, h8, h9, h10, h14, h15, rfl, h17, h18⟩
  refine Ref.seq (B := G21 w0 F0) ?_ ?_
  · refine Ref.block ?_; refine Ref.loop ?_; refine Ref.seq (B := G19 w0 F0) ?_ ?_
    · refine Ref.seq (B := G20 w0 F0) ?_ ?_
      · refine Ref.region (fun s ρ w s' h hr => ?_); obtain ⟨F, hW, h2, h8, h9, h10, h14, h15, h16, h17, h18⟩ := h; refine ol_m h18 ?_; refine ol_v (e_geq rfl rfl) rfl ?_; refine ol_cutA 10 104 113 (fun ρ' w' => w = w' ∧ ρ' 113 = .bool ((decide ((4294967296 : Int) ≤ s.t_18)) || (decide ((IntKind.u64.wrap (IntKind.u64.wrap ((4294967296 : Int) * s.t_16) + s.t_14)) < (IntKind.u64.wrap (s.t_18 * s.t_10)))))) rfl ?_ ?_
        · by_cases hb17 : (decide ((4294967296 : Int) ≤ s.t_18)) = true
          · refine ol_m rfl ?_; refine ol_not rfl rfl rfl (congrArg Value.bool hb17) rfl ?_; refine ol_not rfl rfl rfl (congrArg Value.bool hb17) rfl ?_; refine ol_not rfl rfl rfl (congrArg Value.bool hb17) rfl ?_; refine ol_not rfl rfl rfl (congrArg Value.bool hb17) rfl ?_; refine ol_not rfl rfl rfl (congrArg Value.bool hb17) rfl ?_; refine ol_not rfl rfl rfl (congrArg Value.bool hb17) rfl ?_; refine ol_not rfl rfl rfl (congrArg Value.bool hb17) rfl ?_; refine ol_not rfl rfl rfl (congrArg Value.bool hb17) rfl ?_; refine ol_v (e_pick true _ (congrArg Value.bool hb17) rfl) rfl ?_; exact ol_nil ⟨⟨rfl, (bv_or_t hb17)⟩, (Agr.refl _ _ _).u.u.u.u.u.u.u.u.u.u⟩
          · have hb18 := Bool.eq_false_iff.mpr hb17; refine ol_m rfl ?_; refine ol_yes rfl rfl (congrArg Value.bool hb18) ?_; refine ol_m h18 ?_; refine ol_yes rfl rfl (congrArg Value.bool hb18) ?_; refine ol_m h10 ?_; refine ol_yes rfl rfl (congrArg Value.bool hb18) ?_; refine ol_v (e_mul rfl rfl) rfl ?_; refine ol_yes rfl rfl (congrArg Value.bool hb18) ?_; refine ol_m h16 ?_; refine ol_yes rfl rfl (congrArg Value.bool hb18) ?_; refine ol_v (e_mul rfl rfl) rfl ?_; refine ol_yes rfl rfl (congrArg Value.bool hb18) ?_; refine ol_m h14 ?_; refine ol_yes rfl rfl (congrArg Value.bool hb18) ?_; refine ol_v (e_add rfl rfl) rfl ?_; refine ol_yes rfl rfl (congrArg Value.bool hb18) ?_; refine ol_v (e_gtr rfl rfl) rfl ?_; refine ol_v (e_pick false _ (congrArg Value.bool hb18) rfl) rfl ?_; exact ol_nil ⟨⟨rfl, (bv_or_f hb18)⟩, (Agr.refl _ _ _).u.u.u.u.u.u.u.u.u.u⟩
        rintro ρ19 _ ⟨⟨rfl, hp19⟩, hAg19⟩; exact ol_fin hr ⟨F, hW, ((hAg19 2 rfl).trans h2), ((hAg19 8 rfl).trans h8), ((hAg19 9 rfl).trans h9), ((hAg19 10 rfl).trans h10), ((hAg19 14 rfl).trans h14), ((hAg19 15 rfl).trans h15), ((hAg19 16 rfl).trans h16), ((hAg19 17 rfl).trans h17), ((hAg19 18 rfl).trans h18), hp19⟩
      refine Ref.condP (b := fun s => s.t_113) (L := G19 w0 F0) (K := G21 w0 F0) ?_ ?_ ?_
      · rintro s ρ w ⟨F, hW, h2, h8, h9, h10, h14, h15, h16, h17, h18, h113⟩; exact ⟨h113, ⟨F, hW, h2, h8, h9, h10, h14, h15, h16, h17, h18⟩, F, hW, h2, h8, h14, h15, h17, h18⟩
      · exact Ref.skip
      · exact Ref.exit (fun s ρ w h => h)
    refine Ref.block ?_; refine Ref.seq (B := G19 w0 F0) ?_ ?_
    · refine Ref.region (fun s ρ w s' h hr => ?_); obtain ⟨F, hW, h2, h8, h9, h10, h14, h15, h16, h17, h18⟩ := h; refine ol_m h18 ?_; refine ol_v (e_sub rfl rfl) rfl ?_; refine ol_a rfl ?_; exact ol_fin hr ⟨F, hW, h2, h8, h9, h10, h14, h15, h16, h17, rfl⟩
    refine Ref.seq (B := G19 w0 F0) ?_ ?_
    · refine Ref.region (fun s ρ w s' h hr => ?_); obtain ⟨F, hW, h2, h8, h9, h10, h14, h15, h16, h17, h18⟩ := h; refine ol_m h16 ?_; refine ol_m h9 ?_; refine ol_v (e_add rfl rfl) rfl ?_; refine ol_a rfl ?_; exact ol_fin hr ⟨F, hW, h2, h8, h9, h10, h14, h15, rfl, h17, h18⟩
    refine Ref.seq (B := G22 w0 F0) ?_ ?_
    · refine Ref.region (fun s ρ w s' h hr => ?_); obtain ⟨F, hW, h2, h8, h9, h10, h14, h15, h16, h17, h18⟩ := h; refine ol_m h16 ?_; refine ol_v (e_geq rfl rfl) rfl ?_; exact ol_fin hr ⟨F, hW, h2, h8, h9, h10, h14, h15, h16, h17, h18, rfl⟩
    refine Ref.condP (b := fun s => s.t_120) (L := G21 w0 F0) (K := G19 w0 F0) ?_ ?_ ?_
    · rintro s ρ w ⟨F, hW, h2, h8, h9, h10, h14, h15, h16, h17, h18, h120⟩; exact ⟨h120, ⟨F, hW, h2, h8, h14, h15, h17, h18⟩, F, hW, h2, h8, h9, h10, h14, h15, h16, h17, h18⟩
    · exact Ref.exit (fun s ρ w h => h)
    · exact Ref.skip
  refine Ref.seq (B := G5 w0 F0) ?_ ?_
  · refine Ref.region (fun s ρ w s' h hr => ?_); obtain ⟨F, hW, h2, h8, h14, h15, h17, h18⟩ := h; refine ol_m h15 ?_; refine ol_v (e_mul rfl rfl) rfl ?_; refine ol_m h18 ?_; refine ol_v (e_add rfl rfl) rfl ?_; refine ol_m h17 ?_; refine ol_v (e_mul rfl rfl) rfl ?_; refine ol_m h14 ?_; refine ol_v (e_add rfl rfl) rfl ?_; refine ol_m h18 ?_; refine ol_m h2 ?_; refine ol_v (e_mul rfl rfl) rfl ?_; refine ol_v (e_sub rfl rfl) rfl ?_; refine ol_m h8 ?_; obtain ⟨hc20, hr⟩ := ite_some hr; refine ol_v (e_shrV rfl rfl hc20) rfl ?_; refine ol_a rfl ?_; refine ol_a rfl ?_; exact ol_fin hr ⟨F, hW, rfl, rfl⟩
  exact Ref.ret (fun s ρ w h => ⟨s, rfl, h⟩)
def post (w : World) (F : BSet) (r : R) (v : Value) (w' : World) : Prop := ∃ (F' : BSet), v = .tuple #[.int .u64 r.1, .int .u64 r.2] ∧ Wk nrow w F F' w'
theorem calls {w : World} {F : BSet} (hok : ∀ b, F b → b < w.heap.size) (a0 : Int) (a1 : Int) (a2 : Int) {r : R} (hf : f a0 a1 a2 = some r) : Calls Try.prog 86 #[.int .u64 a0, .int .u64 a1, .int .u64 a2] w fun e w' => ∃ v, e = .returned v ∧ post w F r v w' := by
  obtain ⟨c, hc, href⟩ := ref w F; refine calls_of_ref (args := [.int .u64 a0, .int .u64 a1, .int .u64 a2]) _ Try.func86 hc rfl rfl href ?_ (retOf_some hf) ?_
  · exact ⟨F, Wk.refl hok, rfl, rfl, rfl⟩
  · rintro ρ w' a ⟨s, rfl, F', hW, h6, h7⟩ hF; refine ⟨_, run_results (rs := [.tmp 6, .tmp 7]) rfl hF (vs := [ρ 6, ρ 7]) (⟨_, rfl, ⟨_, rfl, rfl⟩⟩), ?_⟩; have hv : resVal [ρ 6, ρ 7] = .tuple #[.int .u64 s.t_6, .int .u64 s.t_7] := by rw [h6, h7]; rfl
    exact ⟨F', hv, hW⟩
end
end bits_Div64

namespace digest_mul
section
def G0 : GT S := fun w0 F0 s ρ w => ∃ F, Wk nrow w0 F0 F w ∧ ρ 0 = .int .u64 s.a_0 ∧ ρ 1 = .int .u64 s.b_1
def G1 : GT S := fun w0 F0 s ρ w => ∃ F, Wk nrow w0 F0 F w ∧ ρ 5 = .int .u64 s.hi_5 ∧ ρ 6 = .int .u64 s.lo_6
def G2 : GT S := fun w0 F0 s ρ w => ∃ F, Wk nrow w0 F0 F w ∧ ρ 8 = .int .u64 s.rem_8
def G3 : GT S := fun w0 F0 s ρ w => ∃ F, Wk nrow w0 F0 F w ∧ ρ 4 = .int .u64 s.t_4
set_option maxHeartbeats 4000000 in
set_option maxRecDepth 20000 in
theorem ref (w0 : World) (F0 : BSet) : ∃ c, Try.f77.body = some c ∧ Ref Try.prog 23 c (G0 w0 F0) body (fun _ _ _ => False) (fun _ _ _ _ => False) (fun r ρ w => ∃ s, retv s = r ∧ G3 w0 F0 s ρ w) := by
  refine ⟨_, rfl, ?_⟩; unfold body; refine Ref.seq (B := G0 w0 F0) ?_ ?_
  · refine Ref.region (fun s ρ w s' h hr => ?_); obtain ⟨F, hW, h0, h1⟩ := h; refine ol_a rfl ?_; exact ol_fin hr ⟨F, hW, h0, h1⟩
  refine Ref.seq (B := G1 w0 F0) ?_ ?_
  · refine Ref.region (fun s ρ w s' h hr => ?_); obtain ⟨F, hW, h0, h1⟩ := h; refine ol_m h0 ?_; refine ol_m h1 ?_; obtain ⟨x1, hx1, hr⟩ := bind_some' hr; refine ol_e (f_call [.int .u64 s.a_0, .int .u64 s.b_1] fn_85 (lcons rfl (lcons rfl rfl)) (Mul64.calls hW.ok s.a_0 s.b_1 hx1)) rfl rfl ?_; rintro _ w2 ⟨Fz3, rfl, kw1⟩; have hW5 := hW.trans kw1; have st1 := kw1.stp hW.ok; refine ol_m rfl ?_; refine ol_v (e_ext _ rfl rfl) rfl ?_; refine ol_v (e_ext _ rfl rfl) rfl ?_; refine ol_a rfl ?_; refine ol_a rfl ?_; exact ol_fin hr ⟨Fz3, hW5, rfl, rfl⟩
  refine Ref.seq (B := G2 w0 F0) ?_ ?_
  · refine Ref.region (fun s ρ w s' h hr => ?_); obtain ⟨F, hW, h5, h6⟩ := h; refine ol_m h5 ?_; refine ol_v (e_rem rfl rfl (by decide)) rfl ?_; refine ol_m h6 ?_; obtain ⟨x6, hx6, hr⟩ := bind_some' hr; refine ol_e (f_call [.int .u64 (Int.tmod s.hi_5 (2305843009213693951 : Int)), .int .u64 s.lo_6, .int .u64 (2305843009213693951 : Int)] fn_86 (lcons rfl (lcons rfl (lcons rfl rfl))) (bits_Div64.calls hW.ok (Int.tmod s.hi_5 (2305843009213693951 : Int)) s.lo_6 (2305843009213693951 : Int) hx6)) rfl rfl ?_; rintro _ w7 ⟨Fz8, rfl, kw1⟩; have hW10 := hW.trans kw1; have st1 := kw1.stp hW.ok; refine ol_m rfl ?_; refine ol_v (e_ext _ rfl rfl) rfl ?_; refine ol_v (e_ext _ rfl rfl) rfl ?_; refine ol_a rfl ?_; refine ol_a rfl ?_; exact ol_fin hr ⟨Fz8, hW10, rfl⟩
  refine Ref.seq (B := G3 w0 F0) ?_ ?_
  · refine Ref.region (fun s ρ w s' h hr => ?_); obtain ⟨F, hW, h8⟩ := h; refine ol_m h8 ?_; refine ol_a rfl ?_; exact ol_fin hr ⟨F, hW, rfl⟩
  exact Ref.ret (fun s ρ w h => ⟨s, rfl, h⟩)
def post (w : World) (F : BSet) (r : R) (v : Value) (w' : World) : Prop := ∃ (F' : BSet), v = .int .u64 r ∧ Wk nrow w F F' w'
theorem calls {w : World} {F : BSet} (hok : ∀ b, F b → b < w.heap.size) (a0 : Int) (a1 : Int) {r : R} (hf : f a0 a1 = some r) : Calls Try.prog 77 #[.int .u64 a0, .int .u64 a1] w fun e w' => ∃ v, e = .returned v ∧ post w F r v w' := by
  obtain ⟨c, hc, href⟩ := ref w F; refine calls_of_ref (args := [.int .u64 a0, .int .u64 a1]) _ Try.func77 hc rfl rfl href ?_ (retOf_some hf) ?_
  · exact ⟨F, Wk.refl hok, rfl, rfl⟩
  · rintro ρ w' a ⟨s, rfl, F', hW, h4⟩ hF; refine ⟨_, run_results (rs := [.tmp 4]) rfl hF (vs := [ρ 4]) (⟨_, rfl, rfl⟩), ?_⟩; have hv : resVal [ρ 4] = .int .u64 s.t_4 := by rw [h4]; rfl
    exact ⟨F', hv, hW⟩
end
end digest_mul

namespace digest_Of
section
abbrev c1 (ρ : Env) (g3 : Nat) (w0 w : World) (F : BSet) (s : S) (X : Prop) : Prop := ρ 3 = .pointer (some ⟨g3, 0, none⟩) ∧ Box k_Fault 28 (Bs w0 nrow) F w g3 s.t_3 ∧ X
abbrev e1 (ρ : Env) (g3 : Nat) (w0 w : World) (F : BSet) (s : S) : Prop := ρ 3 = .pointer (some ⟨g3, 0, none⟩) ∧ Box k_Fault 28 (Bs w0 nrow) F w g3 s.t_3
abbrev e5 (F : BSet) (w : World) (ρ : Env) (s : S) : Prop := SlR kByte F w (ρ 11) s.t_11 ∧ ρ 12 = .int .i64 s.t_12 ∧ ρ 13 = .int .i64 s.t_13
def G0 : GT S := fun w0 F0 s ρ w => ∃ F, Wk nrow w0 F0 F w ∧ SlR kByte F w (ρ 0) s.data_0
def G1 : GT S := fun w0 F0 s ρ w => ∃ F, Wk nrow w0 F0 F w ∧ ∃ g3, SlR kByte F w (ρ 0) s.data_0 ∧ e1 ρ g3 w0 w F s
def G2 : GT S := fun w0 F0 s ρ w => ∃ F, Wk nrow w0 F0 F w ∧ ∃ g3, SlR kByte F w (ρ 0) s.data_0 ∧ c1 ρ g3 w0 w F s (ρ 9 = .bool s.t_9)
def G3 : GT S := fun w0 F0 s ρ w => ∃ F, Wk nrow w0 F0 F w ∧ ∃ g3, e1 ρ g3 w0 w F s
def G4 : GT S := fun w0 F0 s ρ w => ∃ F, Wk nrow w0 F0 F w ∧ ∃ g3, ρ 2 = .int .i64 s.t_2 ∧ e1 ρ g3 w0 w F s
def G5 : GT S := fun w0 F0 s ρ w => ∃ F, Wk nrow w0 F0 F w ∧ ∃ g3, SlR kByte F w (ρ 0) s.data_0 ∧ c1 ρ g3 w0 w F s (ρ 4 = .int .u64 s.h_4)
def G6 : GT S := fun w0 F0 s ρ w => ∃ F, Wk nrow w0 F0 F w ∧ ∃ g3, c1 ρ g3 w0 w F s (ρ 4 = .int .u64 s.h_4 ∧ e5 F w ρ s)
def G7 : GT S := fun w0 F0 s ρ w => ∃ F, Wk nrow w0 F0 F w ∧ ∃ g3, c1 ρ g3 w0 w F s (ρ 4 = .int .u64 s.h_4 ∧ SlR kByte F w (ρ 11) s.t_11 ∧ ρ 12 = .int .i64 s.t_12 ∧ ρ 13 = .int .i64 s.t_13 ∧ ρ 14 = .bool s.t_14)
def G8 : GT S := fun w0 F0 s ρ w => ∃ F, Wk nrow w0 F0 F w ∧ ∃ g3, c1 ρ g3 w0 w F s (ρ 4 = .int .u64 s.h_4)
def G9 : GT S := fun w0 F0 s ρ w => ∃ F, Wk nrow w0 F0 F w ∧ ∃ g3, c1 ρ g3 w0 w F s (ρ 4 = .int .u64 s.h_4 ∧ ρ 6 = .int .u8 (s.b_6.toNat : Int) ∧ e5 F w ρ s)
set_option maxHeartbeats 4000000 in
set_option maxRecDepth 20000 in
theorem ref (w0 : World) (F0 : BSet) : ∃ c, Try.f58.body = some c ∧ Ref Try.prog 28 c (G0 w0 F0) body (fun _ _ _ => False) (fun _ _ _ _ => False) (fun r ρ w => ∃ s, retv s = r ∧ G4 w0 F0 s ρ w) := by
  refine ⟨_, rfl, ?_⟩; unfold body; refine Ref.seq (B := G1 w0 F0) ?_ ?_
  · refine Ref.region (fun s ρ w s' h hr => ?_); obtain ⟨F, hW, h0⟩ := h; refine ol_a rfl ?_; refine ol_e (f_alloc zer_28 hW) rfl rfl ?_; rintro _ w2 ⟨g1, rfl, kw1, ho3⟩; have hW4 := hW.trans kw1; have st1 := kw1.stp hW.ok; exact ol_fin hr ⟨F, hW4, g1, (h0.keep st1), rfl, (ho3.base (row := nrow) hW.le)⟩
  refine Ref.seq (B := G1 w0 F0) ?_ ?_
  · refine Ref.seq (B := G2 w0 F0) ?_ ?_
    · refine Ref.region (fun s ρ w s' h hr => ?_); obtain ⟨F, hW, g3, h0, p3, h3⟩ := h; refine ol_m rfl ?_; obtain ⟨A5, c6, e7, hc8, R9⟩ := id h0; refine ol_v (e_len (SlT.sl sl_35) e7) rfl ?_; refine ol_v (e_gtr rfl rfl) rfl ?_; exact ol_fin hr ⟨F, hW, g3, h0, p3, h3, rfl⟩
    refine Ref.condP (b := fun s => s.t_9) (L := G3 w0 F0) (K := G1 w0 F0) ?_ ?_ ?_
    · rintro s ρ w ⟨F, hW, g3, h0, p3, h3, h9⟩; exact ⟨h9, ⟨F, hW, g3, p3, h3⟩, F, hW, g3, h0, p3, h3⟩
    · refine Ref.seq (B := G4 w0 F0) ?_ ?_
      · refine Ref.region (fun s ρ w s' h hr => ?_); obtain ⟨F, hW, g3, p3, h3⟩ := h; refine ol_v (e_bld (cells := #[.int .i64 (2), .int .i64 0]) bld_28 (vs := [(0, .int .i64 (2))]) (lcons (congrArg (Prod.mk 0) rfl) rfl) rfl) rfl ?_; have hb10 : Val k_Fault F w (.agg #[.int .i64 (2), .int .i64 0]) (⟨(2 : Int), (0 : Int)⟩ : Fault) := mk_Fault (val_int _ _) (val_int _ _); refine ol_a rfl ?_; refine ol_eN (f_stB hW h3 (FldS.whole _) ty_28 hb10 p3 rfl) rfl ?_; rintro - w11 ⟨hW12, ho13, hg1, st1⟩; exact ol_fin hr ⟨F, hW12, g3, rfl, p3, ho13⟩
      exact Ref.ret (fun s ρ w h => ⟨s, rfl, h⟩)
    · exact Ref.skip
  refine Ref.seq (B := G5 w0 F0) ?_ ?_
  · refine Ref.region (fun s ρ w s' h hr => ?_); obtain ⟨F, hW, g3, h0, p3, h3⟩ := h; refine ol_a rfl ?_; exact ol_fin hr ⟨F, hW, g3, h0, p3, h3, rfl⟩
  refine Ref.seq (B := G8 w0 F0) ?_ ?_
  · refine Ref.seq (B := G6 w0 F0) ?_ ?_
    · refine Ref.region (fun s ρ w s' h hr => ?_); obtain ⟨F, hW, g3, h0, p3, h3, h4⟩ := h; refine ol_m rfl ?_; obtain ⟨A14, c15, e16, hc17, R18⟩ := id h0; refine ol_v (e_len (SlT.sl sl_35) e16) rfl ?_; refine ol_m rfl ?_; exact ol_fin hr ⟨F, hW, g3, p3, h3, h4, h0, rfl, rfl⟩
    refine Ref.block ?_; refine Ref.loop ?_; refine Ref.seq (B := G7 w0 F0) ?_ ?_
    · refine Ref.region (fun s ρ w s' h hr => ?_); obtain ⟨F, hW, g3, p3, h3, h4, h11, h12, h13⟩ := h; refine ol_v (e_lss h13 h12) rfl ?_; exact ol_fin hr ⟨F, hW, g3, p3, h3, h4, h11, h12, h13, rfl⟩
    refine Ref.seq (B := G6 w0 F0) ?_ ?_
    · refine Ref.condP (b := fun s => s.t_14) (L := G6 w0 F0) (K := G8 w0 F0) ?_ ?_ ?_
      · rintro s ρ w ⟨F, hW, g3, p3, h3, h4, h11, h12, h13, h14⟩; exact ⟨h14, ⟨F, hW, g3, p3, h3, h4, h11, h12, h13⟩, F, hW, g3, p3, h3, h4⟩
      · exact Ref.skip
      · exact Ref.exit (fun s ρ w h => h)
    refine Ref.seq (B := G6 w0 F0) ?_ ?_
    · refine Ref.block ?_; refine Ref.seq (B := G9 w0 F0) ?_ ?_
      · refine Ref.region (fun s ρ w s' h hr => ?_); obtain ⟨F, hW, g3, p3, h3, h4, h11, h12, h13⟩ := h; obtain ⟨x19, hx19, hr⟩ := bind_some' hr; obtain ⟨A20, c21, e22, hc23, R24⟩ := id h11; obtain ⟨b25, o26, hA27, L28⟩ := Row.at_ R24 hx19; refine ol_v (e_ix (SlT.sl sl_35) (SlT.sz sl_35) hA27 hx19 e22 h13) rfl ?_; refine ol_v (e_ld ty_5 (LiesV.byte L28.at_) rfl) rfl ?_; refine ol_a rfl ?_; exact ol_fin hr ⟨F, hW, g3, p3, h3, h4, rfl, h11, h12, h13⟩
      refine Ref.region (fun s ρ w s' h hr => ?_); obtain ⟨F, hW, g3, p3, h3, h4, h6, h11, h12, h13⟩ := h; refine ol_m h4 ?_; obtain ⟨x29, hx29, hr⟩ := bind_some' hr; refine ol_e (f_call [.int .u64 s.h_4, .int .u64 (257 : Int)] fn_77 (lcons rfl (lcons rfl rfl)) (digest_mul.calls hW.ok s.h_4 (257 : Int) hx29)) rfl rfl ?_; rintro _ w30 ⟨Fz31, rfl, kw1⟩; have hW33 := hW.trans kw1; have st1 := kw1.stp hW.ok; refine ol_m h6 ?_; refine ol_v (e_conv (k := .u64) (by kernel_rfl) (by kernel_rfl) rfl) rfl ?_; refine ol_v (e_add rfl rfl) rfl ?_; refine ol_v (e_add rfl rfl) rfl ?_; refine ol_v (e_rem rfl rfl (by decide)) rfl ?_; refine ol_a rfl ?_; exact ol_fin hr ⟨Fz31, hW33, g3, p3, (h3.wk kw1 hW.ok), rfl, (h11.keep st1), h12, h13⟩
    refine Ref.region (fun s ρ w s' h hr => ?_); obtain ⟨F, hW, g3, p3, h3, h4, h11, h12, h13⟩ := h; refine ol_v (e_add h13 rfl) rfl ?_; refine ol_m rfl ?_; exact ol_fin hr ⟨F, hW, g3, p3, h3, h4, h11, h12, rfl⟩
  refine Ref.seq (B := G4 w0 F0) ?_ ?_
  · refine Ref.region (fun s ρ w s' h hr => ?_); obtain ⟨F, hW, g3, p3, h3, h4⟩ := h; refine ol_m h4 ?_; refine ol_v (e_conv (k := .i64) (by kernel_rfl) (by kernel_rfl) rfl) rfl ?_; refine ol_v (e_bld (cells := #[.int .i64 0, .int .i64 0]) bld_28 (vs := []) rfl rfl) rfl ?_; have hb34 : Val k_Fault F w (.agg #[.int .i64 0, .int .i64 0]) (⟨(0 : Int), (0 : Int)⟩ : Fault) := mk_Fault (val_int _ _) (val_int _ _); refine ol_a rfl ?_; refine ol_eN (f_stB hW h3 (FldS.whole _) ty_28 hb34 p3 rfl) rfl ?_; rintro - w35 ⟨hW36, ho37, hg1, st1⟩; exact ol_fin hr ⟨F, hW36, g3, rfl, p3, ho37⟩
  exact Ref.ret (fun s ρ w h => ⟨s, rfl, h⟩)
def post (w : World) (F : BSet) (r : R) (v : Value) (w' : World) : Prop := ∃ (F' : BSet) (v1' : Value), v = .tuple #[.int .i64 r.1, v1'] ∧ Wk nrow w F F' w' ∧ Val k_Fault F' w' v1' r.2
theorem calls {w : World} {F : BSet} (hok : ∀ b, F b → b < w.heap.size) {v0 : Value} {a0 : (List UInt8)} (h0 : SlR kByte F w v0 a0) {r : R} (hf : f a0 = some r) : Calls Try.prog 58 #[v0] w fun e w' => ∃ v, e = .returned v ∧ post w F r v w' := by
  obtain ⟨c, hc, href⟩ := ref w F; refine calls_of_ref (args := [v0]) _ Try.func58 hc rfl rfl href ?_ (retOf_some hf) ?_
  · exact ⟨F, Wk.refl hok, h0⟩
  · rintro ρ w' a ⟨s, rfl, F', hW, g3, h2, p3, h3⟩ hF; obtain ⟨u3, l3, k3⟩ := res_box (P := Try.prog) ty_28 h3; refine ⟨_, run_results (rs := [.tmp 2, .cell 3 28]) rfl hF (vs := [ρ 2, u3]) (⟨_, rfl, ⟨_, _, _, rfl, p3, l3, rfl⟩⟩), ?_⟩; have hv : resVal [ρ 2, u3] = .tuple #[.int .i64 s.t_2, u3] := by rw [h2]; rfl
    exact ⟨F', u3, hv, hW, k3⟩
end
end digest_Of

namespace objects_Digest
section
abbrev c1 (ρ : Env) (g1 : Nat) (w0 w : World) (F : BSet) (s : S) (X : Prop) : Prop := ρ 1 = .pointer (some ⟨g1, 0, none⟩) ∧ Box k_Object 37 (Bs w0 nrow) F w g1 s.o_1 ∧ X
abbrev c2 (ρ : Env) (g3 : Nat) (w0 w : World) (F : BSet) (s : S) (X : Prop) : Prop := ρ 3 = .pointer (some ⟨g3, 0, none⟩) ∧ Box k_Fault 28 (Bs w0 nrow) F w g3 s.t_3 ∧ X
abbrev c3 (ρ : Env) (g4 : Nat) (w0 w : World) (F : BSet) (s : S) (X : Prop) : Prop := ρ 4 = .pointer (some ⟨g4, 0, none⟩) ∧ Box k_Fault 28 (Bs w0 nrow) F w g4 s.f_4 ∧ X
abbrev c7 (w0 w : World) (F : BSet) (ρ : Env) (s : S) (X : Prop) : Prop := OwnV kByte 5 (Bs w0 nrow) F w (ρ 5) s.b_5 ∧ X
abbrev e8 (F : BSet) (w : World) (ρ : Env) (s : S) : Prop := SlR (kInt .i64) F w (ρ 24) s.t_24 ∧ ρ 25 = .int .i64 s.t_25 ∧ ρ 26 = .int .i64 s.t_26
def G0 : GT S := fun w0 F0 s ρ w => ∃ F, Wk nrow w0 F0 F w ∧ Val k_Object F w (ρ 0) s.o_0
def G1 : GT S := fun w0 F0 s ρ w => ∃ F, Wk nrow w0 F0 F w ∧ ∃ g1 g3, c1 ρ g1 w0 w F s (ρ 3 = .pointer (some ⟨g3, 0, none⟩) ∧ Box k_Fault 28 (Bs w0 nrow) F w g3 s.t_3)
def G2 : GT S := fun w0 F0 s ρ w => ∃ F, Wk nrow w0 F0 F w ∧ ∃ g1 g3 g4, c1 ρ g1 w0 w F s (c2 ρ g3 w0 w F s (c3 ρ g4 w0 w F s (Apart (some g3) (some g4))))
def G3 : GT S := fun w0 F0 s ρ w => ∃ F, Wk nrow w0 F0 F w ∧ ∃ g1 g3 g4, c1 ρ g1 w0 w F s (c2 ρ g3 w0 w F s (c3 ρ g4 w0 w F s (ρ 13 = .bool s.t_13 ∧ Apart (some g3) (some g4))))
def G4 : GT S := fun w0 F0 s ρ w => ∃ F, Wk nrow w0 F0 F w ∧ ∃ g3 g4, c2 ρ g3 w0 w F s (c3 ρ g4 w0 w F s (Apart (some g3) (some g4)))
def G5 : GT S := fun w0 F0 s ρ w => ∃ F, Wk nrow w0 F0 F w ∧ ∃ g3, ρ 2 = .int .i64 s.t_2 ∧ ρ 3 = .pointer (some ⟨g3, 0, none⟩) ∧ Box k_Fault 28 (Bs w0 nrow) F w g3 s.t_3
def G6 : GT S := fun w0 F0 s ρ w => ∃ F, Wk nrow w0 F0 F w ∧ ∃ g1 g3, c1 ρ g1 w0 w F s (c2 ρ g3 w0 w F s (OwnV kByte 5 (Bs w0 nrow) F w (ρ 5) s.b_5))
def G7 : GT S := fun w0 F0 s ρ w => ∃ F, Wk nrow w0 F0 F w ∧ ∃ g1 g3, c1 ρ g1 w0 w F s (c2 ρ g3 w0 w F s (c7 w0 w F ρ s (e8 F w ρ s)))
def G8 : GT S := fun w0 F0 s ρ w => ∃ F, Wk nrow w0 F0 F w ∧ ∃ g1 g3, c1 ρ g1 w0 w F s (c2 ρ g3 w0 w F s (c7 w0 w F ρ s (SlR (kInt .i64) F w (ρ 24) s.t_24 ∧ ρ 25 = .int .i64 s.t_25 ∧ ρ 26 = .int .i64 s.t_26 ∧ ρ 27 = .bool s.t_27)))
def G9 : GT S := fun w0 F0 s ρ w => ∃ F, Wk nrow w0 F0 F w ∧ ∃ g1 g3, c1 ρ g1 w0 w F s (c2 ρ g3 w0 w F s (c7 w0 w F ρ s (ρ 7 = .int .i64 s.d_7 ∧ e8 F w ρ s)))
def G10 : GT S := fun w0 F0 s ρ w => ∃ F, Wk nrow w0 F0 F w ∧ ∃ g1 g3, c1 ρ g1 w0 w F s (c2 ρ g3 w0 w F s (c7 w0 w F ρ s (ρ 7 = .int .i64 s.d_7 ∧ ρ 8 = .int .i64 s.s_8 ∧ e8 F w ρ s)))
def G11 : GT S := fun w0 F0 s ρ w => ∃ F, Wk nrow w0 F0 F w ∧ ∃ g1 g3, c1 ρ g1 w0 w F s (c2 ρ g3 w0 w F s (c7 w0 w F ρ s (ρ 7 = .int .i64 s.d_7 ∧ ρ 8 = .int .i64 s.s_8 ∧ SlR (kInt .i64) F w (ρ 24) s.t_24 ∧ ρ 25 = .int .i64 s.t_25 ∧ ρ 26 = .int .i64 s.t_26 ∧ ρ 31 = .bool s.t_31)))
set_option maxHeartbeats 4000000 in
set_option maxRecDepth 20000 in
theorem ref (w0 : World) (F0 : BSet) : ∃ c, Try.f44.body = some c ∧ Ref Try.prog 49 c (G0 w0 F0) body (fun _ _ _ => False) (fun _ _ _ _ => False) (fun r ρ w => ∃ s, retv s = r ∧ G5 w0 F0 s ρ w) := by
  refine ⟨_, rfl, ?_⟩; unfold body; refine Ref.seq (B := G1 w0 F0) ?_ ?_
  · refine Ref.region (fun s ρ w s' h hr => ?_); obtain ⟨F, hW, h0⟩ := h; refine ol_e (f_box hW rfl h0) rfl rfl ?_; rintro _ w2 ⟨g1, rfl, kw1, ho3⟩; have hW4 := hW.trans kw1; have st1 := kw1.stp hW.ok; refine ol_a rfl ?_; refine ol_e (f_alloc zer_28 hW4) rfl rfl ?_; rintro _ w6 ⟨g5, rfl, kw2, ho7⟩; have hW8 := hW4.trans kw2; have st2 := kw2.stp hW4.ok; exact ol_fin hr ⟨F, hW8, g1, g5, rfl, ((ho3.base (row := nrow) hW.le).wk kw2 hW4.ok), rfl, (ho7.base (row := nrow) hW4.le)⟩
  refine Ref.seq (B := G1 w0 F0) ?_ ?_
  · refine Ref.seq (B := G2 w0 F0) ?_ ?_
    · refine Ref.region (fun s ρ w s' h hr => ?_); obtain ⟨F, hW, g1, g3, p1, h1, p3, h3⟩ := h; obtain ⟨v9, hl10⟩ := LiesAt.v (h1).at_; refine ol_v (e_ld ty_37 hl10 p1) rfl ?_; obtain ⟨x11, hx11, hr⟩ := bind_some' hr; refine ol_e (f_call [v9] fn_57 (lcons rfl rfl) (objects_check.calls hW.ok hl10.val hx11)) rfl rfl ?_; rintro v14 w12 ⟨Fz13, _, rfl, kw1, hk15⟩; have hW17 := hW.trans kw1; have st1 := kw1.stp hW.ok; refine ol_e (f_alloc zer_28 hW17) rfl rfl ?_; rintro _ w19 ⟨g18, rfl, kw2, ho20⟩; have hW21 := hW17.trans kw2; have st2 := kw2.stp hW17.ok; refine ol_eN (f_stB hW21 (ho20.base (row := nrow) hW17.le) (FldS.whole _) ty_28 (hk15.keep st2) rfl rfl) rfl ?_; rintro - w22 ⟨hW23, ho24, hg3, st3⟩; have z1 := (h1.wk kw1 hW.ok).wk kw2 hW17.ok; have z2 := h3.wk kw1 hW.ok; exact ol_fin hr ⟨Fz13, hW23, g1, g3, g18, p1, (z1.mut (apart_bb (ho20.base (row := nrow) hW17.le) z1 rfl) hg3 st3), p3, ((z2.wk kw2 hW17.ok).mut (Apart.base (fun _ e_ => by cases e_; exact ho20.ge) z2.ltw) hg3 st3), rfl, ho24, (Apart.base (fun _ e_ => by cases e_; exact ho20.ge) z2.ltw).symm⟩
    refine Ref.seq (B := G3 w0 F0) ?_ ?_
    · refine Ref.region (fun s ρ w s' h hr => ?_); obtain ⟨F, hW, g1, g3, g4, p1, h1, p3, h3, p4, h4, a3b_4b⟩ := h; obtain ⟨v25, hl26⟩ := LiesAt.v (h4).at_; refine ol_v (e_ld ty_28 hl26 p4) rfl ?_; refine ol_v (e_bld (cells := #[.int .i64 0, .int .i64 0]) bld_28 (vs := []) rfl rfl) rfl ?_; have hb27 : Val k_Fault F w (.agg #[.int .i64 0, .int .i64 0]) (⟨(0 : Int), (0 : Int)⟩ : Fault) := mk_Fault (val_int _ _) (val_int _ _); refine ol_v (e_tneq (eq_Fault_28 hl26.val hb27) rfl rfl) rfl ?_; exact ol_fin hr ⟨F, hW, g1, g3, g4, p1, h1, p3, h3, p4, h4, rfl, a3b_4b⟩
    refine Ref.condP (b := fun s => s.t_13) (L := G4 w0 F0) (K := G1 w0 F0) ?_ ?_ ?_
    · rintro s ρ w ⟨F, hW, g1, g3, g4, p1, h1, p3, h3, p4, h4, h13, a3b_4b⟩; exact ⟨h13, ⟨F, hW, g3, g4, p3, h3, p4, h4, a3b_4b⟩, F, hW, g1, g3, p1, h1, p3, h3⟩
    · refine Ref.seq (B := G5 w0 F0) ?_ ?_
      · refine Ref.regionD 2 (by kernel_rfl) (by kernel_rfl) (fun s ρ w ⟨F, hW, g3, g4, p3, h3, p4, h4, a3b_4b⟩ => ⟨F, hW.drewS, g3, g4, p3, h3.wk (Wk.drew (row := nrow) hW.ok) hW.ok, p4, h4.wk (Wk.drew (row := nrow) hW.ok) hW.ok, a3b_4b⟩) (fun s ρ w s' h hr => ?_); obtain ⟨F, hW, g3, g4, p3, h3, p4, h4, a3b_4b⟩ := h; obtain ⟨v28, hl29⟩ := LiesAt.v (h4).at_; refine ol_v (e_ld ty_28 hl29 p4) rfl ?_; refine ol_a rfl ?_; refine ol_eN (f_stB hW h3 (FldS.whole _) ty_28 hl29.val p3 rfl) rfl ?_; rintro - w30 ⟨hW31, ho32, hg1, st1⟩; exact ol_fin hr ⟨F, hW31, g3, rfl, p3, ho32⟩
      exact Ref.ret (fun s ρ w h => ⟨s, rfl, h⟩)
    · exact Ref.skip
  refine Ref.seq (B := G6 w0 F0) ?_ ?_
  · refine Ref.region (fun s ρ w s' h hr => ?_); obtain ⟨F, hW, g1, g3, p1, h1, p3, h3⟩ := h; refine ol_v (e_fa fa_37_0 p1) rfl ?_; refine ol_v (e_ld ty_3 (LiesV.int ((h1).at_.fld fl_Object_0)) rfl) rfl ?_; refine ol_v (e_convB (by kernel_rfl) (by kernel_rfl) rfl) rfl ?_; refine ol_v (e_fa fa_37_1 p1) rfl ?_; obtain ⟨v33, hl34, hs35⟩ := LiesV.sl ((h1).at_.fld fl_Object_1); refine ol_v (e_ld ty_26 hl34 rfl) rfl ?_; obtain ⟨A36, c37, e38, hc39, R40⟩ := id hs35; refine ol_v (e_len (SlT.sl sl_26) e38) rfl ?_; refine ol_v (e_convB (by kernel_rfl) (by kernel_rfl) rfl) rfl ?_; refine ol_e (f_bsl sl_35 hW ([toByte s.o_1.Kind, toByte (s.o_1.Links.length : Int)] : List UInt8) [.int .u8 ((toByte s.o_1.Kind).toNat : Int), .int .u8 ((toByte (s.o_1.Links.length : Int)).toNat : Int)] (by exact ⟨_, _, rfl, (val_byte _), ⟨_, _, rfl, (val_byte _), rfl⟩⟩) rfl (Nat.le_of_ble_eq_true rfl) (lcons (congrArg (Prod.mk 0) rfl) (lcons (congrArg (Prod.mk 1) rfl) rfl))) rfl rfl ?_; rintro v41 w42 ⟨kw1, ho43⟩; have hW44 := hW.trans kw1; have st1 := kw1.stp hW.ok; refine ol_a rfl ?_; exact ol_fin hr ⟨F, hW44, g1, g3, p1, (h1.wk kw1 hW.ok), p3, (h3.wk kw1 hW.ok), (ho43.base (row := nrow) hW.le)⟩
  refine Ref.seq (B := G6 w0 F0) ?_ ?_
  · refine Ref.seq (B := G7 w0 F0) ?_ ?_
    · refine Ref.region (fun s ρ w s' h hr => ?_); obtain ⟨F, hW, g1, g3, p1, h1, p3, h3, h5⟩ := h; refine ol_v (e_fa fa_37_1 p1) rfl ?_; obtain ⟨v45, hl46, hs47⟩ := LiesV.sl ((h1).at_.fld fl_Object_1); refine ol_v (e_ld ty_26 hl46 rfl) rfl ?_; obtain ⟨A48, c49, e50, hc51, R52⟩ := id hs47; refine ol_v (e_len (SlT.sl sl_26) e50) rfl ?_; refine ol_m rfl ?_; exact ol_fin hr ⟨F, hW, g1, g3, p1, h1, p3, h3, h5, hs47, rfl, rfl⟩
    refine Ref.block ?_; refine Ref.loop ?_; refine Ref.seq (B := G8 w0 F0) ?_ ?_
    · refine Ref.region (fun s ρ w s' h hr => ?_); obtain ⟨F, hW, g1, g3, p1, h1, p3, h3, h5, h24, h25, h26⟩ := h; refine ol_v (e_lss h26 h25) rfl ?_; exact ol_fin hr ⟨F, hW, g1, g3, p1, h1, p3, h3, h5, h24, h25, h26, rfl⟩
    refine Ref.seq (B := G7 w0 F0) ?_ ?_
    · refine Ref.condP (b := fun s => s.t_27) (L := G7 w0 F0) (K := G6 w0 F0) ?_ ?_ ?_
      · rintro s ρ w ⟨F, hW, g1, g3, p1, h1, p3, h3, h5, h24, h25, h26, h27⟩; exact ⟨h27, ⟨F, hW, g1, g3, p1, h1, p3, h3, h5, h24, h25, h26⟩, F, hW, g1, g3, p1, h1, p3, h3, h5⟩
      · exact Ref.skip
      · exact Ref.exit (fun s ρ w h => h)
    refine Ref.seq (B := G7 w0 F0) ?_ ?_
    · refine Ref.block ?_; refine Ref.seq (B := G9 w0 F0) ?_ ?_
      · refine Ref.region (fun s ρ w s' h hr => ?_); obtain ⟨F, hW, g1, g3, p1, h1, p3, h3, h5, h24, h25, h26⟩ := h; obtain ⟨x53, hx53, hr⟩ := bind_some' hr; obtain ⟨A54, c55, e56, hc57, R58⟩ := id h24; obtain ⟨b59, o60, hA61, L62⟩ := Row.at_ R58 hx53; refine ol_v (e_ix (SlT.sl sl_26) (SlT.sz sl_26) hA61 hx53 e56 h26) rfl ?_; refine ol_v (e_ld ty_3 (LiesV.int L62.at_) rfl) rfl ?_; refine ol_a rfl ?_; exact ol_fin hr ⟨F, hW, g1, g3, p1, h1, p3, h3, h5, rfl, h24, h25, h26⟩
      refine Ref.seq (B := G10 w0 F0) ?_ ?_
      · refine Ref.region (fun s ρ w s' h hr => ?_); obtain ⟨F, hW, g1, g3, p1, h1, p3, h3, h5, h7, h24, h25, h26⟩ := h; refine ol_a rfl ?_; exact ol_fin hr ⟨F, hW, g1, g3, p1, h1, p3, h3, h5, h7, rfl, h24, h25, h26⟩
      refine Ref.block ?_; refine Ref.loop ?_; refine Ref.seq (B := G10 w0 F0) ?_ ?_
      · refine Ref.seq (B := G11 w0 F0) ?_ ?_
        · refine Ref.region (fun s ρ w s' h hr => ?_); obtain ⟨F, hW, g1, g3, p1, h1, p3, h3, h5, h7, h8, h24, h25, h26⟩ := h; refine ol_m h8 ?_; refine ol_v (e_geq rfl rfl) rfl ?_; exact ol_fin hr ⟨F, hW, g1, g3, p1, h1, p3, h3, h5, h7, h8, h24, h25, h26, rfl⟩
        refine Ref.condP (b := fun s => s.t_31) (L := G10 w0 F0) (K := G7 w0 F0) ?_ ?_ ?_
        · rintro s ρ w ⟨F, hW, g1, g3, p1, h1, p3, h3, h5, h7, h8, h24, h25, h26, h31⟩; exact ⟨h31, ⟨F, hW, g1, g3, p1, h1, p3, h3, h5, h7, h8, h24, h25, h26⟩, F, hW, g1, g3, p1, h1, p3, h3, h5, h24, h25, h26⟩
        · exact Ref.skip
        · exact Ref.exit (fun s ρ w h => h)
      refine Ref.seq (B := G10 w0 F0) ?_ ?_
      · refine Ref.block ?_; refine Ref.region (fun s ρ w s' h hr => ?_); obtain ⟨F, hW, g1, g3, p1, h1, p3, h3, h5, h7, h8, h24, h25, h26⟩ := h; refine ol_m rfl ?_; refine ol_m h7 ?_; refine ol_m h8 ?_; obtain ⟨hc63, hr⟩ := ite_some hr; refine ol_v (e_shrV rfl rfl hc63) rfl ?_; refine ol_v (e_convB (by kernel_rfl) (by kernel_rfl) rfl) rfl ?_; refine ol_e (f_bslF sl_35 hW ([toByte (shrV .i64 s.d_7 s.s_8)] : List UInt8) [.int .u8 ((toByte (shrV .i64 s.d_7 s.s_8)).toNat : Int)] (by exact ⟨_, _, rfl, (val_byte _), rfl⟩) rfl (Nat.le_of_ble_eq_true rfl) (lcons (congrArg (Prod.mk 0) rfl) rfl)) rfl rfl ?_; rintro v64 w65 ⟨Fz67, kw1, ho66⟩; have hW68 := hW.trans kw1; have st1 := kw1.stp hW.ok; obtain ⟨x69, hx69, hr⟩ := bind_some' hr; have z3 := h5.wk kw1 hW.ok; refine ol_e (f_app sl_35 hW68 z3 ho66 hx69 rfl rfl) rfl rfl ?_; rintro v70 w71 ⟨hW72, ho73, hg2, st2, hor74⟩; refine ol_a rfl ?_; exact ol_fin hr ⟨Fz67, hW72, g1, g3, p1, ((h1.wk kw1 hW.ok).mut (apart_bo (h1.wk kw1 hW.ok) z3 rfl).symm hg2 st2), p3, ((h3.wk kw1 hW.ok).mut (apart_bo (h3.wk kw1 hW.ok) z3 rfl).symm hg2 st2), ho73, h7, h8, (h24.keep (st1.trans st2)), h25, h26⟩
      refine Ref.region (fun s ρ w s' h hr => ?_); obtain ⟨F, hW, g1, g3, p1, h1, p3, h3, h5, h7, h8, h24, h25, h26⟩ := h; refine ol_m h8 ?_; refine ol_v (e_sub rfl rfl) rfl ?_; refine ol_a rfl ?_; exact ol_fin hr ⟨F, hW, g1, g3, p1, h1, p3, h3, h5, h7, rfl, h24, h25, h26⟩
    refine Ref.region (fun s ρ w s' h hr => ?_); obtain ⟨F, hW, g1, g3, p1, h1, p3, h3, h5, h24, h25, h26⟩ := h; refine ol_v (e_add h26 rfl) rfl ?_; refine ol_m rfl ?_; exact ol_fin hr ⟨F, hW, g1, g3, p1, h1, p3, h3, h5, h24, h25, rfl⟩
  refine Ref.seq (B := G5 w0 F0) ?_ ?_
  · refine Ref.region (fun s ρ w s' h hr => ?_); obtain ⟨F, hW, g1, g3, p1, h1, p3, h3, h5⟩ := h; refine ol_m rfl ?_; refine ol_v (e_fa fa_37_2 p1) rfl ?_; obtain ⟨v75, hl76, hs77⟩ := LiesV.sl ((h1).at_.fld fl_Object_2); refine ol_v (e_ld ty_35 hl76 rfl) rfl ?_; obtain ⟨x78, hx78, hr⟩ := bind_some' hr; refine ol_e (f_app sl_35 hW h5 hs77 hx78 rfl rfl) rfl rfl ?_; rintro v79 w80 ⟨hW81, ho82, hg1, st1, hor83⟩; obtain ⟨Fl84, okl84, stl84, hFl84, hl84⟩ := OwnV.lent ho82 hW81.ok; obtain ⟨x85, hx85, hr⟩ := bind_some' hr; refine ol_e (f_call [v79] fn_58 (lcons rfl rfl) (digest_Of.calls okl84 hl84 hx85)) rfl rfl ?_; rintro _ w86 ⟨Fz87, v88, rfl, kw2, hk89⟩; have ko91 := kw2; have kw2 := kw2.lend hW81.ok; have hW92 := hW81.trans kw2; have st2 := kw2.stp hW81.ok; refine ol_v (e_ext _ rfl rfl) rfl ?_; refine ol_v (e_ext _ rfl rfl) rfl ?_; refine ol_a rfl ?_; refine ol_eN (f_stB hW92 ((h3.mut (apart_bo h3 h5 rfl).symm hg1 st1).wk kw2 hW81.ok) (FldS.whole _) ty_28 (Val.plain plain_Fault hk89) p3 rfl) rfl ?_; rintro - w93 ⟨hW94, ho95, hg3, st3⟩; exact ol_fin hr ⟨F, hW94, g3, rfl, p3, ho95⟩
  exact Ref.ret (fun s ρ w h => ⟨s, rfl, h⟩)
def post (w : World) (F : BSet) (r : R) (v : Value) (w' : World) : Prop := ∃ (F' : BSet) (v1' : Value), v = .tuple #[.int .i64 r.1, v1'] ∧ Wk nrow w F F' w' ∧ Val k_Fault F' w' v1' r.2
theorem calls {w : World} {F : BSet} (hok : ∀ b, F b → b < w.heap.size) {v0 : Value} {a0 : Object} (h0 : Val k_Object F w v0 a0) {r : R} (hf : f a0 = some r) : Calls Try.prog 44 #[v0] w fun e w' => ∃ v, e = .returned v ∧ post w F r v w' := by
  obtain ⟨c, hc, href⟩ := ref w F; refine calls_of_ref (args := [v0]) _ Try.func44 hc rfl rfl href ?_ (retOf_some hf) ?_
  · exact ⟨F, Wk.refl hok, h0⟩
  · rintro ρ w' a ⟨s, rfl, F', hW, g3, h2, p3, h3⟩ hF; obtain ⟨u3, l3, k3⟩ := res_box (P := Try.prog) ty_28 h3; refine ⟨_, run_results (rs := [.tmp 2, .cell 3 28]) rfl hF (vs := [ρ 2, u3]) (⟨_, rfl, ⟨_, _, _, rfl, p3, l3, rfl⟩⟩), ?_⟩; have hv : resVal [ρ 2, u3] = .tuple #[.int .i64 s.t_2, u3] := by rw [h2]; rfl
    exact ⟨F', u3, hv, hW, k3⟩
end
end objects_Digest

namespace objects_Validate
section
abbrev c1 (ρ : Env) (g1 : Nat) (w0 w : World) (F : BSet) (s : S) (X : Prop) : Prop := ρ 1 = .pointer (some ⟨g1, 0, none⟩) ∧ Box k_ObjectStore 24 (Bs w0 nrow) F w g1 s.s_1 ∧ X
abbrev c2 (ρ : Env) (g2 : Nat) (w0 w : World) (F : BSet) (s : S) (X : Prop) : Prop := ρ 2 = .pointer (some ⟨g2, 0, none⟩) ∧ Box k_Fault 28 (Bs w0 nrow) F w g2 s.t_2 ∧ X
abbrev c4 (F : BSet) (w : World) (ρ : Env) (s : S) (X : Prop) : Prop := SlR k_StoredObject F w (ρ 13) s.t_13 ∧ ρ 14 = .int .i64 s.t_14 ∧ ρ 15 = .int .i64 s.t_15 ∧ X
abbrev e4 (F : BSet) (w : World) (ρ : Env) (s : S) : Prop := SlR k_StoredObject F w (ρ 13) s.t_13 ∧ ρ 14 = .int .i64 s.t_14 ∧ ρ 15 = .int .i64 s.t_15
abbrev c6 (ρ : Env) (s : S) (X : Prop) : Prop := ρ 3 = .int .i64 s.i_3 ∧ X
abbrev c7 (ρ : Env) (g4 : Nat) (w0 w : World) (F : BSet) (s : S) (X : Prop) : Prop := ρ 4 = .pointer (some ⟨g4, 0, none⟩) ∧ Box k_StoredObject 39 (Bs w0 nrow) F w g4 s.o_4 ∧ X
abbrev c8 (ρ : Env) (s : S) (X : Prop) : Prop := ρ 5 = .int .i64 s.d_5 ∧ X
abbrev c9 (ρ : Env) (g6 : Nat) (w0 w : World) (F : BSet) (s : S) (X : Prop) : Prop := ρ 6 = .pointer (some ⟨g6, 0, none⟩) ∧ Box k_Fault 28 (Bs w0 nrow) F w g6 s.f_6 ∧ X
def G0 : GT S := fun w0 F0 s ρ w => ∃ F, Wk nrow w0 F0 F w ∧ Val k_ObjectStore F w (ρ 0) s.s_0
def G1 : GT S := fun w0 F0 s ρ w => ∃ F, Wk nrow w0 F0 F w ∧ ∃ g1 g2, c1 ρ g1 w0 w F s (ρ 2 = .pointer (some ⟨g2, 0, none⟩) ∧ Box k_Fault 28 (Bs w0 nrow) F w g2 s.t_2)
def G2 : GT S := fun w0 F0 s ρ w => ∃ F, Wk nrow w0 F0 F w ∧ ∃ g1 g2, c1 ρ g1 w0 w F s (c2 ρ g2 w0 w F s (ρ 10 = .bool s.t_10))
def G3 : GT S := fun w0 F0 s ρ w => ∃ F, Wk nrow w0 F0 F w ∧ ∃ g2, ρ 2 = .pointer (some ⟨g2, 0, none⟩) ∧ Box k_Fault 28 (Bs w0 nrow) F w g2 s.t_2
def G4 : GT S := fun w0 F0 s ρ w => ∃ F, Wk nrow w0 F0 F w ∧ ∃ g1 g2, c1 ρ g1 w0 w F s (c2 ρ g2 w0 w F s (e4 F w ρ s))
def G5 : GT S := fun w0 F0 s ρ w => ∃ F, Wk nrow w0 F0 F w ∧ ∃ g1 g2, c1 ρ g1 w0 w F s (c2 ρ g2 w0 w F s (c4 F w ρ s (ρ 16 = .bool s.t_16)))
def G6 : GT S := fun w0 F0 s ρ w => ∃ F, Wk nrow w0 F0 F w ∧ ∃ g1 g2 g4, c1 ρ g1 w0 w F s (c2 ρ g2 w0 w F s (c6 ρ s (c7 ρ g4 w0 w F s (e4 F w ρ s))))
def G7 : GT S := fun w0 F0 s ρ w => ∃ F, Wk nrow w0 F0 F w ∧ ∃ g1 g2 g4 g6, c1 ρ g1 w0 w F s (c2 ρ g2 w0 w F s (c6 ρ s (c7 ρ g4 w0 w F s (c8 ρ s (c9 ρ g6 w0 w F s (c4 F w ρ s (Apart (some g2) (some g6))))))))
def G8 : GT S := fun w0 F0 s ρ w => ∃ F, Wk nrow w0 F0 F w ∧ ∃ g1 g2 g4 g6, c1 ρ g1 w0 w F s (c2 ρ g2 w0 w F s (c6 ρ s (c7 ρ g4 w0 w F s (c8 ρ s (c9 ρ g6 w0 w F s (c4 F w ρ s (ρ 26 = .bool s.t_26 ∧ Apart (some g2) (some g6))))))))
def G9 : GT S := fun w0 F0 s ρ w => ∃ F, Wk nrow w0 F0 F w ∧ ∃ g2 g6, c2 ρ g2 w0 w F s (c6 ρ s (c9 ρ g6 w0 w F s (Apart (some g2) (some g6))))
def G10 : GT S := fun w0 F0 s ρ w => ∃ F, Wk nrow w0 F0 F w ∧ ∃ g1 g2 g4, c1 ρ g1 w0 w F s (c2 ρ g2 w0 w F s (c6 ρ s (c7 ρ g4 w0 w F s (c8 ρ s (e4 F w ρ s)))))
def G11 : GT S := fun w0 F0 s ρ w => ∃ F, Wk nrow w0 F0 F w ∧ ∃ g1 g2, c1 ρ g1 w0 w F s (c2 ρ g2 w0 w F s (c6 ρ s (c8 ρ s (c4 F w ρ s (ρ 34 = .bool s.t_34)))))
def G12 : GT S := fun w0 F0 s ρ w => ∃ F, Wk nrow w0 F0 F w ∧ ∃ g2, c2 ρ g2 w0 w F s (ρ 3 = .int .i64 s.i_3)
def G13 : GT S := fun w0 F0 s ρ w => ∃ F, Wk nrow w0 F0 F w ∧ ∃ g1 g2, c1 ρ g1 w0 w F s (c2 ρ g2 w0 w F s (c6 ρ s (c8 ρ s (e4 F w ρ s))))
def G14 : GT S := fun w0 F0 s ρ w => ∃ F, Wk nrow w0 F0 F w ∧ ∃ g1 g2, c1 ρ g1 w0 w F s (c2 ρ g2 w0 w F s (c6 ρ s (c4 F w ρ s (ρ 41 = .bool s.t_41))))
set_option maxHeartbeats 4000000 in
set_option maxRecDepth 20000 in
theorem ref (w0 : World) (F0 : BSet) : ∃ c, Try.f26.body = some c ∧ Ref Try.prog 59 c (G0 w0 F0) body (fun _ _ _ => False) (fun _ _ _ _ => False) (fun r ρ w => ∃ s, retv s = r ∧ G3 w0 F0 s ρ w) := by
  refine ⟨_, rfl, ?_⟩; unfold body; refine Ref.seq (B := G1 w0 F0) ?_ ?_
  · refine Ref.region (fun s ρ w s' h hr => ?_); obtain ⟨F, hW, h0⟩ := h; refine ol_e (f_box hW rfl h0) rfl rfl ?_; rintro _ w2 ⟨g1, rfl, kw1, ho3⟩; have hW4 := hW.trans kw1; have st1 := kw1.stp hW.ok; refine ol_e (f_alloc zer_28 hW4) rfl rfl ?_; rintro _ w6 ⟨g5, rfl, kw2, ho7⟩; have hW8 := hW4.trans kw2; have st2 := kw2.stp hW4.ok; exact ol_fin hr ⟨F, hW8, g1, g5, rfl, ((ho3.base (row := nrow) hW.le).wk kw2 hW4.ok), rfl, (ho7.base (row := nrow) hW4.le)⟩
  refine Ref.seq (B := G1 w0 F0) ?_ ?_
  · refine Ref.seq (B := G2 w0 F0) ?_ ?_
    · refine Ref.region (fun s ρ w s' h hr => ?_); obtain ⟨F, hW, g1, g2, p1, h1, p2, h2⟩ := h; refine ol_v (e_fa fa_24_0 p1) rfl ?_; obtain ⟨v9, hl10, hs11⟩ := LiesV.sl ((h1).at_.fld fl_ObjectStore_0); refine ol_v (e_ld ty_22 hl10 rfl) rfl ?_; obtain ⟨A12, c13, e14, hc15, R16⟩ := id hs11; refine ol_v (e_len (SlT.sl sl_22) e14) rfl ?_; refine ol_v (e_gtr rfl rfl) rfl ?_; exact ol_fin hr ⟨F, hW, g1, g2, p1, h1, p2, h2, rfl⟩
    refine Ref.condP (b := fun s => s.t_10) (L := G3 w0 F0) (K := G1 w0 F0) ?_ ?_ ?_
    · rintro s ρ w ⟨F, hW, g1, g2, p1, h1, p2, h2, h10⟩; exact ⟨h10, ⟨F, hW, g2, p2, h2⟩, F, hW, g1, g2, p1, h1, p2, h2⟩
    · refine Ref.seq (B := G3 w0 F0) ?_ ?_
      · refine Ref.region (fun s ρ w s' h hr => ?_); obtain ⟨F, hW, g2, p2, h2⟩ := h; refine ol_v (e_bld (cells := #[.int .i64 (2), .int .i64 0]) bld_28 (vs := [(0, .int .i64 (2))]) (lcons (congrArg (Prod.mk 0) rfl) rfl) rfl) rfl ?_; have hb17 : Val k_Fault F w (.agg #[.int .i64 (2), .int .i64 0]) (⟨(2 : Int), (0 : Int)⟩ : Fault) := mk_Fault (val_int _ _) (val_int _ _); refine ol_eN (f_stB hW h2 (FldS.whole _) ty_28 hb17 p2 rfl) rfl ?_; rintro - w18 ⟨hW19, ho20, hg1, st1⟩; exact ol_fin hr ⟨F, hW19, g2, p2, ho20⟩
      exact Ref.ret (fun s ρ w h => ⟨s, rfl, h⟩)
    · exact Ref.skip
  refine Ref.seq (B := G3 w0 F0) ?_ ?_
  · refine Ref.seq (B := G4 w0 F0) ?_ ?_
    · refine Ref.region (fun s ρ w s' h hr => ?_); obtain ⟨F, hW, g1, g2, p1, h1, p2, h2⟩ := h; refine ol_v (e_fa fa_24_0 p1) rfl ?_; obtain ⟨v21, hl22, hs23⟩ := LiesV.sl ((h1).at_.fld fl_ObjectStore_0); refine ol_v (e_ld ty_22 hl22 rfl) rfl ?_; obtain ⟨A24, c25, e26, hc27, R28⟩ := id hs23; refine ol_v (e_len (SlT.sl sl_22) e26) rfl ?_; refine ol_m rfl ?_; exact ol_fin hr ⟨F, hW, g1, g2, p1, h1, p2, h2, hs23, rfl, rfl⟩
    refine Ref.block ?_; refine Ref.loop ?_; refine Ref.seq (B := G5 w0 F0) ?_ ?_
    · refine Ref.region (fun s ρ w s' h hr => ?_); obtain ⟨F, hW, g1, g2, p1, h1, p2, h2, h13, h14, h15⟩ := h; refine ol_v (e_lss h15 h14) rfl ?_; exact ol_fin hr ⟨F, hW, g1, g2, p1, h1, p2, h2, h13, h14, h15, rfl⟩
    refine Ref.seq (B := G4 w0 F0) ?_ ?_
    · refine Ref.condP (b := fun s => s.t_16) (L := G4 w0 F0) (K := G3 w0 F0) ?_ ?_ ?_
      · rintro s ρ w ⟨F, hW, g1, g2, p1, h1, p2, h2, h13, h14, h15, h16⟩; exact ⟨h16, ⟨F, hW, g1, g2, p1, h1, p2, h2, h13, h14, h15⟩, F, hW, g2, p2, h2⟩
      · exact Ref.skip
      · exact Ref.exit (fun s ρ w h => h)
    refine Ref.seq (B := G4 w0 F0) ?_ ?_
    · refine Ref.block ?_; refine Ref.seq (B := G6 w0 F0) ?_ ?_
      · refine Ref.region (fun s ρ w s' h hr => ?_); obtain ⟨F, hW, g1, g2, p1, h1, p2, h2, h13, h14, h15⟩ := h; refine ol_m h15 ?_; obtain ⟨x29, hx29, hr⟩ := bind_some' hr; obtain ⟨A30, c31, e32, hc33, R34⟩ := id h13; obtain ⟨b35, o36, hA37, L38⟩ := Row.at_ R34 hx29; refine ol_v (e_ix (SlT.sl sl_22) (SlT.sz sl_22) hA37 hx29 e32 h15) rfl ?_; obtain ⟨v39, hl40⟩ := LiesAt.v L38.at_; refine ol_v (e_ld ty_39 hl40 rfl) rfl ?_; refine ol_e (f_alloc zer_39 hW) rfl rfl ?_; rintro _ w42 ⟨g41, rfl, kw1, ho43⟩; have hW44 := hW.trans kw1; have st1 := kw1.stp hW.ok; refine ol_a rfl ?_; refine ol_eN (f_stB hW44 (ho43.base (row := nrow) hW.le) (FldS.whole _) ty_39 (hl40.val.keep st1) rfl rfl) rfl ?_; rintro - w45 ⟨hW46, ho47, hg2, st2⟩; exact ol_fin hr ⟨F, hW46, g1, g2, g41, p1, ((h1.wk kw1 hW.ok).mut (apart_bb (ho43.base (row := nrow) hW.le) (h1.wk kw1 hW.ok) rfl) hg2 st2), p2, ((h2.wk kw1 hW.ok).mut (apart_bb (ho43.base (row := nrow) hW.le) (h2.wk kw1 hW.ok) rfl) hg2 st2), rfl, rfl, ho47, (h13.keep (st1.trans st2)), h14, h15⟩
      refine Ref.seq (B := G7 w0 F0) ?_ ?_
      · refine Ref.region (fun s ρ w s' h hr => ?_); obtain ⟨F, hW, g1, g2, g4, p1, h1, p2, h2, h3, p4, h4, h13, h14, h15⟩ := h; refine ol_v (e_fa fa_39_1 p4) rfl ?_; obtain ⟨v48, hl49⟩ := LiesAt.v ((h4).at_.fld fl_StoredObject_1); refine ol_v (e_ld ty_37 hl49 rfl) rfl ?_; obtain ⟨x50, hx50, hr⟩ := bind_some' hr; refine ol_e (f_call [v48] fn_44 (lcons rfl rfl) (objects_Digest.calls hW.ok hl49.val hx50)) rfl rfl ?_; rintro _ w51 ⟨Fz52, v53, rfl, kw1, hk54⟩; have hW56 := hW.trans kw1; have st1 := kw1.stp hW.ok; refine ol_m rfl ?_; refine ol_v (e_ext _ rfl rfl) rfl ?_; refine ol_v (e_ext _ rfl rfl) rfl ?_; refine ol_e (f_alloc zer_28 hW56) rfl rfl ?_; rintro _ w58 ⟨g57, rfl, kw2, ho59⟩; have hW60 := hW56.trans kw2; have st2 := kw2.stp hW56.ok; refine ol_a rfl ?_; refine ol_eN (f_stB hW60 (ho59.base (row := nrow) hW56.le) (FldS.whole _) ty_28 (hk54.keep st2) rfl rfl) rfl ?_; rintro - w61 ⟨hW62, ho63, hg3, st3⟩; have z1 := (h1.wk kw1 hW.ok).wk kw2 hW56.ok; have z2 := (h4.wk kw1 hW.ok).wk kw2 hW56.ok; have z3 := h2.wk kw1 hW.ok; exact ol_fin hr ⟨Fz52, hW62, g1, g2, g4, g57, p1, (z1.mut (apart_bb (ho59.base (row := nrow) hW56.le) z1 rfl) hg3 st3), p2, ((z3.wk kw2 hW56.ok).mut (Apart.base (fun _ e_ => by cases e_; exact ho59.ge) z3.ltw) hg3 st3), h3, p4, (z2.mut (apart_bb (ho59.base (row := nrow) hW56.le) z2 rfl) hg3 st3), rfl, rfl, ho63, (h13.keep (st1.trans (st2.trans st3))), h14, h15, (Apart.base (fun _ e_ => by cases e_; exact ho59.ge) z3.ltw).symm⟩
      refine Ref.block ?_; refine Ref.seq (B := G8 w0 F0) ?_ ?_
      · refine Ref.region (fun s ρ w s' h hr => ?_); obtain ⟨F, hW, g1, g2, g4, g6, p1, h1, p2, h2, h3, p4, h4, h5, p6, h6, h13, h14, h15, a2b_6b⟩ := h; obtain ⟨v64, hl65⟩ := LiesAt.v (h6).at_; refine ol_v (e_ld ty_28 hl65 p6) rfl ?_; refine ol_v (e_bld (cells := #[.int .i64 0, .int .i64 0]) bld_28 (vs := []) rfl rfl) rfl ?_; have hb66 : Val k_Fault F w (.agg #[.int .i64 0, .int .i64 0]) (⟨(0 : Int), (0 : Int)⟩ : Fault) := mk_Fault (val_int _ _) (val_int _ _); refine ol_v (e_tneq (eq_Fault_28 hl65.val hb66) rfl rfl) rfl ?_; refine ol_a rfl ?_; exact ol_fin hr ⟨F, hW, g1, g2, g4, g6, p1, h1, p2, h2, h3, p4, h4, h5, p6, h6, h13, h14, h15, rfl, a2b_6b⟩
      refine Ref.condP (b := fun s => s.t_26) (L := G9 w0 F0) (K := G10 w0 F0) ?_ ?_ ?_
      · rintro s ρ w ⟨F, hW, g1, g2, g4, g6, p1, h1, p2, h2, h3, p4, h4, h5, p6, h6, h13, h14, h15, h26, a2b_6b⟩; exact ⟨h26, ⟨F, hW, g2, g6, p2, h2, h3, p6, h6, a2b_6b⟩, F, hW, g1, g2, g4, p1, h1, p2, h2, h3, p4, h4, h5, h13, h14, h15⟩
      · refine Ref.seq (B := G3 w0 F0) ?_ ?_
        · refine Ref.region (fun s ρ w s' h hr => ?_); obtain ⟨F, hW, g2, g6, p2, h2, h3, p6, h6, a2b_6b⟩ := h; refine ol_v (e_fa fa_28_0 p6) rfl ?_; refine ol_v (e_ld ty_3 (LiesV.int ((h6).at_.fld fl_Fault_0)) rfl) rfl ?_; refine ol_m h3 ?_; refine ol_v (e_bld (cells := #[.int .i64 s.f_6.Code, .int .i64 s.i_3]) bld_28 (vs := [(0, .int .i64 s.f_6.Code), (1, .int .i64 s.i_3)]) (lcons (congrArg (Prod.mk 0) rfl) (lcons (congrArg (Prod.mk 1) rfl) rfl)) rfl) rfl ?_; have hb67 : Val k_Fault F w (.agg #[.int .i64 s.f_6.Code, .int .i64 s.i_3]) (⟨s.f_6.Code, s.i_3⟩ : Fault) := mk_Fault (val_int _ _) (val_int _ _); refine ol_eN (f_stB hW h2 (FldS.whole _) ty_28 hb67 p2 rfl) rfl ?_; rintro - w68 ⟨hW69, ho70, hg1, st1⟩; exact ol_fin hr ⟨F, hW69, g2, p2, ho70⟩
        exact Ref.ret (fun s ρ w h => ⟨s, rfl, h⟩)
      · refine Ref.seq (B := G11 w0 F0) ?_ ?_
        · refine Ref.region (fun s ρ w s' h hr => ?_); obtain ⟨F, hW, g1, g2, g4, p1, h1, p2, h2, h3, p4, h4, h5, h13, h14, h15⟩ := h; refine ol_m h5 ?_; refine ol_v (e_fa fa_39_0 p4) rfl ?_; refine ol_v (e_ld ty_3 (LiesV.int ((h4).at_.fld fl_StoredObject_0)) rfl) rfl ?_; refine ol_v (e_neq rfl rfl) rfl ?_; refine ol_a rfl ?_; exact ol_fin hr ⟨F, hW, g1, g2, p1, h1, p2, h2, h3, h5, h13, h14, h15, rfl⟩
        refine Ref.condP (b := fun s => s.t_34) (L := G12 w0 F0) (K := G13 w0 F0) ?_ ?_ ?_
        · rintro s ρ w ⟨F, hW, g1, g2, p1, h1, p2, h2, h3, h5, h13, h14, h15, h34⟩; exact ⟨h34, ⟨F, hW, g2, p2, h2, h3⟩, F, hW, g1, g2, p1, h1, p2, h2, h3, h5, h13, h14, h15⟩
        · refine Ref.seq (B := G3 w0 F0) ?_ ?_
          · refine Ref.region (fun s ρ w s' h hr => ?_); obtain ⟨F, hW, g2, p2, h2, h3⟩ := h; refine ol_m h3 ?_; refine ol_v (e_bld (cells := #[.int .i64 (18), .int .i64 s.i_3]) bld_28 (vs := [(0, .int .i64 (18)), (1, .int .i64 s.i_3)]) (lcons (congrArg (Prod.mk 0) rfl) (lcons (congrArg (Prod.mk 1) rfl) rfl)) rfl) rfl ?_; have hb71 : Val k_Fault F w (.agg #[.int .i64 (18), .int .i64 s.i_3]) (⟨(18 : Int), s.i_3⟩ : Fault) := mk_Fault (val_int _ _) (val_int _ _); refine ol_eN (f_stB hW h2 (FldS.whole _) ty_28 hb71 p2 rfl) rfl ?_; rintro - w72 ⟨hW73, ho74, hg1, st1⟩; exact ol_fin hr ⟨F, hW73, g2, p2, ho74⟩
          exact Ref.ret (fun s ρ w h => ⟨s, rfl, h⟩)
        · refine Ref.seq (B := G14 w0 F0) ?_ ?_
          · refine Ref.region (fun s ρ w s' h hr => ?_); obtain ⟨F, hW, g1, g2, p1, h1, p2, h2, h3, h5, h13, h14, h15⟩ := h; refine ol_m h3 ?_; refine ol_v (e_gtr rfl rfl) rfl ?_; obtain ⟨x90, hx91, hr⟩ := bind_some' hr; refine ol_cutA 11 44 54 (fun ρ' w' => w = w' ∧ ρ' 54 = .bool x90) rfl ?_ ?_
            · by_cases hb75 : (decide ((0 : Int) < s.i_3)) = true
              · have hr := hx91; rw [if_pos hb75] at hr; refine ol_m rfl ?_; refine ol_yes rfl rfl (congrArg Value.bool hb75) ?_; refine ol_v (e_fa fa_24_0 p1) rfl ?_; refine ol_yes rfl rfl (congrArg Value.bool hb75) ?_; obtain ⟨v77, hl78, hs79⟩ := LiesV.sl ((h1).at_.fld fl_ObjectStore_0); refine ol_v (e_ld ty_22 hl78 rfl) rfl ?_; refine ol_yes rfl rfl (congrArg Value.bool hb75) ?_; refine ol_m h3 ?_; refine ol_yes rfl rfl (congrArg Value.bool hb75) ?_; refine ol_v (e_sub rfl rfl) rfl ?_; refine ol_yes rfl rfl (congrArg Value.bool hb75) ?_; obtain ⟨x80, hx80, hr⟩ := bind_some' hr; obtain ⟨A81, c82, e83, hc84, R85⟩ := id hs79; obtain ⟨b86, o87, hA88, L89⟩ := Row.at_ R85 hx80; refine ol_v (e_ix (SlT.sl sl_22) (SlT.sz sl_22) hA88 hx80 e83 rfl) rfl ?_; refine ol_yes rfl rfl (congrArg Value.bool hb75) ?_; refine ol_v (e_fa fa_39_0 rfl) rfl ?_; refine ol_yes rfl rfl (congrArg Value.bool hb75) ?_; refine ol_v (e_ld ty_3 (LiesV.int (L89.fld fl_StoredObject_0).at_) rfl) rfl ?_; refine ol_yes rfl rfl (congrArg Value.bool hb75) ?_; refine ol_m h5 ?_; refine ol_yes rfl rfl (congrArg Value.bool hb75) ?_; refine ol_v (e_geq rfl rfl) rfl ?_; refine ol_v (e_pick true _ (congrArg Value.bool hb75) rfl) rfl ?_; exact ol_nil ⟨⟨rfl, (congrArg Value.bool (Option.some.inj hr))⟩, (Agr.refl _ _ _).u.u.u.u.u.u.u.u.u.u.u⟩
              · have hb76 := Bool.eq_false_iff.mpr hb75; have hr := hx91; rw [if_neg hb75] at hr; refine ol_m rfl ?_; refine ol_not rfl rfl rfl (congrArg Value.bool hb76) rfl ?_; refine ol_not rfl rfl rfl (congrArg Value.bool hb76) rfl ?_; refine ol_not rfl rfl rfl (congrArg Value.bool hb76) rfl ?_; refine ol_not rfl rfl rfl (congrArg Value.bool hb76) rfl ?_; refine ol_not rfl rfl rfl (congrArg Value.bool hb76) rfl ?_; refine ol_not rfl rfl rfl (congrArg Value.bool hb76) rfl ?_; refine ol_not rfl rfl rfl (congrArg Value.bool hb76) rfl ?_; refine ol_not rfl rfl rfl (congrArg Value.bool hb76) rfl ?_; refine ol_not rfl rfl rfl (congrArg Value.bool hb76) rfl ?_; refine ol_v (e_pick false _ (congrArg Value.bool hb76) rfl) rfl ?_; exact ol_nil ⟨⟨rfl, (congrArg Value.bool (Option.some.inj hr))⟩, (Agr.refl _ _ _).u.u.u.u.u.u.u.u.u.u.u⟩
            rintro ρ91 _ ⟨⟨rfl, hp91⟩, hAg91⟩; refine ol_a hp91 ?_; exact ol_fin hr ⟨F, hW, g1, g2, ((hAg91 1 rfl).trans p1), h1, ((hAg91 2 rfl).trans p2), h2, ((hAg91 3 rfl).trans h3), (SlR.eqv (hAg91 13 rfl) h13), ((hAg91 14 rfl).trans h14), ((hAg91 15 rfl).trans h15), rfl⟩
          refine Ref.condP (b := fun s => s.t_41) (L := G12 w0 F0) (K := G4 w0 F0) ?_ ?_ ?_
          · rintro s ρ w ⟨F, hW, g1, g2, p1, h1, p2, h2, h3, h13, h14, h15, h41⟩; exact ⟨h41, ⟨F, hW, g2, p2, h2, h3⟩, F, hW, g1, g2, p1, h1, p2, h2, h13, h14, h15⟩
          · refine Ref.seq (B := G3 w0 F0) ?_ ?_
            · refine Ref.region (fun s ρ w s' h hr => ?_); obtain ⟨F, hW, g2, p2, h2, h3⟩ := h; refine ol_m h3 ?_; refine ol_v (e_bld (cells := #[.int .i64 (5), .int .i64 s.i_3]) bld_28 (vs := [(0, .int .i64 (5)), (1, .int .i64 s.i_3)]) (lcons (congrArg (Prod.mk 0) rfl) (lcons (congrArg (Prod.mk 1) rfl) rfl)) rfl) rfl ?_; have hb92 : Val k_Fault F w (.agg #[.int .i64 (5), .int .i64 s.i_3]) (⟨(5 : Int), s.i_3⟩ : Fault) := mk_Fault (val_int _ _) (val_int _ _); refine ol_eN (f_stB hW h2 (FldS.whole _) ty_28 hb92 p2 rfl) rfl ?_; rintro - w93 ⟨hW94, ho95, hg1, st1⟩; exact ol_fin hr ⟨F, hW94, g2, p2, ho95⟩
            exact Ref.ret (fun s ρ w h => ⟨s, rfl, h⟩)
          · exact Ref.skip
    refine Ref.region (fun s ρ w s' h hr => ?_); obtain ⟨F, hW, g1, g2, p1, h1, p2, h2, h13, h14, h15⟩ := h; refine ol_v (e_add h15 rfl) rfl ?_; refine ol_m rfl ?_; exact ol_fin hr ⟨F, hW, g1, g2, p1, h1, p2, h2, h13, h14, rfl⟩
  refine Ref.seq (B := G3 w0 F0) ?_ ?_
  · refine Ref.region (fun s ρ w s' h hr => ?_); obtain ⟨F, hW, g2, p2, h2⟩ := h; refine ol_v (e_bld (cells := #[.int .i64 0, .int .i64 0]) bld_28 (vs := []) rfl rfl) rfl ?_; have hb96 : Val k_Fault F w (.agg #[.int .i64 0, .int .i64 0]) (⟨(0 : Int), (0 : Int)⟩ : Fault) := mk_Fault (val_int _ _) (val_int _ _); refine ol_eN (f_stB hW h2 (FldS.whole _) ty_28 hb96 p2 rfl) rfl ?_; rintro - w97 ⟨hW98, ho99, hg1, st1⟩; exact ol_fin hr ⟨F, hW98, g2, p2, ho99⟩
  exact Ref.ret (fun s ρ w h => ⟨s, rfl, h⟩)
def post (w : World) (F : BSet) (r : R) (v : Value) (w' : World) : Prop := ∃ (F' : BSet) (v0' : Value), v = v0' ∧ Wk nrow w F F' w' ∧ Val k_Fault F' w' v0' r
theorem calls {w : World} {F : BSet} (hok : ∀ b, F b → b < w.heap.size) {v0 : Value} {a0 : ObjectStore} (h0 : Val k_ObjectStore F w v0 a0) {r : R} (hf : f a0 = some r) : Calls Try.prog 26 #[v0] w fun e w' => ∃ v, e = .returned v ∧ post w F r v w' := by
  obtain ⟨c, hc, href⟩ := ref w F; refine calls_of_ref (args := [v0]) _ Try.func26 hc rfl rfl href ?_ (retOf_some hf) ?_
  · exact ⟨F, Wk.refl hok, h0⟩
  · rintro ρ w' a ⟨s, rfl, F', hW, g2, p2, h2⟩ hF; obtain ⟨u2, l2, k2⟩ := res_box (P := Try.prog) ty_28 h2; refine ⟨_, run_results (rs := [.cell 2 28]) rfl hF (vs := [u2]) (⟨_, _, _, rfl, p2, l2, rfl⟩), ?_⟩; exact ⟨F', u2, rfl, hW, k2⟩
end
end objects_Validate

namespace objects_Clone
section
def G0 : GT S := fun w0 F0 s ρ w => ∃ F, Wk nrow w0 F0 F w ∧ Val k_Object F w (ρ 0) s.o_0
def G1 : GT S := fun w0 F0 s ρ w => ∃ F, Wk nrow w0 F0 F w ∧ ∃ g1 g2, ρ 1 = .pointer (some ⟨g1, 0, none⟩) ∧ Box k_Object 37 (Bs w0 nrow) F w g1 s.o_1 ∧ ρ 2 = .pointer (some ⟨g2, 0, none⟩) ∧ Box k_Object 37 (Bs w0 nrow) F w g2 s.t_2 ∧ Apart (some g1) (some g2)
def G2 : GT S := fun w0 F0 s ρ w => ∃ F, Wk nrow w0 F0 F w ∧ ∃ g2, ρ 2 = .pointer (some ⟨g2, 0, none⟩) ∧ Box k_Object 37 (Bs w0 nrow) F w g2 s.t_2
set_option maxHeartbeats 4000000 in
set_option maxRecDepth 20000 in
theorem ref (w0 : World) (F0 : BSet) : ∃ c, Try.f27.body = some c ∧ Ref Try.prog 12 c (G0 w0 F0) body (fun _ _ _ => False) (fun _ _ _ _ => False) (fun r ρ w => ∃ s, retv s = r ∧ G2 w0 F0 s ρ w) := by
  refine ⟨_, rfl, ?_⟩; unfold body; refine Ref.seq (B := G1 w0 F0) ?_ ?_
  · refine Ref.region (fun s ρ w s' h hr => ?_); obtain ⟨F, hW, h0⟩ := h; refine ol_e (f_box hW rfl h0) rfl rfl ?_; rintro _ w2 ⟨g1, rfl, kw1, ho3⟩; have hW4 := hW.trans kw1; have st1 := kw1.stp hW.ok; refine ol_e (f_alloc zer_37 hW4) rfl rfl ?_; rintro _ w6 ⟨g5, rfl, kw2, ho7⟩; have hW8 := hW4.trans kw2; have st2 := kw2.stp hW4.ok; exact ol_fin hr ⟨F, hW8, g1, g5, rfl, ((ho3.base (row := nrow) hW.le).wk kw2 hW4.ok), rfl, (ho7.base (row := nrow) hW4.le), (Apart.base (fun _ e_ => by cases e_; exact ho7.ge) (ho3.base (row := nrow) hW.le).ltw).symm⟩
  refine Ref.seq (B := G2 w0 F0) ?_ ?_
  · refine Ref.regionH (by kernel_rfl) (fun s ρ w ⟨F, hW, g1, g2, p1, h1, p2, h2, a1b_2b⟩ => ⟨F, hW.drewS, g1, g2, p1, h1.wk (Wk.drew (row := nrow) hW.ok) hW.ok, p2, h2.wk (Wk.drew (row := nrow) hW.ok) hW.ok, a1b_2b⟩) (fun s ρ w s' h hr => ?_); obtain ⟨F, hW, g1, g2, p1, h1, p2, h2, a1b_2b⟩ := h; refine ⟨fun w' => Stp F w F w' ∧ w'.heap[g1]? = w.heap[g1]?, ?_⟩; refine oh_v 0 rfl (by kernel_rfl) (by kernel_rfl) (by kernel_rfl) ⟨(Stp.refl _ _), rfl⟩ (fun wv_ SV => e_fa fa_37_0 p1) rfl ?_; refine oh_v 1 rfl (by kernel_rfl) (by kernel_rfl) (by kernel_rfl) ⟨(Stp.refl _ _), rfl⟩ (fun wv_ SV => e_ld ty_3 ((LiesV.int ((h1).at_.fld fl_Object_0)).same SV.1 SV.2) rfl) rfl ?_; refine oh_v 2 rfl (by kernel_rfl) (by kernel_rfl) (by kernel_rfl) ⟨(Stp.refl _ _), rfl⟩ (fun wv_ SV => e_fa fa_37_1 p1) rfl ?_; obtain ⟨v9, hl10, hs11⟩ := LiesV.sl ((h1).at_.fld fl_Object_1); refine oh_v 3 rfl (by kernel_rfl) (by kernel_rfl) (by kernel_rfl) ⟨(Stp.refl _ _), rfl⟩ (fun wv_ SV => e_ld ty_26 (hl10.same SV.1 SV.2) rfl) rfl ?_; refine oh_v 5 rfl (by kernel_rfl) (by kernel_rfl) (by kernel_rfl) ⟨(Stp.refl _ _), rfl⟩ (fun wv_ SV => e_fa fa_37_2 p1) rfl ?_; obtain ⟨v12, hl13, hs14⟩ := LiesV.sl ((h1).at_.fld fl_Object_2); refine oh_v 6 rfl (by kernel_rfl) (by kernel_rfl) (by kernel_rfl) ⟨(Stp.refl _ _), rfl⟩ (fun wv_ SV => e_ld ty_35 (hl13.same SV.1 SV.2) rfl) rfl ?_; refine oh_all [4] (by kernel_rfl) rfl ⟨?_, trivial⟩
    · obtain ⟨x15, hx15, hr⟩ := bind_some' hr; refine oh1_e rfl (f_call [v9] fn_32 (lcons rfl rfl) (CloneI.calls hW.ok hs11 hx15)) rfl ?_; rintro v18 w16 ⟨Fz17, _, rfl, kw1, hk19⟩; have hW21 := hW.trans kw1; have st1 := kw1.stp hW.ok; have hh1_1 : w16.heap[g1]? = w.heap[g1]? := (h1.hpw kw1); refine ⟨⟨(Stp.back st1), hh1_1⟩, ?_⟩; refine oh_all [7] (by kernel_rfl) rfl ⟨?_, trivial⟩
      · obtain ⟨x22, hx22, hr⟩ := bind_some' hr; refine oh1_e rfl (f_call [v12] fn_45 (lcons rfl rfl) (CloneB.calls hW21.ok (hs14.keep st1) hx22)) rfl ?_; rintro v25 w23 ⟨Fz24, _, rfl, kw2, hk26⟩; have hW28 := hW21.trans kw2; have st2 := kw2.stp hW21.ok; have hh2_1 : w23.heap[g1]? = w.heap[g1]? := (((h1.wk kw1 hW.ok).hpw kw2).trans hh1_1); refine ⟨⟨(Stp.back (st1.trans st2)), hh2_1⟩, ?_⟩; refine oh_all [8] (by kernel_rfl) rfl ⟨?_, trivial⟩
        · obtain ⟨Fz29, hWz30, st3, hF3, hz31⟩ := (((hk19.base (row := nrow) hW.le).wk kw2 hW21.ok)).frozen hW28; obtain ⟨Fz32, hWz33, st4, hF4, hz34⟩ := (((hk26.base (row := nrow) hW21.le).frz (apart_oo ((hk19.base (row := nrow) hW.le).wk kw2 hW21.ok) (hk26.base (row := nrow) hW21.le) rfl) hF3 st3)).frozen hWz30; obtain ⟨A35, c36, e37, hc38, R39⟩ := id (hz31.keep st4); obtain ⟨A40, c41, e42, hc43, R44⟩ := id hz34; refine oh1_v rfl (e_bld (cells := #[.int .i64 s.o_1.Kind, .slice A35 x15.length c36, .slice A40 x22.length c41]) bld_37 (vs := [(0, .int .i64 s.o_1.Kind), (1, .slice A35 x15.length c36), (2, .slice A40 x22.length c41)]) (lcons (congrArg (Prod.mk 0) rfl) (lcons (congrArg (Prod.mk 1) e37) (lcons (congrArg (Prod.mk 2) e42) rfl))) rfl) rfl ?_; have hb45 : Val k_Object Fz32 w23 (.agg #[.int .i64 s.o_1.Kind, .slice A35 x15.length c36, .slice A40 x22.length c41]) (⟨s.o_1.Kind, x15, x22⟩ : Object) := mk_Object (val_int _ _) (val_sl ⟨A35, c36, rfl, hc38, R39⟩) (val_sl ⟨A40, c41, rfl, hc43, R44⟩); have hh4_1 : w23.heap[g1]? = w.heap[g1]? := hh2_1; refine ⟨⟨(Stp.back (st1.trans (st2.trans (st3.trans st4)))), hh4_1⟩, ?_⟩; refine oh_all [9] (by kernel_rfl) rfl ⟨?_, trivial⟩
          · refine oh1_eN rfl (f_stB hWz33 ((((h2.wk kw1 hW.ok).wk kw2 hW21.ok).frz (apart_bo ((h2.wk kw1 hW.ok).wk kw2 hW21.ok) ((hk19.base (row := nrow) hW.le).wk kw2 hW21.ok) rfl).symm hF3 st3).frz (apart_bo (((h2.wk kw1 hW.ok).wk kw2 hW21.ok).frz (apart_bo ((h2.wk kw1 hW.ok).wk kw2 hW21.ok) ((hk19.base (row := nrow) hW.le).wk kw2 hW21.ok) rfl).symm hF3 st3) ((hk26.base (row := nrow) hW21.le).frz (apart_oo ((hk19.base (row := nrow) hW.le).wk kw2 hW21.ok) (hk26.base (row := nrow) hW21.le) rfl) hF3 st3) rfl).symm hF4 st4) (FldS.whole _) ty_37 hb45 p2 rfl) ?_; rintro - w46 ⟨hW47, ho48, hg5, st5⟩; have hh5_1 : w46.heap[g1]? = w.heap[g1]? := ((((((h1.wk kw1 hW.ok).wk kw2 hW21.ok).frz (apart_bo ((h1.wk kw1 hW.ok).wk kw2 hW21.ok) ((hk19.base (row := nrow) hW.le).wk kw2 hW21.ok) rfl).symm hF3 st3).frz (apart_bo (((h1.wk kw1 hW.ok).wk kw2 hW21.ok).frz (apart_bo ((h1.wk kw1 hW.ok).wk kw2 hW21.ok) ((hk19.base (row := nrow) hW.le).wk kw2 hW21.ok) rfl).symm hF3 st3) ((hk26.base (row := nrow) hW21.le).frz (apart_oo ((hk19.base (row := nrow) hW.le).wk kw2 hW21.ok) (hk26.base (row := nrow) hW21.le) rfl) hF3 st3) rfl).symm hF4 st4).hpm a1b_2b.symm hg5).trans hh4_1); refine ⟨⟨(Stp.back (st1.trans (st2.trans (st3.trans (st4.trans st5))))), hh5_1⟩, ?_⟩; obtain rfl := Option.some.inj hr; exact oh_done (by kernel_rfl) ⟨Fz32, hW47, g2, p2, ho48⟩
  exact Ref.ret (fun s ρ w h => ⟨s, rfl, h⟩)
def post (w : World) (F : BSet) (r : R) (v : Value) (w' : World) : Prop := ∃ (F' : BSet) (v0' : Value), v = v0' ∧ Wk nrow w F F' w' ∧ Val k_Object F' w' v0' r
theorem calls {w : World} {F : BSet} (hok : ∀ b, F b → b < w.heap.size) {v0 : Value} {a0 : Object} (h0 : Val k_Object F w v0 a0) {r : R} (hf : f a0 = some r) : Calls Try.prog 27 #[v0] w fun e w' => ∃ v, e = .returned v ∧ post w F r v w' := by
  obtain ⟨c, hc, href⟩ := ref w F; refine calls_of_ref (args := [v0]) _ Try.func27 hc rfl rfl href ?_ (retOf_some hf) ?_
  · exact ⟨F, Wk.refl hok, h0⟩
  · rintro ρ w' a ⟨s, rfl, F', hW, g2, p2, h2⟩ hF; obtain ⟨u2, l2, k2⟩ := res_box (P := Try.prog) ty_37 h2; refine ⟨_, run_results (rs := [.cell 2 37]) rfl hF (vs := [u2]) (⟨_, _, _, rfl, p2, l2, rfl⟩), ?_⟩; exact ⟨F', u2, rfl, hW, k2⟩
end
end objects_Clone

namespace partial_Filter
section
abbrev c1 (ρ : Env) (s : S) (X : Prop) : Prop := ρ 1 = .int .i64 s.t_1 ∧ X
abbrev c2 (ρ : Env) (g2 : Nat) (w0 w : World) (F : BSet) (s : S) (X : Prop) : Prop := ρ 2 = .pointer (some ⟨g2, 0, none⟩) ∧ Box k_ObjectStore 24 (Bs w0 nrow) F w g2 s.t_2 ∧ X
abbrev c3 (ρ : Env) (g4 : Nat) (w0 w : World) (F : BSet) (s : S) (X : Prop) : Prop := ρ 4 = .pointer (some ⟨g4, 0, none⟩) ∧ Box k_ObjectStore 24 (Bs w0 nrow) F w g4 s.t_4 ∧ X
abbrev c4 (ρ : Env) (g6 : Nat) (w0 w : World) (F : BSet) (s : S) (X : Prop) : Prop := ρ 6 = .pointer (some ⟨g6, 0, none⟩) ∧ Box k_Fault 28 (Bs w0 nrow) F w g6 s.t_6 ∧ X
abbrev c6 (ρ : Env) (g7 : Nat) (w0 w : World) (F : BSet) (s : S) (X : Prop) : Prop := ρ 7 = .pointer (some ⟨g7, 0, none⟩) ∧ Box k_Fault 28 (Bs w0 nrow) F w g7 s.t_7 ∧ X
abbrev c11 (ρ : Env) (g8 : Nat) (w0 w : World) (F : BSet) (v8_0 : Value) (s : S) (X : Prop) : Prop := ρ 8 = .pointer (some ⟨g8, 0, none⟩) ∧ Box k_ObjectStore_r 24 (Bs w0 nrow) F w g8 (⟨v8_0⟩ : ObjectStore_r) ∧ OwnV k_StoredObject 39 (Bs w0 nrow) F w v8_0 s.t_8.Objects ∧ OwnV (kInt .i64) 3 (Bs w0 nrow) F w (ρ 9) s.t_9 ∧ X
abbrev e13 (g4 g8 : Nat) : Prop := Apart (some g4) (some g8)
abbrev c14 (F : BSet) (w : World) (ρ : Env) (s : S) (X : Prop) : Prop := SlR k_StoredObject F w (ρ 29) s.t_29 ∧ ρ 30 = .int .i64 s.t_30 ∧ ρ 31 = .int .i64 s.t_31 ∧ X
def G0 : GT S := fun w0 F0 s ρ w => ∃ F, Wk nrow w0 F0 F w ∧ Val k_ObjectStore F w (ρ 0) s.t_0 ∧ ρ 1 = .int .i64 s.t_1
def G1 : GT S := fun w0 F0 s ρ w => ∃ F, Wk nrow w0 F0 F w ∧ ∃ g2 g4 g6, c1 ρ s (c2 ρ g2 w0 w F s (c3 ρ g4 w0 w F s (c4 ρ g6 w0 w F s (Apart (some g2) (some g4)))))
def G2 : GT S := fun w0 F0 s ρ w => ∃ F, Wk nrow w0 F0 F w ∧ ∃ g2 g4 g6 g7, c1 ρ s (c2 ρ g2 w0 w F s (c3 ρ g4 w0 w F s (c4 ρ g6 w0 w F s (c6 ρ g7 w0 w F s (Apart (some g2) (some g4) ∧ Apart (some g6) (some g7))))))
def G3 : GT S := fun w0 F0 s ρ w => ∃ F, Wk nrow w0 F0 F w ∧ ∃ g2 g4 g6 g7, c1 ρ s (c2 ρ g2 w0 w F s (c3 ρ g4 w0 w F s (c4 ρ g6 w0 w F s (c6 ρ g7 w0 w F s (ρ 16 = .bool s.t_16 ∧ Apart (some g2) (some g4) ∧ Apart (some g6) (some g7))))))
def G4 : GT S := fun w0 F0 s ρ w => ∃ F, Wk nrow w0 F0 F w ∧ ∃ g4 g6 g7, c3 ρ g4 w0 w F s (c4 ρ g6 w0 w F s (c6 ρ g7 w0 w F s (Apart (some g6) (some g7))))
def G5 : GT S := fun w0 F0 s ρ w => ∃ F, Wk nrow w0 F0 F w ∧ ∃ g4 g6, c3 ρ g4 w0 w F s (OwnV (kInt .i64) 3 (Bs w0 nrow) F w (ρ 5) s.t_5 ∧ ρ 6 = .pointer (some ⟨g6, 0, none⟩) ∧ Box k_Fault 28 (Bs w0 nrow) F w g6 s.t_6)
def G6 : GT S := fun w0 F0 s ρ w => ∃ F, Wk nrow w0 F0 F w ∧ ∃ g2 g4 g6, c1 ρ s (c2 ρ g2 w0 w F s (c3 ρ g4 w0 w F s (c4 ρ g6 w0 w F s (ρ 24 = .bool s.t_24 ∧ Apart (some g2) (some g4)))))
def G7 : GT S := fun w0 F0 s ρ w => ∃ F, Wk nrow w0 F0 F w ∧ ∃ g4 g6, c3 ρ g4 w0 w F s (ρ 6 = .pointer (some ⟨g6, 0, none⟩) ∧ Box k_Fault 28 (Bs w0 nrow) F w g6 s.t_6)
def G8 : GT S := fun w0 F0 s ρ w => ∃ F, Wk nrow w0 F0 F w ∧ ∃ g2 g4 g6 g8 v8_0, c1 ρ s (c2 ρ g2 w0 w F s (c3 ρ g4 w0 w F s (c4 ρ g6 w0 w F s (c11 ρ g8 w0 w F v8_0 s (Apart (some g2) (some g4) ∧ Apart (some g2) (some g8) ∧ e13 g4 g8)))))
def G9 : GT S := fun w0 F0 s ρ w => ∃ F, Wk nrow w0 F0 F w ∧ ∃ g4 g6 g8 v8_0, c1 ρ s (c3 ρ g4 w0 w F s (c4 ρ g6 w0 w F s (c11 ρ g8 w0 w F v8_0 s (c14 F w ρ s (e13 g4 g8)))))
def G10 : GT S := fun w0 F0 s ρ w => ∃ F, Wk nrow w0 F0 F w ∧ ∃ g4 g6 g8 v8_0, c1 ρ s (c3 ρ g4 w0 w F s (c4 ρ g6 w0 w F s (c11 ρ g8 w0 w F v8_0 s (c14 F w ρ s (ρ 32 = .bool s.t_32 ∧ e13 g4 g8)))))
def G11 : GT S := fun w0 F0 s ρ w => ∃ F, Wk nrow w0 F0 F w ∧ ∃ g4 g6 g8 v8_0, c3 ρ g4 w0 w F s (c4 ρ g6 w0 w F s (c11 ρ g8 w0 w F v8_0 s (e13 g4 g8)))
def G12 : GT S := fun w0 F0 s ρ w => ∃ F, Wk nrow w0 F0 F w ∧ ∃ g4 g6 g8 v8_0 g11, c1 ρ s (c3 ρ g4 w0 w F s (c4 ρ g6 w0 w F s (c11 ρ g8 w0 w F v8_0 s (ρ 11 = .pointer (some ⟨g11, 0, none⟩) ∧ Box k_StoredObject 39 (Bs w0 nrow) F w g11 s.t_11 ∧ c14 F w ρ s (Apart (some g4) (some g8) ∧ Apart v8_0.ownBlock (some g11))))))
def G13 : GT S := fun w0 F0 s ρ w => ∃ F, Wk nrow w0 F0 F w ∧ ∃ g4 g6 g8 v8_0 g11, c1 ρ s (c3 ρ g4 w0 w F s (c4 ρ g6 w0 w F s (c11 ρ g8 w0 w F v8_0 s (ρ 11 = .pointer (some ⟨g11, 0, none⟩) ∧ Box k_StoredObject 39 (Bs w0 nrow) F w g11 s.t_11 ∧ c14 F w ρ s (ρ 46 = .bool s.t_46 ∧ Apart (some g4) (some g8) ∧ Apart v8_0.ownBlock (some g11))))))
set_option maxHeartbeats 4000000 in
set_option maxRecDepth 20000 in
theorem ref (w0 : World) (F0 : BSet) : ∃ c, Try.f10.body = some c ∧ Ref Try.prog 67 c (G0 w0 F0) body (fun _ _ _ => False) (fun _ _ _ _ => False) (fun r ρ w => ∃ s, retv s = r ∧ G5 w0 F0 s ρ w) := by
  refine ⟨_, rfl, ?_⟩; unfold body; refine Ref.seq (B := G1 w0 F0) ?_ ?_
  · refine Ref.region (fun s ρ w s' h hr => ?_); obtain ⟨F, hW, h0, h1⟩ := h; refine ol_e (f_box hW rfl h0) rfl rfl ?_; rintro _ w2 ⟨g1, rfl, kw1, ho3⟩; have hW4 := hW.trans kw1; have st1 := kw1.stp hW.ok; refine ol_e (f_alloc zer_24 hW4) rfl rfl ?_; rintro _ w6 ⟨g5, rfl, kw2, ho7⟩; have hW8 := hW4.trans kw2; have st2 := kw2.stp hW4.ok; refine ol_a rfl ?_; refine ol_e (f_alloc zer_28 hW8) rfl rfl ?_; rintro _ w10 ⟨g9, rfl, kw3, ho11⟩; have hW12 := hW8.trans kw3; have st3 := kw3.stp hW8.ok; exact ol_fin hr ⟨F, hW12, g1, g5, g9, h1, rfl, (((ho3.base (row := nrow) hW.le).wk kw2 hW4.ok).wk kw3 hW8.ok), rfl, ((ho7.base (row := nrow) hW4.le).wk kw3 hW8.ok), rfl, (ho11.base (row := nrow) hW8.le), (Apart.base (fun _ e_ => by cases e_; exact ho7.ge) (ho3.base (row := nrow) hW.le).ltw).symm⟩
  refine Ref.seq (B := G1 w0 F0) ?_ ?_
  · refine Ref.seq (B := G2 w0 F0) ?_ ?_
    · refine Ref.region (fun s ρ w s' h hr => ?_); obtain ⟨F, hW, g2, g4, g6, h1, p2, h2, p4, h4, p6, h6, a2b_4b⟩ := h; obtain ⟨v13, hl14⟩ := LiesAt.v (h2).at_; refine ol_v (e_ld ty_24 hl14 p2) rfl ?_; obtain ⟨x15, hx15, hr⟩ := bind_some' hr; refine ol_e (f_call [v13] fn_26 (lcons rfl rfl) (objects_Validate.calls hW.ok hl14.val hx15)) rfl rfl ?_; rintro v18 w16 ⟨Fz17, _, rfl, kw1, hk19⟩; have hW21 := hW.trans kw1; have st1 := kw1.stp hW.ok; refine ol_e (f_alloc zer_28 hW21) rfl rfl ?_; rintro _ w23 ⟨g22, rfl, kw2, ho24⟩; have hW25 := hW21.trans kw2; have st2 := kw2.stp hW21.ok; refine ol_eN (f_stB hW25 (ho24.base (row := nrow) hW21.le) (FldS.whole _) ty_28 (hk19.keep st2) rfl rfl) rfl ?_; rintro - w26 ⟨hW27, ho28, hg3, st3⟩; have z1 := (h2.wk kw1 hW.ok).wk kw2 hW21.ok; have z2 := (h4.wk kw1 hW.ok).wk kw2 hW21.ok; have z3 := h6.wk kw1 hW.ok; exact ol_fin hr ⟨Fz17, hW27, g2, g4, g6, g22, h1, p2, (z1.mut (apart_bb (ho24.base (row := nrow) hW21.le) z1 rfl) hg3 st3), p4, (z2.mut (apart_bb (ho24.base (row := nrow) hW21.le) z2 rfl) hg3 st3), p6, ((z3.wk kw2 hW21.ok).mut (Apart.base (fun _ e_ => by cases e_; exact ho24.ge) z3.ltw) hg3 st3), rfl, ho28, a2b_4b, (Apart.base (fun _ e_ => by cases e_; exact ho24.ge) z3.ltw).symm⟩
    refine Ref.seq (B := G3 w0 F0) ?_ ?_
    · refine Ref.region (fun s ρ w s' h hr => ?_); obtain ⟨F, hW, g2, g4, g6, g7, h1, p2, h2, p4, h4, p6, h6, p7, h7, a2b_4b, a6b_7b⟩ := h; obtain ⟨v29, hl30⟩ := LiesAt.v (h7).at_; refine ol_v (e_ld ty_28 hl30 p7) rfl ?_; refine ol_v (e_bld (cells := #[.int .i64 0, .int .i64 0]) bld_28 (vs := []) rfl rfl) rfl ?_; have hb31 : Val k_Fault F w (.agg #[.int .i64 0, .int .i64 0]) (⟨(0 : Int), (0 : Int)⟩ : Fault) := mk_Fault (val_int _ _) (val_int _ _); refine ol_v (e_tneq (eq_Fault_28 hl30.val hb31) rfl rfl) rfl ?_; exact ol_fin hr ⟨F, hW, g2, g4, g6, g7, h1, p2, h2, p4, h4, p6, h6, p7, h7, rfl, a2b_4b, a6b_7b⟩
    refine Ref.condP (b := fun s => s.t_16) (L := G4 w0 F0) (K := G1 w0 F0) ?_ ?_ ?_
    · rintro s ρ w ⟨F, hW, g2, g4, g6, g7, h1, p2, h2, p4, h4, p6, h6, p7, h7, h16, a2b_4b, a6b_7b⟩; exact ⟨h16, ⟨F, hW, g4, g6, g7, p4, h4, p6, h6, p7, h7, a6b_7b⟩, F, hW, g2, g4, g6, h1, p2, h2, p4, h4, p6, h6, a2b_4b⟩
    · refine Ref.seq (B := G5 w0 F0) ?_ ?_
      · refine Ref.regionH (by kernel_rfl) (fun s ρ w ⟨F, hW, g4, g6, g7, p4, h4, p6, h6, p7, h7, a6b_7b⟩ => ⟨F, hW.drewS, g4, g6, g7, p4, h4.wk (Wk.drew (row := nrow) hW.ok) hW.ok, p6, h6.wk (Wk.drew (row := nrow) hW.ok) hW.ok, p7, h7.wk (Wk.drew (row := nrow) hW.ok) hW.ok, a6b_7b⟩) (fun s ρ w s' h hr => ?_); obtain ⟨F, hW, g4, g6, g7, p4, h4, p6, h6, p7, h7, a6b_7b⟩ := h; refine ⟨fun w' => Stp F w F w' ∧ w'.heap[g7]? = w.heap[g7]?, ?_⟩; refine oh_v 0 rfl (by kernel_rfl) (by kernel_rfl) (by kernel_rfl) ⟨(Stp.refl _ _), rfl⟩ (fun wv_ SV => e_bld (cells := #[(Value.slice none 0 0)]) bld_24 (vs := []) rfl rfl) rfl ?_; have hb32 : Val k_ObjectStore_r F w (.agg #[(Value.slice none 0 0)]) (⟨(Value.slice none 0 0)⟩ : ObjectStore_r) := mk_ObjectStore_r (OwnV.raw (OwnV.nil k_StoredObject 39 (Bs w0 nrow) F w)); obtain ⟨v33, hl34⟩ := LiesAt.v (h7).at_; refine oh_v 1 rfl (by kernel_rfl) (by kernel_rfl) (by kernel_rfl) ⟨(Stp.refl _ _), rfl⟩ (fun wv_ SV => e_ld ty_28 (hl34.same SV.1 SV.2) p7) rfl ?_; refine oh_all [2] (by kernel_rfl) rfl ⟨?_, trivial⟩
        · have hb35 : Val k_ObjectStore F w (.agg #[(Value.slice none 0 0)]) (⟨[]⟩ : ObjectStore) := un_ObjectStore hb32 (SlR.nil _ _ _); refine oh1_eN rfl (f_stB hW h4 (FldS.whole _) ty_24 hb35 p4 rfl) ?_; rintro - w36 ⟨hW37, ho38, hg1, st1⟩; have hh1_7 : w36.heap[g7]? = w.heap[g7]? := (h7.hpm (apart_bb h4 h7 rfl) hg1); refine ⟨⟨(Stp.back st1), hh1_7⟩, ?_⟩; refine oh_v 3 rfl (by kernel_rfl) (by kernel_rfl) (by kernel_rfl) ⟨(Stp.back st1), hh1_7⟩ (fun wv_ SV => e_as _ rfl) rfl ?_; refine oh_all [4] (by kernel_rfl) rfl ⟨?_, trivial⟩
          · refine oh1_eN rfl (f_stB hW37 (h6.mut (apart_bb h4 h6 rfl) hg1 st1) (FldS.whole _) ty_28 (hl34.val.keep st1) p6 rfl) ?_; rintro - w39 ⟨hW40, ho41, hg2, st2⟩; have hh2_7 : w39.heap[g7]? = w.heap[g7]? := (((h7.mut (apart_bb h4 h7 rfl) hg1 st1).hpm a6b_7b hg2).trans hh1_7); refine ⟨⟨(Stp.back (st1.trans st2)), hh2_7⟩, ?_⟩; obtain rfl := Option.some.inj hr; exact oh_done (by kernel_rfl) ⟨F, hW40, g4, g6, p4, (ho38.mut (apart_bb (h6.mut (apart_bb h4 h6 rfl) hg1 st1) ho38 rfl) hg2 st2), (((OwnV.nil (kInt .i64) 3 (Bs w0 nrow) F w).mut (apart_bo h4 (OwnV.nil (kInt .i64) 3 (Bs w0 nrow) F w) rfl) hg1 st1).mut (apart_bo (h6.mut (apart_bb h4 h6 rfl) hg1 st1) ((OwnV.nil (kInt .i64) 3 (Bs w0 nrow) F w).mut (apart_bo h4 (OwnV.nil (kInt .i64) 3 (Bs w0 nrow) F w) rfl) hg1 st1) rfl) hg2 st2), p6, ho41⟩
      exact Ref.ret (fun s ρ w h => ⟨s, rfl, h⟩)
    · exact Ref.skip
  refine Ref.seq (B := G1 w0 F0) ?_ ?_
  · refine Ref.seq (B := G6 w0 F0) ?_ ?_
    · refine Ref.region (fun s ρ w s' h hr => ?_); obtain ⟨F, hW, g2, g4, g6, h1, p2, h2, p4, h4, p6, h6, a2b_4b⟩ := h; refine ol_m h1 ?_; refine ol_v (e_lss rfl rfl) rfl ?_; refine ol_cutA 4 21 24 (fun ρ' w' => w = w' ∧ ρ' 24 = .bool ((decide (s.t_1 < (0 : Int))) || (decide ((1000 : Int) < s.t_1)))) rfl ?_ ?_
      · by_cases hb42 : (decide (s.t_1 < (0 : Int))) = true
        · refine ol_m rfl ?_; refine ol_not rfl rfl rfl (congrArg Value.bool hb42) rfl ?_; refine ol_not rfl rfl rfl (congrArg Value.bool hb42) rfl ?_; refine ol_v (e_pick true _ (congrArg Value.bool hb42) rfl) rfl ?_; exact ol_nil ⟨⟨rfl, (bv_or_t hb42)⟩, (Agr.refl _ _ _).u.u.u.u⟩
        · have hb43 := Bool.eq_false_iff.mpr hb42; refine ol_m rfl ?_; refine ol_yes rfl rfl (congrArg Value.bool hb43) ?_; refine ol_m h1 ?_; refine ol_yes rfl rfl (congrArg Value.bool hb43) ?_; refine ol_v (e_gtr rfl rfl) rfl ?_; refine ol_v (e_pick false _ (congrArg Value.bool hb43) rfl) rfl ?_; exact ol_nil ⟨⟨rfl, (bv_or_f hb43)⟩, (Agr.refl _ _ _).u.u.u.u⟩
      rintro ρ44 _ ⟨⟨rfl, hp44⟩, hAg44⟩; exact ol_fin hr ⟨F, hW, g2, g4, g6, ((hAg44 1 rfl).trans h1), ((hAg44 2 rfl).trans p2), h2, ((hAg44 4 rfl).trans p4), h4, ((hAg44 6 rfl).trans p6), h6, hp44, a2b_4b⟩
    refine Ref.condP (b := fun s => s.t_24) (L := G7 w0 F0) (K := G1 w0 F0) ?_ ?_ ?_
    · rintro s ρ w ⟨F, hW, g2, g4, g6, h1, p2, h2, p4, h4, p6, h6, h24, a2b_4b⟩; exact ⟨h24, ⟨F, hW, g4, g6, p4, h4, p6, h6⟩, F, hW, g2, g4, g6, h1, p2, h2, p4, h4, p6, h6, a2b_4b⟩
    · refine Ref.seq (B := G5 w0 F0) ?_ ?_
      · refine Ref.region (fun s ρ w s' h hr => ?_); obtain ⟨F, hW, g4, g6, p4, h4, p6, h6⟩ := h; refine ol_v (e_bld (cells := #[(Value.slice none 0 0)]) bld_24 (vs := []) rfl rfl) rfl ?_; have hb45 : Val k_ObjectStore_r F w (.agg #[(Value.slice none 0 0)]) (⟨(Value.slice none 0 0)⟩ : ObjectStore_r) := mk_ObjectStore_r (OwnV.raw (OwnV.nil k_StoredObject 39 (Bs w0 nrow) F w)); refine ol_v (e_bld (cells := #[.int .i64 (3), .int .i64 (-1)]) bld_28 (vs := [(0, .int .i64 (3)), (1, .int .i64 (-1))]) (lcons (congrArg (Prod.mk 0) rfl) (lcons (congrArg (Prod.mk 1) rfl) rfl)) rfl) rfl ?_; have hb46 : Val k_Fault F w (.agg #[.int .i64 (3), .int .i64 (-1)]) (⟨(3 : Int), (-1 : Int)⟩ : Fault) := mk_Fault (val_int _ _) (val_int _ _); have hb47 : Val k_ObjectStore F w (.agg #[(Value.slice none 0 0)]) (⟨[]⟩ : ObjectStore) := un_ObjectStore hb45 (SlR.nil _ _ _); refine ol_eN (f_stB hW h4 (FldS.whole _) ty_24 hb47 p4 rfl) rfl ?_; rintro - w48 ⟨hW49, ho50, hg1, st1⟩; refine ol_a rfl ?_; have z4 := h6.mut (apart_bb h4 h6 rfl) hg1 st1; refine ol_eN (f_stB hW49 z4 (FldS.whole _) ty_28 (hb46.keep st1) p6 rfl) rfl ?_; rintro - w51 ⟨hW52, ho53, hg2, st2⟩; exact ol_fin hr ⟨F, hW52, g4, g6, p4, (ho50.mut (apart_bb z4 ho50 rfl) hg2 st2), ((OwnV.nil (kInt .i64) 3 (Bs w0 nrow) F w48).mut (apart_bo z4 (OwnV.nil (kInt .i64) 3 (Bs w0 nrow) F w48) rfl) hg2 st2), p6, ho53⟩
      exact Ref.ret (fun s ρ w h => ⟨s, rfl, h⟩)
    · exact Ref.skip
  refine Ref.seq (B := G8 w0 F0) ?_ ?_
  · refine Ref.region (fun s ρ w s' h hr => ?_); obtain ⟨F, hW, g2, g4, g6, h1, p2, h2, p4, h4, p6, h6, a2b_4b⟩ := h; refine ol_v (e_bld (cells := #[(Value.slice none 0 0)]) bld_24 (vs := []) rfl rfl) rfl ?_; have hb54 : Val k_ObjectStore_r F w (.agg #[(Value.slice none 0 0)]) (⟨(Value.slice none 0 0)⟩ : ObjectStore_r) := mk_ObjectStore_r (OwnV.raw (OwnV.nil k_StoredObject 39 (Bs w0 nrow) F w)); refine ol_e (f_alloc zerT_24 hW) rfl rfl ?_; rintro _ w56 ⟨g55, rfl, kw1, ho57⟩; have hW58 := hW.trans kw1; have st1 := kw1.stp hW.ok; refine ol_eN (f_stB hW58 (ho57.base (row := nrow) hW.le) (FldS.whole _) tyT_24 (hb54.keep st1) rfl rfl) rfl ?_; rintro - w59 ⟨hW60, ho61, hg2, st2⟩; refine ol_a rfl ?_; have z5 := (OwnV.nil k_StoredObject 39 (Bs w0 nrow) F w).wk kw1 hW.ok; exact ol_fin hr ⟨F, hW60, g2, g4, g6, g55, (Value.slice none 0 0), h1, p2, ((h2.wk kw1 hW.ok).mut (Apart.base (fun _ e_ => by cases e_; exact ho57.ge) h2.ltw) hg2 st2), p4, ((h4.wk kw1 hW.ok).mut (Apart.base (fun _ e_ => by cases e_; exact ho57.ge) h4.ltw) hg2 st2), p6, ((h6.wk kw1 hW.ok).mut (apart_bb (ho57.base (row := nrow) hW.le) (h6.wk kw1 hW.ok) rfl) hg2 st2), rfl, ho61, (z5.mut (apart_bo (ho57.base (row := nrow) hW.le) z5 rfl) hg2 st2), (OwnV.nil (kInt .i64) 3 (Bs w0 nrow) F w59), a2b_4b, (Apart.base (fun _ e_ => by cases e_; exact ho57.ge) h2.ltw).symm, (Apart.base (fun _ e_ => by cases e_; exact ho57.ge) h4.ltw).symm⟩
  refine Ref.seq (B := G11 w0 F0) ?_ ?_
  · refine Ref.seq (B := G9 w0 F0) ?_ ?_
    · refine Ref.region (fun s ρ w s' h hr => ?_); obtain ⟨F, hW, g2, g4, g6, g8, v8_0, h1, p2, h2, p4, h4, p6, h6, p8, b8, h8_0, h9, a2b_4b, a2b_8b, a4b_8b⟩ := h; refine ol_v (e_fa fa_24_0 p2) rfl ?_; obtain ⟨v62, hl63, hs64⟩ := LiesV.sl ((h2).at_.fld fl_ObjectStore_0); refine ol_v (e_ld ty_22 hl63 rfl) rfl ?_; obtain ⟨A65, c66, e67, hc68, R69⟩ := id hs64; refine ol_v (e_len (SlT.sl sl_22) e67) rfl ?_; refine ol_m rfl ?_; exact ol_fin hr ⟨F, hW, g4, g6, g8, v8_0, h1, p4, h4, p6, h6, p8, b8, h8_0, h9, hs64, rfl, rfl, a4b_8b⟩
    refine Ref.block ?_; refine Ref.loop ?_; refine Ref.seq (B := G10 w0 F0) ?_ ?_
    · refine Ref.region (fun s ρ w s' h hr => ?_); obtain ⟨F, hW, g4, g6, g8, v8_0, h1, p4, h4, p6, h6, p8, b8, h8_0, h9, h29, h30, h31, a4b_8b⟩ := h; refine ol_v (e_lss h31 h30) rfl ?_; exact ol_fin hr ⟨F, hW, g4, g6, g8, v8_0, h1, p4, h4, p6, h6, p8, b8, h8_0, h9, h29, h30, h31, rfl, a4b_8b⟩
    refine Ref.seq (B := G9 w0 F0) ?_ ?_
    · refine Ref.condP (b := fun s => s.t_32) (L := G9 w0 F0) (K := G11 w0 F0) ?_ ?_ ?_
      · rintro s ρ w ⟨F, hW, g4, g6, g8, v8_0, h1, p4, h4, p6, h6, p8, b8, h8_0, h9, h29, h30, h31, h32, a4b_8b⟩; exact ⟨h32, ⟨F, hW, g4, g6, g8, v8_0, h1, p4, h4, p6, h6, p8, b8, h8_0, h9, h29, h30, h31, a4b_8b⟩, F, hW, g4, g6, g8, v8_0, p4, h4, p6, h6, p8, b8, h8_0, h9, a4b_8b⟩
      · exact Ref.skip
      · exact Ref.exit (fun s ρ w h => h)
    refine Ref.seq (B := G9 w0 F0) ?_ ?_
    · refine Ref.block ?_; refine Ref.seq (B := G12 w0 F0) ?_ ?_
      · refine Ref.region (fun s ρ w s' h hr => ?_); obtain ⟨F, hW, g4, g6, g8, v8_0, h1, p4, h4, p6, h6, p8, b8, h8_0, h9, h29, h30, h31, a4b_8b⟩ := h; obtain ⟨x70, hx70, hr⟩ := bind_some' hr; obtain ⟨A71, c72, e73, hc74, R75⟩ := id h29; obtain ⟨b76, o77, hA78, L79⟩ := Row.at_ R75 hx70; refine ol_v (e_ix (SlT.sl sl_22) (SlT.sz sl_22) hA78 hx70 e73 h31) rfl ?_; obtain ⟨v80, hl81⟩ := LiesAt.v L79.at_; refine ol_v (e_ld ty_39 hl81 rfl) rfl ?_; refine ol_e (f_alloc zer_39 hW) rfl rfl ?_; rintro _ w83 ⟨g82, rfl, kw1, ho84⟩; have hW85 := hW.trans kw1; have st1 := kw1.stp hW.ok; refine ol_eN (f_stB hW85 (ho84.base (row := nrow) hW.le) (FldS.whole _) ty_39 (hl81.val.keep st1) rfl rfl) rfl ?_; rintro - w86 ⟨hW87, ho88, hg2, st2⟩; exact ol_fin hr ⟨F, hW87, g4, g6, g8, v8_0, g82, h1, p4, ((h4.wk kw1 hW.ok).mut (apart_bb (ho84.base (row := nrow) hW.le) (h4.wk kw1 hW.ok) rfl) hg2 st2), p6, ((h6.wk kw1 hW.ok).mut (apart_bb (ho84.base (row := nrow) hW.le) (h6.wk kw1 hW.ok) rfl) hg2 st2), p8, ((b8.wk kw1 hW.ok).mut (apart_bb (ho84.base (row := nrow) hW.le) (b8.wk kw1 hW.ok) rfl) hg2 st2), ((h8_0.wk kw1 hW.ok).mut (Apart.base (fun _ e_ => by cases e_; exact ho84.ge) h8_0.ltw) hg2 st2), ((h9.wk kw1 hW.ok).mut (apart_bo (ho84.base (row := nrow) hW.le) (h9.wk kw1 hW.ok) rfl) hg2 st2), rfl, ho88, (h29.keep (st1.trans st2)), h30, h31, a4b_8b, (Apart.base (fun _ e_ => by cases e_; exact ho84.ge) h8_0.ltw).symm⟩
      refine Ref.seq (B := G12 w0 F0) ?_ ?_
      · refine Ref.seq (B := G13 w0 F0) ?_ ?_
        · refine Ref.region (fun s ρ w s' h hr => ?_); obtain ⟨F, hW, g4, g6, g8, v8_0, g11, h1, p4, h4, p6, h6, p8, b8, h8_0, h9, p11, h11, h29, h30, h31, a4b_8b, a80_11b⟩ := h; refine ol_v (e_fa fa_39_1 p11) rfl ?_; refine ol_v (e_fa fa_37_0 rfl) rfl ?_; refine ol_v (e_ld ty_3 (LiesV.int (((h11).at_.fld fl_StoredObject_1).fld fl_Object_0)) rfl) rfl ?_; refine ol_v (e_eql rfl rfl) rfl ?_; refine ol_cutA 8 39 46 (fun ρ' w' => w = w' ∧ ρ' 46 = .bool ((decide (s.t_11.Object.Kind = (1 : Int))) && (decide (s.t_1 < (s.t_11.Object.Data.length : Int))))) rfl ?_ ?_
          · by_cases hb89 : (decide (s.t_11.Object.Kind = (1 : Int))) = true
            · refine ol_m rfl ?_; refine ol_yes rfl rfl (congrArg Value.bool hb89) ?_; refine ol_v (e_fa fa_39_1 p11) rfl ?_; refine ol_yes rfl rfl (congrArg Value.bool hb89) ?_; refine ol_v (e_fa fa_37_2 rfl) rfl ?_; refine ol_yes rfl rfl (congrArg Value.bool hb89) ?_; obtain ⟨v91, hl92, hs93⟩ := LiesV.sl (((h11).at_.fld fl_StoredObject_1).fld fl_Object_2); refine ol_v (e_ld ty_35 hl92 rfl) rfl ?_; refine ol_yes rfl rfl (congrArg Value.bool hb89) ?_; obtain ⟨A94, c95, e96, hc97, R98⟩ := id hs93; refine ol_v (e_len (SlT.sl sl_35) e96) rfl ?_; refine ol_yes rfl rfl (congrArg Value.bool hb89) ?_; refine ol_m h1 ?_; refine ol_yes rfl rfl (congrArg Value.bool hb89) ?_; refine ol_v (e_gtr rfl rfl) rfl ?_; refine ol_v (e_pick true _ (congrArg Value.bool hb89) rfl) rfl ?_; exact ol_nil ⟨⟨rfl, (bv_and_t hb89)⟩, (Agr.refl _ _ _).u.u.u.u.u.u.u.u⟩
            · have hb90 := Bool.eq_false_iff.mpr hb89; refine ol_m rfl ?_; refine ol_not rfl rfl rfl (congrArg Value.bool hb90) rfl ?_; refine ol_not rfl rfl rfl (congrArg Value.bool hb90) rfl ?_; refine ol_not rfl rfl rfl (congrArg Value.bool hb90) rfl ?_; refine ol_not rfl rfl rfl (congrArg Value.bool hb90) rfl ?_; refine ol_not rfl rfl rfl (congrArg Value.bool hb90) rfl ?_; refine ol_not rfl rfl rfl (congrArg Value.bool hb90) rfl ?_; refine ol_v (e_pick false _ (congrArg Value.bool hb90) rfl) rfl ?_; exact ol_nil ⟨⟨rfl, (bv_and_f hb90)⟩, (Agr.refl _ _ _).u.u.u.u.u.u.u.u⟩
          rintro ρ99 _ ⟨⟨rfl, hp99⟩, hAg99⟩; exact ol_fin hr ⟨F, hW, g4, g6, g8, v8_0, g11, ((hAg99 1 rfl).trans h1), ((hAg99 4 rfl).trans p4), h4, ((hAg99 6 rfl).trans p6), h6, ((hAg99 8 rfl).trans p8), b8, h8_0, (OwnV.eqv (hAg99 9 rfl) h9), ((hAg99 11 rfl).trans p11), h11, (SlR.eqv (hAg99 29 rfl) h29), ((hAg99 30 rfl).trans h30), ((hAg99 31 rfl).trans h31), hp99, a4b_8b, a80_11b⟩
        refine Ref.condP (b := fun s => s.t_46) (L := G12 w0 F0) (K := G12 w0 F0) ?_ ?_ ?_
        · rintro s ρ w ⟨F, hW, g4, g6, g8, v8_0, g11, h1, p4, h4, p6, h6, p8, b8, h8_0, h9, p11, h11, h29, h30, h31, h46, a4b_8b, a80_11b⟩; exact ⟨h46, ⟨F, hW, g4, g6, g8, v8_0, g11, h1, p4, h4, p6, h6, p8, b8, h8_0, h9, p11, h11, h29, h30, h31, a4b_8b, a80_11b⟩, F, hW, g4, g6, g8, v8_0, g11, h1, p4, h4, p6, h6, p8, b8, h8_0, h9, p11, h11, h29, h30, h31, a4b_8b, a80_11b⟩
        · refine Ref.seq (B := G9 w0 F0) ?_ ?_
          · refine Ref.region (fun s ρ w s' h hr => ?_); obtain ⟨F, hW, g4, g6, g8, v8_0, g11, h1, p4, h4, p6, h6, p8, b8, h8_0, h9, p11, h11, h29, h30, h31, a4b_8b, a80_11b⟩ := h; refine ol_m rfl ?_; refine ol_v (e_fa fa_39_0 p11) rfl ?_; refine ol_v (e_ld ty_3 (LiesV.int ((h11).at_.fld fl_StoredObject_0)) rfl) rfl ?_; refine ol_e (f_bslF sl_26 hW ([s.t_11.Digest] : List Int) [.int .i64 s.t_11.Digest] (by exact ⟨_, _, rfl, (val_int _ _), rfl⟩) rfl (Nat.le_of_ble_eq_true rfl) (lcons (congrArg (Prod.mk 0) rfl) rfl)) rfl rfl ?_; rintro v100 w101 ⟨Fz103, kw1, ho102⟩; have hW104 := hW.trans kw1; have st1 := kw1.stp hW.ok; obtain ⟨x105, hx105, hr⟩ := bind_some' hr; have z6 := h9.wk kw1 hW.ok; refine ol_e (f_app sl_26 hW104 z6 ho102 hx105 rfl rfl) rfl rfl ?_; rintro v106 w107 ⟨hW108, ho109, hg2, st2, hor110⟩; refine ol_a rfl ?_; exact ol_fin hr ⟨Fz103, hW108, g4, g6, g8, v8_0, h1, p4, ((h4.wk kw1 hW.ok).mut (apart_bo (h4.wk kw1 hW.ok) z6 rfl).symm hg2 st2), p6, ((h6.wk kw1 hW.ok).mut (apart_bo (h6.wk kw1 hW.ok) z6 rfl).symm hg2 st2), p8, ((b8.wk kw1 hW.ok).mut (apart_bo (b8.wk kw1 hW.ok) z6 rfl).symm hg2 st2), ((h8_0.wk kw1 hW.ok).mut (apart_oo z6 (h8_0.wk kw1 hW.ok) rfl) hg2 st2), ho109, (h29.keep (st1.trans st2)), h30, h31, a4b_8b⟩
          exact Ref.exit (fun s ρ w h => h)
        · exact Ref.skip
      refine Ref.regionH (by kernel_rfl) (fun s ρ w ⟨F, hW, g4, g6, g8, v8_0, g11, h1, p4, h4, p6, h6, p8, b8, h8_0, h9, p11, h11, h29, h30, h31, a4b_8b, a80_11b⟩ => ⟨F, hW.drewS, g4, g6, g8, v8_0, g11, h1, p4, h4.wk (Wk.drew (row := nrow) hW.ok) hW.ok, p6, h6.wk (Wk.drew (row := nrow) hW.ok) hW.ok, p8, b8.wk (Wk.drew (row := nrow) hW.ok) hW.ok, h8_0.wk (Wk.drew (row := nrow) hW.ok) hW.ok, h9.wk (Wk.drew (row := nrow) hW.ok) hW.ok, p11, h11.wk (Wk.drew (row := nrow) hW.ok) hW.ok, h29.keep (sd hW), h30, h31, a4b_8b, a80_11b⟩) (fun s ρ w s' h hr => ?_); obtain ⟨F, hW, g4, g6, g8, v8_0, g11, h1, p4, h4, p6, h6, p8, b8, h8_0, h9, p11, h11, h29, h30, h31, a4b_8b, a80_11b⟩ := h; refine ⟨fun w' => Stp F w F w' ∧ w'.heap[g11]? = w.heap[g11]?, ?_⟩; refine oh_v 0 rfl (by kernel_rfl) (by kernel_rfl) (by kernel_rfl) ⟨(Stp.refl _ _), rfl⟩ (fun wv_ SV => e_fa fa_24_0 p8) rfl ?_; refine oh_v 2 rfl (by kernel_rfl) (by kernel_rfl) (by kernel_rfl) ⟨(Stp.refl _ _), rfl⟩ (fun wv_ SV => e_fa fa_39_0 p11) rfl ?_; refine oh_v 3 rfl (by kernel_rfl) (by kernel_rfl) (by kernel_rfl) ⟨(Stp.refl _ _), rfl⟩ (fun wv_ SV => e_ld ty_3 ((LiesV.int ((h11).at_.fld fl_StoredObject_0)).same SV.1 SV.2) rfl) rfl ?_; refine oh_v 4 rfl (by kernel_rfl) (by kernel_rfl) (by kernel_rfl) ⟨(Stp.refl _ _), rfl⟩ (fun wv_ SV => e_fa fa_39_1 p11) rfl ?_; obtain ⟨v138, hl139⟩ := LiesAt.v ((h11).at_.fld fl_StoredObject_1); refine oh_v 5 rfl (by kernel_rfl) (by kernel_rfl) (by kernel_rfl) ⟨(Stp.refl _ _), rfl⟩ (fun wv_ SV => e_ld ty_37 (hl139.same SV.1 SV.2) rfl) rfl ?_; refine oh_all [1, 6] (by kernel_rfl) rfl ⟨?_, ?_, trivial⟩
      · refine oh1_v rfl (e_ld (v := v8_0) tyr_22 (LiesV.raw ((b8).at_.fld fl_ObjectStore_r_0)) rfl) rfl ?_; refine ⟨⟨(Stp.refl _ _), rfl⟩, ?_⟩; refine oh_all [6] (by kernel_rfl) rfl ⟨?_, trivial⟩
        · obtain ⟨x140, hx140, hr⟩ := bind_some' hr; refine oh1_e rfl (f_call [v138] fn_27 (lcons rfl rfl) (objects_Clone.calls hW.ok hl139.val hx140)) rfl ?_; rintro v143 w141 ⟨Fz142, _, rfl, kw1, hk144⟩; have hW146 := hW.trans kw1; have st1 := kw1.stp hW.ok; have hh1_11 : w141.heap[g11]? = w.heap[g11]? := (h11.hpw kw1); refine ⟨⟨(Stp.back st1), hh1_11⟩, ?_⟩; refine oh_all [7] (by kernel_rfl) rfl ⟨?_, trivial⟩
          · obtain ⟨c147, c148, e149⟩ := opn_Object (hk144); refine oh1_v rfl (e_bld (cells := #[.int .i64 s.t_11.Digest, .int .i64 x140.Kind, c147, c148]) bld_39 (vs := [(0, .int .i64 s.t_11.Digest), (1, .agg #[.int .i64 x140.Kind, c147, c148])]) (lcons (congrArg (Prod.mk 0) rfl) (lcons (congrArg (Prod.mk 1) e149) rfl)) rfl) rfl ?_; have hb150 : Val k_StoredObject Fz142 w141 (.agg #[.int .i64 s.t_11.Digest, .int .i64 x140.Kind, c147, c148]) (⟨s.t_11.Digest, x140⟩ : StoredObject) := mk_StoredObject (val_int _ _) (Val.eqv e149.symm hk144); refine ⟨⟨(Stp.back st1), hh1_11⟩, ?_⟩; refine oh_all [8] (by kernel_rfl) rfl ⟨?_, trivial⟩
            · refine oh1_e rfl (f_bslF sl_22 hW146 ([(⟨s.t_11.Digest, x140⟩ : StoredObject)] : List StoredObject) [.agg #[.int .i64 s.t_11.Digest, .int .i64 x140.Kind, c147, c148]] (by exact ⟨_, _, rfl, hb150, rfl⟩) rfl (Nat.le_of_ble_eq_true rfl) (lcons (congrArg (Prod.mk 0) rfl) rfl)) rfl ?_; rintro v151 w152 ⟨Fz154, kw2, ho153⟩; have hW155 := hW146.trans kw2; have st2 := kw2.stp hW146.ok; have hh2_11 : w152.heap[g11]? = w.heap[g11]? := (((h11.wk kw1 hW.ok).hpw kw2).trans hh1_11); refine ⟨⟨(Stp.back (st1.trans st2)), hh2_11⟩, ?_⟩; refine oh_all [9] (by kernel_rfl) rfl ⟨?_, trivial⟩
              · obtain ⟨x156, hx156, hr⟩ := bind_some' hr; refine oh1_e rfl (f_app sl_22 hW155 ((h8_0.wk kw1 hW.ok).wk kw2 hW146.ok) ho153 hx156 rfl rfl) rfl ?_; rintro v157 w158 ⟨hW159, ho160, hg3, st3, hor161⟩; have hh3_11 : w158.heap[g11]? = w.heap[g11]? := ((((h11.wk kw1 hW.ok).wk kw2 hW146.ok).hpm a80_11b hg3).trans hh2_11); refine ⟨⟨(Stp.back (st1.trans (st2.trans st3))), hh3_11⟩, ?_⟩; refine oh_v 10 rfl (by kernel_rfl) (by kernel_rfl) (by kernel_rfl) ⟨(Stp.back (st1.trans (st2.trans st3))), hh3_11⟩ (fun wv_ SV => e_fa fa_24_0 p8) rfl ?_; refine oh_all [11] (by kernel_rfl) rfl ⟨?_, trivial⟩
                · refine oh1_eN rfl (f_stB (l := kRaw) hW159 (((b8.wk kw1 hW.ok).wk kw2 hW146.ok).mut (apart_bo ((b8.wk kw1 hW.ok).wk kw2 hW146.ok) ((h8_0.wk kw1 hW.ok).wk kw2 hW146.ok) rfl).symm hg3 st3) fs_ObjectStore_r_0 tyr_22 (OwnV.raw ho160) rfl rfl) ?_; rintro - w162 ⟨hW163, ho164, hg4, st4⟩; have hh4_11 : w162.heap[g11]? = w.heap[g11]? := (((((h11.wk kw1 hW.ok).wk kw2 hW146.ok).mut a80_11b hg3 st3).hpm (apart_bb (((b8.wk kw1 hW.ok).wk kw2 hW146.ok).mut (apart_bo ((b8.wk kw1 hW.ok).wk kw2 hW146.ok) ((h8_0.wk kw1 hW.ok).wk kw2 hW146.ok) rfl).symm hg3 st3) (((h11.wk kw1 hW.ok).wk kw2 hW146.ok).mut a80_11b hg3 st3) rfl) hg4).trans hh3_11); refine ⟨⟨(Stp.back (st1.trans (st2.trans (st3.trans st4)))), hh4_11⟩, ?_⟩; obtain rfl := Option.some.inj hr; exact oh_done (by kernel_rfl) ⟨Fz154, hW163, g4, g6, g8, v157, h1, p4, ((((h4.wk kw1 hW.ok).wk kw2 hW146.ok).mut (apart_bo ((h4.wk kw1 hW.ok).wk kw2 hW146.ok) ((h8_0.wk kw1 hW.ok).wk kw2 hW146.ok) rfl).symm hg3 st3).mut a4b_8b.symm hg4 st4), p6, ((((h6.wk kw1 hW.ok).wk kw2 hW146.ok).mut (apart_bo ((h6.wk kw1 hW.ok).wk kw2 hW146.ok) ((h8_0.wk kw1 hW.ok).wk kw2 hW146.ok) rfl).symm hg3 st3).mut (apart_bb (((b8.wk kw1 hW.ok).wk kw2 hW146.ok).mut (apart_bo ((b8.wk kw1 hW.ok).wk kw2 hW146.ok) ((h8_0.wk kw1 hW.ok).wk kw2 hW146.ok) rfl).symm hg3 st3) (((h6.wk kw1 hW.ok).wk kw2 hW146.ok).mut (apart_bo ((h6.wk kw1 hW.ok).wk kw2 hW146.ok) ((h8_0.wk kw1 hW.ok).wk kw2 hW146.ok) rfl).symm hg3 st3) rfl) hg4 st4), p8, ho164, (ho160.mut (apart_bo (((b8.wk kw1 hW.ok).wk kw2 hW146.ok).mut (apart_bo ((b8.wk kw1 hW.ok).wk kw2 hW146.ok) ((h8_0.wk kw1 hW.ok).wk kw2 hW146.ok) rfl).symm hg3 st3) ho160 rfl) hg4 st4), ((((h9.wk kw1 hW.ok).wk kw2 hW146.ok).mut (apart_oo ((h8_0.wk kw1 hW.ok).wk kw2 hW146.ok) ((h9.wk kw1 hW.ok).wk kw2 hW146.ok) rfl) hg3 st3).mut (apart_bo (((b8.wk kw1 hW.ok).wk kw2 hW146.ok).mut (apart_bo ((b8.wk kw1 hW.ok).wk kw2 hW146.ok) ((h8_0.wk kw1 hW.ok).wk kw2 hW146.ok) rfl).symm hg3 st3) (((h9.wk kw1 hW.ok).wk kw2 hW146.ok).mut (apart_oo ((h8_0.wk kw1 hW.ok).wk kw2 hW146.ok) ((h9.wk kw1 hW.ok).wk kw2 hW146.ok) rfl) hg3 st3) rfl) hg4 st4), (h29.keep (st1.trans (st2.trans (st3.trans st4)))), h30, h31, a4b_8b.symm.symm⟩
      · obtain ⟨x140, hx140, hr⟩ := bind_some' hr; refine oh1_e rfl (f_call [v138] fn_27 (lcons rfl rfl) (objects_Clone.calls hW.ok hl139.val hx140)) rfl ?_; rintro v167 w165 ⟨Fz166, _, rfl, kw1, hk168⟩; have hW170 := hW.trans kw1; have st1 := kw1.stp hW.ok; have hh1_11 : w165.heap[g11]? = w.heap[g11]? := (h11.hpw kw1); refine ⟨⟨(Stp.back st1), hh1_11⟩, ?_⟩; refine oh_all [1, 7] (by kernel_rfl) rfl ⟨?_, ?_, trivial⟩
        · refine oh1_v rfl (e_ld (v := v8_0) tyr_22 (LiesV.raw (((b8.wk kw1 hW.ok)).at_.fld fl_ObjectStore_r_0)) rfl) rfl ?_; refine ⟨⟨(Stp.back st1), hh1_11⟩, ?_⟩; refine oh_all [7] (by kernel_rfl) rfl ⟨?_, trivial⟩
          · obtain ⟨c171, c172, e173⟩ := opn_Object (hk168); refine oh1_v rfl (e_bld (cells := #[.int .i64 s.t_11.Digest, .int .i64 x140.Kind, c171, c172]) bld_39 (vs := [(0, .int .i64 s.t_11.Digest), (1, .agg #[.int .i64 x140.Kind, c171, c172])]) (lcons (congrArg (Prod.mk 0) rfl) (lcons (congrArg (Prod.mk 1) e173) rfl)) rfl) rfl ?_; have hb174 : Val k_StoredObject Fz166 w165 (.agg #[.int .i64 s.t_11.Digest, .int .i64 x140.Kind, c171, c172]) (⟨s.t_11.Digest, x140⟩ : StoredObject) := mk_StoredObject (val_int _ _) (Val.eqv e173.symm hk168); refine ⟨⟨(Stp.back st1), hh1_11⟩, ?_⟩; refine oh_all [8] (by kernel_rfl) rfl ⟨?_, trivial⟩
            · refine oh1_e rfl (f_bslF sl_22 hW170 ([(⟨s.t_11.Digest, x140⟩ : StoredObject)] : List StoredObject) [.agg #[.int .i64 s.t_11.Digest, .int .i64 x140.Kind, c171, c172]] (by exact ⟨_, _, rfl, hb174, rfl⟩) rfl (Nat.le_of_ble_eq_true rfl) (lcons (congrArg (Prod.mk 0) rfl) rfl)) rfl ?_; rintro v175 w176 ⟨Fz178, kw2, ho177⟩; have hW179 := hW170.trans kw2; have st2 := kw2.stp hW170.ok; have hh2_11 : w176.heap[g11]? = w.heap[g11]? := (((h11.wk kw1 hW.ok).hpw kw2).trans hh1_11); refine ⟨⟨(Stp.back (st1.trans st2)), hh2_11⟩, ?_⟩; refine oh_all [9] (by kernel_rfl) rfl ⟨?_, trivial⟩
              · obtain ⟨x156, hx156, hr⟩ := bind_some' hr; refine oh1_e rfl (f_app sl_22 hW179 ((h8_0.wk kw1 hW.ok).wk kw2 hW170.ok) ho177 hx156 rfl rfl) rfl ?_; rintro v180 w181 ⟨hW182, ho183, hg3, st3, hor184⟩; have hh3_11 : w181.heap[g11]? = w.heap[g11]? := ((((h11.wk kw1 hW.ok).wk kw2 hW170.ok).hpm a80_11b hg3).trans hh2_11); refine ⟨⟨(Stp.back (st1.trans (st2.trans st3))), hh3_11⟩, ?_⟩; refine oh_v 10 rfl (by kernel_rfl) (by kernel_rfl) (by kernel_rfl) ⟨(Stp.back (st1.trans (st2.trans st3))), hh3_11⟩ (fun wv_ SV => e_fa fa_24_0 p8) rfl ?_; refine oh_all [11] (by kernel_rfl) rfl ⟨?_, trivial⟩
                · refine oh1_eN rfl (f_stB (l := kRaw) hW182 (((b8.wk kw1 hW.ok).wk kw2 hW170.ok).mut (apart_bo ((b8.wk kw1 hW.ok).wk kw2 hW170.ok) ((h8_0.wk kw1 hW.ok).wk kw2 hW170.ok) rfl).symm hg3 st3) fs_ObjectStore_r_0 tyr_22 (OwnV.raw ho183) rfl rfl) ?_; rintro - w185 ⟨hW186, ho187, hg4, st4⟩; have hh4_11 : w185.heap[g11]? = w.heap[g11]? := (((((h11.wk kw1 hW.ok).wk kw2 hW170.ok).mut a80_11b hg3 st3).hpm (apart_bb (((b8.wk kw1 hW.ok).wk kw2 hW170.ok).mut (apart_bo ((b8.wk kw1 hW.ok).wk kw2 hW170.ok) ((h8_0.wk kw1 hW.ok).wk kw2 hW170.ok) rfl).symm hg3 st3) (((h11.wk kw1 hW.ok).wk kw2 hW170.ok).mut a80_11b hg3 st3) rfl) hg4).trans hh3_11); refine ⟨⟨(Stp.back (st1.trans (st2.trans (st3.trans st4)))), hh4_11⟩, ?_⟩; obtain rfl := Option.some.inj hr; exact oh_done (by kernel_rfl) ⟨Fz178, hW186, g4, g6, g8, v180, h1, p4, ((((h4.wk kw1 hW.ok).wk kw2 hW170.ok).mut (apart_bo ((h4.wk kw1 hW.ok).wk kw2 hW170.ok) ((h8_0.wk kw1 hW.ok).wk kw2 hW170.ok) rfl).symm hg3 st3).mut a4b_8b.symm hg4 st4), p6, ((((h6.wk kw1 hW.ok).wk kw2 hW170.ok).mut (apart_bo ((h6.wk kw1 hW.ok).wk kw2 hW170.ok) ((h8_0.wk kw1 hW.ok).wk kw2 hW170.ok) rfl).symm hg3 st3).mut (apart_bb (((b8.wk kw1 hW.ok).wk kw2 hW170.ok).mut (apart_bo ((b8.wk kw1 hW.ok).wk kw2 hW170.ok) ((h8_0.wk kw1 hW.ok).wk kw2 hW170.ok) rfl).symm hg3 st3) (((h6.wk kw1 hW.ok).wk kw2 hW170.ok).mut (apart_bo ((h6.wk kw1 hW.ok).wk kw2 hW170.ok) ((h8_0.wk kw1 hW.ok).wk kw2 hW170.ok) rfl).symm hg3 st3) rfl) hg4 st4), p8, ho187, (ho183.mut (apart_bo (((b8.wk kw1 hW.ok).wk kw2 hW170.ok).mut (apart_bo ((b8.wk kw1 hW.ok).wk kw2 hW170.ok) ((h8_0.wk kw1 hW.ok).wk kw2 hW170.ok) rfl).symm hg3 st3) ho183 rfl) hg4 st4), ((((h9.wk kw1 hW.ok).wk kw2 hW170.ok).mut (apart_oo ((h8_0.wk kw1 hW.ok).wk kw2 hW170.ok) ((h9.wk kw1 hW.ok).wk kw2 hW170.ok) rfl) hg3 st3).mut (apart_bo (((b8.wk kw1 hW.ok).wk kw2 hW170.ok).mut (apart_bo ((b8.wk kw1 hW.ok).wk kw2 hW170.ok) ((h8_0.wk kw1 hW.ok).wk kw2 hW170.ok) rfl).symm hg3 st3) (((h9.wk kw1 hW.ok).wk kw2 hW170.ok).mut (apart_oo ((h8_0.wk kw1 hW.ok).wk kw2 hW170.ok) ((h9.wk kw1 hW.ok).wk kw2 hW170.ok) rfl) hg3 st3) rfl) hg4 st4), (h29.keep (st1.trans (st2.trans (st3.trans st4)))), h30, h31, a4b_8b.symm.symm⟩
        · obtain ⟨c188, c189, e190⟩ := opn_Object (hk168); refine oh1_v rfl (e_bld (cells := #[.int .i64 s.t_11.Digest, .int .i64 x140.Kind, c188, c189]) bld_39 (vs := [(0, .int .i64 s.t_11.Digest), (1, .agg #[.int .i64 x140.Kind, c188, c189])]) (lcons (congrArg (Prod.mk 0) rfl) (lcons (congrArg (Prod.mk 1) e190) rfl)) rfl) rfl ?_; have hb191 : Val k_StoredObject Fz166 w165 (.agg #[.int .i64 s.t_11.Digest, .int .i64 x140.Kind, c188, c189]) (⟨s.t_11.Digest, x140⟩ : StoredObject) := mk_StoredObject (val_int _ _) (Val.eqv e190.symm hk168); refine ⟨⟨(Stp.back st1), hh1_11⟩, ?_⟩; refine oh_all [1, 8] (by kernel_rfl) rfl ⟨?_, ?_, trivial⟩
          · refine oh1_v rfl (e_ld (v := v8_0) tyr_22 (LiesV.raw (((b8.wk kw1 hW.ok)).at_.fld fl_ObjectStore_r_0)) rfl) rfl ?_; refine ⟨⟨(Stp.back st1), hh1_11⟩, ?_⟩; refine oh_all [8] (by kernel_rfl) rfl ⟨?_, trivial⟩
            · refine oh1_e rfl (f_bslF sl_22 hW170 ([(⟨s.t_11.Digest, x140⟩ : StoredObject)] : List StoredObject) [.agg #[.int .i64 s.t_11.Digest, .int .i64 x140.Kind, c188, c189]] (by exact ⟨_, _, rfl, hb191, rfl⟩) rfl (Nat.le_of_ble_eq_true rfl) (lcons (congrArg (Prod.mk 0) rfl) rfl)) rfl ?_; rintro v192 w193 ⟨Fz195, kw2, ho194⟩; have hW196 := hW170.trans kw2; have st2 := kw2.stp hW170.ok; have hh2_11 : w193.heap[g11]? = w.heap[g11]? := (((h11.wk kw1 hW.ok).hpw kw2).trans hh1_11); refine ⟨⟨(Stp.back (st1.trans st2)), hh2_11⟩, ?_⟩; refine oh_all [9] (by kernel_rfl) rfl ⟨?_, trivial⟩
              · obtain ⟨x156, hx156, hr⟩ := bind_some' hr; refine oh1_e rfl (f_app sl_22 hW196 ((h8_0.wk kw1 hW.ok).wk kw2 hW170.ok) ho194 hx156 rfl rfl) rfl ?_; rintro v197 w198 ⟨hW199, ho200, hg3, st3, hor201⟩; have hh3_11 : w198.heap[g11]? = w.heap[g11]? := ((((h11.wk kw1 hW.ok).wk kw2 hW170.ok).hpm a80_11b hg3).trans hh2_11); refine ⟨⟨(Stp.back (st1.trans (st2.trans st3))), hh3_11⟩, ?_⟩; refine oh_v 10 rfl (by kernel_rfl) (by kernel_rfl) (by kernel_rfl) ⟨(Stp.back (st1.trans (st2.trans st3))), hh3_11⟩ (fun wv_ SV => e_fa fa_24_0 p8) rfl ?_; refine oh_all [11] (by kernel_rfl) rfl ⟨?_, trivial⟩
                · refine oh1_eN rfl (f_stB (l := kRaw) hW199 (((b8.wk kw1 hW.ok).wk kw2 hW170.ok).mut (apart_bo ((b8.wk kw1 hW.ok).wk kw2 hW170.ok) ((h8_0.wk kw1 hW.ok).wk kw2 hW170.ok) rfl).symm hg3 st3) fs_ObjectStore_r_0 tyr_22 (OwnV.raw ho200) rfl rfl) ?_; rintro - w202 ⟨hW203, ho204, hg4, st4⟩; have hh4_11 : w202.heap[g11]? = w.heap[g11]? := (((((h11.wk kw1 hW.ok).wk kw2 hW170.ok).mut a80_11b hg3 st3).hpm (apart_bb (((b8.wk kw1 hW.ok).wk kw2 hW170.ok).mut (apart_bo ((b8.wk kw1 hW.ok).wk kw2 hW170.ok) ((h8_0.wk kw1 hW.ok).wk kw2 hW170.ok) rfl).symm hg3 st3) (((h11.wk kw1 hW.ok).wk kw2 hW170.ok).mut a80_11b hg3 st3) rfl) hg4).trans hh3_11); refine ⟨⟨(Stp.back (st1.trans (st2.trans (st3.trans st4)))), hh4_11⟩, ?_⟩; obtain rfl := Option.some.inj hr; exact oh_done (by kernel_rfl) ⟨Fz195, hW203, g4, g6, g8, v197, h1, p4, ((((h4.wk kw1 hW.ok).wk kw2 hW170.ok).mut (apart_bo ((h4.wk kw1 hW.ok).wk kw2 hW170.ok) ((h8_0.wk kw1 hW.ok).wk kw2 hW170.ok) rfl).symm hg3 st3).mut a4b_8b.symm hg4 st4), p6, ((((h6.wk kw1 hW.ok).wk kw2 hW170.ok).mut (apart_bo ((h6.wk kw1 hW.ok).wk kw2 hW170.ok) ((h8_0.wk kw1 hW.ok).wk kw2 hW170.ok) rfl).symm hg3 st3).mut (apart_bb (((b8.wk kw1 hW.ok).wk kw2 hW170.ok).mut (apart_bo ((b8.wk kw1 hW.ok).wk kw2 hW170.ok) ((h8_0.wk kw1 hW.ok).wk kw2 hW170.ok) rfl).symm hg3 st3) (((h6.wk kw1 hW.ok).wk kw2 hW170.ok).mut (apart_bo ((h6.wk kw1 hW.ok).wk kw2 hW170.ok) ((h8_0.wk kw1 hW.ok).wk kw2 hW170.ok) rfl).symm hg3 st3) rfl) hg4 st4), p8, ho204, (ho200.mut (apart_bo (((b8.wk kw1 hW.ok).wk kw2 hW170.ok).mut (apart_bo ((b8.wk kw1 hW.ok).wk kw2 hW170.ok) ((h8_0.wk kw1 hW.ok).wk kw2 hW170.ok) rfl).symm hg3 st3) ho200 rfl) hg4 st4), ((((h9.wk kw1 hW.ok).wk kw2 hW170.ok).mut (apart_oo ((h8_0.wk kw1 hW.ok).wk kw2 hW170.ok) ((h9.wk kw1 hW.ok).wk kw2 hW170.ok) rfl) hg3 st3).mut (apart_bo (((b8.wk kw1 hW.ok).wk kw2 hW170.ok).mut (apart_bo ((b8.wk kw1 hW.ok).wk kw2 hW170.ok) ((h8_0.wk kw1 hW.ok).wk kw2 hW170.ok) rfl).symm hg3 st3) (((h9.wk kw1 hW.ok).wk kw2 hW170.ok).mut (apart_oo ((h8_0.wk kw1 hW.ok).wk kw2 hW170.ok) ((h9.wk kw1 hW.ok).wk kw2 hW170.ok) rfl) hg3 st3) rfl) hg4 st4), (h29.keep (st1.trans (st2.trans (st3.trans st4)))), h30, h31, a4b_8b.symm.symm⟩
          · refine oh1_e rfl (f_bslF sl_22 hW170 ([(⟨s.t_11.Digest, x140⟩ : StoredObject)] : List StoredObject) [.agg #[.int .i64 s.t_11.Digest, .int .i64 x140.Kind, c188, c189]] (by exact ⟨_, _, rfl, hb191, rfl⟩) rfl (Nat.le_of_ble_eq_true rfl) (lcons (congrArg (Prod.mk 0) rfl) rfl)) rfl ?_; rintro v205 w206 ⟨Fz208, kw2, ho207⟩; have hW209 := hW170.trans kw2; have st2 := kw2.stp hW170.ok; have hh2_11 : w206.heap[g11]? = w.heap[g11]? := (((h11.wk kw1 hW.ok).hpw kw2).trans hh1_11); refine ⟨⟨(Stp.back (st1.trans st2)), hh2_11⟩, ?_⟩; refine oh_all [1] (by kernel_rfl) rfl ⟨?_, trivial⟩
            · refine oh1_v rfl (e_ld (v := v8_0) tyr_22 (LiesV.raw ((((b8.wk kw1 hW.ok).wk kw2 hW170.ok)).at_.fld fl_ObjectStore_r_0)) rfl) rfl ?_; refine ⟨⟨(Stp.back (st1.trans st2)), hh2_11⟩, ?_⟩; refine oh_all [9] (by kernel_rfl) rfl ⟨?_, trivial⟩
              · obtain ⟨x156, hx156, hr⟩ := bind_some' hr; refine oh1_e rfl (f_app sl_22 hW209 ((h8_0.wk kw1 hW.ok).wk kw2 hW170.ok) ho207 hx156 rfl rfl) rfl ?_; rintro v210 w211 ⟨hW212, ho213, hg3, st3, hor214⟩; have hh3_11 : w211.heap[g11]? = w.heap[g11]? := ((((h11.wk kw1 hW.ok).wk kw2 hW170.ok).hpm a80_11b hg3).trans hh2_11); refine ⟨⟨(Stp.back (st1.trans (st2.trans st3))), hh3_11⟩, ?_⟩; refine oh_v 10 rfl (by kernel_rfl) (by kernel_rfl) (by kernel_rfl) ⟨(Stp.back (st1.trans (st2.trans st3))), hh3_11⟩ (fun wv_ SV => e_fa fa_24_0 p8) rfl ?_; refine oh_all [11] (by kernel_rfl) rfl ⟨?_, trivial⟩
                · refine oh1_eN rfl (f_stB (l := kRaw) hW212 (((b8.wk kw1 hW.ok).wk kw2 hW170.ok).mut (apart_bo ((b8.wk kw1 hW.ok).wk kw2 hW170.ok) ((h8_0.wk kw1 hW.ok).wk kw2 hW170.ok) rfl).symm hg3 st3) fs_ObjectStore_r_0 tyr_22 (OwnV.raw ho213) rfl rfl) ?_; rintro - w215 ⟨hW216, ho217, hg4, st4⟩; have hh4_11 : w215.heap[g11]? = w.heap[g11]? := (((((h11.wk kw1 hW.ok).wk kw2 hW170.ok).mut a80_11b hg3 st3).hpm (apart_bb (((b8.wk kw1 hW.ok).wk kw2 hW170.ok).mut (apart_bo ((b8.wk kw1 hW.ok).wk kw2 hW170.ok) ((h8_0.wk kw1 hW.ok).wk kw2 hW170.ok) rfl).symm hg3 st3) (((h11.wk kw1 hW.ok).wk kw2 hW170.ok).mut a80_11b hg3 st3) rfl) hg4).trans hh3_11); refine ⟨⟨(Stp.back (st1.trans (st2.trans (st3.trans st4)))), hh4_11⟩, ?_⟩; obtain rfl := Option.some.inj hr; exact oh_done (by kernel_rfl) ⟨Fz208, hW216, g4, g6, g8, v210, h1, p4, ((((h4.wk kw1 hW.ok).wk kw2 hW170.ok).mut (apart_bo ((h4.wk kw1 hW.ok).wk kw2 hW170.ok) ((h8_0.wk kw1 hW.ok).wk kw2 hW170.ok) rfl).symm hg3 st3).mut a4b_8b.symm hg4 st4), p6, ((((h6.wk kw1 hW.ok).wk kw2 hW170.ok).mut (apart_bo ((h6.wk kw1 hW.ok).wk kw2 hW170.ok) ((h8_0.wk kw1 hW.ok).wk kw2 hW170.ok) rfl).symm hg3 st3).mut (apart_bb (((b8.wk kw1 hW.ok).wk kw2 hW170.ok).mut (apart_bo ((b8.wk kw1 hW.ok).wk kw2 hW170.ok) ((h8_0.wk kw1 hW.ok).wk kw2 hW170.ok) rfl).symm hg3 st3) (((h6.wk kw1 hW.ok).wk kw2 hW170.ok).mut (apart_bo ((h6.wk kw1 hW.ok).wk kw2 hW170.ok) ((h8_0.wk kw1 hW.ok).wk kw2 hW170.ok) rfl).symm hg3 st3) rfl) hg4 st4), p8, ho217, (ho213.mut (apart_bo (((b8.wk kw1 hW.ok).wk kw2 hW170.ok).mut (apart_bo ((b8.wk kw1 hW.ok).wk kw2 hW170.ok) ((h8_0.wk kw1 hW.ok).wk kw2 hW170.ok) rfl).symm hg3 st3) ho213 rfl) hg4 st4), ((((h9.wk kw1 hW.ok).wk kw2 hW170.ok).mut (apart_oo ((h8_0.wk kw1 hW.ok).wk kw2 hW170.ok) ((h9.wk kw1 hW.ok).wk kw2 hW170.ok) rfl) hg3 st3).mut (apart_bo (((b8.wk kw1 hW.ok).wk kw2 hW170.ok).mut (apart_bo ((b8.wk kw1 hW.ok).wk kw2 hW170.ok) ((h8_0.wk kw1 hW.ok).wk kw2 hW170.ok) rfl).symm hg3 st3) (((h9.wk kw1 hW.ok).wk kw2 hW170.ok).mut (apart_oo ((h8_0.wk kw1 hW.ok).wk kw2 hW170.ok) ((h9.wk kw1 hW.ok).wk kw2 hW170.ok) rfl) hg3 st3) rfl) hg4 st4), (h29.keep (st1.trans (st2.trans (st3.trans st4)))), h30, h31, a4b_8b.symm.symm⟩
    refine Ref.region (fun s ρ w s' h hr => ?_); obtain ⟨F, hW, g4, g6, g8, v8_0, h1, p4, h4, p6, h6, p8, b8, h8_0, h9, h29, h30, h31, a4b_8b⟩ := h; refine ol_v (e_add h31 rfl) rfl ?_; refine ol_m rfl ?_; exact ol_fin hr ⟨F, hW, g4, g6, g8, v8_0, h1, p4, h4, p6, h6, p8, b8, h8_0, h9, h29, h30, rfl, a4b_8b⟩
  refine Ref.seq (B := G5 w0 F0) ?_ ?_
  · refine Ref.region (fun s ρ w s' h hr => ?_); obtain ⟨F, hW, g4, g6, g8, v8_0, p4, h4, p6, h6, p8, b8, h8_0, h9, a4b_8b⟩ := h; obtain ⟨v218, hl219⟩ := LiesAt.v (b8).at_; refine ol_v (e_ld tyT_24 hl219 p8) rfl ?_; refine ol_m rfl ?_; refine ol_v (e_bld (cells := #[.int .i64 0, .int .i64 0]) bld_28 (vs := []) rfl rfl) rfl ?_; have hb220 : Val k_Fault F w (.agg #[.int .i64 0, .int .i64 0]) (⟨(0 : Int), (0 : Int)⟩ : Fault) := mk_Fault (val_int _ _) (val_int _ _); obtain ⟨Fz221, hWz222, st1, hF1, hz223⟩ := (h8_0).frozen hW; have hb224 : Val k_ObjectStore Fz221 w v218 (⟨s.t_8.Objects⟩ : ObjectStore) := un_ObjectStore (hl219.val.keep st1) hz223; have z9 := h4.frz (apart_bo h4 h8_0 rfl).symm hF1 st1; refine ol_eN (f_stB hWz222 z9 (FldS.whole _) ty_24 hb224 p4 rfl) rfl ?_; rintro - w225 ⟨hW226, ho227, hg2, st2⟩; refine ol_a rfl ?_; have z10 := h6.frz (apart_bo h6 h8_0 rfl).symm hF1 st1; have z7 := z10.mut (apart_bb z9 z10 rfl) hg2 st2; refine ol_eN (f_stB hW226 z7 (FldS.whole _) ty_28 (hb220.keep (st1.trans st2)) p6 rfl) rfl ?_; rintro - w228 ⟨hW229, ho230, hg3, st3⟩; have z11 := h9.frz (apart_oo h8_0 h9 rfl) hF1 st1; have z8 := z11.mut (apart_bo z9 z11 rfl) hg2 st2; exact ol_fin hr ⟨Fz221, hW229, g4, g6, p4, (ho227.mut (apart_bb z7 ho227 rfl) hg3 st3), (z8.mut (apart_bo z7 z8 rfl) hg3 st3), p6, ho230⟩
  exact Ref.ret (fun s ρ w h => ⟨s, rfl, h⟩)
def post (w : World) (F : BSet) (r : R) (v : Value) (w' : World) : Prop := ∃ (F' : BSet) (v0' : Value) (v1' : Value) (v2' : Value), v = .tuple #[v0', v1', v2'] ∧ Wk nrow w F F' w' ∧ Val k_ObjectStore F' w' v0' r.1 ∧ OwnV (kInt .i64) 3 (Nw w) F' w' v1' r.2.1 ∧ Val k_Fault F' w' v2' r.2.2
theorem calls {w : World} {F : BSet} (hok : ∀ b, F b → b < w.heap.size) {v0 : Value} {a0 : ObjectStore} (h0 : Val k_ObjectStore F w v0 a0) (a1 : Int) {r : R} (hf : f a0 a1 = some r) : Calls Try.prog 10 #[v0, .int .i64 a1] w fun e w' => ∃ v, e = .returned v ∧ post w F r v w' := by
  obtain ⟨c, hc, href⟩ := ref w F; refine calls_of_ref (args := [v0, .int .i64 a1]) _ Try.func10 hc rfl rfl href ?_ (retOf_some hf) ?_
  · exact ⟨F, Wk.refl hok, h0, rfl⟩
  · rintro ρ w' a ⟨s, rfl, F', hW, g4, g6, p4, h4, h5, p6, h6⟩ hF; obtain ⟨u4, l4, k4⟩ := res_box (P := Try.prog) ty_24 h4; obtain ⟨u6, l6, k6⟩ := res_box (P := Try.prog) ty_28 h6; refine ⟨_, run_results (rs := [.cell 4 24, .tmp 5, .cell 6 28]) rfl hF (vs := [u4, ρ 5, u6]) (⟨_, _, _, rfl, p4, l4, ⟨_, rfl, ⟨_, _, _, rfl, p6, l6, rfl⟩⟩⟩), ?_⟩; exact ⟨F', u4, ρ 5, u6, rfl, hW, k4, h5.rebase (fun g hg => (h5.lt hg).1.resolve_right (fun h => h)), k6⟩
end
end partial_Filter

namespace ref3_Ints
section
abbrev c0 (F : BSet) (w : World) (ρ : Env) (s : S) (X : Prop) : Prop := SlR (kInt .i64) F w (ρ 0) s.a_0 ∧ SlR (kInt .i64) F w (ρ 1) s.b_1 ∧ X
def G0 : GT S := fun w0 F0 s ρ w => ∃ F, Wk nrow w0 F0 F w ∧ SlR (kInt .i64) F w (ρ 0) s.a_0 ∧ SlR (kInt .i64) F w (ρ 1) s.b_1
def G1 : GT S := fun w0 F0 s ρ w => ∃ F, Wk nrow w0 F0 F w ∧ c0 F w ρ s (ρ 10 = .bool s.t_10)
def G2 : GT S := fun w0 F0 s ρ w => ∃ F, Wk nrow w0 F0 F w
def G3 : GT S := fun w0 F0 s ρ w => ∃ F, Wk nrow w0 F0 F w ∧ ρ 4 = .bool s.t_4
def G4 : GT S := fun w0 F0 s ρ w => ∃ F, Wk nrow w0 F0 F w ∧ c0 F w ρ s (ρ 5 = .int .i64 s.i_5)
def G5 : GT S := fun w0 F0 s ρ w => ∃ F, Wk nrow w0 F0 F w ∧ c0 F w ρ s (ρ 5 = .int .i64 s.i_5 ∧ ρ 14 = .bool s.t_14)
def G6 : GT S := fun w0 F0 s ρ w => ∃ F, Wk nrow w0 F0 F w ∧ c0 F w ρ s (ρ 5 = .int .i64 s.i_5 ∧ ρ 25 = .bool s.t_25)
set_option maxHeartbeats 4000000 in
set_option maxRecDepth 20000 in
theorem ref (w0 : World) (F0 : BSet) : ∃ c, Try.f16.body = some c ∧ Ref Try.prog 26 c (G0 w0 F0) body (fun _ _ _ => False) (fun _ _ _ _ => False) (fun r ρ w => ∃ s, retv s = r ∧ G3 w0 F0 s ρ w) := by
  refine ⟨_, rfl, ?_⟩; unfold body; refine Ref.seq (B := G0 w0 F0) ?_ ?_
  · refine Ref.region (fun s ρ w s' h hr => ?_); obtain ⟨F, hW, h0, h1⟩ := h; refine ol_a rfl ?_; exact ol_fin hr ⟨F, hW, h0, h1⟩
  refine Ref.seq (B := G0 w0 F0) ?_ ?_
  · refine Ref.seq (B := G1 w0 F0) ?_ ?_
    · refine Ref.region (fun s ρ w s' h hr => ?_); obtain ⟨F, hW, h0, h1⟩ := h; refine ol_m rfl ?_; obtain ⟨A1, c2, e3, hc4, R5⟩ := id h0; refine ol_v (e_len (SlT.sl sl_26) e3) rfl ?_; refine ol_m rfl ?_; obtain ⟨A6, c7, e8, hc9, R10⟩ := id h1; refine ol_v (e_len (SlT.sl sl_26) e8) rfl ?_; refine ol_v (e_neq rfl rfl) rfl ?_; exact ol_fin hr ⟨F, hW, h0, h1, rfl⟩
    refine Ref.condP (b := fun s => s.t_10) (L := G2 w0 F0) (K := G0 w0 F0) ?_ ?_ ?_
    · rintro s ρ w ⟨F, hW, h0, h1, h10⟩; exact ⟨h10, ⟨F, hW⟩, F, hW, h0, h1⟩
    · refine Ref.seq (B := G3 w0 F0) ?_ ?_
      · refine Ref.region (fun s ρ w s' h hr => ?_); obtain ⟨F, hW⟩ := h; refine ol_a rfl ?_; exact ol_fin hr ⟨F, hW, rfl⟩
      exact Ref.ret (fun s ρ w h => ⟨s, rfl, h⟩)
    · exact Ref.skip
  refine Ref.seq (B := G2 w0 F0) ?_ ?_
  · refine Ref.seq (B := G4 w0 F0) ?_ ?_
    · refine Ref.region (fun s ρ w s' h hr => ?_); obtain ⟨F, hW, h0, h1⟩ := h; refine ol_a rfl ?_; exact ol_fin hr ⟨F, hW, h0, h1, rfl⟩
    refine Ref.block ?_; refine Ref.loop ?_; refine Ref.seq (B := G4 w0 F0) ?_ ?_
    · refine Ref.seq (B := G5 w0 F0) ?_ ?_
      · refine Ref.region (fun s ρ w s' h hr => ?_); obtain ⟨F, hW, h0, h1, h5⟩ := h; refine ol_m h5 ?_; refine ol_m rfl ?_; obtain ⟨A11, c12, e13, hc14, R15⟩ := id h0; refine ol_v (e_len (SlT.sl sl_26) e13) rfl ?_; refine ol_v (e_lss rfl rfl) rfl ?_; exact ol_fin hr ⟨F, hW, h0, h1, h5, rfl⟩
      refine Ref.condP (b := fun s => s.t_14) (L := G4 w0 F0) (K := G2 w0 F0) ?_ ?_ ?_
      · rintro s ρ w ⟨F, hW, h0, h1, h5, h14⟩; exact ⟨h14, ⟨F, hW, h0, h1, h5⟩, F, hW⟩
      · exact Ref.skip
      · exact Ref.exit (fun s ρ w h => h)
    refine Ref.seq (B := G4 w0 F0) ?_ ?_
    · refine Ref.block ?_; refine Ref.seq (B := G6 w0 F0) ?_ ?_
      · refine Ref.regionS (by kernel_rfl) (by kernel_rfl) (fun s ρ w ⟨F, hW, h0, h1, h5⟩ => ⟨F, hW.drewS, h0.keep (sd hW), h1.keep (sd hW), h5⟩) (fun s ρ w s' h hr => ?_); obtain ⟨F, hW, h0, h1, h5⟩ := h; refine ol_m rfl ?_; refine ol_m h5 ?_; obtain ⟨x16, hx16, hr⟩ := bind_some' hr; obtain ⟨A17, c18, e19, hc20, R21⟩ := id h0; obtain ⟨b22, o23, hA24, L25⟩ := Row.at_ R21 hx16; refine ol_v (e_ix (SlT.sl sl_26) (SlT.sz sl_26) hA24 hx16 e19 rfl) rfl ?_; refine ol_v (e_ld ty_3 (LiesV.int L25.at_) rfl) rfl ?_; refine ol_m rfl ?_; refine ol_m h5 ?_; obtain ⟨x26, hx26, hr⟩ := bind_some' hr; obtain ⟨A27, c28, e29, hc30, R31⟩ := id h1; obtain ⟨b32, o33, hA34, L35⟩ := Row.at_ R31 hx26; refine ol_v (e_ix (SlT.sl sl_26) (SlT.sz sl_26) hA34 hx26 e29 rfl) rfl ?_; refine ol_v (e_ld ty_3 (LiesV.int L35.at_) rfl) rfl ?_; refine ol_v (e_neq rfl rfl) rfl ?_; exact ol_fin hr ⟨F, hW, h0, h1, h5, rfl⟩
      refine Ref.condP (b := fun s => s.t_25) (L := G2 w0 F0) (K := G4 w0 F0) ?_ ?_ ?_
      · rintro s ρ w ⟨F, hW, h0, h1, h5, h25⟩; exact ⟨h25, ⟨F, hW⟩, F, hW, h0, h1, h5⟩
      · refine Ref.seq (B := G3 w0 F0) ?_ ?_
        · refine Ref.region (fun s ρ w s' h hr => ?_); obtain ⟨F, hW⟩ := h; refine ol_a rfl ?_; exact ol_fin hr ⟨F, hW, rfl⟩
        exact Ref.ret (fun s ρ w h => ⟨s, rfl, h⟩)
      · exact Ref.skip
    refine Ref.region (fun s ρ w s' h hr => ?_); obtain ⟨F, hW, h0, h1, h5⟩ := h; refine ol_m h5 ?_; refine ol_v (e_add rfl rfl) rfl ?_; refine ol_a rfl ?_; exact ol_fin hr ⟨F, hW, h0, h1, rfl⟩
  refine Ref.seq (B := G3 w0 F0) ?_ ?_
  · refine Ref.region (fun s ρ w s' h hr => ?_); obtain ⟨F, hW⟩ := h; refine ol_a rfl ?_; exact ol_fin hr ⟨F, hW, rfl⟩
  exact Ref.ret (fun s ρ w h => ⟨s, rfl, h⟩)
def post (w : World) (F : BSet) (r : R) (v : Value) (w' : World) : Prop := ∃ (F' : BSet), v = .bool r ∧ Wk nrow w F F' w'
theorem calls {w : World} {F : BSet} (hok : ∀ b, F b → b < w.heap.size) {v0 : Value} {a0 : (List Int)} (h0 : SlR (kInt .i64) F w v0 a0) {v1 : Value} {a1 : (List Int)} (h1 : SlR (kInt .i64) F w v1 a1) {r : R} (hf : f a0 a1 = some r) : Calls Try.prog 16 #[v0, v1] w fun e w' => ∃ v, e = .returned v ∧ post w F r v w' := by
  obtain ⟨c, hc, href⟩ := ref w F; refine calls_of_ref (args := [v0, v1]) _ Try.func16 hc rfl rfl href ?_ (retOf_some hf) ?_
  · exact ⟨F, Wk.refl hok, h0, h1⟩
  · rintro ρ w' a ⟨s, rfl, F', hW, h4⟩ hF; refine ⟨_, run_results (rs := [.tmp 4]) rfl hF (vs := [ρ 4]) (⟨_, rfl, rfl⟩), ?_⟩; have hv : resVal [ρ 4] = .bool s.t_4 := by rw [h4]; rfl
    exact ⟨F', hv, hW⟩
end
end ref3_Ints

end Go.Proofs.Ytenkbkcddcnmeaa
