/- The machine's calls come to these plain functions (written by a program, wip/fx/gen.py). -/
import Derived.Test.YtenkbkcddcnmeaaPA
import Derived.Test.YtenkbkcddcnmeaaNm
import Derived.Test.YtenkbkcddcnmeaaM0
import Derived.Test.YtenkbkcddcnmeaaSl
import Derived.Test.YtenkbkcddcnmeaaIn
namespace Go.Proofs.Ytenkbkcddcnmeaa
open Go.Fx Go.RowKit
set_option linter.unusedVariables false

namespace ref3_Objects
section
def G0 : GT S := fun w0 F0 s ρ w => ∃ F, Wk nrow w0 F0 F w ∧ Val k_Object F w (ρ 0) s.a_0 ∧ Val k_Object F w (ρ 1) s.b_1
def G1 : GT S := fun w0 F0 s ρ w => ∃ F, Wk nrow w0 F0 F w ∧ ∃ g2 g3, ρ 2 = .pointer (some ⟨g2, 0, none⟩) ∧ Box k_Object 37 (Bs w0 nrow) F w g2 s.a_2 ∧ ρ 3 = .pointer (some ⟨g3, 0, none⟩) ∧ Box k_Object 37 (Bs w0 nrow) F w g3 s.b_3 ∧ Apart (some g2) (some g3)
def G2 : GT S := fun w0 F0 s ρ w => ∃ F, Wk nrow w0 F0 F w ∧ ρ 4 = .bool s.t_4
set_option maxHeartbeats 4000000 in
set_option maxRecDepth 20000 in
theorem ref (w0 : World) (F0 : BSet) : ∃ c, Try.f30.body = some c ∧ Ref Try.prog 26 c (G0 w0 F0) body (fun _ _ _ => False) (fun _ _ _ _ => False) (fun r ρ w => ∃ s, retv s = r ∧ G2 w0 F0 s ρ w) := by
  refine ⟨_, rfl, ?_⟩; unfold body; refine Ref.seq (B := G1 w0 F0) ?_ ?_
  · refine Ref.region (fun s ρ w s' h hr => ?_); obtain ⟨F, hW, h0, h1⟩ := h; refine ol_e (f_box hW rfl h0) rfl rfl ?_; rintro _ w2 ⟨g1, rfl, kw1, ho3⟩; have hW4 := hW.trans kw1; have st1 := kw1.stp hW.ok; refine ol_e (f_box hW4 rfl (h1.keep st1)) rfl rfl ?_; rintro _ w6 ⟨g5, rfl, kw2, ho7⟩; have hW8 := hW4.trans kw2; have st2 := kw2.stp hW4.ok; refine ol_a rfl ?_; exact ol_fin hr ⟨F, hW8, g1, g5, rfl, ((ho3.base (row := nrow) hW.le).wk kw2 hW4.ok), rfl, (ho7.base (row := nrow) hW4.le), (Apart.base (fun _ e_ => by cases e_; exact ho7.ge) (ho3.base (row := nrow) hW.le).ltw).symm⟩
  refine Ref.seq (B := G2 w0 F0) ?_ ?_
  · refine Ref.region (fun s ρ w s' h hr => ?_); obtain ⟨F, hW, g2, g3, p2, h2, p3, h3, a2b_3b⟩ := h; refine ol_v (e_fa fa_37_0 p2) rfl ?_; refine ol_v (e_ld ty_3 (LiesV.int ((h2).at_.fld fl_Object_0)) rfl) rfl ?_; refine ol_v (e_fa fa_37_0 p3) rfl ?_; refine ol_v (e_ld ty_3 (LiesV.int ((h3).at_.fld fl_Object_0)) rfl) rfl ?_; refine ol_v (e_eql rfl rfl) rfl ?_; obtain ⟨x22, hx23, hr⟩ := bind_some' hr; refine ol_cutA 7 10 16 (fun ρ' w' => ∃ F', Wk nrow w F F' w' ∧ ρ' 16 = .bool x22) rfl ?_ ?_
    · by_cases hb9 : (decide (s.a_2.Kind = s.b_3.Kind)) = true
      · have hr := hx23; rw [if_pos hb9] at hr; refine ol_m rfl ?_; refine ol_yes rfl rfl (congrArg Value.bool hb9) ?_; refine ol_v (e_fa fa_37_1 p2) rfl ?_; refine ol_yes rfl rfl (congrArg Value.bool hb9) ?_; obtain ⟨v11, hl12, hs13⟩ := LiesV.sl ((h2).at_.fld fl_Object_1); refine ol_v (e_ld ty_26 hl12 rfl) rfl ?_; refine ol_yes rfl rfl (congrArg Value.bool hb9) ?_; refine ol_v (e_fa fa_37_1 p3) rfl ?_; refine ol_yes rfl rfl (congrArg Value.bool hb9) ?_; obtain ⟨v14, hl15, hs16⟩ := LiesV.sl ((h3).at_.fld fl_Object_1); refine ol_v (e_ld ty_26 hl15 rfl) rfl ?_; refine ol_yes rfl rfl (congrArg Value.bool hb9) ?_; obtain ⟨x17, hx17, hr⟩ := bind_some' hr; refine ol_e (f_call [v11, v14] fn_16 (lcons rfl (lcons rfl rfl)) (ref3_Ints.calls hW.ok hs13 hs16 hx17)) rfl rfl ?_; rintro _ w18 ⟨Fz19, rfl, kw1⟩; have hW21 := hW.trans kw1; have st1 := kw1.stp hW.ok; refine ol_v (e_pick true _ (congrArg Value.bool hb9) rfl) rfl ?_; exact ol_nil ⟨⟨_, kw1, (congrArg Value.bool (Option.some.inj hr))⟩, (Agr.refl _ _ _).u.u.u.u.u.u.u⟩
      · have hb10 := Bool.eq_false_iff.mpr hb9; have hr := hx23; rw [if_neg hb9] at hr; refine ol_m rfl ?_; refine ol_not rfl rfl rfl (congrArg Value.bool hb10) rfl ?_; refine ol_not rfl rfl rfl (congrArg Value.bool hb10) rfl ?_; refine ol_not rfl rfl rfl (congrArg Value.bool hb10) rfl ?_; refine ol_not rfl rfl rfl (congrArg Value.bool hb10) rfl ?_; refine ol_not rfl rfl rfl (congrArg Value.bool hb10) rfl ?_; refine ol_v (e_pick false _ (congrArg Value.bool hb10) rfl) rfl ?_; exact ol_nil ⟨⟨_, Wk.refl hW.ok, (congrArg Value.bool (Option.some.inj hr))⟩, (Agr.refl _ _ _).u.u.u.u.u.u.u⟩
    rintro ρ23 w24 ⟨⟨Fz25, kw1, hp23⟩, hAg23⟩; have hW26 := hW.trans kw1; have st1 := kw1.stp hW.ok; refine ol_cutA 9 17 25 (fun ρ' w' => w24 = w' ∧ ρ' 25 = .bool (x22 && (decide ((strOf s.a_2.Data) = (strOf s.b_3.Data))))) rfl ?_ ?_
    · by_cases hb27 : x22 = true
      · refine ol_m hp23 ?_; refine ol_yes rfl rfl (congrArg Value.bool hb27) ?_; refine ol_v (e_fa fa_37_2 ((hAg23 2 rfl).trans p2)) rfl ?_; refine ol_yes rfl rfl (congrArg Value.bool hb27) ?_; obtain ⟨v29, hl30, hs31⟩ := LiesV.sl (((h2.wk kw1 hW.ok)).at_.fld fl_Object_2); refine ol_v (e_ld ty_35 hl30 rfl) rfl ?_; refine ol_yes rfl rfl (congrArg Value.bool hb27) ?_; refine ol_v (e_b2s (SlT.sl sl_35) (by kernel_rfl) (by kernel_rfl) hs31 rfl) rfl ?_; refine ol_yes rfl rfl (congrArg Value.bool hb27) ?_; refine ol_v (e_fa fa_37_2 ((hAg23 3 rfl).trans p3)) rfl ?_; refine ol_yes rfl rfl (congrArg Value.bool hb27) ?_; obtain ⟨v32, hl33, hs34⟩ := LiesV.sl (((h3.wk kw1 hW.ok)).at_.fld fl_Object_2); refine ol_v (e_ld ty_35 hl33 rfl) rfl ?_; refine ol_yes rfl rfl (congrArg Value.bool hb27) ?_; refine ol_v (e_b2s (SlT.sl sl_35) (by kernel_rfl) (by kernel_rfl) hs34 rfl) rfl ?_; refine ol_yes rfl rfl (congrArg Value.bool hb27) ?_; refine ol_v (e_seql rfl rfl) rfl ?_; refine ol_v (e_pick true _ (congrArg Value.bool hb27) rfl) rfl ?_; exact ol_nil ⟨⟨rfl, (bv_and_t hb27)⟩, (Agr.refl _ _ _).u.u.u.u.u.u.u.u.u⟩
      · have hb28 := Bool.eq_false_iff.mpr hb27; refine ol_m hp23 ?_; refine ol_not rfl rfl rfl (congrArg Value.bool hb28) rfl ?_; refine ol_not rfl rfl rfl (congrArg Value.bool hb28) rfl ?_; refine ol_not rfl rfl rfl (congrArg Value.bool hb28) rfl ?_; refine ol_not rfl rfl rfl (congrArg Value.bool hb28) rfl ?_; refine ol_not rfl rfl rfl (congrArg Value.bool hb28) rfl ?_; refine ol_not rfl rfl rfl (congrArg Value.bool hb28) rfl ?_; refine ol_not rfl rfl rfl (congrArg Value.bool hb28) rfl ?_; refine ol_v (e_pick false _ (congrArg Value.bool hb28) rfl) rfl ?_; exact ol_nil ⟨⟨rfl, (bv_and_f hb28)⟩, (Agr.refl _ _ _).u.u.u.u.u.u.u.u.u⟩
    rintro ρ35 _ ⟨⟨rfl, hp35⟩, hAg35⟩; refine ol_a hp35 ?_; exact ol_fin hr ⟨Fz25, hW26, rfl⟩
  exact Ref.ret (fun s ρ w h => ⟨s, rfl, h⟩)
def post (w : World) (F : BSet) (r : R) (v : Value) (w' : World) : Prop := ∃ (F' : BSet), v = .bool r ∧ Wk nrow w F F' w'
theorem calls {w : World} {F : BSet} (hok : ∀ b, F b → b < w.heap.size) {v0 : Value} {a0 : Object} (h0 : Val k_Object F w v0 a0) {v1 : Value} {a1 : Object} (h1 : Val k_Object F w v1 a1) {r : R} (hf : f a0 a1 = some r) : Calls Try.prog 30 #[v0, v1] w fun e w' => ∃ v, e = .returned v ∧ post w F r v w' := by
  obtain ⟨c, hc, href⟩ := ref w F; refine calls_of_ref (args := [v0, v1]) _ Try.func30 hc rfl rfl href ?_ (retOf_some hf) ?_
  · exact ⟨F, Wk.refl hok, h0, h1⟩
  · rintro ρ w' a ⟨s, rfl, F', hW, h4⟩ hF; refine ⟨_, run_results (rs := [.tmp 4]) rfl hF (vs := [ρ 4]) (⟨_, rfl, rfl⟩), ?_⟩; have hv : resVal [ρ 4] = .bool s.t_4 := by rw [h4]; rfl
    exact ⟨F', hv, hW⟩
end
end ref3_Objects

namespace ref3_Stores
section
abbrev c1 (ρ : Env) (g2 g3 : Nat) (w0 w : World) (F : BSet) (s : S) (X : Prop) : Prop := ρ 2 = .pointer (some ⟨g2, 0, none⟩) ∧ Box k_ObjectStore 24 (Bs w0 nrow) F w g2 s.a_2 ∧ ρ 3 = .pointer (some ⟨g3, 0, none⟩) ∧ Box k_ObjectStore 24 (Bs w0 nrow) F w g3 s.b_3 ∧ X
abbrev e2 (g2 g3 : Nat) : Prop := Apart (some g2) (some g3)
def G0 : GT S := fun w0 F0 s ρ w => ∃ F, Wk nrow w0 F0 F w ∧ Val k_ObjectStore F w (ρ 0) s.a_0 ∧ Val k_ObjectStore F w (ρ 1) s.b_1
def G1 : GT S := fun w0 F0 s ρ w => ∃ F, Wk nrow w0 F0 F w ∧ ∃ g2 g3, c1 ρ g2 g3 w0 w F s (e2 g2 g3)
def G2 : GT S := fun w0 F0 s ρ w => ∃ F, Wk nrow w0 F0 F w ∧ ∃ g2 g3, c1 ρ g2 g3 w0 w F s (ρ 12 = .bool s.t_12 ∧ e2 g2 g3)
def G3 : GT S := fun w0 F0 s ρ w => ∃ F, Wk nrow w0 F0 F w
def G4 : GT S := fun w0 F0 s ρ w => ∃ F, Wk nrow w0 F0 F w ∧ ρ 4 = .bool s.t_4
def G5 : GT S := fun w0 F0 s ρ w => ∃ F, Wk nrow w0 F0 F w ∧ ∃ g2 g3, c1 ρ g2 g3 w0 w F s (ρ 5 = .int .i64 s.i_5 ∧ e2 g2 g3)
def G6 : GT S := fun w0 F0 s ρ w => ∃ F, Wk nrow w0 F0 F w ∧ ∃ g2 g3, c1 ρ g2 g3 w0 w F s (ρ 5 = .int .i64 s.i_5 ∧ ρ 17 = .bool s.t_17 ∧ e2 g2 g3)
def G7 : GT S := fun w0 F0 s ρ w => ∃ F, Wk nrow w0 F0 F w ∧ ∃ g2 g3, c1 ρ g2 g3 w0 w F s (ρ 5 = .int .i64 s.i_5 ∧ ρ 48 = .bool s.t_48 ∧ e2 g2 g3)
set_option maxHeartbeats 4000000 in
set_option maxRecDepth 20000 in
theorem ref (w0 : World) (F0 : BSet) : ∃ c, Try.f14.body = some c ∧ Ref Try.prog 49 c (G0 w0 F0) body (fun _ _ _ => False) (fun _ _ _ _ => False) (fun r ρ w => ∃ s, retv s = r ∧ G4 w0 F0 s ρ w) := by
  refine ⟨_, rfl, ?_⟩; unfold body; refine Ref.seq (B := G1 w0 F0) ?_ ?_
  · refine Ref.region (fun s ρ w s' h hr => ?_); obtain ⟨F, hW, h0, h1⟩ := h; refine ol_e (f_box hW rfl h0) rfl rfl ?_; rintro _ w2 ⟨g1, rfl, kw1, ho3⟩; have hW4 := hW.trans kw1; have st1 := kw1.stp hW.ok; refine ol_e (f_box hW4 rfl (h1.keep st1)) rfl rfl ?_; rintro _ w6 ⟨g5, rfl, kw2, ho7⟩; have hW8 := hW4.trans kw2; have st2 := kw2.stp hW4.ok; refine ol_a rfl ?_; exact ol_fin hr ⟨F, hW8, g1, g5, rfl, ((ho3.base (row := nrow) hW.le).wk kw2 hW4.ok), rfl, (ho7.base (row := nrow) hW4.le), (Apart.base (fun _ e_ => by cases e_; exact ho7.ge) (ho3.base (row := nrow) hW.le).ltw).symm⟩
  refine Ref.seq (B := G1 w0 F0) ?_ ?_
  · refine Ref.seq (B := G2 w0 F0) ?_ ?_
    · refine Ref.region (fun s ρ w s' h hr => ?_); obtain ⟨F, hW, g2, g3, p2, h2, p3, h3, a2b_3b⟩ := h; refine ol_v (e_fa fa_24_0 p2) rfl ?_; obtain ⟨v9, hl10, hs11⟩ := LiesV.sl ((h2).at_.fld fl_ObjectStore_0); refine ol_v (e_ld ty_22 hl10 rfl) rfl ?_; obtain ⟨A12, c13, e14, hc15, R16⟩ := id hs11; refine ol_v (e_len (SlT.sl sl_22) e14) rfl ?_; refine ol_v (e_fa fa_24_0 p3) rfl ?_; obtain ⟨v17, hl18, hs19⟩ := LiesV.sl ((h3).at_.fld fl_ObjectStore_0); refine ol_v (e_ld ty_22 hl18 rfl) rfl ?_; obtain ⟨A20, c21, e22, hc23, R24⟩ := id hs19; refine ol_v (e_len (SlT.sl sl_22) e22) rfl ?_; refine ol_v (e_neq rfl rfl) rfl ?_; exact ol_fin hr ⟨F, hW, g2, g3, p2, h2, p3, h3, rfl, a2b_3b⟩
    refine Ref.condP (b := fun s => s.t_12) (L := G3 w0 F0) (K := G1 w0 F0) ?_ ?_ ?_
    · rintro s ρ w ⟨F, hW, g2, g3, p2, h2, p3, h3, h12, a2b_3b⟩; exact ⟨h12, ⟨F, hW⟩, F, hW, g2, g3, p2, h2, p3, h3, a2b_3b⟩
    · refine Ref.seq (B := G4 w0 F0) ?_ ?_
      · refine Ref.region (fun s ρ w s' h hr => ?_); obtain ⟨F, hW⟩ := h; refine ol_a rfl ?_; exact ol_fin hr ⟨F, hW, rfl⟩
      exact Ref.ret (fun s ρ w h => ⟨s, rfl, h⟩)
    · exact Ref.skip
  refine Ref.seq (B := G3 w0 F0) ?_ ?_
  · refine Ref.seq (B := G5 w0 F0) ?_ ?_
    · refine Ref.region (fun s ρ w s' h hr => ?_); obtain ⟨F, hW, g2, g3, p2, h2, p3, h3, a2b_3b⟩ := h; refine ol_a rfl ?_; exact ol_fin hr ⟨F, hW, g2, g3, p2, h2, p3, h3, rfl, a2b_3b⟩
    refine Ref.block ?_; refine Ref.loop ?_; refine Ref.seq (B := G5 w0 F0) ?_ ?_
    · refine Ref.seq (B := G6 w0 F0) ?_ ?_
      · refine Ref.region (fun s ρ w s' h hr => ?_); obtain ⟨F, hW, g2, g3, p2, h2, p3, h3, h5, a2b_3b⟩ := h; refine ol_m h5 ?_; refine ol_v (e_fa fa_24_0 p2) rfl ?_; obtain ⟨v25, hl26, hs27⟩ := LiesV.sl ((h2).at_.fld fl_ObjectStore_0); refine ol_v (e_ld ty_22 hl26 rfl) rfl ?_; obtain ⟨A28, c29, e30, hc31, R32⟩ := id hs27; refine ol_v (e_len (SlT.sl sl_22) e30) rfl ?_; refine ol_v (e_lss rfl rfl) rfl ?_; exact ol_fin hr ⟨F, hW, g2, g3, p2, h2, p3, h3, h5, rfl, a2b_3b⟩
      refine Ref.condP (b := fun s => s.t_17) (L := G5 w0 F0) (K := G3 w0 F0) ?_ ?_ ?_
      · rintro s ρ w ⟨F, hW, g2, g3, p2, h2, p3, h3, h5, h17, a2b_3b⟩; exact ⟨h17, ⟨F, hW, g2, g3, p2, h2, p3, h3, h5, a2b_3b⟩, F, hW⟩
      · exact Ref.skip
      · exact Ref.exit (fun s ρ w h => h)
    refine Ref.seq (B := G5 w0 F0) ?_ ?_
    · refine Ref.block ?_; refine Ref.seq (B := G7 w0 F0) ?_ ?_
      · refine Ref.regionD 26 (by kernel_rfl) (by kernel_rfl) (fun s ρ w ⟨F, hW, g2, g3, p2, h2, p3, h3, h5, a2b_3b⟩ => ⟨F, hW.drewS, g2, g3, p2, h2.wk (Wk.drew (row := nrow) hW.ok) hW.ok, p3, h3.wk (Wk.drew (row := nrow) hW.ok) hW.ok, h5, a2b_3b⟩) (fun s ρ w s' h hr => ?_); obtain ⟨F, hW, g2, g3, p2, h2, p3, h3, h5, a2b_3b⟩ := h; refine ol_v (e_fa fa_24_0 p2) rfl ?_; obtain ⟨v33, hl34, hs35⟩ := LiesV.sl ((h2).at_.fld fl_ObjectStore_0); refine ol_v (e_ld ty_22 hl34 rfl) rfl ?_; refine ol_m h5 ?_; obtain ⟨x36, hx36, hr⟩ := bind_some' hr; obtain ⟨A37, c38, e39, hc40, R41⟩ := id hs35; obtain ⟨b42, o43, hA44, L45⟩ := Row.at_ R41 hx36; refine ol_v (e_ix (SlT.sl sl_22) (SlT.sz sl_22) hA44 hx36 e39 rfl) rfl ?_; refine ol_v (e_fa fa_39_0 rfl) rfl ?_; refine ol_v (e_ld ty_3 (LiesV.int (L45.fld fl_StoredObject_0).at_) rfl) rfl ?_; refine ol_v (e_fa fa_24_0 p3) rfl ?_; obtain ⟨v46, hl47, hs48⟩ := LiesV.sl ((h3).at_.fld fl_ObjectStore_0); refine ol_v (e_ld ty_22 hl47 rfl) rfl ?_; refine ol_m h5 ?_; obtain ⟨x49, hx49, hr⟩ := bind_some' hr; obtain ⟨A50, c51, e52, hc53, R54⟩ := id hs48; obtain ⟨b55, o56, hA57, L58⟩ := Row.at_ R54 hx49; refine ol_v (e_ix (SlT.sl sl_22) (SlT.sz sl_22) hA57 hx49 e52 rfl) rfl ?_; refine ol_v (e_fa fa_39_0 rfl) rfl ?_; refine ol_v (e_ld ty_3 (LiesV.int (L58.fld fl_StoredObject_0).at_) rfl) rfl ?_; refine ol_v (e_neq rfl rfl) rfl ?_; obtain ⟨x96, hx97, hr⟩ := bind_some' hr; refine ol_cutA 16 33 48 (fun ρ' w' => ∃ F', Wk nrow w F F' w' ∧ ρ' 48 = .bool x96) rfl ?_ ?_
        · by_cases hb59 : (!decide (x36.Digest = x49.Digest)) = true
          · have hr := hx97; rw [if_pos hb59] at hr; refine ol_m rfl ?_; refine ol_not rfl rfl rfl (congrArg Value.bool hb59) rfl ?_; refine ol_not rfl rfl rfl (congrArg Value.bool hb59) rfl ?_; refine ol_not rfl rfl rfl (congrArg Value.bool hb59) rfl ?_; refine ol_not rfl rfl rfl (congrArg Value.bool hb59) rfl ?_; refine ol_not rfl rfl rfl (congrArg Value.bool hb59) rfl ?_; refine ol_not rfl rfl rfl (congrArg Value.bool hb59) rfl ?_; refine ol_not rfl rfl rfl (congrArg Value.bool hb59) rfl ?_; refine ol_not rfl rfl rfl (congrArg Value.bool hb59) rfl ?_; refine ol_not rfl rfl rfl (congrArg Value.bool hb59) rfl ?_; refine ol_not rfl rfl rfl (congrArg Value.bool hb59) rfl ?_; refine ol_not rfl rfl rfl (congrArg Value.bool hb59) rfl ?_; refine ol_not rfl rfl rfl (congrArg Value.bool hb59) rfl ?_; refine ol_not rfl rfl rfl (congrArg Value.bool hb59) rfl ?_; refine ol_not rfl rfl rfl (congrArg Value.bool hb59) rfl ?_; refine ol_v (e_pick true _ (congrArg Value.bool hb59) rfl) rfl ?_; exact ol_nil ⟨⟨_, Wk.refl hW.ok, (congrArg Value.bool (Option.some.inj hr))⟩, (Agr.refl _ _ _).u.u.u.u.u.u.u.u.u.u.u.u.u.u.u.u⟩
          · have hb60 := Bool.eq_false_iff.mpr hb59; have hr := hx97; rw [if_neg hb59] at hr; refine ol_m rfl ?_; refine ol_yes rfl rfl (congrArg Value.bool hb60) ?_; refine ol_v (e_fa fa_24_0 p2) rfl ?_; refine ol_yes rfl rfl (congrArg Value.bool hb60) ?_; obtain ⟨v61, hl62, hs63⟩ := LiesV.sl ((h2).at_.fld fl_ObjectStore_0); refine ol_v (e_ld ty_22 hl62 rfl) rfl ?_; refine ol_yes rfl rfl (congrArg Value.bool hb60) ?_; refine ol_m h5 ?_; refine ol_yes rfl rfl (congrArg Value.bool hb60) ?_; obtain ⟨x64, hx64, hr⟩ := bind_some' hr; obtain ⟨A65, c66, e67, hc68, R69⟩ := id hs63; obtain ⟨b70, o71, hA72, L73⟩ := Row.at_ R69 hx64; refine ol_v (e_ix (SlT.sl sl_22) (SlT.sz sl_22) hA72 hx64 e67 rfl) rfl ?_; refine ol_yes rfl rfl (congrArg Value.bool hb60) ?_; refine ol_v (e_fa fa_39_1 rfl) rfl ?_; refine ol_yes rfl rfl (congrArg Value.bool hb60) ?_; obtain ⟨v74, hl75⟩ := LiesAt.v (L73.fld fl_StoredObject_1).at_; refine ol_v (e_ld ty_37 hl75 rfl) rfl ?_; refine ol_yes rfl rfl (congrArg Value.bool hb60) ?_; refine ol_v (e_fa fa_24_0 p3) rfl ?_; refine ol_yes rfl rfl (congrArg Value.bool hb60) ?_; obtain ⟨v76, hl77, hs78⟩ := LiesV.sl ((h3).at_.fld fl_ObjectStore_0); refine ol_v (e_ld ty_22 hl77 rfl) rfl ?_; refine ol_yes rfl rfl (congrArg Value.bool hb60) ?_; refine ol_m h5 ?_; refine ol_yes rfl rfl (congrArg Value.bool hb60) ?_; obtain ⟨x79, hx79, hr⟩ := bind_some' hr; obtain ⟨A80, c81, e82, hc83, R84⟩ := id hs78; obtain ⟨b85, o86, hA87, L88⟩ := Row.at_ R84 hx79; refine ol_v (e_ix (SlT.sl sl_22) (SlT.sz sl_22) hA87 hx79 e82 rfl) rfl ?_; refine ol_yes rfl rfl (congrArg Value.bool hb60) ?_; refine ol_v (e_fa fa_39_1 rfl) rfl ?_; refine ol_yes rfl rfl (congrArg Value.bool hb60) ?_; obtain ⟨v89, hl90⟩ := LiesAt.v (L88.fld fl_StoredObject_1).at_; refine ol_v (e_ld ty_37 hl90 rfl) rfl ?_; refine ol_yes rfl rfl (congrArg Value.bool hb60) ?_; obtain ⟨x91, hx91, hr⟩ := bind_some' hr; refine ol_e (f_call [v74, v89] fn_30 (lcons rfl (lcons rfl rfl)) (ref3_Objects.calls hW.ok hl75.val hl90.val hx91)) rfl rfl ?_; rintro _ w92 ⟨Fz93, rfl, kw1⟩; have hW95 := hW.trans kw1; have st1 := kw1.stp hW.ok; refine ol_yes rfl rfl (congrArg Value.bool hb60) ?_; refine ol_v (e_not_ rfl) rfl ?_; refine ol_v (e_pick false _ (congrArg Value.bool hb60) rfl) rfl ?_; exact ol_nil ⟨⟨_, kw1, (congrArg Value.bool (Option.some.inj hr))⟩, (Agr.refl _ _ _).u.u.u.u.u.u.u.u.u.u.u.u.u.u.u.u⟩
        rintro ρ97 w98 ⟨⟨Fz99, kw1, hp97⟩, hAg97⟩; have hW100 := hW.trans kw1; have st1 := kw1.stp hW.ok; exact ol_fin hr ⟨Fz99, hW100, g2, g3, ((hAg97 2 rfl).trans p2), (h2.wk kw1 hW.ok), ((hAg97 3 rfl).trans p3), (h3.wk kw1 hW.ok), ((hAg97 5 rfl).trans h5), hp97, a2b_3b⟩
      refine Ref.condP (b := fun s => s.t_48) (L := G3 w0 F0) (K := G5 w0 F0) ?_ ?_ ?_
      · rintro s ρ w ⟨F, hW, g2, g3, p2, h2, p3, h3, h5, h48, a2b_3b⟩; exact ⟨h48, ⟨F, hW⟩, F, hW, g2, g3, p2, h2, p3, h3, h5, a2b_3b⟩
      · refine Ref.seq (B := G4 w0 F0) ?_ ?_
        · refine Ref.region (fun s ρ w s' h hr => ?_); obtain ⟨F, hW⟩ := h; refine ol_a rfl ?_; exact ol_fin hr ⟨F, hW, rfl⟩
        exact Ref.ret (fun s ρ w h => ⟨s, rfl, h⟩)
      · exact Ref.skip
    refine Ref.region (fun s ρ w s' h hr => ?_); obtain ⟨F, hW, g2, g3, p2, h2, p3, h3, h5, a2b_3b⟩ := h; refine ol_m h5 ?_; refine ol_v (e_add rfl rfl) rfl ?_; refine ol_a rfl ?_; exact ol_fin hr ⟨F, hW, g2, g3, p2, h2, p3, h3, rfl, a2b_3b⟩
  refine Ref.seq (B := G4 w0 F0) ?_ ?_
  · refine Ref.region (fun s ρ w s' h hr => ?_); obtain ⟨F, hW⟩ := h; refine ol_a rfl ?_; exact ol_fin hr ⟨F, hW, rfl⟩
  exact Ref.ret (fun s ρ w h => ⟨s, rfl, h⟩)
def post (w : World) (F : BSet) (r : R) (v : Value) (w' : World) : Prop := ∃ (F' : BSet), v = .bool r ∧ Wk nrow w F F' w'
theorem calls {w : World} {F : BSet} (hok : ∀ b, F b → b < w.heap.size) {v0 : Value} {a0 : ObjectStore} (h0 : Val k_ObjectStore F w v0 a0) {v1 : Value} {a1 : ObjectStore} (h1 : Val k_ObjectStore F w v1 a1) {r : R} (hf : f a0 a1 = some r) : Calls Try.prog 14 #[v0, v1] w fun e w' => ∃ v, e = .returned v ∧ post w F r v w' := by
  obtain ⟨c, hc, href⟩ := ref w F; refine calls_of_ref (args := [v0, v1]) _ Try.func14 hc rfl rfl href ?_ (retOf_some hf) ?_
  · exact ⟨F, Wk.refl hok, h0, h1⟩
  · rintro ρ w' a ⟨s, rfl, F', hW, h4⟩ hF; refine ⟨_, run_results (rs := [.tmp 4]) rfl hF (vs := [ρ 4]) (⟨_, rfl, rfl⟩), ?_⟩; have hv : resVal [ρ 4] = .bool s.t_4 := by rw [h4]; rfl
    exact ⟨F', hv, hW⟩
end
end ref3_Stores

namespace slices_BinarySearchFunc_api_StoredObject_api_StoredObject_int
section
abbrev c0 (F : BSet) (w : World) (ρ : Env) (s : S) (X : Prop) : Prop := SlR k_StoredObject F w (ρ 0) s.x_0 ∧ ρ 1 = .int .i64 s.target_1 ∧ Val (kFn Try.prog (ra2 k_StoredObject (kInt .i64)) (fun r => (.int .i64 r : Value))) F w (ρ 2) s.cmp_2 ∧ X
abbrev c1 (ρ : Env) (s : S) (X : Prop) : Prop := ρ 8 = .int .i64 s.n_8 ∧ X
abbrev c2 (ρ : Env) (s : S) (X : Prop) : Prop := ρ 9 = .int .i64 s.i_9 ∧ X
def G0 : GT S := fun w0 F0 s ρ w => ∃ F, Wk nrow w0 F0 F w ∧ SlR k_StoredObject F w (ρ 0) s.x_0 ∧ ρ 1 = .int .i64 s.target_1 ∧ Val (kFn Try.prog (ra2 k_StoredObject (kInt .i64)) (fun r => (.int .i64 r : Value))) F w (ρ 2) s.cmp_2
def G1 : GT S := fun w0 F0 s ρ w => ∃ F, Wk nrow w0 F0 F w ∧ c0 F w ρ s (ρ 8 = .int .i64 s.n_8)
def G2 : GT S := fun w0 F0 s ρ w => ∃ F, Wk nrow w0 F0 F w ∧ c0 F w ρ s (c1 ρ s (c2 ρ s (ρ 10 = .int .i64 s.j_10)))
def G3 : GT S := fun w0 F0 s ρ w => ∃ F, Wk nrow w0 F0 F w ∧ c0 F w ρ s (c1 ρ s (c2 ρ s (ρ 10 = .int .i64 s.j_10 ∧ ρ 17 = .bool s.t_17)))
def G4 : GT S := fun w0 F0 s ρ w => ∃ F, Wk nrow w0 F0 F w ∧ c0 F w ρ s (c1 ρ s (ρ 9 = .int .i64 s.i_9))
def G5 : GT S := fun w0 F0 s ρ w => ∃ F, Wk nrow w0 F0 F w ∧ c0 F w ρ s (c1 ρ s (c2 ρ s (ρ 10 = .int .i64 s.j_10 ∧ ρ 11 = .int .i64 s.h_11)))
def G6 : GT S := fun w0 F0 s ρ w => ∃ F, Wk nrow w0 F0 F w ∧ c0 F w ρ s (c1 ρ s (c2 ρ s (ρ 10 = .int .i64 s.j_10 ∧ ρ 11 = .int .i64 s.h_11 ∧ ρ 31 = .bool s.t_31)))
def G7 : GT S := fun w0 F0 s ρ w => ∃ F, Wk nrow w0 F0 F w ∧ c0 F w ρ s (c1 ρ s (ρ 10 = .int .i64 s.j_10 ∧ ρ 11 = .int .i64 s.h_11))
def G8 : GT S := fun w0 F0 s ρ w => ∃ F, Wk nrow w0 F0 F w ∧ c0 F w ρ s (c1 ρ s (c2 ρ s (ρ 11 = .int .i64 s.h_11)))
def G9 : GT S := fun w0 F0 s ρ w => ∃ F, Wk nrow w0 F0 F w ∧ ρ 6 = .int .i64 s.t_6 ∧ ρ 7 = .bool s.t_7
set_option maxHeartbeats 4000000 in
set_option maxRecDepth 20000 in
theorem ref (w0 : World) (F0 : BSet) : ∃ c, Try.f61.body = some c ∧ Ref Try.prog 49 c (G0 w0 F0) body (fun _ _ _ => False) (fun _ _ _ _ => False) (fun r ρ w => ∃ s, retv s = r ∧ G9 w0 F0 s ρ w) := by
  refine ⟨_, rfl, ?_⟩; unfold body; refine Ref.seq (B := G0 w0 F0) ?_ ?_
  · refine Ref.region (fun s ρ w s' h hr => ?_); obtain ⟨F, hW, h0, h1, h2⟩ := h; refine ol_a rfl ?_; refine ol_a rfl ?_; exact ol_fin hr ⟨F, hW, h0, h1, h2⟩
  refine Ref.seq (B := G1 w0 F0) ?_ ?_
  · refine Ref.region (fun s ρ w s' h hr => ?_); obtain ⟨F, hW, h0, h1, h2⟩ := h; refine ol_m rfl ?_; obtain ⟨A1, c2, e3, hc4, R5⟩ := id h0; refine ol_v (e_len (SlT.sl sl_22) e3) rfl ?_; refine ol_a rfl ?_; exact ol_fin hr ⟨F, hW, h0, h1, h2, rfl⟩
  refine Ref.seq (B := G2 w0 F0) ?_ ?_
  · refine Ref.region (fun s ρ w s' h hr => ?_); obtain ⟨F, hW, h0, h1, h2, h8⟩ := h; refine ol_m h8 ?_; refine ol_a rfl ?_; refine ol_a rfl ?_; exact ol_fin hr ⟨F, hW, h0, h1, h2, h8, rfl, rfl⟩
  refine Ref.seq (B := G4 w0 F0) ?_ ?_
  · refine Ref.block ?_; refine Ref.loop ?_; refine Ref.seq (B := G2 w0 F0) ?_ ?_
    · refine Ref.seq (B := G3 w0 F0) ?_ ?_
      · refine Ref.region (fun s ρ w s' h hr => ?_); obtain ⟨F, hW, h0, h1, h2, h8, h9, h10⟩ := h; refine ol_m h9 ?_; refine ol_m h10 ?_; refine ol_v (e_lss rfl rfl) rfl ?_; exact ol_fin hr ⟨F, hW, h0, h1, h2, h8, h9, h10, rfl⟩
      refine Ref.condP (b := fun s => s.t_17) (L := G2 w0 F0) (K := G4 w0 F0) ?_ ?_ ?_
      · rintro s ρ w ⟨F, hW, h0, h1, h2, h8, h9, h10, h17⟩; exact ⟨h17, ⟨F, hW, h0, h1, h2, h8, h9, h10⟩, F, hW, h0, h1, h2, h8, h9⟩
      · exact Ref.skip
      · exact Ref.exit (fun s ρ w h => h)
    refine Ref.block ?_; refine Ref.seq (B := G5 w0 F0) ?_ ?_
    · refine Ref.region (fun s ρ w s' h hr => ?_); obtain ⟨F, hW, h0, h1, h2, h8, h9, h10⟩ := h; refine ol_m h9 ?_; refine ol_m h10 ?_; refine ol_v (e_add rfl rfl) rfl ?_; refine ol_v (e_conv (k := .u64) (by kernel_rfl) (by kernel_rfl) rfl) rfl ?_; refine ol_v (e_shrV rfl rfl (by decide)) rfl ?_; refine ol_v (e_conv (k := .i64) (by kernel_rfl) (by kernel_rfl) rfl) rfl ?_; refine ol_a rfl ?_; exact ol_fin hr ⟨F, hW, h0, h1, h2, h8, h9, h10, rfl⟩
    refine Ref.seq (B := G6 w0 F0) ?_ ?_
    · refine Ref.region (fun s ρ w s' h hr => ?_); obtain ⟨F, hW, h0, h1, h2, h8, h9, h10, h11⟩ := h; refine ol_m rfl ?_; refine ol_m rfl ?_; refine ol_m h11 ?_; obtain ⟨x6, hx6, hr⟩ := bind_some' hr; obtain ⟨A7, c8, e9, hc10, R11⟩ := id h0; obtain ⟨b12, o13, hA14, L15⟩ := Row.at_ R11 hx6; refine ol_v (e_ix (SlT.sl sl_22) (SlT.sz sl_22) hA14 hx6 e9 rfl) rfl ?_; obtain ⟨v16, hl17⟩ := LiesAt.v L15.at_; refine ol_v (e_ld ty_39 hl17 rfl) rfl ?_; refine ol_m h1 ?_; obtain ⟨x18, hx18, hr⟩ := bind_some' hr; refine ol_e (f_callV [v16, .int .i64 s.target_1] h2 hW.ok rfl (lcons rfl (lcons rfl rfl)) ⟨_, _, rfl, hl17.val, (val_int _ _)⟩ hx18) rfl rfl ?_; rintro _ w19 ⟨rfl, kw1⟩; have hW20 := hW.trans kw1; have st1 := kw1.stp hW.ok; refine ol_v (e_lss rfl rfl) rfl ?_; exact ol_fin hr ⟨F, hW20, (h0.keep st1), h1, (h2.keep st1), h8, h9, h10, h11, rfl⟩
    refine Ref.condP (b := fun s => s.t_31) (L := G7 w0 F0) (K := G8 w0 F0) ?_ ?_ ?_
    · rintro s ρ w ⟨F, hW, h0, h1, h2, h8, h9, h10, h11, h31⟩; exact ⟨h31, ⟨F, hW, h0, h1, h2, h8, h10, h11⟩, F, hW, h0, h1, h2, h8, h9, h11⟩
    · refine Ref.region (fun s ρ w s' h hr => ?_); obtain ⟨F, hW, h0, h1, h2, h8, h10, h11⟩ := h; refine ol_m h11 ?_; refine ol_v (e_add rfl rfl) rfl ?_; refine ol_a rfl ?_; exact ol_fin hr ⟨F, hW, h0, h1, h2, h8, rfl, h10⟩
    · refine Ref.region (fun s ρ w s' h hr => ?_); obtain ⟨F, hW, h0, h1, h2, h8, h9, h11⟩ := h; refine ol_m h11 ?_; refine ol_a rfl ?_; exact ol_fin hr ⟨F, hW, h0, h1, h2, h8, h9, rfl⟩
  refine Ref.seq (B := G9 w0 F0) ?_ ?_
  · refine Ref.region (fun s ρ w s' h hr => ?_); obtain ⟨F, hW, h0, h1, h2, h8, h9⟩ := h; refine ol_m h9 ?_; refine ol_m h9 ?_; refine ol_m h8 ?_; refine ol_v (e_lss rfl rfl) rfl ?_; obtain ⟨x38, hx39, hr⟩ := bind_some' hr; refine ol_cutA 10 39 48 (fun ρ' w' => ∃ F', Wk nrow w F F' w' ∧ ρ' 48 = .bool x38) rfl ?_ ?_
    · by_cases hb21 : (decide (s.i_9 < s.n_8)) = true
      · have hr := hx39; rw [if_pos hb21] at hr; refine ol_m rfl ?_; refine ol_yes rfl rfl (congrArg Value.bool hb21) ?_; refine ol_m rfl ?_; refine ol_yes rfl rfl (congrArg Value.bool hb21) ?_; refine ol_m rfl ?_; refine ol_yes rfl rfl (congrArg Value.bool hb21) ?_; refine ol_m h9 ?_; refine ol_yes rfl rfl (congrArg Value.bool hb21) ?_; obtain ⟨x23, hx23, hr⟩ := bind_some' hr; obtain ⟨A24, c25, e26, hc27, R28⟩ := id h0; obtain ⟨b29, o30, hA31, L32⟩ := Row.at_ R28 hx23; refine ol_v (e_ix (SlT.sl sl_22) (SlT.sz sl_22) hA31 hx23 e26 rfl) rfl ?_; refine ol_yes rfl rfl (congrArg Value.bool hb21) ?_; obtain ⟨v33, hl34⟩ := LiesAt.v L32.at_; refine ol_v (e_ld ty_39 hl34 rfl) rfl ?_; refine ol_yes rfl rfl (congrArg Value.bool hb21) ?_; refine ol_m h1 ?_; refine ol_yes rfl rfl (congrArg Value.bool hb21) ?_; obtain ⟨x35, hx35, hr⟩ := bind_some' hr; refine ol_e (f_callV [v33, .int .i64 s.target_1] h2 hW.ok rfl (lcons rfl (lcons rfl rfl)) ⟨_, _, rfl, hl34.val, (val_int _ _)⟩ hx35) rfl rfl ?_; rintro _ w36 ⟨rfl, kw1⟩; have hW37 := hW.trans kw1; have st1 := kw1.stp hW.ok; refine ol_yes rfl rfl (congrArg Value.bool hb21) ?_; refine ol_v (e_eql rfl rfl) rfl ?_; refine ol_v (e_pick true _ (congrArg Value.bool hb21) rfl) rfl ?_; exact ol_nil ⟨⟨_, kw1, (congrArg Value.bool (Option.some.inj hr))⟩, (Agr.refl _ _ _).u.u.u.u.u.u.u.u.u.u⟩
      · have hb22 := Bool.eq_false_iff.mpr hb21; have hr := hx39; rw [if_neg hb21] at hr; refine ol_m rfl ?_; refine ol_not rfl rfl rfl (congrArg Value.bool hb22) rfl ?_; refine ol_not rfl rfl rfl (congrArg Value.bool hb22) rfl ?_; refine ol_not rfl rfl rfl (congrArg Value.bool hb22) rfl ?_; refine ol_not rfl rfl rfl (congrArg Value.bool hb22) rfl ?_; refine ol_not rfl rfl rfl (congrArg Value.bool hb22) rfl ?_; refine ol_not rfl rfl rfl (congrArg Value.bool hb22) rfl ?_; refine ol_not rfl rfl rfl (congrArg Value.bool hb22) rfl ?_; refine ol_not rfl rfl rfl (congrArg Value.bool hb22) rfl ?_; refine ol_v (e_pick false _ (congrArg Value.bool hb22) rfl) rfl ?_; exact ol_nil ⟨⟨_, Wk.refl hW.ok, (congrArg Value.bool (Option.some.inj hr))⟩, (Agr.refl _ _ _).u.u.u.u.u.u.u.u.u.u⟩
    rintro ρ39 w40 ⟨⟨Fz41, kw1, hp39⟩, hAg39⟩; have hW42 := hW.trans kw1; have st1 := kw1.stp hW.ok; refine ol_v (e_as _ (hAg39 35 rfl)) rfl ?_; refine ol_a hp39 ?_; exact ol_fin hr ⟨Fz41, hW42, rfl, rfl⟩
  exact Ref.ret (fun s ρ w h => ⟨s, rfl, h⟩)
def post (w : World) (F : BSet) (r : R) (v : Value) (w' : World) : Prop := ∃ (F' : BSet), v = .tuple #[.int .i64 r.1, .bool r.2] ∧ Wk nrow w F F' w'
theorem calls {w : World} {F : BSet} (hok : ∀ b, F b → b < w.heap.size) {v0 : Value} {a0 : (List StoredObject)} (h0 : SlR k_StoredObject F w v0 a0) (a1 : Int) {v2 : Value} {a2 : (StoredObject × Int → Option Int)} (h2 : Val (kFn Try.prog (ra2 k_StoredObject (kInt .i64)) (fun r => (.int .i64 r : Value))) F w v2 a2) {r : R} (hf : f a0 a1 a2 = some r) : Calls Try.prog 61 #[v0, .int .i64 a1, v2] w fun e w' => ∃ v, e = .returned v ∧ post w F r v w' := by
  obtain ⟨c, hc, href⟩ := ref w F; refine calls_of_ref (args := [v0, .int .i64 a1, v2]) _ Try.func61 hc rfl rfl href ?_ (retOf_some hf) ?_
  · exact ⟨F, Wk.refl hok, h0, rfl, h2⟩
  · rintro ρ w' a ⟨s, rfl, F', hW, h6, h7⟩ hF; refine ⟨_, run_results (rs := [.tmp 6, .tmp 7]) rfl hF (vs := [ρ 6, ρ 7]) (⟨_, rfl, ⟨_, rfl, rfl⟩⟩), ?_⟩; have hv : resVal [ρ 6, ρ 7] = .tuple #[.int .i64 s.t_6, .bool s.t_7] := by rw [h6, h7]; rfl
    exact ⟨F', hv, hW⟩
end
end slices_BinarySearchFunc_api_StoredObject_api_StoredObject_int

namespace objects_find_1
section
def G0 : GT S := fun w0 F0 s ρ w => ∃ F, Wk nrow w0 F0 F w ∧ Val k_StoredObject F w (ρ 0) s.o_0 ∧ ρ 1 = .int .i64 s.d_1
def G1 : GT S := fun w0 F0 s ρ w => ∃ F, Wk nrow w0 F0 F w ∧ ∃ g2, ρ 1 = .int .i64 s.d_1 ∧ ρ 2 = .pointer (some ⟨g2, 0, none⟩) ∧ Box k_StoredObject 39 (Bs w0 nrow) F w g2 s.o_2
def G2 : GT S := fun w0 F0 s ρ w => ∃ F, Wk nrow w0 F0 F w ∧ ρ 4 = .int .i64 s.t_4
set_option maxHeartbeats 4000000 in
set_option maxRecDepth 20000 in
theorem ref (w0 : World) (F0 : BSet) : ∃ c, Try.f62.body = some c ∧ Ref Try.prog 9 c (G0 w0 F0) body (fun _ _ _ => False) (fun _ _ _ _ => False) (fun r ρ w => ∃ s, retv s = r ∧ G2 w0 F0 s ρ w) := by
  refine ⟨_, rfl, ?_⟩; unfold body; refine Ref.seq (B := G1 w0 F0) ?_ ?_
  · refine Ref.region (fun s ρ w s' h hr => ?_); obtain ⟨F, hW, h0, h1⟩ := h; refine ol_e (f_box hW rfl h0) rfl rfl ?_; rintro _ w2 ⟨g1, rfl, kw1, ho3⟩; have hW4 := hW.trans kw1; have st1 := kw1.stp hW.ok; refine ol_a rfl ?_; exact ol_fin hr ⟨F, hW4, g1, h1, rfl, (ho3.base (row := nrow) hW.le)⟩
  refine Ref.seq (B := G2 w0 F0) ?_ ?_
  · refine Ref.region (fun s ρ w s' h hr => ?_); obtain ⟨F, hW, g2, h1, p2, h2⟩ := h; refine ol_v (e_fa fa_39_0 p2) rfl ?_; refine ol_v (e_ld ty_3 (LiesV.int ((h2).at_.fld fl_StoredObject_0)) rfl) rfl ?_; refine ol_m h1 ?_; refine ol_v (e_sub rfl rfl) rfl ?_; refine ol_a rfl ?_; exact ol_fin hr ⟨F, hW, rfl⟩
  exact Ref.ret (fun s ρ w h => ⟨s, rfl, h⟩)
def post (w : World) (F : BSet) (r : R) (v : Value) (w' : World) : Prop := ∃ (F' : BSet), v = .int .i64 r ∧ Wk nrow w F F' w'
theorem calls {w : World} {F : BSet} (hok : ∀ b, F b → b < w.heap.size) {v0 : Value} {a0 : StoredObject} (h0 : Val k_StoredObject F w v0 a0) (a1 : Int) {r : R} (hf : f a0 a1 = some r) : Calls Try.prog 62 #[v0, .int .i64 a1] w fun e w' => ∃ v, e = .returned v ∧ post w F r v w' := by
  obtain ⟨c, hc, href⟩ := ref w F; refine calls_of_ref (args := [v0, .int .i64 a1]) _ Try.func62 hc rfl rfl href ?_ (retOf_some hf) ?_
  · exact ⟨F, Wk.refl hok, h0, rfl⟩
  · rintro ρ w' a ⟨s, rfl, F', hW, h4⟩ hF; refine ⟨_, run_results (rs := [.tmp 4]) rfl hF (vs := [ρ 4]) (⟨_, rfl, rfl⟩), ?_⟩; have hv : resVal [ρ 4] = .int .i64 s.t_4 := by rw [h4]; rfl
    exact ⟨F', hv, hW⟩
theorem fnv {w : World} {F : BSet}  : FnV Try.prog (ra2 k_StoredObject (kInt .i64)) (fun r => (.int .i64 r : Value)) F w (.func (.func 62) #[] #[]) (fun x => f x.1 x.2) := by
  refine ⟨62, _, rfl, fn_62, fun F' W st ok vs x r hra hg => ?_⟩; obtain ⟨v0, v1, rfl, k0, k1⟩ := hra; obtain rfl := eqv_int k1; have e_ : ([v0, .int .i64 x.2] : List Value).toArray ++ (#[] : Array Value) = #[v0, .int .i64 x.2] := by simp
  rw [e_]; refine (calls ok k0 x.2 hg).mono ?_; rintro e W' ⟨v, rfl, F'', rfl, hk⟩; exact ⟨_, rfl, rfl, F'', hk⟩
end
end objects_find_1

namespace objects_find
section
def G0 : GT S := fun w0 F0 s ρ w => ∃ F, Wk nrow w0 F0 F w ∧ Val k_ObjectStore F w (ρ 0) s.s_0 ∧ ρ 1 = .int .i64 s.d_1
def G1 : GT S := fun w0 F0 s ρ w => ∃ F, Wk nrow w0 F0 F w ∧ ∃ g2, ρ 1 = .int .i64 s.d_1 ∧ ρ 2 = .pointer (some ⟨g2, 0, none⟩) ∧ Box k_ObjectStore 24 (Bs w0 nrow) F w g2 s.s_2
def G2 : GT S := fun w0 F0 s ρ w => ∃ F, Wk nrow w0 F0 F w ∧ ρ 4 = .int .i64 s.t_4 ∧ ρ 5 = .bool s.t_5
set_option maxHeartbeats 4000000 in
set_option maxRecDepth 20000 in
theorem ref (w0 : World) (F0 : BSet) : ∃ c, Try.f51.body = some c ∧ Ref Try.prog 12 c (G0 w0 F0) body (fun _ _ _ => False) (fun _ _ _ _ => False) (fun r ρ w => ∃ s, retv s = r ∧ G2 w0 F0 s ρ w) := by
  refine ⟨_, rfl, ?_⟩; unfold body; refine Ref.seq (B := G1 w0 F0) ?_ ?_
  · refine Ref.region (fun s ρ w s' h hr => ?_); obtain ⟨F, hW, h0, h1⟩ := h; refine ol_e (f_box hW rfl h0) rfl rfl ?_; rintro _ w2 ⟨g1, rfl, kw1, ho3⟩; have hW4 := hW.trans kw1; have st1 := kw1.stp hW.ok; refine ol_a rfl ?_; refine ol_a rfl ?_; exact ol_fin hr ⟨F, hW4, g1, h1, rfl, (ho3.base (row := nrow) hW.le)⟩
  refine Ref.seq (B := G2 w0 F0) ?_ ?_
  · refine Ref.region (fun s ρ w s' h hr => ?_); obtain ⟨F, hW, g2, h1, p2, h2⟩ := h; refine ol_v (e_fa fa_24_0 p2) rfl ?_; obtain ⟨v5, hl6, hs7⟩ := LiesV.sl ((h2).at_.fld fl_ObjectStore_0); refine ol_v (e_ld ty_22 hl6 rfl) rfl ?_; refine ol_m h1 ?_; obtain ⟨x8, hx8, hr⟩ := bind_some' hr; refine ol_e (f_call [v5, .int .i64 s.d_1, .func (.func 62) #[] #[]] fn_61 (lcons rfl (lcons rfl (lcons rfl rfl))) (slices_BinarySearchFunc_api_StoredObject_api_StoredObject_int.calls hW.ok hs7 s.d_1 (val_fn objects_find_1.fnv) hx8)) rfl rfl ?_; rintro _ w9 ⟨Fz10, rfl, kw1⟩; have hW12 := hW.trans kw1; have st1 := kw1.stp hW.ok; refine ol_v (e_ext _ rfl rfl) rfl ?_; refine ol_v (e_ext _ rfl rfl) rfl ?_; refine ol_a rfl ?_; refine ol_a rfl ?_; exact ol_fin hr ⟨Fz10, hW12, rfl, rfl⟩
  exact Ref.ret (fun s ρ w h => ⟨s, rfl, h⟩)
def post (w : World) (F : BSet) (r : R) (v : Value) (w' : World) : Prop := ∃ (F' : BSet), v = .tuple #[.int .i64 r.1, .bool r.2] ∧ Wk nrow w F F' w'
theorem calls {w : World} {F : BSet} (hok : ∀ b, F b → b < w.heap.size) {v0 : Value} {a0 : ObjectStore} (h0 : Val k_ObjectStore F w v0 a0) (a1 : Int) {r : R} (hf : f a0 a1 = some r) : Calls Try.prog 51 #[v0, .int .i64 a1] w fun e w' => ∃ v, e = .returned v ∧ post w F r v w' := by
  obtain ⟨c, hc, href⟩ := ref w F; refine calls_of_ref (args := [v0, .int .i64 a1]) _ Try.func51 hc rfl rfl href ?_ (retOf_some hf) ?_
  · exact ⟨F, Wk.refl hok, h0, rfl⟩
  · rintro ρ w' a ⟨s, rfl, F', hW, h4, h5⟩ hF; refine ⟨_, run_results (rs := [.tmp 4, .tmp 5]) rfl hF (vs := [ρ 4, ρ 5]) (⟨_, rfl, ⟨_, rfl, rfl⟩⟩), ?_⟩; have hv : resVal [ρ 4, ρ 5] = .tuple #[.int .i64 s.t_4, .bool s.t_5] := by rw [h4, h5]; rfl
    exact ⟨F', hv, hW⟩
end
end objects_find

namespace objects_Has
section
abbrev c2 (ρ : Env) (g2 : Nat) (w0 w : World) (F : BSet) (s : S) (X : Prop) : Prop := ρ 2 = .pointer (some ⟨g2, 0, none⟩) ∧ Box k_ObjectStore 24 (Bs w0 nrow) F w g2 s.s_2 ∧ X
abbrev c3 (ρ : Env) (g5 : Nat) (w0 w : World) (F : BSet) (s : S) (X : Prop) : Prop := ρ 5 = .pointer (some ⟨g5, 0, none⟩) ∧ Box k_Fault 28 (Bs w0 nrow) F w g5 s.t_5 ∧ X
abbrev c4 (ρ : Env) (g6 : Nat) (w0 w : World) (F : BSet) (s : S) (X : Prop) : Prop := ρ 6 = .pointer (some ⟨g6, 0, none⟩) ∧ Box k_Fault 28 (Bs w0 nrow) F w g6 s.f_6 ∧ X
def G0 : GT S := fun w0 F0 s ρ w => ∃ F, Wk nrow w0 F0 F w ∧ Val k_ObjectStore F w (ρ 0) s.s_0 ∧ ρ 1 = .int .i64 s.d_1
def G1 : GT S := fun w0 F0 s ρ w => ∃ F, Wk nrow w0 F0 F w ∧ ∃ g2 g5, ρ 1 = .int .i64 s.d_1 ∧ c2 ρ g2 w0 w F s (ρ 5 = .pointer (some ⟨g5, 0, none⟩) ∧ Box k_Fault 28 (Bs w0 nrow) F w g5 s.t_5)
def G2 : GT S := fun w0 F0 s ρ w => ∃ F, Wk nrow w0 F0 F w ∧ ∃ g2 g5 g6, ρ 1 = .int .i64 s.d_1 ∧ c2 ρ g2 w0 w F s (c3 ρ g5 w0 w F s (c4 ρ g6 w0 w F s (Apart (some g5) (some g6))))
def G3 : GT S := fun w0 F0 s ρ w => ∃ F, Wk nrow w0 F0 F w ∧ ∃ g2 g5 g6, ρ 1 = .int .i64 s.d_1 ∧ c2 ρ g2 w0 w F s (c3 ρ g5 w0 w F s (c4 ρ g6 w0 w F s (ρ 13 = .bool s.t_13 ∧ Apart (some g5) (some g6))))
def G4 : GT S := fun w0 F0 s ρ w => ∃ F, Wk nrow w0 F0 F w ∧ ∃ g5 g6, c3 ρ g5 w0 w F s (c4 ρ g6 w0 w F s (Apart (some g5) (some g6)))
def G5 : GT S := fun w0 F0 s ρ w => ∃ F, Wk nrow w0 F0 F w ∧ ∃ g5, ρ 4 = .bool s.t_4 ∧ ρ 5 = .pointer (some ⟨g5, 0, none⟩) ∧ Box k_Fault 28 (Bs w0 nrow) F w g5 s.t_5
def G6 : GT S := fun w0 F0 s ρ w => ∃ F, Wk nrow w0 F0 F w ∧ ∃ g5, c3 ρ g5 w0 w F s (ρ 8 = .bool s.there_8)
set_option maxHeartbeats 4000000 in
set_option maxRecDepth 20000 in
theorem ref (w0 : World) (F0 : BSet) : ∃ c, Try.f48.body = some c ∧ Ref Try.prog 23 c (G0 w0 F0) body (fun _ _ _ => False) (fun _ _ _ _ => False) (fun r ρ w => ∃ s, retv s = r ∧ G5 w0 F0 s ρ w) := by
  refine ⟨_, rfl, ?_⟩; unfold body; refine Ref.seq (B := G1 w0 F0) ?_ ?_
  · refine Ref.region (fun s ρ w s' h hr => ?_); obtain ⟨F, hW, h0, h1⟩ := h; refine ol_e (f_box hW rfl h0) rfl rfl ?_; rintro _ w2 ⟨g1, rfl, kw1, ho3⟩; have hW4 := hW.trans kw1; have st1 := kw1.stp hW.ok; refine ol_a rfl ?_; refine ol_e (f_alloc zer_28 hW4) rfl rfl ?_; rintro _ w6 ⟨g5, rfl, kw2, ho7⟩; have hW8 := hW4.trans kw2; have st2 := kw2.stp hW4.ok; exact ol_fin hr ⟨F, hW8, g1, g5, h1, rfl, ((ho3.base (row := nrow) hW.le).wk kw2 hW4.ok), rfl, (ho7.base (row := nrow) hW4.le)⟩
  refine Ref.seq (B := G1 w0 F0) ?_ ?_
  · refine Ref.seq (B := G2 w0 F0) ?_ ?_
    · refine Ref.region (fun s ρ w s' h hr => ?_); obtain ⟨F, hW, g2, g5, h1, p2, h2, p5, h5⟩ := h; obtain ⟨v9, hl10⟩ := LiesAt.v (h2).at_; refine ol_v (e_ld ty_24 hl10 p2) rfl ?_; obtain ⟨x11, hx11, hr⟩ := bind_some' hr; refine ol_e (f_call [v9] fn_26 (lcons rfl rfl) (objects_Validate.calls hW.ok hl10.val hx11)) rfl rfl ?_; rintro v14 w12 ⟨Fz13, _, rfl, kw1, hk15⟩; have hW17 := hW.trans kw1; have st1 := kw1.stp hW.ok; refine ol_e (f_alloc zer_28 hW17) rfl rfl ?_; rintro _ w19 ⟨g18, rfl, kw2, ho20⟩; have hW21 := hW17.trans kw2; have st2 := kw2.stp hW17.ok; refine ol_eN (f_stB hW21 (ho20.base (row := nrow) hW17.le) (FldS.whole _) ty_28 (hk15.keep st2) rfl rfl) rfl ?_; rintro - w22 ⟨hW23, ho24, hg3, st3⟩; have z1 := (h2.wk kw1 hW.ok).wk kw2 hW17.ok; have z2 := h5.wk kw1 hW.ok; exact ol_fin hr ⟨Fz13, hW23, g2, g5, g18, h1, p2, (z1.mut (apart_bb (ho20.base (row := nrow) hW17.le) z1 rfl) hg3 st3), p5, ((z2.wk kw2 hW17.ok).mut (Apart.base (fun _ e_ => by cases e_; exact ho20.ge) z2.ltw) hg3 st3), rfl, ho24, (Apart.base (fun _ e_ => by cases e_; exact ho20.ge) z2.ltw).symm⟩
    refine Ref.seq (B := G3 w0 F0) ?_ ?_
    · refine Ref.region (fun s ρ w s' h hr => ?_); obtain ⟨F, hW, g2, g5, g6, h1, p2, h2, p5, h5, p6, h6, a5b_6b⟩ := h; obtain ⟨v25, hl26⟩ := LiesAt.v (h6).at_; refine ol_v (e_ld ty_28 hl26 p6) rfl ?_; refine ol_v (e_bld (cells := #[.int .i64 0, .int .i64 0]) bld_28 (vs := []) rfl rfl) rfl ?_; have hb27 : Val k_Fault F w (.agg #[.int .i64 0, .int .i64 0]) (⟨(0 : Int), (0 : Int)⟩ : Fault) := mk_Fault (val_int _ _) (val_int _ _); refine ol_v (e_tneq (eq_Fault_28 hl26.val hb27) rfl rfl) rfl ?_; exact ol_fin hr ⟨F, hW, g2, g5, g6, h1, p2, h2, p5, h5, p6, h6, rfl, a5b_6b⟩
    refine Ref.condP (b := fun s => s.t_13) (L := G4 w0 F0) (K := G1 w0 F0) ?_ ?_ ?_
    · rintro s ρ w ⟨F, hW, g2, g5, g6, h1, p2, h2, p5, h5, p6, h6, h13, a5b_6b⟩; exact ⟨h13, ⟨F, hW, g5, g6, p5, h5, p6, h6, a5b_6b⟩, F, hW, g2, g5, h1, p2, h2, p5, h5⟩
    · refine Ref.seq (B := G5 w0 F0) ?_ ?_
      · refine Ref.regionD 2 (by kernel_rfl) (by kernel_rfl) (fun s ρ w ⟨F, hW, g5, g6, p5, h5, p6, h6, a5b_6b⟩ => ⟨F, hW.drewS, g5, g6, p5, h5.wk (Wk.drew (row := nrow) hW.ok) hW.ok, p6, h6.wk (Wk.drew (row := nrow) hW.ok) hW.ok, a5b_6b⟩) (fun s ρ w s' h hr => ?_); obtain ⟨F, hW, g5, g6, p5, h5, p6, h6, a5b_6b⟩ := h; obtain ⟨v28, hl29⟩ := LiesAt.v (h6).at_; refine ol_v (e_ld ty_28 hl29 p6) rfl ?_; refine ol_a rfl ?_; refine ol_eN (f_stB hW h5 (FldS.whole _) ty_28 hl29.val p5 rfl) rfl ?_; rintro - w30 ⟨hW31, ho32, hg1, st1⟩; exact ol_fin hr ⟨F, hW31, g5, rfl, p5, ho32⟩
      exact Ref.ret (fun s ρ w h => ⟨s, rfl, h⟩)
    · exact Ref.skip
  refine Ref.seq (B := G6 w0 F0) ?_ ?_
  · refine Ref.region (fun s ρ w s' h hr => ?_); obtain ⟨F, hW, g2, g5, h1, p2, h2, p5, h5⟩ := h; obtain ⟨v33, hl34⟩ := LiesAt.v (h2).at_; refine ol_v (e_ld ty_24 hl34 p2) rfl ?_; refine ol_m h1 ?_; obtain ⟨x35, hx35, hr⟩ := bind_some' hr; refine ol_e (f_call [v33, .int .i64 s.d_1] fn_51 (lcons rfl (lcons rfl rfl)) (objects_find.calls hW.ok hl34.val s.d_1 hx35)) rfl rfl ?_; rintro _ w36 ⟨Fz37, rfl, kw1⟩; have hW39 := hW.trans kw1; have st1 := kw1.stp hW.ok; refine ol_m rfl ?_; refine ol_v (e_ext _ rfl rfl) rfl ?_; refine ol_v (e_ext _ rfl rfl) rfl ?_; refine ol_a rfl ?_; refine ol_a rfl ?_; exact ol_fin hr ⟨Fz37, hW39, g5, p5, (h5.wk kw1 hW.ok), rfl⟩
  refine Ref.seq (B := G5 w0 F0) ?_ ?_
  · refine Ref.region (fun s ρ w s' h hr => ?_); obtain ⟨F, hW, g5, p5, h5, h8⟩ := h; refine ol_m h8 ?_; refine ol_v (e_bld (cells := #[.int .i64 0, .int .i64 0]) bld_28 (vs := []) rfl rfl) rfl ?_; have hb40 : Val k_Fault F w (.agg #[.int .i64 0, .int .i64 0]) (⟨(0 : Int), (0 : Int)⟩ : Fault) := mk_Fault (val_int _ _) (val_int _ _); refine ol_a rfl ?_; refine ol_eN (f_stB hW h5 (FldS.whole _) ty_28 hb40 p5 rfl) rfl ?_; rintro - w41 ⟨hW42, ho43, hg1, st1⟩; exact ol_fin hr ⟨F, hW42, g5, rfl, p5, ho43⟩
  exact Ref.ret (fun s ρ w h => ⟨s, rfl, h⟩)
def post (w : World) (F : BSet) (r : R) (v : Value) (w' : World) : Prop := ∃ (F' : BSet) (v1' : Value), v = .tuple #[.bool r.1, v1'] ∧ Wk nrow w F F' w' ∧ Val k_Fault F' w' v1' r.2
theorem calls {w : World} {F : BSet} (hok : ∀ b, F b → b < w.heap.size) {v0 : Value} {a0 : ObjectStore} (h0 : Val k_ObjectStore F w v0 a0) (a1 : Int) {r : R} (hf : f a0 a1 = some r) : Calls Try.prog 48 #[v0, .int .i64 a1] w fun e w' => ∃ v, e = .returned v ∧ post w F r v w' := by
  obtain ⟨c, hc, href⟩ := ref w F; refine calls_of_ref (args := [v0, .int .i64 a1]) _ Try.func48 hc rfl rfl href ?_ (retOf_some hf) ?_
  · exact ⟨F, Wk.refl hok, h0, rfl⟩
  · rintro ρ w' a ⟨s, rfl, F', hW, g5, h4, p5, h5⟩ hF; obtain ⟨u5, l5, k5⟩ := res_box (P := Try.prog) ty_28 h5; refine ⟨_, run_results (rs := [.tmp 4, .cell 5 28]) rfl hF (vs := [ρ 4, u5]) (⟨_, rfl, ⟨_, _, _, rfl, p5, l5, rfl⟩⟩), ?_⟩; have hv : resVal [ρ 4, u5] = .tuple #[.bool s.t_4, u5] := by rw [h4]; rfl
    exact ⟨F', u5, hv, hW, k5⟩
end
end objects_Has

namespace partial_check
section
abbrev c1 (F : BSet) (w : World) (ρ : Env) (s : S) (X : Prop) : Prop := SlR (kInt .i64) F w (ρ 1) s.t_1 ∧ X
abbrev c2 (ρ : Env) (g2 : Nat) (w0 w : World) (F : BSet) (s : S) (X : Prop) : Prop := ρ 2 = .pointer (some ⟨g2, 0, none⟩) ∧ Box k_ObjectStore 24 (Bs w0 nrow) F w g2 s.t_2 ∧ X
abbrev c3 (ρ : Env) (g4 : Nat) (w0 w : World) (F : BSet) (s : S) (X : Prop) : Prop := ρ 4 = .pointer (some ⟨g4, 0, none⟩) ∧ Box k_Fault 28 (Bs w0 nrow) F w g4 s.t_4 ∧ X
abbrev c4 (ρ : Env) (g5 : Nat) (w0 w : World) (F : BSet) (s : S) (X : Prop) : Prop := ρ 5 = .pointer (some ⟨g5, 0, none⟩) ∧ Box k_Fault 28 (Bs w0 nrow) F w g5 s.t_5 ∧ X
abbrev c8 (F : BSet) (w : World) (ρ : Env) (s : S) (X : Prop) : Prop := SlR (kInt .i64) F w (ρ 20) s.t_20 ∧ ρ 21 = .int .i64 s.t_21 ∧ ρ 22 = .int .i64 s.t_22 ∧ X
abbrev e8 (F : BSet) (w : World) (ρ : Env) (s : S) : Prop := SlR (kInt .i64) F w (ρ 20) s.t_20 ∧ ρ 21 = .int .i64 s.t_21 ∧ ρ 22 = .int .i64 s.t_22
abbrev c10 (ρ : Env) (s : S) (X : Prop) : Prop := ρ 6 = .int .i64 s.t_6 ∧ X
def G0 : GT S := fun w0 F0 s ρ w => ∃ F, Wk nrow w0 F0 F w ∧ Val k_ObjectStore F w (ρ 0) s.t_0 ∧ SlR (kInt .i64) F w (ρ 1) s.t_1
def G1 : GT S := fun w0 F0 s ρ w => ∃ F, Wk nrow w0 F0 F w ∧ ∃ g2 g4, c1 F w ρ s (c2 ρ g2 w0 w F s (ρ 4 = .pointer (some ⟨g4, 0, none⟩) ∧ Box k_Fault 28 (Bs w0 nrow) F w g4 s.t_4))
def G2 : GT S := fun w0 F0 s ρ w => ∃ F, Wk nrow w0 F0 F w ∧ ∃ g2 g4 g5, c1 F w ρ s (c2 ρ g2 w0 w F s (c3 ρ g4 w0 w F s (c4 ρ g5 w0 w F s (Apart (some g4) (some g5)))))
def G3 : GT S := fun w0 F0 s ρ w => ∃ F, Wk nrow w0 F0 F w ∧ ∃ g2 g4 g5, c1 F w ρ s (c2 ρ g2 w0 w F s (c3 ρ g4 w0 w F s (c4 ρ g5 w0 w F s (ρ 14 = .bool s.t_14 ∧ Apart (some g4) (some g5)))))
def G4 : GT S := fun w0 F0 s ρ w => ∃ F, Wk nrow w0 F0 F w ∧ ∃ g4 g5, c3 ρ g4 w0 w F s (c4 ρ g5 w0 w F s (Apart (some g4) (some g5)))
def G5 : GT S := fun w0 F0 s ρ w => ∃ F, Wk nrow w0 F0 F w ∧ ∃ g4, ρ 4 = .pointer (some ⟨g4, 0, none⟩) ∧ Box k_Fault 28 (Bs w0 nrow) F w g4 s.t_4
def G6 : GT S := fun w0 F0 s ρ w => ∃ F, Wk nrow w0 F0 F w ∧ ∃ g2 g4, c1 F w ρ s (c2 ρ g2 w0 w F s (c3 ρ g4 w0 w F s (ρ 18 = .bool s.t_18)))
def G7 : GT S := fun w0 F0 s ρ w => ∃ F, Wk nrow w0 F0 F w ∧ ∃ g2 g4, c1 F w ρ s (c2 ρ g2 w0 w F s (c3 ρ g4 w0 w F s (e8 F w ρ s)))
def G8 : GT S := fun w0 F0 s ρ w => ∃ F, Wk nrow w0 F0 F w ∧ ∃ g2 g4, c1 F w ρ s (c2 ρ g2 w0 w F s (c3 ρ g4 w0 w F s (c8 F w ρ s (ρ 23 = .bool s.t_23))))
def G9 : GT S := fun w0 F0 s ρ w => ∃ F, Wk nrow w0 F0 F w ∧ ∃ g2 g4, c1 F w ρ s (c2 ρ g2 w0 w F s (c3 ρ g4 w0 w F s (c10 ρ s (ρ 7 = .int .i64 s.t_7 ∧ e8 F w ρ s))))
def G10 : GT S := fun w0 F0 s ρ w => ∃ F, Wk nrow w0 F0 F w ∧ ∃ g2 g4, c1 F w ρ s (c2 ρ g2 w0 w F s (c3 ρ g4 w0 w F s (c10 ρ s (ρ 7 = .int .i64 s.t_7 ∧ ρ 8 = .bool s.t_8 ∧ e8 F w ρ s))))
def G11 : GT S := fun w0 F0 s ρ w => ∃ F, Wk nrow w0 F0 F w ∧ ∃ g2 g4, c1 F w ρ s (c2 ρ g2 w0 w F s (c3 ρ g4 w0 w F s (c10 ρ s (ρ 7 = .int .i64 s.t_7 ∧ ρ 8 = .bool s.t_8 ∧ c8 F w ρ s (ρ 33 = .bool s.t_33)))))
def G12 : GT S := fun w0 F0 s ρ w => ∃ F, Wk nrow w0 F0 F w ∧ ∃ g4, c3 ρ g4 w0 w F s (ρ 6 = .int .i64 s.t_6)
def G13 : GT S := fun w0 F0 s ρ w => ∃ F, Wk nrow w0 F0 F w ∧ ∃ g2 g4, c1 F w ρ s (c2 ρ g2 w0 w F s (c3 ρ g4 w0 w F s (c10 ρ s (ρ 8 = .bool s.t_8 ∧ c8 F w ρ s (ρ 43 = .bool s.t_43)))))
def G14 : GT S := fun w0 F0 s ρ w => ∃ F, Wk nrow w0 F0 F w ∧ ∃ g2 g4, c1 F w ρ s (c2 ρ g2 w0 w F s (c3 ρ g4 w0 w F s (c10 ρ s (ρ 8 = .bool s.t_8 ∧ e8 F w ρ s))))
def G15 : GT S := fun w0 F0 s ρ w => ∃ F, Wk nrow w0 F0 F w ∧ ∃ g2 g4, c1 F w ρ s (c2 ρ g2 w0 w F s (c3 ρ g4 w0 w F s (c10 ρ s (c8 F w ρ s (ρ 58 = .bool s.t_58)))))
set_option maxHeartbeats 4000000 in
set_option maxRecDepth 20000 in
theorem ref (w0 : World) (F0 : BSet) : ∃ c, Try.f31.body = some c ∧ Ref Try.prog 65 c (G0 w0 F0) body (fun _ _ _ => False) (fun _ _ _ _ => False) (fun r ρ w => ∃ s, retv s = r ∧ G5 w0 F0 s ρ w) := by
  refine ⟨_, rfl, ?_⟩; unfold body; refine Ref.seq (B := G1 w0 F0) ?_ ?_
  · refine Ref.region (fun s ρ w s' h hr => ?_); obtain ⟨F, hW, h0, h1⟩ := h; refine ol_e (f_box hW rfl h0) rfl rfl ?_; rintro _ w2 ⟨g1, rfl, kw1, ho3⟩; have hW4 := hW.trans kw1; have st1 := kw1.stp hW.ok; refine ol_e (f_alloc zer_28 hW4) rfl rfl ?_; rintro _ w6 ⟨g5, rfl, kw2, ho7⟩; have hW8 := hW4.trans kw2; have st2 := kw2.stp hW4.ok; exact ol_fin hr ⟨F, hW8, g1, g5, (h1.keep (st1.trans st2)), rfl, ((ho3.base (row := nrow) hW.le).wk kw2 hW4.ok), rfl, (ho7.base (row := nrow) hW4.le)⟩
  refine Ref.seq (B := G1 w0 F0) ?_ ?_
  · refine Ref.seq (B := G2 w0 F0) ?_ ?_
    · refine Ref.region (fun s ρ w s' h hr => ?_); obtain ⟨F, hW, g2, g4, h1, p2, h2, p4, h4⟩ := h; obtain ⟨v9, hl10⟩ := LiesAt.v (h2).at_; refine ol_v (e_ld ty_24 hl10 p2) rfl ?_; obtain ⟨x11, hx11, hr⟩ := bind_some' hr; refine ol_e (f_call [v9] fn_26 (lcons rfl rfl) (objects_Validate.calls hW.ok hl10.val hx11)) rfl rfl ?_; rintro v14 w12 ⟨Fz13, _, rfl, kw1, hk15⟩; have hW17 := hW.trans kw1; have st1 := kw1.stp hW.ok; refine ol_e (f_alloc zer_28 hW17) rfl rfl ?_; rintro _ w19 ⟨g18, rfl, kw2, ho20⟩; have hW21 := hW17.trans kw2; have st2 := kw2.stp hW17.ok; refine ol_eN (f_stB hW21 (ho20.base (row := nrow) hW17.le) (FldS.whole _) ty_28 (hk15.keep st2) rfl rfl) rfl ?_; rintro - w22 ⟨hW23, ho24, hg3, st3⟩; have z1 := (h2.wk kw1 hW.ok).wk kw2 hW17.ok; have z2 := h4.wk kw1 hW.ok; exact ol_fin hr ⟨Fz13, hW23, g2, g4, g18, (h1.keep (st1.trans (st2.trans st3))), p2, (z1.mut (apart_bb (ho20.base (row := nrow) hW17.le) z1 rfl) hg3 st3), p4, ((z2.wk kw2 hW17.ok).mut (Apart.base (fun _ e_ => by cases e_; exact ho20.ge) z2.ltw) hg3 st3), rfl, ho24, (Apart.base (fun _ e_ => by cases e_; exact ho20.ge) z2.ltw).symm⟩
    refine Ref.seq (B := G3 w0 F0) ?_ ?_
    · refine Ref.region (fun s ρ w s' h hr => ?_); obtain ⟨F, hW, g2, g4, g5, h1, p2, h2, p4, h4, p5, h5, a4b_5b⟩ := h; obtain ⟨v25, hl26⟩ := LiesAt.v (h5).at_; refine ol_v (e_ld ty_28 hl26 p5) rfl ?_; refine ol_v (e_bld (cells := #[.int .i64 0, .int .i64 0]) bld_28 (vs := []) rfl rfl) rfl ?_; have hb27 : Val k_Fault F w (.agg #[.int .i64 0, .int .i64 0]) (⟨(0 : Int), (0 : Int)⟩ : Fault) := mk_Fault (val_int _ _) (val_int _ _); refine ol_v (e_tneq (eq_Fault_28 hl26.val hb27) rfl rfl) rfl ?_; exact ol_fin hr ⟨F, hW, g2, g4, g5, h1, p2, h2, p4, h4, p5, h5, rfl, a4b_5b⟩
    refine Ref.condP (b := fun s => s.t_14) (L := G4 w0 F0) (K := G1 w0 F0) ?_ ?_ ?_
    · rintro s ρ w ⟨F, hW, g2, g4, g5, h1, p2, h2, p4, h4, p5, h5, h14, a4b_5b⟩; exact ⟨h14, ⟨F, hW, g4, g5, p4, h4, p5, h5, a4b_5b⟩, F, hW, g2, g4, h1, p2, h2, p4, h4⟩
    · refine Ref.seq (B := G5 w0 F0) ?_ ?_
      · refine Ref.region (fun s ρ w s' h hr => ?_); obtain ⟨F, hW, g4, g5, p4, h4, p5, h5, a4b_5b⟩ := h; obtain ⟨v28, hl29⟩ := LiesAt.v (h5).at_; refine ol_v (e_ld ty_28 hl29 p5) rfl ?_; refine ol_eN (f_stB hW h4 (FldS.whole _) ty_28 hl29.val p4 rfl) rfl ?_; rintro - w30 ⟨hW31, ho32, hg1, st1⟩; exact ol_fin hr ⟨F, hW31, g4, p4, ho32⟩
      exact Ref.ret (fun s ρ w h => ⟨s, rfl, h⟩)
    · exact Ref.skip
  refine Ref.seq (B := G1 w0 F0) ?_ ?_
  · refine Ref.seq (B := G6 w0 F0) ?_ ?_
    · refine Ref.region (fun s ρ w s' h hr => ?_); obtain ⟨F, hW, g2, g4, h1, p2, h2, p4, h4⟩ := h; refine ol_m rfl ?_; obtain ⟨A33, c34, e35, hc36, R37⟩ := id h1; refine ol_v (e_len (SlT.sl sl_26) e35) rfl ?_; refine ol_v (e_gtr rfl rfl) rfl ?_; exact ol_fin hr ⟨F, hW, g2, g4, h1, p2, h2, p4, h4, rfl⟩
    refine Ref.condP (b := fun s => s.t_18) (L := G5 w0 F0) (K := G1 w0 F0) ?_ ?_ ?_
    · rintro s ρ w ⟨F, hW, g2, g4, h1, p2, h2, p4, h4, h18⟩; exact ⟨h18, ⟨F, hW, g4, p4, h4⟩, F, hW, g2, g4, h1, p2, h2, p4, h4⟩
    · refine Ref.seq (B := G5 w0 F0) ?_ ?_
      · refine Ref.region (fun s ρ w s' h hr => ?_); obtain ⟨F, hW, g4, p4, h4⟩ := h; refine ol_v (e_bld (cells := #[.int .i64 (2), .int .i64 (-2)]) bld_28 (vs := [(0, .int .i64 (2)), (1, .int .i64 (-2))]) (lcons (congrArg (Prod.mk 0) rfl) (lcons (congrArg (Prod.mk 1) rfl) rfl)) rfl) rfl ?_; have hb38 : Val k_Fault F w (.agg #[.int .i64 (2), .int .i64 (-2)]) (⟨(2 : Int), (-2 : Int)⟩ : Fault) := mk_Fault (val_int _ _) (val_int _ _); refine ol_eN (f_stB hW h4 (FldS.whole _) ty_28 hb38 p4 rfl) rfl ?_; rintro - w39 ⟨hW40, ho41, hg1, st1⟩; exact ol_fin hr ⟨F, hW40, g4, p4, ho41⟩
      exact Ref.ret (fun s ρ w h => ⟨s, rfl, h⟩)
    · exact Ref.skip
  refine Ref.seq (B := G5 w0 F0) ?_ ?_
  · refine Ref.seq (B := G7 w0 F0) ?_ ?_
    · refine Ref.region (fun s ρ w s' h hr => ?_); obtain ⟨F, hW, g2, g4, h1, p2, h2, p4, h4⟩ := h; refine ol_m rfl ?_; obtain ⟨A42, c43, e44, hc45, R46⟩ := id h1; refine ol_v (e_len (SlT.sl sl_26) e44) rfl ?_; refine ol_m rfl ?_; exact ol_fin hr ⟨F, hW, g2, g4, h1, p2, h2, p4, h4, h1, rfl, rfl⟩
    refine Ref.block ?_; refine Ref.loop ?_; refine Ref.seq (B := G8 w0 F0) ?_ ?_
    · refine Ref.region (fun s ρ w s' h hr => ?_); obtain ⟨F, hW, g2, g4, h1, p2, h2, p4, h4, h20, h21, h22⟩ := h; refine ol_v (e_lss h22 h21) rfl ?_; exact ol_fin hr ⟨F, hW, g2, g4, h1, p2, h2, p4, h4, h20, h21, h22, rfl⟩
    refine Ref.seq (B := G7 w0 F0) ?_ ?_
    · refine Ref.condP (b := fun s => s.t_23) (L := G7 w0 F0) (K := G5 w0 F0) ?_ ?_ ?_
      · rintro s ρ w ⟨F, hW, g2, g4, h1, p2, h2, p4, h4, h20, h21, h22, h23⟩; exact ⟨h23, ⟨F, hW, g2, g4, h1, p2, h2, p4, h4, h20, h21, h22⟩, F, hW, g4, p4, h4⟩
      · exact Ref.skip
      · exact Ref.exit (fun s ρ w h => h)
    refine Ref.seq (B := G7 w0 F0) ?_ ?_
    · refine Ref.block ?_; refine Ref.seq (B := G9 w0 F0) ?_ ?_
      · refine Ref.region (fun s ρ w s' h hr => ?_); obtain ⟨F, hW, g2, g4, h1, p2, h2, p4, h4, h20, h21, h22⟩ := h; refine ol_m h22 ?_; obtain ⟨x47, hx47, hr⟩ := bind_some' hr; obtain ⟨A48, c49, e50, hc51, R52⟩ := id h20; obtain ⟨b53, o54, hA55, L56⟩ := Row.at_ R52 hx47; refine ol_v (e_ix (SlT.sl sl_26) (SlT.sz sl_26) hA55 hx47 e50 h22) rfl ?_; refine ol_v (e_ld ty_3 (LiesV.int L56.at_) rfl) rfl ?_; refine ol_a rfl ?_; refine ol_a rfl ?_; exact ol_fin hr ⟨F, hW, g2, g4, h1, p2, h2, p4, h4, rfl, rfl, h20, h21, h22⟩
      refine Ref.seq (B := G10 w0 F0) ?_ ?_
      · refine Ref.region (fun s ρ w s' h hr => ?_); obtain ⟨F, hW, g2, g4, h1, p2, h2, p4, h4, h6, h7, h20, h21, h22⟩ := h; obtain ⟨v57, hl58⟩ := LiesAt.v (h2).at_; refine ol_v (e_ld ty_24 hl58 p2) rfl ?_; refine ol_m h7 ?_; obtain ⟨x59, hx59, hr⟩ := bind_some' hr; refine ol_e (f_call [v57, .int .i64 s.t_7] fn_48 (lcons rfl (lcons rfl rfl)) (objects_Has.calls hW.ok hl58.val s.t_7 hx59)) rfl rfl ?_; rintro _ w60 ⟨Fz61, v62, rfl, kw1, hk63⟩; have hW65 := hW.trans kw1; have st1 := kw1.stp hW.ok; refine ol_m rfl ?_; refine ol_v (e_ext _ rfl rfl) rfl ?_; refine ol_v (e_ext _ rfl rfl) rfl ?_; refine ol_e (f_alloc zer_28 hW65) rfl rfl ?_; rintro _ w67 ⟨g66, rfl, kw2, ho68⟩; have hW69 := hW65.trans kw2; have st2 := kw2.stp hW65.ok; refine ol_a rfl ?_; refine ol_eN (f_stB hW69 (ho68.base (row := nrow) hW65.le) (FldS.whole _) ty_28 (hk63.keep st2) rfl rfl) rfl ?_; rintro - w70 ⟨hW71, ho72, hg3, st3⟩; have z3 := (h2.wk kw1 hW.ok).wk kw2 hW65.ok; exact ol_fin hr ⟨Fz61, hW71, g2, g4, (h1.keep (st1.trans (st2.trans st3))), p2, (z3.mut (apart_bb (ho68.base (row := nrow) hW65.le) z3 rfl) hg3 st3), p4, (((h4.wk kw1 hW.ok).wk kw2 hW65.ok).mut (Apart.base (fun _ e_ => by cases e_; exact ho68.ge) (h4.wk kw1 hW.ok).ltw) hg3 st3), h6, h7, rfl, (h20.keep (st1.trans (st2.trans st3))), h21, h22⟩
      refine Ref.block ?_; refine Ref.seq (B := G11 w0 F0) ?_ ?_
      · refine Ref.region (fun s ρ w s' h hr => ?_); obtain ⟨F, hW, g2, g4, h1, p2, h2, p4, h4, h6, h7, h8, h20, h21, h22⟩ := h; refine ol_m h7 ?_; refine ol_v (e_lss rfl rfl) rfl ?_; refine ol_cutA 4 36 39 (fun ρ' w' => w = w' ∧ ρ' 39 = .bool ((decide (s.t_7 < (0 : Int))) || (decide ((2305843009213693951 : Int) ≤ s.t_7)))) rfl ?_ ?_
        · by_cases hb73 : (decide (s.t_7 < (0 : Int))) = true
          · refine ol_m rfl ?_; refine ol_not rfl rfl rfl (congrArg Value.bool hb73) rfl ?_; refine ol_not rfl rfl rfl (congrArg Value.bool hb73) rfl ?_; refine ol_v (e_pick true _ (congrArg Value.bool hb73) rfl) rfl ?_; exact ol_nil ⟨⟨rfl, (bv_or_t hb73)⟩, (Agr.refl _ _ _).u.u.u.u⟩
          · have hb74 := Bool.eq_false_iff.mpr hb73; refine ol_m rfl ?_; refine ol_yes rfl rfl (congrArg Value.bool hb74) ?_; refine ol_m h7 ?_; refine ol_yes rfl rfl (congrArg Value.bool hb74) ?_; refine ol_v (e_geq rfl rfl) rfl ?_; refine ol_v (e_pick false _ (congrArg Value.bool hb74) rfl) rfl ?_; exact ol_nil ⟨⟨rfl, (bv_or_f hb74)⟩, (Agr.refl _ _ _).u.u.u.u⟩
        rintro ρ75 _ ⟨⟨rfl, hp75⟩, hAg75⟩; refine ol_a hp75 ?_; exact ol_fin hr ⟨F, hW, g2, g4, (SlR.eqv (hAg75 1 rfl) h1), ((hAg75 2 rfl).trans p2), h2, ((hAg75 4 rfl).trans p4), h4, ((hAg75 6 rfl).trans h6), ((hAg75 7 rfl).trans h7), ((hAg75 8 rfl).trans h8), (SlR.eqv (hAg75 20 rfl) h20), ((hAg75 21 rfl).trans h21), ((hAg75 22 rfl).trans h22), rfl⟩
      refine Ref.condP (b := fun s => s.t_33) (L := G12 w0 F0) (K := G10 w0 F0) ?_ ?_ ?_
      · rintro s ρ w ⟨F, hW, g2, g4, h1, p2, h2, p4, h4, h6, h7, h8, h20, h21, h22, h33⟩; exact ⟨h33, ⟨F, hW, g4, p4, h4, h6⟩, F, hW, g2, g4, h1, p2, h2, p4, h4, h6, h7, h8, h20, h21, h22⟩
      · refine Ref.seq (B := G5 w0 F0) ?_ ?_
        · refine Ref.region (fun s ρ w s' h hr => ?_); obtain ⟨F, hW, g4, p4, h4, h6⟩ := h; refine ol_m h6 ?_; refine ol_v (e_sub rfl rfl) rfl ?_; refine ol_v (e_bld (cells := #[.int .i64 (3), .int .i64 (w64 ((-3 : Int) - s.t_6))]) bld_28 (vs := [(0, .int .i64 (3)), (1, .int .i64 (w64 ((-3 : Int) - s.t_6)))]) (lcons (congrArg (Prod.mk 0) rfl) (lcons (congrArg (Prod.mk 1) rfl) rfl)) rfl) rfl ?_; have hb76 : Val k_Fault F w (.agg #[.int .i64 (3), .int .i64 (w64 ((-3 : Int) - s.t_6))]) (⟨(3 : Int), w64 ((-3 : Int) - s.t_6)⟩ : Fault) := mk_Fault (val_int _ _) (val_int _ _); refine ol_eN (f_stB hW h4 (FldS.whole _) ty_28 hb76 p4 rfl) rfl ?_; rintro - w77 ⟨hW78, ho79, hg1, st1⟩; exact ol_fin hr ⟨F, hW78, g4, p4, ho79⟩
        exact Ref.ret (fun s ρ w h => ⟨s, rfl, h⟩)
      · refine Ref.seq (B := G13 w0 F0) ?_ ?_
        · refine Ref.region (fun s ρ w s' h hr => ?_); obtain ⟨F, hW, g2, g4, h1, p2, h2, p4, h4, h6, h7, h8, h20, h21, h22⟩ := h; refine ol_m h6 ?_; refine ol_v (e_gtr rfl rfl) rfl ?_; obtain ⟨x92, hx93, hr⟩ := bind_some' hr; refine ol_cutA 9 46 54 (fun ρ' w' => w = w' ∧ ρ' 54 = .bool x92) rfl ?_ ?_
          · by_cases hb80 : (decide ((0 : Int) < s.t_6)) = true
            · have hr := hx93; rw [if_pos hb80] at hr; refine ol_m rfl ?_; refine ol_yes rfl rfl (congrArg Value.bool hb80) ?_; refine ol_m h7 ?_; refine ol_yes rfl rfl (congrArg Value.bool hb80) ?_; refine ol_m rfl ?_; refine ol_yes rfl rfl (congrArg Value.bool hb80) ?_; refine ol_m h6 ?_; refine ol_yes rfl rfl (congrArg Value.bool hb80) ?_; refine ol_v (e_sub rfl rfl) rfl ?_; refine ol_yes rfl rfl (congrArg Value.bool hb80) ?_; obtain ⟨x82, hx82, hr⟩ := bind_some' hr; obtain ⟨A83, c84, e85, hc86, R87⟩ := id h1; obtain ⟨b88, o89, hA90, L91⟩ := Row.at_ R87 hx82; refine ol_v (e_ix (SlT.sl sl_26) (SlT.sz sl_26) hA90 hx82 e85 rfl) rfl ?_; refine ol_yes rfl rfl (congrArg Value.bool hb80) ?_; refine ol_v (e_ld ty_3 (LiesV.int L91.at_) rfl) rfl ?_; refine ol_yes rfl rfl (congrArg Value.bool hb80) ?_; refine ol_v (e_leq rfl rfl) rfl ?_; refine ol_v (e_pick true _ (congrArg Value.bool hb80) rfl) rfl ?_; exact ol_nil ⟨⟨rfl, (congrArg Value.bool (Option.some.inj hr))⟩, (Agr.refl _ _ _).u.u.u.u.u.u.u.u.u⟩
            · have hb81 := Bool.eq_false_iff.mpr hb80; have hr := hx93; rw [if_neg hb80] at hr; refine ol_m rfl ?_; refine ol_not rfl rfl rfl (congrArg Value.bool hb81) rfl ?_; refine ol_not rfl rfl rfl (congrArg Value.bool hb81) rfl ?_; refine ol_not rfl rfl rfl (congrArg Value.bool hb81) rfl ?_; refine ol_not rfl rfl rfl (congrArg Value.bool hb81) rfl ?_; refine ol_not rfl rfl rfl (congrArg Value.bool hb81) rfl ?_; refine ol_not rfl rfl rfl (congrArg Value.bool hb81) rfl ?_; refine ol_not rfl rfl rfl (congrArg Value.bool hb81) rfl ?_; refine ol_v (e_pick false _ (congrArg Value.bool hb81) rfl) rfl ?_; exact ol_nil ⟨⟨rfl, (congrArg Value.bool (Option.some.inj hr))⟩, (Agr.refl _ _ _).u.u.u.u.u.u.u.u.u⟩
          rintro ρ93 _ ⟨⟨rfl, hp93⟩, hAg93⟩; refine ol_a hp93 ?_; exact ol_fin hr ⟨F, hW, g2, g4, (SlR.eqv (hAg93 1 rfl) h1), ((hAg93 2 rfl).trans p2), h2, ((hAg93 4 rfl).trans p4), h4, ((hAg93 6 rfl).trans h6), ((hAg93 8 rfl).trans h8), (SlR.eqv (hAg93 20 rfl) h20), ((hAg93 21 rfl).trans h21), ((hAg93 22 rfl).trans h22), rfl⟩
        refine Ref.condP (b := fun s => s.t_43) (L := G12 w0 F0) (K := G14 w0 F0) ?_ ?_ ?_
        · rintro s ρ w ⟨F, hW, g2, g4, h1, p2, h2, p4, h4, h6, h8, h20, h21, h22, h43⟩; exact ⟨h43, ⟨F, hW, g4, p4, h4, h6⟩, F, hW, g2, g4, h1, p2, h2, p4, h4, h6, h8, h20, h21, h22⟩
        · refine Ref.seq (B := G5 w0 F0) ?_ ?_
          · refine Ref.region (fun s ρ w s' h hr => ?_); obtain ⟨F, hW, g4, p4, h4, h6⟩ := h; refine ol_m h6 ?_; refine ol_v (e_sub rfl rfl) rfl ?_; refine ol_v (e_bld (cells := #[.int .i64 (5), .int .i64 (w64 ((-3 : Int) - s.t_6))]) bld_28 (vs := [(0, .int .i64 (5)), (1, .int .i64 (w64 ((-3 : Int) - s.t_6)))]) (lcons (congrArg (Prod.mk 0) rfl) (lcons (congrArg (Prod.mk 1) rfl) rfl)) rfl) rfl ?_; have hb94 : Val k_Fault F w (.agg #[.int .i64 (5), .int .i64 (w64 ((-3 : Int) - s.t_6))]) (⟨(5 : Int), w64 ((-3 : Int) - s.t_6)⟩ : Fault) := mk_Fault (val_int _ _) (val_int _ _); refine ol_eN (f_stB hW h4 (FldS.whole _) ty_28 hb94 p4 rfl) rfl ?_; rintro - w95 ⟨hW96, ho97, hg1, st1⟩; exact ol_fin hr ⟨F, hW96, g4, p4, ho97⟩
          exact Ref.ret (fun s ρ w h => ⟨s, rfl, h⟩)
        · refine Ref.seq (B := G15 w0 F0) ?_ ?_
          · refine Ref.region (fun s ρ w s' h hr => ?_); obtain ⟨F, hW, g2, g4, h1, p2, h2, p4, h4, h6, h8, h20, h21, h22⟩ := h; refine ol_m h8 ?_; refine ol_a rfl ?_; exact ol_fin hr ⟨F, hW, g2, g4, h1, p2, h2, p4, h4, h6, h20, h21, h22, rfl⟩
          refine Ref.condP (b := fun s => s.t_58) (L := G12 w0 F0) (K := G7 w0 F0) ?_ ?_ ?_
          · rintro s ρ w ⟨F, hW, g2, g4, h1, p2, h2, p4, h4, h6, h20, h21, h22, h58⟩; exact ⟨h58, ⟨F, hW, g4, p4, h4, h6⟩, F, hW, g2, g4, h1, p2, h2, p4, h4, h20, h21, h22⟩
          · refine Ref.seq (B := G5 w0 F0) ?_ ?_
            · refine Ref.region (fun s ρ w s' h hr => ?_); obtain ⟨F, hW, g4, p4, h4, h6⟩ := h; refine ol_m h6 ?_; refine ol_v (e_sub rfl rfl) rfl ?_; refine ol_v (e_bld (cells := #[.int .i64 (7), .int .i64 (w64 ((-3 : Int) - s.t_6))]) bld_28 (vs := [(0, .int .i64 (7)), (1, .int .i64 (w64 ((-3 : Int) - s.t_6)))]) (lcons (congrArg (Prod.mk 0) rfl) (lcons (congrArg (Prod.mk 1) rfl) rfl)) rfl) rfl ?_; have hb98 : Val k_Fault F w (.agg #[.int .i64 (7), .int .i64 (w64 ((-3 : Int) - s.t_6))]) (⟨(7 : Int), w64 ((-3 : Int) - s.t_6)⟩ : Fault) := mk_Fault (val_int _ _) (val_int _ _); refine ol_eN (f_stB hW h4 (FldS.whole _) ty_28 hb98 p4 rfl) rfl ?_; rintro - w99 ⟨hW100, ho101, hg1, st1⟩; exact ol_fin hr ⟨F, hW100, g4, p4, ho101⟩
            exact Ref.ret (fun s ρ w h => ⟨s, rfl, h⟩)
          · exact Ref.skip
    refine Ref.region (fun s ρ w s' h hr => ?_); obtain ⟨F, hW, g2, g4, h1, p2, h2, p4, h4, h20, h21, h22⟩ := h; refine ol_v (e_add h22 rfl) rfl ?_; refine ol_m rfl ?_; exact ol_fin hr ⟨F, hW, g2, g4, h1, p2, h2, p4, h4, h20, h21, rfl⟩
  refine Ref.seq (B := G5 w0 F0) ?_ ?_
  · refine Ref.region (fun s ρ w s' h hr => ?_); obtain ⟨F, hW, g4, p4, h4⟩ := h; refine ol_v (e_bld (cells := #[.int .i64 0, .int .i64 0]) bld_28 (vs := []) rfl rfl) rfl ?_; have hb102 : Val k_Fault F w (.agg #[.int .i64 0, .int .i64 0]) (⟨(0 : Int), (0 : Int)⟩ : Fault) := mk_Fault (val_int _ _) (val_int _ _); refine ol_eN (f_stB hW h4 (FldS.whole _) ty_28 hb102 p4 rfl) rfl ?_; rintro - w103 ⟨hW104, ho105, hg1, st1⟩; exact ol_fin hr ⟨F, hW104, g4, p4, ho105⟩
  exact Ref.ret (fun s ρ w h => ⟨s, rfl, h⟩)
def post (w : World) (F : BSet) (r : R) (v : Value) (w' : World) : Prop := ∃ (F' : BSet) (v0' : Value), v = v0' ∧ Wk nrow w F F' w' ∧ Val k_Fault F' w' v0' r
theorem calls {w : World} {F : BSet} (hok : ∀ b, F b → b < w.heap.size) {v0 : Value} {a0 : ObjectStore} (h0 : Val k_ObjectStore F w v0 a0) {v1 : Value} {a1 : (List Int)} (h1 : SlR (kInt .i64) F w v1 a1) {r : R} (hf : f a0 a1 = some r) : Calls Try.prog 31 #[v0, v1] w fun e w' => ∃ v, e = .returned v ∧ post w F r v w' := by
  obtain ⟨c, hc, href⟩ := ref w F; refine calls_of_ref (args := [v0, v1]) _ Try.func31 hc rfl rfl href ?_ (retOf_some hf) ?_
  · exact ⟨F, Wk.refl hok, h0, h1⟩
  · rintro ρ w' a ⟨s, rfl, F', hW, g4, p4, h4⟩ hF; obtain ⟨u4, l4, k4⟩ := res_box (P := Try.prog) ty_28 h4; refine ⟨_, run_results (rs := [.cell 4 28]) rfl hF (vs := [u4]) (⟨_, _, _, rfl, p4, l4, rfl⟩), ?_⟩; exact ⟨F', u4, rfl, hW, k4⟩
end
end partial_check

namespace cmp_isNaN_int
section
def G0 : GT S := fun w0 F0 s ρ w => ∃ F, Wk nrow w0 F0 F w ∧ ρ 0 = .int .i64 s.x_0
def G1 : GT S := fun w0 F0 s ρ w => ∃ F, Wk nrow w0 F0 F w ∧ ρ 2 = .bool s.t_2
set_option maxHeartbeats 4000000 in
set_option maxRecDepth 20000 in
theorem ref (w0 : World) (F0 : BSet) : ∃ c, Try.f60.body = some c ∧ Ref Try.prog 6 c (G0 w0 F0) body (fun _ _ _ => False) (fun _ _ _ _ => False) (fun r ρ w => ∃ s, retv s = r ∧ G1 w0 F0 s ρ w) := by
  refine ⟨_, rfl, ?_⟩; unfold body; refine Ref.seq (B := G0 w0 F0) ?_ ?_
  · refine Ref.region (fun s ρ w s' h hr => ?_); obtain ⟨F, hW, h0⟩ := h; refine ol_a rfl ?_; exact ol_fin hr ⟨F, hW, h0⟩
  refine Ref.seq (B := G1 w0 F0) ?_ ?_
  · refine Ref.region (fun s ρ w s' h hr => ?_); obtain ⟨F, hW, h0⟩ := h; refine ol_m h0 ?_; refine ol_m h0 ?_; refine ol_v (e_neq rfl rfl) rfl ?_; refine ol_a rfl ?_; exact ol_fin hr ⟨F, hW, rfl⟩
  exact Ref.ret (fun s ρ w h => ⟨s, rfl, h⟩)
def post (w : World) (F : BSet) (r : R) (v : Value) (w' : World) : Prop := ∃ (F' : BSet), v = .bool r ∧ Wk nrow w F F' w'
theorem calls {w : World} {F : BSet} (hok : ∀ b, F b → b < w.heap.size) (a0 : Int) {r : R} (hf : f a0 = some r) : Calls Try.prog 60 #[.int .i64 a0] w fun e w' => ∃ v, e = .returned v ∧ post w F r v w' := by
  obtain ⟨c, hc, href⟩ := ref w F; refine calls_of_ref (args := [.int .i64 a0]) _ Try.func60 hc rfl rfl href ?_ (retOf_some hf) ?_
  · exact ⟨F, Wk.refl hok, rfl⟩
  · rintro ρ w' a ⟨s, rfl, F', hW, h2⟩ hF; refine ⟨_, run_results (rs := [.tmp 2]) rfl hF (vs := [ρ 2]) (⟨_, rfl, rfl⟩), ?_⟩; have hv : resVal [ρ 2] = .bool s.t_2 := by rw [h2]; rfl
    exact ⟨F', hv, hW⟩
end
end cmp_isNaN_int

namespace cmp_Less_int
section
def G0 : GT S := fun w0 F0 s ρ w => ∃ F, Wk nrow w0 F0 F w ∧ ρ 0 = .int .i64 s.x_0 ∧ ρ 1 = .int .i64 s.y_1
def G1 : GT S := fun w0 F0 s ρ w => ∃ F, Wk nrow w0 F0 F w ∧ ρ 4 = .bool s.t_4
set_option maxHeartbeats 4000000 in
set_option maxRecDepth 20000 in
theorem ref (w0 : World) (F0 : BSet) : ∃ c, Try.f49.body = some c ∧ Ref Try.prog 17 c (G0 w0 F0) body (fun _ _ _ => False) (fun _ _ _ _ => False) (fun r ρ w => ∃ s, retv s = r ∧ G1 w0 F0 s ρ w) := by
  refine ⟨_, rfl, ?_⟩; unfold body; refine Ref.seq (B := G0 w0 F0) ?_ ?_
  · refine Ref.region (fun s ρ w s' h hr => ?_); obtain ⟨F, hW, h0, h1⟩ := h; refine ol_a rfl ?_; exact ol_fin hr ⟨F, hW, h0, h1⟩
  refine Ref.seq (B := G1 w0 F0) ?_ ?_
  · refine Ref.region (fun s ρ w s' h hr => ?_); obtain ⟨F, hW, h0, h1⟩ := h; refine ol_m h0 ?_; obtain ⟨x1, hx1, hr⟩ := bind_some' hr; refine ol_e (f_call [.int .i64 s.x_0] fn_60 (lcons rfl rfl) (cmp_isNaN_int.calls hW.ok s.x_0 hx1)) rfl rfl ?_; rintro _ w2 ⟨Fz3, rfl, kw1⟩; have hW5 := hW.trans kw1; have st1 := kw1.stp hW.ok; obtain ⟨x13, hx14, hr⟩ := bind_some' hr; refine ol_cutA 5 7 11 (fun ρ' w' => ∃ F', Wk nrow w2 Fz3 F' w' ∧ ρ' 11 = .bool x13) rfl ?_ ?_
    · by_cases hb6 : x1 = true
      · have hr := hx14; rw [if_pos hb6] at hr; refine ol_m rfl ?_; refine ol_yes rfl rfl (congrArg Value.bool hb6) ?_; refine ol_m h1 ?_; refine ol_yes rfl rfl (congrArg Value.bool hb6) ?_; obtain ⟨x8, hx8, hr⟩ := bind_some' hr; refine ol_e (f_call [.int .i64 s.y_1] fn_60 (lcons rfl rfl) (cmp_isNaN_int.calls hW5.ok s.y_1 hx8)) rfl rfl ?_; rintro _ w9 ⟨Fz10, rfl, kw2⟩; have hW12 := hW5.trans kw2; have st2 := kw2.stp hW5.ok; refine ol_yes rfl rfl (congrArg Value.bool hb6) ?_; refine ol_v (e_not_ rfl) rfl ?_; refine ol_v (e_pick true _ (congrArg Value.bool hb6) rfl) rfl ?_; exact ol_nil ⟨⟨_, kw2, (congrArg Value.bool (Option.some.inj hr))⟩, (Agr.refl _ _ _).u.u.u.u.u⟩
      · have hb7 := Bool.eq_false_iff.mpr hb6; have hr := hx14; rw [if_neg hb6] at hr; refine ol_m rfl ?_; refine ol_not rfl rfl rfl (congrArg Value.bool hb7) rfl ?_; refine ol_not rfl rfl rfl (congrArg Value.bool hb7) rfl ?_; refine ol_not rfl rfl rfl (congrArg Value.bool hb7) rfl ?_; refine ol_v (e_pick false _ (congrArg Value.bool hb7) rfl) rfl ?_; exact ol_nil ⟨⟨_, Wk.refl hW5.ok, (congrArg Value.bool (Option.some.inj hr))⟩, (Agr.refl _ _ _).u.u.u.u.u⟩
    rintro ρ14 w15 ⟨⟨Fz16, kw2, hp14⟩, hAg14⟩; have hW17 := hW5.trans kw2; have st2 := kw2.stp hW5.ok; refine ol_cutA 5 12 16 (fun ρ' w' => w15 = w' ∧ ρ' 16 = .bool (x13 || (decide (s.x_0 < s.y_1)))) rfl ?_ ?_
    · by_cases hb18 : x13 = true
      · refine ol_m hp14 ?_; refine ol_not rfl rfl rfl (congrArg Value.bool hb18) rfl ?_; refine ol_not rfl rfl rfl (congrArg Value.bool hb18) rfl ?_; refine ol_not rfl rfl rfl (congrArg Value.bool hb18) rfl ?_; refine ol_v (e_pick true _ (congrArg Value.bool hb18) rfl) rfl ?_; exact ol_nil ⟨⟨rfl, (bv_or_t hb18)⟩, (Agr.refl _ _ _).u.u.u.u.u⟩
      · have hb19 := Bool.eq_false_iff.mpr hb18; refine ol_m hp14 ?_; refine ol_yes rfl rfl (congrArg Value.bool hb19) ?_; refine ol_v (e_mv _ ((hAg14 0 rfl).trans h0)) rfl ?_; refine ol_yes rfl rfl (congrArg Value.bool hb19) ?_; refine ol_v (e_mv _ ((hAg14 1 rfl).trans h1)) rfl ?_; refine ol_yes rfl rfl (congrArg Value.bool hb19) ?_; refine ol_v (e_lss rfl rfl) rfl ?_; refine ol_v (e_pick false _ (congrArg Value.bool hb19) rfl) rfl ?_; exact ol_nil ⟨⟨rfl, (bv_or_f hb19)⟩, (Agr.refl _ _ _).u.u.u.u.u⟩
    rintro ρ20 _ ⟨⟨rfl, hp20⟩, hAg20⟩; refine ol_a hp20 ?_; exact ol_fin hr ⟨Fz16, hW17, rfl⟩
  exact Ref.ret (fun s ρ w h => ⟨s, rfl, h⟩)
def post (w : World) (F : BSet) (r : R) (v : Value) (w' : World) : Prop := ∃ (F' : BSet), v = .bool r ∧ Wk nrow w F F' w'
theorem calls {w : World} {F : BSet} (hok : ∀ b, F b → b < w.heap.size) (a0 : Int) (a1 : Int) {r : R} (hf : f a0 a1 = some r) : Calls Try.prog 49 #[.int .i64 a0, .int .i64 a1] w fun e w' => ∃ v, e = .returned v ∧ post w F r v w' := by
  obtain ⟨c, hc, href⟩ := ref w F; refine calls_of_ref (args := [.int .i64 a0, .int .i64 a1]) _ Try.func49 hc rfl rfl href ?_ (retOf_some hf) ?_
  · exact ⟨F, Wk.refl hok, rfl, rfl⟩
  · rintro ρ w' a ⟨s, rfl, F', hW, h4⟩ hF; refine ⟨_, run_results (rs := [.tmp 4]) rfl hF (vs := [ρ 4]) (⟨_, rfl, rfl⟩), ?_⟩; have hv : resVal [ρ 4] = .bool s.t_4 := by rw [h4]; rfl
    exact ⟨F', hv, hW⟩
end
end cmp_Less_int

end Go.Proofs.Ytenkbkcddcnmeaa
