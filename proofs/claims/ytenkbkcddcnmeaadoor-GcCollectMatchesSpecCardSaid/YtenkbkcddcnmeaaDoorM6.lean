/- The machine's calls come to these plain functions (written by a program, wip/fx/gen.py). -/
import Derived.Test.YtenkbkcddcnmeaaDoorPA
import Derived.Test.YtenkbkcddcnmeaaDoorNm
import Derived.Test.YtenkbkcddcnmeaaDoorM2
import Derived.Test.YtenkbkcddcnmeaaDoorSl
import Derived.Test.YtenkbkcddcnmeaaDoorIn
import Derived.Test.YtenkbkcddcnmeaaDoorIt
import Derived.Test.YtenkbkcddcnmeaaDoorFx17
namespace Go.Proofs.YtenkbkcddcnmeaaDoor
open Go.Fx Go.RowKit
set_option linter.unusedVariables false

namespace ref3_Objects
section
def G0 : GT S := fun w0 F0 s ρ w => ∃ F, Wk nrow w0 F0 F w ∧ Val k_Object F w (ρ 0) s.a_0 ∧ Val k_Object F w (ρ 1) s.b_1
def G1 : GT S := fun w0 F0 s ρ w => ∃ F, Wk nrow w0 F0 F w ∧ ∃ g2 g3, ρ 2 = .pointer (some ⟨g2, 0, none⟩) ∧ Box k_Object 48 (Bs w0 nrow) F w g2 s.a_2 ∧ ρ 3 = .pointer (some ⟨g3, 0, none⟩) ∧ Box k_Object 48 (Bs w0 nrow) F w g3 s.b_3 ∧ Apart (some g2) (some g3)
def G2 : GT S := fun w0 F0 s ρ w => ∃ F, Wk nrow w0 F0 F w ∧ ρ 4 = .bool s.t_4
set_option maxHeartbeats 4000000 in
set_option maxRecDepth 20000 in
theorem ref (w0 : World) (F0 : BSet) : ∃ c, Tryd.f34.body = some c ∧ Ref Tryd.prog 26 c (G0 w0 F0) body (fun _ _ _ => False) (fun _ _ _ _ => False) (fun r ρ w => ∃ s, retv s = r ∧ G2 w0 F0 s ρ w) := by
  refine ⟨_, rfl, ?_⟩; unfold body; refine Ref.seq (B := G1 w0 F0) ?_ ?_
  · refine Ref.region (fun s ρ w s' h hr => ?_); obtain ⟨F, hW, h0, h1⟩ := h; refine ol_e (f_box hW rfl h0) rfl rfl ?_; rintro _ w6 ⟨g5, rfl, kw1, ho7⟩; have hW8 := hW.trans kw1; have st1 := kw1.stp hW.ok; refine ol_e (f_box hW8 rfl (h1.keep st1)) rfl rfl ?_; rintro _ w10 ⟨g9, rfl, kw2, ho11⟩; have hW12 := hW8.trans kw2; have st2 := kw2.stp hW8.ok; refine ol_a rfl ?_; exact ol_fin hr ⟨F, hW12, g5, g9, rfl, ((ho7.base (row := nrow) hW.le).wk kw2 hW8.ok), rfl, (ho11.base (row := nrow) hW8.le), (Apart.base (fun _ e_ => by cases e_; exact ho11.ge) (ho7.base (row := nrow) hW.le).ltw).symm⟩
  refine Ref.seq (B := G2 w0 F0) ?_ ?_
  · refine Ref.region (fun s ρ w s' h hr => ?_); obtain ⟨F, hW, g2, g3, p2, h2, p3, h3, a2b_3b⟩ := h; refine ol_v (e_fa fa_48_0 p2) rfl ?_; refine ol_v (e_ld ty_3 (LiesV.int ((h2).at_.fld fl_Object_0)) rfl) rfl ?_; refine ol_v (e_fa fa_48_0 p3) rfl ?_; refine ol_v (e_ld ty_3 (LiesV.int ((h3).at_.fld fl_Object_0)) rfl) rfl ?_; refine ol_v (e_eql rfl rfl) rfl ?_; obtain ⟨x26, hx27, hr⟩ := bind_some' hr; refine ol_cutA 7 10 16 (fun ρ' w' => ∃ F', Wk nrow w F F' w' ∧ ρ' 16 = .bool x26) rfl ?_ ?_
    · by_cases hb13 : (decide (s.a_2.Kind = s.b_3.Kind)) = true
      · have hr := hx27; rw [if_pos hb13] at hr; refine ol_m rfl ?_; refine ol_yes rfl rfl (congrArg Value.bool hb13) ?_; refine ol_v (e_fa fa_48_1 p2) rfl ?_; refine ol_yes rfl rfl (congrArg Value.bool hb13) ?_; obtain ⟨v15, hl16, hs17⟩ := LiesV.sl ((h2).at_.fld fl_Object_1); refine ol_v (e_ld ty_30 hl16 rfl) rfl ?_; refine ol_yes rfl rfl (congrArg Value.bool hb13) ?_; refine ol_v (e_fa fa_48_1 p3) rfl ?_; refine ol_yes rfl rfl (congrArg Value.bool hb13) ?_; obtain ⟨v18, hl19, hs20⟩ := LiesV.sl ((h3).at_.fld fl_Object_1); refine ol_v (e_ld ty_30 hl19 rfl) rfl ?_; refine ol_yes rfl rfl (congrArg Value.bool hb13) ?_; obtain ⟨x21, hx21, hr⟩ := bind_some' hr; refine ol_e (f_call [v15, v18] fn_16 (lcons rfl (lcons rfl rfl)) (ref3_Ints.calls hW.ok hs17 hs20 hx21)) rfl rfl ?_; rintro _ w22 ⟨Fz23, rfl, kw1⟩; have hW25 := hW.trans kw1; have st1 := kw1.stp hW.ok; refine ol_v (e_pick true _ (congrArg Value.bool hb13) rfl) rfl ?_; exact ol_nil ⟨⟨_, kw1, (congrArg Value.bool (Option.some.inj hr))⟩, (Agr.refl _ _ _).u.u.u.u.u.u.u⟩
      · have hb14 := Bool.eq_false_iff.mpr hb13; have hr := hx27; rw [if_neg hb13] at hr; refine ol_m rfl ?_; refine ol_not rfl rfl rfl (congrArg Value.bool hb14) rfl ?_; refine ol_not rfl rfl rfl (congrArg Value.bool hb14) rfl ?_; refine ol_not rfl rfl rfl (congrArg Value.bool hb14) rfl ?_; refine ol_not rfl rfl rfl (congrArg Value.bool hb14) rfl ?_; refine ol_not rfl rfl rfl (congrArg Value.bool hb14) rfl ?_; refine ol_v (e_pick false _ (congrArg Value.bool hb14) rfl) rfl ?_; exact ol_nil ⟨⟨_, Wk.refl hW.ok, (congrArg Value.bool (Option.some.inj hr))⟩, (Agr.refl _ _ _).u.u.u.u.u.u.u⟩
    rintro ρ27 w28 ⟨⟨Fz29, kw1, hp27⟩, hAg27⟩; have hW30 := hW.trans kw1; have st1 := kw1.stp hW.ok; refine ol_cutA 9 17 25 (fun ρ' w' => w28 = w' ∧ ρ' 25 = .bool (x26 && (decide ((strOf s.a_2.Data) = (strOf s.b_3.Data))))) rfl ?_ ?_
    · by_cases hb31 : x26 = true
      · refine ol_m hp27 ?_; refine ol_yes rfl rfl (congrArg Value.bool hb31) ?_; refine ol_v (e_fa fa_48_2 ((hAg27 2 rfl).trans p2)) rfl ?_; refine ol_yes rfl rfl (congrArg Value.bool hb31) ?_; obtain ⟨v33, hl34, hs35⟩ := LiesV.sl (((h2.wk kw1 hW.ok)).at_.fld fl_Object_2); refine ol_v (e_ld ty_46 hl34 rfl) rfl ?_; refine ol_yes rfl rfl (congrArg Value.bool hb31) ?_; refine ol_v (e_b2s (SlT.sl sl_46) (by kernel_rfl) (by kernel_rfl) hs35 rfl) rfl ?_; refine ol_yes rfl rfl (congrArg Value.bool hb31) ?_; refine ol_v (e_fa fa_48_2 ((hAg27 3 rfl).trans p3)) rfl ?_; refine ol_yes rfl rfl (congrArg Value.bool hb31) ?_; obtain ⟨v36, hl37, hs38⟩ := LiesV.sl (((h3.wk kw1 hW.ok)).at_.fld fl_Object_2); refine ol_v (e_ld ty_46 hl37 rfl) rfl ?_; refine ol_yes rfl rfl (congrArg Value.bool hb31) ?_; refine ol_v (e_b2s (SlT.sl sl_46) (by kernel_rfl) (by kernel_rfl) hs38 rfl) rfl ?_; refine ol_yes rfl rfl (congrArg Value.bool hb31) ?_; refine ol_v (e_seql rfl rfl) rfl ?_; refine ol_v (e_pick true _ (congrArg Value.bool hb31) rfl) rfl ?_; exact ol_nil ⟨⟨rfl, (bv_and_t hb31)⟩, (Agr.refl _ _ _).u.u.u.u.u.u.u.u.u⟩
      · have hb32 := Bool.eq_false_iff.mpr hb31; refine ol_m hp27 ?_; refine ol_not rfl rfl rfl (congrArg Value.bool hb32) rfl ?_; refine ol_not rfl rfl rfl (congrArg Value.bool hb32) rfl ?_; refine ol_not rfl rfl rfl (congrArg Value.bool hb32) rfl ?_; refine ol_not rfl rfl rfl (congrArg Value.bool hb32) rfl ?_; refine ol_not rfl rfl rfl (congrArg Value.bool hb32) rfl ?_; refine ol_not rfl rfl rfl (congrArg Value.bool hb32) rfl ?_; refine ol_not rfl rfl rfl (congrArg Value.bool hb32) rfl ?_; refine ol_v (e_pick false _ (congrArg Value.bool hb32) rfl) rfl ?_; exact ol_nil ⟨⟨rfl, (bv_and_f hb32)⟩, (Agr.refl _ _ _).u.u.u.u.u.u.u.u.u⟩
    rintro ρ39 _ ⟨⟨rfl, hp39⟩, hAg39⟩; refine ol_a hp39 ?_; exact ol_fin hr ⟨Fz29, hW30, rfl⟩
  exact Ref.ret (fun s ρ w h => ⟨s, rfl, h⟩)
def post (w : World) (F : BSet) (r : R) (v : Value) (w' : World) : Prop := ∃ (F' : BSet), v = .bool r ∧ Wk nrow w F F' w'
theorem calls {w : World} {F : BSet} (hok : ∀ b, F b → b < w.heap.size) {v0 : Value} {a0 : Object} (h0 : Val k_Object F w v0 a0) {v1 : Value} {a1 : Object} (h1 : Val k_Object F w v1 a1) {r : R} (hf : f a0 a1 = some r) : Calls Tryd.prog 34 #[v0, v1] w fun e w' => ∃ v, e = .returned v ∧ post w F r v w' := by
  obtain ⟨c, hc, href⟩ := ref w F; refine calls_of_ref (args := [v0, v1]) _ Tryd.func34 hc rfl rfl href ?_ (retOf_some hf) ?_
  · exact ⟨F, Wk.refl hok, h0, h1⟩
  · rintro ρ w' a ⟨s, rfl, F', hW, h4⟩ hF; refine ⟨_, run_results (rs := [.tmp 4]) rfl hF (vs := [ρ 4]) (⟨_, rfl, rfl⟩), ?_⟩; have hv : resVal [ρ 4] = .bool s.t_4 := by rw [h4]; rfl
    exact ⟨F', hv, hW⟩
end
end ref3_Objects

namespace ref3_Stores
section
abbrev c1 (ρ : Env) (g2 g3 : Nat) (w0 w : World) (F : BSet) (s : S) (X : Prop) : Prop := ρ 2 = .pointer (some ⟨g2, 0, none⟩) ∧ Box k_ObjectStore 24 (Bs w0 nrow) F w g2 s.a_2 ∧ ρ 3 = .pointer (some ⟨g3, 0, none⟩) ∧ Box k_ObjectStore 24 (Bs w0 nrow) F w g3 s.b_3 ∧ X
abbrev e2 (g2 g3 : Nat) : Prop := Apart (some g2) (some g3)
def G0 : GT S := fun w0 F0 s ρ w => ∃ F, Wk nrow w0 F0 F w ∧ Val k_ObjectStore F w (ρ 0) s.a_0 ∧ Val k_ObjectStore F w (ρ 1) s.b_1
def G1 : GT S := fun w0 F0 s ρ w => ∃ F, Wk nrow w0 F0 F w ∧ ∃ g2 g3, c1 ρ g2 g3 w0 w F s (e2 g2 g3)
def G2 : GT S := fun w0 F0 s ρ w => ∃ F, Wk nrow w0 F0 F w ∧ ∃ g2 g3, c1 ρ g2 g3 w0 w F s (ρ 12 = .bool s.t_12 ∧ e2 g2 g3)
def G3 : GT S := fun w0 F0 s ρ w => ∃ F, Wk nrow w0 F0 F w
def G4 : GT S := fun w0 F0 s ρ w => ∃ F, Wk nrow w0 F0 F w ∧ ρ 4 = .bool s.t_4
def G5 : GT S := fun w0 F0 s ρ w => ∃ F, Wk nrow w0 F0 F w ∧ ∃ g2 g3, c1 ρ g2 g3 w0 w F s (ρ 5 = .int .i64 s.i_5 ∧ e2 g2 g3)
def G6 : GT S := fun w0 F0 s ρ w => ∃ F, Wk nrow w0 F0 F w ∧ ∃ g2 g3, c1 ρ g2 g3 w0 w F s (ρ 5 = .int .i64 s.i_5 ∧ ρ 17 = .bool s.t_17 ∧ e2 g2 g3)
def G7 : GT S := fun w0 F0 s ρ w => ∃ F, Wk nrow w0 F0 F w ∧ ∃ g2 g3, c1 ρ g2 g3 w0 w F s (ρ 5 = .int .i64 s.i_5 ∧ ρ 48 = .bool s.t_48 ∧ e2 g2 g3)
set_option maxHeartbeats 4000000 in
set_option maxRecDepth 20000 in
theorem ref (w0 : World) (F0 : BSet) : ∃ c, Tryd.f14.body = some c ∧ Ref Tryd.prog 49 c (G0 w0 F0) body (fun _ _ _ => False) (fun _ _ _ _ => False) (fun r ρ w => ∃ s, retv s = r ∧ G4 w0 F0 s ρ w) := by
  refine ⟨_, rfl, ?_⟩; unfold body; refine Ref.seq (B := G1 w0 F0) ?_ ?_
  · refine Ref.region (fun s ρ w s' h hr => ?_); obtain ⟨F, hW, h0, h1⟩ := h; refine ol_e (f_box hW rfl h0) rfl rfl ?_; rintro _ w7 ⟨g6, rfl, kw1, ho8⟩; have hW9 := hW.trans kw1; have st1 := kw1.stp hW.ok; refine ol_e (f_box hW9 rfl (h1.keep st1)) rfl rfl ?_; rintro _ w11 ⟨g10, rfl, kw2, ho12⟩; have hW13 := hW9.trans kw2; have st2 := kw2.stp hW9.ok; refine ol_a rfl ?_; exact ol_fin hr ⟨F, hW13, g6, g10, rfl, ((ho8.base (row := nrow) hW.le).wk kw2 hW9.ok), rfl, (ho12.base (row := nrow) hW9.le), (Apart.base (fun _ e_ => by cases e_; exact ho12.ge) (ho8.base (row := nrow) hW.le).ltw).symm⟩
  refine Ref.seq (B := G1 w0 F0) ?_ ?_
  · refine Ref.seq (B := G2 w0 F0) ?_ ?_
    · refine Ref.region (fun s ρ w s' h hr => ?_); obtain ⟨F, hW, g2, g3, p2, h2, p3, h3, a2b_3b⟩ := h; refine ol_v (e_fa fa_24_0 p2) rfl ?_; obtain ⟨v14, hl15, hs16⟩ := LiesV.sl ((h2).at_.fld fl_ObjectStore_0); refine ol_v (e_ld ty_22 hl15 rfl) rfl ?_; obtain ⟨A17, c18, e19, hc20, R21⟩ := id hs16; refine ol_v (e_len (SlT.sl sl_22) e19) rfl ?_; refine ol_v (e_fa fa_24_0 p3) rfl ?_; obtain ⟨v22, hl23, hs24⟩ := LiesV.sl ((h3).at_.fld fl_ObjectStore_0); refine ol_v (e_ld ty_22 hl23 rfl) rfl ?_; obtain ⟨A25, c26, e27, hc28, R29⟩ := id hs24; refine ol_v (e_len (SlT.sl sl_22) e27) rfl ?_; refine ol_v (e_neq rfl rfl) rfl ?_; exact ol_fin hr ⟨F, hW, g2, g3, p2, h2, p3, h3, rfl, a2b_3b⟩
    refine Ref.condP (b := fun s => s.t_12) (L := G3 w0 F0) (K := G1 w0 F0) ?_ ?_ ?_
    · rintro s ρ w ⟨F, hW, g2, g3, p2, h2, p3, h3, h12, a2b_3b⟩; exact ⟨h12, ⟨F, hW⟩, F, hW, g2, g3, p2, h2, p3, h3, a2b_3b⟩
    · refine Ref.seq (B := G4 w0 F0) ?_ ?_
      · refine Ref.region (fun s ρ w s' h hr => ?_); obtain ⟨F, hW⟩ := h; refine ol_a rfl ?_; exact ol_fin hr ⟨F, hW, rfl⟩
      exact Ref.ret (fun s ρ w h => ⟨s, rfl, h⟩)
    · exact Ref.skip
  refine Ref.seq (B := G3 w0 F0) ?_ ?_
  · refine Ref.seq (B := G5 w0 F0) ?_ ?_
    · refine Ref.region (fun s ρ w s' h hr => ?_); obtain ⟨F, hW, g2, g3, p2, h2, p3, h3, a2b_3b⟩ := h; refine ol_a rfl ?_; exact ol_fin hr ⟨F, hW, g2, g3, p2, h2, p3, h3, rfl, a2b_3b⟩
    refine Ref.block ?_; refine Ref.loop ?_; refine Ref.seq (B := G5 w0 F0) ?_ ?_
    · refine Ref.seq (B := G6 w0 F0) ?_ ?_
      · refine Ref.region (fun s ρ w s' h hr => ?_); obtain ⟨F, hW, g2, g3, p2, h2, p3, h3, h5, a2b_3b⟩ := h; refine ol_m h5 ?_; refine ol_v (e_fa fa_24_0 p2) rfl ?_; obtain ⟨v30, hl31, hs32⟩ := LiesV.sl ((h2).at_.fld fl_ObjectStore_0); refine ol_v (e_ld ty_22 hl31 rfl) rfl ?_; obtain ⟨A33, c34, e35, hc36, R37⟩ := id hs32; refine ol_v (e_len (SlT.sl sl_22) e35) rfl ?_; refine ol_v (e_lss rfl rfl) rfl ?_; exact ol_fin hr ⟨F, hW, g2, g3, p2, h2, p3, h3, h5, rfl, a2b_3b⟩
      refine Ref.condP (b := fun s => s.t_17) (L := G5 w0 F0) (K := G3 w0 F0) ?_ ?_ ?_
      · rintro s ρ w ⟨F, hW, g2, g3, p2, h2, p3, h3, h5, h17, a2b_3b⟩; exact ⟨h17, ⟨F, hW, g2, g3, p2, h2, p3, h3, h5, a2b_3b⟩, F, hW⟩
      · exact Ref.skip
      · exact Ref.exit (fun s ρ w h => h)
    refine Ref.seq (B := G5 w0 F0) ?_ ?_
    · refine Ref.block ?_; refine Ref.seq (B := G7 w0 F0) ?_ ?_
      · refine Ref.regionD 26 (by kernel_rfl) (by kernel_rfl) (fun s ρ w ⟨F, hW, g2, g3, p2, h2, p3, h3, h5, a2b_3b⟩ => ⟨F, hW.drewS, g2, g3, p2, h2.wk (Wk.drew (row := nrow) hW.ok) hW.ok, p3, h3.wk (Wk.drew (row := nrow) hW.ok) hW.ok, h5, a2b_3b⟩) (fun s ρ w s' h hr => ?_); obtain ⟨F, hW, g2, g3, p2, h2, p3, h3, h5, a2b_3b⟩ := h; refine ol_v (e_fa fa_24_0 p2) rfl ?_; obtain ⟨v38, hl39, hs40⟩ := LiesV.sl ((h2).at_.fld fl_ObjectStore_0); refine ol_v (e_ld ty_22 hl39 rfl) rfl ?_; refine ol_m h5 ?_; obtain ⟨x41, hx41, hr⟩ := bind_some' hr; obtain ⟨A42, c43, e44, hc45, R46⟩ := id hs40; obtain ⟨b47, o48, hA49, L50⟩ := Row.at_ R46 hx41; refine ol_v (e_ix (SlT.sl sl_22) (SlT.sz sl_22) hA49 hx41 e44 rfl) rfl ?_; refine ol_v (e_fa fa_50_0 rfl) rfl ?_; refine ol_v (e_ld ty_3 (LiesV.int (L50.fld fl_StoredObject_0).at_) rfl) rfl ?_; refine ol_v (e_fa fa_24_0 p3) rfl ?_; obtain ⟨v51, hl52, hs53⟩ := LiesV.sl ((h3).at_.fld fl_ObjectStore_0); refine ol_v (e_ld ty_22 hl52 rfl) rfl ?_; refine ol_m h5 ?_; obtain ⟨x54, hx54, hr⟩ := bind_some' hr; obtain ⟨A55, c56, e57, hc58, R59⟩ := id hs53; obtain ⟨b60, o61, hA62, L63⟩ := Row.at_ R59 hx54; refine ol_v (e_ix (SlT.sl sl_22) (SlT.sz sl_22) hA62 hx54 e57 rfl) rfl ?_; refine ol_v (e_fa fa_50_0 rfl) rfl ?_; refine ol_v (e_ld ty_3 (LiesV.int (L63.fld fl_StoredObject_0).at_) rfl) rfl ?_; refine ol_v (e_neq rfl rfl) rfl ?_; obtain ⟨x101, hx102, hr⟩ := bind_some' hr; refine ol_cutA 16 33 48 (fun ρ' w' => ∃ F', Wk nrow w F F' w' ∧ ρ' 48 = .bool x101) rfl ?_ ?_
        · by_cases hb64 : (!decide (x41.Digest = x54.Digest)) = true
          · have hr := hx102; rw [if_pos hb64] at hr; refine ol_m rfl ?_; refine ol_not rfl rfl rfl (congrArg Value.bool hb64) rfl ?_; refine ol_not rfl rfl rfl (congrArg Value.bool hb64) rfl ?_; refine ol_not rfl rfl rfl (congrArg Value.bool hb64) rfl ?_; refine ol_not rfl rfl rfl (congrArg Value.bool hb64) rfl ?_; refine ol_not rfl rfl rfl (congrArg Value.bool hb64) rfl ?_; refine ol_not rfl rfl rfl (congrArg Value.bool hb64) rfl ?_; refine ol_not rfl rfl rfl (congrArg Value.bool hb64) rfl ?_; refine ol_not rfl rfl rfl (congrArg Value.bool hb64) rfl ?_; refine ol_not rfl rfl rfl (congrArg Value.bool hb64) rfl ?_; refine ol_not rfl rfl rfl (congrArg Value.bool hb64) rfl ?_; refine ol_not rfl rfl rfl (congrArg Value.bool hb64) rfl ?_; refine ol_not rfl rfl rfl (congrArg Value.bool hb64) rfl ?_; refine ol_not rfl rfl rfl (congrArg Value.bool hb64) rfl ?_; refine ol_not rfl rfl rfl (congrArg Value.bool hb64) rfl ?_; refine ol_v (e_pick true _ (congrArg Value.bool hb64) rfl) rfl ?_; exact ol_nil ⟨⟨_, Wk.refl hW.ok, (congrArg Value.bool (Option.some.inj hr))⟩, (Agr.refl _ _ _).u.u.u.u.u.u.u.u.u.u.u.u.u.u.u.u⟩
          · have hb65 := Bool.eq_false_iff.mpr hb64; have hr := hx102; rw [if_neg hb64] at hr; refine ol_m rfl ?_; refine ol_yes rfl rfl (congrArg Value.bool hb65) ?_; refine ol_v (e_fa fa_24_0 p2) rfl ?_; refine ol_yes rfl rfl (congrArg Value.bool hb65) ?_; obtain ⟨v66, hl67, hs68⟩ := LiesV.sl ((h2).at_.fld fl_ObjectStore_0); refine ol_v (e_ld ty_22 hl67 rfl) rfl ?_; refine ol_yes rfl rfl (congrArg Value.bool hb65) ?_; refine ol_m h5 ?_; refine ol_yes rfl rfl (congrArg Value.bool hb65) ?_; obtain ⟨x69, hx69, hr⟩ := bind_some' hr; obtain ⟨A70, c71, e72, hc73, R74⟩ := id hs68; obtain ⟨b75, o76, hA77, L78⟩ := Row.at_ R74 hx69; refine ol_v (e_ix (SlT.sl sl_22) (SlT.sz sl_22) hA77 hx69 e72 rfl) rfl ?_; refine ol_yes rfl rfl (congrArg Value.bool hb65) ?_; refine ol_v (e_fa fa_50_1 rfl) rfl ?_; refine ol_yes rfl rfl (congrArg Value.bool hb65) ?_; obtain ⟨v79, hl80⟩ := LiesAt.v (L78.fld fl_StoredObject_1).at_; refine ol_v (e_ld ty_48 hl80 rfl) rfl ?_; refine ol_yes rfl rfl (congrArg Value.bool hb65) ?_; refine ol_v (e_fa fa_24_0 p3) rfl ?_; refine ol_yes rfl rfl (congrArg Value.bool hb65) ?_; obtain ⟨v81, hl82, hs83⟩ := LiesV.sl ((h3).at_.fld fl_ObjectStore_0); refine ol_v (e_ld ty_22 hl82 rfl) rfl ?_; refine ol_yes rfl rfl (congrArg Value.bool hb65) ?_; refine ol_m h5 ?_; refine ol_yes rfl rfl (congrArg Value.bool hb65) ?_; obtain ⟨x84, hx84, hr⟩ := bind_some' hr; obtain ⟨A85, c86, e87, hc88, R89⟩ := id hs83; obtain ⟨b90, o91, hA92, L93⟩ := Row.at_ R89 hx84; refine ol_v (e_ix (SlT.sl sl_22) (SlT.sz sl_22) hA92 hx84 e87 rfl) rfl ?_; refine ol_yes rfl rfl (congrArg Value.bool hb65) ?_; refine ol_v (e_fa fa_50_1 rfl) rfl ?_; refine ol_yes rfl rfl (congrArg Value.bool hb65) ?_; obtain ⟨v94, hl95⟩ := LiesAt.v (L93.fld fl_StoredObject_1).at_; refine ol_v (e_ld ty_48 hl95 rfl) rfl ?_; refine ol_yes rfl rfl (congrArg Value.bool hb65) ?_; obtain ⟨x96, hx96, hr⟩ := bind_some' hr; refine ol_e (f_call [v79, v94] fn_34 (lcons rfl (lcons rfl rfl)) (ref3_Objects.calls hW.ok hl80.val hl95.val hx96)) rfl rfl ?_; rintro _ w97 ⟨Fz98, rfl, kw1⟩; have hW100 := hW.trans kw1; have st1 := kw1.stp hW.ok; refine ol_yes rfl rfl (congrArg Value.bool hb65) ?_; refine ol_v (e_not_ rfl) rfl ?_; refine ol_v (e_pick false _ (congrArg Value.bool hb65) rfl) rfl ?_; exact ol_nil ⟨⟨_, kw1, (congrArg Value.bool (Option.some.inj hr))⟩, (Agr.refl _ _ _).u.u.u.u.u.u.u.u.u.u.u.u.u.u.u.u⟩
        rintro ρ102 w103 ⟨⟨Fz104, kw1, hp102⟩, hAg102⟩; have hW105 := hW.trans kw1; have st1 := kw1.stp hW.ok; exact ol_fin hr ⟨Fz104, hW105, g2, g3, ((hAg102 2 rfl).trans p2), (h2.wk kw1 hW.ok), ((hAg102 3 rfl).trans p3), (h3.wk kw1 hW.ok), ((hAg102 5 rfl).trans h5), hp102, a2b_3b⟩
      refine Ref.condP (b := fun s => s.t_48) (L := G3 w0 F0) (K := G5 w0 F0) ?_ ?_ ?_
      · rintro s ρ w ⟨F, hW, g2, g3, p2, h2, p3, h3, h5, h48, a2b_3b⟩; exact ⟨h48, ⟨F, hW⟩, F, hW, g2, g3, p2, h2, p3, h3, h5, a2b_3b⟩
      · refine Ref.seq (B := G4 w0 F0) ?_ ?_
        · refine Ref.region (fun s ρ w s' h hr => ?_); obtain ⟨F, hW⟩ := h; refine ol_a rfl ?_; exact ol_fin hr ⟨F, hW, rfl⟩
        exact Ref.ret (fun s ρ w h => ⟨s, rfl, h⟩)
      · exact Ref.skip
    refine Ref.region (fun s ρ w s' h hr => ?_); obtain ⟨F, hW, g2, g3, p2, h2, p3, h3, h5, a2b_3b⟩ := h; refine ol_m h5 ?_; refine ol_v (e_add rfl rfl) rfl ?_; refine ol_a rfl ?_; exact ol_fin hr ⟨F, hW, g2, g3, p2, h2, p3, h3, rfl, a2b_3b⟩
  refine Ref.seq (B := G4 w0 F0) ?_ ?_
  · refine Ref.region (fun s ρ w s' h hr => ?_); obtain ⟨F, hW⟩ := h; refine ol_a rfl ?_; exact ol_fin hr ⟨F, hW, rfl⟩
  exact Ref.ret (fun s ρ w h => ⟨s, rfl, h⟩)
def post (w : World) (F : BSet) (r : R) (v : Value) (w' : World) : Prop := ∃ (F' : BSet), v = .bool r ∧ Wk nrow w F F' w'
theorem calls {w : World} {F : BSet} (hok : ∀ b, F b → b < w.heap.size) {v0 : Value} {a0 : ObjectStore} (h0 : Val k_ObjectStore F w v0 a0) {v1 : Value} {a1 : ObjectStore} (h1 : Val k_ObjectStore F w v1 a1) {r : R} (hf : f a0 a1 = some r) : Calls Tryd.prog 14 #[v0, v1] w fun e w' => ∃ v, e = .returned v ∧ post w F r v w' := by
  obtain ⟨c, hc, href⟩ := ref w F; refine calls_of_ref (args := [v0, v1]) _ Tryd.func14 hc rfl rfl href ?_ (retOf_some hf) ?_
  · exact ⟨F, Wk.refl hok, h0, h1⟩
  · rintro ρ w' a ⟨s, rfl, F', hW, h4⟩ hF; refine ⟨_, run_results (rs := [.tmp 4]) rfl hF (vs := [ρ 4]) (⟨_, rfl, rfl⟩), ?_⟩; have hv : resVal [ρ 4] = .bool s.t_4 := by rw [h4]; rfl
    exact ⟨F', hv, hW⟩
end
end ref3_Stores

end Go.Proofs.YtenkbkcddcnmeaaDoor
