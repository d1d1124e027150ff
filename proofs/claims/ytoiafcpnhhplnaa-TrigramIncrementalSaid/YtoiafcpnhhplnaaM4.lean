/- The machine's calls come to these plain functions (written by a program, wip/fx/gen.py). -/
import Derived.Test.YtoiafcpnhhplnaaPA
import Derived.Test.YtoiafcpnhhplnaaNm
import Derived.Test.YtoiafcpnhhplnaaM3
import Derived.Test.YtoiafcpnhhplnaaSl
import Derived.Test.YtoiafcpnhhplnaaIn
import Derived.Test.YtoiafcpnhhplnaaInP
import Derived.Test.YtoiafcpnhhplnaaFx15
namespace Go.Proofs.Ytoiafcpnhhplnaa
open Go.Fx Go.RowKit
set_option linter.unusedVariables false

namespace ref4_Indexes
section
abbrev c1 (ρ : Env) (g2 g3 : Nat) (w0 w : World) (F : BSet) (s : S) (X : Prop) : Prop := ρ 2 = .pointer (some ⟨g2, 0, none⟩) ∧ Box k_TrigramIndex 27 (Bs w0 nrow) F w g2 s.a_2 ∧ ρ 3 = .pointer (some ⟨g3, 0, none⟩) ∧ Box k_TrigramIndex 27 (Bs w0 nrow) F w g3 s.b_3 ∧ X
abbrev e2 (g2 g3 : Nat) : Prop := Apart (some g2) (some g3)
def G0 : GT S := fun w0 F0 s ρ w => ∃ F, Wk nrow w0 F0 F w ∧ Val k_TrigramIndex F w (ρ 0) s.a_0 ∧ Val k_TrigramIndex F w (ρ 1) s.b_1
def G1 : GT S := fun w0 F0 s ρ w => ∃ F, Wk nrow w0 F0 F w ∧ ∃ g2 g3, c1 ρ g2 g3 w0 w F s (e2 g2 g3)
def G2 : GT S := fun w0 F0 s ρ w => ∃ F, Wk nrow w0 F0 F w ∧ ∃ g2 g3, c1 ρ g2 g3 w0 w F s (ρ 20 = .bool s.t_20 ∧ e2 g2 g3)
def G3 : GT S := fun w0 F0 s ρ w => ∃ F, Wk nrow w0 F0 F w
def G4 : GT S := fun w0 F0 s ρ w => ∃ F, Wk nrow w0 F0 F w ∧ ρ 4 = .bool s.t_4
def G5 : GT S := fun w0 F0 s ρ w => ∃ F, Wk nrow w0 F0 F w ∧ ∃ g2 g3, c1 ρ g2 g3 w0 w F s (ρ 5 = .int .i64 s.i_5 ∧ e2 g2 g3)
def G6 : GT S := fun w0 F0 s ρ w => ∃ F, Wk nrow w0 F0 F w ∧ ∃ g2 g3, c1 ρ g2 g3 w0 w F s (ρ 5 = .int .i64 s.i_5 ∧ ρ 25 = .bool s.t_25 ∧ e2 g2 g3)
def G7 : GT S := fun w0 F0 s ρ w => ∃ F, Wk nrow w0 F0 F w ∧ ∃ g2 g3, c1 ρ g2 g3 w0 w F s (ρ 5 = .int .i64 s.i_5 ∧ ρ 56 = .bool s.t_56 ∧ e2 g2 g3)
set_option maxHeartbeats 4000000 in
set_option maxRecDepth 20000 in
theorem ref (w0 : World) (F0 : BSet) : ∃ c, Try.f12.body = some c ∧ Ref Try.prog 57 c (G0 w0 F0) body (fun _ _ _ => False) (fun _ _ _ _ => False) (fun r ρ w => ∃ s, retv s = r ∧ G4 w0 F0 s ρ w) := by
  refine ⟨_, rfl, ?_⟩; unfold body; refine Ref.seq (B := G1 w0 F0) ?_ ?_
  · refine Ref.region (fun s ρ w s' h hr => ?_); obtain ⟨F, hW, h0, h1⟩ := h; refine ol_e (f_box hW rfl h0) rfl rfl ?_; rintro _ w2 ⟨g1, rfl, kw1, ho3⟩; have hW4 := hW.trans kw1; have st1 := kw1.stp hW.ok; refine ol_e (f_box hW4 rfl (h1.keep st1)) rfl rfl ?_; rintro _ w6 ⟨g5, rfl, kw2, ho7⟩; have hW8 := hW4.trans kw2; have st2 := kw2.stp hW4.ok; refine ol_a rfl ?_; exact ol_fin hr ⟨F, hW8, g1, g5, rfl, ((ho3.base (row := nrow) hW.le).wk kw2 hW4.ok), rfl, (ho7.base (row := nrow) hW4.le), (Apart.base (fun _ e_ => by cases e_; exact ho7.ge) (ho3.base (row := nrow) hW.le).ltw).symm⟩
  refine Ref.seq (B := G1 w0 F0) ?_ ?_
  · refine Ref.seq (B := G2 w0 F0) ?_ ?_
    · refine Ref.region (fun s ρ w s' h hr => ?_); obtain ⟨F, hW, g2, g3, p2, h2, p3, h3, a2b_3b⟩ := h; refine ol_v (e_fa fa_27_0 p2) rfl ?_; obtain ⟨v9, hl10, hs11⟩ := LiesV.sl ((h2).at_.fld fl_TrigramIndex_0); refine ol_v (e_ld ty_24 hl10 rfl) rfl ?_; refine ol_v (e_fa fa_27_0 p3) rfl ?_; obtain ⟨v12, hl13, hs14⟩ := LiesV.sl ((h3).at_.fld fl_TrigramIndex_0); refine ol_v (e_ld ty_24 hl13 rfl) rfl ?_; obtain ⟨x15, hx15, hr⟩ := bind_some' hr; refine ol_e (f_call [v9, v12] fn_19 (lcons rfl (lcons rfl rfl)) (ref3_Ints.calls hW.ok hs11 hs14 hx15)) rfl rfl ?_; rintro _ w16 ⟨Fz17, rfl, kw1⟩; have hW19 := hW.trans kw1; have st1 := kw1.stp hW.ok; refine ol_v (e_not_ rfl) rfl ?_; refine ol_cutA 9 12 20 (fun ρ' w' => w16 = w' ∧ ρ' 20 = .bool ((!x15) || (!decide ((s.a_2.Postings.length : Int) = (s.b_3.Postings.length : Int))))) rfl ?_ ?_
      · by_cases hb20 : (!x15) = true
        · refine ol_m rfl ?_; refine ol_not rfl rfl rfl (congrArg Value.bool hb20) rfl ?_; refine ol_not rfl rfl rfl (congrArg Value.bool hb20) rfl ?_; refine ol_not rfl rfl rfl (congrArg Value.bool hb20) rfl ?_; refine ol_not rfl rfl rfl (congrArg Value.bool hb20) rfl ?_; refine ol_not rfl rfl rfl (congrArg Value.bool hb20) rfl ?_; refine ol_not rfl rfl rfl (congrArg Value.bool hb20) rfl ?_; refine ol_not rfl rfl rfl (congrArg Value.bool hb20) rfl ?_; refine ol_v (e_pick true _ (congrArg Value.bool hb20) rfl) rfl ?_; exact ol_nil ⟨⟨rfl, (bv_or_t hb20)⟩, (Agr.refl _ _ _).u.u.u.u.u.u.u.u.u⟩
        · have hb21 := Bool.eq_false_iff.mpr hb20; refine ol_m rfl ?_; refine ol_yes rfl rfl (congrArg Value.bool hb21) ?_; refine ol_v (e_fa fa_27_1 p2) rfl ?_; refine ol_yes rfl rfl (congrArg Value.bool hb21) ?_; obtain ⟨v22, hl23, hs24⟩ := LiesV.sl (((h2.wk kw1 hW.ok)).at_.fld fl_TrigramIndex_1); refine ol_v (e_ld ty_25 hl23 rfl) rfl ?_; refine ol_yes rfl rfl (congrArg Value.bool hb21) ?_; obtain ⟨A25, c26, e27, hc28, R29⟩ := id hs24; refine ol_v (e_len (SlT.sl sl_25) e27) rfl ?_; refine ol_yes rfl rfl (congrArg Value.bool hb21) ?_; refine ol_v (e_fa fa_27_1 p3) rfl ?_; refine ol_yes rfl rfl (congrArg Value.bool hb21) ?_; obtain ⟨v30, hl31, hs32⟩ := LiesV.sl (((h3.wk kw1 hW.ok)).at_.fld fl_TrigramIndex_1); refine ol_v (e_ld ty_25 hl31 rfl) rfl ?_; refine ol_yes rfl rfl (congrArg Value.bool hb21) ?_; obtain ⟨A33, c34, e35, hc36, R37⟩ := id hs32; refine ol_v (e_len (SlT.sl sl_25) e35) rfl ?_; refine ol_yes rfl rfl (congrArg Value.bool hb21) ?_; refine ol_v (e_neq rfl rfl) rfl ?_; refine ol_v (e_pick false _ (congrArg Value.bool hb21) rfl) rfl ?_; exact ol_nil ⟨⟨rfl, (bv_or_f hb21)⟩, (Agr.refl _ _ _).u.u.u.u.u.u.u.u.u⟩
      rintro ρ38 _ ⟨⟨rfl, hp38⟩, hAg38⟩; exact ol_fin hr ⟨Fz17, hW19, g2, g3, ((hAg38 2 rfl).trans p2), (h2.wk kw1 hW.ok), ((hAg38 3 rfl).trans p3), (h3.wk kw1 hW.ok), hp38, a2b_3b⟩
    refine Ref.condP (b := fun s => s.t_20) (L := G3 w0 F0) (K := G1 w0 F0) ?_ ?_ ?_
    · rintro s ρ w ⟨F, hW, g2, g3, p2, h2, p3, h3, h20, a2b_3b⟩; exact ⟨h20, ⟨F, hW⟩, F, hW, g2, g3, p2, h2, p3, h3, a2b_3b⟩
    · refine Ref.seq (B := G4 w0 F0) ?_ ?_
      · refine Ref.region (fun s ρ w s' h hr => ?_); obtain ⟨F, hW⟩ := h; refine ol_a rfl ?_; exact ol_fin hr ⟨F, hW, rfl⟩
      exact Ref.ret (fun s ρ w h => ⟨s, rfl, h⟩)
    · exact Ref.skip
  refine Ref.seq (B := G3 w0 F0) ?_ ?_
  · refine Ref.seq (B := G5 w0 F0) ?_ ?_
    · refine Ref.region (fun s ρ w s' h hr => ?_); obtain ⟨F, hW, g2, g3, p2, h2, p3, h3, a2b_3b⟩ := h; refine ol_a rfl ?_; exact ol_fin hr ⟨F, hW, g2, g3, p2, h2, p3, h3, rfl, a2b_3b⟩
    refine Ref.block ?_; refine Ref.loop ?_; refine Ref.seq (B := G5 w0 F0) ?_ ?_
    · refine Ref.seq (B := G6 w0 F0) ?_ ?_
      · refine Ref.region (fun s ρ w s' h hr => ?_); obtain ⟨F, hW, g2, g3, p2, h2, p3, h3, h5, a2b_3b⟩ := h; refine ol_m h5 ?_; refine ol_v (e_fa fa_27_1 p2) rfl ?_; obtain ⟨v39, hl40, hs41⟩ := LiesV.sl ((h2).at_.fld fl_TrigramIndex_1); refine ol_v (e_ld ty_25 hl40 rfl) rfl ?_; obtain ⟨A42, c43, e44, hc45, R46⟩ := id hs41; refine ol_v (e_len (SlT.sl sl_25) e44) rfl ?_; refine ol_v (e_lss rfl rfl) rfl ?_; exact ol_fin hr ⟨F, hW, g2, g3, p2, h2, p3, h3, h5, rfl, a2b_3b⟩
      refine Ref.condP (b := fun s => s.t_25) (L := G5 w0 F0) (K := G3 w0 F0) ?_ ?_ ?_
      · rintro s ρ w ⟨F, hW, g2, g3, p2, h2, p3, h3, h5, h25, a2b_3b⟩; exact ⟨h25, ⟨F, hW, g2, g3, p2, h2, p3, h3, h5, a2b_3b⟩, F, hW⟩
      · exact Ref.skip
      · exact Ref.exit (fun s ρ w h => h)
    refine Ref.seq (B := G5 w0 F0) ?_ ?_
    · refine Ref.block ?_; refine Ref.seq (B := G7 w0 F0) ?_ ?_
      · refine Ref.regionD 26 (by kernel_rfl) (by kernel_rfl) (fun s ρ w ⟨F, hW, g2, g3, p2, h2, p3, h3, h5, a2b_3b⟩ => ⟨F, hW.drewS, g2, g3, p2, h2.wk (Wk.drew (row := nrow) hW.ok) hW.ok, p3, h3.wk (Wk.drew (row := nrow) hW.ok) hW.ok, h5, a2b_3b⟩) (fun s ρ w s' h hr => ?_); obtain ⟨F, hW, g2, g3, p2, h2, p3, h3, h5, a2b_3b⟩ := h; refine ol_v (e_fa fa_27_1 p2) rfl ?_; obtain ⟨v47, hl48, hs49⟩ := LiesV.sl ((h2).at_.fld fl_TrigramIndex_1); refine ol_v (e_ld ty_25 hl48 rfl) rfl ?_; refine ol_m h5 ?_; obtain ⟨x50, hx50, hr⟩ := bind_some' hr; obtain ⟨A51, c52, e53, hc54, R55⟩ := id hs49; obtain ⟨b56, o57, hA58, L59⟩ := Row.at_ R55 hx50; refine ol_v (e_ix (SlT.sl sl_25) (SlT.sz sl_25) hA58 hx50 e53 rfl) rfl ?_; refine ol_v (e_fa fa_55_0 rfl) rfl ?_; refine ol_v (e_ld ty_9 (LiesV.str (L59.fld fl_Posting_0).at_) rfl) rfl ?_; refine ol_v (e_fa fa_27_1 p3) rfl ?_; obtain ⟨v60, hl61, hs62⟩ := LiesV.sl ((h3).at_.fld fl_TrigramIndex_1); refine ol_v (e_ld ty_25 hl61 rfl) rfl ?_; refine ol_m h5 ?_; obtain ⟨x63, hx63, hr⟩ := bind_some' hr; obtain ⟨A64, c65, e66, hc67, R68⟩ := id hs62; obtain ⟨b69, o70, hA71, L72⟩ := Row.at_ R68 hx63; refine ol_v (e_ix (SlT.sl sl_25) (SlT.sz sl_25) hA71 hx63 e66 rfl) rfl ?_; refine ol_v (e_fa fa_55_0 rfl) rfl ?_; refine ol_v (e_ld ty_9 (LiesV.str (L72.fld fl_Posting_0).at_) rfl) rfl ?_; refine ol_v (e_sneq rfl rfl) rfl ?_; obtain ⟨x112, hx113, hr⟩ := bind_some' hr; refine ol_cutA 16 41 56 (fun ρ' w' => ∃ F', Wk nrow w F F' w' ∧ ρ' 56 = .bool x112) rfl ?_ ?_
        · by_cases hb73 : (!decide (x50.Gram = x63.Gram)) = true
          · have hr := hx113; rw [if_pos hb73] at hr; refine ol_m rfl ?_; refine ol_not rfl rfl rfl (congrArg Value.bool hb73) rfl ?_; refine ol_not rfl rfl rfl (congrArg Value.bool hb73) rfl ?_; refine ol_not rfl rfl rfl (congrArg Value.bool hb73) rfl ?_; refine ol_not rfl rfl rfl (congrArg Value.bool hb73) rfl ?_; refine ol_not rfl rfl rfl (congrArg Value.bool hb73) rfl ?_; refine ol_not rfl rfl rfl (congrArg Value.bool hb73) rfl ?_; refine ol_not rfl rfl rfl (congrArg Value.bool hb73) rfl ?_; refine ol_not rfl rfl rfl (congrArg Value.bool hb73) rfl ?_; refine ol_not rfl rfl rfl (congrArg Value.bool hb73) rfl ?_; refine ol_not rfl rfl rfl (congrArg Value.bool hb73) rfl ?_; refine ol_not rfl rfl rfl (congrArg Value.bool hb73) rfl ?_; refine ol_not rfl rfl rfl (congrArg Value.bool hb73) rfl ?_; refine ol_not rfl rfl rfl (congrArg Value.bool hb73) rfl ?_; refine ol_not rfl rfl rfl (congrArg Value.bool hb73) rfl ?_; refine ol_v (e_pick true _ (congrArg Value.bool hb73) rfl) rfl ?_; exact ol_nil ⟨⟨_, Wk.refl hW.ok, (congrArg Value.bool (Option.some.inj hr))⟩, (Agr.refl _ _ _).u.u.u.u.u.u.u.u.u.u.u.u.u.u.u.u⟩
          · have hb74 := Bool.eq_false_iff.mpr hb73; have hr := hx113; rw [if_neg hb73] at hr; refine ol_m rfl ?_; refine ol_yes rfl rfl (congrArg Value.bool hb74) ?_; refine ol_v (e_fa fa_27_1 p2) rfl ?_; refine ol_yes rfl rfl (congrArg Value.bool hb74) ?_; obtain ⟨v75, hl76, hs77⟩ := LiesV.sl ((h2).at_.fld fl_TrigramIndex_1); refine ol_v (e_ld ty_25 hl76 rfl) rfl ?_; refine ol_yes rfl rfl (congrArg Value.bool hb74) ?_; refine ol_m h5 ?_; refine ol_yes rfl rfl (congrArg Value.bool hb74) ?_; obtain ⟨x78, hx78, hr⟩ := bind_some' hr; obtain ⟨A79, c80, e81, hc82, R83⟩ := id hs77; obtain ⟨b84, o85, hA86, L87⟩ := Row.at_ R83 hx78; refine ol_v (e_ix (SlT.sl sl_25) (SlT.sz sl_25) hA86 hx78 e81 rfl) rfl ?_; refine ol_yes rfl rfl (congrArg Value.bool hb74) ?_; refine ol_v (e_fa fa_55_1 rfl) rfl ?_; refine ol_yes rfl rfl (congrArg Value.bool hb74) ?_; obtain ⟨v88, hl89, hs90⟩ := LiesV.sl (L87.fld fl_Posting_1).at_; refine ol_v (e_ld ty_24 hl89 rfl) rfl ?_; refine ol_yes rfl rfl (congrArg Value.bool hb74) ?_; refine ol_v (e_fa fa_27_1 p3) rfl ?_; refine ol_yes rfl rfl (congrArg Value.bool hb74) ?_; obtain ⟨v91, hl92, hs93⟩ := LiesV.sl ((h3).at_.fld fl_TrigramIndex_1); refine ol_v (e_ld ty_25 hl92 rfl) rfl ?_; refine ol_yes rfl rfl (congrArg Value.bool hb74) ?_; refine ol_m h5 ?_; refine ol_yes rfl rfl (congrArg Value.bool hb74) ?_; obtain ⟨x94, hx94, hr⟩ := bind_some' hr; obtain ⟨A95, c96, e97, hc98, R99⟩ := id hs93; obtain ⟨b100, o101, hA102, L103⟩ := Row.at_ R99 hx94; refine ol_v (e_ix (SlT.sl sl_25) (SlT.sz sl_25) hA102 hx94 e97 rfl) rfl ?_; refine ol_yes rfl rfl (congrArg Value.bool hb74) ?_; refine ol_v (e_fa fa_55_1 rfl) rfl ?_; refine ol_yes rfl rfl (congrArg Value.bool hb74) ?_; obtain ⟨v104, hl105, hs106⟩ := LiesV.sl (L103.fld fl_Posting_1).at_; refine ol_v (e_ld ty_24 hl105 rfl) rfl ?_; refine ol_yes rfl rfl (congrArg Value.bool hb74) ?_; obtain ⟨x107, hx107, hr⟩ := bind_some' hr; refine ol_e (f_call [v88, v104] fn_19 (lcons rfl (lcons rfl rfl)) (ref3_Ints.calls hW.ok hs90 hs106 hx107)) rfl rfl ?_; rintro _ w108 ⟨Fz109, rfl, kw1⟩; have hW111 := hW.trans kw1; have st1 := kw1.stp hW.ok; refine ol_yes rfl rfl (congrArg Value.bool hb74) ?_; refine ol_v (e_not_ rfl) rfl ?_; refine ol_v (e_pick false _ (congrArg Value.bool hb74) rfl) rfl ?_; exact ol_nil ⟨⟨_, kw1, (congrArg Value.bool (Option.some.inj hr))⟩, (Agr.refl _ _ _).u.u.u.u.u.u.u.u.u.u.u.u.u.u.u.u⟩
        rintro ρ113 w114 ⟨⟨Fz115, kw1, hp113⟩, hAg113⟩; have hW116 := hW.trans kw1; have st1 := kw1.stp hW.ok; exact ol_fin hr ⟨Fz115, hW116, g2, g3, ((hAg113 2 rfl).trans p2), (h2.wk kw1 hW.ok), ((hAg113 3 rfl).trans p3), (h3.wk kw1 hW.ok), ((hAg113 5 rfl).trans h5), hp113, a2b_3b⟩
      refine Ref.condP (b := fun s => s.t_56) (L := G3 w0 F0) (K := G5 w0 F0) ?_ ?_ ?_
      · rintro s ρ w ⟨F, hW, g2, g3, p2, h2, p3, h3, h5, h56, a2b_3b⟩; exact ⟨h56, ⟨F, hW⟩, F, hW, g2, g3, p2, h2, p3, h3, h5, a2b_3b⟩
      · refine Ref.seq (B := G4 w0 F0) ?_ ?_
        · refine Ref.region (fun s ρ w s' h hr => ?_); obtain ⟨F, hW⟩ := h; refine ol_a rfl ?_; exact ol_fin hr ⟨F, hW, rfl⟩
        exact Ref.ret (fun s ρ w h => ⟨s, rfl, h⟩)
      · exact Ref.skip
    refine Ref.region (fun s ρ w s' h hr => ?_); obtain ⟨F, hW, g2, g3, p2, h2, p3, h3, h5, a2b_3b⟩ := h; refine ol_m h5 ?_; refine ol_v (e_add rfl rfl) rfl ?_; refine ol_a rfl ?_; exact ol_fin hr ⟨F, hW, g2, g3, p2, h2, p3, h3, rfl, a2b_3b⟩
  refine Ref.seq (B := G4 w0 F0) ?_ ?_
  · refine Ref.region (fun s ρ w s' h hr => ?_); obtain ⟨F, hW⟩ := h; refine ol_a rfl ?_; exact ol_fin hr ⟨F, hW, rfl⟩
  exact Ref.ret (fun s ρ w h => ⟨s, rfl, h⟩)
def post (w : World) (F : BSet) (r : R) (v : Value) (w' : World) : Prop := ∃ (F' : BSet), v = .bool r ∧ Wk nrow w F F' w'
theorem calls {w : World} {F : BSet} (hok : ∀ b, F b → b < w.heap.size) {v0 : Value} {a0 : TrigramIndex} (h0 : Val k_TrigramIndex F w v0 a0) {v1 : Value} {a1 : TrigramIndex} (h1 : Val k_TrigramIndex F w v1 a1) {r : R} (hf : f a0 a1 = some r) : Calls Try.prog 12 #[v0, v1] w fun e w' => ∃ v, e = .returned v ∧ post w F r v w' := by
  obtain ⟨c, hc, href⟩ := ref w F; refine calls_of_ref (args := [v0, v1]) _ Try.func12 hc rfl rfl href ?_ (retOf_some hf) ?_
  · exact ⟨F, Wk.refl hok, h0, h1⟩
  · rintro ρ w' a ⟨s, rfl, F', hW, h4⟩ hF; refine ⟨_, run_results (rs := [.tmp 4]) rfl hF (vs := [ρ 4]) (⟨_, rfl, rfl⟩), ?_⟩; have hv : resVal [ρ 4] = .bool s.t_4 := by rw [h4]; rfl
    exact ⟨F', hv, hW⟩
end
end ref4_Indexes

end Go.Proofs.Ytoiafcpnhhplnaa
