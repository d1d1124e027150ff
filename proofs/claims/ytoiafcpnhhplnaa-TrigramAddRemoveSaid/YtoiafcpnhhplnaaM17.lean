/- The machine's calls come to these plain functions (written by a program, wip/fx/gen.py). -/
import Derived.Test.YtoiafcpnhhplnaaPA
import Derived.Test.YtoiafcpnhhplnaaNm
import Derived.Test.YtoiafcpnhhplnaaM3
import Derived.Test.YtoiafcpnhhplnaaM4
import Derived.Test.YtoiafcpnhhplnaaM8
import Derived.Test.YtoiafcpnhhplnaaM11
import Derived.Test.YtoiafcpnhhplnaaSl
import Derived.Test.YtoiafcpnhhplnaaIn
import Derived.Test.YtoiafcpnhhplnaaInP
import Derived.Test.YtoiafcpnhhplnaaFx15
namespace Go.Proofs.Ytoiafcpnhhplnaa
open Go.Fx Go.RowKit
set_option linter.unusedVariables false

namespace law4_TrigramAddRemove
section
abbrev c1 (ρ : Env) (s : S) (X : Prop) : Prop := ρ 1 = .int .i64 s.n_1 ∧ X
abbrev c3 (ρ : Env) (g3 : Nat) (w0 w : World) (F : BSet) (s : S) (X : Prop) : Prop := ρ 3 = .pointer (some ⟨g3, 0, none⟩) ∧ Box k_TrigramIndex 27 (Bs w0 nrow) F w g3 s.x_3 ∧ X
abbrev c6 (ρ : Env) (g7 : Nat) (w0 w : World) (F : BSet) (s : S) (X : Prop) : Prop := ρ 7 = .pointer (some ⟨g7, 0, none⟩) ∧ Box k_TrigramIndex 27 (Bs w0 nrow) F w g7 s.y_7 ∧ X
def G0 : GT S := fun w0 F0 s ρ w => ∃ F, Wk nrow w0 F0 F w ∧ Val k_TrigramIndex F w (ρ 0) s.x_0 ∧ c1 ρ s (ρ 2 = .string s.text_2)
def G1 : GT S := fun w0 F0 s ρ w => ∃ F, Wk nrow w0 F0 F w ∧ ∃ g3, c1 ρ s (ρ 2 = .string s.text_2 ∧ ρ 3 = .pointer (some ⟨g3, 0, none⟩) ∧ Box k_TrigramIndex 27 (Bs w0 nrow) F w g3 s.x_3)
def G2 : GT S := fun w0 F0 s ρ w => ∃ F, Wk nrow w0 F0 F w ∧ ∃ g3, c1 ρ s (ρ 2 = .string s.text_2 ∧ c3 ρ g3 w0 w F s (ρ 12 = .bool s.t_12))
def G3 : GT S := fun w0 F0 s ρ w => ∃ F, Wk nrow w0 F0 F w
def G4 : GT S := fun w0 F0 s ρ w => ∃ F, Wk nrow w0 F0 F w ∧ ρ 6 = .bool s.t_6
def G5 : GT S := fun w0 F0 s ρ w => ∃ F, Wk nrow w0 F0 F w ∧ ∃ g3 g7 g8, c1 ρ s (c3 ρ g3 w0 w F s (c6 ρ g7 w0 w F s (ρ 8 = .pointer (some ⟨g8, 0, none⟩) ∧ Box k_Fault 29 (Bs w0 nrow) F w g8 s.f_8 ∧ Apart (some g3) (some g7))))
def G6 : GT S := fun w0 F0 s ρ w => ∃ F, Wk nrow w0 F0 F w ∧ ∃ g3 g7, c1 ρ s (c3 ρ g3 w0 w F s (c6 ρ g7 w0 w F s (ρ 22 = .bool s.t_22 ∧ Apart (some g3) (some g7))))
def G7 : GT S := fun w0 F0 s ρ w => ∃ F, Wk nrow w0 F0 F w ∧ ∃ g7, ρ 7 = .pointer (some ⟨g7, 0, none⟩) ∧ Box k_TrigramIndex 27 (Bs w0 nrow) F w g7 s.y_7
def G8 : GT S := fun w0 F0 s ρ w => ∃ F, Wk nrow w0 F0 F w ∧ ∃ g3 g7, c1 ρ s (c3 ρ g3 w0 w F s (c6 ρ g7 w0 w F s (Apart (some g3) (some g7))))
def G9 : GT S := fun w0 F0 s ρ w => ∃ F, Wk nrow w0 F0 F w ∧ ∃ g3 g9 g10, c3 ρ g3 w0 w F s (ρ 9 = .pointer (some ⟨g9, 0, none⟩) ∧ Box k_TrigramIndex 27 (Bs w0 nrow) F w g9 s.z_9 ∧ ρ 10 = .pointer (some ⟨g10, 0, none⟩) ∧ Box k_Fault 29 (Bs w0 nrow) F w g10 s.g_10 ∧ Apart (some g3) (some g9))
set_option maxHeartbeats 4000000 in
set_option maxRecDepth 20000 in
theorem ref (w0 : World) (F0 : BSet) : ∃ c, Try.f8.body = some c ∧ Ref Try.prog 40 c (G0 w0 F0) body (fun _ _ _ => False) (fun _ _ _ _ => False) (fun r ρ w => ∃ s, retv s = r ∧ G4 w0 F0 s ρ w) := by
  refine ⟨_, rfl, ?_⟩; unfold body; refine Ref.seq (B := G1 w0 F0) ?_ ?_
  · refine Ref.region (fun s ρ w s' h hr => ?_); obtain ⟨F, hW, h0, h1, h2⟩ := h; refine ol_e (f_box hW rfl h0) rfl rfl ?_; rintro _ w2 ⟨g1, rfl, kw1, ho3⟩; have hW4 := hW.trans kw1; have st1 := kw1.stp hW.ok; refine ol_a rfl ?_; exact ol_fin hr ⟨F, hW4, g1, h1, h2, rfl, (ho3.base (row := nrow) hW.le)⟩
  refine Ref.seq (B := G1 w0 F0) ?_ ?_
  · refine Ref.seq (B := G2 w0 F0) ?_ ?_
    · refine Ref.region (fun s ρ w s' h hr => ?_); obtain ⟨F, hW, g3, h1, h2, p3, h3⟩ := h; obtain ⟨x5, hx5, hr⟩ := bind_some' hr; refine ol_e (f_call [] fn_9 rfl (law4_trigramExample.calls hW.ok  hx5)) rfl rfl ?_; rintro _ w6 ⟨Fz7, rfl, kw1⟩; have hW9 := hW.trans kw1; have st1 := kw1.stp hW.ok; refine ol_v (e_not_ rfl) rfl ?_; exact ol_fin hr ⟨Fz7, hW9, g3, h1, h2, p3, (h3.wk kw1 hW.ok), rfl⟩
    refine Ref.condP (b := fun s => s.t_12) (L := G3 w0 F0) (K := G1 w0 F0) ?_ ?_ ?_
    · rintro s ρ w ⟨F, hW, g3, h1, h2, p3, h3, h12⟩; exact ⟨h12, ⟨F, hW⟩, F, hW, g3, h1, h2, p3, h3⟩
    · refine Ref.seq (B := G4 w0 F0) ?_ ?_
      · refine Ref.region (fun s ρ w s' h hr => ?_); obtain ⟨F, hW⟩ := h; refine ol_a rfl ?_; exact ol_fin hr ⟨F, hW, rfl⟩
      exact Ref.ret (fun s ρ w h => ⟨s, rfl, h⟩)
    · exact Ref.skip
  refine Ref.seq (B := G5 w0 F0) ?_ ?_
  · refine Ref.region (fun s ρ w s' h hr => ?_); obtain ⟨F, hW, g3, h1, h2, p3, h3⟩ := h; obtain ⟨v10, hl11⟩ := LiesAt.v (h3).at_; refine ol_v (e_ld ty_27 hl11 p3) rfl ?_; refine ol_m h1 ?_; refine ol_m h2 ?_; obtain ⟨x12, hx12, hr⟩ := bind_some' hr; refine ol_e (f_call [v10, .int .i64 s.n_1, .string s.text_2] fn_24 (lcons rfl (lcons rfl (lcons rfl rfl))) (trigram_Add.calls hW.ok hl11.val s.n_1 s.text_2 hx12)) rfl rfl ?_; rintro _ w13 ⟨Fz14, v15, v17, rfl, kw1, hk16, hk18⟩; have hW20 := hW.trans kw1; have st1 := kw1.stp hW.ok; refine ol_m rfl ?_; refine ol_v (e_ext _ rfl rfl) rfl ?_; refine ol_v (e_ext _ rfl rfl) rfl ?_; refine ol_e (f_alloc zer_27 hW20) rfl rfl ?_; rintro _ w22 ⟨g21, rfl, kw2, ho23⟩; have hW24 := hW20.trans kw2; have st2 := kw2.stp hW20.ok; refine ol_e (f_alloc zer_29 hW24) rfl rfl ?_; rintro _ w26 ⟨g25, rfl, kw3, ho27⟩; have hW28 := hW24.trans kw3; have st3 := kw3.stp hW24.ok; refine ol_eN (f_stB hW28 ((ho23.base (row := nrow) hW20.le).wk kw3 hW24.ok) (FldS.whole _) ty_27 (hk16.keep (st2.trans st3)) rfl rfl) rfl ?_; rintro - w29 ⟨hW30, ho31, hg4, st4⟩; refine ol_eN (f_stB hW30 ((ho27.base (row := nrow) hW24.le).mut (apart_bb ((ho23.base (row := nrow) hW20.le).wk kw3 hW24.ok) (ho27.base (row := nrow) hW24.le) rfl) hg4 st4) (FldS.whole _) ty_29 (hk18.keep (st2.trans (st3.trans st4))) rfl rfl) rfl ?_; rintro - w32 ⟨hW33, ho34, hg5, st5⟩; have z1 := h3.wk kw1 hW.ok; have z2 := (z1.wk kw2 hW20.ok).wk kw3 hW24.ok; exact ol_fin hr ⟨Fz14, hW33, g3, g21, g25, h1, p3, ((z2.mut (Apart.base (fun _ e_ => by cases e_; exact ho23.ge) z1.ltw) hg4 st4).mut (apart_bb ((ho27.base (row := nrow) hW24.le).mut (apart_bb ((ho23.base (row := nrow) hW20.le).wk kw3 hW24.ok) (ho27.base (row := nrow) hW24.le) rfl) hg4 st4) (z2.mut (Apart.base (fun _ e_ => by cases e_; exact ho23.ge) z1.ltw) hg4 st4) rfl) hg5 st5), rfl, (ho31.mut (apart_bb ((ho27.base (row := nrow) hW24.le).mut (apart_bb ((ho23.base (row := nrow) hW20.le).wk kw3 hW24.ok) (ho27.base (row := nrow) hW24.le) rfl) hg4 st4) ho31 rfl) hg5 st5), rfl, ho34, (Apart.base (fun _ e_ => by cases e_; exact ho23.ge) z1.ltw).symm⟩
  refine Ref.seq (B := G8 w0 F0) ?_ ?_
  · refine Ref.seq (B := G6 w0 F0) ?_ ?_
    · refine Ref.region (fun s ρ w s' h hr => ?_); obtain ⟨F, hW, g3, g7, g8, h1, p3, h3, p7, h7, p8, h8, a3b_7b⟩ := h; refine ol_v (e_fa fa_29_0 p8) rfl ?_; refine ol_v (e_ld ty_3 (LiesV.int ((h8).at_.fld fl_Fault_0)) rfl) rfl ?_; refine ol_v (e_neq rfl rfl) rfl ?_; exact ol_fin hr ⟨F, hW, g3, g7, h1, p3, h3, p7, h7, rfl, a3b_7b⟩
    refine Ref.condP (b := fun s => s.t_22) (L := G7 w0 F0) (K := G8 w0 F0) ?_ ?_ ?_
    · rintro s ρ w ⟨F, hW, g3, g7, h1, p3, h3, p7, h7, h22, a3b_7b⟩; exact ⟨h22, ⟨F, hW, g7, p7, h7⟩, F, hW, g3, g7, h1, p3, h3, p7, h7, a3b_7b⟩
    · refine Ref.seq (B := G4 w0 F0) ?_ ?_
      · refine Ref.region (fun s ρ w s' h hr => ?_); obtain ⟨F, hW, g7, p7, h7⟩ := h; obtain ⟨v35, hl36⟩ := LiesAt.v (h7).at_; refine ol_v (e_ld ty_27 hl36 p7) rfl ?_; refine ol_v (e_bld (cells := #[.slice none 0 0, (Value.slice none 0 0)]) bld_27 (vs := []) rfl rfl) rfl ?_; have hb37 : Val k_TrigramIndex_r F w (.agg #[.slice none 0 0, (Value.slice none 0 0)]) (⟨[], (Value.slice none 0 0)⟩ : TrigramIndex_r) := mk_TrigramIndex_r (val_sl (SlR.nil _ _ _)) (OwnV.raw (OwnV.nil k_Posting 55 (Bs w0 nrow) F w)); obtain ⟨x38, hx38, hr⟩ := bind_some' hr; refine ol_e (f_call [v35, .agg #[.slice none 0 0, (Value.slice none 0 0)]] fn_12 (lcons rfl (lcons rfl rfl)) (ref4_Indexes.calls hW.ok hl36.val (un_TrigramIndex hb37 (SlR.nil _ _ _)) hx38)) rfl rfl ?_; rintro _ w39 ⟨Fz40, rfl, kw1⟩; have hW42 := hW.trans kw1; have st1 := kw1.stp hW.ok; refine ol_a rfl ?_; exact ol_fin hr ⟨Fz40, hW42, rfl⟩
      exact Ref.ret (fun s ρ w h => ⟨s, rfl, h⟩)
    · exact Ref.skip
  refine Ref.seq (B := G9 w0 F0) ?_ ?_
  · refine Ref.region (fun s ρ w s' h hr => ?_); obtain ⟨F, hW, g3, g7, h1, p3, h3, p7, h7, a3b_7b⟩ := h; obtain ⟨v43, hl44⟩ := LiesAt.v (h7).at_; refine ol_v (e_ld ty_27 hl44 p7) rfl ?_; refine ol_m h1 ?_; obtain ⟨x45, hx45, hr⟩ := bind_some' hr; refine ol_e (f_call [v43, .int .i64 s.n_1] fn_25 (lcons rfl (lcons rfl rfl)) (trigram_Remove.calls hW.ok hl44.val s.n_1 hx45)) rfl rfl ?_; rintro _ w46 ⟨Fz47, v48, v50, rfl, kw1, hk49, hk51⟩; have hW53 := hW.trans kw1; have st1 := kw1.stp hW.ok; refine ol_m rfl ?_; refine ol_v (e_ext _ rfl rfl) rfl ?_; refine ol_v (e_ext _ rfl rfl) rfl ?_; refine ol_e (f_alloc zer_27 hW53) rfl rfl ?_; rintro _ w55 ⟨g54, rfl, kw2, ho56⟩; have hW57 := hW53.trans kw2; have st2 := kw2.stp hW53.ok; refine ol_e (f_alloc zer_29 hW57) rfl rfl ?_; rintro _ w59 ⟨g58, rfl, kw3, ho60⟩; have hW61 := hW57.trans kw3; have st3 := kw3.stp hW57.ok; refine ol_eN (f_stB hW61 ((ho56.base (row := nrow) hW53.le).wk kw3 hW57.ok) (FldS.whole _) ty_27 (hk49.keep (st2.trans st3)) rfl rfl) rfl ?_; rintro - w62 ⟨hW63, ho64, hg4, st4⟩; refine ol_eN (f_stB hW63 ((ho60.base (row := nrow) hW57.le).mut (apart_bb ((ho56.base (row := nrow) hW53.le).wk kw3 hW57.ok) (ho60.base (row := nrow) hW57.le) rfl) hg4 st4) (FldS.whole _) ty_29 (hk51.keep (st2.trans (st3.trans st4))) rfl rfl) rfl ?_; rintro - w65 ⟨hW66, ho67, hg5, st5⟩; have z3 := h3.wk kw1 hW.ok; have z4 := (z3.wk kw2 hW53.ok).wk kw3 hW57.ok; exact ol_fin hr ⟨Fz47, hW66, g3, g54, g58, p3, ((z4.mut (Apart.base (fun _ e_ => by cases e_; exact ho56.ge) z3.ltw) hg4 st4).mut (apart_bb ((ho60.base (row := nrow) hW57.le).mut (apart_bb ((ho56.base (row := nrow) hW53.le).wk kw3 hW57.ok) (ho60.base (row := nrow) hW57.le) rfl) hg4 st4) (z4.mut (Apart.base (fun _ e_ => by cases e_; exact ho56.ge) z3.ltw) hg4 st4) rfl) hg5 st5), rfl, (ho64.mut (apart_bb ((ho60.base (row := nrow) hW57.le).mut (apart_bb ((ho56.base (row := nrow) hW53.le).wk kw3 hW57.ok) (ho60.base (row := nrow) hW57.le) rfl) hg4 st4) ho64 rfl) hg5 st5), rfl, ho67, (Apart.base (fun _ e_ => by cases e_; exact ho56.ge) z3.ltw).symm⟩
  refine Ref.seq (B := G4 w0 F0) ?_ ?_
  · refine Ref.region (fun s ρ w s' h hr => ?_); obtain ⟨F, hW, g3, g9, g10, p3, h3, p9, h9, p10, h10, a3b_9b⟩ := h; refine ol_v (e_fa fa_29_0 p10) rfl ?_; refine ol_v (e_ld ty_3 (LiesV.int ((h10).at_.fld fl_Fault_0)) rfl) rfl ?_; refine ol_v (e_eql rfl rfl) rfl ?_; obtain ⟨x79, hx80, hr⟩ := bind_some' hr; refine ol_cutA 5 35 39 (fun ρ' w' => ∃ F', Wk nrow w F F' w' ∧ ρ' 39 = .bool x79) rfl ?_ ?_
    · by_cases hb68 : (decide (s.g_10.Code = (0 : Int))) = true
      · have hr := hx80; rw [if_pos hb68] at hr; refine ol_m rfl ?_; refine ol_yes rfl rfl (congrArg Value.bool hb68) ?_; obtain ⟨v70, hl71⟩ := LiesAt.v (h3).at_; refine ol_v (e_ld ty_27 hl71 p3) rfl ?_; refine ol_yes rfl rfl (congrArg Value.bool hb68) ?_; obtain ⟨v72, hl73⟩ := LiesAt.v (h9).at_; refine ol_v (e_ld ty_27 hl73 p9) rfl ?_; refine ol_yes rfl rfl (congrArg Value.bool hb68) ?_; obtain ⟨x74, hx74, hr⟩ := bind_some' hr; refine ol_e (f_call [v70, v72] fn_12 (lcons rfl (lcons rfl rfl)) (ref4_Indexes.calls hW.ok hl71.val hl73.val hx74)) rfl rfl ?_; rintro _ w75 ⟨Fz76, rfl, kw1⟩; have hW78 := hW.trans kw1; have st1 := kw1.stp hW.ok; refine ol_v (e_pick true _ (congrArg Value.bool hb68) rfl) rfl ?_; exact ol_nil ⟨⟨_, kw1, (congrArg Value.bool (Option.some.inj hr))⟩, (Agr.refl _ _ _).u.u.u.u.u⟩
      · have hb69 := Bool.eq_false_iff.mpr hb68; have hr := hx80; rw [if_neg hb68] at hr; refine ol_m rfl ?_; refine ol_not rfl rfl rfl (congrArg Value.bool hb69) rfl ?_; refine ol_not rfl rfl rfl (congrArg Value.bool hb69) rfl ?_; refine ol_not rfl rfl rfl (congrArg Value.bool hb69) rfl ?_; refine ol_v (e_pick false _ (congrArg Value.bool hb69) rfl) rfl ?_; exact ol_nil ⟨⟨_, Wk.refl hW.ok, (congrArg Value.bool (Option.some.inj hr))⟩, (Agr.refl _ _ _).u.u.u.u.u⟩
    rintro ρ80 w81 ⟨⟨Fz82, kw1, hp80⟩, hAg80⟩; have hW83 := hW.trans kw1; have st1 := kw1.stp hW.ok; refine ol_a hp80 ?_; exact ol_fin hr ⟨Fz82, hW83, rfl⟩
  exact Ref.ret (fun s ρ w h => ⟨s, rfl, h⟩)
def post (w : World) (F : BSet) (r : R) (v : Value) (w' : World) : Prop := ∃ (F' : BSet), v = .bool r ∧ Wk nrow w F F' w'
theorem calls {w : World} {F : BSet} (hok : ∀ b, F b → b < w.heap.size) {v0 : Value} {a0 : TrigramIndex} (h0 : Val k_TrigramIndex F w v0 a0) (a1 : Int) (a2 : ByteArray) {r : R} (hf : f a0 a1 a2 = some r) : Calls Try.prog 8 #[v0, .int .i64 a1, .string a2] w fun e w' => ∃ v, e = .returned v ∧ post w F r v w' := by
  obtain ⟨c, hc, href⟩ := ref w F; refine calls_of_ref (args := [v0, .int .i64 a1, .string a2]) _ Try.func8 hc rfl rfl href ?_ (retOf_some hf) ?_
  · exact ⟨F, Wk.refl hok, h0, rfl, rfl⟩
  · rintro ρ w' a ⟨s, rfl, F', hW, h6⟩ hF; refine ⟨_, run_results (rs := [.tmp 6]) rfl hF (vs := [ρ 6]) (⟨_, rfl, rfl⟩), ?_⟩; have hv : resVal [ρ 6] = .bool s.t_6 := by rw [h6]; rfl
    exact ⟨F', hv, hW⟩
end
end law4_TrigramAddRemove

end Go.Proofs.Ytoiafcpnhhplnaa
