/- The machine's calls come to these plain functions (written by a program, wip/fx/gen.py). -/
import Derived.Test.YtoiafcpnhhplnaaPA
import Derived.Test.YtoiafcpnhhplnaaNm
import Derived.Test.YtoiafcpnhhplnaaM1
import Derived.Test.YtoiafcpnhhplnaaM2
import Derived.Test.YtoiafcpnhhplnaaM3
import Derived.Test.YtoiafcpnhhplnaaM4
import Derived.Test.YtoiafcpnhhplnaaM5
import Derived.Test.YtoiafcpnhhplnaaSl
import Derived.Test.YtoiafcpnhhplnaaIn
import Derived.Test.YtoiafcpnhhplnaaInP
import Derived.Test.YtoiafcpnhhplnaaFx15
namespace Go.Proofs.Ytoiafcpnhhplnaa
open Go.Fx Go.RowKit
set_option linter.unusedVariables false

namespace ref4_Contains
section
abbrev c0 (ρ : Env) (s : S) (X : Prop) : Prop := ρ 0 = .string s.text_0 ∧ ρ 1 = .string s.part_1 ∧ X
def G0 : GT S := fun w0 F0 s ρ w => ∃ F, Wk nrow w0 F0 F w ∧ ρ 0 = .string s.text_0 ∧ ρ 1 = .string s.part_1
def G1 : GT S := fun w0 F0 s ρ w => ∃ F, Wk nrow w0 F0 F w ∧ c0 ρ s (ρ 5 = .int .i64 s.i_5)
def G2 : GT S := fun w0 F0 s ρ w => ∃ F, Wk nrow w0 F0 F w ∧ c0 ρ s (ρ 5 = .int .i64 s.i_5 ∧ ρ 12 = .bool s.t_12)
def G3 : GT S := fun w0 F0 s ρ w => ∃ F, Wk nrow w0 F0 F w
def G4 : GT S := fun w0 F0 s ρ w => ∃ F, Wk nrow w0 F0 F w ∧ c0 ρ s (ρ 5 = .int .i64 s.i_5 ∧ ρ 23 = .bool s.t_23)
def G5 : GT S := fun w0 F0 s ρ w => ∃ F, Wk nrow w0 F0 F w ∧ ρ 4 = .bool s.t_4
set_option maxHeartbeats 4000000 in
set_option maxRecDepth 20000 in
theorem ref (w0 : World) (F0 : BSet) : ∃ c, Try.f21.body = some c ∧ Ref Try.prog 24 c (G0 w0 F0) body (fun _ _ _ => False) (fun _ _ _ _ => False) (fun r ρ w => ∃ s, retv s = r ∧ G5 w0 F0 s ρ w) := by
  refine ⟨_, rfl, ?_⟩; unfold body; refine Ref.seq (B := G0 w0 F0) ?_ ?_
  · refine Ref.region (fun s ρ w s' h hr => ?_); obtain ⟨F, hW, h0, h1⟩ := h; refine ol_a rfl ?_; exact ol_fin hr ⟨F, hW, h0, h1⟩
  refine Ref.seq (B := G3 w0 F0) ?_ ?_
  · refine Ref.seq (B := G1 w0 F0) ?_ ?_
    · refine Ref.region (fun s ρ w s' h hr => ?_); obtain ⟨F, hW, h0, h1⟩ := h; refine ol_a rfl ?_; exact ol_fin hr ⟨F, hW, h0, h1, rfl⟩
    refine Ref.block ?_; refine Ref.loop ?_; refine Ref.seq (B := G1 w0 F0) ?_ ?_
    · refine Ref.seq (B := G2 w0 F0) ?_ ?_
      · refine Ref.region (fun s ρ w s' h hr => ?_); obtain ⟨F, hW, h0, h1, h5⟩ := h; refine ol_m h5 ?_; refine ol_m h1 ?_; refine ol_v (e_lenS (by kernel_rfl) rfl) rfl ?_; refine ol_v (e_add rfl rfl) rfl ?_; refine ol_m h0 ?_; refine ol_v (e_lenS (by kernel_rfl) rfl) rfl ?_; refine ol_v (e_leq rfl rfl) rfl ?_; exact ol_fin hr ⟨F, hW, h0, h1, h5, rfl⟩
      refine Ref.condP (b := fun s => s.t_12) (L := G1 w0 F0) (K := G3 w0 F0) ?_ ?_ ?_
      · rintro s ρ w ⟨F, hW, h0, h1, h5, h12⟩; exact ⟨h12, ⟨F, hW, h0, h1, h5⟩, F, hW⟩
      · exact Ref.skip
      · exact Ref.exit (fun s ρ w h => h)
    refine Ref.seq (B := G1 w0 F0) ?_ ?_
    · refine Ref.block ?_; refine Ref.seq (B := G4 w0 F0) ?_ ?_
      · refine Ref.region (fun s ρ w s' h hr => ?_); obtain ⟨F, hW, h0, h1, h5⟩ := h; refine ol_m h0 ?_; refine ol_m h5 ?_; refine ol_m h5 ?_; refine ol_m h1 ?_; refine ol_v (e_lenS (by kernel_rfl) rfl) rfl ?_; refine ol_v (e_add rfl rfl) rfl ?_; obtain ⟨x1, hx1, hr⟩ := bind_some' hr; refine ol_v (e_cutS (by kernel_rfl) rfl rfl rfl hx1) rfl ?_; refine ol_m h1 ?_; refine ol_v (e_seql rfl rfl) rfl ?_; exact ol_fin hr ⟨F, hW, h0, h1, h5, rfl⟩
      refine Ref.condP (b := fun s => s.t_23) (L := G3 w0 F0) (K := G1 w0 F0) ?_ ?_ ?_
      · rintro s ρ w ⟨F, hW, h0, h1, h5, h23⟩; exact ⟨h23, ⟨F, hW⟩, F, hW, h0, h1, h5⟩
      · refine Ref.seq (B := G5 w0 F0) ?_ ?_
        · refine Ref.region (fun s ρ w s' h hr => ?_); obtain ⟨F, hW⟩ := h; refine ol_a rfl ?_; exact ol_fin hr ⟨F, hW, rfl⟩
        exact Ref.ret (fun s ρ w h => ⟨s, rfl, h⟩)
      · exact Ref.skip
    refine Ref.region (fun s ρ w s' h hr => ?_); obtain ⟨F, hW, h0, h1, h5⟩ := h; refine ol_m h5 ?_; refine ol_v (e_add rfl rfl) rfl ?_; refine ol_a rfl ?_; exact ol_fin hr ⟨F, hW, h0, h1, rfl⟩
  refine Ref.seq (B := G5 w0 F0) ?_ ?_
  · refine Ref.region (fun s ρ w s' h hr => ?_); obtain ⟨F, hW⟩ := h; refine ol_a rfl ?_; exact ol_fin hr ⟨F, hW, rfl⟩
  exact Ref.ret (fun s ρ w h => ⟨s, rfl, h⟩)
def post (w : World) (F : BSet) (r : R) (v : Value) (w' : World) : Prop := ∃ (F' : BSet), v = .bool r ∧ Wk nrow w F F' w'
theorem calls {w : World} {F : BSet} (hok : ∀ b, F b → b < w.heap.size) (a0 : ByteArray) (a1 : ByteArray) {r : R} (hf : f a0 a1 = some r) : Calls Try.prog 21 #[.string a0, .string a1] w fun e w' => ∃ v, e = .returned v ∧ post w F r v w' := by
  obtain ⟨c, hc, href⟩ := ref w F; refine calls_of_ref (args := [.string a0, .string a1]) _ Try.func21 hc rfl rfl href ?_ (retOf_some hf) ?_
  · exact ⟨F, Wk.refl hok, rfl, rfl⟩
  · rintro ρ w' a ⟨s, rfl, F', hW, h4⟩ hF; refine ⟨_, run_results (rs := [.tmp 4]) rfl hF (vs := [ρ 4]) (⟨_, rfl, rfl⟩), ?_⟩; have hv : resVal [ρ 4] = .bool s.t_4 := by rw [h4]; rfl
    exact ⟨F', hv, hW⟩
end
end ref4_Contains

namespace law4_TrigramNoFalseNegatives
section
abbrev c0 (F : BSet) (w : World) (ρ : Env) (s : S) (X : Prop) : Prop := SlR kStr F w (ρ 0) s.texts_0 ∧ ρ 1 = .string s.part_1 ∧ X
abbrev c3 (ρ : Env) (g5 g6 : Nat) (w0 w : World) (F : BSet) (s : S) (X : Prop) : Prop := ρ 5 = .pointer (some ⟨g5, 0, none⟩) ∧ Box k_TrigramIndex 27 (Bs w0 nrow) F w g5 s.x_5 ∧ ρ 6 = .pointer (some ⟨g6, 0, none⟩) ∧ Box k_Fault 29 (Bs w0 nrow) F w g6 s.f_6 ∧ X
abbrev e3 (ρ : Env) (g5 g6 : Nat) (w0 w : World) (F : BSet) (s : S) : Prop := ρ 5 = .pointer (some ⟨g5, 0, none⟩) ∧ Box k_TrigramIndex 27 (Bs w0 nrow) F w g5 s.x_5 ∧ ρ 6 = .pointer (some ⟨g6, 0, none⟩) ∧ Box k_Fault 29 (Bs w0 nrow) F w g6 s.f_6
abbrev c4 (F : BSet) (w : World) (ρ : Env) (s : S) (X : Prop) : Prop := SlR (kInt .i64) F w (ρ 7) s.l_7 ∧ X
def G0 : GT S := fun w0 F0 s ρ w => ∃ F, Wk nrow w0 F0 F w ∧ SlR kStr F w (ρ 0) s.texts_0 ∧ ρ 1 = .string s.part_1
def G1 : GT S := fun w0 F0 s ρ w => ∃ F, Wk nrow w0 F0 F w ∧ c0 F w ρ s (ρ 11 = .bool s.t_11)
def G2 : GT S := fun w0 F0 s ρ w => ∃ F, Wk nrow w0 F0 F w
def G3 : GT S := fun w0 F0 s ρ w => ∃ F, Wk nrow w0 F0 F w ∧ ρ 4 = .bool s.t_4
def G4 : GT S := fun w0 F0 s ρ w => ∃ F, Wk nrow w0 F0 F w ∧ ∃ g5 g6, c0 F w ρ s (e3 ρ g5 g6 w0 w F s)
def G5 : GT S := fun w0 F0 s ρ w => ∃ F, Wk nrow w0 F0 F w ∧ ∃ g5 g6 g8, c0 F w ρ s (c3 ρ g5 g6 w0 w F s (c4 F w ρ s (ρ 8 = .pointer (some ⟨g8, 0, none⟩) ∧ Box k_Fault 29 (Bs w0 nrow) F w g8 s.g_8 ∧ Apart (some g6) (some g8))))
def G6 : GT S := fun w0 F0 s ρ w => ∃ F, Wk nrow w0 F0 F w ∧ ∃ g5 g6, c0 F w ρ s (c3 ρ g5 g6 w0 w F s (c4 F w ρ s (ρ 30 = .bool s.t_30)))
def G7 : GT S := fun w0 F0 s ρ w => ∃ F, Wk nrow w0 F0 F w ∧ ∃ g5 g6, e3 ρ g5 g6 w0 w F s
def G8 : GT S := fun w0 F0 s ρ w => ∃ F, Wk nrow w0 F0 F w ∧ c0 F w ρ s (SlR (kInt .i64) F w (ρ 7) s.l_7)
def G9 : GT S := fun w0 F0 s ρ w => ∃ F, Wk nrow w0 F0 F w ∧ c0 F w ρ s (c4 F w ρ s (ρ 9 = .int .i64 s.i_9))
def G10 : GT S := fun w0 F0 s ρ w => ∃ F, Wk nrow w0 F0 F w ∧ c0 F w ρ s (c4 F w ρ s (ρ 9 = .int .i64 s.i_9 ∧ ρ 42 = .bool s.t_42))
def G11 : GT S := fun w0 F0 s ρ w => ∃ F, Wk nrow w0 F0 F w ∧ c0 F w ρ s (c4 F w ρ s (ρ 9 = .int .i64 s.i_9 ∧ ρ 56 = .bool s.t_56))
set_option maxHeartbeats 4000000 in
set_option maxRecDepth 20000 in
theorem ref (w0 : World) (F0 : BSet) : ∃ c, Try.f5.body = some c ∧ Ref Try.prog 57 c (G0 w0 F0) body (fun _ _ _ => False) (fun _ _ _ _ => False) (fun r ρ w => ∃ s, retv s = r ∧ G3 w0 F0 s ρ w) := by
  refine ⟨_, rfl, ?_⟩; unfold body; refine Ref.seq (B := G0 w0 F0) ?_ ?_
  · refine Ref.region (fun s ρ w s' h hr => ?_); obtain ⟨F, hW, h0, h1⟩ := h; refine ol_a rfl ?_; exact ol_fin hr ⟨F, hW, h0, h1⟩
  refine Ref.seq (B := G0 w0 F0) ?_ ?_
  · refine Ref.seq (B := G1 w0 F0) ?_ ?_
    · refine Ref.region (fun s ρ w s' h hr => ?_); obtain ⟨F, hW, h0, h1⟩ := h; obtain ⟨x1, hx1, hr⟩ := bind_some' hr; refine ol_e (f_call [] fn_9 rfl (law4_trigramExample.calls hW.ok  hx1)) rfl rfl ?_; rintro _ w2 ⟨Fz3, rfl, kw1⟩; have hW5 := hW.trans kw1; have st1 := kw1.stp hW.ok; refine ol_v (e_not_ rfl) rfl ?_; exact ol_fin hr ⟨Fz3, hW5, (h0.keep st1), h1, rfl⟩
    refine Ref.condP (b := fun s => s.t_11) (L := G2 w0 F0) (K := G0 w0 F0) ?_ ?_ ?_
    · rintro s ρ w ⟨F, hW, h0, h1, h11⟩; exact ⟨h11, ⟨F, hW⟩, F, hW, h0, h1⟩
    · refine Ref.seq (B := G3 w0 F0) ?_ ?_
      · refine Ref.region (fun s ρ w s' h hr => ?_); obtain ⟨F, hW⟩ := h; refine ol_a rfl ?_; exact ol_fin hr ⟨F, hW, rfl⟩
      exact Ref.ret (fun s ρ w h => ⟨s, rfl, h⟩)
    · exact Ref.skip
  refine Ref.seq (B := G4 w0 F0) ?_ ?_
  · refine Ref.region (fun s ρ w s' h hr => ?_); obtain ⟨F, hW, h0, h1⟩ := h; refine ol_m rfl ?_; obtain ⟨x6, hx6, hr⟩ := bind_some' hr; refine ol_e (f_call [(ρ 0)] fn_10 (lcons rfl rfl) (trigram_Index.calls hW.ok h0 hx6)) rfl rfl ?_; rintro _ w7 ⟨Fz8, v9, v11, rfl, kw1, hk10, hk12⟩; have hW14 := hW.trans kw1; have st1 := kw1.stp hW.ok; refine ol_m rfl ?_; refine ol_v (e_ext _ rfl rfl) rfl ?_; refine ol_v (e_ext _ rfl rfl) rfl ?_; refine ol_e (f_alloc zer_27 hW14) rfl rfl ?_; rintro _ w16 ⟨g15, rfl, kw2, ho17⟩; have hW18 := hW14.trans kw2; have st2 := kw2.stp hW14.ok; refine ol_e (f_alloc zer_29 hW18) rfl rfl ?_; rintro _ w20 ⟨g19, rfl, kw3, ho21⟩; have hW22 := hW18.trans kw3; have st3 := kw3.stp hW18.ok; refine ol_eN (f_stB hW22 ((ho17.base (row := nrow) hW14.le).wk kw3 hW18.ok) (FldS.whole _) ty_27 (hk10.keep (st2.trans st3)) rfl rfl) rfl ?_; rintro - w23 ⟨hW24, ho25, hg4, st4⟩; refine ol_eN (f_stB hW24 ((ho21.base (row := nrow) hW18.le).mut (apart_bb ((ho17.base (row := nrow) hW14.le).wk kw3 hW18.ok) (ho21.base (row := nrow) hW18.le) rfl) hg4 st4) (FldS.whole _) ty_29 (hk12.keep (st2.trans (st3.trans st4))) rfl rfl) rfl ?_; rintro - w26 ⟨hW27, ho28, hg5, st5⟩; exact ol_fin hr ⟨Fz8, hW27, g15, g19, (h0.keep (st1.trans (st2.trans (st3.trans (st4.trans st5))))), h1, rfl, (ho25.mut (apart_bb ((ho21.base (row := nrow) hW18.le).mut (apart_bb ((ho17.base (row := nrow) hW14.le).wk kw3 hW18.ok) (ho21.base (row := nrow) hW18.le) rfl) hg4 st4) ho25 rfl) hg5 st5), rfl, ho28⟩
  refine Ref.seq (B := G5 w0 F0) ?_ ?_
  · refine Ref.region (fun s ρ w s' h hr => ?_); obtain ⟨F, hW, g5, g6, h0, h1, p5, h5, p6, h6⟩ := h; obtain ⟨v29, hl30⟩ := LiesAt.v (h5).at_; refine ol_v (e_ld ty_27 hl30 p5) rfl ?_; refine ol_m h1 ?_; obtain ⟨x31, hx31, hr⟩ := bind_some' hr; refine ol_e (f_call [v29, .string s.part_1] fn_16 (lcons rfl (lcons rfl rfl)) (trigram_Candidates.calls hW.ok hl30.val s.part_1 hx31)) rfl rfl ?_; rintro _ w32 ⟨Fz33, v34, v36, rfl, kw1, hk35, hk37⟩; have hW39 := hW.trans kw1; have st1 := kw1.stp hW.ok; refine ol_m rfl ?_; refine ol_v (e_ext _ rfl rfl) rfl ?_; refine ol_v (e_ext _ rfl rfl) rfl ?_; refine ol_e (f_alloc zer_29 hW39) rfl rfl ?_; rintro _ w41 ⟨g40, rfl, kw2, ho42⟩; have hW43 := hW39.trans kw2; have st2 := kw2.stp hW39.ok; obtain ⟨Fz44, hWz45, st3, hF3, hz46⟩ := (((hk35.base (row := nrow) hW.le).wk kw2 hW39.ok)).frozen hW43; refine ol_a rfl ?_; refine ol_eN (f_stB hWz45 ((ho42.base (row := nrow) hW39.le).frz (apart_bo (ho42.base (row := nrow) hW39.le) ((hk35.base (row := nrow) hW.le).wk kw2 hW39.ok) rfl).symm hF3 st3) (FldS.whole _) ty_29 (hk37.keep (st2.trans st3)) rfl rfl) rfl ?_; rintro - w47 ⟨hW48, ho49, hg4, st4⟩; have z1 := (h5.wk kw1 hW.ok).wk kw2 hW39.ok; have z2 := h6.wk kw1 hW.ok; exact ol_fin hr ⟨Fz44, hW48, g5, g6, g40, (h0.keep (st1.trans (st2.trans (st3.trans st4)))), h1, p5, ((z1.frz (apart_bo z1 ((hk35.base (row := nrow) hW.le).wk kw2 hW39.ok) rfl).symm hF3 st3).mut (apart_bb ((ho42.base (row := nrow) hW39.le).frz (apart_bo (ho42.base (row := nrow) hW39.le) ((hk35.base (row := nrow) hW.le).wk kw2 hW39.ok) rfl).symm hF3 st3) (z1.frz (apart_bo z1 ((hk35.base (row := nrow) hW.le).wk kw2 hW39.ok) rfl).symm hF3 st3) rfl) hg4 st4), p6, (((z2.wk kw2 hW39.ok).frz (apart_bo (z2.wk kw2 hW39.ok) ((hk35.base (row := nrow) hW.le).wk kw2 hW39.ok) rfl).symm hF3 st3).mut (Apart.base (fun _ e_ => by cases e_; exact ho42.ge) z2.ltw) hg4 st4), (hz46.keep st4), rfl, ho49, (Apart.base (fun _ e_ => by cases e_; exact ho42.ge) z2.ltw).symm⟩
  refine Ref.seq (B := G8 w0 F0) ?_ ?_
  · refine Ref.seq (B := G6 w0 F0) ?_ ?_
    · refine Ref.region (fun s ρ w s' h hr => ?_); obtain ⟨F, hW, g5, g6, g8, h0, h1, p5, h5, p6, h6, h7, p8, h8, a6b_8b⟩ := h; refine ol_v (e_fa fa_29_0 p6) rfl ?_; refine ol_v (e_ld ty_3 (LiesV.int ((h6).at_.fld fl_Fault_0)) rfl) rfl ?_; refine ol_v (e_neq rfl rfl) rfl ?_; refine ol_cutA 5 26 30 (fun ρ' w' => w = w' ∧ ρ' 30 = .bool ((!decide (s.f_6.Code = (0 : Int))) || (!decide (s.g_8.Code = (0 : Int))))) rfl ?_ ?_
      · by_cases hb50 : (!decide (s.f_6.Code = (0 : Int))) = true
        · refine ol_m rfl ?_; refine ol_not rfl rfl rfl (congrArg Value.bool hb50) rfl ?_; refine ol_not rfl rfl rfl (congrArg Value.bool hb50) rfl ?_; refine ol_not rfl rfl rfl (congrArg Value.bool hb50) rfl ?_; refine ol_v (e_pick true _ (congrArg Value.bool hb50) rfl) rfl ?_; exact ol_nil ⟨⟨rfl, (bv_or_t hb50)⟩, (Agr.refl _ _ _).u.u.u.u.u⟩
        · have hb51 := Bool.eq_false_iff.mpr hb50; refine ol_m rfl ?_; refine ol_yes rfl rfl (congrArg Value.bool hb51) ?_; refine ol_v (e_fa fa_29_0 p8) rfl ?_; refine ol_yes rfl rfl (congrArg Value.bool hb51) ?_; refine ol_v (e_ld ty_3 (LiesV.int ((h8).at_.fld fl_Fault_0)) rfl) rfl ?_; refine ol_yes rfl rfl (congrArg Value.bool hb51) ?_; refine ol_v (e_neq rfl rfl) rfl ?_; refine ol_v (e_pick false _ (congrArg Value.bool hb51) rfl) rfl ?_; exact ol_nil ⟨⟨rfl, (bv_or_f hb51)⟩, (Agr.refl _ _ _).u.u.u.u.u⟩
      rintro ρ52 _ ⟨⟨rfl, hp52⟩, hAg52⟩; exact ol_fin hr ⟨F, hW, g5, g6, (SlR.eqv (hAg52 0 rfl) h0), ((hAg52 1 rfl).trans h1), ((hAg52 5 rfl).trans p5), h5, ((hAg52 6 rfl).trans p6), h6, (SlR.eqv (hAg52 7 rfl) h7), hp52⟩
    refine Ref.condP (b := fun s => s.t_30) (L := G7 w0 F0) (K := G8 w0 F0) ?_ ?_ ?_
    · rintro s ρ w ⟨F, hW, g5, g6, h0, h1, p5, h5, p6, h6, h7, h30⟩; exact ⟨h30, ⟨F, hW, g5, g6, p5, h5, p6, h6⟩, F, hW, h0, h1, h7⟩
    · refine Ref.seq (B := G3 w0 F0) ?_ ?_
      · refine Ref.region (fun s ρ w s' h hr => ?_); obtain ⟨F, hW, g5, g6, p5, h5, p6, h6⟩ := h; refine ol_v (e_fa fa_29_0 p6) rfl ?_; refine ol_v (e_ld ty_3 (LiesV.int ((h6).at_.fld fl_Fault_0)) rfl) rfl ?_; refine ol_v (e_eql rfl rfl) rfl ?_; obtain ⟨x63, hx64, hr⟩ := bind_some' hr; refine ol_cutA 5 34 38 (fun ρ' w' => ∃ F', Wk nrow w F F' w' ∧ ρ' 38 = .bool x63) rfl ?_ ?_
        · by_cases hb53 : (decide (s.f_6.Code = (0 : Int))) = true
          · have hr := hx64; rw [if_pos hb53] at hr; refine ol_m rfl ?_; refine ol_not rfl rfl rfl (congrArg Value.bool hb53) rfl ?_; refine ol_not rfl rfl rfl (congrArg Value.bool hb53) rfl ?_; refine ol_not rfl rfl rfl (congrArg Value.bool hb53) rfl ?_; refine ol_v (e_pick true _ (congrArg Value.bool hb53) rfl) rfl ?_; exact ol_nil ⟨⟨_, Wk.refl hW.ok, (congrArg Value.bool (Option.some.inj hr))⟩, (Agr.refl _ _ _).u.u.u.u.u⟩
          · have hb54 := Bool.eq_false_iff.mpr hb53; have hr := hx64; rw [if_neg hb53] at hr; refine ol_m rfl ?_; refine ol_yes rfl rfl (congrArg Value.bool hb54) ?_; obtain ⟨v55, hl56⟩ := LiesAt.v (h5).at_; refine ol_v (e_ld ty_27 hl56 p5) rfl ?_; refine ol_yes rfl rfl (congrArg Value.bool hb54) ?_; refine ol_v (e_bld (cells := #[.slice none 0 0, (Value.slice none 0 0)]) bld_27 (vs := []) rfl rfl) rfl ?_; have hb57 : Val k_TrigramIndex_r F w (.agg #[.slice none 0 0, (Value.slice none 0 0)]) (⟨[], (Value.slice none 0 0)⟩ : TrigramIndex_r) := mk_TrigramIndex_r (val_sl (SlR.nil _ _ _)) (OwnV.raw (OwnV.nil k_Posting 55 (Bs w0 nrow) F w)); refine ol_yes rfl rfl (congrArg Value.bool hb54) ?_; obtain ⟨x58, hx58, hr⟩ := bind_some' hr; refine ol_e (f_call [v55, .agg #[.slice none 0 0, (Value.slice none 0 0)]] fn_12 (lcons rfl (lcons rfl rfl)) (ref4_Indexes.calls hW.ok hl56.val (un_TrigramIndex hb57 (SlR.nil _ _ _)) hx58)) rfl rfl ?_; rintro _ w59 ⟨Fz60, rfl, kw1⟩; have hW62 := hW.trans kw1; have st1 := kw1.stp hW.ok; refine ol_v (e_pick false _ (congrArg Value.bool hb54) rfl) rfl ?_; exact ol_nil ⟨⟨_, kw1, (congrArg Value.bool (Option.some.inj hr))⟩, (Agr.refl _ _ _).u.u.u.u.u⟩
        rintro ρ64 w65 ⟨⟨Fz66, kw1, hp64⟩, hAg64⟩; have hW67 := hW.trans kw1; have st1 := kw1.stp hW.ok; refine ol_a hp64 ?_; exact ol_fin hr ⟨Fz66, hW67, rfl⟩
      exact Ref.ret (fun s ρ w h => ⟨s, rfl, h⟩)
    · exact Ref.skip
  refine Ref.seq (B := G2 w0 F0) ?_ ?_
  · refine Ref.seq (B := G9 w0 F0) ?_ ?_
    · refine Ref.region (fun s ρ w s' h hr => ?_); obtain ⟨F, hW, h0, h1, h7⟩ := h; refine ol_a rfl ?_; exact ol_fin hr ⟨F, hW, h0, h1, h7, rfl⟩
    refine Ref.block ?_; refine Ref.loop ?_; refine Ref.seq (B := G9 w0 F0) ?_ ?_
    · refine Ref.seq (B := G10 w0 F0) ?_ ?_
      · refine Ref.region (fun s ρ w s' h hr => ?_); obtain ⟨F, hW, h0, h1, h7, h9⟩ := h; refine ol_m h9 ?_; refine ol_m rfl ?_; obtain ⟨A68, c69, e70, hc71, R72⟩ := id h0; refine ol_v (e_len (SlT.sl sl_22) e70) rfl ?_; refine ol_v (e_lss rfl rfl) rfl ?_; exact ol_fin hr ⟨F, hW, h0, h1, h7, h9, rfl⟩
      refine Ref.condP (b := fun s => s.t_42) (L := G9 w0 F0) (K := G2 w0 F0) ?_ ?_ ?_
      · rintro s ρ w ⟨F, hW, h0, h1, h7, h9, h42⟩; exact ⟨h42, ⟨F, hW, h0, h1, h7, h9⟩, F, hW⟩
      · exact Ref.skip
      · exact Ref.exit (fun s ρ w h => h)
    refine Ref.seq (B := G9 w0 F0) ?_ ?_
    · refine Ref.block ?_; refine Ref.seq (B := G11 w0 F0) ?_ ?_
      · refine Ref.region (fun s ρ w s' h hr => ?_); obtain ⟨F, hW, h0, h1, h7, h9⟩ := h; refine ol_m rfl ?_; refine ol_m h9 ?_; obtain ⟨x73, hx73, hr⟩ := bind_some' hr; obtain ⟨A74, c75, e76, hc77, R78⟩ := id h0; obtain ⟨b79, o80, hA81, L82⟩ := Row.at_ R78 hx73; refine ol_v (e_ix (SlT.sl sl_22) (SlT.sz sl_22) hA81 hx73 e76 rfl) rfl ?_; refine ol_v (e_ld ty_9 (LiesV.str L82.at_) rfl) rfl ?_; refine ol_m h1 ?_; obtain ⟨x83, hx83, hr⟩ := bind_some' hr; refine ol_e (f_call [.string x73, .string s.part_1] fn_21 (lcons rfl (lcons rfl rfl)) (ref4_Contains.calls hW.ok x73 s.part_1 hx83)) rfl rfl ?_; rintro _ w84 ⟨Fz85, rfl, kw1⟩; have hW87 := hW.trans kw1; have st1 := kw1.stp hW.ok; obtain ⟨x95, hx96, hr⟩ := bind_some' hr; refine ol_cutA 6 51 56 (fun ρ' w' => ∃ F', Wk nrow w84 Fz85 F' w' ∧ ρ' 56 = .bool x95) rfl ?_ ?_
        · by_cases hb88 : x83 = true
          · have hr := hx96; rw [if_pos hb88] at hr; refine ol_m rfl ?_; refine ol_yes rfl rfl (congrArg Value.bool hb88) ?_; refine ol_m rfl ?_; refine ol_yes rfl rfl (congrArg Value.bool hb88) ?_; refine ol_m h9 ?_; refine ol_yes rfl rfl (congrArg Value.bool hb88) ?_; obtain ⟨x90, hx90, hr⟩ := bind_some' hr; refine ol_e (f_call [(ρ 7), .int .i64 s.i_9] fn_22 (lcons rfl (lcons rfl rfl)) (ref3_Has.calls hW87.ok (h7.keep st1) s.i_9 hx90)) rfl rfl ?_; rintro _ w91 ⟨Fz92, rfl, kw2⟩; have hW94 := hW87.trans kw2; have st2 := kw2.stp hW87.ok; refine ol_yes rfl rfl (congrArg Value.bool hb88) ?_; refine ol_v (e_not_ rfl) rfl ?_; refine ol_v (e_pick true _ (congrArg Value.bool hb88) rfl) rfl ?_; exact ol_nil ⟨⟨_, kw2, (congrArg Value.bool (Option.some.inj hr))⟩, (Agr.refl _ _ _).u.u.u.u.u.u⟩
          · have hb89 := Bool.eq_false_iff.mpr hb88; have hr := hx96; rw [if_neg hb88] at hr; refine ol_m rfl ?_; refine ol_not rfl rfl rfl (congrArg Value.bool hb89) rfl ?_; refine ol_not rfl rfl rfl (congrArg Value.bool hb89) rfl ?_; refine ol_not rfl rfl rfl (congrArg Value.bool hb89) rfl ?_; refine ol_not rfl rfl rfl (congrArg Value.bool hb89) rfl ?_; refine ol_v (e_pick false _ (congrArg Value.bool hb89) rfl) rfl ?_; exact ol_nil ⟨⟨_, Wk.refl hW87.ok, (congrArg Value.bool (Option.some.inj hr))⟩, (Agr.refl _ _ _).u.u.u.u.u.u⟩
        rintro ρ96 w97 ⟨⟨Fz98, kw2, hp96⟩, hAg96⟩; have hW99 := hW87.trans kw2; have st2 := kw2.stp hW87.ok; exact ol_fin hr ⟨Fz98, hW99, (SlR.eqv (hAg96 0 rfl) (h0.keep (st1.trans st2))), ((hAg96 1 rfl).trans h1), (SlR.eqv (hAg96 7 rfl) (h7.keep (st1.trans st2))), ((hAg96 9 rfl).trans h9), hp96⟩
      refine Ref.condP (b := fun s => s.t_56) (L := G2 w0 F0) (K := G9 w0 F0) ?_ ?_ ?_
      · rintro s ρ w ⟨F, hW, h0, h1, h7, h9, h56⟩; exact ⟨h56, ⟨F, hW⟩, F, hW, h0, h1, h7, h9⟩
      · refine Ref.seq (B := G3 w0 F0) ?_ ?_
        · refine Ref.region (fun s ρ w s' h hr => ?_); obtain ⟨F, hW⟩ := h; refine ol_a rfl ?_; exact ol_fin hr ⟨F, hW, rfl⟩
        exact Ref.ret (fun s ρ w h => ⟨s, rfl, h⟩)
      · exact Ref.skip
    refine Ref.region (fun s ρ w s' h hr => ?_); obtain ⟨F, hW, h0, h1, h7, h9⟩ := h; refine ol_m h9 ?_; refine ol_v (e_add rfl rfl) rfl ?_; refine ol_a rfl ?_; exact ol_fin hr ⟨F, hW, h0, h1, h7, rfl⟩
  refine Ref.seq (B := G3 w0 F0) ?_ ?_
  · refine Ref.region (fun s ρ w s' h hr => ?_); obtain ⟨F, hW⟩ := h; refine ol_a rfl ?_; exact ol_fin hr ⟨F, hW, rfl⟩
  exact Ref.ret (fun s ρ w h => ⟨s, rfl, h⟩)
def post (w : World) (F : BSet) (r : R) (v : Value) (w' : World) : Prop := ∃ (F' : BSet), v = .bool r ∧ Wk nrow w F F' w'
theorem calls {w : World} {F : BSet} (hok : ∀ b, F b → b < w.heap.size) {v0 : Value} {a0 : (List ByteArray)} (h0 : SlR kStr F w v0 a0) (a1 : ByteArray) {r : R} (hf : f a0 a1 = some r) : Calls Try.prog 5 #[v0, .string a1] w fun e w' => ∃ v, e = .returned v ∧ post w F r v w' := by
  obtain ⟨c, hc, href⟩ := ref w F; refine calls_of_ref (args := [v0, .string a1]) _ Try.func5 hc rfl rfl href ?_ (retOf_some hf) ?_
  · exact ⟨F, Wk.refl hok, h0, rfl⟩
  · rintro ρ w' a ⟨s, rfl, F', hW, h4⟩ hF; refine ⟨_, run_results (rs := [.tmp 4]) rfl hF (vs := [ρ 4]) (⟨_, rfl, rfl⟩), ?_⟩; have hv : resVal [ρ 4] = .bool s.t_4 := by rw [h4]; rfl
    exact ⟨F', hv, hW⟩
end
end law4_TrigramNoFalseNegatives

end Go.Proofs.Ytoiafcpnhhplnaa
