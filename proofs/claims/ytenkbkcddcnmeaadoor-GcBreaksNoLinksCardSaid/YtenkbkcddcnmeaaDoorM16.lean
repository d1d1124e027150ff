/- The machine's calls come to these plain functions (written by a program, wip/fx/gen.py). -/
import Derived.Test.YtenkbkcddcnmeaaDoorPA
import Derived.Test.YtenkbkcddcnmeaaDoorNm
import Derived.Test.YtenkbkcddcnmeaaDoorM2
import Derived.Test.YtenkbkcddcnmeaaDoorM4
import Derived.Test.YtenkbkcddcnmeaaDoorM7
import Derived.Test.YtenkbkcddcnmeaaDoorM10
import Derived.Test.YtenkbkcddcnmeaaDoorSl
import Derived.Test.YtenkbkcddcnmeaaDoorIn
import Derived.Test.YtenkbkcddcnmeaaDoorIt
import Derived.Test.YtenkbkcddcnmeaaDoorFx17
namespace Go.Proofs.YtenkbkcddcnmeaaDoor
open Go.Fx Go.RowKit
set_option linter.unusedVariables false

namespace law4_GcBreaksNoLinks
section
abbrev c3 (ρ : Env) (g4 : Nat) (w0 w : World) (F : BSet) (s : S) (X : Prop) : Prop := ρ 4 = .pointer (some ⟨g4, 0, none⟩) ∧ Box k_ObjectStore 24 (Bs w0 nrow) F w g4 s.s_4 ∧ X
abbrev c7 (ρ : Env) (g9 : Nat) (w0 w : World) (F : BSet) (s : S) (X : Prop) : Prop := ρ 9 = .pointer (some ⟨g9, 0, none⟩) ∧ Box k_ObjectStore 24 (Bs w0 nrow) F w g9 s.t_9 ∧ X
abbrev c12 (F : BSet) (w : World) (ρ : Env) (s : S) (X : Prop) : Prop := SlR (kInt .i64) F w (ρ 12) s.m_12 ∧ X
def G0 : GT S := fun w0 F0 s ρ w => ∃ F, Wk nrow w0 F0 F w ∧ GL 2 F w ∧ Val k_ObjectStore F w (ρ 0) s.s_0 ∧ Val k_RefStore F w (ρ 1) s.r_1 ∧ SlR k_Lease F w (ρ 2) s.leases_2 ∧ ρ 3 = .int .i64 s.time_3
def G1 : GT S := fun w0 F0 s ρ w => ∃ F, Wk nrow w0 F0 F w ∧ ∃ g4 g5, GL 2 F w ∧ SlR k_Lease F w (ρ 2) s.leases_2 ∧ ρ 3 = .int .i64 s.time_3 ∧ c3 ρ g4 w0 w F s (ρ 5 = .pointer (some ⟨g5, 0, none⟩) ∧ Box k_RefStore 27 (Bs w0 nrow) F w g5 s.r_5)
def G2 : GT S := fun w0 F0 s ρ w => ∃ F, Wk nrow w0 F0 F w ∧ ∃ g4 g5, GL 2 F w ∧ SlR k_Lease F w (ρ 2) s.leases_2 ∧ ρ 3 = .int .i64 s.time_3 ∧ c3 ρ g4 w0 w F s (ρ 5 = .pointer (some ⟨g5, 0, none⟩) ∧ Box k_RefStore 27 (Bs w0 nrow) F w g5 s.r_5 ∧ ρ 16 = .bool s.t_16)
def G3 : GT S := fun w0 F0 s ρ w => ∃ F, Wk nrow w0 F0 F w ∧ GL 2 F w
def G4 : GT S := fun w0 F0 s ρ w => ∃ F, Wk nrow w0 F0 F w ∧ GL 2 F w ∧ ρ 8 = .bool s.t_8
def G5 : GT S := fun w0 F0 s ρ w => ∃ F, Wk nrow w0 F0 F w ∧ ∃ g4 g9 g11, GL 2 F w ∧ c3 ρ g4 w0 w F s (c7 ρ g9 w0 w F s (SlR (kInt .i64) F w (ρ 10) s.gone_10 ∧ ρ 11 = .pointer (some ⟨g11, 0, none⟩) ∧ Box k_Fault 32 (Bs w0 nrow) F w g11 s.f_11 ∧ Apart (some g4) (some g9)))
def G6 : GT S := fun w0 F0 s ρ w => ∃ F, Wk nrow w0 F0 F w ∧ ∃ g4 g9, GL 2 F w ∧ c3 ρ g4 w0 w F s (c7 ρ g9 w0 w F s (SlR (kInt .i64) F w (ρ 10) s.gone_10 ∧ ρ 28 = .bool s.t_28 ∧ Apart (some g4) (some g9)))
def G7 : GT S := fun w0 F0 s ρ w => ∃ F, Wk nrow w0 F0 F w ∧ ∃ g9, GL 2 F w ∧ c7 ρ g9 w0 w F s (SlR (kInt .i64) F w (ρ 10) s.gone_10)
def G8 : GT S := fun w0 F0 s ρ w => ∃ F, Wk nrow w0 F0 F w ∧ ∃ g4 g9, GL 2 F w ∧ c3 ρ g4 w0 w F s (c7 ρ g9 w0 w F s (Apart (some g4) (some g9)))
def G9 : GT S := fun w0 F0 s ρ w => ∃ F, Wk nrow w0 F0 F w ∧ ∃ g4 g13, GL 2 F w ∧ c3 ρ g4 w0 w F s (c12 F w ρ s (ρ 13 = .pointer (some ⟨g13, 0, none⟩) ∧ Box k_Fault 32 (Bs w0 nrow) F w g13 s.g_13))
def G10 : GT S := fun w0 F0 s ρ w => ∃ F, Wk nrow w0 F0 F w ∧ ∃ g4, GL 2 F w ∧ c3 ρ g4 w0 w F s (c12 F w ρ s (ρ 43 = .bool s.t_43))
def G11 : GT S := fun w0 F0 s ρ w => ∃ F, Wk nrow w0 F0 F w ∧ ∃ g4, GL 2 F w ∧ c3 ρ g4 w0 w F s (SlR (kInt .i64) F w (ρ 12) s.m_12)
def G12 : GT S := fun w0 F0 s ρ w => ∃ F, Wk nrow w0 F0 F w ∧ ∃ g4, GL 2 F w ∧ c3 ρ g4 w0 w F s (c12 F w ρ s (ρ 14 = .int .i64 s.i_14))
def G13 : GT S := fun w0 F0 s ρ w => ∃ F, Wk nrow w0 F0 F w ∧ ∃ g4, GL 2 F w ∧ c3 ρ g4 w0 w F s (c12 F w ρ s (ρ 14 = .int .i64 s.i_14 ∧ ρ 47 = .bool s.t_47))
def G14 : GT S := fun w0 F0 s ρ w => ∃ F, Wk nrow w0 F0 F w ∧ ∃ g4, GL 2 F w ∧ c3 ρ g4 w0 w F s (c12 F w ρ s (ρ 14 = .int .i64 s.i_14 ∧ ρ 56 = .bool s.t_56))
set_option maxHeartbeats 4000000 in
set_option maxRecDepth 20000 in
theorem ref (w0 : World) (F0 : BSet) : ∃ c, Tryd.f7.body = some c ∧ Ref Tryd.prog 57 c (G0 w0 F0) body (fun _ _ _ => False) (fun _ _ _ _ => False) (fun r ρ w => ∃ s, retv s = r ∧ G4 w0 F0 s ρ w) := by
  refine ⟨_, rfl, ?_⟩; unfold body; refine Ref.seq (B := G1 w0 F0) ?_ ?_
  · refine Ref.region (fun s ρ w s' h hr => ?_); obtain ⟨F, hW, hG, h0, h1, h2, h3⟩ := h; refine ol_e (f_box hW rfl h0) rfl rfl ?_; rintro _ w7 ⟨g6, rfl, kw1, ho8⟩; have hW9 := hW.trans kw1; have st1 := kw1.stp hW.ok; refine ol_e (f_box hW9 rfl (h1.keep st1)) rfl rfl ?_; rintro _ w16 ⟨g15, rfl, kw2, ho17⟩; have hW18 := hW9.trans kw2; have st2 := kw2.stp hW9.ok; refine ol_a rfl ?_; exact ol_fin hr ⟨F, hW18, g6, g15, (hG.keep (st1.trans st2)), (h2.keep (st1.trans st2)), h3, rfl, ((ho8.base (row := nrow) hW.le).wk kw2 hW9.ok), rfl, (ho17.base (row := nrow) hW9.le)⟩
  refine Ref.seq (B := G1 w0 F0) ?_ ?_
  · refine Ref.seq (B := G2 w0 F0) ?_ ?_
    · refine Ref.region (fun s ρ w s' h hr => ?_); obtain ⟨F, hW, g4, g5, hG, h2, h3, p4, h4, p5, h5⟩ := h; obtain ⟨x19, hx19, hr⟩ := bind_some' hr; refine ol_e (f_call [] fn_9 rfl (law4_gcExample.calls hW.ok hG hx19)) rfl rfl ?_; rintro _ w20 ⟨Fz21, rfl, kw1⟩; have hW23 := hW.trans kw1; have st1 := kw1.stp hW.ok; refine ol_v (e_not_ rfl) rfl ?_; exact ol_fin hr ⟨Fz21, hW23, g4, g5, (hG.keep st1), (h2.keep st1), h3, p4, (h4.wk kw1 hW.ok), p5, (h5.wk kw1 hW.ok), rfl⟩
    refine Ref.condP (b := fun s => s.t_16) (L := G3 w0 F0) (K := G1 w0 F0) ?_ ?_ ?_
    · rintro s ρ w ⟨F, hW, g4, g5, hG, h2, h3, p4, h4, p5, h5, h16⟩; exact ⟨h16, ⟨F, hW, hG⟩, F, hW, g4, g5, hG, h2, h3, p4, h4, p5, h5⟩
    · refine Ref.seq (B := G4 w0 F0) ?_ ?_
      · refine Ref.region (fun s ρ w s' h hr => ?_); obtain ⟨F, hW, hG⟩ := h; refine ol_a rfl ?_; exact ol_fin hr ⟨F, hW, hG, rfl⟩
      exact Ref.ret (fun s ρ w h => ⟨s, rfl, h⟩)
    · exact Ref.skip
  refine Ref.seq (B := G5 w0 F0) ?_ ?_
  · refine Ref.region (fun s ρ w s' h hr => ?_); obtain ⟨F, hW, g4, g5, hG, h2, h3, p4, h4, p5, h5⟩ := h; obtain ⟨v24, hl25⟩ := LiesAt.v (h4).at_; refine ol_v (e_ld ty_24 hl25 p4) rfl ?_; obtain ⟨v26, hl27⟩ := LiesAt.v (h5).at_; refine ol_v (e_ld ty_27 hl27 p5) rfl ?_; refine ol_m rfl ?_; refine ol_m h3 ?_; obtain ⟨x28, hx28, hr⟩ := bind_some' hr; refine ol_e (f_call [v24, v26, (ρ 2), .int .i64 s.time_3] fn_10 (lcons rfl (lcons rfl (lcons rfl (lcons rfl rfl)))) (gc_Collect.calls hW.ok hG hl25.val hl27.val h2 s.time_3 hx28)) rfl rfl ?_; rintro _ w29 ⟨Fz30, v31, v33, v35, rfl, kw1, hk32, hk34, hk36⟩; have hW38 := hW.trans kw1; have st1 := kw1.stp hW.ok; refine ol_m rfl ?_; refine ol_v (e_ext _ rfl rfl) rfl ?_; refine ol_v (e_ext _ rfl rfl) rfl ?_; refine ol_v (e_ext _ rfl rfl) rfl ?_; refine ol_e (f_alloc zer_24 hW38) rfl rfl ?_; rintro _ w40 ⟨g39, rfl, kw2, ho41⟩; have hW42 := hW38.trans kw2; have st2 := kw2.stp hW38.ok; refine ol_e (f_alloc zer_32 hW42) rfl rfl ?_; rintro _ w45 ⟨g44, rfl, kw3, ho46⟩; have hW47 := hW42.trans kw3; have st3 := kw3.stp hW42.ok; refine ol_eN (f_stB hW47 ((ho41.base (row := nrow) hW38.le).wk kw3 hW42.ok) (FldS.whole _) ty_24 (hk32.keep (st2.trans st3)) rfl rfl) rfl ?_; rintro - w48 ⟨hW49, ho50, hg4, st4⟩; obtain ⟨Fz51, hWz52, st5, hF5, hz53⟩ := (((((hk34.base (row := nrow) hW.le).wk kw2 hW38.ok).wk kw3 hW42.ok).mut (apart_bo ((ho41.base (row := nrow) hW38.le).wk kw3 hW42.ok) (((hk34.base (row := nrow) hW.le).wk kw2 hW38.ok).wk kw3 hW42.ok) rfl) hg4 st4)).frozen hW49; refine ol_a rfl ?_; refine ol_eN (f_stB hWz52 (((ho46.base (row := nrow) hW42.le).mut (apart_bb ((ho41.base (row := nrow) hW38.le).wk kw3 hW42.ok) (ho46.base (row := nrow) hW42.le) rfl) hg4 st4).frz (apart_bo ((ho46.base (row := nrow) hW42.le).mut (apart_bb ((ho41.base (row := nrow) hW38.le).wk kw3 hW42.ok) (ho46.base (row := nrow) hW42.le) rfl) hg4 st4) ((((hk34.base (row := nrow) hW.le).wk kw2 hW38.ok).wk kw3 hW42.ok).mut (apart_bo ((ho41.base (row := nrow) hW38.le).wk kw3 hW42.ok) (((hk34.base (row := nrow) hW.le).wk kw2 hW38.ok).wk kw3 hW42.ok) rfl) hg4 st4) rfl).symm hF5 st5) (FldS.whole _) ty_32 (hk36.keep (st2.trans (st3.trans (st4.trans st5)))) rfl rfl) rfl ?_; rintro - w54 ⟨hW55, ho56, hg6, st6⟩; have z2 := h4.wk kw1 hW.ok; have z1 := (z2.wk kw2 hW38.ok).wk kw3 hW42.ok; exact ol_fin hr ⟨Fz51, hW55, g4, g39, g44, (hG.keep (st1.trans (st2.trans (st3.trans (st4.trans (st5.trans st6)))))), p4, (((z1.mut (Apart.base (fun _ e_ => by cases e_; exact ho41.ge) z2.ltw) hg4 st4).frz (apart_bo (z1.mut (Apart.base (fun _ e_ => by cases e_; exact ho41.ge) z2.ltw) hg4 st4) ((((hk34.base (row := nrow) hW.le).wk kw2 hW38.ok).wk kw3 hW42.ok).mut (apart_bo ((ho41.base (row := nrow) hW38.le).wk kw3 hW42.ok) (((hk34.base (row := nrow) hW.le).wk kw2 hW38.ok).wk kw3 hW42.ok) rfl) hg4 st4) rfl).symm hF5 st5).mut (apart_bb (((ho46.base (row := nrow) hW42.le).mut (apart_bb ((ho41.base (row := nrow) hW38.le).wk kw3 hW42.ok) (ho46.base (row := nrow) hW42.le) rfl) hg4 st4).frz (apart_bo ((ho46.base (row := nrow) hW42.le).mut (apart_bb ((ho41.base (row := nrow) hW38.le).wk kw3 hW42.ok) (ho46.base (row := nrow) hW42.le) rfl) hg4 st4) ((((hk34.base (row := nrow) hW.le).wk kw2 hW38.ok).wk kw3 hW42.ok).mut (apart_bo ((ho41.base (row := nrow) hW38.le).wk kw3 hW42.ok) (((hk34.base (row := nrow) hW.le).wk kw2 hW38.ok).wk kw3 hW42.ok) rfl) hg4 st4) rfl).symm hF5 st5) ((z1.mut (Apart.base (fun _ e_ => by cases e_; exact ho41.ge) z2.ltw) hg4 st4).frz (apart_bo (z1.mut (Apart.base (fun _ e_ => by cases e_; exact ho41.ge) z2.ltw) hg4 st4) ((((hk34.base (row := nrow) hW.le).wk kw2 hW38.ok).wk kw3 hW42.ok).mut (apart_bo ((ho41.base (row := nrow) hW38.le).wk kw3 hW42.ok) (((hk34.base (row := nrow) hW.le).wk kw2 hW38.ok).wk kw3 hW42.ok) rfl) hg4 st4) rfl).symm hF5 st5) rfl) hg6 st6), rfl, ((ho50.frz (apart_bo ho50 ((((hk34.base (row := nrow) hW.le).wk kw2 hW38.ok).wk kw3 hW42.ok).mut (apart_bo ((ho41.base (row := nrow) hW38.le).wk kw3 hW42.ok) (((hk34.base (row := nrow) hW.le).wk kw2 hW38.ok).wk kw3 hW42.ok) rfl) hg4 st4) rfl).symm hF5 st5).mut (apart_bb (((ho46.base (row := nrow) hW42.le).mut (apart_bb ((ho41.base (row := nrow) hW38.le).wk kw3 hW42.ok) (ho46.base (row := nrow) hW42.le) rfl) hg4 st4).frz (apart_bo ((ho46.base (row := nrow) hW42.le).mut (apart_bb ((ho41.base (row := nrow) hW38.le).wk kw3 hW42.ok) (ho46.base (row := nrow) hW42.le) rfl) hg4 st4) ((((hk34.base (row := nrow) hW.le).wk kw2 hW38.ok).wk kw3 hW42.ok).mut (apart_bo ((ho41.base (row := nrow) hW38.le).wk kw3 hW42.ok) (((hk34.base (row := nrow) hW.le).wk kw2 hW38.ok).wk kw3 hW42.ok) rfl) hg4 st4) rfl).symm hF5 st5) (ho50.frz (apart_bo ho50 ((((hk34.base (row := nrow) hW.le).wk kw2 hW38.ok).wk kw3 hW42.ok).mut (apart_bo ((ho41.base (row := nrow) hW38.le).wk kw3 hW42.ok) (((hk34.base (row := nrow) hW.le).wk kw2 hW38.ok).wk kw3 hW42.ok) rfl) hg4 st4) rfl).symm hF5 st5) rfl) hg6 st6), (hz53.keep st6), rfl, ho56, (Apart.base (fun _ e_ => by cases e_; exact ho41.ge) z2.ltw).symm⟩
  refine Ref.seq (B := G8 w0 F0) ?_ ?_
  · refine Ref.seq (B := G6 w0 F0) ?_ ?_
    · refine Ref.region (fun s ρ w s' h hr => ?_); obtain ⟨F, hW, g4, g9, g11, hG, p4, h4, p9, h9, h10, p11, h11, a4b_9b⟩ := h; refine ol_v (e_fa fa_32_0 p11) rfl ?_; refine ol_v (e_ld ty_3 (LiesV.int ((h11).at_.fld fl_Fault_0)) rfl) rfl ?_; refine ol_v (e_neq rfl rfl) rfl ?_; exact ol_fin hr ⟨F, hW, g4, g9, hG, p4, h4, p9, h9, h10, rfl, a4b_9b⟩
    refine Ref.condP (b := fun s => s.t_28) (L := G7 w0 F0) (K := G8 w0 F0) ?_ ?_ ?_
    · rintro s ρ w ⟨F, hW, g4, g9, hG, p4, h4, p9, h9, h10, h28, a4b_9b⟩; exact ⟨h28, ⟨F, hW, g9, hG, p9, h9, h10⟩, F, hW, g4, g9, hG, p4, h4, p9, h9, a4b_9b⟩
    · refine Ref.seq (B := G4 w0 F0) ?_ ?_
      · refine Ref.region (fun s ρ w s' h hr => ?_); obtain ⟨F, hW, g9, hG, p9, h9, h10⟩ := h; refine ol_v (e_fa fa_24_0 p9) rfl ?_; obtain ⟨v57, hl58, hs59⟩ := LiesV.sl ((h9).at_.fld fl_ObjectStore_0); refine ol_v (e_ld ty_22 hl58 rfl) rfl ?_; obtain ⟨A60, c61, e62, hc63, R64⟩ := id hs59; refine ol_v (e_len (SlT.sl sl_22) e62) rfl ?_; refine ol_m rfl ?_; obtain ⟨A65, c66, e67, hc68, R69⟩ := id h10; refine ol_v (e_len (SlT.sl sl_30) e67) rfl ?_; refine ol_v (e_add rfl rfl) rfl ?_; refine ol_v (e_eql rfl rfl) rfl ?_; refine ol_a rfl ?_; exact ol_fin hr ⟨F, hW, hG, rfl⟩
      exact Ref.ret (fun s ρ w h => ⟨s, rfl, h⟩)
    · exact Ref.skip
  refine Ref.seq (B := G9 w0 F0) ?_ ?_
  · refine Ref.region (fun s ρ w s' h hr => ?_); obtain ⟨F, hW, g4, g9, hG, p4, h4, p9, h9, a4b_9b⟩ := h; obtain ⟨v70, hl71⟩ := LiesAt.v (h9).at_; refine ol_v (e_ld ty_24 hl71 p9) rfl ?_; obtain ⟨x72, hx72, hr⟩ := bind_some' hr; refine ol_e (f_call [v70] fn_21 (lcons rfl rfl) (gc_Missing.calls hW.ok hl71.val hx72)) rfl rfl ?_; rintro _ w73 ⟨Fz74, v75, v77, rfl, kw1, hk76, hk78⟩; have hW80 := hW.trans kw1; have st1 := kw1.stp hW.ok; refine ol_m rfl ?_; refine ol_v (e_ext _ rfl rfl) rfl ?_; refine ol_v (e_ext _ rfl rfl) rfl ?_; refine ol_e (f_alloc zer_32 hW80) rfl rfl ?_; rintro _ w82 ⟨g81, rfl, kw2, ho83⟩; have hW84 := hW80.trans kw2; have st2 := kw2.stp hW80.ok; obtain ⟨Fz85, hWz86, st3, hF3, hz87⟩ := (((hk76.base (row := nrow) hW.le).wk kw2 hW80.ok)).frozen hW84; refine ol_a rfl ?_; refine ol_eN (f_stB hWz86 ((ho83.base (row := nrow) hW80.le).frz (apart_bo (ho83.base (row := nrow) hW80.le) ((hk76.base (row := nrow) hW.le).wk kw2 hW80.ok) rfl).symm hF3 st3) (FldS.whole _) ty_32 (hk78.keep (st2.trans st3)) rfl rfl) rfl ?_; rintro - w88 ⟨hW89, ho90, hg4, st4⟩; have z3 := (h4.wk kw1 hW.ok).wk kw2 hW80.ok; exact ol_fin hr ⟨Fz85, hW89, g4, g81, (hG.keep (st1.trans (st2.trans (st3.trans st4)))), p4, ((z3.frz (apart_bo z3 ((hk76.base (row := nrow) hW.le).wk kw2 hW80.ok) rfl).symm hF3 st3).mut (apart_bb ((ho83.base (row := nrow) hW80.le).frz (apart_bo (ho83.base (row := nrow) hW80.le) ((hk76.base (row := nrow) hW.le).wk kw2 hW80.ok) rfl).symm hF3 st3) (z3.frz (apart_bo z3 ((hk76.base (row := nrow) hW.le).wk kw2 hW80.ok) rfl).symm hF3 st3) rfl) hg4 st4), (hz87.keep st4), rfl, ho90⟩
  refine Ref.seq (B := G11 w0 F0) ?_ ?_
  · refine Ref.seq (B := G10 w0 F0) ?_ ?_
    · refine Ref.region (fun s ρ w s' h hr => ?_); obtain ⟨F, hW, g4, g13, hG, p4, h4, h12, p13, h13⟩ := h; refine ol_v (e_fa fa_32_0 p13) rfl ?_; refine ol_v (e_ld ty_3 (LiesV.int ((h13).at_.fld fl_Fault_0)) rfl) rfl ?_; refine ol_v (e_neq rfl rfl) rfl ?_; exact ol_fin hr ⟨F, hW, g4, hG, p4, h4, h12, rfl⟩
    refine Ref.condP (b := fun s => s.t_43) (L := G3 w0 F0) (K := G11 w0 F0) ?_ ?_ ?_
    · rintro s ρ w ⟨F, hW, g4, hG, p4, h4, h12, h43⟩; exact ⟨h43, ⟨F, hW, hG⟩, F, hW, g4, hG, p4, h4, h12⟩
    · refine Ref.seq (B := G4 w0 F0) ?_ ?_
      · refine Ref.region (fun s ρ w s' h hr => ?_); obtain ⟨F, hW, hG⟩ := h; refine ol_a rfl ?_; exact ol_fin hr ⟨F, hW, hG, rfl⟩
      exact Ref.ret (fun s ρ w h => ⟨s, rfl, h⟩)
    · exact Ref.skip
  refine Ref.seq (B := G3 w0 F0) ?_ ?_
  · refine Ref.seq (B := G12 w0 F0) ?_ ?_
    · refine Ref.region (fun s ρ w s' h hr => ?_); obtain ⟨F, hW, g4, hG, p4, h4, h12⟩ := h; refine ol_a rfl ?_; exact ol_fin hr ⟨F, hW, g4, hG, p4, h4, h12, rfl⟩
    refine Ref.block ?_; refine Ref.loop ?_; refine Ref.seq (B := G12 w0 F0) ?_ ?_
    · refine Ref.seq (B := G13 w0 F0) ?_ ?_
      · refine Ref.region (fun s ρ w s' h hr => ?_); obtain ⟨F, hW, g4, hG, p4, h4, h12, h14⟩ := h; refine ol_m h14 ?_; refine ol_m rfl ?_; obtain ⟨A91, c92, e93, hc94, R95⟩ := id h12; refine ol_v (e_len (SlT.sl sl_30) e93) rfl ?_; refine ol_v (e_lss rfl rfl) rfl ?_; exact ol_fin hr ⟨F, hW, g4, hG, p4, h4, h12, h14, rfl⟩
      refine Ref.condP (b := fun s => s.t_47) (L := G12 w0 F0) (K := G3 w0 F0) ?_ ?_ ?_
      · rintro s ρ w ⟨F, hW, g4, hG, p4, h4, h12, h14, h47⟩; exact ⟨h47, ⟨F, hW, g4, hG, p4, h4, h12, h14⟩, F, hW, hG⟩
      · exact Ref.skip
      · exact Ref.exit (fun s ρ w h => h)
    refine Ref.seq (B := G12 w0 F0) ?_ ?_
    · refine Ref.block ?_; refine Ref.seq (B := G14 w0 F0) ?_ ?_
      · refine Ref.regionD 5 (by kernel_rfl) (by kernel_rfl) (fun s ρ w ⟨F, hW, g4, hG, p4, h4, h12, h14⟩ => ⟨F, hW.drewS, g4, hG.keep (sd hW), p4, h4.wk (Wk.drew (row := nrow) hW.ok) hW.ok, h12.keep (sd hW), h14⟩) (fun s ρ w s' h hr => ?_); obtain ⟨F, hW, g4, hG, p4, h4, h12, h14⟩ := h; obtain ⟨v96, hl97⟩ := LiesAt.v (h4).at_; refine ol_v (e_ld ty_24 hl97 p4) rfl ?_; refine ol_m rfl ?_; refine ol_m h14 ?_; obtain ⟨x98, hx98, hr⟩ := bind_some' hr; obtain ⟨A99, c100, e101, hc102, R103⟩ := id h12; obtain ⟨b104, o105, hA106, L107⟩ := Row.at_ R103 hx98; refine ol_v (e_ix (SlT.sl sl_30) (SlT.sz sl_30) hA106 hx98 e101 rfl) rfl ?_; refine ol_v (e_ld ty_3 (LiesV.int L107.at_) rfl) rfl ?_; obtain ⟨x108, hx108, hr⟩ := bind_some' hr; refine ol_e (f_call [v96, .int .i64 x98] fn_19 (lcons rfl (lcons rfl rfl)) (ref3_At.calls hW.ok hl97.val x98 hx108)) rfl rfl ?_; rintro _ w109 ⟨Fz110, rfl, kw1⟩; have hW112 := hW.trans kw1; have st1 := kw1.stp hW.ok; refine ol_v (e_geq rfl rfl) rfl ?_; exact ol_fin hr ⟨Fz110, hW112, g4, (hG.keep st1), p4, (h4.wk kw1 hW.ok), (h12.keep st1), h14, rfl⟩
      refine Ref.condP (b := fun s => s.t_56) (L := G3 w0 F0) (K := G12 w0 F0) ?_ ?_ ?_
      · rintro s ρ w ⟨F, hW, g4, hG, p4, h4, h12, h14, h56⟩; exact ⟨h56, ⟨F, hW, hG⟩, F, hW, g4, hG, p4, h4, h12, h14⟩
      · refine Ref.seq (B := G4 w0 F0) ?_ ?_
        · refine Ref.region (fun s ρ w s' h hr => ?_); obtain ⟨F, hW, hG⟩ := h; refine ol_a rfl ?_; exact ol_fin hr ⟨F, hW, hG, rfl⟩
        exact Ref.ret (fun s ρ w h => ⟨s, rfl, h⟩)
      · exact Ref.skip
    refine Ref.region (fun s ρ w s' h hr => ?_); obtain ⟨F, hW, g4, hG, p4, h4, h12, h14⟩ := h; refine ol_m h14 ?_; refine ol_v (e_add rfl rfl) rfl ?_; refine ol_a rfl ?_; exact ol_fin hr ⟨F, hW, g4, hG, p4, h4, h12, rfl⟩
  refine Ref.seq (B := G4 w0 F0) ?_ ?_
  · refine Ref.region (fun s ρ w s' h hr => ?_); obtain ⟨F, hW, hG⟩ := h; refine ol_a rfl ?_; exact ol_fin hr ⟨F, hW, hG, rfl⟩
  exact Ref.ret (fun s ρ w h => ⟨s, rfl, h⟩)
def post (w : World) (F : BSet) (r : R) (v : Value) (w' : World) : Prop := ∃ (F' : BSet), v = .bool r ∧ Wk nrow w F F' w'
theorem calls {w : World} {F : BSet} (hok : ∀ b, F b → b < w.heap.size) (hG : GL 2 F w) {v0 : Value} {a0 : ObjectStore} (h0 : Val k_ObjectStore F w v0 a0) {v1 : Value} {a1 : RefStore} (h1 : Val k_RefStore F w v1 a1) {v2 : Value} {a2 : (List Lease)} (h2 : SlR k_Lease F w v2 a2) (a3 : Int) {r : R} (hf : f a0 a1 a2 a3 = some r) : Calls Tryd.prog 7 #[v0, v1, v2, .int .i64 a3] w fun e w' => ∃ v, e = .returned v ∧ post w F r v w' := by
  obtain ⟨c, hc, href⟩ := ref w F; refine calls_of_ref (args := [v0, v1, v2, .int .i64 a3]) _ Tryd.func7 hc rfl rfl href ?_ (retOf_some hf) ?_
  · exact ⟨F, Wk.refl hok, hG, h0, h1, h2, rfl⟩
  · rintro ρ w' a ⟨s, rfl, F', hW, hG, h8⟩ hF; refine ⟨_, run_results (rs := [.tmp 8]) rfl hF (vs := [ρ 8]) (⟨_, rfl, rfl⟩), ?_⟩; have hv : resVal [ρ 8] = .bool s.t_8 := by rw [h8]; rfl
    exact ⟨F', hv, hW⟩
end
end law4_GcBreaksNoLinks

end Go.Proofs.YtenkbkcddcnmeaaDoor
