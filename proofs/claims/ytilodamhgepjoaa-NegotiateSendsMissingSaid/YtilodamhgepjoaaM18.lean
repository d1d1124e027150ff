/- The machine's calls come to these plain functions (written by a program, wip/fx/gen.py). -/
import Derived.Test.YtilodamhgepjoaaPA
import Derived.Test.YtilodamhgepjoaaNm
import Derived.Test.YtilodamhgepjoaaM0
import Derived.Test.YtilodamhgepjoaaM6
import Derived.Test.YtilodamhgepjoaaM7
import Derived.Test.YtilodamhgepjoaaIt
namespace Go.Proofs.Ytilodamhgepjoaa
open Go.Fx Go.RowKit
set_option linter.unusedVariables false

namespace law4_NegotiateSendsMissing
section
def G0 (w0 : World) (F0 : BSet) (s : S) (ρ : Env) (w : World) : Prop := ∃ (F : BSet), Wk nrow w0 F0 F w ∧ SlR k_Commit F w (ρ 0) s.l_0 ∧ SlR kBool F w (ρ 1) s.sender_1 ∧ SlR kBool F w (ρ 2) s.receiver_2 ∧ SlR (kInt .i64) F w (ρ 3) s.wants_3
def G1 (w0 : World) (F0 : BSet) (s : S) (ρ : Env) (w : World) : Prop := ∃ (F : BSet), Wk nrow w0 F0 F w ∧ SlR k_Commit F w (ρ 0) s.l_0 ∧ SlR kBool F w (ρ 1) s.sender_1 ∧ SlR kBool F w (ρ 2) s.receiver_2 ∧ SlR (kInt .i64) F w (ρ 3) s.wants_3 ∧ ρ 15 = .bool s.t_15
def G2 (w0 : World) (F0 : BSet) (s : S) (ρ : Env) (w : World) : Prop := ∃ (F : BSet), Wk nrow w0 F0 F w
def G3 (w0 : World) (F0 : BSet) (s : S) (ρ : Env) (w : World) : Prop := ∃ (F : BSet), Wk nrow w0 F0 F w ∧ ρ 8 = .bool s.t_8
def G4 (w0 : World) (F0 : BSet) (s : S) (ρ : Env) (w : World) : Prop := ∃ (F : BSet), Wk nrow w0 F0 F w ∧ ∃ (g10 : Nat), SlR k_Commit F w (ρ 0) s.l_0 ∧ SlR kBool F w (ρ 1) s.sender_1 ∧ SlR kBool F w (ρ 2) s.receiver_2 ∧ SlR (kInt .i64) F w (ρ 3) s.wants_3 ∧ SlR (kInt .i64) F w (ρ 9) s.m_9 ∧ ρ 10 = .pointer (some ⟨g10, 0, none⟩) ∧ Box k_Fault 26 (Bs w0 nrow) F w g10 s.f_10
def G5 (w0 : World) (F0 : BSet) (s : S) (ρ : Env) (w : World) : Prop := ∃ (F : BSet), Wk nrow w0 F0 F w ∧ ∃ (g10 : Nat) (g13 : Nat), SlR (kInt .i64) F w (ρ 9) s.m_9 ∧ ρ 10 = .pointer (some ⟨g10, 0, none⟩) ∧ Box k_Fault 26 (Bs w0 nrow) F w g10 s.f_10 ∧ SlR (kSl (kInt .i64)) F w (ρ 11) s.r_11 ∧ SlR (kInt .i64) F w (ρ 12) s.sent_12 ∧ ρ 13 = .pointer (some ⟨g13, 0, none⟩) ∧ Box k_Fault 26 (Bs w0 nrow) F w g13 s.g_13 ∧ Apart (some g10) (some g13)
def G6 (w0 : World) (F0 : BSet) (s : S) (ρ : Env) (w : World) : Prop := ∃ (F : BSet), Wk nrow w0 F0 F w ∧ ∃ (g10 : Nat) (g13 : Nat), SlR (kInt .i64) F w (ρ 9) s.m_9 ∧ ρ 10 = .pointer (some ⟨g10, 0, none⟩) ∧ Box k_Fault 26 (Bs w0 nrow) F w g10 s.f_10 ∧ SlR (kSl (kInt .i64)) F w (ρ 11) s.r_11 ∧ SlR (kInt .i64) F w (ρ 12) s.sent_12 ∧ ρ 13 = .pointer (some ⟨g13, 0, none⟩) ∧ Box k_Fault 26 (Bs w0 nrow) F w g13 s.g_13 ∧ ρ 40 = .bool s.t_40 ∧ Apart (some g10) (some g13)
def G7 (w0 : World) (F0 : BSet) (s : S) (ρ : Env) (w : World) : Prop := ∃ (F : BSet), Wk nrow w0 F0 F w ∧ SlR (kInt .i64) F w (ρ 9) s.m_9 ∧ SlR (kInt .i64) F w (ρ 12) s.sent_12
set_option maxHeartbeats 4000000 in
set_option maxRecDepth 20000 in
theorem ref (w0 : World) (F0 : BSet) : ∃ c, Try.f9.body = some c ∧ Ref Try.prog 58 c (G0 w0 F0) body (fun _ _ _ => False) (fun _ _ _ _ => False) (fun r ρ w => ∃ s, retv s = r ∧ G3 w0 F0 s ρ w) := by
  refine ⟨_, rfl, ?_⟩
  unfold body
  refine Ref.seq (B := G0 w0 F0) ?_ ?_
  · refine Ref.region (fun s ρ w s' h hr => ?_)
    obtain ⟨F, hW, h0, h1, h2, h3⟩ := h
    refine ol_v (e_as _ rfl) rfl ?_
    obtain rfl := Option.some.inj hr
    exact ol_nil ⟨F, hW, h0, h1, h2, h3⟩
  refine Ref.seq (B := G0 w0 F0) ?_ ?_
  · refine Ref.seq (B := G1 w0 F0) ?_ ?_
    · refine Ref.region (fun s ρ w s' h hr => ?_)
      obtain ⟨F, hW, h0, h1, h2, h3⟩ := h
      obtain ⟨x1, hx1, hr⟩ := bind_some' hr
      refine ol_e (f_call [] fn_27 rfl (law4_negotiateExample.calls hW.ok  hx1)) rfl rfl ?_
      rintro _ w2 ⟨Fz3, rfl, kw1⟩
      have hW5 := hW.trans kw1
      have st1 := kw1.stp hW.ok
      refine ol_v (e_not_ rfl) rfl ?_
      obtain rfl := Option.some.inj hr
      exact ol_nil ⟨Fz3, hW5, (h0.keep st1), (h1.keep st1), (h2.keep st1), (h3.keep st1), rfl⟩
    refine Ref.cond (b := fun s => s.t_15) (fun s ρ w ⟨F, hW, h0, h1, h2, h3, h15⟩ => h15) (Ref.pre (A := G2 w0 F0) ?_ (fun s ρ w h => (fun ⟨F, hW, h0, h1, h2, h3, h15⟩ => ⟨F, hW⟩ : G1 w0 F0 s ρ w → G2 w0 F0 s ρ w) h.2)) (Ref.pre (A := G0 w0 F0) ?_ (fun s ρ w h => (fun ⟨F, hW, h0, h1, h2, h3, h15⟩ => ⟨F, hW, h0, h1, h2, h3⟩ : G1 w0 F0 s ρ w → G0 w0 F0 s ρ w) h.2))
    · refine Ref.seq (B := G3 w0 F0) ?_ ?_
      · refine Ref.region (fun s ρ w s' h hr => ?_)
        obtain ⟨F, hW⟩ := h
        refine ol_v (e_as _ rfl) rfl ?_
        obtain rfl := Option.some.inj hr
        exact ol_nil ⟨F, hW, rfl⟩
      exact Ref.ret (fun s ρ w h => ⟨s, rfl, h⟩)
    · exact Ref.skip
  refine Ref.seq (B := G4 w0 F0) ?_ ?_
  · refine Ref.region (fun s ρ w s' h hr => ?_)
    obtain ⟨F, hW, h0, h1, h2, h3⟩ := h
    refine ol_v (e_mv _ rfl) rfl ?_
    refine ol_v (e_mv _ rfl) rfl ?_
    refine ol_v (e_mv _ rfl) rfl ?_
    refine ol_v (e_mv _ rfl) rfl ?_
    obtain ⟨x6, hx6, hr⟩ := bind_some' hr
    refine ol_e (f_call [(ρ 0), (ρ 1), (ρ 2), (ρ 3)] fn_28 (lcons rfl (lcons rfl (lcons rfl (lcons rfl rfl)))) (negotiate_Missing.calls hW.ok h0 h1 h2 h3 hx6)) rfl rfl ?_
    rintro _ w7 ⟨Fz8, v9, v11, rfl, kw1, hk10, hk12⟩
    have hW14 := hW.trans kw1
    have st1 := kw1.stp hW.ok
    refine ol_v (e_mv _ rfl) rfl ?_
    refine ol_v (e_ext _ rfl rfl) rfl ?_
    refine ol_v (e_ext _ rfl rfl) rfl ?_
    refine ol_e (f_alloc zer_26 hW14) rfl rfl ?_
    rintro _ w16 ⟨g15, rfl, kw2, ho17⟩
    have hW18 := hW14.trans kw2
    have st2 := kw2.stp hW14.ok
    obtain ⟨Fz19, hWz20, st3, hF3, hz21⟩ := (((hk10.base (row := nrow) hW.le).wk kw2 hW14.ok)).frozen hW18
    refine ol_v (e_as _ rfl) rfl ?_
    refine ol_eN (f_stB hWz20 ((ho17.base (row := nrow) hW14.le).frz (apart_bo (ho17.base (row := nrow) hW14.le) ((hk10.base (row := nrow) hW.le).wk kw2 hW14.ok) rfl).symm hF3 st3) (FldS.whole _) ty_26 (hk12.keep (st2.trans st3)) rfl rfl) rfl ?_
    rintro - w22 ⟨hW23, ho24, hg4, st4⟩
    obtain rfl := Option.some.inj hr
    exact ol_nil ⟨Fz19, hW23, g15, (h0.keep (st1.trans (st2.trans (st3.trans st4)))), (h1.keep (st1.trans (st2.trans (st3.trans st4)))), (h2.keep (st1.trans (st2.trans (st3.trans st4)))), (h3.keep (st1.trans (st2.trans (st3.trans st4)))), (hz21.keep st4), rfl, ho24⟩
  refine Ref.seq (B := G5 w0 F0) ?_ ?_
  · refine Ref.region (fun s ρ w s' h hr => ?_)
    obtain ⟨F, hW, g10, h0, h1, h2, h3, h9, p10, h10⟩ := h
    refine ol_v (e_mv _ rfl) rfl ?_
    refine ol_v (e_mv _ rfl) rfl ?_
    refine ol_v (e_mv _ rfl) rfl ?_
    refine ol_v (e_mv _ rfl) rfl ?_
    obtain ⟨x25, hx25, hr⟩ := bind_some' hr
    refine ol_e (f_call [(ρ 0), (ρ 1), (ρ 2), (ρ 3)] fn_29 (lcons rfl (lcons rfl (lcons rfl (lcons rfl rfl)))) (negotiate_Run.calls hW.ok h0 h1 h2 h3 hx25)) rfl rfl ?_
    rintro _ w26 ⟨Fz27, v28, v30, v32, rfl, kw1, hk29, hk31, hk33⟩
    have hW35 := hW.trans kw1
    have st1 := kw1.stp hW.ok
    refine ol_v (e_mv _ rfl) rfl ?_
    refine ol_v (e_ext _ rfl rfl) rfl ?_
    refine ol_v (e_ext _ rfl rfl) rfl ?_
    refine ol_v (e_ext _ rfl rfl) rfl ?_
    refine ol_e (f_alloc zer_26 hW35) rfl rfl ?_
    rintro _ w37 ⟨g36, rfl, kw2, ho38⟩
    have hW39 := hW35.trans kw2
    have st2 := kw2.stp hW35.ok
    obtain ⟨Fz40, hWz41, st3, hF3, hz42⟩ := (((hk29.base (row := nrow) hW.le).wk kw2 hW35.ok)).frozen hW39
    refine ol_v (e_as _ rfl) rfl ?_
    obtain ⟨Fz43, hWz44, st4, hF4, hz45⟩ := ((((hk31.base (row := nrow) hW.le).wk kw2 hW35.ok).frz (apart_oo ((hk29.base (row := nrow) hW.le).wk kw2 hW35.ok) ((hk31.base (row := nrow) hW.le).wk kw2 hW35.ok) rfl) hF3 st3)).frozen hWz41
    refine ol_v (e_as _ rfl) rfl ?_
    refine ol_eN (f_stB hWz44 (((ho38.base (row := nrow) hW35.le).frz (apart_bo (ho38.base (row := nrow) hW35.le) ((hk29.base (row := nrow) hW.le).wk kw2 hW35.ok) rfl).symm hF3 st3).frz (apart_bo ((ho38.base (row := nrow) hW35.le).frz (apart_bo (ho38.base (row := nrow) hW35.le) ((hk29.base (row := nrow) hW.le).wk kw2 hW35.ok) rfl).symm hF3 st3) (((hk31.base (row := nrow) hW.le).wk kw2 hW35.ok).frz (apart_oo ((hk29.base (row := nrow) hW.le).wk kw2 hW35.ok) ((hk31.base (row := nrow) hW.le).wk kw2 hW35.ok) rfl) hF3 st3) rfl).symm hF4 st4) (FldS.whole _) ty_26 (hk33.keep (st2.trans (st3.trans st4))) rfl rfl) rfl ?_
    rintro - w46 ⟨hW47, ho48, hg5, st5⟩
    obtain rfl := Option.some.inj hr
    exact ol_nil ⟨Fz43, hW47, g10, g36, (h9.keep (st1.trans (st2.trans (st3.trans (st4.trans st5))))), p10, (((((h10.wk kw1 hW.ok).wk kw2 hW35.ok).frz (apart_bo ((h10.wk kw1 hW.ok).wk kw2 hW35.ok) ((hk29.base (row := nrow) hW.le).wk kw2 hW35.ok) rfl).symm hF3 st3).frz (apart_bo (((h10.wk kw1 hW.ok).wk kw2 hW35.ok).frz (apart_bo ((h10.wk kw1 hW.ok).wk kw2 hW35.ok) ((hk29.base (row := nrow) hW.le).wk kw2 hW35.ok) rfl).symm hF3 st3) (((hk31.base (row := nrow) hW.le).wk kw2 hW35.ok).frz (apart_oo ((hk29.base (row := nrow) hW.le).wk kw2 hW35.ok) ((hk31.base (row := nrow) hW.le).wk kw2 hW35.ok) rfl) hF3 st3) rfl).symm hF4 st4).mut (Apart.base (fun _ e_ => by cases e_; exact ho38.ge) (h10.wk kw1 hW.ok).ltw) hg5 st5), (hz42.keep (st4.trans st5)), (hz45.keep st5), rfl, ho48, (Apart.base (fun _ e_ => by cases e_; exact ho38.ge) (h10.wk kw1 hW.ok).ltw).symm⟩
  refine Ref.seq (B := G7 w0 F0) ?_ ?_
  · refine Ref.seq (B := G6 w0 F0) ?_ ?_
    · refine Ref.region (fun s ρ w s' h hr => ?_)
      obtain ⟨F, hW, g10, g13, h9, p10, h10, h11, h12, p13, h13, a10b_13b⟩ := h
      refine ol_v (e_fa fa_26_0 p10) rfl ?_
      refine ol_v (e_ld ty_3 (LiesV.int ((h10).at_.fld fl_Fault_0)) rfl) rfl ?_
      refine ol_v (e_neq rfl rfl) rfl ?_
      refine ol_cutA 5 36 40 (fun ρ' w' => w = w' ∧ ρ' 40 = .bool ((!decide (s.f_10.Code = (0 : Int))) || (!decide (s.g_13.Code = (0 : Int))))) rfl ?_ ?_
      · by_cases hb49 : (!decide (s.f_10.Code = (0 : Int))) = true
        · refine ol_v (e_mv _ rfl) rfl ?_
          refine ol_not rfl rfl rfl (congrArg Value.bool hb49) rfl ?_
          refine ol_not rfl rfl rfl (congrArg Value.bool hb49) rfl ?_
          refine ol_not rfl rfl rfl (congrArg Value.bool hb49) rfl ?_
          refine ol_v (e_pick true _ (congrArg Value.bool hb49) rfl) rfl ?_
          exact ol_nil ⟨⟨rfl, (bv_or_t hb49)⟩, ((((((Agr.refl _ _ _).upd rfl rfl).upd rfl rfl).upd rfl rfl).upd rfl rfl).upd rfl rfl)⟩
        · have hb50 := Bool.eq_false_iff.mpr hb49
          refine ol_v (e_mv _ rfl) rfl ?_
          refine ol_yes rfl rfl (congrArg Value.bool hb50) ?_
          refine ol_v (e_fa fa_26_0 p13) rfl ?_
          refine ol_yes rfl rfl (congrArg Value.bool hb50) ?_
          refine ol_v (e_ld ty_3 (LiesV.int ((h13).at_.fld fl_Fault_0)) rfl) rfl ?_
          refine ol_yes rfl rfl (congrArg Value.bool hb50) ?_
          refine ol_v (e_neq rfl rfl) rfl ?_
          refine ol_v (e_pick false _ (congrArg Value.bool hb50) rfl) rfl ?_
          exact ol_nil ⟨⟨rfl, (bv_or_f hb50)⟩, ((((((Agr.refl _ _ _).upd rfl rfl).upd rfl rfl).upd rfl rfl).upd rfl rfl).upd rfl rfl)⟩
      rintro ρ51 _ ⟨⟨rfl, hp51⟩, hAg51⟩
      obtain rfl := Option.some.inj hr
      exact ol_nil ⟨F, hW, g10, g13, (SlR.eqv (hAg51 9 rfl) h9), ((hAg51 10 rfl).trans p10), h10, (SlR.eqv (hAg51 11 rfl) h11), (SlR.eqv (hAg51 12 rfl) h12), ((hAg51 13 rfl).trans p13), h13, hp51, a10b_13b⟩
    refine Ref.cond (b := fun s => s.t_40) (fun s ρ w ⟨F, hW, g10, g13, h9, p10, h10, h11, h12, p13, h13, h40, a10b_13b⟩ => h40) (Ref.pre (A := G5 w0 F0) ?_ (fun s ρ w h => (fun ⟨F, hW, g10, g13, h9, p10, h10, h11, h12, p13, h13, h40, a10b_13b⟩ => ⟨F, hW, g10, g13, h9, p10, h10, h11, h12, p13, h13, a10b_13b⟩ : G6 w0 F0 s ρ w → G5 w0 F0 s ρ w) h.2)) (Ref.pre (A := G7 w0 F0) ?_ (fun s ρ w h => (fun ⟨F, hW, g10, g13, h9, p10, h10, h11, h12, p13, h13, h40, a10b_13b⟩ => ⟨F, hW, h9, h12⟩ : G6 w0 F0 s ρ w → G7 w0 F0 s ρ w) h.2))
    · refine Ref.seq (B := G3 w0 F0) ?_ ?_
      · refine Ref.region (fun s ρ w s' h hr => ?_)
        obtain ⟨F, hW, g10, g13, h9, p10, h10, h11, h12, p13, h13, a10b_13b⟩ := h
        obtain ⟨v52, hl53⟩ := LiesAt.v (h10).at_
        refine ol_v (e_ld ty_26 hl53 p10) rfl ?_
        obtain ⟨v54, hl55⟩ := LiesAt.v (h13).at_
        refine ol_v (e_ld ty_26 hl55 p13) rfl ?_
        refine ol_v (e_teql (eq_Fault_26 hl53.val hl55.val) rfl rfl) rfl ?_
        refine ol_cutA 11 44 54 (fun ρ' w' => w = w' ∧ ρ' 54 = .bool ((decide (s.f_10 = s.g_13)) && (decide ((w64 (w64 ((s.m_9.length : Int) + (s.r_11.length : Int)) + (s.sent_12.length : Int))) = (0 : Int))))) rfl ?_ ?_
        · by_cases hb56 : (decide (s.f_10 = s.g_13)) = true
          · refine ol_v (e_mv _ rfl) rfl ?_
            refine ol_yes rfl rfl (congrArg Value.bool hb56) ?_
            refine ol_v (e_mv _ rfl) rfl ?_
            refine ol_yes rfl rfl (congrArg Value.bool hb56) ?_
            obtain ⟨A58, c59, e60, hc61, R62⟩ := id h9
            refine ol_v (e_len (SlT.sl sl_23) e60) rfl ?_
            refine ol_yes rfl rfl (congrArg Value.bool hb56) ?_
            refine ol_v (e_mv _ rfl) rfl ?_
            refine ol_yes rfl rfl (congrArg Value.bool hb56) ?_
            obtain ⟨A63, c64, e65, hc66, R67⟩ := id h11
            refine ol_v (e_len (SlT.sl sl_48) e65) rfl ?_
            refine ol_yes rfl rfl (congrArg Value.bool hb56) ?_
            refine ol_v (e_add rfl rfl) rfl ?_
            refine ol_yes rfl rfl (congrArg Value.bool hb56) ?_
            refine ol_v (e_mv _ rfl) rfl ?_
            refine ol_yes rfl rfl (congrArg Value.bool hb56) ?_
            obtain ⟨A68, c69, e70, hc71, R72⟩ := id h12
            refine ol_v (e_len (SlT.sl sl_23) e70) rfl ?_
            refine ol_yes rfl rfl (congrArg Value.bool hb56) ?_
            refine ol_v (e_add rfl rfl) rfl ?_
            refine ol_yes rfl rfl (congrArg Value.bool hb56) ?_
            refine ol_v (e_eql rfl rfl) rfl ?_
            refine ol_v (e_pick true _ (congrArg Value.bool hb56) rfl) rfl ?_
            exact ol_nil ⟨⟨rfl, (bv_and_t hb56)⟩, ((((((((((((Agr.refl _ _ _).upd rfl rfl).upd rfl rfl).upd rfl rfl).upd rfl rfl).upd rfl rfl).upd rfl rfl).upd rfl rfl).upd rfl rfl).upd rfl rfl).upd rfl rfl).upd rfl rfl)⟩
          · have hb57 := Bool.eq_false_iff.mpr hb56
            refine ol_v (e_mv _ rfl) rfl ?_
            refine ol_not rfl rfl rfl (congrArg Value.bool hb57) rfl ?_
            refine ol_not rfl rfl rfl (congrArg Value.bool hb57) rfl ?_
            refine ol_not rfl rfl rfl (congrArg Value.bool hb57) rfl ?_
            refine ol_not rfl rfl rfl (congrArg Value.bool hb57) rfl ?_
            refine ol_not rfl rfl rfl (congrArg Value.bool hb57) rfl ?_
            refine ol_not rfl rfl rfl (congrArg Value.bool hb57) rfl ?_
            refine ol_not rfl rfl rfl (congrArg Value.bool hb57) rfl ?_
            refine ol_not rfl rfl rfl (congrArg Value.bool hb57) rfl ?_
            refine ol_not rfl rfl rfl (congrArg Value.bool hb57) rfl ?_
            refine ol_v (e_pick false _ (congrArg Value.bool hb57) rfl) rfl ?_
            exact ol_nil ⟨⟨rfl, (bv_and_f hb57)⟩, ((((((((((((Agr.refl _ _ _).upd rfl rfl).upd rfl rfl).upd rfl rfl).upd rfl rfl).upd rfl rfl).upd rfl rfl).upd rfl rfl).upd rfl rfl).upd rfl rfl).upd rfl rfl).upd rfl rfl)⟩
        rintro ρ73 _ ⟨⟨rfl, hp73⟩, hAg73⟩
        refine ol_v (e_as _ hp73) rfl ?_
        obtain rfl := Option.some.inj hr
        exact ol_nil ⟨F, hW, rfl⟩
      exact Ref.ret (fun s ρ w h => ⟨s, rfl, h⟩)
    · exact Ref.skip
  refine Ref.seq (B := G3 w0 F0) ?_ ?_
  · refine Ref.region (fun s ρ w s' h hr => ?_)
    obtain ⟨F, hW, h9, h12⟩ := h
    refine ol_v (e_mv _ rfl) rfl ?_
    refine ol_v (e_mv _ rfl) rfl ?_
    obtain ⟨x74, hx74, hr⟩ := bind_some' hr
    refine ol_e (f_call [(ρ 9), (ρ 12)] fn_17 (lcons rfl (lcons rfl rfl)) (ref3_Ints.calls hW.ok h9 h12 hx74)) rfl rfl ?_
    rintro _ w75 ⟨Fz76, rfl, kw1⟩
    have hW78 := hW.trans kw1
    have st1 := kw1.stp hW.ok
    refine ol_v (e_as _ rfl) rfl ?_
    obtain rfl := Option.some.inj hr
    exact ol_nil ⟨Fz76, hW78, rfl⟩
  exact Ref.ret (fun s ρ w h => ⟨s, rfl, h⟩)
def post (w : World) (F : BSet) (r : R) (v : Value) (w' : World) : Prop := ∃ (F' : BSet), v = .bool r ∧ Wk nrow w F F' w'
theorem calls {w : World} {F : BSet} (hok : ∀ b, F b → b < w.heap.size) {v0 : Value} {a0 : (List Commit)} (h0 : SlR k_Commit F w v0 a0) {v1 : Value} {a1 : (List Bool)} (h1 : SlR kBool F w v1 a1) {v2 : Value} {a2 : (List Bool)} (h2 : SlR kBool F w v2 a2) {v3 : Value} {a3 : (List Int)} (h3 : SlR (kInt .i64) F w v3 a3) {r : R} (hf : f a0 a1 a2 a3 = some r) : Calls Try.prog 9 #[v0, v1, v2, v3] w fun e w' => ∃ v, e = .returned v ∧ post w F r v w' := by
  obtain ⟨c, hc, href⟩ := ref w F
  refine calls_of_ref (args := [v0, v1, v2, v3]) _ Try.func9 hc rfl rfl href ?_ (retOf_some hf) ?_
  · exact ⟨F, Wk.refl hok, h0, h1, h2, h3⟩
  · rintro ρ w' a ⟨s, rfl, F', hW, h8⟩ hF
    refine ⟨_, run_results (rs := [.tmp 8]) rfl hF (vs := [ρ 8]) (⟨_, rfl, rfl⟩), ?_⟩
    have hv : resVal [ρ 8] = .bool s.t_8 := by rw [h8]; rfl
    exact ⟨F', hv, hW⟩
end
end law4_NegotiateSendsMissing

end Go.Proofs.Ytilodamhgepjoaa
