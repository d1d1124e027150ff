/- The machine's calls come to these plain functions (written by a program, wip/fx/gen.py). -/
import Derived.Test.YtpdkgodonemonaaPA
import Derived.Test.YtpdkgodonemonaaNm
import Derived.Test.YtpdkgodonemonaaM1
import Derived.Test.YtpdkgodonemonaaM2
import Derived.Test.YtpdkgodonemonaaIt
import Derived.Test.YtpdkgodonemonaaSl
namespace Go.Proofs.Ytpdkgodonemonaa
open Go.Fx Go.RowKit
set_option linter.unusedVariables false

namespace law4_TransferPlanDelivers
section
def G0 (w0 : World) (F0 : BSet) (s : S) (ρ : Env) (w : World) : Prop := ∃ (F : BSet), Wk nrow w0 F0 F w ∧ SlR kByte F w (ρ 0) s.t_0 ∧ SlR kBool F w (ρ 1) s.t_1
def G1 (w0 : World) (F0 : BSet) (s : S) (ρ : Env) (w : World) : Prop := ∃ (F : BSet), Wk nrow w0 F0 F w ∧ SlR kByte F w (ρ 0) s.t_0 ∧ SlR kBool F w (ρ 1) s.t_1 ∧ ρ 12 = .bool s.t_12
def G2 (w0 : World) (F0 : BSet) (s : S) (ρ : Env) (w : World) : Prop := ∃ (F : BSet), Wk nrow w0 F0 F w
def G3 (w0 : World) (F0 : BSet) (s : S) (ρ : Env) (w : World) : Prop := ∃ (F : BSet), Wk nrow w0 F0 F w ∧ ρ 4 = .bool s.t_4
def G4 (w0 : World) (F0 : BSet) (s : S) (ρ : Env) (w : World) : Prop := ∃ (F : BSet), Wk nrow w0 F0 F w ∧ ∃ (g7 : Nat), SlR kByte F w (ρ 0) s.t_0 ∧ SlR k_LinkEvent F w (ρ 5) s.t_5 ∧ ρ 6 = .bool s.t_6 ∧ ρ 7 = .pointer (some ⟨g7, 0, none⟩) ∧ Box k_Fault 27 (Bs w0 nrow) F w g7 s.t_7
def G5 (w0 : World) (F0 : BSet) (s : S) (ρ : Env) (w : World) : Prop := ∃ (F : BSet), Wk nrow w0 F0 F w ∧ SlR kByte F w (ρ 0) s.t_0 ∧ SlR k_LinkEvent F w (ρ 5) s.t_5 ∧ ρ 6 = .bool s.t_6 ∧ ρ 22 = .bool s.t_22
def G6 (w0 : World) (F0 : BSet) (s : S) (ρ : Env) (w : World) : Prop := ∃ (F : BSet), Wk nrow w0 F0 F w ∧ SlR k_LinkEvent F w (ρ 5) s.t_5 ∧ ρ 6 = .bool s.t_6
def G7 (w0 : World) (F0 : BSet) (s : S) (ρ : Env) (w : World) : Prop := ∃ (F : BSet), Wk nrow w0 F0 F w ∧ SlR kByte F w (ρ 0) s.t_0 ∧ SlR k_LinkEvent F w (ρ 5) s.t_5 ∧ ρ 6 = .bool s.t_6
def G8 (w0 : World) (F0 : BSet) (s : S) (ρ : Env) (w : World) : Prop := ∃ (F : BSet), Wk nrow w0 F0 F w ∧ ∃ (g10 : Nat), SlR kByte F w (ρ 0) s.t_0 ∧ ρ 6 = .bool s.t_6 ∧ SlR kByte F w (ρ 8) s.t_8 ∧ ρ 9 = .int .i64 s.t_9 ∧ ρ 10 = .pointer (some ⟨g10, 0, none⟩) ∧ Box k_Fault 27 (Bs w0 nrow) F w g10 s.t_10
def G9 (w0 : World) (F0 : BSet) (s : S) (ρ : Env) (w : World) : Prop := ∃ (F : BSet), Wk nrow w0 F0 F w ∧ SlR kByte F w (ρ 0) s.t_0 ∧ ρ 6 = .bool s.t_6 ∧ SlR kByte F w (ρ 8) s.t_8 ∧ ρ 9 = .int .i64 s.t_9 ∧ ρ 56 = .bool s.t_56
def G10 (w0 : World) (F0 : BSet) (s : S) (ρ : Env) (w : World) : Prop := ∃ (F : BSet), Wk nrow w0 F0 F w ∧ SlR kByte F w (ρ 0) s.t_0 ∧ ρ 6 = .bool s.t_6 ∧ SlR kByte F w (ρ 8) s.t_8 ∧ ρ 9 = .int .i64 s.t_9
set_option maxHeartbeats 4000000 in
set_option maxRecDepth 20000 in
theorem ref (w0 : World) (F0 : BSet) : ∃ c, Try.f7.body = some c ∧ Ref Try.prog 72 c (G0 w0 F0) body (fun _ _ _ => False) (fun _ _ _ _ => False) (fun r ρ w => ∃ s, retv s = r ∧ G3 w0 F0 s ρ w) := by
  refine ⟨_, rfl, ?_⟩
  unfold body
  refine Ref.seq (B := G0 w0 F0) ?_ ?_
  · refine Ref.region (fun s ρ w s' h hr => ?_)
    obtain ⟨F, hW, h0, h1⟩ := h
    refine ol_v (e_as _ rfl) rfl ?_
    obtain rfl := Option.some.inj hr
    exact ol_nil ⟨F, hW, h0, h1⟩
  refine Ref.seq (B := G0 w0 F0) ?_ ?_
  · refine Ref.seq (B := G1 w0 F0) ?_ ?_
    · refine Ref.region (fun s ρ w s' h hr => ?_)
      obtain ⟨F, hW, h0, h1⟩ := h
      obtain ⟨x1, hx1, hr⟩ := bind_some' hr
      refine ol_e (f_call [] fn_8 rfl (law4_transferExample.calls hW.ok  hx1)) rfl rfl ?_
      rintro _ w2 ⟨Fz3, rfl, kw1⟩
      have hW5 := hW.trans kw1
      have st1 := kw1.stp hW.ok
      refine ol_v (e_not_ rfl) rfl ?_
      obtain rfl := Option.some.inj hr
      exact ol_nil ⟨Fz3, hW5, (h0.keep st1), (h1.keep st1), rfl⟩
    refine Ref.cond (b := fun s => s.t_12) (fun s ρ w ⟨F, hW, h0, h1, h12⟩ => h12) (Ref.pre (A := G2 w0 F0) ?_ (fun s ρ w h => (fun ⟨F, hW, h0, h1, h12⟩ => ⟨F, hW⟩ : G1 w0 F0 s ρ w → G2 w0 F0 s ρ w) h.2)) (Ref.pre (A := G0 w0 F0) ?_ (fun s ρ w h => (fun ⟨F, hW, h0, h1, h12⟩ => ⟨F, hW, h0, h1⟩ : G1 w0 F0 s ρ w → G0 w0 F0 s ρ w) h.2))
    · refine Ref.seq (B := G3 w0 F0) ?_ ?_
      · refine Ref.region (fun s ρ w s' h hr => ?_)
        obtain ⟨F, hW⟩ := h
        refine ol_v (e_as _ rfl) rfl ?_
        obtain rfl := Option.some.inj hr
        exact ol_nil ⟨F, hW, rfl⟩
      exact Ref.ret (fun s ρ w h => ⟨s, rfl, h⟩)
    · exact Ref.skip
  refine Ref.seq (B := G4 w0 F0) ?_ ?_
  · refine Ref.region (fun s ρ w s' h hr => ?_)
    obtain ⟨F, hW, h0, h1⟩ := h
    refine ol_v (e_mv _ rfl) rfl ?_
    refine ol_v (e_mv _ rfl) rfl ?_
    obtain ⟨x6, hx6, hr⟩ := bind_some' hr
    refine ol_e (f_call [(ρ 0), (ρ 1)] fn_15 (lcons rfl (lcons rfl rfl)) (transfer_Plan.calls hW.ok h0 h1 hx6)) rfl rfl ?_
    rintro _ w7 ⟨Fz8, v9, v11, rfl, kw1, hk10, hk12⟩
    have hW14 := hW.trans kw1
    have st1 := kw1.stp hW.ok
    refine ol_v (e_mv _ rfl) rfl ?_
    refine ol_v (e_ext _ rfl rfl) rfl ?_
    refine ol_v (e_ext _ rfl rfl) rfl ?_
    refine ol_v (e_ext _ rfl rfl) rfl ?_
    refine ol_e (f_alloc zer_27 hW14) rfl rfl ?_
    rintro _ w16 ⟨g15, rfl, kw2, ho17⟩
    have hW18 := hW14.trans kw2
    have st2 := kw2.stp hW14.ok
    obtain ⟨Fz19, hWz20, st3, hF3, hz21⟩ := (((hk10.base (row := nrow) hW.le).wk kw2 hW14.ok)).frozen hW18
    refine ol_v (e_as _ rfl) rfl ?_
    refine ol_v (e_as _ rfl) rfl ?_
    refine ol_eN (f_stB hWz20 ((ho17.base (row := nrow) hW14.le).frz (apart_bo (ho17.base (row := nrow) hW14.le) ((hk10.base (row := nrow) hW.le).wk kw2 hW14.ok) rfl).symm hF3 st3) (FldS.whole _) ty_27 (hk12.keep (st2.trans st3)) rfl rfl) rfl ?_
    rintro - w22 ⟨hW23, ho24, hg4, st4⟩
    obtain rfl := Option.some.inj hr
    exact ol_nil ⟨Fz19, hW23, g15, (h0.keep (st1.trans (st2.trans (st3.trans st4)))), (hz21.keep st4), rfl, rfl, ho24⟩
  refine Ref.seq (B := G7 w0 F0) ?_ ?_
  · refine Ref.seq (B := G5 w0 F0) ?_ ?_
    · refine Ref.region (fun s ρ w s' h hr => ?_)
      obtain ⟨F, hW, g7, h0, h5, h6, p7, h7⟩ := h
      refine ol_v (e_fa fa_27_0 p7) rfl ?_
      refine ol_v (e_ld ty_3 (LiesV.int ((h7).at_.fld fl_Fault_0)) rfl) rfl ?_
      refine ol_v (e_neq rfl rfl) rfl ?_
      obtain rfl := Option.some.inj hr
      exact ol_nil ⟨F, hW, h0, h5, h6, rfl⟩
    refine Ref.cond (b := fun s => s.t_22) (fun s ρ w ⟨F, hW, h0, h5, h6, h22⟩ => h22) (Ref.pre (A := G6 w0 F0) ?_ (fun s ρ w h => (fun ⟨F, hW, h0, h5, h6, h22⟩ => ⟨F, hW, h5, h6⟩ : G5 w0 F0 s ρ w → G6 w0 F0 s ρ w) h.2)) (Ref.pre (A := G7 w0 F0) ?_ (fun s ρ w h => (fun ⟨F, hW, h0, h5, h6, h22⟩ => ⟨F, hW, h0, h5, h6⟩ : G5 w0 F0 s ρ w → G7 w0 F0 s ρ w) h.2))
    · refine Ref.seq (B := G3 w0 F0) ?_ ?_
      · refine Ref.region (fun s ρ w s' h hr => ?_)
        obtain ⟨F, hW, h5, h6⟩ := h
        refine ol_v (e_mv _ rfl) rfl ?_
        obtain ⟨A25, c26, e27, hc28, R29⟩ := id h5
        refine ol_v (e_len (SlT.sl sl_23) e27) rfl ?_
        refine ol_v (e_eql rfl rfl) rfl ?_
        refine ol_cutA 4 26 29 (fun ρ' w' => w = w' ∧ ρ' 29 = .bool ((decide ((s.t_5.length : Int) = (0 : Int))) && (!s.t_6))) rfl ?_ ?_
        · by_cases hb30 : (decide ((s.t_5.length : Int) = (0 : Int))) = true
          · refine ol_v (e_mv _ rfl) rfl ?_
            refine ol_yes rfl rfl (congrArg Value.bool hb30) ?_
            refine ol_v (e_mv _ h6) rfl ?_
            refine ol_yes rfl rfl (congrArg Value.bool hb30) ?_
            refine ol_v (e_not_ rfl) rfl ?_
            refine ol_v (e_pick true _ (congrArg Value.bool hb30) rfl) rfl ?_
            exact ol_nil ⟨⟨rfl, (bv_and_t hb30)⟩, (((((Agr.refl _ _ _).upd rfl rfl).upd rfl rfl).upd rfl rfl).upd rfl rfl)⟩
          · have hb31 := Bool.eq_false_iff.mpr hb30
            refine ol_v (e_mv _ rfl) rfl ?_
            refine ol_not rfl rfl rfl (congrArg Value.bool hb31) rfl ?_
            refine ol_not rfl rfl rfl (congrArg Value.bool hb31) rfl ?_
            refine ol_v (e_pick false _ (congrArg Value.bool hb31) rfl) rfl ?_
            exact ol_nil ⟨⟨rfl, (bv_and_f hb31)⟩, (((((Agr.refl _ _ _).upd rfl rfl).upd rfl rfl).upd rfl rfl).upd rfl rfl)⟩
        rintro ρ32 _ ⟨⟨rfl, hp32⟩, hAg32⟩
        refine ol_v (e_as _ hp32) rfl ?_
        obtain rfl := Option.some.inj hr
        exact ol_nil ⟨F, hW, rfl⟩
      exact Ref.ret (fun s ρ w h => ⟨s, rfl, h⟩)
    · exact Ref.skip
  refine Ref.seq (B := G8 w0 F0) ?_ ?_
  · refine Ref.region (fun s ρ w s' h hr => ?_)
    obtain ⟨F, hW, h0, h5, h6⟩ := h
    refine ol_v (e_mv _ rfl) rfl ?_
    refine ol_v (e_mv _ rfl) rfl ?_
    obtain ⟨x33, hx33, hr⟩ := bind_some' hr
    refine ol_e (f_call [(ρ 0), (ρ 5)] fn_10 (lcons rfl (lcons rfl rfl)) (transfer_Run.calls hW.ok h0 h5 hx33)) rfl rfl ?_
    rintro _ w34 ⟨Fz35, v36, v38, rfl, kw1, hk37, hk39⟩
    have hW41 := hW.trans kw1
    have st1 := kw1.stp hW.ok
    refine ol_v (e_mv _ rfl) rfl ?_
    refine ol_v (e_ext _ rfl rfl) rfl ?_
    refine ol_v (e_ext _ rfl rfl) rfl ?_
    refine ol_v (e_ext _ rfl rfl) rfl ?_
    refine ol_e (f_alloc zer_27 hW41) rfl rfl ?_
    rintro _ w43 ⟨g42, rfl, kw2, ho44⟩
    have hW45 := hW41.trans kw2
    have st2 := kw2.stp hW41.ok
    obtain ⟨Fz46, hWz47, st3, hF3, hz48⟩ := (((hk37.base (row := nrow) hW.le).wk kw2 hW41.ok)).frozen hW45
    refine ol_v (e_as _ rfl) rfl ?_
    refine ol_v (e_as _ rfl) rfl ?_
    refine ol_eN (f_stB hWz47 ((ho44.base (row := nrow) hW41.le).frz (apart_bo (ho44.base (row := nrow) hW41.le) ((hk37.base (row := nrow) hW.le).wk kw2 hW41.ok) rfl).symm hF3 st3) (FldS.whole _) ty_27 (hk39.keep (st2.trans st3)) rfl rfl) rfl ?_
    rintro - w49 ⟨hW50, ho51, hg4, st4⟩
    obtain rfl := Option.some.inj hr
    exact ol_nil ⟨Fz46, hW50, g42, (h0.keep (st1.trans (st2.trans (st3.trans st4)))), h6, (hz48.keep st4), rfl, rfl, ho51⟩
  refine Ref.seq (B := G10 w0 F0) ?_ ?_
  · refine Ref.seq (B := G9 w0 F0) ?_ ?_
    · refine Ref.regionS (by kernel_rfl) (by kernel_rfl) (fun s ρ w ⟨F, hW, g10, h0, h6, h8, h9, p10, h10⟩ => ⟨F, hW.drewS, g10, h0.keep (sd hW), h6, h8.keep (sd hW), h9, p10, h10.wk (Wk.drew (row := nrow) hW.ok) hW.ok⟩) (fun s ρ w s' h hr => ?_)
      obtain ⟨F, hW, g10, h0, h6, h8, h9, p10, h10⟩ := h
      refine ol_v (e_fa fa_27_0 p10) rfl ?_
      refine ol_v (e_ld ty_3 (LiesV.int ((h10).at_.fld fl_Fault_0)) rfl) rfl ?_
      refine ol_v (e_neq rfl rfl) rfl ?_
      refine ol_cutA 7 40 46 (fun ρ' w' => w = w' ∧ ρ' 46 = .bool ((!decide (s.t_10.Code = (0 : Int))) || (decide ((s.t_0.length : Int) < (s.t_8.length : Int))))) rfl ?_ ?_
      · by_cases hb52 : (!decide (s.t_10.Code = (0 : Int))) = true
        · refine ol_v (e_mv _ rfl) rfl ?_
          refine ol_not rfl rfl rfl (congrArg Value.bool hb52) rfl ?_
          refine ol_not rfl rfl rfl (congrArg Value.bool hb52) rfl ?_
          refine ol_not rfl rfl rfl (congrArg Value.bool hb52) rfl ?_
          refine ol_not rfl rfl rfl (congrArg Value.bool hb52) rfl ?_
          refine ol_not rfl rfl rfl (congrArg Value.bool hb52) rfl ?_
          refine ol_v (e_pick true _ (congrArg Value.bool hb52) rfl) rfl ?_
          exact ol_nil ⟨⟨rfl, (bv_or_t hb52)⟩, ((((((((Agr.refl _ _ _).upd rfl rfl).upd rfl rfl).upd rfl rfl).upd rfl rfl).upd rfl rfl).upd rfl rfl).upd rfl rfl)⟩
        · have hb53 := Bool.eq_false_iff.mpr hb52
          refine ol_v (e_mv _ rfl) rfl ?_
          refine ol_yes rfl rfl (congrArg Value.bool hb53) ?_
          refine ol_v (e_mv _ rfl) rfl ?_
          refine ol_yes rfl rfl (congrArg Value.bool hb53) ?_
          obtain ⟨A54, c55, e56, hc57, R58⟩ := id h8
          refine ol_v (e_len (SlT.sl sl_22) e56) rfl ?_
          refine ol_yes rfl rfl (congrArg Value.bool hb53) ?_
          refine ol_v (e_mv _ rfl) rfl ?_
          refine ol_yes rfl rfl (congrArg Value.bool hb53) ?_
          obtain ⟨A59, c60, e61, hc62, R63⟩ := id h0
          refine ol_v (e_len (SlT.sl sl_22) e61) rfl ?_
          refine ol_yes rfl rfl (congrArg Value.bool hb53) ?_
          refine ol_v (e_gtr rfl rfl) rfl ?_
          refine ol_v (e_pick false _ (congrArg Value.bool hb53) rfl) rfl ?_
          exact ol_nil ⟨⟨rfl, (bv_or_f hb53)⟩, ((((((((Agr.refl _ _ _).upd rfl rfl).upd rfl rfl).upd rfl rfl).upd rfl rfl).upd rfl rfl).upd rfl rfl).upd rfl rfl)⟩
      rintro ρ64 _ ⟨⟨rfl, hp64⟩, hAg64⟩
      obtain ⟨x79, hx80, hr⟩ := bind_some' hr
      refine ol_cutA 10 47 56 (fun ρ' w' => w = w' ∧ ρ' 56 = .bool x79) rfl ?_ ?_
      · by_cases hb65 : ((!decide (s.t_10.Code = (0 : Int))) || (decide ((s.t_0.length : Int) < (s.t_8.length : Int)))) = true
        · have hr := hx80
          rw [if_pos hb65] at hr
          refine ol_v (e_mv _ hp64) rfl ?_
          refine ol_not rfl rfl rfl (congrArg Value.bool hb65) rfl ?_
          refine ol_not rfl rfl rfl (congrArg Value.bool hb65) rfl ?_
          refine ol_not rfl rfl rfl (congrArg Value.bool hb65) rfl ?_
          refine ol_not rfl rfl rfl (congrArg Value.bool hb65) rfl ?_
          refine ol_not rfl rfl rfl (congrArg Value.bool hb65) rfl ?_
          refine ol_not rfl rfl rfl (congrArg Value.bool hb65) rfl ?_
          refine ol_not rfl rfl rfl (congrArg Value.bool hb65) rfl ?_
          refine ol_not rfl rfl rfl (congrArg Value.bool hb65) rfl ?_
          refine ol_v (e_pick true _ (congrArg Value.bool hb65) rfl) rfl ?_
          exact ol_nil ⟨⟨rfl, (congrArg Value.bool (Option.some.inj hr))⟩, (((((((((((Agr.refl _ _ _).upd rfl rfl).upd rfl rfl).upd rfl rfl).upd rfl rfl).upd rfl rfl).upd rfl rfl).upd rfl rfl).upd rfl rfl).upd rfl rfl).upd rfl rfl)⟩
        · have hb66 := Bool.eq_false_iff.mpr hb65
          have hr := hx80
          rw [if_neg hb65] at hr
          refine ol_v (e_mv _ hp64) rfl ?_
          refine ol_yes rfl rfl (congrArg Value.bool hb66) ?_
          refine ol_v (e_mv _ (hAg64 8 rfl)) rfl ?_
          refine ol_yes rfl rfl (congrArg Value.bool hb66) ?_
          refine ol_v (e_b2s (SlT.sl sl_22) (by kernel_rfl) (by kernel_rfl) h8 rfl) rfl ?_
          refine ol_yes rfl rfl (congrArg Value.bool hb66) ?_
          refine ol_v (e_mv _ (hAg64 0 rfl)) rfl ?_
          refine ol_yes rfl rfl (congrArg Value.bool hb66) ?_
          refine ol_v (e_mv _ (hAg64 8 rfl)) rfl ?_
          refine ol_yes rfl rfl (congrArg Value.bool hb66) ?_
          obtain ⟨A67, c68, e69, hc70, R71⟩ := id h8
          refine ol_v (e_len (SlT.sl sl_22) e69) rfl ?_
          refine ol_yes rfl rfl (congrArg Value.bool hb66) ?_
          obtain ⟨A72, c73, e74, hc75, R76⟩ := id h0
          obtain ⟨x77, hx77, hr⟩ := bind_some' hr
          have hs78 := SlR.cutTo R76 hc75 hx77
          refine ol_v (e_slH (SlT.sl sl_22) (SlT.sz sl_22) hc75 e74 rfl hx77) rfl ?_
          refine ol_yes rfl rfl (congrArg Value.bool hb66) ?_
          refine ol_v (e_b2s (SlT.sl sl_22) (by kernel_rfl) (by kernel_rfl) hs78 rfl) rfl ?_
          refine ol_yes rfl rfl (congrArg Value.bool hb66) ?_
          refine ol_v (e_sneq rfl rfl) rfl ?_
          refine ol_v (e_pick false _ (congrArg Value.bool hb66) rfl) rfl ?_
          exact ol_nil ⟨⟨rfl, (congrArg Value.bool (Option.some.inj hr))⟩, (((((((((((Agr.refl _ _ _).upd rfl rfl).upd rfl rfl).upd rfl rfl).upd rfl rfl).upd rfl rfl).upd rfl rfl).upd rfl rfl).upd rfl rfl).upd rfl rfl).upd rfl rfl)⟩
      rintro ρ80 _ ⟨⟨rfl, hp80⟩, hAg80⟩
      obtain rfl := Option.some.inj hr
      exact ol_nil ⟨F, hW, (SlR.eqv ((hAg80 0 rfl).trans (hAg64 0 rfl)) h0), ((hAg80 6 rfl).trans ((hAg64 6 rfl).trans h6)), (SlR.eqv ((hAg80 8 rfl).trans (hAg64 8 rfl)) h8), ((hAg80 9 rfl).trans ((hAg64 9 rfl).trans h9)), hp80⟩
    refine Ref.cond (b := fun s => s.t_56) (fun s ρ w ⟨F, hW, h0, h6, h8, h9, h56⟩ => h56) (Ref.pre (A := G2 w0 F0) ?_ (fun s ρ w h => (fun ⟨F, hW, h0, h6, h8, h9, h56⟩ => ⟨F, hW⟩ : G9 w0 F0 s ρ w → G2 w0 F0 s ρ w) h.2)) (Ref.pre (A := G10 w0 F0) ?_ (fun s ρ w h => (fun ⟨F, hW, h0, h6, h8, h9, h56⟩ => ⟨F, hW, h0, h6, h8, h9⟩ : G9 w0 F0 s ρ w → G10 w0 F0 s ρ w) h.2))
    · refine Ref.seq (B := G3 w0 F0) ?_ ?_
      · refine Ref.region (fun s ρ w s' h hr => ?_)
        obtain ⟨F, hW⟩ := h
        refine ol_v (e_as _ rfl) rfl ?_
        obtain rfl := Option.some.inj hr
        exact ol_nil ⟨F, hW, rfl⟩
      exact Ref.ret (fun s ρ w h => ⟨s, rfl, h⟩)
    · exact Ref.skip
  refine Ref.seq (B := G3 w0 F0) ?_ ?_
  · refine Ref.region (fun s ρ w s' h hr => ?_)
    obtain ⟨F, hW, h0, h6, h8, h9⟩ := h
    refine ol_v (e_mv _ h6) rfl ?_
    refine ol_v (e_not_ rfl) rfl ?_
    obtain ⟨x105, hx106, hr⟩ := bind_some' hr
    refine ol_cutA 13 59 71 (fun ρ' w' => ∃ F', Wk nrow w F F' w' ∧ ρ' 71 = .bool x105) rfl ?_ ?_
    · by_cases hb81 : (!s.t_6) = true
      · have hr := hx106
        rw [if_pos hb81] at hr
        refine ol_v (e_mv _ rfl) rfl ?_
        refine ol_not rfl rfl rfl (congrArg Value.bool hb81) rfl ?_
        refine ol_not rfl rfl rfl (congrArg Value.bool hb81) rfl ?_
        refine ol_not rfl rfl rfl (congrArg Value.bool hb81) rfl ?_
        refine ol_not rfl rfl rfl (congrArg Value.bool hb81) rfl ?_
        refine ol_not rfl rfl rfl (congrArg Value.bool hb81) rfl ?_
        refine ol_not rfl rfl rfl (congrArg Value.bool hb81) rfl ?_
        refine ol_notU rfl rfl rfl rfl ?_
        refine ol_notU rfl rfl rfl rfl ?_
        refine ol_notU rfl rfl rfl rfl ?_
        refine ol_notU rfl rfl rfl rfl ?_
        refine ol_not rfl rfl rfl (congrArg Value.bool hb81) rfl ?_
        refine ol_v (e_pick true _ (congrArg Value.bool hb81) rfl) rfl ?_
        exact ol_nil ⟨⟨_, Wk.refl hW.ok, (congrArg Value.bool (Option.some.inj hr))⟩, ((((((((((((((Agr.refl _ _ _).upd rfl rfl).upd rfl rfl).upd rfl rfl).upd rfl rfl).upd rfl rfl).upd rfl rfl).upd rfl rfl).upd rfl rfl).upd rfl rfl).upd rfl rfl).upd rfl rfl).upd rfl rfl).upd rfl rfl)⟩
      · have hb82 := Bool.eq_false_iff.mpr hb81
        have hr := hx106
        rw [if_neg hb81] at hr
        refine ol_v (e_mv _ rfl) rfl ?_
        refine ol_yes rfl rfl (congrArg Value.bool hb82) ?_
        refine ol_v (e_mv _ rfl) rfl ?_
        refine ol_yes rfl rfl (congrArg Value.bool hb82) ?_
        obtain ⟨A83, c84, e85, hc86, R87⟩ := id h8
        refine ol_v (e_len (SlT.sl sl_22) e85) rfl ?_
        refine ol_yes rfl rfl (congrArg Value.bool hb82) ?_
        refine ol_v (e_mv _ rfl) rfl ?_
        refine ol_yes rfl rfl (congrArg Value.bool hb82) ?_
        obtain ⟨A88, c89, e90, hc91, R92⟩ := id h0
        refine ol_v (e_len (SlT.sl sl_22) e90) rfl ?_
        refine ol_yes rfl rfl (congrArg Value.bool hb82) ?_
        refine ol_v (e_eql rfl rfl) rfl ?_
        refine ol_yes rfl rfl (congrArg Value.bool hb82) ?_
        obtain ⟨x100, hx101, hr⟩ := bind_some' hr
        refine ol_cutA 6 65 70 (fun ρ' w' => ∃ F', Wk nrow w F F' w' ∧ ρ' 70 = .bool x100) rfl ?_ ?_
        · by_cases hb93 : (decide ((s.t_8.length : Int) = (s.t_0.length : Int))) = true
          · have hr := hx101
            rw [if_pos hb93] at hr
            refine ol_v (e_mv _ rfl) rfl ?_
            refine ol_yes rfl rfl (congrArg Value.bool hb93) ?_
            refine ol_v (e_mv _ h9) rfl ?_
            refine ol_yes rfl rfl (congrArg Value.bool hb93) ?_
            refine ol_v (e_mv _ rfl) rfl ?_
            refine ol_yes rfl rfl (congrArg Value.bool hb93) ?_
            obtain ⟨x95, hx95, hr⟩ := bind_some' hr
            refine ol_e (f_call [(ρ 0)] fn_12 (lcons rfl rfl) (ref4_FrameCount.calls hW.ok h0 hx95)) rfl rfl ?_
            rintro _ w96 ⟨Fz97, rfl, kw1⟩
            have hW99 := hW.trans kw1
            have st1 := kw1.stp hW.ok
            refine ol_yes rfl rfl (congrArg Value.bool hb93) ?_
            refine ol_v (e_eql rfl rfl) rfl ?_
            refine ol_yes rfl rfl (congrArg Value.bool hb82) ?_
            refine ol_v (e_pick true _ (congrArg Value.bool hb93) rfl) rfl ?_
            exact ol_nil ⟨⟨_, kw1, (congrArg Value.bool (Option.some.inj hr))⟩, (((((((Agr.refl _ _ _).upd rfl rfl).upd rfl rfl).upd rfl rfl).upd rfl rfl).upd rfl rfl).upd rfl rfl)⟩
          · have hb94 := Bool.eq_false_iff.mpr hb93
            have hr := hx101
            rw [if_neg hb93] at hr
            refine ol_v (e_mv _ rfl) rfl ?_
            refine ol_not rfl rfl rfl (congrArg Value.bool hb94) rfl ?_
            refine ol_not rfl rfl rfl (congrArg Value.bool hb94) rfl ?_
            refine ol_not rfl rfl rfl (congrArg Value.bool hb94) rfl ?_
            refine ol_not rfl rfl rfl (congrArg Value.bool hb94) rfl ?_
            refine ol_yes rfl rfl (congrArg Value.bool hb82) ?_
            refine ol_v (e_pick false _ (congrArg Value.bool hb94) rfl) rfl ?_
            exact ol_nil ⟨⟨_, Wk.refl hW.ok, (congrArg Value.bool (Option.some.inj hr))⟩, (((((((Agr.refl _ _ _).upd rfl rfl).upd rfl rfl).upd rfl rfl).upd rfl rfl).upd rfl rfl).upd rfl rfl)⟩
        rintro ρ101 w102 ⟨⟨Fz103, kw1, hp101⟩, hAg101⟩
        have hW104 := hW.trans kw1
        have st1 := kw1.stp hW.ok
        refine ol_v (e_pick false _ ((hAg101 59 rfl).trans (congrArg Value.bool hb82)) hp101) rfl ?_
        exact ol_nil ⟨⟨_, kw1, (congrArg Value.bool (Option.some.inj hr))⟩, (((((((((Agr.refl _ _ _).upd rfl rfl).upd rfl rfl).upd rfl rfl).upd rfl rfl).upd rfl rfl).upd rfl rfl).into hAg101 rfl rfl).upd rfl rfl)⟩
    rintro ρ106 w107 ⟨⟨Fz108, kw1, hp106⟩, hAg106⟩
    have hW109 := hW.trans kw1
    have st1 := kw1.stp hW.ok
    refine ol_v (e_as _ hp106) rfl ?_
    obtain rfl := Option.some.inj hr
    exact ol_nil ⟨Fz108, hW109, rfl⟩
  exact Ref.ret (fun s ρ w h => ⟨s, rfl, h⟩)
def post (w : World) (F : BSet) (r : R) (v : Value) (w' : World) : Prop := ∃ (F' : BSet), v = .bool r ∧ Wk nrow w F F' w'
theorem calls {w : World} {F : BSet} (hok : ∀ b, F b → b < w.heap.size) {v0 : Value} {a0 : (List UInt8)} (h0 : SlR kByte F w v0 a0) {v1 : Value} {a1 : (List Bool)} (h1 : SlR kBool F w v1 a1) {r : R} (hf : f a0 a1 = some r) : Calls Try.prog 7 #[v0, v1] w fun e w' => ∃ v, e = .returned v ∧ post w F r v w' := by
  obtain ⟨c, hc, href⟩ := ref w F
  refine calls_of_ref (args := [v0, v1]) _ Try.func7 hc rfl rfl href ?_ (retOf_some hf) ?_
  · exact ⟨F, Wk.refl hok, h0, h1⟩
  · rintro ρ w' a ⟨s, rfl, F', hW, h4⟩ hF
    refine ⟨_, run_results (rs := [.tmp 4]) rfl hF (vs := [ρ 4]) (⟨_, rfl, rfl⟩), ?_⟩
    have hv : resVal [ρ 4] = .bool s.t_4 := by rw [h4]; rfl
    exact ⟨F', hv, hW⟩
end
end law4_TransferPlanDelivers

end Go.Proofs.Ytpdkgodonemonaa
