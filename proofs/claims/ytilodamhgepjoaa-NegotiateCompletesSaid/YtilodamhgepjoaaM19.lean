/- The machine's calls come to these plain functions (written by a program, wip/fx/gen.py). -/
import Derived.Test.YtilodamhgepjoaaPA
import Derived.Test.YtilodamhgepjoaaNm
import Derived.Test.YtilodamhgepjoaaM1
import Derived.Test.YtilodamhgepjoaaM7
import Derived.Test.YtilodamhgepjoaaM9
import Derived.Test.YtilodamhgepjoaaIt
namespace Go.Proofs.Ytilodamhgepjoaa
open Go.Fx Go.RowKit
set_option linter.unusedVariables false

namespace law4_NegotiateCompletes
section
def G0 (w0 : World) (F0 : BSet) (s : S) (ρ : Env) (w : World) : Prop := ∃ (F : BSet), Wk nrow w0 F0 F w ∧ SlR k_Commit F w (ρ 0) s.t_0 ∧ SlR kBool F w (ρ 1) s.t_1 ∧ SlR kBool F w (ρ 2) s.t_2 ∧ SlR (kInt .i64) F w (ρ 3) s.t_3
def G1 (w0 : World) (F0 : BSet) (s : S) (ρ : Env) (w : World) : Prop := ∃ (F : BSet), Wk nrow w0 F0 F w ∧ SlR k_Commit F w (ρ 0) s.t_0 ∧ SlR kBool F w (ρ 1) s.t_1 ∧ SlR kBool F w (ρ 2) s.t_2 ∧ SlR (kInt .i64) F w (ρ 3) s.t_3 ∧ ρ 18 = .bool s.t_18
def G2 (w0 : World) (F0 : BSet) (s : S) (ρ : Env) (w : World) : Prop := ∃ (F : BSet), Wk nrow w0 F0 F w
def G3 (w0 : World) (F0 : BSet) (s : S) (ρ : Env) (w : World) : Prop := ∃ (F : BSet), Wk nrow w0 F0 F w ∧ ρ 8 = .bool s.t_8
def G4 (w0 : World) (F0 : BSet) (s : S) (ρ : Env) (w : World) : Prop := ∃ (F : BSet), Wk nrow w0 F0 F w ∧ ∃ (g11 : Nat), SlR k_Commit F w (ρ 0) s.t_0 ∧ SlR kBool F w (ρ 1) s.t_1 ∧ SlR kBool F w (ρ 2) s.t_2 ∧ SlR (kInt .i64) F w (ρ 3) s.t_3 ∧ SlR (kInt .i64) F w (ρ 10) s.t_10 ∧ ρ 11 = .pointer (some ⟨g11, 0, none⟩) ∧ Box k_Fault 26 (Bs w0 nrow) F w g11 s.t_11
def G5 (w0 : World) (F0 : BSet) (s : S) (ρ : Env) (w : World) : Prop := ∃ (F : BSet), Wk nrow w0 F0 F w ∧ SlR k_Commit F w (ρ 0) s.t_0 ∧ SlR kBool F w (ρ 1) s.t_1 ∧ SlR kBool F w (ρ 2) s.t_2 ∧ SlR (kInt .i64) F w (ρ 3) s.t_3 ∧ SlR (kInt .i64) F w (ρ 10) s.t_10 ∧ ρ 39 = .bool s.t_39
def G6 (w0 : World) (F0 : BSet) (s : S) (ρ : Env) (w : World) : Prop := ∃ (F : BSet), Wk nrow w0 F0 F w ∧ SlR (kInt .i64) F w (ρ 10) s.t_10
def G7 (w0 : World) (F0 : BSet) (s : S) (ρ : Env) (w : World) : Prop := ∃ (F : BSet), Wk nrow w0 F0 F w ∧ SlR k_Commit F w (ρ 0) s.t_0 ∧ SlR kBool F w (ρ 1) s.t_1 ∧ SlR kBool F w (ρ 2) s.t_2 ∧ SlR (kInt .i64) F w (ρ 3) s.t_3 ∧ SlR (kInt .i64) F w (ρ 10) s.t_10
def G8 (w0 : World) (F0 : BSet) (s : S) (ρ : Env) (w : World) : Prop := ∃ (F : BSet), Wk nrow w0 F0 F w ∧ SlR k_Commit F w (ρ 0) s.t_0 ∧ SlR kBool F w (ρ 1) s.t_1 ∧ SlR (kInt .i64) F w (ρ 3) s.t_3 ∧ SlR (kInt .i64) F w (ρ 10) s.t_10 ∧ OwnV kBool 4 (Bs w0 nrow) F w (ρ 12) s.t_12
def G9 (w0 : World) (F0 : BSet) (s : S) (ρ : Env) (w : World) : Prop := ∃ (F : BSet), Wk nrow w0 F0 F w ∧ SlR k_Commit F w (ρ 0) s.t_0 ∧ SlR kBool F w (ρ 1) s.t_1 ∧ SlR (kInt .i64) F w (ρ 3) s.t_3 ∧ SlR (kInt .i64) F w (ρ 10) s.t_10 ∧ OwnV kBool 4 (Bs w0 nrow) F w (ρ 12) s.t_12 ∧ ρ 13 = .int .i64 s.t_13
def G10 (w0 : World) (F0 : BSet) (s : S) (ρ : Env) (w : World) : Prop := ∃ (F : BSet), Wk nrow w0 F0 F w ∧ SlR k_Commit F w (ρ 0) s.t_0 ∧ SlR kBool F w (ρ 1) s.t_1 ∧ SlR (kInt .i64) F w (ρ 3) s.t_3 ∧ SlR (kInt .i64) F w (ρ 10) s.t_10 ∧ OwnV kBool 4 (Bs w0 nrow) F w (ρ 12) s.t_12 ∧ ρ 13 = .int .i64 s.t_13 ∧ ρ 48 = .bool s.t_48
def G11 (w0 : World) (F0 : BSet) (s : S) (ρ : Env) (w : World) : Prop := ∃ (F : BSet), Wk nrow w0 F0 F w ∧ SlR k_Commit F w (ρ 0) s.t_0 ∧ SlR (kInt .i64) F w (ρ 3) s.t_3 ∧ OwnV kBool 4 (Bs w0 nrow) F w (ρ 12) s.t_12
def G12 (w0 : World) (F0 : BSet) (s : S) (ρ : Env) (w : World) : Prop := ∃ (F : BSet), Wk nrow w0 F0 F w ∧ SlR k_Commit F w (ρ 0) s.t_0 ∧ SlR kBool F w (ρ 1) s.t_1 ∧ SlR (kInt .i64) F w (ρ 3) s.t_3 ∧ SlR (kInt .i64) F w (ρ 10) s.t_10 ∧ OwnV kBool 4 (Bs w0 nrow) F w (ρ 12) s.t_12 ∧ ρ 13 = .int .i64 s.t_13 ∧ ρ 78 = .bool s.t_78
def G13 (w0 : World) (F0 : BSet) (s : S) (ρ : Env) (w : World) : Prop := ∃ (F : BSet), Wk nrow w0 F0 F w ∧ SlR k_Commit F w (ρ 0) s.t_0 ∧ SlR (kInt .i64) F w (ρ 3) s.t_3 ∧ OwnV kBool 4 (Bs w0 nrow) F w (ρ 12) s.t_12 ∧ ρ 14 = .int .i64 s.t_14
def G14 (w0 : World) (F0 : BSet) (s : S) (ρ : Env) (w : World) : Prop := ∃ (F : BSet), Wk nrow w0 F0 F w ∧ SlR k_Commit F w (ρ 0) s.t_0 ∧ SlR (kInt .i64) F w (ρ 3) s.t_3 ∧ OwnV kBool 4 (Bs w0 nrow) F w (ρ 12) s.t_12 ∧ ρ 14 = .int .i64 s.t_14 ∧ ρ 88 = .bool s.t_88
def G15 (w0 : World) (F0 : BSet) (s : S) (ρ : Env) (w : World) : Prop := ∃ (F : BSet), Wk nrow w0 F0 F w ∧ SlR k_Commit F w (ρ 0) s.t_0 ∧ OwnV kBool 4 (Bs w0 nrow) F w (ρ 12) s.t_12
def G16 (w0 : World) (F0 : BSet) (s : S) (ρ : Env) (w : World) : Prop := ∃ (F : BSet), Wk nrow w0 F0 F w ∧ SlR k_Commit F w (ρ 0) s.t_0 ∧ SlR (kInt .i64) F w (ρ 3) s.t_3 ∧ OwnV kBool 4 (Bs w0 nrow) F w (ρ 12) s.t_12 ∧ ρ 14 = .int .i64 s.t_14 ∧ ρ 98 = .bool s.t_98
def G17 (w0 : World) (F0 : BSet) (s : S) (ρ : Env) (w : World) : Prop := ∃ (F : BSet), Wk nrow w0 F0 F w ∧ SlR k_Commit F w (ρ 0) s.t_0 ∧ OwnV kBool 4 (Bs w0 nrow) F w (ρ 12) s.t_12 ∧ ρ 15 = .int .i64 s.t_15
def G18 (w0 : World) (F0 : BSet) (s : S) (ρ : Env) (w : World) : Prop := ∃ (F : BSet), Wk nrow w0 F0 F w ∧ SlR k_Commit F w (ρ 0) s.t_0 ∧ OwnV kBool 4 (Bs w0 nrow) F w (ρ 12) s.t_12 ∧ ρ 15 = .int .i64 s.t_15 ∧ ρ 102 = .bool s.t_102
def G19 (w0 : World) (F0 : BSet) (s : S) (ρ : Env) (w : World) : Prop := ∃ (F : BSet), Wk nrow w0 F0 F w ∧ SlR k_Commit F w (ρ 0) s.t_0 ∧ OwnV kBool 4 (Bs w0 nrow) F w (ρ 12) s.t_12 ∧ ρ 15 = .int .i64 s.t_15 ∧ ρ 16 = .int .i64 s.t_16
def G20 (w0 : World) (F0 : BSet) (s : S) (ρ : Env) (w : World) : Prop := ∃ (F : BSet), Wk nrow w0 F0 F w ∧ SlR k_Commit F w (ρ 0) s.t_0 ∧ OwnV kBool 4 (Bs w0 nrow) F w (ρ 12) s.t_12 ∧ ρ 15 = .int .i64 s.t_15 ∧ ρ 16 = .int .i64 s.t_16 ∧ ρ 112 = .bool s.t_112
def G21 (w0 : World) (F0 : BSet) (s : S) (ρ : Env) (w : World) : Prop := ∃ (F : BSet), Wk nrow w0 F0 F w ∧ SlR k_Commit F w (ρ 0) s.t_0 ∧ OwnV kBool 4 (Bs w0 nrow) F w (ρ 12) s.t_12 ∧ ρ 15 = .int .i64 s.t_15 ∧ ρ 16 = .int .i64 s.t_16 ∧ ρ 132 = .bool s.t_132
set_option maxHeartbeats 4000000 in
set_option maxRecDepth 20000 in
theorem ref (w0 : World) (F0 : BSet) : ∃ c, Try.f10.body = some c ∧ Ref Try.prog 133 c (G0 w0 F0) body (fun _ _ _ => False) (fun _ _ _ _ => False) (fun r ρ w => ∃ s, retv s = r ∧ G3 w0 F0 s ρ w) := by
  refine ⟨_, rfl, ?_⟩
  unfold body
  refine Ref.seq (B := G0 w0 F0) ?_ ?_
  · refine Ref.region (fun s ρ w s' h hr => ?_)
    obtain ⟨F, hW, h0, h1, h2, h3⟩ := h
    refine ol_v (e_as _ rfl) rfl ?_
    obtain rfl := Option.some.inj hr
    exact ol_nil ⟨F, hW, h0, h1, h2, h3⟩
  refine Ref.seq (B := G0 w0 F0) ?_ ?_
  · refine Ref.seq (B := G1 w0 F0) ?_ ?_
    · refine Ref.region (fun s ρ w s' h hr => ?_)
      obtain ⟨F, hW, h0, h1, h2, h3⟩ := h
      obtain ⟨x1, hx1, hr⟩ := bind_some' hr
      refine ol_e (f_call [] fn_27 rfl (law4_negotiateExample.calls hW.ok  hx1)) rfl rfl ?_
      rintro _ w2 ⟨Fz3, rfl, kw1⟩
      have hW5 := hW.trans kw1
      have st1 := kw1.stp hW.ok
      refine ol_v (e_not_ rfl) rfl ?_
      obtain rfl := Option.some.inj hr
      exact ol_nil ⟨Fz3, hW5, (h0.keep st1), (h1.keep st1), (h2.keep st1), (h3.keep st1), rfl⟩
    refine Ref.cond (b := fun s => s.t_18) (fun s ρ w ⟨F, hW, h0, h1, h2, h3, h18⟩ => h18) (Ref.pre (A := G2 w0 F0) ?_ (fun s ρ w h => (fun ⟨F, hW, h0, h1, h2, h3, h18⟩ => ⟨F, hW⟩ : G1 w0 F0 s ρ w → G2 w0 F0 s ρ w) h.2)) (Ref.pre (A := G0 w0 F0) ?_ (fun s ρ w h => (fun ⟨F, hW, h0, h1, h2, h3, h18⟩ => ⟨F, hW, h0, h1, h2, h3⟩ : G1 w0 F0 s ρ w → G0 w0 F0 s ρ w) h.2))
    · refine Ref.seq (B := G3 w0 F0) ?_ ?_
      · refine Ref.region (fun s ρ w s' h hr => ?_)
        obtain ⟨F, hW⟩ := h
        refine ol_v (e_as _ rfl) rfl ?_
        obtain rfl := Option.some.inj hr
        exact ol_nil ⟨F, hW, rfl⟩
      exact Ref.ret (fun s ρ w h => ⟨s, rfl, h⟩)
    · exact Ref.skip
  refine Ref.seq (B := G4 w0 F0) ?_ ?_
  · refine Ref.region (fun s ρ w s' h hr => ?_)
    obtain ⟨F, hW, h0, h1, h2, h3⟩ := h
    refine ol_v (e_mv _ rfl) rfl ?_
    refine ol_v (e_mv _ rfl) rfl ?_
    refine ol_v (e_mv _ rfl) rfl ?_
    refine ol_v (e_mv _ rfl) rfl ?_
    obtain ⟨x6, hx6, hr⟩ := bind_some' hr
    refine ol_e (f_call [(ρ 0), (ρ 1), (ρ 2), (ρ 3)] fn_29 (lcons rfl (lcons rfl (lcons rfl (lcons rfl rfl)))) (negotiate_Run.calls hW.ok h0 h1 h2 h3 hx6)) rfl rfl ?_
    rintro _ w7 ⟨Fz8, v9, v11, v13, rfl, kw1, hk10, hk12, hk14⟩
    have hW16 := hW.trans kw1
    have st1 := kw1.stp hW.ok
    refine ol_v (e_mv _ rfl) rfl ?_
    refine ol_v (e_ext _ rfl rfl) rfl ?_
    refine ol_v (e_ext _ rfl rfl) rfl ?_
    refine ol_v (e_ext _ rfl rfl) rfl ?_
    refine ol_e (f_alloc zer_26 hW16) rfl rfl ?_
    rintro _ w18 ⟨g17, rfl, kw2, ho19⟩
    have hW20 := hW16.trans kw2
    have st2 := kw2.stp hW16.ok
    refine ol_v (e_as _ rfl) rfl ?_
    obtain ⟨Fz21, hWz22, st3, hF3, hz23⟩ := (((hk12.base (row := nrow) hW.le).wk kw2 hW16.ok)).frozen hW20
    refine ol_v (e_as _ rfl) rfl ?_
    refine ol_eN (f_stB hWz22 ((ho19.base (row := nrow) hW16.le).frz (apart_bo (ho19.base (row := nrow) hW16.le) ((hk12.base (row := nrow) hW.le).wk kw2 hW16.ok) rfl).symm hF3 st3) (FldS.whole _) ty_26 (hk14.keep (st2.trans st3)) rfl rfl) rfl ?_
    rintro - w24 ⟨hW25, ho26, hg4, st4⟩
    obtain rfl := Option.some.inj hr
    exact ol_nil ⟨Fz21, hW25, g17, (h0.keep (st1.trans (st2.trans (st3.trans st4)))), (h1.keep (st1.trans (st2.trans (st3.trans st4)))), (h2.keep (st1.trans (st2.trans (st3.trans st4)))), (h3.keep (st1.trans (st2.trans (st3.trans st4)))), (hz23.keep st4), rfl, ho26⟩
  refine Ref.seq (B := G7 w0 F0) ?_ ?_
  · refine Ref.seq (B := G5 w0 F0) ?_ ?_
    · refine Ref.region (fun s ρ w s' h hr => ?_)
      obtain ⟨F, hW, g11, h0, h1, h2, h3, h10, p11, h11⟩ := h
      refine ol_v (e_fa fa_26_0 p11) rfl ?_
      refine ol_v (e_ld ty_3 (LiesV.int ((h11).at_.fld fl_Fault_0)) rfl) rfl ?_
      refine ol_v (e_neq rfl rfl) rfl ?_
      obtain ⟨x36, hx37, hr⟩ := bind_some' hr
      refine ol_cutA 9 31 39 (fun ρ' w' => ∃ F', Wk nrow w F F' w' ∧ ρ' 39 = .bool x36) rfl ?_ ?_
      · by_cases hb27 : (!decide (s.t_11.Code = (0 : Int))) = true
        · have hr := hx37
          rw [if_pos hb27] at hr
          refine ol_v (e_mv _ rfl) rfl ?_
          refine ol_not rfl rfl rfl (congrArg Value.bool hb27) rfl ?_
          refine ol_not rfl rfl rfl (congrArg Value.bool hb27) rfl ?_
          refine ol_not rfl rfl rfl (congrArg Value.bool hb27) rfl ?_
          refine ol_not rfl rfl rfl (congrArg Value.bool hb27) rfl ?_
          refine ol_not rfl rfl rfl (congrArg Value.bool hb27) rfl ?_
          refine ol_not rfl rfl rfl (congrArg Value.bool hb27) rfl ?_
          refine ol_not rfl rfl rfl (congrArg Value.bool hb27) rfl ?_
          refine ol_v (e_pick true _ (congrArg Value.bool hb27) rfl) rfl ?_
          exact ol_nil ⟨⟨_, Wk.refl hW.ok, (congrArg Value.bool (Option.some.inj hr))⟩, ((((((((((Agr.refl _ _ _).upd rfl rfl).upd rfl rfl).upd rfl rfl).upd rfl rfl).upd rfl rfl).upd rfl rfl).upd rfl rfl).upd rfl rfl).upd rfl rfl)⟩
        · have hb28 := Bool.eq_false_iff.mpr hb27
          have hr := hx37
          rw [if_neg hb27] at hr
          refine ol_v (e_mv _ rfl) rfl ?_
          refine ol_yes rfl rfl (congrArg Value.bool hb28) ?_
          refine ol_v (e_mv _ rfl) rfl ?_
          refine ol_yes rfl rfl (congrArg Value.bool hb28) ?_
          refine ol_v (e_mv _ rfl) rfl ?_
          refine ol_yes rfl rfl (congrArg Value.bool hb28) ?_
          refine ol_v (e_mv _ rfl) rfl ?_
          refine ol_yes rfl rfl (congrArg Value.bool hb28) ?_
          refine ol_v (e_mv _ rfl) rfl ?_
          refine ol_yes rfl rfl (congrArg Value.bool hb28) ?_
          obtain ⟨x29, hx29, hr⟩ := bind_some' hr
          refine ol_e (f_call [(ρ 0), (ρ 1), (ρ 2), (ρ 3)] fn_30 (lcons rfl (lcons rfl (lcons rfl (lcons rfl rfl)))) (ref4_NegotiateFault.calls hW.ok h0 h1 h2 h3 hx29)) rfl rfl ?_
          rintro v32 w30 ⟨Fz31, _, rfl, kw1, hk33⟩
          have hW35 := hW.trans kw1
          have st1 := kw1.stp hW.ok
          refine ol_yes rfl rfl (congrArg Value.bool hb28) ?_
          refine ol_v (e_field_int (by kernel_rfl) ty_3 fl_Fault_0 rfl hk33 rfl) rfl ?_
          refine ol_yes rfl rfl (congrArg Value.bool hb28) ?_
          refine ol_v (e_neq rfl rfl) rfl ?_
          refine ol_v (e_pick false _ (congrArg Value.bool hb28) rfl) rfl ?_
          exact ol_nil ⟨⟨_, kw1, (congrArg Value.bool (Option.some.inj hr))⟩, ((((((((((Agr.refl _ _ _).upd rfl rfl).upd rfl rfl).upd rfl rfl).upd rfl rfl).upd rfl rfl).upd rfl rfl).upd rfl rfl).upd rfl rfl).upd rfl rfl)⟩
      rintro ρ37 w38 ⟨⟨Fz39, kw1, hp37⟩, hAg37⟩
      have hW40 := hW.trans kw1
      have st1 := kw1.stp hW.ok
      obtain rfl := Option.some.inj hr
      exact ol_nil ⟨Fz39, hW40, (SlR.eqv (hAg37 0 rfl) (h0.keep st1)), (SlR.eqv (hAg37 1 rfl) (h1.keep st1)), (SlR.eqv (hAg37 2 rfl) (h2.keep st1)), (SlR.eqv (hAg37 3 rfl) (h3.keep st1)), (SlR.eqv (hAg37 10 rfl) (h10.keep st1)), hp37⟩
    refine Ref.cond (b := fun s => s.t_39) (fun s ρ w ⟨F, hW, h0, h1, h2, h3, h10, h39⟩ => h39) (Ref.pre (A := G6 w0 F0) ?_ (fun s ρ w h => (fun ⟨F, hW, h0, h1, h2, h3, h10, h39⟩ => ⟨F, hW, h10⟩ : G5 w0 F0 s ρ w → G6 w0 F0 s ρ w) h.2)) (Ref.pre (A := G7 w0 F0) ?_ (fun s ρ w h => (fun ⟨F, hW, h0, h1, h2, h3, h10, h39⟩ => ⟨F, hW, h0, h1, h2, h3, h10⟩ : G5 w0 F0 s ρ w → G7 w0 F0 s ρ w) h.2))
    · refine Ref.seq (B := G3 w0 F0) ?_ ?_
      · refine Ref.region (fun s ρ w s' h hr => ?_)
        obtain ⟨F, hW, h10⟩ := h
        refine ol_v (e_mv _ rfl) rfl ?_
        obtain ⟨A41, c42, e43, hc44, R45⟩ := id h10
        refine ol_v (e_len (SlT.sl sl_23) e43) rfl ?_
        refine ol_v (e_eql rfl rfl) rfl ?_
        refine ol_v (e_as _ rfl) rfl ?_
        obtain rfl := Option.some.inj hr
        exact ol_nil ⟨F, hW, rfl⟩
      exact Ref.ret (fun s ρ w h => ⟨s, rfl, h⟩)
    · exact Ref.skip
  refine Ref.seq (B := G8 w0 F0) ?_ ?_
  · refine Ref.region (fun s ρ w s' h hr => ?_)
    obtain ⟨F, hW, h0, h1, h2, h3, h10⟩ := h
    refine ol_v (e_mv _ rfl) rfl ?_
    obtain ⟨x46, hx46, hr⟩ := bind_some' hr
    refine ol_e (f_app sl_46 hW (OwnV.nil kBool 4 (Bs w0 nrow) F w) h2 hx46 rfl rfl) rfl rfl ?_
    rintro v47 w48 ⟨hW49, ho50, hg1, st1, hor51⟩
    refine ol_v (e_as _ rfl) rfl ?_
    obtain rfl := Option.some.inj hr
    exact ol_nil ⟨F, hW49, (h0.keep st1), (h1.keep st1), (h3.keep st1), (h10.keep st1), ho50⟩
  refine Ref.seq (B := G11 w0 F0) ?_ ?_
  · refine Ref.seq (B := G9 w0 F0) ?_ ?_
    · refine Ref.region (fun s ρ w s' h hr => ?_)
      obtain ⟨F, hW, h0, h1, h3, h10, h12⟩ := h
      refine ol_v (e_as _ rfl) rfl ?_
      obtain rfl := Option.some.inj hr
      exact ol_nil ⟨F, hW, h0, h1, h3, h10, h12, rfl⟩
    refine Ref.block ?_
    refine Ref.loop ?_
    refine Ref.seq (B := G9 w0 F0) ?_ ?_
    · refine Ref.seq (B := G10 w0 F0) ?_ ?_
      · refine Ref.region (fun s ρ w s' h hr => ?_)
        obtain ⟨F, hW, h0, h1, h3, h10, h12, h13⟩ := h
        refine ol_v (e_mv _ h13) rfl ?_
        refine ol_v (e_mv _ rfl) rfl ?_
        obtain ⟨A52, c53, e54, hc55, R56⟩ := id h10
        refine ol_v (e_len (SlT.sl sl_23) e54) rfl ?_
        refine ol_v (e_lss rfl rfl) rfl ?_
        obtain rfl := Option.some.inj hr
        exact ol_nil ⟨F, hW, h0, h1, h3, h10, h12, h13, rfl⟩
      refine Ref.cond (b := fun s => s.t_48) (fun s ρ w ⟨F, hW, h0, h1, h3, h10, h12, h13, h48⟩ => h48) (Ref.pre (A := G9 w0 F0) ?_ (fun s ρ w h => (fun ⟨F, hW, h0, h1, h3, h10, h12, h13, h48⟩ => ⟨F, hW, h0, h1, h3, h10, h12, h13⟩ : G10 w0 F0 s ρ w → G9 w0 F0 s ρ w) h.2)) (Ref.pre (A := G11 w0 F0) ?_ (fun s ρ w h => (fun ⟨F, hW, h0, h1, h3, h10, h12, h13, h48⟩ => ⟨F, hW, h0, h3, h12⟩ : G10 w0 F0 s ρ w → G11 w0 F0 s ρ w) h.2))
      · exact Ref.skip
      · exact Ref.exit (fun s ρ w h => h)
    refine Ref.seq (B := G9 w0 F0) ?_ ?_
    · refine Ref.block ?_
      refine Ref.seq (B := G9 w0 F0) ?_ ?_
      · refine Ref.seq (B := G12 w0 F0) ?_ ?_
        · refine Ref.region (fun s ρ w s' h hr => ?_)
          obtain ⟨F, hW, h0, h1, h3, h10, h12, h13⟩ := h
          refine ol_v (e_mv _ rfl) rfl ?_
          refine ol_v (e_mv _ h13) rfl ?_
          obtain ⟨x57, hx57, hr⟩ := bind_some' hr
          obtain ⟨A58, c59, e60, hc61, R62⟩ := id h10
          obtain ⟨b63, o64, hA65, L66⟩ := Row.at_ R62 hx57
          refine ol_v (e_ix (SlT.sl sl_23) (SlT.sz sl_23) hA65 hx57 e60 rfl) rfl ?_
          refine ol_v (e_ld ty_3 (LiesV.int L66.at_) rfl) rfl ?_
          refine ol_v (e_mv _ rfl) rfl ?_
          obtain ⟨A67, c68, e69, hc70, R71⟩ := id h0
          refine ol_v (e_len (SlT.sl sl_22) e69) rfl ?_
          refine ol_v (e_sub rfl rfl) rfl ?_
          obtain ⟨x72, hx72, hr⟩ := bind_some' hr
          refine ol_e (f_call [.int .i64 x57, .int .i64 (0 : Int), .int .i64 (w64 ((s.t_0.length : Int) - (1 : Int)))] fn_16 (lcons rfl (lcons rfl (lcons rfl rfl))) (ref3_In.calls hW.ok x57 (0 : Int) (w64 ((s.t_0.length : Int) - (1 : Int))) hx72)) rfl rfl ?_
          rintro _ w73 ⟨Fz74, rfl, kw1⟩
          have hW76 := hW.trans kw1
          have st1 := kw1.stp hW.ok
          refine ol_v (e_not_ rfl) rfl ?_
          obtain ⟨x95, hx96, hr⟩ := bind_some' hr
          refine ol_cutA 9 60 68 (fun ρ' w' => w73 = w' ∧ ρ' 68 = .bool x95) rfl ?_ ?_
          · by_cases hb77 : (!x72) = true
            · have hr := hx96
              rw [if_pos hb77] at hr
              refine ol_v (e_mv _ rfl) rfl ?_
              refine ol_not rfl rfl rfl (congrArg Value.bool hb77) rfl ?_
              refine ol_not rfl rfl rfl (congrArg Value.bool hb77) rfl ?_
              refine ol_not rfl rfl rfl (congrArg Value.bool hb77) rfl ?_
              refine ol_not rfl rfl rfl (congrArg Value.bool hb77) rfl ?_
              refine ol_not rfl rfl rfl (congrArg Value.bool hb77) rfl ?_
              refine ol_not rfl rfl rfl (congrArg Value.bool hb77) rfl ?_
              refine ol_not rfl rfl rfl (congrArg Value.bool hb77) rfl ?_
              refine ol_v (e_pick true _ (congrArg Value.bool hb77) rfl) rfl ?_
              exact ol_nil ⟨⟨rfl, (congrArg Value.bool (Option.some.inj hr))⟩, ((((((((((Agr.refl _ _ _).upd rfl rfl).upd rfl rfl).upd rfl rfl).upd rfl rfl).upd rfl rfl).upd rfl rfl).upd rfl rfl).upd rfl rfl).upd rfl rfl)⟩
            · have hb78 := Bool.eq_false_iff.mpr hb77
              have hr := hx96
              rw [if_neg hb77] at hr
              refine ol_v (e_mv _ rfl) rfl ?_
              refine ol_yes rfl rfl (congrArg Value.bool hb78) ?_
              refine ol_v (e_mv _ rfl) rfl ?_
              refine ol_yes rfl rfl (congrArg Value.bool hb78) ?_
              refine ol_v (e_mv _ rfl) rfl ?_
              refine ol_yes rfl rfl (congrArg Value.bool hb78) ?_
              refine ol_v (e_mv _ h13) rfl ?_
              refine ol_yes rfl rfl (congrArg Value.bool hb78) ?_
              obtain ⟨x79, hx79, hr⟩ := bind_some' hr
              obtain ⟨A80, c81, e82, hc83, R84⟩ := id (h10.keep st1)
              obtain ⟨b85, o86, hA87, L88⟩ := Row.at_ R84 hx79
              refine ol_v (e_ix (SlT.sl sl_23) (SlT.sz sl_23) hA87 hx79 e82 rfl) rfl ?_
              refine ol_yes rfl rfl (congrArg Value.bool hb78) ?_
              refine ol_v (e_ld ty_3 (LiesV.int L88.at_) rfl) rfl ?_
              refine ol_yes rfl rfl (congrArg Value.bool hb78) ?_
              obtain ⟨x89, hx89, hr⟩ := bind_some' hr
              obtain ⟨g90, o91, c92, hv93, L94⟩ := OwnV.at_ (h12.wk kw1 hW.ok) hx89
              refine ol_v (e_ixO sl_46 hv93 hx89 rfl rfl) rfl ?_
              refine ol_yes rfl rfl (congrArg Value.bool hb78) ?_
              refine ol_v (e_ld ty_4 (LiesV.bool L94) rfl) rfl ?_
              refine ol_v (e_pick false _ (congrArg Value.bool hb78) rfl) rfl ?_
              exact ol_nil ⟨⟨rfl, (congrArg Value.bool (Option.some.inj hr))⟩, ((((((((((Agr.refl _ _ _).upd rfl rfl).upd rfl rfl).upd rfl rfl).upd rfl rfl).upd rfl rfl).upd rfl rfl).upd rfl rfl).upd rfl rfl).upd rfl rfl)⟩
          rintro ρ96 _ ⟨⟨rfl, hp96⟩, hAg96⟩
          obtain ⟨x119, hx120, hr⟩ := bind_some' hr
          refine ol_cutA 10 69 78 (fun ρ' w' => w73 = w' ∧ ρ' 78 = .bool x119) rfl ?_ ?_
          · by_cases hb97 : x95 = true
            · have hr := hx120
              rw [if_pos hb97] at hr
              refine ol_v (e_mv _ hp96) rfl ?_
              refine ol_not rfl rfl rfl (congrArg Value.bool hb97) rfl ?_
              refine ol_not rfl rfl rfl (congrArg Value.bool hb97) rfl ?_
              refine ol_not rfl rfl rfl (congrArg Value.bool hb97) rfl ?_
              refine ol_not rfl rfl rfl (congrArg Value.bool hb97) rfl ?_
              refine ol_not rfl rfl rfl (congrArg Value.bool hb97) rfl ?_
              refine ol_not rfl rfl rfl (congrArg Value.bool hb97) rfl ?_
              refine ol_not rfl rfl rfl (congrArg Value.bool hb97) rfl ?_
              refine ol_not rfl rfl rfl (congrArg Value.bool hb97) rfl ?_
              refine ol_v (e_pick true _ (congrArg Value.bool hb97) rfl) rfl ?_
              exact ol_nil ⟨⟨rfl, (congrArg Value.bool (Option.some.inj hr))⟩, (((((((((((Agr.refl _ _ _).upd rfl rfl).upd rfl rfl).upd rfl rfl).upd rfl rfl).upd rfl rfl).upd rfl rfl).upd rfl rfl).upd rfl rfl).upd rfl rfl).upd rfl rfl)⟩
            · have hb98 := Bool.eq_false_iff.mpr hb97
              have hr := hx120
              rw [if_neg hb97] at hr
              refine ol_v (e_mv _ hp96) rfl ?_
              refine ol_yes rfl rfl (congrArg Value.bool hb98) ?_
              refine ol_v (e_mv _ (hAg96 1 rfl)) rfl ?_
              refine ol_yes rfl rfl (congrArg Value.bool hb98) ?_
              refine ol_v (e_mv _ (hAg96 10 rfl)) rfl ?_
              refine ol_yes rfl rfl (congrArg Value.bool hb98) ?_
              refine ol_v (e_mv _ ((hAg96 13 rfl).trans h13)) rfl ?_
              refine ol_yes rfl rfl (congrArg Value.bool hb98) ?_
              obtain ⟨x99, hx99, hr⟩ := bind_some' hr
              obtain ⟨A100, c101, e102, hc103, R104⟩ := id (h10.keep st1)
              obtain ⟨b105, o106, hA107, L108⟩ := Row.at_ R104 hx99
              refine ol_v (e_ix (SlT.sl sl_23) (SlT.sz sl_23) hA107 hx99 e102 rfl) rfl ?_
              refine ol_yes rfl rfl (congrArg Value.bool hb98) ?_
              refine ol_v (e_ld ty_3 (LiesV.int L108.at_) rfl) rfl ?_
              refine ol_yes rfl rfl (congrArg Value.bool hb98) ?_
              obtain ⟨x109, hx109, hr⟩ := bind_some' hr
              obtain ⟨A110, c111, e112, hc113, R114⟩ := id (h1.keep st1)
              obtain ⟨b115, o116, hA117, L118⟩ := Row.at_ R114 hx109
              refine ol_v (e_ix (SlT.sl sl_46) (SlT.sz sl_46) hA117 hx109 e112 rfl) rfl ?_
              refine ol_yes rfl rfl (congrArg Value.bool hb98) ?_
              refine ol_v (e_ld ty_4 (LiesV.bool L118.at_) rfl) rfl ?_
              refine ol_yes rfl rfl (congrArg Value.bool hb98) ?_
              refine ol_v (e_not_ rfl) rfl ?_
              refine ol_v (e_pick false _ (congrArg Value.bool hb98) rfl) rfl ?_
              exact ol_nil ⟨⟨rfl, (congrArg Value.bool (Option.some.inj hr))⟩, (((((((((((Agr.refl _ _ _).upd rfl rfl).upd rfl rfl).upd rfl rfl).upd rfl rfl).upd rfl rfl).upd rfl rfl).upd rfl rfl).upd rfl rfl).upd rfl rfl).upd rfl rfl)⟩
          rintro ρ120 _ ⟨⟨rfl, hp120⟩, hAg120⟩
          obtain rfl := Option.some.inj hr
          exact ol_nil ⟨Fz74, hW76, (SlR.eqv ((hAg120 0 rfl).trans (hAg96 0 rfl)) (h0.keep st1)), (SlR.eqv ((hAg120 1 rfl).trans (hAg96 1 rfl)) (h1.keep st1)), (SlR.eqv ((hAg120 3 rfl).trans (hAg96 3 rfl)) (h3.keep st1)), (SlR.eqv ((hAg120 10 rfl).trans (hAg96 10 rfl)) (h10.keep st1)), (OwnV.eqv ((hAg120 12 rfl).trans (hAg96 12 rfl)) (h12.wk kw1 hW.ok)), ((hAg120 13 rfl).trans ((hAg96 13 rfl).trans h13)), hp120⟩
        refine Ref.cond (b := fun s => s.t_78) (fun s ρ w ⟨F, hW, h0, h1, h3, h10, h12, h13, h78⟩ => h78) (Ref.pre (A := G2 w0 F0) ?_ (fun s ρ w h => (fun ⟨F, hW, h0, h1, h3, h10, h12, h13, h78⟩ => ⟨F, hW⟩ : G12 w0 F0 s ρ w → G2 w0 F0 s ρ w) h.2)) (Ref.pre (A := G9 w0 F0) ?_ (fun s ρ w h => (fun ⟨F, hW, h0, h1, h3, h10, h12, h13, h78⟩ => ⟨F, hW, h0, h1, h3, h10, h12, h13⟩ : G12 w0 F0 s ρ w → G9 w0 F0 s ρ w) h.2))
        · refine Ref.seq (B := G3 w0 F0) ?_ ?_
          · refine Ref.region (fun s ρ w s' h hr => ?_)
            obtain ⟨F, hW⟩ := h
            refine ol_v (e_as _ rfl) rfl ?_
            obtain rfl := Option.some.inj hr
            exact ol_nil ⟨F, hW, rfl⟩
          exact Ref.ret (fun s ρ w h => ⟨s, rfl, h⟩)
        · exact Ref.skip
      refine Ref.region (fun s ρ w s' h hr => ?_)
      obtain ⟨F, hW, h0, h1, h3, h10, h12, h13⟩ := h
      refine ol_v (e_mv _ rfl) rfl ?_
      refine ol_v (e_mv _ rfl) rfl ?_
      refine ol_v (e_mv _ h13) rfl ?_
      obtain ⟨x121, hx121, hr⟩ := bind_some' hr
      obtain ⟨A122, c123, e124, hc125, R126⟩ := id h10
      obtain ⟨b127, o128, hA129, L130⟩ := Row.at_ R126 hx121
      refine ol_v (e_ix (SlT.sl sl_23) (SlT.sz sl_23) hA129 hx121 e124 rfl) rfl ?_
      refine ol_v (e_ld ty_3 (LiesV.int L130.at_) rfl) rfl ?_
      obtain ⟨x131, hx131, hr⟩ := bind_some' hr
      obtain ⟨g132, o133, c134, hv135, L136⟩ := OwnV.at_ h12 hx131
      refine ol_v (e_ixO sl_46 hv135 hx131 rfl rfl) rfl ?_
      refine ol_eN (f_stO hW h12 hx131 (FldS.whole _) ty_4 (val_bool _) hv135 rfl rfl) rfl ?_
      rintro - w137 ⟨hW138, ho139, hg1, st1⟩
      obtain rfl := Option.some.inj hr
      exact ol_nil ⟨F, hW138, (h0.keep st1), (h1.keep st1), (h3.keep st1), (h10.keep st1), ho139, h13⟩
    refine Ref.region (fun s ρ w s' h hr => ?_)
    obtain ⟨F, hW, h0, h1, h3, h10, h12, h13⟩ := h
    refine ol_v (e_mv _ h13) rfl ?_
    refine ol_v (e_add rfl rfl) rfl ?_
    refine ol_v (e_as _ rfl) rfl ?_
    obtain rfl := Option.some.inj hr
    exact ol_nil ⟨F, hW, h0, h1, h3, h10, h12, rfl⟩
  refine Ref.seq (B := G15 w0 F0) ?_ ?_
  · refine Ref.seq (B := G13 w0 F0) ?_ ?_
    · refine Ref.region (fun s ρ w s' h hr => ?_)
      obtain ⟨F, hW, h0, h3, h12⟩ := h
      refine ol_v (e_as _ rfl) rfl ?_
      obtain rfl := Option.some.inj hr
      exact ol_nil ⟨F, hW, h0, h3, h12, rfl⟩
    refine Ref.block ?_
    refine Ref.loop ?_
    refine Ref.seq (B := G13 w0 F0) ?_ ?_
    · refine Ref.seq (B := G14 w0 F0) ?_ ?_
      · refine Ref.region (fun s ρ w s' h hr => ?_)
        obtain ⟨F, hW, h0, h3, h12, h14⟩ := h
        refine ol_v (e_mv _ h14) rfl ?_
        refine ol_v (e_mv _ rfl) rfl ?_
        obtain ⟨A140, c141, e142, hc143, R144⟩ := id h3
        refine ol_v (e_len (SlT.sl sl_23) e142) rfl ?_
        refine ol_v (e_lss rfl rfl) rfl ?_
        obtain rfl := Option.some.inj hr
        exact ol_nil ⟨F, hW, h0, h3, h12, h14, rfl⟩
      refine Ref.cond (b := fun s => s.t_88) (fun s ρ w ⟨F, hW, h0, h3, h12, h14, h88⟩ => h88) (Ref.pre (A := G13 w0 F0) ?_ (fun s ρ w h => (fun ⟨F, hW, h0, h3, h12, h14, h88⟩ => ⟨F, hW, h0, h3, h12, h14⟩ : G14 w0 F0 s ρ w → G13 w0 F0 s ρ w) h.2)) (Ref.pre (A := G15 w0 F0) ?_ (fun s ρ w h => (fun ⟨F, hW, h0, h3, h12, h14, h88⟩ => ⟨F, hW, h0, h12⟩ : G14 w0 F0 s ρ w → G15 w0 F0 s ρ w) h.2))
      · exact Ref.skip
      · exact Ref.exit (fun s ρ w h => h)
    refine Ref.seq (B := G13 w0 F0) ?_ ?_
    · refine Ref.block ?_
      refine Ref.seq (B := G16 w0 F0) ?_ ?_
      · refine Ref.region (fun s ρ w s' h hr => ?_)
        obtain ⟨F, hW, h0, h3, h12, h14⟩ := h
        refine ol_v (e_mv _ rfl) rfl ?_
        refine ol_v (e_mv _ rfl) rfl ?_
        refine ol_v (e_mv _ h14) rfl ?_
        obtain ⟨x145, hx145, hr⟩ := bind_some' hr
        obtain ⟨A146, c147, e148, hc149, R150⟩ := id h3
        obtain ⟨b151, o152, hA153, L154⟩ := Row.at_ R150 hx145
        refine ol_v (e_ix (SlT.sl sl_23) (SlT.sz sl_23) hA153 hx145 e148 rfl) rfl ?_
        refine ol_v (e_ld ty_3 (LiesV.int L154.at_) rfl) rfl ?_
        obtain ⟨x155, hx155, hr⟩ := bind_some' hr
        obtain ⟨g156, o157, c158, hv159, L160⟩ := OwnV.at_ h12 hx155
        refine ol_v (e_ixO sl_46 hv159 hx155 rfl rfl) rfl ?_
        refine ol_v (e_ld ty_4 (LiesV.bool L160) rfl) rfl ?_
        refine ol_v (e_not_ rfl) rfl ?_
        obtain rfl := Option.some.inj hr
        exact ol_nil ⟨F, hW, h0, h3, h12, h14, rfl⟩
      refine Ref.cond (b := fun s => s.t_98) (fun s ρ w ⟨F, hW, h0, h3, h12, h14, h98⟩ => h98) (Ref.pre (A := G2 w0 F0) ?_ (fun s ρ w h => (fun ⟨F, hW, h0, h3, h12, h14, h98⟩ => ⟨F, hW⟩ : G16 w0 F0 s ρ w → G2 w0 F0 s ρ w) h.2)) (Ref.pre (A := G13 w0 F0) ?_ (fun s ρ w h => (fun ⟨F, hW, h0, h3, h12, h14, h98⟩ => ⟨F, hW, h0, h3, h12, h14⟩ : G16 w0 F0 s ρ w → G13 w0 F0 s ρ w) h.2))
      · refine Ref.seq (B := G3 w0 F0) ?_ ?_
        · refine Ref.region (fun s ρ w s' h hr => ?_)
          obtain ⟨F, hW⟩ := h
          refine ol_v (e_as _ rfl) rfl ?_
          obtain rfl := Option.some.inj hr
          exact ol_nil ⟨F, hW, rfl⟩
        exact Ref.ret (fun s ρ w h => ⟨s, rfl, h⟩)
      · exact Ref.skip
    refine Ref.region (fun s ρ w s' h hr => ?_)
    obtain ⟨F, hW, h0, h3, h12, h14⟩ := h
    refine ol_v (e_mv _ h14) rfl ?_
    refine ol_v (e_add rfl rfl) rfl ?_
    refine ol_v (e_as _ rfl) rfl ?_
    obtain rfl := Option.some.inj hr
    exact ol_nil ⟨F, hW, h0, h3, h12, rfl⟩
  refine Ref.seq (B := G2 w0 F0) ?_ ?_
  · refine Ref.seq (B := G17 w0 F0) ?_ ?_
    · refine Ref.region (fun s ρ w s' h hr => ?_)
      obtain ⟨F, hW, h0, h12⟩ := h
      refine ol_v (e_as _ rfl) rfl ?_
      obtain rfl := Option.some.inj hr
      exact ol_nil ⟨F, hW, h0, h12, rfl⟩
    refine Ref.block ?_
    refine Ref.loop ?_
    refine Ref.seq (B := G17 w0 F0) ?_ ?_
    · refine Ref.seq (B := G18 w0 F0) ?_ ?_
      · refine Ref.region (fun s ρ w s' h hr => ?_)
        obtain ⟨F, hW, h0, h12, h15⟩ := h
        refine ol_v (e_mv _ h15) rfl ?_
        refine ol_v (e_mv _ rfl) rfl ?_
        obtain ⟨A161, c162, e163, hc164, R165⟩ := id h0
        refine ol_v (e_len (SlT.sl sl_22) e163) rfl ?_
        refine ol_v (e_lss rfl rfl) rfl ?_
        obtain rfl := Option.some.inj hr
        exact ol_nil ⟨F, hW, h0, h12, h15, rfl⟩
      refine Ref.cond (b := fun s => s.t_102) (fun s ρ w ⟨F, hW, h0, h12, h15, h102⟩ => h102) (Ref.pre (A := G17 w0 F0) ?_ (fun s ρ w h => (fun ⟨F, hW, h0, h12, h15, h102⟩ => ⟨F, hW, h0, h12, h15⟩ : G18 w0 F0 s ρ w → G17 w0 F0 s ρ w) h.2)) (Ref.pre (A := G2 w0 F0) ?_ (fun s ρ w h => (fun ⟨F, hW, h0, h12, h15, h102⟩ => ⟨F, hW⟩ : G18 w0 F0 s ρ w → G2 w0 F0 s ρ w) h.2))
      · exact Ref.skip
      · exact Ref.exit (fun s ρ w h => h)
    refine Ref.seq (B := G17 w0 F0) ?_ ?_
    · refine Ref.block ?_
      refine Ref.seq (B := G19 w0 F0) ?_ ?_
      · refine Ref.region (fun s ρ w s' h hr => ?_)
        obtain ⟨F, hW, h0, h12, h15⟩ := h
        refine ol_v (e_as _ rfl) rfl ?_
        obtain rfl := Option.some.inj hr
        exact ol_nil ⟨F, hW, h0, h12, h15, rfl⟩
      refine Ref.block ?_
      refine Ref.loop ?_
      refine Ref.seq (B := G19 w0 F0) ?_ ?_
      · refine Ref.seq (B := G20 w0 F0) ?_ ?_
        · refine Ref.region (fun s ρ w s' h hr => ?_)
          obtain ⟨F, hW, h0, h12, h15, h16⟩ := h
          refine ol_v (e_mv _ h16) rfl ?_
          refine ol_v (e_mv _ rfl) rfl ?_
          refine ol_v (e_mv _ h15) rfl ?_
          obtain ⟨x166, hx166, hr⟩ := bind_some' hr
          obtain ⟨A167, c168, e169, hc170, R171⟩ := id h0
          obtain ⟨b172, o173, hA174, L175⟩ := Row.at_ R171 hx166
          refine ol_v (e_ix (SlT.sl sl_22) (SlT.sz sl_22) hA174 hx166 e169 rfl) rfl ?_
          refine ol_v (e_fa fa_56_0 rfl) rfl ?_
          obtain ⟨v176, hl177, hs178⟩ := LiesV.sl (L175.fld fl_Commit_0).at_
          refine ol_v (e_ld ty_23 hl177 rfl) rfl ?_
          obtain ⟨A179, c180, e181, hc182, R183⟩ := id hs178
          refine ol_v (e_len (SlT.sl sl_23) e181) rfl ?_
          refine ol_v (e_lss rfl rfl) rfl ?_
          obtain rfl := Option.some.inj hr
          exact ol_nil ⟨F, hW, h0, h12, h15, h16, rfl⟩
        refine Ref.cond (b := fun s => s.t_112) (fun s ρ w ⟨F, hW, h0, h12, h15, h16, h112⟩ => h112) (Ref.pre (A := G19 w0 F0) ?_ (fun s ρ w h => (fun ⟨F, hW, h0, h12, h15, h16, h112⟩ => ⟨F, hW, h0, h12, h15, h16⟩ : G20 w0 F0 s ρ w → G19 w0 F0 s ρ w) h.2)) (Ref.pre (A := G17 w0 F0) ?_ (fun s ρ w h => (fun ⟨F, hW, h0, h12, h15, h16, h112⟩ => ⟨F, hW, h0, h12, h15⟩ : G20 w0 F0 s ρ w → G17 w0 F0 s ρ w) h.2))
        · exact Ref.skip
        · exact Ref.exit (fun s ρ w h => h)
      refine Ref.seq (B := G19 w0 F0) ?_ ?_
      · refine Ref.block ?_
        refine Ref.seq (B := G21 w0 F0) ?_ ?_
        · refine Ref.region (fun s ρ w s' h hr => ?_)
          obtain ⟨F, hW, h0, h12, h15, h16⟩ := h
          refine ol_v (e_mv _ rfl) rfl ?_
          refine ol_v (e_mv _ h15) rfl ?_
          obtain ⟨x184, hx184, hr⟩ := bind_some' hr
          obtain ⟨g185, o186, c187, hv188, L189⟩ := OwnV.at_ h12 hx184
          refine ol_v (e_ixO sl_46 hv188 hx184 rfl rfl) rfl ?_
          refine ol_v (e_ld ty_4 (LiesV.bool L189) rfl) rfl ?_
          obtain ⟨x221, hx222, hr⟩ := bind_some' hr
          refine ol_cutA 14 119 132 (fun ρ' w' => w = w' ∧ ρ' 132 = .bool x221) rfl ?_ ?_
          · by_cases hb190 : x184 = true
            · have hr := hx222
              rw [if_pos hb190] at hr
              refine ol_v (e_mv _ rfl) rfl ?_
              refine ol_yes rfl rfl (congrArg Value.bool hb190) ?_
              refine ol_v (e_mv _ rfl) rfl ?_
              refine ol_yes rfl rfl (congrArg Value.bool hb190) ?_
              refine ol_v (e_mv _ rfl) rfl ?_
              refine ol_yes rfl rfl (congrArg Value.bool hb190) ?_
              refine ol_v (e_mv _ h15) rfl ?_
              refine ol_yes rfl rfl (congrArg Value.bool hb190) ?_
              obtain ⟨x192, hx192, hr⟩ := bind_some' hr
              obtain ⟨A193, c194, e195, hc196, R197⟩ := id h0
              obtain ⟨b198, o199, hA200, L201⟩ := Row.at_ R197 hx192
              refine ol_v (e_ix (SlT.sl sl_22) (SlT.sz sl_22) hA200 hx192 e195 rfl) rfl ?_
              refine ol_yes rfl rfl (congrArg Value.bool hb190) ?_
              refine ol_v (e_fa fa_56_0 rfl) rfl ?_
              refine ol_yes rfl rfl (congrArg Value.bool hb190) ?_
              obtain ⟨v202, hl203, hs204⟩ := LiesV.sl (L201.fld fl_Commit_0).at_
              refine ol_v (e_ld ty_23 hl203 rfl) rfl ?_
              refine ol_yes rfl rfl (congrArg Value.bool hb190) ?_
              refine ol_v (e_mv _ h16) rfl ?_
              refine ol_yes rfl rfl (congrArg Value.bool hb190) ?_
              obtain ⟨x205, hx205, hr⟩ := bind_some' hr
              obtain ⟨A206, c207, e208, hc209, R210⟩ := id hs204
              obtain ⟨b211, o212, hA213, L214⟩ := Row.at_ R210 hx205
              refine ol_v (e_ix (SlT.sl sl_23) (SlT.sz sl_23) hA213 hx205 e208 rfl) rfl ?_
              refine ol_yes rfl rfl (congrArg Value.bool hb190) ?_
              refine ol_v (e_ld ty_3 (LiesV.int L214.at_) rfl) rfl ?_
              refine ol_yes rfl rfl (congrArg Value.bool hb190) ?_
              obtain ⟨x215, hx215, hr⟩ := bind_some' hr
              obtain ⟨g216, o217, c218, hv219, L220⟩ := OwnV.at_ h12 hx215
              refine ol_v (e_ixO sl_46 hv219 hx215 rfl rfl) rfl ?_
              refine ol_yes rfl rfl (congrArg Value.bool hb190) ?_
              refine ol_v (e_ld ty_4 (LiesV.bool L220) rfl) rfl ?_
              refine ol_yes rfl rfl (congrArg Value.bool hb190) ?_
              refine ol_v (e_not_ rfl) rfl ?_
              refine ol_v (e_pick true _ (congrArg Value.bool hb190) rfl) rfl ?_
              exact ol_nil ⟨⟨rfl, (congrArg Value.bool (Option.some.inj hr))⟩, (((((((((((((((Agr.refl _ _ _).upd rfl rfl).upd rfl rfl).upd rfl rfl).upd rfl rfl).upd rfl rfl).upd rfl rfl).upd rfl rfl).upd rfl rfl).upd rfl rfl).upd rfl rfl).upd rfl rfl).upd rfl rfl).upd rfl rfl).upd rfl rfl)⟩
            · have hb191 := Bool.eq_false_iff.mpr hb190
              have hr := hx222
              rw [if_neg hb190] at hr
              refine ol_v (e_mv _ rfl) rfl ?_
              refine ol_not rfl rfl rfl (congrArg Value.bool hb191) rfl ?_
              refine ol_not rfl rfl rfl (congrArg Value.bool hb191) rfl ?_
              refine ol_not rfl rfl rfl (congrArg Value.bool hb191) rfl ?_
              refine ol_not rfl rfl rfl (congrArg Value.bool hb191) rfl ?_
              refine ol_not rfl rfl rfl (congrArg Value.bool hb191) rfl ?_
              refine ol_not rfl rfl rfl (congrArg Value.bool hb191) rfl ?_
              refine ol_not rfl rfl rfl (congrArg Value.bool hb191) rfl ?_
              refine ol_not rfl rfl rfl (congrArg Value.bool hb191) rfl ?_
              refine ol_not rfl rfl rfl (congrArg Value.bool hb191) rfl ?_
              refine ol_not rfl rfl rfl (congrArg Value.bool hb191) rfl ?_
              refine ol_not rfl rfl rfl (congrArg Value.bool hb191) rfl ?_
              refine ol_not rfl rfl rfl (congrArg Value.bool hb191) rfl ?_
              refine ol_v (e_pick false _ (congrArg Value.bool hb191) rfl) rfl ?_
              exact ol_nil ⟨⟨rfl, (congrArg Value.bool (Option.some.inj hr))⟩, (((((((((((((((Agr.refl _ _ _).upd rfl rfl).upd rfl rfl).upd rfl rfl).upd rfl rfl).upd rfl rfl).upd rfl rfl).upd rfl rfl).upd rfl rfl).upd rfl rfl).upd rfl rfl).upd rfl rfl).upd rfl rfl).upd rfl rfl).upd rfl rfl)⟩
          rintro ρ222 _ ⟨⟨rfl, hp222⟩, hAg222⟩
          obtain rfl := Option.some.inj hr
          exact ol_nil ⟨F, hW, (SlR.eqv (hAg222 0 rfl) h0), (OwnV.eqv (hAg222 12 rfl) h12), ((hAg222 15 rfl).trans h15), ((hAg222 16 rfl).trans h16), hp222⟩
        refine Ref.cond (b := fun s => s.t_132) (fun s ρ w ⟨F, hW, h0, h12, h15, h16, h132⟩ => h132) (Ref.pre (A := G2 w0 F0) ?_ (fun s ρ w h => (fun ⟨F, hW, h0, h12, h15, h16, h132⟩ => ⟨F, hW⟩ : G21 w0 F0 s ρ w → G2 w0 F0 s ρ w) h.2)) (Ref.pre (A := G19 w0 F0) ?_ (fun s ρ w h => (fun ⟨F, hW, h0, h12, h15, h16, h132⟩ => ⟨F, hW, h0, h12, h15, h16⟩ : G21 w0 F0 s ρ w → G19 w0 F0 s ρ w) h.2))
        · refine Ref.seq (B := G3 w0 F0) ?_ ?_
          · refine Ref.region (fun s ρ w s' h hr => ?_)
            obtain ⟨F, hW⟩ := h
            refine ol_v (e_as _ rfl) rfl ?_
            obtain rfl := Option.some.inj hr
            exact ol_nil ⟨F, hW, rfl⟩
          exact Ref.ret (fun s ρ w h => ⟨s, rfl, h⟩)
        · exact Ref.skip
      refine Ref.region (fun s ρ w s' h hr => ?_)
      obtain ⟨F, hW, h0, h12, h15, h16⟩ := h
      refine ol_v (e_mv _ h16) rfl ?_
      refine ol_v (e_add rfl rfl) rfl ?_
      refine ol_v (e_as _ rfl) rfl ?_
      obtain rfl := Option.some.inj hr
      exact ol_nil ⟨F, hW, h0, h12, h15, rfl⟩
    refine Ref.region (fun s ρ w s' h hr => ?_)
    obtain ⟨F, hW, h0, h12, h15⟩ := h
    refine ol_v (e_mv _ h15) rfl ?_
    refine ol_v (e_add rfl rfl) rfl ?_
    refine ol_v (e_as _ rfl) rfl ?_
    obtain rfl := Option.some.inj hr
    exact ol_nil ⟨F, hW, h0, h12, rfl⟩
  refine Ref.seq (B := G3 w0 F0) ?_ ?_
  · refine Ref.region (fun s ρ w s' h hr => ?_)
    obtain ⟨F, hW⟩ := h
    refine ol_v (e_as _ rfl) rfl ?_
    obtain rfl := Option.some.inj hr
    exact ol_nil ⟨F, hW, rfl⟩
  exact Ref.ret (fun s ρ w h => ⟨s, rfl, h⟩)
def post (w : World) (F : BSet) (r : R) (v : Value) (w' : World) : Prop := ∃ (F' : BSet), v = .bool r ∧ Wk nrow w F F' w'
theorem calls {w : World} {F : BSet} (hok : ∀ b, F b → b < w.heap.size) {v0 : Value} {a0 : (List Commit)} (h0 : SlR k_Commit F w v0 a0) {v1 : Value} {a1 : (List Bool)} (h1 : SlR kBool F w v1 a1) {v2 : Value} {a2 : (List Bool)} (h2 : SlR kBool F w v2 a2) {v3 : Value} {a3 : (List Int)} (h3 : SlR (kInt .i64) F w v3 a3) {r : R} (hf : f a0 a1 a2 a3 = some r) : Calls Try.prog 10 #[v0, v1, v2, v3] w fun e w' => ∃ v, e = .returned v ∧ post w F r v w' := by
  obtain ⟨c, hc, href⟩ := ref w F
  refine calls_of_ref (args := [v0, v1, v2, v3]) _ Try.func10 hc rfl rfl href ?_ (retOf_some hf) ?_
  · exact ⟨F, Wk.refl hok, h0, h1, h2, h3⟩
  · rintro ρ w' a ⟨s, rfl, F', hW, h8⟩ hF
    refine ⟨_, run_results (rs := [.tmp 8]) rfl hF (vs := [ρ 8]) (⟨_, rfl, rfl⟩), ?_⟩
    have hv : resVal [ρ 8] = .bool s.t_8 := by rw [h8]; rfl
    exact ⟨F', hv, hW⟩
end
end law4_NegotiateCompletes

end Go.Proofs.Ytilodamhgepjoaa
