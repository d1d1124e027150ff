/- The machine's calls come to these plain functions (written by a program, wip/fx/gen.py). -/
import Derived.Test.YtilodamhgepjoaaP4
import Derived.Test.YtilodamhgepjoaaM3
import Derived.Test.YtilodamhgepjoaaIt
namespace Go.Proofs.Ytilodamhgepjoaa
open Go.Fx Go.RowKit
set_option linter.unusedVariables false

namespace ref4_SelectionFault
section
def G0 (w0 : World) (F0 : BSet) (s : S) (ρ : Env) (w : World) : Prop := ∃ (F : BSet), Wk nrow w0 F0 F w ∧ SlR k_Commit F w (ρ 0) s.l_0 ∧ SlR (kInt .i64) F w (ρ 1) s.numbers_1
def G1 (w0 : World) (F0 : BSet) (s : S) (ρ : Env) (w : World) : Prop := ∃ (F : BSet), Wk nrow w0 F0 F w ∧ ∃ (g4 : Nat), SlR k_Commit F w (ρ 0) s.l_0 ∧ SlR (kInt .i64) F w (ρ 1) s.numbers_1 ∧ ρ 4 = .pointer (some ⟨g4, 0, none⟩) ∧ Box k_Fault 26 (Bs w0 nrow) F w g4 s.t_4
def G2 (w0 : World) (F0 : BSet) (s : S) (ρ : Env) (w : World) : Prop := ∃ (F : BSet), Wk nrow w0 F0 F w ∧ ∃ (g4 : Nat) (g5 : Nat), SlR k_Commit F w (ρ 0) s.l_0 ∧ SlR (kInt .i64) F w (ρ 1) s.numbers_1 ∧ ρ 4 = .pointer (some ⟨g4, 0, none⟩) ∧ Box k_Fault 26 (Bs w0 nrow) F w g4 s.t_4 ∧ ρ 5 = .pointer (some ⟨g5, 0, none⟩) ∧ Box k_Fault 26 (Bs w0 nrow) F w g5 s.f_5 ∧ Apart (some g4) (some g5)
def G3 (w0 : World) (F0 : BSet) (s : S) (ρ : Env) (w : World) : Prop := ∃ (F : BSet), Wk nrow w0 F0 F w ∧ ∃ (g4 : Nat) (g5 : Nat), SlR k_Commit F w (ρ 0) s.l_0 ∧ SlR (kInt .i64) F w (ρ 1) s.numbers_1 ∧ ρ 4 = .pointer (some ⟨g4, 0, none⟩) ∧ Box k_Fault 26 (Bs w0 nrow) F w g4 s.t_4 ∧ ρ 5 = .pointer (some ⟨g5, 0, none⟩) ∧ Box k_Fault 26 (Bs w0 nrow) F w g5 s.f_5 ∧ ρ 11 = .bool s.t_11 ∧ Apart (some g4) (some g5)
def G4 (w0 : World) (F0 : BSet) (s : S) (ρ : Env) (w : World) : Prop := ∃ (F : BSet), Wk nrow w0 F0 F w ∧ ∃ (g4 : Nat) (g5 : Nat), ρ 4 = .pointer (some ⟨g4, 0, none⟩) ∧ Box k_Fault 26 (Bs w0 nrow) F w g4 s.t_4 ∧ ρ 5 = .pointer (some ⟨g5, 0, none⟩) ∧ Box k_Fault 26 (Bs w0 nrow) F w g5 s.f_5 ∧ Apart (some g4) (some g5)
def G5 (w0 : World) (F0 : BSet) (s : S) (ρ : Env) (w : World) : Prop := ∃ (F : BSet), Wk nrow w0 F0 F w ∧ ∃ (g4 : Nat), ρ 4 = .pointer (some ⟨g4, 0, none⟩) ∧ Box k_Fault 26 (Bs w0 nrow) F w g4 s.t_4
def G6 (w0 : World) (F0 : BSet) (s : S) (ρ : Env) (w : World) : Prop := ∃ (F : BSet), Wk nrow w0 F0 F w ∧ ∃ (g4 : Nat), SlR k_Commit F w (ρ 0) s.l_0 ∧ SlR (kInt .i64) F w (ρ 1) s.numbers_1 ∧ ρ 4 = .pointer (some ⟨g4, 0, none⟩) ∧ Box k_Fault 26 (Bs w0 nrow) F w g4 s.t_4 ∧ ρ 6 = .int .i64 s.i_6
def G7 (w0 : World) (F0 : BSet) (s : S) (ρ : Env) (w : World) : Prop := ∃ (F : BSet), Wk nrow w0 F0 F w ∧ ∃ (g4 : Nat), SlR k_Commit F w (ρ 0) s.l_0 ∧ SlR (kInt .i64) F w (ρ 1) s.numbers_1 ∧ ρ 4 = .pointer (some ⟨g4, 0, none⟩) ∧ Box k_Fault 26 (Bs w0 nrow) F w g4 s.t_4 ∧ ρ 6 = .int .i64 s.i_6 ∧ ρ 16 = .bool s.t_16
def G8 (w0 : World) (F0 : BSet) (s : S) (ρ : Env) (w : World) : Prop := ∃ (F : BSet), Wk nrow w0 F0 F w ∧ ∃ (g4 : Nat), SlR k_Commit F w (ρ 0) s.l_0 ∧ SlR (kInt .i64) F w (ρ 1) s.numbers_1 ∧ ρ 4 = .pointer (some ⟨g4, 0, none⟩) ∧ Box k_Fault 26 (Bs w0 nrow) F w g4 s.t_4 ∧ ρ 6 = .int .i64 s.i_6 ∧ ρ 27 = .bool s.t_27
def G9 (w0 : World) (F0 : BSet) (s : S) (ρ : Env) (w : World) : Prop := ∃ (F : BSet), Wk nrow w0 F0 F w ∧ ∃ (g4 : Nat), ρ 4 = .pointer (some ⟨g4, 0, none⟩) ∧ Box k_Fault 26 (Bs w0 nrow) F w g4 s.t_4 ∧ ρ 6 = .int .i64 s.i_6
def G10 (w0 : World) (F0 : BSet) (s : S) (ρ : Env) (w : World) : Prop := ∃ (F : BSet), Wk nrow w0 F0 F w ∧ ∃ (g4 : Nat), SlR k_Commit F w (ρ 0) s.l_0 ∧ SlR (kInt .i64) F w (ρ 1) s.numbers_1 ∧ ρ 4 = .pointer (some ⟨g4, 0, none⟩) ∧ Box k_Fault 26 (Bs w0 nrow) F w g4 s.t_4 ∧ ρ 6 = .int .i64 s.i_6 ∧ ρ 43 = .bool s.t_43
set_option maxHeartbeats 4000000 in
set_option maxRecDepth 20000 in
theorem ref (w0 : World) (F0 : BSet) : ∃ c, Try.f22.body = some c ∧ Ref Try.prog 47 c (G0 w0 F0) body (fun _ _ _ => False) (fun _ _ _ _ => False) (fun r ρ w => ∃ s, retv s = r ∧ G5 w0 F0 s ρ w) := by
  refine ⟨_, rfl, ?_⟩
  unfold body
  refine Ref.seq (B := G1 w0 F0) ?_ ?_
  · refine Ref.region (fun s ρ w s' h hr => ?_)
    obtain ⟨F, hW, h0, h1⟩ := h
    refine ol_e (f_alloc zer_26 hW) rfl rfl ?_
    rintro _ w2 ⟨g1, rfl, kw1, ho3⟩
    have hW4 := hW.trans kw1
    have st1 := kw1.stp hW.ok
    obtain rfl := Option.some.inj hr
    exact ol_nil ⟨F, hW4, g1, (h0.keep st1), (h1.keep st1), rfl, (ho3.base (row := nrow) hW.le)⟩
  refine Ref.seq (B := G1 w0 F0) ?_ ?_
  · refine Ref.seq (B := G2 w0 F0) ?_ ?_
    · refine Ref.region (fun s ρ w s' h hr => ?_)
      obtain ⟨F, hW, g4, h0, h1, p4, h4⟩ := h
      refine ol_v (e_mv _ rfl) rfl ?_
      obtain ⟨x5, hx5, hr⟩ := bind_some' hr
      refine ol_e (f_call [(ρ 0)] fn_14 (lcons rfl rfl) (ref3_HistoryFault.calls hW.ok h0 hx5)) rfl rfl ?_
      rintro v8 w6 ⟨Fz7, _, rfl, kw1, hk9⟩
      have hW11 := hW.trans kw1
      have st1 := kw1.stp hW.ok
      refine ol_e (f_alloc zer_26 hW11) rfl rfl ?_
      rintro _ w13 ⟨g12, rfl, kw2, ho14⟩
      have hW15 := hW11.trans kw2
      have st2 := kw2.stp hW11.ok
      refine ol_eN (f_stB hW15 (ho14.base (row := nrow) hW11.le) (FldS.whole _) ty_26 (hk9.keep st2) rfl rfl) rfl ?_
      rintro - w16 ⟨hW17, ho18, hg3, st3⟩
      obtain rfl := Option.some.inj hr
      exact ol_nil ⟨Fz7, hW17, g4, g12, (h0.keep (st1.trans (st2.trans st3))), (h1.keep (st1.trans (st2.trans st3))), p4, (((h4.wk kw1 hW.ok).wk kw2 hW11.ok).mut (Apart.base (fun _ e_ => by cases e_; exact ho14.ge) (h4.wk kw1 hW.ok).ltw) hg3 st3), rfl, ho18, (Apart.base (fun _ e_ => by cases e_; exact ho14.ge) (h4.wk kw1 hW.ok).ltw).symm⟩
    refine Ref.seq (B := G3 w0 F0) ?_ ?_
    · refine Ref.region (fun s ρ w s' h hr => ?_)
      obtain ⟨F, hW, g4, g5, h0, h1, p4, h4, p5, h5, a4b_5b⟩ := h
      refine ol_v (e_fa fa_26_0 p5) rfl ?_
      refine ol_v (e_ld ty_3 (LiesV.int ((h5).at_.fld fl_Fault_0)) rfl) rfl ?_
      refine ol_v (e_neq rfl rfl) rfl ?_
      obtain rfl := Option.some.inj hr
      exact ol_nil ⟨F, hW, g4, g5, h0, h1, p4, h4, p5, h5, rfl, a4b_5b⟩
    refine Ref.cond (b := fun s => s.t_11) (fun s ρ w ⟨F, hW, g4, g5, h0, h1, p4, h4, p5, h5, h11, a4b_5b⟩ => h11) (Ref.pre (A := G4 w0 F0) ?_ (fun s ρ w h => (fun ⟨F, hW, g4, g5, h0, h1, p4, h4, p5, h5, h11, a4b_5b⟩ => ⟨F, hW, g4, g5, p4, h4, p5, h5, a4b_5b⟩ : G3 w0 F0 s ρ w → G4 w0 F0 s ρ w) h.2)) (Ref.pre (A := G1 w0 F0) ?_ (fun s ρ w h => (fun ⟨F, hW, g4, g5, h0, h1, p4, h4, p5, h5, h11, a4b_5b⟩ => ⟨F, hW, g4, h0, h1, p4, h4⟩ : G3 w0 F0 s ρ w → G1 w0 F0 s ρ w) h.2))
    · refine Ref.seq (B := G5 w0 F0) ?_ ?_
      · refine Ref.region (fun s ρ w s' h hr => ?_)
        obtain ⟨F, hW, g4, g5, p4, h4, p5, h5, a4b_5b⟩ := h
        obtain ⟨v19, hl20⟩ := LiesAt.v (h5).at_
        refine ol_v (e_ld ty_26 hl20 p5) rfl ?_
        refine ol_eN (f_stB hW h4 (FldS.whole _) ty_26 hl20.val p4 rfl) rfl ?_
        rintro - w21 ⟨hW22, ho23, hg1, st1⟩
        obtain rfl := Option.some.inj hr
        exact ol_nil ⟨F, hW22, g4, p4, ho23⟩
      exact Ref.ret (fun s ρ w h => ⟨s, rfl, h⟩)
    · exact Ref.skip
  refine Ref.seq (B := G5 w0 F0) ?_ ?_
  · refine Ref.seq (B := G6 w0 F0) ?_ ?_
    · refine Ref.region (fun s ρ w s' h hr => ?_)
      obtain ⟨F, hW, g4, h0, h1, p4, h4⟩ := h
      refine ol_v (e_as _ rfl) rfl ?_
      obtain rfl := Option.some.inj hr
      exact ol_nil ⟨F, hW, g4, h0, h1, p4, h4, rfl⟩
    refine Ref.block ?_
    refine Ref.loop ?_
    refine Ref.seq (B := G6 w0 F0) ?_ ?_
    · refine Ref.seq (B := G7 w0 F0) ?_ ?_
      · refine Ref.region (fun s ρ w s' h hr => ?_)
        obtain ⟨F, hW, g4, h0, h1, p4, h4, h6⟩ := h
        refine ol_v (e_mv _ h6) rfl ?_
        refine ol_v (e_mv _ rfl) rfl ?_
        obtain ⟨A24, c25, e26, hc27, R28⟩ := id h1
        refine ol_v (e_len (SlT.sl sl_23) e26) rfl ?_
        refine ol_v (e_lss rfl rfl) rfl ?_
        obtain rfl := Option.some.inj hr
        exact ol_nil ⟨F, hW, g4, h0, h1, p4, h4, h6, rfl⟩
      refine Ref.cond (b := fun s => s.t_16) (fun s ρ w ⟨F, hW, g4, h0, h1, p4, h4, h6, h16⟩ => h16) (Ref.pre (A := G6 w0 F0) ?_ (fun s ρ w h => (fun ⟨F, hW, g4, h0, h1, p4, h4, h6, h16⟩ => ⟨F, hW, g4, h0, h1, p4, h4, h6⟩ : G7 w0 F0 s ρ w → G6 w0 F0 s ρ w) h.2)) (Ref.pre (A := G5 w0 F0) ?_ (fun s ρ w h => (fun ⟨F, hW, g4, h0, h1, p4, h4, h6, h16⟩ => ⟨F, hW, g4, p4, h4⟩ : G7 w0 F0 s ρ w → G5 w0 F0 s ρ w) h.2))
      · exact Ref.skip
      · exact Ref.exit (fun s ρ w h => h)
    refine Ref.seq (B := G6 w0 F0) ?_ ?_
    · refine Ref.block ?_
      refine Ref.seq (B := G6 w0 F0) ?_ ?_
      · refine Ref.seq (B := G8 w0 F0) ?_ ?_
        · refine Ref.region (fun s ρ w s' h hr => ?_)
          obtain ⟨F, hW, g4, h0, h1, p4, h4, h6⟩ := h
          refine ol_v (e_mv _ rfl) rfl ?_
          refine ol_v (e_mv _ h6) rfl ?_
          obtain ⟨x29, hx29, hr⟩ := bind_some' hr
          obtain ⟨A30, c31, e32, hc33, R34⟩ := id h1
          obtain ⟨b35, o36, hA37, L38⟩ := Row.at_ R34 hx29
          refine ol_v (e_ix (SlT.sl sl_23) (SlT.sz sl_23) hA37 hx29 e32 rfl) rfl ?_
          refine ol_v (e_ld ty_3 (LiesV.int L38.at_) rfl) rfl ?_
          refine ol_v (e_mv _ rfl) rfl ?_
          obtain ⟨A39, c40, e41, hc42, R43⟩ := id h0
          refine ol_v (e_len (SlT.sl sl_22) e41) rfl ?_
          refine ol_v (e_sub rfl rfl) rfl ?_
          obtain ⟨x44, hx44, hr⟩ := bind_some' hr
          refine ol_e (f_call [.int .i64 x29, .int .i64 (0 : Int), .int .i64 (w64 ((s.l_0.length : Int) - (1 : Int)))] fn_16 (lcons rfl (lcons rfl (lcons rfl rfl))) (ref3_In.calls hW.ok x29 (0 : Int) (w64 ((s.l_0.length : Int) - (1 : Int))) hx44)) rfl rfl ?_
          rintro _ w45 ⟨Fz46, rfl, kw1⟩
          have hW48 := hW.trans kw1
          have st1 := kw1.stp hW.ok
          refine ol_v (e_not_ rfl) rfl ?_
          obtain rfl := Option.some.inj hr
          exact ol_nil ⟨Fz46, hW48, g4, (h0.keep st1), (h1.keep st1), p4, (h4.wk kw1 hW.ok), h6, rfl⟩
        refine Ref.cond (b := fun s => s.t_27) (fun s ρ w ⟨F, hW, g4, h0, h1, p4, h4, h6, h27⟩ => h27) (Ref.pre (A := G9 w0 F0) ?_ (fun s ρ w h => (fun ⟨F, hW, g4, h0, h1, p4, h4, h6, h27⟩ => ⟨F, hW, g4, p4, h4, h6⟩ : G8 w0 F0 s ρ w → G9 w0 F0 s ρ w) h.2)) (Ref.pre (A := G6 w0 F0) ?_ (fun s ρ w h => (fun ⟨F, hW, g4, h0, h1, p4, h4, h6, h27⟩ => ⟨F, hW, g4, h0, h1, p4, h4, h6⟩ : G8 w0 F0 s ρ w → G6 w0 F0 s ρ w) h.2))
        · refine Ref.seq (B := G5 w0 F0) ?_ ?_
          · refine Ref.region (fun s ρ w s' h hr => ?_)
            obtain ⟨F, hW, g4, p4, h4, h6⟩ := h
            refine ol_v (e_mv _ h6) rfl ?_
            obtain ⟨x49, hx49, hr⟩ := bind_some' hr
            refine ol_e (f_call [.int .i64 (6 : Int), .int .i64 s.i_6] fn_15 (lcons rfl (lcons rfl rfl)) (ref3_Fault.calls hW.ok (6 : Int) s.i_6 hx49)) rfl rfl ?_
            rintro v52 w50 ⟨Fz51, _, rfl, kw1, hk53⟩
            have hW55 := hW.trans kw1
            have st1 := kw1.stp hW.ok
            refine ol_eN (f_stB hW55 (h4.wk kw1 hW.ok) (FldS.whole _) ty_26 hk53 p4 rfl) rfl ?_
            rintro - w56 ⟨hW57, ho58, hg2, st2⟩
            obtain rfl := Option.some.inj hr
            exact ol_nil ⟨Fz51, hW57, g4, p4, ho58⟩
          exact Ref.ret (fun s ρ w h => ⟨s, rfl, h⟩)
        · exact Ref.skip
      refine Ref.seq (B := G10 w0 F0) ?_ ?_
      · refine Ref.regionS (by kernel_rfl) (by kernel_rfl) (fun s ρ w ⟨F, hW, g4, h0, h1, p4, h4, h6⟩ => ⟨F, hW.drewS, g4, h0.keep (sd hW), h1.keep (sd hW), p4, h4.wk (Wk.drew (row := nrow) hW.ok) hW.ok, h6⟩) (fun s ρ w s' h hr => ?_)
        obtain ⟨F, hW, g4, h0, h1, p4, h4, h6⟩ := h
        refine ol_v (e_mv _ h6) rfl ?_
        refine ol_v (e_gtr rfl rfl) rfl ?_
        obtain ⟨x81, hx82, hr⟩ := bind_some' hr
        refine ol_cutA 12 32 43 (fun ρ' w' => w = w' ∧ ρ' 43 = .bool x81) rfl ?_ ?_
        · by_cases hb59 : (decide ((0 : Int) < s.i_6)) = true
          · have hr := hx82
            rw [if_pos hb59] at hr
            refine ol_v (e_mv _ rfl) rfl ?_
            refine ol_yes rfl rfl (congrArg Value.bool hb59) ?_
            refine ol_v (e_mv _ rfl) rfl ?_
            refine ol_yes rfl rfl (congrArg Value.bool hb59) ?_
            refine ol_v (e_mv _ h6) rfl ?_
            refine ol_yes rfl rfl (congrArg Value.bool hb59) ?_
            refine ol_v (e_sub rfl rfl) rfl ?_
            refine ol_yes rfl rfl (congrArg Value.bool hb59) ?_
            obtain ⟨x61, hx61, hr⟩ := bind_some' hr
            obtain ⟨A62, c63, e64, hc65, R66⟩ := id h1
            obtain ⟨b67, o68, hA69, L70⟩ := Row.at_ R66 hx61
            refine ol_v (e_ix (SlT.sl sl_23) (SlT.sz sl_23) hA69 hx61 e64 rfl) rfl ?_
            refine ol_yes rfl rfl (congrArg Value.bool hb59) ?_
            refine ol_v (e_ld ty_3 (LiesV.int L70.at_) rfl) rfl ?_
            refine ol_yes rfl rfl (congrArg Value.bool hb59) ?_
            refine ol_v (e_mv _ rfl) rfl ?_
            refine ol_yes rfl rfl (congrArg Value.bool hb59) ?_
            refine ol_v (e_mv _ h6) rfl ?_
            refine ol_yes rfl rfl (congrArg Value.bool hb59) ?_
            obtain ⟨x71, hx71, hr⟩ := bind_some' hr
            obtain ⟨A72, c73, e74, hc75, R76⟩ := id h1
            obtain ⟨b77, o78, hA79, L80⟩ := Row.at_ R76 hx71
            refine ol_v (e_ix (SlT.sl sl_23) (SlT.sz sl_23) hA79 hx71 e74 rfl) rfl ?_
            refine ol_yes rfl rfl (congrArg Value.bool hb59) ?_
            refine ol_v (e_ld ty_3 (LiesV.int L80.at_) rfl) rfl ?_
            refine ol_yes rfl rfl (congrArg Value.bool hb59) ?_
            refine ol_v (e_geq rfl rfl) rfl ?_
            refine ol_v (e_pick true _ (congrArg Value.bool hb59) rfl) rfl ?_
            exact ol_nil ⟨⟨rfl, (congrArg Value.bool (Option.some.inj hr))⟩, (((((((((((((Agr.refl _ _ _).upd rfl rfl).upd rfl rfl).upd rfl rfl).upd rfl rfl).upd rfl rfl).upd rfl rfl).upd rfl rfl).upd rfl rfl).upd rfl rfl).upd rfl rfl).upd rfl rfl).upd rfl rfl)⟩
          · have hb60 := Bool.eq_false_iff.mpr hb59
            have hr := hx82
            rw [if_neg hb59] at hr
            refine ol_v (e_mv _ rfl) rfl ?_
            refine ol_not rfl rfl rfl (congrArg Value.bool hb60) rfl ?_
            refine ol_not rfl rfl rfl (congrArg Value.bool hb60) rfl ?_
            refine ol_not rfl rfl rfl (congrArg Value.bool hb60) rfl ?_
            refine ol_not rfl rfl rfl (congrArg Value.bool hb60) rfl ?_
            refine ol_not rfl rfl rfl (congrArg Value.bool hb60) rfl ?_
            refine ol_not rfl rfl rfl (congrArg Value.bool hb60) rfl ?_
            refine ol_not rfl rfl rfl (congrArg Value.bool hb60) rfl ?_
            refine ol_not rfl rfl rfl (congrArg Value.bool hb60) rfl ?_
            refine ol_not rfl rfl rfl (congrArg Value.bool hb60) rfl ?_
            refine ol_not rfl rfl rfl (congrArg Value.bool hb60) rfl ?_
            refine ol_v (e_pick false _ (congrArg Value.bool hb60) rfl) rfl ?_
            exact ol_nil ⟨⟨rfl, (congrArg Value.bool (Option.some.inj hr))⟩, (((((((((((((Agr.refl _ _ _).upd rfl rfl).upd rfl rfl).upd rfl rfl).upd rfl rfl).upd rfl rfl).upd rfl rfl).upd rfl rfl).upd rfl rfl).upd rfl rfl).upd rfl rfl).upd rfl rfl).upd rfl rfl)⟩
        rintro ρ82 _ ⟨⟨rfl, hp82⟩, hAg82⟩
        obtain rfl := Option.some.inj hr
        exact ol_nil ⟨F, hW, g4, (SlR.eqv (hAg82 0 rfl) h0), (SlR.eqv (hAg82 1 rfl) h1), ((hAg82 4 rfl).trans p4), h4, ((hAg82 6 rfl).trans h6), hp82⟩
      refine Ref.cond (b := fun s => s.t_43) (fun s ρ w ⟨F, hW, g4, h0, h1, p4, h4, h6, h43⟩ => h43) (Ref.pre (A := G9 w0 F0) ?_ (fun s ρ w h => (fun ⟨F, hW, g4, h0, h1, p4, h4, h6, h43⟩ => ⟨F, hW, g4, p4, h4, h6⟩ : G10 w0 F0 s ρ w → G9 w0 F0 s ρ w) h.2)) (Ref.pre (A := G6 w0 F0) ?_ (fun s ρ w h => (fun ⟨F, hW, g4, h0, h1, p4, h4, h6, h43⟩ => ⟨F, hW, g4, h0, h1, p4, h4, h6⟩ : G10 w0 F0 s ρ w → G6 w0 F0 s ρ w) h.2))
      · refine Ref.seq (B := G5 w0 F0) ?_ ?_
        · refine Ref.region (fun s ρ w s' h hr => ?_)
          obtain ⟨F, hW, g4, p4, h4, h6⟩ := h
          refine ol_v (e_mv _ h6) rfl ?_
          obtain ⟨x83, hx83, hr⟩ := bind_some' hr
          refine ol_e (f_call [.int .i64 (5 : Int), .int .i64 s.i_6] fn_15 (lcons rfl (lcons rfl rfl)) (ref3_Fault.calls hW.ok (5 : Int) s.i_6 hx83)) rfl rfl ?_
          rintro v86 w84 ⟨Fz85, _, rfl, kw1, hk87⟩
          have hW89 := hW.trans kw1
          have st1 := kw1.stp hW.ok
          refine ol_eN (f_stB hW89 (h4.wk kw1 hW.ok) (FldS.whole _) ty_26 hk87 p4 rfl) rfl ?_
          rintro - w90 ⟨hW91, ho92, hg2, st2⟩
          obtain rfl := Option.some.inj hr
          exact ol_nil ⟨Fz85, hW91, g4, p4, ho92⟩
        exact Ref.ret (fun s ρ w h => ⟨s, rfl, h⟩)
      · exact Ref.skip
    refine Ref.region (fun s ρ w s' h hr => ?_)
    obtain ⟨F, hW, g4, h0, h1, p4, h4, h6⟩ := h
    refine ol_v (e_mv _ h6) rfl ?_
    refine ol_v (e_add rfl rfl) rfl ?_
    refine ol_v (e_as _ rfl) rfl ?_
    obtain rfl := Option.some.inj hr
    exact ol_nil ⟨F, hW, g4, h0, h1, p4, h4, rfl⟩
  refine Ref.seq (B := G5 w0 F0) ?_ ?_
  · refine Ref.region (fun s ρ w s' h hr => ?_)
    obtain ⟨F, hW, g4, p4, h4⟩ := h
    refine ol_v (e_bld (cells := #[.int .i64 0, .int .i64 0]) bld_26 (vs := []) rfl rfl) rfl ?_
    have hb93 : Val k_Fault F w (.agg #[.int .i64 0, .int .i64 0]) (⟨(0 : Int), (0 : Int)⟩ : Fault) := mk_Fault (val_int _ _) (val_int _ _)
    refine ol_eN (f_stB hW h4 (FldS.whole _) ty_26 hb93 p4 rfl) rfl ?_
    rintro - w94 ⟨hW95, ho96, hg1, st1⟩
    obtain rfl := Option.some.inj hr
    exact ol_nil ⟨F, hW95, g4, p4, ho96⟩
  exact Ref.ret (fun s ρ w h => ⟨s, rfl, h⟩)
def post (w : World) (F : BSet) (r : R) (v : Value) (w' : World) : Prop := ∃ (F' : BSet) (v0' : Value), v = v0' ∧ Wk nrow w F F' w' ∧ Val k_Fault F' w' v0' r
theorem calls {w : World} {F : BSet} (hok : ∀ b, F b → b < w.heap.size) {v0 : Value} {a0 : (List Commit)} (h0 : SlR k_Commit F w v0 a0) {v1 : Value} {a1 : (List Int)} (h1 : SlR (kInt .i64) F w v1 a1) {r : R} (hf : f a0 a1 = some r) : Calls Try.prog 22 #[v0, v1] w fun e w' => ∃ v, e = .returned v ∧ post w F r v w' := by
  obtain ⟨c, hc, href⟩ := ref w F
  refine calls_of_ref (args := [v0, v1]) _ Try.func22 hc rfl rfl href ?_ (retOf_some hf) ?_
  · exact ⟨F, Wk.refl hok, h0, h1⟩
  · rintro ρ w' a ⟨s, rfl, F', hW, g4, p4, h4⟩ hF
    obtain ⟨u4, l4, k4⟩ := res_box (P := Try.prog) ty_26 h4
    refine ⟨_, run_results (rs := [.cell 4 26]) rfl hF (vs := [u4]) (⟨_, _, _, rfl, p4, l4, rfl⟩), ?_⟩
    exact ⟨F', u4, rfl, hW, k4⟩
end
end ref4_SelectionFault

namespace ref4_BoundaryOf
section
def G0 (w0 : World) (F0 : BSet) (s : S) (ρ : Env) (w : World) : Prop := ∃ (F : BSet), Wk nrow w0 F0 F w ∧ SlR k_Commit F w (ρ 0) s.l_0 ∧ SlR (kInt .i64) F w (ρ 1) s.numbers_1
def G1 (w0 : World) (F0 : BSet) (s : S) (ρ : Env) (w : World) : Prop := ∃ (F : BSet), Wk nrow w0 F0 F w ∧ SlR k_Commit F w (ρ 0) s.l_0 ∧ SlR (kInt .i64) F w (ρ 1) s.numbers_1 ∧ OwnV (kInt .i64) 3 (Bs w0 nrow) F w (ρ 5) s.out_5
def G2 (w0 : World) (F0 : BSet) (s : S) (ρ : Env) (w : World) : Prop := ∃ (F : BSet), Wk nrow w0 F0 F w ∧ SlR k_Commit F w (ρ 0) s.l_0 ∧ SlR (kInt .i64) F w (ρ 1) s.numbers_1 ∧ OwnV (kInt .i64) 3 (Bs w0 nrow) F w (ρ 5) s.out_5 ∧ ρ 6 = .int .i64 s.i_6
def G3 (w0 : World) (F0 : BSet) (s : S) (ρ : Env) (w : World) : Prop := ∃ (F : BSet), Wk nrow w0 F0 F w ∧ SlR k_Commit F w (ρ 0) s.l_0 ∧ SlR (kInt .i64) F w (ρ 1) s.numbers_1 ∧ OwnV (kInt .i64) 3 (Bs w0 nrow) F w (ρ 5) s.out_5 ∧ ρ 6 = .int .i64 s.i_6 ∧ ρ 12 = .bool s.t_12
def G4 (w0 : World) (F0 : BSet) (s : S) (ρ : Env) (w : World) : Prop := ∃ (F : BSet), Wk nrow w0 F0 F w ∧ OwnV (kInt .i64) 3 (Bs w0 nrow) F w (ρ 5) s.out_5
def G5 (w0 : World) (F0 : BSet) (s : S) (ρ : Env) (w : World) : Prop := ∃ (F : BSet), Wk nrow w0 F0 F w ∧ SlR k_Commit F w (ρ 0) s.l_0 ∧ SlR (kInt .i64) F w (ρ 1) s.numbers_1 ∧ OwnV (kInt .i64) 3 (Bs w0 nrow) F w (ρ 5) s.out_5 ∧ ρ 6 = .int .i64 s.i_6 ∧ ρ 7 = .bool s.cut_7
def G6 (w0 : World) (F0 : BSet) (s : S) (ρ : Env) (w : World) : Prop := ∃ (F : BSet), Wk nrow w0 F0 F w ∧ SlR k_Commit F w (ρ 0) s.l_0 ∧ SlR (kInt .i64) F w (ρ 1) s.numbers_1 ∧ OwnV (kInt .i64) 3 (Bs w0 nrow) F w (ρ 5) s.out_5 ∧ ρ 6 = .int .i64 s.i_6 ∧ ρ 7 = .bool s.cut_7 ∧ ρ 8 = .int .i64 s.k_8
def G7 (w0 : World) (F0 : BSet) (s : S) (ρ : Env) (w : World) : Prop := ∃ (F : BSet), Wk nrow w0 F0 F w ∧ SlR k_Commit F w (ρ 0) s.l_0 ∧ SlR (kInt .i64) F w (ρ 1) s.numbers_1 ∧ OwnV (kInt .i64) 3 (Bs w0 nrow) F w (ρ 5) s.out_5 ∧ ρ 6 = .int .i64 s.i_6 ∧ ρ 7 = .bool s.cut_7 ∧ ρ 8 = .int .i64 s.k_8 ∧ ρ 25 = .bool s.t_25
def G8 (w0 : World) (F0 : BSet) (s : S) (ρ : Env) (w : World) : Prop := ∃ (F : BSet), Wk nrow w0 F0 F w ∧ SlR k_Commit F w (ρ 0) s.l_0 ∧ SlR (kInt .i64) F w (ρ 1) s.numbers_1 ∧ OwnV (kInt .i64) 3 (Bs w0 nrow) F w (ρ 5) s.out_5 ∧ ρ 6 = .int .i64 s.i_6 ∧ ρ 45 = .bool s.t_45
def G9 (w0 : World) (F0 : BSet) (s : S) (ρ : Env) (w : World) : Prop := ∃ (F : BSet), Wk nrow w0 F0 F w ∧ OwnV (kInt .i64) 3 (Bs w0 nrow) F w (ρ 4) s.t_4
set_option maxHeartbeats 4000000 in
set_option maxRecDepth 20000 in
theorem ref (w0 : World) (F0 : BSet) : ∃ c, Try.f23.body = some c ∧ Ref Try.prog 54 c (G0 w0 F0) body (fun _ _ _ => False) (fun _ _ _ _ => False) (fun r ρ w => ∃ s, retv s = r ∧ G9 w0 F0 s ρ w) := by
  refine ⟨_, rfl, ?_⟩
  unfold body
  refine Ref.seq (B := G0 w0 F0) ?_ ?_
  · refine Ref.region (fun s ρ w s' h hr => ?_)
    obtain ⟨F, hW, h0, h1⟩ := h
    refine ol_v (e_as _ rfl) rfl ?_
    obtain rfl := Option.some.inj hr
    exact ol_nil ⟨F, hW, h0, h1⟩
  refine Ref.seq (B := G1 w0 F0) ?_ ?_
  · refine Ref.region (fun s ρ w s' h hr => ?_)
    obtain ⟨F, hW, h0, h1⟩ := h
    refine ol_v (e_as _ rfl) rfl ?_
    obtain rfl := Option.some.inj hr
    exact ol_nil ⟨F, hW, h0, h1, (OwnV.nil (kInt .i64) 3 (Bs w0 nrow) F w)⟩
  refine Ref.seq (B := G4 w0 F0) ?_ ?_
  · refine Ref.seq (B := G2 w0 F0) ?_ ?_
    · refine Ref.region (fun s ρ w s' h hr => ?_)
      obtain ⟨F, hW, h0, h1, h5⟩ := h
      refine ol_v (e_as _ rfl) rfl ?_
      obtain rfl := Option.some.inj hr
      exact ol_nil ⟨F, hW, h0, h1, h5, rfl⟩
    refine Ref.block ?_
    refine Ref.loop ?_
    refine Ref.seq (B := G2 w0 F0) ?_ ?_
    · refine Ref.seq (B := G3 w0 F0) ?_ ?_
      · refine Ref.region (fun s ρ w s' h hr => ?_)
        obtain ⟨F, hW, h0, h1, h5, h6⟩ := h
        refine ol_v (e_mv _ h6) rfl ?_
        refine ol_v (e_mv _ rfl) rfl ?_
        obtain ⟨A1, c2, e3, hc4, R5⟩ := id h1
        refine ol_v (e_len (SlT.sl sl_23) e3) rfl ?_
        refine ol_v (e_lss rfl rfl) rfl ?_
        obtain rfl := Option.some.inj hr
        exact ol_nil ⟨F, hW, h0, h1, h5, h6, rfl⟩
      refine Ref.cond (b := fun s => s.t_12) (fun s ρ w ⟨F, hW, h0, h1, h5, h6, h12⟩ => h12) (Ref.pre (A := G2 w0 F0) ?_ (fun s ρ w h => (fun ⟨F, hW, h0, h1, h5, h6, h12⟩ => ⟨F, hW, h0, h1, h5, h6⟩ : G3 w0 F0 s ρ w → G2 w0 F0 s ρ w) h.2)) (Ref.pre (A := G4 w0 F0) ?_ (fun s ρ w h => (fun ⟨F, hW, h0, h1, h5, h6, h12⟩ => ⟨F, hW, h5⟩ : G3 w0 F0 s ρ w → G4 w0 F0 s ρ w) h.2))
      · exact Ref.skip
      · exact Ref.exit (fun s ρ w h => h)
    refine Ref.seq (B := G2 w0 F0) ?_ ?_
    · refine Ref.block ?_
      refine Ref.seq (B := G5 w0 F0) ?_ ?_
      · refine Ref.region (fun s ρ w s' h hr => ?_)
        obtain ⟨F, hW, h0, h1, h5, h6⟩ := h
        refine ol_v (e_as _ rfl) rfl ?_
        obtain rfl := Option.some.inj hr
        exact ol_nil ⟨F, hW, h0, h1, h5, h6, rfl⟩
      refine Ref.seq (B := G5 w0 F0) ?_ ?_
      · refine Ref.seq (B := G6 w0 F0) ?_ ?_
        · refine Ref.region (fun s ρ w s' h hr => ?_)
          obtain ⟨F, hW, h0, h1, h5, h6, h7⟩ := h
          refine ol_v (e_as _ rfl) rfl ?_
          obtain rfl := Option.some.inj hr
          exact ol_nil ⟨F, hW, h0, h1, h5, h6, h7, rfl⟩
        refine Ref.block ?_
        refine Ref.loop ?_
        refine Ref.seq (B := G6 w0 F0) ?_ ?_
        · refine Ref.seq (B := G7 w0 F0) ?_ ?_
          · refine Ref.region (fun s ρ w s' h hr => ?_)
            obtain ⟨F, hW, h0, h1, h5, h6, h7, h8⟩ := h
            refine ol_v (e_mv _ h8) rfl ?_
            refine ol_v (e_mv _ rfl) rfl ?_
            refine ol_v (e_mv _ rfl) rfl ?_
            refine ol_v (e_mv _ h6) rfl ?_
            obtain ⟨x6, hx6, hr⟩ := bind_some' hr
            obtain ⟨A7, c8, e9, hc10, R11⟩ := id h1
            obtain ⟨b12, o13, hA14, L15⟩ := Row.at_ R11 hx6
            refine ol_v (e_ix (SlT.sl sl_23) (SlT.sz sl_23) hA14 hx6 e9 rfl) rfl ?_
            refine ol_v (e_ld ty_3 (LiesV.int L15.at_) rfl) rfl ?_
            obtain ⟨x16, hx16, hr⟩ := bind_some' hr
            obtain ⟨A17, c18, e19, hc20, R21⟩ := id h0
            obtain ⟨b22, o23, hA24, L25⟩ := Row.at_ R21 hx16
            refine ol_v (e_ix (SlT.sl sl_22) (SlT.sz sl_22) hA24 hx16 e19 rfl) rfl ?_
            refine ol_v (e_fa fa_56_0 rfl) rfl ?_
            obtain ⟨v26, hl27, hs28⟩ := LiesV.sl (L25.fld fl_Commit_0).at_
            refine ol_v (e_ld ty_23 hl27 rfl) rfl ?_
            obtain ⟨A29, c30, e31, hc32, R33⟩ := id hs28
            refine ol_v (e_len (SlT.sl sl_23) e31) rfl ?_
            refine ol_v (e_lss rfl rfl) rfl ?_
            obtain rfl := Option.some.inj hr
            exact ol_nil ⟨F, hW, h0, h1, h5, h6, h7, h8, rfl⟩
          refine Ref.cond (b := fun s => s.t_25) (fun s ρ w ⟨F, hW, h0, h1, h5, h6, h7, h8, h25⟩ => h25) (Ref.pre (A := G6 w0 F0) ?_ (fun s ρ w h => (fun ⟨F, hW, h0, h1, h5, h6, h7, h8, h25⟩ => ⟨F, hW, h0, h1, h5, h6, h7, h8⟩ : G7 w0 F0 s ρ w → G6 w0 F0 s ρ w) h.2)) (Ref.pre (A := G5 w0 F0) ?_ (fun s ρ w h => (fun ⟨F, hW, h0, h1, h5, h6, h7, h8, h25⟩ => ⟨F, hW, h0, h1, h5, h6, h7⟩ : G7 w0 F0 s ρ w → G5 w0 F0 s ρ w) h.2))
          · exact Ref.skip
          · exact Ref.exit (fun s ρ w h => h)
        refine Ref.seq (B := G6 w0 F0) ?_ ?_
        · refine Ref.block ?_
          refine Ref.region (fun s ρ w s' h hr => ?_)
          obtain ⟨F, hW, h0, h1, h5, h6, h7, h8⟩ := h
          refine ol_v (e_mv _ h7) rfl ?_
          obtain ⟨x74, hx75, hr⟩ := bind_some' hr
          refine ol_cutA 16 29 44 (fun ρ' w' => ∃ F', Wk nrow w F F' w' ∧ ρ' 44 = .bool x74) rfl ?_ ?_
          · by_cases hb34 : s.cut_7 = true
            · have hr := hx75
              rw [if_pos hb34] at hr
              refine ol_v (e_mv _ rfl) rfl ?_
              refine ol_not rfl rfl rfl (congrArg Value.bool hb34) rfl ?_
              refine ol_not rfl rfl rfl (congrArg Value.bool hb34) rfl ?_
              refine ol_not rfl rfl rfl (congrArg Value.bool hb34) rfl ?_
              refine ol_not rfl rfl rfl (congrArg Value.bool hb34) rfl ?_
              refine ol_not rfl rfl rfl (congrArg Value.bool hb34) rfl ?_
              refine ol_not rfl rfl rfl (congrArg Value.bool hb34) rfl ?_
              refine ol_not rfl rfl rfl (congrArg Value.bool hb34) rfl ?_
              refine ol_not rfl rfl rfl (congrArg Value.bool hb34) rfl ?_
              refine ol_not rfl rfl rfl (congrArg Value.bool hb34) rfl ?_
              refine ol_not rfl rfl rfl (congrArg Value.bool hb34) rfl ?_
              refine ol_not rfl rfl rfl (congrArg Value.bool hb34) rfl ?_
              refine ol_not rfl rfl rfl (congrArg Value.bool hb34) rfl ?_
              refine ol_not rfl rfl rfl (congrArg Value.bool hb34) rfl ?_
              refine ol_not rfl rfl rfl (congrArg Value.bool hb34) rfl ?_
              refine ol_v (e_pick true _ (congrArg Value.bool hb34) rfl) rfl ?_
              exact ol_nil ⟨⟨_, Wk.refl hW.ok, (congrArg Value.bool (Option.some.inj hr))⟩, (((((((((((((((((Agr.refl _ _ _).upd rfl rfl).upd rfl rfl).upd rfl rfl).upd rfl rfl).upd rfl rfl).upd rfl rfl).upd rfl rfl).upd rfl rfl).upd rfl rfl).upd rfl rfl).upd rfl rfl).upd rfl rfl).upd rfl rfl).upd rfl rfl).upd rfl rfl).upd rfl rfl)⟩
            · have hb35 := Bool.eq_false_iff.mpr hb34
              have hr := hx75
              rw [if_neg hb34] at hr
              refine ol_v (e_mv _ rfl) rfl ?_
              refine ol_yes rfl rfl (congrArg Value.bool hb35) ?_
              refine ol_v (e_mv _ rfl) rfl ?_
              refine ol_yes rfl rfl (congrArg Value.bool hb35) ?_
              refine ol_v (e_mv _ rfl) rfl ?_
              refine ol_yes rfl rfl (congrArg Value.bool hb35) ?_
              refine ol_v (e_mv _ rfl) rfl ?_
              refine ol_yes rfl rfl (congrArg Value.bool hb35) ?_
              refine ol_v (e_mv _ h6) rfl ?_
              refine ol_yes rfl rfl (congrArg Value.bool hb35) ?_
              obtain ⟨x36, hx36, hr⟩ := bind_some' hr
              obtain ⟨A37, c38, e39, hc40, R41⟩ := id h1
              obtain ⟨b42, o43, hA44, L45⟩ := Row.at_ R41 hx36
              refine ol_v (e_ix (SlT.sl sl_23) (SlT.sz sl_23) hA44 hx36 e39 rfl) rfl ?_
              refine ol_yes rfl rfl (congrArg Value.bool hb35) ?_
              refine ol_v (e_ld ty_3 (LiesV.int L45.at_) rfl) rfl ?_
              refine ol_yes rfl rfl (congrArg Value.bool hb35) ?_
              obtain ⟨x46, hx46, hr⟩ := bind_some' hr
              obtain ⟨A47, c48, e49, hc50, R51⟩ := id h0
              obtain ⟨b52, o53, hA54, L55⟩ := Row.at_ R51 hx46
              refine ol_v (e_ix (SlT.sl sl_22) (SlT.sz sl_22) hA54 hx46 e49 rfl) rfl ?_
              refine ol_yes rfl rfl (congrArg Value.bool hb35) ?_
              refine ol_v (e_fa fa_56_0 rfl) rfl ?_
              refine ol_yes rfl rfl (congrArg Value.bool hb35) ?_
              obtain ⟨v56, hl57, hs58⟩ := LiesV.sl (L55.fld fl_Commit_0).at_
              refine ol_v (e_ld ty_23 hl57 rfl) rfl ?_
              refine ol_yes rfl rfl (congrArg Value.bool hb35) ?_
              refine ol_v (e_mv _ h8) rfl ?_
              refine ol_yes rfl rfl (congrArg Value.bool hb35) ?_
              obtain ⟨x59, hx59, hr⟩ := bind_some' hr
              obtain ⟨A60, c61, e62, hc63, R64⟩ := id hs58
              obtain ⟨b65, o66, hA67, L68⟩ := Row.at_ R64 hx59
              refine ol_v (e_ix (SlT.sl sl_23) (SlT.sz sl_23) hA67 hx59 e62 rfl) rfl ?_
              refine ol_yes rfl rfl (congrArg Value.bool hb35) ?_
              refine ol_v (e_ld ty_3 (LiesV.int L68.at_) rfl) rfl ?_
              refine ol_yes rfl rfl (congrArg Value.bool hb35) ?_
              obtain ⟨x69, hx69, hr⟩ := bind_some' hr
              refine ol_e (f_call [(ρ 1), .int .i64 x59] fn_33 (lcons rfl (lcons rfl rfl)) (ref3_Has.calls hW.ok h1 x59 hx69)) rfl rfl ?_
              rintro _ w70 ⟨Fz71, rfl, kw1⟩
              have hW73 := hW.trans kw1
              have st1 := kw1.stp hW.ok
              refine ol_yes rfl rfl (congrArg Value.bool hb35) ?_
              refine ol_v (e_not_ rfl) rfl ?_
              refine ol_v (e_pick false _ (congrArg Value.bool hb35) rfl) rfl ?_
              exact ol_nil ⟨⟨_, kw1, (congrArg Value.bool (Option.some.inj hr))⟩, (((((((((((((((((Agr.refl _ _ _).upd rfl rfl).upd rfl rfl).upd rfl rfl).upd rfl rfl).upd rfl rfl).upd rfl rfl).upd rfl rfl).upd rfl rfl).upd rfl rfl).upd rfl rfl).upd rfl rfl).upd rfl rfl).upd rfl rfl).upd rfl rfl).upd rfl rfl).upd rfl rfl)⟩
          rintro ρ75 w76 ⟨⟨Fz77, kw1, hp75⟩, hAg75⟩
          have hW78 := hW.trans kw1
          have st1 := kw1.stp hW.ok
          refine ol_v (e_as _ hp75) rfl ?_
          obtain rfl := Option.some.inj hr
          exact ol_nil ⟨Fz77, hW78, (SlR.eqv (hAg75 0 rfl) (h0.keep st1)), (SlR.eqv (hAg75 1 rfl) (h1.keep st1)), (OwnV.eqv (hAg75 5 rfl) (h5.wk kw1 hW.ok)), ((hAg75 6 rfl).trans h6), rfl, ((hAg75 8 rfl).trans h8)⟩
        refine Ref.region (fun s ρ w s' h hr => ?_)
        obtain ⟨F, hW, h0, h1, h5, h6, h7, h8⟩ := h
        refine ol_v (e_mv _ h8) rfl ?_
        refine ol_v (e_add rfl rfl) rfl ?_
        refine ol_v (e_as _ rfl) rfl ?_
        obtain rfl := Option.some.inj hr
        exact ol_nil ⟨F, hW, h0, h1, h5, h6, h7, rfl⟩
      refine Ref.seq (B := G8 w0 F0) ?_ ?_
      · refine Ref.region (fun s ρ w s' h hr => ?_)
        obtain ⟨F, hW, h0, h1, h5, h6, h7⟩ := h
        refine ol_v (e_mv _ h7) rfl ?_
        obtain rfl := Option.some.inj hr
        exact ol_nil ⟨F, hW, h0, h1, h5, h6, rfl⟩
      refine Ref.cond (b := fun s => s.t_45) (fun s ρ w ⟨F, hW, h0, h1, h5, h6, h45⟩ => h45) (Ref.pre (A := G2 w0 F0) ?_ (fun s ρ w h => (fun ⟨F, hW, h0, h1, h5, h6, h45⟩ => ⟨F, hW, h0, h1, h5, h6⟩ : G8 w0 F0 s ρ w → G2 w0 F0 s ρ w) h.2)) (Ref.pre (A := G2 w0 F0) ?_ (fun s ρ w h => (fun ⟨F, hW, h0, h1, h5, h6, h45⟩ => ⟨F, hW, h0, h1, h5, h6⟩ : G8 w0 F0 s ρ w → G2 w0 F0 s ρ w) h.2))
      · refine Ref.region (fun s ρ w s' h hr => ?_)
        obtain ⟨F, hW, h0, h1, h5, h6⟩ := h
        refine ol_v (e_mv _ rfl) rfl ?_
        refine ol_v (e_mv _ rfl) rfl ?_
        refine ol_v (e_mv _ h6) rfl ?_
        obtain ⟨x79, hx79, hr⟩ := bind_some' hr
        obtain ⟨A80, c81, e82, hc83, R84⟩ := id h1
        obtain ⟨b85, o86, hA87, L88⟩ := Row.at_ R84 hx79
        refine ol_v (e_ix (SlT.sl sl_23) (SlT.sz sl_23) hA87 hx79 e82 rfl) rfl ?_
        refine ol_v (e_ld ty_3 (LiesV.int L88.at_) rfl) rfl ?_
        refine ol_e (f_bslF sl_23 hW ([x79] : List Int) [.int .i64 x79] (by exact ⟨_, _, rfl, (val_int _ _), rfl⟩) rfl (Nat.le_of_ble_eq_true rfl) (lcons (congrArg (Prod.mk 0) rfl) rfl)) rfl rfl ?_
        rintro v89 w90 ⟨Fz92, kw1, ho91⟩
        have hW93 := hW.trans kw1
        have st1 := kw1.stp hW.ok
        obtain ⟨x94, hx94, hr⟩ := bind_some' hr
        refine ol_e (f_app sl_23 hW93 (h5.wk kw1 hW.ok) ho91 hx94 rfl rfl) rfl rfl ?_
        rintro v95 w96 ⟨hW97, ho98, hg2, st2, hor99⟩
        refine ol_v (e_as _ rfl) rfl ?_
        obtain rfl := Option.some.inj hr
        exact ol_nil ⟨Fz92, hW97, (h0.keep (st1.trans st2)), (h1.keep (st1.trans st2)), ho98, h6⟩
      · exact Ref.skip
    refine Ref.region (fun s ρ w s' h hr => ?_)
    obtain ⟨F, hW, h0, h1, h5, h6⟩ := h
    refine ol_v (e_mv _ h6) rfl ?_
    refine ol_v (e_add rfl rfl) rfl ?_
    refine ol_v (e_as _ rfl) rfl ?_
    obtain rfl := Option.some.inj hr
    exact ol_nil ⟨F, hW, h0, h1, h5, rfl⟩
  refine Ref.seq (B := G9 w0 F0) ?_ ?_
  · refine Ref.region (fun s ρ w s' h hr => ?_)
    obtain ⟨F, hW, h5⟩ := h
    refine ol_v (e_mv _ rfl) rfl ?_
    refine ol_v (e_as _ rfl) rfl ?_
    obtain rfl := Option.some.inj hr
    exact ol_nil ⟨F, hW, h5⟩
  exact Ref.ret (fun s ρ w h => ⟨s, rfl, h⟩)
def post (w : World) (F : BSet) (r : R) (v : Value) (w' : World) : Prop := ∃ (F' : BSet) (v0' : Value), v = v0' ∧ Wk nrow w F F' w' ∧ OwnV (kInt .i64) 3 (Nw w) F' w' v0' r
theorem calls {w : World} {F : BSet} (hok : ∀ b, F b → b < w.heap.size) {v0 : Value} {a0 : (List Commit)} (h0 : SlR k_Commit F w v0 a0) {v1 : Value} {a1 : (List Int)} (h1 : SlR (kInt .i64) F w v1 a1) {r : R} (hf : f a0 a1 = some r) : Calls Try.prog 23 #[v0, v1] w fun e w' => ∃ v, e = .returned v ∧ post w F r v w' := by
  obtain ⟨c, hc, href⟩ := ref w F
  refine calls_of_ref (args := [v0, v1]) _ Try.func23 hc rfl rfl href ?_ (retOf_some hf) ?_
  · exact ⟨F, Wk.refl hok, h0, h1⟩
  · rintro ρ w' a ⟨s, rfl, F', hW, h4⟩ hF
    refine ⟨_, run_results (rs := [.tmp 4]) rfl hF (vs := [ρ 4]) (⟨_, rfl, rfl⟩), ?_⟩
    exact ⟨F', ρ 4, rfl, hW, h4.rebase (fun g hg => (h4.lt hg).1.resolve_right (fun h => h))⟩
end
end ref4_BoundaryOf

namespace ref3_Commits
section
def G0 (w0 : World) (F0 : BSet) (s : S) (ρ : Env) (w : World) : Prop := ∃ (F : BSet), Wk nrow w0 F0 F w ∧ SlR k_Commit F w (ρ 0) s.a_0 ∧ SlR k_Commit F w (ρ 1) s.b_1
def G1 (w0 : World) (F0 : BSet) (s : S) (ρ : Env) (w : World) : Prop := ∃ (F : BSet), Wk nrow w0 F0 F w ∧ SlR k_Commit F w (ρ 0) s.a_0 ∧ SlR k_Commit F w (ρ 1) s.b_1 ∧ ρ 12 = .bool s.t_12
def G2 (w0 : World) (F0 : BSet) (s : S) (ρ : Env) (w : World) : Prop := ∃ (F : BSet), Wk nrow w0 F0 F w
def G3 (w0 : World) (F0 : BSet) (s : S) (ρ : Env) (w : World) : Prop := ∃ (F : BSet), Wk nrow w0 F0 F w ∧ ρ 4 = .bool s.t_4
def G4 (w0 : World) (F0 : BSet) (s : S) (ρ : Env) (w : World) : Prop := ∃ (F : BSet), Wk nrow w0 F0 F w ∧ SlR k_Commit F w (ρ 0) s.a_0 ∧ SlR k_Commit F w (ρ 1) s.b_1 ∧ ρ 5 = .int .i64 s.i_5
def G5 (w0 : World) (F0 : BSet) (s : S) (ρ : Env) (w : World) : Prop := ∃ (F : BSet), Wk nrow w0 F0 F w ∧ SlR k_Commit F w (ρ 0) s.a_0 ∧ SlR k_Commit F w (ρ 1) s.b_1 ∧ ρ 5 = .int .i64 s.i_5 ∧ ρ 16 = .bool s.t_16
def G6 (w0 : World) (F0 : BSet) (s : S) (ρ : Env) (w : World) : Prop := ∃ (F : BSet), Wk nrow w0 F0 F w ∧ ∃ (g6 : Nat) (g7 : Nat), SlR k_Commit F w (ρ 0) s.a_0 ∧ SlR k_Commit F w (ρ 1) s.b_1 ∧ ρ 5 = .int .i64 s.i_5 ∧ ρ 6 = .pointer (some ⟨g6, 0, none⟩) ∧ Box k_Commit 56 (Bs w0 nrow) F w g6 s.x_6 ∧ ρ 7 = .pointer (some ⟨g7, 0, none⟩) ∧ Box k_Commit 56 (Bs w0 nrow) F w g7 s.y_7 ∧ Apart (some g6) (some g7)
def G7 (w0 : World) (F0 : BSet) (s : S) (ρ : Env) (w : World) : Prop := ∃ (F : BSet), Wk nrow w0 F0 F w ∧ SlR k_Commit F w (ρ 0) s.a_0 ∧ SlR k_Commit F w (ρ 1) s.b_1 ∧ ρ 5 = .int .i64 s.i_5 ∧ ρ 60 = .bool s.t_60
set_option maxHeartbeats 4000000 in
set_option maxRecDepth 20000 in
theorem ref (w0 : World) (F0 : BSet) : ∃ c, Try.f24.body = some c ∧ Ref Try.prog 61 c (G0 w0 F0) body (fun _ _ _ => False) (fun _ _ _ _ => False) (fun r ρ w => ∃ s, retv s = r ∧ G3 w0 F0 s ρ w) := by
  refine ⟨_, rfl, ?_⟩
  unfold body
  refine Ref.seq (B := G0 w0 F0) ?_ ?_
  · refine Ref.region (fun s ρ w s' h hr => ?_)
    obtain ⟨F, hW, h0, h1⟩ := h
    refine ol_v (e_as _ rfl) rfl ?_
    obtain rfl := Option.some.inj hr
    exact ol_nil ⟨F, hW, h0, h1⟩
  refine Ref.seq (B := G0 w0 F0) ?_ ?_
  · refine Ref.seq (B := G1 w0 F0) ?_ ?_
    · refine Ref.region (fun s ρ w s' h hr => ?_)
      obtain ⟨F, hW, h0, h1⟩ := h
      refine ol_v (e_mv _ rfl) rfl ?_
      obtain ⟨A1, c2, e3, hc4, R5⟩ := id h0
      refine ol_v (e_len (SlT.sl sl_22) e3) rfl ?_
      refine ol_v (e_mv _ rfl) rfl ?_
      obtain ⟨A6, c7, e8, hc9, R10⟩ := id h1
      refine ol_v (e_len (SlT.sl sl_22) e8) rfl ?_
      refine ol_v (e_neq rfl rfl) rfl ?_
      obtain rfl := Option.some.inj hr
      exact ol_nil ⟨F, hW, h0, h1, rfl⟩
    refine Ref.cond (b := fun s => s.t_12) (fun s ρ w ⟨F, hW, h0, h1, h12⟩ => h12) (Ref.pre (A := G2 w0 F0) ?_ (fun s ρ w h => (fun ⟨F, hW, h0, h1, h12⟩ => ⟨F, hW⟩ : G1 w0 F0 s ρ w → G2 w0 F0 s ρ w) h.2)) (Ref.pre (A := G0 w0 F0) ?_ (fun s ρ w h => (fun ⟨F, hW, h0, h1, h12⟩ => ⟨F, hW, h0, h1⟩ : G1 w0 F0 s ρ w → G0 w0 F0 s ρ w) h.2))
    · refine Ref.seq (B := G3 w0 F0) ?_ ?_
      · refine Ref.region (fun s ρ w s' h hr => ?_)
        obtain ⟨F, hW⟩ := h
        refine ol_v (e_as _ rfl) rfl ?_
        obtain rfl := Option.some.inj hr
        exact ol_nil ⟨F, hW, rfl⟩
      exact Ref.ret (fun s ρ w h => ⟨s, rfl, h⟩)
    · exact Ref.skip
  refine Ref.seq (B := G2 w0 F0) ?_ ?_
  · refine Ref.seq (B := G4 w0 F0) ?_ ?_
    · refine Ref.region (fun s ρ w s' h hr => ?_)
      obtain ⟨F, hW, h0, h1⟩ := h
      refine ol_v (e_as _ rfl) rfl ?_
      obtain rfl := Option.some.inj hr
      exact ol_nil ⟨F, hW, h0, h1, rfl⟩
    refine Ref.block ?_
    refine Ref.loop ?_
    refine Ref.seq (B := G4 w0 F0) ?_ ?_
    · refine Ref.seq (B := G5 w0 F0) ?_ ?_
      · refine Ref.region (fun s ρ w s' h hr => ?_)
        obtain ⟨F, hW, h0, h1, h5⟩ := h
        refine ol_v (e_mv _ h5) rfl ?_
        refine ol_v (e_mv _ rfl) rfl ?_
        obtain ⟨A11, c12, e13, hc14, R15⟩ := id h0
        refine ol_v (e_len (SlT.sl sl_22) e13) rfl ?_
        refine ol_v (e_lss rfl rfl) rfl ?_
        obtain rfl := Option.some.inj hr
        exact ol_nil ⟨F, hW, h0, h1, h5, rfl⟩
      refine Ref.cond (b := fun s => s.t_16) (fun s ρ w ⟨F, hW, h0, h1, h5, h16⟩ => h16) (Ref.pre (A := G4 w0 F0) ?_ (fun s ρ w h => (fun ⟨F, hW, h0, h1, h5, h16⟩ => ⟨F, hW, h0, h1, h5⟩ : G5 w0 F0 s ρ w → G4 w0 F0 s ρ w) h.2)) (Ref.pre (A := G2 w0 F0) ?_ (fun s ρ w h => (fun ⟨F, hW, h0, h1, h5, h16⟩ => ⟨F, hW⟩ : G5 w0 F0 s ρ w → G2 w0 F0 s ρ w) h.2))
      · exact Ref.skip
      · exact Ref.exit (fun s ρ w h => h)
    refine Ref.seq (B := G4 w0 F0) ?_ ?_
    · refine Ref.block ?_
      refine Ref.seq (B := G6 w0 F0) ?_ ?_
      · refine Ref.regionH (by kernel_rfl) (fun s ρ w ⟨F, hW, h0, h1, h5⟩ => ⟨F, hW.drewS, h0.keep (sd hW), h1.keep (sd hW), h5⟩) (fun s ρ w s' h hr => ?_)
        obtain ⟨F, hW, h0, h1, h5⟩ := h
        refine ⟨fun w' => Stp F w F w', ?_⟩
        refine oh_v 0 rfl (by kernel_rfl) (by kernel_rfl) (by kernel_rfl) (Stp.refl _ _) (fun wv_ SV => e_mv _ rfl) rfl ?_
        refine oh_v 1 rfl (by kernel_rfl) (by kernel_rfl) (by kernel_rfl) (Stp.refl _ _) (fun wv_ SV => e_mv _ h5) rfl ?_
        obtain ⟨x16, hx16, hr⟩ := bind_some' hr
        obtain ⟨A17, c18, e19, hc20, R21⟩ := id h0
        obtain ⟨b22, o23, hA24, L25⟩ := Row.at_ R21 hx16
        refine oh_v 2 rfl (by kernel_rfl) (by kernel_rfl) (by kernel_rfl) (Stp.refl _ _) (fun wv_ SV => e_ix (SlT.sl sl_22) (SlT.sz sl_22) hA24 hx16 e19 rfl) rfl ?_
        obtain ⟨v26, hl27⟩ := LiesAt.v L25.at_
        refine oh_v 3 rfl (by kernel_rfl) (by kernel_rfl) (by kernel_rfl) (Stp.refl _ _) (fun wv_ SV => e_ld ty_56 (hl27.same SV (SV.keep _ L25.1)) rfl) rfl ?_
        refine oh_v 4 rfl (by kernel_rfl) (by kernel_rfl) (by kernel_rfl) (Stp.refl _ _) (fun wv_ SV => e_mv _ rfl) rfl ?_
        refine oh_v 5 rfl (by kernel_rfl) (by kernel_rfl) (by kernel_rfl) (Stp.refl _ _) (fun wv_ SV => e_mv _ h5) rfl ?_
        obtain ⟨x28, hx28, hr⟩ := bind_some' hr
        obtain ⟨A29, c30, e31, hc32, R33⟩ := id h1
        obtain ⟨b34, o35, hA36, L37⟩ := Row.at_ R33 hx28
        refine oh_v 6 rfl (by kernel_rfl) (by kernel_rfl) (by kernel_rfl) (Stp.refl _ _) (fun wv_ SV => e_ix (SlT.sl sl_22) (SlT.sz sl_22) hA36 hx28 e31 rfl) rfl ?_
        obtain ⟨v38, hl39⟩ := LiesAt.v L37.at_
        refine oh_v 7 rfl (by kernel_rfl) (by kernel_rfl) (by kernel_rfl) (Stp.refl _ _) (fun wv_ SV => e_ld ty_56 (hl39.same SV (SV.keep _ L37.1)) rfl) rfl ?_
        refine oh_all [8, 9] (by kernel_rfl) rfl ⟨?_, ?_, trivial⟩
        · refine oh1_e rfl (f_alloc zer_56 hW) rfl ?_
          rintro _ w41 ⟨g40, rfl, kw1, ho42⟩
          have hW43 := hW.trans kw1
          have st1 := kw1.stp hW.ok
          refine ⟨(Stp.back st1), ?_⟩
          refine oh_all [9] (by kernel_rfl) rfl ⟨?_, trivial⟩
          · refine oh1_e rfl (f_alloc zer_56 hW43) rfl ?_
            rintro _ w45 ⟨g44, rfl, kw2, ho46⟩
            have hW47 := hW43.trans kw2
            have st2 := kw2.stp hW43.ok
            refine ⟨(Stp.back (st1.trans st2)), ?_⟩
            refine oh_all [10] (by kernel_rfl) rfl ⟨?_, trivial⟩
            · refine oh1_eN rfl (f_stB hW47 ((ho42.base (row := nrow) hW.le).wk kw2 hW43.ok) (FldS.whole _) ty_56 (hl27.val.keep (st1.trans st2)) rfl rfl) ?_
              rintro - w48 ⟨hW49, ho50, hg3, st3⟩
              refine ⟨(Stp.back (st1.trans (st2.trans st3))), ?_⟩
              refine oh_all [11] (by kernel_rfl) rfl ⟨?_, trivial⟩
              · refine oh1_eN rfl (f_stB hW49 ((ho46.base (row := nrow) hW43.le).mut (Apart.base (fun _ e_ => by cases e_; exact ho46.ge) (ho42.base (row := nrow) hW.le).ltw).symm hg3 st3) (FldS.whole _) ty_56 (hl39.val.keep (st1.trans (st2.trans st3))) rfl rfl) ?_
                rintro - w51 ⟨hW52, ho53, hg4, st4⟩
                refine ⟨(Stp.back (st1.trans (st2.trans (st3.trans st4)))), ?_⟩
                obtain rfl := Option.some.inj hr
                exact oh_done (by kernel_rfl) ⟨F, hW52, g40, g44, (h0.keep (st1.trans (st2.trans (st3.trans st4)))), (h1.keep (st1.trans (st2.trans (st3.trans st4)))), h5, rfl, (ho50.mut (Apart.base (fun _ e_ => by cases e_; exact ho46.ge) (ho42.base (row := nrow) hW.le).ltw).symm.symm hg4 st4), rfl, ho53, (Apart.base (fun _ e_ => by cases e_; exact ho46.ge) (ho42.base (row := nrow) hW.le).ltw).symm.symm.symm⟩
        · refine oh1_e rfl (f_alloc zer_56 hW) rfl ?_
          rintro _ w55 ⟨g54, rfl, kw1, ho56⟩
          have hW57 := hW.trans kw1
          have st1 := kw1.stp hW.ok
          refine ⟨(Stp.back st1), ?_⟩
          refine oh_all [8] (by kernel_rfl) rfl ⟨?_, trivial⟩
          · refine oh1_e rfl (f_alloc zer_56 hW57) rfl ?_
            rintro _ w59 ⟨g58, rfl, kw2, ho60⟩
            have hW61 := hW57.trans kw2
            have st2 := kw2.stp hW57.ok
            refine ⟨(Stp.back (st1.trans st2)), ?_⟩
            refine oh_all [10] (by kernel_rfl) rfl ⟨?_, trivial⟩
            · refine oh1_eN rfl (f_stB hW61 (ho60.base (row := nrow) hW57.le) (FldS.whole _) ty_56 (hl27.val.keep (st1.trans st2)) rfl rfl) ?_
              rintro - w62 ⟨hW63, ho64, hg3, st3⟩
              refine ⟨(Stp.back (st1.trans (st2.trans st3))), ?_⟩
              refine oh_all [11] (by kernel_rfl) rfl ⟨?_, trivial⟩
              · refine oh1_eN rfl (f_stB hW63 (((ho56.base (row := nrow) hW.le).wk kw2 hW57.ok).mut (Apart.base (fun _ e_ => by cases e_; exact ho60.ge) (ho56.base (row := nrow) hW.le).ltw) hg3 st3) (FldS.whole _) ty_56 (hl39.val.keep (st1.trans (st2.trans st3))) rfl rfl) ?_
                rintro - w65 ⟨hW66, ho67, hg4, st4⟩
                refine ⟨(Stp.back (st1.trans (st2.trans (st3.trans st4)))), ?_⟩
                obtain rfl := Option.some.inj hr
                exact oh_done (by kernel_rfl) ⟨F, hW66, g58, g54, (h0.keep (st1.trans (st2.trans (st3.trans st4)))), (h1.keep (st1.trans (st2.trans (st3.trans st4)))), h5, rfl, (ho64.mut (Apart.base (fun _ e_ => by cases e_; exact ho60.ge) (ho56.base (row := nrow) hW.le).ltw).symm hg4 st4), rfl, ho67, (Apart.base (fun _ e_ => by cases e_; exact ho60.ge) (ho56.base (row := nrow) hW.le).ltw).symm.symm⟩
      refine Ref.seq (B := G7 w0 F0) ?_ ?_
      · refine Ref.region (fun s ρ w s' h hr => ?_)
        obtain ⟨F, hW, g6, g7, h0, h1, h5, p6, h6, p7, h7, a6b_7b⟩ := h
        refine ol_v (e_fa fa_56_0 p6) rfl ?_
        obtain ⟨v68, hl69, hs70⟩ := LiesV.sl ((h6).at_.fld fl_Commit_0)
        refine ol_v (e_ld ty_23 hl69 rfl) rfl ?_
        refine ol_v (e_fa fa_56_0 p7) rfl ?_
        obtain ⟨v71, hl72, hs73⟩ := LiesV.sl ((h7).at_.fld fl_Commit_0)
        refine ol_v (e_ld ty_23 hl72 rfl) rfl ?_
        obtain ⟨x74, hx74, hr⟩ := bind_some' hr
        refine ol_e (f_call [v68, v71] fn_17 (lcons rfl (lcons rfl rfl)) (ref3_Ints.calls hW.ok hs70 hs73 hx74)) rfl rfl ?_
        rintro _ w75 ⟨Fz76, rfl, kw1⟩
        have hW78 := hW.trans kw1
        have st1 := kw1.stp hW.ok
        refine ol_v (e_not_ rfl) rfl ?_
        refine ol_cutA 7 33 39 (fun ρ' w' => w75 = w' ∧ ρ' 39 = .bool ((!x74) || (!decide (s.x_6.Author = s.y_7.Author)))) rfl ?_ ?_
        · by_cases hb79 : (!x74) = true
          · refine ol_v (e_mv _ rfl) rfl ?_
            refine ol_not rfl rfl rfl (congrArg Value.bool hb79) rfl ?_
            refine ol_not rfl rfl rfl (congrArg Value.bool hb79) rfl ?_
            refine ol_not rfl rfl rfl (congrArg Value.bool hb79) rfl ?_
            refine ol_not rfl rfl rfl (congrArg Value.bool hb79) rfl ?_
            refine ol_not rfl rfl rfl (congrArg Value.bool hb79) rfl ?_
            refine ol_v (e_pick true _ (congrArg Value.bool hb79) rfl) rfl ?_
            exact ol_nil ⟨⟨rfl, (bv_or_t hb79)⟩, ((((((((Agr.refl _ _ _).upd rfl rfl).upd rfl rfl).upd rfl rfl).upd rfl rfl).upd rfl rfl).upd rfl rfl).upd rfl rfl)⟩
          · have hb80 := Bool.eq_false_iff.mpr hb79
            refine ol_v (e_mv _ rfl) rfl ?_
            refine ol_yes rfl rfl (congrArg Value.bool hb80) ?_
            refine ol_v (e_fa fa_56_1 p6) rfl ?_
            refine ol_yes rfl rfl (congrArg Value.bool hb80) ?_
            refine ol_v (e_ld ty_3 (LiesV.int (((h6.wk kw1 hW.ok)).at_.fld fl_Commit_1)) rfl) rfl ?_
            refine ol_yes rfl rfl (congrArg Value.bool hb80) ?_
            refine ol_v (e_fa fa_56_1 p7) rfl ?_
            refine ol_yes rfl rfl (congrArg Value.bool hb80) ?_
            refine ol_v (e_ld ty_3 (LiesV.int (((h7.wk kw1 hW.ok)).at_.fld fl_Commit_1)) rfl) rfl ?_
            refine ol_yes rfl rfl (congrArg Value.bool hb80) ?_
            refine ol_v (e_neq rfl rfl) rfl ?_
            refine ol_v (e_pick false _ (congrArg Value.bool hb80) rfl) rfl ?_
            exact ol_nil ⟨⟨rfl, (bv_or_f hb80)⟩, ((((((((Agr.refl _ _ _).upd rfl rfl).upd rfl rfl).upd rfl rfl).upd rfl rfl).upd rfl rfl).upd rfl rfl).upd rfl rfl)⟩
        rintro ρ81 _ ⟨⟨rfl, hp81⟩, hAg81⟩
        refine ol_cutA 7 40 46 (fun ρ' w' => w75 = w' ∧ ρ' 46 = .bool (((!x74) || (!decide (s.x_6.Author = s.y_7.Author))) || (!decide (s.x_6.Time = s.y_7.Time)))) rfl ?_ ?_
        · by_cases hb82 : ((!x74) || (!decide (s.x_6.Author = s.y_7.Author))) = true
          · refine ol_v (e_mv _ hp81) rfl ?_
            refine ol_not rfl rfl rfl (congrArg Value.bool hb82) rfl ?_
            refine ol_not rfl rfl rfl (congrArg Value.bool hb82) rfl ?_
            refine ol_not rfl rfl rfl (congrArg Value.bool hb82) rfl ?_
            refine ol_not rfl rfl rfl (congrArg Value.bool hb82) rfl ?_
            refine ol_not rfl rfl rfl (congrArg Value.bool hb82) rfl ?_
            refine ol_v (e_pick true _ (congrArg Value.bool hb82) rfl) rfl ?_
            exact ol_nil ⟨⟨rfl, (bv_or_t hb82)⟩, ((((((((Agr.refl _ _ _).upd rfl rfl).upd rfl rfl).upd rfl rfl).upd rfl rfl).upd rfl rfl).upd rfl rfl).upd rfl rfl)⟩
          · have hb83 := Bool.eq_false_iff.mpr hb82
            refine ol_v (e_mv _ hp81) rfl ?_
            refine ol_yes rfl rfl (congrArg Value.bool hb83) ?_
            refine ol_v (e_fa fa_56_2 ((hAg81 6 rfl).trans p6)) rfl ?_
            refine ol_yes rfl rfl (congrArg Value.bool hb83) ?_
            refine ol_v (e_ld ty_3 (LiesV.int (((h6.wk kw1 hW.ok)).at_.fld fl_Commit_2)) rfl) rfl ?_
            refine ol_yes rfl rfl (congrArg Value.bool hb83) ?_
            refine ol_v (e_fa fa_56_2 ((hAg81 7 rfl).trans p7)) rfl ?_
            refine ol_yes rfl rfl (congrArg Value.bool hb83) ?_
            refine ol_v (e_ld ty_3 (LiesV.int (((h7.wk kw1 hW.ok)).at_.fld fl_Commit_2)) rfl) rfl ?_
            refine ol_yes rfl rfl (congrArg Value.bool hb83) ?_
            refine ol_v (e_neq rfl rfl) rfl ?_
            refine ol_v (e_pick false _ (congrArg Value.bool hb83) rfl) rfl ?_
            exact ol_nil ⟨⟨rfl, (bv_or_f hb83)⟩, ((((((((Agr.refl _ _ _).upd rfl rfl).upd rfl rfl).upd rfl rfl).upd rfl rfl).upd rfl rfl).upd rfl rfl).upd rfl rfl)⟩
        rintro ρ84 _ ⟨⟨rfl, hp84⟩, hAg84⟩
        refine ol_cutA 7 47 53 (fun ρ' w' => w75 = w' ∧ ρ' 53 = .bool ((((!x74) || (!decide (s.x_6.Author = s.y_7.Author))) || (!decide (s.x_6.Time = s.y_7.Time))) || (!decide (s.x_6.Tree = s.y_7.Tree)))) rfl ?_ ?_
        · by_cases hb85 : (((!x74) || (!decide (s.x_6.Author = s.y_7.Author))) || (!decide (s.x_6.Time = s.y_7.Time))) = true
          · refine ol_v (e_mv _ hp84) rfl ?_
            refine ol_not rfl rfl rfl (congrArg Value.bool hb85) rfl ?_
            refine ol_not rfl rfl rfl (congrArg Value.bool hb85) rfl ?_
            refine ol_not rfl rfl rfl (congrArg Value.bool hb85) rfl ?_
            refine ol_not rfl rfl rfl (congrArg Value.bool hb85) rfl ?_
            refine ol_not rfl rfl rfl (congrArg Value.bool hb85) rfl ?_
            refine ol_v (e_pick true _ (congrArg Value.bool hb85) rfl) rfl ?_
            exact ol_nil ⟨⟨rfl, (bv_or_t hb85)⟩, ((((((((Agr.refl _ _ _).upd rfl rfl).upd rfl rfl).upd rfl rfl).upd rfl rfl).upd rfl rfl).upd rfl rfl).upd rfl rfl)⟩
          · have hb86 := Bool.eq_false_iff.mpr hb85
            refine ol_v (e_mv _ hp84) rfl ?_
            refine ol_yes rfl rfl (congrArg Value.bool hb86) ?_
            refine ol_v (e_fa fa_56_3 ((hAg84 6 rfl).trans ((hAg81 6 rfl).trans p6))) rfl ?_
            refine ol_yes rfl rfl (congrArg Value.bool hb86) ?_
            refine ol_v (e_ld ty_3 (LiesV.int (((h6.wk kw1 hW.ok)).at_.fld fl_Commit_3)) rfl) rfl ?_
            refine ol_yes rfl rfl (congrArg Value.bool hb86) ?_
            refine ol_v (e_fa fa_56_3 ((hAg84 7 rfl).trans ((hAg81 7 rfl).trans p7))) rfl ?_
            refine ol_yes rfl rfl (congrArg Value.bool hb86) ?_
            refine ol_v (e_ld ty_3 (LiesV.int (((h7.wk kw1 hW.ok)).at_.fld fl_Commit_3)) rfl) rfl ?_
            refine ol_yes rfl rfl (congrArg Value.bool hb86) ?_
            refine ol_v (e_neq rfl rfl) rfl ?_
            refine ol_v (e_pick false _ (congrArg Value.bool hb86) rfl) rfl ?_
            exact ol_nil ⟨⟨rfl, (bv_or_f hb86)⟩, ((((((((Agr.refl _ _ _).upd rfl rfl).upd rfl rfl).upd rfl rfl).upd rfl rfl).upd rfl rfl).upd rfl rfl).upd rfl rfl)⟩
        rintro ρ87 _ ⟨⟨rfl, hp87⟩, hAg87⟩
        refine ol_cutA 7 54 60 (fun ρ' w' => w75 = w' ∧ ρ' 60 = .bool (((((!x74) || (!decide (s.x_6.Author = s.y_7.Author))) || (!decide (s.x_6.Time = s.y_7.Time))) || (!decide (s.x_6.Tree = s.y_7.Tree))) || (!decide (s.x_6.Message = s.y_7.Message)))) rfl ?_ ?_
        · by_cases hb88 : ((((!x74) || (!decide (s.x_6.Author = s.y_7.Author))) || (!decide (s.x_6.Time = s.y_7.Time))) || (!decide (s.x_6.Tree = s.y_7.Tree))) = true
          · refine ol_v (e_mv _ hp87) rfl ?_
            refine ol_not rfl rfl rfl (congrArg Value.bool hb88) rfl ?_
            refine ol_not rfl rfl rfl (congrArg Value.bool hb88) rfl ?_
            refine ol_not rfl rfl rfl (congrArg Value.bool hb88) rfl ?_
            refine ol_not rfl rfl rfl (congrArg Value.bool hb88) rfl ?_
            refine ol_not rfl rfl rfl (congrArg Value.bool hb88) rfl ?_
            refine ol_v (e_pick true _ (congrArg Value.bool hb88) rfl) rfl ?_
            exact ol_nil ⟨⟨rfl, (bv_or_t hb88)⟩, ((((((((Agr.refl _ _ _).upd rfl rfl).upd rfl rfl).upd rfl rfl).upd rfl rfl).upd rfl rfl).upd rfl rfl).upd rfl rfl)⟩
          · have hb89 := Bool.eq_false_iff.mpr hb88
            refine ol_v (e_mv _ hp87) rfl ?_
            refine ol_yes rfl rfl (congrArg Value.bool hb89) ?_
            refine ol_v (e_fa fa_56_4 ((hAg87 6 rfl).trans ((hAg84 6 rfl).trans ((hAg81 6 rfl).trans p6)))) rfl ?_
            refine ol_yes rfl rfl (congrArg Value.bool hb89) ?_
            refine ol_v (e_ld ty_9 (LiesV.str (((h6.wk kw1 hW.ok)).at_.fld fl_Commit_4)) rfl) rfl ?_
            refine ol_yes rfl rfl (congrArg Value.bool hb89) ?_
            refine ol_v (e_fa fa_56_4 ((hAg87 7 rfl).trans ((hAg84 7 rfl).trans ((hAg81 7 rfl).trans p7)))) rfl ?_
            refine ol_yes rfl rfl (congrArg Value.bool hb89) ?_
            refine ol_v (e_ld ty_9 (LiesV.str (((h7.wk kw1 hW.ok)).at_.fld fl_Commit_4)) rfl) rfl ?_
            refine ol_yes rfl rfl (congrArg Value.bool hb89) ?_
            refine ol_v (e_sneq rfl rfl) rfl ?_
            refine ol_v (e_pick false _ (congrArg Value.bool hb89) rfl) rfl ?_
            exact ol_nil ⟨⟨rfl, (bv_or_f hb89)⟩, ((((((((Agr.refl _ _ _).upd rfl rfl).upd rfl rfl).upd rfl rfl).upd rfl rfl).upd rfl rfl).upd rfl rfl).upd rfl rfl)⟩
        rintro ρ90 _ ⟨⟨rfl, hp90⟩, hAg90⟩
        obtain rfl := Option.some.inj hr
        exact ol_nil ⟨Fz76, hW78, (SlR.eqv ((hAg90 0 rfl).trans ((hAg87 0 rfl).trans ((hAg84 0 rfl).trans (hAg81 0 rfl)))) (h0.keep st1)), (SlR.eqv ((hAg90 1 rfl).trans ((hAg87 1 rfl).trans ((hAg84 1 rfl).trans (hAg81 1 rfl)))) (h1.keep st1)), ((hAg90 5 rfl).trans ((hAg87 5 rfl).trans ((hAg84 5 rfl).trans ((hAg81 5 rfl).trans h5)))), hp90⟩
      refine Ref.cond (b := fun s => s.t_60) (fun s ρ w ⟨F, hW, h0, h1, h5, h60⟩ => h60) (Ref.pre (A := G2 w0 F0) ?_ (fun s ρ w h => (fun ⟨F, hW, h0, h1, h5, h60⟩ => ⟨F, hW⟩ : G7 w0 F0 s ρ w → G2 w0 F0 s ρ w) h.2)) (Ref.pre (A := G4 w0 F0) ?_ (fun s ρ w h => (fun ⟨F, hW, h0, h1, h5, h60⟩ => ⟨F, hW, h0, h1, h5⟩ : G7 w0 F0 s ρ w → G4 w0 F0 s ρ w) h.2))
      · refine Ref.seq (B := G3 w0 F0) ?_ ?_
        · refine Ref.region (fun s ρ w s' h hr => ?_)
          obtain ⟨F, hW⟩ := h
          refine ol_v (e_as _ rfl) rfl ?_
          obtain rfl := Option.some.inj hr
          exact ol_nil ⟨F, hW, rfl⟩
        exact Ref.ret (fun s ρ w h => ⟨s, rfl, h⟩)
      · exact Ref.skip
    refine Ref.region (fun s ρ w s' h hr => ?_)
    obtain ⟨F, hW, h0, h1, h5⟩ := h
    refine ol_v (e_mv _ h5) rfl ?_
    refine ol_v (e_add rfl rfl) rfl ?_
    refine ol_v (e_as _ rfl) rfl ?_
    obtain rfl := Option.some.inj hr
    exact ol_nil ⟨F, hW, h0, h1, rfl⟩
  refine Ref.seq (B := G3 w0 F0) ?_ ?_
  · refine Ref.region (fun s ρ w s' h hr => ?_)
    obtain ⟨F, hW⟩ := h
    refine ol_v (e_as _ rfl) rfl ?_
    obtain rfl := Option.some.inj hr
    exact ol_nil ⟨F, hW, rfl⟩
  exact Ref.ret (fun s ρ w h => ⟨s, rfl, h⟩)
def post (w : World) (F : BSet) (r : R) (v : Value) (w' : World) : Prop := ∃ (F' : BSet), v = .bool r ∧ Wk nrow w F F' w'
theorem calls {w : World} {F : BSet} (hok : ∀ b, F b → b < w.heap.size) {v0 : Value} {a0 : (List Commit)} (h0 : SlR k_Commit F w v0 a0) {v1 : Value} {a1 : (List Commit)} (h1 : SlR k_Commit F w v1 a1) {r : R} (hf : f a0 a1 = some r) : Calls Try.prog 24 #[v0, v1] w fun e w' => ∃ v, e = .returned v ∧ post w F r v w' := by
  obtain ⟨c, hc, href⟩ := ref w F
  refine calls_of_ref (args := [v0, v1]) _ Try.func24 hc rfl rfl href ?_ (retOf_some hf) ?_
  · exact ⟨F, Wk.refl hok, h0, h1⟩
  · rintro ρ w' a ⟨s, rfl, F', hW, h4⟩ hF
    refine ⟨_, run_results (rs := [.tmp 4]) rfl hF (vs := [ρ 4]) (⟨_, rfl, rfl⟩), ?_⟩
    have hv : resVal [ρ 4] = .bool s.t_4 := by rw [h4]; rfl
    exact ⟨F', hv, hW⟩
end
end ref3_Commits

namespace ref4_ExtractOf
section
def G0 (w0 : World) (F0 : BSet) (s : S) (ρ : Env) (w : World) : Prop := ∃ (F : BSet), Wk nrow w0 F0 F w ∧ SlR k_Commit F w (ρ 0) s.l_0 ∧ SlR (kInt .i64) F w (ρ 1) s.numbers_1
def G1 (w0 : World) (F0 : BSet) (s : S) (ρ : Env) (w : World) : Prop := ∃ (F : BSet), Wk nrow w0 F0 F w ∧ SlR k_Commit F w (ρ 0) s.l_0 ∧ SlR (kInt .i64) F w (ρ 1) s.numbers_1 ∧ OwnV k_Commit 56 (Bs w0 nrow) F w (ρ 5) s.out_5
def G2 (w0 : World) (F0 : BSet) (s : S) (ρ : Env) (w : World) : Prop := ∃ (F : BSet), Wk nrow w0 F0 F w ∧ SlR k_Commit F w (ρ 0) s.l_0 ∧ SlR (kInt .i64) F w (ρ 1) s.numbers_1 ∧ OwnV k_Commit 56 (Bs w0 nrow) F w (ρ 5) s.out_5 ∧ ρ 6 = .int .i64 s.i_6
def G3 (w0 : World) (F0 : BSet) (s : S) (ρ : Env) (w : World) : Prop := ∃ (F : BSet), Wk nrow w0 F0 F w ∧ SlR k_Commit F w (ρ 0) s.l_0 ∧ SlR (kInt .i64) F w (ρ 1) s.numbers_1 ∧ OwnV k_Commit 56 (Bs w0 nrow) F w (ρ 5) s.out_5 ∧ ρ 6 = .int .i64 s.i_6 ∧ ρ 13 = .bool s.t_13
def G4 (w0 : World) (F0 : BSet) (s : S) (ρ : Env) (w : World) : Prop := ∃ (F : BSet), Wk nrow w0 F0 F w ∧ OwnV k_Commit 56 (Bs w0 nrow) F w (ρ 5) s.out_5
def G5 (w0 : World) (F0 : BSet) (s : S) (ρ : Env) (w : World) : Prop := ∃ (F : BSet), Wk nrow w0 F0 F w ∧ ∃ (g7 : Nat), SlR k_Commit F w (ρ 0) s.l_0 ∧ SlR (kInt .i64) F w (ρ 1) s.numbers_1 ∧ OwnV k_Commit 56 (Bs w0 nrow) F w (ρ 5) s.out_5 ∧ ρ 6 = .int .i64 s.i_6 ∧ ρ 7 = .pointer (some ⟨g7, 0, none⟩) ∧ Box k_Commit 56 (Bs w0 nrow) F w g7 s.c_7 ∧ Apart (ρ 5).ownBlock (some g7)
def G6 (w0 : World) (F0 : BSet) (s : S) (ρ : Env) (w : World) : Prop := ∃ (F : BSet), Wk nrow w0 F0 F w ∧ ∃ (g7 : Nat), SlR k_Commit F w (ρ 0) s.l_0 ∧ SlR (kInt .i64) F w (ρ 1) s.numbers_1 ∧ OwnV k_Commit 56 (Bs w0 nrow) F w (ρ 5) s.out_5 ∧ ρ 6 = .int .i64 s.i_6 ∧ ρ 7 = .pointer (some ⟨g7, 0, none⟩) ∧ Box k_Commit 56 (Bs w0 nrow) F w g7 s.c_7 ∧ OwnV (kInt .i64) 3 (Bs w0 nrow) F w (ρ 8) s.parents_8 ∧ Apart (ρ 5).ownBlock (some g7)
def G7 (w0 : World) (F0 : BSet) (s : S) (ρ : Env) (w : World) : Prop := ∃ (F : BSet), Wk nrow w0 F0 F w ∧ ∃ (g7 : Nat), SlR k_Commit F w (ρ 0) s.l_0 ∧ SlR (kInt .i64) F w (ρ 1) s.numbers_1 ∧ OwnV k_Commit 56 (Bs w0 nrow) F w (ρ 5) s.out_5 ∧ ρ 6 = .int .i64 s.i_6 ∧ ρ 7 = .pointer (some ⟨g7, 0, none⟩) ∧ Box k_Commit 56 (Bs w0 nrow) F w g7 s.c_7 ∧ OwnV (kInt .i64) 3 (Bs w0 nrow) F w (ρ 8) s.parents_8 ∧ ρ 9 = .int .i64 s.k_9 ∧ Apart (ρ 5).ownBlock (some g7)
def G8 (w0 : World) (F0 : BSet) (s : S) (ρ : Env) (w : World) : Prop := ∃ (F : BSet), Wk nrow w0 F0 F w ∧ ∃ (g7 : Nat), SlR k_Commit F w (ρ 0) s.l_0 ∧ SlR (kInt .i64) F w (ρ 1) s.numbers_1 ∧ OwnV k_Commit 56 (Bs w0 nrow) F w (ρ 5) s.out_5 ∧ ρ 6 = .int .i64 s.i_6 ∧ ρ 7 = .pointer (some ⟨g7, 0, none⟩) ∧ Box k_Commit 56 (Bs w0 nrow) F w g7 s.c_7 ∧ OwnV (kInt .i64) 3 (Bs w0 nrow) F w (ρ 8) s.parents_8 ∧ ρ 9 = .int .i64 s.k_9 ∧ ρ 25 = .bool s.t_25 ∧ Apart (ρ 5).ownBlock (some g7)
def G9 (w0 : World) (F0 : BSet) (s : S) (ρ : Env) (w : World) : Prop := ∃ (F : BSet), Wk nrow w0 F0 F w ∧ ∃ (g7 : Nat), SlR k_Commit F w (ρ 0) s.l_0 ∧ SlR (kInt .i64) F w (ρ 1) s.numbers_1 ∧ OwnV k_Commit 56 (Bs w0 nrow) F w (ρ 5) s.out_5 ∧ ρ 6 = .int .i64 s.i_6 ∧ ρ 7 = .pointer (some ⟨g7, 0, none⟩) ∧ Box k_Commit 56 (Bs w0 nrow) F w g7 s.c_7 ∧ OwnV (kInt .i64) 3 (Bs w0 nrow) F w (ρ 8) s.parents_8 ∧ ρ 9 = .int .i64 s.k_9 ∧ ρ 34 = .bool s.t_34 ∧ Apart (ρ 5).ownBlock (some g7)
def G10 (w0 : World) (F0 : BSet) (s : S) (ρ : Env) (w : World) : Prop := ∃ (F : BSet), Wk nrow w0 F0 F w ∧ OwnV k_Commit 56 (Bs w0 nrow) F w (ρ 4) s.t_4
set_option maxHeartbeats 4000000 in
set_option maxRecDepth 20000 in
theorem ref (w0 : World) (F0 : BSet) : ∃ c, Try.f25.body = some c ∧ Ref Try.prog 53 c (G0 w0 F0) body (fun _ _ _ => False) (fun _ _ _ _ => False) (fun r ρ w => ∃ s, retv s = r ∧ G10 w0 F0 s ρ w) := by
  refine ⟨_, rfl, ?_⟩
  unfold body
  refine Ref.seq (B := G0 w0 F0) ?_ ?_
  · refine Ref.region (fun s ρ w s' h hr => ?_)
    obtain ⟨F, hW, h0, h1⟩ := h
    refine ol_v (e_as _ rfl) rfl ?_
    obtain rfl := Option.some.inj hr
    exact ol_nil ⟨F, hW, h0, h1⟩
  refine Ref.seq (B := G1 w0 F0) ?_ ?_
  · refine Ref.region (fun s ρ w s' h hr => ?_)
    obtain ⟨F, hW, h0, h1⟩ := h
    refine ol_v (e_as _ rfl) rfl ?_
    obtain rfl := Option.some.inj hr
    exact ol_nil ⟨F, hW, h0, h1, (OwnV.nil k_Commit 56 (Bs w0 nrow) F w)⟩
  refine Ref.seq (B := G4 w0 F0) ?_ ?_
  · refine Ref.seq (B := G2 w0 F0) ?_ ?_
    · refine Ref.region (fun s ρ w s' h hr => ?_)
      obtain ⟨F, hW, h0, h1, h5⟩ := h
      refine ol_v (e_as _ rfl) rfl ?_
      obtain rfl := Option.some.inj hr
      exact ol_nil ⟨F, hW, h0, h1, h5, rfl⟩
    refine Ref.block ?_
    refine Ref.loop ?_
    refine Ref.seq (B := G2 w0 F0) ?_ ?_
    · refine Ref.seq (B := G3 w0 F0) ?_ ?_
      · refine Ref.region (fun s ρ w s' h hr => ?_)
        obtain ⟨F, hW, h0, h1, h5, h6⟩ := h
        refine ol_v (e_mv _ h6) rfl ?_
        refine ol_v (e_mv _ rfl) rfl ?_
        obtain ⟨A1, c2, e3, hc4, R5⟩ := id h1
        refine ol_v (e_len (SlT.sl sl_23) e3) rfl ?_
        refine ol_v (e_lss rfl rfl) rfl ?_
        obtain rfl := Option.some.inj hr
        exact ol_nil ⟨F, hW, h0, h1, h5, h6, rfl⟩
      refine Ref.cond (b := fun s => s.t_13) (fun s ρ w ⟨F, hW, h0, h1, h5, h6, h13⟩ => h13) (Ref.pre (A := G2 w0 F0) ?_ (fun s ρ w h => (fun ⟨F, hW, h0, h1, h5, h6, h13⟩ => ⟨F, hW, h0, h1, h5, h6⟩ : G3 w0 F0 s ρ w → G2 w0 F0 s ρ w) h.2)) (Ref.pre (A := G4 w0 F0) ?_ (fun s ρ w h => (fun ⟨F, hW, h0, h1, h5, h6, h13⟩ => ⟨F, hW, h5⟩ : G3 w0 F0 s ρ w → G4 w0 F0 s ρ w) h.2))
      · exact Ref.skip
      · exact Ref.exit (fun s ρ w h => h)
    refine Ref.seq (B := G2 w0 F0) ?_ ?_
    · refine Ref.block ?_
      refine Ref.seq (B := G5 w0 F0) ?_ ?_
      · refine Ref.region (fun s ρ w s' h hr => ?_)
        obtain ⟨F, hW, h0, h1, h5, h6⟩ := h
        refine ol_v (e_mv _ rfl) rfl ?_
        refine ol_v (e_mv _ rfl) rfl ?_
        refine ol_v (e_mv _ h6) rfl ?_
        obtain ⟨x6, hx6, hr⟩ := bind_some' hr
        obtain ⟨A7, c8, e9, hc10, R11⟩ := id h1
        obtain ⟨b12, o13, hA14, L15⟩ := Row.at_ R11 hx6
        refine ol_v (e_ix (SlT.sl sl_23) (SlT.sz sl_23) hA14 hx6 e9 rfl) rfl ?_
        refine ol_v (e_ld ty_3 (LiesV.int L15.at_) rfl) rfl ?_
        obtain ⟨x16, hx16, hr⟩ := bind_some' hr
        obtain ⟨A17, c18, e19, hc20, R21⟩ := id h0
        obtain ⟨b22, o23, hA24, L25⟩ := Row.at_ R21 hx16
        refine ol_v (e_ix (SlT.sl sl_22) (SlT.sz sl_22) hA24 hx16 e19 rfl) rfl ?_
        obtain ⟨v26, hl27⟩ := LiesAt.v L25.at_
        refine ol_v (e_ld ty_56 hl27 rfl) rfl ?_
        refine ol_e (f_alloc zer_56 hW) rfl rfl ?_
        rintro _ w29 ⟨g28, rfl, kw1, ho30⟩
        have hW31 := hW.trans kw1
        have st1 := kw1.stp hW.ok
        refine ol_eN (f_stB hW31 (ho30.base (row := nrow) hW.le) (FldS.whole _) ty_56 (hl27.val.keep st1) rfl rfl) rfl ?_
        rintro - w32 ⟨hW33, ho34, hg2, st2⟩
        obtain rfl := Option.some.inj hr
        exact ol_nil ⟨F, hW33, g28, (h0.keep (st1.trans st2)), (h1.keep (st1.trans st2)), ((h5.wk kw1 hW.ok).mut (Apart.base (fun _ e_ => by cases e_; exact ho30.ge) h5.ltw) hg2 st2), h6, rfl, ho34, (Apart.base (fun _ e_ => by cases e_; exact ho30.ge) h5.ltw).symm⟩
      refine Ref.seq (B := G6 w0 F0) ?_ ?_
      · refine Ref.region (fun s ρ w s' h hr => ?_)
        obtain ⟨F, hW, g7, h0, h1, h5, h6, p7, h7, a5o_7b⟩ := h
        refine ol_v (e_as _ rfl) rfl ?_
        obtain rfl := Option.some.inj hr
        exact ol_nil ⟨F, hW, g7, h0, h1, h5, h6, p7, h7, (OwnV.nil (kInt .i64) 3 (Bs w0 nrow) F w), a5o_7b⟩
      refine Ref.seq (B := G6 w0 F0) ?_ ?_
      · refine Ref.seq (B := G7 w0 F0) ?_ ?_
        · refine Ref.region (fun s ρ w s' h hr => ?_)
          obtain ⟨F, hW, g7, h0, h1, h5, h6, p7, h7, h8, a5o_7b⟩ := h
          refine ol_v (e_as _ rfl) rfl ?_
          obtain rfl := Option.some.inj hr
          exact ol_nil ⟨F, hW, g7, h0, h1, h5, h6, p7, h7, h8, rfl, a5o_7b⟩
        refine Ref.block ?_
        refine Ref.loop ?_
        refine Ref.seq (B := G7 w0 F0) ?_ ?_
        · refine Ref.seq (B := G8 w0 F0) ?_ ?_
          · refine Ref.region (fun s ρ w s' h hr => ?_)
            obtain ⟨F, hW, g7, h0, h1, h5, h6, p7, h7, h8, h9, a5o_7b⟩ := h
            refine ol_v (e_mv _ h9) rfl ?_
            refine ol_v (e_mv _ h6) rfl ?_
            refine ol_v (e_lss rfl rfl) rfl ?_
            obtain rfl := Option.some.inj hr
            exact ol_nil ⟨F, hW, g7, h0, h1, h5, h6, p7, h7, h8, h9, rfl, a5o_7b⟩
          refine Ref.cond (b := fun s => s.t_25) (fun s ρ w ⟨F, hW, g7, h0, h1, h5, h6, p7, h7, h8, h9, h25, a5o_7b⟩ => h25) (Ref.pre (A := G7 w0 F0) ?_ (fun s ρ w h => (fun ⟨F, hW, g7, h0, h1, h5, h6, p7, h7, h8, h9, h25, a5o_7b⟩ => ⟨F, hW, g7, h0, h1, h5, h6, p7, h7, h8, h9, a5o_7b⟩ : G8 w0 F0 s ρ w → G7 w0 F0 s ρ w) h.2)) (Ref.pre (A := G6 w0 F0) ?_ (fun s ρ w h => (fun ⟨F, hW, g7, h0, h1, h5, h6, p7, h7, h8, h9, h25, a5o_7b⟩ => ⟨F, hW, g7, h0, h1, h5, h6, p7, h7, h8, a5o_7b⟩ : G8 w0 F0 s ρ w → G6 w0 F0 s ρ w) h.2))
          · exact Ref.skip
          · exact Ref.exit (fun s ρ w h => h)
        refine Ref.seq (B := G7 w0 F0) ?_ ?_
        · refine Ref.block ?_
          refine Ref.seq (B := G9 w0 F0) ?_ ?_
          · refine Ref.regionD 6 (by kernel_rfl) (by kernel_rfl) (fun s ρ w ⟨F, hW, g7, h0, h1, h5, h6, p7, h7, h8, h9, a5o_7b⟩ => ⟨F, hW.drewS, g7, h0.keep (sd hW), h1.keep (sd hW), h5.wk (Wk.drew (row := nrow) hW.ok) hW.ok, h6, p7, h7.wk (Wk.drew (row := nrow) hW.ok) hW.ok, h8.wk (Wk.drew (row := nrow) hW.ok) hW.ok, h9, a5o_7b⟩) (fun s ρ w s' h hr => ?_)
            obtain ⟨F, hW, g7, h0, h1, h5, h6, p7, h7, h8, h9, a5o_7b⟩ := h
            refine ol_v (e_fa fa_56_0 p7) rfl ?_
            obtain ⟨v35, hl36, hs37⟩ := LiesV.sl ((h7).at_.fld fl_Commit_0)
            refine ol_v (e_ld ty_23 hl36 rfl) rfl ?_
            refine ol_v (e_mv _ rfl) rfl ?_
            refine ol_v (e_mv _ h9) rfl ?_
            obtain ⟨x38, hx38, hr⟩ := bind_some' hr
            obtain ⟨A39, c40, e41, hc42, R43⟩ := id h1
            obtain ⟨b44, o45, hA46, L47⟩ := Row.at_ R43 hx38
            refine ol_v (e_ix (SlT.sl sl_23) (SlT.sz sl_23) hA46 hx38 e41 rfl) rfl ?_
            refine ol_v (e_ld ty_3 (LiesV.int L47.at_) rfl) rfl ?_
            obtain ⟨x48, hx48, hr⟩ := bind_some' hr
            refine ol_e (f_call [v35, .int .i64 x38] fn_33 (lcons rfl (lcons rfl rfl)) (ref3_Has.calls hW.ok hs37 x38 hx48)) rfl rfl ?_
            rintro _ w49 ⟨Fz50, rfl, kw1⟩
            have hW52 := hW.trans kw1
            have st1 := kw1.stp hW.ok
            obtain rfl := Option.some.inj hr
            exact ol_nil ⟨Fz50, hW52, g7, (h0.keep st1), (h1.keep st1), (h5.wk kw1 hW.ok), h6, p7, (h7.wk kw1 hW.ok), (h8.wk kw1 hW.ok), h9, rfl, a5o_7b⟩
          refine Ref.cond (b := fun s => s.t_34) (fun s ρ w ⟨F, hW, g7, h0, h1, h5, h6, p7, h7, h8, h9, h34, a5o_7b⟩ => h34) (Ref.pre (A := G7 w0 F0) ?_ (fun s ρ w h => (fun ⟨F, hW, g7, h0, h1, h5, h6, p7, h7, h8, h9, h34, a5o_7b⟩ => ⟨F, hW, g7, h0, h1, h5, h6, p7, h7, h8, h9, a5o_7b⟩ : G9 w0 F0 s ρ w → G7 w0 F0 s ρ w) h.2)) (Ref.pre (A := G7 w0 F0) ?_ (fun s ρ w h => (fun ⟨F, hW, g7, h0, h1, h5, h6, p7, h7, h8, h9, h34, a5o_7b⟩ => ⟨F, hW, g7, h0, h1, h5, h6, p7, h7, h8, h9, a5o_7b⟩ : G9 w0 F0 s ρ w → G7 w0 F0 s ρ w) h.2))
          · refine Ref.region (fun s ρ w s' h hr => ?_)
            obtain ⟨F, hW, g7, h0, h1, h5, h6, p7, h7, h8, h9, a5o_7b⟩ := h
            refine ol_v (e_mv _ rfl) rfl ?_
            refine ol_v (e_mv _ h9) rfl ?_
            refine ol_e (f_bslF sl_23 hW ([s.k_9] : List Int) [.int .i64 s.k_9] (by exact ⟨_, _, rfl, (val_int _ _), rfl⟩) rfl (Nat.le_of_ble_eq_true rfl) (lcons (congrArg (Prod.mk 0) rfl) rfl)) rfl rfl ?_
            rintro v53 w54 ⟨Fz56, kw1, ho55⟩
            have hW57 := hW.trans kw1
            have st1 := kw1.stp hW.ok
            obtain ⟨x58, hx58, hr⟩ := bind_some' hr
            refine ol_e (f_app sl_23 hW57 (h8.wk kw1 hW.ok) ho55 hx58 rfl rfl) rfl rfl ?_
            rintro v59 w60 ⟨hW61, ho62, hg2, st2, hor63⟩
            refine ol_v (e_as _ rfl) rfl ?_
            obtain rfl := Option.some.inj hr
            exact ol_nil ⟨Fz56, hW61, g7, (h0.keep (st1.trans st2)), (h1.keep (st1.trans st2)), ((h5.wk kw1 hW.ok).mut (apart_oo (h8.wk kw1 hW.ok) (h5.wk kw1 hW.ok) rfl) hg2 st2), h6, p7, ((h7.wk kw1 hW.ok).mut (apart_bo (h7.wk kw1 hW.ok) (h8.wk kw1 hW.ok) rfl).symm hg2 st2), ho62, h9, a5o_7b⟩
          · exact Ref.skip
        refine Ref.region (fun s ρ w s' h hr => ?_)
        obtain ⟨F, hW, g7, h0, h1, h5, h6, p7, h7, h8, h9, a5o_7b⟩ := h
        refine ol_v (e_mv _ h9) rfl ?_
        refine ol_v (e_add rfl rfl) rfl ?_
        refine ol_v (e_as _ rfl) rfl ?_
        obtain rfl := Option.some.inj hr
        exact ol_nil ⟨F, hW, g7, h0, h1, h5, h6, p7, h7, h8, rfl, a5o_7b⟩
      refine Ref.region (fun s ρ w s' h hr => ?_)
      obtain ⟨F, hW, g7, h0, h1, h5, h6, p7, h7, h8, a5o_7b⟩ := h
      refine ol_v (e_mv _ rfl) rfl ?_
      refine ol_v (e_mv _ rfl) rfl ?_
      refine ol_v (e_fa fa_56_1 p7) rfl ?_
      refine ol_v (e_ld ty_3 (LiesV.int ((h7).at_.fld fl_Commit_1)) rfl) rfl ?_
      refine ol_v (e_fa fa_56_2 p7) rfl ?_
      refine ol_v (e_ld ty_3 (LiesV.int ((h7).at_.fld fl_Commit_2)) rfl) rfl ?_
      refine ol_v (e_fa fa_56_3 p7) rfl ?_
      refine ol_v (e_ld ty_3 (LiesV.int ((h7).at_.fld fl_Commit_3)) rfl) rfl ?_
      refine ol_v (e_fa fa_56_4 p7) rfl ?_
      refine ol_v (e_ld ty_9 (LiesV.str ((h7).at_.fld fl_Commit_4)) rfl) rfl ?_
      obtain ⟨Fz64, hWz65, st1, hF1, hz66⟩ := (h8).frozen hW
      obtain ⟨A67, c68, e69, hc70, R71⟩ := id hz66
      refine ol_v (e_bld (cells := #[.slice A67 s.parents_8.length c68, .int .i64 s.c_7.Author, .int .i64 s.c_7.Time, .int .i64 s.c_7.Tree, .string s.c_7.Message]) bld_56 (vs := [(0, .slice A67 s.parents_8.length c68), (1, .int .i64 s.c_7.Author), (2, .int .i64 s.c_7.Time), (3, .int .i64 s.c_7.Tree), (4, .string s.c_7.Message)]) (lcons (congrArg (Prod.mk 0) e69) (lcons (congrArg (Prod.mk 1) rfl) (lcons (congrArg (Prod.mk 2) rfl) (lcons (congrArg (Prod.mk 3) rfl) (lcons (congrArg (Prod.mk 4) rfl) rfl))))) rfl) rfl ?_
      have hb72 : Val k_Commit Fz64 w (.agg #[.slice A67 s.parents_8.length c68, .int .i64 s.c_7.Author, .int .i64 s.c_7.Time, .int .i64 s.c_7.Tree, .string s.c_7.Message]) (⟨s.parents_8, s.c_7.Author, s.c_7.Time, s.c_7.Tree, s.c_7.Message⟩ : Commit) := mk_Commit (val_sl ⟨A67, c68, rfl, hc70, R71⟩) (val_int _ _) (val_int _ _) (val_int _ _) (val_str _)
      refine ol_e (f_bslF sl_22 hWz65 ([(⟨s.parents_8, s.c_7.Author, s.c_7.Time, s.c_7.Tree, s.c_7.Message⟩ : Commit)] : List Commit) [.agg #[.slice A67 s.parents_8.length c68, .int .i64 s.c_7.Author, .int .i64 s.c_7.Time, .int .i64 s.c_7.Tree, .string s.c_7.Message]] (by exact ⟨_, _, rfl, hb72, rfl⟩) rfl (Nat.le_of_ble_eq_true rfl) (lcons (congrArg (Prod.mk 0) rfl) rfl)) rfl rfl ?_
      rintro v73 w74 ⟨Fz76, kw2, ho75⟩
      have hW77 := hWz65.trans kw2
      have st2 := kw2.stp hWz65.ok
      obtain ⟨x78, hx78, hr⟩ := bind_some' hr
      refine ol_e (f_app sl_22 hW77 ((h5.frz (apart_oo h8 h5 rfl) hF1 st1).wk kw2 hWz65.ok) ho75 hx78 rfl rfl) rfl rfl ?_
      rintro v79 w80 ⟨hW81, ho82, hg3, st3, hor83⟩
      refine ol_v (e_as _ rfl) rfl ?_
      obtain rfl := Option.some.inj hr
      exact ol_nil ⟨Fz76, hW81, (h0.keep (st1.trans (st2.trans st3))), (h1.keep (st1.trans (st2.trans st3))), ho82, h6⟩
    refine Ref.region (fun s ρ w s' h hr => ?_)
    obtain ⟨F, hW, h0, h1, h5, h6⟩ := h
    refine ol_v (e_mv _ h6) rfl ?_
    refine ol_v (e_add rfl rfl) rfl ?_
    refine ol_v (e_as _ rfl) rfl ?_
    obtain rfl := Option.some.inj hr
    exact ol_nil ⟨F, hW, h0, h1, h5, rfl⟩
  refine Ref.seq (B := G10 w0 F0) ?_ ?_
  · refine Ref.region (fun s ρ w s' h hr => ?_)
    obtain ⟨F, hW, h5⟩ := h
    refine ol_v (e_mv _ rfl) rfl ?_
    refine ol_v (e_as _ rfl) rfl ?_
    obtain rfl := Option.some.inj hr
    exact ol_nil ⟨F, hW, h5⟩
  exact Ref.ret (fun s ρ w h => ⟨s, rfl, h⟩)
def post (w : World) (F : BSet) (r : R) (v : Value) (w' : World) : Prop := ∃ (F' : BSet) (v0' : Value), v = v0' ∧ Wk nrow w F F' w' ∧ OwnV k_Commit 56 (Nw w) F' w' v0' r
theorem calls {w : World} {F : BSet} (hok : ∀ b, F b → b < w.heap.size) {v0 : Value} {a0 : (List Commit)} (h0 : SlR k_Commit F w v0 a0) {v1 : Value} {a1 : (List Int)} (h1 : SlR (kInt .i64) F w v1 a1) {r : R} (hf : f a0 a1 = some r) : Calls Try.prog 25 #[v0, v1] w fun e w' => ∃ v, e = .returned v ∧ post w F r v w' := by
  obtain ⟨c, hc, href⟩ := ref w F
  refine calls_of_ref (args := [v0, v1]) _ Try.func25 hc rfl rfl href ?_ (retOf_some hf) ?_
  · exact ⟨F, Wk.refl hok, h0, h1⟩
  · rintro ρ w' a ⟨s, rfl, F', hW, h4⟩ hF
    refine ⟨_, run_results (rs := [.tmp 4]) rfl hF (vs := [ρ 4]) (⟨_, rfl, rfl⟩), ?_⟩
    exact ⟨F', ρ 4, rfl, hW, h4.rebase (fun g hg => (h4.lt hg).1.resolve_right (fun h => h))⟩
end
end ref4_ExtractOf

namespace law4_ShallowSelectionMatchesSpec
section
def G0 (w0 : World) (F0 : BSet) (s : S) (ρ : Env) (w : World) : Prop := ∃ (F : BSet), Wk nrow w0 F0 F w ∧ SlR k_Commit F w (ρ 0) s.t_0 ∧ SlR (kInt .i64) F w (ρ 1) s.t_1 ∧ ρ 2 = .int .i64 s.t_2
def G1 (w0 : World) (F0 : BSet) (s : S) (ρ : Env) (w : World) : Prop := ∃ (F : BSet), Wk nrow w0 F0 F w ∧ SlR k_Commit F w (ρ 0) s.t_0 ∧ SlR (kInt .i64) F w (ρ 1) s.t_1 ∧ ρ 2 = .int .i64 s.t_2 ∧ ρ 15 = .bool s.t_15
def G2 (w0 : World) (F0 : BSet) (s : S) (ρ : Env) (w : World) : Prop := ∃ (F : BSet), Wk nrow w0 F0 F w
def G3 (w0 : World) (F0 : BSet) (s : S) (ρ : Env) (w : World) : Prop := ∃ (F : BSet), Wk nrow w0 F0 F w ∧ ρ 6 = .bool s.t_6
def G4 (w0 : World) (F0 : BSet) (s : S) (ρ : Env) (w : World) : Prop := ∃ (F : BSet), Wk nrow w0 F0 F w ∧ ∃ (g8 : Nat), SlR k_Commit F w (ρ 0) s.t_0 ∧ SlR (kInt .i64) F w (ρ 1) s.t_1 ∧ ρ 2 = .int .i64 s.t_2 ∧ SlR (kInt .i64) F w (ρ 7) s.t_7 ∧ ρ 8 = .pointer (some ⟨g8, 0, none⟩) ∧ Box k_Fault 26 (Bs w0 nrow) F w g8 s.t_8
def G5 (w0 : World) (F0 : BSet) (s : S) (ρ : Env) (w : World) : Prop := ∃ (F : BSet), Wk nrow w0 F0 F w ∧ ∃ (g8 : Nat) (g10 : Nat), SlR k_Commit F w (ρ 0) s.t_0 ∧ SlR (kInt .i64) F w (ρ 1) s.t_1 ∧ ρ 2 = .int .i64 s.t_2 ∧ SlR (kInt .i64) F w (ρ 7) s.t_7 ∧ ρ 8 = .pointer (some ⟨g8, 0, none⟩) ∧ Box k_Fault 26 (Bs w0 nrow) F w g8 s.t_8 ∧ SlR (kInt .i64) F w (ρ 9) s.t_9 ∧ ρ 10 = .pointer (some ⟨g10, 0, none⟩) ∧ Box k_Fault 26 (Bs w0 nrow) F w g10 s.t_10 ∧ Apart (some g8) (some g10)
def G6 (w0 : World) (F0 : BSet) (s : S) (ρ : Env) (w : World) : Prop := ∃ (F : BSet), Wk nrow w0 F0 F w ∧ ∃ (g8 : Nat) (g10 : Nat) (g12 : Nat), SlR k_Commit F w (ρ 0) s.t_0 ∧ SlR (kInt .i64) F w (ρ 1) s.t_1 ∧ ρ 2 = .int .i64 s.t_2 ∧ SlR (kInt .i64) F w (ρ 7) s.t_7 ∧ ρ 8 = .pointer (some ⟨g8, 0, none⟩) ∧ Box k_Fault 26 (Bs w0 nrow) F w g8 s.t_8 ∧ SlR (kInt .i64) F w (ρ 9) s.t_9 ∧ ρ 10 = .pointer (some ⟨g10, 0, none⟩) ∧ Box k_Fault 26 (Bs w0 nrow) F w g10 s.t_10 ∧ SlR k_Commit F w (ρ 11) s.t_11 ∧ ρ 12 = .pointer (some ⟨g12, 0, none⟩) ∧ Box k_Fault 26 (Bs w0 nrow) F w g12 s.t_12 ∧ Apart (some g8) (some g10) ∧ Apart (some g8) (some g12) ∧ Apart (some g10) (some g12)
def G7 (w0 : World) (F0 : BSet) (s : S) (ρ : Env) (w : World) : Prop := ∃ (F : BSet), Wk nrow w0 F0 F w ∧ ∃ (g8 : Nat) (g10 : Nat) (g12 : Nat) (g13 : Nat), SlR k_Commit F w (ρ 0) s.t_0 ∧ SlR (kInt .i64) F w (ρ 1) s.t_1 ∧ ρ 2 = .int .i64 s.t_2 ∧ SlR (kInt .i64) F w (ρ 7) s.t_7 ∧ ρ 8 = .pointer (some ⟨g8, 0, none⟩) ∧ Box k_Fault 26 (Bs w0 nrow) F w g8 s.t_8 ∧ SlR (kInt .i64) F w (ρ 9) s.t_9 ∧ ρ 10 = .pointer (some ⟨g10, 0, none⟩) ∧ Box k_Fault 26 (Bs w0 nrow) F w g10 s.t_10 ∧ SlR k_Commit F w (ρ 11) s.t_11 ∧ ρ 12 = .pointer (some ⟨g12, 0, none⟩) ∧ Box k_Fault 26 (Bs w0 nrow) F w g12 s.t_12 ∧ ρ 13 = .pointer (some ⟨g13, 0, none⟩) ∧ Box k_Fault 26 (Bs w0 nrow) F w g13 s.t_13 ∧ Apart (some g8) (some g10) ∧ Apart (some g8) (some g12) ∧ Apart (some g8) (some g13) ∧ Apart (some g10) (some g12) ∧ Apart (some g10) (some g13) ∧ Apart (some g12) (some g13)
def G8 (w0 : World) (F0 : BSet) (s : S) (ρ : Env) (w : World) : Prop := ∃ (F : BSet), Wk nrow w0 F0 F w ∧ ∃ (g8 : Nat) (g10 : Nat) (g12 : Nat) (g13 : Nat), SlR k_Commit F w (ρ 0) s.t_0 ∧ SlR (kInt .i64) F w (ρ 1) s.t_1 ∧ ρ 2 = .int .i64 s.t_2 ∧ SlR (kInt .i64) F w (ρ 7) s.t_7 ∧ ρ 8 = .pointer (some ⟨g8, 0, none⟩) ∧ Box k_Fault 26 (Bs w0 nrow) F w g8 s.t_8 ∧ SlR (kInt .i64) F w (ρ 9) s.t_9 ∧ ρ 10 = .pointer (some ⟨g10, 0, none⟩) ∧ Box k_Fault 26 (Bs w0 nrow) F w g10 s.t_10 ∧ SlR k_Commit F w (ρ 11) s.t_11 ∧ ρ 12 = .pointer (some ⟨g12, 0, none⟩) ∧ Box k_Fault 26 (Bs w0 nrow) F w g12 s.t_12 ∧ ρ 13 = .pointer (some ⟨g13, 0, none⟩) ∧ Box k_Fault 26 (Bs w0 nrow) F w g13 s.t_13 ∧ ρ 40 = .bool s.t_40 ∧ Apart (some g8) (some g10) ∧ Apart (some g8) (some g12) ∧ Apart (some g8) (some g13) ∧ Apart (some g10) (some g12) ∧ Apart (some g10) (some g13) ∧ Apart (some g12) (some g13)
def G9 (w0 : World) (F0 : BSet) (s : S) (ρ : Env) (w : World) : Prop := ∃ (F : BSet), Wk nrow w0 F0 F w ∧ ∃ (g8 : Nat) (g10 : Nat) (g12 : Nat) (g13 : Nat), SlR (kInt .i64) F w (ρ 7) s.t_7 ∧ ρ 8 = .pointer (some ⟨g8, 0, none⟩) ∧ Box k_Fault 26 (Bs w0 nrow) F w g8 s.t_8 ∧ SlR (kInt .i64) F w (ρ 9) s.t_9 ∧ ρ 10 = .pointer (some ⟨g10, 0, none⟩) ∧ Box k_Fault 26 (Bs w0 nrow) F w g10 s.t_10 ∧ SlR k_Commit F w (ρ 11) s.t_11 ∧ ρ 12 = .pointer (some ⟨g12, 0, none⟩) ∧ Box k_Fault 26 (Bs w0 nrow) F w g12 s.t_12 ∧ ρ 13 = .pointer (some ⟨g13, 0, none⟩) ∧ Box k_Fault 26 (Bs w0 nrow) F w g13 s.t_13 ∧ Apart (some g8) (some g10) ∧ Apart (some g8) (some g12) ∧ Apart (some g8) (some g13) ∧ Apart (some g10) (some g12) ∧ Apart (some g10) (some g13) ∧ Apart (some g12) (some g13)
def G10 (w0 : World) (F0 : BSet) (s : S) (ρ : Env) (w : World) : Prop := ∃ (F : BSet), Wk nrow w0 F0 F w ∧ ∃ (g10 : Nat), SlR k_Commit F w (ρ 0) s.t_0 ∧ SlR (kInt .i64) F w (ρ 1) s.t_1 ∧ ρ 2 = .int .i64 s.t_2 ∧ SlR (kInt .i64) F w (ρ 9) s.t_9 ∧ ρ 10 = .pointer (some ⟨g10, 0, none⟩) ∧ Box k_Fault 26 (Bs w0 nrow) F w g10 s.t_10 ∧ ρ 88 = .bool s.t_88
def G11 (w0 : World) (F0 : BSet) (s : S) (ρ : Env) (w : World) : Prop := ∃ (F : BSet), Wk nrow w0 F0 F w ∧ ∃ (g10 : Nat), SlR k_Commit F w (ρ 0) s.t_0 ∧ SlR (kInt .i64) F w (ρ 1) s.t_1 ∧ ρ 2 = .int .i64 s.t_2 ∧ SlR (kInt .i64) F w (ρ 9) s.t_9 ∧ ρ 10 = .pointer (some ⟨g10, 0, none⟩) ∧ Box k_Fault 26 (Bs w0 nrow) F w g10 s.t_10
def G12 (w0 : World) (F0 : BSet) (s : S) (ρ : Env) (w : World) : Prop := ∃ (F : BSet), Wk nrow w0 F0 F w ∧ ∃ (g10 : Nat), SlR k_Commit F w (ρ 0) s.t_0 ∧ SlR (kInt .i64) F w (ρ 1) s.t_1 ∧ ρ 2 = .int .i64 s.t_2 ∧ SlR (kInt .i64) F w (ρ 9) s.t_9 ∧ ρ 10 = .pointer (some ⟨g10, 0, none⟩) ∧ Box k_Fault 26 (Bs w0 nrow) F w g10 s.t_10 ∧ ρ 91 = .bool s.t_91
def G13 (w0 : World) (F0 : BSet) (s : S) (ρ : Env) (w : World) : Prop := ∃ (F : BSet), Wk nrow w0 F0 F w ∧ ∃ (g10 : Nat), SlR (kInt .i64) F w (ρ 9) s.t_9 ∧ ρ 10 = .pointer (some ⟨g10, 0, none⟩) ∧ Box k_Fault 26 (Bs w0 nrow) F w g10 s.t_10
set_option maxHeartbeats 4000000 in
set_option maxRecDepth 20000 in
theorem ref (w0 : World) (F0 : BSet) : ∃ c, Try.f4.body = some c ∧ Ref Try.prog 111 c (G0 w0 F0) body (fun _ _ _ => False) (fun _ _ _ _ => False) (fun r ρ w => ∃ s, retv s = r ∧ G3 w0 F0 s ρ w) := by
  refine ⟨_, rfl, ?_⟩
  unfold body
  refine Ref.seq (B := G0 w0 F0) ?_ ?_
  · refine Ref.region (fun s ρ w s' h hr => ?_)
    obtain ⟨F, hW, h0, h1, h2⟩ := h
    refine ol_v (e_as _ rfl) rfl ?_
    obtain rfl := Option.some.inj hr
    exact ol_nil ⟨F, hW, h0, h1, h2⟩
  refine Ref.seq (B := G0 w0 F0) ?_ ?_
  · refine Ref.seq (B := G1 w0 F0) ?_ ?_
    · refine Ref.region (fun s ρ w s' h hr => ?_)
      obtain ⟨F, hW, h0, h1, h2⟩ := h
      obtain ⟨x1, hx1, hr⟩ := bind_some' hr
      refine ol_e (f_call [] fn_12 rfl (law4_shallowExample.calls hW.ok  hx1)) rfl rfl ?_
      rintro _ w2 ⟨Fz3, rfl, kw1⟩
      have hW5 := hW.trans kw1
      have st1 := kw1.stp hW.ok
      refine ol_v (e_not_ rfl) rfl ?_
      obtain rfl := Option.some.inj hr
      exact ol_nil ⟨Fz3, hW5, (h0.keep st1), (h1.keep st1), h2, rfl⟩
    refine Ref.cond (b := fun s => s.t_15) (fun s ρ w ⟨F, hW, h0, h1, h2, h15⟩ => h15) (Ref.pre (A := G2 w0 F0) ?_ (fun s ρ w h => (fun ⟨F, hW, h0, h1, h2, h15⟩ => ⟨F, hW⟩ : G1 w0 F0 s ρ w → G2 w0 F0 s ρ w) h.2)) (Ref.pre (A := G0 w0 F0) ?_ (fun s ρ w h => (fun ⟨F, hW, h0, h1, h2, h15⟩ => ⟨F, hW, h0, h1, h2⟩ : G1 w0 F0 s ρ w → G0 w0 F0 s ρ w) h.2))
    · refine Ref.seq (B := G3 w0 F0) ?_ ?_
      · refine Ref.region (fun s ρ w s' h hr => ?_)
        obtain ⟨F, hW⟩ := h
        refine ol_v (e_as _ rfl) rfl ?_
        obtain rfl := Option.some.inj hr
        exact ol_nil ⟨F, hW, rfl⟩
      exact Ref.ret (fun s ρ w h => ⟨s, rfl, h⟩)
    · exact Ref.skip
  refine Ref.seq (B := G4 w0 F0) ?_ ?_
  · refine Ref.region (fun s ρ w s' h hr => ?_)
    obtain ⟨F, hW, h0, h1, h2⟩ := h
    refine ol_v (e_mv _ rfl) rfl ?_
    refine ol_v (e_mv _ rfl) rfl ?_
    obtain ⟨x6, hx6, hr⟩ := bind_some' hr
    refine ol_e (f_call [(ρ 0), (ρ 1)] fn_19 (lcons rfl (lcons rfl rfl)) (shallow_Boundary.calls hW.ok h0 h1 hx6)) rfl rfl ?_
    rintro _ w7 ⟨Fz8, v9, v11, rfl, kw1, hk10, hk12⟩
    have hW14 := hW.trans kw1
    have st1 := kw1.stp hW.ok
    refine ol_v (e_mv _ rfl) rfl ?_
    refine ol_v (e_ext _ rfl rfl) rfl ?_
    refine ol_v (e_ext _ rfl rfl) rfl ?_
    refine ol_e (f_alloc zer_26 hW14) rfl rfl ?_
    rintro _ w16 ⟨g15, rfl, kw2, ho17⟩
    have hW18 := hW14.trans kw2
    have st2 := kw2.stp hW14.ok
    obtain ⟨Fz19, hWz20, st3, hF3, hz21⟩ := (((hk10.base (row := nrow) hW.le).wk kw2 hW14.ok)).frozen hW18
    refine ol_v (e_as _ rfl) rfl ?_
    refine ol_eN (f_stB hWz20 ((ho17.base (row := nrow) hW14.le).frz (apart_bo (ho17.base (row := nrow) hW14.le) ((hk10.base (row := nrow) hW.le).wk kw2 hW14.ok) rfl).symm hF3 st3) (FldS.whole _) ty_26 (hk12.keep (st2.trans st3)) rfl rfl) rfl ?_
    rintro - w22 ⟨hW23, ho24, hg4, st4⟩
    obtain rfl := Option.some.inj hr
    exact ol_nil ⟨Fz19, hW23, g15, (h0.keep (st1.trans (st2.trans (st3.trans st4)))), (h1.keep (st1.trans (st2.trans (st3.trans st4)))), h2, (hz21.keep st4), rfl, ho24⟩
  refine Ref.seq (B := G5 w0 F0) ?_ ?_
  · refine Ref.region (fun s ρ w s' h hr => ?_)
    obtain ⟨F, hW, g8, h0, h1, h2, h7, p8, h8⟩ := h
    refine ol_v (e_mv _ rfl) rfl ?_
    refine ol_v (e_mv _ rfl) rfl ?_
    refine ol_v (e_mv _ h2) rfl ?_
    obtain ⟨x25, hx25, hr⟩ := bind_some' hr
    refine ol_e (f_call [(ρ 0), (ρ 1), .int .i64 s.t_2] fn_20 (lcons rfl (lcons rfl (lcons rfl rfl))) (shallow_Deepen.calls hW.ok h0 h1 s.t_2 hx25)) rfl rfl ?_
    rintro _ w26 ⟨Fz27, v28, v30, rfl, kw1, hk29, hk31⟩
    have hW33 := hW.trans kw1
    have st1 := kw1.stp hW.ok
    refine ol_v (e_mv _ rfl) rfl ?_
    refine ol_v (e_ext _ rfl rfl) rfl ?_
    refine ol_v (e_ext _ rfl rfl) rfl ?_
    refine ol_e (f_alloc zer_26 hW33) rfl rfl ?_
    rintro _ w35 ⟨g34, rfl, kw2, ho36⟩
    have hW37 := hW33.trans kw2
    have st2 := kw2.stp hW33.ok
    obtain ⟨Fz38, hWz39, st3, hF3, hz40⟩ := (((hk29.base (row := nrow) hW.le).wk kw2 hW33.ok)).frozen hW37
    refine ol_v (e_as _ rfl) rfl ?_
    refine ol_eN (f_stB hWz39 ((ho36.base (row := nrow) hW33.le).frz (apart_bo (ho36.base (row := nrow) hW33.le) ((hk29.base (row := nrow) hW.le).wk kw2 hW33.ok) rfl).symm hF3 st3) (FldS.whole _) ty_26 (hk31.keep (st2.trans st3)) rfl rfl) rfl ?_
    rintro - w41 ⟨hW42, ho43, hg4, st4⟩
    obtain rfl := Option.some.inj hr
    exact ol_nil ⟨Fz38, hW42, g8, g34, (h0.keep (st1.trans (st2.trans (st3.trans st4)))), (h1.keep (st1.trans (st2.trans (st3.trans st4)))), h2, (h7.keep (st1.trans (st2.trans (st3.trans st4)))), p8, ((((h8.wk kw1 hW.ok).wk kw2 hW33.ok).frz (apart_bo ((h8.wk kw1 hW.ok).wk kw2 hW33.ok) ((hk29.base (row := nrow) hW.le).wk kw2 hW33.ok) rfl).symm hF3 st3).mut (Apart.base (fun _ e_ => by cases e_; exact ho36.ge) (h8.wk kw1 hW.ok).ltw) hg4 st4), (hz40.keep st4), rfl, ho43, (Apart.base (fun _ e_ => by cases e_; exact ho36.ge) (h8.wk kw1 hW.ok).ltw).symm⟩
  refine Ref.seq (B := G6 w0 F0) ?_ ?_
  · refine Ref.region (fun s ρ w s' h hr => ?_)
    obtain ⟨F, hW, g8, g10, h0, h1, h2, h7, p8, h8, h9, p10, h10, a8b_10b⟩ := h
    refine ol_v (e_mv _ rfl) rfl ?_
    refine ol_v (e_mv _ rfl) rfl ?_
    obtain ⟨x44, hx44, hr⟩ := bind_some' hr
    refine ol_e (f_call [(ρ 0), (ρ 1)] fn_21 (lcons rfl (lcons rfl rfl)) (shallow_Extract.calls hW.ok h0 h1 hx44)) rfl rfl ?_
    rintro _ w45 ⟨Fz46, v47, v49, rfl, kw1, hk48, hk50⟩
    have hW52 := hW.trans kw1
    have st1 := kw1.stp hW.ok
    refine ol_v (e_mv _ rfl) rfl ?_
    refine ol_v (e_ext _ rfl rfl) rfl ?_
    refine ol_v (e_ext _ rfl rfl) rfl ?_
    refine ol_e (f_alloc zer_26 hW52) rfl rfl ?_
    rintro _ w54 ⟨g53, rfl, kw2, ho55⟩
    have hW56 := hW52.trans kw2
    have st2 := kw2.stp hW52.ok
    obtain ⟨Fz57, hWz58, st3, hF3, hz59⟩ := (((hk48.base (row := nrow) hW.le).wk kw2 hW52.ok)).frozen hW56
    refine ol_v (e_as _ rfl) rfl ?_
    refine ol_eN (f_stB hWz58 ((ho55.base (row := nrow) hW52.le).frz (apart_bo (ho55.base (row := nrow) hW52.le) ((hk48.base (row := nrow) hW.le).wk kw2 hW52.ok) rfl).symm hF3 st3) (FldS.whole _) ty_26 (hk50.keep (st2.trans st3)) rfl rfl) rfl ?_
    rintro - w60 ⟨hW61, ho62, hg4, st4⟩
    obtain rfl := Option.some.inj hr
    exact ol_nil ⟨Fz57, hW61, g8, g10, g53, (h0.keep (st1.trans (st2.trans (st3.trans st4)))), (h1.keep (st1.trans (st2.trans (st3.trans st4)))), h2, (h7.keep (st1.trans (st2.trans (st3.trans st4)))), p8, ((((h8.wk kw1 hW.ok).wk kw2 hW52.ok).frz (apart_bo ((h8.wk kw1 hW.ok).wk kw2 hW52.ok) ((hk48.base (row := nrow) hW.le).wk kw2 hW52.ok) rfl).symm hF3 st3).mut (Apart.base (fun _ e_ => by cases e_; exact ho55.ge) (h8.wk kw1 hW.ok).ltw) hg4 st4), (h9.keep (st1.trans (st2.trans (st3.trans st4)))), p10, ((((h10.wk kw1 hW.ok).wk kw2 hW52.ok).frz (apart_bo ((h10.wk kw1 hW.ok).wk kw2 hW52.ok) ((hk48.base (row := nrow) hW.le).wk kw2 hW52.ok) rfl).symm hF3 st3).mut (Apart.base (fun _ e_ => by cases e_; exact ho55.ge) (h10.wk kw1 hW.ok).ltw) hg4 st4), (hz59.keep st4), rfl, ho62, a8b_10b, (Apart.base (fun _ e_ => by cases e_; exact ho55.ge) (h8.wk kw1 hW.ok).ltw).symm, (Apart.base (fun _ e_ => by cases e_; exact ho55.ge) (h10.wk kw1 hW.ok).ltw).symm⟩
  refine Ref.seq (B := G7 w0 F0) ?_ ?_
  · refine Ref.region (fun s ρ w s' h hr => ?_)
    obtain ⟨F, hW, g8, g10, g12, h0, h1, h2, h7, p8, h8, h9, p10, h10, h11, p12, h12, a8b_10b, a8b_12b, a10b_12b⟩ := h
    refine ol_v (e_mv _ rfl) rfl ?_
    refine ol_v (e_mv _ rfl) rfl ?_
    obtain ⟨x63, hx63, hr⟩ := bind_some' hr
    refine ol_e (f_call [(ρ 0), (ρ 1)] fn_22 (lcons rfl (lcons rfl rfl)) (ref4_SelectionFault.calls hW.ok h0 h1 hx63)) rfl rfl ?_
    rintro v66 w64 ⟨Fz65, _, rfl, kw1, hk67⟩
    have hW69 := hW.trans kw1
    have st1 := kw1.stp hW.ok
    refine ol_e (f_alloc zer_26 hW69) rfl rfl ?_
    rintro _ w71 ⟨g70, rfl, kw2, ho72⟩
    have hW73 := hW69.trans kw2
    have st2 := kw2.stp hW69.ok
    refine ol_eN (f_stB hW73 (ho72.base (row := nrow) hW69.le) (FldS.whole _) ty_26 (hk67.keep st2) rfl rfl) rfl ?_
    rintro - w74 ⟨hW75, ho76, hg3, st3⟩
    obtain rfl := Option.some.inj hr
    exact ol_nil ⟨Fz65, hW75, g8, g10, g12, g70, (h0.keep (st1.trans (st2.trans st3))), (h1.keep (st1.trans (st2.trans st3))), h2, (h7.keep (st1.trans (st2.trans st3))), p8, (((h8.wk kw1 hW.ok).wk kw2 hW69.ok).mut (Apart.base (fun _ e_ => by cases e_; exact ho72.ge) (h8.wk kw1 hW.ok).ltw) hg3 st3), (h9.keep (st1.trans (st2.trans st3))), p10, (((h10.wk kw1 hW.ok).wk kw2 hW69.ok).mut (Apart.base (fun _ e_ => by cases e_; exact ho72.ge) (h10.wk kw1 hW.ok).ltw) hg3 st3), (h11.keep (st1.trans (st2.trans st3))), p12, (((h12.wk kw1 hW.ok).wk kw2 hW69.ok).mut (Apart.base (fun _ e_ => by cases e_; exact ho72.ge) (h12.wk kw1 hW.ok).ltw) hg3 st3), rfl, ho76, a8b_10b, a8b_12b, (Apart.base (fun _ e_ => by cases e_; exact ho72.ge) (h8.wk kw1 hW.ok).ltw).symm, a10b_12b, (Apart.base (fun _ e_ => by cases e_; exact ho72.ge) (h10.wk kw1 hW.ok).ltw).symm, (Apart.base (fun _ e_ => by cases e_; exact ho72.ge) (h12.wk kw1 hW.ok).ltw).symm⟩
  refine Ref.seq (B := G6 w0 F0) ?_ ?_
  · refine Ref.seq (B := G8 w0 F0) ?_ ?_
    · refine Ref.region (fun s ρ w s' h hr => ?_)
      obtain ⟨F, hW, g8, g10, g12, g13, h0, h1, h2, h7, p8, h8, h9, p10, h10, h11, p12, h12, p13, h13, a8b_10b, a8b_12b, a8b_13b, a10b_12b, a10b_13b, a12b_13b⟩ := h
      refine ol_v (e_fa fa_26_0 p13) rfl ?_
      refine ol_v (e_ld ty_3 (LiesV.int ((h13).at_.fld fl_Fault_0)) rfl) rfl ?_
      refine ol_v (e_neq rfl rfl) rfl ?_
      obtain rfl := Option.some.inj hr
      exact ol_nil ⟨F, hW, g8, g10, g12, g13, h0, h1, h2, h7, p8, h8, h9, p10, h10, h11, p12, h12, p13, h13, rfl, a8b_10b, a8b_12b, a8b_13b, a10b_12b, a10b_13b, a12b_13b⟩
    refine Ref.cond (b := fun s => s.t_40) (fun s ρ w ⟨F, hW, g8, g10, g12, g13, h0, h1, h2, h7, p8, h8, h9, p10, h10, h11, p12, h12, p13, h13, h40, a8b_10b, a8b_12b, a8b_13b, a10b_12b, a10b_13b, a12b_13b⟩ => h40) (Ref.pre (A := G9 w0 F0) ?_ (fun s ρ w h => (fun ⟨F, hW, g8, g10, g12, g13, h0, h1, h2, h7, p8, h8, h9, p10, h10, h11, p12, h12, p13, h13, h40, a8b_10b, a8b_12b, a8b_13b, a10b_12b, a10b_13b, a12b_13b⟩ => ⟨F, hW, g8, g10, g12, g13, h7, p8, h8, h9, p10, h10, h11, p12, h12, p13, h13, a8b_10b, a8b_12b, a8b_13b, a10b_12b, a10b_13b, a12b_13b⟩ : G8 w0 F0 s ρ w → G9 w0 F0 s ρ w) h.2)) (Ref.pre (A := G6 w0 F0) ?_ (fun s ρ w h => (fun ⟨F, hW, g8, g10, g12, g13, h0, h1, h2, h7, p8, h8, h9, p10, h10, h11, p12, h12, p13, h13, h40, a8b_10b, a8b_12b, a8b_13b, a10b_12b, a10b_13b, a12b_13b⟩ => ⟨F, hW, g8, g10, g12, h0, h1, h2, h7, p8, h8, h9, p10, h10, h11, p12, h12, a8b_10b, a8b_12b, a10b_12b⟩ : G8 w0 F0 s ρ w → G6 w0 F0 s ρ w) h.2))
    · refine Ref.seq (B := G3 w0 F0) ?_ ?_
      · refine Ref.region (fun s ρ w s' h hr => ?_)
        obtain ⟨F, hW, g8, g10, g12, g13, h7, p8, h8, h9, p10, h10, h11, p12, h12, p13, h13, a8b_10b, a8b_12b, a8b_13b, a10b_12b, a10b_13b, a12b_13b⟩ := h
        obtain ⟨v77, hl78⟩ := LiesAt.v (h8).at_
        refine ol_v (e_ld ty_26 hl78 p8) rfl ?_
        obtain ⟨v79, hl80⟩ := LiesAt.v (h13).at_
        refine ol_v (e_ld ty_26 hl80 p13) rfl ?_
        refine ol_v (e_teql (eq_Fault_26 hl78.val hl80.val) rfl rfl) rfl ?_
        refine ol_cutA 5 44 48 (fun ρ' w' => w = w' ∧ ρ' 48 = .bool ((decide (s.t_8 = s.t_13)) && (decide (s.t_10 = s.t_13)))) rfl ?_ ?_
        · by_cases hb81 : (decide (s.t_8 = s.t_13)) = true
          · refine ol_v (e_mv _ rfl) rfl ?_
            refine ol_yes rfl rfl (congrArg Value.bool hb81) ?_
            obtain ⟨v83, hl84⟩ := LiesAt.v (h10).at_
            refine ol_v (e_ld ty_26 hl84 p10) rfl ?_
            refine ol_yes rfl rfl (congrArg Value.bool hb81) ?_
            obtain ⟨v85, hl86⟩ := LiesAt.v (h13).at_
            refine ol_v (e_ld ty_26 hl86 p13) rfl ?_
            refine ol_yes rfl rfl (congrArg Value.bool hb81) ?_
            refine ol_v (e_teql (eq_Fault_26 hl84.val hl86.val) rfl rfl) rfl ?_
            refine ol_v (e_pick true _ (congrArg Value.bool hb81) rfl) rfl ?_
            exact ol_nil ⟨⟨rfl, (bv_and_t hb81)⟩, ((((((Agr.refl _ _ _).upd rfl rfl).upd rfl rfl).upd rfl rfl).upd rfl rfl).upd rfl rfl)⟩
          · have hb82 := Bool.eq_false_iff.mpr hb81
            refine ol_v (e_mv _ rfl) rfl ?_
            refine ol_not rfl rfl rfl (congrArg Value.bool hb82) rfl ?_
            refine ol_not rfl rfl rfl (congrArg Value.bool hb82) rfl ?_
            refine ol_not rfl rfl rfl (congrArg Value.bool hb82) rfl ?_
            refine ol_v (e_pick false _ (congrArg Value.bool hb82) rfl) rfl ?_
            exact ol_nil ⟨⟨rfl, (bv_and_f hb82)⟩, ((((((Agr.refl _ _ _).upd rfl rfl).upd rfl rfl).upd rfl rfl).upd rfl rfl).upd rfl rfl)⟩
        rintro ρ87 _ ⟨⟨rfl, hp87⟩, hAg87⟩
        refine ol_cutA 5 49 53 (fun ρ' w' => w = w' ∧ ρ' 53 = .bool (((decide (s.t_8 = s.t_13)) && (decide (s.t_10 = s.t_13))) && (decide (s.t_12 = s.t_13)))) rfl ?_ ?_
        · by_cases hb88 : ((decide (s.t_8 = s.t_13)) && (decide (s.t_10 = s.t_13))) = true
          · refine ol_v (e_mv _ hp87) rfl ?_
            refine ol_yes rfl rfl (congrArg Value.bool hb88) ?_
            obtain ⟨v90, hl91⟩ := LiesAt.v (h12).at_
            refine ol_v (e_ld ty_26 hl91 ((hAg87 12 rfl).trans p12)) rfl ?_
            refine ol_yes rfl rfl (congrArg Value.bool hb88) ?_
            obtain ⟨v92, hl93⟩ := LiesAt.v (h13).at_
            refine ol_v (e_ld ty_26 hl93 ((hAg87 13 rfl).trans p13)) rfl ?_
            refine ol_yes rfl rfl (congrArg Value.bool hb88) ?_
            refine ol_v (e_teql (eq_Fault_26 hl91.val hl93.val) rfl rfl) rfl ?_
            refine ol_v (e_pick true _ (congrArg Value.bool hb88) rfl) rfl ?_
            exact ol_nil ⟨⟨rfl, (bv_and_t hb88)⟩, ((((((Agr.refl _ _ _).upd rfl rfl).upd rfl rfl).upd rfl rfl).upd rfl rfl).upd rfl rfl)⟩
          · have hb89 := Bool.eq_false_iff.mpr hb88
            refine ol_v (e_mv _ hp87) rfl ?_
            refine ol_not rfl rfl rfl (congrArg Value.bool hb89) rfl ?_
            refine ol_not rfl rfl rfl (congrArg Value.bool hb89) rfl ?_
            refine ol_not rfl rfl rfl (congrArg Value.bool hb89) rfl ?_
            refine ol_v (e_pick false _ (congrArg Value.bool hb89) rfl) rfl ?_
            exact ol_nil ⟨⟨rfl, (bv_and_f hb89)⟩, ((((((Agr.refl _ _ _).upd rfl rfl).upd rfl rfl).upd rfl rfl).upd rfl rfl).upd rfl rfl)⟩
        rintro ρ94 _ ⟨⟨rfl, hp94⟩, hAg94⟩
        refine ol_cutA 11 54 64 (fun ρ' w' => w = w' ∧ ρ' 64 = .bool ((((decide (s.t_8 = s.t_13)) && (decide (s.t_10 = s.t_13))) && (decide (s.t_12 = s.t_13))) && (decide ((w64 (w64 ((s.t_7.length : Int) + (s.t_9.length : Int)) + (s.t_11.length : Int))) = (0 : Int))))) rfl ?_ ?_
        · by_cases hb95 : (((decide (s.t_8 = s.t_13)) && (decide (s.t_10 = s.t_13))) && (decide (s.t_12 = s.t_13))) = true
          · refine ol_v (e_mv _ hp94) rfl ?_
            refine ol_yes rfl rfl (congrArg Value.bool hb95) ?_
            refine ol_v (e_mv _ ((hAg94 7 rfl).trans (hAg87 7 rfl))) rfl ?_
            refine ol_yes rfl rfl (congrArg Value.bool hb95) ?_
            obtain ⟨A97, c98, e99, hc100, R101⟩ := id h7
            refine ol_v (e_len (SlT.sl sl_23) e99) rfl ?_
            refine ol_yes rfl rfl (congrArg Value.bool hb95) ?_
            refine ol_v (e_mv _ ((hAg94 9 rfl).trans (hAg87 9 rfl))) rfl ?_
            refine ol_yes rfl rfl (congrArg Value.bool hb95) ?_
            obtain ⟨A102, c103, e104, hc105, R106⟩ := id h9
            refine ol_v (e_len (SlT.sl sl_23) e104) rfl ?_
            refine ol_yes rfl rfl (congrArg Value.bool hb95) ?_
            refine ol_v (e_add rfl rfl) rfl ?_
            refine ol_yes rfl rfl (congrArg Value.bool hb95) ?_
            refine ol_v (e_mv _ ((hAg94 11 rfl).trans (hAg87 11 rfl))) rfl ?_
            refine ol_yes rfl rfl (congrArg Value.bool hb95) ?_
            obtain ⟨A107, c108, e109, hc110, R111⟩ := id h11
            refine ol_v (e_len (SlT.sl sl_22) e109) rfl ?_
            refine ol_yes rfl rfl (congrArg Value.bool hb95) ?_
            refine ol_v (e_add rfl rfl) rfl ?_
            refine ol_yes rfl rfl (congrArg Value.bool hb95) ?_
            refine ol_v (e_eql rfl rfl) rfl ?_
            refine ol_v (e_pick true _ (congrArg Value.bool hb95) rfl) rfl ?_
            exact ol_nil ⟨⟨rfl, (bv_and_t hb95)⟩, ((((((((((((Agr.refl _ _ _).upd rfl rfl).upd rfl rfl).upd rfl rfl).upd rfl rfl).upd rfl rfl).upd rfl rfl).upd rfl rfl).upd rfl rfl).upd rfl rfl).upd rfl rfl).upd rfl rfl)⟩
          · have hb96 := Bool.eq_false_iff.mpr hb95
            refine ol_v (e_mv _ hp94) rfl ?_
            refine ol_not rfl rfl rfl (congrArg Value.bool hb96) rfl ?_
            refine ol_not rfl rfl rfl (congrArg Value.bool hb96) rfl ?_
            refine ol_not rfl rfl rfl (congrArg Value.bool hb96) rfl ?_
            refine ol_not rfl rfl rfl (congrArg Value.bool hb96) rfl ?_
            refine ol_not rfl rfl rfl (congrArg Value.bool hb96) rfl ?_
            refine ol_not rfl rfl rfl (congrArg Value.bool hb96) rfl ?_
            refine ol_not rfl rfl rfl (congrArg Value.bool hb96) rfl ?_
            refine ol_not rfl rfl rfl (congrArg Value.bool hb96) rfl ?_
            refine ol_not rfl rfl rfl (congrArg Value.bool hb96) rfl ?_
            refine ol_v (e_pick false _ (congrArg Value.bool hb96) rfl) rfl ?_
            exact ol_nil ⟨⟨rfl, (bv_and_f hb96)⟩, ((((((((((((Agr.refl _ _ _).upd rfl rfl).upd rfl rfl).upd rfl rfl).upd rfl rfl).upd rfl rfl).upd rfl rfl).upd rfl rfl).upd rfl rfl).upd rfl rfl).upd rfl rfl).upd rfl rfl)⟩
        rintro ρ112 _ ⟨⟨rfl, hp112⟩, hAg112⟩
        refine ol_v (e_as _ hp112) rfl ?_
        obtain rfl := Option.some.inj hr
        exact ol_nil ⟨F, hW, rfl⟩
      exact Ref.ret (fun s ρ w h => ⟨s, rfl, h⟩)
    · exact Ref.skip
  refine Ref.seq (B := G11 w0 F0) ?_ ?_
  · refine Ref.seq (B := G10 w0 F0) ?_ ?_
    · refine Ref.region (fun s ρ w s' h hr => ?_)
      obtain ⟨F, hW, g8, g10, g12, h0, h1, h2, h7, p8, h8, h9, p10, h10, h11, p12, h12, a8b_10b, a8b_12b, a10b_12b⟩ := h
      refine ol_v (e_fa fa_26_0 p8) rfl ?_
      refine ol_v (e_ld ty_3 (LiesV.int ((h8).at_.fld fl_Fault_0)) rfl) rfl ?_
      refine ol_v (e_neq rfl rfl) rfl ?_
      refine ol_cutA 5 68 72 (fun ρ' w' => w = w' ∧ ρ' 72 = .bool ((!decide (s.t_8.Code = (0 : Int))) || (!decide (s.t_12.Code = (0 : Int))))) rfl ?_ ?_
      · by_cases hb113 : (!decide (s.t_8.Code = (0 : Int))) = true
        · refine ol_v (e_mv _ rfl) rfl ?_
          refine ol_not rfl rfl rfl (congrArg Value.bool hb113) rfl ?_
          refine ol_not rfl rfl rfl (congrArg Value.bool hb113) rfl ?_
          refine ol_not rfl rfl rfl (congrArg Value.bool hb113) rfl ?_
          refine ol_v (e_pick true _ (congrArg Value.bool hb113) rfl) rfl ?_
          exact ol_nil ⟨⟨rfl, (bv_or_t hb113)⟩, ((((((Agr.refl _ _ _).upd rfl rfl).upd rfl rfl).upd rfl rfl).upd rfl rfl).upd rfl rfl)⟩
        · have hb114 := Bool.eq_false_iff.mpr hb113
          refine ol_v (e_mv _ rfl) rfl ?_
          refine ol_yes rfl rfl (congrArg Value.bool hb114) ?_
          refine ol_v (e_fa fa_26_0 p12) rfl ?_
          refine ol_yes rfl rfl (congrArg Value.bool hb114) ?_
          refine ol_v (e_ld ty_3 (LiesV.int ((h12).at_.fld fl_Fault_0)) rfl) rfl ?_
          refine ol_yes rfl rfl (congrArg Value.bool hb114) ?_
          refine ol_v (e_neq rfl rfl) rfl ?_
          refine ol_v (e_pick false _ (congrArg Value.bool hb114) rfl) rfl ?_
          exact ol_nil ⟨⟨rfl, (bv_or_f hb114)⟩, ((((((Agr.refl _ _ _).upd rfl rfl).upd rfl rfl).upd rfl rfl).upd rfl rfl).upd rfl rfl)⟩
      rintro ρ115 _ ⟨⟨rfl, hp115⟩, hAg115⟩
      obtain ⟨x131, hx132, hr⟩ := bind_some' hr
      refine ol_cutA 8 73 80 (fun ρ' w' => ∃ F', Wk nrow w F F' w' ∧ ρ' 80 = .bool x131) rfl ?_ ?_
      · by_cases hb116 : ((!decide (s.t_8.Code = (0 : Int))) || (!decide (s.t_12.Code = (0 : Int)))) = true
        · have hr := hx132
          rw [if_pos hb116] at hr
          refine ol_v (e_mv _ hp115) rfl ?_
          refine ol_not rfl rfl rfl (congrArg Value.bool hb116) rfl ?_
          refine ol_not rfl rfl rfl (congrArg Value.bool hb116) rfl ?_
          refine ol_not rfl rfl rfl (congrArg Value.bool hb116) rfl ?_
          refine ol_not rfl rfl rfl (congrArg Value.bool hb116) rfl ?_
          refine ol_not rfl rfl rfl (congrArg Value.bool hb116) rfl ?_
          refine ol_not rfl rfl rfl (congrArg Value.bool hb116) rfl ?_
          refine ol_v (e_pick true _ (congrArg Value.bool hb116) rfl) rfl ?_
          exact ol_nil ⟨⟨_, Wk.refl hW.ok, (congrArg Value.bool (Option.some.inj hr))⟩, (((((((((Agr.refl _ _ _).upd rfl rfl).upd rfl rfl).upd rfl rfl).upd rfl rfl).upd rfl rfl).upd rfl rfl).upd rfl rfl).upd rfl rfl)⟩
        · have hb117 := Bool.eq_false_iff.mpr hb116
          have hr := hx132
          rw [if_neg hb116] at hr
          refine ol_v (e_mv _ hp115) rfl ?_
          refine ol_yes rfl rfl (congrArg Value.bool hb117) ?_
          refine ol_v (e_mv _ (hAg115 7 rfl)) rfl ?_
          refine ol_yes rfl rfl (congrArg Value.bool hb117) ?_
          refine ol_v (e_mv _ (hAg115 0 rfl)) rfl ?_
          refine ol_yes rfl rfl (congrArg Value.bool hb117) ?_
          refine ol_v (e_mv _ (hAg115 1 rfl)) rfl ?_
          refine ol_yes rfl rfl (congrArg Value.bool hb117) ?_
          obtain ⟨x118, hx118, hr⟩ := bind_some' hr
          refine ol_e (f_call [(ρ 0), (ρ 1)] fn_23 (lcons rfl (lcons rfl rfl)) (ref4_BoundaryOf.calls hW.ok h0 h1 hx118)) rfl rfl ?_
          rintro v121 w119 ⟨Fz120, _, rfl, kw1, hk122⟩
          have hW124 := hW.trans kw1
          have st1 := kw1.stp hW.ok
          refine ol_yes rfl rfl (congrArg Value.bool hb117) ?_
          obtain ⟨Fl125, okl125, stl125, hFl125, hl125⟩ := OwnV.lent (hk122.base (row := nrow) hW.le) hW124.ok
          obtain ⟨x126, hx126, hr⟩ := bind_some' hr
          refine ol_e (f_call [(ρ 7), v121] fn_17 (lcons rfl (lcons rfl rfl)) (ref3_Ints.calls okl125 ((h7.keep st1).keep stl125) hl125 hx126)) rfl rfl ?_
          rintro _ w127 ⟨Fz128, rfl, kw2⟩
          have kw2 := kw2.lend hW124.ok
          have hW130 := hW124.trans kw2
          have st2 := kw2.stp hW124.ok
          refine ol_yes rfl rfl (congrArg Value.bool hb117) ?_
          refine ol_v (e_not_ rfl) rfl ?_
          refine ol_v (e_pick false _ (congrArg Value.bool hb117) rfl) rfl ?_
          exact ol_nil ⟨⟨_, (kw1.trans kw2), (congrArg Value.bool (Option.some.inj hr))⟩, (((((((((Agr.refl _ _ _).upd rfl rfl).upd rfl rfl).upd rfl rfl).upd rfl rfl).upd rfl rfl).upd rfl rfl).upd rfl rfl).upd rfl rfl)⟩
      rintro ρ132 w133 ⟨⟨Fz134, kw1, hp132⟩, hAg132⟩
      have hW135 := hW.trans kw1
      have st1 := kw1.stp hW.ok
      obtain ⟨x151, hx152, hr⟩ := bind_some' hr
      refine ol_cutA 8 81 88 (fun ρ' w' => ∃ F', Wk nrow w133 Fz134 F' w' ∧ ρ' 88 = .bool x151) rfl ?_ ?_
      · by_cases hb136 : x131 = true
        · have hr := hx152
          rw [if_pos hb136] at hr
          refine ol_v (e_mv _ hp132) rfl ?_
          refine ol_not rfl rfl rfl (congrArg Value.bool hb136) rfl ?_
          refine ol_not rfl rfl rfl (congrArg Value.bool hb136) rfl ?_
          refine ol_not rfl rfl rfl (congrArg Value.bool hb136) rfl ?_
          refine ol_not rfl rfl rfl (congrArg Value.bool hb136) rfl ?_
          refine ol_not rfl rfl rfl (congrArg Value.bool hb136) rfl ?_
          refine ol_not rfl rfl rfl (congrArg Value.bool hb136) rfl ?_
          refine ol_v (e_pick true _ (congrArg Value.bool hb136) rfl) rfl ?_
          exact ol_nil ⟨⟨_, Wk.refl hW135.ok, (congrArg Value.bool (Option.some.inj hr))⟩, (((((((((Agr.refl _ _ _).upd rfl rfl).upd rfl rfl).upd rfl rfl).upd rfl rfl).upd rfl rfl).upd rfl rfl).upd rfl rfl).upd rfl rfl)⟩
        · have hb137 := Bool.eq_false_iff.mpr hb136
          have hr := hx152
          rw [if_neg hb136] at hr
          refine ol_v (e_mv _ hp132) rfl ?_
          refine ol_yes rfl rfl (congrArg Value.bool hb137) ?_
          refine ol_v (e_mv _ ((hAg132 11 rfl).trans (hAg115 11 rfl))) rfl ?_
          refine ol_yes rfl rfl (congrArg Value.bool hb137) ?_
          refine ol_v (e_mv _ ((hAg132 0 rfl).trans (hAg115 0 rfl))) rfl ?_
          refine ol_yes rfl rfl (congrArg Value.bool hb137) ?_
          refine ol_v (e_mv _ ((hAg132 1 rfl).trans (hAg115 1 rfl))) rfl ?_
          refine ol_yes rfl rfl (congrArg Value.bool hb137) ?_
          obtain ⟨x138, hx138, hr⟩ := bind_some' hr
          refine ol_e (f_call [(ρ 0), (ρ 1)] fn_25 (lcons rfl (lcons rfl rfl)) (ref4_ExtractOf.calls hW135.ok (h0.keep st1) (h1.keep st1) hx138)) rfl rfl ?_
          rintro v141 w139 ⟨Fz140, _, rfl, kw2, hk142⟩
          have hW144 := hW135.trans kw2
          have st2 := kw2.stp hW135.ok
          refine ol_yes rfl rfl (congrArg Value.bool hb137) ?_
          obtain ⟨Fl145, okl145, stl145, hFl145, hl145⟩ := OwnV.lent (hk142.base (row := nrow) hW135.le) hW144.ok
          obtain ⟨x146, hx146, hr⟩ := bind_some' hr
          refine ol_e (f_call [(ρ 11), v141] fn_24 (lcons rfl (lcons rfl rfl)) (ref3_Commits.calls okl145 ((h11.keep (st1.trans st2)).keep stl145) hl145 hx146)) rfl rfl ?_
          rintro _ w147 ⟨Fz148, rfl, kw3⟩
          have kw3 := kw3.lend hW144.ok
          have hW150 := hW144.trans kw3
          have st3 := kw3.stp hW144.ok
          refine ol_yes rfl rfl (congrArg Value.bool hb137) ?_
          refine ol_v (e_not_ rfl) rfl ?_
          refine ol_v (e_pick false _ (congrArg Value.bool hb137) rfl) rfl ?_
          exact ol_nil ⟨⟨_, (kw2.trans kw3), (congrArg Value.bool (Option.some.inj hr))⟩, (((((((((Agr.refl _ _ _).upd rfl rfl).upd rfl rfl).upd rfl rfl).upd rfl rfl).upd rfl rfl).upd rfl rfl).upd rfl rfl).upd rfl rfl)⟩
      rintro ρ152 w153 ⟨⟨Fz154, kw2, hp152⟩, hAg152⟩
      have hW155 := hW135.trans kw2
      have st2 := kw2.stp hW135.ok
      obtain rfl := Option.some.inj hr
      exact ol_nil ⟨Fz154, hW155, g10, (SlR.eqv ((hAg152 0 rfl).trans ((hAg132 0 rfl).trans (hAg115 0 rfl))) (h0.keep (st1.trans st2))), (SlR.eqv ((hAg152 1 rfl).trans ((hAg132 1 rfl).trans (hAg115 1 rfl))) (h1.keep (st1.trans st2))), ((hAg152 2 rfl).trans ((hAg132 2 rfl).trans ((hAg115 2 rfl).trans h2))), (SlR.eqv ((hAg152 9 rfl).trans ((hAg132 9 rfl).trans (hAg115 9 rfl))) (h9.keep (st1.trans st2))), ((hAg152 10 rfl).trans ((hAg132 10 rfl).trans ((hAg115 10 rfl).trans p10))), ((h10.wk kw1 hW.ok).wk kw2 hW135.ok), hp152⟩
    refine Ref.cond (b := fun s => s.t_88) (fun s ρ w ⟨F, hW, g10, h0, h1, h2, h9, p10, h10, h88⟩ => h88) (Ref.pre (A := G2 w0 F0) ?_ (fun s ρ w h => (fun ⟨F, hW, g10, h0, h1, h2, h9, p10, h10, h88⟩ => ⟨F, hW⟩ : G10 w0 F0 s ρ w → G2 w0 F0 s ρ w) h.2)) (Ref.pre (A := G11 w0 F0) ?_ (fun s ρ w h => (fun ⟨F, hW, g10, h0, h1, h2, h9, p10, h10, h88⟩ => ⟨F, hW, g10, h0, h1, h2, h9, p10, h10⟩ : G10 w0 F0 s ρ w → G11 w0 F0 s ρ w) h.2))
    · refine Ref.seq (B := G3 w0 F0) ?_ ?_
      · refine Ref.region (fun s ρ w s' h hr => ?_)
        obtain ⟨F, hW⟩ := h
        refine ol_v (e_as _ rfl) rfl ?_
        obtain rfl := Option.some.inj hr
        exact ol_nil ⟨F, hW, rfl⟩
      exact Ref.ret (fun s ρ w h => ⟨s, rfl, h⟩)
    · exact Ref.skip
  refine Ref.seq (B := G11 w0 F0) ?_ ?_
  · refine Ref.seq (B := G12 w0 F0) ?_ ?_
    · refine Ref.region (fun s ρ w s' h hr => ?_)
      obtain ⟨F, hW, g10, h0, h1, h2, h9, p10, h10⟩ := h
      refine ol_v (e_mv _ h2) rfl ?_
      obtain ⟨x156, hx156, hr⟩ := bind_some' hr
      refine ol_e (f_call [.int .i64 s.t_2, .int .i64 (0 : Int), .int .i64 (60 : Int)] fn_16 (lcons rfl (lcons rfl (lcons rfl rfl))) (ref3_In.calls hW.ok s.t_2 (0 : Int) (60 : Int) hx156)) rfl rfl ?_
      rintro _ w157 ⟨Fz158, rfl, kw1⟩
      have hW160 := hW.trans kw1
      have st1 := kw1.stp hW.ok
      refine ol_v (e_not_ rfl) rfl ?_
      obtain rfl := Option.some.inj hr
      exact ol_nil ⟨Fz158, hW160, g10, (h0.keep st1), (h1.keep st1), h2, (h9.keep st1), p10, (h10.wk kw1 hW.ok), rfl⟩
    refine Ref.cond (b := fun s => s.t_91) (fun s ρ w ⟨F, hW, g10, h0, h1, h2, h9, p10, h10, h91⟩ => h91) (Ref.pre (A := G13 w0 F0) ?_ (fun s ρ w h => (fun ⟨F, hW, g10, h0, h1, h2, h9, p10, h10, h91⟩ => ⟨F, hW, g10, h9, p10, h10⟩ : G12 w0 F0 s ρ w → G13 w0 F0 s ρ w) h.2)) (Ref.pre (A := G11 w0 F0) ?_ (fun s ρ w h => (fun ⟨F, hW, g10, h0, h1, h2, h9, p10, h10, h91⟩ => ⟨F, hW, g10, h0, h1, h2, h9, p10, h10⟩ : G12 w0 F0 s ρ w → G11 w0 F0 s ρ w) h.2))
    · refine Ref.seq (B := G3 w0 F0) ?_ ?_
      · refine Ref.regionH (by kernel_rfl) (fun s ρ w ⟨F, hW, g10, h9, p10, h10⟩ => ⟨F, hW.drewS, g10, h9.keep (sd hW), p10, h10.wk (Wk.drew (row := nrow) hW.ok) hW.ok⟩) (fun s ρ w s' h hr => ?_)
        obtain ⟨F, hW, g10, h9, p10, h10⟩ := h
        refine ⟨fun w' => Stp F w F w', ?_⟩
        refine oh_all [0, 1] (by kernel_rfl) rfl ⟨?_, ?_, trivial⟩
        · obtain ⟨v161, hl162⟩ := LiesAt.v (h10).at_
          refine oh1_v rfl (e_ld ty_26 hl162 p10) rfl ?_
          refine ⟨(Stp.refl _ _), ?_⟩
          refine oh_all [1] (by kernel_rfl) rfl ⟨?_, trivial⟩
          · obtain ⟨x163, hx163, hr⟩ := bind_some' hr
            refine oh1_e rfl (f_call [.int .i64 (3 : Int), .int .i64 (-2 : Int)] fn_15 (lcons rfl (lcons rfl rfl)) (ref3_Fault.calls hW.ok (3 : Int) (-2 : Int) hx163)) rfl ?_
            rintro v166 w164 ⟨Fz165, _, rfl, kw1, hk167⟩
            have hW169 := hW.trans kw1
            have st1 := kw1.stp hW.ok
            refine ⟨(Stp.back st1), ?_⟩
            refine oh_seq 2 rfl rfl (Stp.back st1) (by kernel_rfl) ?_
            refine ol_v (e_teql (eq_Fault_26 (hl162.val.keep st1) hk167) rfl rfl) rfl ?_
            refine ol_cutA 5 95 99 (fun ρ' w' => w164 = w' ∧ ρ' 99 = .bool ((decide (s.t_10 = x163)) && (decide ((s.t_9.length : Int) = (0 : Int))))) rfl ?_ ?_
            · by_cases hbt1 : (decide (s.t_10 = x163)) = true
              · refine ol_v (e_mv _ rfl) rfl ?_
                refine ol_yes rfl rfl (congrArg Value.bool hbt1) ?_
                refine ol_v (e_mv _ rfl) rfl ?_
                refine ol_yes rfl rfl (congrArg Value.bool hbt1) ?_
                obtain ⟨At3, ct4, et5, hct6, Rt7⟩ := id (h9.keep st1)
                refine ol_v (e_len (SlT.sl sl_23) et5) rfl ?_
                refine ol_yes rfl rfl (congrArg Value.bool hbt1) ?_
                refine ol_v (e_eql rfl rfl) rfl ?_
                refine ol_v (e_pick true _ (congrArg Value.bool hbt1) rfl) rfl ?_
                exact ol_nil ⟨⟨rfl, (bv_and_t hbt1)⟩, ((((((Agr.refl _ _ _).upd rfl rfl).upd rfl rfl).upd rfl rfl).upd rfl rfl).upd rfl rfl)⟩
              · have hbt2 := Bool.eq_false_iff.mpr hbt1
                refine ol_v (e_mv _ rfl) rfl ?_
                refine ol_not rfl rfl rfl (congrArg Value.bool hbt2) rfl ?_
                refine ol_not rfl rfl rfl (congrArg Value.bool hbt2) rfl ?_
                refine ol_not rfl rfl rfl (congrArg Value.bool hbt2) rfl ?_
                refine ol_v (e_pick false _ (congrArg Value.bool hbt2) rfl) rfl ?_
                exact ol_nil ⟨⟨rfl, (bv_and_f hbt2)⟩, ((((((Agr.refl _ _ _).upd rfl rfl).upd rfl rfl).upd rfl rfl).upd rfl rfl).upd rfl rfl)⟩
            rintro ρt8 _ ⟨⟨rfl, hpt8⟩, hAgt8⟩
            refine ol_v (e_as _ hpt8) rfl ?_
            obtain rfl := Option.some.inj hr
            exact ol_nil ⟨Fz165, hW169, rfl⟩
        · obtain ⟨x163, hx163, hr⟩ := bind_some' hr
          refine oh1_e rfl (f_call [.int .i64 (3 : Int), .int .i64 (-2 : Int)] fn_15 (lcons rfl (lcons rfl rfl)) (ref3_Fault.calls hW.ok (3 : Int) (-2 : Int) hx163)) rfl ?_
          rintro v172 w170 ⟨Fz171, _, rfl, kw1, hk173⟩
          have hW175 := hW.trans kw1
          have st1 := kw1.stp hW.ok
          refine ⟨(Stp.back st1), ?_⟩
          refine oh_all [0] (by kernel_rfl) rfl ⟨?_, trivial⟩
          · obtain ⟨v176, hl177⟩ := LiesAt.v ((h10.wk kw1 hW.ok)).at_
            refine oh1_v rfl (e_ld ty_26 hl177 p10) rfl ?_
            refine ⟨(Stp.back st1), ?_⟩
            refine oh_seq 2 rfl rfl (Stp.back st1) (by kernel_rfl) ?_
            refine ol_v (e_teql (eq_Fault_26 hl177.val hk173) rfl rfl) rfl ?_
            refine ol_cutA 5 95 99 (fun ρ' w' => w170 = w' ∧ ρ' 99 = .bool ((decide (s.t_10 = x163)) && (decide ((s.t_9.length : Int) = (0 : Int))))) rfl ?_ ?_
            · by_cases hbt1 : (decide (s.t_10 = x163)) = true
              · refine ol_v (e_mv _ rfl) rfl ?_
                refine ol_yes rfl rfl (congrArg Value.bool hbt1) ?_
                refine ol_v (e_mv _ rfl) rfl ?_
                refine ol_yes rfl rfl (congrArg Value.bool hbt1) ?_
                obtain ⟨At3, ct4, et5, hct6, Rt7⟩ := id (h9.keep st1)
                refine ol_v (e_len (SlT.sl sl_23) et5) rfl ?_
                refine ol_yes rfl rfl (congrArg Value.bool hbt1) ?_
                refine ol_v (e_eql rfl rfl) rfl ?_
                refine ol_v (e_pick true _ (congrArg Value.bool hbt1) rfl) rfl ?_
                exact ol_nil ⟨⟨rfl, (bv_and_t hbt1)⟩, ((((((Agr.refl _ _ _).upd rfl rfl).upd rfl rfl).upd rfl rfl).upd rfl rfl).upd rfl rfl)⟩
              · have hbt2 := Bool.eq_false_iff.mpr hbt1
                refine ol_v (e_mv _ rfl) rfl ?_
                refine ol_not rfl rfl rfl (congrArg Value.bool hbt2) rfl ?_
                refine ol_not rfl rfl rfl (congrArg Value.bool hbt2) rfl ?_
                refine ol_not rfl rfl rfl (congrArg Value.bool hbt2) rfl ?_
                refine ol_v (e_pick false _ (congrArg Value.bool hbt2) rfl) rfl ?_
                exact ol_nil ⟨⟨rfl, (bv_and_f hbt2)⟩, ((((((Agr.refl _ _ _).upd rfl rfl).upd rfl rfl).upd rfl rfl).upd rfl rfl).upd rfl rfl)⟩
            rintro ρt8 _ ⟨⟨rfl, hpt8⟩, hAgt8⟩
            refine ol_v (e_as _ hpt8) rfl ?_
            obtain rfl := Option.some.inj hr
            exact ol_nil ⟨Fz171, hW175, rfl⟩
      exact Ref.ret (fun s ρ w h => ⟨s, rfl, h⟩)
    · exact Ref.skip
  refine Ref.seq (B := G3 w0 F0) ?_ ?_
  · refine Ref.region (fun s ρ w s' h hr => ?_)
    obtain ⟨F, hW, g10, h0, h1, h2, h9, p10, h10⟩ := h
    refine ol_v (e_fa fa_26_0 p10) rfl ?_
    refine ol_v (e_ld ty_3 (LiesV.int ((h10).at_.fld fl_Fault_0)) rfl) rfl ?_
    refine ol_v (e_eql rfl rfl) rfl ?_
    obtain ⟨x192, hx193, hr⟩ := bind_some' hr
    refine ol_cutA 8 103 110 (fun ρ' w' => ∃ F', Wk nrow w F F' w' ∧ ρ' 110 = .bool x192) rfl ?_ ?_
    · by_cases hb178 : (decide (s.t_10.Code = (0 : Int))) = true
      · have hr := hx193
        rw [if_pos hb178] at hr
        refine ol_v (e_mv _ rfl) rfl ?_
        refine ol_yes rfl rfl (congrArg Value.bool hb178) ?_
        refine ol_v (e_mv _ rfl) rfl ?_
        refine ol_yes rfl rfl (congrArg Value.bool hb178) ?_
        refine ol_v (e_mv _ rfl) rfl ?_
        refine ol_yes rfl rfl (congrArg Value.bool hb178) ?_
        refine ol_v (e_mv _ rfl) rfl ?_
        refine ol_yes rfl rfl (congrArg Value.bool hb178) ?_
        refine ol_v (e_mv _ h2) rfl ?_
        refine ol_yes rfl rfl (congrArg Value.bool hb178) ?_
        obtain ⟨x180, hx180, hr⟩ := bind_some' hr
        refine ol_e (f_call [(ρ 0), (ρ 1), .int .i64 s.t_2] fn_18 (lcons rfl (lcons rfl (lcons rfl rfl))) (ref4_Steps.calls hW.ok h0 h1 s.t_2 hx180)) rfl rfl ?_
        rintro v183 w181 ⟨Fz182, _, rfl, kw1, hk184⟩
        have hW186 := hW.trans kw1
        have st1 := kw1.stp hW.ok
        refine ol_yes rfl rfl (congrArg Value.bool hb178) ?_
        obtain ⟨x187, hx187, hr⟩ := bind_some' hr
        refine ol_e (f_call [(ρ 9), v183] fn_17 (lcons rfl (lcons rfl rfl)) (ref3_Ints.calls hW186.ok (h9.keep st1) hk184 hx187)) rfl rfl ?_
        rintro _ w188 ⟨Fz189, rfl, kw2⟩
        have hW191 := hW186.trans kw2
        have st2 := kw2.stp hW186.ok
        refine ol_v (e_pick true _ (congrArg Value.bool hb178) rfl) rfl ?_
        exact ol_nil ⟨⟨_, (kw1.trans kw2), (congrArg Value.bool (Option.some.inj hr))⟩, (((((((((Agr.refl _ _ _).upd rfl rfl).upd rfl rfl).upd rfl rfl).upd rfl rfl).upd rfl rfl).upd rfl rfl).upd rfl rfl).upd rfl rfl)⟩
      · have hb179 := Bool.eq_false_iff.mpr hb178
        have hr := hx193
        rw [if_neg hb178] at hr
        refine ol_v (e_mv _ rfl) rfl ?_
        refine ol_not rfl rfl rfl (congrArg Value.bool hb179) rfl ?_
        refine ol_not rfl rfl rfl (congrArg Value.bool hb179) rfl ?_
        refine ol_not rfl rfl rfl (congrArg Value.bool hb179) rfl ?_
        refine ol_not rfl rfl rfl (congrArg Value.bool hb179) rfl ?_
        refine ol_not rfl rfl rfl (congrArg Value.bool hb179) rfl ?_
        refine ol_not rfl rfl rfl (congrArg Value.bool hb179) rfl ?_
        refine ol_v (e_pick false _ (congrArg Value.bool hb179) rfl) rfl ?_
        exact ol_nil ⟨⟨_, Wk.refl hW.ok, (congrArg Value.bool (Option.some.inj hr))⟩, (((((((((Agr.refl _ _ _).upd rfl rfl).upd rfl rfl).upd rfl rfl).upd rfl rfl).upd rfl rfl).upd rfl rfl).upd rfl rfl).upd rfl rfl)⟩
    rintro ρ193 w194 ⟨⟨Fz195, kw1, hp193⟩, hAg193⟩
    have hW196 := hW.trans kw1
    have st1 := kw1.stp hW.ok
    refine ol_v (e_as _ hp193) rfl ?_
    obtain rfl := Option.some.inj hr
    exact ol_nil ⟨Fz195, hW196, rfl⟩
  exact Ref.ret (fun s ρ w h => ⟨s, rfl, h⟩)
def post (w : World) (F : BSet) (r : R) (v : Value) (w' : World) : Prop := ∃ (F' : BSet), v = .bool r ∧ Wk nrow w F F' w'
theorem calls {w : World} {F : BSet} (hok : ∀ b, F b → b < w.heap.size) {v0 : Value} {a0 : (List Commit)} (h0 : SlR k_Commit F w v0 a0) {v1 : Value} {a1 : (List Int)} (h1 : SlR (kInt .i64) F w v1 a1) (a2 : Int) {r : R} (hf : f a0 a1 a2 = some r) : Calls Try.prog 4 #[v0, v1, .int .i64 a2] w fun e w' => ∃ v, e = .returned v ∧ post w F r v w' := by
  obtain ⟨c, hc, href⟩ := ref w F
  refine calls_of_ref (args := [v0, v1, .int .i64 a2]) _ Try.func4 hc rfl rfl href ?_ (retOf_some hf) ?_
  · exact ⟨F, Wk.refl hok, h0, h1, rfl⟩
  · rintro ρ w' a ⟨s, rfl, F', hW, h6⟩ hF
    refine ⟨_, run_results (rs := [.tmp 6]) rfl hF (vs := [ρ 6]) (⟨_, rfl, rfl⟩), ?_⟩
    have hv : resVal [ρ 6] = .bool s.t_6 := by rw [h6]; rfl
    exact ⟨F', hv, hW⟩
end
end law4_ShallowSelectionMatchesSpec

namespace law4_ShallowDeepenAdds
section
def G0 (w0 : World) (F0 : BSet) (s : S) (ρ : Env) (w : World) : Prop := ∃ (F : BSet), Wk nrow w0 F0 F w ∧ SlR k_Commit F w (ρ 0) s.t_0 ∧ SlR (kInt .i64) F w (ρ 1) s.t_1 ∧ ρ 2 = .int .i64 s.t_2 ∧ ρ 3 = .int .i64 s.t_3
def G1 (w0 : World) (F0 : BSet) (s : S) (ρ : Env) (w : World) : Prop := ∃ (F : BSet), Wk nrow w0 F0 F w ∧ SlR k_Commit F w (ρ 0) s.t_0 ∧ SlR (kInt .i64) F w (ρ 1) s.t_1 ∧ ρ 2 = .int .i64 s.t_2 ∧ ρ 3 = .int .i64 s.t_3 ∧ ρ 16 = .bool s.t_16
def G2 (w0 : World) (F0 : BSet) (s : S) (ρ : Env) (w : World) : Prop := ∃ (F : BSet), Wk nrow w0 F0 F w
def G3 (w0 : World) (F0 : BSet) (s : S) (ρ : Env) (w : World) : Prop := ∃ (F : BSet), Wk nrow w0 F0 F w ∧ ρ 8 = .bool s.t_8
def G4 (w0 : World) (F0 : BSet) (s : S) (ρ : Env) (w : World) : Prop := ∃ (F : BSet), Wk nrow w0 F0 F w ∧ SlR k_Commit F w (ρ 0) s.t_0 ∧ SlR (kInt .i64) F w (ρ 1) s.t_1 ∧ ρ 2 = .int .i64 s.t_2 ∧ ρ 3 = .int .i64 s.t_3 ∧ ρ 26 = .bool s.t_26
def G5 (w0 : World) (F0 : BSet) (s : S) (ρ : Env) (w : World) : Prop := ∃ (F : BSet), Wk nrow w0 F0 F w ∧ ∃ (g10 : Nat), SlR k_Commit F w (ρ 0) s.t_0 ∧ SlR (kInt .i64) F w (ρ 1) s.t_1 ∧ ρ 2 = .int .i64 s.t_2 ∧ ρ 3 = .int .i64 s.t_3 ∧ SlR (kInt .i64) F w (ρ 9) s.t_9 ∧ ρ 10 = .pointer (some ⟨g10, 0, none⟩) ∧ Box k_Fault 26 (Bs w0 nrow) F w g10 s.t_10
def G6 (w0 : World) (F0 : BSet) (s : S) (ρ : Env) (w : World) : Prop := ∃ (F : BSet), Wk nrow w0 F0 F w ∧ SlR k_Commit F w (ρ 0) s.t_0 ∧ SlR (kInt .i64) F w (ρ 1) s.t_1 ∧ ρ 2 = .int .i64 s.t_2 ∧ ρ 3 = .int .i64 s.t_3 ∧ SlR (kInt .i64) F w (ρ 9) s.t_9 ∧ ρ 36 = .bool s.t_36
def G7 (w0 : World) (F0 : BSet) (s : S) (ρ : Env) (w : World) : Prop := ∃ (F : BSet), Wk nrow w0 F0 F w ∧ SlR (kInt .i64) F w (ρ 9) s.t_9
def G8 (w0 : World) (F0 : BSet) (s : S) (ρ : Env) (w : World) : Prop := ∃ (F : BSet), Wk nrow w0 F0 F w ∧ SlR k_Commit F w (ρ 0) s.t_0 ∧ SlR (kInt .i64) F w (ρ 1) s.t_1 ∧ ρ 2 = .int .i64 s.t_2 ∧ ρ 3 = .int .i64 s.t_3 ∧ SlR (kInt .i64) F w (ρ 9) s.t_9
def G9 (w0 : World) (F0 : BSet) (s : S) (ρ : Env) (w : World) : Prop := ∃ (F : BSet), Wk nrow w0 F0 F w ∧ ∃ (g12 : Nat), SlR k_Commit F w (ρ 0) s.t_0 ∧ SlR (kInt .i64) F w (ρ 1) s.t_1 ∧ ρ 2 = .int .i64 s.t_2 ∧ ρ 3 = .int .i64 s.t_3 ∧ SlR (kInt .i64) F w (ρ 11) s.t_11 ∧ ρ 12 = .pointer (some ⟨g12, 0, none⟩) ∧ Box k_Fault 26 (Bs w0 nrow) F w g12 s.t_12
def G10 (w0 : World) (F0 : BSet) (s : S) (ρ : Env) (w : World) : Prop := ∃ (F : BSet), Wk nrow w0 F0 F w ∧ ∃ (g12 : Nat) (g14 : Nat), SlR (kInt .i64) F w (ρ 11) s.t_11 ∧ ρ 12 = .pointer (some ⟨g12, 0, none⟩) ∧ Box k_Fault 26 (Bs w0 nrow) F w g12 s.t_12 ∧ SlR (kInt .i64) F w (ρ 13) s.t_13 ∧ ρ 14 = .pointer (some ⟨g14, 0, none⟩) ∧ Box k_Fault 26 (Bs w0 nrow) F w g14 s.t_14 ∧ Apart (some g12) (some g14)
set_option maxHeartbeats 4000000 in
set_option maxRecDepth 20000 in
theorem ref (w0 : World) (F0 : BSet) : ∃ c, Try.f5.body = some c ∧ Ref Try.prog 69 c (G0 w0 F0) body (fun _ _ _ => False) (fun _ _ _ _ => False) (fun r ρ w => ∃ s, retv s = r ∧ G3 w0 F0 s ρ w) := by
  refine ⟨_, rfl, ?_⟩
  unfold body
  refine Ref.seq (B := G0 w0 F0) ?_ ?_
  · refine Ref.region (fun s ρ w s' h hr => ?_)
    obtain ⟨F, hW, h0, h1, h2, h3⟩ := h
    refine ol_v (e_as _ rfl) rfl ?_
    obtain rfl := Option.some.inj hr
    exact ol_nil ⟨F, hW, h0, h1, h2, h3⟩
  refine Ref.seq (B := G0 w0 F0) ?_ ?_
  · refine Ref.seq (B := G1 w0 F0) ?_ ?_
    · refine Ref.region (fun s ρ w s' h hr => ?_)
      obtain ⟨F, hW, h0, h1, h2, h3⟩ := h
      obtain ⟨x1, hx1, hr⟩ := bind_some' hr
      refine ol_e (f_call [] fn_12 rfl (law4_shallowExample.calls hW.ok  hx1)) rfl rfl ?_
      rintro _ w2 ⟨Fz3, rfl, kw1⟩
      have hW5 := hW.trans kw1
      have st1 := kw1.stp hW.ok
      refine ol_v (e_not_ rfl) rfl ?_
      obtain rfl := Option.some.inj hr
      exact ol_nil ⟨Fz3, hW5, (h0.keep st1), (h1.keep st1), h2, h3, rfl⟩
    refine Ref.cond (b := fun s => s.t_16) (fun s ρ w ⟨F, hW, h0, h1, h2, h3, h16⟩ => h16) (Ref.pre (A := G2 w0 F0) ?_ (fun s ρ w h => (fun ⟨F, hW, h0, h1, h2, h3, h16⟩ => ⟨F, hW⟩ : G1 w0 F0 s ρ w → G2 w0 F0 s ρ w) h.2)) (Ref.pre (A := G0 w0 F0) ?_ (fun s ρ w h => (fun ⟨F, hW, h0, h1, h2, h3, h16⟩ => ⟨F, hW, h0, h1, h2, h3⟩ : G1 w0 F0 s ρ w → G0 w0 F0 s ρ w) h.2))
    · refine Ref.seq (B := G3 w0 F0) ?_ ?_
      · refine Ref.region (fun s ρ w s' h hr => ?_)
        obtain ⟨F, hW⟩ := h
        refine ol_v (e_as _ rfl) rfl ?_
        obtain rfl := Option.some.inj hr
        exact ol_nil ⟨F, hW, rfl⟩
      exact Ref.ret (fun s ρ w h => ⟨s, rfl, h⟩)
    · exact Ref.skip
  refine Ref.seq (B := G0 w0 F0) ?_ ?_
  · refine Ref.seq (B := G4 w0 F0) ?_ ?_
    · refine Ref.region (fun s ρ w s' h hr => ?_)
      obtain ⟨F, hW, h0, h1, h2, h3⟩ := h
      refine ol_v (e_mv _ h2) rfl ?_
      obtain ⟨x6, hx6, hr⟩ := bind_some' hr
      refine ol_e (f_call [.int .i64 s.t_2, .int .i64 (1 : Int), .int .i64 (60 : Int)] fn_16 (lcons rfl (lcons rfl (lcons rfl rfl))) (ref3_In.calls hW.ok s.t_2 (1 : Int) (60 : Int) hx6)) rfl rfl ?_
      rintro _ w7 ⟨Fz8, rfl, kw1⟩
      have hW10 := hW.trans kw1
      have st1 := kw1.stp hW.ok
      refine ol_v (e_not_ rfl) rfl ?_
      obtain ⟨x18, hx19, hr⟩ := bind_some' hr
      refine ol_cutA 7 20 26 (fun ρ' w' => ∃ F', Wk nrow w7 Fz8 F' w' ∧ ρ' 26 = .bool x18) rfl ?_ ?_
      · by_cases hb11 : (!x6) = true
        · have hr := hx19
          rw [if_pos hb11] at hr
          refine ol_v (e_mv _ rfl) rfl ?_
          refine ol_not rfl rfl rfl (congrArg Value.bool hb11) rfl ?_
          refine ol_not rfl rfl rfl (congrArg Value.bool hb11) rfl ?_
          refine ol_not rfl rfl rfl (congrArg Value.bool hb11) rfl ?_
          refine ol_not rfl rfl rfl (congrArg Value.bool hb11) rfl ?_
          refine ol_not rfl rfl rfl (congrArg Value.bool hb11) rfl ?_
          refine ol_v (e_pick true _ (congrArg Value.bool hb11) rfl) rfl ?_
          exact ol_nil ⟨⟨_, Wk.refl hW10.ok, (congrArg Value.bool (Option.some.inj hr))⟩, ((((((((Agr.refl _ _ _).upd rfl rfl).upd rfl rfl).upd rfl rfl).upd rfl rfl).upd rfl rfl).upd rfl rfl).upd rfl rfl)⟩
        · have hb12 := Bool.eq_false_iff.mpr hb11
          have hr := hx19
          rw [if_neg hb11] at hr
          refine ol_v (e_mv _ rfl) rfl ?_
          refine ol_yes rfl rfl (congrArg Value.bool hb12) ?_
          refine ol_v (e_mv _ h3) rfl ?_
          refine ol_yes rfl rfl (congrArg Value.bool hb12) ?_
          refine ol_v (e_mv _ h2) rfl ?_
          refine ol_yes rfl rfl (congrArg Value.bool hb12) ?_
          refine ol_v (e_sub rfl rfl) rfl ?_
          refine ol_yes rfl rfl (congrArg Value.bool hb12) ?_
          obtain ⟨x13, hx13, hr⟩ := bind_some' hr
          refine ol_e (f_call [.int .i64 s.t_3, .int .i64 (0 : Int), .int .i64 (w64 ((60 : Int) - s.t_2))] fn_16 (lcons rfl (lcons rfl (lcons rfl rfl))) (ref3_In.calls hW10.ok s.t_3 (0 : Int) (w64 ((60 : Int) - s.t_2)) hx13)) rfl rfl ?_
          rintro _ w14 ⟨Fz15, rfl, kw2⟩
          have hW17 := hW10.trans kw2
          have st2 := kw2.stp hW10.ok
          refine ol_yes rfl rfl (congrArg Value.bool hb12) ?_
          refine ol_v (e_not_ rfl) rfl ?_
          refine ol_v (e_pick false _ (congrArg Value.bool hb12) rfl) rfl ?_
          exact ol_nil ⟨⟨_, kw2, (congrArg Value.bool (Option.some.inj hr))⟩, ((((((((Agr.refl _ _ _).upd rfl rfl).upd rfl rfl).upd rfl rfl).upd rfl rfl).upd rfl rfl).upd rfl rfl).upd rfl rfl)⟩
      rintro ρ19 w20 ⟨⟨Fz21, kw2, hp19⟩, hAg19⟩
      have hW22 := hW10.trans kw2
      have st2 := kw2.stp hW10.ok
      obtain rfl := Option.some.inj hr
      exact ol_nil ⟨Fz21, hW22, (SlR.eqv (hAg19 0 rfl) (h0.keep (st1.trans st2))), (SlR.eqv (hAg19 1 rfl) (h1.keep (st1.trans st2))), ((hAg19 2 rfl).trans h2), ((hAg19 3 rfl).trans h3), hp19⟩
    refine Ref.cond (b := fun s => s.t_26) (fun s ρ w ⟨F, hW, h0, h1, h2, h3, h26⟩ => h26) (Ref.pre (A := G2 w0 F0) ?_ (fun s ρ w h => (fun ⟨F, hW, h0, h1, h2, h3, h26⟩ => ⟨F, hW⟩ : G4 w0 F0 s ρ w → G2 w0 F0 s ρ w) h.2)) (Ref.pre (A := G0 w0 F0) ?_ (fun s ρ w h => (fun ⟨F, hW, h0, h1, h2, h3, h26⟩ => ⟨F, hW, h0, h1, h2, h3⟩ : G4 w0 F0 s ρ w → G0 w0 F0 s ρ w) h.2))
    · refine Ref.seq (B := G3 w0 F0) ?_ ?_
      · refine Ref.region (fun s ρ w s' h hr => ?_)
        obtain ⟨F, hW⟩ := h
        refine ol_v (e_as _ rfl) rfl ?_
        obtain rfl := Option.some.inj hr
        exact ol_nil ⟨F, hW, rfl⟩
      exact Ref.ret (fun s ρ w h => ⟨s, rfl, h⟩)
    · exact Ref.skip
  refine Ref.seq (B := G5 w0 F0) ?_ ?_
  · refine Ref.region (fun s ρ w s' h hr => ?_)
    obtain ⟨F, hW, h0, h1, h2, h3⟩ := h
    refine ol_v (e_mv _ rfl) rfl ?_
    refine ol_v (e_mv _ rfl) rfl ?_
    refine ol_v (e_mv _ h2) rfl ?_
    obtain ⟨x23, hx23, hr⟩ := bind_some' hr
    refine ol_e (f_call [(ρ 0), (ρ 1), .int .i64 s.t_2] fn_13 (lcons rfl (lcons rfl (lcons rfl rfl))) (shallow_Cut.calls hW.ok h0 h1 s.t_2 hx23)) rfl rfl ?_
    rintro _ w24 ⟨Fz25, v26, v28, rfl, kw1, hk27, hk29⟩
    have hW31 := hW.trans kw1
    have st1 := kw1.stp hW.ok
    refine ol_v (e_mv _ rfl) rfl ?_
    refine ol_v (e_ext _ rfl rfl) rfl ?_
    refine ol_v (e_ext _ rfl rfl) rfl ?_
    refine ol_e (f_alloc zer_26 hW31) rfl rfl ?_
    rintro _ w33 ⟨g32, rfl, kw2, ho34⟩
    have hW35 := hW31.trans kw2
    have st2 := kw2.stp hW31.ok
    obtain ⟨Fz36, hWz37, st3, hF3, hz38⟩ := (((hk27.base (row := nrow) hW.le).wk kw2 hW31.ok)).frozen hW35
    refine ol_v (e_as _ rfl) rfl ?_
    refine ol_eN (f_stB hWz37 ((ho34.base (row := nrow) hW31.le).frz (apart_bo (ho34.base (row := nrow) hW31.le) ((hk27.base (row := nrow) hW.le).wk kw2 hW31.ok) rfl).symm hF3 st3) (FldS.whole _) ty_26 (hk29.keep (st2.trans st3)) rfl rfl) rfl ?_
    rintro - w39 ⟨hW40, ho41, hg4, st4⟩
    obtain rfl := Option.some.inj hr
    exact ol_nil ⟨Fz36, hW40, g32, (h0.keep (st1.trans (st2.trans (st3.trans st4)))), (h1.keep (st1.trans (st2.trans (st3.trans st4)))), h2, h3, (hz38.keep st4), rfl, ho41⟩
  refine Ref.seq (B := G8 w0 F0) ?_ ?_
  · refine Ref.seq (B := G6 w0 F0) ?_ ?_
    · refine Ref.region (fun s ρ w s' h hr => ?_)
      obtain ⟨F, hW, g10, h0, h1, h2, h3, h9, p10, h10⟩ := h
      refine ol_v (e_fa fa_26_0 p10) rfl ?_
      refine ol_v (e_ld ty_3 (LiesV.int ((h10).at_.fld fl_Fault_0)) rfl) rfl ?_
      refine ol_v (e_neq rfl rfl) rfl ?_
      obtain rfl := Option.some.inj hr
      exact ol_nil ⟨F, hW, h0, h1, h2, h3, h9, rfl⟩
    refine Ref.cond (b := fun s => s.t_36) (fun s ρ w ⟨F, hW, h0, h1, h2, h3, h9, h36⟩ => h36) (Ref.pre (A := G7 w0 F0) ?_ (fun s ρ w h => (fun ⟨F, hW, h0, h1, h2, h3, h9, h36⟩ => ⟨F, hW, h9⟩ : G6 w0 F0 s ρ w → G7 w0 F0 s ρ w) h.2)) (Ref.pre (A := G8 w0 F0) ?_ (fun s ρ w h => (fun ⟨F, hW, h0, h1, h2, h3, h9, h36⟩ => ⟨F, hW, h0, h1, h2, h3, h9⟩ : G6 w0 F0 s ρ w → G8 w0 F0 s ρ w) h.2))
    · refine Ref.seq (B := G3 w0 F0) ?_ ?_
      · refine Ref.region (fun s ρ w s' h hr => ?_)
        obtain ⟨F, hW, h9⟩ := h
        refine ol_v (e_mv _ rfl) rfl ?_
        obtain ⟨A42, c43, e44, hc45, R46⟩ := id h9
        refine ol_v (e_len (SlT.sl sl_23) e44) rfl ?_
        refine ol_v (e_eql rfl rfl) rfl ?_
        refine ol_v (e_as _ rfl) rfl ?_
        obtain rfl := Option.some.inj hr
        exact ol_nil ⟨F, hW, rfl⟩
      exact Ref.ret (fun s ρ w h => ⟨s, rfl, h⟩)
    · exact Ref.skip
  refine Ref.seq (B := G9 w0 F0) ?_ ?_
  · refine Ref.region (fun s ρ w s' h hr => ?_)
    obtain ⟨F, hW, h0, h1, h2, h3, h9⟩ := h
    refine ol_v (e_mv _ rfl) rfl ?_
    refine ol_v (e_mv _ rfl) rfl ?_
    refine ol_v (e_mv _ h3) rfl ?_
    obtain ⟨x47, hx47, hr⟩ := bind_some' hr
    refine ol_e (f_call [(ρ 0), (ρ 9), .int .i64 s.t_3] fn_20 (lcons rfl (lcons rfl (lcons rfl rfl))) (shallow_Deepen.calls hW.ok h0 h9 s.t_3 hx47)) rfl rfl ?_
    rintro _ w48 ⟨Fz49, v50, v52, rfl, kw1, hk51, hk53⟩
    have hW55 := hW.trans kw1
    have st1 := kw1.stp hW.ok
    refine ol_v (e_mv _ rfl) rfl ?_
    refine ol_v (e_ext _ rfl rfl) rfl ?_
    refine ol_v (e_ext _ rfl rfl) rfl ?_
    refine ol_e (f_alloc zer_26 hW55) rfl rfl ?_
    rintro _ w57 ⟨g56, rfl, kw2, ho58⟩
    have hW59 := hW55.trans kw2
    have st2 := kw2.stp hW55.ok
    obtain ⟨Fz60, hWz61, st3, hF3, hz62⟩ := (((hk51.base (row := nrow) hW.le).wk kw2 hW55.ok)).frozen hW59
    refine ol_v (e_as _ rfl) rfl ?_
    refine ol_eN (f_stB hWz61 ((ho58.base (row := nrow) hW55.le).frz (apart_bo (ho58.base (row := nrow) hW55.le) ((hk51.base (row := nrow) hW.le).wk kw2 hW55.ok) rfl).symm hF3 st3) (FldS.whole _) ty_26 (hk53.keep (st2.trans st3)) rfl rfl) rfl ?_
    rintro - w63 ⟨hW64, ho65, hg4, st4⟩
    obtain rfl := Option.some.inj hr
    exact ol_nil ⟨Fz60, hW64, g56, (h0.keep (st1.trans (st2.trans (st3.trans st4)))), (h1.keep (st1.trans (st2.trans (st3.trans st4)))), h2, h3, (hz62.keep st4), rfl, ho65⟩
  refine Ref.seq (B := G10 w0 F0) ?_ ?_
  · refine Ref.region (fun s ρ w s' h hr => ?_)
    obtain ⟨F, hW, g12, h0, h1, h2, h3, h11, p12, h12⟩ := h
    refine ol_v (e_mv _ rfl) rfl ?_
    refine ol_v (e_mv _ rfl) rfl ?_
    refine ol_v (e_mv _ h2) rfl ?_
    refine ol_v (e_mv _ h3) rfl ?_
    refine ol_v (e_add rfl rfl) rfl ?_
    obtain ⟨x66, hx66, hr⟩ := bind_some' hr
    refine ol_e (f_call [(ρ 0), (ρ 1), .int .i64 (w64 (s.t_2 + s.t_3))] fn_13 (lcons rfl (lcons rfl (lcons rfl rfl))) (shallow_Cut.calls hW.ok h0 h1 (w64 (s.t_2 + s.t_3)) hx66)) rfl rfl ?_
    rintro _ w67 ⟨Fz68, v69, v71, rfl, kw1, hk70, hk72⟩
    have hW74 := hW.trans kw1
    have st1 := kw1.stp hW.ok
    refine ol_v (e_mv _ rfl) rfl ?_
    refine ol_v (e_ext _ rfl rfl) rfl ?_
    refine ol_v (e_ext _ rfl rfl) rfl ?_
    refine ol_e (f_alloc zer_26 hW74) rfl rfl ?_
    rintro _ w76 ⟨g75, rfl, kw2, ho77⟩
    have hW78 := hW74.trans kw2
    have st2 := kw2.stp hW74.ok
    obtain ⟨Fz79, hWz80, st3, hF3, hz81⟩ := (((hk70.base (row := nrow) hW.le).wk kw2 hW74.ok)).frozen hW78
    refine ol_v (e_as _ rfl) rfl ?_
    refine ol_eN (f_stB hWz80 ((ho77.base (row := nrow) hW74.le).frz (apart_bo (ho77.base (row := nrow) hW74.le) ((hk70.base (row := nrow) hW.le).wk kw2 hW74.ok) rfl).symm hF3 st3) (FldS.whole _) ty_26 (hk72.keep (st2.trans st3)) rfl rfl) rfl ?_
    rintro - w82 ⟨hW83, ho84, hg4, st4⟩
    obtain rfl := Option.some.inj hr
    exact ol_nil ⟨Fz79, hW83, g12, g75, (h11.keep (st1.trans (st2.trans (st3.trans st4)))), p12, ((((h12.wk kw1 hW.ok).wk kw2 hW74.ok).frz (apart_bo ((h12.wk kw1 hW.ok).wk kw2 hW74.ok) ((hk70.base (row := nrow) hW.le).wk kw2 hW74.ok) rfl).symm hF3 st3).mut (Apart.base (fun _ e_ => by cases e_; exact ho77.ge) (h12.wk kw1 hW.ok).ltw) hg4 st4), (hz81.keep st4), rfl, ho84, (Apart.base (fun _ e_ => by cases e_; exact ho77.ge) (h12.wk kw1 hW.ok).ltw).symm⟩
  refine Ref.seq (B := G3 w0 F0) ?_ ?_
  · refine Ref.region (fun s ρ w s' h hr => ?_)
    obtain ⟨F, hW, g12, g14, h11, p12, h12, h13, p14, h14, a12b_14b⟩ := h
    refine ol_v (e_fa fa_26_0 p12) rfl ?_
    refine ol_v (e_ld ty_3 (LiesV.int ((h12).at_.fld fl_Fault_0)) rfl) rfl ?_
    refine ol_v (e_eql rfl rfl) rfl ?_
    refine ol_cutA 5 59 63 (fun ρ' w' => w = w' ∧ ρ' 63 = .bool ((decide (s.t_12.Code = (0 : Int))) && (decide (s.t_14.Code = (0 : Int))))) rfl ?_ ?_
    · by_cases hb85 : (decide (s.t_12.Code = (0 : Int))) = true
      · refine ol_v (e_mv _ rfl) rfl ?_
        refine ol_yes rfl rfl (congrArg Value.bool hb85) ?_
        refine ol_v (e_fa fa_26_0 p14) rfl ?_
        refine ol_yes rfl rfl (congrArg Value.bool hb85) ?_
        refine ol_v (e_ld ty_3 (LiesV.int ((h14).at_.fld fl_Fault_0)) rfl) rfl ?_
        refine ol_yes rfl rfl (congrArg Value.bool hb85) ?_
        refine ol_v (e_eql rfl rfl) rfl ?_
        refine ol_v (e_pick true _ (congrArg Value.bool hb85) rfl) rfl ?_
        exact ol_nil ⟨⟨rfl, (bv_and_t hb85)⟩, ((((((Agr.refl _ _ _).upd rfl rfl).upd rfl rfl).upd rfl rfl).upd rfl rfl).upd rfl rfl)⟩
      · have hb86 := Bool.eq_false_iff.mpr hb85
        refine ol_v (e_mv _ rfl) rfl ?_
        refine ol_not rfl rfl rfl (congrArg Value.bool hb86) rfl ?_
        refine ol_not rfl rfl rfl (congrArg Value.bool hb86) rfl ?_
        refine ol_not rfl rfl rfl (congrArg Value.bool hb86) rfl ?_
        refine ol_v (e_pick false _ (congrArg Value.bool hb86) rfl) rfl ?_
        exact ol_nil ⟨⟨rfl, (bv_and_f hb86)⟩, ((((((Agr.refl _ _ _).upd rfl rfl).upd rfl rfl).upd rfl rfl).upd rfl rfl).upd rfl rfl)⟩
    rintro ρ87 _ ⟨⟨rfl, hp87⟩, hAg87⟩
    obtain ⟨x95, hx96, hr⟩ := bind_some' hr
    refine ol_cutA 5 64 68 (fun ρ' w' => ∃ F', Wk nrow w F F' w' ∧ ρ' 68 = .bool x95) rfl ?_ ?_
    · by_cases hb88 : ((decide (s.t_12.Code = (0 : Int))) && (decide (s.t_14.Code = (0 : Int)))) = true
      · have hr := hx96
        rw [if_pos hb88] at hr
        refine ol_v (e_mv _ hp87) rfl ?_
        refine ol_yes rfl rfl (congrArg Value.bool hb88) ?_
        refine ol_v (e_mv _ (hAg87 11 rfl)) rfl ?_
        refine ol_yes rfl rfl (congrArg Value.bool hb88) ?_
        refine ol_v (e_mv _ (hAg87 13 rfl)) rfl ?_
        refine ol_yes rfl rfl (congrArg Value.bool hb88) ?_
        obtain ⟨x90, hx90, hr⟩ := bind_some' hr
        refine ol_e (f_call [(ρ 11), (ρ 13)] fn_17 (lcons rfl (lcons rfl rfl)) (ref3_Ints.calls hW.ok h11 h13 hx90)) rfl rfl ?_
        rintro _ w91 ⟨Fz92, rfl, kw1⟩
        have hW94 := hW.trans kw1
        have st1 := kw1.stp hW.ok
        refine ol_v (e_pick true _ (congrArg Value.bool hb88) rfl) rfl ?_
        exact ol_nil ⟨⟨_, kw1, (congrArg Value.bool (Option.some.inj hr))⟩, ((((((Agr.refl _ _ _).upd rfl rfl).upd rfl rfl).upd rfl rfl).upd rfl rfl).upd rfl rfl)⟩
      · have hb89 := Bool.eq_false_iff.mpr hb88
        have hr := hx96
        rw [if_neg hb88] at hr
        refine ol_v (e_mv _ hp87) rfl ?_
        refine ol_not rfl rfl rfl (congrArg Value.bool hb89) rfl ?_
        refine ol_not rfl rfl rfl (congrArg Value.bool hb89) rfl ?_
        refine ol_not rfl rfl rfl (congrArg Value.bool hb89) rfl ?_
        refine ol_v (e_pick false _ (congrArg Value.bool hb89) rfl) rfl ?_
        exact ol_nil ⟨⟨_, Wk.refl hW.ok, (congrArg Value.bool (Option.some.inj hr))⟩, ((((((Agr.refl _ _ _).upd rfl rfl).upd rfl rfl).upd rfl rfl).upd rfl rfl).upd rfl rfl)⟩
    rintro ρ96 w97 ⟨⟨Fz98, kw1, hp96⟩, hAg96⟩
    have hW99 := hW.trans kw1
    have st1 := kw1.stp hW.ok
    refine ol_v (e_as _ hp96) rfl ?_
    obtain rfl := Option.some.inj hr
    exact ol_nil ⟨Fz98, hW99, rfl⟩
  exact Ref.ret (fun s ρ w h => ⟨s, rfl, h⟩)
def post (w : World) (F : BSet) (r : R) (v : Value) (w' : World) : Prop := ∃ (F' : BSet), v = .bool r ∧ Wk nrow w F F' w'
theorem calls {w : World} {F : BSet} (hok : ∀ b, F b → b < w.heap.size) {v0 : Value} {a0 : (List Commit)} (h0 : SlR k_Commit F w v0 a0) {v1 : Value} {a1 : (List Int)} (h1 : SlR (kInt .i64) F w v1 a1) (a2 : Int) (a3 : Int) {r : R} (hf : f a0 a1 a2 a3 = some r) : Calls Try.prog 5 #[v0, v1, .int .i64 a2, .int .i64 a3] w fun e w' => ∃ v, e = .returned v ∧ post w F r v w' := by
  obtain ⟨c, hc, href⟩ := ref w F
  refine calls_of_ref (args := [v0, v1, .int .i64 a2, .int .i64 a3]) _ Try.func5 hc rfl rfl href ?_ (retOf_some hf) ?_
  · exact ⟨F, Wk.refl hok, h0, h1, rfl, rfl⟩
  · rintro ρ w' a ⟨s, rfl, F', hW, h8⟩ hF
    refine ⟨_, run_results (rs := [.tmp 8]) rfl hF (vs := [ρ 8]) (⟨_, rfl, rfl⟩), ?_⟩
    have hv : resVal [ρ 8] = .bool s.t_8 := by rw [h8]; rfl
    exact ⟨F', hv, hW⟩
end
end law4_ShallowDeepenAdds

namespace law4_ShallowBoundaryDecides
section
def G0 (w0 : World) (F0 : BSet) (s : S) (ρ : Env) (w : World) : Prop := ∃ (F : BSet), Wk nrow w0 F0 F w ∧ SlR k_Commit F w (ρ 0) s.l_0 ∧ SlR (kInt .i64) F w (ρ 1) s.numbers_1
def G1 (w0 : World) (F0 : BSet) (s : S) (ρ : Env) (w : World) : Prop := ∃ (F : BSet), Wk nrow w0 F0 F w ∧ SlR k_Commit F w (ρ 0) s.l_0 ∧ SlR (kInt .i64) F w (ρ 1) s.numbers_1 ∧ ρ 10 = .bool s.t_10
def G2 (w0 : World) (F0 : BSet) (s : S) (ρ : Env) (w : World) : Prop := ∃ (F : BSet), Wk nrow w0 F0 F w
def G3 (w0 : World) (F0 : BSet) (s : S) (ρ : Env) (w : World) : Prop := ∃ (F : BSet), Wk nrow w0 F0 F w ∧ ρ 4 = .bool s.t_4
def G4 (w0 : World) (F0 : BSet) (s : S) (ρ : Env) (w : World) : Prop := ∃ (F : BSet), Wk nrow w0 F0 F w ∧ ∃ (g6 : Nat), SlR k_Commit F w (ρ 0) s.l_0 ∧ SlR (kInt .i64) F w (ρ 1) s.numbers_1 ∧ SlR (kInt .i64) F w (ρ 5) s.b_5 ∧ ρ 6 = .pointer (some ⟨g6, 0, none⟩) ∧ Box k_Fault 26 (Bs w0 nrow) F w g6 s.f_6
def G5 (w0 : World) (F0 : BSet) (s : S) (ρ : Env) (w : World) : Prop := ∃ (F : BSet), Wk nrow w0 F0 F w ∧ ∃ (g6 : Nat) (g8 : Nat), SlR (kInt .i64) F w (ρ 1) s.numbers_1 ∧ SlR (kInt .i64) F w (ρ 5) s.b_5 ∧ ρ 6 = .pointer (some ⟨g6, 0, none⟩) ∧ Box k_Fault 26 (Bs w0 nrow) F w g6 s.f_6 ∧ SlR (kInt .i64) F w (ρ 7) s.d_7 ∧ ρ 8 = .pointer (some ⟨g8, 0, none⟩) ∧ Box k_Fault 26 (Bs w0 nrow) F w g8 s.g_8 ∧ Apart (some g6) (some g8)
def G6 (w0 : World) (F0 : BSet) (s : S) (ρ : Env) (w : World) : Prop := ∃ (F : BSet), Wk nrow w0 F0 F w ∧ ∃ (g6 : Nat) (g8 : Nat), SlR (kInt .i64) F w (ρ 1) s.numbers_1 ∧ SlR (kInt .i64) F w (ρ 5) s.b_5 ∧ ρ 6 = .pointer (some ⟨g6, 0, none⟩) ∧ Box k_Fault 26 (Bs w0 nrow) F w g6 s.f_6 ∧ SlR (kInt .i64) F w (ρ 7) s.d_7 ∧ ρ 8 = .pointer (some ⟨g8, 0, none⟩) ∧ Box k_Fault 26 (Bs w0 nrow) F w g8 s.g_8 ∧ ρ 30 = .bool s.t_30 ∧ Apart (some g6) (some g8)
def G7 (w0 : World) (F0 : BSet) (s : S) (ρ : Env) (w : World) : Prop := ∃ (F : BSet), Wk nrow w0 F0 F w ∧ ∃ (g6 : Nat) (g8 : Nat), SlR (kInt .i64) F w (ρ 5) s.b_5 ∧ ρ 6 = .pointer (some ⟨g6, 0, none⟩) ∧ Box k_Fault 26 (Bs w0 nrow) F w g6 s.f_6 ∧ SlR (kInt .i64) F w (ρ 7) s.d_7 ∧ ρ 8 = .pointer (some ⟨g8, 0, none⟩) ∧ Box k_Fault 26 (Bs w0 nrow) F w g8 s.g_8 ∧ Apart (some g6) (some g8)
def G8 (w0 : World) (F0 : BSet) (s : S) (ρ : Env) (w : World) : Prop := ∃ (F : BSet), Wk nrow w0 F0 F w ∧ SlR (kInt .i64) F w (ρ 1) s.numbers_1 ∧ SlR (kInt .i64) F w (ρ 5) s.b_5 ∧ SlR (kInt .i64) F w (ρ 7) s.d_7
set_option maxHeartbeats 4000000 in
set_option maxRecDepth 20000 in
theorem ref (w0 : World) (F0 : BSet) : ∃ c, Try.f6.body = some c ∧ Ref Try.prog 49 c (G0 w0 F0) body (fun _ _ _ => False) (fun _ _ _ _ => False) (fun r ρ w => ∃ s, retv s = r ∧ G3 w0 F0 s ρ w) := by
  refine ⟨_, rfl, ?_⟩
  unfold body
  refine Ref.seq (B := G0 w0 F0) ?_ ?_
  · refine Ref.region (fun s ρ w s' h hr => ?_)
    obtain ⟨F, hW, h0, h1⟩ := h
    refine ol_v (e_as _ rfl) rfl ?_
    obtain rfl := Option.some.inj hr
    exact ol_nil ⟨F, hW, h0, h1⟩
  refine Ref.seq (B := G0 w0 F0) ?_ ?_
  · refine Ref.seq (B := G1 w0 F0) ?_ ?_
    · refine Ref.region (fun s ρ w s' h hr => ?_)
      obtain ⟨F, hW, h0, h1⟩ := h
      obtain ⟨x1, hx1, hr⟩ := bind_some' hr
      refine ol_e (f_call [] fn_12 rfl (law4_shallowExample.calls hW.ok  hx1)) rfl rfl ?_
      rintro _ w2 ⟨Fz3, rfl, kw1⟩
      have hW5 := hW.trans kw1
      have st1 := kw1.stp hW.ok
      refine ol_v (e_not_ rfl) rfl ?_
      obtain rfl := Option.some.inj hr
      exact ol_nil ⟨Fz3, hW5, (h0.keep st1), (h1.keep st1), rfl⟩
    refine Ref.cond (b := fun s => s.t_10) (fun s ρ w ⟨F, hW, h0, h1, h10⟩ => h10) (Ref.pre (A := G2 w0 F0) ?_ (fun s ρ w h => (fun ⟨F, hW, h0, h1, h10⟩ => ⟨F, hW⟩ : G1 w0 F0 s ρ w → G2 w0 F0 s ρ w) h.2)) (Ref.pre (A := G0 w0 F0) ?_ (fun s ρ w h => (fun ⟨F, hW, h0, h1, h10⟩ => ⟨F, hW, h0, h1⟩ : G1 w0 F0 s ρ w → G0 w0 F0 s ρ w) h.2))
    · refine Ref.seq (B := G3 w0 F0) ?_ ?_
      · refine Ref.region (fun s ρ w s' h hr => ?_)
        obtain ⟨F, hW⟩ := h
        refine ol_v (e_as _ rfl) rfl ?_
        obtain rfl := Option.some.inj hr
        exact ol_nil ⟨F, hW, rfl⟩
      exact Ref.ret (fun s ρ w h => ⟨s, rfl, h⟩)
    · exact Ref.skip
  refine Ref.seq (B := G4 w0 F0) ?_ ?_
  · refine Ref.region (fun s ρ w s' h hr => ?_)
    obtain ⟨F, hW, h0, h1⟩ := h
    refine ol_v (e_mv _ rfl) rfl ?_
    refine ol_v (e_mv _ rfl) rfl ?_
    obtain ⟨x6, hx6, hr⟩ := bind_some' hr
    refine ol_e (f_call [(ρ 0), (ρ 1)] fn_19 (lcons rfl (lcons rfl rfl)) (shallow_Boundary.calls hW.ok h0 h1 hx6)) rfl rfl ?_
    rintro _ w7 ⟨Fz8, v9, v11, rfl, kw1, hk10, hk12⟩
    have hW14 := hW.trans kw1
    have st1 := kw1.stp hW.ok
    refine ol_v (e_mv _ rfl) rfl ?_
    refine ol_v (e_ext _ rfl rfl) rfl ?_
    refine ol_v (e_ext _ rfl rfl) rfl ?_
    refine ol_e (f_alloc zer_26 hW14) rfl rfl ?_
    rintro _ w16 ⟨g15, rfl, kw2, ho17⟩
    have hW18 := hW14.trans kw2
    have st2 := kw2.stp hW14.ok
    obtain ⟨Fz19, hWz20, st3, hF3, hz21⟩ := (((hk10.base (row := nrow) hW.le).wk kw2 hW14.ok)).frozen hW18
    refine ol_v (e_as _ rfl) rfl ?_
    refine ol_eN (f_stB hWz20 ((ho17.base (row := nrow) hW14.le).frz (apart_bo (ho17.base (row := nrow) hW14.le) ((hk10.base (row := nrow) hW.le).wk kw2 hW14.ok) rfl).symm hF3 st3) (FldS.whole _) ty_26 (hk12.keep (st2.trans st3)) rfl rfl) rfl ?_
    rintro - w22 ⟨hW23, ho24, hg4, st4⟩
    obtain rfl := Option.some.inj hr
    exact ol_nil ⟨Fz19, hW23, g15, (h0.keep (st1.trans (st2.trans (st3.trans st4)))), (h1.keep (st1.trans (st2.trans (st3.trans st4)))), (hz21.keep st4), rfl, ho24⟩
  refine Ref.seq (B := G5 w0 F0) ?_ ?_
  · refine Ref.region (fun s ρ w s' h hr => ?_)
    obtain ⟨F, hW, g6, h0, h1, h5, p6, h6⟩ := h
    refine ol_v (e_mv _ rfl) rfl ?_
    refine ol_v (e_mv _ rfl) rfl ?_
    obtain ⟨x25, hx25, hr⟩ := bind_some' hr
    refine ol_e (f_call [(ρ 0), (ρ 1), .int .i64 (1 : Int)] fn_20 (lcons rfl (lcons rfl (lcons rfl rfl))) (shallow_Deepen.calls hW.ok h0 h1 (1 : Int) hx25)) rfl rfl ?_
    rintro _ w26 ⟨Fz27, v28, v30, rfl, kw1, hk29, hk31⟩
    have hW33 := hW.trans kw1
    have st1 := kw1.stp hW.ok
    refine ol_v (e_mv _ rfl) rfl ?_
    refine ol_v (e_ext _ rfl rfl) rfl ?_
    refine ol_v (e_ext _ rfl rfl) rfl ?_
    refine ol_e (f_alloc zer_26 hW33) rfl rfl ?_
    rintro _ w35 ⟨g34, rfl, kw2, ho36⟩
    have hW37 := hW33.trans kw2
    have st2 := kw2.stp hW33.ok
    obtain ⟨Fz38, hWz39, st3, hF3, hz40⟩ := (((hk29.base (row := nrow) hW.le).wk kw2 hW33.ok)).frozen hW37
    refine ol_v (e_as _ rfl) rfl ?_
    refine ol_eN (f_stB hWz39 ((ho36.base (row := nrow) hW33.le).frz (apart_bo (ho36.base (row := nrow) hW33.le) ((hk29.base (row := nrow) hW.le).wk kw2 hW33.ok) rfl).symm hF3 st3) (FldS.whole _) ty_26 (hk31.keep (st2.trans st3)) rfl rfl) rfl ?_
    rintro - w41 ⟨hW42, ho43, hg4, st4⟩
    obtain rfl := Option.some.inj hr
    exact ol_nil ⟨Fz38, hW42, g6, g34, (h1.keep (st1.trans (st2.trans (st3.trans st4)))), (h5.keep (st1.trans (st2.trans (st3.trans st4)))), p6, ((((h6.wk kw1 hW.ok).wk kw2 hW33.ok).frz (apart_bo ((h6.wk kw1 hW.ok).wk kw2 hW33.ok) ((hk29.base (row := nrow) hW.le).wk kw2 hW33.ok) rfl).symm hF3 st3).mut (Apart.base (fun _ e_ => by cases e_; exact ho36.ge) (h6.wk kw1 hW.ok).ltw) hg4 st4), (hz40.keep st4), rfl, ho43, (Apart.base (fun _ e_ => by cases e_; exact ho36.ge) (h6.wk kw1 hW.ok).ltw).symm⟩
  refine Ref.seq (B := G8 w0 F0) ?_ ?_
  · refine Ref.seq (B := G6 w0 F0) ?_ ?_
    · refine Ref.region (fun s ρ w s' h hr => ?_)
      obtain ⟨F, hW, g6, g8, h1, h5, p6, h6, h7, p8, h8, a6b_8b⟩ := h
      refine ol_v (e_fa fa_26_0 p6) rfl ?_
      refine ol_v (e_ld ty_3 (LiesV.int ((h6).at_.fld fl_Fault_0)) rfl) rfl ?_
      refine ol_v (e_neq rfl rfl) rfl ?_
      refine ol_cutA 5 26 30 (fun ρ' w' => w = w' ∧ ρ' 30 = .bool ((!decide (s.f_6.Code = (0 : Int))) || (!decide (s.g_8.Code = (0 : Int))))) rfl ?_ ?_
      · by_cases hb44 : (!decide (s.f_6.Code = (0 : Int))) = true
        · refine ol_v (e_mv _ rfl) rfl ?_
          refine ol_not rfl rfl rfl (congrArg Value.bool hb44) rfl ?_
          refine ol_not rfl rfl rfl (congrArg Value.bool hb44) rfl ?_
          refine ol_not rfl rfl rfl (congrArg Value.bool hb44) rfl ?_
          refine ol_v (e_pick true _ (congrArg Value.bool hb44) rfl) rfl ?_
          exact ol_nil ⟨⟨rfl, (bv_or_t hb44)⟩, ((((((Agr.refl _ _ _).upd rfl rfl).upd rfl rfl).upd rfl rfl).upd rfl rfl).upd rfl rfl)⟩
        · have hb45 := Bool.eq_false_iff.mpr hb44
          refine ol_v (e_mv _ rfl) rfl ?_
          refine ol_yes rfl rfl (congrArg Value.bool hb45) ?_
          refine ol_v (e_fa fa_26_0 p8) rfl ?_
          refine ol_yes rfl rfl (congrArg Value.bool hb45) ?_
          refine ol_v (e_ld ty_3 (LiesV.int ((h8).at_.fld fl_Fault_0)) rfl) rfl ?_
          refine ol_yes rfl rfl (congrArg Value.bool hb45) ?_
          refine ol_v (e_neq rfl rfl) rfl ?_
          refine ol_v (e_pick false _ (congrArg Value.bool hb45) rfl) rfl ?_
          exact ol_nil ⟨⟨rfl, (bv_or_f hb45)⟩, ((((((Agr.refl _ _ _).upd rfl rfl).upd rfl rfl).upd rfl rfl).upd rfl rfl).upd rfl rfl)⟩
      rintro ρ46 _ ⟨⟨rfl, hp46⟩, hAg46⟩
      obtain rfl := Option.some.inj hr
      exact ol_nil ⟨F, hW, g6, g8, (SlR.eqv (hAg46 1 rfl) h1), (SlR.eqv (hAg46 5 rfl) h5), ((hAg46 6 rfl).trans p6), h6, (SlR.eqv (hAg46 7 rfl) h7), ((hAg46 8 rfl).trans p8), h8, hp46, a6b_8b⟩
    refine Ref.cond (b := fun s => s.t_30) (fun s ρ w ⟨F, hW, g6, g8, h1, h5, p6, h6, h7, p8, h8, h30, a6b_8b⟩ => h30) (Ref.pre (A := G7 w0 F0) ?_ (fun s ρ w h => (fun ⟨F, hW, g6, g8, h1, h5, p6, h6, h7, p8, h8, h30, a6b_8b⟩ => ⟨F, hW, g6, g8, h5, p6, h6, h7, p8, h8, a6b_8b⟩ : G6 w0 F0 s ρ w → G7 w0 F0 s ρ w) h.2)) (Ref.pre (A := G8 w0 F0) ?_ (fun s ρ w h => (fun ⟨F, hW, g6, g8, h1, h5, p6, h6, h7, p8, h8, h30, a6b_8b⟩ => ⟨F, hW, h1, h5, h7⟩ : G6 w0 F0 s ρ w → G8 w0 F0 s ρ w) h.2))
    · refine Ref.seq (B := G3 w0 F0) ?_ ?_
      · refine Ref.region (fun s ρ w s' h hr => ?_)
        obtain ⟨F, hW, g6, g8, h5, p6, h6, h7, p8, h8, a6b_8b⟩ := h
        obtain ⟨v47, hl48⟩ := LiesAt.v (h6).at_
        refine ol_v (e_ld ty_26 hl48 p6) rfl ?_
        obtain ⟨v49, hl50⟩ := LiesAt.v (h8).at_
        refine ol_v (e_ld ty_26 hl50 p8) rfl ?_
        refine ol_v (e_teql (eq_Fault_26 hl48.val hl50.val) rfl rfl) rfl ?_
        refine ol_cutA 8 34 41 (fun ρ' w' => w = w' ∧ ρ' 41 = .bool ((decide (s.f_6 = s.g_8)) && (decide ((w64 ((s.b_5.length : Int) + (s.d_7.length : Int))) = (0 : Int))))) rfl ?_ ?_
        · by_cases hb51 : (decide (s.f_6 = s.g_8)) = true
          · refine ol_v (e_mv _ rfl) rfl ?_
            refine ol_yes rfl rfl (congrArg Value.bool hb51) ?_
            refine ol_v (e_mv _ rfl) rfl ?_
            refine ol_yes rfl rfl (congrArg Value.bool hb51) ?_
            obtain ⟨A53, c54, e55, hc56, R57⟩ := id h5
            refine ol_v (e_len (SlT.sl sl_23) e55) rfl ?_
            refine ol_yes rfl rfl (congrArg Value.bool hb51) ?_
            refine ol_v (e_mv _ rfl) rfl ?_
            refine ol_yes rfl rfl (congrArg Value.bool hb51) ?_
            obtain ⟨A58, c59, e60, hc61, R62⟩ := id h7
            refine ol_v (e_len (SlT.sl sl_23) e60) rfl ?_
            refine ol_yes rfl rfl (congrArg Value.bool hb51) ?_
            refine ol_v (e_add rfl rfl) rfl ?_
            refine ol_yes rfl rfl (congrArg Value.bool hb51) ?_
            refine ol_v (e_eql rfl rfl) rfl ?_
            refine ol_v (e_pick true _ (congrArg Value.bool hb51) rfl) rfl ?_
            exact ol_nil ⟨⟨rfl, (bv_and_t hb51)⟩, (((((((((Agr.refl _ _ _).upd rfl rfl).upd rfl rfl).upd rfl rfl).upd rfl rfl).upd rfl rfl).upd rfl rfl).upd rfl rfl).upd rfl rfl)⟩
          · have hb52 := Bool.eq_false_iff.mpr hb51
            refine ol_v (e_mv _ rfl) rfl ?_
            refine ol_not rfl rfl rfl (congrArg Value.bool hb52) rfl ?_
            refine ol_not rfl rfl rfl (congrArg Value.bool hb52) rfl ?_
            refine ol_not rfl rfl rfl (congrArg Value.bool hb52) rfl ?_
            refine ol_not rfl rfl rfl (congrArg Value.bool hb52) rfl ?_
            refine ol_not rfl rfl rfl (congrArg Value.bool hb52) rfl ?_
            refine ol_not rfl rfl rfl (congrArg Value.bool hb52) rfl ?_
            refine ol_v (e_pick false _ (congrArg Value.bool hb52) rfl) rfl ?_
            exact ol_nil ⟨⟨rfl, (bv_and_f hb52)⟩, (((((((((Agr.refl _ _ _).upd rfl rfl).upd rfl rfl).upd rfl rfl).upd rfl rfl).upd rfl rfl).upd rfl rfl).upd rfl rfl).upd rfl rfl)⟩
        rintro ρ63 _ ⟨⟨rfl, hp63⟩, hAg63⟩
        refine ol_v (e_as _ hp63) rfl ?_
        obtain rfl := Option.some.inj hr
        exact ol_nil ⟨F, hW, rfl⟩
      exact Ref.ret (fun s ρ w h => ⟨s, rfl, h⟩)
    · exact Ref.skip
  refine Ref.seq (B := G3 w0 F0) ?_ ?_
  · refine Ref.region (fun s ρ w s' h hr => ?_)
    obtain ⟨F, hW, h1, h5, h7⟩ := h
    refine ol_v (e_mv _ rfl) rfl ?_
    obtain ⟨A64, c65, e66, hc67, R68⟩ := id h5
    refine ol_v (e_len (SlT.sl sl_23) e66) rfl ?_
    refine ol_v (e_eql rfl rfl) rfl ?_
    refine ol_v (e_mv _ rfl) rfl ?_
    refine ol_v (e_mv _ rfl) rfl ?_
    obtain ⟨x69, hx69, hr⟩ := bind_some' hr
    refine ol_e (f_call [(ρ 7), (ρ 1)] fn_17 (lcons rfl (lcons rfl rfl)) (ref3_Ints.calls hW.ok h7 h1 hx69)) rfl rfl ?_
    rintro _ w70 ⟨Fz71, rfl, kw1⟩
    have hW73 := hW.trans kw1
    have st1 := kw1.stp hW.ok
    refine ol_v (e_beql (by kernel_rfl) rfl rfl) rfl ?_
    refine ol_v (e_as _ rfl) rfl ?_
    obtain rfl := Option.some.inj hr
    exact ol_nil ⟨Fz71, hW73, rfl⟩
  exact Ref.ret (fun s ρ w h => ⟨s, rfl, h⟩)
def post (w : World) (F : BSet) (r : R) (v : Value) (w' : World) : Prop := ∃ (F' : BSet), v = .bool r ∧ Wk nrow w F F' w'
theorem calls {w : World} {F : BSet} (hok : ∀ b, F b → b < w.heap.size) {v0 : Value} {a0 : (List Commit)} (h0 : SlR k_Commit F w v0 a0) {v1 : Value} {a1 : (List Int)} (h1 : SlR (kInt .i64) F w v1 a1) {r : R} (hf : f a0 a1 = some r) : Calls Try.prog 6 #[v0, v1] w fun e w' => ∃ v, e = .returned v ∧ post w F r v w' := by
  obtain ⟨c, hc, href⟩ := ref w F
  refine calls_of_ref (args := [v0, v1]) _ Try.func6 hc rfl rfl href ?_ (retOf_some hf) ?_
  · exact ⟨F, Wk.refl hok, h0, h1⟩
  · rintro ρ w' a ⟨s, rfl, F', hW, h4⟩ hF
    refine ⟨_, run_results (rs := [.tmp 4]) rfl hF (vs := [ρ 4]) (⟨_, rfl, rfl⟩), ?_⟩
    have hv : resVal [ρ 4] = .bool s.t_4 := by rw [h4]; rfl
    exact ⟨F', hv, hW⟩
end
end law4_ShallowBoundaryDecides

end Go.Proofs.Ytilodamhgepjoaa
