/- The machine's calls come to these plain functions (written by a program, wip/fx/gen.py). -/
import Derived.Test.YtilodamhgepjoaaP2
import Derived.Test.YtilodamhgepjoaaM1
import Derived.Test.YtilodamhgepjoaaIt
namespace Go.Proofs.Ytilodamhgepjoaa
open Go.Fx Go.RowKit
set_option linter.unusedVariables false

namespace slices_BinarySearch_int_int
section
def G0 (w0 : World) (F0 : BSet) (s : S) (ρ : Env) (w : World) : Prop := ∃ (F : BSet), Wk nrow w0 F0 F w ∧ SlR (kInt .i64) F w (ρ 0) s.x_0 ∧ ρ 1 = .int .i64 s.target_1
def G1 (w0 : World) (F0 : BSet) (s : S) (ρ : Env) (w : World) : Prop := ∃ (F : BSet), Wk nrow w0 F0 F w ∧ SlR (kInt .i64) F w (ρ 0) s.x_0 ∧ ρ 1 = .int .i64 s.target_1 ∧ ρ 6 = .int .i64 s.n_6
def G2 (w0 : World) (F0 : BSet) (s : S) (ρ : Env) (w : World) : Prop := ∃ (F : BSet), Wk nrow w0 F0 F w ∧ SlR (kInt .i64) F w (ρ 0) s.x_0 ∧ ρ 1 = .int .i64 s.target_1 ∧ ρ 6 = .int .i64 s.n_6 ∧ ρ 7 = .int .i64 s.i_7 ∧ ρ 8 = .int .i64 s.j_8
def G3 (w0 : World) (F0 : BSet) (s : S) (ρ : Env) (w : World) : Prop := ∃ (F : BSet), Wk nrow w0 F0 F w ∧ SlR (kInt .i64) F w (ρ 0) s.x_0 ∧ ρ 1 = .int .i64 s.target_1 ∧ ρ 6 = .int .i64 s.n_6 ∧ ρ 7 = .int .i64 s.i_7 ∧ ρ 8 = .int .i64 s.j_8 ∧ ρ 15 = .bool s.t_15
def G4 (w0 : World) (F0 : BSet) (s : S) (ρ : Env) (w : World) : Prop := ∃ (F : BSet), Wk nrow w0 F0 F w ∧ SlR (kInt .i64) F w (ρ 0) s.x_0 ∧ ρ 1 = .int .i64 s.target_1 ∧ ρ 6 = .int .i64 s.n_6 ∧ ρ 7 = .int .i64 s.i_7
def G5 (w0 : World) (F0 : BSet) (s : S) (ρ : Env) (w : World) : Prop := ∃ (F : BSet), Wk nrow w0 F0 F w ∧ SlR (kInt .i64) F w (ρ 0) s.x_0 ∧ ρ 1 = .int .i64 s.target_1 ∧ ρ 6 = .int .i64 s.n_6 ∧ ρ 7 = .int .i64 s.i_7 ∧ ρ 8 = .int .i64 s.j_8 ∧ ρ 9 = .int .i64 s.h_9
def G6 (w0 : World) (F0 : BSet) (s : S) (ρ : Env) (w : World) : Prop := ∃ (F : BSet), Wk nrow w0 F0 F w ∧ SlR (kInt .i64) F w (ρ 0) s.x_0 ∧ ρ 1 = .int .i64 s.target_1 ∧ ρ 6 = .int .i64 s.n_6 ∧ ρ 7 = .int .i64 s.i_7 ∧ ρ 8 = .int .i64 s.j_8 ∧ ρ 9 = .int .i64 s.h_9 ∧ ρ 27 = .bool s.t_27
def G7 (w0 : World) (F0 : BSet) (s : S) (ρ : Env) (w : World) : Prop := ∃ (F : BSet), Wk nrow w0 F0 F w ∧ SlR (kInt .i64) F w (ρ 0) s.x_0 ∧ ρ 1 = .int .i64 s.target_1 ∧ ρ 6 = .int .i64 s.n_6 ∧ ρ 8 = .int .i64 s.j_8 ∧ ρ 9 = .int .i64 s.h_9
def G8 (w0 : World) (F0 : BSet) (s : S) (ρ : Env) (w : World) : Prop := ∃ (F : BSet), Wk nrow w0 F0 F w ∧ SlR (kInt .i64) F w (ρ 0) s.x_0 ∧ ρ 1 = .int .i64 s.target_1 ∧ ρ 6 = .int .i64 s.n_6 ∧ ρ 7 = .int .i64 s.i_7 ∧ ρ 9 = .int .i64 s.h_9
def G9 (w0 : World) (F0 : BSet) (s : S) (ρ : Env) (w : World) : Prop := ∃ (F : BSet), Wk nrow w0 F0 F w ∧ ρ 4 = .int .i64 s.t_4 ∧ ρ 5 = .bool s.t_5
set_option maxHeartbeats 4000000 in
set_option maxRecDepth 20000 in
theorem ref (w0 : World) (F0 : BSet) : ∃ c, Try.f40.body = some c ∧ Ref Try.prog 54 c (G0 w0 F0) body (fun _ _ _ => False) (fun _ _ _ _ => False) (fun r ρ w => ∃ s, retv s = r ∧ G9 w0 F0 s ρ w) := by
  refine ⟨_, rfl, ?_⟩
  unfold body
  refine Ref.seq (B := G0 w0 F0) ?_ ?_
  · refine Ref.region (fun s ρ w s' h hr => ?_)
    obtain ⟨F, hW, h0, h1⟩ := h
    refine ol_v (e_as _ rfl) rfl ?_
    refine ol_v (e_as _ rfl) rfl ?_
    obtain rfl := Option.some.inj hr
    exact ol_nil ⟨F, hW, h0, h1⟩
  refine Ref.seq (B := G1 w0 F0) ?_ ?_
  · refine Ref.region (fun s ρ w s' h hr => ?_)
    obtain ⟨F, hW, h0, h1⟩ := h
    refine ol_v (e_mv _ rfl) rfl ?_
    obtain ⟨A1, c2, e3, hc4, R5⟩ := id h0
    refine ol_v (e_len (SlT.sl sl_23) e3) rfl ?_
    refine ol_v (e_as _ rfl) rfl ?_
    obtain rfl := Option.some.inj hr
    exact ol_nil ⟨F, hW, h0, h1, rfl⟩
  refine Ref.seq (B := G2 w0 F0) ?_ ?_
  · refine Ref.region (fun s ρ w s' h hr => ?_)
    obtain ⟨F, hW, h0, h1, h6⟩ := h
    refine ol_v (e_mv _ h6) rfl ?_
    refine ol_v (e_as _ rfl) rfl ?_
    refine ol_v (e_as _ rfl) rfl ?_
    obtain rfl := Option.some.inj hr
    exact ol_nil ⟨F, hW, h0, h1, h6, rfl, rfl⟩
  refine Ref.seq (B := G4 w0 F0) ?_ ?_
  · refine Ref.block ?_
    refine Ref.loop ?_
    refine Ref.seq (B := G2 w0 F0) ?_ ?_
    · refine Ref.seq (B := G3 w0 F0) ?_ ?_
      · refine Ref.region (fun s ρ w s' h hr => ?_)
        obtain ⟨F, hW, h0, h1, h6, h7, h8⟩ := h
        refine ol_v (e_mv _ h7) rfl ?_
        refine ol_v (e_mv _ h8) rfl ?_
        refine ol_v (e_lss rfl rfl) rfl ?_
        obtain rfl := Option.some.inj hr
        exact ol_nil ⟨F, hW, h0, h1, h6, h7, h8, rfl⟩
      refine Ref.cond (b := fun s => s.t_15) (fun s ρ w ⟨F, hW, h0, h1, h6, h7, h8, h15⟩ => h15) (Ref.pre (A := G2 w0 F0) ?_ (fun s ρ w h => (fun ⟨F, hW, h0, h1, h6, h7, h8, h15⟩ => ⟨F, hW, h0, h1, h6, h7, h8⟩ : G3 w0 F0 s ρ w → G2 w0 F0 s ρ w) h.2)) (Ref.pre (A := G4 w0 F0) ?_ (fun s ρ w h => (fun ⟨F, hW, h0, h1, h6, h7, h8, h15⟩ => ⟨F, hW, h0, h1, h6, h7⟩ : G3 w0 F0 s ρ w → G4 w0 F0 s ρ w) h.2))
      · exact Ref.skip
      · exact Ref.exit (fun s ρ w h => h)
    refine Ref.block ?_
    refine Ref.seq (B := G5 w0 F0) ?_ ?_
    · refine Ref.region (fun s ρ w s' h hr => ?_)
      obtain ⟨F, hW, h0, h1, h6, h7, h8⟩ := h
      refine ol_v (e_mv _ h7) rfl ?_
      refine ol_v (e_mv _ h8) rfl ?_
      refine ol_v (e_add rfl rfl) rfl ?_
      refine ol_v (e_conv (k := .u64) (by kernel_rfl) (by kernel_rfl) rfl) rfl ?_
      refine ol_v (e_shrV rfl rfl (by decide)) rfl ?_
      refine ol_v (e_conv (k := .i64) (by kernel_rfl) (by kernel_rfl) rfl) rfl ?_
      refine ol_v (e_as _ rfl) rfl ?_
      obtain rfl := Option.some.inj hr
      exact ol_nil ⟨F, hW, h0, h1, h6, h7, h8, rfl⟩
    refine Ref.seq (B := G6 w0 F0) ?_ ?_
    · refine Ref.region (fun s ρ w s' h hr => ?_)
      obtain ⟨F, hW, h0, h1, h6, h7, h8, h9⟩ := h
      refine ol_v (e_mv _ rfl) rfl ?_
      refine ol_v (e_mv _ h9) rfl ?_
      obtain ⟨x6, hx6, hr⟩ := bind_some' hr
      obtain ⟨A7, c8, e9, hc10, R11⟩ := id h0
      obtain ⟨b12, o13, hA14, L15⟩ := Row.at_ R11 hx6
      refine ol_v (e_ix (SlT.sl sl_23) (SlT.sz sl_23) hA14 hx6 e9 rfl) rfl ?_
      refine ol_v (e_ld ty_3 (LiesV.int L15.at_) rfl) rfl ?_
      refine ol_v (e_mv _ h1) rfl ?_
      obtain ⟨x16, hx16, hr⟩ := bind_some' hr
      refine ol_e (f_call [.int .i64 x6, .int .i64 s.target_1] fn_48 (lcons rfl (lcons rfl rfl)) (cmp_Less_int.calls hW.ok x6 s.target_1 hx16)) rfl rfl ?_
      rintro _ w17 ⟨Fz18, rfl, kw1⟩
      have hW20 := hW.trans kw1
      have st1 := kw1.stp hW.ok
      obtain rfl := Option.some.inj hr
      exact ol_nil ⟨Fz18, hW20, (h0.keep st1), h1, h6, h7, h8, h9, rfl⟩
    refine Ref.cond (b := fun s => s.t_27) (fun s ρ w ⟨F, hW, h0, h1, h6, h7, h8, h9, h27⟩ => h27) (Ref.pre (A := G7 w0 F0) ?_ (fun s ρ w h => (fun ⟨F, hW, h0, h1, h6, h7, h8, h9, h27⟩ => ⟨F, hW, h0, h1, h6, h8, h9⟩ : G6 w0 F0 s ρ w → G7 w0 F0 s ρ w) h.2)) (Ref.pre (A := G8 w0 F0) ?_ (fun s ρ w h => (fun ⟨F, hW, h0, h1, h6, h7, h8, h9, h27⟩ => ⟨F, hW, h0, h1, h6, h7, h9⟩ : G6 w0 F0 s ρ w → G8 w0 F0 s ρ w) h.2))
    · refine Ref.region (fun s ρ w s' h hr => ?_)
      obtain ⟨F, hW, h0, h1, h6, h8, h9⟩ := h
      refine ol_v (e_mv _ h9) rfl ?_
      refine ol_v (e_add rfl rfl) rfl ?_
      refine ol_v (e_as _ rfl) rfl ?_
      obtain rfl := Option.some.inj hr
      exact ol_nil ⟨F, hW, h0, h1, h6, rfl, h8⟩
    · refine Ref.region (fun s ρ w s' h hr => ?_)
      obtain ⟨F, hW, h0, h1, h6, h7, h9⟩ := h
      refine ol_v (e_mv _ h9) rfl ?_
      refine ol_v (e_as _ rfl) rfl ?_
      obtain rfl := Option.some.inj hr
      exact ol_nil ⟨F, hW, h0, h1, h6, h7, rfl⟩
  refine Ref.seq (B := G9 w0 F0) ?_ ?_
  · refine Ref.region (fun s ρ w s' h hr => ?_)
    obtain ⟨F, hW, h0, h1, h6, h7⟩ := h
    refine ol_v (e_mv _ h7) rfl ?_
    refine ol_v (e_mv _ h7) rfl ?_
    refine ol_v (e_mv _ h6) rfl ?_
    refine ol_v (e_lss rfl rfl) rfl ?_
    obtain ⟨x67, hx68, hr⟩ := bind_some' hr
    refine ol_cutA 19 35 53 (fun ρ' w' => ∃ F', Wk nrow w F F' w' ∧ ρ' 53 = .bool x67) rfl ?_ ?_
    · by_cases hb21 : (decide (s.i_7 < s.n_6)) = true
      · have hr := hx68
        rw [if_pos hb21] at hr
        refine ol_v (e_mv _ rfl) rfl ?_
        refine ol_yes rfl rfl (congrArg Value.bool hb21) ?_
        refine ol_v (e_mv _ rfl) rfl ?_
        refine ol_yes rfl rfl (congrArg Value.bool hb21) ?_
        refine ol_v (e_mv _ h7) rfl ?_
        refine ol_yes rfl rfl (congrArg Value.bool hb21) ?_
        obtain ⟨x23, hx23, hr⟩ := bind_some' hr
        obtain ⟨A24, c25, e26, hc27, R28⟩ := id h0
        obtain ⟨b29, o30, hA31, L32⟩ := Row.at_ R28 hx23
        refine ol_v (e_ix (SlT.sl sl_23) (SlT.sz sl_23) hA31 hx23 e26 rfl) rfl ?_
        refine ol_yes rfl rfl (congrArg Value.bool hb21) ?_
        refine ol_v (e_ld ty_3 (LiesV.int L32.at_) rfl) rfl ?_
        refine ol_yes rfl rfl (congrArg Value.bool hb21) ?_
        refine ol_v (e_mv _ h1) rfl ?_
        refine ol_yes rfl rfl (congrArg Value.bool hb21) ?_
        refine ol_v (e_eql rfl rfl) rfl ?_
        refine ol_yes rfl rfl (congrArg Value.bool hb21) ?_
        obtain ⟨x62, hx63, hr⟩ := bind_some' hr
        refine ol_cutA 11 42 52 (fun ρ' w' => ∃ F', Wk nrow w F F' w' ∧ ρ' 52 = .bool x62) rfl ?_ ?_
        · by_cases hb33 : (decide (x23 = s.target_1)) = true
          · have hr := hx63
            rw [if_pos hb33] at hr
            refine ol_v (e_mv _ rfl) rfl ?_
            refine ol_not rfl rfl rfl (congrArg Value.bool hb33) rfl ?_
            refine ol_not rfl rfl rfl (congrArg Value.bool hb33) rfl ?_
            refine ol_not rfl rfl rfl (congrArg Value.bool hb33) rfl ?_
            refine ol_not rfl rfl rfl (congrArg Value.bool hb33) rfl ?_
            refine ol_not rfl rfl rfl (congrArg Value.bool hb33) rfl ?_
            refine ol_not rfl rfl rfl (congrArg Value.bool hb33) rfl ?_
            refine ol_notU rfl rfl rfl rfl ?_
            refine ol_notU rfl rfl rfl rfl ?_
            refine ol_not rfl rfl rfl (congrArg Value.bool hb33) rfl ?_
            refine ol_yes rfl rfl (congrArg Value.bool hb21) ?_
            refine ol_v (e_pick true _ (congrArg Value.bool hb33) rfl) rfl ?_
            exact ol_nil ⟨⟨_, Wk.refl hW.ok, (congrArg Value.bool (Option.some.inj hr))⟩, ((((((((((((Agr.refl _ _ _).upd rfl rfl).upd rfl rfl).upd rfl rfl).upd rfl rfl).upd rfl rfl).upd rfl rfl).upd rfl rfl).upd rfl rfl).upd rfl rfl).upd rfl rfl).upd rfl rfl)⟩
          · have hb34 := Bool.eq_false_iff.mpr hb33
            have hr := hx63
            rw [if_neg hb33] at hr
            refine ol_v (e_mv _ rfl) rfl ?_
            refine ol_yes rfl rfl (congrArg Value.bool hb34) ?_
            refine ol_v (e_mv _ rfl) rfl ?_
            refine ol_yes rfl rfl (congrArg Value.bool hb34) ?_
            refine ol_v (e_mv _ h7) rfl ?_
            refine ol_yes rfl rfl (congrArg Value.bool hb34) ?_
            obtain ⟨x35, hx35, hr⟩ := bind_some' hr
            obtain ⟨A36, c37, e38, hc39, R40⟩ := id h0
            obtain ⟨b41, o42, hA43, L44⟩ := Row.at_ R40 hx35
            refine ol_v (e_ix (SlT.sl sl_23) (SlT.sz sl_23) hA43 hx35 e38 rfl) rfl ?_
            refine ol_yes rfl rfl (congrArg Value.bool hb34) ?_
            refine ol_v (e_ld ty_3 (LiesV.int L44.at_) rfl) rfl ?_
            refine ol_yes rfl rfl (congrArg Value.bool hb34) ?_
            obtain ⟨x45, hx45, hr⟩ := bind_some' hr
            refine ol_e (f_call [.int .i64 x35] fn_49 (lcons rfl rfl) (slices_isNaN_int.calls hW.ok x35 hx45)) rfl rfl ?_
            rintro _ w46 ⟨Fz47, rfl, kw1⟩
            have hW49 := hW.trans kw1
            have st1 := kw1.stp hW.ok
            refine ol_yes rfl rfl (congrArg Value.bool hb34) ?_
            obtain ⟨x57, hx58, hr⟩ := bind_some' hr
            refine ol_cutA 4 48 51 (fun ρ' w' => ∃ F', Wk nrow w46 Fz47 F' w' ∧ ρ' 51 = .bool x57) rfl ?_ ?_
            · by_cases hb50 : x45 = true
              · have hr := hx58
                rw [if_pos hb50] at hr
                refine ol_v (e_mv _ rfl) rfl ?_
                refine ol_yes rfl rfl (congrArg Value.bool hb50) ?_
                refine ol_v (e_mv _ h1) rfl ?_
                refine ol_yes rfl rfl (congrArg Value.bool hb50) ?_
                obtain ⟨x52, hx52, hr⟩ := bind_some' hr
                refine ol_e (f_call [.int .i64 s.target_1] fn_49 (lcons rfl rfl) (slices_isNaN_int.calls hW49.ok s.target_1 hx52)) rfl rfl ?_
                rintro _ w53 ⟨Fz54, rfl, kw2⟩
                have hW56 := hW49.trans kw2
                have st2 := kw2.stp hW49.ok
                refine ol_yes rfl rfl (congrArg Value.bool hb34) ?_
                refine ol_v (e_pick true _ (congrArg Value.bool hb50) rfl) rfl ?_
                exact ol_nil ⟨⟨_, kw2, (congrArg Value.bool (Option.some.inj hr))⟩, (((((Agr.refl _ _ _).upd rfl rfl).upd rfl rfl).upd rfl rfl).upd rfl rfl)⟩
              · have hb51 := Bool.eq_false_iff.mpr hb50
                have hr := hx58
                rw [if_neg hb50] at hr
                refine ol_v (e_mv _ rfl) rfl ?_
                refine ol_not rfl rfl rfl (congrArg Value.bool hb51) rfl ?_
                refine ol_not rfl rfl rfl (congrArg Value.bool hb51) rfl ?_
                refine ol_yes rfl rfl (congrArg Value.bool hb34) ?_
                refine ol_v (e_pick false _ (congrArg Value.bool hb51) rfl) rfl ?_
                exact ol_nil ⟨⟨_, Wk.refl hW49.ok, (congrArg Value.bool (Option.some.inj hr))⟩, (((((Agr.refl _ _ _).upd rfl rfl).upd rfl rfl).upd rfl rfl).upd rfl rfl)⟩
            rintro ρ58 w59 ⟨⟨Fz60, kw2, hp58⟩, hAg58⟩
            have hW61 := hW49.trans kw2
            have st2 := kw2.stp hW49.ok
            refine ol_yes rfl rfl ((hAg58 35 rfl).trans (congrArg Value.bool hb21)) ?_
            refine ol_v (e_pick false _ ((hAg58 42 rfl).trans (congrArg Value.bool hb34)) hp58) rfl ?_
            exact ol_nil ⟨⟨_, (kw1.trans kw2), (congrArg Value.bool (Option.some.inj hr))⟩, (((((((((Agr.refl _ _ _).upd rfl rfl).upd rfl rfl).upd rfl rfl).upd rfl rfl).upd rfl rfl).upd rfl rfl).into hAg58 rfl rfl).upd rfl rfl)⟩
        rintro ρ63 w64 ⟨⟨Fz65, kw1, hp63⟩, hAg63⟩
        have hW66 := hW.trans kw1
        have st1 := kw1.stp hW.ok
        refine ol_v (e_pick true _ ((hAg63 35 rfl).trans (congrArg Value.bool hb21)) hp63) rfl ?_
        exact ol_nil ⟨⟨_, kw1, (congrArg Value.bool (Option.some.inj hr))⟩, ((((((((((Agr.refl _ _ _).upd rfl rfl).upd rfl rfl).upd rfl rfl).upd rfl rfl).upd rfl rfl).upd rfl rfl).upd rfl rfl).into hAg63 rfl rfl).upd rfl rfl)⟩
      · have hb22 := Bool.eq_false_iff.mpr hb21
        have hr := hx68
        rw [if_neg hb21] at hr
        refine ol_v (e_mv _ rfl) rfl ?_
        refine ol_not rfl rfl rfl (congrArg Value.bool hb22) rfl ?_
        refine ol_not rfl rfl rfl (congrArg Value.bool hb22) rfl ?_
        refine ol_not rfl rfl rfl (congrArg Value.bool hb22) rfl ?_
        refine ol_not rfl rfl rfl (congrArg Value.bool hb22) rfl ?_
        refine ol_not rfl rfl rfl (congrArg Value.bool hb22) rfl ?_
        refine ol_not rfl rfl rfl (congrArg Value.bool hb22) rfl ?_
        refine ol_not rfl rfl rfl (congrArg Value.bool hb22) rfl ?_
        refine ol_notU rfl rfl rfl rfl ?_
        refine ol_notU rfl rfl rfl rfl ?_
        refine ol_notU rfl rfl rfl rfl ?_
        refine ol_notU rfl rfl rfl rfl ?_
        refine ol_notU rfl rfl rfl rfl ?_
        refine ol_notU rfl rfl rfl rfl ?_
        refine ol_notU rfl rfl rfl rfl ?_
        refine ol_notU rfl rfl rfl rfl ?_
        refine ol_notU rfl rfl rfl rfl ?_
        refine ol_not rfl rfl rfl (congrArg Value.bool hb22) rfl ?_
        refine ol_v (e_pick false _ (congrArg Value.bool hb22) rfl) rfl ?_
        exact ol_nil ⟨⟨_, Wk.refl hW.ok, (congrArg Value.bool (Option.some.inj hr))⟩, ((((((((((((((((((((Agr.refl _ _ _).upd rfl rfl).upd rfl rfl).upd rfl rfl).upd rfl rfl).upd rfl rfl).upd rfl rfl).upd rfl rfl).upd rfl rfl).upd rfl rfl).upd rfl rfl).upd rfl rfl).upd rfl rfl).upd rfl rfl).upd rfl rfl).upd rfl rfl).upd rfl rfl).upd rfl rfl).upd rfl rfl).upd rfl rfl)⟩
    rintro ρ68 w69 ⟨⟨Fz70, kw1, hp68⟩, hAg68⟩
    have hW71 := hW.trans kw1
    have st1 := kw1.stp hW.ok
    refine ol_v (e_as _ (hAg68 31 rfl)) rfl ?_
    refine ol_v (e_as _ hp68) rfl ?_
    obtain rfl := Option.some.inj hr
    exact ol_nil ⟨Fz70, hW71, rfl, rfl⟩
  exact Ref.ret (fun s ρ w h => ⟨s, rfl, h⟩)
def post (w : World) (F : BSet) (r : R) (v : Value) (w' : World) : Prop := ∃ (F' : BSet), v = .tuple #[.int .i64 r.1, .bool r.2] ∧ Wk nrow w F F' w'
theorem calls {w : World} {F : BSet} (hok : ∀ b, F b → b < w.heap.size) {v0 : Value} {a0 : (List Int)} (h0 : SlR (kInt .i64) F w v0 a0) (a1 : Int) {r : R} (hf : f a0 a1 = some r) : Calls Try.prog 40 #[v0, .int .i64 a1] w fun e w' => ∃ v, e = .returned v ∧ post w F r v w' := by
  obtain ⟨c, hc, href⟩ := ref w F
  refine calls_of_ref (args := [v0, .int .i64 a1]) _ Try.func40 hc rfl rfl href ?_ (retOf_some hf) ?_
  · exact ⟨F, Wk.refl hok, h0, rfl⟩
  · rintro ρ w' a ⟨s, rfl, F', hW, h4, h5⟩ hF
    refine ⟨_, run_results (rs := [.tmp 4, .tmp 5]) rfl hF (vs := [ρ 4, ρ 5]) (⟨_, rfl, ⟨_, rfl, rfl⟩⟩), ?_⟩
    have hv : resVal [ρ 4, ρ 5] = .tuple #[.int .i64 s.t_4, .bool s.t_5] := by rw [h4, h5]; rfl
    exact ⟨F', hv, hW⟩
end
end slices_BinarySearch_int_int

namespace shallow_Boundary
section
def G0 (w0 : World) (F0 : BSet) (s : S) (ρ : Env) (w : World) : Prop := ∃ (F : BSet), Wk nrow w0 F0 F w ∧ SlR k_Commit F w (ρ 0) s.commits_0 ∧ SlR (kInt .i64) F w (ρ 1) s.numbers_1
def G1 (w0 : World) (F0 : BSet) (s : S) (ρ : Env) (w : World) : Prop := ∃ (F : BSet), Wk nrow w0 F0 F w ∧ ∃ (g5 : Nat), SlR k_Commit F w (ρ 0) s.commits_0 ∧ SlR (kInt .i64) F w (ρ 1) s.numbers_1 ∧ ρ 5 = .pointer (some ⟨g5, 0, none⟩) ∧ Box k_Fault 26 (Bs w0 nrow) F w g5 s.t_5
def G2 (w0 : World) (F0 : BSet) (s : S) (ρ : Env) (w : World) : Prop := ∃ (F : BSet), Wk nrow w0 F0 F w ∧ ∃ (g5 : Nat) (g6 : Nat), SlR k_Commit F w (ρ 0) s.commits_0 ∧ SlR (kInt .i64) F w (ρ 1) s.numbers_1 ∧ ρ 5 = .pointer (some ⟨g5, 0, none⟩) ∧ Box k_Fault 26 (Bs w0 nrow) F w g5 s.t_5 ∧ ρ 6 = .pointer (some ⟨g6, 0, none⟩) ∧ Box k_Fault 26 (Bs w0 nrow) F w g6 s.f_6 ∧ Apart (some g5) (some g6)
def G3 (w0 : World) (F0 : BSet) (s : S) (ρ : Env) (w : World) : Prop := ∃ (F : BSet), Wk nrow w0 F0 F w ∧ ∃ (g5 : Nat) (g6 : Nat), SlR k_Commit F w (ρ 0) s.commits_0 ∧ SlR (kInt .i64) F w (ρ 1) s.numbers_1 ∧ ρ 5 = .pointer (some ⟨g5, 0, none⟩) ∧ Box k_Fault 26 (Bs w0 nrow) F w g5 s.t_5 ∧ ρ 6 = .pointer (some ⟨g6, 0, none⟩) ∧ Box k_Fault 26 (Bs w0 nrow) F w g6 s.f_6 ∧ ρ 19 = .bool s.t_19 ∧ Apart (some g5) (some g6)
def G4 (w0 : World) (F0 : BSet) (s : S) (ρ : Env) (w : World) : Prop := ∃ (F : BSet), Wk nrow w0 F0 F w ∧ ∃ (g5 : Nat) (g6 : Nat), ρ 5 = .pointer (some ⟨g5, 0, none⟩) ∧ Box k_Fault 26 (Bs w0 nrow) F w g5 s.t_5 ∧ ρ 6 = .pointer (some ⟨g6, 0, none⟩) ∧ Box k_Fault 26 (Bs w0 nrow) F w g6 s.f_6 ∧ Apart (some g5) (some g6)
def G5 (w0 : World) (F0 : BSet) (s : S) (ρ : Env) (w : World) : Prop := ∃ (F : BSet), Wk nrow w0 F0 F w ∧ ∃ (g5 : Nat), OwnV (kInt .i64) 3 (Bs w0 nrow) F w (ρ 4) s.t_4 ∧ ρ 5 = .pointer (some ⟨g5, 0, none⟩) ∧ Box k_Fault 26 (Bs w0 nrow) F w g5 s.t_5
def G6 (w0 : World) (F0 : BSet) (s : S) (ρ : Env) (w : World) : Prop := ∃ (F : BSet), Wk nrow w0 F0 F w ∧ ∃ (g5 : Nat), SlR k_Commit F w (ρ 0) s.commits_0 ∧ SlR (kInt .i64) F w (ρ 1) s.numbers_1 ∧ ρ 5 = .pointer (some ⟨g5, 0, none⟩) ∧ Box k_Fault 26 (Bs w0 nrow) F w g5 s.t_5 ∧ OwnV (kInt .i64) 3 (Bs w0 nrow) F w (ρ 7) s.out_7
def G7 (w0 : World) (F0 : BSet) (s : S) (ρ : Env) (w : World) : Prop := ∃ (F : BSet), Wk nrow w0 F0 F w ∧ ∃ (g5 : Nat), SlR k_Commit F w (ρ 0) s.commits_0 ∧ SlR (kInt .i64) F w (ρ 1) s.numbers_1 ∧ ρ 5 = .pointer (some ⟨g5, 0, none⟩) ∧ Box k_Fault 26 (Bs w0 nrow) F w g5 s.t_5 ∧ OwnV (kInt .i64) 3 (Bs w0 nrow) F w (ρ 7) s.out_7 ∧ SlR (kInt .i64) F w (ρ 21) s.t_21 ∧ ρ 22 = .int .i64 s.t_22 ∧ ρ 23 = .int .i64 s.t_23
def G8 (w0 : World) (F0 : BSet) (s : S) (ρ : Env) (w : World) : Prop := ∃ (F : BSet), Wk nrow w0 F0 F w ∧ ∃ (g5 : Nat), SlR k_Commit F w (ρ 0) s.commits_0 ∧ SlR (kInt .i64) F w (ρ 1) s.numbers_1 ∧ ρ 5 = .pointer (some ⟨g5, 0, none⟩) ∧ Box k_Fault 26 (Bs w0 nrow) F w g5 s.t_5 ∧ OwnV (kInt .i64) 3 (Bs w0 nrow) F w (ρ 7) s.out_7 ∧ SlR (kInt .i64) F w (ρ 21) s.t_21 ∧ ρ 22 = .int .i64 s.t_22 ∧ ρ 23 = .int .i64 s.t_23 ∧ ρ 24 = .bool s.t_24
def G9 (w0 : World) (F0 : BSet) (s : S) (ρ : Env) (w : World) : Prop := ∃ (F : BSet), Wk nrow w0 F0 F w ∧ ∃ (g5 : Nat), ρ 5 = .pointer (some ⟨g5, 0, none⟩) ∧ Box k_Fault 26 (Bs w0 nrow) F w g5 s.t_5 ∧ OwnV (kInt .i64) 3 (Bs w0 nrow) F w (ρ 7) s.out_7
def G10 (w0 : World) (F0 : BSet) (s : S) (ρ : Env) (w : World) : Prop := ∃ (F : BSet), Wk nrow w0 F0 F w ∧ ∃ (g5 : Nat), SlR k_Commit F w (ρ 0) s.commits_0 ∧ SlR (kInt .i64) F w (ρ 1) s.numbers_1 ∧ ρ 5 = .pointer (some ⟨g5, 0, none⟩) ∧ Box k_Fault 26 (Bs w0 nrow) F w g5 s.t_5 ∧ OwnV (kInt .i64) 3 (Bs w0 nrow) F w (ρ 7) s.out_7 ∧ ρ 9 = .int .i64 s.n_9 ∧ SlR (kInt .i64) F w (ρ 21) s.t_21 ∧ ρ 22 = .int .i64 s.t_22 ∧ ρ 23 = .int .i64 s.t_23
def G11 (w0 : World) (F0 : BSet) (s : S) (ρ : Env) (w : World) : Prop := ∃ (F : BSet), Wk nrow w0 F0 F w ∧ ∃ (g5 : Nat), SlR k_Commit F w (ρ 0) s.commits_0 ∧ SlR (kInt .i64) F w (ρ 1) s.numbers_1 ∧ ρ 5 = .pointer (some ⟨g5, 0, none⟩) ∧ Box k_Fault 26 (Bs w0 nrow) F w g5 s.t_5 ∧ OwnV (kInt .i64) 3 (Bs w0 nrow) F w (ρ 7) s.out_7 ∧ ρ 9 = .int .i64 s.n_9 ∧ SlR (kInt .i64) F w (ρ 21) s.t_21 ∧ ρ 22 = .int .i64 s.t_22 ∧ ρ 23 = .int .i64 s.t_23 ∧ SlR (kInt .i64) F w (ρ 31) s.t_31 ∧ ρ 32 = .int .i64 s.t_32 ∧ ρ 33 = .int .i64 s.t_33
def G12 (w0 : World) (F0 : BSet) (s : S) (ρ : Env) (w : World) : Prop := ∃ (F : BSet), Wk nrow w0 F0 F w ∧ ∃ (g5 : Nat), SlR k_Commit F w (ρ 0) s.commits_0 ∧ SlR (kInt .i64) F w (ρ 1) s.numbers_1 ∧ ρ 5 = .pointer (some ⟨g5, 0, none⟩) ∧ Box k_Fault 26 (Bs w0 nrow) F w g5 s.t_5 ∧ OwnV (kInt .i64) 3 (Bs w0 nrow) F w (ρ 7) s.out_7 ∧ ρ 9 = .int .i64 s.n_9 ∧ SlR (kInt .i64) F w (ρ 21) s.t_21 ∧ ρ 22 = .int .i64 s.t_22 ∧ ρ 23 = .int .i64 s.t_23 ∧ SlR (kInt .i64) F w (ρ 31) s.t_31 ∧ ρ 32 = .int .i64 s.t_32 ∧ ρ 33 = .int .i64 s.t_33 ∧ ρ 34 = .bool s.t_34
def G13 (w0 : World) (F0 : BSet) (s : S) (ρ : Env) (w : World) : Prop := ∃ (F : BSet), Wk nrow w0 F0 F w ∧ ∃ (g5 : Nat), SlR k_Commit F w (ρ 0) s.commits_0 ∧ SlR (kInt .i64) F w (ρ 1) s.numbers_1 ∧ ρ 5 = .pointer (some ⟨g5, 0, none⟩) ∧ Box k_Fault 26 (Bs w0 nrow) F w g5 s.t_5 ∧ OwnV (kInt .i64) 3 (Bs w0 nrow) F w (ρ 7) s.out_7 ∧ ρ 9 = .int .i64 s.n_9 ∧ ρ 11 = .int .i64 s.p_11 ∧ SlR (kInt .i64) F w (ρ 21) s.t_21 ∧ ρ 22 = .int .i64 s.t_22 ∧ ρ 23 = .int .i64 s.t_23 ∧ SlR (kInt .i64) F w (ρ 31) s.t_31 ∧ ρ 32 = .int .i64 s.t_32 ∧ ρ 33 = .int .i64 s.t_33
def G14 (w0 : World) (F0 : BSet) (s : S) (ρ : Env) (w : World) : Prop := ∃ (F : BSet), Wk nrow w0 F0 F w ∧ ∃ (g5 : Nat), SlR k_Commit F w (ρ 0) s.commits_0 ∧ SlR (kInt .i64) F w (ρ 1) s.numbers_1 ∧ ρ 5 = .pointer (some ⟨g5, 0, none⟩) ∧ Box k_Fault 26 (Bs w0 nrow) F w g5 s.t_5 ∧ OwnV (kInt .i64) 3 (Bs w0 nrow) F w (ρ 7) s.out_7 ∧ ρ 9 = .int .i64 s.n_9 ∧ ρ 13 = .bool s.there_13 ∧ SlR (kInt .i64) F w (ρ 21) s.t_21 ∧ ρ 22 = .int .i64 s.t_22 ∧ ρ 23 = .int .i64 s.t_23 ∧ SlR (kInt .i64) F w (ρ 31) s.t_31 ∧ ρ 32 = .int .i64 s.t_32 ∧ ρ 33 = .int .i64 s.t_33
def G15 (w0 : World) (F0 : BSet) (s : S) (ρ : Env) (w : World) : Prop := ∃ (F : BSet), Wk nrow w0 F0 F w ∧ ∃ (g5 : Nat), SlR k_Commit F w (ρ 0) s.commits_0 ∧ SlR (kInt .i64) F w (ρ 1) s.numbers_1 ∧ ρ 5 = .pointer (some ⟨g5, 0, none⟩) ∧ Box k_Fault 26 (Bs w0 nrow) F w g5 s.t_5 ∧ OwnV (kInt .i64) 3 (Bs w0 nrow) F w (ρ 7) s.out_7 ∧ ρ 9 = .int .i64 s.n_9 ∧ SlR (kInt .i64) F w (ρ 21) s.t_21 ∧ ρ 22 = .int .i64 s.t_22 ∧ ρ 23 = .int .i64 s.t_23 ∧ SlR (kInt .i64) F w (ρ 31) s.t_31 ∧ ρ 32 = .int .i64 s.t_32 ∧ ρ 33 = .int .i64 s.t_33 ∧ ρ 44 = .bool s.t_44
set_option maxHeartbeats 4000000 in
set_option maxRecDepth 20000 in
theorem ref (w0 : World) (F0 : BSet) : ∃ c, Try.f19.body = some c ∧ Ref Try.prog 53 c (G0 w0 F0) body (fun _ _ _ => False) (fun _ _ _ _ => False) (fun r ρ w => ∃ s, retv s = r ∧ G5 w0 F0 s ρ w) := by
  refine ⟨_, rfl, ?_⟩
  unfold body
  refine Ref.seq (B := G1 w0 F0) ?_ ?_
  · refine Ref.region (fun s ρ w s' h hr => ?_)
    obtain ⟨F, hW, h0, h1⟩ := h
    refine ol_v (e_as _ rfl) rfl ?_
    refine ol_e (f_alloc zer_26 hW) rfl rfl ?_
    rintro _ w2 ⟨g1, rfl, kw1, ho3⟩
    have hW4 := hW.trans kw1
    have st1 := kw1.stp hW.ok
    obtain rfl := Option.some.inj hr
    exact ol_nil ⟨F, hW4, g1, (h0.keep st1), (h1.keep st1), rfl, (ho3.base (row := nrow) hW.le)⟩
  refine Ref.seq (B := G1 w0 F0) ?_ ?_
  · refine Ref.seq (B := G2 w0 F0) ?_ ?_
    · refine Ref.region (fun s ρ w s' h hr => ?_)
      obtain ⟨F, hW, g5, h0, h1, p5, h5⟩ := h
      refine ol_v (e_mv _ rfl) rfl ?_
      refine ol_v (e_mv _ rfl) rfl ?_
      obtain ⟨x5, hx5, hr⟩ := bind_some' hr
      refine ol_e (f_call [(ρ 0), (ρ 1)] fn_39 (lcons rfl (lcons rfl rfl)) (shallow_check.calls hW.ok h0 h1 hx5)) rfl rfl ?_
      rintro v8 w6 ⟨Fz7, _, rfl, kw1, hk9⟩
      have hW11 := hW.trans kw1
      have st1 := kw1.stp hW.ok
      refine ol_e (f_alloc zer_26 hW11) rfl rfl ?_
      rintro _ w13 ⟨g12, rfl, kw2, ho14⟩
      have hW15 := hW11.trans kw2
      have st2 := kw2.stp hW11.ok
      refine ol_eN (f_stB hW15 (ho14.base (row := nrow) hW11.le) (FldS.whole _) ty_26 (hk9.keep st2) rfl rfl) rfl ?_
      rintro - w16 ⟨hW17, ho18, hg3, st3⟩
      obtain rfl := Option.some.inj hr
      exact ol_nil ⟨Fz7, hW17, g5, g12, (h0.keep (st1.trans (st2.trans st3))), (h1.keep (st1.trans (st2.trans st3))), p5, (((h5.wk kw1 hW.ok).wk kw2 hW11.ok).mut (Apart.base (fun _ e_ => by cases e_; exact ho14.ge) (h5.wk kw1 hW.ok).ltw) hg3 st3), rfl, ho18, (Apart.base (fun _ e_ => by cases e_; exact ho14.ge) (h5.wk kw1 hW.ok).ltw).symm⟩
    refine Ref.seq (B := G3 w0 F0) ?_ ?_
    · refine Ref.region (fun s ρ w s' h hr => ?_)
      obtain ⟨F, hW, g5, g6, h0, h1, p5, h5, p6, h6, a5b_6b⟩ := h
      obtain ⟨v19, hl20⟩ := LiesAt.v (h6).at_
      refine ol_v (e_ld ty_26 hl20 p6) rfl ?_
      refine ol_v (e_bld (cells := #[.int .i64 0, .int .i64 0]) bld_26 (vs := []) rfl rfl) rfl ?_
      have hb21 : Val k_Fault F w (.agg #[.int .i64 0, .int .i64 0]) (⟨(0 : Int), (0 : Int)⟩ : Fault) := mk_Fault (val_int _ _) (val_int _ _)
      refine ol_v (e_tneq (eq_Fault_26 hl20.val hb21) rfl rfl) rfl ?_
      obtain rfl := Option.some.inj hr
      exact ol_nil ⟨F, hW, g5, g6, h0, h1, p5, h5, p6, h6, rfl, a5b_6b⟩
    refine Ref.cond (b := fun s => s.t_19) (fun s ρ w ⟨F, hW, g5, g6, h0, h1, p5, h5, p6, h6, h19, a5b_6b⟩ => h19) (Ref.pre (A := G4 w0 F0) ?_ (fun s ρ w h => (fun ⟨F, hW, g5, g6, h0, h1, p5, h5, p6, h6, h19, a5b_6b⟩ => ⟨F, hW, g5, g6, p5, h5, p6, h6, a5b_6b⟩ : G3 w0 F0 s ρ w → G4 w0 F0 s ρ w) h.2)) (Ref.pre (A := G1 w0 F0) ?_ (fun s ρ w h => (fun ⟨F, hW, g5, g6, h0, h1, p5, h5, p6, h6, h19, a5b_6b⟩ => ⟨F, hW, g5, h0, h1, p5, h5⟩ : G3 w0 F0 s ρ w → G1 w0 F0 s ρ w) h.2))
    · refine Ref.seq (B := G5 w0 F0) ?_ ?_
      · refine Ref.regionD 2 (by kernel_rfl) (by kernel_rfl) (fun s ρ w ⟨F, hW, g5, g6, p5, h5, p6, h6, a5b_6b⟩ => ⟨F, hW.drewS, g5, g6, p5, h5.wk (Wk.drew (row := nrow) hW.ok) hW.ok, p6, h6.wk (Wk.drew (row := nrow) hW.ok) hW.ok, a5b_6b⟩) (fun s ρ w s' h hr => ?_)
        obtain ⟨F, hW, g5, g6, p5, h5, p6, h6, a5b_6b⟩ := h
        obtain ⟨v22, hl23⟩ := LiesAt.v (h6).at_
        refine ol_v (e_ld ty_26 hl23 p6) rfl ?_
        refine ol_v (e_as _ rfl) rfl ?_
        refine ol_eN (f_stB hW h5 (FldS.whole _) ty_26 hl23.val p5 rfl) rfl ?_
        rintro - w24 ⟨hW25, ho26, hg1, st1⟩
        obtain rfl := Option.some.inj hr
        exact ol_nil ⟨F, hW25, g5, ((OwnV.nil (kInt .i64) 3 (Bs w0 nrow) F w).mut (apart_bo h5 (OwnV.nil (kInt .i64) 3 (Bs w0 nrow) F w) rfl) hg1 st1), p5, ho26⟩
      exact Ref.ret (fun s ρ w h => ⟨s, rfl, h⟩)
    · exact Ref.skip
  refine Ref.seq (B := G6 w0 F0) ?_ ?_
  · refine Ref.region (fun s ρ w s' h hr => ?_)
    obtain ⟨F, hW, g5, h0, h1, p5, h5⟩ := h
    refine ol_v (e_as _ rfl) rfl ?_
    obtain rfl := Option.some.inj hr
    exact ol_nil ⟨F, hW, g5, h0, h1, p5, h5, (OwnV.nil (kInt .i64) 3 (Bs w0 nrow) F w)⟩
  refine Ref.seq (B := G9 w0 F0) ?_ ?_
  · refine Ref.seq (B := G7 w0 F0) ?_ ?_
    · refine Ref.region (fun s ρ w s' h hr => ?_)
      obtain ⟨F, hW, g5, h0, h1, p5, h5, h7⟩ := h
      refine ol_v (e_mv _ rfl) rfl ?_
      obtain ⟨A27, c28, e29, hc30, R31⟩ := id h1
      refine ol_v (e_len (SlT.sl sl_23) e29) rfl ?_
      refine ol_v (e_mv _ rfl) rfl ?_
      obtain rfl := Option.some.inj hr
      exact ol_nil ⟨F, hW, g5, h0, h1, p5, h5, h7, h1, rfl, rfl⟩
    refine Ref.block ?_
    refine Ref.loop ?_
    refine Ref.seq (B := G8 w0 F0) ?_ ?_
    · refine Ref.region (fun s ρ w s' h hr => ?_)
      obtain ⟨F, hW, g5, h0, h1, p5, h5, h7, h21, h22, h23⟩ := h
      refine ol_v (e_lss h23 h22) rfl ?_
      obtain rfl := Option.some.inj hr
      exact ol_nil ⟨F, hW, g5, h0, h1, p5, h5, h7, h21, h22, h23, rfl⟩
    refine Ref.seq (B := G7 w0 F0) ?_ ?_
    · refine Ref.cond (b := fun s => s.t_24) (fun s ρ w ⟨F, hW, g5, h0, h1, p5, h5, h7, h21, h22, h23, h24⟩ => h24) (Ref.pre (A := G7 w0 F0) ?_ (fun s ρ w h => (fun ⟨F, hW, g5, h0, h1, p5, h5, h7, h21, h22, h23, h24⟩ => ⟨F, hW, g5, h0, h1, p5, h5, h7, h21, h22, h23⟩ : G8 w0 F0 s ρ w → G7 w0 F0 s ρ w) h.2)) (Ref.pre (A := G9 w0 F0) ?_ (fun s ρ w h => (fun ⟨F, hW, g5, h0, h1, p5, h5, h7, h21, h22, h23, h24⟩ => ⟨F, hW, g5, p5, h5, h7⟩ : G8 w0 F0 s ρ w → G9 w0 F0 s ρ w) h.2))
      · exact Ref.skip
      · exact Ref.exit (fun s ρ w h => h)
    refine Ref.seq (B := G7 w0 F0) ?_ ?_
    · refine Ref.block ?_
      refine Ref.seq (B := G10 w0 F0) ?_ ?_
      · refine Ref.region (fun s ρ w s' h hr => ?_)
        obtain ⟨F, hW, g5, h0, h1, p5, h5, h7, h21, h22, h23⟩ := h
        obtain ⟨x32, hx32, hr⟩ := bind_some' hr
        obtain ⟨A33, c34, e35, hc36, R37⟩ := id h21
        obtain ⟨b38, o39, hA40, L41⟩ := Row.at_ R37 hx32
        refine ol_v (e_ix (SlT.sl sl_23) (SlT.sz sl_23) hA40 hx32 e35 h23) rfl ?_
        refine ol_v (e_ld ty_3 (LiesV.int L41.at_) rfl) rfl ?_
        refine ol_v (e_as _ rfl) rfl ?_
        obtain rfl := Option.some.inj hr
        exact ol_nil ⟨F, hW, g5, h0, h1, p5, h5, h7, rfl, h21, h22, h23⟩
      refine Ref.seq (B := G11 w0 F0) ?_ ?_
      · refine Ref.region (fun s ρ w s' h hr => ?_)
        obtain ⟨F, hW, g5, h0, h1, p5, h5, h7, h9, h21, h22, h23⟩ := h
        refine ol_v (e_mv _ rfl) rfl ?_
        refine ol_v (e_mv _ h9) rfl ?_
        obtain ⟨x42, hx42, hr⟩ := bind_some' hr
        obtain ⟨A43, c44, e45, hc46, R47⟩ := id h0
        obtain ⟨b48, o49, hA50, L51⟩ := Row.at_ R47 hx42
        refine ol_v (e_ix (SlT.sl sl_22) (SlT.sz sl_22) hA50 hx42 e45 rfl) rfl ?_
        refine ol_v (e_fa fa_56_0 rfl) rfl ?_
        obtain ⟨v52, hl53, hs54⟩ := LiesV.sl (L51.fld fl_Commit_0).at_
        refine ol_v (e_ld ty_23 hl53 rfl) rfl ?_
        obtain ⟨A55, c56, e57, hc58, R59⟩ := id hs54
        refine ol_v (e_len (SlT.sl sl_23) e57) rfl ?_
        refine ol_v (e_mv _ rfl) rfl ?_
        obtain rfl := Option.some.inj hr
        exact ol_nil ⟨F, hW, g5, h0, h1, p5, h5, h7, h9, h21, h22, h23, hs54, rfl, rfl⟩
      refine Ref.block ?_
      refine Ref.loop ?_
      refine Ref.seq (B := G12 w0 F0) ?_ ?_
      · refine Ref.region (fun s ρ w s' h hr => ?_)
        obtain ⟨F, hW, g5, h0, h1, p5, h5, h7, h9, h21, h22, h23, h31, h32, h33⟩ := h
        refine ol_v (e_lss h33 h32) rfl ?_
        obtain rfl := Option.some.inj hr
        exact ol_nil ⟨F, hW, g5, h0, h1, p5, h5, h7, h9, h21, h22, h23, h31, h32, h33, rfl⟩
      refine Ref.seq (B := G11 w0 F0) ?_ ?_
      · refine Ref.cond (b := fun s => s.t_34) (fun s ρ w ⟨F, hW, g5, h0, h1, p5, h5, h7, h9, h21, h22, h23, h31, h32, h33, h34⟩ => h34) (Ref.pre (A := G11 w0 F0) ?_ (fun s ρ w h => (fun ⟨F, hW, g5, h0, h1, p5, h5, h7, h9, h21, h22, h23, h31, h32, h33, h34⟩ => ⟨F, hW, g5, h0, h1, p5, h5, h7, h9, h21, h22, h23, h31, h32, h33⟩ : G12 w0 F0 s ρ w → G11 w0 F0 s ρ w) h.2)) (Ref.pre (A := G7 w0 F0) ?_ (fun s ρ w h => (fun ⟨F, hW, g5, h0, h1, p5, h5, h7, h9, h21, h22, h23, h31, h32, h33, h34⟩ => ⟨F, hW, g5, h0, h1, p5, h5, h7, h21, h22, h23⟩ : G12 w0 F0 s ρ w → G7 w0 F0 s ρ w) h.2))
        · exact Ref.skip
        · exact Ref.exit (fun s ρ w h => h)
      refine Ref.seq (B := G11 w0 F0) ?_ ?_
      · refine Ref.block ?_
        refine Ref.seq (B := G13 w0 F0) ?_ ?_
        · refine Ref.region (fun s ρ w s' h hr => ?_)
          obtain ⟨F, hW, g5, h0, h1, p5, h5, h7, h9, h21, h22, h23, h31, h32, h33⟩ := h
          obtain ⟨x60, hx60, hr⟩ := bind_some' hr
          obtain ⟨A61, c62, e63, hc64, R65⟩ := id h31
          obtain ⟨b66, o67, hA68, L69⟩ := Row.at_ R65 hx60
          refine ol_v (e_ix (SlT.sl sl_23) (SlT.sz sl_23) hA68 hx60 e63 h33) rfl ?_
          refine ol_v (e_ld ty_3 (LiesV.int L69.at_) rfl) rfl ?_
          refine ol_v (e_as _ rfl) rfl ?_
          obtain rfl := Option.some.inj hr
          exact ol_nil ⟨F, hW, g5, h0, h1, p5, h5, h7, h9, rfl, h21, h22, h23, h31, h32, h33⟩
        refine Ref.seq (B := G14 w0 F0) ?_ ?_
        · refine Ref.region (fun s ρ w s' h hr => ?_)
          obtain ⟨F, hW, g5, h0, h1, p5, h5, h7, h9, h11, h21, h22, h23, h31, h32, h33⟩ := h
          refine ol_v (e_mv _ rfl) rfl ?_
          refine ol_v (e_mv _ h11) rfl ?_
          obtain ⟨x70, hx70, hr⟩ := bind_some' hr
          refine ol_e (f_call [(ρ 1), .int .i64 s.p_11] fn_40 (lcons rfl (lcons rfl rfl)) (slices_BinarySearch_int_int.calls hW.ok h1 s.p_11 hx70)) rfl rfl ?_
          rintro _ w71 ⟨Fz72, rfl, kw1⟩
          have hW74 := hW.trans kw1
          have st1 := kw1.stp hW.ok
          refine ol_v (e_mv _ rfl) rfl ?_
          refine ol_v (e_ext _ rfl rfl) rfl ?_
          refine ol_v (e_ext _ rfl rfl) rfl ?_
          refine ol_v (e_as _ rfl) rfl ?_
          refine ol_v (e_as _ rfl) rfl ?_
          obtain rfl := Option.some.inj hr
          exact ol_nil ⟨Fz72, hW74, g5, (h0.keep st1), (h1.keep st1), p5, (h5.wk kw1 hW.ok), (h7.wk kw1 hW.ok), h9, rfl, (h21.keep st1), h22, h23, (h31.keep st1), h32, h33⟩
        refine Ref.seq (B := G15 w0 F0) ?_ ?_
        · refine Ref.region (fun s ρ w s' h hr => ?_)
          obtain ⟨F, hW, g5, h0, h1, p5, h5, h7, h9, h13, h21, h22, h23, h31, h32, h33⟩ := h
          refine ol_v (e_mv _ h13) rfl ?_
          refine ol_v (e_not_ rfl) rfl ?_
          obtain rfl := Option.some.inj hr
          exact ol_nil ⟨F, hW, g5, h0, h1, p5, h5, h7, h9, h21, h22, h23, h31, h32, h33, rfl⟩
        refine Ref.cond (b := fun s => s.t_44) (fun s ρ w ⟨F, hW, g5, h0, h1, p5, h5, h7, h9, h21, h22, h23, h31, h32, h33, h44⟩ => h44) (Ref.pre (A := G10 w0 F0) ?_ (fun s ρ w h => (fun ⟨F, hW, g5, h0, h1, p5, h5, h7, h9, h21, h22, h23, h31, h32, h33, h44⟩ => ⟨F, hW, g5, h0, h1, p5, h5, h7, h9, h21, h22, h23⟩ : G15 w0 F0 s ρ w → G10 w0 F0 s ρ w) h.2)) (Ref.pre (A := G11 w0 F0) ?_ (fun s ρ w h => (fun ⟨F, hW, g5, h0, h1, p5, h5, h7, h9, h21, h22, h23, h31, h32, h33, h44⟩ => ⟨F, hW, g5, h0, h1, p5, h5, h7, h9, h21, h22, h23, h31, h32, h33⟩ : G15 w0 F0 s ρ w → G11 w0 F0 s ρ w) h.2))
        · refine Ref.seq (B := G7 w0 F0) ?_ ?_
          · refine Ref.region (fun s ρ w s' h hr => ?_)
            obtain ⟨F, hW, g5, h0, h1, p5, h5, h7, h9, h21, h22, h23⟩ := h
            refine ol_v (e_mv _ rfl) rfl ?_
            refine ol_v (e_mv _ h9) rfl ?_
            refine ol_e (f_bslF sl_23 hW ([s.n_9] : List Int) [.int .i64 s.n_9] (by exact ⟨_, _, rfl, (val_int _ _), rfl⟩) rfl (Nat.le_of_ble_eq_true rfl) (lcons (congrArg (Prod.mk 0) rfl) rfl)) rfl rfl ?_
            rintro v75 w76 ⟨Fz78, kw1, ho77⟩
            have hW79 := hW.trans kw1
            have st1 := kw1.stp hW.ok
            obtain ⟨x80, hx80, hr⟩ := bind_some' hr
            refine ol_e (f_app sl_23 hW79 (h7.wk kw1 hW.ok) ho77 hx80 rfl rfl) rfl rfl ?_
            rintro v81 w82 ⟨hW83, ho84, hg2, st2, hor85⟩
            refine ol_v (e_as _ rfl) rfl ?_
            obtain rfl := Option.some.inj hr
            exact ol_nil ⟨Fz78, hW83, g5, (h0.keep (st1.trans st2)), (h1.keep (st1.trans st2)), p5, ((h5.wk kw1 hW.ok).mut (apart_bo (h5.wk kw1 hW.ok) (h7.wk kw1 hW.ok) rfl).symm hg2 st2), ho84, (h21.keep (st1.trans st2)), h22, h23⟩
          exact Ref.exit (fun s ρ w h => h)
        · exact Ref.skip
      refine Ref.region (fun s ρ w s' h hr => ?_)
      obtain ⟨F, hW, g5, h0, h1, p5, h5, h7, h9, h21, h22, h23, h31, h32, h33⟩ := h
      refine ol_v (e_add h33 rfl) rfl ?_
      refine ol_v (e_mv _ rfl) rfl ?_
      obtain rfl := Option.some.inj hr
      exact ol_nil ⟨F, hW, g5, h0, h1, p5, h5, h7, h9, h21, h22, h23, h31, h32, rfl⟩
    refine Ref.region (fun s ρ w s' h hr => ?_)
    obtain ⟨F, hW, g5, h0, h1, p5, h5, h7, h21, h22, h23⟩ := h
    refine ol_v (e_add h23 rfl) rfl ?_
    refine ol_v (e_mv _ rfl) rfl ?_
    obtain rfl := Option.some.inj hr
    exact ol_nil ⟨F, hW, g5, h0, h1, p5, h5, h7, h21, h22, rfl⟩
  refine Ref.seq (B := G5 w0 F0) ?_ ?_
  · refine Ref.region (fun s ρ w s' h hr => ?_)
    obtain ⟨F, hW, g5, p5, h5, h7⟩ := h
    refine ol_v (e_mv _ rfl) rfl ?_
    refine ol_v (e_bld (cells := #[.int .i64 0, .int .i64 0]) bld_26 (vs := []) rfl rfl) rfl ?_
    have hb86 : Val k_Fault F w (.agg #[.int .i64 0, .int .i64 0]) (⟨(0 : Int), (0 : Int)⟩ : Fault) := mk_Fault (val_int _ _) (val_int _ _)
    refine ol_v (e_as _ rfl) rfl ?_
    refine ol_eN (f_stB hW h5 (FldS.whole _) ty_26 hb86 p5 rfl) rfl ?_
    rintro - w87 ⟨hW88, ho89, hg1, st1⟩
    obtain rfl := Option.some.inj hr
    exact ol_nil ⟨F, hW88, g5, (h7.mut (apart_bo h5 h7 rfl) hg1 st1), p5, ho89⟩
  exact Ref.ret (fun s ρ w h => ⟨s, rfl, h⟩)
def post (w : World) (F : BSet) (r : R) (v : Value) (w' : World) : Prop := ∃ (F' : BSet) (v0' : Value) (v1' : Value), v = .tuple #[v0', v1'] ∧ Wk nrow w F F' w' ∧ OwnV (kInt .i64) 3 (Nw w) F' w' v0' r.1 ∧ Val k_Fault F' w' v1' r.2
theorem calls {w : World} {F : BSet} (hok : ∀ b, F b → b < w.heap.size) {v0 : Value} {a0 : (List Commit)} (h0 : SlR k_Commit F w v0 a0) {v1 : Value} {a1 : (List Int)} (h1 : SlR (kInt .i64) F w v1 a1) {r : R} (hf : f a0 a1 = some r) : Calls Try.prog 19 #[v0, v1] w fun e w' => ∃ v, e = .returned v ∧ post w F r v w' := by
  obtain ⟨c, hc, href⟩ := ref w F
  refine calls_of_ref (args := [v0, v1]) _ Try.func19 hc rfl rfl href ?_ (retOf_some hf) ?_
  · exact ⟨F, Wk.refl hok, h0, h1⟩
  · rintro ρ w' a ⟨s, rfl, F', hW, g5, h4, p5, h5⟩ hF
    obtain ⟨u5, l5, k5⟩ := res_box (P := Try.prog) ty_26 h5
    refine ⟨_, run_results (rs := [.tmp 4, .cell 5 26]) rfl hF (vs := [ρ 4, u5]) (⟨_, rfl, ⟨_, _, _, rfl, p5, l5, rfl⟩⟩), ?_⟩
    exact ⟨F', ρ 4, u5, rfl, hW, h4.rebase (fun g hg => (h4.lt hg).1.resolve_right (fun h => h)), k5⟩
end
end shallow_Boundary

namespace shallow_Deepen
section
def G0 (w0 : World) (F0 : BSet) (s : S) (ρ : Env) (w : World) : Prop := ∃ (F : BSet), Wk nrow w0 F0 F w ∧ SlR k_Commit F w (ρ 0) s.commits_0 ∧ SlR (kInt .i64) F w (ρ 1) s.numbers_1 ∧ ρ 2 = .int .i64 s.by_2
def G1 (w0 : World) (F0 : BSet) (s : S) (ρ : Env) (w : World) : Prop := ∃ (F : BSet), Wk nrow w0 F0 F w ∧ ∃ (g7 : Nat), SlR k_Commit F w (ρ 0) s.commits_0 ∧ SlR (kInt .i64) F w (ρ 1) s.numbers_1 ∧ ρ 2 = .int .i64 s.by_2 ∧ ρ 7 = .pointer (some ⟨g7, 0, none⟩) ∧ Box k_Fault 26 (Bs w0 nrow) F w g7 s.t_7
def G2 (w0 : World) (F0 : BSet) (s : S) (ρ : Env) (w : World) : Prop := ∃ (F : BSet), Wk nrow w0 F0 F w ∧ ∃ (g7 : Nat) (g8 : Nat), SlR k_Commit F w (ρ 0) s.commits_0 ∧ SlR (kInt .i64) F w (ρ 1) s.numbers_1 ∧ ρ 2 = .int .i64 s.by_2 ∧ ρ 7 = .pointer (some ⟨g7, 0, none⟩) ∧ Box k_Fault 26 (Bs w0 nrow) F w g7 s.t_7 ∧ ρ 8 = .pointer (some ⟨g8, 0, none⟩) ∧ Box k_Fault 26 (Bs w0 nrow) F w g8 s.f_8 ∧ Apart (some g7) (some g8)
def G3 (w0 : World) (F0 : BSet) (s : S) (ρ : Env) (w : World) : Prop := ∃ (F : BSet), Wk nrow w0 F0 F w ∧ ∃ (g7 : Nat) (g8 : Nat), SlR k_Commit F w (ρ 0) s.commits_0 ∧ SlR (kInt .i64) F w (ρ 1) s.numbers_1 ∧ ρ 2 = .int .i64 s.by_2 ∧ ρ 7 = .pointer (some ⟨g7, 0, none⟩) ∧ Box k_Fault 26 (Bs w0 nrow) F w g7 s.t_7 ∧ ρ 8 = .pointer (some ⟨g8, 0, none⟩) ∧ Box k_Fault 26 (Bs w0 nrow) F w g8 s.f_8 ∧ ρ 14 = .bool s.t_14 ∧ Apart (some g7) (some g8)
def G4 (w0 : World) (F0 : BSet) (s : S) (ρ : Env) (w : World) : Prop := ∃ (F : BSet), Wk nrow w0 F0 F w ∧ ∃ (g7 : Nat) (g8 : Nat), ρ 7 = .pointer (some ⟨g7, 0, none⟩) ∧ Box k_Fault 26 (Bs w0 nrow) F w g7 s.t_7 ∧ ρ 8 = .pointer (some ⟨g8, 0, none⟩) ∧ Box k_Fault 26 (Bs w0 nrow) F w g8 s.f_8 ∧ Apart (some g7) (some g8)
def G5 (w0 : World) (F0 : BSet) (s : S) (ρ : Env) (w : World) : Prop := ∃ (F : BSet), Wk nrow w0 F0 F w ∧ ∃ (g7 : Nat), OwnV (kInt .i64) 3 (Bs w0 nrow) F w (ρ 6) s.t_6 ∧ ρ 7 = .pointer (some ⟨g7, 0, none⟩) ∧ Box k_Fault 26 (Bs w0 nrow) F w g7 s.t_7
def G6 (w0 : World) (F0 : BSet) (s : S) (ρ : Env) (w : World) : Prop := ∃ (F : BSet), Wk nrow w0 F0 F w ∧ ∃ (g7 : Nat), SlR k_Commit F w (ρ 0) s.commits_0 ∧ SlR (kInt .i64) F w (ρ 1) s.numbers_1 ∧ ρ 2 = .int .i64 s.by_2 ∧ ρ 7 = .pointer (some ⟨g7, 0, none⟩) ∧ Box k_Fault 26 (Bs w0 nrow) F w g7 s.t_7 ∧ ρ 21 = .bool s.t_21
def G7 (w0 : World) (F0 : BSet) (s : S) (ρ : Env) (w : World) : Prop := ∃ (F : BSet), Wk nrow w0 F0 F w ∧ ∃ (g7 : Nat), ρ 7 = .pointer (some ⟨g7, 0, none⟩) ∧ Box k_Fault 26 (Bs w0 nrow) F w g7 s.t_7
set_option maxHeartbeats 4000000 in
set_option maxRecDepth 20000 in
theorem ref (w0 : World) (F0 : BSet) : ∃ c, Try.f20.body = some c ∧ Ref Try.prog 28 c (G0 w0 F0) body (fun _ _ _ => False) (fun _ _ _ _ => False) (fun r ρ w => ∃ s, retv s = r ∧ G5 w0 F0 s ρ w) := by
  refine ⟨_, rfl, ?_⟩
  unfold body
  refine Ref.seq (B := G1 w0 F0) ?_ ?_
  · refine Ref.region (fun s ρ w s' h hr => ?_)
    obtain ⟨F, hW, h0, h1, h2⟩ := h
    refine ol_v (e_as _ rfl) rfl ?_
    refine ol_e (f_alloc zer_26 hW) rfl rfl ?_
    rintro _ w2 ⟨g1, rfl, kw1, ho3⟩
    have hW4 := hW.trans kw1
    have st1 := kw1.stp hW.ok
    obtain rfl := Option.some.inj hr
    exact ol_nil ⟨F, hW4, g1, (h0.keep st1), (h1.keep st1), h2, rfl, (ho3.base (row := nrow) hW.le)⟩
  refine Ref.seq (B := G1 w0 F0) ?_ ?_
  · refine Ref.seq (B := G2 w0 F0) ?_ ?_
    · refine Ref.region (fun s ρ w s' h hr => ?_)
      obtain ⟨F, hW, g7, h0, h1, h2, p7, h7⟩ := h
      refine ol_v (e_mv _ rfl) rfl ?_
      refine ol_v (e_mv _ rfl) rfl ?_
      obtain ⟨x5, hx5, hr⟩ := bind_some' hr
      refine ol_e (f_call [(ρ 0), (ρ 1)] fn_39 (lcons rfl (lcons rfl rfl)) (shallow_check.calls hW.ok h0 h1 hx5)) rfl rfl ?_
      rintro v8 w6 ⟨Fz7, _, rfl, kw1, hk9⟩
      have hW11 := hW.trans kw1
      have st1 := kw1.stp hW.ok
      refine ol_e (f_alloc zer_26 hW11) rfl rfl ?_
      rintro _ w13 ⟨g12, rfl, kw2, ho14⟩
      have hW15 := hW11.trans kw2
      have st2 := kw2.stp hW11.ok
      refine ol_eN (f_stB hW15 (ho14.base (row := nrow) hW11.le) (FldS.whole _) ty_26 (hk9.keep st2) rfl rfl) rfl ?_
      rintro - w16 ⟨hW17, ho18, hg3, st3⟩
      obtain rfl := Option.some.inj hr
      exact ol_nil ⟨Fz7, hW17, g7, g12, (h0.keep (st1.trans (st2.trans st3))), (h1.keep (st1.trans (st2.trans st3))), h2, p7, (((h7.wk kw1 hW.ok).wk kw2 hW11.ok).mut (Apart.base (fun _ e_ => by cases e_; exact ho14.ge) (h7.wk kw1 hW.ok).ltw) hg3 st3), rfl, ho18, (Apart.base (fun _ e_ => by cases e_; exact ho14.ge) (h7.wk kw1 hW.ok).ltw).symm⟩
    refine Ref.seq (B := G3 w0 F0) ?_ ?_
    · refine Ref.region (fun s ρ w s' h hr => ?_)
      obtain ⟨F, hW, g7, g8, h0, h1, h2, p7, h7, p8, h8, a7b_8b⟩ := h
      obtain ⟨v19, hl20⟩ := LiesAt.v (h8).at_
      refine ol_v (e_ld ty_26 hl20 p8) rfl ?_
      refine ol_v (e_bld (cells := #[.int .i64 0, .int .i64 0]) bld_26 (vs := []) rfl rfl) rfl ?_
      have hb21 : Val k_Fault F w (.agg #[.int .i64 0, .int .i64 0]) (⟨(0 : Int), (0 : Int)⟩ : Fault) := mk_Fault (val_int _ _) (val_int _ _)
      refine ol_v (e_tneq (eq_Fault_26 hl20.val hb21) rfl rfl) rfl ?_
      obtain rfl := Option.some.inj hr
      exact ol_nil ⟨F, hW, g7, g8, h0, h1, h2, p7, h7, p8, h8, rfl, a7b_8b⟩
    refine Ref.cond (b := fun s => s.t_14) (fun s ρ w ⟨F, hW, g7, g8, h0, h1, h2, p7, h7, p8, h8, h14, a7b_8b⟩ => h14) (Ref.pre (A := G4 w0 F0) ?_ (fun s ρ w h => (fun ⟨F, hW, g7, g8, h0, h1, h2, p7, h7, p8, h8, h14, a7b_8b⟩ => ⟨F, hW, g7, g8, p7, h7, p8, h8, a7b_8b⟩ : G3 w0 F0 s ρ w → G4 w0 F0 s ρ w) h.2)) (Ref.pre (A := G1 w0 F0) ?_ (fun s ρ w h => (fun ⟨F, hW, g7, g8, h0, h1, h2, p7, h7, p8, h8, h14, a7b_8b⟩ => ⟨F, hW, g7, h0, h1, h2, p7, h7⟩ : G3 w0 F0 s ρ w → G1 w0 F0 s ρ w) h.2))
    · refine Ref.seq (B := G5 w0 F0) ?_ ?_
      · refine Ref.regionD 2 (by kernel_rfl) (by kernel_rfl) (fun s ρ w ⟨F, hW, g7, g8, p7, h7, p8, h8, a7b_8b⟩ => ⟨F, hW.drewS, g7, g8, p7, h7.wk (Wk.drew (row := nrow) hW.ok) hW.ok, p8, h8.wk (Wk.drew (row := nrow) hW.ok) hW.ok, a7b_8b⟩) (fun s ρ w s' h hr => ?_)
        obtain ⟨F, hW, g7, g8, p7, h7, p8, h8, a7b_8b⟩ := h
        obtain ⟨v22, hl23⟩ := LiesAt.v (h8).at_
        refine ol_v (e_ld ty_26 hl23 p8) rfl ?_
        refine ol_v (e_as _ rfl) rfl ?_
        refine ol_eN (f_stB hW h7 (FldS.whole _) ty_26 hl23.val p7 rfl) rfl ?_
        rintro - w24 ⟨hW25, ho26, hg1, st1⟩
        obtain rfl := Option.some.inj hr
        exact ol_nil ⟨F, hW25, g7, ((OwnV.nil (kInt .i64) 3 (Bs w0 nrow) F w).mut (apart_bo h7 (OwnV.nil (kInt .i64) 3 (Bs w0 nrow) F w) rfl) hg1 st1), p7, ho26⟩
      exact Ref.ret (fun s ρ w h => ⟨s, rfl, h⟩)
    · exact Ref.skip
  refine Ref.seq (B := G1 w0 F0) ?_ ?_
  · refine Ref.seq (B := G6 w0 F0) ?_ ?_
    · refine Ref.region (fun s ρ w s' h hr => ?_)
      obtain ⟨F, hW, g7, h0, h1, h2, p7, h7⟩ := h
      refine ol_v (e_mv _ h2) rfl ?_
      refine ol_v (e_lss rfl rfl) rfl ?_
      refine ol_cutA 4 18 21 (fun ρ' w' => w = w' ∧ ρ' 21 = .bool ((decide (s.by_2 < (0 : Int))) || (decide ((60 : Int) < s.by_2)))) rfl ?_ ?_
      · by_cases hb27 : (decide (s.by_2 < (0 : Int))) = true
        · refine ol_v (e_mv _ rfl) rfl ?_
          refine ol_not rfl rfl rfl (congrArg Value.bool hb27) rfl ?_
          refine ol_not rfl rfl rfl (congrArg Value.bool hb27) rfl ?_
          refine ol_v (e_pick true _ (congrArg Value.bool hb27) rfl) rfl ?_
          exact ol_nil ⟨⟨rfl, (bv_or_t hb27)⟩, (((((Agr.refl _ _ _).upd rfl rfl).upd rfl rfl).upd rfl rfl).upd rfl rfl)⟩
        · have hb28 := Bool.eq_false_iff.mpr hb27
          refine ol_v (e_mv _ rfl) rfl ?_
          refine ol_yes rfl rfl (congrArg Value.bool hb28) ?_
          refine ol_v (e_mv _ h2) rfl ?_
          refine ol_yes rfl rfl (congrArg Value.bool hb28) ?_
          refine ol_v (e_gtr rfl rfl) rfl ?_
          refine ol_v (e_pick false _ (congrArg Value.bool hb28) rfl) rfl ?_
          exact ol_nil ⟨⟨rfl, (bv_or_f hb28)⟩, (((((Agr.refl _ _ _).upd rfl rfl).upd rfl rfl).upd rfl rfl).upd rfl rfl)⟩
      rintro ρ29 _ ⟨⟨rfl, hp29⟩, hAg29⟩
      obtain rfl := Option.some.inj hr
      exact ol_nil ⟨F, hW, g7, (SlR.eqv (hAg29 0 rfl) h0), (SlR.eqv (hAg29 1 rfl) h1), ((hAg29 2 rfl).trans h2), ((hAg29 7 rfl).trans p7), h7, hp29⟩
    refine Ref.cond (b := fun s => s.t_21) (fun s ρ w ⟨F, hW, g7, h0, h1, h2, p7, h7, h21⟩ => h21) (Ref.pre (A := G7 w0 F0) ?_ (fun s ρ w h => (fun ⟨F, hW, g7, h0, h1, h2, p7, h7, h21⟩ => ⟨F, hW, g7, p7, h7⟩ : G6 w0 F0 s ρ w → G7 w0 F0 s ρ w) h.2)) (Ref.pre (A := G1 w0 F0) ?_ (fun s ρ w h => (fun ⟨F, hW, g7, h0, h1, h2, p7, h7, h21⟩ => ⟨F, hW, g7, h0, h1, h2, p7, h7⟩ : G6 w0 F0 s ρ w → G1 w0 F0 s ρ w) h.2))
    · refine Ref.seq (B := G5 w0 F0) ?_ ?_
      · refine Ref.region (fun s ρ w s' h hr => ?_)
        obtain ⟨F, hW, g7, p7, h7⟩ := h
        refine ol_v (e_bld (cells := #[.int .i64 (3), .int .i64 (-2)]) bld_26 (vs := [(0, .int .i64 (3)), (1, .int .i64 (-2))]) (lcons (congrArg (Prod.mk 0) rfl) (lcons (congrArg (Prod.mk 1) rfl) rfl)) rfl) rfl ?_
        have hb30 : Val k_Fault F w (.agg #[.int .i64 (3), .int .i64 (-2)]) (⟨(3 : Int), (-2 : Int)⟩ : Fault) := mk_Fault (val_int _ _) (val_int _ _)
        refine ol_v (e_as _ rfl) rfl ?_
        refine ol_eN (f_stB hW h7 (FldS.whole _) ty_26 hb30 p7 rfl) rfl ?_
        rintro - w31 ⟨hW32, ho33, hg1, st1⟩
        obtain rfl := Option.some.inj hr
        exact ol_nil ⟨F, hW32, g7, ((OwnV.nil (kInt .i64) 3 (Bs w0 nrow) F w).mut (apart_bo h7 (OwnV.nil (kInt .i64) 3 (Bs w0 nrow) F w) rfl) hg1 st1), p7, ho33⟩
      exact Ref.ret (fun s ρ w h => ⟨s, rfl, h⟩)
    · exact Ref.skip
  refine Ref.seq (B := G5 w0 F0) ?_ ?_
  · refine Ref.region (fun s ρ w s' h hr => ?_)
    obtain ⟨F, hW, g7, h0, h1, h2, p7, h7⟩ := h
    refine ol_v (e_mv _ rfl) rfl ?_
    refine ol_v (e_mv _ rfl) rfl ?_
    refine ol_v (e_mv _ h2) rfl ?_
    obtain ⟨x34, hx34, hr⟩ := bind_some' hr
    refine ol_e (f_call [(ρ 0), (ρ 1), .int .i64 s.by_2] fn_36 (lcons rfl (lcons rfl (lcons rfl rfl))) (shallow_reach.calls hW.ok h0 h1 s.by_2 hx34)) rfl rfl ?_
    rintro v37 w35 ⟨Fz36, _, rfl, kw1, hk38⟩
    have hW40 := hW.trans kw1
    have st1 := kw1.stp hW.ok
    refine ol_v (e_bld (cells := #[.int .i64 0, .int .i64 0]) bld_26 (vs := []) rfl rfl) rfl ?_
    have hb41 : Val k_Fault Fz36 w35 (.agg #[.int .i64 0, .int .i64 0]) (⟨(0 : Int), (0 : Int)⟩ : Fault) := mk_Fault (val_int _ _) (val_int _ _)
    refine ol_v (e_as _ rfl) rfl ?_
    refine ol_eN (f_stB hW40 (h7.wk kw1 hW.ok) (FldS.whole _) ty_26 hb41 p7 rfl) rfl ?_
    rintro - w42 ⟨hW43, ho44, hg2, st2⟩
    obtain rfl := Option.some.inj hr
    exact ol_nil ⟨Fz36, hW43, g7, ((hk38.base (row := nrow) hW.le).mut (apart_bo (h7.wk kw1 hW.ok) (hk38.base (row := nrow) hW.le) rfl) hg2 st2), p7, ho44⟩
  exact Ref.ret (fun s ρ w h => ⟨s, rfl, h⟩)
def post (w : World) (F : BSet) (r : R) (v : Value) (w' : World) : Prop := ∃ (F' : BSet) (v0' : Value) (v1' : Value), v = .tuple #[v0', v1'] ∧ Wk nrow w F F' w' ∧ OwnV (kInt .i64) 3 (Nw w) F' w' v0' r.1 ∧ Val k_Fault F' w' v1' r.2
theorem calls {w : World} {F : BSet} (hok : ∀ b, F b → b < w.heap.size) {v0 : Value} {a0 : (List Commit)} (h0 : SlR k_Commit F w v0 a0) {v1 : Value} {a1 : (List Int)} (h1 : SlR (kInt .i64) F w v1 a1) (a2 : Int) {r : R} (hf : f a0 a1 a2 = some r) : Calls Try.prog 20 #[v0, v1, .int .i64 a2] w fun e w' => ∃ v, e = .returned v ∧ post w F r v w' := by
  obtain ⟨c, hc, href⟩ := ref w F
  refine calls_of_ref (args := [v0, v1, .int .i64 a2]) _ Try.func20 hc rfl rfl href ?_ (retOf_some hf) ?_
  · exact ⟨F, Wk.refl hok, h0, h1, rfl⟩
  · rintro ρ w' a ⟨s, rfl, F', hW, g7, h6, p7, h7⟩ hF
    obtain ⟨u7, l7, k7⟩ := res_box (P := Try.prog) ty_26 h7
    refine ⟨_, run_results (rs := [.tmp 6, .cell 7 26]) rfl hF (vs := [ρ 6, u7]) (⟨_, rfl, ⟨_, _, _, rfl, p7, l7, rfl⟩⟩), ?_⟩
    exact ⟨F', ρ 6, u7, rfl, hW, h6.rebase (fun g hg => (h6.lt hg).1.resolve_right (fun h => h)), k7⟩
end
end shallow_Deepen

namespace shallow_Extract
section
def G0 (w0 : World) (F0 : BSet) (s : S) (ρ : Env) (w : World) : Prop := ∃ (F : BSet), Wk nrow w0 F0 F w ∧ SlR k_Commit F w (ρ 0) s.commits_0 ∧ SlR (kInt .i64) F w (ρ 1) s.numbers_1
def G1 (w0 : World) (F0 : BSet) (s : S) (ρ : Env) (w : World) : Prop := ∃ (F : BSet), Wk nrow w0 F0 F w ∧ ∃ (g5 : Nat), SlR k_Commit F w (ρ 0) s.commits_0 ∧ SlR (kInt .i64) F w (ρ 1) s.numbers_1 ∧ ρ 5 = .pointer (some ⟨g5, 0, none⟩) ∧ Box k_Fault 26 (Bs w0 nrow) F w g5 s.t_5
def G2 (w0 : World) (F0 : BSet) (s : S) (ρ : Env) (w : World) : Prop := ∃ (F : BSet), Wk nrow w0 F0 F w ∧ ∃ (g5 : Nat) (g6 : Nat), SlR k_Commit F w (ρ 0) s.commits_0 ∧ SlR (kInt .i64) F w (ρ 1) s.numbers_1 ∧ ρ 5 = .pointer (some ⟨g5, 0, none⟩) ∧ Box k_Fault 26 (Bs w0 nrow) F w g5 s.t_5 ∧ ρ 6 = .pointer (some ⟨g6, 0, none⟩) ∧ Box k_Fault 26 (Bs w0 nrow) F w g6 s.f_6 ∧ Apart (some g5) (some g6)
def G3 (w0 : World) (F0 : BSet) (s : S) (ρ : Env) (w : World) : Prop := ∃ (F : BSet), Wk nrow w0 F0 F w ∧ ∃ (g5 : Nat) (g6 : Nat), SlR k_Commit F w (ρ 0) s.commits_0 ∧ SlR (kInt .i64) F w (ρ 1) s.numbers_1 ∧ ρ 5 = .pointer (some ⟨g5, 0, none⟩) ∧ Box k_Fault 26 (Bs w0 nrow) F w g5 s.t_5 ∧ ρ 6 = .pointer (some ⟨g6, 0, none⟩) ∧ Box k_Fault 26 (Bs w0 nrow) F w g6 s.f_6 ∧ ρ 21 = .bool s.t_21 ∧ Apart (some g5) (some g6)
def G4 (w0 : World) (F0 : BSet) (s : S) (ρ : Env) (w : World) : Prop := ∃ (F : BSet), Wk nrow w0 F0 F w ∧ ∃ (g5 : Nat) (g6 : Nat), ρ 5 = .pointer (some ⟨g5, 0, none⟩) ∧ Box k_Fault 26 (Bs w0 nrow) F w g5 s.t_5 ∧ ρ 6 = .pointer (some ⟨g6, 0, none⟩) ∧ Box k_Fault 26 (Bs w0 nrow) F w g6 s.f_6 ∧ Apart (some g5) (some g6)
def G5 (w0 : World) (F0 : BSet) (s : S) (ρ : Env) (w : World) : Prop := ∃ (F : BSet), Wk nrow w0 F0 F w ∧ ∃ (g5 : Nat), OwnV k_Commit 56 (Bs w0 nrow) F w (ρ 4) s.t_4 ∧ ρ 5 = .pointer (some ⟨g5, 0, none⟩) ∧ Box k_Fault 26 (Bs w0 nrow) F w g5 s.t_5
def G6 (w0 : World) (F0 : BSet) (s : S) (ρ : Env) (w : World) : Prop := ∃ (F : BSet), Wk nrow w0 F0 F w ∧ ∃ (g5 : Nat), SlR k_Commit F w (ρ 0) s.commits_0 ∧ SlR (kInt .i64) F w (ρ 1) s.numbers_1 ∧ ρ 5 = .pointer (some ⟨g5, 0, none⟩) ∧ Box k_Fault 26 (Bs w0 nrow) F w g5 s.t_5 ∧ OwnV k_Commit 56 (Bs w0 nrow) F w (ρ 7) s.out_7
def G7 (w0 : World) (F0 : BSet) (s : S) (ρ : Env) (w : World) : Prop := ∃ (F : BSet), Wk nrow w0 F0 F w ∧ ∃ (g5 : Nat), SlR k_Commit F w (ρ 0) s.commits_0 ∧ SlR (kInt .i64) F w (ρ 1) s.numbers_1 ∧ ρ 5 = .pointer (some ⟨g5, 0, none⟩) ∧ Box k_Fault 26 (Bs w0 nrow) F w g5 s.t_5 ∧ OwnV k_Commit 56 (Bs w0 nrow) F w (ρ 7) s.out_7 ∧ SlR (kInt .i64) F w (ρ 23) s.t_23 ∧ ρ 24 = .int .i64 s.t_24 ∧ ρ 25 = .int .i64 s.t_25
def G8 (w0 : World) (F0 : BSet) (s : S) (ρ : Env) (w : World) : Prop := ∃ (F : BSet), Wk nrow w0 F0 F w ∧ ∃ (g5 : Nat), SlR k_Commit F w (ρ 0) s.commits_0 ∧ SlR (kInt .i64) F w (ρ 1) s.numbers_1 ∧ ρ 5 = .pointer (some ⟨g5, 0, none⟩) ∧ Box k_Fault 26 (Bs w0 nrow) F w g5 s.t_5 ∧ OwnV k_Commit 56 (Bs w0 nrow) F w (ρ 7) s.out_7 ∧ SlR (kInt .i64) F w (ρ 23) s.t_23 ∧ ρ 24 = .int .i64 s.t_24 ∧ ρ 25 = .int .i64 s.t_25 ∧ ρ 26 = .bool s.t_26
def G9 (w0 : World) (F0 : BSet) (s : S) (ρ : Env) (w : World) : Prop := ∃ (F : BSet), Wk nrow w0 F0 F w ∧ ∃ (g5 : Nat), ρ 5 = .pointer (some ⟨g5, 0, none⟩) ∧ Box k_Fault 26 (Bs w0 nrow) F w g5 s.t_5 ∧ OwnV k_Commit 56 (Bs w0 nrow) F w (ρ 7) s.out_7
def G10 (w0 : World) (F0 : BSet) (s : S) (ρ : Env) (w : World) : Prop := ∃ (F : BSet), Wk nrow w0 F0 F w ∧ ∃ (g5 : Nat), SlR k_Commit F w (ρ 0) s.commits_0 ∧ SlR (kInt .i64) F w (ρ 1) s.numbers_1 ∧ ρ 5 = .pointer (some ⟨g5, 0, none⟩) ∧ Box k_Fault 26 (Bs w0 nrow) F w g5 s.t_5 ∧ OwnV k_Commit 56 (Bs w0 nrow) F w (ρ 7) s.out_7 ∧ ρ 9 = .int .i64 s.n_9 ∧ SlR (kInt .i64) F w (ρ 23) s.t_23 ∧ ρ 24 = .int .i64 s.t_24 ∧ ρ 25 = .int .i64 s.t_25
def G11 (w0 : World) (F0 : BSet) (s : S) (ρ : Env) (w : World) : Prop := ∃ (F : BSet), Wk nrow w0 F0 F w ∧ ∃ (g5 : Nat) (g10 : Nat), SlR k_Commit F w (ρ 0) s.commits_0 ∧ SlR (kInt .i64) F w (ρ 1) s.numbers_1 ∧ ρ 5 = .pointer (some ⟨g5, 0, none⟩) ∧ Box k_Fault 26 (Bs w0 nrow) F w g5 s.t_5 ∧ OwnV k_Commit 56 (Bs w0 nrow) F w (ρ 7) s.out_7 ∧ ρ 10 = .pointer (some ⟨g10, 0, none⟩) ∧ Box k_Commit 56 (Bs w0 nrow) F w g10 s.c_10 ∧ SlR (kInt .i64) F w (ρ 23) s.t_23 ∧ ρ 24 = .int .i64 s.t_24 ∧ ρ 25 = .int .i64 s.t_25 ∧ Apart (ρ 7).ownBlock (some g10)
def G12 (w0 : World) (F0 : BSet) (s : S) (ρ : Env) (w : World) : Prop := ∃ (F : BSet), Wk nrow w0 F0 F w ∧ ∃ (g5 : Nat) (g10 : Nat), SlR k_Commit F w (ρ 0) s.commits_0 ∧ SlR (kInt .i64) F w (ρ 1) s.numbers_1 ∧ ρ 5 = .pointer (some ⟨g5, 0, none⟩) ∧ Box k_Fault 26 (Bs w0 nrow) F w g5 s.t_5 ∧ OwnV k_Commit 56 (Bs w0 nrow) F w (ρ 7) s.out_7 ∧ ρ 10 = .pointer (some ⟨g10, 0, none⟩) ∧ Box k_Commit 56 (Bs w0 nrow) F w g10 s.c_10 ∧ OwnV (kInt .i64) 3 (Bs w0 nrow) F w (ρ 11) s.parents_11 ∧ SlR (kInt .i64) F w (ρ 23) s.t_23 ∧ ρ 24 = .int .i64 s.t_24 ∧ ρ 25 = .int .i64 s.t_25 ∧ Apart (ρ 7).ownBlock (some g10)
def G13 (w0 : World) (F0 : BSet) (s : S) (ρ : Env) (w : World) : Prop := ∃ (F : BSet), Wk nrow w0 F0 F w ∧ ∃ (g5 : Nat) (g10 : Nat), SlR k_Commit F w (ρ 0) s.commits_0 ∧ SlR (kInt .i64) F w (ρ 1) s.numbers_1 ∧ ρ 5 = .pointer (some ⟨g5, 0, none⟩) ∧ Box k_Fault 26 (Bs w0 nrow) F w g5 s.t_5 ∧ OwnV k_Commit 56 (Bs w0 nrow) F w (ρ 7) s.out_7 ∧ ρ 10 = .pointer (some ⟨g10, 0, none⟩) ∧ Box k_Commit 56 (Bs w0 nrow) F w g10 s.c_10 ∧ OwnV (kInt .i64) 3 (Bs w0 nrow) F w (ρ 11) s.parents_11 ∧ SlR (kInt .i64) F w (ρ 23) s.t_23 ∧ ρ 24 = .int .i64 s.t_24 ∧ ρ 25 = .int .i64 s.t_25 ∧ SlR (kInt .i64) F w (ρ 34) s.t_34 ∧ ρ 35 = .int .i64 s.t_35 ∧ ρ 36 = .int .i64 s.t_36 ∧ Apart (ρ 7).ownBlock (some g10)
def G14 (w0 : World) (F0 : BSet) (s : S) (ρ : Env) (w : World) : Prop := ∃ (F : BSet), Wk nrow w0 F0 F w ∧ ∃ (g5 : Nat) (g10 : Nat), SlR k_Commit F w (ρ 0) s.commits_0 ∧ SlR (kInt .i64) F w (ρ 1) s.numbers_1 ∧ ρ 5 = .pointer (some ⟨g5, 0, none⟩) ∧ Box k_Fault 26 (Bs w0 nrow) F w g5 s.t_5 ∧ OwnV k_Commit 56 (Bs w0 nrow) F w (ρ 7) s.out_7 ∧ ρ 10 = .pointer (some ⟨g10, 0, none⟩) ∧ Box k_Commit 56 (Bs w0 nrow) F w g10 s.c_10 ∧ OwnV (kInt .i64) 3 (Bs w0 nrow) F w (ρ 11) s.parents_11 ∧ SlR (kInt .i64) F w (ρ 23) s.t_23 ∧ ρ 24 = .int .i64 s.t_24 ∧ ρ 25 = .int .i64 s.t_25 ∧ SlR (kInt .i64) F w (ρ 34) s.t_34 ∧ ρ 35 = .int .i64 s.t_35 ∧ ρ 36 = .int .i64 s.t_36 ∧ ρ 37 = .bool s.t_37 ∧ Apart (ρ 7).ownBlock (some g10)
def G15 (w0 : World) (F0 : BSet) (s : S) (ρ : Env) (w : World) : Prop := ∃ (F : BSet), Wk nrow w0 F0 F w ∧ ∃ (g5 : Nat) (g10 : Nat), SlR k_Commit F w (ρ 0) s.commits_0 ∧ SlR (kInt .i64) F w (ρ 1) s.numbers_1 ∧ ρ 5 = .pointer (some ⟨g5, 0, none⟩) ∧ Box k_Fault 26 (Bs w0 nrow) F w g5 s.t_5 ∧ OwnV k_Commit 56 (Bs w0 nrow) F w (ρ 7) s.out_7 ∧ ρ 10 = .pointer (some ⟨g10, 0, none⟩) ∧ Box k_Commit 56 (Bs w0 nrow) F w g10 s.c_10 ∧ OwnV (kInt .i64) 3 (Bs w0 nrow) F w (ρ 11) s.parents_11 ∧ ρ 13 = .int .i64 s.p_13 ∧ SlR (kInt .i64) F w (ρ 23) s.t_23 ∧ ρ 24 = .int .i64 s.t_24 ∧ ρ 25 = .int .i64 s.t_25 ∧ SlR (kInt .i64) F w (ρ 34) s.t_34 ∧ ρ 35 = .int .i64 s.t_35 ∧ ρ 36 = .int .i64 s.t_36 ∧ Apart (ρ 7).ownBlock (some g10)
def G16 (w0 : World) (F0 : BSet) (s : S) (ρ : Env) (w : World) : Prop := ∃ (F : BSet), Wk nrow w0 F0 F w ∧ ∃ (g5 : Nat) (g10 : Nat), SlR k_Commit F w (ρ 0) s.commits_0 ∧ SlR (kInt .i64) F w (ρ 1) s.numbers_1 ∧ ρ 5 = .pointer (some ⟨g5, 0, none⟩) ∧ Box k_Fault 26 (Bs w0 nrow) F w g5 s.t_5 ∧ OwnV k_Commit 56 (Bs w0 nrow) F w (ρ 7) s.out_7 ∧ ρ 10 = .pointer (some ⟨g10, 0, none⟩) ∧ Box k_Commit 56 (Bs w0 nrow) F w g10 s.c_10 ∧ OwnV (kInt .i64) 3 (Bs w0 nrow) F w (ρ 11) s.parents_11 ∧ ρ 14 = .int .i64 s.i_14 ∧ ρ 15 = .bool s.there_15 ∧ SlR (kInt .i64) F w (ρ 23) s.t_23 ∧ ρ 24 = .int .i64 s.t_24 ∧ ρ 25 = .int .i64 s.t_25 ∧ SlR (kInt .i64) F w (ρ 34) s.t_34 ∧ ρ 35 = .int .i64 s.t_35 ∧ ρ 36 = .int .i64 s.t_36 ∧ Apart (ρ 7).ownBlock (some g10)
def G17 (w0 : World) (F0 : BSet) (s : S) (ρ : Env) (w : World) : Prop := ∃ (F : BSet), Wk nrow w0 F0 F w ∧ ∃ (g5 : Nat) (g10 : Nat), SlR k_Commit F w (ρ 0) s.commits_0 ∧ SlR (kInt .i64) F w (ρ 1) s.numbers_1 ∧ ρ 5 = .pointer (some ⟨g5, 0, none⟩) ∧ Box k_Fault 26 (Bs w0 nrow) F w g5 s.t_5 ∧ OwnV k_Commit 56 (Bs w0 nrow) F w (ρ 7) s.out_7 ∧ ρ 10 = .pointer (some ⟨g10, 0, none⟩) ∧ Box k_Commit 56 (Bs w0 nrow) F w g10 s.c_10 ∧ OwnV (kInt .i64) 3 (Bs w0 nrow) F w (ρ 11) s.parents_11 ∧ ρ 14 = .int .i64 s.i_14 ∧ SlR (kInt .i64) F w (ρ 23) s.t_23 ∧ ρ 24 = .int .i64 s.t_24 ∧ ρ 25 = .int .i64 s.t_25 ∧ SlR (kInt .i64) F w (ρ 34) s.t_34 ∧ ρ 35 = .int .i64 s.t_35 ∧ ρ 36 = .int .i64 s.t_36 ∧ ρ 46 = .bool s.t_46 ∧ Apart (ρ 7).ownBlock (some g10)
def G18 (w0 : World) (F0 : BSet) (s : S) (ρ : Env) (w : World) : Prop := ∃ (F : BSet), Wk nrow w0 F0 F w ∧ ∃ (g5 : Nat) (g10 : Nat), SlR k_Commit F w (ρ 0) s.commits_0 ∧ SlR (kInt .i64) F w (ρ 1) s.numbers_1 ∧ ρ 5 = .pointer (some ⟨g5, 0, none⟩) ∧ Box k_Fault 26 (Bs w0 nrow) F w g5 s.t_5 ∧ OwnV k_Commit 56 (Bs w0 nrow) F w (ρ 7) s.out_7 ∧ ρ 10 = .pointer (some ⟨g10, 0, none⟩) ∧ Box k_Commit 56 (Bs w0 nrow) F w g10 s.c_10 ∧ OwnV (kInt .i64) 3 (Bs w0 nrow) F w (ρ 11) s.parents_11 ∧ ρ 14 = .int .i64 s.i_14 ∧ SlR (kInt .i64) F w (ρ 23) s.t_23 ∧ ρ 24 = .int .i64 s.t_24 ∧ ρ 25 = .int .i64 s.t_25 ∧ SlR (kInt .i64) F w (ρ 34) s.t_34 ∧ ρ 35 = .int .i64 s.t_35 ∧ ρ 36 = .int .i64 s.t_36 ∧ Apart (ρ 7).ownBlock (some g10)
set_option maxHeartbeats 4000000 in
set_option maxRecDepth 20000 in
theorem ref (w0 : World) (F0 : BSet) : ∃ c, Try.f21.body = some c ∧ Ref Try.prog 61 c (G0 w0 F0) body (fun _ _ _ => False) (fun _ _ _ _ => False) (fun r ρ w => ∃ s, retv s = r ∧ G5 w0 F0 s ρ w) := by
  refine ⟨_, rfl, ?_⟩
  unfold body
  refine Ref.seq (B := G1 w0 F0) ?_ ?_
  · refine Ref.region (fun s ρ w s' h hr => ?_)
    obtain ⟨F, hW, h0, h1⟩ := h
    refine ol_v (e_as _ rfl) rfl ?_
    refine ol_e (f_alloc zer_26 hW) rfl rfl ?_
    rintro _ w2 ⟨g1, rfl, kw1, ho3⟩
    have hW4 := hW.trans kw1
    have st1 := kw1.stp hW.ok
    obtain rfl := Option.some.inj hr
    exact ol_nil ⟨F, hW4, g1, (h0.keep st1), (h1.keep st1), rfl, (ho3.base (row := nrow) hW.le)⟩
  refine Ref.seq (B := G1 w0 F0) ?_ ?_
  · refine Ref.seq (B := G2 w0 F0) ?_ ?_
    · refine Ref.region (fun s ρ w s' h hr => ?_)
      obtain ⟨F, hW, g5, h0, h1, p5, h5⟩ := h
      refine ol_v (e_mv _ rfl) rfl ?_
      refine ol_v (e_mv _ rfl) rfl ?_
      obtain ⟨x5, hx5, hr⟩ := bind_some' hr
      refine ol_e (f_call [(ρ 0), (ρ 1)] fn_39 (lcons rfl (lcons rfl rfl)) (shallow_check.calls hW.ok h0 h1 hx5)) rfl rfl ?_
      rintro v8 w6 ⟨Fz7, _, rfl, kw1, hk9⟩
      have hW11 := hW.trans kw1
      have st1 := kw1.stp hW.ok
      refine ol_e (f_alloc zer_26 hW11) rfl rfl ?_
      rintro _ w13 ⟨g12, rfl, kw2, ho14⟩
      have hW15 := hW11.trans kw2
      have st2 := kw2.stp hW11.ok
      refine ol_eN (f_stB hW15 (ho14.base (row := nrow) hW11.le) (FldS.whole _) ty_26 (hk9.keep st2) rfl rfl) rfl ?_
      rintro - w16 ⟨hW17, ho18, hg3, st3⟩
      obtain rfl := Option.some.inj hr
      exact ol_nil ⟨Fz7, hW17, g5, g12, (h0.keep (st1.trans (st2.trans st3))), (h1.keep (st1.trans (st2.trans st3))), p5, (((h5.wk kw1 hW.ok).wk kw2 hW11.ok).mut (Apart.base (fun _ e_ => by cases e_; exact ho14.ge) (h5.wk kw1 hW.ok).ltw) hg3 st3), rfl, ho18, (Apart.base (fun _ e_ => by cases e_; exact ho14.ge) (h5.wk kw1 hW.ok).ltw).symm⟩
    refine Ref.seq (B := G3 w0 F0) ?_ ?_
    · refine Ref.region (fun s ρ w s' h hr => ?_)
      obtain ⟨F, hW, g5, g6, h0, h1, p5, h5, p6, h6, a5b_6b⟩ := h
      obtain ⟨v19, hl20⟩ := LiesAt.v (h6).at_
      refine ol_v (e_ld ty_26 hl20 p6) rfl ?_
      refine ol_v (e_bld (cells := #[.int .i64 0, .int .i64 0]) bld_26 (vs := []) rfl rfl) rfl ?_
      have hb21 : Val k_Fault F w (.agg #[.int .i64 0, .int .i64 0]) (⟨(0 : Int), (0 : Int)⟩ : Fault) := mk_Fault (val_int _ _) (val_int _ _)
      refine ol_v (e_tneq (eq_Fault_26 hl20.val hb21) rfl rfl) rfl ?_
      obtain rfl := Option.some.inj hr
      exact ol_nil ⟨F, hW, g5, g6, h0, h1, p5, h5, p6, h6, rfl, a5b_6b⟩
    refine Ref.cond (b := fun s => s.t_21) (fun s ρ w ⟨F, hW, g5, g6, h0, h1, p5, h5, p6, h6, h21, a5b_6b⟩ => h21) (Ref.pre (A := G4 w0 F0) ?_ (fun s ρ w h => (fun ⟨F, hW, g5, g6, h0, h1, p5, h5, p6, h6, h21, a5b_6b⟩ => ⟨F, hW, g5, g6, p5, h5, p6, h6, a5b_6b⟩ : G3 w0 F0 s ρ w → G4 w0 F0 s ρ w) h.2)) (Ref.pre (A := G1 w0 F0) ?_ (fun s ρ w h => (fun ⟨F, hW, g5, g6, h0, h1, p5, h5, p6, h6, h21, a5b_6b⟩ => ⟨F, hW, g5, h0, h1, p5, h5⟩ : G3 w0 F0 s ρ w → G1 w0 F0 s ρ w) h.2))
    · refine Ref.seq (B := G5 w0 F0) ?_ ?_
      · refine Ref.regionD 2 (by kernel_rfl) (by kernel_rfl) (fun s ρ w ⟨F, hW, g5, g6, p5, h5, p6, h6, a5b_6b⟩ => ⟨F, hW.drewS, g5, g6, p5, h5.wk (Wk.drew (row := nrow) hW.ok) hW.ok, p6, h6.wk (Wk.drew (row := nrow) hW.ok) hW.ok, a5b_6b⟩) (fun s ρ w s' h hr => ?_)
        obtain ⟨F, hW, g5, g6, p5, h5, p6, h6, a5b_6b⟩ := h
        obtain ⟨v22, hl23⟩ := LiesAt.v (h6).at_
        refine ol_v (e_ld ty_26 hl23 p6) rfl ?_
        refine ol_v (e_as _ rfl) rfl ?_
        refine ol_eN (f_stB hW h5 (FldS.whole _) ty_26 hl23.val p5 rfl) rfl ?_
        rintro - w24 ⟨hW25, ho26, hg1, st1⟩
        obtain rfl := Option.some.inj hr
        exact ol_nil ⟨F, hW25, g5, ((OwnV.nil k_Commit 56 (Bs w0 nrow) F w).mut (apart_bo h5 (OwnV.nil k_Commit 56 (Bs w0 nrow) F w) rfl) hg1 st1), p5, ho26⟩
      exact Ref.ret (fun s ρ w h => ⟨s, rfl, h⟩)
    · exact Ref.skip
  refine Ref.seq (B := G6 w0 F0) ?_ ?_
  · refine Ref.region (fun s ρ w s' h hr => ?_)
    obtain ⟨F, hW, g5, h0, h1, p5, h5⟩ := h
    refine ol_v (e_as _ rfl) rfl ?_
    obtain rfl := Option.some.inj hr
    exact ol_nil ⟨F, hW, g5, h0, h1, p5, h5, (OwnV.nil k_Commit 56 (Bs w0 nrow) F w)⟩
  refine Ref.seq (B := G9 w0 F0) ?_ ?_
  · refine Ref.seq (B := G7 w0 F0) ?_ ?_
    · refine Ref.region (fun s ρ w s' h hr => ?_)
      obtain ⟨F, hW, g5, h0, h1, p5, h5, h7⟩ := h
      refine ol_v (e_mv _ rfl) rfl ?_
      obtain ⟨A27, c28, e29, hc30, R31⟩ := id h1
      refine ol_v (e_len (SlT.sl sl_23) e29) rfl ?_
      refine ol_v (e_mv _ rfl) rfl ?_
      obtain rfl := Option.some.inj hr
      exact ol_nil ⟨F, hW, g5, h0, h1, p5, h5, h7, h1, rfl, rfl⟩
    refine Ref.block ?_
    refine Ref.loop ?_
    refine Ref.seq (B := G8 w0 F0) ?_ ?_
    · refine Ref.region (fun s ρ w s' h hr => ?_)
      obtain ⟨F, hW, g5, h0, h1, p5, h5, h7, h23, h24, h25⟩ := h
      refine ol_v (e_lss h25 h24) rfl ?_
      obtain rfl := Option.some.inj hr
      exact ol_nil ⟨F, hW, g5, h0, h1, p5, h5, h7, h23, h24, h25, rfl⟩
    refine Ref.seq (B := G7 w0 F0) ?_ ?_
    · refine Ref.cond (b := fun s => s.t_26) (fun s ρ w ⟨F, hW, g5, h0, h1, p5, h5, h7, h23, h24, h25, h26⟩ => h26) (Ref.pre (A := G7 w0 F0) ?_ (fun s ρ w h => (fun ⟨F, hW, g5, h0, h1, p5, h5, h7, h23, h24, h25, h26⟩ => ⟨F, hW, g5, h0, h1, p5, h5, h7, h23, h24, h25⟩ : G8 w0 F0 s ρ w → G7 w0 F0 s ρ w) h.2)) (Ref.pre (A := G9 w0 F0) ?_ (fun s ρ w h => (fun ⟨F, hW, g5, h0, h1, p5, h5, h7, h23, h24, h25, h26⟩ => ⟨F, hW, g5, p5, h5, h7⟩ : G8 w0 F0 s ρ w → G9 w0 F0 s ρ w) h.2))
      · exact Ref.skip
      · exact Ref.exit (fun s ρ w h => h)
    refine Ref.seq (B := G7 w0 F0) ?_ ?_
    · refine Ref.block ?_
      refine Ref.seq (B := G10 w0 F0) ?_ ?_
      · refine Ref.region (fun s ρ w s' h hr => ?_)
        obtain ⟨F, hW, g5, h0, h1, p5, h5, h7, h23, h24, h25⟩ := h
        obtain ⟨x32, hx32, hr⟩ := bind_some' hr
        obtain ⟨A33, c34, e35, hc36, R37⟩ := id h23
        obtain ⟨b38, o39, hA40, L41⟩ := Row.at_ R37 hx32
        refine ol_v (e_ix (SlT.sl sl_23) (SlT.sz sl_23) hA40 hx32 e35 h25) rfl ?_
        refine ol_v (e_ld ty_3 (LiesV.int L41.at_) rfl) rfl ?_
        refine ol_v (e_as _ rfl) rfl ?_
        obtain rfl := Option.some.inj hr
        exact ol_nil ⟨F, hW, g5, h0, h1, p5, h5, h7, rfl, h23, h24, h25⟩
      refine Ref.seq (B := G11 w0 F0) ?_ ?_
      · refine Ref.region (fun s ρ w s' h hr => ?_)
        obtain ⟨F, hW, g5, h0, h1, p5, h5, h7, h9, h23, h24, h25⟩ := h
        refine ol_v (e_mv _ rfl) rfl ?_
        refine ol_v (e_mv _ h9) rfl ?_
        obtain ⟨x42, hx42, hr⟩ := bind_some' hr
        obtain ⟨A43, c44, e45, hc46, R47⟩ := id h0
        obtain ⟨b48, o49, hA50, L51⟩ := Row.at_ R47 hx42
        refine ol_v (e_ix (SlT.sl sl_22) (SlT.sz sl_22) hA50 hx42 e45 rfl) rfl ?_
        obtain ⟨v52, hl53⟩ := LiesAt.v L51.at_
        refine ol_v (e_ld ty_56 hl53 rfl) rfl ?_
        refine ol_e (f_alloc zer_56 hW) rfl rfl ?_
        rintro _ w55 ⟨g54, rfl, kw1, ho56⟩
        have hW57 := hW.trans kw1
        have st1 := kw1.stp hW.ok
        refine ol_eN (f_stB hW57 (ho56.base (row := nrow) hW.le) (FldS.whole _) ty_56 (hl53.val.keep st1) rfl rfl) rfl ?_
        rintro - w58 ⟨hW59, ho60, hg2, st2⟩
        obtain rfl := Option.some.inj hr
        exact ol_nil ⟨F, hW59, g5, g54, (h0.keep (st1.trans st2)), (h1.keep (st1.trans st2)), p5, ((h5.wk kw1 hW.ok).mut (apart_bb (ho56.base (row := nrow) hW.le) (h5.wk kw1 hW.ok) rfl) hg2 st2), ((h7.wk kw1 hW.ok).mut (Apart.base (fun _ e_ => by cases e_; exact ho56.ge) h7.ltw) hg2 st2), rfl, ho60, (h23.keep (st1.trans st2)), h24, h25, (Apart.base (fun _ e_ => by cases e_; exact ho56.ge) h7.ltw).symm⟩
      refine Ref.seq (B := G12 w0 F0) ?_ ?_
      · refine Ref.region (fun s ρ w s' h hr => ?_)
        obtain ⟨F, hW, g5, g10, h0, h1, p5, h5, h7, p10, h10, h23, h24, h25, a7o_10b⟩ := h
        refine ol_v (e_as _ rfl) rfl ?_
        obtain rfl := Option.some.inj hr
        exact ol_nil ⟨F, hW, g5, g10, h0, h1, p5, h5, h7, p10, h10, (OwnV.nil (kInt .i64) 3 (Bs w0 nrow) F w), h23, h24, h25, a7o_10b⟩
      refine Ref.seq (B := G12 w0 F0) ?_ ?_
      · refine Ref.seq (B := G13 w0 F0) ?_ ?_
        · refine Ref.region (fun s ρ w s' h hr => ?_)
          obtain ⟨F, hW, g5, g10, h0, h1, p5, h5, h7, p10, h10, h11, h23, h24, h25, a7o_10b⟩ := h
          refine ol_v (e_fa fa_56_0 p10) rfl ?_
          obtain ⟨v61, hl62, hs63⟩ := LiesV.sl ((h10).at_.fld fl_Commit_0)
          refine ol_v (e_ld ty_23 hl62 rfl) rfl ?_
          obtain ⟨A64, c65, e66, hc67, R68⟩ := id hs63
          refine ol_v (e_len (SlT.sl sl_23) e66) rfl ?_
          refine ol_v (e_mv _ rfl) rfl ?_
          obtain rfl := Option.some.inj hr
          exact ol_nil ⟨F, hW, g5, g10, h0, h1, p5, h5, h7, p10, h10, h11, h23, h24, h25, hs63, rfl, rfl, a7o_10b⟩
        refine Ref.block ?_
        refine Ref.loop ?_
        refine Ref.seq (B := G14 w0 F0) ?_ ?_
        · refine Ref.region (fun s ρ w s' h hr => ?_)
          obtain ⟨F, hW, g5, g10, h0, h1, p5, h5, h7, p10, h10, h11, h23, h24, h25, h34, h35, h36, a7o_10b⟩ := h
          refine ol_v (e_lss h36 h35) rfl ?_
          obtain rfl := Option.some.inj hr
          exact ol_nil ⟨F, hW, g5, g10, h0, h1, p5, h5, h7, p10, h10, h11, h23, h24, h25, h34, h35, h36, rfl, a7o_10b⟩
        refine Ref.seq (B := G13 w0 F0) ?_ ?_
        · refine Ref.cond (b := fun s => s.t_37) (fun s ρ w ⟨F, hW, g5, g10, h0, h1, p5, h5, h7, p10, h10, h11, h23, h24, h25, h34, h35, h36, h37, a7o_10b⟩ => h37) (Ref.pre (A := G13 w0 F0) ?_ (fun s ρ w h => (fun ⟨F, hW, g5, g10, h0, h1, p5, h5, h7, p10, h10, h11, h23, h24, h25, h34, h35, h36, h37, a7o_10b⟩ => ⟨F, hW, g5, g10, h0, h1, p5, h5, h7, p10, h10, h11, h23, h24, h25, h34, h35, h36, a7o_10b⟩ : G14 w0 F0 s ρ w → G13 w0 F0 s ρ w) h.2)) (Ref.pre (A := G12 w0 F0) ?_ (fun s ρ w h => (fun ⟨F, hW, g5, g10, h0, h1, p5, h5, h7, p10, h10, h11, h23, h24, h25, h34, h35, h36, h37, a7o_10b⟩ => ⟨F, hW, g5, g10, h0, h1, p5, h5, h7, p10, h10, h11, h23, h24, h25, a7o_10b⟩ : G14 w0 F0 s ρ w → G12 w0 F0 s ρ w) h.2))
          · exact Ref.skip
          · exact Ref.exit (fun s ρ w h => h)
        refine Ref.seq (B := G13 w0 F0) ?_ ?_
        · refine Ref.block ?_
          refine Ref.seq (B := G15 w0 F0) ?_ ?_
          · refine Ref.region (fun s ρ w s' h hr => ?_)
            obtain ⟨F, hW, g5, g10, h0, h1, p5, h5, h7, p10, h10, h11, h23, h24, h25, h34, h35, h36, a7o_10b⟩ := h
            obtain ⟨x69, hx69, hr⟩ := bind_some' hr
            obtain ⟨A70, c71, e72, hc73, R74⟩ := id h34
            obtain ⟨b75, o76, hA77, L78⟩ := Row.at_ R74 hx69
            refine ol_v (e_ix (SlT.sl sl_23) (SlT.sz sl_23) hA77 hx69 e72 h36) rfl ?_
            refine ol_v (e_ld ty_3 (LiesV.int L78.at_) rfl) rfl ?_
            refine ol_v (e_as _ rfl) rfl ?_
            obtain rfl := Option.some.inj hr
            exact ol_nil ⟨F, hW, g5, g10, h0, h1, p5, h5, h7, p10, h10, h11, rfl, h23, h24, h25, h34, h35, h36, a7o_10b⟩
          refine Ref.seq (B := G16 w0 F0) ?_ ?_
          · refine Ref.region (fun s ρ w s' h hr => ?_)
            obtain ⟨F, hW, g5, g10, h0, h1, p5, h5, h7, p10, h10, h11, h13, h23, h24, h25, h34, h35, h36, a7o_10b⟩ := h
            refine ol_v (e_mv _ rfl) rfl ?_
            refine ol_v (e_mv _ h13) rfl ?_
            obtain ⟨x79, hx79, hr⟩ := bind_some' hr
            refine ol_e (f_call [(ρ 1), .int .i64 s.p_13] fn_40 (lcons rfl (lcons rfl rfl)) (slices_BinarySearch_int_int.calls hW.ok h1 s.p_13 hx79)) rfl rfl ?_
            rintro _ w80 ⟨Fz81, rfl, kw1⟩
            have hW83 := hW.trans kw1
            have st1 := kw1.stp hW.ok
            refine ol_v (e_mv _ rfl) rfl ?_
            refine ol_v (e_ext _ rfl rfl) rfl ?_
            refine ol_v (e_ext _ rfl rfl) rfl ?_
            refine ol_v (e_as _ rfl) rfl ?_
            refine ol_v (e_as _ rfl) rfl ?_
            obtain rfl := Option.some.inj hr
            exact ol_nil ⟨Fz81, hW83, g5, g10, (h0.keep st1), (h1.keep st1), p5, (h5.wk kw1 hW.ok), (h7.wk kw1 hW.ok), p10, (h10.wk kw1 hW.ok), (h11.wk kw1 hW.ok), rfl, rfl, (h23.keep st1), h24, h25, (h34.keep st1), h35, h36, a7o_10b⟩
          refine Ref.seq (B := G17 w0 F0) ?_ ?_
          · refine Ref.region (fun s ρ w s' h hr => ?_)
            obtain ⟨F, hW, g5, g10, h0, h1, p5, h5, h7, p10, h10, h11, h14, h15, h23, h24, h25, h34, h35, h36, a7o_10b⟩ := h
            refine ol_v (e_mv _ h15) rfl ?_
            obtain rfl := Option.some.inj hr
            exact ol_nil ⟨F, hW, g5, g10, h0, h1, p5, h5, h7, p10, h10, h11, h14, h23, h24, h25, h34, h35, h36, rfl, a7o_10b⟩
          refine Ref.cond (b := fun s => s.t_46) (fun s ρ w ⟨F, hW, g5, g10, h0, h1, p5, h5, h7, p10, h10, h11, h14, h23, h24, h25, h34, h35, h36, h46, a7o_10b⟩ => h46) (Ref.pre (A := G18 w0 F0) ?_ (fun s ρ w h => (fun ⟨F, hW, g5, g10, h0, h1, p5, h5, h7, p10, h10, h11, h14, h23, h24, h25, h34, h35, h36, h46, a7o_10b⟩ => ⟨F, hW, g5, g10, h0, h1, p5, h5, h7, p10, h10, h11, h14, h23, h24, h25, h34, h35, h36, a7o_10b⟩ : G17 w0 F0 s ρ w → G18 w0 F0 s ρ w) h.2)) (Ref.pre (A := G13 w0 F0) ?_ (fun s ρ w h => (fun ⟨F, hW, g5, g10, h0, h1, p5, h5, h7, p10, h10, h11, h14, h23, h24, h25, h34, h35, h36, h46, a7o_10b⟩ => ⟨F, hW, g5, g10, h0, h1, p5, h5, h7, p10, h10, h11, h23, h24, h25, h34, h35, h36, a7o_10b⟩ : G17 w0 F0 s ρ w → G13 w0 F0 s ρ w) h.2))
          · refine Ref.region (fun s ρ w s' h hr => ?_)
            obtain ⟨F, hW, g5, g10, h0, h1, p5, h5, h7, p10, h10, h11, h14, h23, h24, h25, h34, h35, h36, a7o_10b⟩ := h
            refine ol_v (e_mv _ rfl) rfl ?_
            refine ol_v (e_mv _ h14) rfl ?_
            refine ol_e (f_bslF sl_23 hW ([s.i_14] : List Int) [.int .i64 s.i_14] (by exact ⟨_, _, rfl, (val_int _ _), rfl⟩) rfl (Nat.le_of_ble_eq_true rfl) (lcons (congrArg (Prod.mk 0) rfl) rfl)) rfl rfl ?_
            rintro v84 w85 ⟨Fz87, kw1, ho86⟩
            have hW88 := hW.trans kw1
            have st1 := kw1.stp hW.ok
            obtain ⟨x89, hx89, hr⟩ := bind_some' hr
            refine ol_e (f_app sl_23 hW88 (h11.wk kw1 hW.ok) ho86 hx89 rfl rfl) rfl rfl ?_
            rintro v90 w91 ⟨hW92, ho93, hg2, st2, hor94⟩
            refine ol_v (e_as _ rfl) rfl ?_
            obtain rfl := Option.some.inj hr
            exact ol_nil ⟨Fz87, hW92, g5, g10, (h0.keep (st1.trans st2)), (h1.keep (st1.trans st2)), p5, ((h5.wk kw1 hW.ok).mut (apart_bo (h5.wk kw1 hW.ok) (h11.wk kw1 hW.ok) rfl).symm hg2 st2), ((h7.wk kw1 hW.ok).mut (apart_oo (h11.wk kw1 hW.ok) (h7.wk kw1 hW.ok) rfl) hg2 st2), p10, ((h10.wk kw1 hW.ok).mut (apart_bo (h10.wk kw1 hW.ok) (h11.wk kw1 hW.ok) rfl).symm hg2 st2), ho93, (h23.keep (st1.trans st2)), h24, h25, (h34.keep (st1.trans st2)), h35, h36, a7o_10b⟩
          · exact Ref.skip
        refine Ref.region (fun s ρ w s' h hr => ?_)
        obtain ⟨F, hW, g5, g10, h0, h1, p5, h5, h7, p10, h10, h11, h23, h24, h25, h34, h35, h36, a7o_10b⟩ := h
        refine ol_v (e_add h36 rfl) rfl ?_
        refine ol_v (e_mv _ rfl) rfl ?_
        obtain rfl := Option.some.inj hr
        exact ol_nil ⟨F, hW, g5, g10, h0, h1, p5, h5, h7, p10, h10, h11, h23, h24, h25, h34, h35, rfl, a7o_10b⟩
      refine Ref.seq (B := G11 w0 F0) ?_ ?_
      · refine Ref.region (fun s ρ w s' h hr => ?_)
        obtain ⟨F, hW, g5, g10, h0, h1, p5, h5, h7, p10, h10, h11, h23, h24, h25, a7o_10b⟩ := h
        refine ol_v (e_mv _ rfl) rfl ?_
        refine ol_v (e_fa fa_56_0 p10) rfl ?_
        obtain ⟨Fz95, hWz96, st1, hF1, hz97⟩ := (h11).frozen hW
        refine ol_eN (f_stB hWz96 (h10.frz (apart_bo h10 h11 rfl).symm hF1 st1) fs_Commit_0 ty_23 (val_sl hz97) rfl rfl) rfl ?_
        rintro - w98 ⟨hW99, ho100, hg2, st2⟩
        obtain rfl := Option.some.inj hr
        exact ol_nil ⟨Fz95, hW99, g5, g10, (h0.keep (st1.trans st2)), (h1.keep (st1.trans st2)), p5, ((h5.frz (apart_bo h5 h11 rfl).symm hF1 st1).mut (apart_bb (h10.frz (apart_bo h10 h11 rfl).symm hF1 st1) (h5.frz (apart_bo h5 h11 rfl).symm hF1 st1) rfl) hg2 st2), ((h7.frz (apart_oo h11 h7 rfl) hF1 st1).mut a7o_10b.symm hg2 st2), p10, ho100, (h23.keep (st1.trans st2)), h24, h25, a7o_10b.symm.symm⟩
      refine Ref.region (fun s ρ w s' h hr => ?_)
      obtain ⟨F, hW, g5, g10, h0, h1, p5, h5, h7, p10, h10, h23, h24, h25, a7o_10b⟩ := h
      refine ol_v (e_mv _ rfl) rfl ?_
      obtain ⟨v101, hl102⟩ := LiesAt.v (h10).at_
      refine ol_v (e_ld ty_56 hl102 p10) rfl ?_
      refine ol_e (f_bslF sl_22 hW ([s.c_10] : List Commit) [v101] (by exact ⟨_, _, rfl, hl102.val, rfl⟩) rfl (Nat.le_of_ble_eq_true rfl) (lcons (congrArg (Prod.mk 0) rfl) rfl)) rfl rfl ?_
      rintro v103 w104 ⟨Fz106, kw1, ho105⟩
      have hW107 := hW.trans kw1
      have st1 := kw1.stp hW.ok
      obtain ⟨x108, hx108, hr⟩ := bind_some' hr
      refine ol_e (f_app sl_22 hW107 (h7.wk kw1 hW.ok) ho105 hx108 rfl rfl) rfl rfl ?_
      rintro v109 w110 ⟨hW111, ho112, hg2, st2, hor113⟩
      refine ol_v (e_as _ rfl) rfl ?_
      obtain rfl := Option.some.inj hr
      exact ol_nil ⟨Fz106, hW111, g5, (h0.keep (st1.trans st2)), (h1.keep (st1.trans st2)), p5, ((h5.wk kw1 hW.ok).mut (apart_bo (h5.wk kw1 hW.ok) (h7.wk kw1 hW.ok) rfl).symm hg2 st2), ho112, (h23.keep (st1.trans st2)), h24, h25⟩
    refine Ref.region (fun s ρ w s' h hr => ?_)
    obtain ⟨F, hW, g5, h0, h1, p5, h5, h7, h23, h24, h25⟩ := h
    refine ol_v (e_add h25 rfl) rfl ?_
    refine ol_v (e_mv _ rfl) rfl ?_
    obtain rfl := Option.some.inj hr
    exact ol_nil ⟨F, hW, g5, h0, h1, p5, h5, h7, h23, h24, rfl⟩
  refine Ref.seq (B := G5 w0 F0) ?_ ?_
  · refine Ref.region (fun s ρ w s' h hr => ?_)
    obtain ⟨F, hW, g5, p5, h5, h7⟩ := h
    refine ol_v (e_mv _ rfl) rfl ?_
    refine ol_v (e_bld (cells := #[.int .i64 0, .int .i64 0]) bld_26 (vs := []) rfl rfl) rfl ?_
    have hb114 : Val k_Fault F w (.agg #[.int .i64 0, .int .i64 0]) (⟨(0 : Int), (0 : Int)⟩ : Fault) := mk_Fault (val_int _ _) (val_int _ _)
    refine ol_v (e_as _ rfl) rfl ?_
    refine ol_eN (f_stB hW h5 (FldS.whole _) ty_26 hb114 p5 rfl) rfl ?_
    rintro - w115 ⟨hW116, ho117, hg1, st1⟩
    obtain rfl := Option.some.inj hr
    exact ol_nil ⟨F, hW116, g5, (h7.mut (apart_bo h5 h7 rfl) hg1 st1), p5, ho117⟩
  exact Ref.ret (fun s ρ w h => ⟨s, rfl, h⟩)
def post (w : World) (F : BSet) (r : R) (v : Value) (w' : World) : Prop := ∃ (F' : BSet) (v0' : Value) (v1' : Value), v = .tuple #[v0', v1'] ∧ Wk nrow w F F' w' ∧ OwnV k_Commit 56 (Nw w) F' w' v0' r.1 ∧ Val k_Fault F' w' v1' r.2
theorem calls {w : World} {F : BSet} (hok : ∀ b, F b → b < w.heap.size) {v0 : Value} {a0 : (List Commit)} (h0 : SlR k_Commit F w v0 a0) {v1 : Value} {a1 : (List Int)} (h1 : SlR (kInt .i64) F w v1 a1) {r : R} (hf : f a0 a1 = some r) : Calls Try.prog 21 #[v0, v1] w fun e w' => ∃ v, e = .returned v ∧ post w F r v w' := by
  obtain ⟨c, hc, href⟩ := ref w F
  refine calls_of_ref (args := [v0, v1]) _ Try.func21 hc rfl rfl href ?_ (retOf_some hf) ?_
  · exact ⟨F, Wk.refl hok, h0, h1⟩
  · rintro ρ w' a ⟨s, rfl, F', hW, g5, h4, p5, h5⟩ hF
    obtain ⟨u5, l5, k5⟩ := res_box (P := Try.prog) ty_26 h5
    refine ⟨_, run_results (rs := [.tmp 4, .cell 5 26]) rfl hF (vs := [ρ 4, u5]) (⟨_, rfl, ⟨_, _, _, rfl, p5, l5, rfl⟩⟩), ?_⟩
    exact ⟨F', ρ 4, u5, rfl, hW, h4.rebase (fun g hg => (h4.lt hg).1.resolve_right (fun h => h)), k5⟩
end
end shallow_Extract

namespace law4_chain
section
def G0 (w0 : World) (F0 : BSet) (s : S) (ρ : Env) (w : World) : Prop := ∃ (F : BSet), Wk nrow w0 F0 F w ∧ ρ 0 = .int .i64 s.n_0
def G1 (w0 : World) (F0 : BSet) (s : S) (ρ : Env) (w : World) : Prop := ∃ (F : BSet), Wk nrow w0 F0 F w ∧ ρ 0 = .int .i64 s.n_0 ∧ OwnV k_Commit 56 (Bs w0 nrow) F w (ρ 3) s.l_3
def G2 (w0 : World) (F0 : BSet) (s : S) (ρ : Env) (w : World) : Prop := ∃ (F : BSet), Wk nrow w0 F0 F w ∧ ρ 0 = .int .i64 s.n_0 ∧ OwnV k_Commit 56 (Bs w0 nrow) F w (ρ 3) s.l_3 ∧ ρ 4 = .int .i64 s.i_4
def G3 (w0 : World) (F0 : BSet) (s : S) (ρ : Env) (w : World) : Prop := ∃ (F : BSet), Wk nrow w0 F0 F w ∧ ρ 0 = .int .i64 s.n_0 ∧ OwnV k_Commit 56 (Bs w0 nrow) F w (ρ 3) s.l_3 ∧ ρ 4 = .int .i64 s.i_4 ∧ ρ 8 = .bool s.t_8
def G4 (w0 : World) (F0 : BSet) (s : S) (ρ : Env) (w : World) : Prop := ∃ (F : BSet), Wk nrow w0 F0 F w ∧ OwnV k_Commit 56 (Bs w0 nrow) F w (ρ 3) s.l_3
def G5 (w0 : World) (F0 : BSet) (s : S) (ρ : Env) (w : World) : Prop := ∃ (F : BSet), Wk nrow w0 F0 F w ∧ ∃ (g5 : Nat), ρ 0 = .int .i64 s.n_0 ∧ OwnV k_Commit 56 (Bs w0 nrow) F w (ρ 3) s.l_3 ∧ ρ 4 = .int .i64 s.i_4 ∧ ρ 5 = .pointer (some ⟨g5, 0, none⟩) ∧ Box k_Commit 56 (Bs w0 nrow) F w g5 s.c_5 ∧ Apart (ρ 3).ownBlock (some g5)
def G6 (w0 : World) (F0 : BSet) (s : S) (ρ : Env) (w : World) : Prop := ∃ (F : BSet), Wk nrow w0 F0 F w ∧ ∃ (g5 : Nat), ρ 0 = .int .i64 s.n_0 ∧ OwnV k_Commit 56 (Bs w0 nrow) F w (ρ 3) s.l_3 ∧ ρ 4 = .int .i64 s.i_4 ∧ ρ 5 = .pointer (some ⟨g5, 0, none⟩) ∧ Box k_Commit 56 (Bs w0 nrow) F w g5 s.c_5 ∧ ρ 14 = .bool s.t_14 ∧ Apart (ρ 3).ownBlock (some g5)
def G7 (w0 : World) (F0 : BSet) (s : S) (ρ : Env) (w : World) : Prop := ∃ (F : BSet), Wk nrow w0 F0 F w ∧ OwnV k_Commit 56 (Bs w0 nrow) F w (ρ 2) s.t_2
set_option maxHeartbeats 4000000 in
set_option maxRecDepth 20000 in
theorem ref (w0 : World) (F0 : BSet) : ∃ c, Try.f34.body = some c ∧ Ref Try.prog 24 c (G0 w0 F0) body (fun _ _ _ => False) (fun _ _ _ _ => False) (fun r ρ w => ∃ s, retv s = r ∧ G7 w0 F0 s ρ w) := by
  refine ⟨_, rfl, ?_⟩
  unfold body
  refine Ref.seq (B := G0 w0 F0) ?_ ?_
  · refine Ref.region (fun s ρ w s' h hr => ?_)
    obtain ⟨F, hW, h0⟩ := h
    refine ol_v (e_as _ rfl) rfl ?_
    obtain rfl := Option.some.inj hr
    exact ol_nil ⟨F, hW, h0⟩
  refine Ref.seq (B := G1 w0 F0) ?_ ?_
  · refine Ref.region (fun s ρ w s' h hr => ?_)
    obtain ⟨F, hW, h0⟩ := h
    refine ol_v (e_as _ rfl) rfl ?_
    obtain rfl := Option.some.inj hr
    exact ol_nil ⟨F, hW, h0, (OwnV.nil k_Commit 56 (Bs w0 nrow) F w)⟩
  refine Ref.seq (B := G4 w0 F0) ?_ ?_
  · refine Ref.seq (B := G2 w0 F0) ?_ ?_
    · refine Ref.region (fun s ρ w s' h hr => ?_)
      obtain ⟨F, hW, h0, h3⟩ := h
      refine ol_v (e_as _ rfl) rfl ?_
      obtain rfl := Option.some.inj hr
      exact ol_nil ⟨F, hW, h0, h3, rfl⟩
    refine Ref.block ?_
    refine Ref.loop ?_
    refine Ref.seq (B := G2 w0 F0) ?_ ?_
    · refine Ref.seq (B := G3 w0 F0) ?_ ?_
      · refine Ref.region (fun s ρ w s' h hr => ?_)
        obtain ⟨F, hW, h0, h3, h4⟩ := h
        refine ol_v (e_mv _ h4) rfl ?_
        refine ol_v (e_mv _ h0) rfl ?_
        refine ol_v (e_lss rfl rfl) rfl ?_
        obtain rfl := Option.some.inj hr
        exact ol_nil ⟨F, hW, h0, h3, h4, rfl⟩
      refine Ref.cond (b := fun s => s.t_8) (fun s ρ w ⟨F, hW, h0, h3, h4, h8⟩ => h8) (Ref.pre (A := G2 w0 F0) ?_ (fun s ρ w h => (fun ⟨F, hW, h0, h3, h4, h8⟩ => ⟨F, hW, h0, h3, h4⟩ : G3 w0 F0 s ρ w → G2 w0 F0 s ρ w) h.2)) (Ref.pre (A := G4 w0 F0) ?_ (fun s ρ w h => (fun ⟨F, hW, h0, h3, h4, h8⟩ => ⟨F, hW, h3⟩ : G3 w0 F0 s ρ w → G4 w0 F0 s ρ w) h.2))
      · exact Ref.skip
      · exact Ref.exit (fun s ρ w h => h)
    refine Ref.seq (B := G2 w0 F0) ?_ ?_
    · refine Ref.block ?_
      refine Ref.seq (B := G5 w0 F0) ?_ ?_
      · refine Ref.region (fun s ρ w s' h hr => ?_)
        obtain ⟨F, hW, h0, h3, h4⟩ := h
        refine ol_v (e_mv _ h4) rfl ?_
        refine ol_v (e_bld (cells := #[.slice none 0 0, .int .i64 0, .int .i64 s.i_4, .int .i64 0, .string ByteArray.empty]) bld_56 (vs := [(2, .int .i64 s.i_4)]) (lcons (congrArg (Prod.mk 2) rfl) rfl) rfl) rfl ?_
        have hb1 : Val k_Commit F w (.agg #[.slice none 0 0, .int .i64 0, .int .i64 s.i_4, .int .i64 0, .string ByteArray.empty]) (⟨[], (0 : Int), s.i_4, (0 : Int), ByteArray.empty⟩ : Commit) := mk_Commit (val_sl (SlR.nil _ _ _)) (val_int _ _) (val_int _ _) (val_int _ _) (val_str _)
        refine ol_e (f_alloc zer_56 hW) rfl rfl ?_
        rintro _ w3 ⟨g2, rfl, kw1, ho4⟩
        have hW5 := hW.trans kw1
        have st1 := kw1.stp hW.ok
        refine ol_eN (f_stB hW5 (ho4.base (row := nrow) hW.le) (FldS.whole _) ty_56 (hb1.keep st1) rfl rfl) rfl ?_
        rintro - w6 ⟨hW7, ho8, hg2, st2⟩
        obtain rfl := Option.some.inj hr
        exact ol_nil ⟨F, hW7, g2, h0, ((h3.wk kw1 hW.ok).mut (Apart.base (fun _ e_ => by cases e_; exact ho4.ge) h3.ltw) hg2 st2), h4, rfl, ho8, (Apart.base (fun _ e_ => by cases e_; exact ho4.ge) h3.ltw).symm⟩
      refine Ref.seq (B := G5 w0 F0) ?_ ?_
      · refine Ref.seq (B := G6 w0 F0) ?_ ?_
        · refine Ref.region (fun s ρ w s' h hr => ?_)
          obtain ⟨F, hW, g5, h0, h3, h4, p5, h5, a3o_5b⟩ := h
          refine ol_v (e_mv _ h4) rfl ?_
          refine ol_v (e_gtr rfl rfl) rfl ?_
          obtain rfl := Option.some.inj hr
          exact ol_nil ⟨F, hW, g5, h0, h3, h4, p5, h5, rfl, a3o_5b⟩
        refine Ref.cond (b := fun s => s.t_14) (fun s ρ w ⟨F, hW, g5, h0, h3, h4, p5, h5, h14, a3o_5b⟩ => h14) (Ref.pre (A := G5 w0 F0) ?_ (fun s ρ w h => (fun ⟨F, hW, g5, h0, h3, h4, p5, h5, h14, a3o_5b⟩ => ⟨F, hW, g5, h0, h3, h4, p5, h5, a3o_5b⟩ : G6 w0 F0 s ρ w → G5 w0 F0 s ρ w) h.2)) (Ref.pre (A := G5 w0 F0) ?_ (fun s ρ w h => (fun ⟨F, hW, g5, h0, h3, h4, p5, h5, h14, a3o_5b⟩ => ⟨F, hW, g5, h0, h3, h4, p5, h5, a3o_5b⟩ : G6 w0 F0 s ρ w → G5 w0 F0 s ρ w) h.2))
        · refine Ref.region (fun s ρ w s' h hr => ?_)
          obtain ⟨F, hW, g5, h0, h3, h4, p5, h5, a3o_5b⟩ := h
          refine ol_v (e_mv _ h4) rfl ?_
          refine ol_v (e_sub rfl rfl) rfl ?_
          refine ol_e (f_bslF sl_23 hW ([w64 (s.i_4 - (1 : Int))] : List Int) [.int .i64 (w64 (s.i_4 - (1 : Int)))] (by exact ⟨_, _, rfl, (val_int _ _), rfl⟩) rfl (Nat.le_of_ble_eq_true rfl) (lcons (congrArg (Prod.mk 0) rfl) rfl)) rfl rfl ?_
          rintro v9 w10 ⟨Fz12, kw1, ho11⟩
          have hW13 := hW.trans kw1
          have st1 := kw1.stp hW.ok
          refine ol_v (e_fa fa_56_0 p5) rfl ?_
          refine ol_eN (f_stB hW13 (h5.wk kw1 hW.ok) fs_Commit_0 ty_23 (val_sl ho11) rfl rfl) rfl ?_
          rintro - w14 ⟨hW15, ho16, hg2, st2⟩
          obtain rfl := Option.some.inj hr
          exact ol_nil ⟨Fz12, hW15, g5, h0, ((h3.wk kw1 hW.ok).mut a3o_5b.symm hg2 st2), h4, p5, ho16, a3o_5b.symm.symm⟩
        · exact Ref.skip
      refine Ref.region (fun s ρ w s' h hr => ?_)
      obtain ⟨F, hW, g5, h0, h3, h4, p5, h5, a3o_5b⟩ := h
      refine ol_v (e_mv _ rfl) rfl ?_
      obtain ⟨v17, hl18⟩ := LiesAt.v (h5).at_
      refine ol_v (e_ld ty_56 hl18 p5) rfl ?_
      refine ol_e (f_bslF sl_22 hW ([s.c_5] : List Commit) [v17] (by exact ⟨_, _, rfl, hl18.val, rfl⟩) rfl (Nat.le_of_ble_eq_true rfl) (lcons (congrArg (Prod.mk 0) rfl) rfl)) rfl rfl ?_
      rintro v19 w20 ⟨Fz22, kw1, ho21⟩
      have hW23 := hW.trans kw1
      have st1 := kw1.stp hW.ok
      obtain ⟨x24, hx24, hr⟩ := bind_some' hr
      refine ol_e (f_app sl_22 hW23 (h3.wk kw1 hW.ok) ho21 hx24 rfl rfl) rfl rfl ?_
      rintro v25 w26 ⟨hW27, ho28, hg2, st2, hor29⟩
      refine ol_v (e_as _ rfl) rfl ?_
      obtain rfl := Option.some.inj hr
      exact ol_nil ⟨Fz22, hW27, h0, ho28, h4⟩
    refine Ref.region (fun s ρ w s' h hr => ?_)
    obtain ⟨F, hW, h0, h3, h4⟩ := h
    refine ol_v (e_mv _ h4) rfl ?_
    refine ol_v (e_add rfl rfl) rfl ?_
    refine ol_v (e_as _ rfl) rfl ?_
    obtain rfl := Option.some.inj hr
    exact ol_nil ⟨F, hW, h0, h3, rfl⟩
  refine Ref.seq (B := G7 w0 F0) ?_ ?_
  · refine Ref.region (fun s ρ w s' h hr => ?_)
    obtain ⟨F, hW, h3⟩ := h
    refine ol_v (e_mv _ rfl) rfl ?_
    refine ol_v (e_as _ rfl) rfl ?_
    obtain rfl := Option.some.inj hr
    exact ol_nil ⟨F, hW, h3⟩
  exact Ref.ret (fun s ρ w h => ⟨s, rfl, h⟩)
def post (w : World) (F : BSet) (r : R) (v : Value) (w' : World) : Prop := ∃ (F' : BSet) (v0' : Value), v = v0' ∧ Wk nrow w F F' w' ∧ OwnV k_Commit 56 (Nw w) F' w' v0' r
theorem calls {w : World} {F : BSet} (hok : ∀ b, F b → b < w.heap.size) (a0 : Int) {r : R} (hf : f a0 = some r) : Calls Try.prog 34 #[.int .i64 a0] w fun e w' => ∃ v, e = .returned v ∧ post w F r v w' := by
  obtain ⟨c, hc, href⟩ := ref w F
  refine calls_of_ref (args := [.int .i64 a0]) _ Try.func34 hc rfl rfl href ?_ (retOf_some hf) ?_
  · exact ⟨F, Wk.refl hok, rfl⟩
  · rintro ρ w' a ⟨s, rfl, F', hW, h2⟩ hF
    refine ⟨_, run_results (rs := [.tmp 2]) rfl hF (vs := [ρ 2]) (⟨_, rfl, rfl⟩), ?_⟩
    exact ⟨F', ρ 2, rfl, hW, h2.rebase (fun g hg => (h2.lt hg).1.resolve_right (fun h => h))⟩
end
end law4_chain

namespace law4_shallowExample
section
def G0 (w0 : World) (F0 : BSet) (s : S) (ρ : Env) (w : World) : Prop := ∃ (F : BSet), Wk nrow w0 F0 F w
def G1 (w0 : World) (F0 : BSet) (s : S) (ρ : Env) (w : World) : Prop := ∃ (F : BSet), Wk nrow w0 F0 F w ∧ ∃ (g2 : Nat), SlR (kInt .i64) F w (ρ 1) s.t_1 ∧ ρ 2 = .pointer (some ⟨g2, 0, none⟩) ∧ Box k_Fault 26 (Bs w0 nrow) F w g2 s.t_2
def G2 (w0 : World) (F0 : BSet) (s : S) (ρ : Env) (w : World) : Prop := ∃ (F : BSet), Wk nrow w0 F0 F w ∧ ∃ (g2 : Nat) (g4 : Nat), SlR (kInt .i64) F w (ρ 1) s.t_1 ∧ ρ 2 = .pointer (some ⟨g2, 0, none⟩) ∧ Box k_Fault 26 (Bs w0 nrow) F w g2 s.t_2 ∧ SlR (kInt .i64) F w (ρ 3) s.t_3 ∧ ρ 4 = .pointer (some ⟨g4, 0, none⟩) ∧ Box k_Fault 26 (Bs w0 nrow) F w g4 s.t_4 ∧ Apart (some g2) (some g4)
def G3 (w0 : World) (F0 : BSet) (s : S) (ρ : Env) (w : World) : Prop := ∃ (F : BSet), Wk nrow w0 F0 F w ∧ ∃ (g2 : Nat) (g4 : Nat) (g6 : Nat), SlR (kInt .i64) F w (ρ 1) s.t_1 ∧ ρ 2 = .pointer (some ⟨g2, 0, none⟩) ∧ Box k_Fault 26 (Bs w0 nrow) F w g2 s.t_2 ∧ SlR (kInt .i64) F w (ρ 3) s.t_3 ∧ ρ 4 = .pointer (some ⟨g4, 0, none⟩) ∧ Box k_Fault 26 (Bs w0 nrow) F w g4 s.t_4 ∧ SlR (kInt .i64) F w (ρ 5) s.t_5 ∧ ρ 6 = .pointer (some ⟨g6, 0, none⟩) ∧ Box k_Fault 26 (Bs w0 nrow) F w g6 s.t_6 ∧ Apart (some g2) (some g4) ∧ Apart (some g2) (some g6) ∧ Apart (some g4) (some g6)
def G4 (w0 : World) (F0 : BSet) (s : S) (ρ : Env) (w : World) : Prop := ∃ (F : BSet), Wk nrow w0 F0 F w ∧ ∃ (g2 : Nat) (g4 : Nat) (g6 : Nat) (g8 : Nat), SlR (kInt .i64) F w (ρ 1) s.t_1 ∧ ρ 2 = .pointer (some ⟨g2, 0, none⟩) ∧ Box k_Fault 26 (Bs w0 nrow) F w g2 s.t_2 ∧ SlR (kInt .i64) F w (ρ 3) s.t_3 ∧ ρ 4 = .pointer (some ⟨g4, 0, none⟩) ∧ Box k_Fault 26 (Bs w0 nrow) F w g4 s.t_4 ∧ SlR (kInt .i64) F w (ρ 5) s.t_5 ∧ ρ 6 = .pointer (some ⟨g6, 0, none⟩) ∧ Box k_Fault 26 (Bs w0 nrow) F w g6 s.t_6 ∧ SlR k_Commit F w (ρ 7) s.t_7 ∧ ρ 8 = .pointer (some ⟨g8, 0, none⟩) ∧ Box k_Fault 26 (Bs w0 nrow) F w g8 s.t_8 ∧ Apart (some g2) (some g4) ∧ Apart (some g2) (some g6) ∧ Apart (some g2) (some g8) ∧ Apart (some g4) (some g6) ∧ Apart (some g4) (some g8) ∧ Apart (some g6) (some g8)
def G5 (w0 : World) (F0 : BSet) (s : S) (ρ : Env) (w : World) : Prop := ∃ (F : BSet), Wk nrow w0 F0 F w ∧ ρ 0 = .bool s.t_0
set_option maxHeartbeats 4000000 in
set_option maxRecDepth 20000 in
theorem ref (w0 : World) (F0 : BSet) : ∃ c, Try.f12.body = some c ∧ Ref Try.prog 87 c (G0 w0 F0) body (fun _ _ _ => False) (fun _ _ _ _ => False) (fun r ρ w => ∃ s, retv s = r ∧ G5 w0 F0 s ρ w) := by
  refine ⟨_, rfl, ?_⟩
  unfold body
  refine Ref.seq (B := G0 w0 F0) ?_ ?_
  · refine Ref.region (fun s ρ w s' h hr => ?_)
    obtain ⟨F, hW⟩ := h
    refine ol_v (e_as _ rfl) rfl ?_
    obtain rfl := Option.some.inj hr
    exact ol_nil ⟨F, hW⟩
  refine Ref.seq (B := G1 w0 F0) ?_ ?_
  · refine Ref.region (fun s ρ w s' h hr => ?_)
    obtain ⟨F, hW⟩ := h
    obtain ⟨x1, hx1, hr⟩ := bind_some' hr
    refine ol_e (f_call [.int .i64 (3 : Int)] fn_34 (lcons rfl rfl) (law4_chain.calls hW.ok (3 : Int) hx1)) rfl rfl ?_
    rintro v4 w2 ⟨Fz3, _, rfl, kw1, hk5⟩
    have hW7 := hW.trans kw1
    have st1 := kw1.stp hW.ok
    refine ol_e (f_bslF sl_23 hW7 ([(2 : Int)] : List Int) [.int .i64 (2)] (by exact ⟨_, _, rfl, (val_int _ _), rfl⟩) rfl (Nat.le_of_ble_eq_true rfl) (lcons (congrArg (Prod.mk 0) rfl) rfl)) rfl rfl ?_
    rintro v8 w9 ⟨Fz11, kw2, ho10⟩
    have hW12 := hW7.trans kw2
    have st2 := kw2.stp hW7.ok
    obtain ⟨Fl13, okl13, stl13, hFl13, hl13⟩ := OwnV.lent ((hk5.base (row := nrow) hW.le).wk kw2 hW7.ok) hW12.ok
    obtain ⟨x14, hx14, hr⟩ := bind_some' hr
    refine ol_e (f_call [v4, v8, .int .i64 (2 : Int)] fn_13 (lcons rfl (lcons rfl (lcons rfl rfl))) (shallow_Cut.calls okl13 hl13 (ho10.keep stl13) (2 : Int) hx14)) rfl rfl ?_
    rintro _ w15 ⟨Fz16, v17, v19, rfl, kw3, hk18, hk20⟩
    have kw3 := kw3.lend hW12.ok
    have hW22 := hW12.trans kw3
    have st3 := kw3.stp hW12.ok
    refine ol_v (e_mv _ rfl) rfl ?_
    refine ol_v (e_ext _ rfl rfl) rfl ?_
    refine ol_v (e_ext _ rfl rfl) rfl ?_
    refine ol_e (f_alloc zer_26 hW22) rfl rfl ?_
    rintro _ w24 ⟨g23, rfl, kw4, ho25⟩
    have hW26 := hW22.trans kw4
    have st4 := kw4.stp hW22.ok
    obtain ⟨Fz27, hWz28, st5, hF5, hz29⟩ := ((((OwnV.plain (plain_int _) hk18 hW12.ok).base (row := nrow) hW12.le).wk kw4 hW22.ok)).frozen hW26
    refine ol_v (e_as _ rfl) rfl ?_
    refine ol_eN (f_stB hWz28 ((ho25.base (row := nrow) hW22.le).frz (apart_bo (ho25.base (row := nrow) hW22.le) (((OwnV.plain (plain_int _) hk18 hW12.ok).base (row := nrow) hW12.le).wk kw4 hW22.ok) rfl).symm hF5 st5) (FldS.whole _) ty_26 ((Val.plain plain_Fault hk20).keep (st4.trans st5)) rfl rfl) rfl ?_
    rintro - w30 ⟨hW31, ho32, hg6, st6⟩
    obtain rfl := Option.some.inj hr
    exact ol_nil ⟨Fz27, hW31, g23, (hz29.keep st6), rfl, ho32⟩
  refine Ref.seq (B := G2 w0 F0) ?_ ?_
  · refine Ref.region (fun s ρ w s' h hr => ?_)
    obtain ⟨F, hW, g2, h1, p2, h2⟩ := h
    obtain ⟨x33, hx33, hr⟩ := bind_some' hr
    refine ol_e (f_call [.int .i64 (3 : Int)] fn_34 (lcons rfl rfl) (law4_chain.calls hW.ok (3 : Int) hx33)) rfl rfl ?_
    rintro v36 w34 ⟨Fz35, _, rfl, kw1, hk37⟩
    have hW39 := hW.trans kw1
    have st1 := kw1.stp hW.ok
    refine ol_e (f_bslF sl_23 hW39 ([(1 : Int), (2 : Int)] : List Int) [.int .i64 (1), .int .i64 (2)] (by exact ⟨_, _, rfl, (val_int _ _), ⟨_, _, rfl, (val_int _ _), rfl⟩⟩) rfl (Nat.le_of_ble_eq_true rfl) (lcons (congrArg (Prod.mk 0) rfl) (lcons (congrArg (Prod.mk 1) rfl) rfl))) rfl rfl ?_
    rintro v40 w41 ⟨Fz43, kw2, ho42⟩
    have hW44 := hW39.trans kw2
    have st2 := kw2.stp hW39.ok
    obtain ⟨Fl45, okl45, stl45, hFl45, hl45⟩ := OwnV.lent ((hk37.base (row := nrow) hW.le).wk kw2 hW39.ok) hW44.ok
    obtain ⟨x46, hx46, hr⟩ := bind_some' hr
    refine ol_e (f_call [v36, v40] fn_19 (lcons rfl (lcons rfl rfl)) (shallow_Boundary.calls okl45 hl45 (ho42.keep stl45) hx46)) rfl rfl ?_
    rintro _ w47 ⟨Fz48, v49, v51, rfl, kw3, hk50, hk52⟩
    have kw3 := kw3.lend hW44.ok
    have hW54 := hW44.trans kw3
    have st3 := kw3.stp hW44.ok
    refine ol_v (e_mv _ rfl) rfl ?_
    refine ol_v (e_ext _ rfl rfl) rfl ?_
    refine ol_v (e_ext _ rfl rfl) rfl ?_
    refine ol_e (f_alloc zer_26 hW54) rfl rfl ?_
    rintro _ w56 ⟨g55, rfl, kw4, ho57⟩
    have hW58 := hW54.trans kw4
    have st4 := kw4.stp hW54.ok
    obtain ⟨Fz59, hWz60, st5, hF5, hz61⟩ := ((((OwnV.plain (plain_int _) hk50 hW44.ok).base (row := nrow) hW44.le).wk kw4 hW54.ok)).frozen hW58
    refine ol_v (e_as _ rfl) rfl ?_
    refine ol_eN (f_stB hWz60 ((ho57.base (row := nrow) hW54.le).frz (apart_bo (ho57.base (row := nrow) hW54.le) (((OwnV.plain (plain_int _) hk50 hW44.ok).base (row := nrow) hW44.le).wk kw4 hW54.ok) rfl).symm hF5 st5) (FldS.whole _) ty_26 ((Val.plain plain_Fault hk52).keep (st4.trans st5)) rfl rfl) rfl ?_
    rintro - w62 ⟨hW63, ho64, hg6, st6⟩
    obtain rfl := Option.some.inj hr
    exact ol_nil ⟨Fz59, hW63, g2, g55, (h1.keep (st1.trans (st2.trans (st3.trans (st4.trans (st5.trans st6)))))), p2, ((((((h2.wk kw1 hW.ok).wk kw2 hW39.ok).wk kw3 hW44.ok).wk kw4 hW54.ok).frz (apart_bo ((((h2.wk kw1 hW.ok).wk kw2 hW39.ok).wk kw3 hW44.ok).wk kw4 hW54.ok) (((OwnV.plain (plain_int _) hk50 hW44.ok).base (row := nrow) hW44.le).wk kw4 hW54.ok) rfl).symm hF5 st5).mut (Apart.base (fun _ e_ => by cases e_; exact ho57.ge) (((h2.wk kw1 hW.ok).wk kw2 hW39.ok).wk kw3 hW44.ok).ltw) hg6 st6), (hz61.keep st6), rfl, ho64, (Apart.base (fun _ e_ => by cases e_; exact ho57.ge) (((h2.wk kw1 hW.ok).wk kw2 hW39.ok).wk kw3 hW44.ok).ltw).symm⟩
  refine Ref.seq (B := G3 w0 F0) ?_ ?_
  · refine Ref.region (fun s ρ w s' h hr => ?_)
    obtain ⟨F, hW, g2, g4, h1, p2, h2, h3, p4, h4, a2b_4b⟩ := h
    obtain ⟨x65, hx65, hr⟩ := bind_some' hr
    refine ol_e (f_call [.int .i64 (3 : Int)] fn_34 (lcons rfl rfl) (law4_chain.calls hW.ok (3 : Int) hx65)) rfl rfl ?_
    rintro v68 w66 ⟨Fz67, _, rfl, kw1, hk69⟩
    have hW71 := hW.trans kw1
    have st1 := kw1.stp hW.ok
    refine ol_e (f_bslF sl_23 hW71 ([(1 : Int), (2 : Int)] : List Int) [.int .i64 (1), .int .i64 (2)] (by exact ⟨_, _, rfl, (val_int _ _), ⟨_, _, rfl, (val_int _ _), rfl⟩⟩) rfl (Nat.le_of_ble_eq_true rfl) (lcons (congrArg (Prod.mk 0) rfl) (lcons (congrArg (Prod.mk 1) rfl) rfl))) rfl rfl ?_
    rintro v72 w73 ⟨Fz75, kw2, ho74⟩
    have hW76 := hW71.trans kw2
    have st2 := kw2.stp hW71.ok
    obtain ⟨Fl77, okl77, stl77, hFl77, hl77⟩ := OwnV.lent ((hk69.base (row := nrow) hW.le).wk kw2 hW71.ok) hW76.ok
    obtain ⟨x78, hx78, hr⟩ := bind_some' hr
    refine ol_e (f_call [v68, v72, .int .i64 (1 : Int)] fn_20 (lcons rfl (lcons rfl (lcons rfl rfl))) (shallow_Deepen.calls okl77 hl77 (ho74.keep stl77) (1 : Int) hx78)) rfl rfl ?_
    rintro _ w79 ⟨Fz80, v81, v83, rfl, kw3, hk82, hk84⟩
    have kw3 := kw3.lend hW76.ok
    have hW86 := hW76.trans kw3
    have st3 := kw3.stp hW76.ok
    refine ol_v (e_mv _ rfl) rfl ?_
    refine ol_v (e_ext _ rfl rfl) rfl ?_
    refine ol_v (e_ext _ rfl rfl) rfl ?_
    refine ol_e (f_alloc zer_26 hW86) rfl rfl ?_
    rintro _ w88 ⟨g87, rfl, kw4, ho89⟩
    have hW90 := hW86.trans kw4
    have st4 := kw4.stp hW86.ok
    obtain ⟨Fz91, hWz92, st5, hF5, hz93⟩ := ((((OwnV.plain (plain_int _) hk82 hW76.ok).base (row := nrow) hW76.le).wk kw4 hW86.ok)).frozen hW90
    refine ol_v (e_as _ rfl) rfl ?_
    refine ol_eN (f_stB hWz92 ((ho89.base (row := nrow) hW86.le).frz (apart_bo (ho89.base (row := nrow) hW86.le) (((OwnV.plain (plain_int _) hk82 hW76.ok).base (row := nrow) hW76.le).wk kw4 hW86.ok) rfl).symm hF5 st5) (FldS.whole _) ty_26 ((Val.plain plain_Fault hk84).keep (st4.trans st5)) rfl rfl) rfl ?_
    rintro - w94 ⟨hW95, ho96, hg6, st6⟩
    obtain rfl := Option.some.inj hr
    exact ol_nil ⟨Fz91, hW95, g2, g4, g87, (h1.keep (st1.trans (st2.trans (st3.trans (st4.trans (st5.trans st6)))))), p2, ((((((h2.wk kw1 hW.ok).wk kw2 hW71.ok).wk kw3 hW76.ok).wk kw4 hW86.ok).frz (apart_bo ((((h2.wk kw1 hW.ok).wk kw2 hW71.ok).wk kw3 hW76.ok).wk kw4 hW86.ok) (((OwnV.plain (plain_int _) hk82 hW76.ok).base (row := nrow) hW76.le).wk kw4 hW86.ok) rfl).symm hF5 st5).mut (Apart.base (fun _ e_ => by cases e_; exact ho89.ge) (((h2.wk kw1 hW.ok).wk kw2 hW71.ok).wk kw3 hW76.ok).ltw) hg6 st6), (h3.keep (st1.trans (st2.trans (st3.trans (st4.trans (st5.trans st6)))))), p4, ((((((h4.wk kw1 hW.ok).wk kw2 hW71.ok).wk kw3 hW76.ok).wk kw4 hW86.ok).frz (apart_bo ((((h4.wk kw1 hW.ok).wk kw2 hW71.ok).wk kw3 hW76.ok).wk kw4 hW86.ok) (((OwnV.plain (plain_int _) hk82 hW76.ok).base (row := nrow) hW76.le).wk kw4 hW86.ok) rfl).symm hF5 st5).mut (Apart.base (fun _ e_ => by cases e_; exact ho89.ge) (((h4.wk kw1 hW.ok).wk kw2 hW71.ok).wk kw3 hW76.ok).ltw) hg6 st6), (hz93.keep st6), rfl, ho96, a2b_4b, (Apart.base (fun _ e_ => by cases e_; exact ho89.ge) (((h2.wk kw1 hW.ok).wk kw2 hW71.ok).wk kw3 hW76.ok).ltw).symm, (Apart.base (fun _ e_ => by cases e_; exact ho89.ge) (((h4.wk kw1 hW.ok).wk kw2 hW71.ok).wk kw3 hW76.ok).ltw).symm⟩
  refine Ref.seq (B := G4 w0 F0) ?_ ?_
  · refine Ref.region (fun s ρ w s' h hr => ?_)
    obtain ⟨F, hW, g2, g4, g6, h1, p2, h2, h3, p4, h4, h5, p6, h6, a2b_4b, a2b_6b, a4b_6b⟩ := h
    obtain ⟨x97, hx97, hr⟩ := bind_some' hr
    refine ol_e (f_call [.int .i64 (3 : Int)] fn_34 (lcons rfl rfl) (law4_chain.calls hW.ok (3 : Int) hx97)) rfl rfl ?_
    rintro v100 w98 ⟨Fz99, _, rfl, kw1, hk101⟩
    have hW103 := hW.trans kw1
    have st1 := kw1.stp hW.ok
    refine ol_e (f_bslF sl_23 hW103 ([(1 : Int), (2 : Int)] : List Int) [.int .i64 (1), .int .i64 (2)] (by exact ⟨_, _, rfl, (val_int _ _), ⟨_, _, rfl, (val_int _ _), rfl⟩⟩) rfl (Nat.le_of_ble_eq_true rfl) (lcons (congrArg (Prod.mk 0) rfl) (lcons (congrArg (Prod.mk 1) rfl) rfl))) rfl rfl ?_
    rintro v104 w105 ⟨Fz107, kw2, ho106⟩
    have hW108 := hW103.trans kw2
    have st2 := kw2.stp hW103.ok
    obtain ⟨Fz109, hWz110, st3, hF3, hz111⟩ := (((hk101.base (row := nrow) hW.le).wk kw2 hW103.ok)).frozen hW108
    obtain ⟨x112, hx112, hr⟩ := bind_some' hr
    refine ol_e (f_call [v100, v104] fn_21 (lcons rfl (lcons rfl rfl)) (shallow_Extract.calls hWz110.ok hz111 (ho106.keep st3) hx112)) rfl rfl ?_
    rintro _ w113 ⟨Fz114, v115, v117, rfl, kw4, hk116, hk118⟩
    have hW120 := hWz110.trans kw4
    have st4 := kw4.stp hWz110.ok
    refine ol_v (e_mv _ rfl) rfl ?_
    refine ol_v (e_ext _ rfl rfl) rfl ?_
    refine ol_v (e_ext _ rfl rfl) rfl ?_
    refine ol_e (f_alloc zer_26 hW120) rfl rfl ?_
    rintro _ w122 ⟨g121, rfl, kw5, ho123⟩
    have hW124 := hW120.trans kw5
    have st5 := kw5.stp hW120.ok
    obtain ⟨Fz125, hWz126, st6, hF6, hz127⟩ := (((hk116.base (row := nrow) hWz110.le).wk kw5 hW120.ok)).frozen hW124
    refine ol_v (e_as _ rfl) rfl ?_
    refine ol_eN (f_stB hWz126 ((ho123.base (row := nrow) hW120.le).frz (apart_bo (ho123.base (row := nrow) hW120.le) ((hk116.base (row := nrow) hWz110.le).wk kw5 hW120.ok) rfl).symm hF6 st6) (FldS.whole _) ty_26 (hk118.keep (st5.trans st6)) rfl rfl) rfl ?_
    rintro - w128 ⟨hW129, ho130, hg7, st7⟩
    obtain rfl := Option.some.inj hr
    exact ol_nil ⟨Fz125, hW129, g2, g4, g6, g121, (h1.keep (st1.trans (st2.trans (st3.trans (st4.trans (st5.trans (st6.trans st7))))))), p2, (((((((h2.wk kw1 hW.ok).wk kw2 hW103.ok).frz (apart_bo ((h2.wk kw1 hW.ok).wk kw2 hW103.ok) ((hk101.base (row := nrow) hW.le).wk kw2 hW103.ok) rfl).symm hF3 st3).wk kw4 hWz110.ok).wk kw5 hW120.ok).frz (apart_bo (((((h2.wk kw1 hW.ok).wk kw2 hW103.ok).frz (apart_bo ((h2.wk kw1 hW.ok).wk kw2 hW103.ok) ((hk101.base (row := nrow) hW.le).wk kw2 hW103.ok) rfl).symm hF3 st3).wk kw4 hWz110.ok).wk kw5 hW120.ok) ((hk116.base (row := nrow) hWz110.le).wk kw5 hW120.ok) rfl).symm hF6 st6).mut (Apart.base (fun _ e_ => by cases e_; exact ho123.ge) ((((h2.wk kw1 hW.ok).wk kw2 hW103.ok).frz (apart_bo ((h2.wk kw1 hW.ok).wk kw2 hW103.ok) ((hk101.base (row := nrow) hW.le).wk kw2 hW103.ok) rfl).symm hF3 st3).wk kw4 hWz110.ok).ltw) hg7 st7), (h3.keep (st1.trans (st2.trans (st3.trans (st4.trans (st5.trans (st6.trans st7))))))), p4, (((((((h4.wk kw1 hW.ok).wk kw2 hW103.ok).frz (apart_bo ((h4.wk kw1 hW.ok).wk kw2 hW103.ok) ((hk101.base (row := nrow) hW.le).wk kw2 hW103.ok) rfl).symm hF3 st3).wk kw4 hWz110.ok).wk kw5 hW120.ok).frz (apart_bo (((((h4.wk kw1 hW.ok).wk kw2 hW103.ok).frz (apart_bo ((h4.wk kw1 hW.ok).wk kw2 hW103.ok) ((hk101.base (row := nrow) hW.le).wk kw2 hW103.ok) rfl).symm hF3 st3).wk kw4 hWz110.ok).wk kw5 hW120.ok) ((hk116.base (row := nrow) hWz110.le).wk kw5 hW120.ok) rfl).symm hF6 st6).mut (Apart.base (fun _ e_ => by cases e_; exact ho123.ge) ((((h4.wk kw1 hW.ok).wk kw2 hW103.ok).frz (apart_bo ((h4.wk kw1 hW.ok).wk kw2 hW103.ok) ((hk101.base (row := nrow) hW.le).wk kw2 hW103.ok) rfl).symm hF3 st3).wk kw4 hWz110.ok).ltw) hg7 st7), (h5.keep (st1.trans (st2.trans (st3.trans (st4.trans (st5.trans (st6.trans st7))))))), p6, (((((((h6.wk kw1 hW.ok).wk kw2 hW103.ok).frz (apart_bo ((h6.wk kw1 hW.ok).wk kw2 hW103.ok) ((hk101.base (row := nrow) hW.le).wk kw2 hW103.ok) rfl).symm hF3 st3).wk kw4 hWz110.ok).wk kw5 hW120.ok).frz (apart_bo (((((h6.wk kw1 hW.ok).wk kw2 hW103.ok).frz (apart_bo ((h6.wk kw1 hW.ok).wk kw2 hW103.ok) ((hk101.base (row := nrow) hW.le).wk kw2 hW103.ok) rfl).symm hF3 st3).wk kw4 hWz110.ok).wk kw5 hW120.ok) ((hk116.base (row := nrow) hWz110.le).wk kw5 hW120.ok) rfl).symm hF6 st6).mut (Apart.base (fun _ e_ => by cases e_; exact ho123.ge) ((((h6.wk kw1 hW.ok).wk kw2 hW103.ok).frz (apart_bo ((h6.wk kw1 hW.ok).wk kw2 hW103.ok) ((hk101.base (row := nrow) hW.le).wk kw2 hW103.ok) rfl).symm hF3 st3).wk kw4 hWz110.ok).ltw) hg7 st7), (hz127.keep st7), rfl, ho130, a2b_4b, a2b_6b, (Apart.base (fun _ e_ => by cases e_; exact ho123.ge) ((((h2.wk kw1 hW.ok).wk kw2 hW103.ok).frz (apart_bo ((h2.wk kw1 hW.ok).wk kw2 hW103.ok) ((hk101.base (row := nrow) hW.le).wk kw2 hW103.ok) rfl).symm hF3 st3).wk kw4 hWz110.ok).ltw).symm, a4b_6b, (Apart.base (fun _ e_ => by cases e_; exact ho123.ge) ((((h4.wk kw1 hW.ok).wk kw2 hW103.ok).frz (apart_bo ((h4.wk kw1 hW.ok).wk kw2 hW103.ok) ((hk101.base (row := nrow) hW.le).wk kw2 hW103.ok) rfl).symm hF3 st3).wk kw4 hWz110.ok).ltw).symm, (Apart.base (fun _ e_ => by cases e_; exact ho123.ge) ((((h6.wk kw1 hW.ok).wk kw2 hW103.ok).frz (apart_bo ((h6.wk kw1 hW.ok).wk kw2 hW103.ok) ((hk101.base (row := nrow) hW.le).wk kw2 hW103.ok) rfl).symm hF3 st3).wk kw4 hWz110.ok).ltw).symm⟩
  refine Ref.seq (B := G5 w0 F0) ?_ ?_
  · refine Ref.region (fun s ρ w s' h hr => ?_)
    obtain ⟨F, hW, g2, g4, g6, g8, h1, p2, h2, h3, p4, h4, h5, p6, h6, h7, p8, h8, a2b_4b, a2b_6b, a2b_8b, a4b_6b, a4b_8b, a6b_8b⟩ := h
    refine ol_v (e_fa fa_26_0 p2) rfl ?_
    refine ol_v (e_ld ty_3 (LiesV.int ((h2).at_.fld fl_Fault_0)) rfl) rfl ?_
    refine ol_v (e_eql rfl rfl) rfl ?_
    refine ol_cutA 5 36 40 (fun ρ' w' => w = w' ∧ ρ' 40 = .bool ((decide (s.t_2.Code = (0 : Int))) && (decide (s.t_4.Code = (0 : Int))))) rfl ?_ ?_
    · by_cases hb131 : (decide (s.t_2.Code = (0 : Int))) = true
      · refine ol_v (e_mv _ rfl) rfl ?_
        refine ol_yes rfl rfl (congrArg Value.bool hb131) ?_
        refine ol_v (e_fa fa_26_0 p4) rfl ?_
        refine ol_yes rfl rfl (congrArg Value.bool hb131) ?_
        refine ol_v (e_ld ty_3 (LiesV.int ((h4).at_.fld fl_Fault_0)) rfl) rfl ?_
        refine ol_yes rfl rfl (congrArg Value.bool hb131) ?_
        refine ol_v (e_eql rfl rfl) rfl ?_
        refine ol_v (e_pick true _ (congrArg Value.bool hb131) rfl) rfl ?_
        exact ol_nil ⟨⟨rfl, (bv_and_t hb131)⟩, ((((((Agr.refl _ _ _).upd rfl rfl).upd rfl rfl).upd rfl rfl).upd rfl rfl).upd rfl rfl)⟩
      · have hb132 := Bool.eq_false_iff.mpr hb131
        refine ol_v (e_mv _ rfl) rfl ?_
        refine ol_not rfl rfl rfl (congrArg Value.bool hb132) rfl ?_
        refine ol_not rfl rfl rfl (congrArg Value.bool hb132) rfl ?_
        refine ol_not rfl rfl rfl (congrArg Value.bool hb132) rfl ?_
        refine ol_v (e_pick false _ (congrArg Value.bool hb132) rfl) rfl ?_
        exact ol_nil ⟨⟨rfl, (bv_and_f hb132)⟩, ((((((Agr.refl _ _ _).upd rfl rfl).upd rfl rfl).upd rfl rfl).upd rfl rfl).upd rfl rfl)⟩
    rintro ρ133 _ ⟨⟨rfl, hp133⟩, hAg133⟩
    refine ol_cutA 5 41 45 (fun ρ' w' => w = w' ∧ ρ' 45 = .bool (((decide (s.t_2.Code = (0 : Int))) && (decide (s.t_4.Code = (0 : Int)))) && (decide (s.t_6.Code = (0 : Int))))) rfl ?_ ?_
    · by_cases hb134 : ((decide (s.t_2.Code = (0 : Int))) && (decide (s.t_4.Code = (0 : Int)))) = true
      · refine ol_v (e_mv _ hp133) rfl ?_
        refine ol_yes rfl rfl (congrArg Value.bool hb134) ?_
        refine ol_v (e_fa fa_26_0 ((hAg133 6 rfl).trans p6)) rfl ?_
        refine ol_yes rfl rfl (congrArg Value.bool hb134) ?_
        refine ol_v (e_ld ty_3 (LiesV.int ((h6).at_.fld fl_Fault_0)) rfl) rfl ?_
        refine ol_yes rfl rfl (congrArg Value.bool hb134) ?_
        refine ol_v (e_eql rfl rfl) rfl ?_
        refine ol_v (e_pick true _ (congrArg Value.bool hb134) rfl) rfl ?_
        exact ol_nil ⟨⟨rfl, (bv_and_t hb134)⟩, ((((((Agr.refl _ _ _).upd rfl rfl).upd rfl rfl).upd rfl rfl).upd rfl rfl).upd rfl rfl)⟩
      · have hb135 := Bool.eq_false_iff.mpr hb134
        refine ol_v (e_mv _ hp133) rfl ?_
        refine ol_not rfl rfl rfl (congrArg Value.bool hb135) rfl ?_
        refine ol_not rfl rfl rfl (congrArg Value.bool hb135) rfl ?_
        refine ol_not rfl rfl rfl (congrArg Value.bool hb135) rfl ?_
        refine ol_v (e_pick false _ (congrArg Value.bool hb135) rfl) rfl ?_
        exact ol_nil ⟨⟨rfl, (bv_and_f hb135)⟩, ((((((Agr.refl _ _ _).upd rfl rfl).upd rfl rfl).upd rfl rfl).upd rfl rfl).upd rfl rfl)⟩
    rintro ρ136 _ ⟨⟨rfl, hp136⟩, hAg136⟩
    refine ol_cutA 5 46 50 (fun ρ' w' => w = w' ∧ ρ' 50 = .bool ((((decide (s.t_2.Code = (0 : Int))) && (decide (s.t_4.Code = (0 : Int)))) && (decide (s.t_6.Code = (0 : Int)))) && (decide (s.t_8.Code = (0 : Int))))) rfl ?_ ?_
    · by_cases hb137 : (((decide (s.t_2.Code = (0 : Int))) && (decide (s.t_4.Code = (0 : Int)))) && (decide (s.t_6.Code = (0 : Int)))) = true
      · refine ol_v (e_mv _ hp136) rfl ?_
        refine ol_yes rfl rfl (congrArg Value.bool hb137) ?_
        refine ol_v (e_fa fa_26_0 ((hAg136 8 rfl).trans ((hAg133 8 rfl).trans p8))) rfl ?_
        refine ol_yes rfl rfl (congrArg Value.bool hb137) ?_
        refine ol_v (e_ld ty_3 (LiesV.int ((h8).at_.fld fl_Fault_0)) rfl) rfl ?_
        refine ol_yes rfl rfl (congrArg Value.bool hb137) ?_
        refine ol_v (e_eql rfl rfl) rfl ?_
        refine ol_v (e_pick true _ (congrArg Value.bool hb137) rfl) rfl ?_
        exact ol_nil ⟨⟨rfl, (bv_and_t hb137)⟩, ((((((Agr.refl _ _ _).upd rfl rfl).upd rfl rfl).upd rfl rfl).upd rfl rfl).upd rfl rfl)⟩
      · have hb138 := Bool.eq_false_iff.mpr hb137
        refine ol_v (e_mv _ hp136) rfl ?_
        refine ol_not rfl rfl rfl (congrArg Value.bool hb138) rfl ?_
        refine ol_not rfl rfl rfl (congrArg Value.bool hb138) rfl ?_
        refine ol_not rfl rfl rfl (congrArg Value.bool hb138) rfl ?_
        refine ol_v (e_pick false _ (congrArg Value.bool hb138) rfl) rfl ?_
        exact ol_nil ⟨⟨rfl, (bv_and_f hb138)⟩, ((((((Agr.refl _ _ _).upd rfl rfl).upd rfl rfl).upd rfl rfl).upd rfl rfl).upd rfl rfl)⟩
    rintro ρ139 _ ⟨⟨rfl, hp139⟩, hAg139⟩
    obtain ⟨x152, hx153, hr⟩ := bind_some' hr
    refine ol_cutA 5 51 55 (fun ρ' w' => ∃ F', Wk nrow w F F' w' ∧ ρ' 55 = .bool x152) rfl ?_ ?_
    · by_cases hb140 : ((((decide (s.t_2.Code = (0 : Int))) && (decide (s.t_4.Code = (0 : Int)))) && (decide (s.t_6.Code = (0 : Int)))) && (decide (s.t_8.Code = (0 : Int)))) = true
      · have hr := hx153
        rw [if_pos hb140] at hr
        refine ol_v (e_mv _ hp139) rfl ?_
        refine ol_yes rfl rfl (congrArg Value.bool hb140) ?_
        refine ol_v (e_mv _ ((hAg139 1 rfl).trans ((hAg136 1 rfl).trans (hAg133 1 rfl)))) rfl ?_
        refine ol_yes rfl rfl (congrArg Value.bool hb140) ?_
        refine ol_e (f_bslF sl_23 hW ([(1 : Int), (2 : Int)] : List Int) [.int .i64 (1), .int .i64 (2)] (by exact ⟨_, _, rfl, (val_int _ _), ⟨_, _, rfl, (val_int _ _), rfl⟩⟩) rfl (Nat.le_of_ble_eq_true rfl) (lcons (congrArg (Prod.mk 0) rfl) (lcons (congrArg (Prod.mk 1) rfl) rfl))) rfl rfl ?_
        rintro v142 w143 ⟨Fz145, kw1, ho144⟩
        have hW146 := hW.trans kw1
        have st1 := kw1.stp hW.ok
        refine ol_yes rfl rfl (congrArg Value.bool hb140) ?_
        obtain ⟨x147, hx147, hr⟩ := bind_some' hr
        refine ol_e (f_call [(ρ 1), v142] fn_17 (lcons rfl (lcons rfl rfl)) (ref3_Ints.calls hW146.ok (h1.keep st1) ho144 hx147)) rfl rfl ?_
        rintro _ w148 ⟨Fz149, rfl, kw2⟩
        have hW151 := hW146.trans kw2
        have st2 := kw2.stp hW146.ok
        refine ol_v (e_pick true _ (congrArg Value.bool hb140) rfl) rfl ?_
        exact ol_nil ⟨⟨_, (kw1.trans kw2), (congrArg Value.bool (Option.some.inj hr))⟩, ((((((Agr.refl _ _ _).upd rfl rfl).upd rfl rfl).upd rfl rfl).upd rfl rfl).upd rfl rfl)⟩
      · have hb141 := Bool.eq_false_iff.mpr hb140
        have hr := hx153
        rw [if_neg hb140] at hr
        refine ol_v (e_mv _ hp139) rfl ?_
        refine ol_not rfl rfl rfl (congrArg Value.bool hb141) rfl ?_
        refine ol_not rfl rfl rfl (congrArg Value.bool hb141) rfl ?_
        refine ol_not rfl rfl rfl (congrArg Value.bool hb141) rfl ?_
        refine ol_v (e_pick false _ (congrArg Value.bool hb141) rfl) rfl ?_
        exact ol_nil ⟨⟨_, Wk.refl hW.ok, (congrArg Value.bool (Option.some.inj hr))⟩, ((((((Agr.refl _ _ _).upd rfl rfl).upd rfl rfl).upd rfl rfl).upd rfl rfl).upd rfl rfl)⟩
    rintro ρ153 w154 ⟨⟨Fz155, kw1, hp153⟩, hAg153⟩
    have hW156 := hW.trans kw1
    have st1 := kw1.stp hW.ok
    obtain ⟨x169, hx170, hr⟩ := bind_some' hr
    refine ol_cutA 5 56 60 (fun ρ' w' => ∃ F', Wk nrow w154 Fz155 F' w' ∧ ρ' 60 = .bool x169) rfl ?_ ?_
    · by_cases hb157 : x152 = true
      · have hr := hx170
        rw [if_pos hb157] at hr
        refine ol_v (e_mv _ hp153) rfl ?_
        refine ol_yes rfl rfl (congrArg Value.bool hb157) ?_
        refine ol_v (e_mv _ ((hAg153 3 rfl).trans ((hAg139 3 rfl).trans ((hAg136 3 rfl).trans (hAg133 3 rfl))))) rfl ?_
        refine ol_yes rfl rfl (congrArg Value.bool hb157) ?_
        refine ol_e (f_bslF sl_23 hW156 ([(1 : Int)] : List Int) [.int .i64 (1)] (by exact ⟨_, _, rfl, (val_int _ _), rfl⟩) rfl (Nat.le_of_ble_eq_true rfl) (lcons (congrArg (Prod.mk 0) rfl) rfl)) rfl rfl ?_
        rintro v159 w160 ⟨Fz162, kw2, ho161⟩
        have hW163 := hW156.trans kw2
        have st2 := kw2.stp hW156.ok
        refine ol_yes rfl rfl (congrArg Value.bool hb157) ?_
        obtain ⟨x164, hx164, hr⟩ := bind_some' hr
        refine ol_e (f_call [(ρ 3), v159] fn_17 (lcons rfl (lcons rfl rfl)) (ref3_Ints.calls hW163.ok (h3.keep (st1.trans st2)) ho161 hx164)) rfl rfl ?_
        rintro _ w165 ⟨Fz166, rfl, kw3⟩
        have hW168 := hW163.trans kw3
        have st3 := kw3.stp hW163.ok
        refine ol_v (e_pick true _ (congrArg Value.bool hb157) rfl) rfl ?_
        exact ol_nil ⟨⟨_, (kw2.trans kw3), (congrArg Value.bool (Option.some.inj hr))⟩, ((((((Agr.refl _ _ _).upd rfl rfl).upd rfl rfl).upd rfl rfl).upd rfl rfl).upd rfl rfl)⟩
      · have hb158 := Bool.eq_false_iff.mpr hb157
        have hr := hx170
        rw [if_neg hb157] at hr
        refine ol_v (e_mv _ hp153) rfl ?_
        refine ol_not rfl rfl rfl (congrArg Value.bool hb158) rfl ?_
        refine ol_not rfl rfl rfl (congrArg Value.bool hb158) rfl ?_
        refine ol_not rfl rfl rfl (congrArg Value.bool hb158) rfl ?_
        refine ol_v (e_pick false _ (congrArg Value.bool hb158) rfl) rfl ?_
        exact ol_nil ⟨⟨_, Wk.refl hW156.ok, (congrArg Value.bool (Option.some.inj hr))⟩, ((((((Agr.refl _ _ _).upd rfl rfl).upd rfl rfl).upd rfl rfl).upd rfl rfl).upd rfl rfl)⟩
    rintro ρ170 w171 ⟨⟨Fz172, kw2, hp170⟩, hAg170⟩
    have hW173 := hW156.trans kw2
    have st2 := kw2.stp hW156.ok
    obtain ⟨x186, hx187, hr⟩ := bind_some' hr
    refine ol_cutA 5 61 65 (fun ρ' w' => ∃ F', Wk nrow w171 Fz172 F' w' ∧ ρ' 65 = .bool x186) rfl ?_ ?_
    · by_cases hb174 : x169 = true
      · have hr := hx187
        rw [if_pos hb174] at hr
        refine ol_v (e_mv _ hp170) rfl ?_
        refine ol_yes rfl rfl (congrArg Value.bool hb174) ?_
        refine ol_v (e_mv _ ((hAg170 5 rfl).trans ((hAg153 5 rfl).trans ((hAg139 5 rfl).trans ((hAg136 5 rfl).trans (hAg133 5 rfl)))))) rfl ?_
        refine ol_yes rfl rfl (congrArg Value.bool hb174) ?_
        refine ol_e (f_bslF sl_23 hW173 ([(0 : Int), (1 : Int), (2 : Int)] : List Int) [.int .i64 (0), .int .i64 (1), .int .i64 (2)] (by exact ⟨_, _, rfl, (val_int _ _), ⟨_, _, rfl, (val_int _ _), ⟨_, _, rfl, (val_int _ _), rfl⟩⟩⟩) rfl (Nat.le_of_ble_eq_true rfl) (lcons (congrArg (Prod.mk 0) rfl) (lcons (congrArg (Prod.mk 1) rfl) (lcons (congrArg (Prod.mk 2) rfl) rfl)))) rfl rfl ?_
        rintro v176 w177 ⟨Fz179, kw3, ho178⟩
        have hW180 := hW173.trans kw3
        have st3 := kw3.stp hW173.ok
        refine ol_yes rfl rfl (congrArg Value.bool hb174) ?_
        obtain ⟨x181, hx181, hr⟩ := bind_some' hr
        refine ol_e (f_call [(ρ 5), v176] fn_17 (lcons rfl (lcons rfl rfl)) (ref3_Ints.calls hW180.ok (h5.keep (st1.trans (st2.trans st3))) ho178 hx181)) rfl rfl ?_
        rintro _ w182 ⟨Fz183, rfl, kw4⟩
        have hW185 := hW180.trans kw4
        have st4 := kw4.stp hW180.ok
        refine ol_v (e_pick true _ (congrArg Value.bool hb174) rfl) rfl ?_
        exact ol_nil ⟨⟨_, (kw3.trans kw4), (congrArg Value.bool (Option.some.inj hr))⟩, ((((((Agr.refl _ _ _).upd rfl rfl).upd rfl rfl).upd rfl rfl).upd rfl rfl).upd rfl rfl)⟩
      · have hb175 := Bool.eq_false_iff.mpr hb174
        have hr := hx187
        rw [if_neg hb174] at hr
        refine ol_v (e_mv _ hp170) rfl ?_
        refine ol_not rfl rfl rfl (congrArg Value.bool hb175) rfl ?_
        refine ol_not rfl rfl rfl (congrArg Value.bool hb175) rfl ?_
        refine ol_not rfl rfl rfl (congrArg Value.bool hb175) rfl ?_
        refine ol_v (e_pick false _ (congrArg Value.bool hb175) rfl) rfl ?_
        exact ol_nil ⟨⟨_, Wk.refl hW173.ok, (congrArg Value.bool (Option.some.inj hr))⟩, ((((((Agr.refl _ _ _).upd rfl rfl).upd rfl rfl).upd rfl rfl).upd rfl rfl).upd rfl rfl)⟩
    rintro ρ187 w188 ⟨⟨Fz189, kw3, hp187⟩, hAg187⟩
    have hW190 := hW173.trans kw3
    have st3 := kw3.stp hW173.ok
    refine ol_cutA 5 66 70 (fun ρ' w' => w188 = w' ∧ ρ' 70 = .bool (x186 && (decide ((s.t_7.length : Int) = (2 : Int))))) rfl ?_ ?_
    · by_cases hb191 : x186 = true
      · refine ol_v (e_mv _ hp187) rfl ?_
        refine ol_yes rfl rfl (congrArg Value.bool hb191) ?_
        refine ol_v (e_mv _ ((hAg187 7 rfl).trans ((hAg170 7 rfl).trans ((hAg153 7 rfl).trans ((hAg139 7 rfl).trans ((hAg136 7 rfl).trans (hAg133 7 rfl))))))) rfl ?_
        refine ol_yes rfl rfl (congrArg Value.bool hb191) ?_
        obtain ⟨A193, c194, e195, hc196, R197⟩ := id (h7.keep (st1.trans (st2.trans st3)))
        refine ol_v (e_len (SlT.sl sl_22) e195) rfl ?_
        refine ol_yes rfl rfl (congrArg Value.bool hb191) ?_
        refine ol_v (e_eql rfl rfl) rfl ?_
        refine ol_v (e_pick true _ (congrArg Value.bool hb191) rfl) rfl ?_
        exact ol_nil ⟨⟨rfl, (bv_and_t hb191)⟩, ((((((Agr.refl _ _ _).upd rfl rfl).upd rfl rfl).upd rfl rfl).upd rfl rfl).upd rfl rfl)⟩
      · have hb192 := Bool.eq_false_iff.mpr hb191
        refine ol_v (e_mv _ hp187) rfl ?_
        refine ol_not rfl rfl rfl (congrArg Value.bool hb192) rfl ?_
        refine ol_not rfl rfl rfl (congrArg Value.bool hb192) rfl ?_
        refine ol_not rfl rfl rfl (congrArg Value.bool hb192) rfl ?_
        refine ol_v (e_pick false _ (congrArg Value.bool hb192) rfl) rfl ?_
        exact ol_nil ⟨⟨rfl, (bv_and_f hb192)⟩, ((((((Agr.refl _ _ _).upd rfl rfl).upd rfl rfl).upd rfl rfl).upd rfl rfl).upd rfl rfl)⟩
    rintro ρ198 _ ⟨⟨rfl, hp198⟩, hAg198⟩
    obtain ⟨x219, hx220, hr⟩ := bind_some' hr
    refine ol_cutA 8 71 78 (fun ρ' w' => w188 = w' ∧ ρ' 78 = .bool x219) rfl ?_ ?_
    · by_cases hb199 : (x186 && (decide ((s.t_7.length : Int) = (2 : Int)))) = true
      · have hr := hx220
        rw [if_pos hb199] at hr
        refine ol_v (e_mv _ hp198) rfl ?_
        refine ol_yes rfl rfl (congrArg Value.bool hb199) ?_
        refine ol_v (e_mv _ ((hAg198 7 rfl).trans ((hAg187 7 rfl).trans ((hAg170 7 rfl).trans ((hAg153 7 rfl).trans ((hAg139 7 rfl).trans ((hAg136 7 rfl).trans (hAg133 7 rfl)))))))) rfl ?_
        refine ol_yes rfl rfl (congrArg Value.bool hb199) ?_
        obtain ⟨x201, hx201, hr⟩ := bind_some' hr
        obtain ⟨A202, c203, e204, hc205, R206⟩ := id (h7.keep (st1.trans (st2.trans st3)))
        obtain ⟨b207, o208, hA209, L210⟩ := Row.at_ R206 hx201
        refine ol_v (e_ix (SlT.sl sl_22) (SlT.sz sl_22) hA209 hx201 e204 rfl) rfl ?_
        refine ol_yes rfl rfl (congrArg Value.bool hb199) ?_
        refine ol_v (e_fa fa_56_0 rfl) rfl ?_
        refine ol_yes rfl rfl (congrArg Value.bool hb199) ?_
        obtain ⟨v211, hl212, hs213⟩ := LiesV.sl (L210.fld fl_Commit_0).at_
        refine ol_v (e_ld ty_23 hl212 rfl) rfl ?_
        refine ol_yes rfl rfl (congrArg Value.bool hb199) ?_
        obtain ⟨A214, c215, e216, hc217, R218⟩ := id hs213
        refine ol_v (e_len (SlT.sl sl_23) e216) rfl ?_
        refine ol_yes rfl rfl (congrArg Value.bool hb199) ?_
        refine ol_v (e_eql rfl rfl) rfl ?_
        refine ol_v (e_pick true _ (congrArg Value.bool hb199) rfl) rfl ?_
        exact ol_nil ⟨⟨rfl, (congrArg Value.bool (Option.some.inj hr))⟩, (((((((((Agr.refl _ _ _).upd rfl rfl).upd rfl rfl).upd rfl rfl).upd rfl rfl).upd rfl rfl).upd rfl rfl).upd rfl rfl).upd rfl rfl)⟩
      · have hb200 := Bool.eq_false_iff.mpr hb199
        have hr := hx220
        rw [if_neg hb199] at hr
        refine ol_v (e_mv _ hp198) rfl ?_
        refine ol_not rfl rfl rfl (congrArg Value.bool hb200) rfl ?_
        refine ol_not rfl rfl rfl (congrArg Value.bool hb200) rfl ?_
        refine ol_not rfl rfl rfl (congrArg Value.bool hb200) rfl ?_
        refine ol_not rfl rfl rfl (congrArg Value.bool hb200) rfl ?_
        refine ol_not rfl rfl rfl (congrArg Value.bool hb200) rfl ?_
        refine ol_not rfl rfl rfl (congrArg Value.bool hb200) rfl ?_
        refine ol_v (e_pick false _ (congrArg Value.bool hb200) rfl) rfl ?_
        exact ol_nil ⟨⟨rfl, (congrArg Value.bool (Option.some.inj hr))⟩, (((((((((Agr.refl _ _ _).upd rfl rfl).upd rfl rfl).upd rfl rfl).upd rfl rfl).upd rfl rfl).upd rfl rfl).upd rfl rfl).upd rfl rfl)⟩
    rintro ρ220 _ ⟨⟨rfl, hp220⟩, hAg220⟩
    obtain ⟨x246, hx247, hr⟩ := bind_some' hr
    refine ol_cutA 8 79 86 (fun ρ' w' => ∃ F', Wk nrow w188 Fz189 F' w' ∧ ρ' 86 = .bool x246) rfl ?_ ?_
    · by_cases hb221 : x219 = true
      · have hr := hx247
        rw [if_pos hb221] at hr
        refine ol_v (e_mv _ hp220) rfl ?_
        refine ol_yes rfl rfl (congrArg Value.bool hb221) ?_
        refine ol_v (e_mv _ ((hAg220 7 rfl).trans ((hAg198 7 rfl).trans ((hAg187 7 rfl).trans ((hAg170 7 rfl).trans ((hAg153 7 rfl).trans ((hAg139 7 rfl).trans ((hAg136 7 rfl).trans (hAg133 7 rfl))))))))) rfl ?_
        refine ol_yes rfl rfl (congrArg Value.bool hb221) ?_
        obtain ⟨x223, hx223, hr⟩ := bind_some' hr
        obtain ⟨A224, c225, e226, hc227, R228⟩ := id (h7.keep (st1.trans (st2.trans st3)))
        obtain ⟨b229, o230, hA231, L232⟩ := Row.at_ R228 hx223
        refine ol_v (e_ix (SlT.sl sl_22) (SlT.sz sl_22) hA231 hx223 e226 rfl) rfl ?_
        refine ol_yes rfl rfl (congrArg Value.bool hb221) ?_
        refine ol_v (e_fa fa_56_0 rfl) rfl ?_
        refine ol_yes rfl rfl (congrArg Value.bool hb221) ?_
        obtain ⟨v233, hl234, hs235⟩ := LiesV.sl (L232.fld fl_Commit_0).at_
        refine ol_v (e_ld ty_23 hl234 rfl) rfl ?_
        refine ol_yes rfl rfl (congrArg Value.bool hb221) ?_
        refine ol_e (f_bslF sl_23 hW190 ([(0 : Int)] : List Int) [.int .i64 (0)] (by exact ⟨_, _, rfl, (val_int _ _), rfl⟩) rfl (Nat.le_of_ble_eq_true rfl) (lcons (congrArg (Prod.mk 0) rfl) rfl)) rfl rfl ?_
        rintro v236 w237 ⟨Fz239, kw4, ho238⟩
        have hW240 := hW190.trans kw4
        have st4 := kw4.stp hW190.ok
        refine ol_yes rfl rfl (congrArg Value.bool hb221) ?_
        obtain ⟨x241, hx241, hr⟩ := bind_some' hr
        refine ol_e (f_call [v233, v236] fn_17 (lcons rfl (lcons rfl rfl)) (ref3_Ints.calls hW240.ok (hs235.keep st4) ho238 hx241)) rfl rfl ?_
        rintro _ w242 ⟨Fz243, rfl, kw5⟩
        have hW245 := hW240.trans kw5
        have st5 := kw5.stp hW240.ok
        refine ol_v (e_pick true _ (congrArg Value.bool hb221) rfl) rfl ?_
        exact ol_nil ⟨⟨_, (kw4.trans kw5), (congrArg Value.bool (Option.some.inj hr))⟩, (((((((((Agr.refl _ _ _).upd rfl rfl).upd rfl rfl).upd rfl rfl).upd rfl rfl).upd rfl rfl).upd rfl rfl).upd rfl rfl).upd rfl rfl)⟩
      · have hb222 := Bool.eq_false_iff.mpr hb221
        have hr := hx247
        rw [if_neg hb221] at hr
        refine ol_v (e_mv _ hp220) rfl ?_
        refine ol_not rfl rfl rfl (congrArg Value.bool hb222) rfl ?_
        refine ol_not rfl rfl rfl (congrArg Value.bool hb222) rfl ?_
        refine ol_not rfl rfl rfl (congrArg Value.bool hb222) rfl ?_
        refine ol_not rfl rfl rfl (congrArg Value.bool hb222) rfl ?_
        refine ol_not rfl rfl rfl (congrArg Value.bool hb222) rfl ?_
        refine ol_not rfl rfl rfl (congrArg Value.bool hb222) rfl ?_
        refine ol_v (e_pick false _ (congrArg Value.bool hb222) rfl) rfl ?_
        exact ol_nil ⟨⟨_, Wk.refl hW190.ok, (congrArg Value.bool (Option.some.inj hr))⟩, (((((((((Agr.refl _ _ _).upd rfl rfl).upd rfl rfl).upd rfl rfl).upd rfl rfl).upd rfl rfl).upd rfl rfl).upd rfl rfl).upd rfl rfl)⟩
    rintro ρ247 w248 ⟨⟨Fz249, kw4, hp247⟩, hAg247⟩
    have hW250 := hW190.trans kw4
    have st4 := kw4.stp hW190.ok
    refine ol_v (e_as _ hp247) rfl ?_
    obtain rfl := Option.some.inj hr
    exact ol_nil ⟨Fz249, hW250, rfl⟩
  exact Ref.ret (fun s ρ w h => ⟨s, rfl, h⟩)
def post (w : World) (F : BSet) (r : R) (v : Value) (w' : World) : Prop := ∃ (F' : BSet), v = .bool r ∧ Wk nrow w F F' w'
theorem calls {w : World} {F : BSet} (hok : ∀ b, F b → b < w.heap.size)  {r : R} (hf : f  = some r) : Calls Try.prog 12 #[] w fun e w' => ∃ v, e = .returned v ∧ post w F r v w' := by
  obtain ⟨c, hc, href⟩ := ref w F
  refine calls_of_ref (args := []) _ Try.func12 hc rfl rfl href ?_ (retOf_some hf) ?_
  · exact ⟨F, Wk.refl hok⟩
  · rintro ρ w' a ⟨s, rfl, F', hW, h0⟩ hF
    refine ⟨_, run_results (rs := [.tmp 0]) rfl hF (vs := [ρ 0]) (⟨_, rfl, rfl⟩), ?_⟩
    have hv : resVal [ρ 0] = .bool s.t_0 := by rw [h0]; rfl
    exact ⟨F', hv, hW⟩
end
end law4_shallowExample

namespace ref3_Fault
section
def G0 (w0 : World) (F0 : BSet) (s : S) (ρ : Env) (w : World) : Prop := ∃ (F : BSet), Wk nrow w0 F0 F w ∧ ρ 0 = .int .i64 s.code_0 ∧ ρ 1 = .int .i64 s.index_1
def G1 (w0 : World) (F0 : BSet) (s : S) (ρ : Env) (w : World) : Prop := ∃ (F : BSet), Wk nrow w0 F0 F w ∧ ∃ (g4 : Nat), ρ 0 = .int .i64 s.code_0 ∧ ρ 1 = .int .i64 s.index_1 ∧ ρ 4 = .pointer (some ⟨g4, 0, none⟩) ∧ Box k_Fault 26 (Bs w0 nrow) F w g4 s.t_4
def G2 (w0 : World) (F0 : BSet) (s : S) (ρ : Env) (w : World) : Prop := ∃ (F : BSet), Wk nrow w0 F0 F w ∧ ∃ (g4 : Nat), ρ 4 = .pointer (some ⟨g4, 0, none⟩) ∧ Box k_Fault 26 (Bs w0 nrow) F w g4 s.t_4
set_option maxHeartbeats 4000000 in
set_option maxRecDepth 20000 in
theorem ref (w0 : World) (F0 : BSet) : ∃ c, Try.f15.body = some c ∧ Ref Try.prog 8 c (G0 w0 F0) body (fun _ _ _ => False) (fun _ _ _ _ => False) (fun r ρ w => ∃ s, retv s = r ∧ G2 w0 F0 s ρ w) := by
  refine ⟨_, rfl, ?_⟩
  unfold body
  refine Ref.seq (B := G1 w0 F0) ?_ ?_
  · refine Ref.region (fun s ρ w s' h hr => ?_)
    obtain ⟨F, hW, h0, h1⟩ := h
    refine ol_e (f_alloc zer_26 hW) rfl rfl ?_
    rintro _ w2 ⟨g1, rfl, kw1, ho3⟩
    have hW4 := hW.trans kw1
    have st1 := kw1.stp hW.ok
    obtain rfl := Option.some.inj hr
    exact ol_nil ⟨F, hW4, g1, h0, h1, rfl, (ho3.base (row := nrow) hW.le)⟩
  refine Ref.seq (B := G2 w0 F0) ?_ ?_
  · refine Ref.region (fun s ρ w s' h hr => ?_)
    obtain ⟨F, hW, g4, h0, h1, p4, h4⟩ := h
    refine ol_v (e_mv _ h0) rfl ?_
    refine ol_v (e_mv _ h1) rfl ?_
    refine ol_v (e_bld (cells := #[.int .i64 s.code_0, .int .i64 s.index_1]) bld_26 (vs := [(0, .int .i64 s.code_0), (1, .int .i64 s.index_1)]) (lcons (congrArg (Prod.mk 0) rfl) (lcons (congrArg (Prod.mk 1) rfl) rfl)) rfl) rfl ?_
    have hb5 : Val k_Fault F w (.agg #[.int .i64 s.code_0, .int .i64 s.index_1]) (⟨s.code_0, s.index_1⟩ : Fault) := mk_Fault (val_int _ _) (val_int _ _)
    refine ol_eN (f_stB hW h4 (FldS.whole _) ty_26 hb5 p4 rfl) rfl ?_
    rintro - w6 ⟨hW7, ho8, hg1, st1⟩
    obtain rfl := Option.some.inj hr
    exact ol_nil ⟨F, hW7, g4, p4, ho8⟩
  exact Ref.ret (fun s ρ w h => ⟨s, rfl, h⟩)
def post (w : World) (F : BSet) (r : R) (v : Value) (w' : World) : Prop := ∃ (F' : BSet) (v0' : Value), v = v0' ∧ Wk nrow w F F' w' ∧ Val k_Fault F' w' v0' r
theorem calls {w : World} {F : BSet} (hok : ∀ b, F b → b < w.heap.size) (a0 : Int) (a1 : Int) {r : R} (hf : f a0 a1 = some r) : Calls Try.prog 15 #[.int .i64 a0, .int .i64 a1] w fun e w' => ∃ v, e = .returned v ∧ post w F r v w' := by
  obtain ⟨c, hc, href⟩ := ref w F
  refine calls_of_ref (args := [.int .i64 a0, .int .i64 a1]) _ Try.func15 hc rfl rfl href ?_ (retOf_some hf) ?_
  · exact ⟨F, Wk.refl hok, rfl, rfl⟩
  · rintro ρ w' a ⟨s, rfl, F', hW, g4, p4, h4⟩ hF
    obtain ⟨u4, l4, k4⟩ := res_box (P := Try.prog) ty_26 h4
    refine ⟨_, run_results (rs := [.cell 4 26]) rfl hF (vs := [u4]) (⟨_, _, _, rfl, p4, l4, rfl⟩), ?_⟩
    exact ⟨F', u4, rfl, hW, k4⟩
end
end ref3_Fault

end Go.Proofs.Ytilodamhgepjoaa
