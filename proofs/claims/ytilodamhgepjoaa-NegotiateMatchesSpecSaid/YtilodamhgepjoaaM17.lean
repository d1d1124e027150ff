/- The machine's calls come to these plain functions (written by a program, wip/fx/gen.py). -/
import Derived.Test.YtilodamhgepjoaaPA
import Derived.Test.YtilodamhgepjoaaNm
import Derived.Test.YtilodamhgepjoaaM0
import Derived.Test.YtilodamhgepjoaaM5
import Derived.Test.YtilodamhgepjoaaM6
import Derived.Test.YtilodamhgepjoaaM7
import Derived.Test.YtilodamhgepjoaaM8
import Derived.Test.YtilodamhgepjoaaM9
import Derived.Test.YtilodamhgepjoaaIt
namespace Go.Proofs.Ytilodamhgepjoaa
open Go.Fx Go.RowKit
set_option linter.unusedVariables false

namespace ref3_OrderOf
section
def G0 (w0 : World) (F0 : BSet) (s : S) (ρ : Env) (w : World) : Prop := ∃ (F : BSet), Wk nrow w0 F0 F w ∧ SlR k_Commit F w (ρ 0) s.t_0
def G1 (w0 : World) (F0 : BSet) (s : S) (ρ : Env) (w : World) : Prop := ∃ (F : BSet), Wk nrow w0 F0 F w ∧ SlR k_Commit F w (ρ 0) s.t_0 ∧ OwnV (kInt .i64) 3 (Bs w0 nrow) F w (ρ 3) s.t_3
def G2 (w0 : World) (F0 : BSet) (s : S) (ρ : Env) (w : World) : Prop := ∃ (F : BSet), Wk nrow w0 F0 F w ∧ SlR k_Commit F w (ρ 0) s.t_0 ∧ OwnV (kInt .i64) 3 (Bs w0 nrow) F w (ρ 3) s.t_3 ∧ ρ 12 = .bool s.t_12
def G3 (w0 : World) (F0 : BSet) (s : S) (ρ : Env) (w : World) : Prop := ∃ (F : BSet), Wk nrow w0 F0 F w ∧ OwnV (kInt .i64) 3 (Bs w0 nrow) F w (ρ 3) s.t_3
def G4 (w0 : World) (F0 : BSet) (s : S) (ρ : Env) (w : World) : Prop := ∃ (F : BSet), Wk nrow w0 F0 F w ∧ SlR k_Commit F w (ρ 0) s.t_0 ∧ OwnV (kInt .i64) 3 (Bs w0 nrow) F w (ρ 3) s.t_3 ∧ ρ 4 = .int .i64 s.t_4
def G5 (w0 : World) (F0 : BSet) (s : S) (ρ : Env) (w : World) : Prop := ∃ (F : BSet), Wk nrow w0 F0 F w ∧ SlR k_Commit F w (ρ 0) s.t_0 ∧ OwnV (kInt .i64) 3 (Bs w0 nrow) F w (ρ 3) s.t_3 ∧ ρ 4 = .int .i64 s.t_4 ∧ ρ 5 = .int .i64 s.t_5
def G6 (w0 : World) (F0 : BSet) (s : S) (ρ : Env) (w : World) : Prop := ∃ (F : BSet), Wk nrow w0 F0 F w ∧ SlR k_Commit F w (ρ 0) s.t_0 ∧ OwnV (kInt .i64) 3 (Bs w0 nrow) F w (ρ 3) s.t_3 ∧ ρ 4 = .int .i64 s.t_4 ∧ ρ 5 = .int .i64 s.t_5 ∧ ρ 16 = .bool s.t_16
def G7 (w0 : World) (F0 : BSet) (s : S) (ρ : Env) (w : World) : Prop := ∃ (F : BSet), Wk nrow w0 F0 F w ∧ SlR k_Commit F w (ρ 0) s.t_0 ∧ OwnV (kInt .i64) 3 (Bs w0 nrow) F w (ρ 3) s.t_3 ∧ ρ 4 = .int .i64 s.t_4 ∧ ρ 5 = .int .i64 s.t_5 ∧ ρ 6 = .bool s.t_6
def G8 (w0 : World) (F0 : BSet) (s : S) (ρ : Env) (w : World) : Prop := ∃ (F : BSet), Wk nrow w0 F0 F w ∧ SlR k_Commit F w (ρ 0) s.t_0 ∧ OwnV (kInt .i64) 3 (Bs w0 nrow) F w (ρ 3) s.t_3 ∧ ρ 4 = .int .i64 s.t_4 ∧ ρ 5 = .int .i64 s.t_5 ∧ ρ 6 = .bool s.t_6 ∧ ρ 7 = .int .i64 s.t_7
def G9 (w0 : World) (F0 : BSet) (s : S) (ρ : Env) (w : World) : Prop := ∃ (F : BSet), Wk nrow w0 F0 F w ∧ SlR k_Commit F w (ρ 0) s.t_0 ∧ OwnV (kInt .i64) 3 (Bs w0 nrow) F w (ρ 3) s.t_3 ∧ ρ 4 = .int .i64 s.t_4 ∧ ρ 5 = .int .i64 s.t_5 ∧ ρ 6 = .bool s.t_6 ∧ ρ 7 = .int .i64 s.t_7 ∧ ρ 26 = .bool s.t_26
def G10 (w0 : World) (F0 : BSet) (s : S) (ρ : Env) (w : World) : Prop := ∃ (F : BSet), Wk nrow w0 F0 F w ∧ SlR k_Commit F w (ρ 0) s.t_0 ∧ OwnV (kInt .i64) 3 (Bs w0 nrow) F w (ρ 3) s.t_3 ∧ ρ 4 = .int .i64 s.t_4 ∧ ρ 5 = .int .i64 s.t_5 ∧ ρ 6 = .bool s.t_6 ∧ ρ 7 = .int .i64 s.t_7 ∧ ρ 41 = .bool s.t_41
def G11 (w0 : World) (F0 : BSet) (s : S) (ρ : Env) (w : World) : Prop := ∃ (F : BSet), Wk nrow w0 F0 F w ∧ SlR k_Commit F w (ρ 0) s.t_0 ∧ OwnV (kInt .i64) 3 (Bs w0 nrow) F w (ρ 3) s.t_3 ∧ ρ 4 = .int .i64 s.t_4 ∧ ρ 5 = .int .i64 s.t_5 ∧ ρ 7 = .int .i64 s.t_7
def G12 (w0 : World) (F0 : BSet) (s : S) (ρ : Env) (w : World) : Prop := ∃ (F : BSet), Wk nrow w0 F0 F w ∧ SlR k_Commit F w (ρ 0) s.t_0 ∧ OwnV (kInt .i64) 3 (Bs w0 nrow) F w (ρ 3) s.t_3 ∧ ρ 4 = .int .i64 s.t_4 ∧ ρ 5 = .int .i64 s.t_5 ∧ ρ 59 = .bool s.t_59
def G13 (w0 : World) (F0 : BSet) (s : S) (ρ : Env) (w : World) : Prop := ∃ (F : BSet), Wk nrow w0 F0 F w ∧ SlR k_Commit F w (ρ 0) s.t_0 ∧ OwnV (kInt .i64) 3 (Bs w0 nrow) F w (ρ 3) s.t_3 ∧ ρ 5 = .int .i64 s.t_5
def G14 (w0 : World) (F0 : BSet) (s : S) (ρ : Env) (w : World) : Prop := ∃ (F : BSet), Wk nrow w0 F0 F w ∧ OwnV (kInt .i64) 3 (Bs w0 nrow) F w (ρ 2) s.t_2
set_option maxHeartbeats 4000000 in
set_option maxRecDepth 20000 in
theorem ref (w0 : World) (F0 : BSet) : ∃ c, Try.f45.body = some c ∧ Ref Try.prog 66 c (G0 w0 F0) body (fun _ _ _ => False) (fun _ _ _ _ => False) (fun r ρ w => ∃ s, retv s = r ∧ G14 w0 F0 s ρ w) := by
  refine ⟨_, rfl, ?_⟩
  unfold body
  refine Ref.seq (B := G0 w0 F0) ?_ ?_
  · refine Ref.region (fun s ρ w s' h hr => ?_)
    obtain ⟨F, hW, h0⟩ := h
    refine ol_v (e_as _ rfl) rfl ?_
    obtain rfl := Option.some.inj hr
    exact ol_nil ⟨F, hW, h0⟩
  refine Ref.seq (B := G1 w0 F0) ?_ ?_
  · refine Ref.region (fun s ρ w s' h hr => ?_)
    obtain ⟨F, hW, h0⟩ := h
    refine ol_v (e_as _ rfl) rfl ?_
    obtain rfl := Option.some.inj hr
    exact ol_nil ⟨F, hW, h0, (OwnV.nil (kInt .i64) 3 (Bs w0 nrow) F w)⟩
  refine Ref.seq (B := G3 w0 F0) ?_ ?_
  · refine Ref.block ?_
    refine Ref.loop ?_
    refine Ref.seq (B := G1 w0 F0) ?_ ?_
    · refine Ref.seq (B := G2 w0 F0) ?_ ?_
      · refine Ref.region (fun s ρ w s' h hr => ?_)
        obtain ⟨F, hW, h0, h3⟩ := h
        refine ol_v (e_mv _ rfl) rfl ?_
        obtain ⟨A1, c2, e3, hc4⟩ := h3.shape
        refine ol_v (e_len (SlT.sl sl_23) e3) rfl ?_
        refine ol_v (e_mv _ rfl) rfl ?_
        obtain ⟨A5, c6, e7, hc8, R9⟩ := id h0
        refine ol_v (e_len (SlT.sl sl_22) e7) rfl ?_
        refine ol_v (e_lss rfl rfl) rfl ?_
        obtain rfl := Option.some.inj hr
        exact ol_nil ⟨F, hW, h0, h3, rfl⟩
      refine Ref.cond (b := fun s => s.t_12) (fun s ρ w ⟨F, hW, h0, h3, h12⟩ => h12) (Ref.pre (A := G1 w0 F0) ?_ (fun s ρ w h => (fun ⟨F, hW, h0, h3, h12⟩ => ⟨F, hW, h0, h3⟩ : G2 w0 F0 s ρ w → G1 w0 F0 s ρ w) h.2)) (Ref.pre (A := G3 w0 F0) ?_ (fun s ρ w h => (fun ⟨F, hW, h0, h3, h12⟩ => ⟨F, hW, h3⟩ : G2 w0 F0 s ρ w → G3 w0 F0 s ρ w) h.2))
      · exact Ref.skip
      · exact Ref.exit (fun s ρ w h => h)
    refine Ref.block ?_
    refine Ref.seq (B := G4 w0 F0) ?_ ?_
    · refine Ref.region (fun s ρ w s' h hr => ?_)
      obtain ⟨F, hW, h0, h3⟩ := h
      refine ol_v (e_as _ rfl) rfl ?_
      obtain rfl := Option.some.inj hr
      exact ol_nil ⟨F, hW, h0, h3, rfl⟩
    refine Ref.seq (B := G4 w0 F0) ?_ ?_
    · refine Ref.seq (B := G5 w0 F0) ?_ ?_
      · refine Ref.region (fun s ρ w s' h hr => ?_)
        obtain ⟨F, hW, h0, h3, h4⟩ := h
        refine ol_v (e_as _ rfl) rfl ?_
        obtain rfl := Option.some.inj hr
        exact ol_nil ⟨F, hW, h0, h3, h4, rfl⟩
      refine Ref.block ?_
      refine Ref.loop ?_
      refine Ref.seq (B := G5 w0 F0) ?_ ?_
      · refine Ref.seq (B := G6 w0 F0) ?_ ?_
        · refine Ref.region (fun s ρ w s' h hr => ?_)
          obtain ⟨F, hW, h0, h3, h4, h5⟩ := h
          refine ol_v (e_mv _ h5) rfl ?_
          refine ol_v (e_mv _ rfl) rfl ?_
          obtain ⟨A10, c11, e12, hc13, R14⟩ := id h0
          refine ol_v (e_len (SlT.sl sl_22) e12) rfl ?_
          refine ol_v (e_lss rfl rfl) rfl ?_
          obtain rfl := Option.some.inj hr
          exact ol_nil ⟨F, hW, h0, h3, h4, h5, rfl⟩
        refine Ref.cond (b := fun s => s.t_16) (fun s ρ w ⟨F, hW, h0, h3, h4, h5, h16⟩ => h16) (Ref.pre (A := G5 w0 F0) ?_ (fun s ρ w h => (fun ⟨F, hW, h0, h3, h4, h5, h16⟩ => ⟨F, hW, h0, h3, h4, h5⟩ : G6 w0 F0 s ρ w → G5 w0 F0 s ρ w) h.2)) (Ref.pre (A := G4 w0 F0) ?_ (fun s ρ w h => (fun ⟨F, hW, h0, h3, h4, h5, h16⟩ => ⟨F, hW, h0, h3, h4⟩ : G6 w0 F0 s ρ w → G4 w0 F0 s ρ w) h.2))
        · exact Ref.skip
        · exact Ref.exit (fun s ρ w h => h)
      refine Ref.seq (B := G5 w0 F0) ?_ ?_
      · refine Ref.block ?_
        refine Ref.seq (B := G7 w0 F0) ?_ ?_
        · refine Ref.region (fun s ρ w s' h hr => ?_)
          obtain ⟨F, hW, h0, h3, h4, h5⟩ := h
          refine ol_v (e_mv _ rfl) rfl ?_
          refine ol_v (e_mv _ h5) rfl ?_
          obtain ⟨Fl15, okl15, stl15, hFl15, hl15⟩ := OwnV.lent h3 hW.ok
          obtain ⟨x16, hx16, hr⟩ := bind_some' hr
          refine ol_e (f_call [(ρ 3), .int .i64 s.t_5] fn_33 (lcons rfl (lcons rfl rfl)) (ref3_Has.calls okl15 hl15 s.t_5 hx16)) rfl rfl ?_
          rintro _ w17 ⟨Fz18, rfl, kw1⟩
          have ko20 := kw1
          have kw1 := kw1.lend hW.ok
          have hW21 := hW.trans kw1
          have st1 := kw1.stp hW.ok
          refine ol_v (e_not_ rfl) rfl ?_
          refine ol_v (e_as _ rfl) rfl ?_
          obtain rfl := Option.some.inj hr
          exact ol_nil ⟨F, hW21, (h0.keep st1), (h3.wk kw1 hW.ok), h4, h5, rfl⟩
        refine Ref.seq (B := G7 w0 F0) ?_ ?_
        · refine Ref.seq (B := G8 w0 F0) ?_ ?_
          · refine Ref.region (fun s ρ w s' h hr => ?_)
            obtain ⟨F, hW, h0, h3, h4, h5, h6⟩ := h
            refine ol_v (e_as _ rfl) rfl ?_
            obtain rfl := Option.some.inj hr
            exact ol_nil ⟨F, hW, h0, h3, h4, h5, h6, rfl⟩
          refine Ref.block ?_
          refine Ref.loop ?_
          refine Ref.seq (B := G8 w0 F0) ?_ ?_
          · refine Ref.seq (B := G9 w0 F0) ?_ ?_
            · refine Ref.region (fun s ρ w s' h hr => ?_)
              obtain ⟨F, hW, h0, h3, h4, h5, h6, h7⟩ := h
              refine ol_v (e_mv _ h7) rfl ?_
              refine ol_v (e_mv _ rfl) rfl ?_
              obtain ⟨A22, c23, e24, hc25, R26⟩ := id h0
              refine ol_v (e_len (SlT.sl sl_22) e24) rfl ?_
              refine ol_v (e_lss rfl rfl) rfl ?_
              obtain rfl := Option.some.inj hr
              exact ol_nil ⟨F, hW, h0, h3, h4, h5, h6, h7, rfl⟩
            refine Ref.cond (b := fun s => s.t_26) (fun s ρ w ⟨F, hW, h0, h3, h4, h5, h6, h7, h26⟩ => h26) (Ref.pre (A := G8 w0 F0) ?_ (fun s ρ w h => (fun ⟨F, hW, h0, h3, h4, h5, h6, h7, h26⟩ => ⟨F, hW, h0, h3, h4, h5, h6, h7⟩ : G9 w0 F0 s ρ w → G8 w0 F0 s ρ w) h.2)) (Ref.pre (A := G7 w0 F0) ?_ (fun s ρ w h => (fun ⟨F, hW, h0, h3, h4, h5, h6, h7, h26⟩ => ⟨F, hW, h0, h3, h4, h5, h6⟩ : G9 w0 F0 s ρ w → G7 w0 F0 s ρ w) h.2))
            · exact Ref.skip
            · exact Ref.exit (fun s ρ w h => h)
          refine Ref.seq (B := G8 w0 F0) ?_ ?_
          · refine Ref.block ?_
            refine Ref.seq (B := G10 w0 F0) ?_ ?_
            · refine Ref.region (fun s ρ w s' h hr => ?_)
              obtain ⟨F, hW, h0, h3, h4, h5, h6, h7⟩ := h
              refine ol_v (e_mv _ rfl) rfl ?_
              refine ol_v (e_mv _ h7) rfl ?_
              obtain ⟨x27, hx27, hr⟩ := bind_some' hr
              obtain ⟨A28, c29, e30, hc31, R32⟩ := id h0
              obtain ⟨b33, o34, hA35, L36⟩ := Row.at_ R32 hx27
              refine ol_v (e_ix (SlT.sl sl_22) (SlT.sz sl_22) hA35 hx27 e30 rfl) rfl ?_
              refine ol_v (e_fa fa_56_0 rfl) rfl ?_
              obtain ⟨v37, hl38, hs39⟩ := LiesV.sl (L36.fld fl_Commit_0).at_
              refine ol_v (e_ld ty_23 hl38 rfl) rfl ?_
              refine ol_v (e_mv _ h5) rfl ?_
              obtain ⟨x40, hx40, hr⟩ := bind_some' hr
              refine ol_e (f_call [v37, .int .i64 s.t_5] fn_33 (lcons rfl (lcons rfl rfl)) (ref3_Has.calls hW.ok hs39 s.t_5 hx40)) rfl rfl ?_
              rintro _ w41 ⟨Fz42, rfl, kw1⟩
              have hW44 := hW.trans kw1
              have st1 := kw1.stp hW.ok
              obtain ⟨x54, hx55, hr⟩ := bind_some' hr
              refine ol_cutA 6 36 41 (fun ρ' w' => ∃ F', Wk nrow w41 Fz42 F' w' ∧ ρ' 41 = .bool x54) rfl ?_ ?_
              · by_cases hb45 : x40 = true
                · have hr := hx55
                  rw [if_pos hb45] at hr
                  refine ol_v (e_mv _ rfl) rfl ?_
                  refine ol_yes rfl rfl (congrArg Value.bool hb45) ?_
                  refine ol_v (e_mv _ rfl) rfl ?_
                  refine ol_yes rfl rfl (congrArg Value.bool hb45) ?_
                  refine ol_v (e_mv _ h7) rfl ?_
                  refine ol_yes rfl rfl (congrArg Value.bool hb45) ?_
                  obtain ⟨Fl47, okl47, stl47, hFl47, hl47⟩ := OwnV.lent (h3.wk kw1 hW.ok) hW44.ok
                  obtain ⟨x48, hx48, hr⟩ := bind_some' hr
                  refine ol_e (f_call [(ρ 3), .int .i64 s.t_7] fn_33 (lcons rfl (lcons rfl rfl)) (ref3_Has.calls okl47 hl47 s.t_7 hx48)) rfl rfl ?_
                  rintro _ w49 ⟨Fz50, rfl, kw2⟩
                  have ko52 := kw2
                  have kw2 := kw2.lend hW44.ok
                  have hW53 := hW44.trans kw2
                  have st2 := kw2.stp hW44.ok
                  refine ol_yes rfl rfl (congrArg Value.bool hb45) ?_
                  refine ol_v (e_not_ rfl) rfl ?_
                  refine ol_v (e_pick true _ (congrArg Value.bool hb45) rfl) rfl ?_
                  exact ol_nil ⟨⟨_, kw2, (congrArg Value.bool (Option.some.inj hr))⟩, (((((((Agr.refl _ _ _).upd rfl rfl).upd rfl rfl).upd rfl rfl).upd rfl rfl).upd rfl rfl).upd rfl rfl)⟩
                · have hb46 := Bool.eq_false_iff.mpr hb45
                  have hr := hx55
                  rw [if_neg hb45] at hr
                  refine ol_v (e_mv _ rfl) rfl ?_
                  refine ol_not rfl rfl rfl (congrArg Value.bool hb46) rfl ?_
                  refine ol_not rfl rfl rfl (congrArg Value.bool hb46) rfl ?_
                  refine ol_not rfl rfl rfl (congrArg Value.bool hb46) rfl ?_
                  refine ol_not rfl rfl rfl (congrArg Value.bool hb46) rfl ?_
                  refine ol_v (e_pick false _ (congrArg Value.bool hb46) rfl) rfl ?_
                  exact ol_nil ⟨⟨_, Wk.refl hW44.ok, (congrArg Value.bool (Option.some.inj hr))⟩, (((((((Agr.refl _ _ _).upd rfl rfl).upd rfl rfl).upd rfl rfl).upd rfl rfl).upd rfl rfl).upd rfl rfl)⟩
              rintro ρ55 w56 ⟨⟨Fz57, kw2, hp55⟩, hAg55⟩
              have hW58 := hW44.trans kw2
              have st2 := kw2.stp hW44.ok
              obtain rfl := Option.some.inj hr
              exact ol_nil ⟨Fz57, hW58, (SlR.eqv (hAg55 0 rfl) (h0.keep (st1.trans st2))), (OwnV.eqv (hAg55 3 rfl) ((h3.wk kw1 hW.ok).wk kw2 hW44.ok)), ((hAg55 4 rfl).trans h4), ((hAg55 5 rfl).trans h5), ((hAg55 6 rfl).trans h6), ((hAg55 7 rfl).trans h7), hp55⟩
            refine Ref.cond (b := fun s => s.t_41) (fun s ρ w ⟨F, hW, h0, h3, h4, h5, h6, h7, h41⟩ => h41) (Ref.pre (A := G11 w0 F0) ?_ (fun s ρ w h => (fun ⟨F, hW, h0, h3, h4, h5, h6, h7, h41⟩ => ⟨F, hW, h0, h3, h4, h5, h7⟩ : G10 w0 F0 s ρ w → G11 w0 F0 s ρ w) h.2)) (Ref.pre (A := G8 w0 F0) ?_ (fun s ρ w h => (fun ⟨F, hW, h0, h3, h4, h5, h6, h7, h41⟩ => ⟨F, hW, h0, h3, h4, h5, h6, h7⟩ : G10 w0 F0 s ρ w → G8 w0 F0 s ρ w) h.2))
            · refine Ref.region (fun s ρ w s' h hr => ?_)
              obtain ⟨F, hW, h0, h3, h4, h5, h7⟩ := h
              refine ol_v (e_as _ rfl) rfl ?_
              obtain rfl := Option.some.inj hr
              exact ol_nil ⟨F, hW, h0, h3, h4, h5, rfl, h7⟩
            · exact Ref.skip
          refine Ref.region (fun s ρ w s' h hr => ?_)
          obtain ⟨F, hW, h0, h3, h4, h5, h6, h7⟩ := h
          refine ol_v (e_mv _ h7) rfl ?_
          refine ol_v (e_add rfl rfl) rfl ?_
          refine ol_v (e_as _ rfl) rfl ?_
          obtain rfl := Option.some.inj hr
          exact ol_nil ⟨F, hW, h0, h3, h4, h5, h6, rfl⟩
        refine Ref.seq (B := G12 w0 F0) ?_ ?_
        · refine Ref.regionS (by kernel_rfl) (by kernel_rfl) (fun s ρ w ⟨F, hW, h0, h3, h4, h5, h6⟩ => ⟨F, hW.drewS, h0.keep (sd hW), h3.wk (Wk.drew (row := nrow) hW.ok) hW.ok, h4, h5, h6⟩) (fun s ρ w s' h hr => ?_)
          obtain ⟨F, hW, h0, h3, h4, h5, h6⟩ := h
          refine ol_v (e_mv _ h6) rfl ?_
          obtain ⟨x85, hx86, hr⟩ := bind_some' hr
          refine ol_cutA 17 43 59 (fun ρ' w' => w = w' ∧ ρ' 59 = .bool x85) rfl ?_ ?_
          · by_cases hb59 : s.t_6 = true
            · have hr := hx86
              rw [if_pos hb59] at hr
              refine ol_v (e_mv _ rfl) rfl ?_
              refine ol_yes rfl rfl (congrArg Value.bool hb59) ?_
              refine ol_v (e_mv _ h4) rfl ?_
              refine ol_yes rfl rfl (congrArg Value.bool hb59) ?_
              refine ol_v (e_lss rfl rfl) rfl ?_
              refine ol_yes rfl rfl (congrArg Value.bool hb59) ?_
              obtain ⟨x83, hx84, hr⟩ := bind_some' hr
              refine ol_cutA 13 46 58 (fun ρ' w' => w = w' ∧ ρ' 58 = .bool x83) rfl ?_ ?_
              · by_cases hb61 : (decide (s.t_4 < (0 : Int))) = true
                · have hr := hx84
                  rw [if_pos hb61] at hr
                  refine ol_v (e_mv _ rfl) rfl ?_
                  refine ol_not rfl rfl rfl (congrArg Value.bool hb61) rfl ?_
                  refine ol_not rfl rfl rfl (congrArg Value.bool hb61) rfl ?_
                  refine ol_not rfl rfl rfl (congrArg Value.bool hb61) rfl ?_
                  refine ol_not rfl rfl rfl (congrArg Value.bool hb61) rfl ?_
                  refine ol_not rfl rfl rfl (congrArg Value.bool hb61) rfl ?_
                  refine ol_not rfl rfl rfl (congrArg Value.bool hb61) rfl ?_
                  refine ol_not rfl rfl rfl (congrArg Value.bool hb61) rfl ?_
                  refine ol_not rfl rfl rfl (congrArg Value.bool hb61) rfl ?_
                  refine ol_not rfl rfl rfl (congrArg Value.bool hb61) rfl ?_
                  refine ol_not rfl rfl rfl (congrArg Value.bool hb61) rfl ?_
                  refine ol_not rfl rfl rfl (congrArg Value.bool hb61) rfl ?_
                  refine ol_yes rfl rfl (congrArg Value.bool hb59) ?_
                  refine ol_v (e_pick true _ (congrArg Value.bool hb61) rfl) rfl ?_
                  exact ol_nil ⟨⟨rfl, (congrArg Value.bool (Option.some.inj hr))⟩, ((((((((((((((Agr.refl _ _ _).upd rfl rfl).upd rfl rfl).upd rfl rfl).upd rfl rfl).upd rfl rfl).upd rfl rfl).upd rfl rfl).upd rfl rfl).upd rfl rfl).upd rfl rfl).upd rfl rfl).upd rfl rfl).upd rfl rfl)⟩
                · have hb62 := Bool.eq_false_iff.mpr hb61
                  have hr := hx84
                  rw [if_neg hb61] at hr
                  refine ol_v (e_mv _ rfl) rfl ?_
                  refine ol_yes rfl rfl (congrArg Value.bool hb62) ?_
                  refine ol_v (e_mv _ rfl) rfl ?_
                  refine ol_yes rfl rfl (congrArg Value.bool hb62) ?_
                  refine ol_v (e_mv _ h5) rfl ?_
                  refine ol_yes rfl rfl (congrArg Value.bool hb62) ?_
                  obtain ⟨x63, hx63, hr⟩ := bind_some' hr
                  obtain ⟨A64, c65, e66, hc67, R68⟩ := id h0
                  obtain ⟨b69, o70, hA71, L72⟩ := Row.at_ R68 hx63
                  refine ol_v (e_ix (SlT.sl sl_22) (SlT.sz sl_22) hA71 hx63 e66 rfl) rfl ?_
                  refine ol_yes rfl rfl (congrArg Value.bool hb62) ?_
                  refine ol_v (e_fa fa_56_2 rfl) rfl ?_
                  refine ol_yes rfl rfl (congrArg Value.bool hb62) ?_
                  refine ol_v (e_ld ty_3 (LiesV.int (L72.fld fl_Commit_2).at_) rfl) rfl ?_
                  refine ol_yes rfl rfl (congrArg Value.bool hb62) ?_
                  refine ol_v (e_mv _ rfl) rfl ?_
                  refine ol_yes rfl rfl (congrArg Value.bool hb62) ?_
                  refine ol_v (e_mv _ h4) rfl ?_
                  refine ol_yes rfl rfl (congrArg Value.bool hb62) ?_
                  obtain ⟨x73, hx73, hr⟩ := bind_some' hr
                  obtain ⟨A74, c75, e76, hc77, R78⟩ := id h0
                  obtain ⟨b79, o80, hA81, L82⟩ := Row.at_ R78 hx73
                  refine ol_v (e_ix (SlT.sl sl_22) (SlT.sz sl_22) hA81 hx73 e76 rfl) rfl ?_
                  refine ol_yes rfl rfl (congrArg Value.bool hb62) ?_
                  refine ol_v (e_fa fa_56_2 rfl) rfl ?_
                  refine ol_yes rfl rfl (congrArg Value.bool hb62) ?_
                  refine ol_v (e_ld ty_3 (LiesV.int (L82.fld fl_Commit_2).at_) rfl) rfl ?_
                  refine ol_yes rfl rfl (congrArg Value.bool hb62) ?_
                  refine ol_v (e_geq rfl rfl) rfl ?_
                  refine ol_yes rfl rfl (congrArg Value.bool hb59) ?_
                  refine ol_v (e_pick false _ (congrArg Value.bool hb62) rfl) rfl ?_
                  exact ol_nil ⟨⟨rfl, (congrArg Value.bool (Option.some.inj hr))⟩, ((((((((((((((Agr.refl _ _ _).upd rfl rfl).upd rfl rfl).upd rfl rfl).upd rfl rfl).upd rfl rfl).upd rfl rfl).upd rfl rfl).upd rfl rfl).upd rfl rfl).upd rfl rfl).upd rfl rfl).upd rfl rfl).upd rfl rfl)⟩
              rintro ρ84 _ ⟨⟨rfl, hp84⟩, hAg84⟩
              refine ol_v (e_pick true _ ((hAg84 43 rfl).trans (congrArg Value.bool hb59)) hp84) rfl ?_
              exact ol_nil ⟨⟨rfl, (congrArg Value.bool (Option.some.inj hr))⟩, ((((((Agr.refl _ _ _).upd rfl rfl).upd rfl rfl).upd rfl rfl).into hAg84 rfl rfl).upd rfl rfl)⟩
            · have hb60 := Bool.eq_false_iff.mpr hb59
              have hr := hx86
              rw [if_neg hb59] at hr
              refine ol_v (e_mv _ rfl) rfl ?_
              refine ol_not rfl rfl rfl (congrArg Value.bool hb60) rfl ?_
              refine ol_not rfl rfl rfl (congrArg Value.bool hb60) rfl ?_
              refine ol_not rfl rfl rfl (congrArg Value.bool hb60) rfl ?_
              refine ol_notU rfl rfl rfl rfl ?_
              refine ol_notU rfl rfl rfl rfl ?_
              refine ol_notU rfl rfl rfl rfl ?_
              refine ol_notU rfl rfl rfl rfl ?_
              refine ol_notU rfl rfl rfl rfl ?_
              refine ol_notU rfl rfl rfl rfl ?_
              refine ol_notU rfl rfl rfl rfl ?_
              refine ol_notU rfl rfl rfl rfl ?_
              refine ol_notU rfl rfl rfl rfl ?_
              refine ol_notU rfl rfl rfl rfl ?_
              refine ol_notU rfl rfl rfl rfl ?_
              refine ol_not rfl rfl rfl (congrArg Value.bool hb60) rfl ?_
              refine ol_v (e_pick false _ (congrArg Value.bool hb60) rfl) rfl ?_
              exact ol_nil ⟨⟨rfl, (congrArg Value.bool (Option.some.inj hr))⟩, ((((((((((((((((((Agr.refl _ _ _).upd rfl rfl).upd rfl rfl).upd rfl rfl).upd rfl rfl).upd rfl rfl).upd rfl rfl).upd rfl rfl).upd rfl rfl).upd rfl rfl).upd rfl rfl).upd rfl rfl).upd rfl rfl).upd rfl rfl).upd rfl rfl).upd rfl rfl).upd rfl rfl).upd rfl rfl)⟩
          rintro ρ86 _ ⟨⟨rfl, hp86⟩, hAg86⟩
          obtain rfl := Option.some.inj hr
          exact ol_nil ⟨F, hW, (SlR.eqv (hAg86 0 rfl) h0), (OwnV.eqv (hAg86 3 rfl) h3), ((hAg86 4 rfl).trans h4), ((hAg86 5 rfl).trans h5), hp86⟩
        refine Ref.cond (b := fun s => s.t_59) (fun s ρ w ⟨F, hW, h0, h3, h4, h5, h59⟩ => h59) (Ref.pre (A := G13 w0 F0) ?_ (fun s ρ w h => (fun ⟨F, hW, h0, h3, h4, h5, h59⟩ => ⟨F, hW, h0, h3, h5⟩ : G12 w0 F0 s ρ w → G13 w0 F0 s ρ w) h.2)) (Ref.pre (A := G5 w0 F0) ?_ (fun s ρ w h => (fun ⟨F, hW, h0, h3, h4, h5, h59⟩ => ⟨F, hW, h0, h3, h4, h5⟩ : G12 w0 F0 s ρ w → G5 w0 F0 s ρ w) h.2))
        · refine Ref.region (fun s ρ w s' h hr => ?_)
          obtain ⟨F, hW, h0, h3, h5⟩ := h
          refine ol_v (e_mv _ h5) rfl ?_
          refine ol_v (e_as _ rfl) rfl ?_
          obtain rfl := Option.some.inj hr
          exact ol_nil ⟨F, hW, h0, h3, rfl, h5⟩
        · exact Ref.skip
      refine Ref.region (fun s ρ w s' h hr => ?_)
      obtain ⟨F, hW, h0, h3, h4, h5⟩ := h
      refine ol_v (e_mv _ h5) rfl ?_
      refine ol_v (e_add rfl rfl) rfl ?_
      refine ol_v (e_as _ rfl) rfl ?_
      obtain rfl := Option.some.inj hr
      exact ol_nil ⟨F, hW, h0, h3, h4, rfl⟩
    refine Ref.region (fun s ρ w s' h hr => ?_)
    obtain ⟨F, hW, h0, h3, h4⟩ := h
    refine ol_v (e_mv _ rfl) rfl ?_
    refine ol_v (e_mv _ h4) rfl ?_
    refine ol_e (f_bslF sl_23 hW ([s.t_4] : List Int) [.int .i64 s.t_4] (by exact ⟨_, _, rfl, (val_int _ _), rfl⟩) rfl (Nat.le_of_ble_eq_true rfl) (lcons (congrArg (Prod.mk 0) rfl) rfl)) rfl rfl ?_
    rintro v87 w88 ⟨Fz90, kw1, ho89⟩
    have hW91 := hW.trans kw1
    have st1 := kw1.stp hW.ok
    obtain ⟨x92, hx92, hr⟩ := bind_some' hr
    refine ol_e (f_app sl_23 hW91 (h3.wk kw1 hW.ok) ho89 hx92 rfl rfl) rfl rfl ?_
    rintro v93 w94 ⟨hW95, ho96, hg2, st2, hor97⟩
    refine ol_v (e_as _ rfl) rfl ?_
    obtain rfl := Option.some.inj hr
    exact ol_nil ⟨Fz90, hW95, (h0.keep (st1.trans st2)), ho96⟩
  refine Ref.seq (B := G14 w0 F0) ?_ ?_
  · refine Ref.region (fun s ρ w s' h hr => ?_)
    obtain ⟨F, hW, h3⟩ := h
    refine ol_v (e_mv _ rfl) rfl ?_
    refine ol_v (e_as _ rfl) rfl ?_
    obtain rfl := Option.some.inj hr
    exact ol_nil ⟨F, hW, h3⟩
  exact Ref.ret (fun s ρ w h => ⟨s, rfl, h⟩)
def post (w : World) (F : BSet) (r : R) (v : Value) (w' : World) : Prop := ∃ (F' : BSet) (v0' : Value), v = v0' ∧ Wk nrow w F F' w' ∧ OwnV (kInt .i64) 3 (Nw w) F' w' v0' r
theorem calls {w : World} {F : BSet} (hok : ∀ b, F b → b < w.heap.size) {v0 : Value} {a0 : (List Commit)} (h0 : SlR k_Commit F w v0 a0) {r : R} (hf : f a0 = some r) : Calls Try.prog 45 #[v0] w fun e w' => ∃ v, e = .returned v ∧ post w F r v w' := by
  obtain ⟨c, hc, href⟩ := ref w F
  refine calls_of_ref (args := [v0]) _ Try.func45 hc rfl rfl href ?_ (retOf_some hf) ?_
  · exact ⟨F, Wk.refl hok, h0⟩
  · rintro ρ w' a ⟨s, rfl, F', hW, h2⟩ hF
    refine ⟨_, run_results (rs := [.tmp 2]) rfl hF (vs := [ρ 2]) (⟨_, rfl, rfl⟩), ?_⟩
    exact ⟨F', ρ 2, rfl, hW, h2.rebase (fun g hg => (h2.lt hg).1.resolve_right (fun h => h))⟩
end
end ref3_OrderOf

namespace ref4_RoundsOf
section
def G0 (w0 : World) (F0 : BSet) (s : S) (ρ : Env) (w : World) : Prop := ∃ (F : BSet), Wk nrow w0 F0 F w ∧ SlR k_Commit F w (ρ 0) s.t_0 ∧ SlR kBool F w (ρ 1) s.t_1 ∧ SlR kBool F w (ρ 2) s.t_2
def G1 (w0 : World) (F0 : BSet) (s : S) (ρ : Env) (w : World) : Prop := ∃ (F : BSet), Wk nrow w0 F0 F w ∧ SlR k_Commit F w (ρ 0) s.t_0 ∧ SlR kBool F w (ρ 1) s.t_1 ∧ SlR kBool F w (ρ 2) s.t_2 ∧ SlR (kInt .i64) F w (ρ 7) s.t_7
def G2 (w0 : World) (F0 : BSet) (s : S) (ρ : Env) (w : World) : Prop := ∃ (F : BSet), Wk nrow w0 F0 F w ∧ SlR kBool F w (ρ 1) s.t_1 ∧ SlR kBool F w (ρ 2) s.t_2 ∧ SlR (kInt .i64) F w (ρ 7) s.t_7 ∧ SlR (kSl kBool) F w (ρ 8) s.t_8
def G3 (w0 : World) (F0 : BSet) (s : S) (ρ : Env) (w : World) : Prop := ∃ (F : BSet), Wk nrow w0 F0 F w ∧ SlR kBool F w (ρ 1) s.t_1 ∧ SlR kBool F w (ρ 2) s.t_2 ∧ SlR (kInt .i64) F w (ρ 7) s.t_7 ∧ SlR (kSl kBool) F w (ρ 8) s.t_8 ∧ OwnV (kInt .i64) 3 (Bs w0 nrow) F w (ρ 9) s.t_9
def G4 (w0 : World) (F0 : BSet) (s : S) (ρ : Env) (w : World) : Prop := ∃ (F : BSet), Wk nrow w0 F0 F w ∧ SlR kBool F w (ρ 1) s.t_1 ∧ SlR kBool F w (ρ 2) s.t_2 ∧ SlR (kInt .i64) F w (ρ 7) s.t_7 ∧ SlR (kSl kBool) F w (ρ 8) s.t_8 ∧ OwnV (kInt .i64) 3 (Bs w0 nrow) F w (ρ 9) s.t_9 ∧ OwnV (kSl (kInt .i64)) 23 (Bs w0 nrow) F w (ρ 10) s.t_10
def G5 (w0 : World) (F0 : BSet) (s : S) (ρ : Env) (w : World) : Prop := ∃ (F : BSet), Wk nrow w0 F0 F w ∧ SlR kBool F w (ρ 1) s.t_1 ∧ SlR kBool F w (ρ 2) s.t_2 ∧ SlR (kInt .i64) F w (ρ 7) s.t_7 ∧ SlR (kSl kBool) F w (ρ 8) s.t_8 ∧ OwnV (kInt .i64) 3 (Bs w0 nrow) F w (ρ 9) s.t_9 ∧ OwnV (kSl (kInt .i64)) 23 (Bs w0 nrow) F w (ρ 10) s.t_10 ∧ ρ 11 = .int .i64 s.t_11
def G6 (w0 : World) (F0 : BSet) (s : S) (ρ : Env) (w : World) : Prop := ∃ (F : BSet), Wk nrow w0 F0 F w ∧ SlR kBool F w (ρ 1) s.t_1 ∧ SlR kBool F w (ρ 2) s.t_2 ∧ SlR (kInt .i64) F w (ρ 7) s.t_7 ∧ SlR (kSl kBool) F w (ρ 8) s.t_8 ∧ OwnV (kInt .i64) 3 (Bs w0 nrow) F w (ρ 9) s.t_9 ∧ OwnV (kSl (kInt .i64)) 23 (Bs w0 nrow) F w (ρ 10) s.t_10 ∧ ρ 11 = .int .i64 s.t_11 ∧ ρ 12 = .int .i64 s.t_12
def G7 (w0 : World) (F0 : BSet) (s : S) (ρ : Env) (w : World) : Prop := ∃ (F : BSet), Wk nrow w0 F0 F w ∧ SlR kBool F w (ρ 1) s.t_1 ∧ SlR kBool F w (ρ 2) s.t_2 ∧ SlR (kInt .i64) F w (ρ 7) s.t_7 ∧ SlR (kSl kBool) F w (ρ 8) s.t_8 ∧ OwnV (kInt .i64) 3 (Bs w0 nrow) F w (ρ 9) s.t_9 ∧ OwnV (kSl (kInt .i64)) 23 (Bs w0 nrow) F w (ρ 10) s.t_10 ∧ ρ 11 = .int .i64 s.t_11 ∧ ρ 12 = .int .i64 s.t_12 ∧ ρ 25 = .bool s.t_25
def G8 (w0 : World) (F0 : BSet) (s : S) (ρ : Env) (w : World) : Prop := ∃ (F : BSet), Wk nrow w0 F0 F w ∧ SlR kBool F w (ρ 1) s.t_1 ∧ SlR kBool F w (ρ 2) s.t_2 ∧ SlR (kInt .i64) F w (ρ 7) s.t_7 ∧ SlR (kSl kBool) F w (ρ 8) s.t_8 ∧ OwnV (kInt .i64) 3 (Bs w0 nrow) F w (ρ 9) s.t_9 ∧ OwnV (kSl (kInt .i64)) 23 (Bs w0 nrow) F w (ρ 10) s.t_10 ∧ ρ 11 = .int .i64 s.t_11 ∧ ρ 12 = .int .i64 s.t_12 ∧ OwnV (kInt .i64) 3 (Bs w0 nrow) F w (ρ 13) s.t_13 ∧ Apart (ρ 9).ownBlock (ρ 13).ownBlock
def G9 (w0 : World) (F0 : BSet) (s : S) (ρ : Env) (w : World) : Prop := ∃ (F : BSet), Wk nrow w0 F0 F w ∧ SlR kBool F w (ρ 1) s.t_1 ∧ SlR kBool F w (ρ 2) s.t_2 ∧ SlR (kInt .i64) F w (ρ 7) s.t_7 ∧ SlR (kSl kBool) F w (ρ 8) s.t_8 ∧ OwnV (kInt .i64) 3 (Bs w0 nrow) F w (ρ 9) s.t_9 ∧ OwnV (kSl (kInt .i64)) 23 (Bs w0 nrow) F w (ρ 10) s.t_10 ∧ ρ 11 = .int .i64 s.t_11 ∧ ρ 12 = .int .i64 s.t_12 ∧ OwnV (kInt .i64) 3 (Bs w0 nrow) F w (ρ 13) s.t_13 ∧ ρ 14 = .int .i64 s.t_14 ∧ Apart (ρ 9).ownBlock (ρ 13).ownBlock
def G10 (w0 : World) (F0 : BSet) (s : S) (ρ : Env) (w : World) : Prop := ∃ (F : BSet), Wk nrow w0 F0 F w ∧ SlR kBool F w (ρ 1) s.t_1 ∧ SlR kBool F w (ρ 2) s.t_2 ∧ SlR (kInt .i64) F w (ρ 7) s.t_7 ∧ SlR (kSl kBool) F w (ρ 8) s.t_8 ∧ OwnV (kInt .i64) 3 (Bs w0 nrow) F w (ρ 9) s.t_9 ∧ OwnV (kSl (kInt .i64)) 23 (Bs w0 nrow) F w (ρ 10) s.t_10 ∧ ρ 11 = .int .i64 s.t_11 ∧ ρ 12 = .int .i64 s.t_12 ∧ OwnV (kInt .i64) 3 (Bs w0 nrow) F w (ρ 13) s.t_13 ∧ ρ 14 = .int .i64 s.t_14 ∧ ρ 37 = .bool s.t_37 ∧ Apart (ρ 9).ownBlock (ρ 13).ownBlock
def G11 (w0 : World) (F0 : BSet) (s : S) (ρ : Env) (w : World) : Prop := ∃ (F : BSet), Wk nrow w0 F0 F w ∧ SlR kBool F w (ρ 1) s.t_1 ∧ SlR kBool F w (ρ 2) s.t_2 ∧ SlR (kInt .i64) F w (ρ 7) s.t_7 ∧ SlR (kSl kBool) F w (ρ 8) s.t_8 ∧ OwnV (kInt .i64) 3 (Bs w0 nrow) F w (ρ 9) s.t_9 ∧ OwnV (kSl (kInt .i64)) 23 (Bs w0 nrow) F w (ρ 10) s.t_10 ∧ ρ 11 = .int .i64 s.t_11 ∧ OwnV (kInt .i64) 3 (Bs w0 nrow) F w (ρ 13) s.t_13 ∧ Apart (ρ 9).ownBlock (ρ 13).ownBlock
def G12 (w0 : World) (F0 : BSet) (s : S) (ρ : Env) (w : World) : Prop := ∃ (F : BSet), Wk nrow w0 F0 F w ∧ SlR kBool F w (ρ 1) s.t_1 ∧ SlR kBool F w (ρ 2) s.t_2 ∧ SlR (kInt .i64) F w (ρ 7) s.t_7 ∧ SlR (kSl kBool) F w (ρ 8) s.t_8 ∧ OwnV (kInt .i64) 3 (Bs w0 nrow) F w (ρ 9) s.t_9 ∧ OwnV (kSl (kInt .i64)) 23 (Bs w0 nrow) F w (ρ 10) s.t_10 ∧ ρ 11 = .int .i64 s.t_11 ∧ ρ 12 = .int .i64 s.t_12 ∧ OwnV (kInt .i64) 3 (Bs w0 nrow) F w (ρ 13) s.t_13 ∧ ρ 14 = .int .i64 s.t_14 ∧ ρ 15 = .int .i64 s.t_15 ∧ Apart (ρ 9).ownBlock (ρ 13).ownBlock
def G13 (w0 : World) (F0 : BSet) (s : S) (ρ : Env) (w : World) : Prop := ∃ (F : BSet), Wk nrow w0 F0 F w ∧ SlR kBool F w (ρ 1) s.t_1 ∧ SlR kBool F w (ρ 2) s.t_2 ∧ SlR (kInt .i64) F w (ρ 7) s.t_7 ∧ SlR (kSl kBool) F w (ρ 8) s.t_8 ∧ OwnV (kInt .i64) 3 (Bs w0 nrow) F w (ρ 9) s.t_9 ∧ OwnV (kSl (kInt .i64)) 23 (Bs w0 nrow) F w (ρ 10) s.t_10 ∧ ρ 11 = .int .i64 s.t_11 ∧ ρ 12 = .int .i64 s.t_12 ∧ OwnV (kInt .i64) 3 (Bs w0 nrow) F w (ρ 13) s.t_13 ∧ ρ 14 = .int .i64 s.t_14 ∧ ρ 15 = .int .i64 s.t_15 ∧ ρ 16 = .bool s.t_16 ∧ Apart (ρ 9).ownBlock (ρ 13).ownBlock
def G14 (w0 : World) (F0 : BSet) (s : S) (ρ : Env) (w : World) : Prop := ∃ (F : BSet), Wk nrow w0 F0 F w ∧ SlR kBool F w (ρ 1) s.t_1 ∧ SlR kBool F w (ρ 2) s.t_2 ∧ SlR (kInt .i64) F w (ρ 7) s.t_7 ∧ SlR (kSl kBool) F w (ρ 8) s.t_8 ∧ OwnV (kInt .i64) 3 (Bs w0 nrow) F w (ρ 9) s.t_9 ∧ OwnV (kSl (kInt .i64)) 23 (Bs w0 nrow) F w (ρ 10) s.t_10 ∧ ρ 11 = .int .i64 s.t_11 ∧ ρ 12 = .int .i64 s.t_12 ∧ OwnV (kInt .i64) 3 (Bs w0 nrow) F w (ρ 13) s.t_13 ∧ ρ 14 = .int .i64 s.t_14 ∧ ρ 15 = .int .i64 s.t_15 ∧ ρ 16 = .bool s.t_16 ∧ ρ 17 = .int .i64 s.t_17 ∧ Apart (ρ 9).ownBlock (ρ 13).ownBlock
def G15 (w0 : World) (F0 : BSet) (s : S) (ρ : Env) (w : World) : Prop := ∃ (F : BSet), Wk nrow w0 F0 F w ∧ SlR kBool F w (ρ 1) s.t_1 ∧ SlR kBool F w (ρ 2) s.t_2 ∧ SlR (kInt .i64) F w (ρ 7) s.t_7 ∧ SlR (kSl kBool) F w (ρ 8) s.t_8 ∧ OwnV (kInt .i64) 3 (Bs w0 nrow) F w (ρ 9) s.t_9 ∧ OwnV (kSl (kInt .i64)) 23 (Bs w0 nrow) F w (ρ 10) s.t_10 ∧ ρ 11 = .int .i64 s.t_11 ∧ ρ 12 = .int .i64 s.t_12 ∧ OwnV (kInt .i64) 3 (Bs w0 nrow) F w (ρ 13) s.t_13 ∧ ρ 14 = .int .i64 s.t_14 ∧ ρ 15 = .int .i64 s.t_15 ∧ ρ 16 = .bool s.t_16 ∧ ρ 17 = .int .i64 s.t_17 ∧ ρ 57 = .bool s.t_57 ∧ Apart (ρ 9).ownBlock (ρ 13).ownBlock
def G16 (w0 : World) (F0 : BSet) (s : S) (ρ : Env) (w : World) : Prop := ∃ (F : BSet), Wk nrow w0 F0 F w ∧ SlR kBool F w (ρ 1) s.t_1 ∧ SlR kBool F w (ρ 2) s.t_2 ∧ SlR (kInt .i64) F w (ρ 7) s.t_7 ∧ SlR (kSl kBool) F w (ρ 8) s.t_8 ∧ OwnV (kInt .i64) 3 (Bs w0 nrow) F w (ρ 9) s.t_9 ∧ OwnV (kSl (kInt .i64)) 23 (Bs w0 nrow) F w (ρ 10) s.t_10 ∧ ρ 11 = .int .i64 s.t_11 ∧ ρ 12 = .int .i64 s.t_12 ∧ OwnV (kInt .i64) 3 (Bs w0 nrow) F w (ρ 13) s.t_13 ∧ ρ 14 = .int .i64 s.t_14 ∧ ρ 15 = .int .i64 s.t_15 ∧ ρ 16 = .bool s.t_16 ∧ ρ 17 = .int .i64 s.t_17 ∧ ρ 78 = .bool s.t_78 ∧ Apart (ρ 9).ownBlock (ρ 13).ownBlock
def G17 (w0 : World) (F0 : BSet) (s : S) (ρ : Env) (w : World) : Prop := ∃ (F : BSet), Wk nrow w0 F0 F w ∧ SlR kBool F w (ρ 1) s.t_1 ∧ SlR kBool F w (ρ 2) s.t_2 ∧ SlR (kInt .i64) F w (ρ 7) s.t_7 ∧ SlR (kSl kBool) F w (ρ 8) s.t_8 ∧ OwnV (kInt .i64) 3 (Bs w0 nrow) F w (ρ 9) s.t_9 ∧ OwnV (kSl (kInt .i64)) 23 (Bs w0 nrow) F w (ρ 10) s.t_10 ∧ ρ 11 = .int .i64 s.t_11 ∧ ρ 12 = .int .i64 s.t_12 ∧ OwnV (kInt .i64) 3 (Bs w0 nrow) F w (ρ 13) s.t_13 ∧ ρ 14 = .int .i64 s.t_14 ∧ ρ 15 = .int .i64 s.t_15 ∧ ρ 17 = .int .i64 s.t_17 ∧ Apart (ρ 9).ownBlock (ρ 13).ownBlock
def G18 (w0 : World) (F0 : BSet) (s : S) (ρ : Env) (w : World) : Prop := ∃ (F : BSet), Wk nrow w0 F0 F w ∧ SlR kBool F w (ρ 1) s.t_1 ∧ SlR kBool F w (ρ 2) s.t_2 ∧ SlR (kInt .i64) F w (ρ 7) s.t_7 ∧ SlR (kSl kBool) F w (ρ 8) s.t_8 ∧ OwnV (kInt .i64) 3 (Bs w0 nrow) F w (ρ 9) s.t_9 ∧ OwnV (kSl (kInt .i64)) 23 (Bs w0 nrow) F w (ρ 10) s.t_10 ∧ ρ 11 = .int .i64 s.t_11 ∧ ρ 12 = .int .i64 s.t_12 ∧ OwnV (kInt .i64) 3 (Bs w0 nrow) F w (ρ 13) s.t_13 ∧ ρ 14 = .int .i64 s.t_14 ∧ ρ 15 = .int .i64 s.t_15 ∧ ρ 79 = .bool s.t_79 ∧ Apart (ρ 9).ownBlock (ρ 13).ownBlock
def G19 (w0 : World) (F0 : BSet) (s : S) (ρ : Env) (w : World) : Prop := ∃ (F : BSet), Wk nrow w0 F0 F w ∧ SlR kBool F w (ρ 1) s.t_1 ∧ SlR kBool F w (ρ 2) s.t_2 ∧ SlR (kInt .i64) F w (ρ 7) s.t_7 ∧ SlR (kSl kBool) F w (ρ 8) s.t_8 ∧ OwnV (kInt .i64) 3 (Bs w0 nrow) F w (ρ 9) s.t_9 ∧ OwnV (kSl (kInt .i64)) 23 (Bs w0 nrow) F w (ρ 10) s.t_10 ∧ ρ 11 = .int .i64 s.t_11 ∧ OwnV (kInt .i64) 3 (Bs w0 nrow) F w (ρ 13) s.t_13 ∧ ρ 86 = .bool s.t_86 ∧ Apart (ρ 9).ownBlock (ρ 13).ownBlock
def G20 (w0 : World) (F0 : BSet) (s : S) (ρ : Env) (w : World) : Prop := ∃ (F : BSet), Wk nrow w0 F0 F w ∧ OwnV (kSl (kInt .i64)) 23 (Bs w0 nrow) F w (ρ 10) s.t_10
def G21 (w0 : World) (F0 : BSet) (s : S) (ρ : Env) (w : World) : Prop := ∃ (F : BSet), Wk nrow w0 F0 F w ∧ OwnV (kSl (kInt .i64)) 23 (Bs w0 nrow) F w (ρ 6) s.t_6
def G22 (w0 : World) (F0 : BSet) (s : S) (ρ : Env) (w : World) : Prop := ∃ (F : BSet), Wk nrow w0 F0 F w ∧ SlR kBool F w (ρ 1) s.t_1 ∧ SlR kBool F w (ρ 2) s.t_2 ∧ SlR (kInt .i64) F w (ρ 7) s.t_7 ∧ SlR (kSl kBool) F w (ρ 8) s.t_8 ∧ OwnV (kInt .i64) 3 (Bs w0 nrow) F w (ρ 9) s.t_9 ∧ OwnV (kSl (kInt .i64)) 23 (Bs w0 nrow) F w (ρ 10) s.t_10 ∧ ρ 11 = .int .i64 s.t_11 ∧ SlR (kInt .i64) F w (ρ 13) s.t_13
set_option maxHeartbeats 4000000 in
set_option maxRecDepth 20000 in
theorem ref (w0 : World) (F0 : BSet) : ∃ c, Try.f31.body = some c ∧ Ref Try.prog 95 c (G0 w0 F0) body (fun _ _ _ => False) (fun _ _ _ _ => False) (fun r ρ w => ∃ s, retv s = r ∧ G21 w0 F0 s ρ w) := by
  refine ⟨_, rfl, ?_⟩
  unfold body
  refine Ref.seq (B := G0 w0 F0) ?_ ?_
  · refine Ref.region (fun s ρ w s' h hr => ?_)
    obtain ⟨F, hW, h0, h1, h2⟩ := h
    refine ol_v (e_as _ rfl) rfl ?_
    obtain rfl := Option.some.inj hr
    exact ol_nil ⟨F, hW, h0, h1, h2⟩
  refine Ref.seq (B := G1 w0 F0) ?_ ?_
  · refine Ref.region (fun s ρ w s' h hr => ?_)
    obtain ⟨F, hW, h0, h1, h2⟩ := h
    refine ol_v (e_mv _ rfl) rfl ?_
    obtain ⟨x1, hx1, hr⟩ := bind_some' hr
    refine ol_e (f_call [(ρ 0)] fn_45 (lcons rfl rfl) (ref3_OrderOf.calls hW.ok h0 hx1)) rfl rfl ?_
    rintro v4 w2 ⟨Fz3, _, rfl, kw1, hk5⟩
    have hW7 := hW.trans kw1
    have st1 := kw1.stp hW.ok
    obtain ⟨Fz8, hWz9, st2, hF2, hz10⟩ := ((hk5.base (row := nrow) hW.le)).frozen hW7
    refine ol_v (e_as _ rfl) rfl ?_
    obtain rfl := Option.some.inj hr
    exact ol_nil ⟨Fz8, hWz9, (h0.keep (st1.trans st2)), (h1.keep (st1.trans st2)), (h2.keep (st1.trans st2)), hz10⟩
  refine Ref.seq (B := G2 w0 F0) ?_ ?_
  · refine Ref.region (fun s ρ w s' h hr => ?_)
    obtain ⟨F, hW, h0, h1, h2, h7⟩ := h
    refine ol_v (e_mv _ rfl) rfl ?_
    obtain ⟨x11, hx11, hr⟩ := bind_some' hr
    refine ol_e (f_call [(ρ 0)] fn_26 (lcons rfl rfl) (ref3_Reach.calls hW.ok h0 hx11)) rfl rfl ?_
    rintro v14 w12 ⟨Fz13, _, rfl, kw1, hk15⟩
    have hW17 := hW.trans kw1
    have st1 := kw1.stp hW.ok
    obtain ⟨Fz18, hWz19, st2, hF2, hz20⟩ := ((hk15.base (row := nrow) hW.le)).frozen hW17
    refine ol_v (e_as _ rfl) rfl ?_
    obtain rfl := Option.some.inj hr
    exact ol_nil ⟨Fz18, hWz19, (h1.keep (st1.trans st2)), (h2.keep (st1.trans st2)), (h7.keep (st1.trans st2)), hz20⟩
  refine Ref.seq (B := G3 w0 F0) ?_ ?_
  · refine Ref.region (fun s ρ w s' h hr => ?_)
    obtain ⟨F, hW, h1, h2, h7, h8⟩ := h
    refine ol_v (e_as _ rfl) rfl ?_
    obtain rfl := Option.some.inj hr
    exact ol_nil ⟨F, hW, h1, h2, h7, h8, (OwnV.nil (kInt .i64) 3 (Bs w0 nrow) F w)⟩
  refine Ref.seq (B := G4 w0 F0) ?_ ?_
  · refine Ref.region (fun s ρ w s' h hr => ?_)
    obtain ⟨F, hW, h1, h2, h7, h8, h9⟩ := h
    refine ol_v (e_as _ rfl) rfl ?_
    obtain rfl := Option.some.inj hr
    exact ol_nil ⟨F, hW, h1, h2, h7, h8, h9, (OwnV.nil (kSl (kInt .i64)) 23 (Bs w0 nrow) F w)⟩
  refine Ref.seq (B := G5 w0 F0) ?_ ?_
  · refine Ref.region (fun s ρ w s' h hr => ?_)
    obtain ⟨F, hW, h1, h2, h7, h8, h9, h10⟩ := h
    refine ol_v (e_as _ rfl) rfl ?_
    obtain rfl := Option.some.inj hr
    exact ol_nil ⟨F, hW, h1, h2, h7, h8, h9, h10, rfl⟩
  refine Ref.block ?_
  refine Ref.loop ?_
  refine Ref.seq (B := G5 w0 F0) ?_ ?_
  · refine Ref.block ?_
    refine Ref.seq (B := G6 w0 F0) ?_ ?_
    · refine Ref.region (fun s ρ w s' h hr => ?_)
      obtain ⟨F, hW, h1, h2, h7, h8, h9, h10, h11⟩ := h
      refine ol_v (e_as _ rfl) rfl ?_
      obtain rfl := Option.some.inj hr
      exact ol_nil ⟨F, hW, h1, h2, h7, h8, h9, h10, h11, rfl⟩
    refine Ref.seq (B := G6 w0 F0) ?_ ?_
    · refine Ref.seq (B := G7 w0 F0) ?_ ?_
      · refine Ref.region (fun s ρ w s' h hr => ?_)
        obtain ⟨F, hW, h1, h2, h7, h8, h9, h10, h11, h12⟩ := h
        refine ol_v (e_mv _ h11) rfl ?_
        refine ol_v (e_lss rfl rfl) rfl ?_
        obtain rfl := Option.some.inj hr
        exact ol_nil ⟨F, hW, h1, h2, h7, h8, h9, h10, h11, h12, rfl⟩
      refine Ref.cond (b := fun s => s.t_25) (fun s ρ w ⟨F, hW, h1, h2, h7, h8, h9, h10, h11, h12, h25⟩ => h25) (Ref.pre (A := G5 w0 F0) ?_ (fun s ρ w h => (fun ⟨F, hW, h1, h2, h7, h8, h9, h10, h11, h12, h25⟩ => ⟨F, hW, h1, h2, h7, h8, h9, h10, h11⟩ : G7 w0 F0 s ρ w → G5 w0 F0 s ρ w) h.2)) (Ref.pre (A := G6 w0 F0) ?_ (fun s ρ w h => (fun ⟨F, hW, h1, h2, h7, h8, h9, h10, h11, h12, h25⟩ => ⟨F, hW, h1, h2, h7, h8, h9, h10, h11, h12⟩ : G7 w0 F0 s ρ w → G6 w0 F0 s ρ w) h.2))
      · refine Ref.region (fun s ρ w s' h hr => ?_)
        obtain ⟨F, hW, h1, h2, h7, h8, h9, h10, h11⟩ := h
        refine ol_v (e_mv _ h11) rfl ?_
        obtain ⟨hc21, hr⟩ := ite_some hr
        refine ol_v (e_shlV rfl rfl hc21) rfl ?_
        refine ol_v (e_as _ rfl) rfl ?_
        obtain rfl := Option.some.inj hr
        exact ol_nil ⟨F, hW, h1, h2, h7, h8, h9, h10, h11, rfl⟩
      · exact Ref.skip
    refine Ref.seq (B := G8 w0 F0) ?_ ?_
    · refine Ref.region (fun s ρ w s' h hr => ?_)
      obtain ⟨F, hW, h1, h2, h7, h8, h9, h10, h11, h12⟩ := h
      refine ol_v (e_as _ rfl) rfl ?_
      obtain rfl := Option.some.inj hr
      exact ol_nil ⟨F, hW, h1, h2, h7, h8, h9, h10, h11, h12, (OwnV.nil (kInt .i64) 3 (Bs w0 nrow) F w), (Apart.none _).symm⟩
    refine Ref.seq (B := G11 w0 F0) ?_ ?_
    · refine Ref.seq (B := G9 w0 F0) ?_ ?_
      · refine Ref.region (fun s ρ w s' h hr => ?_)
        obtain ⟨F, hW, h1, h2, h7, h8, h9, h10, h11, h12, h13, a9o_13o⟩ := h
        refine ol_v (e_as _ rfl) rfl ?_
        obtain rfl := Option.some.inj hr
        exact ol_nil ⟨F, hW, h1, h2, h7, h8, h9, h10, h11, h12, h13, rfl, a9o_13o⟩
      refine Ref.block ?_
      refine Ref.loop ?_
      refine Ref.seq (B := G9 w0 F0) ?_ ?_
      · refine Ref.seq (B := G10 w0 F0) ?_ ?_
        · refine Ref.region (fun s ρ w s' h hr => ?_)
          obtain ⟨F, hW, h1, h2, h7, h8, h9, h10, h11, h12, h13, h14, a9o_13o⟩ := h
          refine ol_v (e_mv _ h14) rfl ?_
          refine ol_v (e_mv _ rfl) rfl ?_
          obtain ⟨A22, c23, e24, hc25, R26⟩ := id h7
          refine ol_v (e_len (SlT.sl sl_23) e24) rfl ?_
          refine ol_v (e_lss rfl rfl) rfl ?_
          refine ol_cutA 6 32 37 (fun ρ' w' => w = w' ∧ ρ' 37 = .bool ((decide (s.t_14 < (s.t_7.length : Int))) && (decide ((s.t_13.length : Int) < s.t_12)))) rfl ?_ ?_
          · by_cases hb27 : (decide (s.t_14 < (s.t_7.length : Int))) = true
            · refine ol_v (e_mv _ rfl) rfl ?_
              refine ol_yes rfl rfl (congrArg Value.bool hb27) ?_
              refine ol_v (e_mv _ rfl) rfl ?_
              refine ol_yes rfl rfl (congrArg Value.bool hb27) ?_
              obtain ⟨A29, c30, e31, hc32⟩ := h13.shape
              refine ol_v (e_len (SlT.sl sl_23) e31) rfl ?_
              refine ol_yes rfl rfl (congrArg Value.bool hb27) ?_
              refine ol_v (e_mv _ h12) rfl ?_
              refine ol_yes rfl rfl (congrArg Value.bool hb27) ?_
              refine ol_v (e_lss rfl rfl) rfl ?_
              refine ol_v (e_pick true _ (congrArg Value.bool hb27) rfl) rfl ?_
              exact ol_nil ⟨⟨rfl, (bv_and_t hb27)⟩, (((((((Agr.refl _ _ _).upd rfl rfl).upd rfl rfl).upd rfl rfl).upd rfl rfl).upd rfl rfl).upd rfl rfl)⟩
            · have hb28 := Bool.eq_false_iff.mpr hb27
              refine ol_v (e_mv _ rfl) rfl ?_
              refine ol_not rfl rfl rfl (congrArg Value.bool hb28) rfl ?_
              refine ol_not rfl rfl rfl (congrArg Value.bool hb28) rfl ?_
              refine ol_not rfl rfl rfl (congrArg Value.bool hb28) rfl ?_
              refine ol_not rfl rfl rfl (congrArg Value.bool hb28) rfl ?_
              refine ol_v (e_pick false _ (congrArg Value.bool hb28) rfl) rfl ?_
              exact ol_nil ⟨⟨rfl, (bv_and_f hb28)⟩, (((((((Agr.refl _ _ _).upd rfl rfl).upd rfl rfl).upd rfl rfl).upd rfl rfl).upd rfl rfl).upd rfl rfl)⟩
          rintro ρ33 _ ⟨⟨rfl, hp33⟩, hAg33⟩
          obtain rfl := Option.some.inj hr
          exact ol_nil ⟨F, hW, (SlR.eqv (hAg33 1 rfl) h1), (SlR.eqv (hAg33 2 rfl) h2), (SlR.eqv (hAg33 7 rfl) h7), (SlR.eqv (hAg33 8 rfl) h8), (OwnV.eqv (hAg33 9 rfl) h9), (OwnV.eqv (hAg33 10 rfl) h10), ((hAg33 11 rfl).trans h11), ((hAg33 12 rfl).trans h12), (OwnV.eqv (hAg33 13 rfl) h13), ((hAg33 14 rfl).trans h14), hp33, (Apart.eqR (hAg33 13 rfl) (Apart.eqL (hAg33 9 rfl) a9o_13o))⟩
        refine Ref.cond (b := fun s => s.t_37) (fun s ρ w ⟨F, hW, h1, h2, h7, h8, h9, h10, h11, h12, h13, h14, h37, a9o_13o⟩ => h37) (Ref.pre (A := G9 w0 F0) ?_ (fun s ρ w h => (fun ⟨F, hW, h1, h2, h7, h8, h9, h10, h11, h12, h13, h14, h37, a9o_13o⟩ => ⟨F, hW, h1, h2, h7, h8, h9, h10, h11, h12, h13, h14, a9o_13o⟩ : G10 w0 F0 s ρ w → G9 w0 F0 s ρ w) h.2)) (Ref.pre (A := G11 w0 F0) ?_ (fun s ρ w h => (fun ⟨F, hW, h1, h2, h7, h8, h9, h10, h11, h12, h13, h14, h37, a9o_13o⟩ => ⟨F, hW, h1, h2, h7, h8, h9, h10, h11, h13, a9o_13o⟩ : G10 w0 F0 s ρ w → G11 w0 F0 s ρ w) h.2))
        · exact Ref.skip
        · exact Ref.exit (fun s ρ w h => h)
      refine Ref.seq (B := G9 w0 F0) ?_ ?_
      · refine Ref.block ?_
        refine Ref.seq (B := G12 w0 F0) ?_ ?_
        · refine Ref.region (fun s ρ w s' h hr => ?_)
          obtain ⟨F, hW, h1, h2, h7, h8, h9, h10, h11, h12, h13, h14, a9o_13o⟩ := h
          refine ol_v (e_mv _ rfl) rfl ?_
          refine ol_v (e_mv _ h14) rfl ?_
          obtain ⟨x34, hx34, hr⟩ := bind_some' hr
          obtain ⟨A35, c36, e37, hc38, R39⟩ := id h7
          obtain ⟨b40, o41, hA42, L43⟩ := Row.at_ R39 hx34
          refine ol_v (e_ix (SlT.sl sl_23) (SlT.sz sl_23) hA42 hx34 e37 rfl) rfl ?_
          refine ol_v (e_ld ty_3 (LiesV.int L43.at_) rfl) rfl ?_
          refine ol_v (e_as _ rfl) rfl ?_
          obtain rfl := Option.some.inj hr
          exact ol_nil ⟨F, hW, h1, h2, h7, h8, h9, h10, h11, h12, h13, h14, rfl, a9o_13o⟩
        refine Ref.seq (B := G13 w0 F0) ?_ ?_
        · refine Ref.region (fun s ρ w s' h hr => ?_)
          obtain ⟨F, hW, h1, h2, h7, h8, h9, h10, h11, h12, h13, h14, h15, a9o_13o⟩ := h
          refine ol_v (e_mv _ rfl) rfl ?_
          refine ol_v (e_mv _ h15) rfl ?_
          obtain ⟨x44, hx44, hr⟩ := bind_some' hr
          obtain ⟨A45, c46, e47, hc48, R49⟩ := id h2
          obtain ⟨b50, o51, hA52, L53⟩ := Row.at_ R49 hx44
          refine ol_v (e_ix (SlT.sl sl_46) (SlT.sz sl_46) hA52 hx44 e47 rfl) rfl ?_
          refine ol_v (e_ld ty_4 (LiesV.bool L53.at_) rfl) rfl ?_
          obtain ⟨x63, hx64, hr⟩ := bind_some' hr
          refine ol_cutA 6 48 53 (fun ρ' w' => ∃ F', Wk nrow w F F' w' ∧ ρ' 53 = .bool x63) rfl ?_ ?_
          · by_cases hb54 : x44 = true
            · have hr := hx64
              rw [if_pos hb54] at hr
              refine ol_v (e_mv _ rfl) rfl ?_
              refine ol_yes rfl rfl (congrArg Value.bool hb54) ?_
              refine ol_v (e_mv _ rfl) rfl ?_
              refine ol_yes rfl rfl (congrArg Value.bool hb54) ?_
              refine ol_v (e_mv _ h15) rfl ?_
              refine ol_yes rfl rfl (congrArg Value.bool hb54) ?_
              obtain ⟨Fl56, okl56, stl56, hFl56, hl56⟩ := OwnV.lent h9 hW.ok
              obtain ⟨x57, hx57, hr⟩ := bind_some' hr
              refine ol_e (f_call [(ρ 9), .int .i64 s.t_15] fn_33 (lcons rfl (lcons rfl rfl)) (ref3_Has.calls okl56 hl56 s.t_15 hx57)) rfl rfl ?_
              rintro _ w58 ⟨Fz59, rfl, kw1⟩
              have ko61 := kw1
              have kw1 := kw1.lend hW.ok
              have hW62 := hW.trans kw1
              have st1 := kw1.stp hW.ok
              refine ol_yes rfl rfl (congrArg Value.bool hb54) ?_
              refine ol_v (e_not_ rfl) rfl ?_
              refine ol_v (e_pick true _ (congrArg Value.bool hb54) rfl) rfl ?_
              exact ol_nil ⟨⟨_, kw1, (congrArg Value.bool (Option.some.inj hr))⟩, (((((((Agr.refl _ _ _).upd rfl rfl).upd rfl rfl).upd rfl rfl).upd rfl rfl).upd rfl rfl).upd rfl rfl)⟩
            · have hb55 := Bool.eq_false_iff.mpr hb54
              have hr := hx64
              rw [if_neg hb54] at hr
              refine ol_v (e_mv _ rfl) rfl ?_
              refine ol_not rfl rfl rfl (congrArg Value.bool hb55) rfl ?_
              refine ol_not rfl rfl rfl (congrArg Value.bool hb55) rfl ?_
              refine ol_not rfl rfl rfl (congrArg Value.bool hb55) rfl ?_
              refine ol_not rfl rfl rfl (congrArg Value.bool hb55) rfl ?_
              refine ol_v (e_pick false _ (congrArg Value.bool hb55) rfl) rfl ?_
              exact ol_nil ⟨⟨_, Wk.refl hW.ok, (congrArg Value.bool (Option.some.inj hr))⟩, (((((((Agr.refl _ _ _).upd rfl rfl).upd rfl rfl).upd rfl rfl).upd rfl rfl).upd rfl rfl).upd rfl rfl)⟩
          rintro ρ64 w65 ⟨⟨Fz66, kw1, hp64⟩, hAg64⟩
          have hW67 := hW.trans kw1
          have st1 := kw1.stp hW.ok
          refine ol_v (e_as _ hp64) rfl ?_
          obtain rfl := Option.some.inj hr
          exact ol_nil ⟨Fz66, hW67, (SlR.eqv (hAg64 1 rfl) (h1.keep st1)), (SlR.eqv (hAg64 2 rfl) (h2.keep st1)), (SlR.eqv (hAg64 7 rfl) (h7.keep st1)), (SlR.eqv (hAg64 8 rfl) (h8.keep st1)), (OwnV.eqv (hAg64 9 rfl) (h9.wk kw1 hW.ok)), (OwnV.eqv (hAg64 10 rfl) (h10.wk kw1 hW.ok)), ((hAg64 11 rfl).trans h11), ((hAg64 12 rfl).trans h12), (OwnV.eqv (hAg64 13 rfl) (h13.wk kw1 hW.ok)), ((hAg64 14 rfl).trans h14), ((hAg64 15 rfl).trans h15), rfl, (Apart.eqR (hAg64 13 rfl) (Apart.eqL (hAg64 9 rfl) a9o_13o))⟩
        refine Ref.seq (B := G13 w0 F0) ?_ ?_
        · refine Ref.seq (B := G14 w0 F0) ?_ ?_
          · refine Ref.region (fun s ρ w s' h hr => ?_)
            obtain ⟨F, hW, h1, h2, h7, h8, h9, h10, h11, h12, h13, h14, h15, h16, a9o_13o⟩ := h
            refine ol_v (e_as _ rfl) rfl ?_
            obtain rfl := Option.some.inj hr
            exact ol_nil ⟨F, hW, h1, h2, h7, h8, h9, h10, h11, h12, h13, h14, h15, h16, rfl, a9o_13o⟩
          refine Ref.block ?_
          refine Ref.loop ?_
          refine Ref.seq (B := G14 w0 F0) ?_ ?_
          · refine Ref.seq (B := G15 w0 F0) ?_ ?_
            · refine Ref.region (fun s ρ w s' h hr => ?_)
              obtain ⟨F, hW, h1, h2, h7, h8, h9, h10, h11, h12, h13, h14, h15, h16, h17, a9o_13o⟩ := h
              refine ol_v (e_mv _ h17) rfl ?_
              refine ol_v (e_mv _ rfl) rfl ?_
              obtain ⟨A68, c69, e70, hc71⟩ := h9.shape
              refine ol_v (e_len (SlT.sl sl_23) e70) rfl ?_
              refine ol_v (e_lss rfl rfl) rfl ?_
              obtain rfl := Option.some.inj hr
              exact ol_nil ⟨F, hW, h1, h2, h7, h8, h9, h10, h11, h12, h13, h14, h15, h16, h17, rfl, a9o_13o⟩
            refine Ref.cond (b := fun s => s.t_57) (fun s ρ w ⟨F, hW, h1, h2, h7, h8, h9, h10, h11, h12, h13, h14, h15, h16, h17, h57, a9o_13o⟩ => h57) (Ref.pre (A := G14 w0 F0) ?_ (fun s ρ w h => (fun ⟨F, hW, h1, h2, h7, h8, h9, h10, h11, h12, h13, h14, h15, h16, h17, h57, a9o_13o⟩ => ⟨F, hW, h1, h2, h7, h8, h9, h10, h11, h12, h13, h14, h15, h16, h17, a9o_13o⟩ : G15 w0 F0 s ρ w → G14 w0 F0 s ρ w) h.2)) (Ref.pre (A := G13 w0 F0) ?_ (fun s ρ w h => (fun ⟨F, hW, h1, h2, h7, h8, h9, h10, h11, h12, h13, h14, h15, h16, h17, h57, a9o_13o⟩ => ⟨F, hW, h1, h2, h7, h8, h9, h10, h11, h12, h13, h14, h15, h16, a9o_13o⟩ : G15 w0 F0 s ρ w → G13 w0 F0 s ρ w) h.2))
            · exact Ref.skip
            · exact Ref.exit (fun s ρ w h => h)
          refine Ref.seq (B := G14 w0 F0) ?_ ?_
          · refine Ref.block ?_
            refine Ref.seq (B := G16 w0 F0) ?_ ?_
            · refine Ref.region (fun s ρ w s' h hr => ?_)
              obtain ⟨F, hW, h1, h2, h7, h8, h9, h10, h11, h12, h13, h14, h15, h16, h17, a9o_13o⟩ := h
              refine ol_v (e_mv _ rfl) rfl ?_
              refine ol_v (e_mv _ rfl) rfl ?_
              refine ol_v (e_mv _ h17) rfl ?_
              obtain ⟨x72, hx72, hr⟩ := bind_some' hr
              obtain ⟨g73, o74, c75, hv76, L77⟩ := OwnV.at_ h9 hx72
              refine ol_v (e_ixO sl_23 hv76 hx72 rfl rfl) rfl ?_
              refine ol_v (e_ld ty_3 (LiesV.int L77) rfl) rfl ?_
              obtain ⟨x78, hx78, hr⟩ := bind_some' hr
              obtain ⟨A79, c80, e81, hc82, R83⟩ := id h1
              obtain ⟨b84, o85, hA86, L87⟩ := Row.at_ R83 hx78
              refine ol_v (e_ix (SlT.sl sl_46) (SlT.sz sl_46) hA86 hx78 e81 rfl) rfl ?_
              refine ol_v (e_ld ty_4 (LiesV.bool L87.at_) rfl) rfl ?_
              obtain ⟨x119, hx120, hr⟩ := bind_some' hr
              refine ol_cutA 12 67 78 (fun ρ' w' => w = w' ∧ ρ' 78 = .bool x119) rfl ?_ ?_
              · by_cases hb88 : x78 = true
                · have hr := hx120
                  rw [if_pos hb88] at hr
                  refine ol_v (e_mv _ rfl) rfl ?_
                  refine ol_yes rfl rfl (congrArg Value.bool hb88) ?_
                  refine ol_v (e_mv _ rfl) rfl ?_
                  refine ol_yes rfl rfl (congrArg Value.bool hb88) ?_
                  refine ol_v (e_mv _ rfl) rfl ?_
                  refine ol_yes rfl rfl (congrArg Value.bool hb88) ?_
                  refine ol_v (e_mv _ h17) rfl ?_
                  refine ol_yes rfl rfl (congrArg Value.bool hb88) ?_
                  obtain ⟨x90, hx90, hr⟩ := bind_some' hr
                  obtain ⟨g91, o92, c93, hv94, L95⟩ := OwnV.at_ h9 hx90
                  refine ol_v (e_ixO sl_23 hv94 hx90 rfl rfl) rfl ?_
                  refine ol_yes rfl rfl (congrArg Value.bool hb88) ?_
                  refine ol_v (e_ld ty_3 (LiesV.int L95) rfl) rfl ?_
                  refine ol_yes rfl rfl (congrArg Value.bool hb88) ?_
                  obtain ⟨x96, hx96, hr⟩ := bind_some' hr
                  obtain ⟨A97, c98, e99, hc100, R101⟩ := id h8
                  obtain ⟨b102, o103, hA104, L105⟩ := Row.at_ R101 hx96
                  refine ol_v (e_ix (SlT.sl sl_44) (SlT.sz sl_44) hA104 hx96 e99 rfl) rfl ?_
                  refine ol_yes rfl rfl (congrArg Value.bool hb88) ?_
                  obtain ⟨v106, hl107, hs108⟩ := LiesV.sl L105.at_
                  refine ol_v (e_ld ty_46 hl107 rfl) rfl ?_
                  refine ol_yes rfl rfl (congrArg Value.bool hb88) ?_
                  refine ol_v (e_mv _ h15) rfl ?_
                  refine ol_yes rfl rfl (congrArg Value.bool hb88) ?_
                  obtain ⟨x109, hx109, hr⟩ := bind_some' hr
                  obtain ⟨A110, c111, e112, hc113, R114⟩ := id hs108
                  obtain ⟨b115, o116, hA117, L118⟩ := Row.at_ R114 hx109
                  refine ol_v (e_ix (SlT.sl sl_46) (SlT.sz sl_46) hA117 hx109 e112 rfl) rfl ?_
                  refine ol_yes rfl rfl (congrArg Value.bool hb88) ?_
                  refine ol_v (e_ld ty_4 (LiesV.bool L118.at_) rfl) rfl ?_
                  refine ol_v (e_pick true _ (congrArg Value.bool hb88) rfl) rfl ?_
                  exact ol_nil ⟨⟨rfl, (congrArg Value.bool (Option.some.inj hr))⟩, (((((((((((((Agr.refl _ _ _).upd rfl rfl).upd rfl rfl).upd rfl rfl).upd rfl rfl).upd rfl rfl).upd rfl rfl).upd rfl rfl).upd rfl rfl).upd rfl rfl).upd rfl rfl).upd rfl rfl).upd rfl rfl)⟩
                · have hb89 := Bool.eq_false_iff.mpr hb88
                  have hr := hx120
                  rw [if_neg hb88] at hr
                  refine ol_v (e_mv _ rfl) rfl ?_
                  refine ol_not rfl rfl rfl (congrArg Value.bool hb89) rfl ?_
                  refine ol_not rfl rfl rfl (congrArg Value.bool hb89) rfl ?_
                  refine ol_not rfl rfl rfl (congrArg Value.bool hb89) rfl ?_
                  refine ol_not rfl rfl rfl (congrArg Value.bool hb89) rfl ?_
                  refine ol_not rfl rfl rfl (congrArg Value.bool hb89) rfl ?_
                  refine ol_not rfl rfl rfl (congrArg Value.bool hb89) rfl ?_
                  refine ol_not rfl rfl rfl (congrArg Value.bool hb89) rfl ?_
                  refine ol_not rfl rfl rfl (congrArg Value.bool hb89) rfl ?_
                  refine ol_not rfl rfl rfl (congrArg Value.bool hb89) rfl ?_
                  refine ol_not rfl rfl rfl (congrArg Value.bool hb89) rfl ?_
                  refine ol_v (e_pick false _ (congrArg Value.bool hb89) rfl) rfl ?_
                  exact ol_nil ⟨⟨rfl, (congrArg Value.bool (Option.some.inj hr))⟩, (((((((((((((Agr.refl _ _ _).upd rfl rfl).upd rfl rfl).upd rfl rfl).upd rfl rfl).upd rfl rfl).upd rfl rfl).upd rfl rfl).upd rfl rfl).upd rfl rfl).upd rfl rfl).upd rfl rfl).upd rfl rfl)⟩
              rintro ρ120 _ ⟨⟨rfl, hp120⟩, hAg120⟩
              obtain rfl := Option.some.inj hr
              exact ol_nil ⟨F, hW, (SlR.eqv (hAg120 1 rfl) h1), (SlR.eqv (hAg120 2 rfl) h2), (SlR.eqv (hAg120 7 rfl) h7), (SlR.eqv (hAg120 8 rfl) h8), (OwnV.eqv (hAg120 9 rfl) h9), (OwnV.eqv (hAg120 10 rfl) h10), ((hAg120 11 rfl).trans h11), ((hAg120 12 rfl).trans h12), (OwnV.eqv (hAg120 13 rfl) h13), ((hAg120 14 rfl).trans h14), ((hAg120 15 rfl).trans h15), ((hAg120 16 rfl).trans h16), ((hAg120 17 rfl).trans h17), hp120, (Apart.eqR (hAg120 13 rfl) (Apart.eqL (hAg120 9 rfl) a9o_13o))⟩
            refine Ref.cond (b := fun s => s.t_78) (fun s ρ w ⟨F, hW, h1, h2, h7, h8, h9, h10, h11, h12, h13, h14, h15, h16, h17, h78, a9o_13o⟩ => h78) (Ref.pre (A := G17 w0 F0) ?_ (fun s ρ w h => (fun ⟨F, hW, h1, h2, h7, h8, h9, h10, h11, h12, h13, h14, h15, h16, h17, h78, a9o_13o⟩ => ⟨F, hW, h1, h2, h7, h8, h9, h10, h11, h12, h13, h14, h15, h17, a9o_13o⟩ : G16 w0 F0 s ρ w → G17 w0 F0 s ρ w) h.2)) (Ref.pre (A := G14 w0 F0) ?_ (fun s ρ w h => (fun ⟨F, hW, h1, h2, h7, h8, h9, h10, h11, h12, h13, h14, h15, h16, h17, h78, a9o_13o⟩ => ⟨F, hW, h1, h2, h7, h8, h9, h10, h11, h12, h13, h14, h15, h16, h17, a9o_13o⟩ : G16 w0 F0 s ρ w → G14 w0 F0 s ρ w) h.2))
            · refine Ref.region (fun s ρ w s' h hr => ?_)
              obtain ⟨F, hW, h1, h2, h7, h8, h9, h10, h11, h12, h13, h14, h15, h17, a9o_13o⟩ := h
              refine ol_v (e_as _ rfl) rfl ?_
              obtain rfl := Option.some.inj hr
              exact ol_nil ⟨F, hW, h1, h2, h7, h8, h9, h10, h11, h12, h13, h14, h15, rfl, h17, a9o_13o⟩
            · exact Ref.skip
          refine Ref.region (fun s ρ w s' h hr => ?_)
          obtain ⟨F, hW, h1, h2, h7, h8, h9, h10, h11, h12, h13, h14, h15, h16, h17, a9o_13o⟩ := h
          refine ol_v (e_mv _ h17) rfl ?_
          refine ol_v (e_add rfl rfl) rfl ?_
          refine ol_v (e_as _ rfl) rfl ?_
          obtain rfl := Option.some.inj hr
          exact ol_nil ⟨F, hW, h1, h2, h7, h8, h9, h10, h11, h12, h13, h14, h15, h16, rfl, a9o_13o⟩
        refine Ref.seq (B := G18 w0 F0) ?_ ?_
        · refine Ref.region (fun s ρ w s' h hr => ?_)
          obtain ⟨F, hW, h1, h2, h7, h8, h9, h10, h11, h12, h13, h14, h15, h16, a9o_13o⟩ := h
          refine ol_v (e_mv _ h16) rfl ?_
          obtain rfl := Option.some.inj hr
          exact ol_nil ⟨F, hW, h1, h2, h7, h8, h9, h10, h11, h12, h13, h14, h15, rfl, a9o_13o⟩
        refine Ref.cond (b := fun s => s.t_79) (fun s ρ w ⟨F, hW, h1, h2, h7, h8, h9, h10, h11, h12, h13, h14, h15, h79, a9o_13o⟩ => h79) (Ref.pre (A := G12 w0 F0) ?_ (fun s ρ w h => (fun ⟨F, hW, h1, h2, h7, h8, h9, h10, h11, h12, h13, h14, h15, h79, a9o_13o⟩ => ⟨F, hW, h1, h2, h7, h8, h9, h10, h11, h12, h13, h14, h15, a9o_13o⟩ : G18 w0 F0 s ρ w → G12 w0 F0 s ρ w) h.2)) (Ref.pre (A := G9 w0 F0) ?_ (fun s ρ w h => (fun ⟨F, hW, h1, h2, h7, h8, h9, h10, h11, h12, h13, h14, h15, h79, a9o_13o⟩ => ⟨F, hW, h1, h2, h7, h8, h9, h10, h11, h12, h13, h14, a9o_13o⟩ : G18 w0 F0 s ρ w → G9 w0 F0 s ρ w) h.2))
        · refine Ref.region (fun s ρ w s' h hr => ?_)
          obtain ⟨F, hW, h1, h2, h7, h8, h9, h10, h11, h12, h13, h14, h15, a9o_13o⟩ := h
          refine ol_v (e_mv _ rfl) rfl ?_
          refine ol_v (e_mv _ h15) rfl ?_
          refine ol_e (f_bslF sl_23 hW ([s.t_15] : List Int) [.int .i64 s.t_15] (by exact ⟨_, _, rfl, (val_int _ _), rfl⟩) rfl (Nat.le_of_ble_eq_true rfl) (lcons (congrArg (Prod.mk 0) rfl) rfl)) rfl rfl ?_
          rintro v121 w122 ⟨Fz124, kw1, ho123⟩
          have hW125 := hW.trans kw1
          have st1 := kw1.stp hW.ok
          obtain ⟨x126, hx126, hr⟩ := bind_some' hr
          refine ol_e (f_app sl_23 hW125 (h13.wk kw1 hW.ok) ho123 hx126 rfl rfl) rfl rfl ?_
          rintro v127 w128 ⟨hW129, ho130, hg2, st2, hor131⟩
          refine ol_v (e_as _ rfl) rfl ?_
          obtain rfl := Option.some.inj hr
          exact ol_nil ⟨Fz124, hW129, (h1.keep (st1.trans st2)), (h2.keep (st1.trans st2)), (h7.keep (st1.trans st2)), (h8.keep (st1.trans st2)), ((h9.wk kw1 hW.ok).mut a9o_13o.symm hg2 st2), ((h10.wk kw1 hW.ok).mut (apart_oo (h13.wk kw1 hW.ok) (h10.wk kw1 hW.ok) rfl) hg2 st2), h11, h12, ho130, h14, (Apart.grown a9o_13o.symm (h9.wk kw1 hW.ok).ltw hor131).symm⟩
        · exact Ref.skip
      refine Ref.region (fun s ρ w s' h hr => ?_)
      obtain ⟨F, hW, h1, h2, h7, h8, h9, h10, h11, h12, h13, h14, a9o_13o⟩ := h
      refine ol_v (e_mv _ h14) rfl ?_
      refine ol_v (e_add rfl rfl) rfl ?_
      refine ol_v (e_as _ rfl) rfl ?_
      obtain rfl := Option.some.inj hr
      exact ol_nil ⟨F, hW, h1, h2, h7, h8, h9, h10, h11, h12, h13, rfl, a9o_13o⟩
    refine Ref.seq (B := G11 w0 F0) ?_ ?_
    · refine Ref.seq (B := G19 w0 F0) ?_ ?_
      · refine Ref.region (fun s ρ w s' h hr => ?_)
        obtain ⟨F, hW, h1, h2, h7, h8, h9, h10, h11, h13, a9o_13o⟩ := h
        refine ol_v (e_mv _ rfl) rfl ?_
        obtain ⟨A132, c133, e134, hc135⟩ := h13.shape
        refine ol_v (e_len (SlT.sl sl_23) e134) rfl ?_
        refine ol_v (e_eql rfl rfl) rfl ?_
        obtain rfl := Option.some.inj hr
        exact ol_nil ⟨F, hW, h1, h2, h7, h8, h9, h10, h11, h13, rfl, a9o_13o⟩
      refine Ref.cond (b := fun s => s.t_86) (fun s ρ w ⟨F, hW, h1, h2, h7, h8, h9, h10, h11, h13, h86, a9o_13o⟩ => h86) (Ref.pre (A := G20 w0 F0) ?_ (fun s ρ w h => (fun ⟨F, hW, h1, h2, h7, h8, h9, h10, h11, h13, h86, a9o_13o⟩ => ⟨F, hW, h10⟩ : G19 w0 F0 s ρ w → G20 w0 F0 s ρ w) h.2)) (Ref.pre (A := G11 w0 F0) ?_ (fun s ρ w h => (fun ⟨F, hW, h1, h2, h7, h8, h9, h10, h11, h13, h86, a9o_13o⟩ => ⟨F, hW, h1, h2, h7, h8, h9, h10, h11, h13, a9o_13o⟩ : G19 w0 F0 s ρ w → G11 w0 F0 s ρ w) h.2))
      · refine Ref.seq (B := G21 w0 F0) ?_ ?_
        · refine Ref.region (fun s ρ w s' h hr => ?_)
          obtain ⟨F, hW, h10⟩ := h
          refine ol_v (e_mv _ rfl) rfl ?_
          refine ol_v (e_as _ rfl) rfl ?_
          obtain rfl := Option.some.inj hr
          exact ol_nil ⟨F, hW, h10⟩
        exact Ref.ret (fun s ρ w h => ⟨s, rfl, h⟩)
      · exact Ref.skip
    refine Ref.seq (B := G22 w0 F0) ?_ ?_
    · refine Ref.region (fun s ρ w s' h hr => ?_)
      obtain ⟨F, hW, h1, h2, h7, h8, h9, h10, h11, h13, a9o_13o⟩ := h
      refine ol_v (e_mv _ rfl) rfl ?_
      refine ol_v (e_mv _ rfl) rfl ?_
      obtain ⟨Fz136, hWz137, st1, hF1, hz138⟩ := (h13).frozen hW
      refine ol_e (f_bslF sl_48 hWz137 ([s.t_13] : List (List Int)) [(ρ 13)] (by exact ⟨_, _, rfl, (val_sl hz138), rfl⟩) rfl (Nat.le_of_ble_eq_true rfl) (lcons (congrArg (Prod.mk 0) rfl) rfl)) rfl rfl ?_
      rintro v139 w140 ⟨Fz142, kw2, ho141⟩
      have hW143 := hWz137.trans kw2
      have st2 := kw2.stp hWz137.ok
      obtain ⟨x144, hx144, hr⟩ := bind_some' hr
      refine ol_e (f_app sl_48 hW143 ((h10.frz (apart_oo h13 h10 rfl) hF1 st1).wk kw2 hWz137.ok) ho141 hx144 rfl rfl) rfl rfl ?_
      rintro v145 w146 ⟨hW147, ho148, hg3, st3, hor149⟩
      refine ol_v (e_as _ rfl) rfl ?_
      obtain rfl := Option.some.inj hr
      exact ol_nil ⟨Fz142, hW147, (h1.keep (st1.trans (st2.trans st3))), (h2.keep (st1.trans (st2.trans st3))), (h7.keep (st1.trans (st2.trans st3))), (h8.keep (st1.trans (st2.trans st3))), (((h9.frz a9o_13o.symm hF1 st1).wk kw2 hWz137.ok).mut (apart_oo ((h10.frz (apart_oo h13 h10 rfl) hF1 st1).wk kw2 hWz137.ok) ((h9.frz a9o_13o.symm hF1 st1).wk kw2 hWz137.ok) rfl) hg3 st3), ho148, h11, (hz138.keep (st2.trans st3))⟩
    refine Ref.region (fun s ρ w s' h hr => ?_)
    obtain ⟨F, hW, h1, h2, h7, h8, h9, h10, h11, h13⟩ := h
    refine ol_v (e_mv _ rfl) rfl ?_
    refine ol_v (e_mv _ rfl) rfl ?_
    obtain ⟨x150, hx150, hr⟩ := bind_some' hr
    refine ol_e (f_app sl_23 hW h9 h13 hx150 rfl rfl) rfl rfl ?_
    rintro v151 w152 ⟨hW153, ho154, hg1, st1, hor155⟩
    refine ol_v (e_as _ rfl) rfl ?_
    obtain rfl := Option.some.inj hr
    exact ol_nil ⟨F, hW153, (h1.keep st1), (h2.keep st1), (h7.keep st1), (h8.keep st1), ho154, (h10.mut (apart_oo h9 h10 rfl) hg1 st1), h11⟩
  refine Ref.region (fun s ρ w s' h hr => ?_)
  obtain ⟨F, hW, h1, h2, h7, h8, h9, h10, h11⟩ := h
  refine ol_v (e_mv _ h11) rfl ?_
  refine ol_v (e_add rfl rfl) rfl ?_
  refine ol_v (e_as _ rfl) rfl ?_
  obtain rfl := Option.some.inj hr
  exact ol_nil ⟨F, hW, h1, h2, h7, h8, h9, h10, rfl⟩
def post (w : World) (F : BSet) (r : R) (v : Value) (w' : World) : Prop := ∃ (F' : BSet) (v0' : Value), v = v0' ∧ Wk nrow w F F' w' ∧ OwnV (kSl (kInt .i64)) 23 (Nw w) F' w' v0' r
theorem calls {w : World} {F : BSet} (hok : ∀ b, F b → b < w.heap.size) {v0 : Value} {a0 : (List Commit)} (h0 : SlR k_Commit F w v0 a0) {v1 : Value} {a1 : (List Bool)} (h1 : SlR kBool F w v1 a1) {v2 : Value} {a2 : (List Bool)} (h2 : SlR kBool F w v2 a2) {r : R} (hf : f a0 a1 a2 = some r) : Calls Try.prog 31 #[v0, v1, v2] w fun e w' => ∃ v, e = .returned v ∧ post w F r v w' := by
  obtain ⟨c, hc, href⟩ := ref w F
  refine calls_of_ref (args := [v0, v1, v2]) _ Try.func31 hc rfl rfl href ?_ (retOf_some hf) ?_
  · exact ⟨F, Wk.refl hok, h0, h1, h2⟩
  · rintro ρ w' a ⟨s, rfl, F', hW, h6⟩ hF
    refine ⟨_, run_results (rs := [.tmp 6]) rfl hF (vs := [ρ 6]) (⟨_, rfl, rfl⟩), ?_⟩
    exact ⟨F', ρ 6, rfl, hW, h6.rebase (fun g hg => (h6.lt hg).1.resolve_right (fun h => h))⟩
end
end ref4_RoundsOf

namespace ref4_LacksOf
section
def G0 (w0 : World) (F0 : BSet) (s : S) (ρ : Env) (w : World) : Prop := ∃ (F : BSet), Wk nrow w0 F0 F w ∧ SlR k_Commit F w (ρ 0) s.l_0 ∧ SlR (kInt .i64) F w (ρ 1) s.wants_1 ∧ SlR kBool F w (ρ 2) s.have_2
def G1 (w0 : World) (F0 : BSet) (s : S) (ρ : Env) (w : World) : Prop := ∃ (F : BSet), Wk nrow w0 F0 F w ∧ SlR k_Commit F w (ρ 0) s.l_0 ∧ SlR (kInt .i64) F w (ρ 1) s.wants_1 ∧ SlR kBool F w (ρ 2) s.have_2 ∧ SlR (kSl kBool) F w (ρ 7) s.t_7
def G2 (w0 : World) (F0 : BSet) (s : S) (ρ : Env) (w : World) : Prop := ∃ (F : BSet), Wk nrow w0 F0 F w ∧ SlR k_Commit F w (ρ 0) s.l_0 ∧ SlR (kInt .i64) F w (ρ 1) s.wants_1 ∧ SlR kBool F w (ρ 2) s.have_2 ∧ SlR (kSl kBool) F w (ρ 7) s.t_7 ∧ OwnV (kInt .i64) 3 (Bs w0 nrow) F w (ρ 8) s.out_8
def G3 (w0 : World) (F0 : BSet) (s : S) (ρ : Env) (w : World) : Prop := ∃ (F : BSet), Wk nrow w0 F0 F w ∧ SlR k_Commit F w (ρ 0) s.l_0 ∧ SlR (kInt .i64) F w (ρ 1) s.wants_1 ∧ SlR kBool F w (ρ 2) s.have_2 ∧ SlR (kSl kBool) F w (ρ 7) s.t_7 ∧ OwnV (kInt .i64) 3 (Bs w0 nrow) F w (ρ 8) s.out_8 ∧ ρ 9 = .int .i64 s.i_9
def G4 (w0 : World) (F0 : BSet) (s : S) (ρ : Env) (w : World) : Prop := ∃ (F : BSet), Wk nrow w0 F0 F w ∧ SlR k_Commit F w (ρ 0) s.l_0 ∧ SlR (kInt .i64) F w (ρ 1) s.wants_1 ∧ SlR kBool F w (ρ 2) s.have_2 ∧ SlR (kSl kBool) F w (ρ 7) s.t_7 ∧ OwnV (kInt .i64) 3 (Bs w0 nrow) F w (ρ 8) s.out_8 ∧ ρ 9 = .int .i64 s.i_9 ∧ ρ 17 = .bool s.t_17
def G5 (w0 : World) (F0 : BSet) (s : S) (ρ : Env) (w : World) : Prop := ∃ (F : BSet), Wk nrow w0 F0 F w ∧ OwnV (kInt .i64) 3 (Bs w0 nrow) F w (ρ 8) s.out_8
def G6 (w0 : World) (F0 : BSet) (s : S) (ρ : Env) (w : World) : Prop := ∃ (F : BSet), Wk nrow w0 F0 F w ∧ SlR k_Commit F w (ρ 0) s.l_0 ∧ SlR (kInt .i64) F w (ρ 1) s.wants_1 ∧ SlR kBool F w (ρ 2) s.have_2 ∧ SlR (kSl kBool) F w (ρ 7) s.t_7 ∧ OwnV (kInt .i64) 3 (Bs w0 nrow) F w (ρ 8) s.out_8 ∧ ρ 9 = .int .i64 s.i_9 ∧ ρ 10 = .bool s.is_10
def G7 (w0 : World) (F0 : BSet) (s : S) (ρ : Env) (w : World) : Prop := ∃ (F : BSet), Wk nrow w0 F0 F w ∧ SlR k_Commit F w (ρ 0) s.l_0 ∧ SlR (kInt .i64) F w (ρ 1) s.wants_1 ∧ SlR kBool F w (ρ 2) s.have_2 ∧ SlR (kSl kBool) F w (ρ 7) s.t_7 ∧ OwnV (kInt .i64) 3 (Bs w0 nrow) F w (ρ 8) s.out_8 ∧ ρ 9 = .int .i64 s.i_9 ∧ ρ 10 = .bool s.is_10 ∧ ρ 11 = .int .i64 s.k_11
def G8 (w0 : World) (F0 : BSet) (s : S) (ρ : Env) (w : World) : Prop := ∃ (F : BSet), Wk nrow w0 F0 F w ∧ SlR k_Commit F w (ρ 0) s.l_0 ∧ SlR (kInt .i64) F w (ρ 1) s.wants_1 ∧ SlR kBool F w (ρ 2) s.have_2 ∧ SlR (kSl kBool) F w (ρ 7) s.t_7 ∧ OwnV (kInt .i64) 3 (Bs w0 nrow) F w (ρ 8) s.out_8 ∧ ρ 9 = .int .i64 s.i_9 ∧ ρ 10 = .bool s.is_10 ∧ ρ 11 = .int .i64 s.k_11 ∧ ρ 23 = .bool s.t_23
def G9 (w0 : World) (F0 : BSet) (s : S) (ρ : Env) (w : World) : Prop := ∃ (F : BSet), Wk nrow w0 F0 F w ∧ SlR k_Commit F w (ρ 0) s.l_0 ∧ SlR (kInt .i64) F w (ρ 1) s.wants_1 ∧ SlR kBool F w (ρ 2) s.have_2 ∧ SlR (kSl kBool) F w (ρ 7) s.t_7 ∧ OwnV (kInt .i64) 3 (Bs w0 nrow) F w (ρ 8) s.out_8 ∧ ρ 9 = .int .i64 s.i_9 ∧ ρ 46 = .bool s.t_46
def G10 (w0 : World) (F0 : BSet) (s : S) (ρ : Env) (w : World) : Prop := ∃ (F : BSet), Wk nrow w0 F0 F w ∧ OwnV (kInt .i64) 3 (Bs w0 nrow) F w (ρ 6) s.t_6
set_option maxHeartbeats 4000000 in
set_option maxRecDepth 20000 in
theorem ref (w0 : World) (F0 : BSet) : ∃ c, Try.f32.body = some c ∧ Ref Try.prog 52 c (G0 w0 F0) body (fun _ _ _ => False) (fun _ _ _ _ => False) (fun r ρ w => ∃ s, retv s = r ∧ G10 w0 F0 s ρ w) := by
  refine ⟨_, rfl, ?_⟩
  unfold body
  refine Ref.seq (B := G0 w0 F0) ?_ ?_
  · refine Ref.region (fun s ρ w s' h hr => ?_)
    obtain ⟨F, hW, h0, h1, h2⟩ := h
    refine ol_v (e_as _ rfl) rfl ?_
    obtain rfl := Option.some.inj hr
    exact ol_nil ⟨F, hW, h0, h1, h2⟩
  refine Ref.seq (B := G1 w0 F0) ?_ ?_
  · refine Ref.region (fun s ρ w s' h hr => ?_)
    obtain ⟨F, hW, h0, h1, h2⟩ := h
    refine ol_v (e_mv _ rfl) rfl ?_
    obtain ⟨x1, hx1, hr⟩ := bind_some' hr
    refine ol_e (f_call [(ρ 0)] fn_26 (lcons rfl rfl) (ref3_Reach.calls hW.ok h0 hx1)) rfl rfl ?_
    rintro v4 w2 ⟨Fz3, _, rfl, kw1, hk5⟩
    have hW7 := hW.trans kw1
    have st1 := kw1.stp hW.ok
    obtain ⟨Fz8, hWz9, st2, hF2, hz10⟩ := ((hk5.base (row := nrow) hW.le)).frozen hW7
    refine ol_v (e_as _ rfl) rfl ?_
    obtain rfl := Option.some.inj hr
    exact ol_nil ⟨Fz8, hWz9, (h0.keep (st1.trans st2)), (h1.keep (st1.trans st2)), (h2.keep (st1.trans st2)), hz10⟩
  refine Ref.seq (B := G2 w0 F0) ?_ ?_
  · refine Ref.region (fun s ρ w s' h hr => ?_)
    obtain ⟨F, hW, h0, h1, h2, h7⟩ := h
    refine ol_v (e_as _ rfl) rfl ?_
    obtain rfl := Option.some.inj hr
    exact ol_nil ⟨F, hW, h0, h1, h2, h7, (OwnV.nil (kInt .i64) 3 (Bs w0 nrow) F w)⟩
  refine Ref.seq (B := G5 w0 F0) ?_ ?_
  · refine Ref.seq (B := G3 w0 F0) ?_ ?_
    · refine Ref.region (fun s ρ w s' h hr => ?_)
      obtain ⟨F, hW, h0, h1, h2, h7, h8⟩ := h
      refine ol_v (e_as _ rfl) rfl ?_
      obtain rfl := Option.some.inj hr
      exact ol_nil ⟨F, hW, h0, h1, h2, h7, h8, rfl⟩
    refine Ref.block ?_
    refine Ref.loop ?_
    refine Ref.seq (B := G3 w0 F0) ?_ ?_
    · refine Ref.seq (B := G4 w0 F0) ?_ ?_
      · refine Ref.region (fun s ρ w s' h hr => ?_)
        obtain ⟨F, hW, h0, h1, h2, h7, h8, h9⟩ := h
        refine ol_v (e_mv _ h9) rfl ?_
        refine ol_v (e_mv _ rfl) rfl ?_
        obtain ⟨A11, c12, e13, hc14, R15⟩ := id h0
        refine ol_v (e_len (SlT.sl sl_22) e13) rfl ?_
        refine ol_v (e_lss rfl rfl) rfl ?_
        obtain rfl := Option.some.inj hr
        exact ol_nil ⟨F, hW, h0, h1, h2, h7, h8, h9, rfl⟩
      refine Ref.cond (b := fun s => s.t_17) (fun s ρ w ⟨F, hW, h0, h1, h2, h7, h8, h9, h17⟩ => h17) (Ref.pre (A := G3 w0 F0) ?_ (fun s ρ w h => (fun ⟨F, hW, h0, h1, h2, h7, h8, h9, h17⟩ => ⟨F, hW, h0, h1, h2, h7, h8, h9⟩ : G4 w0 F0 s ρ w → G3 w0 F0 s ρ w) h.2)) (Ref.pre (A := G5 w0 F0) ?_ (fun s ρ w h => (fun ⟨F, hW, h0, h1, h2, h7, h8, h9, h17⟩ => ⟨F, hW, h8⟩ : G4 w0 F0 s ρ w → G5 w0 F0 s ρ w) h.2))
      · exact Ref.skip
      · exact Ref.exit (fun s ρ w h => h)
    refine Ref.seq (B := G3 w0 F0) ?_ ?_
    · refine Ref.block ?_
      refine Ref.seq (B := G6 w0 F0) ?_ ?_
      · refine Ref.region (fun s ρ w s' h hr => ?_)
        obtain ⟨F, hW, h0, h1, h2, h7, h8, h9⟩ := h
        refine ol_v (e_as _ rfl) rfl ?_
        obtain rfl := Option.some.inj hr
        exact ol_nil ⟨F, hW, h0, h1, h2, h7, h8, h9, rfl⟩
      refine Ref.seq (B := G6 w0 F0) ?_ ?_
      · refine Ref.seq (B := G7 w0 F0) ?_ ?_
        · refine Ref.region (fun s ρ w s' h hr => ?_)
          obtain ⟨F, hW, h0, h1, h2, h7, h8, h9, h10⟩ := h
          refine ol_v (e_as _ rfl) rfl ?_
          obtain rfl := Option.some.inj hr
          exact ol_nil ⟨F, hW, h0, h1, h2, h7, h8, h9, h10, rfl⟩
        refine Ref.block ?_
        refine Ref.loop ?_
        refine Ref.seq (B := G7 w0 F0) ?_ ?_
        · refine Ref.seq (B := G8 w0 F0) ?_ ?_
          · refine Ref.region (fun s ρ w s' h hr => ?_)
            obtain ⟨F, hW, h0, h1, h2, h7, h8, h9, h10, h11⟩ := h
            refine ol_v (e_mv _ h11) rfl ?_
            refine ol_v (e_mv _ rfl) rfl ?_
            obtain ⟨A16, c17, e18, hc19, R20⟩ := id h1
            refine ol_v (e_len (SlT.sl sl_23) e18) rfl ?_
            refine ol_v (e_lss rfl rfl) rfl ?_
            obtain rfl := Option.some.inj hr
            exact ol_nil ⟨F, hW, h0, h1, h2, h7, h8, h9, h10, h11, rfl⟩
          refine Ref.cond (b := fun s => s.t_23) (fun s ρ w ⟨F, hW, h0, h1, h2, h7, h8, h9, h10, h11, h23⟩ => h23) (Ref.pre (A := G7 w0 F0) ?_ (fun s ρ w h => (fun ⟨F, hW, h0, h1, h2, h7, h8, h9, h10, h11, h23⟩ => ⟨F, hW, h0, h1, h2, h7, h8, h9, h10, h11⟩ : G8 w0 F0 s ρ w → G7 w0 F0 s ρ w) h.2)) (Ref.pre (A := G6 w0 F0) ?_ (fun s ρ w h => (fun ⟨F, hW, h0, h1, h2, h7, h8, h9, h10, h11, h23⟩ => ⟨F, hW, h0, h1, h2, h7, h8, h9, h10⟩ : G8 w0 F0 s ρ w → G6 w0 F0 s ρ w) h.2))
          · exact Ref.skip
          · exact Ref.exit (fun s ρ w h => h)
        refine Ref.seq (B := G7 w0 F0) ?_ ?_
        · refine Ref.block ?_
          refine Ref.region (fun s ρ w s' h hr => ?_)
          obtain ⟨F, hW, h0, h1, h2, h7, h8, h9, h10, h11⟩ := h
          refine ol_v (e_mv _ h10) rfl ?_
          obtain ⟨x56, hx57, hr⟩ := bind_some' hr
          refine ol_cutA 12 27 38 (fun ρ' w' => w = w' ∧ ρ' 38 = .bool x56) rfl ?_ ?_
          · by_cases hb21 : s.is_10 = true
            · have hr := hx57
              rw [if_pos hb21] at hr
              refine ol_v (e_mv _ rfl) rfl ?_
              refine ol_not rfl rfl rfl (congrArg Value.bool hb21) rfl ?_
              refine ol_not rfl rfl rfl (congrArg Value.bool hb21) rfl ?_
              refine ol_not rfl rfl rfl (congrArg Value.bool hb21) rfl ?_
              refine ol_not rfl rfl rfl (congrArg Value.bool hb21) rfl ?_
              refine ol_not rfl rfl rfl (congrArg Value.bool hb21) rfl ?_
              refine ol_not rfl rfl rfl (congrArg Value.bool hb21) rfl ?_
              refine ol_not rfl rfl rfl (congrArg Value.bool hb21) rfl ?_
              refine ol_not rfl rfl rfl (congrArg Value.bool hb21) rfl ?_
              refine ol_not rfl rfl rfl (congrArg Value.bool hb21) rfl ?_
              refine ol_not rfl rfl rfl (congrArg Value.bool hb21) rfl ?_
              refine ol_v (e_pick true _ (congrArg Value.bool hb21) rfl) rfl ?_
              exact ol_nil ⟨⟨rfl, (congrArg Value.bool (Option.some.inj hr))⟩, (((((((((((((Agr.refl _ _ _).upd rfl rfl).upd rfl rfl).upd rfl rfl).upd rfl rfl).upd rfl rfl).upd rfl rfl).upd rfl rfl).upd rfl rfl).upd rfl rfl).upd rfl rfl).upd rfl rfl).upd rfl rfl)⟩
            · have hb22 := Bool.eq_false_iff.mpr hb21
              have hr := hx57
              rw [if_neg hb21] at hr
              refine ol_v (e_mv _ rfl) rfl ?_
              refine ol_yes rfl rfl (congrArg Value.bool hb22) ?_
              refine ol_v (e_mv _ rfl) rfl ?_
              refine ol_yes rfl rfl (congrArg Value.bool hb22) ?_
              refine ol_v (e_mv _ rfl) rfl ?_
              refine ol_yes rfl rfl (congrArg Value.bool hb22) ?_
              refine ol_v (e_mv _ h11) rfl ?_
              refine ol_yes rfl rfl (congrArg Value.bool hb22) ?_
              obtain ⟨x23, hx23, hr⟩ := bind_some' hr
              obtain ⟨A24, c25, e26, hc27, R28⟩ := id h1
              obtain ⟨b29, o30, hA31, L32⟩ := Row.at_ R28 hx23
              refine ol_v (e_ix (SlT.sl sl_23) (SlT.sz sl_23) hA31 hx23 e26 rfl) rfl ?_
              refine ol_yes rfl rfl (congrArg Value.bool hb22) ?_
              refine ol_v (e_ld ty_3 (LiesV.int L32.at_) rfl) rfl ?_
              refine ol_yes rfl rfl (congrArg Value.bool hb22) ?_
              obtain ⟨x33, hx33, hr⟩ := bind_some' hr
              obtain ⟨A34, c35, e36, hc37, R38⟩ := id h7
              obtain ⟨b39, o40, hA41, L42⟩ := Row.at_ R38 hx33
              refine ol_v (e_ix (SlT.sl sl_44) (SlT.sz sl_44) hA41 hx33 e36 rfl) rfl ?_
              refine ol_yes rfl rfl (congrArg Value.bool hb22) ?_
              obtain ⟨v43, hl44, hs45⟩ := LiesV.sl L42.at_
              refine ol_v (e_ld ty_46 hl44 rfl) rfl ?_
              refine ol_yes rfl rfl (congrArg Value.bool hb22) ?_
              refine ol_v (e_mv _ h9) rfl ?_
              refine ol_yes rfl rfl (congrArg Value.bool hb22) ?_
              obtain ⟨x46, hx46, hr⟩ := bind_some' hr
              obtain ⟨A47, c48, e49, hc50, R51⟩ := id hs45
              obtain ⟨b52, o53, hA54, L55⟩ := Row.at_ R51 hx46
              refine ol_v (e_ix (SlT.sl sl_46) (SlT.sz sl_46) hA54 hx46 e49 rfl) rfl ?_
              refine ol_yes rfl rfl (congrArg Value.bool hb22) ?_
              refine ol_v (e_ld ty_4 (LiesV.bool L55.at_) rfl) rfl ?_
              refine ol_v (e_pick false _ (congrArg Value.bool hb22) rfl) rfl ?_
              exact ol_nil ⟨⟨rfl, (congrArg Value.bool (Option.some.inj hr))⟩, (((((((((((((Agr.refl _ _ _).upd rfl rfl).upd rfl rfl).upd rfl rfl).upd rfl rfl).upd rfl rfl).upd rfl rfl).upd rfl rfl).upd rfl rfl).upd rfl rfl).upd rfl rfl).upd rfl rfl).upd rfl rfl)⟩
          rintro ρ57 _ ⟨⟨rfl, hp57⟩, hAg57⟩
          refine ol_v (e_as _ hp57) rfl ?_
          obtain rfl := Option.some.inj hr
          exact ol_nil ⟨F, hW, (SlR.eqv (hAg57 0 rfl) h0), (SlR.eqv (hAg57 1 rfl) h1), (SlR.eqv (hAg57 2 rfl) h2), (SlR.eqv (hAg57 7 rfl) h7), (OwnV.eqv (hAg57 8 rfl) h8), ((hAg57 9 rfl).trans h9), rfl, ((hAg57 11 rfl).trans h11)⟩
        refine Ref.region (fun s ρ w s' h hr => ?_)
        obtain ⟨F, hW, h0, h1, h2, h7, h8, h9, h10, h11⟩ := h
        refine ol_v (e_mv _ h11) rfl ?_
        refine ol_v (e_add rfl rfl) rfl ?_
        refine ol_v (e_as _ rfl) rfl ?_
        obtain rfl := Option.some.inj hr
        exact ol_nil ⟨F, hW, h0, h1, h2, h7, h8, h9, h10, rfl⟩
      refine Ref.seq (B := G9 w0 F0) ?_ ?_
      · refine Ref.region (fun s ρ w s' h hr => ?_)
        obtain ⟨F, hW, h0, h1, h2, h7, h8, h9, h10⟩ := h
        refine ol_v (e_mv _ h10) rfl ?_
        obtain ⟨x70, hx71, hr⟩ := bind_some' hr
        refine ol_cutA 7 40 46 (fun ρ' w' => w = w' ∧ ρ' 46 = .bool x70) rfl ?_ ?_
        · by_cases hb58 : s.is_10 = true
          · have hr := hx71
            rw [if_pos hb58] at hr
            refine ol_v (e_mv _ rfl) rfl ?_
            refine ol_yes rfl rfl (congrArg Value.bool hb58) ?_
            refine ol_v (e_mv _ rfl) rfl ?_
            refine ol_yes rfl rfl (congrArg Value.bool hb58) ?_
            refine ol_v (e_mv _ h9) rfl ?_
            refine ol_yes rfl rfl (congrArg Value.bool hb58) ?_
            obtain ⟨x60, hx60, hr⟩ := bind_some' hr
            obtain ⟨A61, c62, e63, hc64, R65⟩ := id h2
            obtain ⟨b66, o67, hA68, L69⟩ := Row.at_ R65 hx60
            refine ol_v (e_ix (SlT.sl sl_46) (SlT.sz sl_46) hA68 hx60 e63 rfl) rfl ?_
            refine ol_yes rfl rfl (congrArg Value.bool hb58) ?_
            refine ol_v (e_ld ty_4 (LiesV.bool L69.at_) rfl) rfl ?_
            refine ol_yes rfl rfl (congrArg Value.bool hb58) ?_
            refine ol_v (e_not_ rfl) rfl ?_
            refine ol_v (e_pick true _ (congrArg Value.bool hb58) rfl) rfl ?_
            exact ol_nil ⟨⟨rfl, (congrArg Value.bool (Option.some.inj hr))⟩, ((((((((Agr.refl _ _ _).upd rfl rfl).upd rfl rfl).upd rfl rfl).upd rfl rfl).upd rfl rfl).upd rfl rfl).upd rfl rfl)⟩
          · have hb59 := Bool.eq_false_iff.mpr hb58
            have hr := hx71
            rw [if_neg hb58] at hr
            refine ol_v (e_mv _ rfl) rfl ?_
            refine ol_not rfl rfl rfl (congrArg Value.bool hb59) rfl ?_
            refine ol_not rfl rfl rfl (congrArg Value.bool hb59) rfl ?_
            refine ol_not rfl rfl rfl (congrArg Value.bool hb59) rfl ?_
            refine ol_not rfl rfl rfl (congrArg Value.bool hb59) rfl ?_
            refine ol_not rfl rfl rfl (congrArg Value.bool hb59) rfl ?_
            refine ol_v (e_pick false _ (congrArg Value.bool hb59) rfl) rfl ?_
            exact ol_nil ⟨⟨rfl, (congrArg Value.bool (Option.some.inj hr))⟩, ((((((((Agr.refl _ _ _).upd rfl rfl).upd rfl rfl).upd rfl rfl).upd rfl rfl).upd rfl rfl).upd rfl rfl).upd rfl rfl)⟩
        rintro ρ71 _ ⟨⟨rfl, hp71⟩, hAg71⟩
        obtain rfl := Option.some.inj hr
        exact ol_nil ⟨F, hW, (SlR.eqv (hAg71 0 rfl) h0), (SlR.eqv (hAg71 1 rfl) h1), (SlR.eqv (hAg71 2 rfl) h2), (SlR.eqv (hAg71 7 rfl) h7), (OwnV.eqv (hAg71 8 rfl) h8), ((hAg71 9 rfl).trans h9), hp71⟩
      refine Ref.cond (b := fun s => s.t_46) (fun s ρ w ⟨F, hW, h0, h1, h2, h7, h8, h9, h46⟩ => h46) (Ref.pre (A := G3 w0 F0) ?_ (fun s ρ w h => (fun ⟨F, hW, h0, h1, h2, h7, h8, h9, h46⟩ => ⟨F, hW, h0, h1, h2, h7, h8, h9⟩ : G9 w0 F0 s ρ w → G3 w0 F0 s ρ w) h.2)) (Ref.pre (A := G3 w0 F0) ?_ (fun s ρ w h => (fun ⟨F, hW, h0, h1, h2, h7, h8, h9, h46⟩ => ⟨F, hW, h0, h1, h2, h7, h8, h9⟩ : G9 w0 F0 s ρ w → G3 w0 F0 s ρ w) h.2))
      · refine Ref.region (fun s ρ w s' h hr => ?_)
        obtain ⟨F, hW, h0, h1, h2, h7, h8, h9⟩ := h
        refine ol_v (e_mv _ rfl) rfl ?_
        refine ol_v (e_mv _ h9) rfl ?_
        refine ol_e (f_bslF sl_23 hW ([s.i_9] : List Int) [.int .i64 s.i_9] (by exact ⟨_, _, rfl, (val_int _ _), rfl⟩) rfl (Nat.le_of_ble_eq_true rfl) (lcons (congrArg (Prod.mk 0) rfl) rfl)) rfl rfl ?_
        rintro v72 w73 ⟨Fz75, kw1, ho74⟩
        have hW76 := hW.trans kw1
        have st1 := kw1.stp hW.ok
        obtain ⟨x77, hx77, hr⟩ := bind_some' hr
        refine ol_e (f_app sl_23 hW76 (h8.wk kw1 hW.ok) ho74 hx77 rfl rfl) rfl rfl ?_
        rintro v78 w79 ⟨hW80, ho81, hg2, st2, hor82⟩
        refine ol_v (e_as _ rfl) rfl ?_
        obtain rfl := Option.some.inj hr
        exact ol_nil ⟨Fz75, hW80, (h0.keep (st1.trans st2)), (h1.keep (st1.trans st2)), (h2.keep (st1.trans st2)), (h7.keep (st1.trans st2)), ho81, h9⟩
      · exact Ref.skip
    refine Ref.region (fun s ρ w s' h hr => ?_)
    obtain ⟨F, hW, h0, h1, h2, h7, h8, h9⟩ := h
    refine ol_v (e_mv _ h9) rfl ?_
    refine ol_v (e_add rfl rfl) rfl ?_
    refine ol_v (e_as _ rfl) rfl ?_
    obtain rfl := Option.some.inj hr
    exact ol_nil ⟨F, hW, h0, h1, h2, h7, h8, rfl⟩
  refine Ref.seq (B := G10 w0 F0) ?_ ?_
  · refine Ref.region (fun s ρ w s' h hr => ?_)
    obtain ⟨F, hW, h8⟩ := h
    refine ol_v (e_mv _ rfl) rfl ?_
    refine ol_v (e_as _ rfl) rfl ?_
    obtain rfl := Option.some.inj hr
    exact ol_nil ⟨F, hW, h8⟩
  exact Ref.ret (fun s ρ w h => ⟨s, rfl, h⟩)
def post (w : World) (F : BSet) (r : R) (v : Value) (w' : World) : Prop := ∃ (F' : BSet) (v0' : Value), v = v0' ∧ Wk nrow w F F' w' ∧ OwnV (kInt .i64) 3 (Nw w) F' w' v0' r
theorem calls {w : World} {F : BSet} (hok : ∀ b, F b → b < w.heap.size) {v0 : Value} {a0 : (List Commit)} (h0 : SlR k_Commit F w v0 a0) {v1 : Value} {a1 : (List Int)} (h1 : SlR (kInt .i64) F w v1 a1) {v2 : Value} {a2 : (List Bool)} (h2 : SlR kBool F w v2 a2) {r : R} (hf : f a0 a1 a2 = some r) : Calls Try.prog 32 #[v0, v1, v2] w fun e w' => ∃ v, e = .returned v ∧ post w F r v w' := by
  obtain ⟨c, hc, href⟩ := ref w F
  refine calls_of_ref (args := [v0, v1, v2]) _ Try.func32 hc rfl rfl href ?_ (retOf_some hf) ?_
  · exact ⟨F, Wk.refl hok, h0, h1, h2⟩
  · rintro ρ w' a ⟨s, rfl, F', hW, h6⟩ hF
    refine ⟨_, run_results (rs := [.tmp 6]) rfl hF (vs := [ρ 6]) (⟨_, rfl, rfl⟩), ?_⟩
    exact ⟨F', ρ 6, rfl, hW, h6.rebase (fun g hg => (h6.lt hg).1.resolve_right (fun h => h))⟩
end
end ref4_LacksOf

namespace law4_NegotiateMatchesSpec
section
def G0 (w0 : World) (F0 : BSet) (s : S) (ρ : Env) (w : World) : Prop := ∃ (F : BSet), Wk nrow w0 F0 F w ∧ SlR k_Commit F w (ρ 0) s.t_0 ∧ SlR kBool F w (ρ 1) s.t_1 ∧ SlR kBool F w (ρ 2) s.t_2 ∧ SlR (kInt .i64) F w (ρ 3) s.t_3
def G1 (w0 : World) (F0 : BSet) (s : S) (ρ : Env) (w : World) : Prop := ∃ (F : BSet), Wk nrow w0 F0 F w ∧ SlR k_Commit F w (ρ 0) s.t_0 ∧ SlR kBool F w (ρ 1) s.t_1 ∧ SlR kBool F w (ρ 2) s.t_2 ∧ SlR (kInt .i64) F w (ρ 3) s.t_3 ∧ ρ 18 = .bool s.t_18
def G2 (w0 : World) (F0 : BSet) (s : S) (ρ : Env) (w : World) : Prop := ∃ (F : BSet), Wk nrow w0 F0 F w
def G3 (w0 : World) (F0 : BSet) (s : S) (ρ : Env) (w : World) : Prop := ∃ (F : BSet), Wk nrow w0 F0 F w ∧ ρ 8 = .bool s.t_8
def G4 (w0 : World) (F0 : BSet) (s : S) (ρ : Env) (w : World) : Prop := ∃ (F : BSet), Wk nrow w0 F0 F w ∧ ∃ (g10 : Nat), SlR k_Commit F w (ρ 0) s.t_0 ∧ SlR kBool F w (ρ 1) s.t_1 ∧ SlR kBool F w (ρ 2) s.t_2 ∧ SlR (kInt .i64) F w (ρ 3) s.t_3 ∧ SlR (kInt .i64) F w (ρ 9) s.t_9 ∧ ρ 10 = .pointer (some ⟨g10, 0, none⟩) ∧ Box k_Fault 26 (Bs w0 nrow) F w g10 s.t_10
def G5 (w0 : World) (F0 : BSet) (s : S) (ρ : Env) (w : World) : Prop := ∃ (F : BSet), Wk nrow w0 F0 F w ∧ ∃ (g10 : Nat) (g13 : Nat), SlR k_Commit F w (ρ 0) s.t_0 ∧ SlR kBool F w (ρ 1) s.t_1 ∧ SlR kBool F w (ρ 2) s.t_2 ∧ SlR (kInt .i64) F w (ρ 3) s.t_3 ∧ SlR (kInt .i64) F w (ρ 9) s.t_9 ∧ ρ 10 = .pointer (some ⟨g10, 0, none⟩) ∧ Box k_Fault 26 (Bs w0 nrow) F w g10 s.t_10 ∧ SlR (kSl (kInt .i64)) F w (ρ 11) s.t_11 ∧ SlR (kInt .i64) F w (ρ 12) s.t_12 ∧ ρ 13 = .pointer (some ⟨g13, 0, none⟩) ∧ Box k_Fault 26 (Bs w0 nrow) F w g13 s.t_13 ∧ Apart (some g10) (some g13)
def G6 (w0 : World) (F0 : BSet) (s : S) (ρ : Env) (w : World) : Prop := ∃ (F : BSet), Wk nrow w0 F0 F w ∧ ∃ (g10 : Nat) (g13 : Nat) (g14 : Nat), SlR k_Commit F w (ρ 0) s.t_0 ∧ SlR kBool F w (ρ 1) s.t_1 ∧ SlR kBool F w (ρ 2) s.t_2 ∧ SlR (kInt .i64) F w (ρ 3) s.t_3 ∧ SlR (kInt .i64) F w (ρ 9) s.t_9 ∧ ρ 10 = .pointer (some ⟨g10, 0, none⟩) ∧ Box k_Fault 26 (Bs w0 nrow) F w g10 s.t_10 ∧ SlR (kSl (kInt .i64)) F w (ρ 11) s.t_11 ∧ SlR (kInt .i64) F w (ρ 12) s.t_12 ∧ ρ 13 = .pointer (some ⟨g13, 0, none⟩) ∧ Box k_Fault 26 (Bs w0 nrow) F w g13 s.t_13 ∧ ρ 14 = .pointer (some ⟨g14, 0, none⟩) ∧ Box k_Fault 26 (Bs w0 nrow) F w g14 s.t_14 ∧ Apart (some g10) (some g13) ∧ Apart (some g10) (some g14) ∧ Apart (some g13) (some g14)
def G7 (w0 : World) (F0 : BSet) (s : S) (ρ : Env) (w : World) : Prop := ∃ (F : BSet), Wk nrow w0 F0 F w ∧ ∃ (g10 : Nat) (g13 : Nat) (g14 : Nat), SlR k_Commit F w (ρ 0) s.t_0 ∧ SlR kBool F w (ρ 1) s.t_1 ∧ SlR kBool F w (ρ 2) s.t_2 ∧ SlR (kInt .i64) F w (ρ 3) s.t_3 ∧ SlR (kInt .i64) F w (ρ 9) s.t_9 ∧ ρ 10 = .pointer (some ⟨g10, 0, none⟩) ∧ Box k_Fault 26 (Bs w0 nrow) F w g10 s.t_10 ∧ SlR (kSl (kInt .i64)) F w (ρ 11) s.t_11 ∧ SlR (kInt .i64) F w (ρ 12) s.t_12 ∧ ρ 13 = .pointer (some ⟨g13, 0, none⟩) ∧ Box k_Fault 26 (Bs w0 nrow) F w g13 s.t_13 ∧ ρ 14 = .pointer (some ⟨g14, 0, none⟩) ∧ Box k_Fault 26 (Bs w0 nrow) F w g14 s.t_14 ∧ ρ 43 = .bool s.t_43 ∧ Apart (some g10) (some g13) ∧ Apart (some g10) (some g14) ∧ Apart (some g13) (some g14)
def G8 (w0 : World) (F0 : BSet) (s : S) (ρ : Env) (w : World) : Prop := ∃ (F : BSet), Wk nrow w0 F0 F w ∧ ∃ (g10 : Nat) (g13 : Nat) (g14 : Nat), SlR (kInt .i64) F w (ρ 9) s.t_9 ∧ ρ 10 = .pointer (some ⟨g10, 0, none⟩) ∧ Box k_Fault 26 (Bs w0 nrow) F w g10 s.t_10 ∧ SlR (kSl (kInt .i64)) F w (ρ 11) s.t_11 ∧ SlR (kInt .i64) F w (ρ 12) s.t_12 ∧ ρ 13 = .pointer (some ⟨g13, 0, none⟩) ∧ Box k_Fault 26 (Bs w0 nrow) F w g13 s.t_13 ∧ ρ 14 = .pointer (some ⟨g14, 0, none⟩) ∧ Box k_Fault 26 (Bs w0 nrow) F w g14 s.t_14 ∧ Apart (some g10) (some g13) ∧ Apart (some g10) (some g14) ∧ Apart (some g13) (some g14)
def G9 (w0 : World) (F0 : BSet) (s : S) (ρ : Env) (w : World) : Prop := ∃ (F : BSet), Wk nrow w0 F0 F w ∧ ∃ (g10 : Nat) (g13 : Nat), SlR k_Commit F w (ρ 0) s.t_0 ∧ SlR kBool F w (ρ 2) s.t_2 ∧ SlR (kInt .i64) F w (ρ 3) s.t_3 ∧ SlR (kInt .i64) F w (ρ 9) s.t_9 ∧ ρ 10 = .pointer (some ⟨g10, 0, none⟩) ∧ Box k_Fault 26 (Bs w0 nrow) F w g10 s.t_10 ∧ SlR (kSl (kInt .i64)) F w (ρ 11) s.t_11 ∧ SlR (kInt .i64) F w (ρ 12) s.t_12 ∧ ρ 13 = .pointer (some ⟨g13, 0, none⟩) ∧ Box k_Fault 26 (Bs w0 nrow) F w g13 s.t_13 ∧ SlR (kSl (kInt .i64)) F w (ρ 15) s.t_15 ∧ Apart (some g10) (some g13)
def G10 (w0 : World) (F0 : BSet) (s : S) (ρ : Env) (w : World) : Prop := ∃ (F : BSet), Wk nrow w0 F0 F w ∧ SlR (kSl (kInt .i64)) F w (ρ 11) s.t_11 ∧ SlR (kSl (kInt .i64)) F w (ρ 15) s.t_15 ∧ ρ 96 = .bool s.t_96
def G11 (w0 : World) (F0 : BSet) (s : S) (ρ : Env) (w : World) : Prop := ∃ (F : BSet), Wk nrow w0 F0 F w ∧ SlR (kSl (kInt .i64)) F w (ρ 11) s.t_11 ∧ SlR (kSl (kInt .i64)) F w (ρ 15) s.t_15
def G12 (w0 : World) (F0 : BSet) (s : S) (ρ : Env) (w : World) : Prop := ∃ (F : BSet), Wk nrow w0 F0 F w ∧ SlR (kSl (kInt .i64)) F w (ρ 11) s.t_11 ∧ SlR (kSl (kInt .i64)) F w (ρ 15) s.t_15 ∧ ρ 16 = .int .i64 s.t_16
def G13 (w0 : World) (F0 : BSet) (s : S) (ρ : Env) (w : World) : Prop := ∃ (F : BSet), Wk nrow w0 F0 F w ∧ SlR (kSl (kInt .i64)) F w (ρ 11) s.t_11 ∧ SlR (kSl (kInt .i64)) F w (ρ 15) s.t_15 ∧ ρ 16 = .int .i64 s.t_16 ∧ ρ 100 = .bool s.t_100
def G14 (w0 : World) (F0 : BSet) (s : S) (ρ : Env) (w : World) : Prop := ∃ (F : BSet), Wk nrow w0 F0 F w ∧ SlR (kSl (kInt .i64)) F w (ρ 11) s.t_11 ∧ SlR (kSl (kInt .i64)) F w (ρ 15) s.t_15 ∧ ρ 16 = .int .i64 s.t_16 ∧ ρ 112 = .bool s.t_112
set_option maxHeartbeats 4000000 in
set_option maxRecDepth 20000 in
theorem ref (w0 : World) (F0 : BSet) : ∃ c, Try.f8.body = some c ∧ Ref Try.prog 113 c (G0 w0 F0) body (fun _ _ _ => False) (fun _ _ _ _ => False) (fun r ρ w => ∃ s, retv s = r ∧ G3 w0 F0 s ρ w) := by
  refine ⟨_, rfl, ?_⟩
  unfold body
  refine Ref.seq (B := G0 w0 F0) ?_ ?_
  · refine Ref.region (fun s ρ w s' h hr => ?_)
    obtain ⟨F, hW, h0, h1, h2, h3⟩ := h
    refine ol_v (e_as _ rfl) rfl ?_
    obtain rfl := Option.some.inj hr
    exact ol_nil ⟨F, hW, h0, h1, h2, h3⟩
  refine Ref.seq (B := G0 w0 F0) ?_ ?_
  · refine Ref.seq (B := G1 w0 F0) ?_ ?_
    · refine Ref.region (fun s ρ w s' h hr => ?_)
      obtain ⟨F, hW, h0, h1, h2, h3⟩ := h
      obtain ⟨x1, hx1, hr⟩ := bind_some' hr
      refine ol_e (f_call [] fn_27 rfl (law4_negotiateExample.calls hW.ok  hx1)) rfl rfl ?_
      rintro _ w2 ⟨Fz3, rfl, kw1⟩
      have hW5 := hW.trans kw1
      have st1 := kw1.stp hW.ok
      refine ol_v (e_not_ rfl) rfl ?_
      obtain rfl := Option.some.inj hr
      exact ol_nil ⟨Fz3, hW5, (h0.keep st1), (h1.keep st1), (h2.keep st1), (h3.keep st1), rfl⟩
    refine Ref.cond (b := fun s => s.t_18) (fun s ρ w ⟨F, hW, h0, h1, h2, h3, h18⟩ => h18) (Ref.pre (A := G2 w0 F0) ?_ (fun s ρ w h => (fun ⟨F, hW, h0, h1, h2, h3, h18⟩ => ⟨F, hW⟩ : G1 w0 F0 s ρ w → G2 w0 F0 s ρ w) h.2)) (Ref.pre (A := G0 w0 F0) ?_ (fun s ρ w h => (fun ⟨F, hW, h0, h1, h2, h3, h18⟩ => ⟨F, hW, h0, h1, h2, h3⟩ : G1 w0 F0 s ρ w → G0 w0 F0 s ρ w) h.2))
    · refine Ref.seq (B := G3 w0 F0) ?_ ?_
      · refine Ref.region (fun s ρ w s' h hr => ?_)
        obtain ⟨F, hW⟩ := h
        refine ol_v (e_as _ rfl) rfl ?_
        obtain rfl := Option.some.inj hr
        exact ol_nil ⟨F, hW, rfl⟩
      exact Ref.ret (fun s ρ w h => ⟨s, rfl, h⟩)
    · exact Ref.skip
  refine Ref.seq (B := G4 w0 F0) ?_ ?_
  · refine Ref.region (fun s ρ w s' h hr => ?_)
    obtain ⟨F, hW, h0, h1, h2, h3⟩ := h
    refine ol_v (e_mv _ rfl) rfl ?_
    refine ol_v (e_mv _ rfl) rfl ?_
    refine ol_v (e_mv _ rfl) rfl ?_
    refine ol_v (e_mv _ rfl) rfl ?_
    obtain ⟨x6, hx6, hr⟩ := bind_some' hr
    refine ol_e (f_call [(ρ 0), (ρ 1), (ρ 2), (ρ 3)] fn_28 (lcons rfl (lcons rfl (lcons rfl (lcons rfl rfl)))) (negotiate_Missing.calls hW.ok h0 h1 h2 h3 hx6)) rfl rfl ?_
    rintro _ w7 ⟨Fz8, v9, v11, rfl, kw1, hk10, hk12⟩
    have hW14 := hW.trans kw1
    have st1 := kw1.stp hW.ok
    refine ol_v (e_mv _ rfl) rfl ?_
    refine ol_v (e_ext _ rfl rfl) rfl ?_
    refine ol_v (e_ext _ rfl rfl) rfl ?_
    refine ol_e (f_alloc zer_26 hW14) rfl rfl ?_
    rintro _ w16 ⟨g15, rfl, kw2, ho17⟩
    have hW18 := hW14.trans kw2
    have st2 := kw2.stp hW14.ok
    obtain ⟨Fz19, hWz20, st3, hF3, hz21⟩ := (((hk10.base (row := nrow) hW.le).wk kw2 hW14.ok)).frozen hW18
    refine ol_v (e_as _ rfl) rfl ?_
    refine ol_eN (f_stB hWz20 ((ho17.base (row := nrow) hW14.le).frz (apart_bo (ho17.base (row := nrow) hW14.le) ((hk10.base (row := nrow) hW.le).wk kw2 hW14.ok) rfl).symm hF3 st3) (FldS.whole _) ty_26 (hk12.keep (st2.trans st3)) rfl rfl) rfl ?_
    rintro - w22 ⟨hW23, ho24, hg4, st4⟩
    obtain rfl := Option.some.inj hr
    exact ol_nil ⟨Fz19, hW23, g15, (h0.keep (st1.trans (st2.trans (st3.trans st4)))), (h1.keep (st1.trans (st2.trans (st3.trans st4)))), (h2.keep (st1.trans (st2.trans (st3.trans st4)))), (h3.keep (st1.trans (st2.trans (st3.trans st4)))), (hz21.keep st4), rfl, ho24⟩
  refine Ref.seq (B := G5 w0 F0) ?_ ?_
  · refine Ref.region (fun s ρ w s' h hr => ?_)
    obtain ⟨F, hW, g10, h0, h1, h2, h3, h9, p10, h10⟩ := h
    refine ol_v (e_mv _ rfl) rfl ?_
    refine ol_v (e_mv _ rfl) rfl ?_
    refine ol_v (e_mv _ rfl) rfl ?_
    refine ol_v (e_mv _ rfl) rfl ?_
    obtain ⟨x25, hx25, hr⟩ := bind_some' hr
    refine ol_e (f_call [(ρ 0), (ρ 1), (ρ 2), (ρ 3)] fn_29 (lcons rfl (lcons rfl (lcons rfl (lcons rfl rfl)))) (negotiate_Run.calls hW.ok h0 h1 h2 h3 hx25)) rfl rfl ?_
    rintro _ w26 ⟨Fz27, v28, v30, v32, rfl, kw1, hk29, hk31, hk33⟩
    have hW35 := hW.trans kw1
    have st1 := kw1.stp hW.ok
    refine ol_v (e_mv _ rfl) rfl ?_
    refine ol_v (e_ext _ rfl rfl) rfl ?_
    refine ol_v (e_ext _ rfl rfl) rfl ?_
    refine ol_v (e_ext _ rfl rfl) rfl ?_
    refine ol_e (f_alloc zer_26 hW35) rfl rfl ?_
    rintro _ w37 ⟨g36, rfl, kw2, ho38⟩
    have hW39 := hW35.trans kw2
    have st2 := kw2.stp hW35.ok
    obtain ⟨Fz40, hWz41, st3, hF3, hz42⟩ := (((hk29.base (row := nrow) hW.le).wk kw2 hW35.ok)).frozen hW39
    refine ol_v (e_as _ rfl) rfl ?_
    obtain ⟨Fz43, hWz44, st4, hF4, hz45⟩ := ((((hk31.base (row := nrow) hW.le).wk kw2 hW35.ok).frz (apart_oo ((hk29.base (row := nrow) hW.le).wk kw2 hW35.ok) ((hk31.base (row := nrow) hW.le).wk kw2 hW35.ok) rfl) hF3 st3)).frozen hWz41
    refine ol_v (e_as _ rfl) rfl ?_
    refine ol_eN (f_stB hWz44 (((ho38.base (row := nrow) hW35.le).frz (apart_bo (ho38.base (row := nrow) hW35.le) ((hk29.base (row := nrow) hW.le).wk kw2 hW35.ok) rfl).symm hF3 st3).frz (apart_bo ((ho38.base (row := nrow) hW35.le).frz (apart_bo (ho38.base (row := nrow) hW35.le) ((hk29.base (row := nrow) hW.le).wk kw2 hW35.ok) rfl).symm hF3 st3) (((hk31.base (row := nrow) hW.le).wk kw2 hW35.ok).frz (apart_oo ((hk29.base (row := nrow) hW.le).wk kw2 hW35.ok) ((hk31.base (row := nrow) hW.le).wk kw2 hW35.ok) rfl) hF3 st3) rfl).symm hF4 st4) (FldS.whole _) ty_26 (hk33.keep (st2.trans (st3.trans st4))) rfl rfl) rfl ?_
    rintro - w46 ⟨hW47, ho48, hg5, st5⟩
    obtain rfl := Option.some.inj hr
    exact ol_nil ⟨Fz43, hW47, g10, g36, (h0.keep (st1.trans (st2.trans (st3.trans (st4.trans st5))))), (h1.keep (st1.trans (st2.trans (st3.trans (st4.trans st5))))), (h2.keep (st1.trans (st2.trans (st3.trans (st4.trans st5))))), (h3.keep (st1.trans (st2.trans (st3.trans (st4.trans st5))))), (h9.keep (st1.trans (st2.trans (st3.trans (st4.trans st5))))), p10, (((((h10.wk kw1 hW.ok).wk kw2 hW35.ok).frz (apart_bo ((h10.wk kw1 hW.ok).wk kw2 hW35.ok) ((hk29.base (row := nrow) hW.le).wk kw2 hW35.ok) rfl).symm hF3 st3).frz (apart_bo (((h10.wk kw1 hW.ok).wk kw2 hW35.ok).frz (apart_bo ((h10.wk kw1 hW.ok).wk kw2 hW35.ok) ((hk29.base (row := nrow) hW.le).wk kw2 hW35.ok) rfl).symm hF3 st3) (((hk31.base (row := nrow) hW.le).wk kw2 hW35.ok).frz (apart_oo ((hk29.base (row := nrow) hW.le).wk kw2 hW35.ok) ((hk31.base (row := nrow) hW.le).wk kw2 hW35.ok) rfl) hF3 st3) rfl).symm hF4 st4).mut (Apart.base (fun _ e_ => by cases e_; exact ho38.ge) (h10.wk kw1 hW.ok).ltw) hg5 st5), (hz42.keep (st4.trans st5)), (hz45.keep st5), rfl, ho48, (Apart.base (fun _ e_ => by cases e_; exact ho38.ge) (h10.wk kw1 hW.ok).ltw).symm⟩
  refine Ref.seq (B := G5 w0 F0) ?_ ?_
  · refine Ref.seq (B := G6 w0 F0) ?_ ?_
    · refine Ref.region (fun s ρ w s' h hr => ?_)
      obtain ⟨F, hW, g10, g13, h0, h1, h2, h3, h9, p10, h10, h11, h12, p13, h13, a10b_13b⟩ := h
      refine ol_v (e_mv _ rfl) rfl ?_
      refine ol_v (e_mv _ rfl) rfl ?_
      refine ol_v (e_mv _ rfl) rfl ?_
      refine ol_v (e_mv _ rfl) rfl ?_
      obtain ⟨x49, hx49, hr⟩ := bind_some' hr
      refine ol_e (f_call [(ρ 0), (ρ 1), (ρ 2), (ρ 3)] fn_30 (lcons rfl (lcons rfl (lcons rfl (lcons rfl rfl)))) (ref4_NegotiateFault.calls hW.ok h0 h1 h2 h3 hx49)) rfl rfl ?_
      rintro v52 w50 ⟨Fz51, _, rfl, kw1, hk53⟩
      have hW55 := hW.trans kw1
      have st1 := kw1.stp hW.ok
      refine ol_e (f_alloc zer_26 hW55) rfl rfl ?_
      rintro _ w57 ⟨g56, rfl, kw2, ho58⟩
      have hW59 := hW55.trans kw2
      have st2 := kw2.stp hW55.ok
      refine ol_eN (f_stB hW59 (ho58.base (row := nrow) hW55.le) (FldS.whole _) ty_26 (hk53.keep st2) rfl rfl) rfl ?_
      rintro - w60 ⟨hW61, ho62, hg3, st3⟩
      obtain rfl := Option.some.inj hr
      exact ol_nil ⟨Fz51, hW61, g10, g13, g56, (h0.keep (st1.trans (st2.trans st3))), (h1.keep (st1.trans (st2.trans st3))), (h2.keep (st1.trans (st2.trans st3))), (h3.keep (st1.trans (st2.trans st3))), (h9.keep (st1.trans (st2.trans st3))), p10, (((h10.wk kw1 hW.ok).wk kw2 hW55.ok).mut (Apart.base (fun _ e_ => by cases e_; exact ho58.ge) (h10.wk kw1 hW.ok).ltw) hg3 st3), (h11.keep (st1.trans (st2.trans st3))), (h12.keep (st1.trans (st2.trans st3))), p13, (((h13.wk kw1 hW.ok).wk kw2 hW55.ok).mut (Apart.base (fun _ e_ => by cases e_; exact ho58.ge) (h13.wk kw1 hW.ok).ltw) hg3 st3), rfl, ho62, a10b_13b, (Apart.base (fun _ e_ => by cases e_; exact ho58.ge) (h10.wk kw1 hW.ok).ltw).symm, (Apart.base (fun _ e_ => by cases e_; exact ho58.ge) (h13.wk kw1 hW.ok).ltw).symm⟩
    refine Ref.seq (B := G7 w0 F0) ?_ ?_
    · refine Ref.region (fun s ρ w s' h hr => ?_)
      obtain ⟨F, hW, g10, g13, g14, h0, h1, h2, h3, h9, p10, h10, h11, h12, p13, h13, p14, h14, a10b_13b, a10b_14b, a13b_14b⟩ := h
      refine ol_v (e_fa fa_26_0 p14) rfl ?_
      refine ol_v (e_ld ty_3 (LiesV.int ((h14).at_.fld fl_Fault_0)) rfl) rfl ?_
      refine ol_v (e_neq rfl rfl) rfl ?_
      obtain rfl := Option.some.inj hr
      exact ol_nil ⟨F, hW, g10, g13, g14, h0, h1, h2, h3, h9, p10, h10, h11, h12, p13, h13, p14, h14, rfl, a10b_13b, a10b_14b, a13b_14b⟩
    refine Ref.cond (b := fun s => s.t_43) (fun s ρ w ⟨F, hW, g10, g13, g14, h0, h1, h2, h3, h9, p10, h10, h11, h12, p13, h13, p14, h14, h43, a10b_13b, a10b_14b, a13b_14b⟩ => h43) (Ref.pre (A := G8 w0 F0) ?_ (fun s ρ w h => (fun ⟨F, hW, g10, g13, g14, h0, h1, h2, h3, h9, p10, h10, h11, h12, p13, h13, p14, h14, h43, a10b_13b, a10b_14b, a13b_14b⟩ => ⟨F, hW, g10, g13, g14, h9, p10, h10, h11, h12, p13, h13, p14, h14, a10b_13b, a10b_14b, a13b_14b⟩ : G7 w0 F0 s ρ w → G8 w0 F0 s ρ w) h.2)) (Ref.pre (A := G5 w0 F0) ?_ (fun s ρ w h => (fun ⟨F, hW, g10, g13, g14, h0, h1, h2, h3, h9, p10, h10, h11, h12, p13, h13, p14, h14, h43, a10b_13b, a10b_14b, a13b_14b⟩ => ⟨F, hW, g10, g13, h0, h1, h2, h3, h9, p10, h10, h11, h12, p13, h13, a10b_13b⟩ : G7 w0 F0 s ρ w → G5 w0 F0 s ρ w) h.2))
    · refine Ref.seq (B := G3 w0 F0) ?_ ?_
      · refine Ref.region (fun s ρ w s' h hr => ?_)
        obtain ⟨F, hW, g10, g13, g14, h9, p10, h10, h11, h12, p13, h13, p14, h14, a10b_13b, a10b_14b, a13b_14b⟩ := h
        obtain ⟨v63, hl64⟩ := LiesAt.v (h10).at_
        refine ol_v (e_ld ty_26 hl64 p10) rfl ?_
        obtain ⟨v65, hl66⟩ := LiesAt.v (h14).at_
        refine ol_v (e_ld ty_26 hl66 p14) rfl ?_
        refine ol_v (e_teql (eq_Fault_26 hl64.val hl66.val) rfl rfl) rfl ?_
        refine ol_cutA 5 47 51 (fun ρ' w' => w = w' ∧ ρ' 51 = .bool ((decide (s.t_10 = s.t_14)) && (decide (s.t_13 = s.t_14)))) rfl ?_ ?_
        · by_cases hb67 : (decide (s.t_10 = s.t_14)) = true
          · refine ol_v (e_mv _ rfl) rfl ?_
            refine ol_yes rfl rfl (congrArg Value.bool hb67) ?_
            obtain ⟨v69, hl70⟩ := LiesAt.v (h13).at_
            refine ol_v (e_ld ty_26 hl70 p13) rfl ?_
            refine ol_yes rfl rfl (congrArg Value.bool hb67) ?_
            obtain ⟨v71, hl72⟩ := LiesAt.v (h14).at_
            refine ol_v (e_ld ty_26 hl72 p14) rfl ?_
            refine ol_yes rfl rfl (congrArg Value.bool hb67) ?_
            refine ol_v (e_teql (eq_Fault_26 hl70.val hl72.val) rfl rfl) rfl ?_
            refine ol_v (e_pick true _ (congrArg Value.bool hb67) rfl) rfl ?_
            exact ol_nil ⟨⟨rfl, (bv_and_t hb67)⟩, ((((((Agr.refl _ _ _).upd rfl rfl).upd rfl rfl).upd rfl rfl).upd rfl rfl).upd rfl rfl)⟩
          · have hb68 := Bool.eq_false_iff.mpr hb67
            refine ol_v (e_mv _ rfl) rfl ?_
            refine ol_not rfl rfl rfl (congrArg Value.bool hb68) rfl ?_
            refine ol_not rfl rfl rfl (congrArg Value.bool hb68) rfl ?_
            refine ol_not rfl rfl rfl (congrArg Value.bool hb68) rfl ?_
            refine ol_v (e_pick false _ (congrArg Value.bool hb68) rfl) rfl ?_
            exact ol_nil ⟨⟨rfl, (bv_and_f hb68)⟩, ((((((Agr.refl _ _ _).upd rfl rfl).upd rfl rfl).upd rfl rfl).upd rfl rfl).upd rfl rfl)⟩
        rintro ρ73 _ ⟨⟨rfl, hp73⟩, hAg73⟩
        refine ol_cutA 11 52 62 (fun ρ' w' => w = w' ∧ ρ' 62 = .bool (((decide (s.t_10 = s.t_14)) && (decide (s.t_13 = s.t_14))) && (decide ((w64 (w64 ((s.t_9.length : Int) + (s.t_11.length : Int)) + (s.t_12.length : Int))) = (0 : Int))))) rfl ?_ ?_
        · by_cases hb74 : ((decide (s.t_10 = s.t_14)) && (decide (s.t_13 = s.t_14))) = true
          · refine ol_v (e_mv _ hp73) rfl ?_
            refine ol_yes rfl rfl (congrArg Value.bool hb74) ?_
            refine ol_v (e_mv _ (hAg73 9 rfl)) rfl ?_
            refine ol_yes rfl rfl (congrArg Value.bool hb74) ?_
            obtain ⟨A76, c77, e78, hc79, R80⟩ := id h9
            refine ol_v (e_len (SlT.sl sl_23) e78) rfl ?_
            refine ol_yes rfl rfl (congrArg Value.bool hb74) ?_
            refine ol_v (e_mv _ (hAg73 11 rfl)) rfl ?_
            refine ol_yes rfl rfl (congrArg Value.bool hb74) ?_
            obtain ⟨A81, c82, e83, hc84, R85⟩ := id h11
            refine ol_v (e_len (SlT.sl sl_48) e83) rfl ?_
            refine ol_yes rfl rfl (congrArg Value.bool hb74) ?_
            refine ol_v (e_add rfl rfl) rfl ?_
            refine ol_yes rfl rfl (congrArg Value.bool hb74) ?_
            refine ol_v (e_mv _ (hAg73 12 rfl)) rfl ?_
            refine ol_yes rfl rfl (congrArg Value.bool hb74) ?_
            obtain ⟨A86, c87, e88, hc89, R90⟩ := id h12
            refine ol_v (e_len (SlT.sl sl_23) e88) rfl ?_
            refine ol_yes rfl rfl (congrArg Value.bool hb74) ?_
            refine ol_v (e_add rfl rfl) rfl ?_
            refine ol_yes rfl rfl (congrArg Value.bool hb74) ?_
            refine ol_v (e_eql rfl rfl) rfl ?_
            refine ol_v (e_pick true _ (congrArg Value.bool hb74) rfl) rfl ?_
            exact ol_nil ⟨⟨rfl, (bv_and_t hb74)⟩, ((((((((((((Agr.refl _ _ _).upd rfl rfl).upd rfl rfl).upd rfl rfl).upd rfl rfl).upd rfl rfl).upd rfl rfl).upd rfl rfl).upd rfl rfl).upd rfl rfl).upd rfl rfl).upd rfl rfl)⟩
          · have hb75 := Bool.eq_false_iff.mpr hb74
            refine ol_v (e_mv _ hp73) rfl ?_
            refine ol_not rfl rfl rfl (congrArg Value.bool hb75) rfl ?_
            refine ol_not rfl rfl rfl (congrArg Value.bool hb75) rfl ?_
            refine ol_not rfl rfl rfl (congrArg Value.bool hb75) rfl ?_
            refine ol_not rfl rfl rfl (congrArg Value.bool hb75) rfl ?_
            refine ol_not rfl rfl rfl (congrArg Value.bool hb75) rfl ?_
            refine ol_not rfl rfl rfl (congrArg Value.bool hb75) rfl ?_
            refine ol_not rfl rfl rfl (congrArg Value.bool hb75) rfl ?_
            refine ol_not rfl rfl rfl (congrArg Value.bool hb75) rfl ?_
            refine ol_not rfl rfl rfl (congrArg Value.bool hb75) rfl ?_
            refine ol_v (e_pick false _ (congrArg Value.bool hb75) rfl) rfl ?_
            exact ol_nil ⟨⟨rfl, (bv_and_f hb75)⟩, ((((((((((((Agr.refl _ _ _).upd rfl rfl).upd rfl rfl).upd rfl rfl).upd rfl rfl).upd rfl rfl).upd rfl rfl).upd rfl rfl).upd rfl rfl).upd rfl rfl).upd rfl rfl).upd rfl rfl)⟩
        rintro ρ91 _ ⟨⟨rfl, hp91⟩, hAg91⟩
        refine ol_v (e_as _ hp91) rfl ?_
        obtain rfl := Option.some.inj hr
        exact ol_nil ⟨F, hW, rfl⟩
      exact Ref.ret (fun s ρ w h => ⟨s, rfl, h⟩)
    · exact Ref.skip
  refine Ref.seq (B := G9 w0 F0) ?_ ?_
  · refine Ref.region (fun s ρ w s' h hr => ?_)
    obtain ⟨F, hW, g10, g13, h0, h1, h2, h3, h9, p10, h10, h11, h12, p13, h13, a10b_13b⟩ := h
    refine ol_v (e_mv _ rfl) rfl ?_
    refine ol_v (e_mv _ rfl) rfl ?_
    refine ol_v (e_mv _ rfl) rfl ?_
    obtain ⟨x92, hx92, hr⟩ := bind_some' hr
    refine ol_e (f_call [(ρ 0), (ρ 1), (ρ 2)] fn_31 (lcons rfl (lcons rfl (lcons rfl rfl))) (ref4_RoundsOf.calls hW.ok h0 h1 h2 hx92)) rfl rfl ?_
    rintro v95 w93 ⟨Fz94, _, rfl, kw1, hk96⟩
    have hW98 := hW.trans kw1
    have st1 := kw1.stp hW.ok
    obtain ⟨Fz99, hWz100, st2, hF2, hz101⟩ := ((hk96.base (row := nrow) hW.le)).frozen hW98
    refine ol_v (e_as _ rfl) rfl ?_
    obtain rfl := Option.some.inj hr
    exact ol_nil ⟨Fz99, hWz100, g10, g13, (h0.keep (st1.trans st2)), (h2.keep (st1.trans st2)), (h3.keep (st1.trans st2)), (h9.keep (st1.trans st2)), p10, ((h10.wk kw1 hW.ok).frz (apart_bo (h10.wk kw1 hW.ok) (hk96.base (row := nrow) hW.le) rfl).symm hF2 st2), (h11.keep (st1.trans st2)), (h12.keep (st1.trans st2)), p13, ((h13.wk kw1 hW.ok).frz (apart_bo (h13.wk kw1 hW.ok) (hk96.base (row := nrow) hW.le) rfl).symm hF2 st2), hz101, a10b_13b⟩
  refine Ref.seq (B := G11 w0 F0) ?_ ?_
  · refine Ref.seq (B := G10 w0 F0) ?_ ?_
    · refine Ref.region (fun s ρ w s' h hr => ?_)
      obtain ⟨F, hW, g10, g13, h0, h2, h3, h9, p10, h10, h11, h12, p13, h13, h15, a10b_13b⟩ := h
      refine ol_v (e_fa fa_26_0 p10) rfl ?_
      refine ol_v (e_ld ty_3 (LiesV.int ((h10).at_.fld fl_Fault_0)) rfl) rfl ?_
      refine ol_v (e_neq rfl rfl) rfl ?_
      refine ol_cutA 5 70 74 (fun ρ' w' => w = w' ∧ ρ' 74 = .bool ((!decide (s.t_10.Code = (0 : Int))) || (!decide (s.t_13.Code = (0 : Int))))) rfl ?_ ?_
      · by_cases hb102 : (!decide (s.t_10.Code = (0 : Int))) = true
        · refine ol_v (e_mv _ rfl) rfl ?_
          refine ol_not rfl rfl rfl (congrArg Value.bool hb102) rfl ?_
          refine ol_not rfl rfl rfl (congrArg Value.bool hb102) rfl ?_
          refine ol_not rfl rfl rfl (congrArg Value.bool hb102) rfl ?_
          refine ol_v (e_pick true _ (congrArg Value.bool hb102) rfl) rfl ?_
          exact ol_nil ⟨⟨rfl, (bv_or_t hb102)⟩, ((((((Agr.refl _ _ _).upd rfl rfl).upd rfl rfl).upd rfl rfl).upd rfl rfl).upd rfl rfl)⟩
        · have hb103 := Bool.eq_false_iff.mpr hb102
          refine ol_v (e_mv _ rfl) rfl ?_
          refine ol_yes rfl rfl (congrArg Value.bool hb103) ?_
          refine ol_v (e_fa fa_26_0 p13) rfl ?_
          refine ol_yes rfl rfl (congrArg Value.bool hb103) ?_
          refine ol_v (e_ld ty_3 (LiesV.int ((h13).at_.fld fl_Fault_0)) rfl) rfl ?_
          refine ol_yes rfl rfl (congrArg Value.bool hb103) ?_
          refine ol_v (e_neq rfl rfl) rfl ?_
          refine ol_v (e_pick false _ (congrArg Value.bool hb103) rfl) rfl ?_
          exact ol_nil ⟨⟨rfl, (bv_or_f hb103)⟩, ((((((Agr.refl _ _ _).upd rfl rfl).upd rfl rfl).upd rfl rfl).upd rfl rfl).upd rfl rfl)⟩
      rintro ρ104 _ ⟨⟨rfl, hp104⟩, hAg104⟩
      obtain ⟨x121, hx122, hr⟩ := bind_some' hr
      refine ol_cutA 9 75 83 (fun ρ' w' => ∃ F', Wk nrow w F F' w' ∧ ρ' 83 = .bool x121) rfl ?_ ?_
      · by_cases hb105 : ((!decide (s.t_10.Code = (0 : Int))) || (!decide (s.t_13.Code = (0 : Int)))) = true
        · have hr := hx122
          rw [if_pos hb105] at hr
          refine ol_v (e_mv _ hp104) rfl ?_
          refine ol_not rfl rfl rfl (congrArg Value.bool hb105) rfl ?_
          refine ol_not rfl rfl rfl (congrArg Value.bool hb105) rfl ?_
          refine ol_not rfl rfl rfl (congrArg Value.bool hb105) rfl ?_
          refine ol_not rfl rfl rfl (congrArg Value.bool hb105) rfl ?_
          refine ol_not rfl rfl rfl (congrArg Value.bool hb105) rfl ?_
          refine ol_not rfl rfl rfl (congrArg Value.bool hb105) rfl ?_
          refine ol_not rfl rfl rfl (congrArg Value.bool hb105) rfl ?_
          refine ol_v (e_pick true _ (congrArg Value.bool hb105) rfl) rfl ?_
          exact ol_nil ⟨⟨_, Wk.refl hW.ok, (congrArg Value.bool (Option.some.inj hr))⟩, ((((((((((Agr.refl _ _ _).upd rfl rfl).upd rfl rfl).upd rfl rfl).upd rfl rfl).upd rfl rfl).upd rfl rfl).upd rfl rfl).upd rfl rfl).upd rfl rfl)⟩
        · have hb106 := Bool.eq_false_iff.mpr hb105
          have hr := hx122
          rw [if_neg hb105] at hr
          refine ol_v (e_mv _ hp104) rfl ?_
          refine ol_yes rfl rfl (congrArg Value.bool hb106) ?_
          refine ol_v (e_mv _ (hAg104 9 rfl)) rfl ?_
          refine ol_yes rfl rfl (congrArg Value.bool hb106) ?_
          refine ol_v (e_mv _ (hAg104 0 rfl)) rfl ?_
          refine ol_yes rfl rfl (congrArg Value.bool hb106) ?_
          refine ol_v (e_mv _ (hAg104 3 rfl)) rfl ?_
          refine ol_yes rfl rfl (congrArg Value.bool hb106) ?_
          refine ol_v (e_mv _ (hAg104 2 rfl)) rfl ?_
          refine ol_yes rfl rfl (congrArg Value.bool hb106) ?_
          obtain ⟨x107, hx107, hr⟩ := bind_some' hr
          refine ol_e (f_call [(ρ 0), (ρ 3), (ρ 2)] fn_32 (lcons rfl (lcons rfl (lcons rfl rfl))) (ref4_LacksOf.calls hW.ok h0 h3 h2 hx107)) rfl rfl ?_
          rintro v110 w108 ⟨Fz109, _, rfl, kw1, hk111⟩
          have hW113 := hW.trans kw1
          have st1 := kw1.stp hW.ok
          refine ol_yes rfl rfl (congrArg Value.bool hb106) ?_
          obtain ⟨Fl114, okl114, stl114, hFl114, hl114⟩ := OwnV.lent (hk111.base (row := nrow) hW.le) hW113.ok
          obtain ⟨x115, hx115, hr⟩ := bind_some' hr
          refine ol_e (f_call [(ρ 9), v110] fn_17 (lcons rfl (lcons rfl rfl)) (ref3_Ints.calls okl114 ((h9.keep st1).keep stl114) hl114 hx115)) rfl rfl ?_
          rintro _ w116 ⟨Fz117, rfl, kw2⟩
          have ko119 := kw2
          have kw2 := kw2.lend hW113.ok
          have hW120 := hW113.trans kw2
          have st2 := kw2.stp hW113.ok
          refine ol_yes rfl rfl (congrArg Value.bool hb106) ?_
          refine ol_v (e_not_ rfl) rfl ?_
          refine ol_v (e_pick false _ (congrArg Value.bool hb106) rfl) rfl ?_
          exact ol_nil ⟨⟨_, (kw1.trans kw2), (congrArg Value.bool (Option.some.inj hr))⟩, ((((((((((Agr.refl _ _ _).upd rfl rfl).upd rfl rfl).upd rfl rfl).upd rfl rfl).upd rfl rfl).upd rfl rfl).upd rfl rfl).upd rfl rfl).upd rfl rfl)⟩
      rintro ρ122 w123 ⟨⟨Fz124, kw1, hp122⟩, hAg122⟩
      have hW125 := hW.trans kw1
      have st1 := kw1.stp hW.ok
      obtain ⟨x133, hx134, hr⟩ := bind_some' hr
      refine ol_cutA 6 84 89 (fun ρ' w' => ∃ F', Wk nrow w123 Fz124 F' w' ∧ ρ' 89 = .bool x133) rfl ?_ ?_
      · by_cases hb126 : x121 = true
        · have hr := hx134
          rw [if_pos hb126] at hr
          refine ol_v (e_mv _ hp122) rfl ?_
          refine ol_not rfl rfl rfl (congrArg Value.bool hb126) rfl ?_
          refine ol_not rfl rfl rfl (congrArg Value.bool hb126) rfl ?_
          refine ol_not rfl rfl rfl (congrArg Value.bool hb126) rfl ?_
          refine ol_not rfl rfl rfl (congrArg Value.bool hb126) rfl ?_
          refine ol_v (e_pick true _ (congrArg Value.bool hb126) rfl) rfl ?_
          exact ol_nil ⟨⟨_, Wk.refl hW125.ok, (congrArg Value.bool (Option.some.inj hr))⟩, (((((((Agr.refl _ _ _).upd rfl rfl).upd rfl rfl).upd rfl rfl).upd rfl rfl).upd rfl rfl).upd rfl rfl)⟩
        · have hb127 := Bool.eq_false_iff.mpr hb126
          have hr := hx134
          rw [if_neg hb126] at hr
          refine ol_v (e_mv _ hp122) rfl ?_
          refine ol_yes rfl rfl (congrArg Value.bool hb127) ?_
          refine ol_v (e_mv _ ((hAg122 12 rfl).trans (hAg104 12 rfl))) rfl ?_
          refine ol_yes rfl rfl (congrArg Value.bool hb127) ?_
          refine ol_v (e_mv _ ((hAg122 9 rfl).trans (hAg104 9 rfl))) rfl ?_
          refine ol_yes rfl rfl (congrArg Value.bool hb127) ?_
          obtain ⟨x128, hx128, hr⟩ := bind_some' hr
          refine ol_e (f_call [(ρ 12), (ρ 9)] fn_17 (lcons rfl (lcons rfl rfl)) (ref3_Ints.calls hW125.ok (h12.keep st1) (h9.keep st1) hx128)) rfl rfl ?_
          rintro _ w129 ⟨Fz130, rfl, kw2⟩
          have hW132 := hW125.trans kw2
          have st2 := kw2.stp hW125.ok
          refine ol_yes rfl rfl (congrArg Value.bool hb127) ?_
          refine ol_v (e_not_ rfl) rfl ?_
          refine ol_v (e_pick false _ (congrArg Value.bool hb127) rfl) rfl ?_
          exact ol_nil ⟨⟨_, kw2, (congrArg Value.bool (Option.some.inj hr))⟩, (((((((Agr.refl _ _ _).upd rfl rfl).upd rfl rfl).upd rfl rfl).upd rfl rfl).upd rfl rfl).upd rfl rfl)⟩
      rintro ρ134 w135 ⟨⟨Fz136, kw2, hp134⟩, hAg134⟩
      have hW137 := hW125.trans kw2
      have st2 := kw2.stp hW125.ok
      refine ol_cutA 7 90 96 (fun ρ' w' => w135 = w' ∧ ρ' 96 = .bool (x133 || (!decide ((s.t_11.length : Int) = (s.t_15.length : Int))))) rfl ?_ ?_
      · by_cases hb138 : x133 = true
        · refine ol_v (e_mv _ hp134) rfl ?_
          refine ol_not rfl rfl rfl (congrArg Value.bool hb138) rfl ?_
          refine ol_not rfl rfl rfl (congrArg Value.bool hb138) rfl ?_
          refine ol_not rfl rfl rfl (congrArg Value.bool hb138) rfl ?_
          refine ol_not rfl rfl rfl (congrArg Value.bool hb138) rfl ?_
          refine ol_not rfl rfl rfl (congrArg Value.bool hb138) rfl ?_
          refine ol_v (e_pick true _ (congrArg Value.bool hb138) rfl) rfl ?_
          exact ol_nil ⟨⟨rfl, (bv_or_t hb138)⟩, ((((((((Agr.refl _ _ _).upd rfl rfl).upd rfl rfl).upd rfl rfl).upd rfl rfl).upd rfl rfl).upd rfl rfl).upd rfl rfl)⟩
        · have hb139 := Bool.eq_false_iff.mpr hb138
          refine ol_v (e_mv _ hp134) rfl ?_
          refine ol_yes rfl rfl (congrArg Value.bool hb139) ?_
          refine ol_v (e_mv _ ((hAg134 11 rfl).trans ((hAg122 11 rfl).trans (hAg104 11 rfl)))) rfl ?_
          refine ol_yes rfl rfl (congrArg Value.bool hb139) ?_
          obtain ⟨A140, c141, e142, hc143, R144⟩ := id (h11.keep (st1.trans st2))
          refine ol_v (e_len (SlT.sl sl_48) e142) rfl ?_
          refine ol_yes rfl rfl (congrArg Value.bool hb139) ?_
          refine ol_v (e_mv _ ((hAg134 15 rfl).trans ((hAg122 15 rfl).trans (hAg104 15 rfl)))) rfl ?_
          refine ol_yes rfl rfl (congrArg Value.bool hb139) ?_
          obtain ⟨A145, c146, e147, hc148, R149⟩ := id (h15.keep (st1.trans st2))
          refine ol_v (e_len (SlT.sl sl_48) e147) rfl ?_
          refine ol_yes rfl rfl (congrArg Value.bool hb139) ?_
          refine ol_v (e_neq rfl rfl) rfl ?_
          refine ol_v (e_pick false _ (congrArg Value.bool hb139) rfl) rfl ?_
          exact ol_nil ⟨⟨rfl, (bv_or_f hb139)⟩, ((((((((Agr.refl _ _ _).upd rfl rfl).upd rfl rfl).upd rfl rfl).upd rfl rfl).upd rfl rfl).upd rfl rfl).upd rfl rfl)⟩
      rintro ρ150 _ ⟨⟨rfl, hp150⟩, hAg150⟩
      obtain rfl := Option.some.inj hr
      exact ol_nil ⟨Fz136, hW137, (SlR.eqv ((hAg150 11 rfl).trans ((hAg134 11 rfl).trans ((hAg122 11 rfl).trans (hAg104 11 rfl)))) (h11.keep (st1.trans st2))), (SlR.eqv ((hAg150 15 rfl).trans ((hAg134 15 rfl).trans ((hAg122 15 rfl).trans (hAg104 15 rfl)))) (h15.keep (st1.trans st2))), hp150⟩
    refine Ref.cond (b := fun s => s.t_96) (fun s ρ w ⟨F, hW, h11, h15, h96⟩ => h96) (Ref.pre (A := G2 w0 F0) ?_ (fun s ρ w h => (fun ⟨F, hW, h11, h15, h96⟩ => ⟨F, hW⟩ : G10 w0 F0 s ρ w → G2 w0 F0 s ρ w) h.2)) (Ref.pre (A := G11 w0 F0) ?_ (fun s ρ w h => (fun ⟨F, hW, h11, h15, h96⟩ => ⟨F, hW, h11, h15⟩ : G10 w0 F0 s ρ w → G11 w0 F0 s ρ w) h.2))
    · refine Ref.seq (B := G3 w0 F0) ?_ ?_
      · refine Ref.region (fun s ρ w s' h hr => ?_)
        obtain ⟨F, hW⟩ := h
        refine ol_v (e_as _ rfl) rfl ?_
        obtain rfl := Option.some.inj hr
        exact ol_nil ⟨F, hW, rfl⟩
      exact Ref.ret (fun s ρ w h => ⟨s, rfl, h⟩)
    · exact Ref.skip
  refine Ref.seq (B := G2 w0 F0) ?_ ?_
  · refine Ref.seq (B := G12 w0 F0) ?_ ?_
    · refine Ref.region (fun s ρ w s' h hr => ?_)
      obtain ⟨F, hW, h11, h15⟩ := h
      refine ol_v (e_as _ rfl) rfl ?_
      obtain rfl := Option.some.inj hr
      exact ol_nil ⟨F, hW, h11, h15, rfl⟩
    refine Ref.block ?_
    refine Ref.loop ?_
    refine Ref.seq (B := G12 w0 F0) ?_ ?_
    · refine Ref.seq (B := G13 w0 F0) ?_ ?_
      · refine Ref.region (fun s ρ w s' h hr => ?_)
        obtain ⟨F, hW, h11, h15, h16⟩ := h
        refine ol_v (e_mv _ h16) rfl ?_
        refine ol_v (e_mv _ rfl) rfl ?_
        obtain ⟨A151, c152, e153, hc154, R155⟩ := id h11
        refine ol_v (e_len (SlT.sl sl_48) e153) rfl ?_
        refine ol_v (e_lss rfl rfl) rfl ?_
        obtain rfl := Option.some.inj hr
        exact ol_nil ⟨F, hW, h11, h15, h16, rfl⟩
      refine Ref.cond (b := fun s => s.t_100) (fun s ρ w ⟨F, hW, h11, h15, h16, h100⟩ => h100) (Ref.pre (A := G12 w0 F0) ?_ (fun s ρ w h => (fun ⟨F, hW, h11, h15, h16, h100⟩ => ⟨F, hW, h11, h15, h16⟩ : G13 w0 F0 s ρ w → G12 w0 F0 s ρ w) h.2)) (Ref.pre (A := G2 w0 F0) ?_ (fun s ρ w h => (fun ⟨F, hW, h11, h15, h16, h100⟩ => ⟨F, hW⟩ : G13 w0 F0 s ρ w → G2 w0 F0 s ρ w) h.2))
      · exact Ref.skip
      · exact Ref.exit (fun s ρ w h => h)
    refine Ref.seq (B := G12 w0 F0) ?_ ?_
    · refine Ref.block ?_
      refine Ref.seq (B := G14 w0 F0) ?_ ?_
      · refine Ref.regionD 8 (by kernel_rfl) (by kernel_rfl) (fun s ρ w ⟨F, hW, h11, h15, h16⟩ => ⟨F, hW.drewS, h11.keep (sd hW), h15.keep (sd hW), h16⟩) (fun s ρ w s' h hr => ?_)
        obtain ⟨F, hW, h11, h15, h16⟩ := h
        refine ol_v (e_mv _ rfl) rfl ?_
        refine ol_v (e_mv _ h16) rfl ?_
        obtain ⟨x156, hx156, hr⟩ := bind_some' hr
        obtain ⟨A157, c158, e159, hc160, R161⟩ := id h11
        obtain ⟨b162, o163, hA164, L165⟩ := Row.at_ R161 hx156
        refine ol_v (e_ix (SlT.sl sl_48) (SlT.sz sl_48) hA164 hx156 e159 rfl) rfl ?_
        obtain ⟨v166, hl167, hs168⟩ := LiesV.sl L165.at_
        refine ol_v (e_ld ty_23 hl167 rfl) rfl ?_
        refine ol_v (e_mv _ rfl) rfl ?_
        refine ol_v (e_mv _ h16) rfl ?_
        obtain ⟨x169, hx169, hr⟩ := bind_some' hr
        obtain ⟨A170, c171, e172, hc173, R174⟩ := id h15
        obtain ⟨b175, o176, hA177, L178⟩ := Row.at_ R174 hx169
        refine ol_v (e_ix (SlT.sl sl_48) (SlT.sz sl_48) hA177 hx169 e172 rfl) rfl ?_
        obtain ⟨v179, hl180, hs181⟩ := LiesV.sl L178.at_
        refine ol_v (e_ld ty_23 hl180 rfl) rfl ?_
        obtain ⟨x182, hx182, hr⟩ := bind_some' hr
        refine ol_e (f_call [v166, v179] fn_17 (lcons rfl (lcons rfl rfl)) (ref3_Ints.calls hW.ok hs168 hs181 hx182)) rfl rfl ?_
        rintro _ w183 ⟨Fz184, rfl, kw1⟩
        have hW186 := hW.trans kw1
        have st1 := kw1.stp hW.ok
        refine ol_v (e_not_ rfl) rfl ?_
        obtain rfl := Option.some.inj hr
        exact ol_nil ⟨Fz184, hW186, (h11.keep st1), (h15.keep st1), h16, rfl⟩
      refine Ref.cond (b := fun s => s.t_112) (fun s ρ w ⟨F, hW, h11, h15, h16, h112⟩ => h112) (Ref.pre (A := G2 w0 F0) ?_ (fun s ρ w h => (fun ⟨F, hW, h11, h15, h16, h112⟩ => ⟨F, hW⟩ : G14 w0 F0 s ρ w → G2 w0 F0 s ρ w) h.2)) (Ref.pre (A := G12 w0 F0) ?_ (fun s ρ w h => (fun ⟨F, hW, h11, h15, h16, h112⟩ => ⟨F, hW, h11, h15, h16⟩ : G14 w0 F0 s ρ w → G12 w0 F0 s ρ w) h.2))
      · refine Ref.seq (B := G3 w0 F0) ?_ ?_
        · refine Ref.region (fun s ρ w s' h hr => ?_)
          obtain ⟨F, hW⟩ := h
          refine ol_v (e_as _ rfl) rfl ?_
          obtain rfl := Option.some.inj hr
          exact ol_nil ⟨F, hW, rfl⟩
        exact Ref.ret (fun s ρ w h => ⟨s, rfl, h⟩)
      · exact Ref.skip
    refine Ref.region (fun s ρ w s' h hr => ?_)
    obtain ⟨F, hW, h11, h15, h16⟩ := h
    refine ol_v (e_mv _ h16) rfl ?_
    refine ol_v (e_add rfl rfl) rfl ?_
    refine ol_v (e_as _ rfl) rfl ?_
    obtain rfl := Option.some.inj hr
    exact ol_nil ⟨F, hW, h11, h15, rfl⟩
  refine Ref.seq (B := G3 w0 F0) ?_ ?_
  · refine Ref.region (fun s ρ w s' h hr => ?_)
    obtain ⟨F, hW⟩ := h
    refine ol_v (e_as _ rfl) rfl ?_
    obtain rfl := Option.some.inj hr
    exact ol_nil ⟨F, hW, rfl⟩
  exact Ref.ret (fun s ρ w h => ⟨s, rfl, h⟩)
def post (w : World) (F : BSet) (r : R) (v : Value) (w' : World) : Prop := ∃ (F' : BSet), v = .bool r ∧ Wk nrow w F F' w'
theorem calls {w : World} {F : BSet} (hok : ∀ b, F b → b < w.heap.size) {v0 : Value} {a0 : (List Commit)} (h0 : SlR k_Commit F w v0 a0) {v1 : Value} {a1 : (List Bool)} (h1 : SlR kBool F w v1 a1) {v2 : Value} {a2 : (List Bool)} (h2 : SlR kBool F w v2 a2) {v3 : Value} {a3 : (List Int)} (h3 : SlR (kInt .i64) F w v3 a3) {r : R} (hf : f a0 a1 a2 a3 = some r) : Calls Try.prog 8 #[v0, v1, v2, v3] w fun e w' => ∃ v, e = .returned v ∧ post w F r v w' := by
  obtain ⟨c, hc, href⟩ := ref w F
  refine calls_of_ref (args := [v0, v1, v2, v3]) _ Try.func8 hc rfl rfl href ?_ (retOf_some hf) ?_
  · exact ⟨F, Wk.refl hok, h0, h1, h2, h3⟩
  · rintro ρ w' a ⟨s, rfl, F', hW, h8⟩ hF
    refine ⟨_, run_results (rs := [.tmp 8]) rfl hF (vs := [ρ 8]) (⟨_, rfl, rfl⟩), ?_⟩
    have hv : resVal [ρ 8] = .bool s.t_8 := by rw [h8]; rfl
    exact ⟨F', hv, hW⟩
end
end law4_NegotiateMatchesSpec

end Go.Proofs.Ytilodamhgepjoaa
