/- The machine's calls come to these plain functions (written by a program, wip/fx/gen.py). -/
import Derived.Test.YtilodamhgepjoaaPA
import Derived.Test.YtilodamhgepjoaaNm
import Derived.Test.YtilodamhgepjoaaM0
import Derived.Test.YtilodamhgepjoaaIt
namespace Go.Proofs.Ytilodamhgepjoaa
open Go.Fx Go.RowKit
set_option linter.unusedVariables false

namespace negotiate_closed
section
def G0 (w0 : World) (F0 : BSet) (s : S) (ρ : Env) (w : World) : Prop := ∃ (F : BSet), Wk nrow w0 F0 F w ∧ SlR k_Commit F w (ρ 0) s.commits_0 ∧ SlR kBool F w (ρ 1) s.in_1
def G1 (w0 : World) (F0 : BSet) (s : S) (ρ : Env) (w : World) : Prop := ∃ (F : BSet), Wk nrow w0 F0 F w ∧ SlR kBool F w (ρ 1) s.in_1 ∧ SlR k_Commit F w (ρ 9) s.t_9 ∧ ρ 10 = .int .i64 s.t_10 ∧ ρ 11 = .int .i64 s.t_11
def G2 (w0 : World) (F0 : BSet) (s : S) (ρ : Env) (w : World) : Prop := ∃ (F : BSet), Wk nrow w0 F0 F w ∧ SlR kBool F w (ρ 1) s.in_1 ∧ SlR k_Commit F w (ρ 9) s.t_9 ∧ ρ 10 = .int .i64 s.t_10 ∧ ρ 11 = .int .i64 s.t_11 ∧ ρ 12 = .bool s.t_12
def G3 (w0 : World) (F0 : BSet) (s : S) (ρ : Env) (w : World) : Prop := ∃ (F : BSet), Wk nrow w0 F0 F w
def G4 (w0 : World) (F0 : BSet) (s : S) (ρ : Env) (w : World) : Prop := ∃ (F : BSet), Wk nrow w0 F0 F w ∧ ∃ (g6 : Nat), SlR kBool F w (ρ 1) s.in_1 ∧ ρ 5 = .int .i64 s.i_5 ∧ ρ 6 = .pointer (some ⟨g6, 0, none⟩) ∧ Box k_Commit 56 (Bs w0 nrow) F w g6 s.c_6 ∧ SlR k_Commit F w (ρ 9) s.t_9 ∧ ρ 10 = .int .i64 s.t_10 ∧ ρ 11 = .int .i64 s.t_11
def G5 (w0 : World) (F0 : BSet) (s : S) (ρ : Env) (w : World) : Prop := ∃ (F : BSet), Wk nrow w0 F0 F w ∧ SlR kBool F w (ρ 1) s.in_1 ∧ ρ 5 = .int .i64 s.i_5 ∧ SlR k_Commit F w (ρ 9) s.t_9 ∧ ρ 10 = .int .i64 s.t_10 ∧ ρ 11 = .int .i64 s.t_11 ∧ SlR (kInt .i64) F w (ρ 17) s.t_17 ∧ ρ 18 = .int .i64 s.t_18 ∧ ρ 19 = .int .i64 s.t_19
def G6 (w0 : World) (F0 : BSet) (s : S) (ρ : Env) (w : World) : Prop := ∃ (F : BSet), Wk nrow w0 F0 F w ∧ SlR kBool F w (ρ 1) s.in_1 ∧ ρ 5 = .int .i64 s.i_5 ∧ SlR k_Commit F w (ρ 9) s.t_9 ∧ ρ 10 = .int .i64 s.t_10 ∧ ρ 11 = .int .i64 s.t_11 ∧ SlR (kInt .i64) F w (ρ 17) s.t_17 ∧ ρ 18 = .int .i64 s.t_18 ∧ ρ 19 = .int .i64 s.t_19 ∧ ρ 20 = .bool s.t_20
def G7 (w0 : World) (F0 : BSet) (s : S) (ρ : Env) (w : World) : Prop := ∃ (F : BSet), Wk nrow w0 F0 F w ∧ SlR kBool F w (ρ 1) s.in_1 ∧ ρ 5 = .int .i64 s.i_5 ∧ ρ 8 = .int .i64 s.p_8 ∧ SlR k_Commit F w (ρ 9) s.t_9 ∧ ρ 10 = .int .i64 s.t_10 ∧ ρ 11 = .int .i64 s.t_11 ∧ SlR (kInt .i64) F w (ρ 17) s.t_17 ∧ ρ 18 = .int .i64 s.t_18 ∧ ρ 19 = .int .i64 s.t_19
def G8 (w0 : World) (F0 : BSet) (s : S) (ρ : Env) (w : World) : Prop := ∃ (F : BSet), Wk nrow w0 F0 F w ∧ SlR kBool F w (ρ 1) s.in_1 ∧ ρ 5 = .int .i64 s.i_5 ∧ SlR k_Commit F w (ρ 9) s.t_9 ∧ ρ 10 = .int .i64 s.t_10 ∧ ρ 11 = .int .i64 s.t_11 ∧ SlR (kInt .i64) F w (ρ 17) s.t_17 ∧ ρ 18 = .int .i64 s.t_18 ∧ ρ 19 = .int .i64 s.t_19 ∧ ρ 33 = .bool s.t_33
def G9 (w0 : World) (F0 : BSet) (s : S) (ρ : Env) (w : World) : Prop := ∃ (F : BSet), Wk nrow w0 F0 F w ∧ ρ 5 = .int .i64 s.i_5
def G10 (w0 : World) (F0 : BSet) (s : S) (ρ : Env) (w : World) : Prop := ∃ (F : BSet), Wk nrow w0 F0 F w ∧ ρ 4 = .int .i64 s.t_4
set_option maxHeartbeats 4000000 in
set_option maxRecDepth 20000 in
theorem ref (w0 : World) (F0 : BSet) : ∃ c, Try.f50.body = some c ∧ Ref Try.prog 37 c (G0 w0 F0) body (fun _ _ _ => False) (fun _ _ _ _ => False) (fun r ρ w => ∃ s, retv s = r ∧ G10 w0 F0 s ρ w) := by
  refine ⟨_, rfl, ?_⟩
  unfold body
  refine Ref.seq (B := G0 w0 F0) ?_ ?_
  · refine Ref.region (fun s ρ w s' h hr => ?_)
    obtain ⟨F, hW, h0, h1⟩ := h
    refine ol_v (e_as _ rfl) rfl ?_
    obtain rfl := Option.some.inj hr
    exact ol_nil ⟨F, hW, h0, h1⟩
  refine Ref.seq (B := G3 w0 F0) ?_ ?_
  · refine Ref.seq (B := G1 w0 F0) ?_ ?_
    · refine Ref.region (fun s ρ w s' h hr => ?_)
      obtain ⟨F, hW, h0, h1⟩ := h
      refine ol_v (e_mv _ rfl) rfl ?_
      obtain ⟨A1, c2, e3, hc4, R5⟩ := id h0
      refine ol_v (e_len (SlT.sl sl_22) e3) rfl ?_
      refine ol_v (e_mv _ rfl) rfl ?_
      obtain rfl := Option.some.inj hr
      exact ol_nil ⟨F, hW, h1, h0, rfl, rfl⟩
    refine Ref.block ?_
    refine Ref.loop ?_
    refine Ref.seq (B := G2 w0 F0) ?_ ?_
    · refine Ref.region (fun s ρ w s' h hr => ?_)
      obtain ⟨F, hW, h1, h9, h10, h11⟩ := h
      refine ol_v (e_lss h11 h10) rfl ?_
      obtain rfl := Option.some.inj hr
      exact ol_nil ⟨F, hW, h1, h9, h10, h11, rfl⟩
    refine Ref.seq (B := G1 w0 F0) ?_ ?_
    · refine Ref.cond (b := fun s => s.t_12) (fun s ρ w ⟨F, hW, h1, h9, h10, h11, h12⟩ => h12) (Ref.pre (A := G1 w0 F0) ?_ (fun s ρ w h => (fun ⟨F, hW, h1, h9, h10, h11, h12⟩ => ⟨F, hW, h1, h9, h10, h11⟩ : G2 w0 F0 s ρ w → G1 w0 F0 s ρ w) h.2)) (Ref.pre (A := G3 w0 F0) ?_ (fun s ρ w h => (fun ⟨F, hW, h1, h9, h10, h11, h12⟩ => ⟨F, hW⟩ : G2 w0 F0 s ρ w → G3 w0 F0 s ρ w) h.2))
      · exact Ref.skip
      · exact Ref.exit (fun s ρ w h => h)
    refine Ref.seq (B := G1 w0 F0) ?_ ?_
    · refine Ref.block ?_
      refine Ref.seq (B := G4 w0 F0) ?_ ?_
      · refine Ref.region (fun s ρ w s' h hr => ?_)
        obtain ⟨F, hW, h1, h9, h10, h11⟩ := h
        refine ol_v (e_mv _ h11) rfl ?_
        obtain ⟨x6, hx6, hr⟩ := bind_some' hr
        obtain ⟨A7, c8, e9, hc10, R11⟩ := id h9
        obtain ⟨b12, o13, hA14, L15⟩ := Row.at_ R11 hx6
        refine ol_v (e_ix (SlT.sl sl_22) (SlT.sz sl_22) hA14 hx6 e9 h11) rfl ?_
        obtain ⟨v16, hl17⟩ := LiesAt.v L15.at_
        refine ol_v (e_ld ty_56 hl17 rfl) rfl ?_
        refine ol_e (f_alloc zer_56 hW) rfl rfl ?_
        rintro _ w19 ⟨g18, rfl, kw1, ho20⟩
        have hW21 := hW.trans kw1
        have st1 := kw1.stp hW.ok
        refine ol_v (e_as _ rfl) rfl ?_
        refine ol_eN (f_stB hW21 (ho20.base (row := nrow) hW.le) (FldS.whole _) ty_56 (hl17.val.keep st1) rfl rfl) rfl ?_
        rintro - w22 ⟨hW23, ho24, hg2, st2⟩
        obtain rfl := Option.some.inj hr
        exact ol_nil ⟨F, hW23, g18, (h1.keep (st1.trans st2)), rfl, rfl, ho24, (h9.keep (st1.trans st2)), h10, h11⟩
      refine Ref.seq (B := G5 w0 F0) ?_ ?_
      · refine Ref.region (fun s ρ w s' h hr => ?_)
        obtain ⟨F, hW, g6, h1, h5, p6, h6, h9, h10, h11⟩ := h
        refine ol_v (e_fa fa_56_0 p6) rfl ?_
        obtain ⟨v25, hl26, hs27⟩ := LiesV.sl ((h6).at_.fld fl_Commit_0)
        refine ol_v (e_ld ty_23 hl26 rfl) rfl ?_
        obtain ⟨A28, c29, e30, hc31, R32⟩ := id hs27
        refine ol_v (e_len (SlT.sl sl_23) e30) rfl ?_
        refine ol_v (e_mv _ rfl) rfl ?_
        obtain rfl := Option.some.inj hr
        exact ol_nil ⟨F, hW, h1, h5, h9, h10, h11, hs27, rfl, rfl⟩
      refine Ref.block ?_
      refine Ref.loop ?_
      refine Ref.seq (B := G6 w0 F0) ?_ ?_
      · refine Ref.region (fun s ρ w s' h hr => ?_)
        obtain ⟨F, hW, h1, h5, h9, h10, h11, h17, h18, h19⟩ := h
        refine ol_v (e_lss h19 h18) rfl ?_
        obtain rfl := Option.some.inj hr
        exact ol_nil ⟨F, hW, h1, h5, h9, h10, h11, h17, h18, h19, rfl⟩
      refine Ref.seq (B := G5 w0 F0) ?_ ?_
      · refine Ref.cond (b := fun s => s.t_20) (fun s ρ w ⟨F, hW, h1, h5, h9, h10, h11, h17, h18, h19, h20⟩ => h20) (Ref.pre (A := G5 w0 F0) ?_ (fun s ρ w h => (fun ⟨F, hW, h1, h5, h9, h10, h11, h17, h18, h19, h20⟩ => ⟨F, hW, h1, h5, h9, h10, h11, h17, h18, h19⟩ : G6 w0 F0 s ρ w → G5 w0 F0 s ρ w) h.2)) (Ref.pre (A := G1 w0 F0) ?_ (fun s ρ w h => (fun ⟨F, hW, h1, h5, h9, h10, h11, h17, h18, h19, h20⟩ => ⟨F, hW, h1, h9, h10, h11⟩ : G6 w0 F0 s ρ w → G1 w0 F0 s ρ w) h.2))
        · exact Ref.skip
        · exact Ref.exit (fun s ρ w h => h)
      refine Ref.seq (B := G5 w0 F0) ?_ ?_
      · refine Ref.block ?_
        refine Ref.seq (B := G7 w0 F0) ?_ ?_
        · refine Ref.region (fun s ρ w s' h hr => ?_)
          obtain ⟨F, hW, h1, h5, h9, h10, h11, h17, h18, h19⟩ := h
          obtain ⟨x33, hx33, hr⟩ := bind_some' hr
          obtain ⟨A34, c35, e36, hc37, R38⟩ := id h17
          obtain ⟨b39, o40, hA41, L42⟩ := Row.at_ R38 hx33
          refine ol_v (e_ix (SlT.sl sl_23) (SlT.sz sl_23) hA41 hx33 e36 h19) rfl ?_
          refine ol_v (e_ld ty_3 (LiesV.int L42.at_) rfl) rfl ?_
          refine ol_v (e_as _ rfl) rfl ?_
          obtain rfl := Option.some.inj hr
          exact ol_nil ⟨F, hW, h1, h5, rfl, h9, h10, h11, h17, h18, h19⟩
        refine Ref.seq (B := G8 w0 F0) ?_ ?_
        · refine Ref.region (fun s ρ w s' h hr => ?_)
          obtain ⟨F, hW, h1, h5, h8, h9, h10, h11, h17, h18, h19⟩ := h
          refine ol_v (e_mv _ rfl) rfl ?_
          refine ol_v (e_mv _ h5) rfl ?_
          obtain ⟨x43, hx43, hr⟩ := bind_some' hr
          obtain ⟨A44, c45, e46, hc47, R48⟩ := id h1
          obtain ⟨b49, o50, hA51, L52⟩ := Row.at_ R48 hx43
          refine ol_v (e_ix (SlT.sl sl_46) (SlT.sz sl_46) hA51 hx43 e46 rfl) rfl ?_
          refine ol_v (e_ld ty_4 (LiesV.bool L52.at_) rfl) rfl ?_
          obtain ⟨x65, hx66, hr⟩ := bind_some' hr
          refine ol_cutA 7 27 33 (fun ρ' w' => w = w' ∧ ρ' 33 = .bool x65) rfl ?_ ?_
          · by_cases hb53 : x43 = true
            · have hr := hx66
              rw [if_pos hb53] at hr
              refine ol_v (e_mv _ rfl) rfl ?_
              refine ol_yes rfl rfl (congrArg Value.bool hb53) ?_
              refine ol_v (e_mv _ rfl) rfl ?_
              refine ol_yes rfl rfl (congrArg Value.bool hb53) ?_
              refine ol_v (e_mv _ h8) rfl ?_
              refine ol_yes rfl rfl (congrArg Value.bool hb53) ?_
              obtain ⟨x55, hx55, hr⟩ := bind_some' hr
              obtain ⟨A56, c57, e58, hc59, R60⟩ := id h1
              obtain ⟨b61, o62, hA63, L64⟩ := Row.at_ R60 hx55
              refine ol_v (e_ix (SlT.sl sl_46) (SlT.sz sl_46) hA63 hx55 e58 rfl) rfl ?_
              refine ol_yes rfl rfl (congrArg Value.bool hb53) ?_
              refine ol_v (e_ld ty_4 (LiesV.bool L64.at_) rfl) rfl ?_
              refine ol_yes rfl rfl (congrArg Value.bool hb53) ?_
              refine ol_v (e_not_ rfl) rfl ?_
              refine ol_v (e_pick true _ (congrArg Value.bool hb53) rfl) rfl ?_
              exact ol_nil ⟨⟨rfl, (congrArg Value.bool (Option.some.inj hr))⟩, ((((((((Agr.refl _ _ _).upd rfl rfl).upd rfl rfl).upd rfl rfl).upd rfl rfl).upd rfl rfl).upd rfl rfl).upd rfl rfl)⟩
            · have hb54 := Bool.eq_false_iff.mpr hb53
              have hr := hx66
              rw [if_neg hb53] at hr
              refine ol_v (e_mv _ rfl) rfl ?_
              refine ol_not rfl rfl rfl (congrArg Value.bool hb54) rfl ?_
              refine ol_not rfl rfl rfl (congrArg Value.bool hb54) rfl ?_
              refine ol_not rfl rfl rfl (congrArg Value.bool hb54) rfl ?_
              refine ol_not rfl rfl rfl (congrArg Value.bool hb54) rfl ?_
              refine ol_not rfl rfl rfl (congrArg Value.bool hb54) rfl ?_
              refine ol_v (e_pick false _ (congrArg Value.bool hb54) rfl) rfl ?_
              exact ol_nil ⟨⟨rfl, (congrArg Value.bool (Option.some.inj hr))⟩, ((((((((Agr.refl _ _ _).upd rfl rfl).upd rfl rfl).upd rfl rfl).upd rfl rfl).upd rfl rfl).upd rfl rfl).upd rfl rfl)⟩
          rintro ρ66 _ ⟨⟨rfl, hp66⟩, hAg66⟩
          obtain rfl := Option.some.inj hr
          exact ol_nil ⟨F, hW, (SlR.eqv (hAg66 1 rfl) h1), ((hAg66 5 rfl).trans h5), (SlR.eqv (hAg66 9 rfl) h9), ((hAg66 10 rfl).trans h10), ((hAg66 11 rfl).trans h11), (SlR.eqv (hAg66 17 rfl) h17), ((hAg66 18 rfl).trans h18), ((hAg66 19 rfl).trans h19), hp66⟩
        refine Ref.cond (b := fun s => s.t_33) (fun s ρ w ⟨F, hW, h1, h5, h9, h10, h11, h17, h18, h19, h33⟩ => h33) (Ref.pre (A := G9 w0 F0) ?_ (fun s ρ w h => (fun ⟨F, hW, h1, h5, h9, h10, h11, h17, h18, h19, h33⟩ => ⟨F, hW, h5⟩ : G8 w0 F0 s ρ w → G9 w0 F0 s ρ w) h.2)) (Ref.pre (A := G5 w0 F0) ?_ (fun s ρ w h => (fun ⟨F, hW, h1, h5, h9, h10, h11, h17, h18, h19, h33⟩ => ⟨F, hW, h1, h5, h9, h10, h11, h17, h18, h19⟩ : G8 w0 F0 s ρ w → G5 w0 F0 s ρ w) h.2))
        · refine Ref.seq (B := G10 w0 F0) ?_ ?_
          · refine Ref.region (fun s ρ w s' h hr => ?_)
            obtain ⟨F, hW, h5⟩ := h
            refine ol_v (e_mv _ h5) rfl ?_
            refine ol_v (e_as _ rfl) rfl ?_
            obtain rfl := Option.some.inj hr
            exact ol_nil ⟨F, hW, rfl⟩
          exact Ref.ret (fun s ρ w h => ⟨s, rfl, h⟩)
        · exact Ref.skip
      refine Ref.region (fun s ρ w s' h hr => ?_)
      obtain ⟨F, hW, h1, h5, h9, h10, h11, h17, h18, h19⟩ := h
      refine ol_v (e_add h19 rfl) rfl ?_
      refine ol_v (e_mv _ rfl) rfl ?_
      obtain rfl := Option.some.inj hr
      exact ol_nil ⟨F, hW, h1, h5, h9, h10, h11, h17, h18, rfl⟩
    refine Ref.region (fun s ρ w s' h hr => ?_)
    obtain ⟨F, hW, h1, h9, h10, h11⟩ := h
    refine ol_v (e_add h11 rfl) rfl ?_
    refine ol_v (e_mv _ rfl) rfl ?_
    obtain rfl := Option.some.inj hr
    exact ol_nil ⟨F, hW, h1, h9, h10, rfl⟩
  refine Ref.seq (B := G10 w0 F0) ?_ ?_
  · refine Ref.region (fun s ρ w s' h hr => ?_)
    obtain ⟨F, hW⟩ := h
    refine ol_v (e_as _ rfl) rfl ?_
    obtain rfl := Option.some.inj hr
    exact ol_nil ⟨F, hW, rfl⟩
  exact Ref.ret (fun s ρ w h => ⟨s, rfl, h⟩)
def post (w : World) (F : BSet) (r : R) (v : Value) (w' : World) : Prop := ∃ (F' : BSet), v = .int .i64 r ∧ Wk nrow w F F' w'
theorem calls {w : World} {F : BSet} (hok : ∀ b, F b → b < w.heap.size) {v0 : Value} {a0 : (List Commit)} (h0 : SlR k_Commit F w v0 a0) {v1 : Value} {a1 : (List Bool)} (h1 : SlR kBool F w v1 a1) {r : R} (hf : f a0 a1 = some r) : Calls Try.prog 50 #[v0, v1] w fun e w' => ∃ v, e = .returned v ∧ post w F r v w' := by
  obtain ⟨c, hc, href⟩ := ref w F
  refine calls_of_ref (args := [v0, v1]) _ Try.func50 hc rfl rfl href ?_ (retOf_some hf) ?_
  · exact ⟨F, Wk.refl hok, h0, h1⟩
  · rintro ρ w' a ⟨s, rfl, F', hW, h4⟩ hF
    refine ⟨_, run_results (rs := [.tmp 4]) rfl hF (vs := [ρ 4]) (⟨_, rfl, rfl⟩), ?_⟩
    have hv : resVal [ρ 4] = .int .i64 s.t_4 := by rw [h4]; rfl
    exact ⟨F', hv, hW⟩
end
end negotiate_closed

namespace negotiate_check
section
def G0 (w0 : World) (F0 : BSet) (s : S) (ρ : Env) (w : World) : Prop := ∃ (F : BSet), Wk nrow w0 F0 F w ∧ SlR k_Commit F w (ρ 0) s.t_0 ∧ SlR kBool F w (ρ 1) s.t_1 ∧ SlR kBool F w (ρ 2) s.t_2 ∧ SlR (kInt .i64) F w (ρ 3) s.t_3
def G1 (w0 : World) (F0 : BSet) (s : S) (ρ : Env) (w : World) : Prop := ∃ (F : BSet), Wk nrow w0 F0 F w ∧ ∃ (g8 : Nat), SlR k_Commit F w (ρ 0) s.t_0 ∧ SlR kBool F w (ρ 1) s.t_1 ∧ SlR kBool F w (ρ 2) s.t_2 ∧ SlR (kInt .i64) F w (ρ 3) s.t_3 ∧ ρ 8 = .pointer (some ⟨g8, 0, none⟩) ∧ Box k_Fault 26 (Bs w0 nrow) F w g8 s.t_8
def G2 (w0 : World) (F0 : BSet) (s : S) (ρ : Env) (w : World) : Prop := ∃ (F : BSet), Wk nrow w0 F0 F w ∧ ∃ (g8 : Nat) (g9 : Nat), SlR k_Commit F w (ρ 0) s.t_0 ∧ SlR kBool F w (ρ 1) s.t_1 ∧ SlR kBool F w (ρ 2) s.t_2 ∧ SlR (kInt .i64) F w (ρ 3) s.t_3 ∧ ρ 8 = .pointer (some ⟨g8, 0, none⟩) ∧ Box k_Fault 26 (Bs w0 nrow) F w g8 s.t_8 ∧ ρ 9 = .pointer (some ⟨g9, 0, none⟩) ∧ Box k_Fault 26 (Bs w0 nrow) F w g9 s.t_9 ∧ Apart (some g8) (some g9)
def G3 (w0 : World) (F0 : BSet) (s : S) (ρ : Env) (w : World) : Prop := ∃ (F : BSet), Wk nrow w0 F0 F w ∧ ∃ (g8 : Nat) (g9 : Nat), SlR k_Commit F w (ρ 0) s.t_0 ∧ SlR kBool F w (ρ 1) s.t_1 ∧ SlR kBool F w (ρ 2) s.t_2 ∧ SlR (kInt .i64) F w (ρ 3) s.t_3 ∧ ρ 8 = .pointer (some ⟨g8, 0, none⟩) ∧ Box k_Fault 26 (Bs w0 nrow) F w g8 s.t_8 ∧ ρ 9 = .pointer (some ⟨g9, 0, none⟩) ∧ Box k_Fault 26 (Bs w0 nrow) F w g9 s.t_9 ∧ ρ 18 = .bool s.t_18 ∧ Apart (some g8) (some g9)
def G4 (w0 : World) (F0 : BSet) (s : S) (ρ : Env) (w : World) : Prop := ∃ (F : BSet), Wk nrow w0 F0 F w ∧ ∃ (g8 : Nat) (g9 : Nat), ρ 8 = .pointer (some ⟨g8, 0, none⟩) ∧ Box k_Fault 26 (Bs w0 nrow) F w g8 s.t_8 ∧ ρ 9 = .pointer (some ⟨g9, 0, none⟩) ∧ Box k_Fault 26 (Bs w0 nrow) F w g9 s.t_9 ∧ Apart (some g8) (some g9)
def G5 (w0 : World) (F0 : BSet) (s : S) (ρ : Env) (w : World) : Prop := ∃ (F : BSet), Wk nrow w0 F0 F w ∧ ∃ (g8 : Nat), ρ 8 = .pointer (some ⟨g8, 0, none⟩) ∧ Box k_Fault 26 (Bs w0 nrow) F w g8 s.t_8
def G6 (w0 : World) (F0 : BSet) (s : S) (ρ : Env) (w : World) : Prop := ∃ (F : BSet), Wk nrow w0 F0 F w ∧ ∃ (g8 : Nat), SlR k_Commit F w (ρ 0) s.t_0 ∧ SlR kBool F w (ρ 1) s.t_1 ∧ SlR kBool F w (ρ 2) s.t_2 ∧ SlR (kInt .i64) F w (ρ 3) s.t_3 ∧ ρ 8 = .pointer (some ⟨g8, 0, none⟩) ∧ Box k_Fault 26 (Bs w0 nrow) F w g8 s.t_8 ∧ ρ 24 = .bool s.t_24
def G7 (w0 : World) (F0 : BSet) (s : S) (ρ : Env) (w : World) : Prop := ∃ (F : BSet), Wk nrow w0 F0 F w ∧ ∃ (g8 : Nat), SlR k_Commit F w (ρ 0) s.t_0 ∧ SlR kBool F w (ρ 1) s.t_1 ∧ SlR kBool F w (ρ 2) s.t_2 ∧ SlR (kInt .i64) F w (ρ 3) s.t_3 ∧ ρ 8 = .pointer (some ⟨g8, 0, none⟩) ∧ Box k_Fault 26 (Bs w0 nrow) F w g8 s.t_8 ∧ ρ 30 = .bool s.t_30
def G8 (w0 : World) (F0 : BSet) (s : S) (ρ : Env) (w : World) : Prop := ∃ (F : BSet), Wk nrow w0 F0 F w ∧ ∃ (g8 : Nat), SlR k_Commit F w (ρ 0) s.t_0 ∧ SlR kBool F w (ρ 1) s.t_1 ∧ SlR kBool F w (ρ 2) s.t_2 ∧ SlR (kInt .i64) F w (ρ 3) s.t_3 ∧ ρ 8 = .pointer (some ⟨g8, 0, none⟩) ∧ Box k_Fault 26 (Bs w0 nrow) F w g8 s.t_8 ∧ ρ 10 = .int .i64 s.t_10
def G9 (w0 : World) (F0 : BSet) (s : S) (ρ : Env) (w : World) : Prop := ∃ (F : BSet), Wk nrow w0 F0 F w ∧ ∃ (g8 : Nat), SlR k_Commit F w (ρ 0) s.t_0 ∧ SlR kBool F w (ρ 1) s.t_1 ∧ SlR kBool F w (ρ 2) s.t_2 ∧ SlR (kInt .i64) F w (ρ 3) s.t_3 ∧ ρ 8 = .pointer (some ⟨g8, 0, none⟩) ∧ Box k_Fault 26 (Bs w0 nrow) F w g8 s.t_8 ∧ ρ 10 = .int .i64 s.t_10 ∧ ρ 36 = .bool s.t_36
def G10 (w0 : World) (F0 : BSet) (s : S) (ρ : Env) (w : World) : Prop := ∃ (F : BSet), Wk nrow w0 F0 F w ∧ ∃ (g8 : Nat), ρ 8 = .pointer (some ⟨g8, 0, none⟩) ∧ Box k_Fault 26 (Bs w0 nrow) F w g8 s.t_8 ∧ ρ 10 = .int .i64 s.t_10
def G11 (w0 : World) (F0 : BSet) (s : S) (ρ : Env) (w : World) : Prop := ∃ (F : BSet), Wk nrow w0 F0 F w ∧ ∃ (g8 : Nat), SlR k_Commit F w (ρ 0) s.t_0 ∧ SlR kBool F w (ρ 1) s.t_1 ∧ SlR (kInt .i64) F w (ρ 3) s.t_3 ∧ ρ 8 = .pointer (some ⟨g8, 0, none⟩) ∧ Box k_Fault 26 (Bs w0 nrow) F w g8 s.t_8 ∧ ρ 11 = .int .i64 s.t_11
def G12 (w0 : World) (F0 : BSet) (s : S) (ρ : Env) (w : World) : Prop := ∃ (F : BSet), Wk nrow w0 F0 F w ∧ ∃ (g8 : Nat), SlR k_Commit F w (ρ 0) s.t_0 ∧ SlR kBool F w (ρ 1) s.t_1 ∧ SlR (kInt .i64) F w (ρ 3) s.t_3 ∧ ρ 8 = .pointer (some ⟨g8, 0, none⟩) ∧ Box k_Fault 26 (Bs w0 nrow) F w g8 s.t_8 ∧ ρ 11 = .int .i64 s.t_11 ∧ ρ 43 = .bool s.t_43
def G13 (w0 : World) (F0 : BSet) (s : S) (ρ : Env) (w : World) : Prop := ∃ (F : BSet), Wk nrow w0 F0 F w ∧ ∃ (g8 : Nat), ρ 8 = .pointer (some ⟨g8, 0, none⟩) ∧ Box k_Fault 26 (Bs w0 nrow) F w g8 s.t_8 ∧ ρ 11 = .int .i64 s.t_11
def G14 (w0 : World) (F0 : BSet) (s : S) (ρ : Env) (w : World) : Prop := ∃ (F : BSet), Wk nrow w0 F0 F w ∧ ∃ (g8 : Nat), SlR k_Commit F w (ρ 0) s.t_0 ∧ SlR kBool F w (ρ 1) s.t_1 ∧ SlR (kInt .i64) F w (ρ 3) s.t_3 ∧ ρ 8 = .pointer (some ⟨g8, 0, none⟩) ∧ Box k_Fault 26 (Bs w0 nrow) F w g8 s.t_8
def G15 (w0 : World) (F0 : BSet) (s : S) (ρ : Env) (w : World) : Prop := ∃ (F : BSet), Wk nrow w0 F0 F w ∧ ∃ (g8 : Nat), SlR k_Commit F w (ρ 0) s.t_0 ∧ SlR kBool F w (ρ 1) s.t_1 ∧ SlR (kInt .i64) F w (ρ 3) s.t_3 ∧ ρ 8 = .pointer (some ⟨g8, 0, none⟩) ∧ Box k_Fault 26 (Bs w0 nrow) F w g8 s.t_8 ∧ ρ 49 = .bool s.t_49
def G16 (w0 : World) (F0 : BSet) (s : S) (ρ : Env) (w : World) : Prop := ∃ (F : BSet), Wk nrow w0 F0 F w ∧ ∃ (g8 : Nat), SlR k_Commit F w (ρ 0) s.t_0 ∧ SlR kBool F w (ρ 1) s.t_1 ∧ ρ 8 = .pointer (some ⟨g8, 0, none⟩) ∧ Box k_Fault 26 (Bs w0 nrow) F w g8 s.t_8 ∧ SlR (kInt .i64) F w (ρ 51) s.t_51 ∧ ρ 52 = .int .i64 s.t_52 ∧ ρ 53 = .int .i64 s.t_53
def G17 (w0 : World) (F0 : BSet) (s : S) (ρ : Env) (w : World) : Prop := ∃ (F : BSet), Wk nrow w0 F0 F w ∧ ∃ (g8 : Nat), SlR k_Commit F w (ρ 0) s.t_0 ∧ SlR kBool F w (ρ 1) s.t_1 ∧ ρ 8 = .pointer (some ⟨g8, 0, none⟩) ∧ Box k_Fault 26 (Bs w0 nrow) F w g8 s.t_8 ∧ SlR (kInt .i64) F w (ρ 51) s.t_51 ∧ ρ 52 = .int .i64 s.t_52 ∧ ρ 53 = .int .i64 s.t_53 ∧ ρ 54 = .bool s.t_54
def G18 (w0 : World) (F0 : BSet) (s : S) (ρ : Env) (w : World) : Prop := ∃ (F : BSet), Wk nrow w0 F0 F w ∧ ∃ (g8 : Nat), SlR k_Commit F w (ρ 0) s.t_0 ∧ SlR kBool F w (ρ 1) s.t_1 ∧ ρ 8 = .pointer (some ⟨g8, 0, none⟩) ∧ Box k_Fault 26 (Bs w0 nrow) F w g8 s.t_8 ∧ ρ 12 = .int .i64 s.t_12 ∧ ρ 13 = .int .i64 s.t_13 ∧ SlR (kInt .i64) F w (ρ 51) s.t_51 ∧ ρ 52 = .int .i64 s.t_52 ∧ ρ 53 = .int .i64 s.t_53
def G19 (w0 : World) (F0 : BSet) (s : S) (ρ : Env) (w : World) : Prop := ∃ (F : BSet), Wk nrow w0 F0 F w ∧ ∃ (g8 : Nat), SlR k_Commit F w (ρ 0) s.t_0 ∧ SlR kBool F w (ρ 1) s.t_1 ∧ ρ 8 = .pointer (some ⟨g8, 0, none⟩) ∧ Box k_Fault 26 (Bs w0 nrow) F w g8 s.t_8 ∧ ρ 12 = .int .i64 s.t_12 ∧ SlR (kInt .i64) F w (ρ 51) s.t_51 ∧ ρ 52 = .int .i64 s.t_52 ∧ ρ 53 = .int .i64 s.t_53 ∧ ρ 72 = .bool s.t_72
def G20 (w0 : World) (F0 : BSet) (s : S) (ρ : Env) (w : World) : Prop := ∃ (F : BSet), Wk nrow w0 F0 F w ∧ ∃ (g8 : Nat), ρ 8 = .pointer (some ⟨g8, 0, none⟩) ∧ Box k_Fault 26 (Bs w0 nrow) F w g8 s.t_8 ∧ ρ 12 = .int .i64 s.t_12
set_option maxHeartbeats 4000000 in
set_option maxRecDepth 20000 in
theorem ref (w0 : World) (F0 : BSet) : ∃ c, Try.f41.body = some c ∧ Ref Try.prog 77 c (G0 w0 F0) body (fun _ _ _ => False) (fun _ _ _ _ => False) (fun r ρ w => ∃ s, retv s = r ∧ G5 w0 F0 s ρ w) := by
  refine ⟨_, rfl, ?_⟩
  unfold body
  refine Ref.seq (B := G1 w0 F0) ?_ ?_
  · refine Ref.region (fun s ρ w s' h hr => ?_)
    obtain ⟨F, hW, h0, h1, h2, h3⟩ := h
    refine ol_e (f_alloc zer_26 hW) rfl rfl ?_
    rintro _ w2 ⟨g1, rfl, kw1, ho3⟩
    have hW4 := hW.trans kw1
    have st1 := kw1.stp hW.ok
    obtain rfl := Option.some.inj hr
    exact ol_nil ⟨F, hW4, g1, (h0.keep st1), (h1.keep st1), (h2.keep st1), (h3.keep st1), rfl, (ho3.base (row := nrow) hW.le)⟩
  refine Ref.seq (B := G1 w0 F0) ?_ ?_
  · refine Ref.seq (B := G2 w0 F0) ?_ ?_
    · refine Ref.region (fun s ρ w s' h hr => ?_)
      obtain ⟨F, hW, g8, h0, h1, h2, h3, p8, h8⟩ := h
      refine ol_v (e_mv _ rfl) rfl ?_
      obtain ⟨x5, hx5, hr⟩ := bind_some' hr
      refine ol_e (f_call [(ρ 0)] fn_35 (lcons rfl rfl) (history_Validate.calls hW.ok h0 hx5)) rfl rfl ?_
      rintro v8 w6 ⟨Fz7, _, rfl, kw1, hk9⟩
      have hW11 := hW.trans kw1
      have st1 := kw1.stp hW.ok
      refine ol_e (f_alloc zer_26 hW11) rfl rfl ?_
      rintro _ w13 ⟨g12, rfl, kw2, ho14⟩
      have hW15 := hW11.trans kw2
      have st2 := kw2.stp hW11.ok
      refine ol_eN (f_stB hW15 (ho14.base (row := nrow) hW11.le) (FldS.whole _) ty_26 (hk9.keep st2) rfl rfl) rfl ?_
      rintro - w16 ⟨hW17, ho18, hg3, st3⟩
      obtain rfl := Option.some.inj hr
      exact ol_nil ⟨Fz7, hW17, g8, g12, (h0.keep (st1.trans (st2.trans st3))), (h1.keep (st1.trans (st2.trans st3))), (h2.keep (st1.trans (st2.trans st3))), (h3.keep (st1.trans (st2.trans st3))), p8, (((h8.wk kw1 hW.ok).wk kw2 hW11.ok).mut (Apart.base (fun _ e_ => by cases e_; exact ho14.ge) (h8.wk kw1 hW.ok).ltw) hg3 st3), rfl, ho18, (Apart.base (fun _ e_ => by cases e_; exact ho14.ge) (h8.wk kw1 hW.ok).ltw).symm⟩
    refine Ref.seq (B := G3 w0 F0) ?_ ?_
    · refine Ref.region (fun s ρ w s' h hr => ?_)
      obtain ⟨F, hW, g8, g9, h0, h1, h2, h3, p8, h8, p9, h9, a8b_9b⟩ := h
      obtain ⟨v19, hl20⟩ := LiesAt.v (h9).at_
      refine ol_v (e_ld ty_26 hl20 p9) rfl ?_
      refine ol_v (e_bld (cells := #[.int .i64 0, .int .i64 0]) bld_26 (vs := []) rfl rfl) rfl ?_
      have hb21 : Val k_Fault F w (.agg #[.int .i64 0, .int .i64 0]) (⟨(0 : Int), (0 : Int)⟩ : Fault) := mk_Fault (val_int _ _) (val_int _ _)
      refine ol_v (e_tneq (eq_Fault_26 hl20.val hb21) rfl rfl) rfl ?_
      obtain rfl := Option.some.inj hr
      exact ol_nil ⟨F, hW, g8, g9, h0, h1, h2, h3, p8, h8, p9, h9, rfl, a8b_9b⟩
    refine Ref.cond (b := fun s => s.t_18) (fun s ρ w ⟨F, hW, g8, g9, h0, h1, h2, h3, p8, h8, p9, h9, h18, a8b_9b⟩ => h18) (Ref.pre (A := G4 w0 F0) ?_ (fun s ρ w h => (fun ⟨F, hW, g8, g9, h0, h1, h2, h3, p8, h8, p9, h9, h18, a8b_9b⟩ => ⟨F, hW, g8, g9, p8, h8, p9, h9, a8b_9b⟩ : G3 w0 F0 s ρ w → G4 w0 F0 s ρ w) h.2)) (Ref.pre (A := G1 w0 F0) ?_ (fun s ρ w h => (fun ⟨F, hW, g8, g9, h0, h1, h2, h3, p8, h8, p9, h9, h18, a8b_9b⟩ => ⟨F, hW, g8, h0, h1, h2, h3, p8, h8⟩ : G3 w0 F0 s ρ w → G1 w0 F0 s ρ w) h.2))
    · refine Ref.seq (B := G5 w0 F0) ?_ ?_
      · refine Ref.region (fun s ρ w s' h hr => ?_)
        obtain ⟨F, hW, g8, g9, p8, h8, p9, h9, a8b_9b⟩ := h
        obtain ⟨v22, hl23⟩ := LiesAt.v (h9).at_
        refine ol_v (e_ld ty_26 hl23 p9) rfl ?_
        refine ol_eN (f_stB hW h8 (FldS.whole _) ty_26 hl23.val p8 rfl) rfl ?_
        rintro - w24 ⟨hW25, ho26, hg1, st1⟩
        obtain rfl := Option.some.inj hr
        exact ol_nil ⟨F, hW25, g8, p8, ho26⟩
      exact Ref.ret (fun s ρ w h => ⟨s, rfl, h⟩)
    · exact Ref.skip
  refine Ref.seq (B := G1 w0 F0) ?_ ?_
  · refine Ref.seq (B := G6 w0 F0) ?_ ?_
    · refine Ref.region (fun s ρ w s' h hr => ?_)
      obtain ⟨F, hW, g8, h0, h1, h2, h3, p8, h8⟩ := h
      refine ol_v (e_mv _ rfl) rfl ?_
      obtain ⟨A27, c28, e29, hc30, R31⟩ := id h1
      refine ol_v (e_len (SlT.sl sl_46) e29) rfl ?_
      refine ol_v (e_mv _ rfl) rfl ?_
      obtain ⟨A32, c33, e34, hc35, R36⟩ := id h0
      refine ol_v (e_len (SlT.sl sl_22) e34) rfl ?_
      refine ol_v (e_neq rfl rfl) rfl ?_
      obtain rfl := Option.some.inj hr
      exact ol_nil ⟨F, hW, g8, h0, h1, h2, h3, p8, h8, rfl⟩
    refine Ref.cond (b := fun s => s.t_24) (fun s ρ w ⟨F, hW, g8, h0, h1, h2, h3, p8, h8, h24⟩ => h24) (Ref.pre (A := G5 w0 F0) ?_ (fun s ρ w h => (fun ⟨F, hW, g8, h0, h1, h2, h3, p8, h8, h24⟩ => ⟨F, hW, g8, p8, h8⟩ : G6 w0 F0 s ρ w → G5 w0 F0 s ρ w) h.2)) (Ref.pre (A := G1 w0 F0) ?_ (fun s ρ w h => (fun ⟨F, hW, g8, h0, h1, h2, h3, p8, h8, h24⟩ => ⟨F, hW, g8, h0, h1, h2, h3, p8, h8⟩ : G6 w0 F0 s ρ w → G1 w0 F0 s ρ w) h.2))
    · refine Ref.seq (B := G5 w0 F0) ?_ ?_
      · refine Ref.region (fun s ρ w s' h hr => ?_)
        obtain ⟨F, hW, g8, p8, h8⟩ := h
        refine ol_v (e_bld (cells := #[.int .i64 (9), .int .i64 (-1)]) bld_26 (vs := [(0, .int .i64 (9)), (1, .int .i64 (-1))]) (lcons (congrArg (Prod.mk 0) rfl) (lcons (congrArg (Prod.mk 1) rfl) rfl)) rfl) rfl ?_
        have hb37 : Val k_Fault F w (.agg #[.int .i64 (9), .int .i64 (-1)]) (⟨(9 : Int), (-1 : Int)⟩ : Fault) := mk_Fault (val_int _ _) (val_int _ _)
        refine ol_eN (f_stB hW h8 (FldS.whole _) ty_26 hb37 p8 rfl) rfl ?_
        rintro - w38 ⟨hW39, ho40, hg1, st1⟩
        obtain rfl := Option.some.inj hr
        exact ol_nil ⟨F, hW39, g8, p8, ho40⟩
      exact Ref.ret (fun s ρ w h => ⟨s, rfl, h⟩)
    · exact Ref.skip
  refine Ref.seq (B := G1 w0 F0) ?_ ?_
  · refine Ref.seq (B := G7 w0 F0) ?_ ?_
    · refine Ref.region (fun s ρ w s' h hr => ?_)
      obtain ⟨F, hW, g8, h0, h1, h2, h3, p8, h8⟩ := h
      refine ol_v (e_mv _ rfl) rfl ?_
      obtain ⟨A41, c42, e43, hc44, R45⟩ := id h2
      refine ol_v (e_len (SlT.sl sl_46) e43) rfl ?_
      refine ol_v (e_mv _ rfl) rfl ?_
      obtain ⟨A46, c47, e48, hc49, R50⟩ := id h0
      refine ol_v (e_len (SlT.sl sl_22) e48) rfl ?_
      refine ol_v (e_neq rfl rfl) rfl ?_
      obtain rfl := Option.some.inj hr
      exact ol_nil ⟨F, hW, g8, h0, h1, h2, h3, p8, h8, rfl⟩
    refine Ref.cond (b := fun s => s.t_30) (fun s ρ w ⟨F, hW, g8, h0, h1, h2, h3, p8, h8, h30⟩ => h30) (Ref.pre (A := G5 w0 F0) ?_ (fun s ρ w h => (fun ⟨F, hW, g8, h0, h1, h2, h3, p8, h8, h30⟩ => ⟨F, hW, g8, p8, h8⟩ : G7 w0 F0 s ρ w → G5 w0 F0 s ρ w) h.2)) (Ref.pre (A := G1 w0 F0) ?_ (fun s ρ w h => (fun ⟨F, hW, g8, h0, h1, h2, h3, p8, h8, h30⟩ => ⟨F, hW, g8, h0, h1, h2, h3, p8, h8⟩ : G7 w0 F0 s ρ w → G1 w0 F0 s ρ w) h.2))
    · refine Ref.seq (B := G5 w0 F0) ?_ ?_
      · refine Ref.region (fun s ρ w s' h hr => ?_)
        obtain ⟨F, hW, g8, p8, h8⟩ := h
        refine ol_v (e_bld (cells := #[.int .i64 (9), .int .i64 (-2)]) bld_26 (vs := [(0, .int .i64 (9)), (1, .int .i64 (-2))]) (lcons (congrArg (Prod.mk 0) rfl) (lcons (congrArg (Prod.mk 1) rfl) rfl)) rfl) rfl ?_
        have hb51 : Val k_Fault F w (.agg #[.int .i64 (9), .int .i64 (-2)]) (⟨(9 : Int), (-2 : Int)⟩ : Fault) := mk_Fault (val_int _ _) (val_int _ _)
        refine ol_eN (f_stB hW h8 (FldS.whole _) ty_26 hb51 p8 rfl) rfl ?_
        rintro - w52 ⟨hW53, ho54, hg1, st1⟩
        obtain rfl := Option.some.inj hr
        exact ol_nil ⟨F, hW53, g8, p8, ho54⟩
      exact Ref.ret (fun s ρ w h => ⟨s, rfl, h⟩)
    · exact Ref.skip
  refine Ref.seq (B := G1 w0 F0) ?_ ?_
  · refine Ref.seq (B := G8 w0 F0) ?_ ?_
    · refine Ref.region (fun s ρ w s' h hr => ?_)
      obtain ⟨F, hW, g8, h0, h1, h2, h3, p8, h8⟩ := h
      refine ol_v (e_mv _ rfl) rfl ?_
      refine ol_v (e_mv _ rfl) rfl ?_
      obtain ⟨x55, hx55, hr⟩ := bind_some' hr
      refine ol_e (f_call [(ρ 0), (ρ 1)] fn_50 (lcons rfl (lcons rfl rfl)) (negotiate_closed.calls hW.ok h0 h1 hx55)) rfl rfl ?_
      rintro _ w56 ⟨Fz57, rfl, kw1⟩
      have hW59 := hW.trans kw1
      have st1 := kw1.stp hW.ok
      refine ol_v (e_as _ rfl) rfl ?_
      obtain rfl := Option.some.inj hr
      exact ol_nil ⟨Fz57, hW59, g8, (h0.keep st1), (h1.keep st1), (h2.keep st1), (h3.keep st1), p8, (h8.wk kw1 hW.ok), rfl⟩
    refine Ref.seq (B := G9 w0 F0) ?_ ?_
    · refine Ref.region (fun s ρ w s' h hr => ?_)
      obtain ⟨F, hW, g8, h0, h1, h2, h3, p8, h8, h10⟩ := h
      refine ol_v (e_mv _ h10) rfl ?_
      refine ol_v (e_geq rfl rfl) rfl ?_
      obtain rfl := Option.some.inj hr
      exact ol_nil ⟨F, hW, g8, h0, h1, h2, h3, p8, h8, h10, rfl⟩
    refine Ref.cond (b := fun s => s.t_36) (fun s ρ w ⟨F, hW, g8, h0, h1, h2, h3, p8, h8, h10, h36⟩ => h36) (Ref.pre (A := G10 w0 F0) ?_ (fun s ρ w h => (fun ⟨F, hW, g8, h0, h1, h2, h3, p8, h8, h10, h36⟩ => ⟨F, hW, g8, p8, h8, h10⟩ : G9 w0 F0 s ρ w → G10 w0 F0 s ρ w) h.2)) (Ref.pre (A := G1 w0 F0) ?_ (fun s ρ w h => (fun ⟨F, hW, g8, h0, h1, h2, h3, p8, h8, h10, h36⟩ => ⟨F, hW, g8, h0, h1, h2, h3, p8, h8⟩ : G9 w0 F0 s ρ w → G1 w0 F0 s ρ w) h.2))
    · refine Ref.seq (B := G5 w0 F0) ?_ ?_
      · refine Ref.region (fun s ρ w s' h hr => ?_)
        obtain ⟨F, hW, g8, p8, h8, h10⟩ := h
        refine ol_v (e_mv _ h10) rfl ?_
        refine ol_v (e_bld (cells := #[.int .i64 (5), .int .i64 s.t_10]) bld_26 (vs := [(0, .int .i64 (5)), (1, .int .i64 s.t_10)]) (lcons (congrArg (Prod.mk 0) rfl) (lcons (congrArg (Prod.mk 1) rfl) rfl)) rfl) rfl ?_
        have hb60 : Val k_Fault F w (.agg #[.int .i64 (5), .int .i64 s.t_10]) (⟨(5 : Int), s.t_10⟩ : Fault) := mk_Fault (val_int _ _) (val_int _ _)
        refine ol_eN (f_stB hW h8 (FldS.whole _) ty_26 hb60 p8 rfl) rfl ?_
        rintro - w61 ⟨hW62, ho63, hg1, st1⟩
        obtain rfl := Option.some.inj hr
        exact ol_nil ⟨F, hW62, g8, p8, ho63⟩
      exact Ref.ret (fun s ρ w h => ⟨s, rfl, h⟩)
    · exact Ref.skip
  refine Ref.seq (B := G14 w0 F0) ?_ ?_
  · refine Ref.seq (B := G11 w0 F0) ?_ ?_
    · refine Ref.region (fun s ρ w s' h hr => ?_)
      obtain ⟨F, hW, g8, h0, h1, h2, h3, p8, h8⟩ := h
      refine ol_v (e_mv _ rfl) rfl ?_
      refine ol_v (e_mv _ rfl) rfl ?_
      obtain ⟨x64, hx64, hr⟩ := bind_some' hr
      refine ol_e (f_call [(ρ 0), (ρ 2)] fn_50 (lcons rfl (lcons rfl rfl)) (negotiate_closed.calls hW.ok h0 h2 hx64)) rfl rfl ?_
      rintro _ w65 ⟨Fz66, rfl, kw1⟩
      have hW68 := hW.trans kw1
      have st1 := kw1.stp hW.ok
      refine ol_v (e_as _ rfl) rfl ?_
      obtain rfl := Option.some.inj hr
      exact ol_nil ⟨Fz66, hW68, g8, (h0.keep st1), (h1.keep st1), (h3.keep st1), p8, (h8.wk kw1 hW.ok), rfl⟩
    refine Ref.seq (B := G12 w0 F0) ?_ ?_
    · refine Ref.region (fun s ρ w s' h hr => ?_)
      obtain ⟨F, hW, g8, h0, h1, h3, p8, h8, h11⟩ := h
      refine ol_v (e_mv _ h11) rfl ?_
      refine ol_v (e_geq rfl rfl) rfl ?_
      obtain rfl := Option.some.inj hr
      exact ol_nil ⟨F, hW, g8, h0, h1, h3, p8, h8, h11, rfl⟩
    refine Ref.cond (b := fun s => s.t_43) (fun s ρ w ⟨F, hW, g8, h0, h1, h3, p8, h8, h11, h43⟩ => h43) (Ref.pre (A := G13 w0 F0) ?_ (fun s ρ w h => (fun ⟨F, hW, g8, h0, h1, h3, p8, h8, h11, h43⟩ => ⟨F, hW, g8, p8, h8, h11⟩ : G12 w0 F0 s ρ w → G13 w0 F0 s ρ w) h.2)) (Ref.pre (A := G14 w0 F0) ?_ (fun s ρ w h => (fun ⟨F, hW, g8, h0, h1, h3, p8, h8, h11, h43⟩ => ⟨F, hW, g8, h0, h1, h3, p8, h8⟩ : G12 w0 F0 s ρ w → G14 w0 F0 s ρ w) h.2))
    · refine Ref.seq (B := G5 w0 F0) ?_ ?_
      · refine Ref.region (fun s ρ w s' h hr => ?_)
        obtain ⟨F, hW, g8, p8, h8, h11⟩ := h
        refine ol_v (e_mv _ h11) rfl ?_
        refine ol_v (e_sub rfl rfl) rfl ?_
        refine ol_v (e_bld (cells := #[.int .i64 (5), .int .i64 (w64 ((-3 : Int) - s.t_11))]) bld_26 (vs := [(0, .int .i64 (5)), (1, .int .i64 (w64 ((-3 : Int) - s.t_11)))]) (lcons (congrArg (Prod.mk 0) rfl) (lcons (congrArg (Prod.mk 1) rfl) rfl)) rfl) rfl ?_
        have hb69 : Val k_Fault F w (.agg #[.int .i64 (5), .int .i64 (w64 ((-3 : Int) - s.t_11))]) (⟨(5 : Int), w64 ((-3 : Int) - s.t_11)⟩ : Fault) := mk_Fault (val_int _ _) (val_int _ _)
        refine ol_eN (f_stB hW h8 (FldS.whole _) ty_26 hb69 p8 rfl) rfl ?_
        rintro - w70 ⟨hW71, ho72, hg1, st1⟩
        obtain rfl := Option.some.inj hr
        exact ol_nil ⟨F, hW71, g8, p8, ho72⟩
      exact Ref.ret (fun s ρ w h => ⟨s, rfl, h⟩)
    · exact Ref.skip
  refine Ref.seq (B := G14 w0 F0) ?_ ?_
  · refine Ref.seq (B := G15 w0 F0) ?_ ?_
    · refine Ref.region (fun s ρ w s' h hr => ?_)
      obtain ⟨F, hW, g8, h0, h1, h3, p8, h8⟩ := h
      refine ol_v (e_mv _ rfl) rfl ?_
      obtain ⟨A73, c74, e75, hc76, R77⟩ := id h3
      refine ol_v (e_len (SlT.sl sl_23) e75) rfl ?_
      refine ol_v (e_gtr rfl rfl) rfl ?_
      obtain rfl := Option.some.inj hr
      exact ol_nil ⟨F, hW, g8, h0, h1, h3, p8, h8, rfl⟩
    refine Ref.cond (b := fun s => s.t_49) (fun s ρ w ⟨F, hW, g8, h0, h1, h3, p8, h8, h49⟩ => h49) (Ref.pre (A := G5 w0 F0) ?_ (fun s ρ w h => (fun ⟨F, hW, g8, h0, h1, h3, p8, h8, h49⟩ => ⟨F, hW, g8, p8, h8⟩ : G15 w0 F0 s ρ w → G5 w0 F0 s ρ w) h.2)) (Ref.pre (A := G14 w0 F0) ?_ (fun s ρ w h => (fun ⟨F, hW, g8, h0, h1, h3, p8, h8, h49⟩ => ⟨F, hW, g8, h0, h1, h3, p8, h8⟩ : G15 w0 F0 s ρ w → G14 w0 F0 s ρ w) h.2))
    · refine Ref.seq (B := G5 w0 F0) ?_ ?_
      · refine Ref.region (fun s ρ w s' h hr => ?_)
        obtain ⟨F, hW, g8, p8, h8⟩ := h
        refine ol_v (e_bld (cells := #[.int .i64 (2), .int .i64 (-1)]) bld_26 (vs := [(0, .int .i64 (2)), (1, .int .i64 (-1))]) (lcons (congrArg (Prod.mk 0) rfl) (lcons (congrArg (Prod.mk 1) rfl) rfl)) rfl) rfl ?_
        have hb78 : Val k_Fault F w (.agg #[.int .i64 (2), .int .i64 (-1)]) (⟨(2 : Int), (-1 : Int)⟩ : Fault) := mk_Fault (val_int _ _) (val_int _ _)
        refine ol_eN (f_stB hW h8 (FldS.whole _) ty_26 hb78 p8 rfl) rfl ?_
        rintro - w79 ⟨hW80, ho81, hg1, st1⟩
        obtain rfl := Option.some.inj hr
        exact ol_nil ⟨F, hW80, g8, p8, ho81⟩
      exact Ref.ret (fun s ρ w h => ⟨s, rfl, h⟩)
    · exact Ref.skip
  refine Ref.seq (B := G5 w0 F0) ?_ ?_
  · refine Ref.seq (B := G16 w0 F0) ?_ ?_
    · refine Ref.region (fun s ρ w s' h hr => ?_)
      obtain ⟨F, hW, g8, h0, h1, h3, p8, h8⟩ := h
      refine ol_v (e_mv _ rfl) rfl ?_
      obtain ⟨A82, c83, e84, hc85, R86⟩ := id h3
      refine ol_v (e_len (SlT.sl sl_23) e84) rfl ?_
      refine ol_v (e_mv _ rfl) rfl ?_
      obtain rfl := Option.some.inj hr
      exact ol_nil ⟨F, hW, g8, h0, h1, p8, h8, h3, rfl, rfl⟩
    refine Ref.block ?_
    refine Ref.loop ?_
    refine Ref.seq (B := G17 w0 F0) ?_ ?_
    · refine Ref.region (fun s ρ w s' h hr => ?_)
      obtain ⟨F, hW, g8, h0, h1, p8, h8, h51, h52, h53⟩ := h
      refine ol_v (e_lss h53 h52) rfl ?_
      obtain rfl := Option.some.inj hr
      exact ol_nil ⟨F, hW, g8, h0, h1, p8, h8, h51, h52, h53, rfl⟩
    refine Ref.seq (B := G16 w0 F0) ?_ ?_
    · refine Ref.cond (b := fun s => s.t_54) (fun s ρ w ⟨F, hW, g8, h0, h1, p8, h8, h51, h52, h53, h54⟩ => h54) (Ref.pre (A := G16 w0 F0) ?_ (fun s ρ w h => (fun ⟨F, hW, g8, h0, h1, p8, h8, h51, h52, h53, h54⟩ => ⟨F, hW, g8, h0, h1, p8, h8, h51, h52, h53⟩ : G17 w0 F0 s ρ w → G16 w0 F0 s ρ w) h.2)) (Ref.pre (A := G5 w0 F0) ?_ (fun s ρ w h => (fun ⟨F, hW, g8, h0, h1, p8, h8, h51, h52, h53, h54⟩ => ⟨F, hW, g8, p8, h8⟩ : G17 w0 F0 s ρ w → G5 w0 F0 s ρ w) h.2))
      · exact Ref.skip
      · exact Ref.exit (fun s ρ w h => h)
    refine Ref.seq (B := G16 w0 F0) ?_ ?_
    · refine Ref.block ?_
      refine Ref.seq (B := G18 w0 F0) ?_ ?_
      · refine Ref.region (fun s ρ w s' h hr => ?_)
        obtain ⟨F, hW, g8, h0, h1, p8, h8, h51, h52, h53⟩ := h
        refine ol_v (e_mv _ h53) rfl ?_
        obtain ⟨x87, hx87, hr⟩ := bind_some' hr
        obtain ⟨A88, c89, e90, hc91, R92⟩ := id h51
        obtain ⟨b93, o94, hA95, L96⟩ := Row.at_ R92 hx87
        refine ol_v (e_ix (SlT.sl sl_23) (SlT.sz sl_23) hA95 hx87 e90 h53) rfl ?_
        refine ol_v (e_ld ty_3 (LiesV.int L96.at_) rfl) rfl ?_
        refine ol_v (e_as _ rfl) rfl ?_
        refine ol_v (e_as _ rfl) rfl ?_
        obtain rfl := Option.some.inj hr
        exact ol_nil ⟨F, hW, g8, h0, h1, p8, h8, rfl, rfl, h51, h52, h53⟩
      refine Ref.seq (B := G19 w0 F0) ?_ ?_
      · refine Ref.region (fun s ρ w s' h hr => ?_)
        obtain ⟨F, hW, g8, h0, h1, p8, h8, h12, h13, h51, h52, h53⟩ := h
        refine ol_v (e_mv _ h13) rfl ?_
        refine ol_v (e_lss rfl rfl) rfl ?_
        refine ol_cutA 6 60 65 (fun ρ' w' => w = w' ∧ ρ' 65 = .bool ((decide (s.t_13 < (0 : Int))) || (decide ((s.t_0.length : Int) ≤ s.t_13)))) rfl ?_ ?_
        · by_cases hb97 : (decide (s.t_13 < (0 : Int))) = true
          · refine ol_v (e_mv _ rfl) rfl ?_
            refine ol_not rfl rfl rfl (congrArg Value.bool hb97) rfl ?_
            refine ol_not rfl rfl rfl (congrArg Value.bool hb97) rfl ?_
            refine ol_not rfl rfl rfl (congrArg Value.bool hb97) rfl ?_
            refine ol_not rfl rfl rfl (congrArg Value.bool hb97) rfl ?_
            refine ol_v (e_pick true _ (congrArg Value.bool hb97) rfl) rfl ?_
            exact ol_nil ⟨⟨rfl, (bv_or_t hb97)⟩, (((((((Agr.refl _ _ _).upd rfl rfl).upd rfl rfl).upd rfl rfl).upd rfl rfl).upd rfl rfl).upd rfl rfl)⟩
          · have hb98 := Bool.eq_false_iff.mpr hb97
            refine ol_v (e_mv _ rfl) rfl ?_
            refine ol_yes rfl rfl (congrArg Value.bool hb98) ?_
            refine ol_v (e_mv _ h13) rfl ?_
            refine ol_yes rfl rfl (congrArg Value.bool hb98) ?_
            refine ol_v (e_mv _ rfl) rfl ?_
            refine ol_yes rfl rfl (congrArg Value.bool hb98) ?_
            obtain ⟨A99, c100, e101, hc102, R103⟩ := id h0
            refine ol_v (e_len (SlT.sl sl_22) e101) rfl ?_
            refine ol_yes rfl rfl (congrArg Value.bool hb98) ?_
            refine ol_v (e_geq rfl rfl) rfl ?_
            refine ol_v (e_pick false _ (congrArg Value.bool hb98) rfl) rfl ?_
            exact ol_nil ⟨⟨rfl, (bv_or_f hb98)⟩, (((((((Agr.refl _ _ _).upd rfl rfl).upd rfl rfl).upd rfl rfl).upd rfl rfl).upd rfl rfl).upd rfl rfl)⟩
        rintro ρ104 _ ⟨⟨rfl, hp104⟩, hAg104⟩
        obtain ⟨x117, hx118, hr⟩ := bind_some' hr
        refine ol_cutA 7 66 72 (fun ρ' w' => w = w' ∧ ρ' 72 = .bool x117) rfl ?_ ?_
        · by_cases hb105 : ((decide (s.t_13 < (0 : Int))) || (decide ((s.t_0.length : Int) ≤ s.t_13))) = true
          · have hr := hx118
            rw [if_pos hb105] at hr
            refine ol_v (e_mv _ hp104) rfl ?_
            refine ol_not rfl rfl rfl (congrArg Value.bool hb105) rfl ?_
            refine ol_not rfl rfl rfl (congrArg Value.bool hb105) rfl ?_
            refine ol_not rfl rfl rfl (congrArg Value.bool hb105) rfl ?_
            refine ol_not rfl rfl rfl (congrArg Value.bool hb105) rfl ?_
            refine ol_not rfl rfl rfl (congrArg Value.bool hb105) rfl ?_
            refine ol_v (e_pick true _ (congrArg Value.bool hb105) rfl) rfl ?_
            exact ol_nil ⟨⟨rfl, (congrArg Value.bool (Option.some.inj hr))⟩, ((((((((Agr.refl _ _ _).upd rfl rfl).upd rfl rfl).upd rfl rfl).upd rfl rfl).upd rfl rfl).upd rfl rfl).upd rfl rfl)⟩
          · have hb106 := Bool.eq_false_iff.mpr hb105
            have hr := hx118
            rw [if_neg hb105] at hr
            refine ol_v (e_mv _ hp104) rfl ?_
            refine ol_yes rfl rfl (congrArg Value.bool hb106) ?_
            refine ol_v (e_mv _ (hAg104 1 rfl)) rfl ?_
            refine ol_yes rfl rfl (congrArg Value.bool hb106) ?_
            refine ol_v (e_mv _ ((hAg104 13 rfl).trans h13)) rfl ?_
            refine ol_yes rfl rfl (congrArg Value.bool hb106) ?_
            obtain ⟨x107, hx107, hr⟩ := bind_some' hr
            obtain ⟨A108, c109, e110, hc111, R112⟩ := id h1
            obtain ⟨b113, o114, hA115, L116⟩ := Row.at_ R112 hx107
            refine ol_v (e_ix (SlT.sl sl_46) (SlT.sz sl_46) hA115 hx107 e110 rfl) rfl ?_
            refine ol_yes rfl rfl (congrArg Value.bool hb106) ?_
            refine ol_v (e_ld ty_4 (LiesV.bool L116.at_) rfl) rfl ?_
            refine ol_yes rfl rfl (congrArg Value.bool hb106) ?_
            refine ol_v (e_not_ rfl) rfl ?_
            refine ol_v (e_pick false _ (congrArg Value.bool hb106) rfl) rfl ?_
            exact ol_nil ⟨⟨rfl, (congrArg Value.bool (Option.some.inj hr))⟩, ((((((((Agr.refl _ _ _).upd rfl rfl).upd rfl rfl).upd rfl rfl).upd rfl rfl).upd rfl rfl).upd rfl rfl).upd rfl rfl)⟩
        rintro ρ118 _ ⟨⟨rfl, hp118⟩, hAg118⟩
        obtain rfl := Option.some.inj hr
        exact ol_nil ⟨F, hW, g8, (SlR.eqv ((hAg118 0 rfl).trans (hAg104 0 rfl)) h0), (SlR.eqv ((hAg118 1 rfl).trans (hAg104 1 rfl)) h1), ((hAg118 8 rfl).trans ((hAg104 8 rfl).trans p8)), h8, ((hAg118 12 rfl).trans ((hAg104 12 rfl).trans h12)), (SlR.eqv ((hAg118 51 rfl).trans (hAg104 51 rfl)) h51), ((hAg118 52 rfl).trans ((hAg104 52 rfl).trans h52)), ((hAg118 53 rfl).trans ((hAg104 53 rfl).trans h53)), hp118⟩
      refine Ref.cond (b := fun s => s.t_72) (fun s ρ w ⟨F, hW, g8, h0, h1, p8, h8, h12, h51, h52, h53, h72⟩ => h72) (Ref.pre (A := G20 w0 F0) ?_ (fun s ρ w h => (fun ⟨F, hW, g8, h0, h1, p8, h8, h12, h51, h52, h53, h72⟩ => ⟨F, hW, g8, p8, h8, h12⟩ : G19 w0 F0 s ρ w → G20 w0 F0 s ρ w) h.2)) (Ref.pre (A := G16 w0 F0) ?_ (fun s ρ w h => (fun ⟨F, hW, g8, h0, h1, p8, h8, h12, h51, h52, h53, h72⟩ => ⟨F, hW, g8, h0, h1, p8, h8, h51, h52, h53⟩ : G19 w0 F0 s ρ w → G16 w0 F0 s ρ w) h.2))
      · refine Ref.seq (B := G5 w0 F0) ?_ ?_
        · refine Ref.region (fun s ρ w s' h hr => ?_)
          obtain ⟨F, hW, g8, p8, h8, h12⟩ := h
          refine ol_v (e_mv _ h12) rfl ?_
          refine ol_v (e_bld (cells := #[.int .i64 (6), .int .i64 s.t_12]) bld_26 (vs := [(0, .int .i64 (6)), (1, .int .i64 s.t_12)]) (lcons (congrArg (Prod.mk 0) rfl) (lcons (congrArg (Prod.mk 1) rfl) rfl)) rfl) rfl ?_
          have hb119 : Val k_Fault F w (.agg #[.int .i64 (6), .int .i64 s.t_12]) (⟨(6 : Int), s.t_12⟩ : Fault) := mk_Fault (val_int _ _) (val_int _ _)
          refine ol_eN (f_stB hW h8 (FldS.whole _) ty_26 hb119 p8 rfl) rfl ?_
          rintro - w120 ⟨hW121, ho122, hg1, st1⟩
          obtain rfl := Option.some.inj hr
          exact ol_nil ⟨F, hW121, g8, p8, ho122⟩
        exact Ref.ret (fun s ρ w h => ⟨s, rfl, h⟩)
      · exact Ref.skip
    refine Ref.region (fun s ρ w s' h hr => ?_)
    obtain ⟨F, hW, g8, h0, h1, p8, h8, h51, h52, h53⟩ := h
    refine ol_v (e_add h53 rfl) rfl ?_
    refine ol_v (e_mv _ rfl) rfl ?_
    obtain rfl := Option.some.inj hr
    exact ol_nil ⟨F, hW, g8, h0, h1, p8, h8, h51, h52, rfl⟩
  refine Ref.seq (B := G5 w0 F0) ?_ ?_
  · refine Ref.region (fun s ρ w s' h hr => ?_)
    obtain ⟨F, hW, g8, p8, h8⟩ := h
    refine ol_v (e_bld (cells := #[.int .i64 0, .int .i64 0]) bld_26 (vs := []) rfl rfl) rfl ?_
    have hb123 : Val k_Fault F w (.agg #[.int .i64 0, .int .i64 0]) (⟨(0 : Int), (0 : Int)⟩ : Fault) := mk_Fault (val_int _ _) (val_int _ _)
    refine ol_eN (f_stB hW h8 (FldS.whole _) ty_26 hb123 p8 rfl) rfl ?_
    rintro - w124 ⟨hW125, ho126, hg1, st1⟩
    obtain rfl := Option.some.inj hr
    exact ol_nil ⟨F, hW125, g8, p8, ho126⟩
  exact Ref.ret (fun s ρ w h => ⟨s, rfl, h⟩)
def post (w : World) (F : BSet) (r : R) (v : Value) (w' : World) : Prop := ∃ (F' : BSet) (v0' : Value), v = v0' ∧ Wk nrow w F F' w' ∧ Val k_Fault F' w' v0' r
theorem calls {w : World} {F : BSet} (hok : ∀ b, F b → b < w.heap.size) {v0 : Value} {a0 : (List Commit)} (h0 : SlR k_Commit F w v0 a0) {v1 : Value} {a1 : (List Bool)} (h1 : SlR kBool F w v1 a1) {v2 : Value} {a2 : (List Bool)} (h2 : SlR kBool F w v2 a2) {v3 : Value} {a3 : (List Int)} (h3 : SlR (kInt .i64) F w v3 a3) {r : R} (hf : f a0 a1 a2 a3 = some r) : Calls Try.prog 41 #[v0, v1, v2, v3] w fun e w' => ∃ v, e = .returned v ∧ post w F r v w' := by
  obtain ⟨c, hc, href⟩ := ref w F
  refine calls_of_ref (args := [v0, v1, v2, v3]) _ Try.func41 hc rfl rfl href ?_ (retOf_some hf) ?_
  · exact ⟨F, Wk.refl hok, h0, h1, h2, h3⟩
  · rintro ρ w' a ⟨s, rfl, F', hW, g8, p8, h8⟩ hF
    obtain ⟨u8, l8, k8⟩ := res_box (P := Try.prog) ty_26 h8
    refine ⟨_, run_results (rs := [.cell 8 26]) rfl hF (vs := [u8]) (⟨_, _, _, rfl, p8, l8, rfl⟩), ?_⟩
    exact ⟨F', u8, rfl, hW, k8⟩
end
end negotiate_check

namespace history_Ancestors
section
def G0 (w0 : World) (F0 : BSet) (s : S) (ρ : Env) (w : World) : Prop := ∃ (F : BSet), Wk nrow w0 F0 F w ∧ SlR k_Commit F w (ρ 0) s.commits_0 ∧ ρ 1 = .int .i64 s.n_1
def G1 (w0 : World) (F0 : BSet) (s : S) (ρ : Env) (w : World) : Prop := ∃ (F : BSet), Wk nrow w0 F0 F w ∧ ∃ (g5 : Nat), SlR k_Commit F w (ρ 0) s.commits_0 ∧ ρ 1 = .int .i64 s.n_1 ∧ ρ 5 = .pointer (some ⟨g5, 0, none⟩) ∧ Box k_Fault 26 (Bs w0 nrow) F w g5 s.t_5
def G2 (w0 : World) (F0 : BSet) (s : S) (ρ : Env) (w : World) : Prop := ∃ (F : BSet), Wk nrow w0 F0 F w ∧ ∃ (g5 : Nat) (g6 : Nat), SlR k_Commit F w (ρ 0) s.commits_0 ∧ ρ 1 = .int .i64 s.n_1 ∧ ρ 5 = .pointer (some ⟨g5, 0, none⟩) ∧ Box k_Fault 26 (Bs w0 nrow) F w g5 s.t_5 ∧ ρ 6 = .pointer (some ⟨g6, 0, none⟩) ∧ Box k_Fault 26 (Bs w0 nrow) F w g6 s.f_6 ∧ Apart (some g5) (some g6)
def G3 (w0 : World) (F0 : BSet) (s : S) (ρ : Env) (w : World) : Prop := ∃ (F : BSet), Wk nrow w0 F0 F w ∧ ∃ (g5 : Nat) (g6 : Nat), SlR k_Commit F w (ρ 0) s.commits_0 ∧ ρ 1 = .int .i64 s.n_1 ∧ ρ 5 = .pointer (some ⟨g5, 0, none⟩) ∧ Box k_Fault 26 (Bs w0 nrow) F w g5 s.t_5 ∧ ρ 6 = .pointer (some ⟨g6, 0, none⟩) ∧ Box k_Fault 26 (Bs w0 nrow) F w g6 s.f_6 ∧ ρ 15 = .bool s.t_15 ∧ Apart (some g5) (some g6)
def G4 (w0 : World) (F0 : BSet) (s : S) (ρ : Env) (w : World) : Prop := ∃ (F : BSet), Wk nrow w0 F0 F w ∧ ∃ (g5 : Nat) (g6 : Nat), ρ 5 = .pointer (some ⟨g5, 0, none⟩) ∧ Box k_Fault 26 (Bs w0 nrow) F w g5 s.t_5 ∧ ρ 6 = .pointer (some ⟨g6, 0, none⟩) ∧ Box k_Fault 26 (Bs w0 nrow) F w g6 s.f_6 ∧ Apart (some g5) (some g6)
def G5 (w0 : World) (F0 : BSet) (s : S) (ρ : Env) (w : World) : Prop := ∃ (F : BSet), Wk nrow w0 F0 F w ∧ ∃ (g5 : Nat), OwnV kBool 4 (Bs w0 nrow) F w (ρ 4) s.t_4 ∧ ρ 5 = .pointer (some ⟨g5, 0, none⟩) ∧ Box k_Fault 26 (Bs w0 nrow) F w g5 s.t_5
def G6 (w0 : World) (F0 : BSet) (s : S) (ρ : Env) (w : World) : Prop := ∃ (F : BSet), Wk nrow w0 F0 F w ∧ ∃ (g5 : Nat), SlR k_Commit F w (ρ 0) s.commits_0 ∧ ρ 1 = .int .i64 s.n_1 ∧ ρ 5 = .pointer (some ⟨g5, 0, none⟩) ∧ Box k_Fault 26 (Bs w0 nrow) F w g5 s.t_5 ∧ ρ 24 = .bool s.t_24
def G7 (w0 : World) (F0 : BSet) (s : S) (ρ : Env) (w : World) : Prop := ∃ (F : BSet), Wk nrow w0 F0 F w ∧ ∃ (g5 : Nat), ρ 5 = .pointer (some ⟨g5, 0, none⟩) ∧ Box k_Fault 26 (Bs w0 nrow) F w g5 s.t_5
def G8 (w0 : World) (F0 : BSet) (s : S) (ρ : Env) (w : World) : Prop := ∃ (F : BSet), Wk nrow w0 F0 F w ∧ ∃ (g5 : Nat), SlR k_Commit F w (ρ 0) s.commits_0 ∧ ρ 1 = .int .i64 s.n_1 ∧ ρ 5 = .pointer (some ⟨g5, 0, none⟩) ∧ Box k_Fault 26 (Bs w0 nrow) F w g5 s.t_5 ∧ OwnV kBool 4 (Bs w0 nrow) F w (ρ 7) s.out_7
def G9 (w0 : World) (F0 : BSet) (s : S) (ρ : Env) (w : World) : Prop := ∃ (F : BSet), Wk nrow w0 F0 F w ∧ ∃ (g5 : Nat), SlR k_Commit F w (ρ 0) s.commits_0 ∧ ρ 5 = .pointer (some ⟨g5, 0, none⟩) ∧ Box k_Fault 26 (Bs w0 nrow) F w g5 s.t_5 ∧ OwnV kBool 4 (Bs w0 nrow) F w (ρ 7) s.out_7 ∧ ρ 8 = .int .i64 s.i_8
def G10 (w0 : World) (F0 : BSet) (s : S) (ρ : Env) (w : World) : Prop := ∃ (F : BSet), Wk nrow w0 F0 F w ∧ ∃ (g5 : Nat), SlR k_Commit F w (ρ 0) s.commits_0 ∧ ρ 5 = .pointer (some ⟨g5, 0, none⟩) ∧ Box k_Fault 26 (Bs w0 nrow) F w g5 s.t_5 ∧ OwnV kBool 4 (Bs w0 nrow) F w (ρ 7) s.out_7 ∧ ρ 8 = .int .i64 s.i_8 ∧ ρ 34 = .bool s.t_34
def G11 (w0 : World) (F0 : BSet) (s : S) (ρ : Env) (w : World) : Prop := ∃ (F : BSet), Wk nrow w0 F0 F w ∧ ∃ (g5 : Nat), ρ 5 = .pointer (some ⟨g5, 0, none⟩) ∧ Box k_Fault 26 (Bs w0 nrow) F w g5 s.t_5 ∧ OwnV kBool 4 (Bs w0 nrow) F w (ρ 7) s.out_7
def G12 (w0 : World) (F0 : BSet) (s : S) (ρ : Env) (w : World) : Prop := ∃ (F : BSet), Wk nrow w0 F0 F w ∧ ∃ (g5 : Nat), SlR k_Commit F w (ρ 0) s.commits_0 ∧ ρ 5 = .pointer (some ⟨g5, 0, none⟩) ∧ Box k_Fault 26 (Bs w0 nrow) F w g5 s.t_5 ∧ OwnV kBool 4 (Bs w0 nrow) F w (ρ 7) s.out_7 ∧ ρ 8 = .int .i64 s.i_8 ∧ ρ 40 = .bool s.t_40
def G13 (w0 : World) (F0 : BSet) (s : S) (ρ : Env) (w : World) : Prop := ∃ (F : BSet), Wk nrow w0 F0 F w ∧ ∃ (g5 : Nat), SlR k_Commit F w (ρ 0) s.commits_0 ∧ ρ 5 = .pointer (some ⟨g5, 0, none⟩) ∧ Box k_Fault 26 (Bs w0 nrow) F w g5 s.t_5 ∧ OwnV kBool 4 (Bs w0 nrow) F w (ρ 7) s.out_7 ∧ ρ 8 = .int .i64 s.i_8 ∧ SlR (kInt .i64) F w (ρ 45) s.t_45 ∧ ρ 46 = .int .i64 s.t_46 ∧ ρ 47 = .int .i64 s.t_47
def G14 (w0 : World) (F0 : BSet) (s : S) (ρ : Env) (w : World) : Prop := ∃ (F : BSet), Wk nrow w0 F0 F w ∧ ∃ (g5 : Nat), SlR k_Commit F w (ρ 0) s.commits_0 ∧ ρ 5 = .pointer (some ⟨g5, 0, none⟩) ∧ Box k_Fault 26 (Bs w0 nrow) F w g5 s.t_5 ∧ OwnV kBool 4 (Bs w0 nrow) F w (ρ 7) s.out_7 ∧ ρ 8 = .int .i64 s.i_8 ∧ SlR (kInt .i64) F w (ρ 45) s.t_45 ∧ ρ 46 = .int .i64 s.t_46 ∧ ρ 47 = .int .i64 s.t_47 ∧ ρ 48 = .bool s.t_48
def G15 (w0 : World) (F0 : BSet) (s : S) (ρ : Env) (w : World) : Prop := ∃ (F : BSet), Wk nrow w0 F0 F w ∧ ∃ (g5 : Nat), SlR k_Commit F w (ρ 0) s.commits_0 ∧ ρ 5 = .pointer (some ⟨g5, 0, none⟩) ∧ Box k_Fault 26 (Bs w0 nrow) F w g5 s.t_5 ∧ OwnV kBool 4 (Bs w0 nrow) F w (ρ 7) s.out_7 ∧ ρ 8 = .int .i64 s.i_8 ∧ ρ 10 = .int .i64 s.p_10 ∧ SlR (kInt .i64) F w (ρ 45) s.t_45 ∧ ρ 46 = .int .i64 s.t_46 ∧ ρ 47 = .int .i64 s.t_47
set_option maxHeartbeats 4000000 in
set_option maxRecDepth 20000 in
theorem ref (w0 : World) (F0 : BSet) : ∃ c, Try.f55.body = some c ∧ Ref Try.prog 57 c (G0 w0 F0) body (fun _ _ _ => False) (fun _ _ _ _ => False) (fun r ρ w => ∃ s, retv s = r ∧ G5 w0 F0 s ρ w) := by
  refine ⟨_, rfl, ?_⟩
  unfold body
  refine Ref.seq (B := G1 w0 F0) ?_ ?_
  · refine Ref.region (fun s ρ w s' h hr => ?_)
    obtain ⟨F, hW, h0, h1⟩ := h
    refine ol_v (e_as _ rfl) rfl ?_
    refine ol_e (f_alloc zer_26 hW) rfl rfl ?_
    rintro _ w2 ⟨g1, rfl, kw1, ho3⟩
    have hW4 := hW.trans kw1
    have st1 := kw1.stp hW.ok
    obtain rfl := Option.some.inj hr
    exact ol_nil ⟨F, hW4, g1, (h0.keep st1), h1, rfl, (ho3.base (row := nrow) hW.le)⟩
  refine Ref.seq (B := G1 w0 F0) ?_ ?_
  · refine Ref.seq (B := G2 w0 F0) ?_ ?_
    · refine Ref.region (fun s ρ w s' h hr => ?_)
      obtain ⟨F, hW, g5, h0, h1, p5, h5⟩ := h
      refine ol_v (e_mv _ rfl) rfl ?_
      obtain ⟨x5, hx5, hr⟩ := bind_some' hr
      refine ol_e (f_call [(ρ 0)] fn_35 (lcons rfl rfl) (history_Validate.calls hW.ok h0 hx5)) rfl rfl ?_
      rintro v8 w6 ⟨Fz7, _, rfl, kw1, hk9⟩
      have hW11 := hW.trans kw1
      have st1 := kw1.stp hW.ok
      refine ol_e (f_alloc zer_26 hW11) rfl rfl ?_
      rintro _ w13 ⟨g12, rfl, kw2, ho14⟩
      have hW15 := hW11.trans kw2
      have st2 := kw2.stp hW11.ok
      refine ol_eN (f_stB hW15 (ho14.base (row := nrow) hW11.le) (FldS.whole _) ty_26 (hk9.keep st2) rfl rfl) rfl ?_
      rintro - w16 ⟨hW17, ho18, hg3, st3⟩
      obtain rfl := Option.some.inj hr
      exact ol_nil ⟨Fz7, hW17, g5, g12, (h0.keep (st1.trans (st2.trans st3))), h1, p5, (((h5.wk kw1 hW.ok).wk kw2 hW11.ok).mut (Apart.base (fun _ e_ => by cases e_; exact ho14.ge) (h5.wk kw1 hW.ok).ltw) hg3 st3), rfl, ho18, (Apart.base (fun _ e_ => by cases e_; exact ho14.ge) (h5.wk kw1 hW.ok).ltw).symm⟩
    refine Ref.seq (B := G3 w0 F0) ?_ ?_
    · refine Ref.region (fun s ρ w s' h hr => ?_)
      obtain ⟨F, hW, g5, g6, h0, h1, p5, h5, p6, h6, a5b_6b⟩ := h
      obtain ⟨v19, hl20⟩ := LiesAt.v (h6).at_
      refine ol_v (e_ld ty_26 hl20 p6) rfl ?_
      refine ol_v (e_bld (cells := #[.int .i64 0, .int .i64 0]) bld_26 (vs := []) rfl rfl) rfl ?_
      have hb21 : Val k_Fault F w (.agg #[.int .i64 0, .int .i64 0]) (⟨(0 : Int), (0 : Int)⟩ : Fault) := mk_Fault (val_int _ _) (val_int _ _)
      refine ol_v (e_tneq (eq_Fault_26 hl20.val hb21) rfl rfl) rfl ?_
      obtain rfl := Option.some.inj hr
      exact ol_nil ⟨F, hW, g5, g6, h0, h1, p5, h5, p6, h6, rfl, a5b_6b⟩
    refine Ref.cond (b := fun s => s.t_15) (fun s ρ w ⟨F, hW, g5, g6, h0, h1, p5, h5, p6, h6, h15, a5b_6b⟩ => h15) (Ref.pre (A := G4 w0 F0) ?_ (fun s ρ w h => (fun ⟨F, hW, g5, g6, h0, h1, p5, h5, p6, h6, h15, a5b_6b⟩ => ⟨F, hW, g5, g6, p5, h5, p6, h6, a5b_6b⟩ : G3 w0 F0 s ρ w → G4 w0 F0 s ρ w) h.2)) (Ref.pre (A := G1 w0 F0) ?_ (fun s ρ w h => (fun ⟨F, hW, g5, g6, h0, h1, p5, h5, p6, h6, h15, a5b_6b⟩ => ⟨F, hW, g5, h0, h1, p5, h5⟩ : G3 w0 F0 s ρ w → G1 w0 F0 s ρ w) h.2))
    · refine Ref.seq (B := G5 w0 F0) ?_ ?_
      · refine Ref.regionD 2 (by kernel_rfl) (by kernel_rfl) (fun s ρ w ⟨F, hW, g5, g6, p5, h5, p6, h6, a5b_6b⟩ => ⟨F, hW.drewS, g5, g6, p5, h5.wk (Wk.drew (row := nrow) hW.ok) hW.ok, p6, h6.wk (Wk.drew (row := nrow) hW.ok) hW.ok, a5b_6b⟩) (fun s ρ w s' h hr => ?_)
        obtain ⟨F, hW, g5, g6, p5, h5, p6, h6, a5b_6b⟩ := h
        obtain ⟨v22, hl23⟩ := LiesAt.v (h6).at_
        refine ol_v (e_ld ty_26 hl23 p6) rfl ?_
        refine ol_v (e_as _ rfl) rfl ?_
        refine ol_eN (f_stB hW h5 (FldS.whole _) ty_26 hl23.val p5 rfl) rfl ?_
        rintro - w24 ⟨hW25, ho26, hg1, st1⟩
        obtain rfl := Option.some.inj hr
        exact ol_nil ⟨F, hW25, g5, ((OwnV.nil kBool 4 (Bs w0 nrow) F w).mut (apart_bo h5 (OwnV.nil kBool 4 (Bs w0 nrow) F w) rfl) hg1 st1), p5, ho26⟩
      exact Ref.ret (fun s ρ w h => ⟨s, rfl, h⟩)
    · exact Ref.skip
  refine Ref.seq (B := G1 w0 F0) ?_ ?_
  · refine Ref.seq (B := G6 w0 F0) ?_ ?_
    · refine Ref.region (fun s ρ w s' h hr => ?_)
      obtain ⟨F, hW, g5, h0, h1, p5, h5⟩ := h
      refine ol_v (e_mv _ h1) rfl ?_
      refine ol_v (e_lss rfl rfl) rfl ?_
      refine ol_cutA 6 19 24 (fun ρ' w' => w = w' ∧ ρ' 24 = .bool ((decide (s.n_1 < (0 : Int))) || (decide ((s.commits_0.length : Int) ≤ s.n_1)))) rfl ?_ ?_
      · by_cases hb27 : (decide (s.n_1 < (0 : Int))) = true
        · refine ol_v (e_mv _ rfl) rfl ?_
          refine ol_not rfl rfl rfl (congrArg Value.bool hb27) rfl ?_
          refine ol_not rfl rfl rfl (congrArg Value.bool hb27) rfl ?_
          refine ol_not rfl rfl rfl (congrArg Value.bool hb27) rfl ?_
          refine ol_not rfl rfl rfl (congrArg Value.bool hb27) rfl ?_
          refine ol_v (e_pick true _ (congrArg Value.bool hb27) rfl) rfl ?_
          exact ol_nil ⟨⟨rfl, (bv_or_t hb27)⟩, (((((((Agr.refl _ _ _).upd rfl rfl).upd rfl rfl).upd rfl rfl).upd rfl rfl).upd rfl rfl).upd rfl rfl)⟩
        · have hb28 := Bool.eq_false_iff.mpr hb27
          refine ol_v (e_mv _ rfl) rfl ?_
          refine ol_yes rfl rfl (congrArg Value.bool hb28) ?_
          refine ol_v (e_mv _ h1) rfl ?_
          refine ol_yes rfl rfl (congrArg Value.bool hb28) ?_
          refine ol_v (e_mv _ rfl) rfl ?_
          refine ol_yes rfl rfl (congrArg Value.bool hb28) ?_
          obtain ⟨A29, c30, e31, hc32, R33⟩ := id h0
          refine ol_v (e_len (SlT.sl sl_22) e31) rfl ?_
          refine ol_yes rfl rfl (congrArg Value.bool hb28) ?_
          refine ol_v (e_geq rfl rfl) rfl ?_
          refine ol_v (e_pick false _ (congrArg Value.bool hb28) rfl) rfl ?_
          exact ol_nil ⟨⟨rfl, (bv_or_f hb28)⟩, (((((((Agr.refl _ _ _).upd rfl rfl).upd rfl rfl).upd rfl rfl).upd rfl rfl).upd rfl rfl).upd rfl rfl)⟩
      rintro ρ34 _ ⟨⟨rfl, hp34⟩, hAg34⟩
      obtain rfl := Option.some.inj hr
      exact ol_nil ⟨F, hW, g5, (SlR.eqv (hAg34 0 rfl) h0), ((hAg34 1 rfl).trans h1), ((hAg34 5 rfl).trans p5), h5, hp34⟩
    refine Ref.cond (b := fun s => s.t_24) (fun s ρ w ⟨F, hW, g5, h0, h1, p5, h5, h24⟩ => h24) (Ref.pre (A := G7 w0 F0) ?_ (fun s ρ w h => (fun ⟨F, hW, g5, h0, h1, p5, h5, h24⟩ => ⟨F, hW, g5, p5, h5⟩ : G6 w0 F0 s ρ w → G7 w0 F0 s ρ w) h.2)) (Ref.pre (A := G1 w0 F0) ?_ (fun s ρ w h => (fun ⟨F, hW, g5, h0, h1, p5, h5, h24⟩ => ⟨F, hW, g5, h0, h1, p5, h5⟩ : G6 w0 F0 s ρ w → G1 w0 F0 s ρ w) h.2))
    · refine Ref.seq (B := G5 w0 F0) ?_ ?_
      · refine Ref.region (fun s ρ w s' h hr => ?_)
        obtain ⟨F, hW, g5, p5, h5⟩ := h
        refine ol_v (e_bld (cells := #[.int .i64 (6), .int .i64 (-1)]) bld_26 (vs := [(0, .int .i64 (6)), (1, .int .i64 (-1))]) (lcons (congrArg (Prod.mk 0) rfl) (lcons (congrArg (Prod.mk 1) rfl) rfl)) rfl) rfl ?_
        have hb35 : Val k_Fault F w (.agg #[.int .i64 (6), .int .i64 (-1)]) (⟨(6 : Int), (-1 : Int)⟩ : Fault) := mk_Fault (val_int _ _) (val_int _ _)
        refine ol_v (e_as _ rfl) rfl ?_
        refine ol_eN (f_stB hW h5 (FldS.whole _) ty_26 hb35 p5 rfl) rfl ?_
        rintro - w36 ⟨hW37, ho38, hg1, st1⟩
        obtain rfl := Option.some.inj hr
        exact ol_nil ⟨F, hW37, g5, ((OwnV.nil kBool 4 (Bs w0 nrow) F w).mut (apart_bo h5 (OwnV.nil kBool 4 (Bs w0 nrow) F w) rfl) hg1 st1), p5, ho38⟩
      exact Ref.ret (fun s ρ w h => ⟨s, rfl, h⟩)
    · exact Ref.skip
  refine Ref.seq (B := G8 w0 F0) ?_ ?_
  · refine Ref.region (fun s ρ w s' h hr => ?_)
    obtain ⟨F, hW, g5, h0, h1, p5, h5⟩ := h
    refine ol_v (e_mv _ rfl) rfl ?_
    obtain ⟨A39, c40, e41, hc42, R43⟩ := id h0
    refine ol_v (e_len (SlT.sl sl_22) e41) rfl ?_
    obtain ⟨x44, hx44, hr⟩ := bind_some' hr
    refine ol_e (f_mks sl_46 hW rfl rfl hx44) rfl rfl ?_
    rintro v45 w46 ⟨kw1, ho47⟩
    have hW48 := hW.trans kw1
    have st1 := kw1.stp hW.ok
    refine ol_v (e_as _ rfl) rfl ?_
    obtain rfl := Option.some.inj hr
    exact ol_nil ⟨F, hW48, g5, (h0.keep st1), h1, p5, (h5.wk kw1 hW.ok), (ho47.base (row := nrow) hW.le)⟩
  refine Ref.seq (B := G8 w0 F0) ?_ ?_
  · refine Ref.region (fun s ρ w s' h hr => ?_)
    obtain ⟨F, hW, g5, h0, h1, p5, h5, h7⟩ := h
    refine ol_v (e_mv _ rfl) rfl ?_
    refine ol_v (e_mv _ h1) rfl ?_
    obtain ⟨x49, hx49, hr⟩ := bind_some' hr
    obtain ⟨g50, o51, c52, hv53, L54⟩ := OwnV.at_ h7 hx49
    refine ol_v (e_ixO sl_46 hv53 hx49 rfl rfl) rfl ?_
    refine ol_eN (f_stO hW h7 hx49 (FldS.whole _) ty_4 (val_bool _) hv53 rfl rfl) rfl ?_
    rintro - w55 ⟨hW56, ho57, hg1, st1⟩
    obtain rfl := Option.some.inj hr
    exact ol_nil ⟨F, hW56, g5, (h0.keep st1), h1, p5, (h5.mut (apart_bo h5 h7 rfl).symm hg1 st1), ho57⟩
  refine Ref.seq (B := G11 w0 F0) ?_ ?_
  · refine Ref.seq (B := G9 w0 F0) ?_ ?_
    · refine Ref.region (fun s ρ w s' h hr => ?_)
      obtain ⟨F, hW, g5, h0, h1, p5, h5, h7⟩ := h
      refine ol_v (e_mv _ h1) rfl ?_
      refine ol_v (e_as _ rfl) rfl ?_
      obtain rfl := Option.some.inj hr
      exact ol_nil ⟨F, hW, g5, h0, p5, h5, h7, rfl⟩
    refine Ref.block ?_
    refine Ref.loop ?_
    refine Ref.seq (B := G9 w0 F0) ?_ ?_
    · refine Ref.seq (B := G10 w0 F0) ?_ ?_
      · refine Ref.region (fun s ρ w s' h hr => ?_)
        obtain ⟨F, hW, g5, h0, p5, h5, h7, h8⟩ := h
        refine ol_v (e_mv _ h8) rfl ?_
        refine ol_v (e_geq rfl rfl) rfl ?_
        obtain rfl := Option.some.inj hr
        exact ol_nil ⟨F, hW, g5, h0, p5, h5, h7, h8, rfl⟩
      refine Ref.cond (b := fun s => s.t_34) (fun s ρ w ⟨F, hW, g5, h0, p5, h5, h7, h8, h34⟩ => h34) (Ref.pre (A := G9 w0 F0) ?_ (fun s ρ w h => (fun ⟨F, hW, g5, h0, p5, h5, h7, h8, h34⟩ => ⟨F, hW, g5, h0, p5, h5, h7, h8⟩ : G10 w0 F0 s ρ w → G9 w0 F0 s ρ w) h.2)) (Ref.pre (A := G11 w0 F0) ?_ (fun s ρ w h => (fun ⟨F, hW, g5, h0, p5, h5, h7, h8, h34⟩ => ⟨F, hW, g5, p5, h5, h7⟩ : G10 w0 F0 s ρ w → G11 w0 F0 s ρ w) h.2))
      · exact Ref.skip
      · exact Ref.exit (fun s ρ w h => h)
    refine Ref.seq (B := G9 w0 F0) ?_ ?_
    · refine Ref.block ?_
      refine Ref.seq (B := G12 w0 F0) ?_ ?_
      · refine Ref.region (fun s ρ w s' h hr => ?_)
        obtain ⟨F, hW, g5, h0, p5, h5, h7, h8⟩ := h
        refine ol_v (e_mv _ rfl) rfl ?_
        refine ol_v (e_mv _ h8) rfl ?_
        obtain ⟨x58, hx58, hr⟩ := bind_some' hr
        obtain ⟨g59, o60, c61, hv62, L63⟩ := OwnV.at_ h7 hx58
        refine ol_v (e_ixO sl_46 hv62 hx58 rfl rfl) rfl ?_
        refine ol_v (e_ld ty_4 (LiesV.bool L63) rfl) rfl ?_
        obtain rfl := Option.some.inj hr
        exact ol_nil ⟨F, hW, g5, h0, p5, h5, h7, h8, rfl⟩
      refine Ref.cond (b := fun s => s.t_40) (fun s ρ w ⟨F, hW, g5, h0, p5, h5, h7, h8, h40⟩ => h40) (Ref.pre (A := G9 w0 F0) ?_ (fun s ρ w h => (fun ⟨F, hW, g5, h0, p5, h5, h7, h8, h40⟩ => ⟨F, hW, g5, h0, p5, h5, h7, h8⟩ : G12 w0 F0 s ρ w → G9 w0 F0 s ρ w) h.2)) (Ref.pre (A := G9 w0 F0) ?_ (fun s ρ w h => (fun ⟨F, hW, g5, h0, p5, h5, h7, h8, h40⟩ => ⟨F, hW, g5, h0, p5, h5, h7, h8⟩ : G12 w0 F0 s ρ w → G9 w0 F0 s ρ w) h.2))
      · refine Ref.seq (B := G13 w0 F0) ?_ ?_
        · refine Ref.region (fun s ρ w s' h hr => ?_)
          obtain ⟨F, hW, g5, h0, p5, h5, h7, h8⟩ := h
          refine ol_v (e_mv _ rfl) rfl ?_
          refine ol_v (e_mv _ h8) rfl ?_
          obtain ⟨x64, hx64, hr⟩ := bind_some' hr
          obtain ⟨A65, c66, e67, hc68, R69⟩ := id h0
          obtain ⟨b70, o71, hA72, L73⟩ := Row.at_ R69 hx64
          refine ol_v (e_ix (SlT.sl sl_22) (SlT.sz sl_22) hA72 hx64 e67 rfl) rfl ?_
          refine ol_v (e_fa fa_56_0 rfl) rfl ?_
          obtain ⟨v74, hl75, hs76⟩ := LiesV.sl (L73.fld fl_Commit_0).at_
          refine ol_v (e_ld ty_23 hl75 rfl) rfl ?_
          obtain ⟨A77, c78, e79, hc80, R81⟩ := id hs76
          refine ol_v (e_len (SlT.sl sl_23) e79) rfl ?_
          refine ol_v (e_mv _ rfl) rfl ?_
          obtain rfl := Option.some.inj hr
          exact ol_nil ⟨F, hW, g5, h0, p5, h5, h7, h8, hs76, rfl, rfl⟩
        refine Ref.block ?_
        refine Ref.loop ?_
        refine Ref.seq (B := G14 w0 F0) ?_ ?_
        · refine Ref.region (fun s ρ w s' h hr => ?_)
          obtain ⟨F, hW, g5, h0, p5, h5, h7, h8, h45, h46, h47⟩ := h
          refine ol_v (e_lss h47 h46) rfl ?_
          obtain rfl := Option.some.inj hr
          exact ol_nil ⟨F, hW, g5, h0, p5, h5, h7, h8, h45, h46, h47, rfl⟩
        refine Ref.seq (B := G13 w0 F0) ?_ ?_
        · refine Ref.cond (b := fun s => s.t_48) (fun s ρ w ⟨F, hW, g5, h0, p5, h5, h7, h8, h45, h46, h47, h48⟩ => h48) (Ref.pre (A := G13 w0 F0) ?_ (fun s ρ w h => (fun ⟨F, hW, g5, h0, p5, h5, h7, h8, h45, h46, h47, h48⟩ => ⟨F, hW, g5, h0, p5, h5, h7, h8, h45, h46, h47⟩ : G14 w0 F0 s ρ w → G13 w0 F0 s ρ w) h.2)) (Ref.pre (A := G9 w0 F0) ?_ (fun s ρ w h => (fun ⟨F, hW, g5, h0, p5, h5, h7, h8, h45, h46, h47, h48⟩ => ⟨F, hW, g5, h0, p5, h5, h7, h8⟩ : G14 w0 F0 s ρ w → G9 w0 F0 s ρ w) h.2))
          · exact Ref.skip
          · exact Ref.exit (fun s ρ w h => h)
        refine Ref.seq (B := G13 w0 F0) ?_ ?_
        · refine Ref.block ?_
          refine Ref.seq (B := G15 w0 F0) ?_ ?_
          · refine Ref.region (fun s ρ w s' h hr => ?_)
            obtain ⟨F, hW, g5, h0, p5, h5, h7, h8, h45, h46, h47⟩ := h
            obtain ⟨x82, hx82, hr⟩ := bind_some' hr
            obtain ⟨A83, c84, e85, hc86, R87⟩ := id h45
            obtain ⟨b88, o89, hA90, L91⟩ := Row.at_ R87 hx82
            refine ol_v (e_ix (SlT.sl sl_23) (SlT.sz sl_23) hA90 hx82 e85 h47) rfl ?_
            refine ol_v (e_ld ty_3 (LiesV.int L91.at_) rfl) rfl ?_
            refine ol_v (e_as _ rfl) rfl ?_
            obtain rfl := Option.some.inj hr
            exact ol_nil ⟨F, hW, g5, h0, p5, h5, h7, h8, rfl, h45, h46, h47⟩
          refine Ref.region (fun s ρ w s' h hr => ?_)
          obtain ⟨F, hW, g5, h0, p5, h5, h7, h8, h10, h45, h46, h47⟩ := h
          refine ol_v (e_mv _ rfl) rfl ?_
          refine ol_v (e_mv _ h10) rfl ?_
          obtain ⟨x92, hx92, hr⟩ := bind_some' hr
          obtain ⟨g93, o94, c95, hv96, L97⟩ := OwnV.at_ h7 hx92
          refine ol_v (e_ixO sl_46 hv96 hx92 rfl rfl) rfl ?_
          refine ol_eN (f_stO hW h7 hx92 (FldS.whole _) ty_4 (val_bool _) hv96 rfl rfl) rfl ?_
          rintro - w98 ⟨hW99, ho100, hg1, st1⟩
          obtain rfl := Option.some.inj hr
          exact ol_nil ⟨F, hW99, g5, (h0.keep st1), p5, (h5.mut (apart_bo h5 h7 rfl).symm hg1 st1), ho100, h8, (h45.keep st1), h46, h47⟩
        refine Ref.region (fun s ρ w s' h hr => ?_)
        obtain ⟨F, hW, g5, h0, p5, h5, h7, h8, h45, h46, h47⟩ := h
        refine ol_v (e_add h47 rfl) rfl ?_
        refine ol_v (e_mv _ rfl) rfl ?_
        obtain rfl := Option.some.inj hr
        exact ol_nil ⟨F, hW, g5, h0, p5, h5, h7, h8, h45, h46, rfl⟩
      · exact Ref.skip
    refine Ref.region (fun s ρ w s' h hr => ?_)
    obtain ⟨F, hW, g5, h0, p5, h5, h7, h8⟩ := h
    refine ol_v (e_mv _ h8) rfl ?_
    refine ol_v (e_sub rfl rfl) rfl ?_
    refine ol_v (e_as _ rfl) rfl ?_
    obtain rfl := Option.some.inj hr
    exact ol_nil ⟨F, hW, g5, h0, p5, h5, h7, rfl⟩
  refine Ref.seq (B := G5 w0 F0) ?_ ?_
  · refine Ref.region (fun s ρ w s' h hr => ?_)
    obtain ⟨F, hW, g5, p5, h5, h7⟩ := h
    refine ol_v (e_mv _ rfl) rfl ?_
    refine ol_v (e_bld (cells := #[.int .i64 0, .int .i64 0]) bld_26 (vs := []) rfl rfl) rfl ?_
    have hb101 : Val k_Fault F w (.agg #[.int .i64 0, .int .i64 0]) (⟨(0 : Int), (0 : Int)⟩ : Fault) := mk_Fault (val_int _ _) (val_int _ _)
    refine ol_v (e_as _ rfl) rfl ?_
    refine ol_eN (f_stB hW h5 (FldS.whole _) ty_26 hb101 p5 rfl) rfl ?_
    rintro - w102 ⟨hW103, ho104, hg1, st1⟩
    obtain rfl := Option.some.inj hr
    exact ol_nil ⟨F, hW103, g5, (h7.mut (apart_bo h5 h7 rfl) hg1 st1), p5, ho104⟩
  exact Ref.ret (fun s ρ w h => ⟨s, rfl, h⟩)
def post (w : World) (F : BSet) (r : R) (v : Value) (w' : World) : Prop := ∃ (F' : BSet) (v0' : Value) (v1' : Value), v = .tuple #[v0', v1'] ∧ Wk nrow w F F' w' ∧ OwnV kBool 4 (Nw w) F' w' v0' r.1 ∧ Val k_Fault F' w' v1' r.2
theorem calls {w : World} {F : BSet} (hok : ∀ b, F b → b < w.heap.size) {v0 : Value} {a0 : (List Commit)} (h0 : SlR k_Commit F w v0 a0) (a1 : Int) {r : R} (hf : f a0 a1 = some r) : Calls Try.prog 55 #[v0, .int .i64 a1] w fun e w' => ∃ v, e = .returned v ∧ post w F r v w' := by
  obtain ⟨c, hc, href⟩ := ref w F
  refine calls_of_ref (args := [v0, .int .i64 a1]) _ Try.func55 hc rfl rfl href ?_ (retOf_some hf) ?_
  · exact ⟨F, Wk.refl hok, h0, rfl⟩
  · rintro ρ w' a ⟨s, rfl, F', hW, g5, h4, p5, h5⟩ hF
    obtain ⟨u5, l5, k5⟩ := res_box (P := Try.prog) ty_26 h5
    refine ⟨_, run_results (rs := [.tmp 4, .cell 5 26]) rfl hF (vs := [ρ 4, u5]) (⟨_, rfl, ⟨_, _, _, rfl, p5, l5, rfl⟩⟩), ?_⟩
    exact ⟨F', ρ 4, u5, rfl, hW, h4.rebase (fun g hg => (h4.lt hg).1.resolve_right (fun h => h)), k5⟩
end
end history_Ancestors

namespace negotiate_mark
section
def G0 (u1 : Value) (w0 : World) (F0 : BSet) (s : S) (ρ : Env) (w : World) : Prop := ∃ (F : BSet), Wk (ob u1.ownBlock) w0 F0 F w ∧ SlR k_Commit F w (ρ 0) s.commits_0 ∧ ρ 1 = u1 ∧ OwnV kBool 4 (Bs w0 (ob u1.ownBlock)) F w u1 s.in_1 ∧ ρ 2 = .int .i64 s.n_2
def G1 (u1 : Value) (w0 : World) (F0 : BSet) (s : S) (ρ : Env) (w : World) : Prop := ∃ (F : BSet), Wk (ob u1.ownBlock) w0 F0 F w ∧ ρ 1 = u1 ∧ OwnV kBool 4 (Bs w0 (ob u1.ownBlock)) F w u1 s.in_1 ∧ SlR kBool F w (ρ 6) s.before_6
def G2 (u1 : Value) (w0 : World) (F0 : BSet) (s : S) (ρ : Env) (w : World) : Prop := ∃ (F : BSet), Wk (ob u1.ownBlock) w0 F0 F w ∧ ρ 1 = u1 ∧ OwnV kBool 4 (Bs w0 (ob u1.ownBlock)) F w u1 s.in_1 ∧ SlR kBool F w (ρ 16) s.t_16 ∧ ρ 17 = .int .i64 s.t_17 ∧ ρ 18 = .int .i64 s.t_18
def G3 (u1 : Value) (w0 : World) (F0 : BSet) (s : S) (ρ : Env) (w : World) : Prop := ∃ (F : BSet), Wk (ob u1.ownBlock) w0 F0 F w ∧ ρ 1 = u1 ∧ OwnV kBool 4 (Bs w0 (ob u1.ownBlock)) F w u1 s.in_1 ∧ SlR kBool F w (ρ 16) s.t_16 ∧ ρ 17 = .int .i64 s.t_17 ∧ ρ 18 = .int .i64 s.t_18 ∧ ρ 19 = .bool s.t_19
def G4 (u1 : Value) (w0 : World) (F0 : BSet) (s : S) (ρ : Env) (w : World) : Prop := ∃ (F : BSet), Wk (ob u1.ownBlock) w0 F0 F w ∧ ρ 1 = u1 ∧ OwnV kBool 4 (Bs w0 (ob u1.ownBlock)) F w u1 s.in_1
def G5 (u1 : Value) (w0 : World) (F0 : BSet) (s : S) (ρ : Env) (w : World) : Prop := ∃ (F : BSet), Wk (ob u1.ownBlock) w0 F0 F w ∧ ρ 1 = u1 ∧ OwnV kBool 4 (Bs w0 (ob u1.ownBlock)) F w u1 s.in_1 ∧ ρ 8 = .int .i64 s.i_8 ∧ ρ 9 = .bool s.is_9 ∧ SlR kBool F w (ρ 16) s.t_16 ∧ ρ 17 = .int .i64 s.t_17 ∧ ρ 18 = .int .i64 s.t_18
set_option maxHeartbeats 4000000 in
set_option maxRecDepth 20000 in
theorem ref (u1 : Value) (w0 : World) (F0 : BSet) : ∃ c, Try.f44.body = some c ∧ Ref Try.prog 34 c (G0 u1 w0 F0) body (G4 u1 w0 F0) (fun _ _ _ _ => False) (fun r ρ w => ∃ s, retv s = r ∧ G4 u1 w0 F0 s ρ w) := by
  refine ⟨_, rfl, ?_⟩
  unfold body
  refine Ref.seq (B := G1 u1 w0 F0) ?_ ?_
  · refine Ref.region (fun s ρ w s' h hr => ?_)
    obtain ⟨F, hW, h0, p1, h1, h2⟩ := h
    refine ol_v (e_mv _ rfl) rfl ?_
    refine ol_v (e_mv _ h2) rfl ?_
    obtain ⟨x1, hx1, hr⟩ := bind_some' hr
    refine ol_e (f_call [(ρ 0), .int .i64 s.n_2] fn_55 (lcons rfl (lcons rfl rfl)) (history_Ancestors.calls hW.ok h0 s.n_2 hx1)) rfl rfl ?_
    rintro _ w2 ⟨Fz3, v4, v6, rfl, kw1, hk5, hk7⟩
    have hW9 := hW.trans kw1
    have st1 := kw1.stp hW.ok
    refine ol_v (e_mv _ rfl) rfl ?_
    refine ol_v (e_ext _ rfl rfl) rfl ?_
    refine ol_v (e_ext _ rfl rfl) rfl ?_
    refine ol_e (f_alloc zer_26 hW9) rfl rfl ?_
    rintro _ w11 ⟨g10, rfl, kw2, ho12⟩
    have hW13 := hW9.trans kw2
    have st2 := kw2.stp hW9.ok
    obtain ⟨Fz14, hWz15, st3, hF3, hz16⟩ := (((hk5.base (row := (ob u1.ownBlock)) hW.le).wk kw2 hW9.ok)).frozenN (fun g_ hg_ => Nat.le_trans hW.le (hk5.lt hg_).1) hW13
    refine ol_v (e_as _ rfl) rfl ?_
    refine ol_eN (f_stB hWz15 ((ho12.base (row := (ob u1.ownBlock)) hW9.le).frz (apart_bo (ho12.base (row := (ob u1.ownBlock)) hW9.le) ((hk5.base (row := (ob u1.ownBlock)) hW.le).wk kw2 hW9.ok) rfl).symm hF3 st3) (FldS.whole _) ty_26 (hk7.keep (st2.trans st3)) rfl rfl) rfl ?_
    rintro - w17 ⟨hW18, ho19, hg4, st4⟩
    obtain rfl := Option.some.inj hr
    exact ol_nil ⟨Fz14, hW18, p1, ((((h1.wk kw1 hW.ok).wk kw2 hW9.ok).frz (Apart.base (fun g_ hg_ => (hk5.lt hg_).1) h1.ltw) hF3 st3).mut (apart_bo ((ho12.base (row := (ob u1.ownBlock)) hW9.le).frz (apart_bo (ho12.base (row := (ob u1.ownBlock)) hW9.le) ((hk5.base (row := (ob u1.ownBlock)) hW.le).wk kw2 hW9.ok) rfl).symm hF3 st3) (((h1.wk kw1 hW.ok).wk kw2 hW9.ok).frz (Apart.base (fun g_ hg_ => (hk5.lt hg_).1) h1.ltw) hF3 st3) rfl) hg4 st4), (hz16.keep st4)⟩
  refine Ref.seq (B := G2 u1 w0 F0) ?_ ?_
  · refine Ref.region (fun s ρ w s' h hr => ?_)
    obtain ⟨F, hW, p1, h1, h6⟩ := h
    refine ol_v (e_mv _ rfl) rfl ?_
    obtain ⟨A20, c21, e22, hc23, R24⟩ := id h6
    refine ol_v (e_len (SlT.sl sl_46) e22) rfl ?_
    refine ol_v (e_mv _ rfl) rfl ?_
    obtain rfl := Option.some.inj hr
    exact ol_nil ⟨F, hW, p1, h1, h6, rfl, rfl⟩
  refine Ref.block ?_
  refine Ref.loop ?_
  refine Ref.seq (B := G3 u1 w0 F0) ?_ ?_
  · refine Ref.region (fun s ρ w s' h hr => ?_)
    obtain ⟨F, hW, p1, h1, h16, h17, h18⟩ := h
    refine ol_v (e_lss h18 h17) rfl ?_
    obtain rfl := Option.some.inj hr
    exact ol_nil ⟨F, hW, p1, h1, h16, h17, h18, rfl⟩
  refine Ref.seq (B := G2 u1 w0 F0) ?_ ?_
  · refine Ref.cond (b := fun s => s.t_19) (fun s ρ w ⟨F, hW, p1, h1, h16, h17, h18, h19⟩ => h19) (Ref.pre (A := G2 u1 w0 F0) ?_ (fun s ρ w h => (fun ⟨F, hW, p1, h1, h16, h17, h18, h19⟩ => ⟨F, hW, p1, h1, h16, h17, h18⟩ : G3 u1 w0 F0 s ρ w → G2 u1 w0 F0 s ρ w) h.2)) (Ref.pre (A := G4 u1 w0 F0) ?_ (fun s ρ w h => (fun ⟨F, hW, p1, h1, h16, h17, h18, h19⟩ => ⟨F, hW, p1, h1⟩ : G3 u1 w0 F0 s ρ w → G4 u1 w0 F0 s ρ w) h.2))
    · exact Ref.skip
    · exact Ref.exit (fun s ρ w h => h)
  refine Ref.seq (B := G2 u1 w0 F0) ?_ ?_
  · refine Ref.block ?_
    refine Ref.seq (B := G5 u1 w0 F0) ?_ ?_
    · refine Ref.region (fun s ρ w s' h hr => ?_)
      obtain ⟨F, hW, p1, h1, h16, h17, h18⟩ := h
      refine ol_v (e_mv _ h18) rfl ?_
      obtain ⟨x25, hx25, hr⟩ := bind_some' hr
      obtain ⟨A26, c27, e28, hc29, R30⟩ := id h16
      obtain ⟨b31, o32, hA33, L34⟩ := Row.at_ R30 hx25
      refine ol_v (e_ix (SlT.sl sl_46) (SlT.sz sl_46) hA33 hx25 e28 h18) rfl ?_
      refine ol_v (e_ld ty_4 (LiesV.bool L34.at_) rfl) rfl ?_
      refine ol_v (e_as _ rfl) rfl ?_
      refine ol_v (e_as _ rfl) rfl ?_
      obtain rfl := Option.some.inj hr
      exact ol_nil ⟨F, hW, p1, h1, rfl, rfl, h16, h17, h18⟩
    refine Ref.region (fun s ρ w s' h hr => ?_)
    obtain ⟨F, hW, p1, h1, h8, h9, h16, h17, h18⟩ := h
    refine ol_v (e_mv _ p1) rfl ?_
    refine ol_v (e_mv _ h8) rfl ?_
    refine ol_v (e_mv _ p1) rfl ?_
    refine ol_v (e_mv _ h8) rfl ?_
    obtain ⟨x35, hx35, hr⟩ := bind_some' hr
    obtain ⟨g36, o37, c38, hv39, L40⟩ := OwnV.at_ h1 hx35
    refine ol_v (e_ixO sl_46 hv39 hx35 rfl rfl) rfl ?_
    refine ol_v (e_ld ty_4 (LiesV.bool L40) rfl) rfl ?_
    refine ol_cutA 3 29 31 (fun ρ' w' => w = w' ∧ ρ' 31 = .bool (x35 || s.is_9)) rfl ?_ ?_
    · by_cases hb41 : x35 = true
      · refine ol_v (e_mv _ rfl) rfl ?_
        refine ol_not rfl rfl rfl (congrArg Value.bool hb41) rfl ?_
        refine ol_v (e_pick true _ (congrArg Value.bool hb41) rfl) rfl ?_
        exact ol_nil ⟨⟨rfl, (bv_or_t hb41)⟩, ((((Agr.refl _ _ _).upd rfl rfl).upd rfl rfl).upd rfl rfl)⟩
      · have hb42 := Bool.eq_false_iff.mpr hb41
        refine ol_v (e_mv _ rfl) rfl ?_
        refine ol_yes rfl rfl (congrArg Value.bool hb42) ?_
        refine ol_v (e_mv _ h9) rfl ?_
        refine ol_v (e_pick false _ (congrArg Value.bool hb42) rfl) rfl ?_
        exact ol_nil ⟨⟨rfl, (bv_or_f hb42)⟩, ((((Agr.refl _ _ _).upd rfl rfl).upd rfl rfl).upd rfl rfl)⟩
    rintro ρ43 _ ⟨⟨rfl, hp43⟩, hAg43⟩
    obtain ⟨x44, hx44, hr⟩ := bind_some' hr
    obtain ⟨g45, o46, c47, hv48, L49⟩ := OwnV.at_ h1 hx44
    refine ol_v (e_ixO sl_46 hv48 hx44 (hAg43 23 rfl) (hAg43 24 rfl)) rfl ?_
    refine ol_eN (f_stO hW h1 hx44 (FldS.whole _) ty_4 (val_bool _) hv48 rfl hp43) rfl ?_
    rintro - w50 ⟨hW51, ho52, hg1, st1⟩
    obtain rfl := Option.some.inj hr
    exact ol_nil ⟨F, hW51, ((hAg43 1 rfl).trans p1), ho52, (SlR.eqv (hAg43 16 rfl) (h16.keep st1)), ((hAg43 17 rfl).trans h17), ((hAg43 18 rfl).trans h18)⟩
  refine Ref.region (fun s ρ w s' h hr => ?_)
  obtain ⟨F, hW, p1, h1, h16, h17, h18⟩ := h
  refine ol_v (e_add h18 rfl) rfl ?_
  refine ol_v (e_mv _ rfl) rfl ?_
  obtain rfl := Option.some.inj hr
  exact ol_nil ⟨F, hW, p1, h1, h16, h17, rfl⟩
def post (v1 : Value) (w : World) (F : BSet) (r : R) (v : Value) (w' : World) : Prop := ∃ (F' : BSet), v = .tuple #[] ∧ Wk (ob v1.ownBlock) w F F' w' ∧ OwnV kBool 4 (fun _ => True) F' w' v1 r
theorem calls {w : World} {F : BSet} (hok : ∀ b, F b → b < w.heap.size) {v0 : Value} {a0 : (List Commit)} (h0 : SlR k_Commit F w v0 a0) {v1 : Value} {a1 : (List Bool)} (h1 : OwnV kBool 4 (fun _ => True) F w v1 a1) (a2 : Int) {r : R} (hf : f a0 a1 a2 = some r) : Calls Try.prog 44 #[v0, v1, .int .i64 a2] w fun e w' => ∃ v, e = .returned v ∧ post v1 w F r v w' := by
  obtain ⟨c, hc, href⟩ := ref v1 w F
  refine calls_of_refN (args := [v0, v1, .int .i64 a2]) _ Try.func44 hc rfl rfl href ?_ hf (fun s ρ w h => ⟨s, rfl, h⟩) ?_
  · exact ⟨F, Wk.refl hok, h0, rfl, (h1.rebase (fun g hg => .inr hg)), rfl⟩
  · rintro ρ w' a ⟨s, rfl, F', hW, p1, h1⟩ hF
    refine ⟨_, run_results (rs := []) rfl hF (vs := []) (rfl), ?_⟩
    exact ⟨F', rfl, hW, h1.rebase (fun _ _ => trivial)⟩
end
end negotiate_mark

namespace negotiate_missing
section
def G0 (w0 : World) (F0 : BSet) (s : S) (ρ : Env) (w : World) : Prop := ∃ (F : BSet), Wk nrow w0 F0 F w ∧ SlR k_Commit F w (ρ 0) s.commits_0 ∧ SlR (kInt .i64) F w (ρ 1) s.wants_1 ∧ SlR kBool F w (ρ 2) s.have_2
def G1 (w0 : World) (F0 : BSet) (s : S) (ρ : Env) (w : World) : Prop := ∃ (F : BSet), Wk nrow w0 F0 F w ∧ SlR k_Commit F w (ρ 0) s.commits_0 ∧ SlR (kInt .i64) F w (ρ 1) s.wants_1 ∧ SlR kBool F w (ρ 2) s.have_2 ∧ OwnV kBool 4 (Bs w0 nrow) F w (ρ 7) s.in_7
def G2 (w0 : World) (F0 : BSet) (s : S) (ρ : Env) (w : World) : Prop := ∃ (F : BSet), Wk nrow w0 F0 F w ∧ SlR k_Commit F w (ρ 0) s.commits_0 ∧ SlR kBool F w (ρ 2) s.have_2 ∧ OwnV kBool 4 (Bs w0 nrow) F w (ρ 7) s.in_7 ∧ SlR (kInt .i64) F w (ρ 16) s.t_16 ∧ ρ 17 = .int .i64 s.t_17 ∧ ρ 18 = .int .i64 s.t_18
def G3 (w0 : World) (F0 : BSet) (s : S) (ρ : Env) (w : World) : Prop := ∃ (F : BSet), Wk nrow w0 F0 F w ∧ SlR k_Commit F w (ρ 0) s.commits_0 ∧ SlR kBool F w (ρ 2) s.have_2 ∧ OwnV kBool 4 (Bs w0 nrow) F w (ρ 7) s.in_7 ∧ SlR (kInt .i64) F w (ρ 16) s.t_16 ∧ ρ 17 = .int .i64 s.t_17 ∧ ρ 18 = .int .i64 s.t_18 ∧ ρ 19 = .bool s.t_19
def G4 (w0 : World) (F0 : BSet) (s : S) (ρ : Env) (w : World) : Prop := ∃ (F : BSet), Wk nrow w0 F0 F w ∧ SlR kBool F w (ρ 2) s.have_2 ∧ OwnV kBool 4 (Bs w0 nrow) F w (ρ 7) s.in_7
def G5 (w0 : World) (F0 : BSet) (s : S) (ρ : Env) (w : World) : Prop := ∃ (F : BSet), Wk nrow w0 F0 F w ∧ SlR k_Commit F w (ρ 0) s.commits_0 ∧ SlR kBool F w (ρ 2) s.have_2 ∧ OwnV kBool 4 (Bs w0 nrow) F w (ρ 7) s.in_7 ∧ ρ 9 = .int .i64 s.n_9 ∧ SlR (kInt .i64) F w (ρ 16) s.t_16 ∧ ρ 17 = .int .i64 s.t_17 ∧ ρ 18 = .int .i64 s.t_18
def G6 (w0 : World) (F0 : BSet) (s : S) (ρ : Env) (w : World) : Prop := ∃ (F : BSet), Wk nrow w0 F0 F w ∧ SlR kBool F w (ρ 2) s.have_2 ∧ OwnV kBool 4 (Bs w0 nrow) F w (ρ 7) s.in_7 ∧ OwnV (kInt .i64) 3 (Bs w0 nrow) F w (ρ 10) s.out_10
def G7 (w0 : World) (F0 : BSet) (s : S) (ρ : Env) (w : World) : Prop := ∃ (F : BSet), Wk nrow w0 F0 F w ∧ SlR kBool F w (ρ 2) s.have_2 ∧ OwnV kBool 4 (Bs w0 nrow) F w (ρ 7) s.in_7 ∧ OwnV (kInt .i64) 3 (Bs w0 nrow) F w (ρ 10) s.out_10 ∧ ρ 27 = ρ 7 ∧ ρ 28 = .int .i64 s.t_28 ∧ ρ 29 = .int .i64 s.t_29
def G8 (w0 : World) (F0 : BSet) (s : S) (ρ : Env) (w : World) : Prop := ∃ (F : BSet), Wk nrow w0 F0 F w ∧ SlR kBool F w (ρ 2) s.have_2 ∧ OwnV kBool 4 (Bs w0 nrow) F w (ρ 7) s.in_7 ∧ OwnV (kInt .i64) 3 (Bs w0 nrow) F w (ρ 10) s.out_10 ∧ ρ 27 = ρ 7 ∧ ρ 28 = .int .i64 s.t_28 ∧ ρ 29 = .int .i64 s.t_29 ∧ ρ 30 = .bool s.t_30
def G9 (w0 : World) (F0 : BSet) (s : S) (ρ : Env) (w : World) : Prop := ∃ (F : BSet), Wk nrow w0 F0 F w ∧ OwnV (kInt .i64) 3 (Bs w0 nrow) F w (ρ 10) s.out_10
def G10 (w0 : World) (F0 : BSet) (s : S) (ρ : Env) (w : World) : Prop := ∃ (F : BSet), Wk nrow w0 F0 F w ∧ SlR kBool F w (ρ 2) s.have_2 ∧ OwnV kBool 4 (Bs w0 nrow) F w (ρ 7) s.in_7 ∧ OwnV (kInt .i64) 3 (Bs w0 nrow) F w (ρ 10) s.out_10 ∧ ρ 11 = .int .i64 s.i_11 ∧ ρ 12 = .bool s.is_12 ∧ ρ 27 = ρ 7 ∧ ρ 28 = .int .i64 s.t_28 ∧ ρ 29 = .int .i64 s.t_29
def G11 (w0 : World) (F0 : BSet) (s : S) (ρ : Env) (w : World) : Prop := ∃ (F : BSet), Wk nrow w0 F0 F w ∧ SlR kBool F w (ρ 2) s.have_2 ∧ OwnV kBool 4 (Bs w0 nrow) F w (ρ 7) s.in_7 ∧ OwnV (kInt .i64) 3 (Bs w0 nrow) F w (ρ 10) s.out_10 ∧ ρ 11 = .int .i64 s.i_11 ∧ ρ 27 = ρ 7 ∧ ρ 28 = .int .i64 s.t_28 ∧ ρ 29 = .int .i64 s.t_29 ∧ ρ 41 = .bool s.t_41
def G12 (w0 : World) (F0 : BSet) (s : S) (ρ : Env) (w : World) : Prop := ∃ (F : BSet), Wk nrow w0 F0 F w ∧ SlR kBool F w (ρ 2) s.have_2 ∧ OwnV kBool 4 (Bs w0 nrow) F w (ρ 7) s.in_7 ∧ OwnV (kInt .i64) 3 (Bs w0 nrow) F w (ρ 10) s.out_10 ∧ ρ 11 = .int .i64 s.i_11 ∧ ρ 27 = ρ 7 ∧ ρ 28 = .int .i64 s.t_28 ∧ ρ 29 = .int .i64 s.t_29
def G13 (w0 : World) (F0 : BSet) (s : S) (ρ : Env) (w : World) : Prop := ∃ (F : BSet), Wk nrow w0 F0 F w ∧ OwnV (kInt .i64) 3 (Bs w0 nrow) F w (ρ 6) s.t_6
set_option maxHeartbeats 4000000 in
set_option maxRecDepth 20000 in
theorem ref (w0 : World) (F0 : BSet) : ∃ c, Try.f42.body = some c ∧ Ref Try.prog 48 c (G0 w0 F0) body (fun _ _ _ => False) (fun _ _ _ _ => False) (fun r ρ w => ∃ s, retv s = r ∧ G13 w0 F0 s ρ w) := by
  refine ⟨_, rfl, ?_⟩
  unfold body
  refine Ref.seq (B := G0 w0 F0) ?_ ?_
  · refine Ref.region (fun s ρ w s' h hr => ?_)
    obtain ⟨F, hW, h0, h1, h2⟩ := h
    refine ol_v (e_as _ rfl) rfl ?_
    obtain rfl := Option.some.inj hr
    exact ol_nil ⟨F, hW, h0, h1, h2⟩
  refine Ref.seq (B := G1 w0 F0) ?_ ?_
  · refine Ref.region (fun s ρ w s' h hr => ?_)
    obtain ⟨F, hW, h0, h1, h2⟩ := h
    refine ol_v (e_mv _ rfl) rfl ?_
    obtain ⟨A1, c2, e3, hc4, R5⟩ := id h0
    refine ol_v (e_len (SlT.sl sl_22) e3) rfl ?_
    obtain ⟨x6, hx6, hr⟩ := bind_some' hr
    refine ol_e (f_mks sl_46 hW rfl rfl hx6) rfl rfl ?_
    rintro v7 w8 ⟨kw1, ho9⟩
    have hW10 := hW.trans kw1
    have st1 := kw1.stp hW.ok
    refine ol_v (e_as _ rfl) rfl ?_
    obtain rfl := Option.some.inj hr
    exact ol_nil ⟨F, hW10, (h0.keep st1), (h1.keep st1), (h2.keep st1), (ho9.base (row := nrow) hW.le)⟩
  refine Ref.seq (B := G4 w0 F0) ?_ ?_
  · refine Ref.seq (B := G2 w0 F0) ?_ ?_
    · refine Ref.region (fun s ρ w s' h hr => ?_)
      obtain ⟨F, hW, h0, h1, h2, h7⟩ := h
      refine ol_v (e_mv _ rfl) rfl ?_
      obtain ⟨A11, c12, e13, hc14, R15⟩ := id h1
      refine ol_v (e_len (SlT.sl sl_23) e13) rfl ?_
      refine ol_v (e_mv _ rfl) rfl ?_
      obtain rfl := Option.some.inj hr
      exact ol_nil ⟨F, hW, h0, h2, h7, h1, rfl, rfl⟩
    refine Ref.block ?_
    refine Ref.loop ?_
    refine Ref.seq (B := G3 w0 F0) ?_ ?_
    · refine Ref.region (fun s ρ w s' h hr => ?_)
      obtain ⟨F, hW, h0, h2, h7, h16, h17, h18⟩ := h
      refine ol_v (e_lss h18 h17) rfl ?_
      obtain rfl := Option.some.inj hr
      exact ol_nil ⟨F, hW, h0, h2, h7, h16, h17, h18, rfl⟩
    refine Ref.seq (B := G2 w0 F0) ?_ ?_
    · refine Ref.cond (b := fun s => s.t_19) (fun s ρ w ⟨F, hW, h0, h2, h7, h16, h17, h18, h19⟩ => h19) (Ref.pre (A := G2 w0 F0) ?_ (fun s ρ w h => (fun ⟨F, hW, h0, h2, h7, h16, h17, h18, h19⟩ => ⟨F, hW, h0, h2, h7, h16, h17, h18⟩ : G3 w0 F0 s ρ w → G2 w0 F0 s ρ w) h.2)) (Ref.pre (A := G4 w0 F0) ?_ (fun s ρ w h => (fun ⟨F, hW, h0, h2, h7, h16, h17, h18, h19⟩ => ⟨F, hW, h2, h7⟩ : G3 w0 F0 s ρ w → G4 w0 F0 s ρ w) h.2))
      · exact Ref.skip
      · exact Ref.exit (fun s ρ w h => h)
    refine Ref.seq (B := G2 w0 F0) ?_ ?_
    · refine Ref.block ?_
      refine Ref.seq (B := G5 w0 F0) ?_ ?_
      · refine Ref.region (fun s ρ w s' h hr => ?_)
        obtain ⟨F, hW, h0, h2, h7, h16, h17, h18⟩ := h
        obtain ⟨x16, hx16, hr⟩ := bind_some' hr
        obtain ⟨A17, c18, e19, hc20, R21⟩ := id h16
        obtain ⟨b22, o23, hA24, L25⟩ := Row.at_ R21 hx16
        refine ol_v (e_ix (SlT.sl sl_23) (SlT.sz sl_23) hA24 hx16 e19 h18) rfl ?_
        refine ol_v (e_ld ty_3 (LiesV.int L25.at_) rfl) rfl ?_
        refine ol_v (e_as _ rfl) rfl ?_
        obtain rfl := Option.some.inj hr
        exact ol_nil ⟨F, hW, h0, h2, h7, rfl, h16, h17, h18⟩
      refine Ref.region (fun s ρ w s' h hr => ?_)
      obtain ⟨F, hW, h0, h2, h7, h9, h16, h17, h18⟩ := h
      refine ol_v (e_mv _ rfl) rfl ?_
      refine ol_v (e_mv _ rfl) rfl ?_
      refine ol_v (e_mv _ h9) rfl ?_
      obtain ⟨x26, hx26, hr⟩ := bind_some' hr
      refine ol_e (f_call [(ρ 0), (ρ 7), .int .i64 s.n_9] fn_44 (lcons rfl (lcons rfl (lcons rfl rfl))) (negotiate_mark.calls hW.ok h0 (OwnV.rebase h7 (fun _ _ => trivial)) s.n_9 hx26)) rfl rfl ?_
      rintro _ w27 ⟨Fz28, rfl, kw1, hk29⟩
      have hB31 := fun g hg => (OwnV.lt h7 (g := g) hg).1
      have st1 := kw1.stpR hW.ok (fun g hg => (OwnV.lt h7 hg).2.1)
      have hW30 := hW.transR kw1 hB31
      obtain rfl := Option.some.inj hr
      exact ol_nil ⟨Fz28, hW30, (h0.keep st1), (h2.keep st1), (hk29.rebase hB31), (h16.keep st1), h17, h18⟩
    refine Ref.region (fun s ρ w s' h hr => ?_)
    obtain ⟨F, hW, h0, h2, h7, h16, h17, h18⟩ := h
    refine ol_v (e_add h18 rfl) rfl ?_
    refine ol_v (e_mv _ rfl) rfl ?_
    obtain rfl := Option.some.inj hr
    exact ol_nil ⟨F, hW, h0, h2, h7, h16, h17, rfl⟩
  refine Ref.seq (B := G6 w0 F0) ?_ ?_
  · refine Ref.region (fun s ρ w s' h hr => ?_)
    obtain ⟨F, hW, h2, h7⟩ := h
    refine ol_v (e_as _ rfl) rfl ?_
    obtain rfl := Option.some.inj hr
    exact ol_nil ⟨F, hW, h2, h7, (OwnV.nil (kInt .i64) 3 (Bs w0 nrow) F w)⟩
  refine Ref.seq (B := G9 w0 F0) ?_ ?_
  · refine Ref.seq (B := G7 w0 F0) ?_ ?_
    · refine Ref.region (fun s ρ w s' h hr => ?_)
      obtain ⟨F, hW, h2, h7, h10⟩ := h
      refine ol_v (e_mv _ rfl) rfl ?_
      obtain ⟨A32, c33, e34, hc35⟩ := h7.shape
      refine ol_v (e_len (SlT.sl sl_46) e34) rfl ?_
      refine ol_v (e_mv _ rfl) rfl ?_
      obtain rfl := Option.some.inj hr
      exact ol_nil ⟨F, hW, h2, h7, h10, rfl, rfl, rfl⟩
    refine Ref.block ?_
    refine Ref.loop ?_
    refine Ref.seq (B := G8 w0 F0) ?_ ?_
    · refine Ref.region (fun s ρ w s' h hr => ?_)
      obtain ⟨F, hW, h2, h7, h10, h27, h28, h29⟩ := h
      refine ol_v (e_lss h29 h28) rfl ?_
      obtain rfl := Option.some.inj hr
      exact ol_nil ⟨F, hW, h2, h7, h10, h27, h28, h29, rfl⟩
    refine Ref.seq (B := G7 w0 F0) ?_ ?_
    · refine Ref.cond (b := fun s => s.t_30) (fun s ρ w ⟨F, hW, h2, h7, h10, h27, h28, h29, h30⟩ => h30) (Ref.pre (A := G7 w0 F0) ?_ (fun s ρ w h => (fun ⟨F, hW, h2, h7, h10, h27, h28, h29, h30⟩ => ⟨F, hW, h2, h7, h10, h27, h28, h29⟩ : G8 w0 F0 s ρ w → G7 w0 F0 s ρ w) h.2)) (Ref.pre (A := G9 w0 F0) ?_ (fun s ρ w h => (fun ⟨F, hW, h2, h7, h10, h27, h28, h29, h30⟩ => ⟨F, hW, h10⟩ : G8 w0 F0 s ρ w → G9 w0 F0 s ρ w) h.2))
      · exact Ref.skip
      · exact Ref.exit (fun s ρ w h => h)
    refine Ref.seq (B := G7 w0 F0) ?_ ?_
    · refine Ref.block ?_
      refine Ref.seq (B := G10 w0 F0) ?_ ?_
      · refine Ref.region (fun s ρ w s' h hr => ?_)
        obtain ⟨F, hW, h2, h7, h10, h27, h28, h29⟩ := h
        refine ol_v (e_mv _ h29) rfl ?_
        obtain ⟨x36, hx36, hr⟩ := bind_some' hr
        obtain ⟨g37, o38, c39, hv40, L41⟩ := OwnV.at_ h7 hx36
        refine ol_v (e_ixO sl_46 hv40 hx36 h27 h29) rfl ?_
        refine ol_v (e_ld ty_4 (LiesV.bool L41) rfl) rfl ?_
        refine ol_v (e_as _ rfl) rfl ?_
        refine ol_v (e_as _ rfl) rfl ?_
        obtain rfl := Option.some.inj hr
        exact ol_nil ⟨F, hW, h2, h7, h10, rfl, rfl, h27, h28, h29⟩
      refine Ref.seq (B := G11 w0 F0) ?_ ?_
      · refine Ref.region (fun s ρ w s' h hr => ?_)
        obtain ⟨F, hW, h2, h7, h10, h11, h12, h27, h28, h29⟩ := h
        refine ol_v (e_mv _ h12) rfl ?_
        obtain ⟨x54, hx55, hr⟩ := bind_some' hr
        refine ol_cutA 7 35 41 (fun ρ' w' => w = w' ∧ ρ' 41 = .bool x54) rfl ?_ ?_
        · by_cases hb42 : s.is_12 = true
          · have hr := hx55
            rw [if_pos hb42] at hr
            refine ol_v (e_mv _ rfl) rfl ?_
            refine ol_yes rfl rfl (congrArg Value.bool hb42) ?_
            refine ol_v (e_mv _ rfl) rfl ?_
            refine ol_yes rfl rfl (congrArg Value.bool hb42) ?_
            refine ol_v (e_mv _ h11) rfl ?_
            refine ol_yes rfl rfl (congrArg Value.bool hb42) ?_
            obtain ⟨x44, hx44, hr⟩ := bind_some' hr
            obtain ⟨A45, c46, e47, hc48, R49⟩ := id h2
            obtain ⟨b50, o51, hA52, L53⟩ := Row.at_ R49 hx44
            refine ol_v (e_ix (SlT.sl sl_46) (SlT.sz sl_46) hA52 hx44 e47 rfl) rfl ?_
            refine ol_yes rfl rfl (congrArg Value.bool hb42) ?_
            refine ol_v (e_ld ty_4 (LiesV.bool L53.at_) rfl) rfl ?_
            refine ol_yes rfl rfl (congrArg Value.bool hb42) ?_
            refine ol_v (e_not_ rfl) rfl ?_
            refine ol_v (e_pick true _ (congrArg Value.bool hb42) rfl) rfl ?_
            exact ol_nil ⟨⟨rfl, (congrArg Value.bool (Option.some.inj hr))⟩, ((((((((Agr.refl _ _ _).upd rfl rfl).upd rfl rfl).upd rfl rfl).upd rfl rfl).upd rfl rfl).upd rfl rfl).upd rfl rfl)⟩
          · have hb43 := Bool.eq_false_iff.mpr hb42
            have hr := hx55
            rw [if_neg hb42] at hr
            refine ol_v (e_mv _ rfl) rfl ?_
            refine ol_not rfl rfl rfl (congrArg Value.bool hb43) rfl ?_
            refine ol_not rfl rfl rfl (congrArg Value.bool hb43) rfl ?_
            refine ol_not rfl rfl rfl (congrArg Value.bool hb43) rfl ?_
            refine ol_not rfl rfl rfl (congrArg Value.bool hb43) rfl ?_
            refine ol_not rfl rfl rfl (congrArg Value.bool hb43) rfl ?_
            refine ol_v (e_pick false _ (congrArg Value.bool hb43) rfl) rfl ?_
            exact ol_nil ⟨⟨rfl, (congrArg Value.bool (Option.some.inj hr))⟩, ((((((((Agr.refl _ _ _).upd rfl rfl).upd rfl rfl).upd rfl rfl).upd rfl rfl).upd rfl rfl).upd rfl rfl).upd rfl rfl)⟩
        rintro ρ55 _ ⟨⟨rfl, hp55⟩, hAg55⟩
        obtain rfl := Option.some.inj hr
        exact ol_nil ⟨F, hW, (SlR.eqv (hAg55 2 rfl) h2), (OwnV.eqv (hAg55 7 rfl) h7), (OwnV.eqv (hAg55 10 rfl) h10), ((hAg55 11 rfl).trans h11), (((hAg55 27 rfl).trans h27).trans (Eq.symm (hAg55 7 rfl))), ((hAg55 28 rfl).trans h28), ((hAg55 29 rfl).trans h29), hp55⟩
      refine Ref.cond (b := fun s => s.t_41) (fun s ρ w ⟨F, hW, h2, h7, h10, h11, h27, h28, h29, h41⟩ => h41) (Ref.pre (A := G12 w0 F0) ?_ (fun s ρ w h => (fun ⟨F, hW, h2, h7, h10, h11, h27, h28, h29, h41⟩ => ⟨F, hW, h2, h7, h10, h11, h27, h28, h29⟩ : G11 w0 F0 s ρ w → G12 w0 F0 s ρ w) h.2)) (Ref.pre (A := G7 w0 F0) ?_ (fun s ρ w h => (fun ⟨F, hW, h2, h7, h10, h11, h27, h28, h29, h41⟩ => ⟨F, hW, h2, h7, h10, h27, h28, h29⟩ : G11 w0 F0 s ρ w → G7 w0 F0 s ρ w) h.2))
      · refine Ref.region (fun s ρ w s' h hr => ?_)
        obtain ⟨F, hW, h2, h7, h10, h11, h27, h28, h29⟩ := h
        refine ol_v (e_mv _ rfl) rfl ?_
        refine ol_v (e_mv _ h11) rfl ?_
        refine ol_e (f_bslF sl_23 hW ([s.i_11] : List Int) [.int .i64 s.i_11] (by exact ⟨_, _, rfl, (val_int _ _), rfl⟩) rfl (Nat.le_of_ble_eq_true rfl) (lcons (congrArg (Prod.mk 0) rfl) rfl)) rfl rfl ?_
        rintro v56 w57 ⟨Fz59, kw1, ho58⟩
        have hW60 := hW.trans kw1
        have st1 := kw1.stp hW.ok
        obtain ⟨x61, hx61, hr⟩ := bind_some' hr
        refine ol_e (f_app sl_23 hW60 (h10.wk kw1 hW.ok) ho58 hx61 rfl rfl) rfl rfl ?_
        rintro v62 w63 ⟨hW64, ho65, hg2, st2, hor66⟩
        refine ol_v (e_as _ rfl) rfl ?_
        obtain rfl := Option.some.inj hr
        exact ol_nil ⟨Fz59, hW64, (h2.keep (st1.trans st2)), ((h7.wk kw1 hW.ok).mut (apart_oo (h10.wk kw1 hW.ok) (h7.wk kw1 hW.ok) rfl) hg2 st2), ho65, h27, h28, h29⟩
      · exact Ref.skip
    refine Ref.region (fun s ρ w s' h hr => ?_)
    obtain ⟨F, hW, h2, h7, h10, h27, h28, h29⟩ := h
    refine ol_v (e_add h29 rfl) rfl ?_
    refine ol_v (e_mv _ rfl) rfl ?_
    obtain rfl := Option.some.inj hr
    exact ol_nil ⟨F, hW, h2, h7, h10, h27, h28, rfl⟩
  refine Ref.seq (B := G13 w0 F0) ?_ ?_
  · refine Ref.region (fun s ρ w s' h hr => ?_)
    obtain ⟨F, hW, h10⟩ := h
    refine ol_v (e_mv _ rfl) rfl ?_
    refine ol_v (e_as _ rfl) rfl ?_
    obtain rfl := Option.some.inj hr
    exact ol_nil ⟨F, hW, h10⟩
  exact Ref.ret (fun s ρ w h => ⟨s, rfl, h⟩)
def post (w : World) (F : BSet) (r : R) (v : Value) (w' : World) : Prop := ∃ (F' : BSet) (v0' : Value), v = v0' ∧ Wk nrow w F F' w' ∧ OwnV (kInt .i64) 3 (Nw w) F' w' v0' r
theorem calls {w : World} {F : BSet} (hok : ∀ b, F b → b < w.heap.size) {v0 : Value} {a0 : (List Commit)} (h0 : SlR k_Commit F w v0 a0) {v1 : Value} {a1 : (List Int)} (h1 : SlR (kInt .i64) F w v1 a1) {v2 : Value} {a2 : (List Bool)} (h2 : SlR kBool F w v2 a2) {r : R} (hf : f a0 a1 a2 = some r) : Calls Try.prog 42 #[v0, v1, v2] w fun e w' => ∃ v, e = .returned v ∧ post w F r v w' := by
  obtain ⟨c, hc, href⟩ := ref w F
  refine calls_of_ref (args := [v0, v1, v2]) _ Try.func42 hc rfl rfl href ?_ (retOf_some hf) ?_
  · exact ⟨F, Wk.refl hok, h0, h1, h2⟩
  · rintro ρ w' a ⟨s, rfl, F', hW, h6⟩ hF
    refine ⟨_, run_results (rs := [.tmp 6]) rfl hF (vs := [ρ 6]) (⟨_, rfl, rfl⟩), ?_⟩
    exact ⟨F', ρ 6, rfl, hW, h6.rebase (fun g hg => (h6.lt hg).1.resolve_right (fun h => h))⟩
end
end negotiate_missing

namespace negotiate_Missing
section
def G0 (w0 : World) (F0 : BSet) (s : S) (ρ : Env) (w : World) : Prop := ∃ (F : BSet), Wk nrow w0 F0 F w ∧ SlR k_Commit F w (ρ 0) s.commits_0 ∧ SlR kBool F w (ρ 1) s.sender_1 ∧ SlR kBool F w (ρ 2) s.receiver_2 ∧ SlR (kInt .i64) F w (ρ 3) s.wants_3
def G1 (w0 : World) (F0 : BSet) (s : S) (ρ : Env) (w : World) : Prop := ∃ (F : BSet), Wk nrow w0 F0 F w ∧ ∃ (g9 : Nat), SlR k_Commit F w (ρ 0) s.commits_0 ∧ SlR kBool F w (ρ 1) s.sender_1 ∧ SlR kBool F w (ρ 2) s.receiver_2 ∧ SlR (kInt .i64) F w (ρ 3) s.wants_3 ∧ ρ 9 = .pointer (some ⟨g9, 0, none⟩) ∧ Box k_Fault 26 (Bs w0 nrow) F w g9 s.t_9
def G2 (w0 : World) (F0 : BSet) (s : S) (ρ : Env) (w : World) : Prop := ∃ (F : BSet), Wk nrow w0 F0 F w ∧ ∃ (g9 : Nat) (g10 : Nat), SlR k_Commit F w (ρ 0) s.commits_0 ∧ SlR kBool F w (ρ 2) s.receiver_2 ∧ SlR (kInt .i64) F w (ρ 3) s.wants_3 ∧ ρ 9 = .pointer (some ⟨g9, 0, none⟩) ∧ Box k_Fault 26 (Bs w0 nrow) F w g9 s.t_9 ∧ ρ 10 = .pointer (some ⟨g10, 0, none⟩) ∧ Box k_Fault 26 (Bs w0 nrow) F w g10 s.f_10 ∧ Apart (some g9) (some g10)
def G3 (w0 : World) (F0 : BSet) (s : S) (ρ : Env) (w : World) : Prop := ∃ (F : BSet), Wk nrow w0 F0 F w ∧ ∃ (g9 : Nat) (g10 : Nat), SlR k_Commit F w (ρ 0) s.commits_0 ∧ SlR kBool F w (ρ 2) s.receiver_2 ∧ SlR (kInt .i64) F w (ρ 3) s.wants_3 ∧ ρ 9 = .pointer (some ⟨g9, 0, none⟩) ∧ Box k_Fault 26 (Bs w0 nrow) F w g9 s.t_9 ∧ ρ 10 = .pointer (some ⟨g10, 0, none⟩) ∧ Box k_Fault 26 (Bs w0 nrow) F w g10 s.f_10 ∧ ρ 18 = .bool s.t_18 ∧ Apart (some g9) (some g10)
def G4 (w0 : World) (F0 : BSet) (s : S) (ρ : Env) (w : World) : Prop := ∃ (F : BSet), Wk nrow w0 F0 F w ∧ ∃ (g9 : Nat) (g10 : Nat), ρ 9 = .pointer (some ⟨g9, 0, none⟩) ∧ Box k_Fault 26 (Bs w0 nrow) F w g9 s.t_9 ∧ ρ 10 = .pointer (some ⟨g10, 0, none⟩) ∧ Box k_Fault 26 (Bs w0 nrow) F w g10 s.f_10 ∧ Apart (some g9) (some g10)
def G5 (w0 : World) (F0 : BSet) (s : S) (ρ : Env) (w : World) : Prop := ∃ (F : BSet), Wk nrow w0 F0 F w ∧ ∃ (g9 : Nat), SlR k_Commit F w (ρ 0) s.commits_0 ∧ SlR kBool F w (ρ 2) s.receiver_2 ∧ SlR (kInt .i64) F w (ρ 3) s.wants_3 ∧ ρ 9 = .pointer (some ⟨g9, 0, none⟩) ∧ Box k_Fault 26 (Bs w0 nrow) F w g9 s.t_9
def G6 (w0 : World) (F0 : BSet) (s : S) (ρ : Env) (w : World) : Prop := ∃ (F : BSet), Wk nrow w0 F0 F w ∧ ∃ (g9 : Nat), OwnV (kInt .i64) 3 (Bs w0 nrow) F w (ρ 8) s.t_8 ∧ ρ 9 = .pointer (some ⟨g9, 0, none⟩) ∧ Box k_Fault 26 (Bs w0 nrow) F w g9 s.t_9
set_option maxHeartbeats 4000000 in
set_option maxRecDepth 20000 in
theorem ref (w0 : World) (F0 : BSet) : ∃ c, Try.f28.body = some c ∧ Ref Try.prog 25 c (G0 w0 F0) body (fun _ _ _ => False) (fun _ _ _ _ => False) (fun r ρ w => ∃ s, retv s = r ∧ G6 w0 F0 s ρ w) := by
  refine ⟨_, rfl, ?_⟩
  unfold body
  refine Ref.seq (B := G1 w0 F0) ?_ ?_
  · refine Ref.region (fun s ρ w s' h hr => ?_)
    obtain ⟨F, hW, h0, h1, h2, h3⟩ := h
    refine ol_v (e_as _ rfl) rfl ?_
    refine ol_e (f_alloc zer_26 hW) rfl rfl ?_
    rintro _ w2 ⟨g1, rfl, kw1, ho3⟩
    have hW4 := hW.trans kw1
    have st1 := kw1.stp hW.ok
    obtain rfl := Option.some.inj hr
    exact ol_nil ⟨F, hW4, g1, (h0.keep st1), (h1.keep st1), (h2.keep st1), (h3.keep st1), rfl, (ho3.base (row := nrow) hW.le)⟩
  refine Ref.seq (B := G5 w0 F0) ?_ ?_
  · refine Ref.seq (B := G2 w0 F0) ?_ ?_
    · refine Ref.region (fun s ρ w s' h hr => ?_)
      obtain ⟨F, hW, g9, h0, h1, h2, h3, p9, h9⟩ := h
      refine ol_v (e_mv _ rfl) rfl ?_
      refine ol_v (e_mv _ rfl) rfl ?_
      refine ol_v (e_mv _ rfl) rfl ?_
      refine ol_v (e_mv _ rfl) rfl ?_
      obtain ⟨x5, hx5, hr⟩ := bind_some' hr
      refine ol_e (f_call [(ρ 0), (ρ 1), (ρ 2), (ρ 3)] fn_41 (lcons rfl (lcons rfl (lcons rfl (lcons rfl rfl)))) (negotiate_check.calls hW.ok h0 h1 h2 h3 hx5)) rfl rfl ?_
      rintro v8 w6 ⟨Fz7, _, rfl, kw1, hk9⟩
      have hW11 := hW.trans kw1
      have st1 := kw1.stp hW.ok
      refine ol_e (f_alloc zer_26 hW11) rfl rfl ?_
      rintro _ w13 ⟨g12, rfl, kw2, ho14⟩
      have hW15 := hW11.trans kw2
      have st2 := kw2.stp hW11.ok
      refine ol_eN (f_stB hW15 (ho14.base (row := nrow) hW11.le) (FldS.whole _) ty_26 (hk9.keep st2) rfl rfl) rfl ?_
      rintro - w16 ⟨hW17, ho18, hg3, st3⟩
      obtain rfl := Option.some.inj hr
      exact ol_nil ⟨Fz7, hW17, g9, g12, (h0.keep (st1.trans (st2.trans st3))), (h2.keep (st1.trans (st2.trans st3))), (h3.keep (st1.trans (st2.trans st3))), p9, (((h9.wk kw1 hW.ok).wk kw2 hW11.ok).mut (Apart.base (fun _ e_ => by cases e_; exact ho14.ge) (h9.wk kw1 hW.ok).ltw) hg3 st3), rfl, ho18, (Apart.base (fun _ e_ => by cases e_; exact ho14.ge) (h9.wk kw1 hW.ok).ltw).symm⟩
    refine Ref.seq (B := G3 w0 F0) ?_ ?_
    · refine Ref.region (fun s ρ w s' h hr => ?_)
      obtain ⟨F, hW, g9, g10, h0, h2, h3, p9, h9, p10, h10, a9b_10b⟩ := h
      obtain ⟨v19, hl20⟩ := LiesAt.v (h10).at_
      refine ol_v (e_ld ty_26 hl20 p10) rfl ?_
      refine ol_v (e_bld (cells := #[.int .i64 0, .int .i64 0]) bld_26 (vs := []) rfl rfl) rfl ?_
      have hb21 : Val k_Fault F w (.agg #[.int .i64 0, .int .i64 0]) (⟨(0 : Int), (0 : Int)⟩ : Fault) := mk_Fault (val_int _ _) (val_int _ _)
      refine ol_v (e_tneq (eq_Fault_26 hl20.val hb21) rfl rfl) rfl ?_
      obtain rfl := Option.some.inj hr
      exact ol_nil ⟨F, hW, g9, g10, h0, h2, h3, p9, h9, p10, h10, rfl, a9b_10b⟩
    refine Ref.cond (b := fun s => s.t_18) (fun s ρ w ⟨F, hW, g9, g10, h0, h2, h3, p9, h9, p10, h10, h18, a9b_10b⟩ => h18) (Ref.pre (A := G4 w0 F0) ?_ (fun s ρ w h => (fun ⟨F, hW, g9, g10, h0, h2, h3, p9, h9, p10, h10, h18, a9b_10b⟩ => ⟨F, hW, g9, g10, p9, h9, p10, h10, a9b_10b⟩ : G3 w0 F0 s ρ w → G4 w0 F0 s ρ w) h.2)) (Ref.pre (A := G5 w0 F0) ?_ (fun s ρ w h => (fun ⟨F, hW, g9, g10, h0, h2, h3, p9, h9, p10, h10, h18, a9b_10b⟩ => ⟨F, hW, g9, h0, h2, h3, p9, h9⟩ : G3 w0 F0 s ρ w → G5 w0 F0 s ρ w) h.2))
    · refine Ref.seq (B := G6 w0 F0) ?_ ?_
      · refine Ref.regionD 2 (by kernel_rfl) (by kernel_rfl) (fun s ρ w ⟨F, hW, g9, g10, p9, h9, p10, h10, a9b_10b⟩ => ⟨F, hW.drewS, g9, g10, p9, h9.wk (Wk.drew (row := nrow) hW.ok) hW.ok, p10, h10.wk (Wk.drew (row := nrow) hW.ok) hW.ok, a9b_10b⟩) (fun s ρ w s' h hr => ?_)
        obtain ⟨F, hW, g9, g10, p9, h9, p10, h10, a9b_10b⟩ := h
        obtain ⟨v22, hl23⟩ := LiesAt.v (h10).at_
        refine ol_v (e_ld ty_26 hl23 p10) rfl ?_
        refine ol_v (e_as _ rfl) rfl ?_
        refine ol_eN (f_stB hW h9 (FldS.whole _) ty_26 hl23.val p9 rfl) rfl ?_
        rintro - w24 ⟨hW25, ho26, hg1, st1⟩
        obtain rfl := Option.some.inj hr
        exact ol_nil ⟨F, hW25, g9, ((OwnV.nil (kInt .i64) 3 (Bs w0 nrow) F w).mut (apart_bo h9 (OwnV.nil (kInt .i64) 3 (Bs w0 nrow) F w) rfl) hg1 st1), p9, ho26⟩
      exact Ref.ret (fun s ρ w h => ⟨s, rfl, h⟩)
    · exact Ref.skip
  refine Ref.seq (B := G6 w0 F0) ?_ ?_
  · refine Ref.region (fun s ρ w s' h hr => ?_)
    obtain ⟨F, hW, g9, h0, h2, h3, p9, h9⟩ := h
    refine ol_v (e_mv _ rfl) rfl ?_
    refine ol_v (e_mv _ rfl) rfl ?_
    refine ol_v (e_mv _ rfl) rfl ?_
    obtain ⟨x27, hx27, hr⟩ := bind_some' hr
    refine ol_e (f_call [(ρ 0), (ρ 3), (ρ 2)] fn_42 (lcons rfl (lcons rfl (lcons rfl rfl))) (negotiate_missing.calls hW.ok h0 h3 h2 hx27)) rfl rfl ?_
    rintro v30 w28 ⟨Fz29, _, rfl, kw1, hk31⟩
    have hW33 := hW.trans kw1
    have st1 := kw1.stp hW.ok
    refine ol_v (e_bld (cells := #[.int .i64 0, .int .i64 0]) bld_26 (vs := []) rfl rfl) rfl ?_
    have hb34 : Val k_Fault Fz29 w28 (.agg #[.int .i64 0, .int .i64 0]) (⟨(0 : Int), (0 : Int)⟩ : Fault) := mk_Fault (val_int _ _) (val_int _ _)
    refine ol_v (e_as _ rfl) rfl ?_
    refine ol_eN (f_stB hW33 (h9.wk kw1 hW.ok) (FldS.whole _) ty_26 hb34 p9 rfl) rfl ?_
    rintro - w35 ⟨hW36, ho37, hg2, st2⟩
    obtain rfl := Option.some.inj hr
    exact ol_nil ⟨Fz29, hW36, g9, ((hk31.base (row := nrow) hW.le).mut (apart_bo (h9.wk kw1 hW.ok) (hk31.base (row := nrow) hW.le) rfl) hg2 st2), p9, ho37⟩
  exact Ref.ret (fun s ρ w h => ⟨s, rfl, h⟩)
def post (w : World) (F : BSet) (r : R) (v : Value) (w' : World) : Prop := ∃ (F' : BSet) (v0' : Value) (v1' : Value), v = .tuple #[v0', v1'] ∧ Wk nrow w F F' w' ∧ OwnV (kInt .i64) 3 (Nw w) F' w' v0' r.1 ∧ Val k_Fault F' w' v1' r.2
theorem calls {w : World} {F : BSet} (hok : ∀ b, F b → b < w.heap.size) {v0 : Value} {a0 : (List Commit)} (h0 : SlR k_Commit F w v0 a0) {v1 : Value} {a1 : (List Bool)} (h1 : SlR kBool F w v1 a1) {v2 : Value} {a2 : (List Bool)} (h2 : SlR kBool F w v2 a2) {v3 : Value} {a3 : (List Int)} (h3 : SlR (kInt .i64) F w v3 a3) {r : R} (hf : f a0 a1 a2 a3 = some r) : Calls Try.prog 28 #[v0, v1, v2, v3] w fun e w' => ∃ v, e = .returned v ∧ post w F r v w' := by
  obtain ⟨c, hc, href⟩ := ref w F
  refine calls_of_ref (args := [v0, v1, v2, v3]) _ Try.func28 hc rfl rfl href ?_ (retOf_some hf) ?_
  · exact ⟨F, Wk.refl hok, h0, h1, h2, h3⟩
  · rintro ρ w' a ⟨s, rfl, F', hW, g9, h8, p9, h9⟩ hF
    obtain ⟨u9, l9, k9⟩ := res_box (P := Try.prog) ty_26 h9
    refine ⟨_, run_results (rs := [.tmp 8, .cell 9 26]) rfl hF (vs := [ρ 8, u9]) (⟨_, rfl, ⟨_, _, _, rfl, p9, l9, rfl⟩⟩), ?_⟩
    exact ⟨F', ρ 8, u9, rfl, hW, h8.rebase (fun g hg => (h8.lt hg).1.resolve_right (fun h => h)), k9⟩
end
end negotiate_Missing

namespace slices_MaxFunc_int_int
section
def G0 (w0 : World) (F0 : BSet) (s : S) (ρ : Env) (w : World) : Prop := ∃ (F : BSet), Wk nrow w0 F0 F w ∧ SlR (kInt .i64) F w (ρ 0) s.x_0 ∧ Val (kFn Try.prog (ra2 (kInt .i64) (kInt .i64)) (fun r => (.int .i64 r : Value))) F w (ρ 1) s.cmp_1
def G1 (w0 : World) (F0 : BSet) (s : S) (ρ : Env) (w : World) : Prop := ∃ (F : BSet), Wk nrow w0 F0 F w ∧ SlR (kInt .i64) F w (ρ 0) s.x_0 ∧ Val (kFn Try.prog (ra2 (kInt .i64) (kInt .i64)) (fun r => (.int .i64 r : Value))) F w (ρ 1) s.cmp_1 ∧ ρ 9 = .bool s.t_9
def G2 (w0 : World) (F0 : BSet) (s : S) (ρ : Env) (w : World) : Prop := ∃ (F : BSet), Wk nrow w0 F0 F w ∧ SlR (kInt .i64) F w (ρ 0) s.x_0 ∧ Val (kFn Try.prog (ra2 (kInt .i64) (kInt .i64)) (fun r => (.int .i64 r : Value))) F w (ρ 1) s.cmp_1 ∧ ρ 5 = .int .i64 s.m_5
def G3 (w0 : World) (F0 : BSet) (s : S) (ρ : Env) (w : World) : Prop := ∃ (F : BSet), Wk nrow w0 F0 F w ∧ SlR (kInt .i64) F w (ρ 0) s.x_0 ∧ Val (kFn Try.prog (ra2 (kInt .i64) (kInt .i64)) (fun r => (.int .i64 r : Value))) F w (ρ 1) s.cmp_1 ∧ ρ 5 = .int .i64 s.m_5 ∧ ρ 6 = .int .i64 s.i_6
def G4 (w0 : World) (F0 : BSet) (s : S) (ρ : Env) (w : World) : Prop := ∃ (F : BSet), Wk nrow w0 F0 F w ∧ SlR (kInt .i64) F w (ρ 0) s.x_0 ∧ Val (kFn Try.prog (ra2 (kInt .i64) (kInt .i64)) (fun r => (.int .i64 r : Value))) F w (ρ 1) s.cmp_1 ∧ ρ 5 = .int .i64 s.m_5 ∧ ρ 6 = .int .i64 s.i_6 ∧ ρ 17 = .bool s.t_17
def G5 (w0 : World) (F0 : BSet) (s : S) (ρ : Env) (w : World) : Prop := ∃ (F : BSet), Wk nrow w0 F0 F w ∧ ρ 5 = .int .i64 s.m_5
def G6 (w0 : World) (F0 : BSet) (s : S) (ρ : Env) (w : World) : Prop := ∃ (F : BSet), Wk nrow w0 F0 F w ∧ SlR (kInt .i64) F w (ρ 0) s.x_0 ∧ Val (kFn Try.prog (ra2 (kInt .i64) (kInt .i64)) (fun r => (.int .i64 r : Value))) F w (ρ 1) s.cmp_1 ∧ ρ 5 = .int .i64 s.m_5 ∧ ρ 6 = .int .i64 s.i_6 ∧ ρ 27 = .bool s.t_27
def G7 (w0 : World) (F0 : BSet) (s : S) (ρ : Env) (w : World) : Prop := ∃ (F : BSet), Wk nrow w0 F0 F w ∧ SlR (kInt .i64) F w (ρ 0) s.x_0 ∧ Val (kFn Try.prog (ra2 (kInt .i64) (kInt .i64)) (fun r => (.int .i64 r : Value))) F w (ρ 1) s.cmp_1 ∧ ρ 6 = .int .i64 s.i_6
def G8 (w0 : World) (F0 : BSet) (s : S) (ρ : Env) (w : World) : Prop := ∃ (F : BSet), Wk nrow w0 F0 F w ∧ ρ 4 = .int .i64 s.t_4
set_option maxHeartbeats 4000000 in
set_option maxRecDepth 20000 in
theorem ref (w0 : World) (F0 : BSet) : ∃ c, Try.f51.body = some c ∧ Ref Try.prog 33 c (G0 w0 F0) body (fun _ _ _ => False) (fun _ _ _ _ => False) (fun r ρ w => ∃ s, retv s = r ∧ G8 w0 F0 s ρ w) := by
  refine ⟨_, rfl, ?_⟩
  unfold body
  refine Ref.seq (B := G0 w0 F0) ?_ ?_
  · refine Ref.region (fun s ρ w s' h hr => ?_)
    obtain ⟨F, hW, h0, h1⟩ := h
    refine ol_v (e_as _ rfl) rfl ?_
    obtain rfl := Option.some.inj hr
    exact ol_nil ⟨F, hW, h0, h1⟩
  refine Ref.seq (B := G0 w0 F0) ?_ ?_
  · refine Ref.seq (B := G1 w0 F0) ?_ ?_
    · refine Ref.region (fun s ρ w s' h hr => ?_)
      obtain ⟨F, hW, h0, h1⟩ := h
      refine ol_v (e_mv _ rfl) rfl ?_
      obtain ⟨A1, c2, e3, hc4, R5⟩ := id h0
      refine ol_v (e_len (SlT.sl sl_23) e3) rfl ?_
      refine ol_v (e_lss rfl rfl) rfl ?_
      obtain rfl := Option.some.inj hr
      exact ol_nil ⟨F, hW, h0, h1, rfl⟩
    refine Ref.cond (b := fun s => s.t_9) (fun s ρ w ⟨F, hW, h0, h1, h9⟩ => h9) (Ref.pre (A := G0 w0 F0) ?_ (fun s ρ w h => (fun ⟨F, hW, h0, h1, h9⟩ => ⟨F, hW, h0, h1⟩ : G1 w0 F0 s ρ w → G0 w0 F0 s ρ w) h.2)) (Ref.pre (A := G0 w0 F0) ?_ (fun s ρ w h => (fun ⟨F, hW, h0, h1, h9⟩ => ⟨F, hW, h0, h1⟩ : G1 w0 F0 s ρ w → G0 w0 F0 s ρ w) h.2))
    · refine Ref.region (fun s ρ w s' h hr => ?_)
      cases hr
    · exact Ref.skip
  refine Ref.seq (B := G2 w0 F0) ?_ ?_
  · refine Ref.region (fun s ρ w s' h hr => ?_)
    obtain ⟨F, hW, h0, h1⟩ := h
    refine ol_v (e_mv _ rfl) rfl ?_
    obtain ⟨x6, hx6, hr⟩ := bind_some' hr
    obtain ⟨A7, c8, e9, hc10, R11⟩ := id h0
    obtain ⟨b12, o13, hA14, L15⟩ := Row.at_ R11 hx6
    refine ol_v (e_ix (SlT.sl sl_23) (SlT.sz sl_23) hA14 hx6 e9 rfl) rfl ?_
    refine ol_v (e_ld ty_3 (LiesV.int L15.at_) rfl) rfl ?_
    refine ol_v (e_as _ rfl) rfl ?_
    obtain rfl := Option.some.inj hr
    exact ol_nil ⟨F, hW, h0, h1, rfl⟩
  refine Ref.seq (B := G5 w0 F0) ?_ ?_
  · refine Ref.seq (B := G3 w0 F0) ?_ ?_
    · refine Ref.region (fun s ρ w s' h hr => ?_)
      obtain ⟨F, hW, h0, h1, h5⟩ := h
      refine ol_v (e_as _ rfl) rfl ?_
      obtain rfl := Option.some.inj hr
      exact ol_nil ⟨F, hW, h0, h1, h5, rfl⟩
    refine Ref.block ?_
    refine Ref.loop ?_
    refine Ref.seq (B := G3 w0 F0) ?_ ?_
    · refine Ref.seq (B := G4 w0 F0) ?_ ?_
      · refine Ref.region (fun s ρ w s' h hr => ?_)
        obtain ⟨F, hW, h0, h1, h5, h6⟩ := h
        refine ol_v (e_mv _ h6) rfl ?_
        refine ol_v (e_mv _ rfl) rfl ?_
        obtain ⟨A16, c17, e18, hc19, R20⟩ := id h0
        refine ol_v (e_len (SlT.sl sl_23) e18) rfl ?_
        refine ol_v (e_lss rfl rfl) rfl ?_
        obtain rfl := Option.some.inj hr
        exact ol_nil ⟨F, hW, h0, h1, h5, h6, rfl⟩
      refine Ref.cond (b := fun s => s.t_17) (fun s ρ w ⟨F, hW, h0, h1, h5, h6, h17⟩ => h17) (Ref.pre (A := G3 w0 F0) ?_ (fun s ρ w h => (fun ⟨F, hW, h0, h1, h5, h6, h17⟩ => ⟨F, hW, h0, h1, h5, h6⟩ : G4 w0 F0 s ρ w → G3 w0 F0 s ρ w) h.2)) (Ref.pre (A := G5 w0 F0) ?_ (fun s ρ w h => (fun ⟨F, hW, h0, h1, h5, h6, h17⟩ => ⟨F, hW, h5⟩ : G4 w0 F0 s ρ w → G5 w0 F0 s ρ w) h.2))
      · exact Ref.skip
      · exact Ref.exit (fun s ρ w h => h)
    refine Ref.seq (B := G3 w0 F0) ?_ ?_
    · refine Ref.block ?_
      refine Ref.seq (B := G6 w0 F0) ?_ ?_
      · refine Ref.region (fun s ρ w s' h hr => ?_)
        obtain ⟨F, hW, h0, h1, h5, h6⟩ := h
        refine ol_v (e_mv _ rfl) rfl ?_
        refine ol_v (e_mv _ rfl) rfl ?_
        refine ol_v (e_mv _ h6) rfl ?_
        obtain ⟨x21, hx21, hr⟩ := bind_some' hr
        obtain ⟨A22, c23, e24, hc25, R26⟩ := id h0
        obtain ⟨b27, o28, hA29, L30⟩ := Row.at_ R26 hx21
        refine ol_v (e_ix (SlT.sl sl_23) (SlT.sz sl_23) hA29 hx21 e24 rfl) rfl ?_
        refine ol_v (e_ld ty_3 (LiesV.int L30.at_) rfl) rfl ?_
        refine ol_v (e_mv _ h5) rfl ?_
        obtain ⟨x31, hx31, hr⟩ := bind_some' hr
        refine ol_e (f_callV [.int .i64 x21, .int .i64 s.m_5] h1 hW.ok rfl (lcons rfl (lcons rfl rfl)) ⟨_, _, rfl, (val_int _ _), (val_int _ _)⟩ hx31) rfl rfl ?_
        rintro _ w32 ⟨rfl, kw1⟩
        have hW33 := hW.trans kw1
        have st1 := kw1.stp hW.ok
        refine ol_v (e_gtr rfl rfl) rfl ?_
        obtain rfl := Option.some.inj hr
        exact ol_nil ⟨F, hW33, (h0.keep st1), (h1.keep st1), h5, h6, rfl⟩
      refine Ref.cond (b := fun s => s.t_27) (fun s ρ w ⟨F, hW, h0, h1, h5, h6, h27⟩ => h27) (Ref.pre (A := G7 w0 F0) ?_ (fun s ρ w h => (fun ⟨F, hW, h0, h1, h5, h6, h27⟩ => ⟨F, hW, h0, h1, h6⟩ : G6 w0 F0 s ρ w → G7 w0 F0 s ρ w) h.2)) (Ref.pre (A := G3 w0 F0) ?_ (fun s ρ w h => (fun ⟨F, hW, h0, h1, h5, h6, h27⟩ => ⟨F, hW, h0, h1, h5, h6⟩ : G6 w0 F0 s ρ w → G3 w0 F0 s ρ w) h.2))
      · refine Ref.region (fun s ρ w s' h hr => ?_)
        obtain ⟨F, hW, h0, h1, h6⟩ := h
        refine ol_v (e_mv _ rfl) rfl ?_
        refine ol_v (e_mv _ h6) rfl ?_
        obtain ⟨x34, hx34, hr⟩ := bind_some' hr
        obtain ⟨A35, c36, e37, hc38, R39⟩ := id h0
        obtain ⟨b40, o41, hA42, L43⟩ := Row.at_ R39 hx34
        refine ol_v (e_ix (SlT.sl sl_23) (SlT.sz sl_23) hA42 hx34 e37 rfl) rfl ?_
        refine ol_v (e_ld ty_3 (LiesV.int L43.at_) rfl) rfl ?_
        refine ol_v (e_as _ rfl) rfl ?_
        obtain rfl := Option.some.inj hr
        exact ol_nil ⟨F, hW, h0, h1, rfl, h6⟩
      · exact Ref.skip
    refine Ref.region (fun s ρ w s' h hr => ?_)
    obtain ⟨F, hW, h0, h1, h5, h6⟩ := h
    refine ol_v (e_mv _ h6) rfl ?_
    refine ol_v (e_add rfl rfl) rfl ?_
    refine ol_v (e_as _ rfl) rfl ?_
    obtain rfl := Option.some.inj hr
    exact ol_nil ⟨F, hW, h0, h1, h5, rfl⟩
  refine Ref.seq (B := G8 w0 F0) ?_ ?_
  · refine Ref.region (fun s ρ w s' h hr => ?_)
    obtain ⟨F, hW, h5⟩ := h
    refine ol_v (e_mv _ h5) rfl ?_
    refine ol_v (e_as _ rfl) rfl ?_
    obtain rfl := Option.some.inj hr
    exact ol_nil ⟨F, hW, rfl⟩
  exact Ref.ret (fun s ρ w h => ⟨s, rfl, h⟩)
def post (w : World) (F : BSet) (r : R) (v : Value) (w' : World) : Prop := ∃ (F' : BSet), v = .int .i64 r ∧ Wk nrow w F F' w'
theorem calls {w : World} {F : BSet} (hok : ∀ b, F b → b < w.heap.size) {v0 : Value} {a0 : (List Int)} (h0 : SlR (kInt .i64) F w v0 a0) {v1 : Value} {a1 : (Int × Int → Option Int)} (h1 : Val (kFn Try.prog (ra2 (kInt .i64) (kInt .i64)) (fun r => (.int .i64 r : Value))) F w v1 a1) {r : R} (hf : f a0 a1 = some r) : Calls Try.prog 51 #[v0, v1] w fun e w' => ∃ v, e = .returned v ∧ post w F r v w' := by
  obtain ⟨c, hc, href⟩ := ref w F
  refine calls_of_ref (args := [v0, v1]) _ Try.func51 hc rfl rfl href ?_ (retOf_some hf) ?_
  · exact ⟨F, Wk.refl hok, h0, h1⟩
  · rintro ρ w' a ⟨s, rfl, F', hW, h4⟩ hF
    refine ⟨_, run_results (rs := [.tmp 4]) rfl hF (vs := [ρ 4]) (⟨_, rfl, rfl⟩), ?_⟩
    have hv : resVal [ρ 4] = .int .i64 s.t_4 := by rw [h4]; rfl
    exact ⟨F', hv, hW⟩
end
end slices_MaxFunc_int_int

end Go.Proofs.Ytilodamhgepjoaa
