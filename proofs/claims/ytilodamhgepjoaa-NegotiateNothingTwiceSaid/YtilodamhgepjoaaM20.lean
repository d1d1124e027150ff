/- The machine's calls come to these plain functions (written by a program, wip/fx/gen.py). -/
import Derived.Test.YtilodamhgepjoaaPA
import Derived.Test.YtilodamhgepjoaaNm
import Derived.Test.YtilodamhgepjoaaM1
import Derived.Test.YtilodamhgepjoaaM5
import Derived.Test.YtilodamhgepjoaaM7
import Derived.Test.YtilodamhgepjoaaM8
import Derived.Test.YtilodamhgepjoaaM9
import Derived.Test.YtilodamhgepjoaaIt
namespace Go.Proofs.Ytilodamhgepjoaa
open Go.Fx Go.RowKit
set_option linter.unusedVariables false

namespace law4_NegotiateNothingTwice
section
def G0 (w0 : World) (F0 : BSet) (s : S) (ρ : Env) (w : World) : Prop := ∃ (F : BSet), Wk nrow w0 F0 F w ∧ SlR k_Commit F w (ρ 0) s.t_0 ∧ SlR kBool F w (ρ 1) s.t_1 ∧ SlR kBool F w (ρ 2) s.t_2 ∧ SlR (kInt .i64) F w (ρ 3) s.t_3
def G1 (w0 : World) (F0 : BSet) (s : S) (ρ : Env) (w : World) : Prop := ∃ (F : BSet), Wk nrow w0 F0 F w ∧ SlR k_Commit F w (ρ 0) s.t_0 ∧ SlR kBool F w (ρ 1) s.t_1 ∧ SlR kBool F w (ρ 2) s.t_2 ∧ SlR (kInt .i64) F w (ρ 3) s.t_3 ∧ ρ 19 = .bool s.t_19
def G2 (w0 : World) (F0 : BSet) (s : S) (ρ : Env) (w : World) : Prop := ∃ (F : BSet), Wk nrow w0 F0 F w
def G3 (w0 : World) (F0 : BSet) (s : S) (ρ : Env) (w : World) : Prop := ∃ (F : BSet), Wk nrow w0 F0 F w ∧ ρ 8 = .bool s.t_8
def G4 (w0 : World) (F0 : BSet) (s : S) (ρ : Env) (w : World) : Prop := ∃ (F : BSet), Wk nrow w0 F0 F w ∧ ∃ (g11 : Nat), SlR k_Commit F w (ρ 0) s.t_0 ∧ SlR kBool F w (ρ 1) s.t_1 ∧ SlR kBool F w (ρ 2) s.t_2 ∧ SlR (kInt .i64) F w (ρ 3) s.t_3 ∧ SlR (kSl (kInt .i64)) F w (ρ 9) s.t_9 ∧ SlR (kInt .i64) F w (ρ 10) s.t_10 ∧ ρ 11 = .pointer (some ⟨g11, 0, none⟩) ∧ Box k_Fault 26 (Bs w0 nrow) F w g11 s.t_11
def G5 (w0 : World) (F0 : BSet) (s : S) (ρ : Env) (w : World) : Prop := ∃ (F : BSet), Wk nrow w0 F0 F w ∧ SlR k_Commit F w (ρ 0) s.t_0 ∧ SlR kBool F w (ρ 1) s.t_1 ∧ SlR kBool F w (ρ 2) s.t_2 ∧ SlR (kSl (kInt .i64)) F w (ρ 9) s.t_9 ∧ SlR (kInt .i64) F w (ρ 10) s.t_10 ∧ ρ 40 = .bool s.t_40
def G6 (w0 : World) (F0 : BSet) (s : S) (ρ : Env) (w : World) : Prop := ∃ (F : BSet), Wk nrow w0 F0 F w ∧ SlR (kSl (kInt .i64)) F w (ρ 9) s.t_9 ∧ SlR (kInt .i64) F w (ρ 10) s.t_10
def G7 (w0 : World) (F0 : BSet) (s : S) (ρ : Env) (w : World) : Prop := ∃ (F : BSet), Wk nrow w0 F0 F w ∧ SlR k_Commit F w (ρ 0) s.t_0 ∧ SlR kBool F w (ρ 1) s.t_1 ∧ SlR kBool F w (ρ 2) s.t_2 ∧ SlR (kSl (kInt .i64)) F w (ρ 9) s.t_9
def G8 (w0 : World) (F0 : BSet) (s : S) (ρ : Env) (w : World) : Prop := ∃ (F : BSet), Wk nrow w0 F0 F w ∧ SlR k_Commit F w (ρ 0) s.t_0 ∧ SlR kBool F w (ρ 1) s.t_1 ∧ SlR kBool F w (ρ 2) s.t_2 ∧ SlR (kSl (kInt .i64)) F w (ρ 9) s.t_9 ∧ SlR (kSl kBool) F w (ρ 12) s.t_12
def G9 (w0 : World) (F0 : BSet) (s : S) (ρ : Env) (w : World) : Prop := ∃ (F : BSet), Wk nrow w0 F0 F w ∧ SlR k_Commit F w (ρ 0) s.t_0 ∧ SlR kBool F w (ρ 1) s.t_1 ∧ SlR kBool F w (ρ 2) s.t_2 ∧ SlR (kSl (kInt .i64)) F w (ρ 9) s.t_9 ∧ SlR (kSl kBool) F w (ρ 12) s.t_12 ∧ OwnV (kInt .i64) 3 (Bs w0 nrow) F w (ρ 13) s.t_13
def G10 (w0 : World) (F0 : BSet) (s : S) (ρ : Env) (w : World) : Prop := ∃ (F : BSet), Wk nrow w0 F0 F w ∧ SlR k_Commit F w (ρ 0) s.t_0 ∧ SlR kBool F w (ρ 1) s.t_1 ∧ SlR kBool F w (ρ 2) s.t_2 ∧ SlR (kSl (kInt .i64)) F w (ρ 9) s.t_9 ∧ SlR (kSl kBool) F w (ρ 12) s.t_12 ∧ OwnV (kInt .i64) 3 (Bs w0 nrow) F w (ρ 13) s.t_13 ∧ ρ 14 = .int .i64 s.t_14
def G11 (w0 : World) (F0 : BSet) (s : S) (ρ : Env) (w : World) : Prop := ∃ (F : BSet), Wk nrow w0 F0 F w ∧ SlR k_Commit F w (ρ 0) s.t_0 ∧ SlR kBool F w (ρ 1) s.t_1 ∧ SlR kBool F w (ρ 2) s.t_2 ∧ SlR (kSl (kInt .i64)) F w (ρ 9) s.t_9 ∧ SlR (kSl kBool) F w (ρ 12) s.t_12 ∧ OwnV (kInt .i64) 3 (Bs w0 nrow) F w (ρ 13) s.t_13 ∧ ρ 14 = .int .i64 s.t_14 ∧ ρ 52 = .bool s.t_52
def G12 (w0 : World) (F0 : BSet) (s : S) (ρ : Env) (w : World) : Prop := ∃ (F : BSet), Wk nrow w0 F0 F w ∧ SlR k_Commit F w (ρ 0) s.t_0 ∧ SlR kBool F w (ρ 1) s.t_1 ∧ SlR kBool F w (ρ 2) s.t_2 ∧ SlR (kSl (kInt .i64)) F w (ρ 9) s.t_9 ∧ SlR (kSl kBool) F w (ρ 12) s.t_12 ∧ OwnV (kInt .i64) 3 (Bs w0 nrow) F w (ρ 13) s.t_13 ∧ ρ 14 = .int .i64 s.t_14 ∧ ρ 68 = .bool s.t_68
def G13 (w0 : World) (F0 : BSet) (s : S) (ρ : Env) (w : World) : Prop := ∃ (F : BSet), Wk nrow w0 F0 F w ∧ SlR k_Commit F w (ρ 0) s.t_0 ∧ SlR kBool F w (ρ 1) s.t_1 ∧ SlR kBool F w (ρ 2) s.t_2 ∧ SlR (kSl (kInt .i64)) F w (ρ 9) s.t_9 ∧ SlR (kSl kBool) F w (ρ 12) s.t_12 ∧ OwnV (kInt .i64) 3 (Bs w0 nrow) F w (ρ 13) s.t_13 ∧ ρ 14 = .int .i64 s.t_14 ∧ ρ 15 = .int .i64 s.t_15
def G14 (w0 : World) (F0 : BSet) (s : S) (ρ : Env) (w : World) : Prop := ∃ (F : BSet), Wk nrow w0 F0 F w ∧ SlR k_Commit F w (ρ 0) s.t_0 ∧ SlR kBool F w (ρ 1) s.t_1 ∧ SlR kBool F w (ρ 2) s.t_2 ∧ SlR (kSl (kInt .i64)) F w (ρ 9) s.t_9 ∧ SlR (kSl kBool) F w (ρ 12) s.t_12 ∧ OwnV (kInt .i64) 3 (Bs w0 nrow) F w (ρ 13) s.t_13 ∧ ρ 14 = .int .i64 s.t_14 ∧ ρ 15 = .int .i64 s.t_15 ∧ ρ 75 = .bool s.t_75
def G15 (w0 : World) (F0 : BSet) (s : S) (ρ : Env) (w : World) : Prop := ∃ (F : BSet), Wk nrow w0 F0 F w ∧ SlR k_Commit F w (ρ 0) s.t_0 ∧ SlR kBool F w (ρ 1) s.t_1 ∧ SlR kBool F w (ρ 2) s.t_2 ∧ SlR (kSl (kInt .i64)) F w (ρ 9) s.t_9 ∧ SlR (kSl kBool) F w (ρ 12) s.t_12 ∧ OwnV (kInt .i64) 3 (Bs w0 nrow) F w (ρ 13) s.t_13 ∧ ρ 14 = .int .i64 s.t_14 ∧ ρ 15 = .int .i64 s.t_15 ∧ ρ 16 = .int .i64 s.t_16
def G16 (w0 : World) (F0 : BSet) (s : S) (ρ : Env) (w : World) : Prop := ∃ (F : BSet), Wk nrow w0 F0 F w ∧ SlR k_Commit F w (ρ 0) s.t_0 ∧ SlR kBool F w (ρ 1) s.t_1 ∧ SlR kBool F w (ρ 2) s.t_2 ∧ SlR (kSl (kInt .i64)) F w (ρ 9) s.t_9 ∧ SlR (kSl kBool) F w (ρ 12) s.t_12 ∧ OwnV (kInt .i64) 3 (Bs w0 nrow) F w (ρ 13) s.t_13 ∧ ρ 14 = .int .i64 s.t_14 ∧ ρ 15 = .int .i64 s.t_15 ∧ ρ 16 = .int .i64 s.t_16 ∧ ρ 107 = .bool s.t_107
def G17 (w0 : World) (F0 : BSet) (s : S) (ρ : Env) (w : World) : Prop := ∃ (F : BSet), Wk nrow w0 F0 F w ∧ SlR k_Commit F w (ρ 0) s.t_0 ∧ SlR kBool F w (ρ 1) s.t_1 ∧ SlR kBool F w (ρ 2) s.t_2 ∧ SlR (kSl (kInt .i64)) F w (ρ 9) s.t_9 ∧ SlR (kSl kBool) F w (ρ 12) s.t_12 ∧ OwnV (kInt .i64) 3 (Bs w0 nrow) F w (ρ 13) s.t_13 ∧ ρ 14 = .int .i64 s.t_14 ∧ ρ 15 = .int .i64 s.t_15 ∧ ρ 16 = .int .i64 s.t_16 ∧ ρ 17 = .int .i64 s.t_17
def G18 (w0 : World) (F0 : BSet) (s : S) (ρ : Env) (w : World) : Prop := ∃ (F : BSet), Wk nrow w0 F0 F w ∧ SlR k_Commit F w (ρ 0) s.t_0 ∧ SlR kBool F w (ρ 1) s.t_1 ∧ SlR kBool F w (ρ 2) s.t_2 ∧ SlR (kSl (kInt .i64)) F w (ρ 9) s.t_9 ∧ SlR (kSl kBool) F w (ρ 12) s.t_12 ∧ OwnV (kInt .i64) 3 (Bs w0 nrow) F w (ρ 13) s.t_13 ∧ ρ 14 = .int .i64 s.t_14 ∧ ρ 15 = .int .i64 s.t_15 ∧ ρ 16 = .int .i64 s.t_16 ∧ ρ 17 = .int .i64 s.t_17 ∧ ρ 111 = .bool s.t_111
def G19 (w0 : World) (F0 : BSet) (s : S) (ρ : Env) (w : World) : Prop := ∃ (F : BSet), Wk nrow w0 F0 F w ∧ SlR k_Commit F w (ρ 0) s.t_0 ∧ SlR kBool F w (ρ 1) s.t_1 ∧ SlR kBool F w (ρ 2) s.t_2 ∧ SlR (kSl (kInt .i64)) F w (ρ 9) s.t_9 ∧ SlR (kSl kBool) F w (ρ 12) s.t_12 ∧ OwnV (kInt .i64) 3 (Bs w0 nrow) F w (ρ 13) s.t_13 ∧ ρ 14 = .int .i64 s.t_14 ∧ ρ 15 = .int .i64 s.t_15 ∧ ρ 16 = .int .i64 s.t_16 ∧ ρ 17 = .int .i64 s.t_17 ∧ ρ 140 = .bool s.t_140
set_option maxHeartbeats 4000000 in
set_option maxRecDepth 20000 in
theorem ref (w0 : World) (F0 : BSet) : ∃ c, Try.f11.body = some c ∧ Ref Try.prog 147 c (G0 w0 F0) body (fun _ _ _ => False) (fun _ _ _ _ => False) (fun r ρ w => ∃ s, retv s = r ∧ G3 w0 F0 s ρ w) := by
  refine ⟨_, rfl, ?_⟩
  unfold body
  refine Ref.seq (B := G0 w0 F0) ?_ ?_
  · refine Ref.region (fun s ρ w s' h hr => ?_)
    obtain ⟨F, hW, h0, h1, h2, h3⟩ := h
    refine ol_v (e_as _ rfl) rfl ?_
    obtain rfl := Option.some.inj hr
    exact ol_nil ⟨F, hW, h0, h1, h2, h3⟩
  refine Ref.seq (B := G0 w0 F0) ?_ ?_
  · refine Ref.seq (B := G1 w0 F0) ?_ ?_
    · refine Ref.region (fun s ρ w s' h hr => ?_)
      obtain ⟨F, hW, h0, h1, h2, h3⟩ := h
      obtain ⟨x1, hx1, hr⟩ := bind_some' hr
      refine ol_e (f_call [] fn_27 rfl (law4_negotiateExample.calls hW.ok  hx1)) rfl rfl ?_
      rintro _ w2 ⟨Fz3, rfl, kw1⟩
      have hW5 := hW.trans kw1
      have st1 := kw1.stp hW.ok
      refine ol_v (e_not_ rfl) rfl ?_
      obtain rfl := Option.some.inj hr
      exact ol_nil ⟨Fz3, hW5, (h0.keep st1), (h1.keep st1), (h2.keep st1), (h3.keep st1), rfl⟩
    refine Ref.cond (b := fun s => s.t_19) (fun s ρ w ⟨F, hW, h0, h1, h2, h3, h19⟩ => h19) (Ref.pre (A := G2 w0 F0) ?_ (fun s ρ w h => (fun ⟨F, hW, h0, h1, h2, h3, h19⟩ => ⟨F, hW⟩ : G1 w0 F0 s ρ w → G2 w0 F0 s ρ w) h.2)) (Ref.pre (A := G0 w0 F0) ?_ (fun s ρ w h => (fun ⟨F, hW, h0, h1, h2, h3, h19⟩ => ⟨F, hW, h0, h1, h2, h3⟩ : G1 w0 F0 s ρ w → G0 w0 F0 s ρ w) h.2))
    · refine Ref.seq (B := G3 w0 F0) ?_ ?_
      · refine Ref.region (fun s ρ w s' h hr => ?_)
        obtain ⟨F, hW⟩ := h
        refine ol_v (e_as _ rfl) rfl ?_
        obtain rfl := Option.some.inj hr
        exact ol_nil ⟨F, hW, rfl⟩
      exact Ref.ret (fun s ρ w h => ⟨s, rfl, h⟩)
    · exact Ref.skip
  refine Ref.seq (B := G4 w0 F0) ?_ ?_
  · refine Ref.region (fun s ρ w s' h hr => ?_)
    obtain ⟨F, hW, h0, h1, h2, h3⟩ := h
    refine ol_v (e_mv _ rfl) rfl ?_
    refine ol_v (e_mv _ rfl) rfl ?_
    refine ol_v (e_mv _ rfl) rfl ?_
    refine ol_v (e_mv _ rfl) rfl ?_
    obtain ⟨x6, hx6, hr⟩ := bind_some' hr
    refine ol_e (f_call [(ρ 0), (ρ 1), (ρ 2), (ρ 3)] fn_29 (lcons rfl (lcons rfl (lcons rfl (lcons rfl rfl)))) (negotiate_Run.calls hW.ok h0 h1 h2 h3 hx6)) rfl rfl ?_
    rintro _ w7 ⟨Fz8, v9, v11, v13, rfl, kw1, hk10, hk12, hk14⟩
    have hW16 := hW.trans kw1
    have st1 := kw1.stp hW.ok
    refine ol_v (e_mv _ rfl) rfl ?_
    refine ol_v (e_ext _ rfl rfl) rfl ?_
    refine ol_v (e_ext _ rfl rfl) rfl ?_
    refine ol_v (e_ext _ rfl rfl) rfl ?_
    refine ol_e (f_alloc zer_26 hW16) rfl rfl ?_
    rintro _ w18 ⟨g17, rfl, kw2, ho19⟩
    have hW20 := hW16.trans kw2
    have st2 := kw2.stp hW16.ok
    obtain ⟨Fz21, hWz22, st3, hF3, hz23⟩ := (((hk10.base (row := nrow) hW.le).wk kw2 hW16.ok)).frozen hW20
    refine ol_v (e_as _ rfl) rfl ?_
    obtain ⟨Fz24, hWz25, st4, hF4, hz26⟩ := ((((hk12.base (row := nrow) hW.le).wk kw2 hW16.ok).frz (apart_oo ((hk10.base (row := nrow) hW.le).wk kw2 hW16.ok) ((hk12.base (row := nrow) hW.le).wk kw2 hW16.ok) rfl) hF3 st3)).frozen hWz22
    refine ol_v (e_as _ rfl) rfl ?_
    refine ol_eN (f_stB hWz25 (((ho19.base (row := nrow) hW16.le).frz (apart_bo (ho19.base (row := nrow) hW16.le) ((hk10.base (row := nrow) hW.le).wk kw2 hW16.ok) rfl).symm hF3 st3).frz (apart_bo ((ho19.base (row := nrow) hW16.le).frz (apart_bo (ho19.base (row := nrow) hW16.le) ((hk10.base (row := nrow) hW.le).wk kw2 hW16.ok) rfl).symm hF3 st3) (((hk12.base (row := nrow) hW.le).wk kw2 hW16.ok).frz (apart_oo ((hk10.base (row := nrow) hW.le).wk kw2 hW16.ok) ((hk12.base (row := nrow) hW.le).wk kw2 hW16.ok) rfl) hF3 st3) rfl).symm hF4 st4) (FldS.whole _) ty_26 (hk14.keep (st2.trans (st3.trans st4))) rfl rfl) rfl ?_
    rintro - w27 ⟨hW28, ho29, hg5, st5⟩
    obtain rfl := Option.some.inj hr
    exact ol_nil ⟨Fz24, hW28, g17, (h0.keep (st1.trans (st2.trans (st3.trans (st4.trans st5))))), (h1.keep (st1.trans (st2.trans (st3.trans (st4.trans st5))))), (h2.keep (st1.trans (st2.trans (st3.trans (st4.trans st5))))), (h3.keep (st1.trans (st2.trans (st3.trans (st4.trans st5))))), (hz23.keep (st4.trans st5)), (hz26.keep st5), rfl, ho29⟩
  refine Ref.seq (B := G7 w0 F0) ?_ ?_
  · refine Ref.seq (B := G5 w0 F0) ?_ ?_
    · refine Ref.region (fun s ρ w s' h hr => ?_)
      obtain ⟨F, hW, g11, h0, h1, h2, h3, h9, h10, p11, h11⟩ := h
      refine ol_v (e_fa fa_26_0 p11) rfl ?_
      refine ol_v (e_ld ty_3 (LiesV.int ((h11).at_.fld fl_Fault_0)) rfl) rfl ?_
      refine ol_v (e_neq rfl rfl) rfl ?_
      obtain ⟨x39, hx40, hr⟩ := bind_some' hr
      refine ol_cutA 9 32 40 (fun ρ' w' => ∃ F', Wk nrow w F F' w' ∧ ρ' 40 = .bool x39) rfl ?_ ?_
      · by_cases hb30 : (!decide (s.t_11.Code = (0 : Int))) = true
        · have hr := hx40
          rw [if_pos hb30] at hr
          refine ol_v (e_mv _ rfl) rfl ?_
          refine ol_not rfl rfl rfl (congrArg Value.bool hb30) rfl ?_
          refine ol_not rfl rfl rfl (congrArg Value.bool hb30) rfl ?_
          refine ol_not rfl rfl rfl (congrArg Value.bool hb30) rfl ?_
          refine ol_not rfl rfl rfl (congrArg Value.bool hb30) rfl ?_
          refine ol_not rfl rfl rfl (congrArg Value.bool hb30) rfl ?_
          refine ol_not rfl rfl rfl (congrArg Value.bool hb30) rfl ?_
          refine ol_not rfl rfl rfl (congrArg Value.bool hb30) rfl ?_
          refine ol_v (e_pick true _ (congrArg Value.bool hb30) rfl) rfl ?_
          exact ol_nil ⟨⟨_, Wk.refl hW.ok, (congrArg Value.bool (Option.some.inj hr))⟩, ((((((((((Agr.refl _ _ _).upd rfl rfl).upd rfl rfl).upd rfl rfl).upd rfl rfl).upd rfl rfl).upd rfl rfl).upd rfl rfl).upd rfl rfl).upd rfl rfl)⟩
        · have hb31 := Bool.eq_false_iff.mpr hb30
          have hr := hx40
          rw [if_neg hb30] at hr
          refine ol_v (e_mv _ rfl) rfl ?_
          refine ol_yes rfl rfl (congrArg Value.bool hb31) ?_
          refine ol_v (e_mv _ rfl) rfl ?_
          refine ol_yes rfl rfl (congrArg Value.bool hb31) ?_
          refine ol_v (e_mv _ rfl) rfl ?_
          refine ol_yes rfl rfl (congrArg Value.bool hb31) ?_
          refine ol_v (e_mv _ rfl) rfl ?_
          refine ol_yes rfl rfl (congrArg Value.bool hb31) ?_
          refine ol_v (e_mv _ rfl) rfl ?_
          refine ol_yes rfl rfl (congrArg Value.bool hb31) ?_
          obtain ⟨x32, hx32, hr⟩ := bind_some' hr
          refine ol_e (f_call [(ρ 0), (ρ 1), (ρ 2), (ρ 3)] fn_30 (lcons rfl (lcons rfl (lcons rfl (lcons rfl rfl)))) (ref4_NegotiateFault.calls hW.ok h0 h1 h2 h3 hx32)) rfl rfl ?_
          rintro v35 w33 ⟨Fz34, _, rfl, kw1, hk36⟩
          have hW38 := hW.trans kw1
          have st1 := kw1.stp hW.ok
          refine ol_yes rfl rfl (congrArg Value.bool hb31) ?_
          refine ol_v (e_field_int (by kernel_rfl) ty_3 fl_Fault_0 rfl hk36 rfl) rfl ?_
          refine ol_yes rfl rfl (congrArg Value.bool hb31) ?_
          refine ol_v (e_neq rfl rfl) rfl ?_
          refine ol_v (e_pick false _ (congrArg Value.bool hb31) rfl) rfl ?_
          exact ol_nil ⟨⟨_, kw1, (congrArg Value.bool (Option.some.inj hr))⟩, ((((((((((Agr.refl _ _ _).upd rfl rfl).upd rfl rfl).upd rfl rfl).upd rfl rfl).upd rfl rfl).upd rfl rfl).upd rfl rfl).upd rfl rfl).upd rfl rfl)⟩
      rintro ρ40 w41 ⟨⟨Fz42, kw1, hp40⟩, hAg40⟩
      have hW43 := hW.trans kw1
      have st1 := kw1.stp hW.ok
      obtain rfl := Option.some.inj hr
      exact ol_nil ⟨Fz42, hW43, (SlR.eqv (hAg40 0 rfl) (h0.keep st1)), (SlR.eqv (hAg40 1 rfl) (h1.keep st1)), (SlR.eqv (hAg40 2 rfl) (h2.keep st1)), (SlR.eqv (hAg40 9 rfl) (h9.keep st1)), (SlR.eqv (hAg40 10 rfl) (h10.keep st1)), hp40⟩
    refine Ref.cond (b := fun s => s.t_40) (fun s ρ w ⟨F, hW, h0, h1, h2, h9, h10, h40⟩ => h40) (Ref.pre (A := G6 w0 F0) ?_ (fun s ρ w h => (fun ⟨F, hW, h0, h1, h2, h9, h10, h40⟩ => ⟨F, hW, h9, h10⟩ : G5 w0 F0 s ρ w → G6 w0 F0 s ρ w) h.2)) (Ref.pre (A := G7 w0 F0) ?_ (fun s ρ w h => (fun ⟨F, hW, h0, h1, h2, h9, h10, h40⟩ => ⟨F, hW, h0, h1, h2, h9⟩ : G5 w0 F0 s ρ w → G7 w0 F0 s ρ w) h.2))
    · refine Ref.seq (B := G3 w0 F0) ?_ ?_
      · refine Ref.region (fun s ρ w s' h hr => ?_)
        obtain ⟨F, hW, h9, h10⟩ := h
        refine ol_v (e_mv _ rfl) rfl ?_
        obtain ⟨A44, c45, e46, hc47, R48⟩ := id h9
        refine ol_v (e_len (SlT.sl sl_48) e46) rfl ?_
        refine ol_v (e_mv _ rfl) rfl ?_
        obtain ⟨A49, c50, e51, hc52, R53⟩ := id h10
        refine ol_v (e_len (SlT.sl sl_23) e51) rfl ?_
        refine ol_v (e_add rfl rfl) rfl ?_
        refine ol_v (e_eql rfl rfl) rfl ?_
        refine ol_v (e_as _ rfl) rfl ?_
        obtain rfl := Option.some.inj hr
        exact ol_nil ⟨F, hW, rfl⟩
      exact Ref.ret (fun s ρ w h => ⟨s, rfl, h⟩)
    · exact Ref.skip
  refine Ref.seq (B := G8 w0 F0) ?_ ?_
  · refine Ref.region (fun s ρ w s' h hr => ?_)
    obtain ⟨F, hW, h0, h1, h2, h9⟩ := h
    refine ol_v (e_mv _ rfl) rfl ?_
    obtain ⟨x54, hx54, hr⟩ := bind_some' hr
    refine ol_e (f_call [(ρ 0)] fn_26 (lcons rfl rfl) (ref3_Reach.calls hW.ok h0 hx54)) rfl rfl ?_
    rintro v57 w55 ⟨Fz56, _, rfl, kw1, hk58⟩
    have hW60 := hW.trans kw1
    have st1 := kw1.stp hW.ok
    obtain ⟨Fz61, hWz62, st2, hF2, hz63⟩ := ((hk58.base (row := nrow) hW.le)).frozen hW60
    refine ol_v (e_as _ rfl) rfl ?_
    obtain rfl := Option.some.inj hr
    exact ol_nil ⟨Fz61, hWz62, (h0.keep (st1.trans st2)), (h1.keep (st1.trans st2)), (h2.keep (st1.trans st2)), (h9.keep (st1.trans st2)), hz63⟩
  refine Ref.seq (B := G9 w0 F0) ?_ ?_
  · refine Ref.region (fun s ρ w s' h hr => ?_)
    obtain ⟨F, hW, h0, h1, h2, h9, h12⟩ := h
    refine ol_v (e_as _ rfl) rfl ?_
    obtain rfl := Option.some.inj hr
    exact ol_nil ⟨F, hW, h0, h1, h2, h9, h12, (OwnV.nil (kInt .i64) 3 (Bs w0 nrow) F w)⟩
  refine Ref.seq (B := G2 w0 F0) ?_ ?_
  · refine Ref.seq (B := G10 w0 F0) ?_ ?_
    · refine Ref.region (fun s ρ w s' h hr => ?_)
      obtain ⟨F, hW, h0, h1, h2, h9, h12, h13⟩ := h
      refine ol_v (e_as _ rfl) rfl ?_
      obtain rfl := Option.some.inj hr
      exact ol_nil ⟨F, hW, h0, h1, h2, h9, h12, h13, rfl⟩
    refine Ref.block ?_
    refine Ref.loop ?_
    refine Ref.seq (B := G10 w0 F0) ?_ ?_
    · refine Ref.seq (B := G11 w0 F0) ?_ ?_
      · refine Ref.region (fun s ρ w s' h hr => ?_)
        obtain ⟨F, hW, h0, h1, h2, h9, h12, h13, h14⟩ := h
        refine ol_v (e_mv _ h14) rfl ?_
        refine ol_v (e_mv _ rfl) rfl ?_
        obtain ⟨A64, c65, e66, hc67, R68⟩ := id h9
        refine ol_v (e_len (SlT.sl sl_48) e66) rfl ?_
        refine ol_v (e_lss rfl rfl) rfl ?_
        obtain rfl := Option.some.inj hr
        exact ol_nil ⟨F, hW, h0, h1, h2, h9, h12, h13, h14, rfl⟩
      refine Ref.cond (b := fun s => s.t_52) (fun s ρ w ⟨F, hW, h0, h1, h2, h9, h12, h13, h14, h52⟩ => h52) (Ref.pre (A := G10 w0 F0) ?_ (fun s ρ w h => (fun ⟨F, hW, h0, h1, h2, h9, h12, h13, h14, h52⟩ => ⟨F, hW, h0, h1, h2, h9, h12, h13, h14⟩ : G11 w0 F0 s ρ w → G10 w0 F0 s ρ w) h.2)) (Ref.pre (A := G2 w0 F0) ?_ (fun s ρ w h => (fun ⟨F, hW, h0, h1, h2, h9, h12, h13, h14, h52⟩ => ⟨F, hW⟩ : G11 w0 F0 s ρ w → G2 w0 F0 s ρ w) h.2))
      · exact Ref.skip
      · exact Ref.exit (fun s ρ w h => h)
    refine Ref.seq (B := G10 w0 F0) ?_ ?_
    · refine Ref.block ?_
      refine Ref.seq (B := G10 w0 F0) ?_ ?_
      · refine Ref.seq (B := G12 w0 F0) ?_ ?_
        · refine Ref.region (fun s ρ w s' h hr => ?_)
          obtain ⟨F, hW, h0, h1, h2, h9, h12, h13, h14⟩ := h
          refine ol_v (e_mv _ rfl) rfl ?_
          refine ol_v (e_mv _ h14) rfl ?_
          obtain ⟨x69, hx69, hr⟩ := bind_some' hr
          obtain ⟨A70, c71, e72, hc73, R74⟩ := id h9
          obtain ⟨b75, o76, hA77, L78⟩ := Row.at_ R74 hx69
          refine ol_v (e_ix (SlT.sl sl_48) (SlT.sz sl_48) hA77 hx69 e72 rfl) rfl ?_
          obtain ⟨v79, hl80, hs81⟩ := LiesV.sl L78.at_
          refine ol_v (e_ld ty_23 hl80 rfl) rfl ?_
          obtain ⟨A82, c83, e84, hc85, R86⟩ := id hs81
          refine ol_v (e_len (SlT.sl sl_23) e84) rfl ?_
          refine ol_v (e_eql rfl rfl) rfl ?_
          obtain ⟨x107, hx108, hr⟩ := bind_some' hr
          refine ol_cutA 8 61 68 (fun ρ' w' => w = w' ∧ ρ' 68 = .bool x107) rfl ?_ ?_
          · by_cases hb87 : (decide ((x69.length : Int) = (0 : Int))) = true
            · have hr := hx108
              rw [if_pos hb87] at hr
              refine ol_v (e_mv _ rfl) rfl ?_
              refine ol_not rfl rfl rfl (congrArg Value.bool hb87) rfl ?_
              refine ol_not rfl rfl rfl (congrArg Value.bool hb87) rfl ?_
              refine ol_not rfl rfl rfl (congrArg Value.bool hb87) rfl ?_
              refine ol_not rfl rfl rfl (congrArg Value.bool hb87) rfl ?_
              refine ol_not rfl rfl rfl (congrArg Value.bool hb87) rfl ?_
              refine ol_not rfl rfl rfl (congrArg Value.bool hb87) rfl ?_
              refine ol_v (e_pick true _ (congrArg Value.bool hb87) rfl) rfl ?_
              exact ol_nil ⟨⟨rfl, (congrArg Value.bool (Option.some.inj hr))⟩, (((((((((Agr.refl _ _ _).upd rfl rfl).upd rfl rfl).upd rfl rfl).upd rfl rfl).upd rfl rfl).upd rfl rfl).upd rfl rfl).upd rfl rfl)⟩
            · have hb88 := Bool.eq_false_iff.mpr hb87
              have hr := hx108
              rw [if_neg hb87] at hr
              refine ol_v (e_mv _ rfl) rfl ?_
              refine ol_yes rfl rfl (congrArg Value.bool hb88) ?_
              refine ol_v (e_mv _ rfl) rfl ?_
              refine ol_yes rfl rfl (congrArg Value.bool hb88) ?_
              refine ol_v (e_mv _ h14) rfl ?_
              refine ol_yes rfl rfl (congrArg Value.bool hb88) ?_
              obtain ⟨x89, hx89, hr⟩ := bind_some' hr
              obtain ⟨A90, c91, e92, hc93, R94⟩ := id h9
              obtain ⟨b95, o96, hA97, L98⟩ := Row.at_ R94 hx89
              refine ol_v (e_ix (SlT.sl sl_48) (SlT.sz sl_48) hA97 hx89 e92 rfl) rfl ?_
              refine ol_yes rfl rfl (congrArg Value.bool hb88) ?_
              obtain ⟨v99, hl100, hs101⟩ := LiesV.sl L98.at_
              refine ol_v (e_ld ty_23 hl100 rfl) rfl ?_
              refine ol_yes rfl rfl (congrArg Value.bool hb88) ?_
              obtain ⟨A102, c103, e104, hc105, R106⟩ := id hs101
              refine ol_v (e_len (SlT.sl sl_23) e104) rfl ?_
              refine ol_yes rfl rfl (congrArg Value.bool hb88) ?_
              refine ol_v (e_gtr rfl rfl) rfl ?_
              refine ol_v (e_pick false _ (congrArg Value.bool hb88) rfl) rfl ?_
              exact ol_nil ⟨⟨rfl, (congrArg Value.bool (Option.some.inj hr))⟩, (((((((((Agr.refl _ _ _).upd rfl rfl).upd rfl rfl).upd rfl rfl).upd rfl rfl).upd rfl rfl).upd rfl rfl).upd rfl rfl).upd rfl rfl)⟩
          rintro ρ108 _ ⟨⟨rfl, hp108⟩, hAg108⟩
          obtain rfl := Option.some.inj hr
          exact ol_nil ⟨F, hW, (SlR.eqv (hAg108 0 rfl) h0), (SlR.eqv (hAg108 1 rfl) h1), (SlR.eqv (hAg108 2 rfl) h2), (SlR.eqv (hAg108 9 rfl) h9), (SlR.eqv (hAg108 12 rfl) h12), (OwnV.eqv (hAg108 13 rfl) h13), ((hAg108 14 rfl).trans h14), hp108⟩
        refine Ref.cond (b := fun s => s.t_68) (fun s ρ w ⟨F, hW, h0, h1, h2, h9, h12, h13, h14, h68⟩ => h68) (Ref.pre (A := G2 w0 F0) ?_ (fun s ρ w h => (fun ⟨F, hW, h0, h1, h2, h9, h12, h13, h14, h68⟩ => ⟨F, hW⟩ : G12 w0 F0 s ρ w → G2 w0 F0 s ρ w) h.2)) (Ref.pre (A := G10 w0 F0) ?_ (fun s ρ w h => (fun ⟨F, hW, h0, h1, h2, h9, h12, h13, h14, h68⟩ => ⟨F, hW, h0, h1, h2, h9, h12, h13, h14⟩ : G12 w0 F0 s ρ w → G10 w0 F0 s ρ w) h.2))
        · refine Ref.seq (B := G3 w0 F0) ?_ ?_
          · refine Ref.region (fun s ρ w s' h hr => ?_)
            obtain ⟨F, hW⟩ := h
            refine ol_v (e_as _ rfl) rfl ?_
            obtain rfl := Option.some.inj hr
            exact ol_nil ⟨F, hW, rfl⟩
          exact Ref.ret (fun s ρ w h => ⟨s, rfl, h⟩)
        · exact Ref.skip
      refine Ref.seq (B := G10 w0 F0) ?_ ?_
      · refine Ref.seq (B := G13 w0 F0) ?_ ?_
        · refine Ref.region (fun s ρ w s' h hr => ?_)
          obtain ⟨F, hW, h0, h1, h2, h9, h12, h13, h14⟩ := h
          refine ol_v (e_as _ rfl) rfl ?_
          obtain rfl := Option.some.inj hr
          exact ol_nil ⟨F, hW, h0, h1, h2, h9, h12, h13, h14, rfl⟩
        refine Ref.block ?_
        refine Ref.loop ?_
        refine Ref.seq (B := G13 w0 F0) ?_ ?_
        · refine Ref.seq (B := G14 w0 F0) ?_ ?_
          · refine Ref.region (fun s ρ w s' h hr => ?_)
            obtain ⟨F, hW, h0, h1, h2, h9, h12, h13, h14, h15⟩ := h
            refine ol_v (e_mv _ h15) rfl ?_
            refine ol_v (e_mv _ rfl) rfl ?_
            refine ol_v (e_mv _ h14) rfl ?_
            obtain ⟨x109, hx109, hr⟩ := bind_some' hr
            obtain ⟨A110, c111, e112, hc113, R114⟩ := id h9
            obtain ⟨b115, o116, hA117, L118⟩ := Row.at_ R114 hx109
            refine ol_v (e_ix (SlT.sl sl_48) (SlT.sz sl_48) hA117 hx109 e112 rfl) rfl ?_
            obtain ⟨v119, hl120, hs121⟩ := LiesV.sl L118.at_
            refine ol_v (e_ld ty_23 hl120 rfl) rfl ?_
            obtain ⟨A122, c123, e124, hc125, R126⟩ := id hs121
            refine ol_v (e_len (SlT.sl sl_23) e124) rfl ?_
            refine ol_v (e_lss rfl rfl) rfl ?_
            obtain rfl := Option.some.inj hr
            exact ol_nil ⟨F, hW, h0, h1, h2, h9, h12, h13, h14, h15, rfl⟩
          refine Ref.cond (b := fun s => s.t_75) (fun s ρ w ⟨F, hW, h0, h1, h2, h9, h12, h13, h14, h15, h75⟩ => h75) (Ref.pre (A := G13 w0 F0) ?_ (fun s ρ w h => (fun ⟨F, hW, h0, h1, h2, h9, h12, h13, h14, h15, h75⟩ => ⟨F, hW, h0, h1, h2, h9, h12, h13, h14, h15⟩ : G14 w0 F0 s ρ w → G13 w0 F0 s ρ w) h.2)) (Ref.pre (A := G10 w0 F0) ?_ (fun s ρ w h => (fun ⟨F, hW, h0, h1, h2, h9, h12, h13, h14, h15, h75⟩ => ⟨F, hW, h0, h1, h2, h9, h12, h13, h14⟩ : G14 w0 F0 s ρ w → G10 w0 F0 s ρ w) h.2))
          · exact Ref.skip
          · exact Ref.exit (fun s ρ w h => h)
        refine Ref.seq (B := G13 w0 F0) ?_ ?_
        · refine Ref.block ?_
          refine Ref.seq (B := G15 w0 F0) ?_ ?_
          · refine Ref.region (fun s ρ w s' h hr => ?_)
            obtain ⟨F, hW, h0, h1, h2, h9, h12, h13, h14, h15⟩ := h
            refine ol_v (e_mv _ rfl) rfl ?_
            refine ol_v (e_mv _ h14) rfl ?_
            obtain ⟨x127, hx127, hr⟩ := bind_some' hr
            obtain ⟨A128, c129, e130, hc131, R132⟩ := id h9
            obtain ⟨b133, o134, hA135, L136⟩ := Row.at_ R132 hx127
            refine ol_v (e_ix (SlT.sl sl_48) (SlT.sz sl_48) hA135 hx127 e130 rfl) rfl ?_
            obtain ⟨v137, hl138, hs139⟩ := LiesV.sl L136.at_
            refine ol_v (e_ld ty_23 hl138 rfl) rfl ?_
            refine ol_v (e_mv _ h15) rfl ?_
            obtain ⟨x140, hx140, hr⟩ := bind_some' hr
            obtain ⟨A141, c142, e143, hc144, R145⟩ := id hs139
            obtain ⟨b146, o147, hA148, L149⟩ := Row.at_ R145 hx140
            refine ol_v (e_ix (SlT.sl sl_23) (SlT.sz sl_23) hA148 hx140 e143 rfl) rfl ?_
            refine ol_v (e_ld ty_3 (LiesV.int L149.at_) rfl) rfl ?_
            refine ol_v (e_as _ rfl) rfl ?_
            obtain rfl := Option.some.inj hr
            exact ol_nil ⟨F, hW, h0, h1, h2, h9, h12, h13, h14, h15, rfl⟩
          refine Ref.seq (B := G15 w0 F0) ?_ ?_
          · refine Ref.seq (B := G16 w0 F0) ?_ ?_
            · refine Ref.region (fun s ρ w s' h hr => ?_)
              obtain ⟨F, hW, h0, h1, h2, h9, h12, h13, h14, h15, h16⟩ := h
              refine ol_v (e_mv _ h16) rfl ?_
              refine ol_v (e_mv _ rfl) rfl ?_
              obtain ⟨A150, c151, e152, hc153, R154⟩ := id h0
              refine ol_v (e_len (SlT.sl sl_22) e152) rfl ?_
              refine ol_v (e_sub rfl rfl) rfl ?_
              obtain ⟨x155, hx155, hr⟩ := bind_some' hr
              refine ol_e (f_call [.int .i64 s.t_16, .int .i64 (0 : Int), .int .i64 (w64 ((s.t_0.length : Int) - (1 : Int)))] fn_16 (lcons rfl (lcons rfl (lcons rfl rfl))) (ref3_In.calls hW.ok s.t_16 (0 : Int) (w64 ((s.t_0.length : Int) - (1 : Int))) hx155)) rfl rfl ?_
              rintro _ w156 ⟨Fz157, rfl, kw1⟩
              have hW159 := hW.trans kw1
              have st1 := kw1.stp hW.ok
              refine ol_v (e_not_ rfl) rfl ?_
              obtain ⟨x172, hx173, hr⟩ := bind_some' hr
              refine ol_cutA 7 91 97 (fun ρ' w' => w156 = w' ∧ ρ' 97 = .bool x172) rfl ?_ ?_
              · by_cases hb160 : (!x155) = true
                · have hr := hx173
                  rw [if_pos hb160] at hr
                  refine ol_v (e_mv _ rfl) rfl ?_
                  refine ol_not rfl rfl rfl (congrArg Value.bool hb160) rfl ?_
                  refine ol_not rfl rfl rfl (congrArg Value.bool hb160) rfl ?_
                  refine ol_not rfl rfl rfl (congrArg Value.bool hb160) rfl ?_
                  refine ol_not rfl rfl rfl (congrArg Value.bool hb160) rfl ?_
                  refine ol_not rfl rfl rfl (congrArg Value.bool hb160) rfl ?_
                  refine ol_v (e_pick true _ (congrArg Value.bool hb160) rfl) rfl ?_
                  exact ol_nil ⟨⟨rfl, (congrArg Value.bool (Option.some.inj hr))⟩, ((((((((Agr.refl _ _ _).upd rfl rfl).upd rfl rfl).upd rfl rfl).upd rfl rfl).upd rfl rfl).upd rfl rfl).upd rfl rfl)⟩
                · have hb161 := Bool.eq_false_iff.mpr hb160
                  have hr := hx173
                  rw [if_neg hb160] at hr
                  refine ol_v (e_mv _ rfl) rfl ?_
                  refine ol_yes rfl rfl (congrArg Value.bool hb161) ?_
                  refine ol_v (e_mv _ rfl) rfl ?_
                  refine ol_yes rfl rfl (congrArg Value.bool hb161) ?_
                  refine ol_v (e_mv _ h16) rfl ?_
                  refine ol_yes rfl rfl (congrArg Value.bool hb161) ?_
                  obtain ⟨x162, hx162, hr⟩ := bind_some' hr
                  obtain ⟨A163, c164, e165, hc166, R167⟩ := id (h2.keep st1)
                  obtain ⟨b168, o169, hA170, L171⟩ := Row.at_ R167 hx162
                  refine ol_v (e_ix (SlT.sl sl_46) (SlT.sz sl_46) hA170 hx162 e165 rfl) rfl ?_
                  refine ol_yes rfl rfl (congrArg Value.bool hb161) ?_
                  refine ol_v (e_ld ty_4 (LiesV.bool L171.at_) rfl) rfl ?_
                  refine ol_yes rfl rfl (congrArg Value.bool hb161) ?_
                  refine ol_v (e_not_ rfl) rfl ?_
                  refine ol_v (e_pick false _ (congrArg Value.bool hb161) rfl) rfl ?_
                  exact ol_nil ⟨⟨rfl, (congrArg Value.bool (Option.some.inj hr))⟩, ((((((((Agr.refl _ _ _).upd rfl rfl).upd rfl rfl).upd rfl rfl).upd rfl rfl).upd rfl rfl).upd rfl rfl).upd rfl rfl)⟩
              rintro ρ173 _ ⟨⟨rfl, hp173⟩, hAg173⟩
              obtain ⟨x201, hx202, hr⟩ := bind_some' hr
              refine ol_cutA 10 98 107 (fun ρ' w' => ∃ F', Wk nrow w156 Fz157 F' w' ∧ ρ' 107 = .bool x201) rfl ?_ ?_
              · by_cases hb174 : x172 = true
                · have hr := hx202
                  rw [if_pos hb174] at hr
                  refine ol_v (e_mv _ hp173) rfl ?_
                  refine ol_not rfl rfl rfl (congrArg Value.bool hb174) rfl ?_
                  refine ol_not rfl rfl rfl (congrArg Value.bool hb174) rfl ?_
                  refine ol_not rfl rfl rfl (congrArg Value.bool hb174) rfl ?_
                  refine ol_not rfl rfl rfl (congrArg Value.bool hb174) rfl ?_
                  refine ol_not rfl rfl rfl (congrArg Value.bool hb174) rfl ?_
                  refine ol_not rfl rfl rfl (congrArg Value.bool hb174) rfl ?_
                  refine ol_not rfl rfl rfl (congrArg Value.bool hb174) rfl ?_
                  refine ol_not rfl rfl rfl (congrArg Value.bool hb174) rfl ?_
                  refine ol_v (e_pick true _ (congrArg Value.bool hb174) rfl) rfl ?_
                  exact ol_nil ⟨⟨_, Wk.refl hW159.ok, (congrArg Value.bool (Option.some.inj hr))⟩, (((((((((((Agr.refl _ _ _).upd rfl rfl).upd rfl rfl).upd rfl rfl).upd rfl rfl).upd rfl rfl).upd rfl rfl).upd rfl rfl).upd rfl rfl).upd rfl rfl).upd rfl rfl)⟩
                · have hb175 := Bool.eq_false_iff.mpr hb174
                  have hr := hx202
                  rw [if_neg hb174] at hr
                  refine ol_v (e_mv _ hp173) rfl ?_
                  refine ol_yes rfl rfl (congrArg Value.bool hb175) ?_
                  refine ol_v (e_mv _ (hAg173 9 rfl)) rfl ?_
                  refine ol_yes rfl rfl (congrArg Value.bool hb175) ?_
                  refine ol_v (e_mv _ ((hAg173 14 rfl).trans h14)) rfl ?_
                  refine ol_yes rfl rfl (congrArg Value.bool hb175) ?_
                  obtain ⟨x176, hx176, hr⟩ := bind_some' hr
                  obtain ⟨A177, c178, e179, hc180, R181⟩ := id (h9.keep st1)
                  obtain ⟨b182, o183, hA184, L185⟩ := Row.at_ R181 hx176
                  refine ol_v (e_ix (SlT.sl sl_48) (SlT.sz sl_48) hA184 hx176 e179 rfl) rfl ?_
                  refine ol_yes rfl rfl (congrArg Value.bool hb175) ?_
                  obtain ⟨v186, hl187, hs188⟩ := LiesV.sl L185.at_
                  refine ol_v (e_ld ty_23 hl187 rfl) rfl ?_
                  refine ol_yes rfl rfl (congrArg Value.bool hb175) ?_
                  refine ol_v (e_mv _ ((hAg173 15 rfl).trans h15)) rfl ?_
                  refine ol_yes rfl rfl (congrArg Value.bool hb175) ?_
                  obtain ⟨A189, c190, e191, hc192, R193⟩ := id hs188
                  obtain ⟨x194, hx194, hr⟩ := bind_some' hr
                  have hs195 := SlR.cutTo R193 hc192 hx194
                  refine ol_v (e_slH (SlT.sl sl_23) (SlT.sz sl_23) hc192 e191 rfl hx194) rfl ?_
                  refine ol_yes rfl rfl (congrArg Value.bool hb175) ?_
                  refine ol_v (e_mv _ ((hAg173 16 rfl).trans h16)) rfl ?_
                  refine ol_yes rfl rfl (congrArg Value.bool hb175) ?_
                  obtain ⟨x196, hx196, hr⟩ := bind_some' hr
                  refine ol_e (f_call [(sliced A189 0 (s.t_15).toNat c190 (kInt .i64).sz), .int .i64 s.t_16] fn_33 (lcons rfl (lcons rfl rfl)) (ref3_Has.calls hW159.ok hs195 s.t_16 hx196)) rfl rfl ?_
                  rintro _ w197 ⟨Fz198, rfl, kw2⟩
                  have hW200 := hW159.trans kw2
                  have st2 := kw2.stp hW159.ok
                  refine ol_v (e_pick false _ (congrArg Value.bool hb175) rfl) rfl ?_
                  exact ol_nil ⟨⟨_, kw2, (congrArg Value.bool (Option.some.inj hr))⟩, (((((((((((Agr.refl _ _ _).upd rfl rfl).upd rfl rfl).upd rfl rfl).upd rfl rfl).upd rfl rfl).upd rfl rfl).upd rfl rfl).upd rfl rfl).upd rfl rfl).upd rfl rfl)⟩
              rintro ρ202 w203 ⟨⟨Fz204, kw2, hp202⟩, hAg202⟩
              have hW205 := hW159.trans kw2
              have st2 := kw2.stp hW159.ok
              obtain rfl := Option.some.inj hr
              exact ol_nil ⟨Fz204, hW205, (SlR.eqv ((hAg202 0 rfl).trans (hAg173 0 rfl)) (h0.keep (st1.trans st2))), (SlR.eqv ((hAg202 1 rfl).trans (hAg173 1 rfl)) (h1.keep (st1.trans st2))), (SlR.eqv ((hAg202 2 rfl).trans (hAg173 2 rfl)) (h2.keep (st1.trans st2))), (SlR.eqv ((hAg202 9 rfl).trans (hAg173 9 rfl)) (h9.keep (st1.trans st2))), (SlR.eqv ((hAg202 12 rfl).trans (hAg173 12 rfl)) (h12.keep (st1.trans st2))), (OwnV.eqv ((hAg202 13 rfl).trans (hAg173 13 rfl)) ((h13.wk kw1 hW.ok).wk kw2 hW159.ok)), ((hAg202 14 rfl).trans ((hAg173 14 rfl).trans h14)), ((hAg202 15 rfl).trans ((hAg173 15 rfl).trans h15)), ((hAg202 16 rfl).trans ((hAg173 16 rfl).trans h16)), hp202⟩
            refine Ref.cond (b := fun s => s.t_107) (fun s ρ w ⟨F, hW, h0, h1, h2, h9, h12, h13, h14, h15, h16, h107⟩ => h107) (Ref.pre (A := G2 w0 F0) ?_ (fun s ρ w h => (fun ⟨F, hW, h0, h1, h2, h9, h12, h13, h14, h15, h16, h107⟩ => ⟨F, hW⟩ : G16 w0 F0 s ρ w → G2 w0 F0 s ρ w) h.2)) (Ref.pre (A := G15 w0 F0) ?_ (fun s ρ w h => (fun ⟨F, hW, h0, h1, h2, h9, h12, h13, h14, h15, h16, h107⟩ => ⟨F, hW, h0, h1, h2, h9, h12, h13, h14, h15, h16⟩ : G16 w0 F0 s ρ w → G15 w0 F0 s ρ w) h.2))
            · refine Ref.seq (B := G3 w0 F0) ?_ ?_
              · refine Ref.region (fun s ρ w s' h hr => ?_)
                obtain ⟨F, hW⟩ := h
                refine ol_v (e_as _ rfl) rfl ?_
                obtain rfl := Option.some.inj hr
                exact ol_nil ⟨F, hW, rfl⟩
              exact Ref.ret (fun s ρ w h => ⟨s, rfl, h⟩)
            · exact Ref.skip
          refine Ref.seq (B := G17 w0 F0) ?_ ?_
          · refine Ref.region (fun s ρ w s' h hr => ?_)
            obtain ⟨F, hW, h0, h1, h2, h9, h12, h13, h14, h15, h16⟩ := h
            refine ol_v (e_as _ rfl) rfl ?_
            obtain rfl := Option.some.inj hr
            exact ol_nil ⟨F, hW, h0, h1, h2, h9, h12, h13, h14, h15, h16, rfl⟩
          refine Ref.block ?_
          refine Ref.loop ?_
          refine Ref.seq (B := G17 w0 F0) ?_ ?_
          · refine Ref.seq (B := G18 w0 F0) ?_ ?_
            · refine Ref.region (fun s ρ w s' h hr => ?_)
              obtain ⟨F, hW, h0, h1, h2, h9, h12, h13, h14, h15, h16, h17⟩ := h
              refine ol_v (e_mv _ h17) rfl ?_
              refine ol_v (e_mv _ rfl) rfl ?_
              obtain ⟨A206, c207, e208, hc209⟩ := h13.shape
              refine ol_v (e_len (SlT.sl sl_23) e208) rfl ?_
              refine ol_v (e_lss rfl rfl) rfl ?_
              obtain rfl := Option.some.inj hr
              exact ol_nil ⟨F, hW, h0, h1, h2, h9, h12, h13, h14, h15, h16, h17, rfl⟩
            refine Ref.cond (b := fun s => s.t_111) (fun s ρ w ⟨F, hW, h0, h1, h2, h9, h12, h13, h14, h15, h16, h17, h111⟩ => h111) (Ref.pre (A := G17 w0 F0) ?_ (fun s ρ w h => (fun ⟨F, hW, h0, h1, h2, h9, h12, h13, h14, h15, h16, h17, h111⟩ => ⟨F, hW, h0, h1, h2, h9, h12, h13, h14, h15, h16, h17⟩ : G18 w0 F0 s ρ w → G17 w0 F0 s ρ w) h.2)) (Ref.pre (A := G13 w0 F0) ?_ (fun s ρ w h => (fun ⟨F, hW, h0, h1, h2, h9, h12, h13, h14, h15, h16, h17, h111⟩ => ⟨F, hW, h0, h1, h2, h9, h12, h13, h14, h15⟩ : G18 w0 F0 s ρ w → G13 w0 F0 s ρ w) h.2))
            · exact Ref.skip
            · exact Ref.exit (fun s ρ w h => h)
          refine Ref.seq (B := G17 w0 F0) ?_ ?_
          · refine Ref.block ?_
            refine Ref.seq (B := G19 w0 F0) ?_ ?_
            · refine Ref.region (fun s ρ w s' h hr => ?_)
              obtain ⟨F, hW, h0, h1, h2, h9, h12, h13, h14, h15, h16, h17⟩ := h
              refine ol_v (e_mv _ rfl) rfl ?_
              refine ol_v (e_mv _ h17) rfl ?_
              obtain ⟨x210, hx210, hr⟩ := bind_some' hr
              obtain ⟨g211, o212, c213, hv214, L215⟩ := OwnV.at_ h13 hx210
              refine ol_v (e_ixO sl_23 hv214 hx210 rfl rfl) rfl ?_
              refine ol_v (e_ld ty_3 (LiesV.int L215) rfl) rfl ?_
              refine ol_v (e_mv _ h16) rfl ?_
              refine ol_v (e_eql rfl rfl) rfl ?_
              obtain ⟨x267, hx268, hr⟩ := bind_some' hr
              refine ol_cutA 21 120 140 (fun ρ' w' => w = w' ∧ ρ' 140 = .bool x267) rfl ?_ ?_
              · by_cases hb216 : (decide (x210 = s.t_16)) = true
                · have hr := hx268
                  rw [if_pos hb216] at hr
                  refine ol_v (e_mv _ rfl) rfl ?_
                  refine ol_not rfl rfl rfl (congrArg Value.bool hb216) rfl ?_
                  refine ol_not rfl rfl rfl (congrArg Value.bool hb216) rfl ?_
                  refine ol_not rfl rfl rfl (congrArg Value.bool hb216) rfl ?_
                  refine ol_not rfl rfl rfl (congrArg Value.bool hb216) rfl ?_
                  refine ol_not rfl rfl rfl (congrArg Value.bool hb216) rfl ?_
                  refine ol_not rfl rfl rfl (congrArg Value.bool hb216) rfl ?_
                  refine ol_not rfl rfl rfl (congrArg Value.bool hb216) rfl ?_
                  refine ol_not rfl rfl rfl (congrArg Value.bool hb216) rfl ?_
                  refine ol_notU rfl rfl rfl rfl ?_
                  refine ol_notU rfl rfl rfl rfl ?_
                  refine ol_notU rfl rfl rfl rfl ?_
                  refine ol_notU rfl rfl rfl rfl ?_
                  refine ol_notU rfl rfl rfl rfl ?_
                  refine ol_notU rfl rfl rfl rfl ?_
                  refine ol_notU rfl rfl rfl rfl ?_
                  refine ol_notU rfl rfl rfl rfl ?_
                  refine ol_notU rfl rfl rfl rfl ?_
                  refine ol_notU rfl rfl rfl rfl ?_
                  refine ol_not rfl rfl rfl (congrArg Value.bool hb216) rfl ?_
                  refine ol_v (e_pick true _ (congrArg Value.bool hb216) rfl) rfl ?_
                  exact ol_nil ⟨⟨rfl, (congrArg Value.bool (Option.some.inj hr))⟩, ((((((((((((((((((((((Agr.refl _ _ _).upd rfl rfl).upd rfl rfl).upd rfl rfl).upd rfl rfl).upd rfl rfl).upd rfl rfl).upd rfl rfl).upd rfl rfl).upd rfl rfl).upd rfl rfl).upd rfl rfl).upd rfl rfl).upd rfl rfl).upd rfl rfl).upd rfl rfl).upd rfl rfl).upd rfl rfl).upd rfl rfl).upd rfl rfl).upd rfl rfl).upd rfl rfl)⟩
                · have hb217 := Bool.eq_false_iff.mpr hb216
                  have hr := hx268
                  rw [if_neg hb216] at hr
                  refine ol_v (e_mv _ rfl) rfl ?_
                  refine ol_yes rfl rfl (congrArg Value.bool hb217) ?_
                  refine ol_v (e_mv _ rfl) rfl ?_
                  refine ol_yes rfl rfl (congrArg Value.bool hb217) ?_
                  refine ol_v (e_mv _ rfl) rfl ?_
                  refine ol_yes rfl rfl (congrArg Value.bool hb217) ?_
                  refine ol_v (e_mv _ h17) rfl ?_
                  refine ol_yes rfl rfl (congrArg Value.bool hb217) ?_
                  obtain ⟨x218, hx218, hr⟩ := bind_some' hr
                  obtain ⟨g219, o220, c221, hv222, L223⟩ := OwnV.at_ h13 hx218
                  refine ol_v (e_ixO sl_23 hv222 hx218 rfl rfl) rfl ?_
                  refine ol_yes rfl rfl (congrArg Value.bool hb217) ?_
                  refine ol_v (e_ld ty_3 (LiesV.int L223) rfl) rfl ?_
                  refine ol_yes rfl rfl (congrArg Value.bool hb217) ?_
                  obtain ⟨x224, hx224, hr⟩ := bind_some' hr
                  obtain ⟨A225, c226, e227, hc228, R229⟩ := id h1
                  obtain ⟨b230, o231, hA232, L233⟩ := Row.at_ R229 hx224
                  refine ol_v (e_ix (SlT.sl sl_46) (SlT.sz sl_46) hA232 hx224 e227 rfl) rfl ?_
                  refine ol_yes rfl rfl (congrArg Value.bool hb217) ?_
                  refine ol_v (e_ld ty_4 (LiesV.bool L233.at_) rfl) rfl ?_
                  refine ol_yes rfl rfl (congrArg Value.bool hb217) ?_
                  obtain ⟨x265, hx266, hr⟩ := bind_some' hr
                  refine ol_cutA 12 128 139 (fun ρ' w' => w = w' ∧ ρ' 139 = .bool x265) rfl ?_ ?_
                  · by_cases hb234 : x224 = true
                    · have hr := hx266
                      rw [if_pos hb234] at hr
                      refine ol_v (e_mv _ rfl) rfl ?_
                      refine ol_yes rfl rfl (congrArg Value.bool hb234) ?_
                      refine ol_v (e_mv _ rfl) rfl ?_
                      refine ol_yes rfl rfl (congrArg Value.bool hb234) ?_
                      refine ol_v (e_mv _ rfl) rfl ?_
                      refine ol_yes rfl rfl (congrArg Value.bool hb234) ?_
                      refine ol_v (e_mv _ h17) rfl ?_
                      refine ol_yes rfl rfl (congrArg Value.bool hb234) ?_
                      obtain ⟨x236, hx236, hr⟩ := bind_some' hr
                      obtain ⟨g237, o238, c239, hv240, L241⟩ := OwnV.at_ h13 hx236
                      refine ol_v (e_ixO sl_23 hv240 hx236 rfl rfl) rfl ?_
                      refine ol_yes rfl rfl (congrArg Value.bool hb234) ?_
                      refine ol_v (e_ld ty_3 (LiesV.int L241) rfl) rfl ?_
                      refine ol_yes rfl rfl (congrArg Value.bool hb234) ?_
                      obtain ⟨x242, hx242, hr⟩ := bind_some' hr
                      obtain ⟨A243, c244, e245, hc246, R247⟩ := id h12
                      obtain ⟨b248, o249, hA250, L251⟩ := Row.at_ R247 hx242
                      refine ol_v (e_ix (SlT.sl sl_44) (SlT.sz sl_44) hA250 hx242 e245 rfl) rfl ?_
                      refine ol_yes rfl rfl (congrArg Value.bool hb234) ?_
                      obtain ⟨v252, hl253, hs254⟩ := LiesV.sl L251.at_
                      refine ol_v (e_ld ty_46 hl253 rfl) rfl ?_
                      refine ol_yes rfl rfl (congrArg Value.bool hb234) ?_
                      refine ol_v (e_mv _ h16) rfl ?_
                      refine ol_yes rfl rfl (congrArg Value.bool hb234) ?_
                      obtain ⟨x255, hx255, hr⟩ := bind_some' hr
                      obtain ⟨A256, c257, e258, hc259, R260⟩ := id hs254
                      obtain ⟨b261, o262, hA263, L264⟩ := Row.at_ R260 hx255
                      refine ol_v (e_ix (SlT.sl sl_46) (SlT.sz sl_46) hA263 hx255 e258 rfl) rfl ?_
                      refine ol_yes rfl rfl (congrArg Value.bool hb234) ?_
                      refine ol_v (e_ld ty_4 (LiesV.bool L264.at_) rfl) rfl ?_
                      refine ol_yes rfl rfl (congrArg Value.bool hb217) ?_
                      refine ol_v (e_pick true _ (congrArg Value.bool hb234) rfl) rfl ?_
                      exact ol_nil ⟨⟨rfl, (congrArg Value.bool (Option.some.inj hr))⟩, (((((((((((((Agr.refl _ _ _).upd rfl rfl).upd rfl rfl).upd rfl rfl).upd rfl rfl).upd rfl rfl).upd rfl rfl).upd rfl rfl).upd rfl rfl).upd rfl rfl).upd rfl rfl).upd rfl rfl).upd rfl rfl)⟩
                    · have hb235 := Bool.eq_false_iff.mpr hb234
                      have hr := hx266
                      rw [if_neg hb234] at hr
                      refine ol_v (e_mv _ rfl) rfl ?_
                      refine ol_not rfl rfl rfl (congrArg Value.bool hb235) rfl ?_
                      refine ol_not rfl rfl rfl (congrArg Value.bool hb235) rfl ?_
                      refine ol_not rfl rfl rfl (congrArg Value.bool hb235) rfl ?_
                      refine ol_not rfl rfl rfl (congrArg Value.bool hb235) rfl ?_
                      refine ol_not rfl rfl rfl (congrArg Value.bool hb235) rfl ?_
                      refine ol_not rfl rfl rfl (congrArg Value.bool hb235) rfl ?_
                      refine ol_not rfl rfl rfl (congrArg Value.bool hb235) rfl ?_
                      refine ol_not rfl rfl rfl (congrArg Value.bool hb235) rfl ?_
                      refine ol_not rfl rfl rfl (congrArg Value.bool hb235) rfl ?_
                      refine ol_not rfl rfl rfl (congrArg Value.bool hb235) rfl ?_
                      refine ol_yes rfl rfl (congrArg Value.bool hb217) ?_
                      refine ol_v (e_pick false _ (congrArg Value.bool hb235) rfl) rfl ?_
                      exact ol_nil ⟨⟨rfl, (congrArg Value.bool (Option.some.inj hr))⟩, (((((((((((((Agr.refl _ _ _).upd rfl rfl).upd rfl rfl).upd rfl rfl).upd rfl rfl).upd rfl rfl).upd rfl rfl).upd rfl rfl).upd rfl rfl).upd rfl rfl).upd rfl rfl).upd rfl rfl).upd rfl rfl)⟩
                  rintro ρ266 _ ⟨⟨rfl, hp266⟩, hAg266⟩
                  refine ol_v (e_pick false _ ((hAg266 120 rfl).trans (congrArg Value.bool hb217)) hp266) rfl ?_
                  exact ol_nil ⟨⟨rfl, (congrArg Value.bool (Option.some.inj hr))⟩, (((((((((((Agr.refl _ _ _).upd rfl rfl).upd rfl rfl).upd rfl rfl).upd rfl rfl).upd rfl rfl).upd rfl rfl).upd rfl rfl).upd rfl rfl).into hAg266 rfl rfl).upd rfl rfl)⟩
              rintro ρ268 _ ⟨⟨rfl, hp268⟩, hAg268⟩
              obtain rfl := Option.some.inj hr
              exact ol_nil ⟨F, hW, (SlR.eqv (hAg268 0 rfl) h0), (SlR.eqv (hAg268 1 rfl) h1), (SlR.eqv (hAg268 2 rfl) h2), (SlR.eqv (hAg268 9 rfl) h9), (SlR.eqv (hAg268 12 rfl) h12), (OwnV.eqv (hAg268 13 rfl) h13), ((hAg268 14 rfl).trans h14), ((hAg268 15 rfl).trans h15), ((hAg268 16 rfl).trans h16), ((hAg268 17 rfl).trans h17), hp268⟩
            refine Ref.cond (b := fun s => s.t_140) (fun s ρ w ⟨F, hW, h0, h1, h2, h9, h12, h13, h14, h15, h16, h17, h140⟩ => h140) (Ref.pre (A := G2 w0 F0) ?_ (fun s ρ w h => (fun ⟨F, hW, h0, h1, h2, h9, h12, h13, h14, h15, h16, h17, h140⟩ => ⟨F, hW⟩ : G19 w0 F0 s ρ w → G2 w0 F0 s ρ w) h.2)) (Ref.pre (A := G17 w0 F0) ?_ (fun s ρ w h => (fun ⟨F, hW, h0, h1, h2, h9, h12, h13, h14, h15, h16, h17, h140⟩ => ⟨F, hW, h0, h1, h2, h9, h12, h13, h14, h15, h16, h17⟩ : G19 w0 F0 s ρ w → G17 w0 F0 s ρ w) h.2))
            · refine Ref.seq (B := G3 w0 F0) ?_ ?_
              · refine Ref.region (fun s ρ w s' h hr => ?_)
                obtain ⟨F, hW⟩ := h
                refine ol_v (e_as _ rfl) rfl ?_
                obtain rfl := Option.some.inj hr
                exact ol_nil ⟨F, hW, rfl⟩
              exact Ref.ret (fun s ρ w h => ⟨s, rfl, h⟩)
            · exact Ref.skip
          refine Ref.region (fun s ρ w s' h hr => ?_)
          obtain ⟨F, hW, h0, h1, h2, h9, h12, h13, h14, h15, h16, h17⟩ := h
          refine ol_v (e_mv _ h17) rfl ?_
          refine ol_v (e_add rfl rfl) rfl ?_
          refine ol_v (e_as _ rfl) rfl ?_
          obtain rfl := Option.some.inj hr
          exact ol_nil ⟨F, hW, h0, h1, h2, h9, h12, h13, h14, h15, h16, rfl⟩
        refine Ref.region (fun s ρ w s' h hr => ?_)
        obtain ⟨F, hW, h0, h1, h2, h9, h12, h13, h14, h15⟩ := h
        refine ol_v (e_mv _ h15) rfl ?_
        refine ol_v (e_add rfl rfl) rfl ?_
        refine ol_v (e_as _ rfl) rfl ?_
        obtain rfl := Option.some.inj hr
        exact ol_nil ⟨F, hW, h0, h1, h2, h9, h12, h13, h14, rfl⟩
      refine Ref.region (fun s ρ w s' h hr => ?_)
      obtain ⟨F, hW, h0, h1, h2, h9, h12, h13, h14⟩ := h
      refine ol_v (e_mv _ rfl) rfl ?_
      refine ol_v (e_mv _ rfl) rfl ?_
      refine ol_v (e_mv _ h14) rfl ?_
      obtain ⟨x269, hx269, hr⟩ := bind_some' hr
      obtain ⟨A270, c271, e272, hc273, R274⟩ := id h9
      obtain ⟨b275, o276, hA277, L278⟩ := Row.at_ R274 hx269
      refine ol_v (e_ix (SlT.sl sl_48) (SlT.sz sl_48) hA277 hx269 e272 rfl) rfl ?_
      obtain ⟨v279, hl280, hs281⟩ := LiesV.sl L278.at_
      refine ol_v (e_ld ty_23 hl280 rfl) rfl ?_
      obtain ⟨x282, hx282, hr⟩ := bind_some' hr
      refine ol_e (f_app sl_23 hW h13 hs281 hx282 rfl rfl) rfl rfl ?_
      rintro v283 w284 ⟨hW285, ho286, hg1, st1, hor287⟩
      refine ol_v (e_as _ rfl) rfl ?_
      obtain rfl := Option.some.inj hr
      exact ol_nil ⟨F, hW285, (h0.keep st1), (h1.keep st1), (h2.keep st1), (h9.keep st1), (h12.keep st1), ho286, h14⟩
    refine Ref.region (fun s ρ w s' h hr => ?_)
    obtain ⟨F, hW, h0, h1, h2, h9, h12, h13, h14⟩ := h
    refine ol_v (e_mv _ h14) rfl ?_
    refine ol_v (e_add rfl rfl) rfl ?_
    refine ol_v (e_as _ rfl) rfl ?_
    obtain rfl := Option.some.inj hr
    exact ol_nil ⟨F, hW, h0, h1, h2, h9, h12, h13, rfl⟩
  refine Ref.seq (B := G3 w0 F0) ?_ ?_
  · refine Ref.region (fun s ρ w s' h hr => ?_)
    obtain ⟨F, hW⟩ := h
    refine ol_v (e_as _ rfl) rfl ?_
    obtain rfl := Option.some.inj hr
    exact ol_nil ⟨F, hW, rfl⟩
  exact Ref.ret (fun s ρ w h => ⟨s, rfl, h⟩)
def post (w : World) (F : BSet) (r : R) (v : Value) (w' : World) : Prop := ∃ (F' : BSet), v = .bool r ∧ Wk nrow w F F' w'
theorem calls {w : World} {F : BSet} (hok : ∀ b, F b → b < w.heap.size) {v0 : Value} {a0 : (List Commit)} (h0 : SlR k_Commit F w v0 a0) {v1 : Value} {a1 : (List Bool)} (h1 : SlR kBool F w v1 a1) {v2 : Value} {a2 : (List Bool)} (h2 : SlR kBool F w v2 a2) {v3 : Value} {a3 : (List Int)} (h3 : SlR (kInt .i64) F w v3 a3) {r : R} (hf : f a0 a1 a2 a3 = some r) : Calls Try.prog 11 #[v0, v1, v2, v3] w fun e w' => ∃ v, e = .returned v ∧ post w F r v w' := by
  obtain ⟨c, hc, href⟩ := ref w F
  refine calls_of_ref (args := [v0, v1, v2, v3]) _ Try.func11 hc rfl rfl href ?_ (retOf_some hf) ?_
  · exact ⟨F, Wk.refl hok, h0, h1, h2, h3⟩
  · rintro ρ w' a ⟨s, rfl, F', hW, h8⟩ hF
    refine ⟨_, run_results (rs := [.tmp 8]) rfl hF (vs := [ρ 8]) (⟨_, rfl, rfl⟩), ?_⟩
    have hv : resVal [ρ 8] = .bool s.t_8 := by rw [h8]; rfl
    exact ⟨F', hv, hW⟩
end
end law4_NegotiateNothingTwice

end Go.Proofs.Ytilodamhgepjoaa
