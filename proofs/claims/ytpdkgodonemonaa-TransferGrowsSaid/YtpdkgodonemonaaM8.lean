/- The machine's calls come to these plain functions (written by a program, wip/fx/gen.py). -/
import Derived.Test.YtpdkgodonemonaaPA
import Derived.Test.YtpdkgodonemonaaNm
import Derived.Test.YtpdkgodonemonaaM1
import Derived.Test.YtpdkgodonemonaaM4
import Derived.Test.YtpdkgodonemonaaIt
import Derived.Test.YtpdkgodonemonaaSl
namespace Go.Proofs.Ytpdkgodonemonaa
open Go.Fx Go.RowKit
set_option linter.unusedVariables false

namespace law4_TransferGrows
section
def G0 (w0 : World) (F0 : BSet) (s : S) (ρ : Env) (w : World) : Prop := ∃ (F : BSet), Wk nrow w0 F0 F w ∧ SlR kByte F w (ρ 0) s.t_0 ∧ SlR k_LinkEvent F w (ρ 1) s.t_1 ∧ ρ 2 = .int .i64 s.t_2
def G1 (w0 : World) (F0 : BSet) (s : S) (ρ : Env) (w : World) : Prop := ∃ (F : BSet), Wk nrow w0 F0 F w ∧ SlR kByte F w (ρ 0) s.t_0 ∧ SlR k_LinkEvent F w (ρ 1) s.t_1 ∧ ρ 2 = .int .i64 s.t_2 ∧ ρ 14 = .bool s.t_14
def G2 (w0 : World) (F0 : BSet) (s : S) (ρ : Env) (w : World) : Prop := ∃ (F : BSet), Wk nrow w0 F0 F w
def G3 (w0 : World) (F0 : BSet) (s : S) (ρ : Env) (w : World) : Prop := ∃ (F : BSet), Wk nrow w0 F0 F w ∧ ρ 6 = .bool s.t_6
def G4 (w0 : World) (F0 : BSet) (s : S) (ρ : Env) (w : World) : Prop := ∃ (F : BSet), Wk nrow w0 F0 F w ∧ ∃ (g9 : Nat), SlR kByte F w (ρ 0) s.t_0 ∧ SlR k_LinkEvent F w (ρ 1) s.t_1 ∧ ρ 2 = .int .i64 s.t_2 ∧ SlR kByte F w (ρ 7) s.t_7 ∧ ρ 8 = .int .i64 s.t_8 ∧ ρ 9 = .pointer (some ⟨g9, 0, none⟩) ∧ Box k_Fault 27 (Bs w0 nrow) F w g9 s.t_9
def G5 (w0 : World) (F0 : BSet) (s : S) (ρ : Env) (w : World) : Prop := ∃ (F : BSet), Wk nrow w0 F0 F w ∧ ∃ (g9 : Nat), SlR kByte F w (ρ 0) s.t_0 ∧ SlR k_LinkEvent F w (ρ 1) s.t_1 ∧ ρ 2 = .int .i64 s.t_2 ∧ SlR kByte F w (ρ 7) s.t_7 ∧ ρ 8 = .int .i64 s.t_8 ∧ ρ 9 = .pointer (some ⟨g9, 0, none⟩) ∧ Box k_Fault 27 (Bs w0 nrow) F w g9 s.t_9 ∧ ρ 31 = .bool s.t_31
def G6 (w0 : World) (F0 : BSet) (s : S) (ρ : Env) (w : World) : Prop := ∃ (F : BSet), Wk nrow w0 F0 F w ∧ ∃ (g9 : Nat), SlR kByte F w (ρ 7) s.t_7 ∧ ρ 8 = .int .i64 s.t_8 ∧ ρ 9 = .pointer (some ⟨g9, 0, none⟩) ∧ Box k_Fault 27 (Bs w0 nrow) F w g9 s.t_9
def G7 (w0 : World) (F0 : BSet) (s : S) (ρ : Env) (w : World) : Prop := ∃ (F : BSet), Wk nrow w0 F0 F w ∧ SlR kByte F w (ρ 0) s.t_0 ∧ SlR k_LinkEvent F w (ρ 1) s.t_1 ∧ ρ 2 = .int .i64 s.t_2 ∧ SlR kByte F w (ρ 7) s.t_7 ∧ ρ 8 = .int .i64 s.t_8
def G8 (w0 : World) (F0 : BSet) (s : S) (ρ : Env) (w : World) : Prop := ∃ (F : BSet), Wk nrow w0 F0 F w ∧ ∃ (g12 : Nat), SlR kByte F w (ρ 7) s.t_7 ∧ ρ 8 = .int .i64 s.t_8 ∧ SlR kByte F w (ρ 10) s.t_10 ∧ ρ 11 = .int .i64 s.t_11 ∧ ρ 12 = .pointer (some ⟨g12, 0, none⟩) ∧ Box k_Fault 27 (Bs w0 nrow) F w g12 s.t_12
set_option maxHeartbeats 4000000 in
set_option maxRecDepth 20000 in
theorem ref (w0 : World) (F0 : BSet) : ∃ c, Try.f6.body = some c ∧ Ref Try.prog 76 c (G0 w0 F0) body (fun _ _ _ => False) (fun _ _ _ _ => False) (fun r ρ w => ∃ s, retv s = r ∧ G3 w0 F0 s ρ w) := by
  refine ⟨_, rfl, ?_⟩
  unfold body
  refine Ref.seq (B := G0 w0 F0) ?_ ?_
  · refine Ref.region (fun s ρ w s' h hr => ?_)
    obtain ⟨F, hW, h0, h1, h2⟩ := h
    refine ol_v (e_as _ rfl) rfl ?_
    obtain rfl := Option.some.inj hr
    exact ol_nil ⟨F, hW, h0, h1, h2⟩
  refine Ref.seq (B := G0 w0 F0) ?_ ?_
  · refine Ref.seq (B := G1 w0 F0) ?_ ?_
    · refine Ref.region (fun s ρ w s' h hr => ?_)
      obtain ⟨F, hW, h0, h1, h2⟩ := h
      obtain ⟨x1, hx1, hr⟩ := bind_some' hr
      refine ol_e (f_call [] fn_8 rfl (law4_transferExample.calls hW.ok  hx1)) rfl rfl ?_
      rintro _ w2 ⟨Fz3, rfl, kw1⟩
      have hW5 := hW.trans kw1
      have st1 := kw1.stp hW.ok
      refine ol_v (e_not_ rfl) rfl ?_
      obtain rfl := Option.some.inj hr
      exact ol_nil ⟨Fz3, hW5, (h0.keep st1), (h1.keep st1), h2, rfl⟩
    refine Ref.cond (b := fun s => s.t_14) (fun s ρ w ⟨F, hW, h0, h1, h2, h14⟩ => h14) (Ref.pre (A := G2 w0 F0) ?_ (fun s ρ w h => (fun ⟨F, hW, h0, h1, h2, h14⟩ => ⟨F, hW⟩ : G1 w0 F0 s ρ w → G2 w0 F0 s ρ w) h.2)) (Ref.pre (A := G0 w0 F0) ?_ (fun s ρ w h => (fun ⟨F, hW, h0, h1, h2, h14⟩ => ⟨F, hW, h0, h1, h2⟩ : G1 w0 F0 s ρ w → G0 w0 F0 s ρ w) h.2))
    · refine Ref.seq (B := G3 w0 F0) ?_ ?_
      · refine Ref.region (fun s ρ w s' h hr => ?_)
        obtain ⟨F, hW⟩ := h
        refine ol_v (e_as _ rfl) rfl ?_
        obtain rfl := Option.some.inj hr
        exact ol_nil ⟨F, hW, rfl⟩
      exact Ref.ret (fun s ρ w h => ⟨s, rfl, h⟩)
    · exact Ref.skip
  refine Ref.seq (B := G4 w0 F0) ?_ ?_
  · refine Ref.region (fun s ρ w s' h hr => ?_)
    obtain ⟨F, hW, h0, h1, h2⟩ := h
    refine ol_v (e_mv _ rfl) rfl ?_
    refine ol_v (e_mv _ rfl) rfl ?_
    obtain ⟨x6, hx6, hr⟩ := bind_some' hr
    refine ol_e (f_call [(ρ 0), (ρ 1)] fn_10 (lcons rfl (lcons rfl rfl)) (transfer_Run.calls hW.ok h0 h1 hx6)) rfl rfl ?_
    rintro _ w7 ⟨Fz8, v9, v11, rfl, kw1, hk10, hk12⟩
    have hW14 := hW.trans kw1
    have st1 := kw1.stp hW.ok
    refine ol_v (e_mv _ rfl) rfl ?_
    refine ol_v (e_ext _ rfl rfl) rfl ?_
    refine ol_v (e_ext _ rfl rfl) rfl ?_
    refine ol_v (e_ext _ rfl rfl) rfl ?_
    refine ol_e (f_alloc zer_27 hW14) rfl rfl ?_
    rintro _ w16 ⟨g15, rfl, kw2, ho17⟩
    have hW18 := hW14.trans kw2
    have st2 := kw2.stp hW14.ok
    obtain ⟨Fz19, hWz20, st3, hF3, hz21⟩ := (((hk10.base (row := nrow) hW.le).wk kw2 hW14.ok)).frozen hW18
    refine ol_v (e_as _ rfl) rfl ?_
    refine ol_v (e_as _ rfl) rfl ?_
    refine ol_eN (f_stB hWz20 ((ho17.base (row := nrow) hW14.le).frz (apart_bo (ho17.base (row := nrow) hW14.le) ((hk10.base (row := nrow) hW.le).wk kw2 hW14.ok) rfl).symm hF3 st3) (FldS.whole _) ty_27 (hk12.keep (st2.trans st3)) rfl rfl) rfl ?_
    rintro - w22 ⟨hW23, ho24, hg4, st4⟩
    obtain rfl := Option.some.inj hr
    exact ol_nil ⟨Fz19, hW23, g15, (h0.keep (st1.trans (st2.trans (st3.trans st4)))), (h1.keep (st1.trans (st2.trans (st3.trans st4)))), h2, (hz21.keep st4), rfl, rfl, ho24⟩
  refine Ref.seq (B := G7 w0 F0) ?_ ?_
  · refine Ref.seq (B := G5 w0 F0) ?_ ?_
    · refine Ref.region (fun s ρ w s' h hr => ?_)
      obtain ⟨F, hW, g9, h0, h1, h2, h7, h8, p9, h9⟩ := h
      refine ol_v (e_fa fa_27_0 p9) rfl ?_
      refine ol_v (e_ld ty_3 (LiesV.int ((h9).at_.fld fl_Fault_0)) rfl) rfl ?_
      refine ol_v (e_neq rfl rfl) rfl ?_
      obtain ⟨x37, hx38, hr⟩ := bind_some' hr
      refine ol_cutA 7 25 31 (fun ρ' w' => ∃ F', Wk nrow w F F' w' ∧ ρ' 31 = .bool x37) rfl ?_ ?_
      · by_cases hb25 : (!decide (s.t_9.Code = (0 : Int))) = true
        · have hr := hx38
          rw [if_pos hb25] at hr
          refine ol_v (e_mv _ rfl) rfl ?_
          refine ol_not rfl rfl rfl (congrArg Value.bool hb25) rfl ?_
          refine ol_not rfl rfl rfl (congrArg Value.bool hb25) rfl ?_
          refine ol_not rfl rfl rfl (congrArg Value.bool hb25) rfl ?_
          refine ol_not rfl rfl rfl (congrArg Value.bool hb25) rfl ?_
          refine ol_not rfl rfl rfl (congrArg Value.bool hb25) rfl ?_
          refine ol_v (e_pick true _ (congrArg Value.bool hb25) rfl) rfl ?_
          exact ol_nil ⟨⟨_, Wk.refl hW.ok, (congrArg Value.bool (Option.some.inj hr))⟩, ((((((((Agr.refl _ _ _).upd rfl rfl).upd rfl rfl).upd rfl rfl).upd rfl rfl).upd rfl rfl).upd rfl rfl).upd rfl rfl)⟩
        · have hb26 := Bool.eq_false_iff.mpr hb25
          have hr := hx38
          rw [if_neg hb25] at hr
          refine ol_v (e_mv _ rfl) rfl ?_
          refine ol_yes rfl rfl (congrArg Value.bool hb26) ?_
          refine ol_v (e_mv _ h2) rfl ?_
          refine ol_yes rfl rfl (congrArg Value.bool hb26) ?_
          refine ol_v (e_mv _ rfl) rfl ?_
          refine ol_yes rfl rfl (congrArg Value.bool hb26) ?_
          obtain ⟨A27, c28, e29, hc30, R31⟩ := id h1
          refine ol_v (e_len (SlT.sl sl_23) e29) rfl ?_
          refine ol_yes rfl rfl (congrArg Value.bool hb26) ?_
          obtain ⟨x32, hx32, hr⟩ := bind_some' hr
          refine ol_e (f_call [.int .i64 s.t_2, .int .i64 (0 : Int), .int .i64 (s.t_1.length : Int)] fn_18 (lcons rfl (lcons rfl (lcons rfl rfl))) (ref3_In.calls hW.ok s.t_2 (0 : Int) (s.t_1.length : Int) hx32)) rfl rfl ?_
          rintro _ w33 ⟨Fz34, rfl, kw1⟩
          have hW36 := hW.trans kw1
          have st1 := kw1.stp hW.ok
          refine ol_yes rfl rfl (congrArg Value.bool hb26) ?_
          refine ol_v (e_not_ rfl) rfl ?_
          refine ol_v (e_pick false _ (congrArg Value.bool hb26) rfl) rfl ?_
          exact ol_nil ⟨⟨_, kw1, (congrArg Value.bool (Option.some.inj hr))⟩, ((((((((Agr.refl _ _ _).upd rfl rfl).upd rfl rfl).upd rfl rfl).upd rfl rfl).upd rfl rfl).upd rfl rfl).upd rfl rfl)⟩
      rintro ρ38 w39 ⟨⟨Fz40, kw1, hp38⟩, hAg38⟩
      have hW41 := hW.trans kw1
      have st1 := kw1.stp hW.ok
      obtain rfl := Option.some.inj hr
      exact ol_nil ⟨Fz40, hW41, g9, (SlR.eqv (hAg38 0 rfl) (h0.keep st1)), (SlR.eqv (hAg38 1 rfl) (h1.keep st1)), ((hAg38 2 rfl).trans h2), (SlR.eqv (hAg38 7 rfl) (h7.keep st1)), ((hAg38 8 rfl).trans h8), ((hAg38 9 rfl).trans p9), (h9.wk kw1 hW.ok), hp38⟩
    refine Ref.cond (b := fun s => s.t_31) (fun s ρ w ⟨F, hW, g9, h0, h1, h2, h7, h8, p9, h9, h31⟩ => h31) (Ref.pre (A := G6 w0 F0) ?_ (fun s ρ w h => (fun ⟨F, hW, g9, h0, h1, h2, h7, h8, p9, h9, h31⟩ => ⟨F, hW, g9, h7, h8, p9, h9⟩ : G5 w0 F0 s ρ w → G6 w0 F0 s ρ w) h.2)) (Ref.pre (A := G7 w0 F0) ?_ (fun s ρ w h => (fun ⟨F, hW, g9, h0, h1, h2, h7, h8, p9, h9, h31⟩ => ⟨F, hW, h0, h1, h2, h7, h8⟩ : G5 w0 F0 s ρ w → G7 w0 F0 s ρ w) h.2))
    · refine Ref.seq (B := G3 w0 F0) ?_ ?_
      · refine Ref.region (fun s ρ w s' h hr => ?_)
        obtain ⟨F, hW, g9, h7, h8, p9, h9⟩ := h
        refine ol_v (e_fa fa_27_0 p9) rfl ?_
        refine ol_v (e_ld ty_3 (LiesV.int ((h9).at_.fld fl_Fault_0)) rfl) rfl ?_
        refine ol_v (e_eql rfl rfl) rfl ?_
        refine ol_cutA 7 35 41 (fun ρ' w' => w = w' ∧ ρ' 41 = .bool ((decide (s.t_9.Code = (0 : Int))) || (decide ((w64 ((s.t_7.length : Int) + s.t_8)) = (0 : Int))))) rfl ?_ ?_
        · by_cases hb42 : (decide (s.t_9.Code = (0 : Int))) = true
          · refine ol_v (e_mv _ rfl) rfl ?_
            refine ol_not rfl rfl rfl (congrArg Value.bool hb42) rfl ?_
            refine ol_not rfl rfl rfl (congrArg Value.bool hb42) rfl ?_
            refine ol_not rfl rfl rfl (congrArg Value.bool hb42) rfl ?_
            refine ol_not rfl rfl rfl (congrArg Value.bool hb42) rfl ?_
            refine ol_not rfl rfl rfl (congrArg Value.bool hb42) rfl ?_
            refine ol_v (e_pick true _ (congrArg Value.bool hb42) rfl) rfl ?_
            exact ol_nil ⟨⟨rfl, (bv_or_t hb42)⟩, ((((((((Agr.refl _ _ _).upd rfl rfl).upd rfl rfl).upd rfl rfl).upd rfl rfl).upd rfl rfl).upd rfl rfl).upd rfl rfl)⟩
          · have hb43 := Bool.eq_false_iff.mpr hb42
            refine ol_v (e_mv _ rfl) rfl ?_
            refine ol_yes rfl rfl (congrArg Value.bool hb43) ?_
            refine ol_v (e_mv _ rfl) rfl ?_
            refine ol_yes rfl rfl (congrArg Value.bool hb43) ?_
            obtain ⟨A44, c45, e46, hc47, R48⟩ := id h7
            refine ol_v (e_len (SlT.sl sl_22) e46) rfl ?_
            refine ol_yes rfl rfl (congrArg Value.bool hb43) ?_
            refine ol_v (e_mv _ h8) rfl ?_
            refine ol_yes rfl rfl (congrArg Value.bool hb43) ?_
            refine ol_v (e_add rfl rfl) rfl ?_
            refine ol_yes rfl rfl (congrArg Value.bool hb43) ?_
            refine ol_v (e_eql rfl rfl) rfl ?_
            refine ol_v (e_pick false _ (congrArg Value.bool hb43) rfl) rfl ?_
            exact ol_nil ⟨⟨rfl, (bv_or_f hb43)⟩, ((((((((Agr.refl _ _ _).upd rfl rfl).upd rfl rfl).upd rfl rfl).upd rfl rfl).upd rfl rfl).upd rfl rfl).upd rfl rfl)⟩
        rintro ρ49 _ ⟨⟨rfl, hp49⟩, hAg49⟩
        refine ol_v (e_as _ hp49) rfl ?_
        obtain rfl := Option.some.inj hr
        exact ol_nil ⟨F, hW, rfl⟩
      exact Ref.ret (fun s ρ w h => ⟨s, rfl, h⟩)
    · exact Ref.skip
  refine Ref.seq (B := G8 w0 F0) ?_ ?_
  · refine Ref.region (fun s ρ w s' h hr => ?_)
    obtain ⟨F, hW, h0, h1, h2, h7, h8⟩ := h
    refine ol_v (e_mv _ rfl) rfl ?_
    refine ol_v (e_mv _ rfl) rfl ?_
    refine ol_v (e_mv _ h2) rfl ?_
    obtain ⟨A50, c51, e52, hc53, R54⟩ := id h1
    obtain ⟨x55, hx55, hr⟩ := bind_some' hr
    have hs56 := SlR.cutTo R54 hc53 hx55
    refine ol_v (e_slH (SlT.sl sl_23) (SlT.sz sl_23) hc53 e52 rfl hx55) rfl ?_
    obtain ⟨x57, hx57, hr⟩ := bind_some' hr
    refine ol_e (f_call [(ρ 0), (sliced A50 0 (s.t_2).toNat c51 k_LinkEvent.sz)] fn_10 (lcons rfl (lcons rfl rfl)) (transfer_Run.calls hW.ok h0 hs56 hx57)) rfl rfl ?_
    rintro _ w58 ⟨Fz59, v60, v62, rfl, kw1, hk61, hk63⟩
    have hW65 := hW.trans kw1
    have st1 := kw1.stp hW.ok
    refine ol_v (e_mv _ rfl) rfl ?_
    refine ol_v (e_ext _ rfl rfl) rfl ?_
    refine ol_v (e_ext _ rfl rfl) rfl ?_
    refine ol_v (e_ext _ rfl rfl) rfl ?_
    refine ol_e (f_alloc zer_27 hW65) rfl rfl ?_
    rintro _ w67 ⟨g66, rfl, kw2, ho68⟩
    have hW69 := hW65.trans kw2
    have st2 := kw2.stp hW65.ok
    obtain ⟨Fz70, hWz71, st3, hF3, hz72⟩ := (((hk61.base (row := nrow) hW.le).wk kw2 hW65.ok)).frozen hW69
    refine ol_v (e_as _ rfl) rfl ?_
    refine ol_v (e_as _ rfl) rfl ?_
    refine ol_eN (f_stB hWz71 ((ho68.base (row := nrow) hW65.le).frz (apart_bo (ho68.base (row := nrow) hW65.le) ((hk61.base (row := nrow) hW.le).wk kw2 hW65.ok) rfl).symm hF3 st3) (FldS.whole _) ty_27 (hk63.keep (st2.trans st3)) rfl rfl) rfl ?_
    rintro - w73 ⟨hW74, ho75, hg4, st4⟩
    obtain rfl := Option.some.inj hr
    exact ol_nil ⟨Fz70, hW74, g66, (h7.keep (st1.trans (st2.trans (st3.trans st4)))), h8, (hz72.keep st4), rfl, rfl, ho75⟩
  refine Ref.seq (B := G3 w0 F0) ?_ ?_
  · refine Ref.regionS (by kernel_rfl) (by kernel_rfl) (fun s ρ w ⟨F, hW, g12, h7, h8, h10, h11, p12, h12⟩ => ⟨F, hW.drewS, g12, h7.keep (sd hW), h8, h10.keep (sd hW), h11, p12, h12.wk (Wk.drew (row := nrow) hW.ok) hW.ok⟩) (fun s ρ w s' h hr => ?_)
    obtain ⟨F, hW, g12, h7, h8, h10, h11, p12, h12⟩ := h
    refine ol_v (e_fa fa_27_0 p12) rfl ?_
    refine ol_v (e_ld ty_3 (LiesV.int ((h12).at_.fld fl_Fault_0)) rfl) rfl ?_
    refine ol_v (e_eql rfl rfl) rfl ?_
    refine ol_cutA 5 54 58 (fun ρ' w' => w = w' ∧ ρ' 58 = .bool ((decide (s.t_12.Code = (0 : Int))) && (decide (s.t_11 ≤ s.t_8)))) rfl ?_ ?_
    · by_cases hb76 : (decide (s.t_12.Code = (0 : Int))) = true
      · refine ol_v (e_mv _ rfl) rfl ?_
        refine ol_yes rfl rfl (congrArg Value.bool hb76) ?_
        refine ol_v (e_mv _ h11) rfl ?_
        refine ol_yes rfl rfl (congrArg Value.bool hb76) ?_
        refine ol_v (e_mv _ h8) rfl ?_
        refine ol_yes rfl rfl (congrArg Value.bool hb76) ?_
        refine ol_v (e_leq rfl rfl) rfl ?_
        refine ol_v (e_pick true _ (congrArg Value.bool hb76) rfl) rfl ?_
        exact ol_nil ⟨⟨rfl, (bv_and_t hb76)⟩, ((((((Agr.refl _ _ _).upd rfl rfl).upd rfl rfl).upd rfl rfl).upd rfl rfl).upd rfl rfl)⟩
      · have hb77 := Bool.eq_false_iff.mpr hb76
        refine ol_v (e_mv _ rfl) rfl ?_
        refine ol_not rfl rfl rfl (congrArg Value.bool hb77) rfl ?_
        refine ol_not rfl rfl rfl (congrArg Value.bool hb77) rfl ?_
        refine ol_not rfl rfl rfl (congrArg Value.bool hb77) rfl ?_
        refine ol_v (e_pick false _ (congrArg Value.bool hb77) rfl) rfl ?_
        exact ol_nil ⟨⟨rfl, (bv_and_f hb77)⟩, ((((((Agr.refl _ _ _).upd rfl rfl).upd rfl rfl).upd rfl rfl).upd rfl rfl).upd rfl rfl)⟩
    rintro ρ78 _ ⟨⟨rfl, hp78⟩, hAg78⟩
    refine ol_cutA 7 59 65 (fun ρ' w' => w = w' ∧ ρ' 65 = .bool (((decide (s.t_12.Code = (0 : Int))) && (decide (s.t_11 ≤ s.t_8))) && (decide ((s.t_10.length : Int) ≤ (s.t_7.length : Int))))) rfl ?_ ?_
    · by_cases hb79 : ((decide (s.t_12.Code = (0 : Int))) && (decide (s.t_11 ≤ s.t_8))) = true
      · refine ol_v (e_mv _ hp78) rfl ?_
        refine ol_yes rfl rfl (congrArg Value.bool hb79) ?_
        refine ol_v (e_mv _ (hAg78 10 rfl)) rfl ?_
        refine ol_yes rfl rfl (congrArg Value.bool hb79) ?_
        obtain ⟨A81, c82, e83, hc84, R85⟩ := id h10
        refine ol_v (e_len (SlT.sl sl_22) e83) rfl ?_
        refine ol_yes rfl rfl (congrArg Value.bool hb79) ?_
        refine ol_v (e_mv _ (hAg78 7 rfl)) rfl ?_
        refine ol_yes rfl rfl (congrArg Value.bool hb79) ?_
        obtain ⟨A86, c87, e88, hc89, R90⟩ := id h7
        refine ol_v (e_len (SlT.sl sl_22) e88) rfl ?_
        refine ol_yes rfl rfl (congrArg Value.bool hb79) ?_
        refine ol_v (e_leq rfl rfl) rfl ?_
        refine ol_v (e_pick true _ (congrArg Value.bool hb79) rfl) rfl ?_
        exact ol_nil ⟨⟨rfl, (bv_and_t hb79)⟩, ((((((((Agr.refl _ _ _).upd rfl rfl).upd rfl rfl).upd rfl rfl).upd rfl rfl).upd rfl rfl).upd rfl rfl).upd rfl rfl)⟩
      · have hb80 := Bool.eq_false_iff.mpr hb79
        refine ol_v (e_mv _ hp78) rfl ?_
        refine ol_not rfl rfl rfl (congrArg Value.bool hb80) rfl ?_
        refine ol_not rfl rfl rfl (congrArg Value.bool hb80) rfl ?_
        refine ol_not rfl rfl rfl (congrArg Value.bool hb80) rfl ?_
        refine ol_not rfl rfl rfl (congrArg Value.bool hb80) rfl ?_
        refine ol_not rfl rfl rfl (congrArg Value.bool hb80) rfl ?_
        refine ol_v (e_pick false _ (congrArg Value.bool hb80) rfl) rfl ?_
        exact ol_nil ⟨⟨rfl, (bv_and_f hb80)⟩, ((((((((Agr.refl _ _ _).upd rfl rfl).upd rfl rfl).upd rfl rfl).upd rfl rfl).upd rfl rfl).upd rfl rfl).upd rfl rfl)⟩
    rintro ρ91 _ ⟨⟨rfl, hp91⟩, hAg91⟩
    obtain ⟨x106, hx107, hr⟩ := bind_some' hr
    refine ol_cutA 10 66 75 (fun ρ' w' => w = w' ∧ ρ' 75 = .bool x106) rfl ?_ ?_
    · by_cases hb92 : (((decide (s.t_12.Code = (0 : Int))) && (decide (s.t_11 ≤ s.t_8))) && (decide ((s.t_10.length : Int) ≤ (s.t_7.length : Int)))) = true
      · have hr := hx107
        rw [if_pos hb92] at hr
        refine ol_v (e_mv _ hp91) rfl ?_
        refine ol_yes rfl rfl (congrArg Value.bool hb92) ?_
        refine ol_v (e_mv _ ((hAg91 10 rfl).trans (hAg78 10 rfl))) rfl ?_
        refine ol_yes rfl rfl (congrArg Value.bool hb92) ?_
        refine ol_v (e_b2s (SlT.sl sl_22) (by kernel_rfl) (by kernel_rfl) h10 rfl) rfl ?_
        refine ol_yes rfl rfl (congrArg Value.bool hb92) ?_
        refine ol_v (e_mv _ ((hAg91 7 rfl).trans (hAg78 7 rfl))) rfl ?_
        refine ol_yes rfl rfl (congrArg Value.bool hb92) ?_
        refine ol_v (e_mv _ ((hAg91 10 rfl).trans (hAg78 10 rfl))) rfl ?_
        refine ol_yes rfl rfl (congrArg Value.bool hb92) ?_
        obtain ⟨A94, c95, e96, hc97, R98⟩ := id h10
        refine ol_v (e_len (SlT.sl sl_22) e96) rfl ?_
        refine ol_yes rfl rfl (congrArg Value.bool hb92) ?_
        obtain ⟨A99, c100, e101, hc102, R103⟩ := id h7
        obtain ⟨x104, hx104, hr⟩ := bind_some' hr
        have hs105 := SlR.cutTo R103 hc102 hx104
        refine ol_v (e_slH (SlT.sl sl_22) (SlT.sz sl_22) hc102 e101 rfl hx104) rfl ?_
        refine ol_yes rfl rfl (congrArg Value.bool hb92) ?_
        refine ol_v (e_b2s (SlT.sl sl_22) (by kernel_rfl) (by kernel_rfl) hs105 rfl) rfl ?_
        refine ol_yes rfl rfl (congrArg Value.bool hb92) ?_
        refine ol_v (e_seql rfl rfl) rfl ?_
        refine ol_v (e_pick true _ (congrArg Value.bool hb92) rfl) rfl ?_
        exact ol_nil ⟨⟨rfl, (congrArg Value.bool (Option.some.inj hr))⟩, (((((((((((Agr.refl _ _ _).upd rfl rfl).upd rfl rfl).upd rfl rfl).upd rfl rfl).upd rfl rfl).upd rfl rfl).upd rfl rfl).upd rfl rfl).upd rfl rfl).upd rfl rfl)⟩
      · have hb93 := Bool.eq_false_iff.mpr hb92
        have hr := hx107
        rw [if_neg hb92] at hr
        refine ol_v (e_mv _ hp91) rfl ?_
        refine ol_not rfl rfl rfl (congrArg Value.bool hb93) rfl ?_
        refine ol_not rfl rfl rfl (congrArg Value.bool hb93) rfl ?_
        refine ol_not rfl rfl rfl (congrArg Value.bool hb93) rfl ?_
        refine ol_not rfl rfl rfl (congrArg Value.bool hb93) rfl ?_
        refine ol_not rfl rfl rfl (congrArg Value.bool hb93) rfl ?_
        refine ol_not rfl rfl rfl (congrArg Value.bool hb93) rfl ?_
        refine ol_not rfl rfl rfl (congrArg Value.bool hb93) rfl ?_
        refine ol_not rfl rfl rfl (congrArg Value.bool hb93) rfl ?_
        refine ol_v (e_pick false _ (congrArg Value.bool hb93) rfl) rfl ?_
        exact ol_nil ⟨⟨rfl, (congrArg Value.bool (Option.some.inj hr))⟩, (((((((((((Agr.refl _ _ _).upd rfl rfl).upd rfl rfl).upd rfl rfl).upd rfl rfl).upd rfl rfl).upd rfl rfl).upd rfl rfl).upd rfl rfl).upd rfl rfl).upd rfl rfl)⟩
    rintro ρ107 _ ⟨⟨rfl, hp107⟩, hAg107⟩
    refine ol_v (e_as _ hp107) rfl ?_
    obtain rfl := Option.some.inj hr
    exact ol_nil ⟨F, hW, rfl⟩
  exact Ref.ret (fun s ρ w h => ⟨s, rfl, h⟩)
def post (w : World) (F : BSet) (r : R) (v : Value) (w' : World) : Prop := ∃ (F' : BSet), v = .bool r ∧ Wk nrow w F F' w'
theorem calls {w : World} {F : BSet} (hok : ∀ b, F b → b < w.heap.size) {v0 : Value} {a0 : (List UInt8)} (h0 : SlR kByte F w v0 a0) {v1 : Value} {a1 : (List LinkEvent)} (h1 : SlR k_LinkEvent F w v1 a1) (a2 : Int) {r : R} (hf : f a0 a1 a2 = some r) : Calls Try.prog 6 #[v0, v1, .int .i64 a2] w fun e w' => ∃ v, e = .returned v ∧ post w F r v w' := by
  obtain ⟨c, hc, href⟩ := ref w F
  refine calls_of_ref (args := [v0, v1, .int .i64 a2]) _ Try.func6 hc rfl rfl href ?_ (retOf_some hf) ?_
  · exact ⟨F, Wk.refl hok, h0, h1, rfl⟩
  · rintro ρ w' a ⟨s, rfl, F', hW, h6⟩ hF
    refine ⟨_, run_results (rs := [.tmp 6]) rfl hF (vs := [ρ 6]) (⟨_, rfl, rfl⟩), ?_⟩
    have hv : resVal [ρ 6] = .bool s.t_6 := by rw [h6]; rfl
    exact ⟨F', hv, hW⟩
end
end law4_TransferGrows

end Go.Proofs.Ytpdkgodonemonaa
