/- The machine's calls come to these plain functions (written by a program, wip/fx/gen.py). -/
import Derived.Test.YtpdkgodonemonaaPA
import Derived.Test.YtpdkgodonemonaaNm
import Derived.Test.YtpdkgodonemonaaM1
import Derived.Test.YtpdkgodonemonaaIt
import Derived.Test.YtpdkgodonemonaaSl
namespace Go.Proofs.Ytpdkgodonemonaa
open Go.Fx Go.RowKit
set_option linter.unusedVariables false

namespace law4_TransferPrefix
section
def G0 (w0 : World) (F0 : BSet) (s : S) (ρ : Env) (w : World) : Prop := ∃ (F : BSet), Wk nrow w0 F0 F w ∧ SlR kByte F w (ρ 0) s.data_0 ∧ SlR k_LinkEvent F w (ρ 1) s.events_1
def G1 (w0 : World) (F0 : BSet) (s : S) (ρ : Env) (w : World) : Prop := ∃ (F : BSet), Wk nrow w0 F0 F w ∧ SlR kByte F w (ρ 0) s.data_0 ∧ SlR k_LinkEvent F w (ρ 1) s.events_1 ∧ ρ 9 = .bool s.t_9
def G2 (w0 : World) (F0 : BSet) (s : S) (ρ : Env) (w : World) : Prop := ∃ (F : BSet), Wk nrow w0 F0 F w
def G3 (w0 : World) (F0 : BSet) (s : S) (ρ : Env) (w : World) : Prop := ∃ (F : BSet), Wk nrow w0 F0 F w ∧ ρ 4 = .bool s.t_4
def G4 (w0 : World) (F0 : BSet) (s : S) (ρ : Env) (w : World) : Prop := ∃ (F : BSet), Wk nrow w0 F0 F w ∧ ∃ (g7 : Nat), SlR kByte F w (ρ 0) s.data_0 ∧ SlR kByte F w (ρ 5) s.b_5 ∧ ρ 6 = .int .i64 s.n_6 ∧ ρ 7 = .pointer (some ⟨g7, 0, none⟩) ∧ Box k_Fault 27 (Bs w0 nrow) F w g7 s.f_7
def G5 (w0 : World) (F0 : BSet) (s : S) (ρ : Env) (w : World) : Prop := ∃ (F : BSet), Wk nrow w0 F0 F w ∧ SlR kByte F w (ρ 0) s.data_0 ∧ SlR kByte F w (ρ 5) s.b_5 ∧ ρ 6 = .int .i64 s.n_6 ∧ ρ 19 = .bool s.t_19
def G6 (w0 : World) (F0 : BSet) (s : S) (ρ : Env) (w : World) : Prop := ∃ (F : BSet), Wk nrow w0 F0 F w ∧ SlR kByte F w (ρ 5) s.b_5 ∧ ρ 6 = .int .i64 s.n_6
def G7 (w0 : World) (F0 : BSet) (s : S) (ρ : Env) (w : World) : Prop := ∃ (F : BSet), Wk nrow w0 F0 F w ∧ SlR kByte F w (ρ 0) s.data_0 ∧ SlR kByte F w (ρ 5) s.b_5 ∧ ρ 6 = .int .i64 s.n_6
def G8 (w0 : World) (F0 : BSet) (s : S) (ρ : Env) (w : World) : Prop := ∃ (F : BSet), Wk nrow w0 F0 F w ∧ SlR kByte F w (ρ 0) s.data_0 ∧ SlR kByte F w (ρ 5) s.b_5 ∧ ρ 6 = .int .i64 s.n_6 ∧ ρ 49 = .bool s.t_49
set_option maxHeartbeats 4000000 in
set_option maxRecDepth 20000 in
theorem ref (w0 : World) (F0 : BSet) : ∃ c, Try.f5.body = some c ∧ Ref Try.prog 58 c (G0 w0 F0) body (fun _ _ _ => False) (fun _ _ _ _ => False) (fun r ρ w => ∃ s, retv s = r ∧ G3 w0 F0 s ρ w) := by
  refine ⟨_, rfl, ?_⟩
  unfold body
  refine Ref.seq (B := G0 w0 F0) ?_ ?_
  · refine Ref.region (fun s ρ w s' h hr => ?_)
    obtain ⟨F, hW, h0, h1⟩ := h
    refine ol_v (e_as _ rfl) rfl ?_
    obtain rfl := Option.some.inj hr
    exact ol_nil ⟨F, hW, h0, h1⟩
  refine Ref.seq (B := G0 w0 F0) ?_ ?_
  · refine Ref.seq (B := G1 w0 F0) ?_ ?_
    · refine Ref.region (fun s ρ w s' h hr => ?_)
      obtain ⟨F, hW, h0, h1⟩ := h
      obtain ⟨x1, hx1, hr⟩ := bind_some' hr
      refine ol_e (f_call [] fn_8 rfl (law4_transferExample.calls hW.ok  hx1)) rfl rfl ?_
      rintro _ w2 ⟨Fz3, rfl, kw1⟩
      have hW5 := hW.trans kw1
      have st1 := kw1.stp hW.ok
      refine ol_v (e_not_ rfl) rfl ?_
      obtain rfl := Option.some.inj hr
      exact ol_nil ⟨Fz3, hW5, (h0.keep st1), (h1.keep st1), rfl⟩
    refine Ref.cond (b := fun s => s.t_9) (fun s ρ w ⟨F, hW, h0, h1, h9⟩ => h9) (Ref.pre (A := G2 w0 F0) ?_ (fun s ρ w h => (fun ⟨F, hW, h0, h1, h9⟩ => ⟨F, hW⟩ : G1 w0 F0 s ρ w → G2 w0 F0 s ρ w) h.2)) (Ref.pre (A := G0 w0 F0) ?_ (fun s ρ w h => (fun ⟨F, hW, h0, h1, h9⟩ => ⟨F, hW, h0, h1⟩ : G1 w0 F0 s ρ w → G0 w0 F0 s ρ w) h.2))
    · refine Ref.seq (B := G3 w0 F0) ?_ ?_
      · refine Ref.region (fun s ρ w s' h hr => ?_)
        obtain ⟨F, hW⟩ := h
        refine ol_v (e_as _ rfl) rfl ?_
        obtain rfl := Option.some.inj hr
        exact ol_nil ⟨F, hW, rfl⟩
      exact Ref.ret (fun s ρ w h => ⟨s, rfl, h⟩)
    · exact Ref.skip
  refine Ref.seq (B := G4 w0 F0) ?_ ?_
  · refine Ref.region (fun s ρ w s' h hr => ?_)
    obtain ⟨F, hW, h0, h1⟩ := h
    refine ol_v (e_mv _ rfl) rfl ?_
    refine ol_v (e_mv _ rfl) rfl ?_
    obtain ⟨x6, hx6, hr⟩ := bind_some' hr
    refine ol_e (f_call [(ρ 0), (ρ 1)] fn_10 (lcons rfl (lcons rfl rfl)) (transfer_Run.calls hW.ok h0 h1 hx6)) rfl rfl ?_
    rintro _ w7 ⟨Fz8, v9, v11, rfl, kw1, hk10, hk12⟩
    have hW14 := hW.trans kw1
    have st1 := kw1.stp hW.ok
    refine ol_v (e_mv _ rfl) rfl ?_
    refine ol_v (e_ext _ rfl rfl) rfl ?_
    refine ol_v (e_ext _ rfl rfl) rfl ?_
    refine ol_v (e_ext _ rfl rfl) rfl ?_
    refine ol_e (f_alloc zer_27 hW14) rfl rfl ?_
    rintro _ w16 ⟨g15, rfl, kw2, ho17⟩
    have hW18 := hW14.trans kw2
    have st2 := kw2.stp hW14.ok
    obtain ⟨Fz19, hWz20, st3, hF3, hz21⟩ := (((hk10.base (row := nrow) hW.le).wk kw2 hW14.ok)).frozen hW18
    refine ol_v (e_as _ rfl) rfl ?_
    refine ol_v (e_as _ rfl) rfl ?_
    refine ol_eN (f_stB hWz20 ((ho17.base (row := nrow) hW14.le).frz (apart_bo (ho17.base (row := nrow) hW14.le) ((hk10.base (row := nrow) hW.le).wk kw2 hW14.ok) rfl).symm hF3 st3) (FldS.whole _) ty_27 (hk12.keep (st2.trans st3)) rfl rfl) rfl ?_
    rintro - w22 ⟨hW23, ho24, hg4, st4⟩
    obtain rfl := Option.some.inj hr
    exact ol_nil ⟨Fz19, hW23, g15, (h0.keep (st1.trans (st2.trans (st3.trans st4)))), (hz21.keep st4), rfl, rfl, ho24⟩
  refine Ref.seq (B := G7 w0 F0) ?_ ?_
  · refine Ref.seq (B := G5 w0 F0) ?_ ?_
    · refine Ref.region (fun s ρ w s' h hr => ?_)
      obtain ⟨F, hW, g7, h0, h5, h6, p7, h7⟩ := h
      refine ol_v (e_fa fa_27_0 p7) rfl ?_
      refine ol_v (e_ld ty_3 (LiesV.int ((h7).at_.fld fl_Fault_0)) rfl) rfl ?_
      refine ol_v (e_neq rfl rfl) rfl ?_
      obtain rfl := Option.some.inj hr
      exact ol_nil ⟨F, hW, h0, h5, h6, rfl⟩
    refine Ref.cond (b := fun s => s.t_19) (fun s ρ w ⟨F, hW, h0, h5, h6, h19⟩ => h19) (Ref.pre (A := G6 w0 F0) ?_ (fun s ρ w h => (fun ⟨F, hW, h0, h5, h6, h19⟩ => ⟨F, hW, h5, h6⟩ : G5 w0 F0 s ρ w → G6 w0 F0 s ρ w) h.2)) (Ref.pre (A := G7 w0 F0) ?_ (fun s ρ w h => (fun ⟨F, hW, h0, h5, h6, h19⟩ => ⟨F, hW, h0, h5, h6⟩ : G5 w0 F0 s ρ w → G7 w0 F0 s ρ w) h.2))
    · refine Ref.seq (B := G3 w0 F0) ?_ ?_
      · refine Ref.region (fun s ρ w s' h hr => ?_)
        obtain ⟨F, hW, h5, h6⟩ := h
        refine ol_v (e_mv _ rfl) rfl ?_
        obtain ⟨A25, c26, e27, hc28, R29⟩ := id h5
        refine ol_v (e_len (SlT.sl sl_22) e27) rfl ?_
        refine ol_v (e_mv _ h6) rfl ?_
        refine ol_v (e_add rfl rfl) rfl ?_
        refine ol_v (e_eql rfl rfl) rfl ?_
        refine ol_v (e_as _ rfl) rfl ?_
        obtain rfl := Option.some.inj hr
        exact ol_nil ⟨F, hW, rfl⟩
      exact Ref.ret (fun s ρ w h => ⟨s, rfl, h⟩)
    · exact Ref.skip
  refine Ref.seq (B := G7 w0 F0) ?_ ?_
  · refine Ref.seq (B := G8 w0 F0) ?_ ?_
    · refine Ref.regionS (by kernel_rfl) (by kernel_rfl) (fun s ρ w ⟨F, hW, h0, h5, h6⟩ => ⟨F, hW.drewS, h0.keep (sd hW), h5.keep (sd hW), h6⟩) (fun s ρ w s' h hr => ?_)
      obtain ⟨F, hW, h0, h5, h6⟩ := h
      refine ol_v (e_mv _ rfl) rfl ?_
      obtain ⟨A30, c31, e32, hc33, R34⟩ := id h5
      refine ol_v (e_len (SlT.sl sl_22) e32) rfl ?_
      refine ol_v (e_mv _ rfl) rfl ?_
      obtain ⟨A35, c36, e37, hc38, R39⟩ := id h0
      refine ol_v (e_len (SlT.sl sl_22) e37) rfl ?_
      refine ol_v (e_gtr rfl rfl) rfl ?_
      obtain ⟨x54, hx55, hr⟩ := bind_some' hr
      refine ol_cutA 10 30 39 (fun ρ' w' => w = w' ∧ ρ' 39 = .bool x54) rfl ?_ ?_
      · by_cases hb40 : (decide ((s.data_0.length : Int) < (s.b_5.length : Int))) = true
        · have hr := hx55
          rw [if_pos hb40] at hr
          refine ol_v (e_mv _ rfl) rfl ?_
          refine ol_not rfl rfl rfl (congrArg Value.bool hb40) rfl ?_
          refine ol_not rfl rfl rfl (congrArg Value.bool hb40) rfl ?_
          refine ol_not rfl rfl rfl (congrArg Value.bool hb40) rfl ?_
          refine ol_not rfl rfl rfl (congrArg Value.bool hb40) rfl ?_
          refine ol_not rfl rfl rfl (congrArg Value.bool hb40) rfl ?_
          refine ol_not rfl rfl rfl (congrArg Value.bool hb40) rfl ?_
          refine ol_not rfl rfl rfl (congrArg Value.bool hb40) rfl ?_
          refine ol_not rfl rfl rfl (congrArg Value.bool hb40) rfl ?_
          refine ol_v (e_pick true _ (congrArg Value.bool hb40) rfl) rfl ?_
          exact ol_nil ⟨⟨rfl, (congrArg Value.bool (Option.some.inj hr))⟩, (((((((((((Agr.refl _ _ _).upd rfl rfl).upd rfl rfl).upd rfl rfl).upd rfl rfl).upd rfl rfl).upd rfl rfl).upd rfl rfl).upd rfl rfl).upd rfl rfl).upd rfl rfl)⟩
        · have hb41 := Bool.eq_false_iff.mpr hb40
          have hr := hx55
          rw [if_neg hb40] at hr
          refine ol_v (e_mv _ rfl) rfl ?_
          refine ol_yes rfl rfl (congrArg Value.bool hb41) ?_
          refine ol_v (e_mv _ rfl) rfl ?_
          refine ol_yes rfl rfl (congrArg Value.bool hb41) ?_
          refine ol_v (e_b2s (SlT.sl sl_22) (by kernel_rfl) (by kernel_rfl) h5 rfl) rfl ?_
          refine ol_yes rfl rfl (congrArg Value.bool hb41) ?_
          refine ol_v (e_mv _ rfl) rfl ?_
          refine ol_yes rfl rfl (congrArg Value.bool hb41) ?_
          refine ol_v (e_mv _ rfl) rfl ?_
          refine ol_yes rfl rfl (congrArg Value.bool hb41) ?_
          obtain ⟨A42, c43, e44, hc45, R46⟩ := id h5
          refine ol_v (e_len (SlT.sl sl_22) e44) rfl ?_
          refine ol_yes rfl rfl (congrArg Value.bool hb41) ?_
          obtain ⟨A47, c48, e49, hc50, R51⟩ := id h0
          obtain ⟨x52, hx52, hr⟩ := bind_some' hr
          have hs53 := SlR.cutTo R51 hc50 hx52
          refine ol_v (e_slH (SlT.sl sl_22) (SlT.sz sl_22) hc50 e49 rfl hx52) rfl ?_
          refine ol_yes rfl rfl (congrArg Value.bool hb41) ?_
          refine ol_v (e_b2s (SlT.sl sl_22) (by kernel_rfl) (by kernel_rfl) hs53 rfl) rfl ?_
          refine ol_yes rfl rfl (congrArg Value.bool hb41) ?_
          refine ol_v (e_sneq rfl rfl) rfl ?_
          refine ol_v (e_pick false _ (congrArg Value.bool hb41) rfl) rfl ?_
          exact ol_nil ⟨⟨rfl, (congrArg Value.bool (Option.some.inj hr))⟩, (((((((((((Agr.refl _ _ _).upd rfl rfl).upd rfl rfl).upd rfl rfl).upd rfl rfl).upd rfl rfl).upd rfl rfl).upd rfl rfl).upd rfl rfl).upd rfl rfl).upd rfl rfl)⟩
      rintro ρ55 _ ⟨⟨rfl, hp55⟩, hAg55⟩
      refine ol_cutA 4 40 43 (fun ρ' w' => w = w' ∧ ρ' 43 = .bool (x54 || (decide (s.n_6 < (0 : Int))))) rfl ?_ ?_
      · by_cases hb56 : x54 = true
        · refine ol_v (e_mv _ hp55) rfl ?_
          refine ol_not rfl rfl rfl (congrArg Value.bool hb56) rfl ?_
          refine ol_not rfl rfl rfl (congrArg Value.bool hb56) rfl ?_
          refine ol_v (e_pick true _ (congrArg Value.bool hb56) rfl) rfl ?_
          exact ol_nil ⟨⟨rfl, (bv_or_t hb56)⟩, (((((Agr.refl _ _ _).upd rfl rfl).upd rfl rfl).upd rfl rfl).upd rfl rfl)⟩
        · have hb57 := Bool.eq_false_iff.mpr hb56
          refine ol_v (e_mv _ hp55) rfl ?_
          refine ol_yes rfl rfl (congrArg Value.bool hb57) ?_
          refine ol_v (e_mv _ ((hAg55 6 rfl).trans h6)) rfl ?_
          refine ol_yes rfl rfl (congrArg Value.bool hb57) ?_
          refine ol_v (e_lss rfl rfl) rfl ?_
          refine ol_v (e_pick false _ (congrArg Value.bool hb57) rfl) rfl ?_
          exact ol_nil ⟨⟨rfl, (bv_or_f hb57)⟩, (((((Agr.refl _ _ _).upd rfl rfl).upd rfl rfl).upd rfl rfl).upd rfl rfl)⟩
      rintro ρ58 _ ⟨⟨rfl, hp58⟩, hAg58⟩
      refine ol_cutA 6 44 49 (fun ρ' w' => w = w' ∧ ρ' 49 = .bool ((x54 || (decide (s.n_6 < (0 : Int)))) || (decide ((s.data_0.length : Int) < s.n_6)))) rfl ?_ ?_
      · by_cases hb59 : (x54 || (decide (s.n_6 < (0 : Int)))) = true
        · refine ol_v (e_mv _ hp58) rfl ?_
          refine ol_not rfl rfl rfl (congrArg Value.bool hb59) rfl ?_
          refine ol_not rfl rfl rfl (congrArg Value.bool hb59) rfl ?_
          refine ol_not rfl rfl rfl (congrArg Value.bool hb59) rfl ?_
          refine ol_not rfl rfl rfl (congrArg Value.bool hb59) rfl ?_
          refine ol_v (e_pick true _ (congrArg Value.bool hb59) rfl) rfl ?_
          exact ol_nil ⟨⟨rfl, (bv_or_t hb59)⟩, (((((((Agr.refl _ _ _).upd rfl rfl).upd rfl rfl).upd rfl rfl).upd rfl rfl).upd rfl rfl).upd rfl rfl)⟩
        · have hb60 := Bool.eq_false_iff.mpr hb59
          refine ol_v (e_mv _ hp58) rfl ?_
          refine ol_yes rfl rfl (congrArg Value.bool hb60) ?_
          refine ol_v (e_mv _ ((hAg58 6 rfl).trans ((hAg55 6 rfl).trans h6))) rfl ?_
          refine ol_yes rfl rfl (congrArg Value.bool hb60) ?_
          refine ol_v (e_mv _ ((hAg58 0 rfl).trans (hAg55 0 rfl))) rfl ?_
          refine ol_yes rfl rfl (congrArg Value.bool hb60) ?_
          obtain ⟨A61, c62, e63, hc64, R65⟩ := id h0
          refine ol_v (e_len (SlT.sl sl_22) e63) rfl ?_
          refine ol_yes rfl rfl (congrArg Value.bool hb60) ?_
          refine ol_v (e_gtr rfl rfl) rfl ?_
          refine ol_v (e_pick false _ (congrArg Value.bool hb60) rfl) rfl ?_
          exact ol_nil ⟨⟨rfl, (bv_or_f hb60)⟩, (((((((Agr.refl _ _ _).upd rfl rfl).upd rfl rfl).upd rfl rfl).upd rfl rfl).upd rfl rfl).upd rfl rfl)⟩
      rintro ρ66 _ ⟨⟨rfl, hp66⟩, hAg66⟩
      obtain rfl := Option.some.inj hr
      exact ol_nil ⟨F, hW, (SlR.eqv ((hAg66 0 rfl).trans ((hAg58 0 rfl).trans (hAg55 0 rfl))) h0), (SlR.eqv ((hAg66 5 rfl).trans ((hAg58 5 rfl).trans (hAg55 5 rfl))) h5), ((hAg66 6 rfl).trans ((hAg58 6 rfl).trans ((hAg55 6 rfl).trans h6))), hp66⟩
    refine Ref.cond (b := fun s => s.t_49) (fun s ρ w ⟨F, hW, h0, h5, h6, h49⟩ => h49) (Ref.pre (A := G2 w0 F0) ?_ (fun s ρ w h => (fun ⟨F, hW, h0, h5, h6, h49⟩ => ⟨F, hW⟩ : G8 w0 F0 s ρ w → G2 w0 F0 s ρ w) h.2)) (Ref.pre (A := G7 w0 F0) ?_ (fun s ρ w h => (fun ⟨F, hW, h0, h5, h6, h49⟩ => ⟨F, hW, h0, h5, h6⟩ : G8 w0 F0 s ρ w → G7 w0 F0 s ρ w) h.2))
    · refine Ref.seq (B := G3 w0 F0) ?_ ?_
      · refine Ref.region (fun s ρ w s' h hr => ?_)
        obtain ⟨F, hW⟩ := h
        refine ol_v (e_as _ rfl) rfl ?_
        obtain rfl := Option.some.inj hr
        exact ol_nil ⟨F, hW, rfl⟩
      exact Ref.ret (fun s ρ w h => ⟨s, rfl, h⟩)
    · exact Ref.skip
  refine Ref.seq (B := G3 w0 F0) ?_ ?_
  · refine Ref.region (fun s ρ w s' h hr => ?_)
    obtain ⟨F, hW, h0, h5, h6⟩ := h
    refine ol_v (e_mv _ rfl) rfl ?_
    obtain ⟨A67, c68, e69, hc70, R71⟩ := id h5
    refine ol_v (e_len (SlT.sl sl_22) e69) rfl ?_
    refine ol_v (e_mv _ rfl) rfl ?_
    obtain ⟨A72, c73, e74, hc75, R76⟩ := id h0
    refine ol_v (e_len (SlT.sl sl_22) e74) rfl ?_
    refine ol_v (e_mv _ h6) rfl ?_
    refine ol_v (e_mul rfl rfl) rfl ?_
    refine ol_v (e_min rfl rfl) rfl ?_
    refine ol_v (e_geq rfl rfl) rfl ?_
    refine ol_v (e_as _ rfl) rfl ?_
    obtain rfl := Option.some.inj hr
    exact ol_nil ⟨F, hW, rfl⟩
  exact Ref.ret (fun s ρ w h => ⟨s, rfl, h⟩)
def post (w : World) (F : BSet) (r : R) (v : Value) (w' : World) : Prop := ∃ (F' : BSet), v = .bool r ∧ Wk nrow w F F' w'
theorem calls {w : World} {F : BSet} (hok : ∀ b, F b → b < w.heap.size) {v0 : Value} {a0 : (List UInt8)} (h0 : SlR kByte F w v0 a0) {v1 : Value} {a1 : (List LinkEvent)} (h1 : SlR k_LinkEvent F w v1 a1) {r : R} (hf : f a0 a1 = some r) : Calls Try.prog 5 #[v0, v1] w fun e w' => ∃ v, e = .returned v ∧ post w F r v w' := by
  obtain ⟨c, hc, href⟩ := ref w F
  refine calls_of_ref (args := [v0, v1]) _ Try.func5 hc rfl rfl href ?_ (retOf_some hf) ?_
  · exact ⟨F, Wk.refl hok, h0, h1⟩
  · rintro ρ w' a ⟨s, rfl, F', hW, h4⟩ hF
    refine ⟨_, run_results (rs := [.tmp 4]) rfl hF (vs := [ρ 4]) (⟨_, rfl, rfl⟩), ?_⟩
    have hv : resVal [ρ 4] = .bool s.t_4 := by rw [h4]; rfl
    exact ⟨F', hv, hW⟩
end
end law4_TransferPrefix

end Go.Proofs.Ytpdkgodonemonaa
