/- The machine's calls come to these plain functions (written by a program, wip/fx/gen.py). -/
import Derived.Test.YtpdkgodonemonaaPA
import Derived.Test.YtpdkgodonemonaaNm
import Derived.Test.YtpdkgodonemonaaM1
import Derived.Test.YtpdkgodonemonaaM2
import Derived.Test.YtpdkgodonemonaaM3
import Derived.Test.YtpdkgodonemonaaIt
import Derived.Test.YtpdkgodonemonaaSl
namespace Go.Proofs.Ytpdkgodonemonaa
open Go.Fx Go.RowKit
set_option linter.unusedVariables false

namespace ref4_PlanOf
section
def G0 (w0 : World) (F0 : BSet) (s : S) (ρ : Env) (w : World) : Prop := ∃ (F : BSet), Wk nrow w0 F0 F w ∧ ρ 0 = .int .i64 s.frames_0 ∧ SlR kBool F w (ρ 1) s.lost_1
def G1 (w0 : World) (F0 : BSet) (s : S) (ρ : Env) (w : World) : Prop := ∃ (F : BSet), Wk nrow w0 F0 F w ∧ ρ 0 = .int .i64 s.frames_0 ∧ SlR kBool F w (ρ 1) s.lost_1 ∧ OwnV k_LinkEvent 48 (Bs w0 nrow) F w (ρ 6) s.out_6
def G2 (w0 : World) (F0 : BSet) (s : S) (ρ : Env) (w : World) : Prop := ∃ (F : BSet), Wk nrow w0 F0 F w ∧ ρ 0 = .int .i64 s.frames_0 ∧ SlR kBool F w (ρ 1) s.lost_1 ∧ OwnV k_LinkEvent 48 (Bs w0 nrow) F w (ρ 6) s.out_6 ∧ ρ 7 = .int .i64 s.try_7
def G3 (w0 : World) (F0 : BSet) (s : S) (ρ : Env) (w : World) : Prop := ∃ (F : BSet), Wk nrow w0 F0 F w ∧ ρ 0 = .int .i64 s.frames_0 ∧ SlR kBool F w (ρ 1) s.lost_1 ∧ OwnV k_LinkEvent 48 (Bs w0 nrow) F w (ρ 6) s.out_6 ∧ ρ 7 = .int .i64 s.try_7 ∧ ρ 8 = .int .i64 s.sent_8
def G4 (w0 : World) (F0 : BSet) (s : S) (ρ : Env) (w : World) : Prop := ∃ (F : BSet), Wk nrow w0 F0 F w ∧ ρ 0 = .int .i64 s.frames_0 ∧ SlR kBool F w (ρ 1) s.lost_1 ∧ OwnV k_LinkEvent 48 (Bs w0 nrow) F w (ρ 6) s.out_6 ∧ ρ 7 = .int .i64 s.try_7 ∧ ρ 8 = .int .i64 s.sent_8 ∧ ρ 11 = .bool s.t_11
def G5 (w0 : World) (F0 : BSet) (s : S) (ρ : Env) (w : World) : Prop := ∃ (F : BSet), Wk nrow w0 F0 F w ∧ OwnV k_LinkEvent 48 (Bs w0 nrow) F w (ρ 6) s.out_6
def G6 (w0 : World) (F0 : BSet) (s : S) (ρ : Env) (w : World) : Prop := ∃ (F : BSet), Wk nrow w0 F0 F w ∧ ρ 0 = .int .i64 s.frames_0 ∧ SlR kBool F w (ρ 1) s.lost_1 ∧ OwnV k_LinkEvent 48 (Bs w0 nrow) F w (ρ 6) s.out_6 ∧ ρ 7 = .int .i64 s.try_7 ∧ ρ 8 = .int .i64 s.sent_8 ∧ ρ 23 = .bool s.t_23
def G7 (w0 : World) (F0 : BSet) (s : S) (ρ : Env) (w : World) : Prop := ∃ (F : BSet), Wk nrow w0 F0 F w ∧ ρ 0 = .int .i64 s.frames_0 ∧ SlR kBool F w (ρ 1) s.lost_1 ∧ OwnV k_LinkEvent 48 (Bs w0 nrow) F w (ρ 6) s.out_6 ∧ ρ 7 = .int .i64 s.try_7 ∧ ρ 8 = .int .i64 s.sent_8 ∧ ρ 26 = .bool s.t_26
def G8 (w0 : World) (F0 : BSet) (s : S) (ρ : Env) (w : World) : Prop := ∃ (F : BSet), Wk nrow w0 F0 F w ∧ OwnV k_LinkEvent 48 (Bs w0 nrow) F w (ρ 4) s.t_4 ∧ ρ 5 = .bool s.t_5
def G9 (w0 : World) (F0 : BSet) (s : S) (ρ : Env) (w : World) : Prop := ∃ (F : BSet), Wk nrow w0 F0 F w ∧ ρ 0 = .int .i64 s.frames_0 ∧ SlR kBool F w (ρ 1) s.lost_1 ∧ OwnV k_LinkEvent 48 (Bs w0 nrow) F w (ρ 6) s.out_6 ∧ ρ 7 = .int .i64 s.try_7 ∧ ρ 8 = .int .i64 s.sent_8 ∧ ρ 35 = .bool s.t_35
set_option maxHeartbeats 4000000 in
set_option maxRecDepth 20000 in
theorem ref (w0 : World) (F0 : BSet) : ∃ c, Try.f16.body = some c ∧ Ref Try.prog 46 c (G0 w0 F0) body (fun _ _ _ => False) (fun _ _ _ _ => False) (fun r ρ w => ∃ s, retv s = r ∧ G8 w0 F0 s ρ w) := by
  refine ⟨_, rfl, ?_⟩
  unfold body
  refine Ref.seq (B := G0 w0 F0) ?_ ?_
  · refine Ref.region (fun s ρ w s' h hr => ?_)
    obtain ⟨F, hW, h0, h1⟩ := h
    refine ol_v (e_as _ rfl) rfl ?_
    refine ol_v (e_as _ rfl) rfl ?_
    obtain rfl := Option.some.inj hr
    exact ol_nil ⟨F, hW, h0, h1⟩
  refine Ref.seq (B := G1 w0 F0) ?_ ?_
  · refine Ref.region (fun s ρ w s' h hr => ?_)
    obtain ⟨F, hW, h0, h1⟩ := h
    refine ol_v (e_as _ rfl) rfl ?_
    obtain rfl := Option.some.inj hr
    exact ol_nil ⟨F, hW, h0, h1, (OwnV.nil k_LinkEvent 48 (Bs w0 nrow) F w)⟩
  refine Ref.seq (B := G2 w0 F0) ?_ ?_
  · refine Ref.region (fun s ρ w s' h hr => ?_)
    obtain ⟨F, hW, h0, h1, h6⟩ := h
    refine ol_v (e_as _ rfl) rfl ?_
    obtain rfl := Option.some.inj hr
    exact ol_nil ⟨F, hW, h0, h1, h6, rfl⟩
  refine Ref.seq (B := G5 w0 F0) ?_ ?_
  · refine Ref.seq (B := G3 w0 F0) ?_ ?_
    · refine Ref.region (fun s ρ w s' h hr => ?_)
      obtain ⟨F, hW, h0, h1, h6, h7⟩ := h
      refine ol_v (e_as _ rfl) rfl ?_
      obtain rfl := Option.some.inj hr
      exact ol_nil ⟨F, hW, h0, h1, h6, h7, rfl⟩
    refine Ref.block ?_
    refine Ref.loop ?_
    refine Ref.seq (B := G3 w0 F0) ?_ ?_
    · refine Ref.seq (B := G4 w0 F0) ?_ ?_
      · refine Ref.region (fun s ρ w s' h hr => ?_)
        obtain ⟨F, hW, h0, h1, h6, h7, h8⟩ := h
        refine ol_v (e_mv _ h8) rfl ?_
        refine ol_v (e_mv _ h0) rfl ?_
        refine ol_v (e_lss rfl rfl) rfl ?_
        obtain rfl := Option.some.inj hr
        exact ol_nil ⟨F, hW, h0, h1, h6, h7, h8, rfl⟩
      refine Ref.cond (b := fun s => s.t_11) (fun s ρ w ⟨F, hW, h0, h1, h6, h7, h8, h11⟩ => h11) (Ref.pre (A := G3 w0 F0) ?_ (fun s ρ w h => (fun ⟨F, hW, h0, h1, h6, h7, h8, h11⟩ => ⟨F, hW, h0, h1, h6, h7, h8⟩ : G4 w0 F0 s ρ w → G3 w0 F0 s ρ w) h.2)) (Ref.pre (A := G5 w0 F0) ?_ (fun s ρ w h => (fun ⟨F, hW, h0, h1, h6, h7, h8, h11⟩ => ⟨F, hW, h6⟩ : G4 w0 F0 s ρ w → G5 w0 F0 s ρ w) h.2))
      · exact Ref.skip
      · exact Ref.exit (fun s ρ w h => h)
    refine Ref.seq (B := G3 w0 F0) ?_ ?_
    · refine Ref.block ?_
      refine Ref.seq (B := G3 w0 F0) ?_ ?_
      · refine Ref.seq (B := G6 w0 F0) ?_ ?_
        · refine Ref.region (fun s ρ w s' h hr => ?_)
          obtain ⟨F, hW, h0, h1, h6, h7, h8⟩ := h
          refine ol_v (e_mv _ h7) rfl ?_
          refine ol_v (e_mv _ rfl) rfl ?_
          obtain ⟨A1, c2, e3, hc4, R5⟩ := id h1
          refine ol_v (e_len (SlT.sl sl_38) e3) rfl ?_
          refine ol_v (e_lss rfl rfl) rfl ?_
          obtain ⟨x18, hx19, hr⟩ := bind_some' hr
          refine ol_cutA 6 18 23 (fun ρ' w' => w = w' ∧ ρ' 23 = .bool x18) rfl ?_ ?_
          · by_cases hb6 : (decide (s.try_7 < (s.lost_1.length : Int))) = true
            · have hr := hx19
              rw [if_pos hb6] at hr
              refine ol_v (e_mv _ rfl) rfl ?_
              refine ol_yes rfl rfl (congrArg Value.bool hb6) ?_
              refine ol_v (e_mv _ rfl) rfl ?_
              refine ol_yes rfl rfl (congrArg Value.bool hb6) ?_
              refine ol_v (e_mv _ h7) rfl ?_
              refine ol_yes rfl rfl (congrArg Value.bool hb6) ?_
              obtain ⟨x8, hx8, hr⟩ := bind_some' hr
              obtain ⟨A9, c10, e11, hc12, R13⟩ := id h1
              obtain ⟨b14, o15, hA16, L17⟩ := Row.at_ R13 hx8
              refine ol_v (e_ix (SlT.sl sl_38) (SlT.sz sl_38) hA16 hx8 e11 rfl) rfl ?_
              refine ol_yes rfl rfl (congrArg Value.bool hb6) ?_
              refine ol_v (e_ld ty_4 (LiesV.bool L17.at_) rfl) rfl ?_
              refine ol_v (e_pick true _ (congrArg Value.bool hb6) rfl) rfl ?_
              exact ol_nil ⟨⟨rfl, (congrArg Value.bool (Option.some.inj hr))⟩, (((((((Agr.refl _ _ _).upd rfl rfl).upd rfl rfl).upd rfl rfl).upd rfl rfl).upd rfl rfl).upd rfl rfl)⟩
            · have hb7 := Bool.eq_false_iff.mpr hb6
              have hr := hx19
              rw [if_neg hb6] at hr
              refine ol_v (e_mv _ rfl) rfl ?_
              refine ol_not rfl rfl rfl (congrArg Value.bool hb7) rfl ?_
              refine ol_not rfl rfl rfl (congrArg Value.bool hb7) rfl ?_
              refine ol_not rfl rfl rfl (congrArg Value.bool hb7) rfl ?_
              refine ol_not rfl rfl rfl (congrArg Value.bool hb7) rfl ?_
              refine ol_v (e_pick false _ (congrArg Value.bool hb7) rfl) rfl ?_
              exact ol_nil ⟨⟨rfl, (congrArg Value.bool (Option.some.inj hr))⟩, (((((((Agr.refl _ _ _).upd rfl rfl).upd rfl rfl).upd rfl rfl).upd rfl rfl).upd rfl rfl).upd rfl rfl)⟩
          rintro ρ19 _ ⟨⟨rfl, hp19⟩, hAg19⟩
          obtain rfl := Option.some.inj hr
          exact ol_nil ⟨F, hW, ((hAg19 0 rfl).trans h0), (SlR.eqv (hAg19 1 rfl) h1), (OwnV.eqv (hAg19 6 rfl) h6), ((hAg19 7 rfl).trans h7), ((hAg19 8 rfl).trans h8), hp19⟩
        refine Ref.cond (b := fun s => s.t_23) (fun s ρ w ⟨F, hW, h0, h1, h6, h7, h8, h23⟩ => h23) (Ref.pre (A := G3 w0 F0) ?_ (fun s ρ w h => (fun ⟨F, hW, h0, h1, h6, h7, h8, h23⟩ => ⟨F, hW, h0, h1, h6, h7, h8⟩ : G6 w0 F0 s ρ w → G3 w0 F0 s ρ w) h.2)) (Ref.pre (A := G3 w0 F0) ?_ (fun s ρ w h => (fun ⟨F, hW, h0, h1, h6, h7, h8, h23⟩ => ⟨F, hW, h0, h1, h6, h7, h8⟩ : G6 w0 F0 s ρ w → G3 w0 F0 s ρ w) h.2))
        · refine Ref.seq (B := G3 w0 F0) ?_ ?_
          · refine Ref.seq (B := G7 w0 F0) ?_ ?_
            · refine Ref.region (fun s ρ w s' h hr => ?_)
              obtain ⟨F, hW, h0, h1, h6, h7, h8⟩ := h
              refine ol_v (e_mv _ rfl) rfl ?_
              obtain ⟨A20, c21, e22, hc23⟩ := h6.shape
              refine ol_v (e_len (SlT.sl sl_23) e22) rfl ?_
              refine ol_v (e_gtr rfl rfl) rfl ?_
              obtain rfl := Option.some.inj hr
              exact ol_nil ⟨F, hW, h0, h1, h6, h7, h8, rfl⟩
            refine Ref.cond (b := fun s => s.t_26) (fun s ρ w ⟨F, hW, h0, h1, h6, h7, h8, h26⟩ => h26) (Ref.pre (A := G5 w0 F0) ?_ (fun s ρ w h => (fun ⟨F, hW, h0, h1, h6, h7, h8, h26⟩ => ⟨F, hW, h6⟩ : G7 w0 F0 s ρ w → G5 w0 F0 s ρ w) h.2)) (Ref.pre (A := G3 w0 F0) ?_ (fun s ρ w h => (fun ⟨F, hW, h0, h1, h6, h7, h8, h26⟩ => ⟨F, hW, h0, h1, h6, h7, h8⟩ : G7 w0 F0 s ρ w → G3 w0 F0 s ρ w) h.2))
            · refine Ref.seq (B := G8 w0 F0) ?_ ?_
              · refine Ref.region (fun s ρ w s' h hr => ?_)
                obtain ⟨F, hW, h6⟩ := h
                refine ol_v (e_mv _ rfl) rfl ?_
                refine ol_v (e_as _ rfl) rfl ?_
                refine ol_v (e_as _ rfl) rfl ?_
                obtain rfl := Option.some.inj hr
                exact ol_nil ⟨F, hW, h6, rfl⟩
              exact Ref.ret (fun s ρ w h => ⟨s, rfl, h⟩)
            · exact Ref.skip
          refine Ref.seq (B := G3 w0 F0) ?_ ?_
          · refine Ref.region (fun s ρ w s' h hr => ?_)
            obtain ⟨F, hW, h0, h1, h6, h7, h8⟩ := h
            refine ol_v (e_mv _ rfl) rfl ?_
            refine ol_v (e_bld (cells := #[.int .i64 (1), .int .i64 0]) bld_48 (vs := [(0, .int .i64 (1))]) (lcons (congrArg (Prod.mk 0) rfl) rfl) rfl) rfl ?_
            have hb24 : Val k_LinkEvent F w (.agg #[.int .i64 (1), .int .i64 0]) (⟨(1 : Int), (0 : Int)⟩ : LinkEvent) := mk_LinkEvent (val_int _ _) (val_int _ _)
            refine ol_v (e_bld (cells := #[.int .i64 (3), .int .i64 0]) bld_48 (vs := [(0, .int .i64 (3))]) (lcons (congrArg (Prod.mk 0) rfl) rfl) rfl) rfl ?_
            have hb25 : Val k_LinkEvent F w (.agg #[.int .i64 (3), .int .i64 0]) (⟨(3 : Int), (0 : Int)⟩ : LinkEvent) := mk_LinkEvent (val_int _ _) (val_int _ _)
            refine ol_e (f_bslF sl_23 hW ([(⟨(1 : Int), (0 : Int)⟩ : LinkEvent), (⟨(3 : Int), (0 : Int)⟩ : LinkEvent)] : List LinkEvent) [.agg #[.int .i64 (1), .int .i64 0], .agg #[.int .i64 (3), .int .i64 0]] (by exact ⟨_, _, rfl, hb24, ⟨_, _, rfl, hb25, rfl⟩⟩) rfl (Nat.le_of_ble_eq_true rfl) (lcons (congrArg (Prod.mk 0) rfl) (lcons (congrArg (Prod.mk 1) rfl) rfl))) rfl rfl ?_
            rintro v26 w27 ⟨Fz29, kw1, ho28⟩
            have hW30 := hW.trans kw1
            have st1 := kw1.stp hW.ok
            obtain ⟨x31, hx31, hr⟩ := bind_some' hr
            refine ol_e (f_app sl_23 hW30 (h6.wk kw1 hW.ok) ho28 hx31 rfl rfl) rfl rfl ?_
            rintro v32 w33 ⟨hW34, ho35, hg2, st2, hor36⟩
            refine ol_v (e_as _ rfl) rfl ?_
            obtain rfl := Option.some.inj hr
            exact ol_nil ⟨Fz29, hW34, h0, (h1.keep (st1.trans st2)), ho35, h7, h8⟩
          exact Ref.exit (fun s ρ w h => h)
        · exact Ref.skip
      refine Ref.seq (B := G3 w0 F0) ?_ ?_
      · refine Ref.seq (B := G9 w0 F0) ?_ ?_
        · refine Ref.region (fun s ρ w s' h hr => ?_)
          obtain ⟨F, hW, h0, h1, h6, h7, h8⟩ := h
          refine ol_v (e_mv _ rfl) rfl ?_
          obtain ⟨A37, c38, e39, hc40⟩ := h6.shape
          refine ol_v (e_len (SlT.sl sl_23) e39) rfl ?_
          refine ol_v (e_gtr rfl rfl) rfl ?_
          obtain rfl := Option.some.inj hr
          exact ol_nil ⟨F, hW, h0, h1, h6, h7, h8, rfl⟩
        refine Ref.cond (b := fun s => s.t_35) (fun s ρ w ⟨F, hW, h0, h1, h6, h7, h8, h35⟩ => h35) (Ref.pre (A := G5 w0 F0) ?_ (fun s ρ w h => (fun ⟨F, hW, h0, h1, h6, h7, h8, h35⟩ => ⟨F, hW, h6⟩ : G9 w0 F0 s ρ w → G5 w0 F0 s ρ w) h.2)) (Ref.pre (A := G3 w0 F0) ?_ (fun s ρ w h => (fun ⟨F, hW, h0, h1, h6, h7, h8, h35⟩ => ⟨F, hW, h0, h1, h6, h7, h8⟩ : G9 w0 F0 s ρ w → G3 w0 F0 s ρ w) h.2))
        · refine Ref.seq (B := G8 w0 F0) ?_ ?_
          · refine Ref.region (fun s ρ w s' h hr => ?_)
            obtain ⟨F, hW, h6⟩ := h
            refine ol_v (e_mv _ rfl) rfl ?_
            refine ol_v (e_as _ rfl) rfl ?_
            refine ol_v (e_as _ rfl) rfl ?_
            obtain rfl := Option.some.inj hr
            exact ol_nil ⟨F, hW, h6, rfl⟩
          exact Ref.ret (fun s ρ w h => ⟨s, rfl, h⟩)
        · exact Ref.skip
      refine Ref.seq (B := G3 w0 F0) ?_ ?_
      · refine Ref.region (fun s ρ w s' h hr => ?_)
        obtain ⟨F, hW, h0, h1, h6, h7, h8⟩ := h
        refine ol_v (e_mv _ rfl) rfl ?_
        refine ol_v (e_bld (cells := #[.int .i64 (1), .int .i64 0]) bld_48 (vs := [(0, .int .i64 (1))]) (lcons (congrArg (Prod.mk 0) rfl) rfl) rfl) rfl ?_
        have hb41 : Val k_LinkEvent F w (.agg #[.int .i64 (1), .int .i64 0]) (⟨(1 : Int), (0 : Int)⟩ : LinkEvent) := mk_LinkEvent (val_int _ _) (val_int _ _)
        refine ol_v (e_bld (cells := #[.int .i64 (2), .int .i64 0]) bld_48 (vs := [(0, .int .i64 (2))]) (lcons (congrArg (Prod.mk 0) rfl) rfl) rfl) rfl ?_
        have hb42 : Val k_LinkEvent F w (.agg #[.int .i64 (2), .int .i64 0]) (⟨(2 : Int), (0 : Int)⟩ : LinkEvent) := mk_LinkEvent (val_int _ _) (val_int _ _)
        refine ol_v (e_bld (cells := #[.int .i64 (5), .int .i64 0]) bld_48 (vs := [(0, .int .i64 (5))]) (lcons (congrArg (Prod.mk 0) rfl) rfl) rfl) rfl ?_
        have hb43 : Val k_LinkEvent F w (.agg #[.int .i64 (5), .int .i64 0]) (⟨(5 : Int), (0 : Int)⟩ : LinkEvent) := mk_LinkEvent (val_int _ _) (val_int _ _)
        refine ol_e (f_bslF sl_23 hW ([(⟨(1 : Int), (0 : Int)⟩ : LinkEvent), (⟨(2 : Int), (0 : Int)⟩ : LinkEvent), (⟨(5 : Int), (0 : Int)⟩ : LinkEvent)] : List LinkEvent) [.agg #[.int .i64 (1), .int .i64 0], .agg #[.int .i64 (2), .int .i64 0], .agg #[.int .i64 (5), .int .i64 0]] (by exact ⟨_, _, rfl, hb41, ⟨_, _, rfl, hb42, ⟨_, _, rfl, hb43, rfl⟩⟩⟩) rfl (Nat.le_of_ble_eq_true rfl) (lcons (congrArg (Prod.mk 0) rfl) (lcons (congrArg (Prod.mk 1) rfl) (lcons (congrArg (Prod.mk 2) rfl) rfl)))) rfl rfl ?_
        rintro v44 w45 ⟨Fz47, kw1, ho46⟩
        have hW48 := hW.trans kw1
        have st1 := kw1.stp hW.ok
        obtain ⟨x49, hx49, hr⟩ := bind_some' hr
        refine ol_e (f_app sl_23 hW48 (h6.wk kw1 hW.ok) ho46 hx49 rfl rfl) rfl rfl ?_
        rintro v50 w51 ⟨hW52, ho53, hg2, st2, hor54⟩
        refine ol_v (e_as _ rfl) rfl ?_
        obtain rfl := Option.some.inj hr
        exact ol_nil ⟨Fz47, hW52, h0, (h1.keep (st1.trans st2)), ho53, h7, h8⟩
      refine Ref.region (fun s ρ w s' h hr => ?_)
      obtain ⟨F, hW, h0, h1, h6, h7, h8⟩ := h
      refine ol_v (e_mv _ h8) rfl ?_
      refine ol_v (e_add rfl rfl) rfl ?_
      refine ol_v (e_as _ rfl) rfl ?_
      obtain rfl := Option.some.inj hr
      exact ol_nil ⟨F, hW, h0, h1, h6, h7, rfl⟩
    refine Ref.region (fun s ρ w s' h hr => ?_)
    obtain ⟨F, hW, h0, h1, h6, h7, h8⟩ := h
    refine ol_v (e_mv _ h7) rfl ?_
    refine ol_v (e_add rfl rfl) rfl ?_
    refine ol_v (e_as _ rfl) rfl ?_
    obtain rfl := Option.some.inj hr
    exact ol_nil ⟨F, hW, h0, h1, h6, rfl, h8⟩
  refine Ref.seq (B := G8 w0 F0) ?_ ?_
  · refine Ref.region (fun s ρ w s' h hr => ?_)
    obtain ⟨F, hW, h6⟩ := h
    refine ol_v (e_mv _ rfl) rfl ?_
    refine ol_v (e_as _ rfl) rfl ?_
    refine ol_v (e_as _ rfl) rfl ?_
    obtain rfl := Option.some.inj hr
    exact ol_nil ⟨F, hW, h6, rfl⟩
  exact Ref.ret (fun s ρ w h => ⟨s, rfl, h⟩)
def post (w : World) (F : BSet) (r : R) (v : Value) (w' : World) : Prop := ∃ (F' : BSet) (v0' : Value), v = .tuple #[v0', .bool r.2] ∧ Wk nrow w F F' w' ∧ OwnV k_LinkEvent 48 (Nw w) F' w' v0' r.1
theorem calls {w : World} {F : BSet} (hok : ∀ b, F b → b < w.heap.size) (a0 : Int) {v1 : Value} {a1 : (List Bool)} (h1 : SlR kBool F w v1 a1) {r : R} (hf : f a0 a1 = some r) : Calls Try.prog 16 #[.int .i64 a0, v1] w fun e w' => ∃ v, e = .returned v ∧ post w F r v w' := by
  obtain ⟨c, hc, href⟩ := ref w F
  refine calls_of_ref (args := [.int .i64 a0, v1]) _ Try.func16 hc rfl rfl href ?_ (retOf_some hf) ?_
  · exact ⟨F, Wk.refl hok, rfl, h1⟩
  · rintro ρ w' a ⟨s, rfl, F', hW, h4, h5⟩ hF
    refine ⟨_, run_results (rs := [.tmp 4, .tmp 5]) rfl hF (vs := [ρ 4, ρ 5]) (⟨_, rfl, ⟨_, rfl, rfl⟩⟩), ?_⟩
    have hv : resVal [ρ 4, ρ 5] = .tuple #[ρ 4, .bool s.t_5] := by rw [h5]; rfl
    exact ⟨F', ρ 4, hv, hW, h4.rebase (fun g hg => (h4.lt hg).1.resolve_right (fun h => h))⟩
end
end ref4_PlanOf

namespace ref4_Events
section
def G0 (w0 : World) (F0 : BSet) (s : S) (ρ : Env) (w : World) : Prop := ∃ (F : BSet), Wk nrow w0 F0 F w ∧ SlR k_LinkEvent F w (ρ 0) s.a_0 ∧ SlR k_LinkEvent F w (ρ 1) s.b_1
def G1 (w0 : World) (F0 : BSet) (s : S) (ρ : Env) (w : World) : Prop := ∃ (F : BSet), Wk nrow w0 F0 F w ∧ SlR k_LinkEvent F w (ρ 0) s.a_0 ∧ SlR k_LinkEvent F w (ρ 1) s.b_1 ∧ ρ 10 = .bool s.t_10
def G2 (w0 : World) (F0 : BSet) (s : S) (ρ : Env) (w : World) : Prop := ∃ (F : BSet), Wk nrow w0 F0 F w
def G3 (w0 : World) (F0 : BSet) (s : S) (ρ : Env) (w : World) : Prop := ∃ (F : BSet), Wk nrow w0 F0 F w ∧ ρ 4 = .bool s.t_4
def G4 (w0 : World) (F0 : BSet) (s : S) (ρ : Env) (w : World) : Prop := ∃ (F : BSet), Wk nrow w0 F0 F w ∧ SlR k_LinkEvent F w (ρ 0) s.a_0 ∧ SlR k_LinkEvent F w (ρ 1) s.b_1 ∧ ρ 5 = .int .i64 s.i_5
def G5 (w0 : World) (F0 : BSet) (s : S) (ρ : Env) (w : World) : Prop := ∃ (F : BSet), Wk nrow w0 F0 F w ∧ SlR k_LinkEvent F w (ρ 0) s.a_0 ∧ SlR k_LinkEvent F w (ρ 1) s.b_1 ∧ ρ 5 = .int .i64 s.i_5 ∧ ρ 14 = .bool s.t_14
def G6 (w0 : World) (F0 : BSet) (s : S) (ρ : Env) (w : World) : Prop := ∃ (F : BSet), Wk nrow w0 F0 F w ∧ SlR k_LinkEvent F w (ρ 0) s.a_0 ∧ SlR k_LinkEvent F w (ρ 1) s.b_1 ∧ ρ 5 = .int .i64 s.i_5 ∧ ρ 25 = .bool s.t_25
set_option maxHeartbeats 4000000 in
set_option maxRecDepth 20000 in
theorem ref (w0 : World) (F0 : BSet) : ∃ c, Try.f17.body = some c ∧ Ref Try.prog 26 c (G0 w0 F0) body (fun _ _ _ => False) (fun _ _ _ _ => False) (fun r ρ w => ∃ s, retv s = r ∧ G3 w0 F0 s ρ w) := by
  refine ⟨_, rfl, ?_⟩
  unfold body
  refine Ref.seq (B := G0 w0 F0) ?_ ?_
  · refine Ref.region (fun s ρ w s' h hr => ?_)
    obtain ⟨F, hW, h0, h1⟩ := h
    refine ol_v (e_as _ rfl) rfl ?_
    obtain rfl := Option.some.inj hr
    exact ol_nil ⟨F, hW, h0, h1⟩
  refine Ref.seq (B := G0 w0 F0) ?_ ?_
  · refine Ref.seq (B := G1 w0 F0) ?_ ?_
    · refine Ref.region (fun s ρ w s' h hr => ?_)
      obtain ⟨F, hW, h0, h1⟩ := h
      refine ol_v (e_mv _ rfl) rfl ?_
      obtain ⟨A1, c2, e3, hc4, R5⟩ := id h0
      refine ol_v (e_len (SlT.sl sl_23) e3) rfl ?_
      refine ol_v (e_mv _ rfl) rfl ?_
      obtain ⟨A6, c7, e8, hc9, R10⟩ := id h1
      refine ol_v (e_len (SlT.sl sl_23) e8) rfl ?_
      refine ol_v (e_neq rfl rfl) rfl ?_
      obtain rfl := Option.some.inj hr
      exact ol_nil ⟨F, hW, h0, h1, rfl⟩
    refine Ref.cond (b := fun s => s.t_10) (fun s ρ w ⟨F, hW, h0, h1, h10⟩ => h10) (Ref.pre (A := G2 w0 F0) ?_ (fun s ρ w h => (fun ⟨F, hW, h0, h1, h10⟩ => ⟨F, hW⟩ : G1 w0 F0 s ρ w → G2 w0 F0 s ρ w) h.2)) (Ref.pre (A := G0 w0 F0) ?_ (fun s ρ w h => (fun ⟨F, hW, h0, h1, h10⟩ => ⟨F, hW, h0, h1⟩ : G1 w0 F0 s ρ w → G0 w0 F0 s ρ w) h.2))
    · refine Ref.seq (B := G3 w0 F0) ?_ ?_
      · refine Ref.region (fun s ρ w s' h hr => ?_)
        obtain ⟨F, hW⟩ := h
        refine ol_v (e_as _ rfl) rfl ?_
        obtain rfl := Option.some.inj hr
        exact ol_nil ⟨F, hW, rfl⟩
      exact Ref.ret (fun s ρ w h => ⟨s, rfl, h⟩)
    · exact Ref.skip
  refine Ref.seq (B := G2 w0 F0) ?_ ?_
  · refine Ref.seq (B := G4 w0 F0) ?_ ?_
    · refine Ref.region (fun s ρ w s' h hr => ?_)
      obtain ⟨F, hW, h0, h1⟩ := h
      refine ol_v (e_as _ rfl) rfl ?_
      obtain rfl := Option.some.inj hr
      exact ol_nil ⟨F, hW, h0, h1, rfl⟩
    refine Ref.block ?_
    refine Ref.loop ?_
    refine Ref.seq (B := G4 w0 F0) ?_ ?_
    · refine Ref.seq (B := G5 w0 F0) ?_ ?_
      · refine Ref.region (fun s ρ w s' h hr => ?_)
        obtain ⟨F, hW, h0, h1, h5⟩ := h
        refine ol_v (e_mv _ h5) rfl ?_
        refine ol_v (e_mv _ rfl) rfl ?_
        obtain ⟨A11, c12, e13, hc14, R15⟩ := id h0
        refine ol_v (e_len (SlT.sl sl_23) e13) rfl ?_
        refine ol_v (e_lss rfl rfl) rfl ?_
        obtain rfl := Option.some.inj hr
        exact ol_nil ⟨F, hW, h0, h1, h5, rfl⟩
      refine Ref.cond (b := fun s => s.t_14) (fun s ρ w ⟨F, hW, h0, h1, h5, h14⟩ => h14) (Ref.pre (A := G4 w0 F0) ?_ (fun s ρ w h => (fun ⟨F, hW, h0, h1, h5, h14⟩ => ⟨F, hW, h0, h1, h5⟩ : G5 w0 F0 s ρ w → G4 w0 F0 s ρ w) h.2)) (Ref.pre (A := G2 w0 F0) ?_ (fun s ρ w h => (fun ⟨F, hW, h0, h1, h5, h14⟩ => ⟨F, hW⟩ : G5 w0 F0 s ρ w → G2 w0 F0 s ρ w) h.2))
      · exact Ref.skip
      · exact Ref.exit (fun s ρ w h => h)
    refine Ref.seq (B := G4 w0 F0) ?_ ?_
    · refine Ref.block ?_
      refine Ref.seq (B := G6 w0 F0) ?_ ?_
      · refine Ref.regionS (by kernel_rfl) (by kernel_rfl) (fun s ρ w ⟨F, hW, h0, h1, h5⟩ => ⟨F, hW.drewS, h0.keep (sd hW), h1.keep (sd hW), h5⟩) (fun s ρ w s' h hr => ?_)
        obtain ⟨F, hW, h0, h1, h5⟩ := h
        refine ol_v (e_mv _ rfl) rfl ?_
        refine ol_v (e_mv _ h5) rfl ?_
        obtain ⟨x16, hx16, hr⟩ := bind_some' hr
        obtain ⟨A17, c18, e19, hc20, R21⟩ := id h0
        obtain ⟨b22, o23, hA24, L25⟩ := Row.at_ R21 hx16
        refine ol_v (e_ix (SlT.sl sl_23) (SlT.sz sl_23) hA24 hx16 e19 rfl) rfl ?_
        obtain ⟨v26, hl27⟩ := LiesAt.v L25.at_
        refine ol_v (e_ld ty_48 hl27 rfl) rfl ?_
        refine ol_v (e_mv _ rfl) rfl ?_
        refine ol_v (e_mv _ h5) rfl ?_
        obtain ⟨x28, hx28, hr⟩ := bind_some' hr
        obtain ⟨A29, c30, e31, hc32, R33⟩ := id h1
        obtain ⟨b34, o35, hA36, L37⟩ := Row.at_ R33 hx28
        refine ol_v (e_ix (SlT.sl sl_23) (SlT.sz sl_23) hA36 hx28 e31 rfl) rfl ?_
        obtain ⟨v38, hl39⟩ := LiesAt.v L37.at_
        refine ol_v (e_ld ty_48 hl39 rfl) rfl ?_
        refine ol_v (e_tneq (eq_LinkEvent_48 hl27.val hl39.val) rfl rfl) rfl ?_
        obtain rfl := Option.some.inj hr
        exact ol_nil ⟨F, hW, h0, h1, h5, rfl⟩
      refine Ref.cond (b := fun s => s.t_25) (fun s ρ w ⟨F, hW, h0, h1, h5, h25⟩ => h25) (Ref.pre (A := G2 w0 F0) ?_ (fun s ρ w h => (fun ⟨F, hW, h0, h1, h5, h25⟩ => ⟨F, hW⟩ : G6 w0 F0 s ρ w → G2 w0 F0 s ρ w) h.2)) (Ref.pre (A := G4 w0 F0) ?_ (fun s ρ w h => (fun ⟨F, hW, h0, h1, h5, h25⟩ => ⟨F, hW, h0, h1, h5⟩ : G6 w0 F0 s ρ w → G4 w0 F0 s ρ w) h.2))
      · refine Ref.seq (B := G3 w0 F0) ?_ ?_
        · refine Ref.region (fun s ρ w s' h hr => ?_)
          obtain ⟨F, hW⟩ := h
          refine ol_v (e_as _ rfl) rfl ?_
          obtain rfl := Option.some.inj hr
          exact ol_nil ⟨F, hW, rfl⟩
        exact Ref.ret (fun s ρ w h => ⟨s, rfl, h⟩)
      · exact Ref.skip
    refine Ref.region (fun s ρ w s' h hr => ?_)
    obtain ⟨F, hW, h0, h1, h5⟩ := h
    refine ol_v (e_mv _ h5) rfl ?_
    refine ol_v (e_add rfl rfl) rfl ?_
    refine ol_v (e_as _ rfl) rfl ?_
    obtain rfl := Option.some.inj hr
    exact ol_nil ⟨F, hW, h0, h1, rfl⟩
  refine Ref.seq (B := G3 w0 F0) ?_ ?_
  · refine Ref.region (fun s ρ w s' h hr => ?_)
    obtain ⟨F, hW⟩ := h
    refine ol_v (e_as _ rfl) rfl ?_
    obtain rfl := Option.some.inj hr
    exact ol_nil ⟨F, hW, rfl⟩
  exact Ref.ret (fun s ρ w h => ⟨s, rfl, h⟩)
def post (w : World) (F : BSet) (r : R) (v : Value) (w' : World) : Prop := ∃ (F' : BSet), v = .bool r ∧ Wk nrow w F F' w'
theorem calls {w : World} {F : BSet} (hok : ∀ b, F b → b < w.heap.size) {v0 : Value} {a0 : (List LinkEvent)} (h0 : SlR k_LinkEvent F w v0 a0) {v1 : Value} {a1 : (List LinkEvent)} (h1 : SlR k_LinkEvent F w v1 a1) {r : R} (hf : f a0 a1 = some r) : Calls Try.prog 17 #[v0, v1] w fun e w' => ∃ v, e = .returned v ∧ post w F r v w' := by
  obtain ⟨c, hc, href⟩ := ref w F
  refine calls_of_ref (args := [v0, v1]) _ Try.func17 hc rfl rfl href ?_ (retOf_some hf) ?_
  · exact ⟨F, Wk.refl hok, h0, h1⟩
  · rintro ρ w' a ⟨s, rfl, F', hW, h4⟩ hF
    refine ⟨_, run_results (rs := [.tmp 4]) rfl hF (vs := [ρ 4]) (⟨_, rfl, rfl⟩), ?_⟩
    have hv : resVal [ρ 4] = .bool s.t_4 := by rw [h4]; rfl
    exact ⟨F', hv, hW⟩
end
end ref4_Events

namespace law4_TransferPlanMatchesSpec
section
def G0 (w0 : World) (F0 : BSet) (s : S) (ρ : Env) (w : World) : Prop := ∃ (F : BSet), Wk nrow w0 F0 F w ∧ SlR kByte F w (ρ 0) s.data_0 ∧ SlR kBool F w (ρ 1) s.lost_1
def G1 (w0 : World) (F0 : BSet) (s : S) (ρ : Env) (w : World) : Prop := ∃ (F : BSet), Wk nrow w0 F0 F w ∧ SlR kByte F w (ρ 0) s.data_0 ∧ SlR kBool F w (ρ 1) s.lost_1 ∧ ρ 12 = .bool s.t_12
def G2 (w0 : World) (F0 : BSet) (s : S) (ρ : Env) (w : World) : Prop := ∃ (F : BSet), Wk nrow w0 F0 F w
def G3 (w0 : World) (F0 : BSet) (s : S) (ρ : Env) (w : World) : Prop := ∃ (F : BSet), Wk nrow w0 F0 F w ∧ ρ 4 = .bool s.t_4
def G4 (w0 : World) (F0 : BSet) (s : S) (ρ : Env) (w : World) : Prop := ∃ (F : BSet), Wk nrow w0 F0 F w ∧ ∃ (g7 : Nat), SlR kByte F w (ρ 0) s.data_0 ∧ SlR kBool F w (ρ 1) s.lost_1 ∧ SlR k_LinkEvent F w (ρ 5) s.l_5 ∧ ρ 6 = .bool s.done_6 ∧ ρ 7 = .pointer (some ⟨g7, 0, none⟩) ∧ Box k_Fault 27 (Bs w0 nrow) F w g7 s.f_7
def G5 (w0 : World) (F0 : BSet) (s : S) (ρ : Env) (w : World) : Prop := ∃ (F : BSet), Wk nrow w0 F0 F w ∧ ∃ (g7 : Nat) (g8 : Nat), SlR kByte F w (ρ 0) s.data_0 ∧ SlR kBool F w (ρ 1) s.lost_1 ∧ SlR k_LinkEvent F w (ρ 5) s.l_5 ∧ ρ 6 = .bool s.done_6 ∧ ρ 7 = .pointer (some ⟨g7, 0, none⟩) ∧ Box k_Fault 27 (Bs w0 nrow) F w g7 s.f_7 ∧ ρ 8 = .pointer (some ⟨g8, 0, none⟩) ∧ Box k_Fault 27 (Bs w0 nrow) F w g8 s.w_8 ∧ Apart (some g7) (some g8)
def G6 (w0 : World) (F0 : BSet) (s : S) (ρ : Env) (w : World) : Prop := ∃ (F : BSet), Wk nrow w0 F0 F w ∧ ∃ (g7 : Nat) (g8 : Nat), SlR kByte F w (ρ 0) s.data_0 ∧ SlR kBool F w (ρ 1) s.lost_1 ∧ SlR k_LinkEvent F w (ρ 5) s.l_5 ∧ ρ 6 = .bool s.done_6 ∧ ρ 7 = .pointer (some ⟨g7, 0, none⟩) ∧ Box k_Fault 27 (Bs w0 nrow) F w g7 s.f_7 ∧ ρ 8 = .pointer (some ⟨g8, 0, none⟩) ∧ Box k_Fault 27 (Bs w0 nrow) F w g8 s.w_8 ∧ ρ 23 = .bool s.t_23 ∧ Apart (some g7) (some g8)
def G7 (w0 : World) (F0 : BSet) (s : S) (ρ : Env) (w : World) : Prop := ∃ (F : BSet), Wk nrow w0 F0 F w ∧ ∃ (g7 : Nat) (g8 : Nat), SlR kByte F w (ρ 0) s.data_0 ∧ SlR kBool F w (ρ 1) s.lost_1 ∧ SlR k_LinkEvent F w (ρ 5) s.l_5 ∧ ρ 6 = .bool s.done_6 ∧ ρ 7 = .pointer (some ⟨g7, 0, none⟩) ∧ Box k_Fault 27 (Bs w0 nrow) F w g7 s.f_7 ∧ ρ 8 = .pointer (some ⟨g8, 0, none⟩) ∧ Box k_Fault 27 (Bs w0 nrow) F w g8 s.w_8 ∧ ρ 27 = .bool s.t_27 ∧ Apart (some g7) (some g8)
def G8 (w0 : World) (F0 : BSet) (s : S) (ρ : Env) (w : World) : Prop := ∃ (F : BSet), Wk nrow w0 F0 F w ∧ ∃ (g7 : Nat) (g8 : Nat), SlR kByte F w (ρ 0) s.data_0 ∧ SlR kBool F w (ρ 1) s.lost_1 ∧ SlR k_LinkEvent F w (ρ 5) s.l_5 ∧ ρ 6 = .bool s.done_6 ∧ ρ 7 = .pointer (some ⟨g7, 0, none⟩) ∧ Box k_Fault 27 (Bs w0 nrow) F w g7 s.f_7 ∧ ρ 8 = .pointer (some ⟨g8, 0, none⟩) ∧ Box k_Fault 27 (Bs w0 nrow) F w g8 s.w_8 ∧ ρ 31 = .bool s.t_31 ∧ Apart (some g7) (some g8)
def G9 (w0 : World) (F0 : BSet) (s : S) (ρ : Env) (w : World) : Prop := ∃ (F : BSet), Wk nrow w0 F0 F w ∧ ∃ (g7 : Nat) (g8 : Nat), SlR k_LinkEvent F w (ρ 5) s.l_5 ∧ ρ 6 = .bool s.done_6 ∧ ρ 7 = .pointer (some ⟨g7, 0, none⟩) ∧ Box k_Fault 27 (Bs w0 nrow) F w g7 s.f_7 ∧ ρ 8 = .pointer (some ⟨g8, 0, none⟩) ∧ Box k_Fault 27 (Bs w0 nrow) F w g8 s.w_8 ∧ Apart (some g7) (some g8)
def G10 (w0 : World) (F0 : BSet) (s : S) (ρ : Env) (w : World) : Prop := ∃ (F : BSet), Wk nrow w0 F0 F w ∧ ∃ (g7 : Nat), SlR k_LinkEvent F w (ρ 5) s.l_5 ∧ ρ 6 = .bool s.done_6 ∧ ρ 7 = .pointer (some ⟨g7, 0, none⟩) ∧ Box k_Fault 27 (Bs w0 nrow) F w g7 s.f_7 ∧ SlR k_LinkEvent F w (ρ 9) s.m_9 ∧ ρ 10 = .bool s.all_10
set_option maxHeartbeats 4000000 in
set_option maxRecDepth 20000 in
theorem ref (w0 : World) (F0 : BSet) : ∃ c, Try.f4.body = some c ∧ Ref Try.prog 64 c (G0 w0 F0) body (fun _ _ _ => False) (fun _ _ _ _ => False) (fun r ρ w => ∃ s, retv s = r ∧ G3 w0 F0 s ρ w) := by
  refine ⟨_, rfl, ?_⟩
  unfold body
  refine Ref.seq (B := G0 w0 F0) ?_ ?_
  · refine Ref.region (fun s ρ w s' h hr => ?_)
    obtain ⟨F, hW, h0, h1⟩ := h
    refine ol_v (e_as _ rfl) rfl ?_
    obtain rfl := Option.some.inj hr
    exact ol_nil ⟨F, hW, h0, h1⟩
  refine Ref.seq (B := G0 w0 F0) ?_ ?_
  · refine Ref.seq (B := G1 w0 F0) ?_ ?_
    · refine Ref.region (fun s ρ w s' h hr => ?_)
      obtain ⟨F, hW, h0, h1⟩ := h
      obtain ⟨x1, hx1, hr⟩ := bind_some' hr
      refine ol_e (f_call [] fn_8 rfl (law4_transferExample.calls hW.ok  hx1)) rfl rfl ?_
      rintro _ w2 ⟨Fz3, rfl, kw1⟩
      have hW5 := hW.trans kw1
      have st1 := kw1.stp hW.ok
      refine ol_v (e_not_ rfl) rfl ?_
      obtain rfl := Option.some.inj hr
      exact ol_nil ⟨Fz3, hW5, (h0.keep st1), (h1.keep st1), rfl⟩
    refine Ref.cond (b := fun s => s.t_12) (fun s ρ w ⟨F, hW, h0, h1, h12⟩ => h12) (Ref.pre (A := G2 w0 F0) ?_ (fun s ρ w h => (fun ⟨F, hW, h0, h1, h12⟩ => ⟨F, hW⟩ : G1 w0 F0 s ρ w → G2 w0 F0 s ρ w) h.2)) (Ref.pre (A := G0 w0 F0) ?_ (fun s ρ w h => (fun ⟨F, hW, h0, h1, h12⟩ => ⟨F, hW, h0, h1⟩ : G1 w0 F0 s ρ w → G0 w0 F0 s ρ w) h.2))
    · refine Ref.seq (B := G3 w0 F0) ?_ ?_
      · refine Ref.region (fun s ρ w s' h hr => ?_)
        obtain ⟨F, hW⟩ := h
        refine ol_v (e_as _ rfl) rfl ?_
        obtain rfl := Option.some.inj hr
        exact ol_nil ⟨F, hW, rfl⟩
      exact Ref.ret (fun s ρ w h => ⟨s, rfl, h⟩)
    · exact Ref.skip
  refine Ref.seq (B := G4 w0 F0) ?_ ?_
  · refine Ref.region (fun s ρ w s' h hr => ?_)
    obtain ⟨F, hW, h0, h1⟩ := h
    refine ol_v (e_mv _ rfl) rfl ?_
    refine ol_v (e_mv _ rfl) rfl ?_
    obtain ⟨x6, hx6, hr⟩ := bind_some' hr
    refine ol_e (f_call [(ρ 0), (ρ 1)] fn_15 (lcons rfl (lcons rfl rfl)) (transfer_Plan.calls hW.ok h0 h1 hx6)) rfl rfl ?_
    rintro _ w7 ⟨Fz8, v9, v11, rfl, kw1, hk10, hk12⟩
    have hW14 := hW.trans kw1
    have st1 := kw1.stp hW.ok
    refine ol_v (e_mv _ rfl) rfl ?_
    refine ol_v (e_ext _ rfl rfl) rfl ?_
    refine ol_v (e_ext _ rfl rfl) rfl ?_
    refine ol_v (e_ext _ rfl rfl) rfl ?_
    refine ol_e (f_alloc zer_27 hW14) rfl rfl ?_
    rintro _ w16 ⟨g15, rfl, kw2, ho17⟩
    have hW18 := hW14.trans kw2
    have st2 := kw2.stp hW14.ok
    obtain ⟨Fz19, hWz20, st3, hF3, hz21⟩ := (((hk10.base (row := nrow) hW.le).wk kw2 hW14.ok)).frozen hW18
    refine ol_v (e_as _ rfl) rfl ?_
    refine ol_v (e_as _ rfl) rfl ?_
    refine ol_eN (f_stB hWz20 ((ho17.base (row := nrow) hW14.le).frz (apart_bo (ho17.base (row := nrow) hW14.le) ((hk10.base (row := nrow) hW.le).wk kw2 hW14.ok) rfl).symm hF3 st3) (FldS.whole _) ty_27 (hk12.keep (st2.trans st3)) rfl rfl) rfl ?_
    rintro - w22 ⟨hW23, ho24, hg4, st4⟩
    obtain rfl := Option.some.inj hr
    exact ol_nil ⟨Fz19, hW23, g15, (h0.keep (st1.trans (st2.trans (st3.trans st4)))), (h1.keep (st1.trans (st2.trans (st3.trans st4)))), (hz21.keep st4), rfl, rfl, ho24⟩
  refine Ref.seq (B := G5 w0 F0) ?_ ?_
  · refine Ref.region (fun s ρ w s' h hr => ?_)
    obtain ⟨F, hW, g7, h0, h1, h5, h6, p7, h7⟩ := h
    refine ol_v (e_bld (cells := #[.int .i64 0, .int .i64 0]) bld_27 (vs := []) rfl rfl) rfl ?_
    have hb25 : Val k_Fault F w (.agg #[.int .i64 0, .int .i64 0]) (⟨(0 : Int), (0 : Int)⟩ : Fault) := mk_Fault (val_int _ _) (val_int _ _)
    refine ol_e (f_alloc zer_27 hW) rfl rfl ?_
    rintro _ w27 ⟨g26, rfl, kw1, ho28⟩
    have hW29 := hW.trans kw1
    have st1 := kw1.stp hW.ok
    refine ol_eN (f_stB hW29 (ho28.base (row := nrow) hW.le) (FldS.whole _) ty_27 (hb25.keep st1) rfl rfl) rfl ?_
    rintro - w30 ⟨hW31, ho32, hg2, st2⟩
    obtain rfl := Option.some.inj hr
    exact ol_nil ⟨F, hW31, g7, g26, (h0.keep (st1.trans st2)), (h1.keep (st1.trans st2)), (h5.keep (st1.trans st2)), h6, p7, ((h7.wk kw1 hW.ok).mut (Apart.base (fun _ e_ => by cases e_; exact ho28.ge) h7.ltw) hg2 st2), rfl, ho32, (Apart.base (fun _ e_ => by cases e_; exact ho28.ge) h7.ltw).symm⟩
  refine Ref.seq (B := G5 w0 F0) ?_ ?_
  · refine Ref.seq (B := G6 w0 F0) ?_ ?_
    · refine Ref.region (fun s ρ w s' h hr => ?_)
      obtain ⟨F, hW, g7, g8, h0, h1, h5, h6, p7, h7, p8, h8, a7b_8b⟩ := h
      refine ol_v (e_mv _ rfl) rfl ?_
      obtain ⟨A33, c34, e35, hc36, R37⟩ := id h0
      refine ol_v (e_len (SlT.sl sl_22) e35) rfl ?_
      refine ol_v (e_gtr rfl rfl) rfl ?_
      obtain rfl := Option.some.inj hr
      exact ol_nil ⟨F, hW, g7, g8, h0, h1, h5, h6, p7, h7, p8, h8, rfl, a7b_8b⟩
    refine Ref.cond (b := fun s => s.t_23) (fun s ρ w ⟨F, hW, g7, g8, h0, h1, h5, h6, p7, h7, p8, h8, h23, a7b_8b⟩ => h23) (Ref.pre (A := G5 w0 F0) ?_ (fun s ρ w h => (fun ⟨F, hW, g7, g8, h0, h1, h5, h6, p7, h7, p8, h8, h23, a7b_8b⟩ => ⟨F, hW, g7, g8, h0, h1, h5, h6, p7, h7, p8, h8, a7b_8b⟩ : G6 w0 F0 s ρ w → G5 w0 F0 s ρ w) h.2)) (Ref.pre (A := G5 w0 F0) ?_ (fun s ρ w h => (fun ⟨F, hW, g7, g8, h0, h1, h5, h6, p7, h7, p8, h8, h23, a7b_8b⟩ => ⟨F, hW, g7, g8, h0, h1, h5, h6, p7, h7, p8, h8, a7b_8b⟩ : G6 w0 F0 s ρ w → G5 w0 F0 s ρ w) h.2))
    · refine Ref.region (fun s ρ w s' h hr => ?_)
      obtain ⟨F, hW, g7, g8, h0, h1, h5, h6, p7, h7, p8, h8, a7b_8b⟩ := h
      obtain ⟨x38, hx38, hr⟩ := bind_some' hr
      refine ol_e (f_call [.int .i64 (2 : Int), .int .i64 (-1 : Int)] fn_11 (lcons rfl (lcons rfl rfl)) (ref3_Fault.calls hW.ok (2 : Int) (-1 : Int) hx38)) rfl rfl ?_
      rintro v41 w39 ⟨Fz40, _, rfl, kw1, hk42⟩
      have hW44 := hW.trans kw1
      have st1 := kw1.stp hW.ok
      refine ol_eN (f_stB hW44 (h8.wk kw1 hW.ok) (FldS.whole _) ty_27 hk42 p8 rfl) rfl ?_
      rintro - w45 ⟨hW46, ho47, hg2, st2⟩
      obtain rfl := Option.some.inj hr
      exact ol_nil ⟨Fz40, hW46, g7, g8, (h0.keep (st1.trans st2)), (h1.keep (st1.trans st2)), (h5.keep (st1.trans st2)), h6, p7, ((h7.wk kw1 hW.ok).mut a7b_8b.symm hg2 st2), p8, ho47, a7b_8b.symm.symm⟩
    · refine Ref.seq (B := G7 w0 F0) ?_ ?_
      · refine Ref.region (fun s ρ w s' h hr => ?_)
        obtain ⟨F, hW, g7, g8, h0, h1, h5, h6, p7, h7, p8, h8, a7b_8b⟩ := h
        refine ol_v (e_mv _ rfl) rfl ?_
        obtain ⟨A48, c49, e50, hc51, R52⟩ := id h1
        refine ol_v (e_len (SlT.sl sl_38) e50) rfl ?_
        refine ol_v (e_gtr rfl rfl) rfl ?_
        obtain rfl := Option.some.inj hr
        exact ol_nil ⟨F, hW, g7, g8, h0, h1, h5, h6, p7, h7, p8, h8, rfl, a7b_8b⟩
      refine Ref.cond (b := fun s => s.t_27) (fun s ρ w ⟨F, hW, g7, g8, h0, h1, h5, h6, p7, h7, p8, h8, h27, a7b_8b⟩ => h27) (Ref.pre (A := G5 w0 F0) ?_ (fun s ρ w h => (fun ⟨F, hW, g7, g8, h0, h1, h5, h6, p7, h7, p8, h8, h27, a7b_8b⟩ => ⟨F, hW, g7, g8, h0, h1, h5, h6, p7, h7, p8, h8, a7b_8b⟩ : G7 w0 F0 s ρ w → G5 w0 F0 s ρ w) h.2)) (Ref.pre (A := G5 w0 F0) ?_ (fun s ρ w h => (fun ⟨F, hW, g7, g8, h0, h1, h5, h6, p7, h7, p8, h8, h27, a7b_8b⟩ => ⟨F, hW, g7, g8, h0, h1, h5, h6, p7, h7, p8, h8, a7b_8b⟩ : G7 w0 F0 s ρ w → G5 w0 F0 s ρ w) h.2))
      · refine Ref.region (fun s ρ w s' h hr => ?_)
        obtain ⟨F, hW, g7, g8, h0, h1, h5, h6, p7, h7, p8, h8, a7b_8b⟩ := h
        obtain ⟨x53, hx53, hr⟩ := bind_some' hr
        refine ol_e (f_call [.int .i64 (2 : Int), .int .i64 (-2 : Int)] fn_11 (lcons rfl (lcons rfl rfl)) (ref3_Fault.calls hW.ok (2 : Int) (-2 : Int) hx53)) rfl rfl ?_
        rintro v56 w54 ⟨Fz55, _, rfl, kw1, hk57⟩
        have hW59 := hW.trans kw1
        have st1 := kw1.stp hW.ok
        refine ol_eN (f_stB hW59 (h8.wk kw1 hW.ok) (FldS.whole _) ty_27 hk57 p8 rfl) rfl ?_
        rintro - w60 ⟨hW61, ho62, hg2, st2⟩
        obtain rfl := Option.some.inj hr
        exact ol_nil ⟨Fz55, hW61, g7, g8, (h0.keep (st1.trans st2)), (h1.keep (st1.trans st2)), (h5.keep (st1.trans st2)), h6, p7, ((h7.wk kw1 hW.ok).mut a7b_8b.symm hg2 st2), p8, ho62, a7b_8b.symm.symm⟩
      · exact Ref.skip
  refine Ref.seq (B := G4 w0 F0) ?_ ?_
  · refine Ref.seq (B := G8 w0 F0) ?_ ?_
    · refine Ref.region (fun s ρ w s' h hr => ?_)
      obtain ⟨F, hW, g7, g8, h0, h1, h5, h6, p7, h7, p8, h8, a7b_8b⟩ := h
      refine ol_v (e_fa fa_27_0 p8) rfl ?_
      refine ol_v (e_ld ty_3 (LiesV.int ((h8).at_.fld fl_Fault_0)) rfl) rfl ?_
      refine ol_v (e_neq rfl rfl) rfl ?_
      obtain rfl := Option.some.inj hr
      exact ol_nil ⟨F, hW, g7, g8, h0, h1, h5, h6, p7, h7, p8, h8, rfl, a7b_8b⟩
    refine Ref.cond (b := fun s => s.t_31) (fun s ρ w ⟨F, hW, g7, g8, h0, h1, h5, h6, p7, h7, p8, h8, h31, a7b_8b⟩ => h31) (Ref.pre (A := G9 w0 F0) ?_ (fun s ρ w h => (fun ⟨F, hW, g7, g8, h0, h1, h5, h6, p7, h7, p8, h8, h31, a7b_8b⟩ => ⟨F, hW, g7, g8, h5, h6, p7, h7, p8, h8, a7b_8b⟩ : G8 w0 F0 s ρ w → G9 w0 F0 s ρ w) h.2)) (Ref.pre (A := G4 w0 F0) ?_ (fun s ρ w h => (fun ⟨F, hW, g7, g8, h0, h1, h5, h6, p7, h7, p8, h8, h31, a7b_8b⟩ => ⟨F, hW, g7, h0, h1, h5, h6, p7, h7⟩ : G8 w0 F0 s ρ w → G4 w0 F0 s ρ w) h.2))
    · refine Ref.seq (B := G3 w0 F0) ?_ ?_
      · refine Ref.region (fun s ρ w s' h hr => ?_)
        obtain ⟨F, hW, g7, g8, h5, h6, p7, h7, p8, h8, a7b_8b⟩ := h
        obtain ⟨v63, hl64⟩ := LiesAt.v (h7).at_
        refine ol_v (e_ld ty_27 hl64 p7) rfl ?_
        obtain ⟨v65, hl66⟩ := LiesAt.v (h8).at_
        refine ol_v (e_ld ty_27 hl66 p8) rfl ?_
        refine ol_v (e_teql (eq_Fault_27 hl64.val hl66.val) rfl rfl) rfl ?_
        refine ol_cutA 5 35 39 (fun ρ' w' => w = w' ∧ ρ' 39 = .bool ((decide (s.f_7 = s.w_8)) && (decide ((s.l_5.length : Int) = (0 : Int))))) rfl ?_ ?_
        · by_cases hb67 : (decide (s.f_7 = s.w_8)) = true
          · refine ol_v (e_mv _ rfl) rfl ?_
            refine ol_yes rfl rfl (congrArg Value.bool hb67) ?_
            refine ol_v (e_mv _ rfl) rfl ?_
            refine ol_yes rfl rfl (congrArg Value.bool hb67) ?_
            obtain ⟨A69, c70, e71, hc72, R73⟩ := id h5
            refine ol_v (e_len (SlT.sl sl_23) e71) rfl ?_
            refine ol_yes rfl rfl (congrArg Value.bool hb67) ?_
            refine ol_v (e_eql rfl rfl) rfl ?_
            refine ol_v (e_pick true _ (congrArg Value.bool hb67) rfl) rfl ?_
            exact ol_nil ⟨⟨rfl, (bv_and_t hb67)⟩, ((((((Agr.refl _ _ _).upd rfl rfl).upd rfl rfl).upd rfl rfl).upd rfl rfl).upd rfl rfl)⟩
          · have hb68 := Bool.eq_false_iff.mpr hb67
            refine ol_v (e_mv _ rfl) rfl ?_
            refine ol_not rfl rfl rfl (congrArg Value.bool hb68) rfl ?_
            refine ol_not rfl rfl rfl (congrArg Value.bool hb68) rfl ?_
            refine ol_not rfl rfl rfl (congrArg Value.bool hb68) rfl ?_
            refine ol_v (e_pick false _ (congrArg Value.bool hb68) rfl) rfl ?_
            exact ol_nil ⟨⟨rfl, (bv_and_f hb68)⟩, ((((((Agr.refl _ _ _).upd rfl rfl).upd rfl rfl).upd rfl rfl).upd rfl rfl).upd rfl rfl)⟩
        rintro ρ74 _ ⟨⟨rfl, hp74⟩, hAg74⟩
        refine ol_cutA 4 40 43 (fun ρ' w' => w = w' ∧ ρ' 43 = .bool (((decide (s.f_7 = s.w_8)) && (decide ((s.l_5.length : Int) = (0 : Int)))) && (!s.done_6))) rfl ?_ ?_
        · by_cases hb75 : ((decide (s.f_7 = s.w_8)) && (decide ((s.l_5.length : Int) = (0 : Int)))) = true
          · refine ol_v (e_mv _ hp74) rfl ?_
            refine ol_yes rfl rfl (congrArg Value.bool hb75) ?_
            refine ol_v (e_mv _ ((hAg74 6 rfl).trans h6)) rfl ?_
            refine ol_yes rfl rfl (congrArg Value.bool hb75) ?_
            refine ol_v (e_not_ rfl) rfl ?_
            refine ol_v (e_pick true _ (congrArg Value.bool hb75) rfl) rfl ?_
            exact ol_nil ⟨⟨rfl, (bv_and_t hb75)⟩, (((((Agr.refl _ _ _).upd rfl rfl).upd rfl rfl).upd rfl rfl).upd rfl rfl)⟩
          · have hb76 := Bool.eq_false_iff.mpr hb75
            refine ol_v (e_mv _ hp74) rfl ?_
            refine ol_not rfl rfl rfl (congrArg Value.bool hb76) rfl ?_
            refine ol_not rfl rfl rfl (congrArg Value.bool hb76) rfl ?_
            refine ol_v (e_pick false _ (congrArg Value.bool hb76) rfl) rfl ?_
            exact ol_nil ⟨⟨rfl, (bv_and_f hb76)⟩, (((((Agr.refl _ _ _).upd rfl rfl).upd rfl rfl).upd rfl rfl).upd rfl rfl)⟩
        rintro ρ77 _ ⟨⟨rfl, hp77⟩, hAg77⟩
        refine ol_v (e_as _ hp77) rfl ?_
        obtain rfl := Option.some.inj hr
        exact ol_nil ⟨F, hW, rfl⟩
      exact Ref.ret (fun s ρ w h => ⟨s, rfl, h⟩)
    · exact Ref.skip
  refine Ref.seq (B := G10 w0 F0) ?_ ?_
  · refine Ref.region (fun s ρ w s' h hr => ?_)
    obtain ⟨F, hW, g7, h0, h1, h5, h6, p7, h7⟩ := h
    refine ol_v (e_mv _ rfl) rfl ?_
    obtain ⟨x78, hx78, hr⟩ := bind_some' hr
    refine ol_e (f_call [(ρ 0)] fn_12 (lcons rfl rfl) (ref4_FrameCount.calls hW.ok h0 hx78)) rfl rfl ?_
    rintro _ w79 ⟨Fz80, rfl, kw1⟩
    have hW82 := hW.trans kw1
    have st1 := kw1.stp hW.ok
    refine ol_v (e_mv _ rfl) rfl ?_
    obtain ⟨x83, hx83, hr⟩ := bind_some' hr
    refine ol_e (f_call [.int .i64 x78, (ρ 1)] fn_16 (lcons rfl (lcons rfl rfl)) (ref4_PlanOf.calls hW82.ok x78 (h1.keep st1) hx83)) rfl rfl ?_
    rintro _ w84 ⟨Fz85, v86, rfl, kw2, hk87⟩
    have hW89 := hW82.trans kw2
    have st2 := kw2.stp hW82.ok
    refine ol_v (e_mv _ rfl) rfl ?_
    refine ol_v (e_ext _ rfl rfl) rfl ?_
    refine ol_v (e_ext _ rfl rfl) rfl ?_
    obtain ⟨Fz90, hWz91, st3, hF3, hz92⟩ := ((hk87.base (row := nrow) hW82.le)).frozen hW89
    refine ol_v (e_as _ rfl) rfl ?_
    refine ol_v (e_as _ rfl) rfl ?_
    obtain rfl := Option.some.inj hr
    exact ol_nil ⟨Fz90, hWz91, g7, (h5.keep (st1.trans (st2.trans st3))), h6, p7, (((h7.wk kw1 hW.ok).wk kw2 hW82.ok).frz (apart_bo ((h7.wk kw1 hW.ok).wk kw2 hW82.ok) (hk87.base (row := nrow) hW82.le) rfl).symm hF3 st3), hz92, rfl⟩
  refine Ref.seq (B := G3 w0 F0) ?_ ?_
  · refine Ref.region (fun s ρ w s' h hr => ?_)
    obtain ⟨F, hW, g7, h5, h6, p7, h7, h9, h10⟩ := h
    refine ol_v (e_fa fa_27_0 p7) rfl ?_
    refine ol_v (e_ld ty_3 (LiesV.int ((h7).at_.fld fl_Fault_0)) rfl) rfl ?_
    refine ol_v (e_eql rfl rfl) rfl ?_
    refine ol_cutA 5 54 58 (fun ρ' w' => w = w' ∧ ρ' 58 = .bool ((decide (s.f_7.Code = (0 : Int))) && (decide (s.done_6 = s.all_10)))) rfl ?_ ?_
    · by_cases hb93 : (decide (s.f_7.Code = (0 : Int))) = true
      · refine ol_v (e_mv _ rfl) rfl ?_
        refine ol_yes rfl rfl (congrArg Value.bool hb93) ?_
        refine ol_v (e_mv _ h6) rfl ?_
        refine ol_yes rfl rfl (congrArg Value.bool hb93) ?_
        refine ol_v (e_mv _ h10) rfl ?_
        refine ol_yes rfl rfl (congrArg Value.bool hb93) ?_
        refine ol_v (e_beql (by kernel_rfl) rfl rfl) rfl ?_
        refine ol_v (e_pick true _ (congrArg Value.bool hb93) rfl) rfl ?_
        exact ol_nil ⟨⟨rfl, (bv_and_t hb93)⟩, ((((((Agr.refl _ _ _).upd rfl rfl).upd rfl rfl).upd rfl rfl).upd rfl rfl).upd rfl rfl)⟩
      · have hb94 := Bool.eq_false_iff.mpr hb93
        refine ol_v (e_mv _ rfl) rfl ?_
        refine ol_not rfl rfl rfl (congrArg Value.bool hb94) rfl ?_
        refine ol_not rfl rfl rfl (congrArg Value.bool hb94) rfl ?_
        refine ol_not rfl rfl rfl (congrArg Value.bool hb94) rfl ?_
        refine ol_v (e_pick false _ (congrArg Value.bool hb94) rfl) rfl ?_
        exact ol_nil ⟨⟨rfl, (bv_and_f hb94)⟩, ((((((Agr.refl _ _ _).upd rfl rfl).upd rfl rfl).upd rfl rfl).upd rfl rfl).upd rfl rfl)⟩
    rintro ρ95 _ ⟨⟨rfl, hp95⟩, hAg95⟩
    obtain ⟨x103, hx104, hr⟩ := bind_some' hr
    refine ol_cutA 5 59 63 (fun ρ' w' => ∃ F', Wk nrow w F F' w' ∧ ρ' 63 = .bool x103) rfl ?_ ?_
    · by_cases hb96 : ((decide (s.f_7.Code = (0 : Int))) && (decide (s.done_6 = s.all_10))) = true
      · have hr := hx104
        rw [if_pos hb96] at hr
        refine ol_v (e_mv _ hp95) rfl ?_
        refine ol_yes rfl rfl (congrArg Value.bool hb96) ?_
        refine ol_v (e_mv _ (hAg95 5 rfl)) rfl ?_
        refine ol_yes rfl rfl (congrArg Value.bool hb96) ?_
        refine ol_v (e_mv _ (hAg95 9 rfl)) rfl ?_
        refine ol_yes rfl rfl (congrArg Value.bool hb96) ?_
        obtain ⟨x98, hx98, hr⟩ := bind_some' hr
        refine ol_e (f_call [(ρ 5), (ρ 9)] fn_17 (lcons rfl (lcons rfl rfl)) (ref4_Events.calls hW.ok h5 h9 hx98)) rfl rfl ?_
        rintro _ w99 ⟨Fz100, rfl, kw1⟩
        have hW102 := hW.trans kw1
        have st1 := kw1.stp hW.ok
        refine ol_v (e_pick true _ (congrArg Value.bool hb96) rfl) rfl ?_
        exact ol_nil ⟨⟨_, kw1, (congrArg Value.bool (Option.some.inj hr))⟩, ((((((Agr.refl _ _ _).upd rfl rfl).upd rfl rfl).upd rfl rfl).upd rfl rfl).upd rfl rfl)⟩
      · have hb97 := Bool.eq_false_iff.mpr hb96
        have hr := hx104
        rw [if_neg hb96] at hr
        refine ol_v (e_mv _ hp95) rfl ?_
        refine ol_not rfl rfl rfl (congrArg Value.bool hb97) rfl ?_
        refine ol_not rfl rfl rfl (congrArg Value.bool hb97) rfl ?_
        refine ol_not rfl rfl rfl (congrArg Value.bool hb97) rfl ?_
        refine ol_v (e_pick false _ (congrArg Value.bool hb97) rfl) rfl ?_
        exact ol_nil ⟨⟨_, Wk.refl hW.ok, (congrArg Value.bool (Option.some.inj hr))⟩, ((((((Agr.refl _ _ _).upd rfl rfl).upd rfl rfl).upd rfl rfl).upd rfl rfl).upd rfl rfl)⟩
    rintro ρ104 w105 ⟨⟨Fz106, kw1, hp104⟩, hAg104⟩
    have hW107 := hW.trans kw1
    have st1 := kw1.stp hW.ok
    refine ol_v (e_as _ hp104) rfl ?_
    obtain rfl := Option.some.inj hr
    exact ol_nil ⟨Fz106, hW107, rfl⟩
  exact Ref.ret (fun s ρ w h => ⟨s, rfl, h⟩)
def post (w : World) (F : BSet) (r : R) (v : Value) (w' : World) : Prop := ∃ (F' : BSet), v = .bool r ∧ Wk nrow w F F' w'
theorem calls {w : World} {F : BSet} (hok : ∀ b, F b → b < w.heap.size) {v0 : Value} {a0 : (List UInt8)} (h0 : SlR kByte F w v0 a0) {v1 : Value} {a1 : (List Bool)} (h1 : SlR kBool F w v1 a1) {r : R} (hf : f a0 a1 = some r) : Calls Try.prog 4 #[v0, v1] w fun e w' => ∃ v, e = .returned v ∧ post w F r v w' := by
  obtain ⟨c, hc, href⟩ := ref w F
  refine calls_of_ref (args := [v0, v1]) _ Try.func4 hc rfl rfl href ?_ (retOf_some hf) ?_
  · exact ⟨F, Wk.refl hok, h0, h1⟩
  · rintro ρ w' a ⟨s, rfl, F', hW, h4⟩ hF
    refine ⟨_, run_results (rs := [.tmp 4]) rfl hF (vs := [ρ 4]) (⟨_, rfl, rfl⟩), ?_⟩
    have hv : resVal [ρ 4] = .bool s.t_4 := by rw [h4]; rfl
    exact ⟨F', hv, hW⟩
end
end law4_TransferPlanMatchesSpec

end Go.Proofs.Ytpdkgodonemonaa
