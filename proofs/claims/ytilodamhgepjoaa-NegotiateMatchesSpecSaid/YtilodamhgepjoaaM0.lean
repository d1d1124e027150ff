/- The machine's calls come to these plain functions (written by a program, wip/fx/gen.py). -/
import Derived.Test.YtilodamhgepjoaaPA
import Derived.Test.YtilodamhgepjoaaNm
import Derived.Test.YtilodamhgepjoaaIt
namespace Go.Proofs.Ytilodamhgepjoaa
open Go.Fx Go.RowKit
set_option linter.unusedVariables false

namespace history_Validate
section
def G0 (w0 : World) (F0 : BSet) (s : S) (ρ : Env) (w : World) : Prop := ∃ (F : BSet), Wk nrow w0 F0 F w ∧ SlR k_Commit F w (ρ 0) s.t_0
def G1 (w0 : World) (F0 : BSet) (s : S) (ρ : Env) (w : World) : Prop := ∃ (F : BSet), Wk nrow w0 F0 F w ∧ ∃ (g2 : Nat), SlR k_Commit F w (ρ 0) s.t_0 ∧ ρ 2 = .pointer (some ⟨g2, 0, none⟩) ∧ Box k_Fault 26 (Bs w0 nrow) F w g2 s.t_2
def G2 (w0 : World) (F0 : BSet) (s : S) (ρ : Env) (w : World) : Prop := ∃ (F : BSet), Wk nrow w0 F0 F w ∧ ∃ (g2 : Nat), SlR k_Commit F w (ρ 0) s.t_0 ∧ ρ 2 = .pointer (some ⟨g2, 0, none⟩) ∧ Box k_Fault 26 (Bs w0 nrow) F w g2 s.t_2 ∧ ρ 9 = .bool s.t_9
def G3 (w0 : World) (F0 : BSet) (s : S) (ρ : Env) (w : World) : Prop := ∃ (F : BSet), Wk nrow w0 F0 F w ∧ ∃ (g2 : Nat), ρ 2 = .pointer (some ⟨g2, 0, none⟩) ∧ Box k_Fault 26 (Bs w0 nrow) F w g2 s.t_2
def G4 (w0 : World) (F0 : BSet) (s : S) (ρ : Env) (w : World) : Prop := ∃ (F : BSet), Wk nrow w0 F0 F w ∧ ∃ (g2 : Nat), ρ 2 = .pointer (some ⟨g2, 0, none⟩) ∧ Box k_Fault 26 (Bs w0 nrow) F w g2 s.t_2 ∧ SlR k_Commit F w (ρ 11) s.t_11 ∧ ρ 12 = .int .i64 s.t_12 ∧ ρ 13 = .int .i64 s.t_13
def G5 (w0 : World) (F0 : BSet) (s : S) (ρ : Env) (w : World) : Prop := ∃ (F : BSet), Wk nrow w0 F0 F w ∧ ∃ (g2 : Nat), ρ 2 = .pointer (some ⟨g2, 0, none⟩) ∧ Box k_Fault 26 (Bs w0 nrow) F w g2 s.t_2 ∧ SlR k_Commit F w (ρ 11) s.t_11 ∧ ρ 12 = .int .i64 s.t_12 ∧ ρ 13 = .int .i64 s.t_13 ∧ ρ 14 = .bool s.t_14
def G6 (w0 : World) (F0 : BSet) (s : S) (ρ : Env) (w : World) : Prop := ∃ (F : BSet), Wk nrow w0 F0 F w ∧ ∃ (g2 : Nat) (g4 : Nat), ρ 2 = .pointer (some ⟨g2, 0, none⟩) ∧ Box k_Fault 26 (Bs w0 nrow) F w g2 s.t_2 ∧ ρ 3 = .int .i64 s.t_3 ∧ ρ 4 = .pointer (some ⟨g4, 0, none⟩) ∧ Box k_Commit 56 (Bs w0 nrow) F w g4 s.t_4 ∧ SlR k_Commit F w (ρ 11) s.t_11 ∧ ρ 12 = .int .i64 s.t_12 ∧ ρ 13 = .int .i64 s.t_13
def G7 (w0 : World) (F0 : BSet) (s : S) (ρ : Env) (w : World) : Prop := ∃ (F : BSet), Wk nrow w0 F0 F w ∧ ∃ (g2 : Nat) (g4 : Nat), ρ 2 = .pointer (some ⟨g2, 0, none⟩) ∧ Box k_Fault 26 (Bs w0 nrow) F w g2 s.t_2 ∧ ρ 3 = .int .i64 s.t_3 ∧ ρ 4 = .pointer (some ⟨g4, 0, none⟩) ∧ Box k_Commit 56 (Bs w0 nrow) F w g4 s.t_4 ∧ SlR k_Commit F w (ρ 11) s.t_11 ∧ ρ 12 = .int .i64 s.t_12 ∧ ρ 13 = .int .i64 s.t_13 ∧ ρ 21 = .bool s.t_21
def G8 (w0 : World) (F0 : BSet) (s : S) (ρ : Env) (w : World) : Prop := ∃ (F : BSet), Wk nrow w0 F0 F w ∧ ∃ (g2 : Nat), ρ 2 = .pointer (some ⟨g2, 0, none⟩) ∧ Box k_Fault 26 (Bs w0 nrow) F w g2 s.t_2 ∧ ρ 3 = .int .i64 s.t_3
def G9 (w0 : World) (F0 : BSet) (s : S) (ρ : Env) (w : World) : Prop := ∃ (F : BSet), Wk nrow w0 F0 F w ∧ ∃ (g2 : Nat) (g4 : Nat), ρ 2 = .pointer (some ⟨g2, 0, none⟩) ∧ Box k_Fault 26 (Bs w0 nrow) F w g2 s.t_2 ∧ ρ 3 = .int .i64 s.t_3 ∧ ρ 4 = .pointer (some ⟨g4, 0, none⟩) ∧ Box k_Commit 56 (Bs w0 nrow) F w g4 s.t_4 ∧ SlR k_Commit F w (ρ 11) s.t_11 ∧ ρ 12 = .int .i64 s.t_12 ∧ ρ 13 = .int .i64 s.t_13 ∧ SlR (kInt .i64) F w (ρ 25) s.t_25 ∧ ρ 26 = .int .i64 s.t_26 ∧ ρ 27 = .int .i64 s.t_27
def G10 (w0 : World) (F0 : BSet) (s : S) (ρ : Env) (w : World) : Prop := ∃ (F : BSet), Wk nrow w0 F0 F w ∧ ∃ (g2 : Nat) (g4 : Nat), ρ 2 = .pointer (some ⟨g2, 0, none⟩) ∧ Box k_Fault 26 (Bs w0 nrow) F w g2 s.t_2 ∧ ρ 3 = .int .i64 s.t_3 ∧ ρ 4 = .pointer (some ⟨g4, 0, none⟩) ∧ Box k_Commit 56 (Bs w0 nrow) F w g4 s.t_4 ∧ SlR k_Commit F w (ρ 11) s.t_11 ∧ ρ 12 = .int .i64 s.t_12 ∧ ρ 13 = .int .i64 s.t_13 ∧ SlR (kInt .i64) F w (ρ 25) s.t_25 ∧ ρ 26 = .int .i64 s.t_26 ∧ ρ 27 = .int .i64 s.t_27 ∧ ρ 28 = .bool s.t_28
def G11 (w0 : World) (F0 : BSet) (s : S) (ρ : Env) (w : World) : Prop := ∃ (F : BSet), Wk nrow w0 F0 F w ∧ ∃ (g2 : Nat) (g4 : Nat), ρ 2 = .pointer (some ⟨g2, 0, none⟩) ∧ Box k_Fault 26 (Bs w0 nrow) F w g2 s.t_2 ∧ ρ 3 = .int .i64 s.t_3 ∧ ρ 4 = .pointer (some ⟨g4, 0, none⟩) ∧ Box k_Commit 56 (Bs w0 nrow) F w g4 s.t_4 ∧ ρ 5 = .int .i64 s.t_5 ∧ ρ 6 = .int .i64 s.t_6 ∧ SlR k_Commit F w (ρ 11) s.t_11 ∧ ρ 12 = .int .i64 s.t_12 ∧ ρ 13 = .int .i64 s.t_13 ∧ SlR (kInt .i64) F w (ρ 25) s.t_25 ∧ ρ 26 = .int .i64 s.t_26 ∧ ρ 27 = .int .i64 s.t_27
def G12 (w0 : World) (F0 : BSet) (s : S) (ρ : Env) (w : World) : Prop := ∃ (F : BSet), Wk nrow w0 F0 F w ∧ ∃ (g2 : Nat) (g4 : Nat), ρ 2 = .pointer (some ⟨g2, 0, none⟩) ∧ Box k_Fault 26 (Bs w0 nrow) F w g2 s.t_2 ∧ ρ 3 = .int .i64 s.t_3 ∧ ρ 4 = .pointer (some ⟨g4, 0, none⟩) ∧ Box k_Commit 56 (Bs w0 nrow) F w g4 s.t_4 ∧ ρ 5 = .int .i64 s.t_5 ∧ ρ 6 = .int .i64 s.t_6 ∧ SlR k_Commit F w (ρ 11) s.t_11 ∧ ρ 12 = .int .i64 s.t_12 ∧ ρ 13 = .int .i64 s.t_13 ∧ SlR (kInt .i64) F w (ρ 25) s.t_25 ∧ ρ 26 = .int .i64 s.t_26 ∧ ρ 27 = .int .i64 s.t_27 ∧ ρ 38 = .bool s.t_38
def G13 (w0 : World) (F0 : BSet) (s : S) (ρ : Env) (w : World) : Prop := ∃ (F : BSet), Wk nrow w0 F0 F w ∧ ∃ (g2 : Nat) (g4 : Nat), ρ 2 = .pointer (some ⟨g2, 0, none⟩) ∧ Box k_Fault 26 (Bs w0 nrow) F w g2 s.t_2 ∧ ρ 3 = .int .i64 s.t_3 ∧ ρ 4 = .pointer (some ⟨g4, 0, none⟩) ∧ Box k_Commit 56 (Bs w0 nrow) F w g4 s.t_4 ∧ SlR k_Commit F w (ρ 11) s.t_11 ∧ ρ 12 = .int .i64 s.t_12 ∧ ρ 13 = .int .i64 s.t_13 ∧ SlR (kInt .i64) F w (ρ 25) s.t_25 ∧ ρ 26 = .int .i64 s.t_26 ∧ ρ 27 = .int .i64 s.t_27 ∧ ρ 52 = .bool s.t_52
def G14 (w0 : World) (F0 : BSet) (s : S) (ρ : Env) (w : World) : Prop := ∃ (F : BSet), Wk nrow w0 F0 F w ∧ ∃ (g2 : Nat) (g4 : Nat), ρ 2 = .pointer (some ⟨g2, 0, none⟩) ∧ Box k_Fault 26 (Bs w0 nrow) F w g2 s.t_2 ∧ ρ 3 = .int .i64 s.t_3 ∧ ρ 4 = .pointer (some ⟨g4, 0, none⟩) ∧ Box k_Commit 56 (Bs w0 nrow) F w g4 s.t_4 ∧ SlR k_Commit F w (ρ 11) s.t_11 ∧ ρ 12 = .int .i64 s.t_12 ∧ ρ 13 = .int .i64 s.t_13 ∧ ρ 56 = .bool s.t_56
def G15 (w0 : World) (F0 : BSet) (s : S) (ρ : Env) (w : World) : Prop := ∃ (F : BSet), Wk nrow w0 F0 F w ∧ ∃ (g2 : Nat), ρ 2 = .pointer (some ⟨g2, 0, none⟩) ∧ Box k_Fault 26 (Bs w0 nrow) F w g2 s.t_2 ∧ ρ 3 = .int .i64 s.t_3 ∧ SlR k_Commit F w (ρ 11) s.t_11 ∧ ρ 12 = .int .i64 s.t_12 ∧ ρ 13 = .int .i64 s.t_13 ∧ ρ 83 = .bool s.t_83
set_option maxHeartbeats 4000000 in
set_option maxRecDepth 20000 in
theorem ref (w0 : World) (F0 : BSet) : ∃ c, Try.f35.body = some c ∧ Ref Try.prog 92 c (G0 w0 F0) body (fun _ _ _ => False) (fun _ _ _ _ => False) (fun r ρ w => ∃ s, retv s = r ∧ G3 w0 F0 s ρ w) := by
  refine ⟨_, rfl, ?_⟩
  unfold body
  refine Ref.seq (B := G1 w0 F0) ?_ ?_
  · refine Ref.region (fun s ρ w s' h hr => ?_)
    obtain ⟨F, hW, h0⟩ := h
    refine ol_e (f_alloc zer_26 hW) rfl rfl ?_
    rintro _ w2 ⟨g1, rfl, kw1, ho3⟩
    have hW4 := hW.trans kw1
    have st1 := kw1.stp hW.ok
    obtain rfl := Option.some.inj hr
    exact ol_nil ⟨F, hW4, g1, (h0.keep st1), rfl, (ho3.base (row := nrow) hW.le)⟩
  refine Ref.seq (B := G1 w0 F0) ?_ ?_
  · refine Ref.seq (B := G2 w0 F0) ?_ ?_
    · refine Ref.region (fun s ρ w s' h hr => ?_)
      obtain ⟨F, hW, g2, h0, p2, h2⟩ := h
      refine ol_v (e_mv _ rfl) rfl ?_
      obtain ⟨A5, c6, e7, hc8, R9⟩ := id h0
      refine ol_v (e_len (SlT.sl sl_22) e7) rfl ?_
      refine ol_v (e_gtr rfl rfl) rfl ?_
      obtain rfl := Option.some.inj hr
      exact ol_nil ⟨F, hW, g2, h0, p2, h2, rfl⟩
    refine Ref.cond (b := fun s => s.t_9) (fun s ρ w ⟨F, hW, g2, h0, p2, h2, h9⟩ => h9) (Ref.pre (A := G3 w0 F0) ?_ (fun s ρ w h => (fun ⟨F, hW, g2, h0, p2, h2, h9⟩ => ⟨F, hW, g2, p2, h2⟩ : G2 w0 F0 s ρ w → G3 w0 F0 s ρ w) h.2)) (Ref.pre (A := G1 w0 F0) ?_ (fun s ρ w h => (fun ⟨F, hW, g2, h0, p2, h2, h9⟩ => ⟨F, hW, g2, h0, p2, h2⟩ : G2 w0 F0 s ρ w → G1 w0 F0 s ρ w) h.2))
    · refine Ref.seq (B := G3 w0 F0) ?_ ?_
      · refine Ref.region (fun s ρ w s' h hr => ?_)
        obtain ⟨F, hW, g2, p2, h2⟩ := h
        refine ol_v (e_bld (cells := #[.int .i64 (2), .int .i64 (-1)]) bld_26 (vs := [(0, .int .i64 (2)), (1, .int .i64 (-1))]) (lcons (congrArg (Prod.mk 0) rfl) (lcons (congrArg (Prod.mk 1) rfl) rfl)) rfl) rfl ?_
        have hb10 : Val k_Fault F w (.agg #[.int .i64 (2), .int .i64 (-1)]) (⟨(2 : Int), (-1 : Int)⟩ : Fault) := mk_Fault (val_int _ _) (val_int _ _)
        refine ol_eN (f_stB hW h2 (FldS.whole _) ty_26 hb10 p2 rfl) rfl ?_
        rintro - w11 ⟨hW12, ho13, hg1, st1⟩
        obtain rfl := Option.some.inj hr
        exact ol_nil ⟨F, hW12, g2, p2, ho13⟩
      exact Ref.ret (fun s ρ w h => ⟨s, rfl, h⟩)
    · exact Ref.skip
  refine Ref.seq (B := G3 w0 F0) ?_ ?_
  · refine Ref.seq (B := G4 w0 F0) ?_ ?_
    · refine Ref.region (fun s ρ w s' h hr => ?_)
      obtain ⟨F, hW, g2, h0, p2, h2⟩ := h
      refine ol_v (e_mv _ rfl) rfl ?_
      obtain ⟨A14, c15, e16, hc17, R18⟩ := id h0
      refine ol_v (e_len (SlT.sl sl_22) e16) rfl ?_
      refine ol_v (e_mv _ rfl) rfl ?_
      obtain rfl := Option.some.inj hr
      exact ol_nil ⟨F, hW, g2, p2, h2, h0, rfl, rfl⟩
    refine Ref.block ?_
    refine Ref.loop ?_
    refine Ref.seq (B := G5 w0 F0) ?_ ?_
    · refine Ref.region (fun s ρ w s' h hr => ?_)
      obtain ⟨F, hW, g2, p2, h2, h11, h12, h13⟩ := h
      refine ol_v (e_lss h13 h12) rfl ?_
      obtain rfl := Option.some.inj hr
      exact ol_nil ⟨F, hW, g2, p2, h2, h11, h12, h13, rfl⟩
    refine Ref.seq (B := G4 w0 F0) ?_ ?_
    · refine Ref.cond (b := fun s => s.t_14) (fun s ρ w ⟨F, hW, g2, p2, h2, h11, h12, h13, h14⟩ => h14) (Ref.pre (A := G4 w0 F0) ?_ (fun s ρ w h => (fun ⟨F, hW, g2, p2, h2, h11, h12, h13, h14⟩ => ⟨F, hW, g2, p2, h2, h11, h12, h13⟩ : G5 w0 F0 s ρ w → G4 w0 F0 s ρ w) h.2)) (Ref.pre (A := G3 w0 F0) ?_ (fun s ρ w h => (fun ⟨F, hW, g2, p2, h2, h11, h12, h13, h14⟩ => ⟨F, hW, g2, p2, h2⟩ : G5 w0 F0 s ρ w → G3 w0 F0 s ρ w) h.2))
      · exact Ref.skip
      · exact Ref.exit (fun s ρ w h => h)
    refine Ref.seq (B := G4 w0 F0) ?_ ?_
    · refine Ref.block ?_
      refine Ref.seq (B := G6 w0 F0) ?_ ?_
      · refine Ref.region (fun s ρ w s' h hr => ?_)
        obtain ⟨F, hW, g2, p2, h2, h11, h12, h13⟩ := h
        refine ol_v (e_mv _ h13) rfl ?_
        obtain ⟨x19, hx19, hr⟩ := bind_some' hr
        obtain ⟨A20, c21, e22, hc23, R24⟩ := id h11
        obtain ⟨b25, o26, hA27, L28⟩ := Row.at_ R24 hx19
        refine ol_v (e_ix (SlT.sl sl_22) (SlT.sz sl_22) hA27 hx19 e22 h13) rfl ?_
        obtain ⟨v29, hl30⟩ := LiesAt.v L28.at_
        refine ol_v (e_ld ty_56 hl30 rfl) rfl ?_
        refine ol_e (f_alloc zer_56 hW) rfl rfl ?_
        rintro _ w32 ⟨g31, rfl, kw1, ho33⟩
        have hW34 := hW.trans kw1
        have st1 := kw1.stp hW.ok
        refine ol_v (e_as _ rfl) rfl ?_
        refine ol_eN (f_stB hW34 (ho33.base (row := nrow) hW.le) (FldS.whole _) ty_56 (hl30.val.keep st1) rfl rfl) rfl ?_
        rintro - w35 ⟨hW36, ho37, hg2, st2⟩
        obtain rfl := Option.some.inj hr
        exact ol_nil ⟨F, hW36, g2, g31, p2, ((h2.wk kw1 hW.ok).mut (apart_bb (ho33.base (row := nrow) hW.le) (h2.wk kw1 hW.ok) rfl) hg2 st2), rfl, rfl, ho37, (h11.keep (st1.trans st2)), h12, h13⟩
      refine Ref.seq (B := G6 w0 F0) ?_ ?_
      · refine Ref.seq (B := G7 w0 F0) ?_ ?_
        · refine Ref.region (fun s ρ w s' h hr => ?_)
          obtain ⟨F, hW, g2, g4, p2, h2, h3, p4, h4, h11, h12, h13⟩ := h
          refine ol_v (e_fa fa_56_0 p4) rfl ?_
          obtain ⟨v38, hl39, hs40⟩ := LiesV.sl ((h4).at_.fld fl_Commit_0)
          refine ol_v (e_ld ty_23 hl39 rfl) rfl ?_
          obtain ⟨A41, c42, e43, hc44, R45⟩ := id hs40
          refine ol_v (e_len (SlT.sl sl_23) e43) rfl ?_
          refine ol_v (e_gtr rfl rfl) rfl ?_
          obtain rfl := Option.some.inj hr
          exact ol_nil ⟨F, hW, g2, g4, p2, h2, h3, p4, h4, h11, h12, h13, rfl⟩
        refine Ref.cond (b := fun s => s.t_21) (fun s ρ w ⟨F, hW, g2, g4, p2, h2, h3, p4, h4, h11, h12, h13, h21⟩ => h21) (Ref.pre (A := G8 w0 F0) ?_ (fun s ρ w h => (fun ⟨F, hW, g2, g4, p2, h2, h3, p4, h4, h11, h12, h13, h21⟩ => ⟨F, hW, g2, p2, h2, h3⟩ : G7 w0 F0 s ρ w → G8 w0 F0 s ρ w) h.2)) (Ref.pre (A := G6 w0 F0) ?_ (fun s ρ w h => (fun ⟨F, hW, g2, g4, p2, h2, h3, p4, h4, h11, h12, h13, h21⟩ => ⟨F, hW, g2, g4, p2, h2, h3, p4, h4, h11, h12, h13⟩ : G7 w0 F0 s ρ w → G6 w0 F0 s ρ w) h.2))
        · refine Ref.seq (B := G3 w0 F0) ?_ ?_
          · refine Ref.region (fun s ρ w s' h hr => ?_)
            obtain ⟨F, hW, g2, p2, h2, h3⟩ := h
            refine ol_v (e_mv _ h3) rfl ?_
            refine ol_v (e_bld (cells := #[.int .i64 (2), .int .i64 s.t_3]) bld_26 (vs := [(0, .int .i64 (2)), (1, .int .i64 s.t_3)]) (lcons (congrArg (Prod.mk 0) rfl) (lcons (congrArg (Prod.mk 1) rfl) rfl)) rfl) rfl ?_
            have hb46 : Val k_Fault F w (.agg #[.int .i64 (2), .int .i64 s.t_3]) (⟨(2 : Int), s.t_3⟩ : Fault) := mk_Fault (val_int _ _) (val_int _ _)
            refine ol_eN (f_stB hW h2 (FldS.whole _) ty_26 hb46 p2 rfl) rfl ?_
            rintro - w47 ⟨hW48, ho49, hg1, st1⟩
            obtain rfl := Option.some.inj hr
            exact ol_nil ⟨F, hW48, g2, p2, ho49⟩
          exact Ref.ret (fun s ρ w h => ⟨s, rfl, h⟩)
        · exact Ref.skip
      refine Ref.seq (B := G6 w0 F0) ?_ ?_
      · refine Ref.seq (B := G9 w0 F0) ?_ ?_
        · refine Ref.region (fun s ρ w s' h hr => ?_)
          obtain ⟨F, hW, g2, g4, p2, h2, h3, p4, h4, h11, h12, h13⟩ := h
          refine ol_v (e_fa fa_56_0 p4) rfl ?_
          obtain ⟨v50, hl51, hs52⟩ := LiesV.sl ((h4).at_.fld fl_Commit_0)
          refine ol_v (e_ld ty_23 hl51 rfl) rfl ?_
          obtain ⟨A53, c54, e55, hc56, R57⟩ := id hs52
          refine ol_v (e_len (SlT.sl sl_23) e55) rfl ?_
          refine ol_v (e_mv _ rfl) rfl ?_
          obtain rfl := Option.some.inj hr
          exact ol_nil ⟨F, hW, g2, g4, p2, h2, h3, p4, h4, h11, h12, h13, hs52, rfl, rfl⟩
        refine Ref.block ?_
        refine Ref.loop ?_
        refine Ref.seq (B := G10 w0 F0) ?_ ?_
        · refine Ref.region (fun s ρ w s' h hr => ?_)
          obtain ⟨F, hW, g2, g4, p2, h2, h3, p4, h4, h11, h12, h13, h25, h26, h27⟩ := h
          refine ol_v (e_lss h27 h26) rfl ?_
          obtain rfl := Option.some.inj hr
          exact ol_nil ⟨F, hW, g2, g4, p2, h2, h3, p4, h4, h11, h12, h13, h25, h26, h27, rfl⟩
        refine Ref.seq (B := G9 w0 F0) ?_ ?_
        · refine Ref.cond (b := fun s => s.t_28) (fun s ρ w ⟨F, hW, g2, g4, p2, h2, h3, p4, h4, h11, h12, h13, h25, h26, h27, h28⟩ => h28) (Ref.pre (A := G9 w0 F0) ?_ (fun s ρ w h => (fun ⟨F, hW, g2, g4, p2, h2, h3, p4, h4, h11, h12, h13, h25, h26, h27, h28⟩ => ⟨F, hW, g2, g4, p2, h2, h3, p4, h4, h11, h12, h13, h25, h26, h27⟩ : G10 w0 F0 s ρ w → G9 w0 F0 s ρ w) h.2)) (Ref.pre (A := G6 w0 F0) ?_ (fun s ρ w h => (fun ⟨F, hW, g2, g4, p2, h2, h3, p4, h4, h11, h12, h13, h25, h26, h27, h28⟩ => ⟨F, hW, g2, g4, p2, h2, h3, p4, h4, h11, h12, h13⟩ : G10 w0 F0 s ρ w → G6 w0 F0 s ρ w) h.2))
          · exact Ref.skip
          · exact Ref.exit (fun s ρ w h => h)
        refine Ref.seq (B := G9 w0 F0) ?_ ?_
        · refine Ref.block ?_
          refine Ref.seq (B := G11 w0 F0) ?_ ?_
          · refine Ref.region (fun s ρ w s' h hr => ?_)
            obtain ⟨F, hW, g2, g4, p2, h2, h3, p4, h4, h11, h12, h13, h25, h26, h27⟩ := h
            refine ol_v (e_mv _ h27) rfl ?_
            obtain ⟨x58, hx58, hr⟩ := bind_some' hr
            obtain ⟨A59, c60, e61, hc62, R63⟩ := id h25
            obtain ⟨b64, o65, hA66, L67⟩ := Row.at_ R63 hx58
            refine ol_v (e_ix (SlT.sl sl_23) (SlT.sz sl_23) hA66 hx58 e61 h27) rfl ?_
            refine ol_v (e_ld ty_3 (LiesV.int L67.at_) rfl) rfl ?_
            refine ol_v (e_as _ rfl) rfl ?_
            refine ol_v (e_as _ rfl) rfl ?_
            obtain rfl := Option.some.inj hr
            exact ol_nil ⟨F, hW, g2, g4, p2, h2, h3, p4, h4, rfl, rfl, h11, h12, h13, h25, h26, h27⟩
          refine Ref.seq (B := G11 w0 F0) ?_ ?_
          · refine Ref.seq (B := G12 w0 F0) ?_ ?_
            · refine Ref.region (fun s ρ w s' h hr => ?_)
              obtain ⟨F, hW, g2, g4, p2, h2, h3, p4, h4, h5, h6, h11, h12, h13, h25, h26, h27⟩ := h
              refine ol_v (e_mv _ h6) rfl ?_
              refine ol_v (e_lss rfl rfl) rfl ?_
              refine ol_cutA 5 34 38 (fun ρ' w' => w = w' ∧ ρ' 38 = .bool ((decide (s.t_6 < (0 : Int))) || (decide (s.t_3 ≤ s.t_6)))) rfl ?_ ?_
              · by_cases hb68 : (decide (s.t_6 < (0 : Int))) = true
                · refine ol_v (e_mv _ rfl) rfl ?_
                  refine ol_not rfl rfl rfl (congrArg Value.bool hb68) rfl ?_
                  refine ol_not rfl rfl rfl (congrArg Value.bool hb68) rfl ?_
                  refine ol_not rfl rfl rfl (congrArg Value.bool hb68) rfl ?_
                  refine ol_v (e_pick true _ (congrArg Value.bool hb68) rfl) rfl ?_
                  exact ol_nil ⟨⟨rfl, (bv_or_t hb68)⟩, ((((((Agr.refl _ _ _).upd rfl rfl).upd rfl rfl).upd rfl rfl).upd rfl rfl).upd rfl rfl)⟩
                · have hb69 := Bool.eq_false_iff.mpr hb68
                  refine ol_v (e_mv _ rfl) rfl ?_
                  refine ol_yes rfl rfl (congrArg Value.bool hb69) ?_
                  refine ol_v (e_mv _ h6) rfl ?_
                  refine ol_yes rfl rfl (congrArg Value.bool hb69) ?_
                  refine ol_v (e_mv _ h3) rfl ?_
                  refine ol_yes rfl rfl (congrArg Value.bool hb69) ?_
                  refine ol_v (e_geq rfl rfl) rfl ?_
                  refine ol_v (e_pick false _ (congrArg Value.bool hb69) rfl) rfl ?_
                  exact ol_nil ⟨⟨rfl, (bv_or_f hb69)⟩, ((((((Agr.refl _ _ _).upd rfl rfl).upd rfl rfl).upd rfl rfl).upd rfl rfl).upd rfl rfl)⟩
              rintro ρ70 _ ⟨⟨rfl, hp70⟩, hAg70⟩
              obtain rfl := Option.some.inj hr
              exact ol_nil ⟨F, hW, g2, g4, ((hAg70 2 rfl).trans p2), h2, ((hAg70 3 rfl).trans h3), ((hAg70 4 rfl).trans p4), h4, ((hAg70 5 rfl).trans h5), ((hAg70 6 rfl).trans h6), (SlR.eqv (hAg70 11 rfl) h11), ((hAg70 12 rfl).trans h12), ((hAg70 13 rfl).trans h13), (SlR.eqv (hAg70 25 rfl) h25), ((hAg70 26 rfl).trans h26), ((hAg70 27 rfl).trans h27), hp70⟩
            refine Ref.cond (b := fun s => s.t_38) (fun s ρ w ⟨F, hW, g2, g4, p2, h2, h3, p4, h4, h5, h6, h11, h12, h13, h25, h26, h27, h38⟩ => h38) (Ref.pre (A := G8 w0 F0) ?_ (fun s ρ w h => (fun ⟨F, hW, g2, g4, p2, h2, h3, p4, h4, h5, h6, h11, h12, h13, h25, h26, h27, h38⟩ => ⟨F, hW, g2, p2, h2, h3⟩ : G12 w0 F0 s ρ w → G8 w0 F0 s ρ w) h.2)) (Ref.pre (A := G11 w0 F0) ?_ (fun s ρ w h => (fun ⟨F, hW, g2, g4, p2, h2, h3, p4, h4, h5, h6, h11, h12, h13, h25, h26, h27, h38⟩ => ⟨F, hW, g2, g4, p2, h2, h3, p4, h4, h5, h6, h11, h12, h13, h25, h26, h27⟩ : G12 w0 F0 s ρ w → G11 w0 F0 s ρ w) h.2))
            · refine Ref.seq (B := G3 w0 F0) ?_ ?_
              · refine Ref.region (fun s ρ w s' h hr => ?_)
                obtain ⟨F, hW, g2, p2, h2, h3⟩ := h
                refine ol_v (e_mv _ h3) rfl ?_
                refine ol_v (e_bld (cells := #[.int .i64 (3), .int .i64 s.t_3]) bld_26 (vs := [(0, .int .i64 (3)), (1, .int .i64 s.t_3)]) (lcons (congrArg (Prod.mk 0) rfl) (lcons (congrArg (Prod.mk 1) rfl) rfl)) rfl) rfl ?_
                have hb71 : Val k_Fault F w (.agg #[.int .i64 (3), .int .i64 s.t_3]) (⟨(3 : Int), s.t_3⟩ : Fault) := mk_Fault (val_int _ _) (val_int _ _)
                refine ol_eN (f_stB hW h2 (FldS.whole _) ty_26 hb71 p2 rfl) rfl ?_
                rintro - w72 ⟨hW73, ho74, hg1, st1⟩
                obtain rfl := Option.some.inj hr
                exact ol_nil ⟨F, hW73, g2, p2, ho74⟩
              exact Ref.ret (fun s ρ w h => ⟨s, rfl, h⟩)
            · exact Ref.skip
          refine Ref.seq (B := G13 w0 F0) ?_ ?_
          · refine Ref.region (fun s ρ w s' h hr => ?_)
            obtain ⟨F, hW, g2, g4, p2, h2, h3, p4, h4, h5, h6, h11, h12, h13, h25, h26, h27⟩ := h
            refine ol_v (e_mv _ h5) rfl ?_
            refine ol_v (e_gtr rfl rfl) rfl ?_
            obtain ⟨x90, hx91, hr⟩ := bind_some' hr
            refine ol_cutA 10 43 52 (fun ρ' w' => w = w' ∧ ρ' 52 = .bool x90) rfl ?_ ?_
            · by_cases hb75 : (decide ((0 : Int) < s.t_5)) = true
              · have hr := hx91
                rw [if_pos hb75] at hr
                refine ol_v (e_mv _ rfl) rfl ?_
                refine ol_yes rfl rfl (congrArg Value.bool hb75) ?_
                refine ol_v (e_fa fa_56_0 p4) rfl ?_
                refine ol_yes rfl rfl (congrArg Value.bool hb75) ?_
                obtain ⟨v77, hl78, hs79⟩ := LiesV.sl ((h4).at_.fld fl_Commit_0)
                refine ol_v (e_ld ty_23 hl78 rfl) rfl ?_
                refine ol_yes rfl rfl (congrArg Value.bool hb75) ?_
                refine ol_v (e_mv _ h5) rfl ?_
                refine ol_yes rfl rfl (congrArg Value.bool hb75) ?_
                refine ol_v (e_sub rfl rfl) rfl ?_
                refine ol_yes rfl rfl (congrArg Value.bool hb75) ?_
                obtain ⟨x80, hx80, hr⟩ := bind_some' hr
                obtain ⟨A81, c82, e83, hc84, R85⟩ := id hs79
                obtain ⟨b86, o87, hA88, L89⟩ := Row.at_ R85 hx80
                refine ol_v (e_ix (SlT.sl sl_23) (SlT.sz sl_23) hA88 hx80 e83 rfl) rfl ?_
                refine ol_yes rfl rfl (congrArg Value.bool hb75) ?_
                refine ol_v (e_ld ty_3 (LiesV.int L89.at_) rfl) rfl ?_
                refine ol_yes rfl rfl (congrArg Value.bool hb75) ?_
                refine ol_v (e_mv _ h6) rfl ?_
                refine ol_yes rfl rfl (congrArg Value.bool hb75) ?_
                refine ol_v (e_geq rfl rfl) rfl ?_
                refine ol_v (e_pick true _ (congrArg Value.bool hb75) rfl) rfl ?_
                exact ol_nil ⟨⟨rfl, (congrArg Value.bool (Option.some.inj hr))⟩, (((((((((((Agr.refl _ _ _).upd rfl rfl).upd rfl rfl).upd rfl rfl).upd rfl rfl).upd rfl rfl).upd rfl rfl).upd rfl rfl).upd rfl rfl).upd rfl rfl).upd rfl rfl)⟩
              · have hb76 := Bool.eq_false_iff.mpr hb75
                have hr := hx91
                rw [if_neg hb75] at hr
                refine ol_v (e_mv _ rfl) rfl ?_
                refine ol_not rfl rfl rfl (congrArg Value.bool hb76) rfl ?_
                refine ol_not rfl rfl rfl (congrArg Value.bool hb76) rfl ?_
                refine ol_not rfl rfl rfl (congrArg Value.bool hb76) rfl ?_
                refine ol_not rfl rfl rfl (congrArg Value.bool hb76) rfl ?_
                refine ol_not rfl rfl rfl (congrArg Value.bool hb76) rfl ?_
                refine ol_not rfl rfl rfl (congrArg Value.bool hb76) rfl ?_
                refine ol_not rfl rfl rfl (congrArg Value.bool hb76) rfl ?_
                refine ol_not rfl rfl rfl (congrArg Value.bool hb76) rfl ?_
                refine ol_v (e_pick false _ (congrArg Value.bool hb76) rfl) rfl ?_
                exact ol_nil ⟨⟨rfl, (congrArg Value.bool (Option.some.inj hr))⟩, (((((((((((Agr.refl _ _ _).upd rfl rfl).upd rfl rfl).upd rfl rfl).upd rfl rfl).upd rfl rfl).upd rfl rfl).upd rfl rfl).upd rfl rfl).upd rfl rfl).upd rfl rfl)⟩
            rintro ρ91 _ ⟨⟨rfl, hp91⟩, hAg91⟩
            obtain rfl := Option.some.inj hr
            exact ol_nil ⟨F, hW, g2, g4, ((hAg91 2 rfl).trans p2), h2, ((hAg91 3 rfl).trans h3), ((hAg91 4 rfl).trans p4), h4, (SlR.eqv (hAg91 11 rfl) h11), ((hAg91 12 rfl).trans h12), ((hAg91 13 rfl).trans h13), (SlR.eqv (hAg91 25 rfl) h25), ((hAg91 26 rfl).trans h26), ((hAg91 27 rfl).trans h27), hp91⟩
          refine Ref.cond (b := fun s => s.t_52) (fun s ρ w ⟨F, hW, g2, g4, p2, h2, h3, p4, h4, h11, h12, h13, h25, h26, h27, h52⟩ => h52) (Ref.pre (A := G8 w0 F0) ?_ (fun s ρ w h => (fun ⟨F, hW, g2, g4, p2, h2, h3, p4, h4, h11, h12, h13, h25, h26, h27, h52⟩ => ⟨F, hW, g2, p2, h2, h3⟩ : G13 w0 F0 s ρ w → G8 w0 F0 s ρ w) h.2)) (Ref.pre (A := G9 w0 F0) ?_ (fun s ρ w h => (fun ⟨F, hW, g2, g4, p2, h2, h3, p4, h4, h11, h12, h13, h25, h26, h27, h52⟩ => ⟨F, hW, g2, g4, p2, h2, h3, p4, h4, h11, h12, h13, h25, h26, h27⟩ : G13 w0 F0 s ρ w → G9 w0 F0 s ρ w) h.2))
          · refine Ref.seq (B := G3 w0 F0) ?_ ?_
            · refine Ref.region (fun s ρ w s' h hr => ?_)
              obtain ⟨F, hW, g2, p2, h2, h3⟩ := h
              refine ol_v (e_mv _ h3) rfl ?_
              refine ol_v (e_bld (cells := #[.int .i64 (5), .int .i64 s.t_3]) bld_26 (vs := [(0, .int .i64 (5)), (1, .int .i64 s.t_3)]) (lcons (congrArg (Prod.mk 0) rfl) (lcons (congrArg (Prod.mk 1) rfl) rfl)) rfl) rfl ?_
              have hb92 : Val k_Fault F w (.agg #[.int .i64 (5), .int .i64 s.t_3]) (⟨(5 : Int), s.t_3⟩ : Fault) := mk_Fault (val_int _ _) (val_int _ _)
              refine ol_eN (f_stB hW h2 (FldS.whole _) ty_26 hb92 p2 rfl) rfl ?_
              rintro - w93 ⟨hW94, ho95, hg1, st1⟩
              obtain rfl := Option.some.inj hr
              exact ol_nil ⟨F, hW94, g2, p2, ho95⟩
            exact Ref.ret (fun s ρ w h => ⟨s, rfl, h⟩)
          · exact Ref.skip
        refine Ref.region (fun s ρ w s' h hr => ?_)
        obtain ⟨F, hW, g2, g4, p2, h2, h3, p4, h4, h11, h12, h13, h25, h26, h27⟩ := h
        refine ol_v (e_add h27 rfl) rfl ?_
        refine ol_v (e_mv _ rfl) rfl ?_
        obtain rfl := Option.some.inj hr
        exact ol_nil ⟨F, hW, g2, g4, p2, h2, h3, p4, h4, h11, h12, h13, h25, h26, rfl⟩
      refine Ref.block ?_
      refine Ref.seq (B := G14 w0 F0) ?_ ?_
      · refine Ref.seq (B := G14 w0 F0) ?_ ?_
        · refine Ref.region (fun s ρ w s' h hr => ?_)
          obtain ⟨F, hW, g2, g4, p2, h2, h3, p4, h4, h11, h12, h13⟩ := h
          refine ol_v (e_fa fa_56_1 p4) rfl ?_
          refine ol_v (e_ld ty_3 (LiesV.int ((h4).at_.fld fl_Commit_1)) rfl) rfl ?_
          refine ol_v (e_lss rfl rfl) rfl ?_
          refine ol_cutA 5 60 64 (fun ρ' w' => w = w' ∧ ρ' 64 = .bool ((decide (s.t_4.Author < (0 : Int))) || (decide ((7 : Int) < s.t_4.Author)))) rfl ?_ ?_
          · by_cases hb96 : (decide (s.t_4.Author < (0 : Int))) = true
            · refine ol_v (e_mv _ rfl) rfl ?_
              refine ol_not rfl rfl rfl (congrArg Value.bool hb96) rfl ?_
              refine ol_not rfl rfl rfl (congrArg Value.bool hb96) rfl ?_
              refine ol_not rfl rfl rfl (congrArg Value.bool hb96) rfl ?_
              refine ol_v (e_pick true _ (congrArg Value.bool hb96) rfl) rfl ?_
              exact ol_nil ⟨⟨rfl, (bv_or_t hb96)⟩, ((((((Agr.refl _ _ _).upd rfl rfl).upd rfl rfl).upd rfl rfl).upd rfl rfl).upd rfl rfl)⟩
            · have hb97 := Bool.eq_false_iff.mpr hb96
              refine ol_v (e_mv _ rfl) rfl ?_
              refine ol_yes rfl rfl (congrArg Value.bool hb97) ?_
              refine ol_v (e_fa fa_56_1 p4) rfl ?_
              refine ol_yes rfl rfl (congrArg Value.bool hb97) ?_
              refine ol_v (e_ld ty_3 (LiesV.int ((h4).at_.fld fl_Commit_1)) rfl) rfl ?_
              refine ol_yes rfl rfl (congrArg Value.bool hb97) ?_
              refine ol_v (e_gtr rfl rfl) rfl ?_
              refine ol_v (e_pick false _ (congrArg Value.bool hb97) rfl) rfl ?_
              exact ol_nil ⟨⟨rfl, (bv_or_f hb97)⟩, ((((((Agr.refl _ _ _).upd rfl rfl).upd rfl rfl).upd rfl rfl).upd rfl rfl).upd rfl rfl)⟩
          rintro ρ98 _ ⟨⟨rfl, hp98⟩, hAg98⟩
          refine ol_v (e_as _ hp98) rfl ?_
          obtain rfl := Option.some.inj hr
          exact ol_nil ⟨F, hW, g2, g4, ((hAg98 2 rfl).trans p2), h2, ((hAg98 3 rfl).trans h3), ((hAg98 4 rfl).trans p4), h4, (SlR.eqv (hAg98 11 rfl) h11), ((hAg98 12 rfl).trans h12), ((hAg98 13 rfl).trans h13), rfl⟩
        refine Ref.cond (b := fun s => s.t_56) (fun s ρ w ⟨F, hW, g2, g4, p2, h2, h3, p4, h4, h11, h12, h13, h56⟩ => h56) (Ref.pre (A := G14 w0 F0) ?_ (fun s ρ w h => (fun ⟨F, hW, g2, g4, p2, h2, h3, p4, h4, h11, h12, h13, h56⟩ => ⟨F, hW, g2, g4, p2, h2, h3, p4, h4, h11, h12, h13, h56⟩ : G14 w0 F0 s ρ w → G14 w0 F0 s ρ w) h.2)) (Ref.pre (A := G6 w0 F0) ?_ (fun s ρ w h => (fun ⟨F, hW, g2, g4, p2, h2, h3, p4, h4, h11, h12, h13, h56⟩ => ⟨F, hW, g2, g4, p2, h2, h3, p4, h4, h11, h12, h13⟩ : G14 w0 F0 s ρ w → G6 w0 F0 s ρ w) h.2))
        · exact Ref.skip
        · refine Ref.seq (B := G14 w0 F0) ?_ ?_
          · refine Ref.region (fun s ρ w s' h hr => ?_)
            obtain ⟨F, hW, g2, g4, p2, h2, h3, p4, h4, h11, h12, h13⟩ := h
            refine ol_v (e_fa fa_56_2 p4) rfl ?_
            refine ol_v (e_ld ty_3 (LiesV.int ((h4).at_.fld fl_Commit_2)) rfl) rfl ?_
            refine ol_v (e_lss rfl rfl) rfl ?_
            refine ol_cutA 5 68 72 (fun ρ' w' => w = w' ∧ ρ' 72 = .bool ((decide (s.t_4.Time < (0 : Int))) || (decide ((100000 : Int) < s.t_4.Time)))) rfl ?_ ?_
            · by_cases hb99 : (decide (s.t_4.Time < (0 : Int))) = true
              · refine ol_v (e_mv _ rfl) rfl ?_
                refine ol_not rfl rfl rfl (congrArg Value.bool hb99) rfl ?_
                refine ol_not rfl rfl rfl (congrArg Value.bool hb99) rfl ?_
                refine ol_not rfl rfl rfl (congrArg Value.bool hb99) rfl ?_
                refine ol_v (e_pick true _ (congrArg Value.bool hb99) rfl) rfl ?_
                exact ol_nil ⟨⟨rfl, (bv_or_t hb99)⟩, ((((((Agr.refl _ _ _).upd rfl rfl).upd rfl rfl).upd rfl rfl).upd rfl rfl).upd rfl rfl)⟩
              · have hb100 := Bool.eq_false_iff.mpr hb99
                refine ol_v (e_mv _ rfl) rfl ?_
                refine ol_yes rfl rfl (congrArg Value.bool hb100) ?_
                refine ol_v (e_fa fa_56_2 p4) rfl ?_
                refine ol_yes rfl rfl (congrArg Value.bool hb100) ?_
                refine ol_v (e_ld ty_3 (LiesV.int ((h4).at_.fld fl_Commit_2)) rfl) rfl ?_
                refine ol_yes rfl rfl (congrArg Value.bool hb100) ?_
                refine ol_v (e_gtr rfl rfl) rfl ?_
                refine ol_v (e_pick false _ (congrArg Value.bool hb100) rfl) rfl ?_
                exact ol_nil ⟨⟨rfl, (bv_or_f hb100)⟩, ((((((Agr.refl _ _ _).upd rfl rfl).upd rfl rfl).upd rfl rfl).upd rfl rfl).upd rfl rfl)⟩
            rintro ρ101 _ ⟨⟨rfl, hp101⟩, hAg101⟩
            refine ol_v (e_as _ hp101) rfl ?_
            obtain rfl := Option.some.inj hr
            exact ol_nil ⟨F, hW, g2, g4, ((hAg101 2 rfl).trans p2), h2, ((hAg101 3 rfl).trans h3), ((hAg101 4 rfl).trans p4), h4, (SlR.eqv (hAg101 11 rfl) h11), ((hAg101 12 rfl).trans h12), ((hAg101 13 rfl).trans h13), rfl⟩
          refine Ref.cond (b := fun s => s.t_56) (fun s ρ w ⟨F, hW, g2, g4, p2, h2, h3, p4, h4, h11, h12, h13, h56⟩ => h56) (Ref.pre (A := G14 w0 F0) ?_ (fun s ρ w h => (fun ⟨F, hW, g2, g4, p2, h2, h3, p4, h4, h11, h12, h13, h56⟩ => ⟨F, hW, g2, g4, p2, h2, h3, p4, h4, h11, h12, h13, h56⟩ : G14 w0 F0 s ρ w → G14 w0 F0 s ρ w) h.2)) (Ref.pre (A := G6 w0 F0) ?_ (fun s ρ w h => (fun ⟨F, hW, g2, g4, p2, h2, h3, p4, h4, h11, h12, h13, h56⟩ => ⟨F, hW, g2, g4, p2, h2, h3, p4, h4, h11, h12, h13⟩ : G14 w0 F0 s ρ w → G6 w0 F0 s ρ w) h.2))
          · exact Ref.skip
          · refine Ref.region (fun s ρ w s' h hr => ?_)
            obtain ⟨F, hW, g2, g4, p2, h2, h3, p4, h4, h11, h12, h13⟩ := h
            refine ol_v (e_fa fa_56_3 p4) rfl ?_
            refine ol_v (e_ld ty_3 (LiesV.int ((h4).at_.fld fl_Commit_3)) rfl) rfl ?_
            refine ol_v (e_lss rfl rfl) rfl ?_
            refine ol_cutA 5 76 80 (fun ρ' w' => w = w' ∧ ρ' 80 = .bool ((decide (s.t_4.Tree < (0 : Int))) || (decide ((2305843009213693951 : Int) ≤ s.t_4.Tree)))) rfl ?_ ?_
            · by_cases hb102 : (decide (s.t_4.Tree < (0 : Int))) = true
              · refine ol_v (e_mv _ rfl) rfl ?_
                refine ol_not rfl rfl rfl (congrArg Value.bool hb102) rfl ?_
                refine ol_not rfl rfl rfl (congrArg Value.bool hb102) rfl ?_
                refine ol_not rfl rfl rfl (congrArg Value.bool hb102) rfl ?_
                refine ol_v (e_pick true _ (congrArg Value.bool hb102) rfl) rfl ?_
                exact ol_nil ⟨⟨rfl, (bv_or_t hb102)⟩, ((((((Agr.refl _ _ _).upd rfl rfl).upd rfl rfl).upd rfl rfl).upd rfl rfl).upd rfl rfl)⟩
              · have hb103 := Bool.eq_false_iff.mpr hb102
                refine ol_v (e_mv _ rfl) rfl ?_
                refine ol_yes rfl rfl (congrArg Value.bool hb103) ?_
                refine ol_v (e_fa fa_56_3 p4) rfl ?_
                refine ol_yes rfl rfl (congrArg Value.bool hb103) ?_
                refine ol_v (e_ld ty_3 (LiesV.int ((h4).at_.fld fl_Commit_3)) rfl) rfl ?_
                refine ol_yes rfl rfl (congrArg Value.bool hb103) ?_
                refine ol_v (e_geq rfl rfl) rfl ?_
                refine ol_v (e_pick false _ (congrArg Value.bool hb103) rfl) rfl ?_
                exact ol_nil ⟨⟨rfl, (bv_or_f hb103)⟩, ((((((Agr.refl _ _ _).upd rfl rfl).upd rfl rfl).upd rfl rfl).upd rfl rfl).upd rfl rfl)⟩
            rintro ρ104 _ ⟨⟨rfl, hp104⟩, hAg104⟩
            refine ol_v (e_as _ hp104) rfl ?_
            obtain rfl := Option.some.inj hr
            exact ol_nil ⟨F, hW, g2, g4, ((hAg104 2 rfl).trans p2), h2, ((hAg104 3 rfl).trans h3), ((hAg104 4 rfl).trans p4), h4, (SlR.eqv (hAg104 11 rfl) h11), ((hAg104 12 rfl).trans h12), ((hAg104 13 rfl).trans h13), rfl⟩
      refine Ref.cond (b := fun s => s.t_56) (fun s ρ w ⟨F, hW, g2, g4, p2, h2, h3, p4, h4, h11, h12, h13, h56⟩ => h56) (Ref.pre (A := G8 w0 F0) ?_ (fun s ρ w h => (fun ⟨F, hW, g2, g4, p2, h2, h3, p4, h4, h11, h12, h13, h56⟩ => ⟨F, hW, g2, p2, h2, h3⟩ : G14 w0 F0 s ρ w → G8 w0 F0 s ρ w) h.2)) (Ref.pre (A := G6 w0 F0) ?_ (fun s ρ w h => (fun ⟨F, hW, g2, g4, p2, h2, h3, p4, h4, h11, h12, h13, h56⟩ => ⟨F, hW, g2, g4, p2, h2, h3, p4, h4, h11, h12, h13⟩ : G14 w0 F0 s ρ w → G6 w0 F0 s ρ w) h.2))
      · refine Ref.seq (B := G3 w0 F0) ?_ ?_
        · refine Ref.region (fun s ρ w s' h hr => ?_)
          obtain ⟨F, hW, g2, p2, h2, h3⟩ := h
          refine ol_v (e_mv _ h3) rfl ?_
          refine ol_v (e_bld (cells := #[.int .i64 (3), .int .i64 s.t_3]) bld_26 (vs := [(0, .int .i64 (3)), (1, .int .i64 s.t_3)]) (lcons (congrArg (Prod.mk 0) rfl) (lcons (congrArg (Prod.mk 1) rfl) rfl)) rfl) rfl ?_
          have hb105 : Val k_Fault F w (.agg #[.int .i64 (3), .int .i64 s.t_3]) (⟨(3 : Int), s.t_3⟩ : Fault) := mk_Fault (val_int _ _) (val_int _ _)
          refine ol_eN (f_stB hW h2 (FldS.whole _) ty_26 hb105 p2 rfl) rfl ?_
          rintro - w106 ⟨hW107, ho108, hg1, st1⟩
          obtain rfl := Option.some.inj hr
          exact ol_nil ⟨F, hW107, g2, p2, ho108⟩
        exact Ref.ret (fun s ρ w h => ⟨s, rfl, h⟩)
      · refine Ref.seq (B := G15 w0 F0) ?_ ?_
        · refine Ref.region (fun s ρ w s' h hr => ?_)
          obtain ⟨F, hW, g2, g4, p2, h2, h3, p4, h4, h11, h12, h13⟩ := h
          refine ol_v (e_fa fa_56_4 p4) rfl ?_
          refine ol_v (e_ld ty_9 (LiesV.str ((h4).at_.fld fl_Commit_4)) rfl) rfl ?_
          refine ol_v (e_lenS (by kernel_rfl) rfl) rfl ?_
          refine ol_v (e_gtr rfl rfl) rfl ?_
          refine ol_v (e_as _ rfl) rfl ?_
          obtain rfl := Option.some.inj hr
          exact ol_nil ⟨F, hW, g2, p2, h2, h3, h11, h12, h13, rfl⟩
        refine Ref.cond (b := fun s => s.t_83) (fun s ρ w ⟨F, hW, g2, p2, h2, h3, h11, h12, h13, h83⟩ => h83) (Ref.pre (A := G8 w0 F0) ?_ (fun s ρ w h => (fun ⟨F, hW, g2, p2, h2, h3, h11, h12, h13, h83⟩ => ⟨F, hW, g2, p2, h2, h3⟩ : G15 w0 F0 s ρ w → G8 w0 F0 s ρ w) h.2)) (Ref.pre (A := G4 w0 F0) ?_ (fun s ρ w h => (fun ⟨F, hW, g2, p2, h2, h3, h11, h12, h13, h83⟩ => ⟨F, hW, g2, p2, h2, h11, h12, h13⟩ : G15 w0 F0 s ρ w → G4 w0 F0 s ρ w) h.2))
        · refine Ref.seq (B := G3 w0 F0) ?_ ?_
          · refine Ref.region (fun s ρ w s' h hr => ?_)
            obtain ⟨F, hW, g2, p2, h2, h3⟩ := h
            refine ol_v (e_mv _ h3) rfl ?_
            refine ol_v (e_bld (cells := #[.int .i64 (10), .int .i64 s.t_3]) bld_26 (vs := [(0, .int .i64 (10)), (1, .int .i64 s.t_3)]) (lcons (congrArg (Prod.mk 0) rfl) (lcons (congrArg (Prod.mk 1) rfl) rfl)) rfl) rfl ?_
            have hb109 : Val k_Fault F w (.agg #[.int .i64 (10), .int .i64 s.t_3]) (⟨(10 : Int), s.t_3⟩ : Fault) := mk_Fault (val_int _ _) (val_int _ _)
            refine ol_eN (f_stB hW h2 (FldS.whole _) ty_26 hb109 p2 rfl) rfl ?_
            rintro - w110 ⟨hW111, ho112, hg1, st1⟩
            obtain rfl := Option.some.inj hr
            exact ol_nil ⟨F, hW111, g2, p2, ho112⟩
          exact Ref.ret (fun s ρ w h => ⟨s, rfl, h⟩)
        · exact Ref.skip
    refine Ref.region (fun s ρ w s' h hr => ?_)
    obtain ⟨F, hW, g2, p2, h2, h11, h12, h13⟩ := h
    refine ol_v (e_add h13 rfl) rfl ?_
    refine ol_v (e_mv _ rfl) rfl ?_
    obtain rfl := Option.some.inj hr
    exact ol_nil ⟨F, hW, g2, p2, h2, h11, h12, rfl⟩
  refine Ref.seq (B := G3 w0 F0) ?_ ?_
  · refine Ref.region (fun s ρ w s' h hr => ?_)
    obtain ⟨F, hW, g2, p2, h2⟩ := h
    refine ol_v (e_bld (cells := #[.int .i64 0, .int .i64 0]) bld_26 (vs := []) rfl rfl) rfl ?_
    have hb113 : Val k_Fault F w (.agg #[.int .i64 0, .int .i64 0]) (⟨(0 : Int), (0 : Int)⟩ : Fault) := mk_Fault (val_int _ _) (val_int _ _)
    refine ol_eN (f_stB hW h2 (FldS.whole _) ty_26 hb113 p2 rfl) rfl ?_
    rintro - w114 ⟨hW115, ho116, hg1, st1⟩
    obtain rfl := Option.some.inj hr
    exact ol_nil ⟨F, hW115, g2, p2, ho116⟩
  exact Ref.ret (fun s ρ w h => ⟨s, rfl, h⟩)
def post (w : World) (F : BSet) (r : R) (v : Value) (w' : World) : Prop := ∃ (F' : BSet) (v0' : Value), v = v0' ∧ Wk nrow w F F' w' ∧ Val k_Fault F' w' v0' r
theorem calls {w : World} {F : BSet} (hok : ∀ b, F b → b < w.heap.size) {v0 : Value} {a0 : (List Commit)} (h0 : SlR k_Commit F w v0 a0) {r : R} (hf : f a0 = some r) : Calls Try.prog 35 #[v0] w fun e w' => ∃ v, e = .returned v ∧ post w F r v w' := by
  obtain ⟨c, hc, href⟩ := ref w F
  refine calls_of_ref (args := [v0]) _ Try.func35 hc rfl rfl href ?_ (retOf_some hf) ?_
  · exact ⟨F, Wk.refl hok, h0⟩
  · rintro ρ w' a ⟨s, rfl, F', hW, g2, p2, h2⟩ hF
    obtain ⟨u2, l2, k2⟩ := res_box (P := Try.prog) ty_26 h2
    refine ⟨_, run_results (rs := [.cell 2 26]) rfl hF (vs := [u2]) (⟨_, _, _, rfl, p2, l2, rfl⟩), ?_⟩
    exact ⟨F', u2, rfl, hW, k2⟩
end
end history_Validate

namespace ref3_Ints
section
def G0 (w0 : World) (F0 : BSet) (s : S) (ρ : Env) (w : World) : Prop := ∃ (F : BSet), Wk nrow w0 F0 F w ∧ SlR (kInt .i64) F w (ρ 0) s.a_0 ∧ SlR (kInt .i64) F w (ρ 1) s.b_1
def G1 (w0 : World) (F0 : BSet) (s : S) (ρ : Env) (w : World) : Prop := ∃ (F : BSet), Wk nrow w0 F0 F w ∧ SlR (kInt .i64) F w (ρ 0) s.a_0 ∧ SlR (kInt .i64) F w (ρ 1) s.b_1 ∧ ρ 10 = .bool s.t_10
def G2 (w0 : World) (F0 : BSet) (s : S) (ρ : Env) (w : World) : Prop := ∃ (F : BSet), Wk nrow w0 F0 F w
def G3 (w0 : World) (F0 : BSet) (s : S) (ρ : Env) (w : World) : Prop := ∃ (F : BSet), Wk nrow w0 F0 F w ∧ ρ 4 = .bool s.t_4
def G4 (w0 : World) (F0 : BSet) (s : S) (ρ : Env) (w : World) : Prop := ∃ (F : BSet), Wk nrow w0 F0 F w ∧ SlR (kInt .i64) F w (ρ 0) s.a_0 ∧ SlR (kInt .i64) F w (ρ 1) s.b_1 ∧ ρ 5 = .int .i64 s.i_5
def G5 (w0 : World) (F0 : BSet) (s : S) (ρ : Env) (w : World) : Prop := ∃ (F : BSet), Wk nrow w0 F0 F w ∧ SlR (kInt .i64) F w (ρ 0) s.a_0 ∧ SlR (kInt .i64) F w (ρ 1) s.b_1 ∧ ρ 5 = .int .i64 s.i_5 ∧ ρ 14 = .bool s.t_14
def G6 (w0 : World) (F0 : BSet) (s : S) (ρ : Env) (w : World) : Prop := ∃ (F : BSet), Wk nrow w0 F0 F w ∧ SlR (kInt .i64) F w (ρ 0) s.a_0 ∧ SlR (kInt .i64) F w (ρ 1) s.b_1 ∧ ρ 5 = .int .i64 s.i_5 ∧ ρ 25 = .bool s.t_25
set_option maxHeartbeats 4000000 in
set_option maxRecDepth 20000 in
theorem ref (w0 : World) (F0 : BSet) : ∃ c, Try.f17.body = some c ∧ Ref Try.prog 26 c (G0 w0 F0) body (fun _ _ _ => False) (fun _ _ _ _ => False) (fun r ρ w => ∃ s, retv s = r ∧ G3 w0 F0 s ρ w) := by
  refine ⟨_, rfl, ?_⟩
  unfold body
  refine Ref.seq (B := G0 w0 F0) ?_ ?_
  · refine Ref.region (fun s ρ w s' h hr => ?_)
    obtain ⟨F, hW, h0, h1⟩ := h
    refine ol_v (e_as _ rfl) rfl ?_
    obtain rfl := Option.some.inj hr
    exact ol_nil ⟨F, hW, h0, h1⟩
  refine Ref.seq (B := G0 w0 F0) ?_ ?_
  · refine Ref.seq (B := G1 w0 F0) ?_ ?_
    · refine Ref.region (fun s ρ w s' h hr => ?_)
      obtain ⟨F, hW, h0, h1⟩ := h
      refine ol_v (e_mv _ rfl) rfl ?_
      obtain ⟨A1, c2, e3, hc4, R5⟩ := id h0
      refine ol_v (e_len (SlT.sl sl_23) e3) rfl ?_
      refine ol_v (e_mv _ rfl) rfl ?_
      obtain ⟨A6, c7, e8, hc9, R10⟩ := id h1
      refine ol_v (e_len (SlT.sl sl_23) e8) rfl ?_
      refine ol_v (e_neq rfl rfl) rfl ?_
      obtain rfl := Option.some.inj hr
      exact ol_nil ⟨F, hW, h0, h1, rfl⟩
    refine Ref.cond (b := fun s => s.t_10) (fun s ρ w ⟨F, hW, h0, h1, h10⟩ => h10) (Ref.pre (A := G2 w0 F0) ?_ (fun s ρ w h => (fun ⟨F, hW, h0, h1, h10⟩ => ⟨F, hW⟩ : G1 w0 F0 s ρ w → G2 w0 F0 s ρ w) h.2)) (Ref.pre (A := G0 w0 F0) ?_ (fun s ρ w h => (fun ⟨F, hW, h0, h1, h10⟩ => ⟨F, hW, h0, h1⟩ : G1 w0 F0 s ρ w → G0 w0 F0 s ρ w) h.2))
    · refine Ref.seq (B := G3 w0 F0) ?_ ?_
      · refine Ref.region (fun s ρ w s' h hr => ?_)
        obtain ⟨F, hW⟩ := h
        refine ol_v (e_as _ rfl) rfl ?_
        obtain rfl := Option.some.inj hr
        exact ol_nil ⟨F, hW, rfl⟩
      exact Ref.ret (fun s ρ w h => ⟨s, rfl, h⟩)
    · exact Ref.skip
  refine Ref.seq (B := G2 w0 F0) ?_ ?_
  · refine Ref.seq (B := G4 w0 F0) ?_ ?_
    · refine Ref.region (fun s ρ w s' h hr => ?_)
      obtain ⟨F, hW, h0, h1⟩ := h
      refine ol_v (e_as _ rfl) rfl ?_
      obtain rfl := Option.some.inj hr
      exact ol_nil ⟨F, hW, h0, h1, rfl⟩
    refine Ref.block ?_
    refine Ref.loop ?_
    refine Ref.seq (B := G4 w0 F0) ?_ ?_
    · refine Ref.seq (B := G5 w0 F0) ?_ ?_
      · refine Ref.region (fun s ρ w s' h hr => ?_)
        obtain ⟨F, hW, h0, h1, h5⟩ := h
        refine ol_v (e_mv _ h5) rfl ?_
        refine ol_v (e_mv _ rfl) rfl ?_
        obtain ⟨A11, c12, e13, hc14, R15⟩ := id h0
        refine ol_v (e_len (SlT.sl sl_23) e13) rfl ?_
        refine ol_v (e_lss rfl rfl) rfl ?_
        obtain rfl := Option.some.inj hr
        exact ol_nil ⟨F, hW, h0, h1, h5, rfl⟩
      refine Ref.cond (b := fun s => s.t_14) (fun s ρ w ⟨F, hW, h0, h1, h5, h14⟩ => h14) (Ref.pre (A := G4 w0 F0) ?_ (fun s ρ w h => (fun ⟨F, hW, h0, h1, h5, h14⟩ => ⟨F, hW, h0, h1, h5⟩ : G5 w0 F0 s ρ w → G4 w0 F0 s ρ w) h.2)) (Ref.pre (A := G2 w0 F0) ?_ (fun s ρ w h => (fun ⟨F, hW, h0, h1, h5, h14⟩ => ⟨F, hW⟩ : G5 w0 F0 s ρ w → G2 w0 F0 s ρ w) h.2))
      · exact Ref.skip
      · exact Ref.exit (fun s ρ w h => h)
    refine Ref.seq (B := G4 w0 F0) ?_ ?_
    · refine Ref.block ?_
      refine Ref.seq (B := G6 w0 F0) ?_ ?_
      · refine Ref.regionS (by kernel_rfl) (by kernel_rfl) (fun s ρ w ⟨F, hW, h0, h1, h5⟩ => ⟨F, hW.drewS, h0.keep (sd hW), h1.keep (sd hW), h5⟩) (fun s ρ w s' h hr => ?_)
        obtain ⟨F, hW, h0, h1, h5⟩ := h
        refine ol_v (e_mv _ rfl) rfl ?_
        refine ol_v (e_mv _ h5) rfl ?_
        obtain ⟨x16, hx16, hr⟩ := bind_some' hr
        obtain ⟨A17, c18, e19, hc20, R21⟩ := id h0
        obtain ⟨b22, o23, hA24, L25⟩ := Row.at_ R21 hx16
        refine ol_v (e_ix (SlT.sl sl_23) (SlT.sz sl_23) hA24 hx16 e19 rfl) rfl ?_
        refine ol_v (e_ld ty_3 (LiesV.int L25.at_) rfl) rfl ?_
        refine ol_v (e_mv _ rfl) rfl ?_
        refine ol_v (e_mv _ h5) rfl ?_
        obtain ⟨x26, hx26, hr⟩ := bind_some' hr
        obtain ⟨A27, c28, e29, hc30, R31⟩ := id h1
        obtain ⟨b32, o33, hA34, L35⟩ := Row.at_ R31 hx26
        refine ol_v (e_ix (SlT.sl sl_23) (SlT.sz sl_23) hA34 hx26 e29 rfl) rfl ?_
        refine ol_v (e_ld ty_3 (LiesV.int L35.at_) rfl) rfl ?_
        refine ol_v (e_neq rfl rfl) rfl ?_
        obtain rfl := Option.some.inj hr
        exact ol_nil ⟨F, hW, h0, h1, h5, rfl⟩
      refine Ref.cond (b := fun s => s.t_25) (fun s ρ w ⟨F, hW, h0, h1, h5, h25⟩ => h25) (Ref.pre (A := G2 w0 F0) ?_ (fun s ρ w h => (fun ⟨F, hW, h0, h1, h5, h25⟩ => ⟨F, hW⟩ : G6 w0 F0 s ρ w → G2 w0 F0 s ρ w) h.2)) (Ref.pre (A := G4 w0 F0) ?_ (fun s ρ w h => (fun ⟨F, hW, h0, h1, h5, h25⟩ => ⟨F, hW, h0, h1, h5⟩ : G6 w0 F0 s ρ w → G4 w0 F0 s ρ w) h.2))
      · refine Ref.seq (B := G3 w0 F0) ?_ ?_
        · refine Ref.region (fun s ρ w s' h hr => ?_)
          obtain ⟨F, hW⟩ := h
          refine ol_v (e_as _ rfl) rfl ?_
          obtain rfl := Option.some.inj hr
          exact ol_nil ⟨F, hW, rfl⟩
        exact Ref.ret (fun s ρ w h => ⟨s, rfl, h⟩)
      · exact Ref.skip
    refine Ref.region (fun s ρ w s' h hr => ?_)
    obtain ⟨F, hW, h0, h1, h5⟩ := h
    refine ol_v (e_mv _ h5) rfl ?_
    refine ol_v (e_add rfl rfl) rfl ?_
    refine ol_v (e_as _ rfl) rfl ?_
    obtain rfl := Option.some.inj hr
    exact ol_nil ⟨F, hW, h0, h1, rfl⟩
  refine Ref.seq (B := G3 w0 F0) ?_ ?_
  · refine Ref.region (fun s ρ w s' h hr => ?_)
    obtain ⟨F, hW⟩ := h
    refine ol_v (e_as _ rfl) rfl ?_
    obtain rfl := Option.some.inj hr
    exact ol_nil ⟨F, hW, rfl⟩
  exact Ref.ret (fun s ρ w h => ⟨s, rfl, h⟩)
def post (w : World) (F : BSet) (r : R) (v : Value) (w' : World) : Prop := ∃ (F' : BSet), v = .bool r ∧ Wk nrow w F F' w'
theorem calls {w : World} {F : BSet} (hok : ∀ b, F b → b < w.heap.size) {v0 : Value} {a0 : (List Int)} (h0 : SlR (kInt .i64) F w v0 a0) {v1 : Value} {a1 : (List Int)} (h1 : SlR (kInt .i64) F w v1 a1) {r : R} (hf : f a0 a1 = some r) : Calls Try.prog 17 #[v0, v1] w fun e w' => ∃ v, e = .returned v ∧ post w F r v w' := by
  obtain ⟨c, hc, href⟩ := ref w F
  refine calls_of_ref (args := [v0, v1]) _ Try.func17 hc rfl rfl href ?_ (retOf_some hf) ?_
  · exact ⟨F, Wk.refl hok, h0, h1⟩
  · rintro ρ w' a ⟨s, rfl, F', hW, h4⟩ hF
    refine ⟨_, run_results (rs := [.tmp 4]) rfl hF (vs := [ρ 4]) (⟨_, rfl, rfl⟩), ?_⟩
    have hv : resVal [ρ 4] = .bool s.t_4 := by rw [h4]; rfl
    exact ⟨F', hv, hW⟩
end
end ref3_Ints

namespace law4_chain
section
def G0 (w0 : World) (F0 : BSet) (s : S) (ρ : Env) (w : World) : Prop := ∃ (F : BSet), Wk nrow w0 F0 F w ∧ ρ 0 = .int .i64 s.n_0
def G1 (w0 : World) (F0 : BSet) (s : S) (ρ : Env) (w : World) : Prop := ∃ (F : BSet), Wk nrow w0 F0 F w ∧ ρ 0 = .int .i64 s.n_0 ∧ OwnV k_Commit 56 (Bs w0 nrow) F w (ρ 3) s.l_3
def G2 (w0 : World) (F0 : BSet) (s : S) (ρ : Env) (w : World) : Prop := ∃ (F : BSet), Wk nrow w0 F0 F w ∧ ρ 0 = .int .i64 s.n_0 ∧ OwnV k_Commit 56 (Bs w0 nrow) F w (ρ 3) s.l_3 ∧ ρ 4 = .int .i64 s.i_4
def G3 (w0 : World) (F0 : BSet) (s : S) (ρ : Env) (w : World) : Prop := ∃ (F : BSet), Wk nrow w0 F0 F w ∧ ρ 0 = .int .i64 s.n_0 ∧ OwnV k_Commit 56 (Bs w0 nrow) F w (ρ 3) s.l_3 ∧ ρ 4 = .int .i64 s.i_4 ∧ ρ 8 = .bool s.t_8
def G4 (w0 : World) (F0 : BSet) (s : S) (ρ : Env) (w : World) : Prop := ∃ (F : BSet), Wk nrow w0 F0 F w ∧ OwnV k_Commit 56 (Bs w0 nrow) F w (ρ 3) s.l_3
def G5 (w0 : World) (F0 : BSet) (s : S) (ρ : Env) (w : World) : Prop := ∃ (F : BSet), Wk nrow w0 F0 F w ∧ ∃ (g5 : Nat), ρ 0 = .int .i64 s.n_0 ∧ OwnV k_Commit 56 (Bs w0 nrow) F w (ρ 3) s.l_3 ∧ ρ 4 = .int .i64 s.i_4 ∧ ρ 5 = .pointer (some ⟨g5, 0, none⟩) ∧ Box k_Commit 56 (Bs w0 nrow) F w g5 s.c_5 ∧ Apart (ρ 3).ownBlock (some g5)
def G6 (w0 : World) (F0 : BSet) (s : S) (ρ : Env) (w : World) : Prop := ∃ (F : BSet), Wk nrow w0 F0 F w ∧ ∃ (g5 : Nat), ρ 0 = .int .i64 s.n_0 ∧ OwnV k_Commit 56 (Bs w0 nrow) F w (ρ 3) s.l_3 ∧ ρ 4 = .int .i64 s.i_4 ∧ ρ 5 = .pointer (some ⟨g5, 0, none⟩) ∧ Box k_Commit 56 (Bs w0 nrow) F w g5 s.c_5 ∧ ρ 14 = .bool s.t_14 ∧ Apart (ρ 3).ownBlock (some g5)
def G7 (w0 : World) (F0 : BSet) (s : S) (ρ : Env) (w : World) : Prop := ∃ (F : BSet), Wk nrow w0 F0 F w ∧ OwnV k_Commit 56 (Bs w0 nrow) F w (ρ 2) s.t_2
set_option maxHeartbeats 4000000 in
set_option maxRecDepth 20000 in
theorem ref (w0 : World) (F0 : BSet) : ∃ c, Try.f34.body = some c ∧ Ref Try.prog 24 c (G0 w0 F0) body (fun _ _ _ => False) (fun _ _ _ _ => False) (fun r ρ w => ∃ s, retv s = r ∧ G7 w0 F0 s ρ w) := by
  refine ⟨_, rfl, ?_⟩
  unfold body
  refine Ref.seq (B := G0 w0 F0) ?_ ?_
  · refine Ref.region (fun s ρ w s' h hr => ?_)
    obtain ⟨F, hW, h0⟩ := h
    refine ol_v (e_as _ rfl) rfl ?_
    obtain rfl := Option.some.inj hr
    exact ol_nil ⟨F, hW, h0⟩
  refine Ref.seq (B := G1 w0 F0) ?_ ?_
  · refine Ref.region (fun s ρ w s' h hr => ?_)
    obtain ⟨F, hW, h0⟩ := h
    refine ol_v (e_as _ rfl) rfl ?_
    obtain rfl := Option.some.inj hr
    exact ol_nil ⟨F, hW, h0, (OwnV.nil k_Commit 56 (Bs w0 nrow) F w)⟩
  refine Ref.seq (B := G4 w0 F0) ?_ ?_
  · refine Ref.seq (B := G2 w0 F0) ?_ ?_
    · refine Ref.region (fun s ρ w s' h hr => ?_)
      obtain ⟨F, hW, h0, h3⟩ := h
      refine ol_v (e_as _ rfl) rfl ?_
      obtain rfl := Option.some.inj hr
      exact ol_nil ⟨F, hW, h0, h3, rfl⟩
    refine Ref.block ?_
    refine Ref.loop ?_
    refine Ref.seq (B := G2 w0 F0) ?_ ?_
    · refine Ref.seq (B := G3 w0 F0) ?_ ?_
      · refine Ref.region (fun s ρ w s' h hr => ?_)
        obtain ⟨F, hW, h0, h3, h4⟩ := h
        refine ol_v (e_mv _ h4) rfl ?_
        refine ol_v (e_mv _ h0) rfl ?_
        refine ol_v (e_lss rfl rfl) rfl ?_
        obtain rfl := Option.some.inj hr
        exact ol_nil ⟨F, hW, h0, h3, h4, rfl⟩
      refine Ref.cond (b := fun s => s.t_8) (fun s ρ w ⟨F, hW, h0, h3, h4, h8⟩ => h8) (Ref.pre (A := G2 w0 F0) ?_ (fun s ρ w h => (fun ⟨F, hW, h0, h3, h4, h8⟩ => ⟨F, hW, h0, h3, h4⟩ : G3 w0 F0 s ρ w → G2 w0 F0 s ρ w) h.2)) (Ref.pre (A := G4 w0 F0) ?_ (fun s ρ w h => (fun ⟨F, hW, h0, h3, h4, h8⟩ => ⟨F, hW, h3⟩ : G3 w0 F0 s ρ w → G4 w0 F0 s ρ w) h.2))
      · exact Ref.skip
      · exact Ref.exit (fun s ρ w h => h)
    refine Ref.seq (B := G2 w0 F0) ?_ ?_
    · refine Ref.block ?_
      refine Ref.seq (B := G5 w0 F0) ?_ ?_
      · refine Ref.region (fun s ρ w s' h hr => ?_)
        obtain ⟨F, hW, h0, h3, h4⟩ := h
        refine ol_v (e_mv _ h4) rfl ?_
        refine ol_v (e_bld (cells := #[.slice none 0 0, .int .i64 0, .int .i64 s.i_4, .int .i64 0, .string ByteArray.empty]) bld_56 (vs := [(2, .int .i64 s.i_4)]) (lcons (congrArg (Prod.mk 2) rfl) rfl) rfl) rfl ?_
        have hb1 : Val k_Commit F w (.agg #[.slice none 0 0, .int .i64 0, .int .i64 s.i_4, .int .i64 0, .string ByteArray.empty]) (⟨[], (0 : Int), s.i_4, (0 : Int), ByteArray.empty⟩ : Commit) := mk_Commit (val_sl (SlR.nil _ _ _)) (val_int _ _) (val_int _ _) (val_int _ _) (val_str _)
        refine ol_e (f_alloc zer_56 hW) rfl rfl ?_
        rintro _ w3 ⟨g2, rfl, kw1, ho4⟩
        have hW5 := hW.trans kw1
        have st1 := kw1.stp hW.ok
        refine ol_eN (f_stB hW5 (ho4.base (row := nrow) hW.le) (FldS.whole _) ty_56 (hb1.keep st1) rfl rfl) rfl ?_
        rintro - w6 ⟨hW7, ho8, hg2, st2⟩
        obtain rfl := Option.some.inj hr
        exact ol_nil ⟨F, hW7, g2, h0, ((h3.wk kw1 hW.ok).mut (Apart.base (fun _ e_ => by cases e_; exact ho4.ge) h3.ltw) hg2 st2), h4, rfl, ho8, (Apart.base (fun _ e_ => by cases e_; exact ho4.ge) h3.ltw).symm⟩
      refine Ref.seq (B := G5 w0 F0) ?_ ?_
      · refine Ref.seq (B := G6 w0 F0) ?_ ?_
        · refine Ref.region (fun s ρ w s' h hr => ?_)
          obtain ⟨F, hW, g5, h0, h3, h4, p5, h5, a3o_5b⟩ := h
          refine ol_v (e_mv _ h4) rfl ?_
          refine ol_v (e_gtr rfl rfl) rfl ?_
          obtain rfl := Option.some.inj hr
          exact ol_nil ⟨F, hW, g5, h0, h3, h4, p5, h5, rfl, a3o_5b⟩
        refine Ref.cond (b := fun s => s.t_14) (fun s ρ w ⟨F, hW, g5, h0, h3, h4, p5, h5, h14, a3o_5b⟩ => h14) (Ref.pre (A := G5 w0 F0) ?_ (fun s ρ w h => (fun ⟨F, hW, g5, h0, h3, h4, p5, h5, h14, a3o_5b⟩ => ⟨F, hW, g5, h0, h3, h4, p5, h5, a3o_5b⟩ : G6 w0 F0 s ρ w → G5 w0 F0 s ρ w) h.2)) (Ref.pre (A := G5 w0 F0) ?_ (fun s ρ w h => (fun ⟨F, hW, g5, h0, h3, h4, p5, h5, h14, a3o_5b⟩ => ⟨F, hW, g5, h0, h3, h4, p5, h5, a3o_5b⟩ : G6 w0 F0 s ρ w → G5 w0 F0 s ρ w) h.2))
        · refine Ref.region (fun s ρ w s' h hr => ?_)
          obtain ⟨F, hW, g5, h0, h3, h4, p5, h5, a3o_5b⟩ := h
          refine ol_v (e_mv _ h4) rfl ?_
          refine ol_v (e_sub rfl rfl) rfl ?_
          refine ol_e (f_bslF sl_23 hW ([w64 (s.i_4 - (1 : Int))] : List Int) [.int .i64 (w64 (s.i_4 - (1 : Int)))] (by exact ⟨_, _, rfl, (val_int _ _), rfl⟩) rfl (Nat.le_of_ble_eq_true rfl) (lcons (congrArg (Prod.mk 0) rfl) rfl)) rfl rfl ?_
          rintro v9 w10 ⟨Fz12, kw1, ho11⟩
          have hW13 := hW.trans kw1
          have st1 := kw1.stp hW.ok
          refine ol_v (e_fa fa_56_0 p5) rfl ?_
          refine ol_eN (f_stB hW13 (h5.wk kw1 hW.ok) fs_Commit_0 ty_23 (val_sl ho11) rfl rfl) rfl ?_
          rintro - w14 ⟨hW15, ho16, hg2, st2⟩
          obtain rfl := Option.some.inj hr
          exact ol_nil ⟨Fz12, hW15, g5, h0, ((h3.wk kw1 hW.ok).mut a3o_5b.symm hg2 st2), h4, p5, ho16, a3o_5b.symm.symm⟩
        · exact Ref.skip
      refine Ref.region (fun s ρ w s' h hr => ?_)
      obtain ⟨F, hW, g5, h0, h3, h4, p5, h5, a3o_5b⟩ := h
      refine ol_v (e_mv _ rfl) rfl ?_
      obtain ⟨v17, hl18⟩ := LiesAt.v (h5).at_
      refine ol_v (e_ld ty_56 hl18 p5) rfl ?_
      refine ol_e (f_bslF sl_22 hW ([s.c_5] : List Commit) [v17] (by exact ⟨_, _, rfl, hl18.val, rfl⟩) rfl (Nat.le_of_ble_eq_true rfl) (lcons (congrArg (Prod.mk 0) rfl) rfl)) rfl rfl ?_
      rintro v19 w20 ⟨Fz22, kw1, ho21⟩
      have hW23 := hW.trans kw1
      have st1 := kw1.stp hW.ok
      obtain ⟨x24, hx24, hr⟩ := bind_some' hr
      refine ol_e (f_app sl_22 hW23 (h3.wk kw1 hW.ok) ho21 hx24 rfl rfl) rfl rfl ?_
      rintro v25 w26 ⟨hW27, ho28, hg2, st2, hor29⟩
      refine ol_v (e_as _ rfl) rfl ?_
      obtain rfl := Option.some.inj hr
      exact ol_nil ⟨Fz22, hW27, h0, ho28, h4⟩
    refine Ref.region (fun s ρ w s' h hr => ?_)
    obtain ⟨F, hW, h0, h3, h4⟩ := h
    refine ol_v (e_mv _ h4) rfl ?_
    refine ol_v (e_add rfl rfl) rfl ?_
    refine ol_v (e_as _ rfl) rfl ?_
    obtain rfl := Option.some.inj hr
    exact ol_nil ⟨F, hW, h0, h3, rfl⟩
  refine Ref.seq (B := G7 w0 F0) ?_ ?_
  · refine Ref.region (fun s ρ w s' h hr => ?_)
    obtain ⟨F, hW, h3⟩ := h
    refine ol_v (e_mv _ rfl) rfl ?_
    refine ol_v (e_as _ rfl) rfl ?_
    obtain rfl := Option.some.inj hr
    exact ol_nil ⟨F, hW, h3⟩
  exact Ref.ret (fun s ρ w h => ⟨s, rfl, h⟩)
def post (w : World) (F : BSet) (r : R) (v : Value) (w' : World) : Prop := ∃ (F' : BSet) (v0' : Value), v = v0' ∧ Wk nrow w F F' w' ∧ OwnV k_Commit 56 (Nw w) F' w' v0' r
theorem calls {w : World} {F : BSet} (hok : ∀ b, F b → b < w.heap.size) (a0 : Int) {r : R} (hf : f a0 = some r) : Calls Try.prog 34 #[.int .i64 a0] w fun e w' => ∃ v, e = .returned v ∧ post w F r v w' := by
  obtain ⟨c, hc, href⟩ := ref w F
  refine calls_of_ref (args := [.int .i64 a0]) _ Try.func34 hc rfl rfl href ?_ (retOf_some hf) ?_
  · exact ⟨F, Wk.refl hok, rfl⟩
  · rintro ρ w' a ⟨s, rfl, F', hW, h2⟩ hF
    refine ⟨_, run_results (rs := [.tmp 2]) rfl hF (vs := [ρ 2]) (⟨_, rfl, rfl⟩), ?_⟩
    exact ⟨F', ρ 2, rfl, hW, h2.rebase (fun g hg => (h2.lt hg).1.resolve_right (fun h => h))⟩
end
end law4_chain

end Go.Proofs.Ytilodamhgepjoaa
