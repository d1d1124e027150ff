/- The machine's calls come to these plain functions (written by a program, wip/fx/gen.py). -/
import Derived.Test.YtilodamhgepjoaaPA
import Derived.Test.YtilodamhgepjoaaNm
import Derived.Test.YtilodamhgepjoaaM1
import Derived.Test.YtilodamhgepjoaaM2
import Derived.Test.YtilodamhgepjoaaIt
namespace Go.Proofs.Ytilodamhgepjoaa
open Go.Fx Go.RowKit
set_option linter.unusedVariables false

namespace ref4_NegotiateFault
section
def G0 (w0 : World) (F0 : BSet) (s : S) (ρ : Env) (w : World) : Prop := ∃ (F : BSet), Wk nrow w0 F0 F w ∧ SlR k_Commit F w (ρ 0) s.t_0 ∧ SlR kBool F w (ρ 1) s.t_1 ∧ SlR kBool F w (ρ 2) s.t_2 ∧ SlR (kInt .i64) F w (ρ 3) s.t_3
def G1 (w0 : World) (F0 : BSet) (s : S) (ρ : Env) (w : World) : Prop := ∃ (F : BSet), Wk nrow w0 F0 F w ∧ ∃ (g8 : Nat), SlR k_Commit F w (ρ 0) s.t_0 ∧ SlR kBool F w (ρ 1) s.t_1 ∧ SlR kBool F w (ρ 2) s.t_2 ∧ SlR (kInt .i64) F w (ρ 3) s.t_3 ∧ ρ 8 = .pointer (some ⟨g8, 0, none⟩) ∧ Box k_Fault 26 (Bs w0 nrow) F w g8 s.t_8
def G2 (w0 : World) (F0 : BSet) (s : S) (ρ : Env) (w : World) : Prop := ∃ (F : BSet), Wk nrow w0 F0 F w ∧ ∃ (g8 : Nat) (g9 : Nat), SlR k_Commit F w (ρ 0) s.t_0 ∧ SlR kBool F w (ρ 1) s.t_1 ∧ SlR kBool F w (ρ 2) s.t_2 ∧ SlR (kInt .i64) F w (ρ 3) s.t_3 ∧ ρ 8 = .pointer (some ⟨g8, 0, none⟩) ∧ Box k_Fault 26 (Bs w0 nrow) F w g8 s.t_8 ∧ ρ 9 = .pointer (some ⟨g9, 0, none⟩) ∧ Box k_Fault 26 (Bs w0 nrow) F w g9 s.t_9 ∧ Apart (some g8) (some g9)
def G3 (w0 : World) (F0 : BSet) (s : S) (ρ : Env) (w : World) : Prop := ∃ (F : BSet), Wk nrow w0 F0 F w ∧ ∃ (g8 : Nat) (g9 : Nat), SlR k_Commit F w (ρ 0) s.t_0 ∧ SlR kBool F w (ρ 1) s.t_1 ∧ SlR kBool F w (ρ 2) s.t_2 ∧ SlR (kInt .i64) F w (ρ 3) s.t_3 ∧ ρ 8 = .pointer (some ⟨g8, 0, none⟩) ∧ Box k_Fault 26 (Bs w0 nrow) F w g8 s.t_8 ∧ ρ 9 = .pointer (some ⟨g9, 0, none⟩) ∧ Box k_Fault 26 (Bs w0 nrow) F w g9 s.t_9 ∧ ρ 19 = .bool s.t_19 ∧ Apart (some g8) (some g9)
def G4 (w0 : World) (F0 : BSet) (s : S) (ρ : Env) (w : World) : Prop := ∃ (F : BSet), Wk nrow w0 F0 F w ∧ ∃ (g8 : Nat) (g9 : Nat), ρ 8 = .pointer (some ⟨g8, 0, none⟩) ∧ Box k_Fault 26 (Bs w0 nrow) F w g8 s.t_8 ∧ ρ 9 = .pointer (some ⟨g9, 0, none⟩) ∧ Box k_Fault 26 (Bs w0 nrow) F w g9 s.t_9 ∧ Apart (some g8) (some g9)
def G5 (w0 : World) (F0 : BSet) (s : S) (ρ : Env) (w : World) : Prop := ∃ (F : BSet), Wk nrow w0 F0 F w ∧ ∃ (g8 : Nat), ρ 8 = .pointer (some ⟨g8, 0, none⟩) ∧ Box k_Fault 26 (Bs w0 nrow) F w g8 s.t_8
def G6 (w0 : World) (F0 : BSet) (s : S) (ρ : Env) (w : World) : Prop := ∃ (F : BSet), Wk nrow w0 F0 F w ∧ ∃ (g8 : Nat), SlR k_Commit F w (ρ 0) s.t_0 ∧ SlR kBool F w (ρ 1) s.t_1 ∧ SlR kBool F w (ρ 2) s.t_2 ∧ SlR (kInt .i64) F w (ρ 3) s.t_3 ∧ ρ 8 = .pointer (some ⟨g8, 0, none⟩) ∧ Box k_Fault 26 (Bs w0 nrow) F w g8 s.t_8 ∧ ρ 25 = .bool s.t_25
def G7 (w0 : World) (F0 : BSet) (s : S) (ρ : Env) (w : World) : Prop := ∃ (F : BSet), Wk nrow w0 F0 F w ∧ ∃ (g8 : Nat), SlR k_Commit F w (ρ 0) s.t_0 ∧ SlR kBool F w (ρ 1) s.t_1 ∧ SlR kBool F w (ρ 2) s.t_2 ∧ SlR (kInt .i64) F w (ρ 3) s.t_3 ∧ ρ 8 = .pointer (some ⟨g8, 0, none⟩) ∧ Box k_Fault 26 (Bs w0 nrow) F w g8 s.t_8 ∧ ρ 31 = .bool s.t_31
def G8 (w0 : World) (F0 : BSet) (s : S) (ρ : Env) (w : World) : Prop := ∃ (F : BSet), Wk nrow w0 F0 F w ∧ ∃ (g8 : Nat), SlR k_Commit F w (ρ 0) s.t_0 ∧ SlR kBool F w (ρ 1) s.t_1 ∧ SlR kBool F w (ρ 2) s.t_2 ∧ SlR (kInt .i64) F w (ρ 3) s.t_3 ∧ ρ 8 = .pointer (some ⟨g8, 0, none⟩) ∧ Box k_Fault 26 (Bs w0 nrow) F w g8 s.t_8 ∧ ρ 10 = .int .i64 s.t_10
def G9 (w0 : World) (F0 : BSet) (s : S) (ρ : Env) (w : World) : Prop := ∃ (F : BSet), Wk nrow w0 F0 F w ∧ ∃ (g8 : Nat), SlR k_Commit F w (ρ 0) s.t_0 ∧ SlR kBool F w (ρ 1) s.t_1 ∧ SlR kBool F w (ρ 2) s.t_2 ∧ SlR (kInt .i64) F w (ρ 3) s.t_3 ∧ ρ 8 = .pointer (some ⟨g8, 0, none⟩) ∧ Box k_Fault 26 (Bs w0 nrow) F w g8 s.t_8 ∧ ρ 10 = .int .i64 s.t_10 ∧ ρ 36 = .bool s.t_36
def G10 (w0 : World) (F0 : BSet) (s : S) (ρ : Env) (w : World) : Prop := ∃ (F : BSet), Wk nrow w0 F0 F w ∧ ∃ (g8 : Nat), SlR k_Commit F w (ρ 0) s.t_0 ∧ SlR kBool F w (ρ 1) s.t_1 ∧ SlR kBool F w (ρ 2) s.t_2 ∧ SlR (kInt .i64) F w (ρ 3) s.t_3 ∧ ρ 8 = .pointer (some ⟨g8, 0, none⟩) ∧ Box k_Fault 26 (Bs w0 nrow) F w g8 s.t_8 ∧ ρ 10 = .int .i64 s.t_10 ∧ ρ 11 = .int .i64 s.t_11
def G11 (w0 : World) (F0 : BSet) (s : S) (ρ : Env) (w : World) : Prop := ∃ (F : BSet), Wk nrow w0 F0 F w ∧ ∃ (g8 : Nat), SlR k_Commit F w (ρ 0) s.t_0 ∧ SlR kBool F w (ρ 1) s.t_1 ∧ SlR kBool F w (ρ 2) s.t_2 ∧ SlR (kInt .i64) F w (ρ 3) s.t_3 ∧ ρ 8 = .pointer (some ⟨g8, 0, none⟩) ∧ Box k_Fault 26 (Bs w0 nrow) F w g8 s.t_8 ∧ ρ 10 = .int .i64 s.t_10 ∧ ρ 11 = .int .i64 s.t_11 ∧ ρ 52 = .bool s.t_52
def G12 (w0 : World) (F0 : BSet) (s : S) (ρ : Env) (w : World) : Prop := ∃ (F : BSet), Wk nrow w0 F0 F w ∧ ∃ (g8 : Nat), SlR k_Commit F w (ρ 0) s.t_0 ∧ SlR kBool F w (ρ 1) s.t_1 ∧ SlR kBool F w (ρ 2) s.t_2 ∧ SlR (kInt .i64) F w (ρ 3) s.t_3 ∧ ρ 8 = .pointer (some ⟨g8, 0, none⟩) ∧ Box k_Fault 26 (Bs w0 nrow) F w g8 s.t_8 ∧ ρ 10 = .int .i64 s.t_10 ∧ ρ 11 = .int .i64 s.t_11 ∧ ρ 66 = .bool s.t_66
def G13 (w0 : World) (F0 : BSet) (s : S) (ρ : Env) (w : World) : Prop := ∃ (F : BSet), Wk nrow w0 F0 F w ∧ ∃ (g8 : Nat), ρ 8 = .pointer (some ⟨g8, 0, none⟩) ∧ Box k_Fault 26 (Bs w0 nrow) F w g8 s.t_8 ∧ ρ 10 = .int .i64 s.t_10
def G14 (w0 : World) (F0 : BSet) (s : S) (ρ : Env) (w : World) : Prop := ∃ (F : BSet), Wk nrow w0 F0 F w ∧ ∃ (g8 : Nat), SlR k_Commit F w (ρ 0) s.t_0 ∧ SlR kBool F w (ρ 1) s.t_1 ∧ SlR kBool F w (ρ 2) s.t_2 ∧ SlR (kInt .i64) F w (ρ 3) s.t_3 ∧ ρ 8 = .pointer (some ⟨g8, 0, none⟩) ∧ Box k_Fault 26 (Bs w0 nrow) F w g8 s.t_8 ∧ ρ 12 = .int .i64 s.t_12
def G15 (w0 : World) (F0 : BSet) (s : S) (ρ : Env) (w : World) : Prop := ∃ (F : BSet), Wk nrow w0 F0 F w ∧ ∃ (g8 : Nat), SlR k_Commit F w (ρ 0) s.t_0 ∧ SlR kBool F w (ρ 1) s.t_1 ∧ SlR kBool F w (ρ 2) s.t_2 ∧ SlR (kInt .i64) F w (ρ 3) s.t_3 ∧ ρ 8 = .pointer (some ⟨g8, 0, none⟩) ∧ Box k_Fault 26 (Bs w0 nrow) F w g8 s.t_8 ∧ ρ 12 = .int .i64 s.t_12 ∧ ρ 72 = .bool s.t_72
def G16 (w0 : World) (F0 : BSet) (s : S) (ρ : Env) (w : World) : Prop := ∃ (F : BSet), Wk nrow w0 F0 F w ∧ ∃ (g8 : Nat), SlR k_Commit F w (ρ 0) s.t_0 ∧ SlR kBool F w (ρ 1) s.t_1 ∧ SlR (kInt .i64) F w (ρ 3) s.t_3 ∧ ρ 8 = .pointer (some ⟨g8, 0, none⟩) ∧ Box k_Fault 26 (Bs w0 nrow) F w g8 s.t_8
def G17 (w0 : World) (F0 : BSet) (s : S) (ρ : Env) (w : World) : Prop := ∃ (F : BSet), Wk nrow w0 F0 F w ∧ ∃ (g8 : Nat), SlR k_Commit F w (ρ 0) s.t_0 ∧ SlR kBool F w (ρ 1) s.t_1 ∧ SlR kBool F w (ρ 2) s.t_2 ∧ SlR (kInt .i64) F w (ρ 3) s.t_3 ∧ ρ 8 = .pointer (some ⟨g8, 0, none⟩) ∧ Box k_Fault 26 (Bs w0 nrow) F w g8 s.t_8 ∧ ρ 12 = .int .i64 s.t_12 ∧ ρ 13 = .int .i64 s.t_13
def G18 (w0 : World) (F0 : BSet) (s : S) (ρ : Env) (w : World) : Prop := ∃ (F : BSet), Wk nrow w0 F0 F w ∧ ∃ (g8 : Nat), SlR k_Commit F w (ρ 0) s.t_0 ∧ SlR kBool F w (ρ 1) s.t_1 ∧ SlR kBool F w (ρ 2) s.t_2 ∧ SlR (kInt .i64) F w (ρ 3) s.t_3 ∧ ρ 8 = .pointer (some ⟨g8, 0, none⟩) ∧ Box k_Fault 26 (Bs w0 nrow) F w g8 s.t_8 ∧ ρ 12 = .int .i64 s.t_12 ∧ ρ 13 = .int .i64 s.t_13 ∧ ρ 88 = .bool s.t_88
def G19 (w0 : World) (F0 : BSet) (s : S) (ρ : Env) (w : World) : Prop := ∃ (F : BSet), Wk nrow w0 F0 F w ∧ ∃ (g8 : Nat), SlR k_Commit F w (ρ 0) s.t_0 ∧ SlR kBool F w (ρ 1) s.t_1 ∧ SlR kBool F w (ρ 2) s.t_2 ∧ SlR (kInt .i64) F w (ρ 3) s.t_3 ∧ ρ 8 = .pointer (some ⟨g8, 0, none⟩) ∧ Box k_Fault 26 (Bs w0 nrow) F w g8 s.t_8 ∧ ρ 12 = .int .i64 s.t_12 ∧ ρ 13 = .int .i64 s.t_13 ∧ ρ 102 = .bool s.t_102
def G20 (w0 : World) (F0 : BSet) (s : S) (ρ : Env) (w : World) : Prop := ∃ (F : BSet), Wk nrow w0 F0 F w ∧ ∃ (g8 : Nat), ρ 8 = .pointer (some ⟨g8, 0, none⟩) ∧ Box k_Fault 26 (Bs w0 nrow) F w g8 s.t_8 ∧ ρ 12 = .int .i64 s.t_12
def G21 (w0 : World) (F0 : BSet) (s : S) (ρ : Env) (w : World) : Prop := ∃ (F : BSet), Wk nrow w0 F0 F w ∧ ∃ (g8 : Nat), SlR k_Commit F w (ρ 0) s.t_0 ∧ SlR kBool F w (ρ 1) s.t_1 ∧ SlR (kInt .i64) F w (ρ 3) s.t_3 ∧ ρ 8 = .pointer (some ⟨g8, 0, none⟩) ∧ Box k_Fault 26 (Bs w0 nrow) F w g8 s.t_8 ∧ ρ 108 = .bool s.t_108
def G22 (w0 : World) (F0 : BSet) (s : S) (ρ : Env) (w : World) : Prop := ∃ (F : BSet), Wk nrow w0 F0 F w ∧ ∃ (g8 : Nat), SlR k_Commit F w (ρ 0) s.t_0 ∧ SlR kBool F w (ρ 1) s.t_1 ∧ SlR (kInt .i64) F w (ρ 3) s.t_3 ∧ ρ 8 = .pointer (some ⟨g8, 0, none⟩) ∧ Box k_Fault 26 (Bs w0 nrow) F w g8 s.t_8 ∧ ρ 14 = .int .i64 s.t_14
def G23 (w0 : World) (F0 : BSet) (s : S) (ρ : Env) (w : World) : Prop := ∃ (F : BSet), Wk nrow w0 F0 F w ∧ ∃ (g8 : Nat), SlR k_Commit F w (ρ 0) s.t_0 ∧ SlR kBool F w (ρ 1) s.t_1 ∧ SlR (kInt .i64) F w (ρ 3) s.t_3 ∧ ρ 8 = .pointer (some ⟨g8, 0, none⟩) ∧ Box k_Fault 26 (Bs w0 nrow) F w g8 s.t_8 ∧ ρ 14 = .int .i64 s.t_14 ∧ ρ 113 = .bool s.t_113
def G24 (w0 : World) (F0 : BSet) (s : S) (ρ : Env) (w : World) : Prop := ∃ (F : BSet), Wk nrow w0 F0 F w ∧ ∃ (g8 : Nat), SlR k_Commit F w (ρ 0) s.t_0 ∧ SlR kBool F w (ρ 1) s.t_1 ∧ SlR (kInt .i64) F w (ρ 3) s.t_3 ∧ ρ 8 = .pointer (some ⟨g8, 0, none⟩) ∧ Box k_Fault 26 (Bs w0 nrow) F w g8 s.t_8 ∧ ρ 14 = .int .i64 s.t_14 ∧ ρ 134 = .bool s.t_134
def G25 (w0 : World) (F0 : BSet) (s : S) (ρ : Env) (w : World) : Prop := ∃ (F : BSet), Wk nrow w0 F0 F w ∧ ∃ (g8 : Nat), ρ 8 = .pointer (some ⟨g8, 0, none⟩) ∧ Box k_Fault 26 (Bs w0 nrow) F w g8 s.t_8 ∧ ρ 14 = .int .i64 s.t_14
set_option maxHeartbeats 4000000 in
set_option maxRecDepth 20000 in
theorem ref (w0 : World) (F0 : BSet) : ∃ c, Try.f30.body = some c ∧ Ref Try.prog 138 c (G0 w0 F0) body (fun _ _ _ => False) (fun _ _ _ _ => False) (fun r ρ w => ∃ s, retv s = r ∧ G5 w0 F0 s ρ w) := by
  refine ⟨_, rfl, ?_⟩
  unfold body
  refine Ref.seq (B := G1 w0 F0) ?_ ?_
  · refine Ref.region (fun s ρ w s' h hr => ?_)
    obtain ⟨F, hW, h0, h1, h2, h3⟩ := h
    refine ol_e (f_alloc zer_26 hW) rfl rfl ?_
    rintro _ w2 ⟨g1, rfl, kw1, ho3⟩
    have hW4 := hW.trans kw1
    have st1 := kw1.stp hW.ok
    obtain rfl := Option.some.inj hr
    exact ol_nil ⟨F, hW4, g1, (h0.keep st1), (h1.keep st1), (h2.keep st1), (h3.keep st1), rfl, (ho3.base (row := nrow) hW.le)⟩
  refine Ref.seq (B := G1 w0 F0) ?_ ?_
  · refine Ref.seq (B := G2 w0 F0) ?_ ?_
    · refine Ref.region (fun s ρ w s' h hr => ?_)
      obtain ⟨F, hW, g8, h0, h1, h2, h3, p8, h8⟩ := h
      refine ol_v (e_mv _ rfl) rfl ?_
      obtain ⟨x5, hx5, hr⟩ := bind_some' hr
      refine ol_e (f_call [(ρ 0)] fn_14 (lcons rfl rfl) (ref3_HistoryFault.calls hW.ok h0 hx5)) rfl rfl ?_
      rintro v8 w6 ⟨Fz7, _, rfl, kw1, hk9⟩
      have hW11 := hW.trans kw1
      have st1 := kw1.stp hW.ok
      refine ol_e (f_alloc zer_26 hW11) rfl rfl ?_
      rintro _ w13 ⟨g12, rfl, kw2, ho14⟩
      have hW15 := hW11.trans kw2
      have st2 := kw2.stp hW11.ok
      refine ol_eN (f_stB hW15 (ho14.base (row := nrow) hW11.le) (FldS.whole _) ty_26 (hk9.keep st2) rfl rfl) rfl ?_
      rintro - w16 ⟨hW17, ho18, hg3, st3⟩
      obtain rfl := Option.some.inj hr
      exact ol_nil ⟨Fz7, hW17, g8, g12, (h0.keep (st1.trans (st2.trans st3))), (h1.keep (st1.trans (st2.trans st3))), (h2.keep (st1.trans (st2.trans st3))), (h3.keep (st1.trans (st2.trans st3))), p8, (((h8.wk kw1 hW.ok).wk kw2 hW11.ok).mut (Apart.base (fun _ e_ => by cases e_; exact ho14.ge) (h8.wk kw1 hW.ok).ltw) hg3 st3), rfl, ho18, (Apart.base (fun _ e_ => by cases e_; exact ho14.ge) (h8.wk kw1 hW.ok).ltw).symm⟩
    refine Ref.seq (B := G3 w0 F0) ?_ ?_
    · refine Ref.region (fun s ρ w s' h hr => ?_)
      obtain ⟨F, hW, g8, g9, h0, h1, h2, h3, p8, h8, p9, h9, a8b_9b⟩ := h
      refine ol_v (e_fa fa_26_0 p9) rfl ?_
      refine ol_v (e_ld ty_3 (LiesV.int ((h9).at_.fld fl_Fault_0)) rfl) rfl ?_
      refine ol_v (e_neq rfl rfl) rfl ?_
      obtain rfl := Option.some.inj hr
      exact ol_nil ⟨F, hW, g8, g9, h0, h1, h2, h3, p8, h8, p9, h9, rfl, a8b_9b⟩
    refine Ref.cond (b := fun s => s.t_19) (fun s ρ w ⟨F, hW, g8, g9, h0, h1, h2, h3, p8, h8, p9, h9, h19, a8b_9b⟩ => h19) (Ref.pre (A := G4 w0 F0) ?_ (fun s ρ w h => (fun ⟨F, hW, g8, g9, h0, h1, h2, h3, p8, h8, p9, h9, h19, a8b_9b⟩ => ⟨F, hW, g8, g9, p8, h8, p9, h9, a8b_9b⟩ : G3 w0 F0 s ρ w → G4 w0 F0 s ρ w) h.2)) (Ref.pre (A := G1 w0 F0) ?_ (fun s ρ w h => (fun ⟨F, hW, g8, g9, h0, h1, h2, h3, p8, h8, p9, h9, h19, a8b_9b⟩ => ⟨F, hW, g8, h0, h1, h2, h3, p8, h8⟩ : G3 w0 F0 s ρ w → G1 w0 F0 s ρ w) h.2))
    · refine Ref.seq (B := G5 w0 F0) ?_ ?_
      · refine Ref.region (fun s ρ w s' h hr => ?_)
        obtain ⟨F, hW, g8, g9, p8, h8, p9, h9, a8b_9b⟩ := h
        obtain ⟨v19, hl20⟩ := LiesAt.v (h9).at_
        refine ol_v (e_ld ty_26 hl20 p9) rfl ?_
        refine ol_eN (f_stB hW h8 (FldS.whole _) ty_26 hl20.val p8 rfl) rfl ?_
        rintro - w21 ⟨hW22, ho23, hg1, st1⟩
        obtain rfl := Option.some.inj hr
        exact ol_nil ⟨F, hW22, g8, p8, ho23⟩
      exact Ref.ret (fun s ρ w h => ⟨s, rfl, h⟩)
    · exact Ref.skip
  refine Ref.seq (B := G1 w0 F0) ?_ ?_
  · refine Ref.seq (B := G6 w0 F0) ?_ ?_
    · refine Ref.region (fun s ρ w s' h hr => ?_)
      obtain ⟨F, hW, g8, h0, h1, h2, h3, p8, h8⟩ := h
      refine ol_v (e_mv _ rfl) rfl ?_
      obtain ⟨A24, c25, e26, hc27, R28⟩ := id h1
      refine ol_v (e_len (SlT.sl sl_46) e26) rfl ?_
      refine ol_v (e_mv _ rfl) rfl ?_
      obtain ⟨A29, c30, e31, hc32, R33⟩ := id h0
      refine ol_v (e_len (SlT.sl sl_22) e31) rfl ?_
      refine ol_v (e_neq rfl rfl) rfl ?_
      obtain rfl := Option.some.inj hr
      exact ol_nil ⟨F, hW, g8, h0, h1, h2, h3, p8, h8, rfl⟩
    refine Ref.cond (b := fun s => s.t_25) (fun s ρ w ⟨F, hW, g8, h0, h1, h2, h3, p8, h8, h25⟩ => h25) (Ref.pre (A := G5 w0 F0) ?_ (fun s ρ w h => (fun ⟨F, hW, g8, h0, h1, h2, h3, p8, h8, h25⟩ => ⟨F, hW, g8, p8, h8⟩ : G6 w0 F0 s ρ w → G5 w0 F0 s ρ w) h.2)) (Ref.pre (A := G1 w0 F0) ?_ (fun s ρ w h => (fun ⟨F, hW, g8, h0, h1, h2, h3, p8, h8, h25⟩ => ⟨F, hW, g8, h0, h1, h2, h3, p8, h8⟩ : G6 w0 F0 s ρ w → G1 w0 F0 s ρ w) h.2))
    · refine Ref.seq (B := G5 w0 F0) ?_ ?_
      · refine Ref.region (fun s ρ w s' h hr => ?_)
        obtain ⟨F, hW, g8, p8, h8⟩ := h
        obtain ⟨x34, hx34, hr⟩ := bind_some' hr
        refine ol_e (f_call [.int .i64 (9 : Int), .int .i64 (-1 : Int)] fn_15 (lcons rfl (lcons rfl rfl)) (ref3_Fault.calls hW.ok (9 : Int) (-1 : Int) hx34)) rfl rfl ?_
        rintro v37 w35 ⟨Fz36, _, rfl, kw1, hk38⟩
        have hW40 := hW.trans kw1
        have st1 := kw1.stp hW.ok
        refine ol_eN (f_stB hW40 (h8.wk kw1 hW.ok) (FldS.whole _) ty_26 hk38 p8 rfl) rfl ?_
        rintro - w41 ⟨hW42, ho43, hg2, st2⟩
        obtain rfl := Option.some.inj hr
        exact ol_nil ⟨Fz36, hW42, g8, p8, ho43⟩
      exact Ref.ret (fun s ρ w h => ⟨s, rfl, h⟩)
    · exact Ref.skip
  refine Ref.seq (B := G1 w0 F0) ?_ ?_
  · refine Ref.seq (B := G7 w0 F0) ?_ ?_
    · refine Ref.region (fun s ρ w s' h hr => ?_)
      obtain ⟨F, hW, g8, h0, h1, h2, h3, p8, h8⟩ := h
      refine ol_v (e_mv _ rfl) rfl ?_
      obtain ⟨A44, c45, e46, hc47, R48⟩ := id h2
      refine ol_v (e_len (SlT.sl sl_46) e46) rfl ?_
      refine ol_v (e_mv _ rfl) rfl ?_
      obtain ⟨A49, c50, e51, hc52, R53⟩ := id h0
      refine ol_v (e_len (SlT.sl sl_22) e51) rfl ?_
      refine ol_v (e_neq rfl rfl) rfl ?_
      obtain rfl := Option.some.inj hr
      exact ol_nil ⟨F, hW, g8, h0, h1, h2, h3, p8, h8, rfl⟩
    refine Ref.cond (b := fun s => s.t_31) (fun s ρ w ⟨F, hW, g8, h0, h1, h2, h3, p8, h8, h31⟩ => h31) (Ref.pre (A := G5 w0 F0) ?_ (fun s ρ w h => (fun ⟨F, hW, g8, h0, h1, h2, h3, p8, h8, h31⟩ => ⟨F, hW, g8, p8, h8⟩ : G7 w0 F0 s ρ w → G5 w0 F0 s ρ w) h.2)) (Ref.pre (A := G1 w0 F0) ?_ (fun s ρ w h => (fun ⟨F, hW, g8, h0, h1, h2, h3, p8, h8, h31⟩ => ⟨F, hW, g8, h0, h1, h2, h3, p8, h8⟩ : G7 w0 F0 s ρ w → G1 w0 F0 s ρ w) h.2))
    · refine Ref.seq (B := G5 w0 F0) ?_ ?_
      · refine Ref.region (fun s ρ w s' h hr => ?_)
        obtain ⟨F, hW, g8, p8, h8⟩ := h
        obtain ⟨x54, hx54, hr⟩ := bind_some' hr
        refine ol_e (f_call [.int .i64 (9 : Int), .int .i64 (-2 : Int)] fn_15 (lcons rfl (lcons rfl rfl)) (ref3_Fault.calls hW.ok (9 : Int) (-2 : Int) hx54)) rfl rfl ?_
        rintro v57 w55 ⟨Fz56, _, rfl, kw1, hk58⟩
        have hW60 := hW.trans kw1
        have st1 := kw1.stp hW.ok
        refine ol_eN (f_stB hW60 (h8.wk kw1 hW.ok) (FldS.whole _) ty_26 hk58 p8 rfl) rfl ?_
        rintro - w61 ⟨hW62, ho63, hg2, st2⟩
        obtain rfl := Option.some.inj hr
        exact ol_nil ⟨Fz56, hW62, g8, p8, ho63⟩
      exact Ref.ret (fun s ρ w h => ⟨s, rfl, h⟩)
    · exact Ref.skip
  refine Ref.seq (B := G1 w0 F0) ?_ ?_
  · refine Ref.seq (B := G8 w0 F0) ?_ ?_
    · refine Ref.region (fun s ρ w s' h hr => ?_)
      obtain ⟨F, hW, g8, h0, h1, h2, h3, p8, h8⟩ := h
      refine ol_v (e_as _ rfl) rfl ?_
      obtain rfl := Option.some.inj hr
      exact ol_nil ⟨F, hW, g8, h0, h1, h2, h3, p8, h8, rfl⟩
    refine Ref.block ?_
    refine Ref.loop ?_
    refine Ref.seq (B := G8 w0 F0) ?_ ?_
    · refine Ref.seq (B := G9 w0 F0) ?_ ?_
      · refine Ref.region (fun s ρ w s' h hr => ?_)
        obtain ⟨F, hW, g8, h0, h1, h2, h3, p8, h8, h10⟩ := h
        refine ol_v (e_mv _ h10) rfl ?_
        refine ol_v (e_mv _ rfl) rfl ?_
        obtain ⟨A64, c65, e66, hc67, R68⟩ := id h0
        refine ol_v (e_len (SlT.sl sl_22) e66) rfl ?_
        refine ol_v (e_lss rfl rfl) rfl ?_
        obtain rfl := Option.some.inj hr
        exact ol_nil ⟨F, hW, g8, h0, h1, h2, h3, p8, h8, h10, rfl⟩
      refine Ref.cond (b := fun s => s.t_36) (fun s ρ w ⟨F, hW, g8, h0, h1, h2, h3, p8, h8, h10, h36⟩ => h36) (Ref.pre (A := G8 w0 F0) ?_ (fun s ρ w h => (fun ⟨F, hW, g8, h0, h1, h2, h3, p8, h8, h10, h36⟩ => ⟨F, hW, g8, h0, h1, h2, h3, p8, h8, h10⟩ : G9 w0 F0 s ρ w → G8 w0 F0 s ρ w) h.2)) (Ref.pre (A := G1 w0 F0) ?_ (fun s ρ w h => (fun ⟨F, hW, g8, h0, h1, h2, h3, p8, h8, h10, h36⟩ => ⟨F, hW, g8, h0, h1, h2, h3, p8, h8⟩ : G9 w0 F0 s ρ w → G1 w0 F0 s ρ w) h.2))
      · exact Ref.skip
      · exact Ref.exit (fun s ρ w h => h)
    refine Ref.seq (B := G8 w0 F0) ?_ ?_
    · refine Ref.block ?_
      refine Ref.seq (B := G10 w0 F0) ?_ ?_
      · refine Ref.region (fun s ρ w s' h hr => ?_)
        obtain ⟨F, hW, g8, h0, h1, h2, h3, p8, h8, h10⟩ := h
        refine ol_v (e_as _ rfl) rfl ?_
        obtain rfl := Option.some.inj hr
        exact ol_nil ⟨F, hW, g8, h0, h1, h2, h3, p8, h8, h10, rfl⟩
      refine Ref.block ?_
      refine Ref.loop ?_
      refine Ref.seq (B := G10 w0 F0) ?_ ?_
      · refine Ref.seq (B := G11 w0 F0) ?_ ?_
        · refine Ref.region (fun s ρ w s' h hr => ?_)
          obtain ⟨F, hW, g8, h0, h1, h2, h3, p8, h8, h10, h11⟩ := h
          refine ol_v (e_mv _ h11) rfl ?_
          refine ol_v (e_mv _ rfl) rfl ?_
          refine ol_v (e_mv _ h10) rfl ?_
          obtain ⟨x69, hx69, hr⟩ := bind_some' hr
          obtain ⟨A70, c71, e72, hc73, R74⟩ := id h0
          obtain ⟨b75, o76, hA77, L78⟩ := Row.at_ R74 hx69
          refine ol_v (e_ix (SlT.sl sl_22) (SlT.sz sl_22) hA77 hx69 e72 rfl) rfl ?_
          refine ol_v (e_fa fa_56_0 rfl) rfl ?_
          obtain ⟨v79, hl80, hs81⟩ := LiesV.sl (L78.fld fl_Commit_0).at_
          refine ol_v (e_ld ty_23 hl80 rfl) rfl ?_
          obtain ⟨A82, c83, e84, hc85, R86⟩ := id hs81
          refine ol_v (e_len (SlT.sl sl_23) e84) rfl ?_
          refine ol_v (e_lss rfl rfl) rfl ?_
          obtain ⟨x99, hx100, hr⟩ := bind_some' hr
          refine ol_cutA 6 47 52 (fun ρ' w' => w = w' ∧ ρ' 52 = .bool x99) rfl ?_ ?_
          · by_cases hb87 : (decide (s.t_11 < (x69.Parents.length : Int))) = true
            · have hr := hx100
              rw [if_pos hb87] at hr
              refine ol_v (e_mv _ rfl) rfl ?_
              refine ol_yes rfl rfl (congrArg Value.bool hb87) ?_
              refine ol_v (e_mv _ rfl) rfl ?_
              refine ol_yes rfl rfl (congrArg Value.bool hb87) ?_
              refine ol_v (e_mv _ h10) rfl ?_
              refine ol_yes rfl rfl (congrArg Value.bool hb87) ?_
              obtain ⟨x89, hx89, hr⟩ := bind_some' hr
              obtain ⟨A90, c91, e92, hc93, R94⟩ := id h1
              obtain ⟨b95, o96, hA97, L98⟩ := Row.at_ R94 hx89
              refine ol_v (e_ix (SlT.sl sl_46) (SlT.sz sl_46) hA97 hx89 e92 rfl) rfl ?_
              refine ol_yes rfl rfl (congrArg Value.bool hb87) ?_
              refine ol_v (e_ld ty_4 (LiesV.bool L98.at_) rfl) rfl ?_
              refine ol_v (e_pick true _ (congrArg Value.bool hb87) rfl) rfl ?_
              exact ol_nil ⟨⟨rfl, (congrArg Value.bool (Option.some.inj hr))⟩, (((((((Agr.refl _ _ _).upd rfl rfl).upd rfl rfl).upd rfl rfl).upd rfl rfl).upd rfl rfl).upd rfl rfl)⟩
            · have hb88 := Bool.eq_false_iff.mpr hb87
              have hr := hx100
              rw [if_neg hb87] at hr
              refine ol_v (e_mv _ rfl) rfl ?_
              refine ol_not rfl rfl rfl (congrArg Value.bool hb88) rfl ?_
              refine ol_not rfl rfl rfl (congrArg Value.bool hb88) rfl ?_
              refine ol_not rfl rfl rfl (congrArg Value.bool hb88) rfl ?_
              refine ol_not rfl rfl rfl (congrArg Value.bool hb88) rfl ?_
              refine ol_v (e_pick false _ (congrArg Value.bool hb88) rfl) rfl ?_
              exact ol_nil ⟨⟨rfl, (congrArg Value.bool (Option.some.inj hr))⟩, (((((((Agr.refl _ _ _).upd rfl rfl).upd rfl rfl).upd rfl rfl).upd rfl rfl).upd rfl rfl).upd rfl rfl)⟩
          rintro ρ100 _ ⟨⟨rfl, hp100⟩, hAg100⟩
          obtain rfl := Option.some.inj hr
          exact ol_nil ⟨F, hW, g8, (SlR.eqv (hAg100 0 rfl) h0), (SlR.eqv (hAg100 1 rfl) h1), (SlR.eqv (hAg100 2 rfl) h2), (SlR.eqv (hAg100 3 rfl) h3), ((hAg100 8 rfl).trans p8), h8, ((hAg100 10 rfl).trans h10), ((hAg100 11 rfl).trans h11), hp100⟩
        refine Ref.cond (b := fun s => s.t_52) (fun s ρ w ⟨F, hW, g8, h0, h1, h2, h3, p8, h8, h10, h11, h52⟩ => h52) (Ref.pre (A := G10 w0 F0) ?_ (fun s ρ w h => (fun ⟨F, hW, g8, h0, h1, h2, h3, p8, h8, h10, h11, h52⟩ => ⟨F, hW, g8, h0, h1, h2, h3, p8, h8, h10, h11⟩ : G11 w0 F0 s ρ w → G10 w0 F0 s ρ w) h.2)) (Ref.pre (A := G8 w0 F0) ?_ (fun s ρ w h => (fun ⟨F, hW, g8, h0, h1, h2, h3, p8, h8, h10, h11, h52⟩ => ⟨F, hW, g8, h0, h1, h2, h3, p8, h8, h10⟩ : G11 w0 F0 s ρ w → G8 w0 F0 s ρ w) h.2))
        · exact Ref.skip
        · exact Ref.exit (fun s ρ w h => h)
      refine Ref.seq (B := G10 w0 F0) ?_ ?_
      · refine Ref.block ?_
        refine Ref.seq (B := G12 w0 F0) ?_ ?_
        · refine Ref.region (fun s ρ w s' h hr => ?_)
          obtain ⟨F, hW, g8, h0, h1, h2, h3, p8, h8, h10, h11⟩ := h
          refine ol_v (e_mv _ rfl) rfl ?_
          refine ol_v (e_mv _ rfl) rfl ?_
          refine ol_v (e_mv _ h10) rfl ?_
          obtain ⟨x101, hx101, hr⟩ := bind_some' hr
          obtain ⟨A102, c103, e104, hc105, R106⟩ := id h0
          obtain ⟨b107, o108, hA109, L110⟩ := Row.at_ R106 hx101
          refine ol_v (e_ix (SlT.sl sl_22) (SlT.sz sl_22) hA109 hx101 e104 rfl) rfl ?_
          refine ol_v (e_fa fa_56_0 rfl) rfl ?_
          obtain ⟨v111, hl112, hs113⟩ := LiesV.sl (L110.fld fl_Commit_0).at_
          refine ol_v (e_ld ty_23 hl112 rfl) rfl ?_
          refine ol_v (e_mv _ h11) rfl ?_
          obtain ⟨x114, hx114, hr⟩ := bind_some' hr
          obtain ⟨A115, c116, e117, hc118, R119⟩ := id hs113
          obtain ⟨b120, o121, hA122, L123⟩ := Row.at_ R119 hx114
          refine ol_v (e_ix (SlT.sl sl_23) (SlT.sz sl_23) hA122 hx114 e117 rfl) rfl ?_
          refine ol_v (e_ld ty_3 (LiesV.int L123.at_) rfl) rfl ?_
          obtain ⟨x124, hx124, hr⟩ := bind_some' hr
          obtain ⟨A125, c126, e127, hc128, R129⟩ := id h1
          obtain ⟨b130, o131, hA132, L133⟩ := Row.at_ R129 hx124
          refine ol_v (e_ix (SlT.sl sl_46) (SlT.sz sl_46) hA132 hx124 e127 rfl) rfl ?_
          refine ol_v (e_ld ty_4 (LiesV.bool L133.at_) rfl) rfl ?_
          refine ol_v (e_not_ rfl) rfl ?_
          obtain rfl := Option.some.inj hr
          exact ol_nil ⟨F, hW, g8, h0, h1, h2, h3, p8, h8, h10, h11, rfl⟩
        refine Ref.cond (b := fun s => s.t_66) (fun s ρ w ⟨F, hW, g8, h0, h1, h2, h3, p8, h8, h10, h11, h66⟩ => h66) (Ref.pre (A := G13 w0 F0) ?_ (fun s ρ w h => (fun ⟨F, hW, g8, h0, h1, h2, h3, p8, h8, h10, h11, h66⟩ => ⟨F, hW, g8, p8, h8, h10⟩ : G12 w0 F0 s ρ w → G13 w0 F0 s ρ w) h.2)) (Ref.pre (A := G10 w0 F0) ?_ (fun s ρ w h => (fun ⟨F, hW, g8, h0, h1, h2, h3, p8, h8, h10, h11, h66⟩ => ⟨F, hW, g8, h0, h1, h2, h3, p8, h8, h10, h11⟩ : G12 w0 F0 s ρ w → G10 w0 F0 s ρ w) h.2))
        · refine Ref.seq (B := G5 w0 F0) ?_ ?_
          · refine Ref.region (fun s ρ w s' h hr => ?_)
            obtain ⟨F, hW, g8, p8, h8, h10⟩ := h
            refine ol_v (e_mv _ h10) rfl ?_
            obtain ⟨x134, hx134, hr⟩ := bind_some' hr
            refine ol_e (f_call [.int .i64 (5 : Int), .int .i64 s.t_10] fn_15 (lcons rfl (lcons rfl rfl)) (ref3_Fault.calls hW.ok (5 : Int) s.t_10 hx134)) rfl rfl ?_
            rintro v137 w135 ⟨Fz136, _, rfl, kw1, hk138⟩
            have hW140 := hW.trans kw1
            have st1 := kw1.stp hW.ok
            refine ol_eN (f_stB hW140 (h8.wk kw1 hW.ok) (FldS.whole _) ty_26 hk138 p8 rfl) rfl ?_
            rintro - w141 ⟨hW142, ho143, hg2, st2⟩
            obtain rfl := Option.some.inj hr
            exact ol_nil ⟨Fz136, hW142, g8, p8, ho143⟩
          exact Ref.ret (fun s ρ w h => ⟨s, rfl, h⟩)
        · exact Ref.skip
      refine Ref.region (fun s ρ w s' h hr => ?_)
      obtain ⟨F, hW, g8, h0, h1, h2, h3, p8, h8, h10, h11⟩ := h
      refine ol_v (e_mv _ h11) rfl ?_
      refine ol_v (e_add rfl rfl) rfl ?_
      refine ol_v (e_as _ rfl) rfl ?_
      obtain rfl := Option.some.inj hr
      exact ol_nil ⟨F, hW, g8, h0, h1, h2, h3, p8, h8, h10, rfl⟩
    refine Ref.region (fun s ρ w s' h hr => ?_)
    obtain ⟨F, hW, g8, h0, h1, h2, h3, p8, h8, h10⟩ := h
    refine ol_v (e_mv _ h10) rfl ?_
    refine ol_v (e_add rfl rfl) rfl ?_
    refine ol_v (e_as _ rfl) rfl ?_
    obtain rfl := Option.some.inj hr
    exact ol_nil ⟨F, hW, g8, h0, h1, h2, h3, p8, h8, rfl⟩
  refine Ref.seq (B := G16 w0 F0) ?_ ?_
  · refine Ref.seq (B := G14 w0 F0) ?_ ?_
    · refine Ref.region (fun s ρ w s' h hr => ?_)
      obtain ⟨F, hW, g8, h0, h1, h2, h3, p8, h8⟩ := h
      refine ol_v (e_as _ rfl) rfl ?_
      obtain rfl := Option.some.inj hr
      exact ol_nil ⟨F, hW, g8, h0, h1, h2, h3, p8, h8, rfl⟩
    refine Ref.block ?_
    refine Ref.loop ?_
    refine Ref.seq (B := G14 w0 F0) ?_ ?_
    · refine Ref.seq (B := G15 w0 F0) ?_ ?_
      · refine Ref.region (fun s ρ w s' h hr => ?_)
        obtain ⟨F, hW, g8, h0, h1, h2, h3, p8, h8, h12⟩ := h
        refine ol_v (e_mv _ h12) rfl ?_
        refine ol_v (e_mv _ rfl) rfl ?_
        obtain ⟨A144, c145, e146, hc147, R148⟩ := id h0
        refine ol_v (e_len (SlT.sl sl_22) e146) rfl ?_
        refine ol_v (e_lss rfl rfl) rfl ?_
        obtain rfl := Option.some.inj hr
        exact ol_nil ⟨F, hW, g8, h0, h1, h2, h3, p8, h8, h12, rfl⟩
      refine Ref.cond (b := fun s => s.t_72) (fun s ρ w ⟨F, hW, g8, h0, h1, h2, h3, p8, h8, h12, h72⟩ => h72) (Ref.pre (A := G14 w0 F0) ?_ (fun s ρ w h => (fun ⟨F, hW, g8, h0, h1, h2, h3, p8, h8, h12, h72⟩ => ⟨F, hW, g8, h0, h1, h2, h3, p8, h8, h12⟩ : G15 w0 F0 s ρ w → G14 w0 F0 s ρ w) h.2)) (Ref.pre (A := G16 w0 F0) ?_ (fun s ρ w h => (fun ⟨F, hW, g8, h0, h1, h2, h3, p8, h8, h12, h72⟩ => ⟨F, hW, g8, h0, h1, h3, p8, h8⟩ : G15 w0 F0 s ρ w → G16 w0 F0 s ρ w) h.2))
      · exact Ref.skip
      · exact Ref.exit (fun s ρ w h => h)
    refine Ref.seq (B := G14 w0 F0) ?_ ?_
    · refine Ref.block ?_
      refine Ref.seq (B := G17 w0 F0) ?_ ?_
      · refine Ref.region (fun s ρ w s' h hr => ?_)
        obtain ⟨F, hW, g8, h0, h1, h2, h3, p8, h8, h12⟩ := h
        refine ol_v (e_as _ rfl) rfl ?_
        obtain rfl := Option.some.inj hr
        exact ol_nil ⟨F, hW, g8, h0, h1, h2, h3, p8, h8, h12, rfl⟩
      refine Ref.block ?_
      refine Ref.loop ?_
      refine Ref.seq (B := G17 w0 F0) ?_ ?_
      · refine Ref.seq (B := G18 w0 F0) ?_ ?_
        · refine Ref.region (fun s ρ w s' h hr => ?_)
          obtain ⟨F, hW, g8, h0, h1, h2, h3, p8, h8, h12, h13⟩ := h
          refine ol_v (e_mv _ h13) rfl ?_
          refine ol_v (e_mv _ rfl) rfl ?_
          refine ol_v (e_mv _ h12) rfl ?_
          obtain ⟨x149, hx149, hr⟩ := bind_some' hr
          obtain ⟨A150, c151, e152, hc153, R154⟩ := id h0
          obtain ⟨b155, o156, hA157, L158⟩ := Row.at_ R154 hx149
          refine ol_v (e_ix (SlT.sl sl_22) (SlT.sz sl_22) hA157 hx149 e152 rfl) rfl ?_
          refine ol_v (e_fa fa_56_0 rfl) rfl ?_
          obtain ⟨v159, hl160, hs161⟩ := LiesV.sl (L158.fld fl_Commit_0).at_
          refine ol_v (e_ld ty_23 hl160 rfl) rfl ?_
          obtain ⟨A162, c163, e164, hc165, R166⟩ := id hs161
          refine ol_v (e_len (SlT.sl sl_23) e164) rfl ?_
          refine ol_v (e_lss rfl rfl) rfl ?_
          obtain ⟨x179, hx180, hr⟩ := bind_some' hr
          refine ol_cutA 6 83 88 (fun ρ' w' => w = w' ∧ ρ' 88 = .bool x179) rfl ?_ ?_
          · by_cases hb167 : (decide (s.t_13 < (x149.Parents.length : Int))) = true
            · have hr := hx180
              rw [if_pos hb167] at hr
              refine ol_v (e_mv _ rfl) rfl ?_
              refine ol_yes rfl rfl (congrArg Value.bool hb167) ?_
              refine ol_v (e_mv _ rfl) rfl ?_
              refine ol_yes rfl rfl (congrArg Value.bool hb167) ?_
              refine ol_v (e_mv _ h12) rfl ?_
              refine ol_yes rfl rfl (congrArg Value.bool hb167) ?_
              obtain ⟨x169, hx169, hr⟩ := bind_some' hr
              obtain ⟨A170, c171, e172, hc173, R174⟩ := id h2
              obtain ⟨b175, o176, hA177, L178⟩ := Row.at_ R174 hx169
              refine ol_v (e_ix (SlT.sl sl_46) (SlT.sz sl_46) hA177 hx169 e172 rfl) rfl ?_
              refine ol_yes rfl rfl (congrArg Value.bool hb167) ?_
              refine ol_v (e_ld ty_4 (LiesV.bool L178.at_) rfl) rfl ?_
              refine ol_v (e_pick true _ (congrArg Value.bool hb167) rfl) rfl ?_
              exact ol_nil ⟨⟨rfl, (congrArg Value.bool (Option.some.inj hr))⟩, (((((((Agr.refl _ _ _).upd rfl rfl).upd rfl rfl).upd rfl rfl).upd rfl rfl).upd rfl rfl).upd rfl rfl)⟩
            · have hb168 := Bool.eq_false_iff.mpr hb167
              have hr := hx180
              rw [if_neg hb167] at hr
              refine ol_v (e_mv _ rfl) rfl ?_
              refine ol_not rfl rfl rfl (congrArg Value.bool hb168) rfl ?_
              refine ol_not rfl rfl rfl (congrArg Value.bool hb168) rfl ?_
              refine ol_not rfl rfl rfl (congrArg Value.bool hb168) rfl ?_
              refine ol_not rfl rfl rfl (congrArg Value.bool hb168) rfl ?_
              refine ol_v (e_pick false _ (congrArg Value.bool hb168) rfl) rfl ?_
              exact ol_nil ⟨⟨rfl, (congrArg Value.bool (Option.some.inj hr))⟩, (((((((Agr.refl _ _ _).upd rfl rfl).upd rfl rfl).upd rfl rfl).upd rfl rfl).upd rfl rfl).upd rfl rfl)⟩
          rintro ρ180 _ ⟨⟨rfl, hp180⟩, hAg180⟩
          obtain rfl := Option.some.inj hr
          exact ol_nil ⟨F, hW, g8, (SlR.eqv (hAg180 0 rfl) h0), (SlR.eqv (hAg180 1 rfl) h1), (SlR.eqv (hAg180 2 rfl) h2), (SlR.eqv (hAg180 3 rfl) h3), ((hAg180 8 rfl).trans p8), h8, ((hAg180 12 rfl).trans h12), ((hAg180 13 rfl).trans h13), hp180⟩
        refine Ref.cond (b := fun s => s.t_88) (fun s ρ w ⟨F, hW, g8, h0, h1, h2, h3, p8, h8, h12, h13, h88⟩ => h88) (Ref.pre (A := G17 w0 F0) ?_ (fun s ρ w h => (fun ⟨F, hW, g8, h0, h1, h2, h3, p8, h8, h12, h13, h88⟩ => ⟨F, hW, g8, h0, h1, h2, h3, p8, h8, h12, h13⟩ : G18 w0 F0 s ρ w → G17 w0 F0 s ρ w) h.2)) (Ref.pre (A := G14 w0 F0) ?_ (fun s ρ w h => (fun ⟨F, hW, g8, h0, h1, h2, h3, p8, h8, h12, h13, h88⟩ => ⟨F, hW, g8, h0, h1, h2, h3, p8, h8, h12⟩ : G18 w0 F0 s ρ w → G14 w0 F0 s ρ w) h.2))
        · exact Ref.skip
        · exact Ref.exit (fun s ρ w h => h)
      refine Ref.seq (B := G17 w0 F0) ?_ ?_
      · refine Ref.block ?_
        refine Ref.seq (B := G19 w0 F0) ?_ ?_
        · refine Ref.region (fun s ρ w s' h hr => ?_)
          obtain ⟨F, hW, g8, h0, h1, h2, h3, p8, h8, h12, h13⟩ := h
          refine ol_v (e_mv _ rfl) rfl ?_
          refine ol_v (e_mv _ rfl) rfl ?_
          refine ol_v (e_mv _ h12) rfl ?_
          obtain ⟨x181, hx181, hr⟩ := bind_some' hr
          obtain ⟨A182, c183, e184, hc185, R186⟩ := id h0
          obtain ⟨b187, o188, hA189, L190⟩ := Row.at_ R186 hx181
          refine ol_v (e_ix (SlT.sl sl_22) (SlT.sz sl_22) hA189 hx181 e184 rfl) rfl ?_
          refine ol_v (e_fa fa_56_0 rfl) rfl ?_
          obtain ⟨v191, hl192, hs193⟩ := LiesV.sl (L190.fld fl_Commit_0).at_
          refine ol_v (e_ld ty_23 hl192 rfl) rfl ?_
          refine ol_v (e_mv _ h13) rfl ?_
          obtain ⟨x194, hx194, hr⟩ := bind_some' hr
          obtain ⟨A195, c196, e197, hc198, R199⟩ := id hs193
          obtain ⟨b200, o201, hA202, L203⟩ := Row.at_ R199 hx194
          refine ol_v (e_ix (SlT.sl sl_23) (SlT.sz sl_23) hA202 hx194 e197 rfl) rfl ?_
          refine ol_v (e_ld ty_3 (LiesV.int L203.at_) rfl) rfl ?_
          obtain ⟨x204, hx204, hr⟩ := bind_some' hr
          obtain ⟨A205, c206, e207, hc208, R209⟩ := id h2
          obtain ⟨b210, o211, hA212, L213⟩ := Row.at_ R209 hx204
          refine ol_v (e_ix (SlT.sl sl_46) (SlT.sz sl_46) hA212 hx204 e207 rfl) rfl ?_
          refine ol_v (e_ld ty_4 (LiesV.bool L213.at_) rfl) rfl ?_
          refine ol_v (e_not_ rfl) rfl ?_
          obtain rfl := Option.some.inj hr
          exact ol_nil ⟨F, hW, g8, h0, h1, h2, h3, p8, h8, h12, h13, rfl⟩
        refine Ref.cond (b := fun s => s.t_102) (fun s ρ w ⟨F, hW, g8, h0, h1, h2, h3, p8, h8, h12, h13, h102⟩ => h102) (Ref.pre (A := G20 w0 F0) ?_ (fun s ρ w h => (fun ⟨F, hW, g8, h0, h1, h2, h3, p8, h8, h12, h13, h102⟩ => ⟨F, hW, g8, p8, h8, h12⟩ : G19 w0 F0 s ρ w → G20 w0 F0 s ρ w) h.2)) (Ref.pre (A := G17 w0 F0) ?_ (fun s ρ w h => (fun ⟨F, hW, g8, h0, h1, h2, h3, p8, h8, h12, h13, h102⟩ => ⟨F, hW, g8, h0, h1, h2, h3, p8, h8, h12, h13⟩ : G19 w0 F0 s ρ w → G17 w0 F0 s ρ w) h.2))
        · refine Ref.seq (B := G5 w0 F0) ?_ ?_
          · refine Ref.region (fun s ρ w s' h hr => ?_)
            obtain ⟨F, hW, g8, p8, h8, h12⟩ := h
            refine ol_v (e_mv _ h12) rfl ?_
            refine ol_v (e_sub rfl rfl) rfl ?_
            obtain ⟨x214, hx214, hr⟩ := bind_some' hr
            refine ol_e (f_call [.int .i64 (5 : Int), .int .i64 (w64 ((-3 : Int) - s.t_12))] fn_15 (lcons rfl (lcons rfl rfl)) (ref3_Fault.calls hW.ok (5 : Int) (w64 ((-3 : Int) - s.t_12)) hx214)) rfl rfl ?_
            rintro v217 w215 ⟨Fz216, _, rfl, kw1, hk218⟩
            have hW220 := hW.trans kw1
            have st1 := kw1.stp hW.ok
            refine ol_eN (f_stB hW220 (h8.wk kw1 hW.ok) (FldS.whole _) ty_26 hk218 p8 rfl) rfl ?_
            rintro - w221 ⟨hW222, ho223, hg2, st2⟩
            obtain rfl := Option.some.inj hr
            exact ol_nil ⟨Fz216, hW222, g8, p8, ho223⟩
          exact Ref.ret (fun s ρ w h => ⟨s, rfl, h⟩)
        · exact Ref.skip
      refine Ref.region (fun s ρ w s' h hr => ?_)
      obtain ⟨F, hW, g8, h0, h1, h2, h3, p8, h8, h12, h13⟩ := h
      refine ol_v (e_mv _ h13) rfl ?_
      refine ol_v (e_add rfl rfl) rfl ?_
      refine ol_v (e_as _ rfl) rfl ?_
      obtain rfl := Option.some.inj hr
      exact ol_nil ⟨F, hW, g8, h0, h1, h2, h3, p8, h8, h12, rfl⟩
    refine Ref.region (fun s ρ w s' h hr => ?_)
    obtain ⟨F, hW, g8, h0, h1, h2, h3, p8, h8, h12⟩ := h
    refine ol_v (e_mv _ h12) rfl ?_
    refine ol_v (e_add rfl rfl) rfl ?_
    refine ol_v (e_as _ rfl) rfl ?_
    obtain rfl := Option.some.inj hr
    exact ol_nil ⟨F, hW, g8, h0, h1, h2, h3, p8, h8, rfl⟩
  refine Ref.seq (B := G16 w0 F0) ?_ ?_
  · refine Ref.seq (B := G21 w0 F0) ?_ ?_
    · refine Ref.region (fun s ρ w s' h hr => ?_)
      obtain ⟨F, hW, g8, h0, h1, h3, p8, h8⟩ := h
      refine ol_v (e_mv _ rfl) rfl ?_
      obtain ⟨A224, c225, e226, hc227, R228⟩ := id h3
      refine ol_v (e_len (SlT.sl sl_23) e226) rfl ?_
      refine ol_v (e_gtr rfl rfl) rfl ?_
      obtain rfl := Option.some.inj hr
      exact ol_nil ⟨F, hW, g8, h0, h1, h3, p8, h8, rfl⟩
    refine Ref.cond (b := fun s => s.t_108) (fun s ρ w ⟨F, hW, g8, h0, h1, h3, p8, h8, h108⟩ => h108) (Ref.pre (A := G5 w0 F0) ?_ (fun s ρ w h => (fun ⟨F, hW, g8, h0, h1, h3, p8, h8, h108⟩ => ⟨F, hW, g8, p8, h8⟩ : G21 w0 F0 s ρ w → G5 w0 F0 s ρ w) h.2)) (Ref.pre (A := G16 w0 F0) ?_ (fun s ρ w h => (fun ⟨F, hW, g8, h0, h1, h3, p8, h8, h108⟩ => ⟨F, hW, g8, h0, h1, h3, p8, h8⟩ : G21 w0 F0 s ρ w → G16 w0 F0 s ρ w) h.2))
    · refine Ref.seq (B := G5 w0 F0) ?_ ?_
      · refine Ref.region (fun s ρ w s' h hr => ?_)
        obtain ⟨F, hW, g8, p8, h8⟩ := h
        obtain ⟨x229, hx229, hr⟩ := bind_some' hr
        refine ol_e (f_call [.int .i64 (2 : Int), .int .i64 (-1 : Int)] fn_15 (lcons rfl (lcons rfl rfl)) (ref3_Fault.calls hW.ok (2 : Int) (-1 : Int) hx229)) rfl rfl ?_
        rintro v232 w230 ⟨Fz231, _, rfl, kw1, hk233⟩
        have hW235 := hW.trans kw1
        have st1 := kw1.stp hW.ok
        refine ol_eN (f_stB hW235 (h8.wk kw1 hW.ok) (FldS.whole _) ty_26 hk233 p8 rfl) rfl ?_
        rintro - w236 ⟨hW237, ho238, hg2, st2⟩
        obtain rfl := Option.some.inj hr
        exact ol_nil ⟨Fz231, hW237, g8, p8, ho238⟩
      exact Ref.ret (fun s ρ w h => ⟨s, rfl, h⟩)
    · exact Ref.skip
  refine Ref.seq (B := G5 w0 F0) ?_ ?_
  · refine Ref.seq (B := G22 w0 F0) ?_ ?_
    · refine Ref.region (fun s ρ w s' h hr => ?_)
      obtain ⟨F, hW, g8, h0, h1, h3, p8, h8⟩ := h
      refine ol_v (e_as _ rfl) rfl ?_
      obtain rfl := Option.some.inj hr
      exact ol_nil ⟨F, hW, g8, h0, h1, h3, p8, h8, rfl⟩
    refine Ref.block ?_
    refine Ref.loop ?_
    refine Ref.seq (B := G22 w0 F0) ?_ ?_
    · refine Ref.seq (B := G23 w0 F0) ?_ ?_
      · refine Ref.region (fun s ρ w s' h hr => ?_)
        obtain ⟨F, hW, g8, h0, h1, h3, p8, h8, h14⟩ := h
        refine ol_v (e_mv _ h14) rfl ?_
        refine ol_v (e_mv _ rfl) rfl ?_
        obtain ⟨A239, c240, e241, hc242, R243⟩ := id h3
        refine ol_v (e_len (SlT.sl sl_23) e241) rfl ?_
        refine ol_v (e_lss rfl rfl) rfl ?_
        obtain rfl := Option.some.inj hr
        exact ol_nil ⟨F, hW, g8, h0, h1, h3, p8, h8, h14, rfl⟩
      refine Ref.cond (b := fun s => s.t_113) (fun s ρ w ⟨F, hW, g8, h0, h1, h3, p8, h8, h14, h113⟩ => h113) (Ref.pre (A := G22 w0 F0) ?_ (fun s ρ w h => (fun ⟨F, hW, g8, h0, h1, h3, p8, h8, h14, h113⟩ => ⟨F, hW, g8, h0, h1, h3, p8, h8, h14⟩ : G23 w0 F0 s ρ w → G22 w0 F0 s ρ w) h.2)) (Ref.pre (A := G5 w0 F0) ?_ (fun s ρ w h => (fun ⟨F, hW, g8, h0, h1, h3, p8, h8, h14, h113⟩ => ⟨F, hW, g8, p8, h8⟩ : G23 w0 F0 s ρ w → G5 w0 F0 s ρ w) h.2))
      · exact Ref.skip
      · exact Ref.exit (fun s ρ w h => h)
    refine Ref.seq (B := G22 w0 F0) ?_ ?_
    · refine Ref.block ?_
      refine Ref.seq (B := G24 w0 F0) ?_ ?_
      · refine Ref.region (fun s ρ w s' h hr => ?_)
        obtain ⟨F, hW, g8, h0, h1, h3, p8, h8, h14⟩ := h
        refine ol_v (e_mv _ rfl) rfl ?_
        refine ol_v (e_mv _ h14) rfl ?_
        obtain ⟨x244, hx244, hr⟩ := bind_some' hr
        obtain ⟨A245, c246, e247, hc248, R249⟩ := id h3
        obtain ⟨b250, o251, hA252, L253⟩ := Row.at_ R249 hx244
        refine ol_v (e_ix (SlT.sl sl_23) (SlT.sz sl_23) hA252 hx244 e247 rfl) rfl ?_
        refine ol_v (e_ld ty_3 (LiesV.int L253.at_) rfl) rfl ?_
        refine ol_v (e_mv _ rfl) rfl ?_
        obtain ⟨A254, c255, e256, hc257, R258⟩ := id h0
        refine ol_v (e_len (SlT.sl sl_22) e256) rfl ?_
        refine ol_v (e_sub rfl rfl) rfl ?_
        obtain ⟨x259, hx259, hr⟩ := bind_some' hr
        refine ol_e (f_call [.int .i64 x244, .int .i64 (0 : Int), .int .i64 (w64 ((s.t_0.length : Int) - (1 : Int)))] fn_16 (lcons rfl (lcons rfl (lcons rfl rfl))) (ref3_In.calls hW.ok x244 (0 : Int) (w64 ((s.t_0.length : Int) - (1 : Int))) hx259)) rfl rfl ?_
        rintro _ w260 ⟨Fz261, rfl, kw1⟩
        have hW263 := hW.trans kw1
        have st1 := kw1.stp hW.ok
        refine ol_v (e_not_ rfl) rfl ?_
        obtain ⟨x286, hx287, hr⟩ := bind_some' hr
        refine ol_cutA 10 125 134 (fun ρ' w' => w260 = w' ∧ ρ' 134 = .bool x286) rfl ?_ ?_
        · by_cases hb264 : (!x259) = true
          · have hr := hx287
            rw [if_pos hb264] at hr
            refine ol_v (e_mv _ rfl) rfl ?_
            refine ol_not rfl rfl rfl (congrArg Value.bool hb264) rfl ?_
            refine ol_not rfl rfl rfl (congrArg Value.bool hb264) rfl ?_
            refine ol_not rfl rfl rfl (congrArg Value.bool hb264) rfl ?_
            refine ol_not rfl rfl rfl (congrArg Value.bool hb264) rfl ?_
            refine ol_not rfl rfl rfl (congrArg Value.bool hb264) rfl ?_
            refine ol_not rfl rfl rfl (congrArg Value.bool hb264) rfl ?_
            refine ol_not rfl rfl rfl (congrArg Value.bool hb264) rfl ?_
            refine ol_not rfl rfl rfl (congrArg Value.bool hb264) rfl ?_
            refine ol_v (e_pick true _ (congrArg Value.bool hb264) rfl) rfl ?_
            exact ol_nil ⟨⟨rfl, (congrArg Value.bool (Option.some.inj hr))⟩, (((((((((((Agr.refl _ _ _).upd rfl rfl).upd rfl rfl).upd rfl rfl).upd rfl rfl).upd rfl rfl).upd rfl rfl).upd rfl rfl).upd rfl rfl).upd rfl rfl).upd rfl rfl)⟩
          · have hb265 := Bool.eq_false_iff.mpr hb264
            have hr := hx287
            rw [if_neg hb264] at hr
            refine ol_v (e_mv _ rfl) rfl ?_
            refine ol_yes rfl rfl (congrArg Value.bool hb265) ?_
            refine ol_v (e_mv _ rfl) rfl ?_
            refine ol_yes rfl rfl (congrArg Value.bool hb265) ?_
            refine ol_v (e_mv _ rfl) rfl ?_
            refine ol_yes rfl rfl (congrArg Value.bool hb265) ?_
            refine ol_v (e_mv _ h14) rfl ?_
            refine ol_yes rfl rfl (congrArg Value.bool hb265) ?_
            obtain ⟨x266, hx266, hr⟩ := bind_some' hr
            obtain ⟨A267, c268, e269, hc270, R271⟩ := id (h3.keep st1)
            obtain ⟨b272, o273, hA274, L275⟩ := Row.at_ R271 hx266
            refine ol_v (e_ix (SlT.sl sl_23) (SlT.sz sl_23) hA274 hx266 e269 rfl) rfl ?_
            refine ol_yes rfl rfl (congrArg Value.bool hb265) ?_
            refine ol_v (e_ld ty_3 (LiesV.int L275.at_) rfl) rfl ?_
            refine ol_yes rfl rfl (congrArg Value.bool hb265) ?_
            obtain ⟨x276, hx276, hr⟩ := bind_some' hr
            obtain ⟨A277, c278, e279, hc280, R281⟩ := id (h1.keep st1)
            obtain ⟨b282, o283, hA284, L285⟩ := Row.at_ R281 hx276
            refine ol_v (e_ix (SlT.sl sl_46) (SlT.sz sl_46) hA284 hx276 e279 rfl) rfl ?_
            refine ol_yes rfl rfl (congrArg Value.bool hb265) ?_
            refine ol_v (e_ld ty_4 (LiesV.bool L285.at_) rfl) rfl ?_
            refine ol_yes rfl rfl (congrArg Value.bool hb265) ?_
            refine ol_v (e_not_ rfl) rfl ?_
            refine ol_v (e_pick false _ (congrArg Value.bool hb265) rfl) rfl ?_
            exact ol_nil ⟨⟨rfl, (congrArg Value.bool (Option.some.inj hr))⟩, (((((((((((Agr.refl _ _ _).upd rfl rfl).upd rfl rfl).upd rfl rfl).upd rfl rfl).upd rfl rfl).upd rfl rfl).upd rfl rfl).upd rfl rfl).upd rfl rfl).upd rfl rfl)⟩
        rintro ρ287 _ ⟨⟨rfl, hp287⟩, hAg287⟩
        obtain rfl := Option.some.inj hr
        exact ol_nil ⟨Fz261, hW263, g8, (SlR.eqv (hAg287 0 rfl) (h0.keep st1)), (SlR.eqv (hAg287 1 rfl) (h1.keep st1)), (SlR.eqv (hAg287 3 rfl) (h3.keep st1)), ((hAg287 8 rfl).trans p8), (h8.wk kw1 hW.ok), ((hAg287 14 rfl).trans h14), hp287⟩
      refine Ref.cond (b := fun s => s.t_134) (fun s ρ w ⟨F, hW, g8, h0, h1, h3, p8, h8, h14, h134⟩ => h134) (Ref.pre (A := G25 w0 F0) ?_ (fun s ρ w h => (fun ⟨F, hW, g8, h0, h1, h3, p8, h8, h14, h134⟩ => ⟨F, hW, g8, p8, h8, h14⟩ : G24 w0 F0 s ρ w → G25 w0 F0 s ρ w) h.2)) (Ref.pre (A := G22 w0 F0) ?_ (fun s ρ w h => (fun ⟨F, hW, g8, h0, h1, h3, p8, h8, h14, h134⟩ => ⟨F, hW, g8, h0, h1, h3, p8, h8, h14⟩ : G24 w0 F0 s ρ w → G22 w0 F0 s ρ w) h.2))
      · refine Ref.seq (B := G5 w0 F0) ?_ ?_
        · refine Ref.region (fun s ρ w s' h hr => ?_)
          obtain ⟨F, hW, g8, p8, h8, h14⟩ := h
          refine ol_v (e_mv _ h14) rfl ?_
          obtain ⟨x288, hx288, hr⟩ := bind_some' hr
          refine ol_e (f_call [.int .i64 (6 : Int), .int .i64 s.t_14] fn_15 (lcons rfl (lcons rfl rfl)) (ref3_Fault.calls hW.ok (6 : Int) s.t_14 hx288)) rfl rfl ?_
          rintro v291 w289 ⟨Fz290, _, rfl, kw1, hk292⟩
          have hW294 := hW.trans kw1
          have st1 := kw1.stp hW.ok
          refine ol_eN (f_stB hW294 (h8.wk kw1 hW.ok) (FldS.whole _) ty_26 hk292 p8 rfl) rfl ?_
          rintro - w295 ⟨hW296, ho297, hg2, st2⟩
          obtain rfl := Option.some.inj hr
          exact ol_nil ⟨Fz290, hW296, g8, p8, ho297⟩
        exact Ref.ret (fun s ρ w h => ⟨s, rfl, h⟩)
      · exact Ref.skip
    refine Ref.region (fun s ρ w s' h hr => ?_)
    obtain ⟨F, hW, g8, h0, h1, h3, p8, h8, h14⟩ := h
    refine ol_v (e_mv _ h14) rfl ?_
    refine ol_v (e_add rfl rfl) rfl ?_
    refine ol_v (e_as _ rfl) rfl ?_
    obtain rfl := Option.some.inj hr
    exact ol_nil ⟨F, hW, g8, h0, h1, h3, p8, h8, rfl⟩
  refine Ref.seq (B := G5 w0 F0) ?_ ?_
  · refine Ref.region (fun s ρ w s' h hr => ?_)
    obtain ⟨F, hW, g8, p8, h8⟩ := h
    refine ol_v (e_bld (cells := #[.int .i64 0, .int .i64 0]) bld_26 (vs := []) rfl rfl) rfl ?_
    have hb298 : Val k_Fault F w (.agg #[.int .i64 0, .int .i64 0]) (⟨(0 : Int), (0 : Int)⟩ : Fault) := mk_Fault (val_int _ _) (val_int _ _)
    refine ol_eN (f_stB hW h8 (FldS.whole _) ty_26 hb298 p8 rfl) rfl ?_
    rintro - w299 ⟨hW300, ho301, hg1, st1⟩
    obtain rfl := Option.some.inj hr
    exact ol_nil ⟨F, hW300, g8, p8, ho301⟩
  exact Ref.ret (fun s ρ w h => ⟨s, rfl, h⟩)
def post (w : World) (F : BSet) (r : R) (v : Value) (w' : World) : Prop := ∃ (F' : BSet) (v0' : Value), v = v0' ∧ Wk nrow w F F' w' ∧ Val k_Fault F' w' v0' r
theorem calls {w : World} {F : BSet} (hok : ∀ b, F b → b < w.heap.size) {v0 : Value} {a0 : (List Commit)} (h0 : SlR k_Commit F w v0 a0) {v1 : Value} {a1 : (List Bool)} (h1 : SlR kBool F w v1 a1) {v2 : Value} {a2 : (List Bool)} (h2 : SlR kBool F w v2 a2) {v3 : Value} {a3 : (List Int)} (h3 : SlR (kInt .i64) F w v3 a3) {r : R} (hf : f a0 a1 a2 a3 = some r) : Calls Try.prog 30 #[v0, v1, v2, v3] w fun e w' => ∃ v, e = .returned v ∧ post w F r v w' := by
  obtain ⟨c, hc, href⟩ := ref w F
  refine calls_of_ref (args := [v0, v1, v2, v3]) _ Try.func30 hc rfl rfl href ?_ (retOf_some hf) ?_
  · exact ⟨F, Wk.refl hok, h0, h1, h2, h3⟩
  · rintro ρ w' a ⟨s, rfl, F', hW, g8, p8, h8⟩ hF
    obtain ⟨u8, l8, k8⟩ := res_box (P := Try.prog) ty_26 h8
    refine ⟨_, run_results (rs := [.cell 8 26]) rfl hF (vs := [u8]) (⟨_, _, _, rfl, p8, l8, rfl⟩), ?_⟩
    exact ⟨F', u8, rfl, hW, k8⟩
end
end ref4_NegotiateFault

end Go.Proofs.Ytilodamhgepjoaa
