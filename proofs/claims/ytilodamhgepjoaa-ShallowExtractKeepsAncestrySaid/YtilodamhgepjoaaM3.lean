/- The machine's calls come to these plain functions (written by a program, wip/fx/gen.py). -/
import Derived.Test.YtilodamhgepjoaaP3
import Derived.Test.YtilodamhgepjoaaM2
import Derived.Test.YtilodamhgepjoaaIt
namespace Go.Proofs.Ytilodamhgepjoaa
open Go.Fx Go.RowKit
set_option linter.unusedVariables false

namespace ref3_In
section
def G0 (w0 : World) (F0 : BSet) (s : S) (ρ : Env) (w : World) : Prop := ∃ (F : BSet), Wk nrow w0 F0 F w ∧ ρ 0 = .int .i64 s.n_0 ∧ ρ 1 = .int .i64 s.low_1 ∧ ρ 2 = .int .i64 s.high_2
def G1 (w0 : World) (F0 : BSet) (s : S) (ρ : Env) (w : World) : Prop := ∃ (F : BSet), Wk nrow w0 F0 F w ∧ ρ 6 = .bool s.t_6
set_option maxHeartbeats 4000000 in
set_option maxRecDepth 20000 in
theorem ref (w0 : World) (F0 : BSet) : ∃ c, Try.f16.body = some c ∧ Ref Try.prog 15 c (G0 w0 F0) body (fun _ _ _ => False) (fun _ _ _ _ => False) (fun r ρ w => ∃ s, retv s = r ∧ G1 w0 F0 s ρ w) := by
  refine ⟨_, rfl, ?_⟩
  unfold body
  refine Ref.seq (B := G0 w0 F0) ?_ ?_
  · refine Ref.region (fun s ρ w s' h hr => ?_)
    obtain ⟨F, hW, h0, h1, h2⟩ := h
    refine ol_v (e_as _ rfl) rfl ?_
    obtain rfl := Option.some.inj hr
    exact ol_nil ⟨F, hW, h0, h1, h2⟩
  refine Ref.seq (B := G1 w0 F0) ?_ ?_
  · refine Ref.region (fun s ρ w s' h hr => ?_)
    obtain ⟨F, hW, h0, h1, h2⟩ := h
    refine ol_v (e_mv _ h0) rfl ?_
    refine ol_v (e_mv _ h1) rfl ?_
    refine ol_v (e_geq rfl rfl) rfl ?_
    refine ol_cutA 5 10 14 (fun ρ' w' => w = w' ∧ ρ' 14 = .bool ((decide (s.low_1 ≤ s.n_0)) && (decide (s.n_0 ≤ s.high_2)))) rfl ?_ ?_
    · by_cases hb1 : (decide (s.low_1 ≤ s.n_0)) = true
      · refine ol_v (e_mv _ rfl) rfl ?_
        refine ol_yes rfl rfl (congrArg Value.bool hb1) ?_
        refine ol_v (e_mv _ h0) rfl ?_
        refine ol_yes rfl rfl (congrArg Value.bool hb1) ?_
        refine ol_v (e_mv _ h2) rfl ?_
        refine ol_yes rfl rfl (congrArg Value.bool hb1) ?_
        refine ol_v (e_leq rfl rfl) rfl ?_
        refine ol_v (e_pick true _ (congrArg Value.bool hb1) rfl) rfl ?_
        exact ol_nil ⟨⟨rfl, (bv_and_t hb1)⟩, ((((((Agr.refl _ _ _).upd rfl rfl).upd rfl rfl).upd rfl rfl).upd rfl rfl).upd rfl rfl)⟩
      · have hb2 := Bool.eq_false_iff.mpr hb1
        refine ol_v (e_mv _ rfl) rfl ?_
        refine ol_not rfl rfl rfl (congrArg Value.bool hb2) rfl ?_
        refine ol_not rfl rfl rfl (congrArg Value.bool hb2) rfl ?_
        refine ol_not rfl rfl rfl (congrArg Value.bool hb2) rfl ?_
        refine ol_v (e_pick false _ (congrArg Value.bool hb2) rfl) rfl ?_
        exact ol_nil ⟨⟨rfl, (bv_and_f hb2)⟩, ((((((Agr.refl _ _ _).upd rfl rfl).upd rfl rfl).upd rfl rfl).upd rfl rfl).upd rfl rfl)⟩
    rintro ρ3 _ ⟨⟨rfl, hp3⟩, hAg3⟩
    refine ol_v (e_as _ hp3) rfl ?_
    obtain rfl := Option.some.inj hr
    exact ol_nil ⟨F, hW, rfl⟩
  exact Ref.ret (fun s ρ w h => ⟨s, rfl, h⟩)
def post (w : World) (F : BSet) (r : R) (v : Value) (w' : World) : Prop := ∃ (F' : BSet), v = .bool r ∧ Wk nrow w F F' w'
theorem calls {w : World} {F : BSet} (hok : ∀ b, F b → b < w.heap.size) (a0 : Int) (a1 : Int) (a2 : Int) {r : R} (hf : f a0 a1 a2 = some r) : Calls Try.prog 16 #[.int .i64 a0, .int .i64 a1, .int .i64 a2] w fun e w' => ∃ v, e = .returned v ∧ post w F r v w' := by
  obtain ⟨c, hc, href⟩ := ref w F
  refine calls_of_ref (args := [.int .i64 a0, .int .i64 a1, .int .i64 a2]) _ Try.func16 hc rfl rfl href ?_ (retOf_some hf) ?_
  · exact ⟨F, Wk.refl hok, rfl, rfl, rfl⟩
  · rintro ρ w' a ⟨s, rfl, F', hW, h6⟩ hF
    refine ⟨_, run_results (rs := [.tmp 6]) rfl hF (vs := [ρ 6]) (⟨_, rfl, rfl⟩), ?_⟩
    have hv : resVal [ρ 6] = .bool s.t_6 := by rw [h6]; rfl
    exact ⟨F', hv, hW⟩
end
end ref3_In

namespace ref3_isDigest
section
def G0 (w0 : World) (F0 : BSet) (s : S) (ρ : Env) (w : World) : Prop := ∃ (F : BSet), Wk nrow w0 F0 F w ∧ ρ 0 = .int .i64 s.d_0
def G1 (w0 : World) (F0 : BSet) (s : S) (ρ : Env) (w : World) : Prop := ∃ (F : BSet), Wk nrow w0 F0 F w ∧ ρ 2 = .bool s.t_2
set_option maxHeartbeats 4000000 in
set_option maxRecDepth 20000 in
theorem ref (w0 : World) (F0 : BSet) : ∃ c, Try.f37.body = some c ∧ Ref Try.prog 5 c (G0 w0 F0) body (fun _ _ _ => False) (fun _ _ _ _ => False) (fun r ρ w => ∃ s, retv s = r ∧ G1 w0 F0 s ρ w) := by
  refine ⟨_, rfl, ?_⟩
  unfold body
  refine Ref.seq (B := G0 w0 F0) ?_ ?_
  · refine Ref.region (fun s ρ w s' h hr => ?_)
    obtain ⟨F, hW, h0⟩ := h
    refine ol_v (e_as _ rfl) rfl ?_
    obtain rfl := Option.some.inj hr
    exact ol_nil ⟨F, hW, h0⟩
  refine Ref.seq (B := G1 w0 F0) ?_ ?_
  · refine Ref.region (fun s ρ w s' h hr => ?_)
    obtain ⟨F, hW, h0⟩ := h
    refine ol_v (e_mv _ h0) rfl ?_
    obtain ⟨x1, hx1, hr⟩ := bind_some' hr
    refine ol_e (f_call [.int .i64 s.d_0, .int .i64 (0 : Int), .int .i64 (2305843009213693950 : Int)] fn_16 (lcons rfl (lcons rfl (lcons rfl rfl))) (ref3_In.calls hW.ok s.d_0 (0 : Int) (2305843009213693950 : Int) hx1)) rfl rfl ?_
    rintro _ w2 ⟨Fz3, rfl, kw1⟩
    have hW5 := hW.trans kw1
    have st1 := kw1.stp hW.ok
    refine ol_v (e_as _ rfl) rfl ?_
    obtain rfl := Option.some.inj hr
    exact ol_nil ⟨Fz3, hW5, rfl⟩
  exact Ref.ret (fun s ρ w h => ⟨s, rfl, h⟩)
def post (w : World) (F : BSet) (r : R) (v : Value) (w' : World) : Prop := ∃ (F' : BSet), v = .bool r ∧ Wk nrow w F F' w'
theorem calls {w : World} {F : BSet} (hok : ∀ b, F b → b < w.heap.size) (a0 : Int) {r : R} (hf : f a0 = some r) : Calls Try.prog 37 #[.int .i64 a0] w fun e w' => ∃ v, e = .returned v ∧ post w F r v w' := by
  obtain ⟨c, hc, href⟩ := ref w F
  refine calls_of_ref (args := [.int .i64 a0]) _ Try.func37 hc rfl rfl href ?_ (retOf_some hf) ?_
  · exact ⟨F, Wk.refl hok, rfl⟩
  · rintro ρ w' a ⟨s, rfl, F', hW, h2⟩ hF
    refine ⟨_, run_results (rs := [.tmp 2]) rfl hF (vs := [ρ 2]) (⟨_, rfl, rfl⟩), ?_⟩
    have hv : resVal [ρ 2] = .bool s.t_2 := by rw [h2]; rfl
    exact ⟨F', hv, hW⟩
end
end ref3_isDigest

namespace ref3_HistoryFault
section
def G0 (w0 : World) (F0 : BSet) (s : S) (ρ : Env) (w : World) : Prop := ∃ (F : BSet), Wk nrow w0 F0 F w ∧ SlR k_Commit F w (ρ 0) s.t_0
def G1 (w0 : World) (F0 : BSet) (s : S) (ρ : Env) (w : World) : Prop := ∃ (F : BSet), Wk nrow w0 F0 F w ∧ ∃ (g2 : Nat), SlR k_Commit F w (ρ 0) s.t_0 ∧ ρ 2 = .pointer (some ⟨g2, 0, none⟩) ∧ Box k_Fault 26 (Bs w0 nrow) F w g2 s.t_2
def G2 (w0 : World) (F0 : BSet) (s : S) (ρ : Env) (w : World) : Prop := ∃ (F : BSet), Wk nrow w0 F0 F w ∧ ∃ (g2 : Nat), SlR k_Commit F w (ρ 0) s.t_0 ∧ ρ 2 = .pointer (some ⟨g2, 0, none⟩) ∧ Box k_Fault 26 (Bs w0 nrow) F w g2 s.t_2 ∧ ρ 8 = .bool s.t_8
def G3 (w0 : World) (F0 : BSet) (s : S) (ρ : Env) (w : World) : Prop := ∃ (F : BSet), Wk nrow w0 F0 F w ∧ ∃ (g2 : Nat), ρ 2 = .pointer (some ⟨g2, 0, none⟩) ∧ Box k_Fault 26 (Bs w0 nrow) F w g2 s.t_2
def G4 (w0 : World) (F0 : BSet) (s : S) (ρ : Env) (w : World) : Prop := ∃ (F : BSet), Wk nrow w0 F0 F w ∧ ∃ (g2 : Nat), SlR k_Commit F w (ρ 0) s.t_0 ∧ ρ 2 = .pointer (some ⟨g2, 0, none⟩) ∧ Box k_Fault 26 (Bs w0 nrow) F w g2 s.t_2 ∧ ρ 3 = .int .i64 s.t_3
def G5 (w0 : World) (F0 : BSet) (s : S) (ρ : Env) (w : World) : Prop := ∃ (F : BSet), Wk nrow w0 F0 F w ∧ ∃ (g2 : Nat), SlR k_Commit F w (ρ 0) s.t_0 ∧ ρ 2 = .pointer (some ⟨g2, 0, none⟩) ∧ Box k_Fault 26 (Bs w0 nrow) F w g2 s.t_2 ∧ ρ 3 = .int .i64 s.t_3 ∧ ρ 13 = .bool s.t_13
def G6 (w0 : World) (F0 : BSet) (s : S) (ρ : Env) (w : World) : Prop := ∃ (F : BSet), Wk nrow w0 F0 F w ∧ ∃ (g2 : Nat) (g4 : Nat), SlR k_Commit F w (ρ 0) s.t_0 ∧ ρ 2 = .pointer (some ⟨g2, 0, none⟩) ∧ Box k_Fault 26 (Bs w0 nrow) F w g2 s.t_2 ∧ ρ 3 = .int .i64 s.t_3 ∧ ρ 4 = .pointer (some ⟨g4, 0, none⟩) ∧ Box k_Commit 56 (Bs w0 nrow) F w g4 s.t_4
def G7 (w0 : World) (F0 : BSet) (s : S) (ρ : Env) (w : World) : Prop := ∃ (F : BSet), Wk nrow w0 F0 F w ∧ ∃ (g2 : Nat) (g4 : Nat), SlR k_Commit F w (ρ 0) s.t_0 ∧ ρ 2 = .pointer (some ⟨g2, 0, none⟩) ∧ Box k_Fault 26 (Bs w0 nrow) F w g2 s.t_2 ∧ ρ 3 = .int .i64 s.t_3 ∧ ρ 4 = .pointer (some ⟨g4, 0, none⟩) ∧ Box k_Commit 56 (Bs w0 nrow) F w g4 s.t_4 ∧ ρ 23 = .bool s.t_23
def G8 (w0 : World) (F0 : BSet) (s : S) (ρ : Env) (w : World) : Prop := ∃ (F : BSet), Wk nrow w0 F0 F w ∧ ∃ (g2 : Nat), ρ 2 = .pointer (some ⟨g2, 0, none⟩) ∧ Box k_Fault 26 (Bs w0 nrow) F w g2 s.t_2 ∧ ρ 3 = .int .i64 s.t_3
def G9 (w0 : World) (F0 : BSet) (s : S) (ρ : Env) (w : World) : Prop := ∃ (F : BSet), Wk nrow w0 F0 F w ∧ ∃ (g2 : Nat) (g4 : Nat), SlR k_Commit F w (ρ 0) s.t_0 ∧ ρ 2 = .pointer (some ⟨g2, 0, none⟩) ∧ Box k_Fault 26 (Bs w0 nrow) F w g2 s.t_2 ∧ ρ 3 = .int .i64 s.t_3 ∧ ρ 4 = .pointer (some ⟨g4, 0, none⟩) ∧ Box k_Commit 56 (Bs w0 nrow) F w g4 s.t_4 ∧ ρ 5 = .int .i64 s.t_5
def G10 (w0 : World) (F0 : BSet) (s : S) (ρ : Env) (w : World) : Prop := ∃ (F : BSet), Wk nrow w0 F0 F w ∧ ∃ (g2 : Nat) (g4 : Nat), SlR k_Commit F w (ρ 0) s.t_0 ∧ ρ 2 = .pointer (some ⟨g2, 0, none⟩) ∧ Box k_Fault 26 (Bs w0 nrow) F w g2 s.t_2 ∧ ρ 3 = .int .i64 s.t_3 ∧ ρ 4 = .pointer (some ⟨g4, 0, none⟩) ∧ Box k_Commit 56 (Bs w0 nrow) F w g4 s.t_4 ∧ ρ 5 = .int .i64 s.t_5 ∧ ρ 30 = .bool s.t_30
def G11 (w0 : World) (F0 : BSet) (s : S) (ρ : Env) (w : World) : Prop := ∃ (F : BSet), Wk nrow w0 F0 F w ∧ ∃ (g2 : Nat) (g4 : Nat), SlR k_Commit F w (ρ 0) s.t_0 ∧ ρ 2 = .pointer (some ⟨g2, 0, none⟩) ∧ Box k_Fault 26 (Bs w0 nrow) F w g2 s.t_2 ∧ ρ 3 = .int .i64 s.t_3 ∧ ρ 4 = .pointer (some ⟨g4, 0, none⟩) ∧ Box k_Commit 56 (Bs w0 nrow) F w g4 s.t_4 ∧ ρ 5 = .int .i64 s.t_5 ∧ ρ 41 = .bool s.t_41
def G12 (w0 : World) (F0 : BSet) (s : S) (ρ : Env) (w : World) : Prop := ∃ (F : BSet), Wk nrow w0 F0 F w ∧ ∃ (g2 : Nat) (g4 : Nat), SlR k_Commit F w (ρ 0) s.t_0 ∧ ρ 2 = .pointer (some ⟨g2, 0, none⟩) ∧ Box k_Fault 26 (Bs w0 nrow) F w g2 s.t_2 ∧ ρ 3 = .int .i64 s.t_3 ∧ ρ 4 = .pointer (some ⟨g4, 0, none⟩) ∧ Box k_Commit 56 (Bs w0 nrow) F w g4 s.t_4 ∧ ρ 5 = .int .i64 s.t_5 ∧ ρ 59 = .bool s.t_59
def G13 (w0 : World) (F0 : BSet) (s : S) (ρ : Env) (w : World) : Prop := ∃ (F : BSet), Wk nrow w0 F0 F w ∧ ∃ (g2 : Nat) (g4 : Nat), SlR k_Commit F w (ρ 0) s.t_0 ∧ ρ 2 = .pointer (some ⟨g2, 0, none⟩) ∧ Box k_Fault 26 (Bs w0 nrow) F w g2 s.t_2 ∧ ρ 3 = .int .i64 s.t_3 ∧ ρ 4 = .pointer (some ⟨g4, 0, none⟩) ∧ Box k_Commit 56 (Bs w0 nrow) F w g4 s.t_4 ∧ ρ 77 = .bool s.t_77
def G14 (w0 : World) (F0 : BSet) (s : S) (ρ : Env) (w : World) : Prop := ∃ (F : BSet), Wk nrow w0 F0 F w ∧ ∃ (g2 : Nat), SlR k_Commit F w (ρ 0) s.t_0 ∧ ρ 2 = .pointer (some ⟨g2, 0, none⟩) ∧ Box k_Fault 26 (Bs w0 nrow) F w g2 s.t_2 ∧ ρ 3 = .int .i64 s.t_3 ∧ ρ 83 = .bool s.t_83
set_option maxHeartbeats 4000000 in
set_option maxRecDepth 20000 in
theorem ref (w0 : World) (F0 : BSet) : ∃ c, Try.f14.body = some c ∧ Ref Try.prog 87 c (G0 w0 F0) body (fun _ _ _ => False) (fun _ _ _ _ => False) (fun r ρ w => ∃ s, retv s = r ∧ G3 w0 F0 s ρ w) := by
  refine ⟨_, rfl, ?_⟩
  unfold body
  refine Ref.seq (B := G1 w0 F0) ?_ ?_
  · refine Ref.region (fun s ρ w s' h hr => ?_)
    obtain ⟨F, hW, h0⟩ := h
    refine ol_e (f_alloc zer_26 hW) rfl rfl ?_
    rintro _ w2 ⟨g1, rfl, kw1, ho3⟩
    have hW4 := hW.trans kw1
    have st1 := kw1.stp hW.ok
    obtain rfl := Option.some.inj hr
    exact ol_nil ⟨F, hW4, g1, (h0.keep st1), rfl, (ho3.base (row := nrow) hW.le)⟩
  refine Ref.seq (B := G1 w0 F0) ?_ ?_
  · refine Ref.seq (B := G2 w0 F0) ?_ ?_
    · refine Ref.region (fun s ρ w s' h hr => ?_)
      obtain ⟨F, hW, g2, h0, p2, h2⟩ := h
      refine ol_v (e_mv _ rfl) rfl ?_
      obtain ⟨A5, c6, e7, hc8, R9⟩ := id h0
      refine ol_v (e_len (SlT.sl sl_22) e7) rfl ?_
      refine ol_v (e_gtr rfl rfl) rfl ?_
      obtain rfl := Option.some.inj hr
      exact ol_nil ⟨F, hW, g2, h0, p2, h2, rfl⟩
    refine Ref.cond (b := fun s => s.t_8) (fun s ρ w ⟨F, hW, g2, h0, p2, h2, h8⟩ => h8) (Ref.pre (A := G3 w0 F0) ?_ (fun s ρ w h => (fun ⟨F, hW, g2, h0, p2, h2, h8⟩ => ⟨F, hW, g2, p2, h2⟩ : G2 w0 F0 s ρ w → G3 w0 F0 s ρ w) h.2)) (Ref.pre (A := G1 w0 F0) ?_ (fun s ρ w h => (fun ⟨F, hW, g2, h0, p2, h2, h8⟩ => ⟨F, hW, g2, h0, p2, h2⟩ : G2 w0 F0 s ρ w → G1 w0 F0 s ρ w) h.2))
    · refine Ref.seq (B := G3 w0 F0) ?_ ?_
      · refine Ref.region (fun s ρ w s' h hr => ?_)
        obtain ⟨F, hW, g2, p2, h2⟩ := h
        obtain ⟨x10, hx10, hr⟩ := bind_some' hr
        refine ol_e (f_call [.int .i64 (2 : Int), .int .i64 (-1 : Int)] fn_15 (lcons rfl (lcons rfl rfl)) (ref3_Fault.calls hW.ok (2 : Int) (-1 : Int) hx10)) rfl rfl ?_
        rintro v13 w11 ⟨Fz12, _, rfl, kw1, hk14⟩
        have hW16 := hW.trans kw1
        have st1 := kw1.stp hW.ok
        refine ol_eN (f_stB hW16 (h2.wk kw1 hW.ok) (FldS.whole _) ty_26 hk14 p2 rfl) rfl ?_
        rintro - w17 ⟨hW18, ho19, hg2, st2⟩
        obtain rfl := Option.some.inj hr
        exact ol_nil ⟨Fz12, hW18, g2, p2, ho19⟩
      exact Ref.ret (fun s ρ w h => ⟨s, rfl, h⟩)
    · exact Ref.skip
  refine Ref.seq (B := G3 w0 F0) ?_ ?_
  · refine Ref.seq (B := G4 w0 F0) ?_ ?_
    · refine Ref.region (fun s ρ w s' h hr => ?_)
      obtain ⟨F, hW, g2, h0, p2, h2⟩ := h
      refine ol_v (e_as _ rfl) rfl ?_
      obtain rfl := Option.some.inj hr
      exact ol_nil ⟨F, hW, g2, h0, p2, h2, rfl⟩
    refine Ref.block ?_
    refine Ref.loop ?_
    refine Ref.seq (B := G4 w0 F0) ?_ ?_
    · refine Ref.seq (B := G5 w0 F0) ?_ ?_
      · refine Ref.region (fun s ρ w s' h hr => ?_)
        obtain ⟨F, hW, g2, h0, p2, h2, h3⟩ := h
        refine ol_v (e_mv _ h3) rfl ?_
        refine ol_v (e_mv _ rfl) rfl ?_
        obtain ⟨A20, c21, e22, hc23, R24⟩ := id h0
        refine ol_v (e_len (SlT.sl sl_22) e22) rfl ?_
        refine ol_v (e_lss rfl rfl) rfl ?_
        obtain rfl := Option.some.inj hr
        exact ol_nil ⟨F, hW, g2, h0, p2, h2, h3, rfl⟩
      refine Ref.cond (b := fun s => s.t_13) (fun s ρ w ⟨F, hW, g2, h0, p2, h2, h3, h13⟩ => h13) (Ref.pre (A := G4 w0 F0) ?_ (fun s ρ w h => (fun ⟨F, hW, g2, h0, p2, h2, h3, h13⟩ => ⟨F, hW, g2, h0, p2, h2, h3⟩ : G5 w0 F0 s ρ w → G4 w0 F0 s ρ w) h.2)) (Ref.pre (A := G3 w0 F0) ?_ (fun s ρ w h => (fun ⟨F, hW, g2, h0, p2, h2, h3, h13⟩ => ⟨F, hW, g2, p2, h2⟩ : G5 w0 F0 s ρ w → G3 w0 F0 s ρ w) h.2))
      · exact Ref.skip
      · exact Ref.exit (fun s ρ w h => h)
    refine Ref.seq (B := G4 w0 F0) ?_ ?_
    · refine Ref.block ?_
      refine Ref.seq (B := G6 w0 F0) ?_ ?_
      · refine Ref.region (fun s ρ w s' h hr => ?_)
        obtain ⟨F, hW, g2, h0, p2, h2, h3⟩ := h
        refine ol_v (e_mv _ rfl) rfl ?_
        refine ol_v (e_mv _ h3) rfl ?_
        obtain ⟨x25, hx25, hr⟩ := bind_some' hr
        obtain ⟨A26, c27, e28, hc29, R30⟩ := id h0
        obtain ⟨b31, o32, hA33, L34⟩ := Row.at_ R30 hx25
        refine ol_v (e_ix (SlT.sl sl_22) (SlT.sz sl_22) hA33 hx25 e28 rfl) rfl ?_
        obtain ⟨v35, hl36⟩ := LiesAt.v L34.at_
        refine ol_v (e_ld ty_56 hl36 rfl) rfl ?_
        refine ol_e (f_alloc zer_56 hW) rfl rfl ?_
        rintro _ w38 ⟨g37, rfl, kw1, ho39⟩
        have hW40 := hW.trans kw1
        have st1 := kw1.stp hW.ok
        refine ol_eN (f_stB hW40 (ho39.base (row := nrow) hW.le) (FldS.whole _) ty_56 (hl36.val.keep st1) rfl rfl) rfl ?_
        rintro - w41 ⟨hW42, ho43, hg2, st2⟩
        obtain rfl := Option.some.inj hr
        exact ol_nil ⟨F, hW42, g2, g37, (h0.keep (st1.trans st2)), p2, ((h2.wk kw1 hW.ok).mut (apart_bb (ho39.base (row := nrow) hW.le) (h2.wk kw1 hW.ok) rfl) hg2 st2), h3, rfl, ho43⟩
      refine Ref.seq (B := G6 w0 F0) ?_ ?_
      · refine Ref.seq (B := G7 w0 F0) ?_ ?_
        · refine Ref.region (fun s ρ w s' h hr => ?_)
          obtain ⟨F, hW, g2, g4, h0, p2, h2, h3, p4, h4⟩ := h
          refine ol_v (e_fa fa_56_0 p4) rfl ?_
          obtain ⟨v44, hl45, hs46⟩ := LiesV.sl ((h4).at_.fld fl_Commit_0)
          refine ol_v (e_ld ty_23 hl45 rfl) rfl ?_
          obtain ⟨A47, c48, e49, hc50, R51⟩ := id hs46
          refine ol_v (e_len (SlT.sl sl_23) e49) rfl ?_
          refine ol_v (e_gtr rfl rfl) rfl ?_
          obtain rfl := Option.some.inj hr
          exact ol_nil ⟨F, hW, g2, g4, h0, p2, h2, h3, p4, h4, rfl⟩
        refine Ref.cond (b := fun s => s.t_23) (fun s ρ w ⟨F, hW, g2, g4, h0, p2, h2, h3, p4, h4, h23⟩ => h23) (Ref.pre (A := G8 w0 F0) ?_ (fun s ρ w h => (fun ⟨F, hW, g2, g4, h0, p2, h2, h3, p4, h4, h23⟩ => ⟨F, hW, g2, p2, h2, h3⟩ : G7 w0 F0 s ρ w → G8 w0 F0 s ρ w) h.2)) (Ref.pre (A := G6 w0 F0) ?_ (fun s ρ w h => (fun ⟨F, hW, g2, g4, h0, p2, h2, h3, p4, h4, h23⟩ => ⟨F, hW, g2, g4, h0, p2, h2, h3, p4, h4⟩ : G7 w0 F0 s ρ w → G6 w0 F0 s ρ w) h.2))
        · refine Ref.seq (B := G3 w0 F0) ?_ ?_
          · refine Ref.region (fun s ρ w s' h hr => ?_)
            obtain ⟨F, hW, g2, p2, h2, h3⟩ := h
            refine ol_v (e_mv _ h3) rfl ?_
            obtain ⟨x52, hx52, hr⟩ := bind_some' hr
            refine ol_e (f_call [.int .i64 (2 : Int), .int .i64 s.t_3] fn_15 (lcons rfl (lcons rfl rfl)) (ref3_Fault.calls hW.ok (2 : Int) s.t_3 hx52)) rfl rfl ?_
            rintro v55 w53 ⟨Fz54, _, rfl, kw1, hk56⟩
            have hW58 := hW.trans kw1
            have st1 := kw1.stp hW.ok
            refine ol_eN (f_stB hW58 (h2.wk kw1 hW.ok) (FldS.whole _) ty_26 hk56 p2 rfl) rfl ?_
            rintro - w59 ⟨hW60, ho61, hg2, st2⟩
            obtain rfl := Option.some.inj hr
            exact ol_nil ⟨Fz54, hW60, g2, p2, ho61⟩
          exact Ref.ret (fun s ρ w h => ⟨s, rfl, h⟩)
        · exact Ref.skip
      refine Ref.seq (B := G6 w0 F0) ?_ ?_
      · refine Ref.seq (B := G9 w0 F0) ?_ ?_
        · refine Ref.region (fun s ρ w s' h hr => ?_)
          obtain ⟨F, hW, g2, g4, h0, p2, h2, h3, p4, h4⟩ := h
          refine ol_v (e_as _ rfl) rfl ?_
          obtain rfl := Option.some.inj hr
          exact ol_nil ⟨F, hW, g2, g4, h0, p2, h2, h3, p4, h4, rfl⟩
        refine Ref.block ?_
        refine Ref.loop ?_
        refine Ref.seq (B := G9 w0 F0) ?_ ?_
        · refine Ref.seq (B := G10 w0 F0) ?_ ?_
          · refine Ref.region (fun s ρ w s' h hr => ?_)
            obtain ⟨F, hW, g2, g4, h0, p2, h2, h3, p4, h4, h5⟩ := h
            refine ol_v (e_mv _ h5) rfl ?_
            refine ol_v (e_fa fa_56_0 p4) rfl ?_
            obtain ⟨v62, hl63, hs64⟩ := LiesV.sl ((h4).at_.fld fl_Commit_0)
            refine ol_v (e_ld ty_23 hl63 rfl) rfl ?_
            obtain ⟨A65, c66, e67, hc68, R69⟩ := id hs64
            refine ol_v (e_len (SlT.sl sl_23) e67) rfl ?_
            refine ol_v (e_lss rfl rfl) rfl ?_
            obtain rfl := Option.some.inj hr
            exact ol_nil ⟨F, hW, g2, g4, h0, p2, h2, h3, p4, h4, h5, rfl⟩
          refine Ref.cond (b := fun s => s.t_30) (fun s ρ w ⟨F, hW, g2, g4, h0, p2, h2, h3, p4, h4, h5, h30⟩ => h30) (Ref.pre (A := G9 w0 F0) ?_ (fun s ρ w h => (fun ⟨F, hW, g2, g4, h0, p2, h2, h3, p4, h4, h5, h30⟩ => ⟨F, hW, g2, g4, h0, p2, h2, h3, p4, h4, h5⟩ : G10 w0 F0 s ρ w → G9 w0 F0 s ρ w) h.2)) (Ref.pre (A := G6 w0 F0) ?_ (fun s ρ w h => (fun ⟨F, hW, g2, g4, h0, p2, h2, h3, p4, h4, h5, h30⟩ => ⟨F, hW, g2, g4, h0, p2, h2, h3, p4, h4⟩ : G10 w0 F0 s ρ w → G6 w0 F0 s ρ w) h.2))
          · exact Ref.skip
          · exact Ref.exit (fun s ρ w h => h)
        refine Ref.seq (B := G9 w0 F0) ?_ ?_
        · refine Ref.block ?_
          refine Ref.seq (B := G9 w0 F0) ?_ ?_
          · refine Ref.seq (B := G11 w0 F0) ?_ ?_
            · refine Ref.region (fun s ρ w s' h hr => ?_)
              obtain ⟨F, hW, g2, g4, h0, p2, h2, h3, p4, h4, h5⟩ := h
              refine ol_v (e_fa fa_56_0 p4) rfl ?_
              obtain ⟨v70, hl71, hs72⟩ := LiesV.sl ((h4).at_.fld fl_Commit_0)
              refine ol_v (e_ld ty_23 hl71 rfl) rfl ?_
              refine ol_v (e_mv _ h5) rfl ?_
              obtain ⟨x73, hx73, hr⟩ := bind_some' hr
              obtain ⟨A74, c75, e76, hc77, R78⟩ := id hs72
              obtain ⟨b79, o80, hA81, L82⟩ := Row.at_ R78 hx73
              refine ol_v (e_ix (SlT.sl sl_23) (SlT.sz sl_23) hA81 hx73 e76 rfl) rfl ?_
              refine ol_v (e_ld ty_3 (LiesV.int L82.at_) rfl) rfl ?_
              refine ol_v (e_mv _ h3) rfl ?_
              refine ol_v (e_sub rfl rfl) rfl ?_
              obtain ⟨x83, hx83, hr⟩ := bind_some' hr
              refine ol_e (f_call [.int .i64 x73, .int .i64 (0 : Int), .int .i64 (w64 (s.t_3 - (1 : Int)))] fn_16 (lcons rfl (lcons rfl (lcons rfl rfl))) (ref3_In.calls hW.ok x73 (0 : Int) (w64 (s.t_3 - (1 : Int))) hx83)) rfl rfl ?_
              rintro _ w84 ⟨Fz85, rfl, kw1⟩
              have hW87 := hW.trans kw1
              have st1 := kw1.stp hW.ok
              refine ol_v (e_not_ rfl) rfl ?_
              obtain rfl := Option.some.inj hr
              exact ol_nil ⟨Fz85, hW87, g2, g4, (h0.keep st1), p2, (h2.wk kw1 hW.ok), h3, p4, (h4.wk kw1 hW.ok), h5, rfl⟩
            refine Ref.cond (b := fun s => s.t_41) (fun s ρ w ⟨F, hW, g2, g4, h0, p2, h2, h3, p4, h4, h5, h41⟩ => h41) (Ref.pre (A := G8 w0 F0) ?_ (fun s ρ w h => (fun ⟨F, hW, g2, g4, h0, p2, h2, h3, p4, h4, h5, h41⟩ => ⟨F, hW, g2, p2, h2, h3⟩ : G11 w0 F0 s ρ w → G8 w0 F0 s ρ w) h.2)) (Ref.pre (A := G9 w0 F0) ?_ (fun s ρ w h => (fun ⟨F, hW, g2, g4, h0, p2, h2, h3, p4, h4, h5, h41⟩ => ⟨F, hW, g2, g4, h0, p2, h2, h3, p4, h4, h5⟩ : G11 w0 F0 s ρ w → G9 w0 F0 s ρ w) h.2))
            · refine Ref.seq (B := G3 w0 F0) ?_ ?_
              · refine Ref.region (fun s ρ w s' h hr => ?_)
                obtain ⟨F, hW, g2, p2, h2, h3⟩ := h
                refine ol_v (e_mv _ h3) rfl ?_
                obtain ⟨x88, hx88, hr⟩ := bind_some' hr
                refine ol_e (f_call [.int .i64 (3 : Int), .int .i64 s.t_3] fn_15 (lcons rfl (lcons rfl rfl)) (ref3_Fault.calls hW.ok (3 : Int) s.t_3 hx88)) rfl rfl ?_
                rintro v91 w89 ⟨Fz90, _, rfl, kw1, hk92⟩
                have hW94 := hW.trans kw1
                have st1 := kw1.stp hW.ok
                refine ol_eN (f_stB hW94 (h2.wk kw1 hW.ok) (FldS.whole _) ty_26 hk92 p2 rfl) rfl ?_
                rintro - w95 ⟨hW96, ho97, hg2, st2⟩
                obtain rfl := Option.some.inj hr
                exact ol_nil ⟨Fz90, hW96, g2, p2, ho97⟩
              exact Ref.ret (fun s ρ w h => ⟨s, rfl, h⟩)
            · exact Ref.skip
          refine Ref.seq (B := G12 w0 F0) ?_ ?_
          · refine Ref.regionS (by kernel_rfl) (by kernel_rfl) (fun s ρ w ⟨F, hW, g2, g4, h0, p2, h2, h3, p4, h4, h5⟩ => ⟨F, hW.drewS, g2, g4, h0.keep (sd hW), p2, h2.wk (Wk.drew (row := nrow) hW.ok) hW.ok, h3, p4, h4.wk (Wk.drew (row := nrow) hW.ok) hW.ok, h5⟩) (fun s ρ w s' h hr => ?_)
            obtain ⟨F, hW, g2, g4, h0, p2, h2, h3, p4, h4, h5⟩ := h
            refine ol_v (e_mv _ h5) rfl ?_
            refine ol_v (e_gtr rfl rfl) rfl ?_
            obtain ⟨x126, hx127, hr⟩ := bind_some' hr
            refine ol_cutA 14 46 59 (fun ρ' w' => w = w' ∧ ρ' 59 = .bool x126) rfl ?_ ?_
            · by_cases hb98 : (decide ((0 : Int) < s.t_5)) = true
              · have hr := hx127
                rw [if_pos hb98] at hr
                refine ol_v (e_mv _ rfl) rfl ?_
                refine ol_yes rfl rfl (congrArg Value.bool hb98) ?_
                refine ol_v (e_fa fa_56_0 p4) rfl ?_
                refine ol_yes rfl rfl (congrArg Value.bool hb98) ?_
                obtain ⟨v100, hl101, hs102⟩ := LiesV.sl ((h4).at_.fld fl_Commit_0)
                refine ol_v (e_ld ty_23 hl101 rfl) rfl ?_
                refine ol_yes rfl rfl (congrArg Value.bool hb98) ?_
                refine ol_v (e_mv _ h5) rfl ?_
                refine ol_yes rfl rfl (congrArg Value.bool hb98) ?_
                obtain ⟨x103, hx103, hr⟩ := bind_some' hr
                obtain ⟨A104, c105, e106, hc107, R108⟩ := id hs102
                obtain ⟨b109, o110, hA111, L112⟩ := Row.at_ R108 hx103
                refine ol_v (e_ix (SlT.sl sl_23) (SlT.sz sl_23) hA111 hx103 e106 rfl) rfl ?_
                refine ol_yes rfl rfl (congrArg Value.bool hb98) ?_
                refine ol_v (e_ld ty_3 (LiesV.int L112.at_) rfl) rfl ?_
                refine ol_yes rfl rfl (congrArg Value.bool hb98) ?_
                refine ol_v (e_fa fa_56_0 p4) rfl ?_
                refine ol_yes rfl rfl (congrArg Value.bool hb98) ?_
                obtain ⟨v113, hl114, hs115⟩ := LiesV.sl ((h4).at_.fld fl_Commit_0)
                refine ol_v (e_ld ty_23 hl114 rfl) rfl ?_
                refine ol_yes rfl rfl (congrArg Value.bool hb98) ?_
                refine ol_v (e_mv _ h5) rfl ?_
                refine ol_yes rfl rfl (congrArg Value.bool hb98) ?_
                refine ol_v (e_sub rfl rfl) rfl ?_
                refine ol_yes rfl rfl (congrArg Value.bool hb98) ?_
                obtain ⟨x116, hx116, hr⟩ := bind_some' hr
                obtain ⟨A117, c118, e119, hc120, R121⟩ := id hs115
                obtain ⟨b122, o123, hA124, L125⟩ := Row.at_ R121 hx116
                refine ol_v (e_ix (SlT.sl sl_23) (SlT.sz sl_23) hA124 hx116 e119 rfl) rfl ?_
                refine ol_yes rfl rfl (congrArg Value.bool hb98) ?_
                refine ol_v (e_ld ty_3 (LiesV.int L125.at_) rfl) rfl ?_
                refine ol_yes rfl rfl (congrArg Value.bool hb98) ?_
                refine ol_v (e_leq rfl rfl) rfl ?_
                refine ol_v (e_pick true _ (congrArg Value.bool hb98) rfl) rfl ?_
                exact ol_nil ⟨⟨rfl, (congrArg Value.bool (Option.some.inj hr))⟩, (((((((((((((((Agr.refl _ _ _).upd rfl rfl).upd rfl rfl).upd rfl rfl).upd rfl rfl).upd rfl rfl).upd rfl rfl).upd rfl rfl).upd rfl rfl).upd rfl rfl).upd rfl rfl).upd rfl rfl).upd rfl rfl).upd rfl rfl).upd rfl rfl)⟩
              · have hb99 := Bool.eq_false_iff.mpr hb98
                have hr := hx127
                rw [if_neg hb98] at hr
                refine ol_v (e_mv _ rfl) rfl ?_
                refine ol_not rfl rfl rfl (congrArg Value.bool hb99) rfl ?_
                refine ol_not rfl rfl rfl (congrArg Value.bool hb99) rfl ?_
                refine ol_not rfl rfl rfl (congrArg Value.bool hb99) rfl ?_
                refine ol_not rfl rfl rfl (congrArg Value.bool hb99) rfl ?_
                refine ol_not rfl rfl rfl (congrArg Value.bool hb99) rfl ?_
                refine ol_not rfl rfl rfl (congrArg Value.bool hb99) rfl ?_
                refine ol_not rfl rfl rfl (congrArg Value.bool hb99) rfl ?_
                refine ol_not rfl rfl rfl (congrArg Value.bool hb99) rfl ?_
                refine ol_not rfl rfl rfl (congrArg Value.bool hb99) rfl ?_
                refine ol_not rfl rfl rfl (congrArg Value.bool hb99) rfl ?_
                refine ol_not rfl rfl rfl (congrArg Value.bool hb99) rfl ?_
                refine ol_not rfl rfl rfl (congrArg Value.bool hb99) rfl ?_
                refine ol_v (e_pick false _ (congrArg Value.bool hb99) rfl) rfl ?_
                exact ol_nil ⟨⟨rfl, (congrArg Value.bool (Option.some.inj hr))⟩, (((((((((((((((Agr.refl _ _ _).upd rfl rfl).upd rfl rfl).upd rfl rfl).upd rfl rfl).upd rfl rfl).upd rfl rfl).upd rfl rfl).upd rfl rfl).upd rfl rfl).upd rfl rfl).upd rfl rfl).upd rfl rfl).upd rfl rfl).upd rfl rfl)⟩
            rintro ρ127 _ ⟨⟨rfl, hp127⟩, hAg127⟩
            obtain rfl := Option.some.inj hr
            exact ol_nil ⟨F, hW, g2, g4, (SlR.eqv (hAg127 0 rfl) h0), ((hAg127 2 rfl).trans p2), h2, ((hAg127 3 rfl).trans h3), ((hAg127 4 rfl).trans p4), h4, ((hAg127 5 rfl).trans h5), hp127⟩
          refine Ref.cond (b := fun s => s.t_59) (fun s ρ w ⟨F, hW, g2, g4, h0, p2, h2, h3, p4, h4, h5, h59⟩ => h59) (Ref.pre (A := G8 w0 F0) ?_ (fun s ρ w h => (fun ⟨F, hW, g2, g4, h0, p2, h2, h3, p4, h4, h5, h59⟩ => ⟨F, hW, g2, p2, h2, h3⟩ : G12 w0 F0 s ρ w → G8 w0 F0 s ρ w) h.2)) (Ref.pre (A := G9 w0 F0) ?_ (fun s ρ w h => (fun ⟨F, hW, g2, g4, h0, p2, h2, h3, p4, h4, h5, h59⟩ => ⟨F, hW, g2, g4, h0, p2, h2, h3, p4, h4, h5⟩ : G12 w0 F0 s ρ w → G9 w0 F0 s ρ w) h.2))
          · refine Ref.seq (B := G3 w0 F0) ?_ ?_
            · refine Ref.region (fun s ρ w s' h hr => ?_)
              obtain ⟨F, hW, g2, p2, h2, h3⟩ := h
              refine ol_v (e_mv _ h3) rfl ?_
              obtain ⟨x128, hx128, hr⟩ := bind_some' hr
              refine ol_e (f_call [.int .i64 (5 : Int), .int .i64 s.t_3] fn_15 (lcons rfl (lcons rfl rfl)) (ref3_Fault.calls hW.ok (5 : Int) s.t_3 hx128)) rfl rfl ?_
              rintro v131 w129 ⟨Fz130, _, rfl, kw1, hk132⟩
              have hW134 := hW.trans kw1
              have st1 := kw1.stp hW.ok
              refine ol_eN (f_stB hW134 (h2.wk kw1 hW.ok) (FldS.whole _) ty_26 hk132 p2 rfl) rfl ?_
              rintro - w135 ⟨hW136, ho137, hg2, st2⟩
              obtain rfl := Option.some.inj hr
              exact ol_nil ⟨Fz130, hW136, g2, p2, ho137⟩
            exact Ref.ret (fun s ρ w h => ⟨s, rfl, h⟩)
          · exact Ref.skip
        refine Ref.region (fun s ρ w s' h hr => ?_)
        obtain ⟨F, hW, g2, g4, h0, p2, h2, h3, p4, h4, h5⟩ := h
        refine ol_v (e_mv _ h5) rfl ?_
        refine ol_v (e_add rfl rfl) rfl ?_
        refine ol_v (e_as _ rfl) rfl ?_
        obtain rfl := Option.some.inj hr
        exact ol_nil ⟨F, hW, g2, g4, h0, p2, h2, h3, p4, h4, rfl⟩
      refine Ref.seq (B := G6 w0 F0) ?_ ?_
      · refine Ref.seq (B := G13 w0 F0) ?_ ?_
        · refine Ref.region (fun s ρ w s' h hr => ?_)
          obtain ⟨F, hW, g2, g4, h0, p2, h2, h3, p4, h4⟩ := h
          refine ol_v (e_fa fa_56_1 p4) rfl ?_
          refine ol_v (e_ld ty_3 (LiesV.int ((h4).at_.fld fl_Commit_1)) rfl) rfl ?_
          obtain ⟨x138, hx138, hr⟩ := bind_some' hr
          refine ol_e (f_call [.int .i64 s.t_4.Author, .int .i64 (0 : Int), .int .i64 (7 : Int)] fn_16 (lcons rfl (lcons rfl (lcons rfl rfl))) (ref3_In.calls hW.ok s.t_4.Author (0 : Int) (7 : Int) hx138)) rfl rfl ?_
          rintro _ w139 ⟨Fz140, rfl, kw1⟩
          have hW142 := hW.trans kw1
          have st1 := kw1.stp hW.ok
          refine ol_v (e_not_ rfl) rfl ?_
          obtain ⟨x150, hx151, hr⟩ := bind_some' hr
          refine ol_cutA 6 66 71 (fun ρ' w' => ∃ F', Wk nrow w139 Fz140 F' w' ∧ ρ' 71 = .bool x150) rfl ?_ ?_
          · by_cases hb143 : (!x138) = true
            · have hr := hx151
              rw [if_pos hb143] at hr
              refine ol_v (e_mv _ rfl) rfl ?_
              refine ol_not rfl rfl rfl (congrArg Value.bool hb143) rfl ?_
              refine ol_not rfl rfl rfl (congrArg Value.bool hb143) rfl ?_
              refine ol_not rfl rfl rfl (congrArg Value.bool hb143) rfl ?_
              refine ol_not rfl rfl rfl (congrArg Value.bool hb143) rfl ?_
              refine ol_v (e_pick true _ (congrArg Value.bool hb143) rfl) rfl ?_
              exact ol_nil ⟨⟨_, Wk.refl hW142.ok, (congrArg Value.bool (Option.some.inj hr))⟩, (((((((Agr.refl _ _ _).upd rfl rfl).upd rfl rfl).upd rfl rfl).upd rfl rfl).upd rfl rfl).upd rfl rfl)⟩
            · have hb144 := Bool.eq_false_iff.mpr hb143
              have hr := hx151
              rw [if_neg hb143] at hr
              refine ol_v (e_mv _ rfl) rfl ?_
              refine ol_yes rfl rfl (congrArg Value.bool hb144) ?_
              refine ol_v (e_fa fa_56_2 p4) rfl ?_
              refine ol_yes rfl rfl (congrArg Value.bool hb144) ?_
              refine ol_v (e_ld ty_3 (LiesV.int (((h4.wk kw1 hW.ok)).at_.fld fl_Commit_2)) rfl) rfl ?_
              refine ol_yes rfl rfl (congrArg Value.bool hb144) ?_
              obtain ⟨x145, hx145, hr⟩ := bind_some' hr
              refine ol_e (f_call [.int .i64 s.t_4.Time, .int .i64 (0 : Int), .int .i64 (100000 : Int)] fn_16 (lcons rfl (lcons rfl (lcons rfl rfl))) (ref3_In.calls hW142.ok s.t_4.Time (0 : Int) (100000 : Int) hx145)) rfl rfl ?_
              rintro _ w146 ⟨Fz147, rfl, kw2⟩
              have hW149 := hW142.trans kw2
              have st2 := kw2.stp hW142.ok
              refine ol_yes rfl rfl (congrArg Value.bool hb144) ?_
              refine ol_v (e_not_ rfl) rfl ?_
              refine ol_v (e_pick false _ (congrArg Value.bool hb144) rfl) rfl ?_
              exact ol_nil ⟨⟨_, kw2, (congrArg Value.bool (Option.some.inj hr))⟩, (((((((Agr.refl _ _ _).upd rfl rfl).upd rfl rfl).upd rfl rfl).upd rfl rfl).upd rfl rfl).upd rfl rfl)⟩
          rintro ρ151 w152 ⟨⟨Fz153, kw2, hp151⟩, hAg151⟩
          have hW154 := hW142.trans kw2
          have st2 := kw2.stp hW142.ok
          obtain ⟨x162, hx163, hr⟩ := bind_some' hr
          refine ol_cutA 6 72 77 (fun ρ' w' => ∃ F', Wk nrow w152 Fz153 F' w' ∧ ρ' 77 = .bool x162) rfl ?_ ?_
          · by_cases hb155 : x150 = true
            · have hr := hx163
              rw [if_pos hb155] at hr
              refine ol_v (e_mv _ hp151) rfl ?_
              refine ol_not rfl rfl rfl (congrArg Value.bool hb155) rfl ?_
              refine ol_not rfl rfl rfl (congrArg Value.bool hb155) rfl ?_
              refine ol_not rfl rfl rfl (congrArg Value.bool hb155) rfl ?_
              refine ol_not rfl rfl rfl (congrArg Value.bool hb155) rfl ?_
              refine ol_v (e_pick true _ (congrArg Value.bool hb155) rfl) rfl ?_
              exact ol_nil ⟨⟨_, Wk.refl hW154.ok, (congrArg Value.bool (Option.some.inj hr))⟩, (((((((Agr.refl _ _ _).upd rfl rfl).upd rfl rfl).upd rfl rfl).upd rfl rfl).upd rfl rfl).upd rfl rfl)⟩
            · have hb156 := Bool.eq_false_iff.mpr hb155
              have hr := hx163
              rw [if_neg hb155] at hr
              refine ol_v (e_mv _ hp151) rfl ?_
              refine ol_yes rfl rfl (congrArg Value.bool hb156) ?_
              refine ol_v (e_fa fa_56_3 ((hAg151 4 rfl).trans p4)) rfl ?_
              refine ol_yes rfl rfl (congrArg Value.bool hb156) ?_
              refine ol_v (e_ld ty_3 (LiesV.int ((((h4.wk kw1 hW.ok).wk kw2 hW142.ok)).at_.fld fl_Commit_3)) rfl) rfl ?_
              refine ol_yes rfl rfl (congrArg Value.bool hb156) ?_
              obtain ⟨x157, hx157, hr⟩ := bind_some' hr
              refine ol_e (f_call [.int .i64 s.t_4.Tree] fn_37 (lcons rfl rfl) (ref3_isDigest.calls hW154.ok s.t_4.Tree hx157)) rfl rfl ?_
              rintro _ w158 ⟨Fz159, rfl, kw3⟩
              have hW161 := hW154.trans kw3
              have st3 := kw3.stp hW154.ok
              refine ol_yes rfl rfl (congrArg Value.bool hb156) ?_
              refine ol_v (e_not_ rfl) rfl ?_
              refine ol_v (e_pick false _ (congrArg Value.bool hb156) rfl) rfl ?_
              exact ol_nil ⟨⟨_, kw3, (congrArg Value.bool (Option.some.inj hr))⟩, (((((((Agr.refl _ _ _).upd rfl rfl).upd rfl rfl).upd rfl rfl).upd rfl rfl).upd rfl rfl).upd rfl rfl)⟩
          rintro ρ163 w164 ⟨⟨Fz165, kw3, hp163⟩, hAg163⟩
          have hW166 := hW154.trans kw3
          have st3 := kw3.stp hW154.ok
          obtain rfl := Option.some.inj hr
          exact ol_nil ⟨Fz165, hW166, g2, g4, (SlR.eqv ((hAg163 0 rfl).trans (hAg151 0 rfl)) (h0.keep (st1.trans (st2.trans st3)))), ((hAg163 2 rfl).trans ((hAg151 2 rfl).trans p2)), (((h2.wk kw1 hW.ok).wk kw2 hW142.ok).wk kw3 hW154.ok), ((hAg163 3 rfl).trans ((hAg151 3 rfl).trans h3)), ((hAg163 4 rfl).trans ((hAg151 4 rfl).trans p4)), (((h4.wk kw1 hW.ok).wk kw2 hW142.ok).wk kw3 hW154.ok), hp163⟩
        refine Ref.cond (b := fun s => s.t_77) (fun s ρ w ⟨F, hW, g2, g4, h0, p2, h2, h3, p4, h4, h77⟩ => h77) (Ref.pre (A := G8 w0 F0) ?_ (fun s ρ w h => (fun ⟨F, hW, g2, g4, h0, p2, h2, h3, p4, h4, h77⟩ => ⟨F, hW, g2, p2, h2, h3⟩ : G13 w0 F0 s ρ w → G8 w0 F0 s ρ w) h.2)) (Ref.pre (A := G6 w0 F0) ?_ (fun s ρ w h => (fun ⟨F, hW, g2, g4, h0, p2, h2, h3, p4, h4, h77⟩ => ⟨F, hW, g2, g4, h0, p2, h2, h3, p4, h4⟩ : G13 w0 F0 s ρ w → G6 w0 F0 s ρ w) h.2))
        · refine Ref.seq (B := G3 w0 F0) ?_ ?_
          · refine Ref.region (fun s ρ w s' h hr => ?_)
            obtain ⟨F, hW, g2, p2, h2, h3⟩ := h
            refine ol_v (e_mv _ h3) rfl ?_
            obtain ⟨x167, hx167, hr⟩ := bind_some' hr
            refine ol_e (f_call [.int .i64 (3 : Int), .int .i64 s.t_3] fn_15 (lcons rfl (lcons rfl rfl)) (ref3_Fault.calls hW.ok (3 : Int) s.t_3 hx167)) rfl rfl ?_
            rintro v170 w168 ⟨Fz169, _, rfl, kw1, hk171⟩
            have hW173 := hW.trans kw1
            have st1 := kw1.stp hW.ok
            refine ol_eN (f_stB hW173 (h2.wk kw1 hW.ok) (FldS.whole _) ty_26 hk171 p2 rfl) rfl ?_
            rintro - w174 ⟨hW175, ho176, hg2, st2⟩
            obtain rfl := Option.some.inj hr
            exact ol_nil ⟨Fz169, hW175, g2, p2, ho176⟩
          exact Ref.ret (fun s ρ w h => ⟨s, rfl, h⟩)
        · exact Ref.skip
      refine Ref.seq (B := G14 w0 F0) ?_ ?_
      · refine Ref.region (fun s ρ w s' h hr => ?_)
        obtain ⟨F, hW, g2, g4, h0, p2, h2, h3, p4, h4⟩ := h
        refine ol_v (e_fa fa_56_4 p4) rfl ?_
        refine ol_v (e_ld ty_9 (LiesV.str ((h4).at_.fld fl_Commit_4)) rfl) rfl ?_
        refine ol_v (e_lenS (by kernel_rfl) rfl) rfl ?_
        refine ol_v (e_gtr rfl rfl) rfl ?_
        obtain rfl := Option.some.inj hr
        exact ol_nil ⟨F, hW, g2, h0, p2, h2, h3, rfl⟩
      refine Ref.cond (b := fun s => s.t_83) (fun s ρ w ⟨F, hW, g2, h0, p2, h2, h3, h83⟩ => h83) (Ref.pre (A := G8 w0 F0) ?_ (fun s ρ w h => (fun ⟨F, hW, g2, h0, p2, h2, h3, h83⟩ => ⟨F, hW, g2, p2, h2, h3⟩ : G14 w0 F0 s ρ w → G8 w0 F0 s ρ w) h.2)) (Ref.pre (A := G4 w0 F0) ?_ (fun s ρ w h => (fun ⟨F, hW, g2, h0, p2, h2, h3, h83⟩ => ⟨F, hW, g2, h0, p2, h2, h3⟩ : G14 w0 F0 s ρ w → G4 w0 F0 s ρ w) h.2))
      · refine Ref.seq (B := G3 w0 F0) ?_ ?_
        · refine Ref.region (fun s ρ w s' h hr => ?_)
          obtain ⟨F, hW, g2, p2, h2, h3⟩ := h
          refine ol_v (e_mv _ h3) rfl ?_
          obtain ⟨x177, hx177, hr⟩ := bind_some' hr
          refine ol_e (f_call [.int .i64 (10 : Int), .int .i64 s.t_3] fn_15 (lcons rfl (lcons rfl rfl)) (ref3_Fault.calls hW.ok (10 : Int) s.t_3 hx177)) rfl rfl ?_
          rintro v180 w178 ⟨Fz179, _, rfl, kw1, hk181⟩
          have hW183 := hW.trans kw1
          have st1 := kw1.stp hW.ok
          refine ol_eN (f_stB hW183 (h2.wk kw1 hW.ok) (FldS.whole _) ty_26 hk181 p2 rfl) rfl ?_
          rintro - w184 ⟨hW185, ho186, hg2, st2⟩
          obtain rfl := Option.some.inj hr
          exact ol_nil ⟨Fz179, hW185, g2, p2, ho186⟩
        exact Ref.ret (fun s ρ w h => ⟨s, rfl, h⟩)
      · exact Ref.skip
    refine Ref.region (fun s ρ w s' h hr => ?_)
    obtain ⟨F, hW, g2, h0, p2, h2, h3⟩ := h
    refine ol_v (e_mv _ h3) rfl ?_
    refine ol_v (e_add rfl rfl) rfl ?_
    refine ol_v (e_as _ rfl) rfl ?_
    obtain rfl := Option.some.inj hr
    exact ol_nil ⟨F, hW, g2, h0, p2, h2, rfl⟩
  refine Ref.seq (B := G3 w0 F0) ?_ ?_
  · refine Ref.region (fun s ρ w s' h hr => ?_)
    obtain ⟨F, hW, g2, p2, h2⟩ := h
    refine ol_v (e_bld (cells := #[.int .i64 0, .int .i64 0]) bld_26 (vs := []) rfl rfl) rfl ?_
    have hb187 : Val k_Fault F w (.agg #[.int .i64 0, .int .i64 0]) (⟨(0 : Int), (0 : Int)⟩ : Fault) := mk_Fault (val_int _ _) (val_int _ _)
    refine ol_eN (f_stB hW h2 (FldS.whole _) ty_26 hb187 p2 rfl) rfl ?_
    rintro - w188 ⟨hW189, ho190, hg1, st1⟩
    obtain rfl := Option.some.inj hr
    exact ol_nil ⟨F, hW189, g2, p2, ho190⟩
  exact Ref.ret (fun s ρ w h => ⟨s, rfl, h⟩)
def post (w : World) (F : BSet) (r : R) (v : Value) (w' : World) : Prop := ∃ (F' : BSet) (v0' : Value), v = v0' ∧ Wk nrow w F F' w' ∧ Val k_Fault F' w' v0' r
theorem calls {w : World} {F : BSet} (hok : ∀ b, F b → b < w.heap.size) {v0 : Value} {a0 : (List Commit)} (h0 : SlR k_Commit F w v0 a0) {r : R} (hf : f a0 = some r) : Calls Try.prog 14 #[v0] w fun e w' => ∃ v, e = .returned v ∧ post w F r v w' := by
  obtain ⟨c, hc, href⟩ := ref w F
  refine calls_of_ref (args := [v0]) _ Try.func14 hc rfl rfl href ?_ (retOf_some hf) ?_
  · exact ⟨F, Wk.refl hok, h0⟩
  · rintro ρ w' a ⟨s, rfl, F', hW, g2, p2, h2⟩ hF
    obtain ⟨u2, l2, k2⟩ := res_box (P := Try.prog) ty_26 h2
    refine ⟨_, run_results (rs := [.cell 2 26]) rfl hF (vs := [u2]) (⟨_, _, _, rfl, p2, l2, rfl⟩), ?_⟩
    exact ⟨F', u2, rfl, hW, k2⟩
end
end ref3_HistoryFault

namespace ref3_Has
section
def G0 (w0 : World) (F0 : BSet) (s : S) (ρ : Env) (w : World) : Prop := ∃ (F : BSet), Wk nrow w0 F0 F w ∧ SlR (kInt .i64) F w (ρ 0) s.l_0 ∧ ρ 1 = .int .i64 s.n_1
def G1 (w0 : World) (F0 : BSet) (s : S) (ρ : Env) (w : World) : Prop := ∃ (F : BSet), Wk nrow w0 F0 F w ∧ SlR (kInt .i64) F w (ρ 0) s.l_0 ∧ ρ 1 = .int .i64 s.n_1 ∧ ρ 5 = .int .i64 s.i_5
def G2 (w0 : World) (F0 : BSet) (s : S) (ρ : Env) (w : World) : Prop := ∃ (F : BSet), Wk nrow w0 F0 F w ∧ SlR (kInt .i64) F w (ρ 0) s.l_0 ∧ ρ 1 = .int .i64 s.n_1 ∧ ρ 5 = .int .i64 s.i_5 ∧ ρ 9 = .bool s.t_9
def G3 (w0 : World) (F0 : BSet) (s : S) (ρ : Env) (w : World) : Prop := ∃ (F : BSet), Wk nrow w0 F0 F w
def G4 (w0 : World) (F0 : BSet) (s : S) (ρ : Env) (w : World) : Prop := ∃ (F : BSet), Wk nrow w0 F0 F w ∧ SlR (kInt .i64) F w (ρ 0) s.l_0 ∧ ρ 1 = .int .i64 s.n_1 ∧ ρ 5 = .int .i64 s.i_5 ∧ ρ 17 = .bool s.t_17
def G5 (w0 : World) (F0 : BSet) (s : S) (ρ : Env) (w : World) : Prop := ∃ (F : BSet), Wk nrow w0 F0 F w ∧ ρ 4 = .bool s.t_4
set_option maxHeartbeats 4000000 in
set_option maxRecDepth 20000 in
theorem ref (w0 : World) (F0 : BSet) : ∃ c, Try.f33.body = some c ∧ Ref Try.prog 18 c (G0 w0 F0) body (fun _ _ _ => False) (fun _ _ _ _ => False) (fun r ρ w => ∃ s, retv s = r ∧ G5 w0 F0 s ρ w) := by
  refine ⟨_, rfl, ?_⟩
  unfold body
  refine Ref.seq (B := G0 w0 F0) ?_ ?_
  · refine Ref.region (fun s ρ w s' h hr => ?_)
    obtain ⟨F, hW, h0, h1⟩ := h
    refine ol_v (e_as _ rfl) rfl ?_
    obtain rfl := Option.some.inj hr
    exact ol_nil ⟨F, hW, h0, h1⟩
  refine Ref.seq (B := G3 w0 F0) ?_ ?_
  · refine Ref.seq (B := G1 w0 F0) ?_ ?_
    · refine Ref.region (fun s ρ w s' h hr => ?_)
      obtain ⟨F, hW, h0, h1⟩ := h
      refine ol_v (e_as _ rfl) rfl ?_
      obtain rfl := Option.some.inj hr
      exact ol_nil ⟨F, hW, h0, h1, rfl⟩
    refine Ref.block ?_
    refine Ref.loop ?_
    refine Ref.seq (B := G1 w0 F0) ?_ ?_
    · refine Ref.seq (B := G2 w0 F0) ?_ ?_
      · refine Ref.region (fun s ρ w s' h hr => ?_)
        obtain ⟨F, hW, h0, h1, h5⟩ := h
        refine ol_v (e_mv _ h5) rfl ?_
        refine ol_v (e_mv _ rfl) rfl ?_
        obtain ⟨A1, c2, e3, hc4, R5⟩ := id h0
        refine ol_v (e_len (SlT.sl sl_23) e3) rfl ?_
        refine ol_v (e_lss rfl rfl) rfl ?_
        obtain rfl := Option.some.inj hr
        exact ol_nil ⟨F, hW, h0, h1, h5, rfl⟩
      refine Ref.cond (b := fun s => s.t_9) (fun s ρ w ⟨F, hW, h0, h1, h5, h9⟩ => h9) (Ref.pre (A := G1 w0 F0) ?_ (fun s ρ w h => (fun ⟨F, hW, h0, h1, h5, h9⟩ => ⟨F, hW, h0, h1, h5⟩ : G2 w0 F0 s ρ w → G1 w0 F0 s ρ w) h.2)) (Ref.pre (A := G3 w0 F0) ?_ (fun s ρ w h => (fun ⟨F, hW, h0, h1, h5, h9⟩ => ⟨F, hW⟩ : G2 w0 F0 s ρ w → G3 w0 F0 s ρ w) h.2))
      · exact Ref.skip
      · exact Ref.exit (fun s ρ w h => h)
    refine Ref.seq (B := G1 w0 F0) ?_ ?_
    · refine Ref.block ?_
      refine Ref.seq (B := G4 w0 F0) ?_ ?_
      · refine Ref.region (fun s ρ w s' h hr => ?_)
        obtain ⟨F, hW, h0, h1, h5⟩ := h
        refine ol_v (e_mv _ rfl) rfl ?_
        refine ol_v (e_mv _ h5) rfl ?_
        obtain ⟨x6, hx6, hr⟩ := bind_some' hr
        obtain ⟨A7, c8, e9, hc10, R11⟩ := id h0
        obtain ⟨b12, o13, hA14, L15⟩ := Row.at_ R11 hx6
        refine ol_v (e_ix (SlT.sl sl_23) (SlT.sz sl_23) hA14 hx6 e9 rfl) rfl ?_
        refine ol_v (e_ld ty_3 (LiesV.int L15.at_) rfl) rfl ?_
        refine ol_v (e_mv _ h1) rfl ?_
        refine ol_v (e_eql rfl rfl) rfl ?_
        obtain rfl := Option.some.inj hr
        exact ol_nil ⟨F, hW, h0, h1, h5, rfl⟩
      refine Ref.cond (b := fun s => s.t_17) (fun s ρ w ⟨F, hW, h0, h1, h5, h17⟩ => h17) (Ref.pre (A := G3 w0 F0) ?_ (fun s ρ w h => (fun ⟨F, hW, h0, h1, h5, h17⟩ => ⟨F, hW⟩ : G4 w0 F0 s ρ w → G3 w0 F0 s ρ w) h.2)) (Ref.pre (A := G1 w0 F0) ?_ (fun s ρ w h => (fun ⟨F, hW, h0, h1, h5, h17⟩ => ⟨F, hW, h0, h1, h5⟩ : G4 w0 F0 s ρ w → G1 w0 F0 s ρ w) h.2))
      · refine Ref.seq (B := G5 w0 F0) ?_ ?_
        · refine Ref.region (fun s ρ w s' h hr => ?_)
          obtain ⟨F, hW⟩ := h
          refine ol_v (e_as _ rfl) rfl ?_
          obtain rfl := Option.some.inj hr
          exact ol_nil ⟨F, hW, rfl⟩
        exact Ref.ret (fun s ρ w h => ⟨s, rfl, h⟩)
      · exact Ref.skip
    refine Ref.region (fun s ρ w s' h hr => ?_)
    obtain ⟨F, hW, h0, h1, h5⟩ := h
    refine ol_v (e_mv _ h5) rfl ?_
    refine ol_v (e_add rfl rfl) rfl ?_
    refine ol_v (e_as _ rfl) rfl ?_
    obtain rfl := Option.some.inj hr
    exact ol_nil ⟨F, hW, h0, h1, rfl⟩
  refine Ref.seq (B := G5 w0 F0) ?_ ?_
  · refine Ref.region (fun s ρ w s' h hr => ?_)
    obtain ⟨F, hW⟩ := h
    refine ol_v (e_as _ rfl) rfl ?_
    obtain rfl := Option.some.inj hr
    exact ol_nil ⟨F, hW, rfl⟩
  exact Ref.ret (fun s ρ w h => ⟨s, rfl, h⟩)
def post (w : World) (F : BSet) (r : R) (v : Value) (w' : World) : Prop := ∃ (F' : BSet), v = .bool r ∧ Wk nrow w F F' w'
theorem calls {w : World} {F : BSet} (hok : ∀ b, F b → b < w.heap.size) {v0 : Value} {a0 : (List Int)} (h0 : SlR (kInt .i64) F w v0 a0) (a1 : Int) {r : R} (hf : f a0 a1 = some r) : Calls Try.prog 33 #[v0, .int .i64 a1] w fun e w' => ∃ v, e = .returned v ∧ post w F r v w' := by
  obtain ⟨c, hc, href⟩ := ref w F
  refine calls_of_ref (args := [v0, .int .i64 a1]) _ Try.func33 hc rfl rfl href ?_ (retOf_some hf) ?_
  · exact ⟨F, Wk.refl hok, h0, rfl⟩
  · rintro ρ w' a ⟨s, rfl, F', hW, h4⟩ hF
    refine ⟨_, run_results (rs := [.tmp 4]) rfl hF (vs := [ρ 4]) (⟨_, rfl, rfl⟩), ?_⟩
    have hv : resVal [ρ 4] = .bool s.t_4 := by rw [h4]; rfl
    exact ⟨F', hv, hW⟩
end
end ref3_Has

namespace ref4_Insert
section
def G0 (w0 : World) (F0 : BSet) (s : S) (ρ : Env) (w : World) : Prop := ∃ (F : BSet), Wk nrow w0 F0 F w ∧ SlR (kInt .i64) F w (ρ 0) s.l_0 ∧ ρ 1 = .int .i64 s.n_1
def G1 (w0 : World) (F0 : BSet) (s : S) (ρ : Env) (w : World) : Prop := ∃ (F : BSet), Wk nrow w0 F0 F w ∧ SlR (kInt .i64) F w (ρ 0) s.l_0 ∧ ρ 1 = .int .i64 s.n_1 ∧ ρ 8 = .bool s.t_8
def G2 (w0 : World) (F0 : BSet) (s : S) (ρ : Env) (w : World) : Prop := ∃ (F : BSet), Wk nrow w0 F0 F w ∧ SlR (kInt .i64) F w (ρ 0) s.l_0
def G3 (w0 : World) (F0 : BSet) (s : S) (ρ : Env) (w : World) : Prop := ∃ (F : BSet), Wk nrow w0 F0 F w ∧ SlR (kInt .i64) F w (ρ 4) s.t_4
def G4 (w0 : World) (F0 : BSet) (s : S) (ρ : Env) (w : World) : Prop := ∃ (F : BSet), Wk nrow w0 F0 F w ∧ SlR (kInt .i64) F w (ρ 0) s.l_0 ∧ ρ 1 = .int .i64 s.n_1 ∧ ρ 5 = .int .i64 s.at_5
def G5 (w0 : World) (F0 : BSet) (s : S) (ρ : Env) (w : World) : Prop := ∃ (F : BSet), Wk nrow w0 F0 F w ∧ SlR (kInt .i64) F w (ρ 0) s.l_0 ∧ ρ 1 = .int .i64 s.n_1 ∧ ρ 5 = .int .i64 s.at_5 ∧ ρ 21 = .bool s.t_21
set_option maxHeartbeats 4000000 in
set_option maxRecDepth 20000 in
theorem ref (w0 : World) (F0 : BSet) : ∃ c, Try.f38.body = some c ∧ Ref Try.prog 35 c (G0 w0 F0) body (fun _ _ _ => False) (fun _ _ _ _ => False) (fun r ρ w => ∃ s, retv s = r ∧ G3 w0 F0 s ρ w) := by
  refine ⟨_, rfl, ?_⟩
  unfold body
  refine Ref.seq (B := G0 w0 F0) ?_ ?_
  · refine Ref.region (fun s ρ w s' h hr => ?_)
    obtain ⟨F, hW, h0, h1⟩ := h
    refine ol_v (e_as _ rfl) rfl ?_
    obtain rfl := Option.some.inj hr
    exact ol_nil ⟨F, hW, h0, h1⟩
  refine Ref.seq (B := G0 w0 F0) ?_ ?_
  · refine Ref.seq (B := G1 w0 F0) ?_ ?_
    · refine Ref.region (fun s ρ w s' h hr => ?_)
      obtain ⟨F, hW, h0, h1⟩ := h
      refine ol_v (e_mv _ rfl) rfl ?_
      refine ol_v (e_mv _ h1) rfl ?_
      obtain ⟨x1, hx1, hr⟩ := bind_some' hr
      refine ol_e (f_call [(ρ 0), .int .i64 s.n_1] fn_33 (lcons rfl (lcons rfl rfl)) (ref3_Has.calls hW.ok h0 s.n_1 hx1)) rfl rfl ?_
      rintro _ w2 ⟨Fz3, rfl, kw1⟩
      have hW5 := hW.trans kw1
      have st1 := kw1.stp hW.ok
      obtain rfl := Option.some.inj hr
      exact ol_nil ⟨Fz3, hW5, (h0.keep st1), h1, rfl⟩
    refine Ref.cond (b := fun s => s.t_8) (fun s ρ w ⟨F, hW, h0, h1, h8⟩ => h8) (Ref.pre (A := G2 w0 F0) ?_ (fun s ρ w h => (fun ⟨F, hW, h0, h1, h8⟩ => ⟨F, hW, h0⟩ : G1 w0 F0 s ρ w → G2 w0 F0 s ρ w) h.2)) (Ref.pre (A := G0 w0 F0) ?_ (fun s ρ w h => (fun ⟨F, hW, h0, h1, h8⟩ => ⟨F, hW, h0, h1⟩ : G1 w0 F0 s ρ w → G0 w0 F0 s ρ w) h.2))
    · refine Ref.seq (B := G3 w0 F0) ?_ ?_
      · refine Ref.region (fun s ρ w s' h hr => ?_)
        obtain ⟨F, hW, h0⟩ := h
        refine ol_v (e_mv _ rfl) rfl ?_
        refine ol_v (e_as _ rfl) rfl ?_
        obtain rfl := Option.some.inj hr
        exact ol_nil ⟨F, hW, h0⟩
      exact Ref.ret (fun s ρ w h => ⟨s, rfl, h⟩)
    · exact Ref.skip
  refine Ref.seq (B := G4 w0 F0) ?_ ?_
  · refine Ref.region (fun s ρ w s' h hr => ?_)
    obtain ⟨F, hW, h0, h1⟩ := h
    refine ol_v (e_as _ rfl) rfl ?_
    obtain rfl := Option.some.inj hr
    exact ol_nil ⟨F, hW, h0, h1, rfl⟩
  refine Ref.seq (B := G4 w0 F0) ?_ ?_
  · refine Ref.block ?_
    refine Ref.loop ?_
    refine Ref.seq (B := G4 w0 F0) ?_ ?_
    · refine Ref.seq (B := G5 w0 F0) ?_ ?_
      · refine Ref.region (fun s ρ w s' h hr => ?_)
        obtain ⟨F, hW, h0, h1, h5⟩ := h
        refine ol_v (e_mv _ h5) rfl ?_
        refine ol_v (e_mv _ rfl) rfl ?_
        obtain ⟨A6, c7, e8, hc9, R10⟩ := id h0
        refine ol_v (e_len (SlT.sl sl_23) e8) rfl ?_
        refine ol_v (e_lss rfl rfl) rfl ?_
        obtain ⟨x23, hx24, hr⟩ := bind_some' hr
        refine ol_cutA 8 14 21 (fun ρ' w' => w = w' ∧ ρ' 21 = .bool x23) rfl ?_ ?_
        · by_cases hb11 : (decide (s.at_5 < (s.l_0.length : Int))) = true
          · have hr := hx24
            rw [if_pos hb11] at hr
            refine ol_v (e_mv _ rfl) rfl ?_
            refine ol_yes rfl rfl (congrArg Value.bool hb11) ?_
            refine ol_v (e_mv _ rfl) rfl ?_
            refine ol_yes rfl rfl (congrArg Value.bool hb11) ?_
            refine ol_v (e_mv _ h5) rfl ?_
            refine ol_yes rfl rfl (congrArg Value.bool hb11) ?_
            obtain ⟨x13, hx13, hr⟩ := bind_some' hr
            obtain ⟨A14, c15, e16, hc17, R18⟩ := id h0
            obtain ⟨b19, o20, hA21, L22⟩ := Row.at_ R18 hx13
            refine ol_v (e_ix (SlT.sl sl_23) (SlT.sz sl_23) hA21 hx13 e16 rfl) rfl ?_
            refine ol_yes rfl rfl (congrArg Value.bool hb11) ?_
            refine ol_v (e_ld ty_3 (LiesV.int L22.at_) rfl) rfl ?_
            refine ol_yes rfl rfl (congrArg Value.bool hb11) ?_
            refine ol_v (e_mv _ h1) rfl ?_
            refine ol_yes rfl rfl (congrArg Value.bool hb11) ?_
            refine ol_v (e_lss rfl rfl) rfl ?_
            refine ol_v (e_pick true _ (congrArg Value.bool hb11) rfl) rfl ?_
            exact ol_nil ⟨⟨rfl, (congrArg Value.bool (Option.some.inj hr))⟩, (((((((((Agr.refl _ _ _).upd rfl rfl).upd rfl rfl).upd rfl rfl).upd rfl rfl).upd rfl rfl).upd rfl rfl).upd rfl rfl).upd rfl rfl)⟩
          · have hb12 := Bool.eq_false_iff.mpr hb11
            have hr := hx24
            rw [if_neg hb11] at hr
            refine ol_v (e_mv _ rfl) rfl ?_
            refine ol_not rfl rfl rfl (congrArg Value.bool hb12) rfl ?_
            refine ol_not rfl rfl rfl (congrArg Value.bool hb12) rfl ?_
            refine ol_not rfl rfl rfl (congrArg Value.bool hb12) rfl ?_
            refine ol_not rfl rfl rfl (congrArg Value.bool hb12) rfl ?_
            refine ol_not rfl rfl rfl (congrArg Value.bool hb12) rfl ?_
            refine ol_not rfl rfl rfl (congrArg Value.bool hb12) rfl ?_
            refine ol_v (e_pick false _ (congrArg Value.bool hb12) rfl) rfl ?_
            exact ol_nil ⟨⟨rfl, (congrArg Value.bool (Option.some.inj hr))⟩, (((((((((Agr.refl _ _ _).upd rfl rfl).upd rfl rfl).upd rfl rfl).upd rfl rfl).upd rfl rfl).upd rfl rfl).upd rfl rfl).upd rfl rfl)⟩
        rintro ρ24 _ ⟨⟨rfl, hp24⟩, hAg24⟩
        obtain rfl := Option.some.inj hr
        exact ol_nil ⟨F, hW, (SlR.eqv (hAg24 0 rfl) h0), ((hAg24 1 rfl).trans h1), ((hAg24 5 rfl).trans h5), hp24⟩
      refine Ref.cond (b := fun s => s.t_21) (fun s ρ w ⟨F, hW, h0, h1, h5, h21⟩ => h21) (Ref.pre (A := G4 w0 F0) ?_ (fun s ρ w h => (fun ⟨F, hW, h0, h1, h5, h21⟩ => ⟨F, hW, h0, h1, h5⟩ : G5 w0 F0 s ρ w → G4 w0 F0 s ρ w) h.2)) (Ref.pre (A := G4 w0 F0) ?_ (fun s ρ w h => (fun ⟨F, hW, h0, h1, h5, h21⟩ => ⟨F, hW, h0, h1, h5⟩ : G5 w0 F0 s ρ w → G4 w0 F0 s ρ w) h.2))
      · exact Ref.skip
      · exact Ref.exit (fun s ρ w h => h)
    refine Ref.block ?_
    refine Ref.region (fun s ρ w s' h hr => ?_)
    obtain ⟨F, hW, h0, h1, h5⟩ := h
    refine ol_v (e_mv _ h5) rfl ?_
    refine ol_v (e_add rfl rfl) rfl ?_
    refine ol_v (e_as _ rfl) rfl ?_
    obtain rfl := Option.some.inj hr
    exact ol_nil ⟨F, hW, h0, h1, rfl⟩
  refine Ref.seq (B := G3 w0 F0) ?_ ?_
  · refine Ref.regionH (by kernel_rfl) (fun s ρ w ⟨F, hW, h0, h1, h5⟩ => ⟨F, hW.drewS, h0.keep (sd hW), h1, h5⟩) (fun s ρ w s' h hr => ?_)
    obtain ⟨F, hW, h0, h1, h5⟩ := h
    refine ⟨fun w' => Stp F w F w', ?_⟩
    refine oh_v 0 rfl (by kernel_rfl) (by kernel_rfl) (by kernel_rfl) (Stp.refl _ _) (fun wv_ SV => e_mv _ rfl) rfl ?_
    refine oh_v 1 rfl (by kernel_rfl) (by kernel_rfl) (by kernel_rfl) (Stp.refl _ _) (fun wv_ SV => e_mv _ h5) rfl ?_
    obtain ⟨A25, c26, e27, hc28, R29⟩ := id h0
    obtain ⟨x30, hx30, hr⟩ := bind_some' hr
    have hs31 := SlR.cutTo R29 hc28 hx30
    refine oh_v 2 rfl (by kernel_rfl) (by kernel_rfl) (by kernel_rfl) (Stp.refl _ _) (fun wv_ SV => e_slH (SlT.sl sl_23) (SlT.sz sl_23) hc28 e27 rfl hx30) rfl ?_
    refine oh_v 4 rfl (by kernel_rfl) (by kernel_rfl) (by kernel_rfl) (Stp.refl _ _) (fun wv_ SV => e_mv _ h1) rfl ?_
    refine oh_v 7 rfl (by kernel_rfl) (by kernel_rfl) (by kernel_rfl) (Stp.refl _ _) (fun wv_ SV => e_mv _ rfl) rfl ?_
    refine oh_v 8 rfl (by kernel_rfl) (by kernel_rfl) (by kernel_rfl) (Stp.refl _ _) (fun wv_ SV => e_mv _ h5) rfl ?_
    obtain ⟨A32, c33, e34, hc35, R36⟩ := id h0
    obtain ⟨x37, hx37, hr⟩ := bind_some' hr
    have hs38 := SlR.cutFrom R36 hc35 hx37
    refine oh_v 9 rfl (by kernel_rfl) (by kernel_rfl) (by kernel_rfl) (Stp.refl _ _) (fun wv_ SV => e_slL (SlT.sl sl_23) (SlT.sz sl_23) hc35 e34 rfl hx37) rfl ?_
    refine oh_all [3, 5] (by kernel_rfl) rfl ⟨?_, ?_, trivial⟩
    · obtain ⟨x39, hx39, hr⟩ := bind_some' hr
      refine oh1_e rfl (f_app sl_23 hW (OwnV.nil (kInt .i64) 3 (Bs w0 nrow) F w) hs31 hx39 rfl rfl) rfl ?_
      rintro v40 w41 ⟨hW42, ho43, hg1, st1, hor44⟩
      refine ⟨(Stp.back st1), ?_⟩
      refine oh_all [5] (by kernel_rfl) rfl ⟨?_, trivial⟩
      · refine oh1_e rfl (f_bslF sl_23 hW42 ([s.n_1] : List Int) [.int .i64 s.n_1] (by exact ⟨_, _, rfl, (val_int _ _), rfl⟩) rfl (Nat.le_of_ble_eq_true rfl) (lcons (congrArg (Prod.mk 0) rfl) rfl)) rfl ?_
        rintro v45 w46 ⟨Fz48, kw2, ho47⟩
        have hW49 := hW42.trans kw2
        have st2 := kw2.stp hW42.ok
        refine ⟨(Stp.back (st1.trans st2)), ?_⟩
        refine oh_all [6] (by kernel_rfl) rfl ⟨?_, trivial⟩
        · obtain ⟨x50, hx50, hr⟩ := bind_some' hr
          refine oh1_e rfl (f_app sl_23 hW49 (ho43.wk kw2 hW42.ok) ho47 hx50 rfl rfl) rfl ?_
          rintro v51 w52 ⟨hW53, ho54, hg3, st3, hor55⟩
          refine ⟨(Stp.back (st1.trans (st2.trans st3))), ?_⟩
          refine oh_all [10] (by kernel_rfl) rfl ⟨?_, trivial⟩
          · obtain ⟨x56, hx56, hr⟩ := bind_some' hr
            refine oh1_e rfl (f_app sl_23 hW53 ho54 (hs38.keep (st1.trans (st2.trans st3))) hx56 rfl rfl) rfl ?_
            rintro v57 w58 ⟨hW59, ho60, hg4, st4, hor61⟩
            refine ⟨(Stp.back (st1.trans (st2.trans (st3.trans st4)))), ?_⟩
            refine oh_all [11] (by kernel_rfl) rfl ⟨?_, trivial⟩
            · obtain ⟨Fz62, hWz63, st5, hF5, hz64⟩ := (ho60).frozen hW59
              refine oh1_v rfl (e_as _ rfl) rfl ?_
              refine ⟨(Stp.back (st1.trans (st2.trans (st3.trans (st4.trans st5))))), ?_⟩
              obtain rfl := Option.some.inj hr
              exact oh_done (by kernel_rfl) ⟨Fz62, hWz63, hz64⟩
    · refine oh1_e rfl (f_bslF sl_23 hW ([s.n_1] : List Int) [.int .i64 s.n_1] (by exact ⟨_, _, rfl, (val_int _ _), rfl⟩) rfl (Nat.le_of_ble_eq_true rfl) (lcons (congrArg (Prod.mk 0) rfl) rfl)) rfl ?_
      rintro v65 w66 ⟨Fz68, kw1, ho67⟩
      have hW69 := hW.trans kw1
      have st1 := kw1.stp hW.ok
      refine ⟨(Stp.back st1), ?_⟩
      refine oh_all [3] (by kernel_rfl) rfl ⟨?_, trivial⟩
      · obtain ⟨x39, hx39, hr⟩ := bind_some' hr
        refine oh1_e rfl (f_app sl_23 hW69 (OwnV.nil (kInt .i64) 3 (Bs w0 nrow) Fz68 w66) (hs31.keep st1) hx39 rfl rfl) rfl ?_
        rintro v70 w71 ⟨hW72, ho73, hg2, st2, hor74⟩
        refine ⟨(Stp.back (st1.trans st2)), ?_⟩
        refine oh_all [6] (by kernel_rfl) rfl ⟨?_, trivial⟩
        · obtain ⟨x50, hx50, hr⟩ := bind_some' hr
          refine oh1_e rfl (f_app sl_23 hW72 ho73 (ho67.keep st2) hx50 rfl rfl) rfl ?_
          rintro v75 w76 ⟨hW77, ho78, hg3, st3, hor79⟩
          refine ⟨(Stp.back (st1.trans (st2.trans st3))), ?_⟩
          refine oh_all [10] (by kernel_rfl) rfl ⟨?_, trivial⟩
          · obtain ⟨x56, hx56, hr⟩ := bind_some' hr
            refine oh1_e rfl (f_app sl_23 hW77 ho78 (hs38.keep (st1.trans (st2.trans st3))) hx56 rfl rfl) rfl ?_
            rintro v80 w81 ⟨hW82, ho83, hg4, st4, hor84⟩
            refine ⟨(Stp.back (st1.trans (st2.trans (st3.trans st4)))), ?_⟩
            refine oh_all [11] (by kernel_rfl) rfl ⟨?_, trivial⟩
            · obtain ⟨Fz85, hWz86, st5, hF5, hz87⟩ := (ho83).frozen hW82
              refine oh1_v rfl (e_as _ rfl) rfl ?_
              refine ⟨(Stp.back (st1.trans (st2.trans (st3.trans (st4.trans st5))))), ?_⟩
              obtain rfl := Option.some.inj hr
              exact oh_done (by kernel_rfl) ⟨Fz85, hWz86, hz87⟩
  exact Ref.ret (fun s ρ w h => ⟨s, rfl, h⟩)
def post (w : World) (F : BSet) (r : R) (v : Value) (w' : World) : Prop := ∃ (F' : BSet) (v0' : Value), v = v0' ∧ Wk nrow w F F' w' ∧ SlR (kInt .i64) F' w' v0' r
theorem calls {w : World} {F : BSet} (hok : ∀ b, F b → b < w.heap.size) {v0 : Value} {a0 : (List Int)} (h0 : SlR (kInt .i64) F w v0 a0) (a1 : Int) {r : R} (hf : f a0 a1 = some r) : Calls Try.prog 38 #[v0, .int .i64 a1] w fun e w' => ∃ v, e = .returned v ∧ post w F r v w' := by
  obtain ⟨c, hc, href⟩ := ref w F
  refine calls_of_ref (args := [v0, .int .i64 a1]) _ Try.func38 hc rfl rfl href ?_ (retOf_some hf) ?_
  · exact ⟨F, Wk.refl hok, h0, rfl⟩
  · rintro ρ w' a ⟨s, rfl, F', hW, h4⟩ hF
    refine ⟨_, run_results (rs := [.tmp 4]) rfl hF (vs := [ρ 4]) (⟨_, rfl, rfl⟩), ?_⟩
    exact ⟨F', ρ 4, rfl, hW, h4⟩
end
end ref4_Insert

namespace ref4_Steps
section
def G0 (w0 : World) (F0 : BSet) (s : S) (ρ : Env) (w : World) : Prop := ∃ (F : BSet), Wk nrow w0 F0 F w ∧ SlR k_Commit F w (ρ 0) s.t_0 ∧ SlR (kInt .i64) F w (ρ 1) s.t_1 ∧ ρ 2 = .int .i64 s.t_2
def G1 (w0 : World) (F0 : BSet) (s : S) (ρ : Env) (w : World) : Prop := ∃ (F : BSet), Wk nrow w0 F0 F w ∧ SlR k_Commit F w (ρ 0) s.t_0 ∧ SlR (kInt .i64) F w (ρ 1) s.t_1 ∧ ρ 2 = .int .i64 s.t_2 ∧ SlR (kInt .i64) F w (ρ 7) s.t_7
def G2 (w0 : World) (F0 : BSet) (s : S) (ρ : Env) (w : World) : Prop := ∃ (F : BSet), Wk nrow w0 F0 F w ∧ SlR k_Commit F w (ρ 0) s.t_0 ∧ SlR (kInt .i64) F w (ρ 1) s.t_1 ∧ ρ 2 = .int .i64 s.t_2 ∧ SlR (kInt .i64) F w (ρ 7) s.t_7 ∧ ρ 13 = .bool s.t_13
def G3 (w0 : World) (F0 : BSet) (s : S) (ρ : Env) (w : World) : Prop := ∃ (F : BSet), Wk nrow w0 F0 F w
def G4 (w0 : World) (F0 : BSet) (s : S) (ρ : Env) (w : World) : Prop := ∃ (F : BSet), Wk nrow w0 F0 F w ∧ SlR (kInt .i64) F w (ρ 6) s.t_6
def G5 (w0 : World) (F0 : BSet) (s : S) (ρ : Env) (w : World) : Prop := ∃ (F : BSet), Wk nrow w0 F0 F w ∧ SlR k_Commit F w (ρ 0) s.t_0 ∧ SlR (kInt .i64) F w (ρ 1) s.t_1 ∧ ρ 2 = .int .i64 s.t_2 ∧ SlR (kInt .i64) F w (ρ 7) s.t_7 ∧ ρ 8 = .int .i64 s.t_8
def G6 (w0 : World) (F0 : BSet) (s : S) (ρ : Env) (w : World) : Prop := ∃ (F : BSet), Wk nrow w0 F0 F w ∧ SlR k_Commit F w (ρ 0) s.t_0 ∧ SlR (kInt .i64) F w (ρ 1) s.t_1 ∧ ρ 2 = .int .i64 s.t_2 ∧ SlR (kInt .i64) F w (ρ 7) s.t_7 ∧ ρ 8 = .int .i64 s.t_8 ∧ ρ 17 = .bool s.t_17
def G7 (w0 : World) (F0 : BSet) (s : S) (ρ : Env) (w : World) : Prop := ∃ (F : BSet), Wk nrow w0 F0 F w ∧ SlR k_Commit F w (ρ 0) s.t_0 ∧ ρ 2 = .int .i64 s.t_2 ∧ SlR (kInt .i64) F w (ρ 7) s.t_7
def G8 (w0 : World) (F0 : BSet) (s : S) (ρ : Env) (w : World) : Prop := ∃ (F : BSet), Wk nrow w0 F0 F w ∧ SlR k_Commit F w (ρ 0) s.t_0 ∧ ρ 2 = .int .i64 s.t_2 ∧ SlR (kInt .i64) F w (ρ 7) s.t_7 ∧ ρ 27 = .bool s.t_27
def G9 (w0 : World) (F0 : BSet) (s : S) (ρ : Env) (w : World) : Prop := ∃ (F : BSet), Wk nrow w0 F0 F w ∧ SlR (kInt .i64) F w (ρ 7) s.t_7
def G10 (w0 : World) (F0 : BSet) (s : S) (ρ : Env) (w : World) : Prop := ∃ (F : BSet), Wk nrow w0 F0 F w ∧ SlR k_Commit F w (ρ 0) s.t_0 ∧ ρ 2 = .int .i64 s.t_2 ∧ SlR (kInt .i64) F w (ρ 7) s.t_7 ∧ SlR (kInt .i64) F w (ρ 9) s.t_9
def G11 (w0 : World) (F0 : BSet) (s : S) (ρ : Env) (w : World) : Prop := ∃ (F : BSet), Wk nrow w0 F0 F w ∧ SlR k_Commit F w (ρ 0) s.t_0 ∧ ρ 2 = .int .i64 s.t_2 ∧ SlR (kInt .i64) F w (ρ 7) s.t_7 ∧ SlR (kInt .i64) F w (ρ 9) s.t_9 ∧ ρ 10 = .int .i64 s.t_10
def G12 (w0 : World) (F0 : BSet) (s : S) (ρ : Env) (w : World) : Prop := ∃ (F : BSet), Wk nrow w0 F0 F w ∧ SlR k_Commit F w (ρ 0) s.t_0 ∧ ρ 2 = .int .i64 s.t_2 ∧ SlR (kInt .i64) F w (ρ 7) s.t_7 ∧ SlR (kInt .i64) F w (ρ 9) s.t_9 ∧ ρ 10 = .int .i64 s.t_10 ∧ ρ 34 = .bool s.t_34
def G13 (w0 : World) (F0 : BSet) (s : S) (ρ : Env) (w : World) : Prop := ∃ (F : BSet), Wk nrow w0 F0 F w ∧ SlR k_Commit F w (ρ 0) s.t_0 ∧ ρ 2 = .int .i64 s.t_2 ∧ SlR (kInt .i64) F w (ρ 7) s.t_7 ∧ SlR (kInt .i64) F w (ρ 9) s.t_9 ∧ ρ 10 = .int .i64 s.t_10 ∧ ρ 11 = .int .i64 s.t_11
def G14 (w0 : World) (F0 : BSet) (s : S) (ρ : Env) (w : World) : Prop := ∃ (F : BSet), Wk nrow w0 F0 F w ∧ SlR k_Commit F w (ρ 0) s.t_0 ∧ ρ 2 = .int .i64 s.t_2 ∧ SlR (kInt .i64) F w (ρ 7) s.t_7 ∧ SlR (kInt .i64) F w (ρ 9) s.t_9 ∧ ρ 10 = .int .i64 s.t_10 ∧ ρ 11 = .int .i64 s.t_11 ∧ ρ 47 = .bool s.t_47
def G15 (w0 : World) (F0 : BSet) (s : S) (ρ : Env) (w : World) : Prop := ∃ (F : BSet), Wk nrow w0 F0 F w ∧ SlR k_Commit F w (ρ 0) s.t_0 ∧ ρ 2 = .int .i64 s.t_2 ∧ SlR (kInt .i64) F w (ρ 7) s.t_7 ∧ SlR (kInt .i64) F w (ρ 9) s.t_9 ∧ ρ 67 = .bool s.t_67
def G16 (w0 : World) (F0 : BSet) (s : S) (ρ : Env) (w : World) : Prop := ∃ (F : BSet), Wk nrow w0 F0 F w ∧ SlR k_Commit F w (ρ 0) s.t_0 ∧ ρ 2 = .int .i64 s.t_2 ∧ SlR (kInt .i64) F w (ρ 9) s.t_9
set_option maxHeartbeats 4000000 in
set_option maxRecDepth 20000 in
theorem ref (w0 : World) (F0 : BSet) : ∃ c, Try.f18.body = some c ∧ Ref Try.prog 71 c (G0 w0 F0) body (fun _ _ _ => False) (fun _ _ _ _ => False) (fun r ρ w => ∃ s, retv s = r ∧ G4 w0 F0 s ρ w) := by
  refine ⟨_, rfl, ?_⟩
  unfold body
  refine Ref.seq (B := G0 w0 F0) ?_ ?_
  · refine Ref.region (fun s ρ w s' h hr => ?_)
    obtain ⟨F, hW, h0, h1, h2⟩ := h
    refine ol_v (e_as _ rfl) rfl ?_
    obtain rfl := Option.some.inj hr
    exact ol_nil ⟨F, hW, h0, h1, h2⟩
  refine Ref.seq (B := G1 w0 F0) ?_ ?_
  · refine Ref.region (fun s ρ w s' h hr => ?_)
    obtain ⟨F, hW, h0, h1, h2⟩ := h
    refine ol_v (e_as _ rfl) rfl ?_
    obtain rfl := Option.some.inj hr
    exact ol_nil ⟨F, hW, h0, h1, h2, (SlR.nil (kInt .i64) F w)⟩
  refine Ref.seq (B := G1 w0 F0) ?_ ?_
  · refine Ref.seq (B := G2 w0 F0) ?_ ?_
    · refine Ref.region (fun s ρ w s' h hr => ?_)
      obtain ⟨F, hW, h0, h1, h2, h7⟩ := h
      refine ol_v (e_mv _ h2) rfl ?_
      refine ol_v (e_lss rfl rfl) rfl ?_
      obtain rfl := Option.some.inj hr
      exact ol_nil ⟨F, hW, h0, h1, h2, h7, rfl⟩
    refine Ref.cond (b := fun s => s.t_13) (fun s ρ w ⟨F, hW, h0, h1, h2, h7, h13⟩ => h13) (Ref.pre (A := G3 w0 F0) ?_ (fun s ρ w h => (fun ⟨F, hW, h0, h1, h2, h7, h13⟩ => ⟨F, hW⟩ : G2 w0 F0 s ρ w → G3 w0 F0 s ρ w) h.2)) (Ref.pre (A := G1 w0 F0) ?_ (fun s ρ w h => (fun ⟨F, hW, h0, h1, h2, h7, h13⟩ => ⟨F, hW, h0, h1, h2, h7⟩ : G2 w0 F0 s ρ w → G1 w0 F0 s ρ w) h.2))
    · refine Ref.seq (B := G4 w0 F0) ?_ ?_
      · refine Ref.region (fun s ρ w s' h hr => ?_)
        obtain ⟨F, hW⟩ := h
        refine ol_v (e_as _ rfl) rfl ?_
        obtain rfl := Option.some.inj hr
        exact ol_nil ⟨F, hW, (SlR.nil (kInt .i64) F w)⟩
      exact Ref.ret (fun s ρ w h => ⟨s, rfl, h⟩)
    · exact Ref.skip
  refine Ref.seq (B := G7 w0 F0) ?_ ?_
  · refine Ref.seq (B := G5 w0 F0) ?_ ?_
    · refine Ref.region (fun s ρ w s' h hr => ?_)
      obtain ⟨F, hW, h0, h1, h2, h7⟩ := h
      refine ol_v (e_as _ rfl) rfl ?_
      obtain rfl := Option.some.inj hr
      exact ol_nil ⟨F, hW, h0, h1, h2, h7, rfl⟩
    refine Ref.block ?_
    refine Ref.loop ?_
    refine Ref.seq (B := G5 w0 F0) ?_ ?_
    · refine Ref.seq (B := G6 w0 F0) ?_ ?_
      · refine Ref.region (fun s ρ w s' h hr => ?_)
        obtain ⟨F, hW, h0, h1, h2, h7, h8⟩ := h
        refine ol_v (e_mv _ h8) rfl ?_
        refine ol_v (e_mv _ rfl) rfl ?_
        obtain ⟨A1, c2, e3, hc4, R5⟩ := id h1
        refine ol_v (e_len (SlT.sl sl_23) e3) rfl ?_
        refine ol_v (e_lss rfl rfl) rfl ?_
        obtain rfl := Option.some.inj hr
        exact ol_nil ⟨F, hW, h0, h1, h2, h7, h8, rfl⟩
      refine Ref.cond (b := fun s => s.t_17) (fun s ρ w ⟨F, hW, h0, h1, h2, h7, h8, h17⟩ => h17) (Ref.pre (A := G5 w0 F0) ?_ (fun s ρ w h => (fun ⟨F, hW, h0, h1, h2, h7, h8, h17⟩ => ⟨F, hW, h0, h1, h2, h7, h8⟩ : G6 w0 F0 s ρ w → G5 w0 F0 s ρ w) h.2)) (Ref.pre (A := G7 w0 F0) ?_ (fun s ρ w h => (fun ⟨F, hW, h0, h1, h2, h7, h8, h17⟩ => ⟨F, hW, h0, h2, h7⟩ : G6 w0 F0 s ρ w → G7 w0 F0 s ρ w) h.2))
      · exact Ref.skip
      · exact Ref.exit (fun s ρ w h => h)
    refine Ref.seq (B := G5 w0 F0) ?_ ?_
    · refine Ref.block ?_
      refine Ref.region (fun s ρ w s' h hr => ?_)
      obtain ⟨F, hW, h0, h1, h2, h7, h8⟩ := h
      refine ol_v (e_mv _ rfl) rfl ?_
      refine ol_v (e_mv _ rfl) rfl ?_
      refine ol_v (e_mv _ h8) rfl ?_
      obtain ⟨x6, hx6, hr⟩ := bind_some' hr
      obtain ⟨A7, c8, e9, hc10, R11⟩ := id h1
      obtain ⟨b12, o13, hA14, L15⟩ := Row.at_ R11 hx6
      refine ol_v (e_ix (SlT.sl sl_23) (SlT.sz sl_23) hA14 hx6 e9 rfl) rfl ?_
      refine ol_v (e_ld ty_3 (LiesV.int L15.at_) rfl) rfl ?_
      obtain ⟨x16, hx16, hr⟩ := bind_some' hr
      refine ol_e (f_call [(ρ 7), .int .i64 x6] fn_38 (lcons rfl (lcons rfl rfl)) (ref4_Insert.calls hW.ok h7 x6 hx16)) rfl rfl ?_
      rintro v19 w17 ⟨Fz18, _, rfl, kw1, hk20⟩
      have hW22 := hW.trans kw1
      have st1 := kw1.stp hW.ok
      refine ol_v (e_as _ rfl) rfl ?_
      obtain rfl := Option.some.inj hr
      exact ol_nil ⟨Fz18, hW22, (h0.keep st1), (h1.keep st1), h2, hk20, h8⟩
    refine Ref.region (fun s ρ w s' h hr => ?_)
    obtain ⟨F, hW, h0, h1, h2, h7, h8⟩ := h
    refine ol_v (e_mv _ h8) rfl ?_
    refine ol_v (e_add rfl rfl) rfl ?_
    refine ol_v (e_as _ rfl) rfl ?_
    obtain rfl := Option.some.inj hr
    exact ol_nil ⟨F, hW, h0, h1, h2, h7, rfl⟩
  refine Ref.seq (B := G9 w0 F0) ?_ ?_
  · refine Ref.block ?_
    refine Ref.loop ?_
    refine Ref.seq (B := G7 w0 F0) ?_ ?_
    · refine Ref.seq (B := G8 w0 F0) ?_ ?_
      · refine Ref.region (fun s ρ w s' h hr => ?_)
        obtain ⟨F, hW, h0, h2, h7⟩ := h
        refine ol_v (e_mv _ h2) rfl ?_
        refine ol_v (e_gtr rfl rfl) rfl ?_
        obtain rfl := Option.some.inj hr
        exact ol_nil ⟨F, hW, h0, h2, h7, rfl⟩
      refine Ref.cond (b := fun s => s.t_27) (fun s ρ w ⟨F, hW, h0, h2, h7, h27⟩ => h27) (Ref.pre (A := G7 w0 F0) ?_ (fun s ρ w h => (fun ⟨F, hW, h0, h2, h7, h27⟩ => ⟨F, hW, h0, h2, h7⟩ : G8 w0 F0 s ρ w → G7 w0 F0 s ρ w) h.2)) (Ref.pre (A := G9 w0 F0) ?_ (fun s ρ w h => (fun ⟨F, hW, h0, h2, h7, h27⟩ => ⟨F, hW, h7⟩ : G8 w0 F0 s ρ w → G9 w0 F0 s ρ w) h.2))
      · exact Ref.skip
      · exact Ref.exit (fun s ρ w h => h)
    refine Ref.seq (B := G7 w0 F0) ?_ ?_
    · refine Ref.block ?_
      refine Ref.seq (B := G10 w0 F0) ?_ ?_
      · refine Ref.region (fun s ρ w s' h hr => ?_)
        obtain ⟨F, hW, h0, h2, h7⟩ := h
        refine ol_v (e_mv _ rfl) rfl ?_
        refine ol_v (e_as _ rfl) rfl ?_
        obtain rfl := Option.some.inj hr
        exact ol_nil ⟨F, hW, h0, h2, h7, h7⟩
      refine Ref.seq (B := G10 w0 F0) ?_ ?_
      · refine Ref.seq (B := G11 w0 F0) ?_ ?_
        · refine Ref.region (fun s ρ w s' h hr => ?_)
          obtain ⟨F, hW, h0, h2, h7, h9⟩ := h
          refine ol_v (e_as _ rfl) rfl ?_
          obtain rfl := Option.some.inj hr
          exact ol_nil ⟨F, hW, h0, h2, h7, h9, rfl⟩
        refine Ref.block ?_
        refine Ref.loop ?_
        refine Ref.seq (B := G11 w0 F0) ?_ ?_
        · refine Ref.seq (B := G12 w0 F0) ?_ ?_
          · refine Ref.region (fun s ρ w s' h hr => ?_)
            obtain ⟨F, hW, h0, h2, h7, h9, h10⟩ := h
            refine ol_v (e_mv _ h10) rfl ?_
            refine ol_v (e_mv _ rfl) rfl ?_
            obtain ⟨A23, c24, e25, hc26, R27⟩ := id h7
            refine ol_v (e_len (SlT.sl sl_23) e25) rfl ?_
            refine ol_v (e_lss rfl rfl) rfl ?_
            obtain rfl := Option.some.inj hr
            exact ol_nil ⟨F, hW, h0, h2, h7, h9, h10, rfl⟩
          refine Ref.cond (b := fun s => s.t_34) (fun s ρ w ⟨F, hW, h0, h2, h7, h9, h10, h34⟩ => h34) (Ref.pre (A := G11 w0 F0) ?_ (fun s ρ w h => (fun ⟨F, hW, h0, h2, h7, h9, h10, h34⟩ => ⟨F, hW, h0, h2, h7, h9, h10⟩ : G12 w0 F0 s ρ w → G11 w0 F0 s ρ w) h.2)) (Ref.pre (A := G10 w0 F0) ?_ (fun s ρ w h => (fun ⟨F, hW, h0, h2, h7, h9, h10, h34⟩ => ⟨F, hW, h0, h2, h7, h9⟩ : G12 w0 F0 s ρ w → G10 w0 F0 s ρ w) h.2))
          · exact Ref.skip
          · exact Ref.exit (fun s ρ w h => h)
        refine Ref.seq (B := G11 w0 F0) ?_ ?_
        · refine Ref.block ?_
          refine Ref.seq (B := G13 w0 F0) ?_ ?_
          · refine Ref.region (fun s ρ w s' h hr => ?_)
            obtain ⟨F, hW, h0, h2, h7, h9, h10⟩ := h
            refine ol_v (e_as _ rfl) rfl ?_
            obtain rfl := Option.some.inj hr
            exact ol_nil ⟨F, hW, h0, h2, h7, h9, h10, rfl⟩
          refine Ref.block ?_
          refine Ref.loop ?_
          refine Ref.seq (B := G13 w0 F0) ?_ ?_
          · refine Ref.seq (B := G14 w0 F0) ?_ ?_
            · refine Ref.region (fun s ρ w s' h hr => ?_)
              obtain ⟨F, hW, h0, h2, h7, h9, h10, h11⟩ := h
              refine ol_v (e_mv _ h11) rfl ?_
              refine ol_v (e_mv _ rfl) rfl ?_
              refine ol_v (e_mv _ rfl) rfl ?_
              refine ol_v (e_mv _ h10) rfl ?_
              obtain ⟨x28, hx28, hr⟩ := bind_some' hr
              obtain ⟨A29, c30, e31, hc32, R33⟩ := id h7
              obtain ⟨b34, o35, hA36, L37⟩ := Row.at_ R33 hx28
              refine ol_v (e_ix (SlT.sl sl_23) (SlT.sz sl_23) hA36 hx28 e31 rfl) rfl ?_
              refine ol_v (e_ld ty_3 (LiesV.int L37.at_) rfl) rfl ?_
              obtain ⟨x38, hx38, hr⟩ := bind_some' hr
              obtain ⟨A39, c40, e41, hc42, R43⟩ := id h0
              obtain ⟨b44, o45, hA46, L47⟩ := Row.at_ R43 hx38
              refine ol_v (e_ix (SlT.sl sl_22) (SlT.sz sl_22) hA46 hx38 e41 rfl) rfl ?_
              refine ol_v (e_fa fa_56_0 rfl) rfl ?_
              obtain ⟨v48, hl49, hs50⟩ := LiesV.sl (L47.fld fl_Commit_0).at_
              refine ol_v (e_ld ty_23 hl49 rfl) rfl ?_
              obtain ⟨A51, c52, e53, hc54, R55⟩ := id hs50
              refine ol_v (e_len (SlT.sl sl_23) e53) rfl ?_
              refine ol_v (e_lss rfl rfl) rfl ?_
              obtain rfl := Option.some.inj hr
              exact ol_nil ⟨F, hW, h0, h2, h7, h9, h10, h11, rfl⟩
            refine Ref.cond (b := fun s => s.t_47) (fun s ρ w ⟨F, hW, h0, h2, h7, h9, h10, h11, h47⟩ => h47) (Ref.pre (A := G13 w0 F0) ?_ (fun s ρ w h => (fun ⟨F, hW, h0, h2, h7, h9, h10, h11, h47⟩ => ⟨F, hW, h0, h2, h7, h9, h10, h11⟩ : G14 w0 F0 s ρ w → G13 w0 F0 s ρ w) h.2)) (Ref.pre (A := G11 w0 F0) ?_ (fun s ρ w h => (fun ⟨F, hW, h0, h2, h7, h9, h10, h11, h47⟩ => ⟨F, hW, h0, h2, h7, h9, h10⟩ : G14 w0 F0 s ρ w → G11 w0 F0 s ρ w) h.2))
            · exact Ref.skip
            · exact Ref.exit (fun s ρ w h => h)
          refine Ref.seq (B := G13 w0 F0) ?_ ?_
          · refine Ref.block ?_
            refine Ref.region (fun s ρ w s' h hr => ?_)
            obtain ⟨F, hW, h0, h2, h7, h9, h10, h11⟩ := h
            refine ol_v (e_mv _ rfl) rfl ?_
            refine ol_v (e_mv _ rfl) rfl ?_
            refine ol_v (e_mv _ rfl) rfl ?_
            refine ol_v (e_mv _ h10) rfl ?_
            obtain ⟨x56, hx56, hr⟩ := bind_some' hr
            obtain ⟨A57, c58, e59, hc60, R61⟩ := id h7
            obtain ⟨b62, o63, hA64, L65⟩ := Row.at_ R61 hx56
            refine ol_v (e_ix (SlT.sl sl_23) (SlT.sz sl_23) hA64 hx56 e59 rfl) rfl ?_
            refine ol_v (e_ld ty_3 (LiesV.int L65.at_) rfl) rfl ?_
            obtain ⟨x66, hx66, hr⟩ := bind_some' hr
            obtain ⟨A67, c68, e69, hc70, R71⟩ := id h0
            obtain ⟨b72, o73, hA74, L75⟩ := Row.at_ R71 hx66
            refine ol_v (e_ix (SlT.sl sl_22) (SlT.sz sl_22) hA74 hx66 e69 rfl) rfl ?_
            refine ol_v (e_fa fa_56_0 rfl) rfl ?_
            obtain ⟨v76, hl77, hs78⟩ := LiesV.sl (L75.fld fl_Commit_0).at_
            refine ol_v (e_ld ty_23 hl77 rfl) rfl ?_
            refine ol_v (e_mv _ h11) rfl ?_
            obtain ⟨x79, hx79, hr⟩ := bind_some' hr
            obtain ⟨A80, c81, e82, hc83, R84⟩ := id hs78
            obtain ⟨b85, o86, hA87, L88⟩ := Row.at_ R84 hx79
            refine ol_v (e_ix (SlT.sl sl_23) (SlT.sz sl_23) hA87 hx79 e82 rfl) rfl ?_
            refine ol_v (e_ld ty_3 (LiesV.int L88.at_) rfl) rfl ?_
            obtain ⟨x89, hx89, hr⟩ := bind_some' hr
            refine ol_e (f_call [(ρ 9), .int .i64 x79] fn_38 (lcons rfl (lcons rfl rfl)) (ref4_Insert.calls hW.ok h9 x79 hx89)) rfl rfl ?_
            rintro v92 w90 ⟨Fz91, _, rfl, kw1, hk93⟩
            have hW95 := hW.trans kw1
            have st1 := kw1.stp hW.ok
            refine ol_v (e_as _ rfl) rfl ?_
            obtain rfl := Option.some.inj hr
            exact ol_nil ⟨Fz91, hW95, (h0.keep st1), h2, (h7.keep st1), hk93, h10, h11⟩
          refine Ref.region (fun s ρ w s' h hr => ?_)
          obtain ⟨F, hW, h0, h2, h7, h9, h10, h11⟩ := h
          refine ol_v (e_mv _ h11) rfl ?_
          refine ol_v (e_add rfl rfl) rfl ?_
          refine ol_v (e_as _ rfl) rfl ?_
          obtain rfl := Option.some.inj hr
          exact ol_nil ⟨F, hW, h0, h2, h7, h9, h10, rfl⟩
        refine Ref.region (fun s ρ w s' h hr => ?_)
        obtain ⟨F, hW, h0, h2, h7, h9, h10⟩ := h
        refine ol_v (e_mv _ h10) rfl ?_
        refine ol_v (e_add rfl rfl) rfl ?_
        refine ol_v (e_as _ rfl) rfl ?_
        obtain rfl := Option.some.inj hr
        exact ol_nil ⟨F, hW, h0, h2, h7, h9, rfl⟩
      refine Ref.seq (B := G16 w0 F0) ?_ ?_
      · refine Ref.seq (B := G15 w0 F0) ?_ ?_
        · refine Ref.region (fun s ρ w s' h hr => ?_)
          obtain ⟨F, hW, h0, h2, h7, h9⟩ := h
          refine ol_v (e_mv _ rfl) rfl ?_
          obtain ⟨A96, c97, e98, hc99, R100⟩ := id h9
          refine ol_v (e_len (SlT.sl sl_23) e98) rfl ?_
          refine ol_v (e_mv _ rfl) rfl ?_
          obtain ⟨A101, c102, e103, hc104, R105⟩ := id h7
          refine ol_v (e_len (SlT.sl sl_23) e103) rfl ?_
          refine ol_v (e_eql rfl rfl) rfl ?_
          obtain rfl := Option.some.inj hr
          exact ol_nil ⟨F, hW, h0, h2, h7, h9, rfl⟩
        refine Ref.cond (b := fun s => s.t_67) (fun s ρ w ⟨F, hW, h0, h2, h7, h9, h67⟩ => h67) (Ref.pre (A := G9 w0 F0) ?_ (fun s ρ w h => (fun ⟨F, hW, h0, h2, h7, h9, h67⟩ => ⟨F, hW, h7⟩ : G15 w0 F0 s ρ w → G9 w0 F0 s ρ w) h.2)) (Ref.pre (A := G16 w0 F0) ?_ (fun s ρ w h => (fun ⟨F, hW, h0, h2, h7, h9, h67⟩ => ⟨F, hW, h0, h2, h9⟩ : G15 w0 F0 s ρ w → G16 w0 F0 s ρ w) h.2))
        · refine Ref.seq (B := G4 w0 F0) ?_ ?_
          · refine Ref.region (fun s ρ w s' h hr => ?_)
            obtain ⟨F, hW, h7⟩ := h
            refine ol_v (e_mv _ rfl) rfl ?_
            refine ol_v (e_as _ rfl) rfl ?_
            obtain rfl := Option.some.inj hr
            exact ol_nil ⟨F, hW, h7⟩
          exact Ref.ret (fun s ρ w h => ⟨s, rfl, h⟩)
        · exact Ref.skip
      refine Ref.region (fun s ρ w s' h hr => ?_)
      obtain ⟨F, hW, h0, h2, h9⟩ := h
      refine ol_v (e_mv _ rfl) rfl ?_
      refine ol_v (e_as _ rfl) rfl ?_
      obtain rfl := Option.some.inj hr
      exact ol_nil ⟨F, hW, h0, h2, h9⟩
    refine Ref.region (fun s ρ w s' h hr => ?_)
    obtain ⟨F, hW, h0, h2, h7⟩ := h
    refine ol_v (e_mv _ h2) rfl ?_
    refine ol_v (e_sub rfl rfl) rfl ?_
    refine ol_v (e_as _ rfl) rfl ?_
    obtain rfl := Option.some.inj hr
    exact ol_nil ⟨F, hW, h0, rfl, h7⟩
  refine Ref.seq (B := G4 w0 F0) ?_ ?_
  · refine Ref.region (fun s ρ w s' h hr => ?_)
    obtain ⟨F, hW, h7⟩ := h
    refine ol_v (e_mv _ rfl) rfl ?_
    refine ol_v (e_as _ rfl) rfl ?_
    obtain rfl := Option.some.inj hr
    exact ol_nil ⟨F, hW, h7⟩
  exact Ref.ret (fun s ρ w h => ⟨s, rfl, h⟩)
def post (w : World) (F : BSet) (r : R) (v : Value) (w' : World) : Prop := ∃ (F' : BSet) (v0' : Value), v = v0' ∧ Wk nrow w F F' w' ∧ SlR (kInt .i64) F' w' v0' r
theorem calls {w : World} {F : BSet} (hok : ∀ b, F b → b < w.heap.size) {v0 : Value} {a0 : (List Commit)} (h0 : SlR k_Commit F w v0 a0) {v1 : Value} {a1 : (List Int)} (h1 : SlR (kInt .i64) F w v1 a1) (a2 : Int) {r : R} (hf : f a0 a1 a2 = some r) : Calls Try.prog 18 #[v0, v1, .int .i64 a2] w fun e w' => ∃ v, e = .returned v ∧ post w F r v w' := by
  obtain ⟨c, hc, href⟩ := ref w F
  refine calls_of_ref (args := [v0, v1, .int .i64 a2]) _ Try.func18 hc rfl rfl href ?_ (retOf_some hf) ?_
  · exact ⟨F, Wk.refl hok, h0, h1, rfl⟩
  · rintro ρ w' a ⟨s, rfl, F', hW, h6⟩ hF
    refine ⟨_, run_results (rs := [.tmp 6]) rfl hF (vs := [ρ 6]) (⟨_, rfl, rfl⟩), ?_⟩
    exact ⟨F', ρ 6, rfl, hW, h6⟩
end
end ref4_Steps

namespace law4_ShallowCutMatchesSpec
section
def G0 (w0 : World) (F0 : BSet) (s : S) (ρ : Env) (w : World) : Prop := ∃ (F : BSet), Wk nrow w0 F0 F w ∧ SlR k_Commit F w (ρ 0) s.t_0 ∧ SlR (kInt .i64) F w (ρ 1) s.t_1 ∧ ρ 2 = .int .i64 s.t_2
def G1 (w0 : World) (F0 : BSet) (s : S) (ρ : Env) (w : World) : Prop := ∃ (F : BSet), Wk nrow w0 F0 F w ∧ SlR k_Commit F w (ρ 0) s.t_0 ∧ SlR (kInt .i64) F w (ρ 1) s.t_1 ∧ ρ 2 = .int .i64 s.t_2 ∧ ρ 12 = .bool s.t_12
def G2 (w0 : World) (F0 : BSet) (s : S) (ρ : Env) (w : World) : Prop := ∃ (F : BSet), Wk nrow w0 F0 F w
def G3 (w0 : World) (F0 : BSet) (s : S) (ρ : Env) (w : World) : Prop := ∃ (F : BSet), Wk nrow w0 F0 F w ∧ ρ 6 = .bool s.t_6
def G4 (w0 : World) (F0 : BSet) (s : S) (ρ : Env) (w : World) : Prop := ∃ (F : BSet), Wk nrow w0 F0 F w ∧ ∃ (g8 : Nat), SlR k_Commit F w (ρ 0) s.t_0 ∧ SlR (kInt .i64) F w (ρ 1) s.t_1 ∧ ρ 2 = .int .i64 s.t_2 ∧ SlR (kInt .i64) F w (ρ 7) s.t_7 ∧ ρ 8 = .pointer (some ⟨g8, 0, none⟩) ∧ Box k_Fault 26 (Bs w0 nrow) F w g8 s.t_8
def G5 (w0 : World) (F0 : BSet) (s : S) (ρ : Env) (w : World) : Prop := ∃ (F : BSet), Wk nrow w0 F0 F w ∧ ∃ (g8 : Nat) (g9 : Nat), SlR k_Commit F w (ρ 0) s.t_0 ∧ SlR (kInt .i64) F w (ρ 1) s.t_1 ∧ ρ 2 = .int .i64 s.t_2 ∧ SlR (kInt .i64) F w (ρ 7) s.t_7 ∧ ρ 8 = .pointer (some ⟨g8, 0, none⟩) ∧ Box k_Fault 26 (Bs w0 nrow) F w g8 s.t_8 ∧ ρ 9 = .pointer (some ⟨g9, 0, none⟩) ∧ Box k_Fault 26 (Bs w0 nrow) F w g9 s.t_9 ∧ Apart (some g8) (some g9)
def G6 (w0 : World) (F0 : BSet) (s : S) (ρ : Env) (w : World) : Prop := ∃ (F : BSet), Wk nrow w0 F0 F w ∧ ∃ (g8 : Nat) (g9 : Nat), SlR k_Commit F w (ρ 0) s.t_0 ∧ SlR (kInt .i64) F w (ρ 1) s.t_1 ∧ ρ 2 = .int .i64 s.t_2 ∧ SlR (kInt .i64) F w (ρ 7) s.t_7 ∧ ρ 8 = .pointer (some ⟨g8, 0, none⟩) ∧ Box k_Fault 26 (Bs w0 nrow) F w g8 s.t_8 ∧ ρ 9 = .pointer (some ⟨g9, 0, none⟩) ∧ Box k_Fault 26 (Bs w0 nrow) F w g9 s.t_9 ∧ ρ 29 = .bool s.t_29 ∧ Apart (some g8) (some g9)
def G7 (w0 : World) (F0 : BSet) (s : S) (ρ : Env) (w : World) : Prop := ∃ (F : BSet), Wk nrow w0 F0 F w ∧ ∃ (g8 : Nat) (g9 : Nat), SlR k_Commit F w (ρ 0) s.t_0 ∧ SlR (kInt .i64) F w (ρ 1) s.t_1 ∧ ρ 2 = .int .i64 s.t_2 ∧ SlR (kInt .i64) F w (ρ 7) s.t_7 ∧ ρ 8 = .pointer (some ⟨g8, 0, none⟩) ∧ Box k_Fault 26 (Bs w0 nrow) F w g8 s.t_8 ∧ ρ 9 = .pointer (some ⟨g9, 0, none⟩) ∧ Box k_Fault 26 (Bs w0 nrow) F w g9 s.t_9 ∧ ρ 10 = .int .i64 s.t_10 ∧ Apart (some g8) (some g9)
def G8 (w0 : World) (F0 : BSet) (s : S) (ρ : Env) (w : World) : Prop := ∃ (F : BSet), Wk nrow w0 F0 F w ∧ ∃ (g8 : Nat) (g9 : Nat), SlR k_Commit F w (ρ 0) s.t_0 ∧ SlR (kInt .i64) F w (ρ 1) s.t_1 ∧ ρ 2 = .int .i64 s.t_2 ∧ SlR (kInt .i64) F w (ρ 7) s.t_7 ∧ ρ 8 = .pointer (some ⟨g8, 0, none⟩) ∧ Box k_Fault 26 (Bs w0 nrow) F w g8 s.t_8 ∧ ρ 9 = .pointer (some ⟨g9, 0, none⟩) ∧ Box k_Fault 26 (Bs w0 nrow) F w g9 s.t_9 ∧ ρ 10 = .int .i64 s.t_10 ∧ ρ 39 = .bool s.t_39 ∧ Apart (some g8) (some g9)
def G9 (w0 : World) (F0 : BSet) (s : S) (ρ : Env) (w : World) : Prop := ∃ (F : BSet), Wk nrow w0 F0 F w ∧ ∃ (g8 : Nat) (g9 : Nat), SlR k_Commit F w (ρ 0) s.t_0 ∧ SlR (kInt .i64) F w (ρ 1) s.t_1 ∧ ρ 2 = .int .i64 s.t_2 ∧ SlR (kInt .i64) F w (ρ 7) s.t_7 ∧ ρ 8 = .pointer (some ⟨g8, 0, none⟩) ∧ Box k_Fault 26 (Bs w0 nrow) F w g8 s.t_8 ∧ ρ 9 = .pointer (some ⟨g9, 0, none⟩) ∧ Box k_Fault 26 (Bs w0 nrow) F w g9 s.t_9 ∧ ρ 10 = .int .i64 s.t_10 ∧ ρ 50 = .bool s.t_50 ∧ Apart (some g8) (some g9)
def G10 (w0 : World) (F0 : BSet) (s : S) (ρ : Env) (w : World) : Prop := ∃ (F : BSet), Wk nrow w0 F0 F w ∧ ∃ (g8 : Nat) (g9 : Nat), SlR k_Commit F w (ρ 0) s.t_0 ∧ SlR (kInt .i64) F w (ρ 1) s.t_1 ∧ ρ 2 = .int .i64 s.t_2 ∧ SlR (kInt .i64) F w (ρ 7) s.t_7 ∧ ρ 8 = .pointer (some ⟨g8, 0, none⟩) ∧ Box k_Fault 26 (Bs w0 nrow) F w g8 s.t_8 ∧ ρ 9 = .pointer (some ⟨g9, 0, none⟩) ∧ Box k_Fault 26 (Bs w0 nrow) F w g9 s.t_9 ∧ ρ 60 = .bool s.t_60 ∧ Apart (some g8) (some g9)
def G11 (w0 : World) (F0 : BSet) (s : S) (ρ : Env) (w : World) : Prop := ∃ (F : BSet), Wk nrow w0 F0 F w ∧ ∃ (g8 : Nat) (g9 : Nat), SlR k_Commit F w (ρ 0) s.t_0 ∧ SlR (kInt .i64) F w (ρ 1) s.t_1 ∧ ρ 2 = .int .i64 s.t_2 ∧ SlR (kInt .i64) F w (ρ 7) s.t_7 ∧ ρ 8 = .pointer (some ⟨g8, 0, none⟩) ∧ Box k_Fault 26 (Bs w0 nrow) F w g8 s.t_8 ∧ ρ 9 = .pointer (some ⟨g9, 0, none⟩) ∧ Box k_Fault 26 (Bs w0 nrow) F w g9 s.t_9 ∧ ρ 64 = .bool s.t_64 ∧ Apart (some g8) (some g9)
def G12 (w0 : World) (F0 : BSet) (s : S) (ρ : Env) (w : World) : Prop := ∃ (F : BSet), Wk nrow w0 F0 F w ∧ ∃ (g8 : Nat) (g9 : Nat), SlR (kInt .i64) F w (ρ 7) s.t_7 ∧ ρ 8 = .pointer (some ⟨g8, 0, none⟩) ∧ Box k_Fault 26 (Bs w0 nrow) F w g8 s.t_8 ∧ ρ 9 = .pointer (some ⟨g9, 0, none⟩) ∧ Box k_Fault 26 (Bs w0 nrow) F w g9 s.t_9 ∧ Apart (some g8) (some g9)
set_option maxHeartbeats 4000000 in
set_option maxRecDepth 20000 in
theorem ref (w0 : World) (F0 : BSet) : ∃ c, Try.f3.body = some c ∧ Ref Try.prog 85 c (G0 w0 F0) body (fun _ _ _ => False) (fun _ _ _ _ => False) (fun r ρ w => ∃ s, retv s = r ∧ G3 w0 F0 s ρ w) := by
  refine ⟨_, rfl, ?_⟩
  unfold body
  refine Ref.seq (B := G0 w0 F0) ?_ ?_
  · refine Ref.region (fun s ρ w s' h hr => ?_)
    obtain ⟨F, hW, h0, h1, h2⟩ := h
    refine ol_v (e_as _ rfl) rfl ?_
    obtain rfl := Option.some.inj hr
    exact ol_nil ⟨F, hW, h0, h1, h2⟩
  refine Ref.seq (B := G0 w0 F0) ?_ ?_
  · refine Ref.seq (B := G1 w0 F0) ?_ ?_
    · refine Ref.region (fun s ρ w s' h hr => ?_)
      obtain ⟨F, hW, h0, h1, h2⟩ := h
      obtain ⟨x1, hx1, hr⟩ := bind_some' hr
      refine ol_e (f_call [] fn_12 rfl (law4_shallowExample.calls hW.ok  hx1)) rfl rfl ?_
      rintro _ w2 ⟨Fz3, rfl, kw1⟩
      have hW5 := hW.trans kw1
      have st1 := kw1.stp hW.ok
      refine ol_v (e_not_ rfl) rfl ?_
      obtain rfl := Option.some.inj hr
      exact ol_nil ⟨Fz3, hW5, (h0.keep st1), (h1.keep st1), h2, rfl⟩
    refine Ref.cond (b := fun s => s.t_12) (fun s ρ w ⟨F, hW, h0, h1, h2, h12⟩ => h12) (Ref.pre (A := G2 w0 F0) ?_ (fun s ρ w h => (fun ⟨F, hW, h0, h1, h2, h12⟩ => ⟨F, hW⟩ : G1 w0 F0 s ρ w → G2 w0 F0 s ρ w) h.2)) (Ref.pre (A := G0 w0 F0) ?_ (fun s ρ w h => (fun ⟨F, hW, h0, h1, h2, h12⟩ => ⟨F, hW, h0, h1, h2⟩ : G1 w0 F0 s ρ w → G0 w0 F0 s ρ w) h.2))
    · refine Ref.seq (B := G3 w0 F0) ?_ ?_
      · refine Ref.region (fun s ρ w s' h hr => ?_)
        obtain ⟨F, hW⟩ := h
        refine ol_v (e_as _ rfl) rfl ?_
        obtain rfl := Option.some.inj hr
        exact ol_nil ⟨F, hW, rfl⟩
      exact Ref.ret (fun s ρ w h => ⟨s, rfl, h⟩)
    · exact Ref.skip
  refine Ref.seq (B := G4 w0 F0) ?_ ?_
  · refine Ref.region (fun s ρ w s' h hr => ?_)
    obtain ⟨F, hW, h0, h1, h2⟩ := h
    refine ol_v (e_mv _ rfl) rfl ?_
    refine ol_v (e_mv _ rfl) rfl ?_
    refine ol_v (e_mv _ h2) rfl ?_
    obtain ⟨x6, hx6, hr⟩ := bind_some' hr
    refine ol_e (f_call [(ρ 0), (ρ 1), .int .i64 s.t_2] fn_13 (lcons rfl (lcons rfl (lcons rfl rfl))) (shallow_Cut.calls hW.ok h0 h1 s.t_2 hx6)) rfl rfl ?_
    rintro _ w7 ⟨Fz8, v9, v11, rfl, kw1, hk10, hk12⟩
    have hW14 := hW.trans kw1
    have st1 := kw1.stp hW.ok
    refine ol_v (e_mv _ rfl) rfl ?_
    refine ol_v (e_ext _ rfl rfl) rfl ?_
    refine ol_v (e_ext _ rfl rfl) rfl ?_
    refine ol_e (f_alloc zer_26 hW14) rfl rfl ?_
    rintro _ w16 ⟨g15, rfl, kw2, ho17⟩
    have hW18 := hW14.trans kw2
    have st2 := kw2.stp hW14.ok
    obtain ⟨Fz19, hWz20, st3, hF3, hz21⟩ := (((hk10.base (row := nrow) hW.le).wk kw2 hW14.ok)).frozen hW18
    refine ol_v (e_as _ rfl) rfl ?_
    refine ol_eN (f_stB hWz20 ((ho17.base (row := nrow) hW14.le).frz (apart_bo (ho17.base (row := nrow) hW14.le) ((hk10.base (row := nrow) hW.le).wk kw2 hW14.ok) rfl).symm hF3 st3) (FldS.whole _) ty_26 (hk12.keep (st2.trans st3)) rfl rfl) rfl ?_
    rintro - w22 ⟨hW23, ho24, hg4, st4⟩
    obtain rfl := Option.some.inj hr
    exact ol_nil ⟨Fz19, hW23, g15, (h0.keep (st1.trans (st2.trans (st3.trans st4)))), (h1.keep (st1.trans (st2.trans (st3.trans st4)))), h2, (hz21.keep st4), rfl, ho24⟩
  refine Ref.seq (B := G5 w0 F0) ?_ ?_
  · refine Ref.region (fun s ρ w s' h hr => ?_)
    obtain ⟨F, hW, g8, h0, h1, h2, h7, p8, h8⟩ := h
    refine ol_v (e_mv _ rfl) rfl ?_
    obtain ⟨x25, hx25, hr⟩ := bind_some' hr
    refine ol_e (f_call [(ρ 0)] fn_14 (lcons rfl rfl) (ref3_HistoryFault.calls hW.ok h0 hx25)) rfl rfl ?_
    rintro v28 w26 ⟨Fz27, _, rfl, kw1, hk29⟩
    have hW31 := hW.trans kw1
    have st1 := kw1.stp hW.ok
    refine ol_e (f_alloc zer_26 hW31) rfl rfl ?_
    rintro _ w33 ⟨g32, rfl, kw2, ho34⟩
    have hW35 := hW31.trans kw2
    have st2 := kw2.stp hW31.ok
    refine ol_eN (f_stB hW35 (ho34.base (row := nrow) hW31.le) (FldS.whole _) ty_26 (hk29.keep st2) rfl rfl) rfl ?_
    rintro - w36 ⟨hW37, ho38, hg3, st3⟩
    obtain rfl := Option.some.inj hr
    exact ol_nil ⟨Fz27, hW37, g8, g32, (h0.keep (st1.trans (st2.trans st3))), (h1.keep (st1.trans (st2.trans st3))), h2, (h7.keep (st1.trans (st2.trans st3))), p8, (((h8.wk kw1 hW.ok).wk kw2 hW31.ok).mut (Apart.base (fun _ e_ => by cases e_; exact ho34.ge) (h8.wk kw1 hW.ok).ltw) hg3 st3), rfl, ho38, (Apart.base (fun _ e_ => by cases e_; exact ho34.ge) (h8.wk kw1 hW.ok).ltw).symm⟩
  refine Ref.seq (B := G5 w0 F0) ?_ ?_
  · refine Ref.seq (B := G6 w0 F0) ?_ ?_
    · refine Ref.region (fun s ρ w s' h hr => ?_)
      obtain ⟨F, hW, g8, g9, h0, h1, h2, h7, p8, h8, p9, h9, a8b_9b⟩ := h
      refine ol_v (e_fa fa_26_0 p9) rfl ?_
      refine ol_v (e_ld ty_3 (LiesV.int ((h9).at_.fld fl_Fault_0)) rfl) rfl ?_
      refine ol_v (e_eql rfl rfl) rfl ?_
      refine ol_cutA 5 25 29 (fun ρ' w' => w = w' ∧ ρ' 29 = .bool ((decide (s.t_9.Code = (0 : Int))) && (decide ((60 : Int) < (s.t_1.length : Int))))) rfl ?_ ?_
      · by_cases hb39 : (decide (s.t_9.Code = (0 : Int))) = true
        · refine ol_v (e_mv _ rfl) rfl ?_
          refine ol_yes rfl rfl (congrArg Value.bool hb39) ?_
          refine ol_v (e_mv _ rfl) rfl ?_
          refine ol_yes rfl rfl (congrArg Value.bool hb39) ?_
          obtain ⟨A41, c42, e43, hc44, R45⟩ := id h1
          refine ol_v (e_len (SlT.sl sl_23) e43) rfl ?_
          refine ol_yes rfl rfl (congrArg Value.bool hb39) ?_
          refine ol_v (e_gtr rfl rfl) rfl ?_
          refine ol_v (e_pick true _ (congrArg Value.bool hb39) rfl) rfl ?_
          exact ol_nil ⟨⟨rfl, (bv_and_t hb39)⟩, ((((((Agr.refl _ _ _).upd rfl rfl).upd rfl rfl).upd rfl rfl).upd rfl rfl).upd rfl rfl)⟩
        · have hb40 := Bool.eq_false_iff.mpr hb39
          refine ol_v (e_mv _ rfl) rfl ?_
          refine ol_not rfl rfl rfl (congrArg Value.bool hb40) rfl ?_
          refine ol_not rfl rfl rfl (congrArg Value.bool hb40) rfl ?_
          refine ol_not rfl rfl rfl (congrArg Value.bool hb40) rfl ?_
          refine ol_v (e_pick false _ (congrArg Value.bool hb40) rfl) rfl ?_
          exact ol_nil ⟨⟨rfl, (bv_and_f hb40)⟩, ((((((Agr.refl _ _ _).upd rfl rfl).upd rfl rfl).upd rfl rfl).upd rfl rfl).upd rfl rfl)⟩
      rintro ρ46 _ ⟨⟨rfl, hp46⟩, hAg46⟩
      obtain rfl := Option.some.inj hr
      exact ol_nil ⟨F, hW, g8, g9, (SlR.eqv (hAg46 0 rfl) h0), (SlR.eqv (hAg46 1 rfl) h1), ((hAg46 2 rfl).trans h2), (SlR.eqv (hAg46 7 rfl) h7), ((hAg46 8 rfl).trans p8), h8, ((hAg46 9 rfl).trans p9), h9, hp46, a8b_9b⟩
    refine Ref.cond (b := fun s => s.t_29) (fun s ρ w ⟨F, hW, g8, g9, h0, h1, h2, h7, p8, h8, p9, h9, h29, a8b_9b⟩ => h29) (Ref.pre (A := G5 w0 F0) ?_ (fun s ρ w h => (fun ⟨F, hW, g8, g9, h0, h1, h2, h7, p8, h8, p9, h9, h29, a8b_9b⟩ => ⟨F, hW, g8, g9, h0, h1, h2, h7, p8, h8, p9, h9, a8b_9b⟩ : G6 w0 F0 s ρ w → G5 w0 F0 s ρ w) h.2)) (Ref.pre (A := G5 w0 F0) ?_ (fun s ρ w h => (fun ⟨F, hW, g8, g9, h0, h1, h2, h7, p8, h8, p9, h9, h29, a8b_9b⟩ => ⟨F, hW, g8, g9, h0, h1, h2, h7, p8, h8, p9, h9, a8b_9b⟩ : G6 w0 F0 s ρ w → G5 w0 F0 s ρ w) h.2))
    · refine Ref.region (fun s ρ w s' h hr => ?_)
      obtain ⟨F, hW, g8, g9, h0, h1, h2, h7, p8, h8, p9, h9, a8b_9b⟩ := h
      obtain ⟨x47, hx47, hr⟩ := bind_some' hr
      refine ol_e (f_call [.int .i64 (2 : Int), .int .i64 (-1 : Int)] fn_15 (lcons rfl (lcons rfl rfl)) (ref3_Fault.calls hW.ok (2 : Int) (-1 : Int) hx47)) rfl rfl ?_
      rintro v50 w48 ⟨Fz49, _, rfl, kw1, hk51⟩
      have hW53 := hW.trans kw1
      have st1 := kw1.stp hW.ok
      refine ol_eN (f_stB hW53 (h9.wk kw1 hW.ok) (FldS.whole _) ty_26 hk51 p9 rfl) rfl ?_
      rintro - w54 ⟨hW55, ho56, hg2, st2⟩
      obtain rfl := Option.some.inj hr
      exact ol_nil ⟨Fz49, hW55, g8, g9, (h0.keep (st1.trans st2)), (h1.keep (st1.trans st2)), h2, (h7.keep (st1.trans st2)), p8, ((h8.wk kw1 hW.ok).mut a8b_9b.symm hg2 st2), p9, ho56, a8b_9b.symm.symm⟩
    · exact Ref.skip
  refine Ref.seq (B := G5 w0 F0) ?_ ?_
  · refine Ref.seq (B := G7 w0 F0) ?_ ?_
    · refine Ref.region (fun s ρ w s' h hr => ?_)
      obtain ⟨F, hW, g8, g9, h0, h1, h2, h7, p8, h8, p9, h9, a8b_9b⟩ := h
      refine ol_v (e_as _ rfl) rfl ?_
      obtain rfl := Option.some.inj hr
      exact ol_nil ⟨F, hW, g8, g9, h0, h1, h2, h7, p8, h8, p9, h9, rfl, a8b_9b⟩
    refine Ref.block ?_
    refine Ref.loop ?_
    refine Ref.seq (B := G7 w0 F0) ?_ ?_
    · refine Ref.seq (B := G8 w0 F0) ?_ ?_
      · refine Ref.region (fun s ρ w s' h hr => ?_)
        obtain ⟨F, hW, g8, g9, h0, h1, h2, h7, p8, h8, p9, h9, h10, a8b_9b⟩ := h
        refine ol_v (e_mv _ h10) rfl ?_
        refine ol_v (e_mv _ rfl) rfl ?_
        obtain ⟨A57, c58, e59, hc60, R61⟩ := id h1
        refine ol_v (e_len (SlT.sl sl_23) e59) rfl ?_
        refine ol_v (e_lss rfl rfl) rfl ?_
        refine ol_cutA 5 35 39 (fun ρ' w' => w = w' ∧ ρ' 39 = .bool ((decide (s.t_10 < (s.t_1.length : Int))) && (decide (s.t_9.Code = (0 : Int))))) rfl ?_ ?_
        · by_cases hb62 : (decide (s.t_10 < (s.t_1.length : Int))) = true
          · refine ol_v (e_mv _ rfl) rfl ?_
            refine ol_yes rfl rfl (congrArg Value.bool hb62) ?_
            refine ol_v (e_fa fa_26_0 p9) rfl ?_
            refine ol_yes rfl rfl (congrArg Value.bool hb62) ?_
            refine ol_v (e_ld ty_3 (LiesV.int ((h9).at_.fld fl_Fault_0)) rfl) rfl ?_
            refine ol_yes rfl rfl (congrArg Value.bool hb62) ?_
            refine ol_v (e_eql rfl rfl) rfl ?_
            refine ol_v (e_pick true _ (congrArg Value.bool hb62) rfl) rfl ?_
            exact ol_nil ⟨⟨rfl, (bv_and_t hb62)⟩, ((((((Agr.refl _ _ _).upd rfl rfl).upd rfl rfl).upd rfl rfl).upd rfl rfl).upd rfl rfl)⟩
          · have hb63 := Bool.eq_false_iff.mpr hb62
            refine ol_v (e_mv _ rfl) rfl ?_
            refine ol_not rfl rfl rfl (congrArg Value.bool hb63) rfl ?_
            refine ol_not rfl rfl rfl (congrArg Value.bool hb63) rfl ?_
            refine ol_not rfl rfl rfl (congrArg Value.bool hb63) rfl ?_
            refine ol_v (e_pick false _ (congrArg Value.bool hb63) rfl) rfl ?_
            exact ol_nil ⟨⟨rfl, (bv_and_f hb63)⟩, ((((((Agr.refl _ _ _).upd rfl rfl).upd rfl rfl).upd rfl rfl).upd rfl rfl).upd rfl rfl)⟩
        rintro ρ64 _ ⟨⟨rfl, hp64⟩, hAg64⟩
        obtain rfl := Option.some.inj hr
        exact ol_nil ⟨F, hW, g8, g9, (SlR.eqv (hAg64 0 rfl) h0), (SlR.eqv (hAg64 1 rfl) h1), ((hAg64 2 rfl).trans h2), (SlR.eqv (hAg64 7 rfl) h7), ((hAg64 8 rfl).trans p8), h8, ((hAg64 9 rfl).trans p9), h9, ((hAg64 10 rfl).trans h10), hp64, a8b_9b⟩
      refine Ref.cond (b := fun s => s.t_39) (fun s ρ w ⟨F, hW, g8, g9, h0, h1, h2, h7, p8, h8, p9, h9, h10, h39, a8b_9b⟩ => h39) (Ref.pre (A := G7 w0 F0) ?_ (fun s ρ w h => (fun ⟨F, hW, g8, g9, h0, h1, h2, h7, p8, h8, p9, h9, h10, h39, a8b_9b⟩ => ⟨F, hW, g8, g9, h0, h1, h2, h7, p8, h8, p9, h9, h10, a8b_9b⟩ : G8 w0 F0 s ρ w → G7 w0 F0 s ρ w) h.2)) (Ref.pre (A := G5 w0 F0) ?_ (fun s ρ w h => (fun ⟨F, hW, g8, g9, h0, h1, h2, h7, p8, h8, p9, h9, h10, h39, a8b_9b⟩ => ⟨F, hW, g8, g9, h0, h1, h2, h7, p8, h8, p9, h9, a8b_9b⟩ : G8 w0 F0 s ρ w → G5 w0 F0 s ρ w) h.2))
      · exact Ref.skip
      · exact Ref.exit (fun s ρ w h => h)
    refine Ref.seq (B := G7 w0 F0) ?_ ?_
    · refine Ref.block ?_
      refine Ref.seq (B := G9 w0 F0) ?_ ?_
      · refine Ref.region (fun s ρ w s' h hr => ?_)
        obtain ⟨F, hW, g8, g9, h0, h1, h2, h7, p8, h8, p9, h9, h10, a8b_9b⟩ := h
        refine ol_v (e_mv _ rfl) rfl ?_
        refine ol_v (e_mv _ h10) rfl ?_
        obtain ⟨x65, hx65, hr⟩ := bind_some' hr
        obtain ⟨A66, c67, e68, hc69, R70⟩ := id h1
        obtain ⟨b71, o72, hA73, L74⟩ := Row.at_ R70 hx65
        refine ol_v (e_ix (SlT.sl sl_23) (SlT.sz sl_23) hA73 hx65 e68 rfl) rfl ?_
        refine ol_v (e_ld ty_3 (LiesV.int L74.at_) rfl) rfl ?_
        refine ol_v (e_mv _ rfl) rfl ?_
        obtain ⟨A75, c76, e77, hc78, R79⟩ := id h0
        refine ol_v (e_len (SlT.sl sl_22) e77) rfl ?_
        refine ol_v (e_sub rfl rfl) rfl ?_
        obtain ⟨x80, hx80, hr⟩ := bind_some' hr
        refine ol_e (f_call [.int .i64 x65, .int .i64 (0 : Int), .int .i64 (w64 ((s.t_0.length : Int) - (1 : Int)))] fn_16 (lcons rfl (lcons rfl (lcons rfl rfl))) (ref3_In.calls hW.ok x65 (0 : Int) (w64 ((s.t_0.length : Int) - (1 : Int))) hx80)) rfl rfl ?_
        rintro _ w81 ⟨Fz82, rfl, kw1⟩
        have hW84 := hW.trans kw1
        have st1 := kw1.stp hW.ok
        refine ol_v (e_not_ rfl) rfl ?_
        obtain rfl := Option.some.inj hr
        exact ol_nil ⟨Fz82, hW84, g8, g9, (h0.keep st1), (h1.keep st1), h2, (h7.keep st1), p8, (h8.wk kw1 hW.ok), p9, (h9.wk kw1 hW.ok), h10, rfl, a8b_9b⟩
      refine Ref.cond (b := fun s => s.t_50) (fun s ρ w ⟨F, hW, g8, g9, h0, h1, h2, h7, p8, h8, p9, h9, h10, h50, a8b_9b⟩ => h50) (Ref.pre (A := G7 w0 F0) ?_ (fun s ρ w h => (fun ⟨F, hW, g8, g9, h0, h1, h2, h7, p8, h8, p9, h9, h10, h50, a8b_9b⟩ => ⟨F, hW, g8, g9, h0, h1, h2, h7, p8, h8, p9, h9, h10, a8b_9b⟩ : G9 w0 F0 s ρ w → G7 w0 F0 s ρ w) h.2)) (Ref.pre (A := G7 w0 F0) ?_ (fun s ρ w h => (fun ⟨F, hW, g8, g9, h0, h1, h2, h7, p8, h8, p9, h9, h10, h50, a8b_9b⟩ => ⟨F, hW, g8, g9, h0, h1, h2, h7, p8, h8, p9, h9, h10, a8b_9b⟩ : G9 w0 F0 s ρ w → G7 w0 F0 s ρ w) h.2))
      · refine Ref.region (fun s ρ w s' h hr => ?_)
        obtain ⟨F, hW, g8, g9, h0, h1, h2, h7, p8, h8, p9, h9, h10, a8b_9b⟩ := h
        refine ol_v (e_mv _ h10) rfl ?_
        obtain ⟨x85, hx85, hr⟩ := bind_some' hr
        refine ol_e (f_call [.int .i64 (6 : Int), .int .i64 s.t_10] fn_15 (lcons rfl (lcons rfl rfl)) (ref3_Fault.calls hW.ok (6 : Int) s.t_10 hx85)) rfl rfl ?_
        rintro v88 w86 ⟨Fz87, _, rfl, kw1, hk89⟩
        have hW91 := hW.trans kw1
        have st1 := kw1.stp hW.ok
        refine ol_eN (f_stB hW91 (h9.wk kw1 hW.ok) (FldS.whole _) ty_26 hk89 p9 rfl) rfl ?_
        rintro - w92 ⟨hW93, ho94, hg2, st2⟩
        obtain rfl := Option.some.inj hr
        exact ol_nil ⟨Fz87, hW93, g8, g9, (h0.keep (st1.trans st2)), (h1.keep (st1.trans st2)), h2, (h7.keep (st1.trans st2)), p8, ((h8.wk kw1 hW.ok).mut a8b_9b.symm hg2 st2), p9, ho94, h10, a8b_9b.symm.symm⟩
      · exact Ref.skip
    refine Ref.region (fun s ρ w s' h hr => ?_)
    obtain ⟨F, hW, g8, g9, h0, h1, h2, h7, p8, h8, p9, h9, h10, a8b_9b⟩ := h
    refine ol_v (e_mv _ h10) rfl ?_
    refine ol_v (e_add rfl rfl) rfl ?_
    refine ol_v (e_as _ rfl) rfl ?_
    obtain rfl := Option.some.inj hr
    exact ol_nil ⟨F, hW, g8, g9, h0, h1, h2, h7, p8, h8, p9, h9, rfl, a8b_9b⟩
  refine Ref.seq (B := G5 w0 F0) ?_ ?_
  · refine Ref.seq (B := G10 w0 F0) ?_ ?_
    · refine Ref.region (fun s ρ w s' h hr => ?_)
      obtain ⟨F, hW, g8, g9, h0, h1, h2, h7, p8, h8, p9, h9, a8b_9b⟩ := h
      refine ol_v (e_fa fa_26_0 p9) rfl ?_
      refine ol_v (e_ld ty_3 (LiesV.int ((h9).at_.fld fl_Fault_0)) rfl) rfl ?_
      refine ol_v (e_eql rfl rfl) rfl ?_
      obtain ⟨x102, hx103, hr⟩ := bind_some' hr
      refine ol_cutA 5 56 60 (fun ρ' w' => ∃ F', Wk nrow w F F' w' ∧ ρ' 60 = .bool x102) rfl ?_ ?_
      · by_cases hb95 : (decide (s.t_9.Code = (0 : Int))) = true
        · have hr := hx103
          rw [if_pos hb95] at hr
          refine ol_v (e_mv _ rfl) rfl ?_
          refine ol_yes rfl rfl (congrArg Value.bool hb95) ?_
          refine ol_v (e_mv _ h2) rfl ?_
          refine ol_yes rfl rfl (congrArg Value.bool hb95) ?_
          obtain ⟨x97, hx97, hr⟩ := bind_some' hr
          refine ol_e (f_call [.int .i64 s.t_2, .int .i64 (0 : Int), .int .i64 (60 : Int)] fn_16 (lcons rfl (lcons rfl (lcons rfl rfl))) (ref3_In.calls hW.ok s.t_2 (0 : Int) (60 : Int) hx97)) rfl rfl ?_
          rintro _ w98 ⟨Fz99, rfl, kw1⟩
          have hW101 := hW.trans kw1
          have st1 := kw1.stp hW.ok
          refine ol_yes rfl rfl (congrArg Value.bool hb95) ?_
          refine ol_v (e_not_ rfl) rfl ?_
          refine ol_v (e_pick true _ (congrArg Value.bool hb95) rfl) rfl ?_
          exact ol_nil ⟨⟨_, kw1, (congrArg Value.bool (Option.some.inj hr))⟩, ((((((Agr.refl _ _ _).upd rfl rfl).upd rfl rfl).upd rfl rfl).upd rfl rfl).upd rfl rfl)⟩
        · have hb96 := Bool.eq_false_iff.mpr hb95
          have hr := hx103
          rw [if_neg hb95] at hr
          refine ol_v (e_mv _ rfl) rfl ?_
          refine ol_not rfl rfl rfl (congrArg Value.bool hb96) rfl ?_
          refine ol_not rfl rfl rfl (congrArg Value.bool hb96) rfl ?_
          refine ol_not rfl rfl rfl (congrArg Value.bool hb96) rfl ?_
          refine ol_v (e_pick false _ (congrArg Value.bool hb96) rfl) rfl ?_
          exact ol_nil ⟨⟨_, Wk.refl hW.ok, (congrArg Value.bool (Option.some.inj hr))⟩, ((((((Agr.refl _ _ _).upd rfl rfl).upd rfl rfl).upd rfl rfl).upd rfl rfl).upd rfl rfl)⟩
      rintro ρ103 w104 ⟨⟨Fz105, kw1, hp103⟩, hAg103⟩
      have hW106 := hW.trans kw1
      have st1 := kw1.stp hW.ok
      obtain rfl := Option.some.inj hr
      exact ol_nil ⟨Fz105, hW106, g8, g9, (SlR.eqv (hAg103 0 rfl) (h0.keep st1)), (SlR.eqv (hAg103 1 rfl) (h1.keep st1)), ((hAg103 2 rfl).trans h2), (SlR.eqv (hAg103 7 rfl) (h7.keep st1)), ((hAg103 8 rfl).trans p8), (h8.wk kw1 hW.ok), ((hAg103 9 rfl).trans p9), (h9.wk kw1 hW.ok), hp103, a8b_9b⟩
    refine Ref.cond (b := fun s => s.t_60) (fun s ρ w ⟨F, hW, g8, g9, h0, h1, h2, h7, p8, h8, p9, h9, h60, a8b_9b⟩ => h60) (Ref.pre (A := G5 w0 F0) ?_ (fun s ρ w h => (fun ⟨F, hW, g8, g9, h0, h1, h2, h7, p8, h8, p9, h9, h60, a8b_9b⟩ => ⟨F, hW, g8, g9, h0, h1, h2, h7, p8, h8, p9, h9, a8b_9b⟩ : G10 w0 F0 s ρ w → G5 w0 F0 s ρ w) h.2)) (Ref.pre (A := G5 w0 F0) ?_ (fun s ρ w h => (fun ⟨F, hW, g8, g9, h0, h1, h2, h7, p8, h8, p9, h9, h60, a8b_9b⟩ => ⟨F, hW, g8, g9, h0, h1, h2, h7, p8, h8, p9, h9, a8b_9b⟩ : G10 w0 F0 s ρ w → G5 w0 F0 s ρ w) h.2))
    · refine Ref.region (fun s ρ w s' h hr => ?_)
      obtain ⟨F, hW, g8, g9, h0, h1, h2, h7, p8, h8, p9, h9, a8b_9b⟩ := h
      obtain ⟨x107, hx107, hr⟩ := bind_some' hr
      refine ol_e (f_call [.int .i64 (3 : Int), .int .i64 (-2 : Int)] fn_15 (lcons rfl (lcons rfl rfl)) (ref3_Fault.calls hW.ok (3 : Int) (-2 : Int) hx107)) rfl rfl ?_
      rintro v110 w108 ⟨Fz109, _, rfl, kw1, hk111⟩
      have hW113 := hW.trans kw1
      have st1 := kw1.stp hW.ok
      refine ol_eN (f_stB hW113 (h9.wk kw1 hW.ok) (FldS.whole _) ty_26 hk111 p9 rfl) rfl ?_
      rintro - w114 ⟨hW115, ho116, hg2, st2⟩
      obtain rfl := Option.some.inj hr
      exact ol_nil ⟨Fz109, hW115, g8, g9, (h0.keep (st1.trans st2)), (h1.keep (st1.trans st2)), h2, (h7.keep (st1.trans st2)), p8, ((h8.wk kw1 hW.ok).mut a8b_9b.symm hg2 st2), p9, ho116, a8b_9b.symm.symm⟩
    · exact Ref.skip
  refine Ref.seq (B := G4 w0 F0) ?_ ?_
  · refine Ref.seq (B := G11 w0 F0) ?_ ?_
    · refine Ref.region (fun s ρ w s' h hr => ?_)
      obtain ⟨F, hW, g8, g9, h0, h1, h2, h7, p8, h8, p9, h9, a8b_9b⟩ := h
      refine ol_v (e_fa fa_26_0 p9) rfl ?_
      refine ol_v (e_ld ty_3 (LiesV.int ((h9).at_.fld fl_Fault_0)) rfl) rfl ?_
      refine ol_v (e_neq rfl rfl) rfl ?_
      obtain rfl := Option.some.inj hr
      exact ol_nil ⟨F, hW, g8, g9, h0, h1, h2, h7, p8, h8, p9, h9, rfl, a8b_9b⟩
    refine Ref.cond (b := fun s => s.t_64) (fun s ρ w ⟨F, hW, g8, g9, h0, h1, h2, h7, p8, h8, p9, h9, h64, a8b_9b⟩ => h64) (Ref.pre (A := G12 w0 F0) ?_ (fun s ρ w h => (fun ⟨F, hW, g8, g9, h0, h1, h2, h7, p8, h8, p9, h9, h64, a8b_9b⟩ => ⟨F, hW, g8, g9, h7, p8, h8, p9, h9, a8b_9b⟩ : G11 w0 F0 s ρ w → G12 w0 F0 s ρ w) h.2)) (Ref.pre (A := G4 w0 F0) ?_ (fun s ρ w h => (fun ⟨F, hW, g8, g9, h0, h1, h2, h7, p8, h8, p9, h9, h64, a8b_9b⟩ => ⟨F, hW, g8, h0, h1, h2, h7, p8, h8⟩ : G11 w0 F0 s ρ w → G4 w0 F0 s ρ w) h.2))
    · refine Ref.seq (B := G3 w0 F0) ?_ ?_
      · refine Ref.region (fun s ρ w s' h hr => ?_)
        obtain ⟨F, hW, g8, g9, h7, p8, h8, p9, h9, a8b_9b⟩ := h
        obtain ⟨v117, hl118⟩ := LiesAt.v (h8).at_
        refine ol_v (e_ld ty_26 hl118 p8) rfl ?_
        obtain ⟨v119, hl120⟩ := LiesAt.v (h9).at_
        refine ol_v (e_ld ty_26 hl120 p9) rfl ?_
        refine ol_v (e_teql (eq_Fault_26 hl118.val hl120.val) rfl rfl) rfl ?_
        refine ol_cutA 5 68 72 (fun ρ' w' => w = w' ∧ ρ' 72 = .bool ((decide (s.t_8 = s.t_9)) && (decide ((s.t_7.length : Int) = (0 : Int))))) rfl ?_ ?_
        · by_cases hb121 : (decide (s.t_8 = s.t_9)) = true
          · refine ol_v (e_mv _ rfl) rfl ?_
            refine ol_yes rfl rfl (congrArg Value.bool hb121) ?_
            refine ol_v (e_mv _ rfl) rfl ?_
            refine ol_yes rfl rfl (congrArg Value.bool hb121) ?_
            obtain ⟨A123, c124, e125, hc126, R127⟩ := id h7
            refine ol_v (e_len (SlT.sl sl_23) e125) rfl ?_
            refine ol_yes rfl rfl (congrArg Value.bool hb121) ?_
            refine ol_v (e_eql rfl rfl) rfl ?_
            refine ol_v (e_pick true _ (congrArg Value.bool hb121) rfl) rfl ?_
            exact ol_nil ⟨⟨rfl, (bv_and_t hb121)⟩, ((((((Agr.refl _ _ _).upd rfl rfl).upd rfl rfl).upd rfl rfl).upd rfl rfl).upd rfl rfl)⟩
          · have hb122 := Bool.eq_false_iff.mpr hb121
            refine ol_v (e_mv _ rfl) rfl ?_
            refine ol_not rfl rfl rfl (congrArg Value.bool hb122) rfl ?_
            refine ol_not rfl rfl rfl (congrArg Value.bool hb122) rfl ?_
            refine ol_not rfl rfl rfl (congrArg Value.bool hb122) rfl ?_
            refine ol_v (e_pick false _ (congrArg Value.bool hb122) rfl) rfl ?_
            exact ol_nil ⟨⟨rfl, (bv_and_f hb122)⟩, ((((((Agr.refl _ _ _).upd rfl rfl).upd rfl rfl).upd rfl rfl).upd rfl rfl).upd rfl rfl)⟩
        rintro ρ128 _ ⟨⟨rfl, hp128⟩, hAg128⟩
        refine ol_v (e_as _ hp128) rfl ?_
        obtain rfl := Option.some.inj hr
        exact ol_nil ⟨F, hW, rfl⟩
      exact Ref.ret (fun s ρ w h => ⟨s, rfl, h⟩)
    · exact Ref.skip
  refine Ref.seq (B := G3 w0 F0) ?_ ?_
  · refine Ref.region (fun s ρ w s' h hr => ?_)
    obtain ⟨F, hW, g8, h0, h1, h2, h7, p8, h8⟩ := h
    refine ol_v (e_fa fa_26_0 p8) rfl ?_
    refine ol_v (e_ld ty_3 (LiesV.int ((h8).at_.fld fl_Fault_0)) rfl) rfl ?_
    refine ol_v (e_eql rfl rfl) rfl ?_
    obtain ⟨x143, hx144, hr⟩ := bind_some' hr
    refine ol_cutA 9 76 84 (fun ρ' w' => ∃ F', Wk nrow w F F' w' ∧ ρ' 84 = .bool x143) rfl ?_ ?_
    · by_cases hb129 : (decide (s.t_8.Code = (0 : Int))) = true
      · have hr := hx144
        rw [if_pos hb129] at hr
        refine ol_v (e_mv _ rfl) rfl ?_
        refine ol_yes rfl rfl (congrArg Value.bool hb129) ?_
        refine ol_v (e_mv _ rfl) rfl ?_
        refine ol_yes rfl rfl (congrArg Value.bool hb129) ?_
        refine ol_v (e_mv _ rfl) rfl ?_
        refine ol_yes rfl rfl (congrArg Value.bool hb129) ?_
        refine ol_v (e_mv _ rfl) rfl ?_
        refine ol_yes rfl rfl (congrArg Value.bool hb129) ?_
        refine ol_v (e_mv _ h2) rfl ?_
        refine ol_yes rfl rfl (congrArg Value.bool hb129) ?_
        refine ol_v (e_sub rfl rfl) rfl ?_
        refine ol_yes rfl rfl (congrArg Value.bool hb129) ?_
        obtain ⟨x131, hx131, hr⟩ := bind_some' hr
        refine ol_e (f_call [(ρ 0), (ρ 1), .int .i64 (w64 (s.t_2 - (1 : Int)))] fn_18 (lcons rfl (lcons rfl (lcons rfl rfl))) (ref4_Steps.calls hW.ok h0 h1 (w64 (s.t_2 - (1 : Int))) hx131)) rfl rfl ?_
        rintro v134 w132 ⟨Fz133, _, rfl, kw1, hk135⟩
        have hW137 := hW.trans kw1
        have st1 := kw1.stp hW.ok
        refine ol_yes rfl rfl (congrArg Value.bool hb129) ?_
        obtain ⟨x138, hx138, hr⟩ := bind_some' hr
        refine ol_e (f_call [(ρ 7), v134] fn_17 (lcons rfl (lcons rfl rfl)) (ref3_Ints.calls hW137.ok (h7.keep st1) hk135 hx138)) rfl rfl ?_
        rintro _ w139 ⟨Fz140, rfl, kw2⟩
        have hW142 := hW137.trans kw2
        have st2 := kw2.stp hW137.ok
        refine ol_v (e_pick true _ (congrArg Value.bool hb129) rfl) rfl ?_
        exact ol_nil ⟨⟨_, (kw1.trans kw2), (congrArg Value.bool (Option.some.inj hr))⟩, ((((((((((Agr.refl _ _ _).upd rfl rfl).upd rfl rfl).upd rfl rfl).upd rfl rfl).upd rfl rfl).upd rfl rfl).upd rfl rfl).upd rfl rfl).upd rfl rfl)⟩
      · have hb130 := Bool.eq_false_iff.mpr hb129
        have hr := hx144
        rw [if_neg hb129] at hr
        refine ol_v (e_mv _ rfl) rfl ?_
        refine ol_not rfl rfl rfl (congrArg Value.bool hb130) rfl ?_
        refine ol_not rfl rfl rfl (congrArg Value.bool hb130) rfl ?_
        refine ol_not rfl rfl rfl (congrArg Value.bool hb130) rfl ?_
        refine ol_not rfl rfl rfl (congrArg Value.bool hb130) rfl ?_
        refine ol_not rfl rfl rfl (congrArg Value.bool hb130) rfl ?_
        refine ol_not rfl rfl rfl (congrArg Value.bool hb130) rfl ?_
        refine ol_not rfl rfl rfl (congrArg Value.bool hb130) rfl ?_
        refine ol_v (e_pick false _ (congrArg Value.bool hb130) rfl) rfl ?_
        exact ol_nil ⟨⟨_, Wk.refl hW.ok, (congrArg Value.bool (Option.some.inj hr))⟩, ((((((((((Agr.refl _ _ _).upd rfl rfl).upd rfl rfl).upd rfl rfl).upd rfl rfl).upd rfl rfl).upd rfl rfl).upd rfl rfl).upd rfl rfl).upd rfl rfl)⟩
    rintro ρ144 w145 ⟨⟨Fz146, kw1, hp144⟩, hAg144⟩
    have hW147 := hW.trans kw1
    have st1 := kw1.stp hW.ok
    refine ol_v (e_as _ hp144) rfl ?_
    obtain rfl := Option.some.inj hr
    exact ol_nil ⟨Fz146, hW147, rfl⟩
  exact Ref.ret (fun s ρ w h => ⟨s, rfl, h⟩)
def post (w : World) (F : BSet) (r : R) (v : Value) (w' : World) : Prop := ∃ (F' : BSet), v = .bool r ∧ Wk nrow w F F' w'
theorem calls {w : World} {F : BSet} (hok : ∀ b, F b → b < w.heap.size) {v0 : Value} {a0 : (List Commit)} (h0 : SlR k_Commit F w v0 a0) {v1 : Value} {a1 : (List Int)} (h1 : SlR (kInt .i64) F w v1 a1) (a2 : Int) {r : R} (hf : f a0 a1 a2 = some r) : Calls Try.prog 3 #[v0, v1, .int .i64 a2] w fun e w' => ∃ v, e = .returned v ∧ post w F r v w' := by
  obtain ⟨c, hc, href⟩ := ref w F
  refine calls_of_ref (args := [v0, v1, .int .i64 a2]) _ Try.func3 hc rfl rfl href ?_ (retOf_some hf) ?_
  · exact ⟨F, Wk.refl hok, h0, h1, rfl⟩
  · rintro ρ w' a ⟨s, rfl, F', hW, h6⟩ hF
    refine ⟨_, run_results (rs := [.tmp 6]) rfl hF (vs := [ρ 6]) (⟨_, rfl, rfl⟩), ?_⟩
    have hv : resVal [ρ 6] = .bool s.t_6 := by rw [h6]; rfl
    exact ⟨F', hv, hW⟩
end
end law4_ShallowCutMatchesSpec

end Go.Proofs.Ytilodamhgepjoaa
