/- The machine's calls come to these plain functions (written by a program, wip/fx/gen.py). -/
import Derived.Test.YtilodamhgepjoaaPA
import Derived.Test.YtilodamhgepjoaaNm
import Derived.Test.YtilodamhgepjoaaM1
import Derived.Test.YtilodamhgepjoaaIt
namespace Go.Proofs.Ytilodamhgepjoaa
open Go.Fx Go.RowKit
set_option linter.unusedVariables false

namespace ref3_Fault
section
def G0 (w0 : World) (F0 : BSet) (s : S) (ρ : Env) (w : World) : Prop := ∃ (F : BSet), Wk nrow w0 F0 F w ∧ ρ 0 = .int .i64 s.code_0 ∧ ρ 1 = .int .i64 s.index_1
def G1 (w0 : World) (F0 : BSet) (s : S) (ρ : Env) (w : World) : Prop := ∃ (F : BSet), Wk nrow w0 F0 F w ∧ ∃ (g4 : Nat), ρ 0 = .int .i64 s.code_0 ∧ ρ 1 = .int .i64 s.index_1 ∧ ρ 4 = .pointer (some ⟨g4, 0, none⟩) ∧ Box k_Fault 26 (Bs w0 nrow) F w g4 s.t_4
def G2 (w0 : World) (F0 : BSet) (s : S) (ρ : Env) (w : World) : Prop := ∃ (F : BSet), Wk nrow w0 F0 F w ∧ ∃ (g4 : Nat), ρ 4 = .pointer (some ⟨g4, 0, none⟩) ∧ Box k_Fault 26 (Bs w0 nrow) F w g4 s.t_4
set_option maxHeartbeats 4000000 in
set_option maxRecDepth 20000 in
theorem ref (w0 : World) (F0 : BSet) : ∃ c, Try.f15.body = some c ∧ Ref Try.prog 8 c (G0 w0 F0) body (fun _ _ _ => False) (fun _ _ _ _ => False) (fun r ρ w => ∃ s, retv s = r ∧ G2 w0 F0 s ρ w) := by
  refine ⟨_, rfl, ?_⟩
  unfold body
  refine Ref.seq (B := G1 w0 F0) ?_ ?_
  · refine Ref.region (fun s ρ w s' h hr => ?_)
    obtain ⟨F, hW, h0, h1⟩ := h
    refine ol_e (f_alloc zer_26 hW) rfl rfl ?_
    rintro _ w2 ⟨g1, rfl, kw1, ho3⟩
    have hW4 := hW.trans kw1
    have st1 := kw1.stp hW.ok
    obtain rfl := Option.some.inj hr
    exact ol_nil ⟨F, hW4, g1, h0, h1, rfl, (ho3.base (row := nrow) hW.le)⟩
  refine Ref.seq (B := G2 w0 F0) ?_ ?_
  · refine Ref.region (fun s ρ w s' h hr => ?_)
    obtain ⟨F, hW, g4, h0, h1, p4, h4⟩ := h
    refine ol_v (e_mv _ h0) rfl ?_
    refine ol_v (e_mv _ h1) rfl ?_
    refine ol_v (e_bld (cells := #[.int .i64 s.code_0, .int .i64 s.index_1]) bld_26 (vs := [(0, .int .i64 s.code_0), (1, .int .i64 s.index_1)]) (lcons (congrArg (Prod.mk 0) rfl) (lcons (congrArg (Prod.mk 1) rfl) rfl)) rfl) rfl ?_
    have hb5 : Val k_Fault F w (.agg #[.int .i64 s.code_0, .int .i64 s.index_1]) (⟨s.code_0, s.index_1⟩ : Fault) := mk_Fault (val_int _ _) (val_int _ _)
    refine ol_eN (f_stB hW h4 (FldS.whole _) ty_26 hb5 p4 rfl) rfl ?_
    rintro - w6 ⟨hW7, ho8, hg1, st1⟩
    obtain rfl := Option.some.inj hr
    exact ol_nil ⟨F, hW7, g4, p4, ho8⟩
  exact Ref.ret (fun s ρ w h => ⟨s, rfl, h⟩)
def post (w : World) (F : BSet) (r : R) (v : Value) (w' : World) : Prop := ∃ (F' : BSet) (v0' : Value), v = v0' ∧ Wk nrow w F F' w' ∧ Val k_Fault F' w' v0' r
theorem calls {w : World} {F : BSet} (hok : ∀ b, F b → b < w.heap.size) (a0 : Int) (a1 : Int) {r : R} (hf : f a0 a1 = some r) : Calls Try.prog 15 #[.int .i64 a0, .int .i64 a1] w fun e w' => ∃ v, e = .returned v ∧ post w F r v w' := by
  obtain ⟨c, hc, href⟩ := ref w F
  refine calls_of_ref (args := [.int .i64 a0, .int .i64 a1]) _ Try.func15 hc rfl rfl href ?_ (retOf_some hf) ?_
  · exact ⟨F, Wk.refl hok, rfl, rfl⟩
  · rintro ρ w' a ⟨s, rfl, F', hW, g4, p4, h4⟩ hF
    obtain ⟨u4, l4, k4⟩ := res_box (P := Try.prog) ty_26 h4
    refine ⟨_, run_results (rs := [.cell 4 26]) rfl hF (vs := [u4]) (⟨_, _, _, rfl, p4, l4, rfl⟩), ?_⟩
    exact ⟨F', u4, rfl, hW, k4⟩
end
end ref3_Fault

namespace ref3_isDigest
section
def G0 (w0 : World) (F0 : BSet) (s : S) (ρ : Env) (w : World) : Prop := ∃ (F : BSet), Wk nrow w0 F0 F w ∧ ρ 0 = .int .i64 s.d_0
def G1 (w0 : World) (F0 : BSet) (s : S) (ρ : Env) (w : World) : Prop := ∃ (F : BSet), Wk nrow w0 F0 F w ∧ ρ 2 = .bool s.t_2
set_option maxHeartbeats 4000000 in
set_option maxRecDepth 20000 in
theorem ref (w0 : World) (F0 : BSet) : ∃ c, Try.f37.body = some c ∧ Ref Try.prog 5 c (G0 w0 F0) body (fun _ _ _ => False) (fun _ _ _ _ => False) (fun r ρ w => ∃ s, retv s = r ∧ G1 w0 F0 s ρ w) := by
  refine ⟨_, rfl, ?_⟩
  unfold body
  refine Ref.seq (B := G0 w0 F0) ?_ ?_
  · refine Ref.region (fun s ρ w s' h hr => ?_)
    obtain ⟨F, hW, h0⟩ := h
    refine ol_v (e_as _ rfl) rfl ?_
    obtain rfl := Option.some.inj hr
    exact ol_nil ⟨F, hW, h0⟩
  refine Ref.seq (B := G1 w0 F0) ?_ ?_
  · refine Ref.region (fun s ρ w s' h hr => ?_)
    obtain ⟨F, hW, h0⟩ := h
    refine ol_v (e_mv _ h0) rfl ?_
    obtain ⟨x1, hx1, hr⟩ := bind_some' hr
    refine ol_e (f_call [.int .i64 s.d_0, .int .i64 (0 : Int), .int .i64 (2305843009213693950 : Int)] fn_16 (lcons rfl (lcons rfl (lcons rfl rfl))) (ref3_In.calls hW.ok s.d_0 (0 : Int) (2305843009213693950 : Int) hx1)) rfl rfl ?_
    rintro _ w2 ⟨Fz3, rfl, kw1⟩
    have hW5 := hW.trans kw1
    have st1 := kw1.stp hW.ok
    refine ol_v (e_as _ rfl) rfl ?_
    obtain rfl := Option.some.inj hr
    exact ol_nil ⟨Fz3, hW5, rfl⟩
  exact Ref.ret (fun s ρ w h => ⟨s, rfl, h⟩)
def post (w : World) (F : BSet) (r : R) (v : Value) (w' : World) : Prop := ∃ (F' : BSet), v = .bool r ∧ Wk nrow w F F' w'
theorem calls {w : World} {F : BSet} (hok : ∀ b, F b → b < w.heap.size) (a0 : Int) {r : R} (hf : f a0 = some r) : Calls Try.prog 37 #[.int .i64 a0] w fun e w' => ∃ v, e = .returned v ∧ post w F r v w' := by
  obtain ⟨c, hc, href⟩ := ref w F
  refine calls_of_ref (args := [.int .i64 a0]) _ Try.func37 hc rfl rfl href ?_ (retOf_some hf) ?_
  · exact ⟨F, Wk.refl hok, rfl⟩
  · rintro ρ w' a ⟨s, rfl, F', hW, h2⟩ hF
    refine ⟨_, run_results (rs := [.tmp 2]) rfl hF (vs := [ρ 2]) (⟨_, rfl, rfl⟩), ?_⟩
    have hv : resVal [ρ 2] = .bool s.t_2 := by rw [h2]; rfl
    exact ⟨F', hv, hW⟩
end
end ref3_isDigest

namespace ref3_HistoryFault
section
def G0 (w0 : World) (F0 : BSet) (s : S) (ρ : Env) (w : World) : Prop := ∃ (F : BSet), Wk nrow w0 F0 F w ∧ SlR k_Commit F w (ρ 0) s.t_0
def G1 (w0 : World) (F0 : BSet) (s : S) (ρ : Env) (w : World) : Prop := ∃ (F : BSet), Wk nrow w0 F0 F w ∧ ∃ (g2 : Nat), SlR k_Commit F w (ρ 0) s.t_0 ∧ ρ 2 = .pointer (some ⟨g2, 0, none⟩) ∧ Box k_Fault 26 (Bs w0 nrow) F w g2 s.t_2
def G2 (w0 : World) (F0 : BSet) (s : S) (ρ : Env) (w : World) : Prop := ∃ (F : BSet), Wk nrow w0 F0 F w ∧ ∃ (g2 : Nat), SlR k_Commit F w (ρ 0) s.t_0 ∧ ρ 2 = .pointer (some ⟨g2, 0, none⟩) ∧ Box k_Fault 26 (Bs w0 nrow) F w g2 s.t_2 ∧ ρ 8 = .bool s.t_8
def G3 (w0 : World) (F0 : BSet) (s : S) (ρ : Env) (w : World) : Prop := ∃ (F : BSet), Wk nrow w0 F0 F w ∧ ∃ (g2 : Nat), ρ 2 = .pointer (some ⟨g2, 0, none⟩) ∧ Box k_Fault 26 (Bs w0 nrow) F w g2 s.t_2
def G4 (w0 : World) (F0 : BSet) (s : S) (ρ : Env) (w : World) : Prop := ∃ (F : BSet), Wk nrow w0 F0 F w ∧ ∃ (g2 : Nat), SlR k_Commit F w (ρ 0) s.t_0 ∧ ρ 2 = .pointer (some ⟨g2, 0, none⟩) ∧ Box k_Fault 26 (Bs w0 nrow) F w g2 s.t_2 ∧ ρ 3 = .int .i64 s.t_3
def G5 (w0 : World) (F0 : BSet) (s : S) (ρ : Env) (w : World) : Prop := ∃ (F : BSet), Wk nrow w0 F0 F w ∧ ∃ (g2 : Nat), SlR k_Commit F w (ρ 0) s.t_0 ∧ ρ 2 = .pointer (some ⟨g2, 0, none⟩) ∧ Box k_Fault 26 (Bs w0 nrow) F w g2 s.t_2 ∧ ρ 3 = .int .i64 s.t_3 ∧ ρ 13 = .bool s.t_13
def G6 (w0 : World) (F0 : BSet) (s : S) (ρ : Env) (w : World) : Prop := ∃ (F : BSet), Wk nrow w0 F0 F w ∧ ∃ (g2 : Nat) (g4 : Nat), SlR k_Commit F w (ρ 0) s.t_0 ∧ ρ 2 = .pointer (some ⟨g2, 0, none⟩) ∧ Box k_Fault 26 (Bs w0 nrow) F w g2 s.t_2 ∧ ρ 3 = .int .i64 s.t_3 ∧ ρ 4 = .pointer (some ⟨g4, 0, none⟩) ∧ Box k_Commit 56 (Bs w0 nrow) F w g4 s.t_4
def G7 (w0 : World) (F0 : BSet) (s : S) (ρ : Env) (w : World) : Prop := ∃ (F : BSet), Wk nrow w0 F0 F w ∧ ∃ (g2 : Nat) (g4 : Nat), SlR k_Commit F w (ρ 0) s.t_0 ∧ ρ 2 = .pointer (some ⟨g2, 0, none⟩) ∧ Box k_Fault 26 (Bs w0 nrow) F w g2 s.t_2 ∧ ρ 3 = .int .i64 s.t_3 ∧ ρ 4 = .pointer (some ⟨g4, 0, none⟩) ∧ Box k_Commit 56 (Bs w0 nrow) F w g4 s.t_4 ∧ ρ 23 = .bool s.t_23
def G8 (w0 : World) (F0 : BSet) (s : S) (ρ : Env) (w : World) : Prop := ∃ (F : BSet), Wk nrow w0 F0 F w ∧ ∃ (g2 : Nat), ρ 2 = .pointer (some ⟨g2, 0, none⟩) ∧ Box k_Fault 26 (Bs w0 nrow) F w g2 s.t_2 ∧ ρ 3 = .int .i64 s.t_3
def G9 (w0 : World) (F0 : BSet) (s : S) (ρ : Env) (w : World) : Prop := ∃ (F : BSet), Wk nrow w0 F0 F w ∧ ∃ (g2 : Nat) (g4 : Nat), SlR k_Commit F w (ρ 0) s.t_0 ∧ ρ 2 = .pointer (some ⟨g2, 0, none⟩) ∧ Box k_Fault 26 (Bs w0 nrow) F w g2 s.t_2 ∧ ρ 3 = .int .i64 s.t_3 ∧ ρ 4 = .pointer (some ⟨g4, 0, none⟩) ∧ Box k_Commit 56 (Bs w0 nrow) F w g4 s.t_4 ∧ ρ 5 = .int .i64 s.t_5
def G10 (w0 : World) (F0 : BSet) (s : S) (ρ : Env) (w : World) : Prop := ∃ (F : BSet), Wk nrow w0 F0 F w ∧ ∃ (g2 : Nat) (g4 : Nat), SlR k_Commit F w (ρ 0) s.t_0 ∧ ρ 2 = .pointer (some ⟨g2, 0, none⟩) ∧ Box k_Fault 26 (Bs w0 nrow) F w g2 s.t_2 ∧ ρ 3 = .int .i64 s.t_3 ∧ ρ 4 = .pointer (some ⟨g4, 0, none⟩) ∧ Box k_Commit 56 (Bs w0 nrow) F w g4 s.t_4 ∧ ρ 5 = .int .i64 s.t_5 ∧ ρ 30 = .bool s.t_30
def G11 (w0 : World) (F0 : BSet) (s : S) (ρ : Env) (w : World) : Prop := ∃ (F : BSet), Wk nrow w0 F0 F w ∧ ∃ (g2 : Nat) (g4 : Nat), SlR k_Commit F w (ρ 0) s.t_0 ∧ ρ 2 = .pointer (some ⟨g2, 0, none⟩) ∧ Box k_Fault 26 (Bs w0 nrow) F w g2 s.t_2 ∧ ρ 3 = .int .i64 s.t_3 ∧ ρ 4 = .pointer (some ⟨g4, 0, none⟩) ∧ Box k_Commit 56 (Bs w0 nrow) F w g4 s.t_4 ∧ ρ 5 = .int .i64 s.t_5 ∧ ρ 41 = .bool s.t_41
def G12 (w0 : World) (F0 : BSet) (s : S) (ρ : Env) (w : World) : Prop := ∃ (F : BSet), Wk nrow w0 F0 F w ∧ ∃ (g2 : Nat) (g4 : Nat), SlR k_Commit F w (ρ 0) s.t_0 ∧ ρ 2 = .pointer (some ⟨g2, 0, none⟩) ∧ Box k_Fault 26 (Bs w0 nrow) F w g2 s.t_2 ∧ ρ 3 = .int .i64 s.t_3 ∧ ρ 4 = .pointer (some ⟨g4, 0, none⟩) ∧ Box k_Commit 56 (Bs w0 nrow) F w g4 s.t_4 ∧ ρ 5 = .int .i64 s.t_5 ∧ ρ 59 = .bool s.t_59
def G13 (w0 : World) (F0 : BSet) (s : S) (ρ : Env) (w : World) : Prop := ∃ (F : BSet), Wk nrow w0 F0 F w ∧ ∃ (g2 : Nat) (g4 : Nat), SlR k_Commit F w (ρ 0) s.t_0 ∧ ρ 2 = .pointer (some ⟨g2, 0, none⟩) ∧ Box k_Fault 26 (Bs w0 nrow) F w g2 s.t_2 ∧ ρ 3 = .int .i64 s.t_3 ∧ ρ 4 = .pointer (some ⟨g4, 0, none⟩) ∧ Box k_Commit 56 (Bs w0 nrow) F w g4 s.t_4 ∧ ρ 77 = .bool s.t_77
def G14 (w0 : World) (F0 : BSet) (s : S) (ρ : Env) (w : World) : Prop := ∃ (F : BSet), Wk nrow w0 F0 F w ∧ ∃ (g2 : Nat), SlR k_Commit F w (ρ 0) s.t_0 ∧ ρ 2 = .pointer (some ⟨g2, 0, none⟩) ∧ Box k_Fault 26 (Bs w0 nrow) F w g2 s.t_2 ∧ ρ 3 = .int .i64 s.t_3 ∧ ρ 83 = .bool s.t_83
set_option maxHeartbeats 4000000 in
set_option maxRecDepth 20000 in
theorem ref (w0 : World) (F0 : BSet) : ∃ c, Try.f14.body = some c ∧ Ref Try.prog 87 c (G0 w0 F0) body (fun _ _ _ => False) (fun _ _ _ _ => False) (fun r ρ w => ∃ s, retv s = r ∧ G3 w0 F0 s ρ w) := by
  refine ⟨_, rfl, ?_⟩
  unfold body
  refine Ref.seq (B := G1 w0 F0) ?_ ?_
  · refine Ref.region (fun s ρ w s' h hr => ?_)
    obtain ⟨F, hW, h0⟩ := h
    refine ol_e (f_alloc zer_26 hW) rfl rfl ?_
    rintro _ w2 ⟨g1, rfl, kw1, ho3⟩
    have hW4 := hW.trans kw1
    have st1 := kw1.stp hW.ok
    obtain rfl := Option.some.inj hr
    exact ol_nil ⟨F, hW4, g1, (h0.keep st1), rfl, (ho3.base (row := nrow) hW.le)⟩
  refine Ref.seq (B := G1 w0 F0) ?_ ?_
  · refine Ref.seq (B := G2 w0 F0) ?_ ?_
    · refine Ref.region (fun s ρ w s' h hr => ?_)
      obtain ⟨F, hW, g2, h0, p2, h2⟩ := h
      refine ol_v (e_mv _ rfl) rfl ?_
      obtain ⟨A5, c6, e7, hc8, R9⟩ := id h0
      refine ol_v (e_len (SlT.sl sl_22) e7) rfl ?_
      refine ol_v (e_gtr rfl rfl) rfl ?_
      obtain rfl := Option.some.inj hr
      exact ol_nil ⟨F, hW, g2, h0, p2, h2, rfl⟩
    refine Ref.cond (b := fun s => s.t_8) (fun s ρ w ⟨F, hW, g2, h0, p2, h2, h8⟩ => h8) (Ref.pre (A := G3 w0 F0) ?_ (fun s ρ w h => (fun ⟨F, hW, g2, h0, p2, h2, h8⟩ => ⟨F, hW, g2, p2, h2⟩ : G2 w0 F0 s ρ w → G3 w0 F0 s ρ w) h.2)) (Ref.pre (A := G1 w0 F0) ?_ (fun s ρ w h => (fun ⟨F, hW, g2, h0, p2, h2, h8⟩ => ⟨F, hW, g2, h0, p2, h2⟩ : G2 w0 F0 s ρ w → G1 w0 F0 s ρ w) h.2))
    · refine Ref.seq (B := G3 w0 F0) ?_ ?_
      · refine Ref.region (fun s ρ w s' h hr => ?_)
        obtain ⟨F, hW, g2, p2, h2⟩ := h
        obtain ⟨x10, hx10, hr⟩ := bind_some' hr
        refine ol_e (f_call [.int .i64 (2 : Int), .int .i64 (-1 : Int)] fn_15 (lcons rfl (lcons rfl rfl)) (ref3_Fault.calls hW.ok (2 : Int) (-1 : Int) hx10)) rfl rfl ?_
        rintro v13 w11 ⟨Fz12, _, rfl, kw1, hk14⟩
        have hW16 := hW.trans kw1
        have st1 := kw1.stp hW.ok
        refine ol_eN (f_stB hW16 (h2.wk kw1 hW.ok) (FldS.whole _) ty_26 hk14 p2 rfl) rfl ?_
        rintro - w17 ⟨hW18, ho19, hg2, st2⟩
        obtain rfl := Option.some.inj hr
        exact ol_nil ⟨Fz12, hW18, g2, p2, ho19⟩
      exact Ref.ret (fun s ρ w h => ⟨s, rfl, h⟩)
    · exact Ref.skip
  refine Ref.seq (B := G3 w0 F0) ?_ ?_
  · refine Ref.seq (B := G4 w0 F0) ?_ ?_
    · refine Ref.region (fun s ρ w s' h hr => ?_)
      obtain ⟨F, hW, g2, h0, p2, h2⟩ := h
      refine ol_v (e_as _ rfl) rfl ?_
      obtain rfl := Option.some.inj hr
      exact ol_nil ⟨F, hW, g2, h0, p2, h2, rfl⟩
    refine Ref.block ?_
    refine Ref.loop ?_
    refine Ref.seq (B := G4 w0 F0) ?_ ?_
    · refine Ref.seq (B := G5 w0 F0) ?_ ?_
      · refine Ref.region (fun s ρ w s' h hr => ?_)
        obtain ⟨F, hW, g2, h0, p2, h2, h3⟩ := h
        refine ol_v (e_mv _ h3) rfl ?_
        refine ol_v (e_mv _ rfl) rfl ?_
        obtain ⟨A20, c21, e22, hc23, R24⟩ := id h0
        refine ol_v (e_len (SlT.sl sl_22) e22) rfl ?_
        refine ol_v (e_lss rfl rfl) rfl ?_
        obtain rfl := Option.some.inj hr
        exact ol_nil ⟨F, hW, g2, h0, p2, h2, h3, rfl⟩
      refine Ref.cond (b := fun s => s.t_13) (fun s ρ w ⟨F, hW, g2, h0, p2, h2, h3, h13⟩ => h13) (Ref.pre (A := G4 w0 F0) ?_ (fun s ρ w h => (fun ⟨F, hW, g2, h0, p2, h2, h3, h13⟩ => ⟨F, hW, g2, h0, p2, h2, h3⟩ : G5 w0 F0 s ρ w → G4 w0 F0 s ρ w) h.2)) (Ref.pre (A := G3 w0 F0) ?_ (fun s ρ w h => (fun ⟨F, hW, g2, h0, p2, h2, h3, h13⟩ => ⟨F, hW, g2, p2, h2⟩ : G5 w0 F0 s ρ w → G3 w0 F0 s ρ w) h.2))
      · exact Ref.skip
      · exact Ref.exit (fun s ρ w h => h)
    refine Ref.seq (B := G4 w0 F0) ?_ ?_
    · refine Ref.block ?_
      refine Ref.seq (B := G6 w0 F0) ?_ ?_
      · refine Ref.region (fun s ρ w s' h hr => ?_)
        obtain ⟨F, hW, g2, h0, p2, h2, h3⟩ := h
        refine ol_v (e_mv _ rfl) rfl ?_
        refine ol_v (e_mv _ h3) rfl ?_
        obtain ⟨x25, hx25, hr⟩ := bind_some' hr
        obtain ⟨A26, c27, e28, hc29, R30⟩ := id h0
        obtain ⟨b31, o32, hA33, L34⟩ := Row.at_ R30 hx25
        refine ol_v (e_ix (SlT.sl sl_22) (SlT.sz sl_22) hA33 hx25 e28 rfl) rfl ?_
        obtain ⟨v35, hl36⟩ := LiesAt.v L34.at_
        refine ol_v (e_ld ty_56 hl36 rfl) rfl ?_
        refine ol_e (f_alloc zer_56 hW) rfl rfl ?_
        rintro _ w38 ⟨g37, rfl, kw1, ho39⟩
        have hW40 := hW.trans kw1
        have st1 := kw1.stp hW.ok
        refine ol_eN (f_stB hW40 (ho39.base (row := nrow) hW.le) (FldS.whole _) ty_56 (hl36.val.keep st1) rfl rfl) rfl ?_
        rintro - w41 ⟨hW42, ho43, hg2, st2⟩
        obtain rfl := Option.some.inj hr
        exact ol_nil ⟨F, hW42, g2, g37, (h0.keep (st1.trans st2)), p2, ((h2.wk kw1 hW.ok).mut (apart_bb (ho39.base (row := nrow) hW.le) (h2.wk kw1 hW.ok) rfl) hg2 st2), h3, rfl, ho43⟩
      refine Ref.seq (B := G6 w0 F0) ?_ ?_
      · refine Ref.seq (B := G7 w0 F0) ?_ ?_
        · refine Ref.region (fun s ρ w s' h hr => ?_)
          obtain ⟨F, hW, g2, g4, h0, p2, h2, h3, p4, h4⟩ := h
          refine ol_v (e_fa fa_56_0 p4) rfl ?_
          obtain ⟨v44, hl45, hs46⟩ := LiesV.sl ((h4).at_.fld fl_Commit_0)
          refine ol_v (e_ld ty_23 hl45 rfl) rfl ?_
          obtain ⟨A47, c48, e49, hc50, R51⟩ := id hs46
          refine ol_v (e_len (SlT.sl sl_23) e49) rfl ?_
          refine ol_v (e_gtr rfl rfl) rfl ?_
          obtain rfl := Option.some.inj hr
          exact ol_nil ⟨F, hW, g2, g4, h0, p2, h2, h3, p4, h4, rfl⟩
        refine Ref.cond (b := fun s => s.t_23) (fun s ρ w ⟨F, hW, g2, g4, h0, p2, h2, h3, p4, h4, h23⟩ => h23) (Ref.pre (A := G8 w0 F0) ?_ (fun s ρ w h => (fun ⟨F, hW, g2, g4, h0, p2, h2, h3, p4, h4, h23⟩ => ⟨F, hW, g2, p2, h2, h3⟩ : G7 w0 F0 s ρ w → G8 w0 F0 s ρ w) h.2)) (Ref.pre (A := G6 w0 F0) ?_ (fun s ρ w h => (fun ⟨F, hW, g2, g4, h0, p2, h2, h3, p4, h4, h23⟩ => ⟨F, hW, g2, g4, h0, p2, h2, h3, p4, h4⟩ : G7 w0 F0 s ρ w → G6 w0 F0 s ρ w) h.2))
        · refine Ref.seq (B := G3 w0 F0) ?_ ?_
          · refine Ref.region (fun s ρ w s' h hr => ?_)
            obtain ⟨F, hW, g2, p2, h2, h3⟩ := h
            refine ol_v (e_mv _ h3) rfl ?_
            obtain ⟨x52, hx52, hr⟩ := bind_some' hr
            refine ol_e (f_call [.int .i64 (2 : Int), .int .i64 s.t_3] fn_15 (lcons rfl (lcons rfl rfl)) (ref3_Fault.calls hW.ok (2 : Int) s.t_3 hx52)) rfl rfl ?_
            rintro v55 w53 ⟨Fz54, _, rfl, kw1, hk56⟩
            have hW58 := hW.trans kw1
            have st1 := kw1.stp hW.ok
            refine ol_eN (f_stB hW58 (h2.wk kw1 hW.ok) (FldS.whole _) ty_26 hk56 p2 rfl) rfl ?_
            rintro - w59 ⟨hW60, ho61, hg2, st2⟩
            obtain rfl := Option.some.inj hr
            exact ol_nil ⟨Fz54, hW60, g2, p2, ho61⟩
          exact Ref.ret (fun s ρ w h => ⟨s, rfl, h⟩)
        · exact Ref.skip
      refine Ref.seq (B := G6 w0 F0) ?_ ?_
      · refine Ref.seq (B := G9 w0 F0) ?_ ?_
        · refine Ref.region (fun s ρ w s' h hr => ?_)
          obtain ⟨F, hW, g2, g4, h0, p2, h2, h3, p4, h4⟩ := h
          refine ol_v (e_as _ rfl) rfl ?_
          obtain rfl := Option.some.inj hr
          exact ol_nil ⟨F, hW, g2, g4, h0, p2, h2, h3, p4, h4, rfl⟩
        refine Ref.block ?_
        refine Ref.loop ?_
        refine Ref.seq (B := G9 w0 F0) ?_ ?_
        · refine Ref.seq (B := G10 w0 F0) ?_ ?_
          · refine Ref.region (fun s ρ w s' h hr => ?_)
            obtain ⟨F, hW, g2, g4, h0, p2, h2, h3, p4, h4, h5⟩ := h
            refine ol_v (e_mv _ h5) rfl ?_
            refine ol_v (e_fa fa_56_0 p4) rfl ?_
            obtain ⟨v62, hl63, hs64⟩ := LiesV.sl ((h4).at_.fld fl_Commit_0)
            refine ol_v (e_ld ty_23 hl63 rfl) rfl ?_
            obtain ⟨A65, c66, e67, hc68, R69⟩ := id hs64
            refine ol_v (e_len (SlT.sl sl_23) e67) rfl ?_
            refine ol_v (e_lss rfl rfl) rfl ?_
            obtain rfl := Option.some.inj hr
            exact ol_nil ⟨F, hW, g2, g4, h0, p2, h2, h3, p4, h4, h5, rfl⟩
          refine Ref.cond (b := fun s => s.t_30) (fun s ρ w ⟨F, hW, g2, g4, h0, p2, h2, h3, p4, h4, h5, h30⟩ => h30) (Ref.pre (A := G9 w0 F0) ?_ (fun s ρ w h => (fun ⟨F, hW, g2, g4, h0, p2, h2, h3, p4, h4, h5, h30⟩ => ⟨F, hW, g2, g4, h0, p2, h2, h3, p4, h4, h5⟩ : G10 w0 F0 s ρ w → G9 w0 F0 s ρ w) h.2)) (Ref.pre (A := G6 w0 F0) ?_ (fun s ρ w h => (fun ⟨F, hW, g2, g4, h0, p2, h2, h3, p4, h4, h5, h30⟩ => ⟨F, hW, g2, g4, h0, p2, h2, h3, p4, h4⟩ : G10 w0 F0 s ρ w → G6 w0 F0 s ρ w) h.2))
          · exact Ref.skip
          · exact Ref.exit (fun s ρ w h => h)
        refine Ref.seq (B := G9 w0 F0) ?_ ?_
        · refine Ref.block ?_
          refine Ref.seq (B := G9 w0 F0) ?_ ?_
          · refine Ref.seq (B := G11 w0 F0) ?_ ?_
            · refine Ref.region (fun s ρ w s' h hr => ?_)
              obtain ⟨F, hW, g2, g4, h0, p2, h2, h3, p4, h4, h5⟩ := h
              refine ol_v (e_fa fa_56_0 p4) rfl ?_
              obtain ⟨v70, hl71, hs72⟩ := LiesV.sl ((h4).at_.fld fl_Commit_0)
              refine ol_v (e_ld ty_23 hl71 rfl) rfl ?_
              refine ol_v (e_mv _ h5) rfl ?_
              obtain ⟨x73, hx73, hr⟩ := bind_some' hr
              obtain ⟨A74, c75, e76, hc77, R78⟩ := id hs72
              obtain ⟨b79, o80, hA81, L82⟩ := Row.at_ R78 hx73
              refine ol_v (e_ix (SlT.sl sl_23) (SlT.sz sl_23) hA81 hx73 e76 rfl) rfl ?_
              refine ol_v (e_ld ty_3 (LiesV.int L82.at_) rfl) rfl ?_
              refine ol_v (e_mv _ h3) rfl ?_
              refine ol_v (e_sub rfl rfl) rfl ?_
              obtain ⟨x83, hx83, hr⟩ := bind_some' hr
              refine ol_e (f_call [.int .i64 x73, .int .i64 (0 : Int), .int .i64 (w64 (s.t_3 - (1 : Int)))] fn_16 (lcons rfl (lcons rfl (lcons rfl rfl))) (ref3_In.calls hW.ok x73 (0 : Int) (w64 (s.t_3 - (1 : Int))) hx83)) rfl rfl ?_
              rintro _ w84 ⟨Fz85, rfl, kw1⟩
              have hW87 := hW.trans kw1
              have st1 := kw1.stp hW.ok
              refine ol_v (e_not_ rfl) rfl ?_
              obtain rfl := Option.some.inj hr
              exact ol_nil ⟨Fz85, hW87, g2, g4, (h0.keep st1), p2, (h2.wk kw1 hW.ok), h3, p4, (h4.wk kw1 hW.ok), h5, rfl⟩
            refine Ref.cond (b := fun s => s.t_41) (fun s ρ w ⟨F, hW, g2, g4, h0, p2, h2, h3, p4, h4, h5, h41⟩ => h41) (Ref.pre (A := G8 w0 F0) ?_ (fun s ρ w h => (fun ⟨F, hW, g2, g4, h0, p2, h2, h3, p4, h4, h5, h41⟩ => ⟨F, hW, g2, p2, h2, h3⟩ : G11 w0 F0 s ρ w → G8 w0 F0 s ρ w) h.2)) (Ref.pre (A := G9 w0 F0) ?_ (fun s ρ w h => (fun ⟨F, hW, g2, g4, h0, p2, h2, h3, p4, h4, h5, h41⟩ => ⟨F, hW, g2, g4, h0, p2, h2, h3, p4, h4, h5⟩ : G11 w0 F0 s ρ w → G9 w0 F0 s ρ w) h.2))
            · refine Ref.seq (B := G3 w0 F0) ?_ ?_
              · refine Ref.region (fun s ρ w s' h hr => ?_)
                obtain ⟨F, hW, g2, p2, h2, h3⟩ := h
                refine ol_v (e_mv _ h3) rfl ?_
                obtain ⟨x88, hx88, hr⟩ := bind_some' hr
                refine ol_e (f_call [.int .i64 (3 : Int), .int .i64 s.t_3] fn_15 (lcons rfl (lcons rfl rfl)) (ref3_Fault.calls hW.ok (3 : Int) s.t_3 hx88)) rfl rfl ?_
                rintro v91 w89 ⟨Fz90, _, rfl, kw1, hk92⟩
                have hW94 := hW.trans kw1
                have st1 := kw1.stp hW.ok
                refine ol_eN (f_stB hW94 (h2.wk kw1 hW.ok) (FldS.whole _) ty_26 hk92 p2 rfl) rfl ?_
                rintro - w95 ⟨hW96, ho97, hg2, st2⟩
                obtain rfl := Option.some.inj hr
                exact ol_nil ⟨Fz90, hW96, g2, p2, ho97⟩
              exact Ref.ret (fun s ρ w h => ⟨s, rfl, h⟩)
            · exact Ref.skip
          refine Ref.seq (B := G12 w0 F0) ?_ ?_
          · refine Ref.regionS (by kernel_rfl) (by kernel_rfl) (fun s ρ w ⟨F, hW, g2, g4, h0, p2, h2, h3, p4, h4, h5⟩ => ⟨F, hW.drewS, g2, g4, h0.keep (sd hW), p2, h2.wk (Wk.drew (row := nrow) hW.ok) hW.ok, h3, p4, h4.wk (Wk.drew (row := nrow) hW.ok) hW.ok, h5⟩) (fun s ρ w s' h hr => ?_)
            obtain ⟨F, hW, g2, g4, h0, p2, h2, h3, p4, h4, h5⟩ := h
            refine ol_v (e_mv _ h5) rfl ?_
            refine ol_v (e_gtr rfl rfl) rfl ?_
            obtain ⟨x126, hx127, hr⟩ := bind_some' hr
            refine ol_cutA 14 46 59 (fun ρ' w' => w = w' ∧ ρ' 59 = .bool x126) rfl ?_ ?_
            · by_cases hb98 : (decide ((0 : Int) < s.t_5)) = true
              · have hr := hx127
                rw [if_pos hb98] at hr
                refine ol_v (e_mv _ rfl) rfl ?_
                refine ol_yes rfl rfl (congrArg Value.bool hb98) ?_
                refine ol_v (e_fa fa_56_0 p4) rfl ?_
                refine ol_yes rfl rfl (congrArg Value.bool hb98) ?_
                obtain ⟨v100, hl101, hs102⟩ := LiesV.sl ((h4).at_.fld fl_Commit_0)
                refine ol_v (e_ld ty_23 hl101 rfl) rfl ?_
                refine ol_yes rfl rfl (congrArg Value.bool hb98) ?_
                refine ol_v (e_mv _ h5) rfl ?_
                refine ol_yes rfl rfl (congrArg Value.bool hb98) ?_
                obtain ⟨x103, hx103, hr⟩ := bind_some' hr
                obtain ⟨A104, c105, e106, hc107, R108⟩ := id hs102
                obtain ⟨b109, o110, hA111, L112⟩ := Row.at_ R108 hx103
                refine ol_v (e_ix (SlT.sl sl_23) (SlT.sz sl_23) hA111 hx103 e106 rfl) rfl ?_
                refine ol_yes rfl rfl (congrArg Value.bool hb98) ?_
                refine ol_v (e_ld ty_3 (LiesV.int L112.at_) rfl) rfl ?_
                refine ol_yes rfl rfl (congrArg Value.bool hb98) ?_
                refine ol_v (e_fa fa_56_0 p4) rfl ?_
                refine ol_yes rfl rfl (congrArg Value.bool hb98) ?_
                obtain ⟨v113, hl114, hs115⟩ := LiesV.sl ((h4).at_.fld fl_Commit_0)
                refine ol_v (e_ld ty_23 hl114 rfl) rfl ?_
                refine ol_yes rfl rfl (congrArg Value.bool hb98) ?_
                refine ol_v (e_mv _ h5) rfl ?_
                refine ol_yes rfl rfl (congrArg Value.bool hb98) ?_
                refine ol_v (e_sub rfl rfl) rfl ?_
                refine ol_yes rfl rfl (congrArg Value.bool hb98) ?_
                obtain ⟨x116, hx116, hr⟩ := bind_some' hr
                obtain ⟨A117, c118, e119, hc120, R121⟩ := id hs115
                obtain ⟨b122, o123, hA124, L125⟩ := Row.at_ R121 hx116
                refine ol_v (e_ix (SlT.sl sl_23) (SlT.sz sl_23) hA124 hx116 e119 rfl) rfl ?_
                refine ol_yes rfl rfl (congrArg Value.bool hb98) ?_
                refine ol_v (e_ld ty_3 (LiesV.int L125.at_) rfl) rfl ?_
                refine ol_yes rfl rfl (congrArg Value.bool hb98) ?_
                refine ol_v (e_leq rfl rfl) rfl ?_
                refine ol_v (e_pick true _ (congrArg Value.bool hb98) rfl) rfl ?_
                exact ol_nil ⟨⟨rfl, (congrArg Value.bool (Option.some.inj hr))⟩, (((((((((((((((Agr.refl _ _ _).upd rfl rfl).upd rfl rfl).upd rfl rfl).upd rfl rfl).upd rfl rfl).upd rfl rfl).upd rfl rfl).upd rfl rfl).upd rfl rfl).upd rfl rfl).upd rfl rfl).upd rfl rfl).upd rfl rfl).upd rfl rfl)⟩
              · have hb99 := Bool.eq_false_iff.mpr hb98
                have hr := hx127
                rw [if_neg hb98] at hr
                refine ol_v (e_mv _ rfl) rfl ?_
                refine ol_not rfl rfl rfl (congrArg Value.bool hb99) rfl ?_
                refine ol_not rfl rfl rfl (congrArg Value.bool hb99) rfl ?_
                refine ol_not rfl rfl rfl (congrArg Value.bool hb99) rfl ?_
                refine ol_not rfl rfl rfl (congrArg Value.bool hb99) rfl ?_
                refine ol_not rfl rfl rfl (congrArg Value.bool hb99) rfl ?_
                refine ol_not rfl rfl rfl (congrArg Value.bool hb99) rfl ?_
                refine ol_not rfl rfl rfl (congrArg Value.bool hb99) rfl ?_
                refine ol_not rfl rfl rfl (congrArg Value.bool hb99) rfl ?_
                refine ol_not rfl rfl rfl (congrArg Value.bool hb99) rfl ?_
                refine ol_not rfl rfl rfl (congrArg Value.bool hb99) rfl ?_
                refine ol_not rfl rfl rfl (congrArg Value.bool hb99) rfl ?_
                refine ol_not rfl rfl rfl (congrArg Value.bool hb99) rfl ?_
                refine ol_v (e_pick false _ (congrArg Value.bool hb99) rfl) rfl ?_
                exact ol_nil ⟨⟨rfl, (congrArg Value.bool (Option.some.inj hr))⟩, (((((((((((((((Agr.refl _ _ _).upd rfl rfl).upd rfl rfl).upd rfl rfl).upd rfl rfl).upd rfl rfl).upd rfl rfl).upd rfl rfl).upd rfl rfl).upd rfl rfl).upd rfl rfl).upd rfl rfl).upd rfl rfl).upd rfl rfl).upd rfl rfl)⟩
            rintro ρ127 _ ⟨⟨rfl, hp127⟩, hAg127⟩
            obtain rfl := Option.some.inj hr
            exact ol_nil ⟨F, hW, g2, g4, (SlR.eqv (hAg127 0 rfl) h0), ((hAg127 2 rfl).trans p2), h2, ((hAg127 3 rfl).trans h3), ((hAg127 4 rfl).trans p4), h4, ((hAg127 5 rfl).trans h5), hp127⟩
          refine Ref.cond (b := fun s => s.t_59) (fun s ρ w ⟨F, hW, g2, g4, h0, p2, h2, h3, p4, h4, h5, h59⟩ => h59) (Ref.pre (A := G8 w0 F0) ?_ (fun s ρ w h => (fun ⟨F, hW, g2, g4, h0, p2, h2, h3, p4, h4, h5, h59⟩ => ⟨F, hW, g2, p2, h2, h3⟩ : G12 w0 F0 s ρ w → G8 w0 F0 s ρ w) h.2)) (Ref.pre (A := G9 w0 F0) ?_ (fun s ρ w h => (fun ⟨F, hW, g2, g4, h0, p2, h2, h3, p4, h4, h5, h59⟩ => ⟨F, hW, g2, g4, h0, p2, h2, h3, p4, h4, h5⟩ : G12 w0 F0 s ρ w → G9 w0 F0 s ρ w) h.2))
          · refine Ref.seq (B := G3 w0 F0) ?_ ?_
            · refine Ref.region (fun s ρ w s' h hr => ?_)
              obtain ⟨F, hW, g2, p2, h2, h3⟩ := h
              refine ol_v (e_mv _ h3) rfl ?_
              obtain ⟨x128, hx128, hr⟩ := bind_some' hr
              refine ol_e (f_call [.int .i64 (5 : Int), .int .i64 s.t_3] fn_15 (lcons rfl (lcons rfl rfl)) (ref3_Fault.calls hW.ok (5 : Int) s.t_3 hx128)) rfl rfl ?_
              rintro v131 w129 ⟨Fz130, _, rfl, kw1, hk132⟩
              have hW134 := hW.trans kw1
              have st1 := kw1.stp hW.ok
              refine ol_eN (f_stB hW134 (h2.wk kw1 hW.ok) (FldS.whole _) ty_26 hk132 p2 rfl) rfl ?_
              rintro - w135 ⟨hW136, ho137, hg2, st2⟩
              obtain rfl := Option.some.inj hr
              exact ol_nil ⟨Fz130, hW136, g2, p2, ho137⟩
            exact Ref.ret (fun s ρ w h => ⟨s, rfl, h⟩)
          · exact Ref.skip
        refine Ref.region (fun s ρ w s' h hr => ?_)
        obtain ⟨F, hW, g2, g4, h0, p2, h2, h3, p4, h4, h5⟩ := h
        refine ol_v (e_mv _ h5) rfl ?_
        refine ol_v (e_add rfl rfl) rfl ?_
        refine ol_v (e_as _ rfl) rfl ?_
        obtain rfl := Option.some.inj hr
        exact ol_nil ⟨F, hW, g2, g4, h0, p2, h2, h3, p4, h4, rfl⟩
      refine Ref.seq (B := G6 w0 F0) ?_ ?_
      · refine Ref.seq (B := G13 w0 F0) ?_ ?_
        · refine Ref.region (fun s ρ w s' h hr => ?_)
          obtain ⟨F, hW, g2, g4, h0, p2, h2, h3, p4, h4⟩ := h
          refine ol_v (e_fa fa_56_1 p4) rfl ?_
          refine ol_v (e_ld ty_3 (LiesV.int ((h4).at_.fld fl_Commit_1)) rfl) rfl ?_
          obtain ⟨x138, hx138, hr⟩ := bind_some' hr
          refine ol_e (f_call [.int .i64 s.t_4.Author, .int .i64 (0 : Int), .int .i64 (7 : Int)] fn_16 (lcons rfl (lcons rfl (lcons rfl rfl))) (ref3_In.calls hW.ok s.t_4.Author (0 : Int) (7 : Int) hx138)) rfl rfl ?_
          rintro _ w139 ⟨Fz140, rfl, kw1⟩
          have hW142 := hW.trans kw1
          have st1 := kw1.stp hW.ok
          refine ol_v (e_not_ rfl) rfl ?_
          obtain ⟨x150, hx151, hr⟩ := bind_some' hr
          refine ol_cutA 6 66 71 (fun ρ' w' => ∃ F', Wk nrow w139 Fz140 F' w' ∧ ρ' 71 = .bool x150) rfl ?_ ?_
          · by_cases hb143 : (!x138) = true
            · have hr := hx151
              rw [if_pos hb143] at hr
              refine ol_v (e_mv _ rfl) rfl ?_
              refine ol_not rfl rfl rfl (congrArg Value.bool hb143) rfl ?_
              refine ol_not rfl rfl rfl (congrArg Value.bool hb143) rfl ?_
              refine ol_not rfl rfl rfl (congrArg Value.bool hb143) rfl ?_
              refine ol_not rfl rfl rfl (congrArg Value.bool hb143) rfl ?_
              refine ol_v (e_pick true _ (congrArg Value.bool hb143) rfl) rfl ?_
              exact ol_nil ⟨⟨_, Wk.refl hW142.ok, (congrArg Value.bool (Option.some.inj hr))⟩, (((((((Agr.refl _ _ _).upd rfl rfl).upd rfl rfl).upd rfl rfl).upd rfl rfl).upd rfl rfl).upd rfl rfl)⟩
            · have hb144 := Bool.eq_false_iff.mpr hb143
              have hr := hx151
              rw [if_neg hb143] at hr
              refine ol_v (e_mv _ rfl) rfl ?_
              refine ol_yes rfl rfl (congrArg Value.bool hb144) ?_
              refine ol_v (e_fa fa_56_2 p4) rfl ?_
              refine ol_yes rfl rfl (congrArg Value.bool hb144) ?_
              refine ol_v (e_ld ty_3 (LiesV.int (((h4.wk kw1 hW.ok)).at_.fld fl_Commit_2)) rfl) rfl ?_
              refine ol_yes rfl rfl (congrArg Value.bool hb144) ?_
              obtain ⟨x145, hx145, hr⟩ := bind_some' hr
              refine ol_e (f_call [.int .i64 s.t_4.Time, .int .i64 (0 : Int), .int .i64 (100000 : Int)] fn_16 (lcons rfl (lcons rfl (lcons rfl rfl))) (ref3_In.calls hW142.ok s.t_4.Time (0 : Int) (100000 : Int) hx145)) rfl rfl ?_
              rintro _ w146 ⟨Fz147, rfl, kw2⟩
              have hW149 := hW142.trans kw2
              have st2 := kw2.stp hW142.ok
              refine ol_yes rfl rfl (congrArg Value.bool hb144) ?_
              refine ol_v (e_not_ rfl) rfl ?_
              refine ol_v (e_pick false _ (congrArg Value.bool hb144) rfl) rfl ?_
              exact ol_nil ⟨⟨_, kw2, (congrArg Value.bool (Option.some.inj hr))⟩, (((((((Agr.refl _ _ _).upd rfl rfl).upd rfl rfl).upd rfl rfl).upd rfl rfl).upd rfl rfl).upd rfl rfl)⟩
          rintro ρ151 w152 ⟨⟨Fz153, kw2, hp151⟩, hAg151⟩
          have hW154 := hW142.trans kw2
          have st2 := kw2.stp hW142.ok
          obtain ⟨x162, hx163, hr⟩ := bind_some' hr
          refine ol_cutA 6 72 77 (fun ρ' w' => ∃ F', Wk nrow w152 Fz153 F' w' ∧ ρ' 77 = .bool x162) rfl ?_ ?_
          · by_cases hb155 : x150 = true
            · have hr := hx163
              rw [if_pos hb155] at hr
              refine ol_v (e_mv _ hp151) rfl ?_
              refine ol_not rfl rfl rfl (congrArg Value.bool hb155) rfl ?_
              refine ol_not rfl rfl rfl (congrArg Value.bool hb155) rfl ?_
              refine ol_not rfl rfl rfl (congrArg Value.bool hb155) rfl ?_
              refine ol_not rfl rfl rfl (congrArg Value.bool hb155) rfl ?_
              refine ol_v (e_pick true _ (congrArg Value.bool hb155) rfl) rfl ?_
              exact ol_nil ⟨⟨_, Wk.refl hW154.ok, (congrArg Value.bool (Option.some.inj hr))⟩, (((((((Agr.refl _ _ _).upd rfl rfl).upd rfl rfl).upd rfl rfl).upd rfl rfl).upd rfl rfl).upd rfl rfl)⟩
            · have hb156 := Bool.eq_false_iff.mpr hb155
              have hr := hx163
              rw [if_neg hb155] at hr
              refine ol_v (e_mv _ hp151) rfl ?_
              refine ol_yes rfl rfl (congrArg Value.bool hb156) ?_
              refine ol_v (e_fa fa_56_3 ((hAg151 4 rfl).trans p4)) rfl ?_
              refine ol_yes rfl rfl (congrArg Value.bool hb156) ?_
              refine ol_v (e_ld ty_3 (LiesV.int ((((h4.wk kw1 hW.ok).wk kw2 hW142.ok)).at_.fld fl_Commit_3)) rfl) rfl ?_
              refine ol_yes rfl rfl (congrArg Value.bool hb156) ?_
              obtain ⟨x157, hx157, hr⟩ := bind_some' hr
              refine ol_e (f_call [.int .i64 s.t_4.Tree] fn_37 (lcons rfl rfl) (ref3_isDigest.calls hW154.ok s.t_4.Tree hx157)) rfl rfl ?_
              rintro _ w158 ⟨Fz159, rfl, kw3⟩
              have hW161 := hW154.trans kw3
              have st3 := kw3.stp hW154.ok
              refine ol_yes rfl rfl (congrArg Value.bool hb156) ?_
              refine ol_v (e_not_ rfl) rfl ?_
              refine ol_v (e_pick false _ (congrArg Value.bool hb156) rfl) rfl ?_
              exact ol_nil ⟨⟨_, kw3, (congrArg Value.bool (Option.some.inj hr))⟩, (((((((Agr.refl _ _ _).upd rfl rfl).upd rfl rfl).upd rfl rfl).upd rfl rfl).upd rfl rfl).upd rfl rfl)⟩
          rintro ρ163 w164 ⟨⟨Fz165, kw3, hp163⟩, hAg163⟩
          have hW166 := hW154.trans kw3
          have st3 := kw3.stp hW154.ok
          obtain rfl := Option.some.inj hr
          exact ol_nil ⟨Fz165, hW166, g2, g4, (SlR.eqv ((hAg163 0 rfl).trans (hAg151 0 rfl)) (h0.keep (st1.trans (st2.trans st3)))), ((hAg163 2 rfl).trans ((hAg151 2 rfl).trans p2)), (((h2.wk kw1 hW.ok).wk kw2 hW142.ok).wk kw3 hW154.ok), ((hAg163 3 rfl).trans ((hAg151 3 rfl).trans h3)), ((hAg163 4 rfl).trans ((hAg151 4 rfl).trans p4)), (((h4.wk kw1 hW.ok).wk kw2 hW142.ok).wk kw3 hW154.ok), hp163⟩
        refine Ref.cond (b := fun s => s.t_77) (fun s ρ w ⟨F, hW, g2, g4, h0, p2, h2, h3, p4, h4, h77⟩ => h77) (Ref.pre (A := G8 w0 F0) ?_ (fun s ρ w h => (fun ⟨F, hW, g2, g4, h0, p2, h2, h3, p4, h4, h77⟩ => ⟨F, hW, g2, p2, h2, h3⟩ : G13 w0 F0 s ρ w → G8 w0 F0 s ρ w) h.2)) (Ref.pre (A := G6 w0 F0) ?_ (fun s ρ w h => (fun ⟨F, hW, g2, g4, h0, p2, h2, h3, p4, h4, h77⟩ => ⟨F, hW, g2, g4, h0, p2, h2, h3, p4, h4⟩ : G13 w0 F0 s ρ w → G6 w0 F0 s ρ w) h.2))
        · refine Ref.seq (B := G3 w0 F0) ?_ ?_
          · refine Ref.region (fun s ρ w s' h hr => ?_)
            obtain ⟨F, hW, g2, p2, h2, h3⟩ := h
            refine ol_v (e_mv _ h3) rfl ?_
            obtain ⟨x167, hx167, hr⟩ := bind_some' hr
            refine ol_e (f_call [.int .i64 (3 : Int), .int .i64 s.t_3] fn_15 (lcons rfl (lcons rfl rfl)) (ref3_Fault.calls hW.ok (3 : Int) s.t_3 hx167)) rfl rfl ?_
            rintro v170 w168 ⟨Fz169, _, rfl, kw1, hk171⟩
            have hW173 := hW.trans kw1
            have st1 := kw1.stp hW.ok
            refine ol_eN (f_stB hW173 (h2.wk kw1 hW.ok) (FldS.whole _) ty_26 hk171 p2 rfl) rfl ?_
            rintro - w174 ⟨hW175, ho176, hg2, st2⟩
            obtain rfl := Option.some.inj hr
            exact ol_nil ⟨Fz169, hW175, g2, p2, ho176⟩
          exact Ref.ret (fun s ρ w h => ⟨s, rfl, h⟩)
        · exact Ref.skip
      refine Ref.seq (B := G14 w0 F0) ?_ ?_
      · refine Ref.region (fun s ρ w s' h hr => ?_)
        obtain ⟨F, hW, g2, g4, h0, p2, h2, h3, p4, h4⟩ := h
        refine ol_v (e_fa fa_56_4 p4) rfl ?_
        refine ol_v (e_ld ty_9 (LiesV.str ((h4).at_.fld fl_Commit_4)) rfl) rfl ?_
        refine ol_v (e_lenS (by kernel_rfl) rfl) rfl ?_
        refine ol_v (e_gtr rfl rfl) rfl ?_
        obtain rfl := Option.some.inj hr
        exact ol_nil ⟨F, hW, g2, h0, p2, h2, h3, rfl⟩
      refine Ref.cond (b := fun s => s.t_83) (fun s ρ w ⟨F, hW, g2, h0, p2, h2, h3, h83⟩ => h83) (Ref.pre (A := G8 w0 F0) ?_ (fun s ρ w h => (fun ⟨F, hW, g2, h0, p2, h2, h3, h83⟩ => ⟨F, hW, g2, p2, h2, h3⟩ : G14 w0 F0 s ρ w → G8 w0 F0 s ρ w) h.2)) (Ref.pre (A := G4 w0 F0) ?_ (fun s ρ w h => (fun ⟨F, hW, g2, h0, p2, h2, h3, h83⟩ => ⟨F, hW, g2, h0, p2, h2, h3⟩ : G14 w0 F0 s ρ w → G4 w0 F0 s ρ w) h.2))
      · refine Ref.seq (B := G3 w0 F0) ?_ ?_
        · refine Ref.region (fun s ρ w s' h hr => ?_)
          obtain ⟨F, hW, g2, p2, h2, h3⟩ := h
          refine ol_v (e_mv _ h3) rfl ?_
          obtain ⟨x177, hx177, hr⟩ := bind_some' hr
          refine ol_e (f_call [.int .i64 (10 : Int), .int .i64 s.t_3] fn_15 (lcons rfl (lcons rfl rfl)) (ref3_Fault.calls hW.ok (10 : Int) s.t_3 hx177)) rfl rfl ?_
          rintro v180 w178 ⟨Fz179, _, rfl, kw1, hk181⟩
          have hW183 := hW.trans kw1
          have st1 := kw1.stp hW.ok
          refine ol_eN (f_stB hW183 (h2.wk kw1 hW.ok) (FldS.whole _) ty_26 hk181 p2 rfl) rfl ?_
          rintro - w184 ⟨hW185, ho186, hg2, st2⟩
          obtain rfl := Option.some.inj hr
          exact ol_nil ⟨Fz179, hW185, g2, p2, ho186⟩
        exact Ref.ret (fun s ρ w h => ⟨s, rfl, h⟩)
      · exact Ref.skip
    refine Ref.region (fun s ρ w s' h hr => ?_)
    obtain ⟨F, hW, g2, h0, p2, h2, h3⟩ := h
    refine ol_v (e_mv _ h3) rfl ?_
    refine ol_v (e_add rfl rfl) rfl ?_
    refine ol_v (e_as _ rfl) rfl ?_
    obtain rfl := Option.some.inj hr
    exact ol_nil ⟨F, hW, g2, h0, p2, h2, rfl⟩
  refine Ref.seq (B := G3 w0 F0) ?_ ?_
  · refine Ref.region (fun s ρ w s' h hr => ?_)
    obtain ⟨F, hW, g2, p2, h2⟩ := h
    refine ol_v (e_bld (cells := #[.int .i64 0, .int .i64 0]) bld_26 (vs := []) rfl rfl) rfl ?_
    have hb187 : Val k_Fault F w (.agg #[.int .i64 0, .int .i64 0]) (⟨(0 : Int), (0 : Int)⟩ : Fault) := mk_Fault (val_int _ _) (val_int _ _)
    refine ol_eN (f_stB hW h2 (FldS.whole _) ty_26 hb187 p2 rfl) rfl ?_
    rintro - w188 ⟨hW189, ho190, hg1, st1⟩
    obtain rfl := Option.some.inj hr
    exact ol_nil ⟨F, hW189, g2, p2, ho190⟩
  exact Ref.ret (fun s ρ w h => ⟨s, rfl, h⟩)
def post (w : World) (F : BSet) (r : R) (v : Value) (w' : World) : Prop := ∃ (F' : BSet) (v0' : Value), v = v0' ∧ Wk nrow w F F' w' ∧ Val k_Fault F' w' v0' r
theorem calls {w : World} {F : BSet} (hok : ∀ b, F b → b < w.heap.size) {v0 : Value} {a0 : (List Commit)} (h0 : SlR k_Commit F w v0 a0) {r : R} (hf : f a0 = some r) : Calls Try.prog 14 #[v0] w fun e w' => ∃ v, e = .returned v ∧ post w F r v w' := by
  obtain ⟨c, hc, href⟩ := ref w F
  refine calls_of_ref (args := [v0]) _ Try.func14 hc rfl rfl href ?_ (retOf_some hf) ?_
  · exact ⟨F, Wk.refl hok, h0⟩
  · rintro ρ w' a ⟨s, rfl, F', hW, g2, p2, h2⟩ hF
    obtain ⟨u2, l2, k2⟩ := res_box (P := Try.prog) ty_26 h2
    refine ⟨_, run_results (rs := [.cell 2 26]) rfl hF (vs := [u2]) (⟨_, _, _, rfl, p2, l2, rfl⟩), ?_⟩
    exact ⟨F', u2, rfl, hW, k2⟩
end
end ref3_HistoryFault

end Go.Proofs.Ytilodamhgepjoaa
