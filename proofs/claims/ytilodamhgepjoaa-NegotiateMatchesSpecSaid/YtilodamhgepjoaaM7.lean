/- The machine's calls come to these plain functions (written by a program, wip/fx/gen.py). -/
import Derived.Test.YtilodamhgepjoaaPA
import Derived.Test.YtilodamhgepjoaaNm
import Derived.Test.YtilodamhgepjoaaM0
import Derived.Test.YtilodamhgepjoaaM6
import Derived.Test.YtilodamhgepjoaaIt
namespace Go.Proofs.Ytilodamhgepjoaa
open Go.Fx Go.RowKit
set_option linter.unusedVariables false

namespace history_Order_1
section
def G0 (w0 : World) (F0 : BSet) (s : S) (ρ : Env) (w : World) : Prop := ∃ (F : BSet), Wk nrow w0 F0 F w ∧ ∃ (g2 : Nat), ρ 0 = .int .i64 s.a_0 ∧ ρ 1 = .int .i64 s.b_1 ∧ ρ 2 = .pointer (some ⟨g2, 0, none⟩) ∧ Lies (kSl k_Commit) F w g2 0 s.t_2
def G1 (w0 : World) (F0 : BSet) (s : S) (ρ : Env) (w : World) : Prop := ∃ (F : BSet), Wk nrow w0 F0 F w ∧ ρ 0 = .int .i64 s.a_0 ∧ ρ 1 = .int .i64 s.b_1 ∧ ρ 6 = .int .i64 s.d_6
def G2 (w0 : World) (F0 : BSet) (s : S) (ρ : Env) (w : World) : Prop := ∃ (F : BSet), Wk nrow w0 F0 F w ∧ ρ 0 = .int .i64 s.a_0 ∧ ρ 1 = .int .i64 s.b_1 ∧ ρ 6 = .int .i64 s.d_6 ∧ ρ 19 = .bool s.t_19
def G3 (w0 : World) (F0 : BSet) (s : S) (ρ : Env) (w : World) : Prop := ∃ (F : BSet), Wk nrow w0 F0 F w ∧ ρ 6 = .int .i64 s.d_6
def G4 (w0 : World) (F0 : BSet) (s : S) (ρ : Env) (w : World) : Prop := ∃ (F : BSet), Wk nrow w0 F0 F w ∧ ρ 0 = .int .i64 s.a_0 ∧ ρ 1 = .int .i64 s.b_1
def G5 (w0 : World) (F0 : BSet) (s : S) (ρ : Env) (w : World) : Prop := ∃ (F : BSet), Wk nrow w0 F0 F w ∧ ρ 5 = .int .i64 s.t_5
set_option maxHeartbeats 4000000 in
set_option maxRecDepth 20000 in
theorem ref (w0 : World) (F0 : BSet) : ∃ c, Try.f52.body = some c ∧ Ref Try.prog 24 c (G0 w0 F0) body (fun _ _ _ => False) (fun _ _ _ _ => False) (fun r ρ w => ∃ s, retv s = r ∧ G5 w0 F0 s ρ w) := by
  refine ⟨_, rfl, ?_⟩
  unfold body
  refine Ref.seq (B := G0 w0 F0) ?_ ?_
  · refine Ref.region (fun s ρ w s' h hr => ?_)
    obtain ⟨F, hW, g2, h0, h1, p2, h2⟩ := h
    refine ol_v (e_as _ rfl) rfl ?_
    obtain rfl := Option.some.inj hr
    exact ol_nil ⟨F, hW, g2, h0, h1, p2, h2⟩
  refine Ref.seq (B := G4 w0 F0) ?_ ?_
  · refine Ref.seq (B := G1 w0 F0) ?_ ?_
    · refine Ref.regionS (by kernel_rfl) (by kernel_rfl) (fun s ρ w ⟨F, hW, g2, h0, h1, p2, h2⟩ => ⟨F, hW.drewS, g2, h0, h1, p2, h2.keep (sd hW)⟩) (fun s ρ w s' h hr => ?_)
      obtain ⟨F, hW, g2, h0, h1, p2, h2⟩ := h
      obtain ⟨v1, hl2, hs3⟩ := LiesV.sl h2.at_
      refine ol_v (e_ld ty_22 hl2 p2) rfl ?_
      refine ol_v (e_mv _ h0) rfl ?_
      obtain ⟨x4, hx4, hr⟩ := bind_some' hr
      obtain ⟨A5, c6, e7, hc8, R9⟩ := id hs3
      obtain ⟨b10, o11, hA12, L13⟩ := Row.at_ R9 hx4
      refine ol_v (e_ix (SlT.sl sl_22) (SlT.sz sl_22) hA12 hx4 e7 rfl) rfl ?_
      refine ol_v (e_fa fa_56_2 rfl) rfl ?_
      refine ol_v (e_ld ty_3 (LiesV.int (L13.fld fl_Commit_2).at_) rfl) rfl ?_
      obtain ⟨v14, hl15, hs16⟩ := LiesV.sl h2.at_
      refine ol_v (e_ld ty_22 hl15 p2) rfl ?_
      refine ol_v (e_mv _ h1) rfl ?_
      obtain ⟨x17, hx17, hr⟩ := bind_some' hr
      obtain ⟨A18, c19, e20, hc21, R22⟩ := id hs16
      obtain ⟨b23, o24, hA25, L26⟩ := Row.at_ R22 hx17
      refine ol_v (e_ix (SlT.sl sl_22) (SlT.sz sl_22) hA25 hx17 e20 rfl) rfl ?_
      refine ol_v (e_fa fa_56_2 rfl) rfl ?_
      refine ol_v (e_ld ty_3 (LiesV.int (L26.fld fl_Commit_2).at_) rfl) rfl ?_
      refine ol_v (e_sub rfl rfl) rfl ?_
      refine ol_v (e_as _ rfl) rfl ?_
      obtain rfl := Option.some.inj hr
      exact ol_nil ⟨F, hW, h0, h1, rfl⟩
    refine Ref.seq (B := G2 w0 F0) ?_ ?_
    · refine Ref.region (fun s ρ w s' h hr => ?_)
      obtain ⟨F, hW, h0, h1, h6⟩ := h
      refine ol_v (e_mv _ h6) rfl ?_
      refine ol_v (e_neq rfl rfl) rfl ?_
      obtain rfl := Option.some.inj hr
      exact ol_nil ⟨F, hW, h0, h1, h6, rfl⟩
    refine Ref.cond (b := fun s => s.t_19) (fun s ρ w ⟨F, hW, h0, h1, h6, h19⟩ => h19) (Ref.pre (A := G3 w0 F0) ?_ (fun s ρ w h => (fun ⟨F, hW, h0, h1, h6, h19⟩ => ⟨F, hW, h6⟩ : G2 w0 F0 s ρ w → G3 w0 F0 s ρ w) h.2)) (Ref.pre (A := G4 w0 F0) ?_ (fun s ρ w h => (fun ⟨F, hW, h0, h1, h6, h19⟩ => ⟨F, hW, h0, h1⟩ : G2 w0 F0 s ρ w → G4 w0 F0 s ρ w) h.2))
    · refine Ref.seq (B := G5 w0 F0) ?_ ?_
      · refine Ref.region (fun s ρ w s' h hr => ?_)
        obtain ⟨F, hW, h6⟩ := h
        refine ol_v (e_mv _ h6) rfl ?_
        refine ol_v (e_as _ rfl) rfl ?_
        obtain rfl := Option.some.inj hr
        exact ol_nil ⟨F, hW, rfl⟩
      exact Ref.ret (fun s ρ w h => ⟨s, rfl, h⟩)
    · exact Ref.skip
  refine Ref.seq (B := G5 w0 F0) ?_ ?_
  · refine Ref.region (fun s ρ w s' h hr => ?_)
    obtain ⟨F, hW, h0, h1⟩ := h
    refine ol_v (e_mv _ h0) rfl ?_
    refine ol_v (e_mv _ h1) rfl ?_
    refine ol_v (e_sub rfl rfl) rfl ?_
    refine ol_v (e_as _ rfl) rfl ?_
    obtain rfl := Option.some.inj hr
    exact ol_nil ⟨F, hW, rfl⟩
  exact Ref.ret (fun s ρ w h => ⟨s, rfl, h⟩)
def post (w : World) (F : BSet) (r : R) (v : Value) (w' : World) : Prop := ∃ (F' : BSet), v = .int .i64 r ∧ Wk nrow w F F' w'
theorem calls {w : World} {F : BSet} (hok : ∀ b, F b → b < w.heap.size) (a0 : Int) (a1 : Int) {g2 : Nat} {a2 : (List Commit)} (h2 : Lies (kSl k_Commit) F w g2 0 a2) {r : R} (hf : f a0 a1 a2 = some r) : Calls Try.prog 52 #[.int .i64 a0, .int .i64 a1, .pointer (some ⟨g2, 0, none⟩)] w fun e w' => ∃ v, e = .returned v ∧ post w F r v w' := by
  obtain ⟨c, hc, href⟩ := ref w F
  refine calls_of_ref (args := [.int .i64 a0, .int .i64 a1, .pointer (some ⟨g2, 0, none⟩)]) _ Try.func52 hc rfl rfl href ?_ (retOf_some hf) ?_
  · exact ⟨F, Wk.refl hok, g2, rfl, rfl, rfl, h2⟩
  · rintro ρ w' a ⟨s, rfl, F', hW, h5⟩ hF
    refine ⟨_, run_results (rs := [.tmp 5]) rfl hF (vs := [ρ 5]) (⟨_, rfl, rfl⟩), ?_⟩
    have hv : resVal [ρ 5] = .int .i64 s.t_5 := by rw [h5]; rfl
    exact ⟨F', hv, hW⟩
theorem fnv {w : World} {F : BSet} {g2 : Nat} {a2 : (List Commit)} (h2 : Lies (kSl k_Commit) F w g2 0 a2) : FnV Try.prog (ra2 (kInt .i64) (kInt .i64)) (fun r => (.int .i64 r : Value)) F w (.func (.func 52) #[] #[.pointer (some ⟨g2, 0, none⟩)]) (fun x => f x.1 x.2 a2) := by
  refine ⟨52, _, rfl, fn_52, fun F' W st ok vs x r hra hg => ?_⟩
  obtain ⟨v0, v1, rfl, k0, k1⟩ := hra
  obtain rfl := eqv_int k0
  obtain rfl := eqv_int k1
  have e_ : ([.int .i64 x.1, .int .i64 x.2] : List Value).toArray ++ (#[.pointer (some ⟨g2, 0, none⟩)] : Array Value) = #[.int .i64 x.1, .int .i64 x.2, .pointer (some ⟨g2, 0, none⟩)] := by simp
  rw [e_]
  refine (calls ok x.1 x.2 (h2.keep st) hg).mono ?_
  rintro e W' ⟨v, rfl, F'', rfl, hk⟩
  exact ⟨_, rfl, rfl, F'', hk⟩
end
end history_Order_1

namespace slices_IndexFunc_int_int
section
def G0 (w0 : World) (F0 : BSet) (s : S) (ρ : Env) (w : World) : Prop := ∃ (F : BSet), Wk nrow w0 F0 F w ∧ SlR (kInt .i64) F w (ρ 0) s.s_0 ∧ Val (kFn Try.prog (ra1 (kInt .i64)) (fun r => (.bool r : Value))) F w (ρ 1) s.f_1
def G1 (w0 : World) (F0 : BSet) (s : S) (ρ : Env) (w : World) : Prop := ∃ (F : BSet), Wk nrow w0 F0 F w ∧ SlR (kInt .i64) F w (ρ 0) s.s_0 ∧ Val (kFn Try.prog (ra1 (kInt .i64)) (fun r => (.bool r : Value))) F w (ρ 1) s.f_1 ∧ ρ 7 = .int .i64 s.t_7 ∧ ρ 8 = .int .i64 s.t_8
def G2 (w0 : World) (F0 : BSet) (s : S) (ρ : Env) (w : World) : Prop := ∃ (F : BSet), Wk nrow w0 F0 F w ∧ SlR (kInt .i64) F w (ρ 0) s.s_0 ∧ Val (kFn Try.prog (ra1 (kInt .i64)) (fun r => (.bool r : Value))) F w (ρ 1) s.f_1 ∧ ρ 7 = .int .i64 s.t_7 ∧ ρ 8 = .int .i64 s.t_8 ∧ ρ 9 = .bool s.t_9
def G3 (w0 : World) (F0 : BSet) (s : S) (ρ : Env) (w : World) : Prop := ∃ (F : BSet), Wk nrow w0 F0 F w
def G4 (w0 : World) (F0 : BSet) (s : S) (ρ : Env) (w : World) : Prop := ∃ (F : BSet), Wk nrow w0 F0 F w ∧ SlR (kInt .i64) F w (ρ 0) s.s_0 ∧ Val (kFn Try.prog (ra1 (kInt .i64)) (fun r => (.bool r : Value))) F w (ρ 1) s.f_1 ∧ ρ 5 = .int .i64 s.i_5 ∧ ρ 7 = .int .i64 s.t_7 ∧ ρ 8 = .int .i64 s.t_8
def G5 (w0 : World) (F0 : BSet) (s : S) (ρ : Env) (w : World) : Prop := ∃ (F : BSet), Wk nrow w0 F0 F w ∧ SlR (kInt .i64) F w (ρ 0) s.s_0 ∧ Val (kFn Try.prog (ra1 (kInt .i64)) (fun r => (.bool r : Value))) F w (ρ 1) s.f_1 ∧ ρ 5 = .int .i64 s.i_5 ∧ ρ 7 = .int .i64 s.t_7 ∧ ρ 8 = .int .i64 s.t_8 ∧ ρ 16 = .bool s.t_16
def G6 (w0 : World) (F0 : BSet) (s : S) (ρ : Env) (w : World) : Prop := ∃ (F : BSet), Wk nrow w0 F0 F w ∧ ρ 5 = .int .i64 s.i_5
def G7 (w0 : World) (F0 : BSet) (s : S) (ρ : Env) (w : World) : Prop := ∃ (F : BSet), Wk nrow w0 F0 F w ∧ ρ 4 = .int .i64 s.t_4
set_option maxHeartbeats 4000000 in
set_option maxRecDepth 20000 in
theorem ref (w0 : World) (F0 : BSet) : ∃ c, Try.f58.body = some c ∧ Ref Try.prog 19 c (G0 w0 F0) body (fun _ _ _ => False) (fun _ _ _ _ => False) (fun r ρ w => ∃ s, retv s = r ∧ G7 w0 F0 s ρ w) := by
  refine ⟨_, rfl, ?_⟩
  unfold body
  refine Ref.seq (B := G0 w0 F0) ?_ ?_
  · refine Ref.region (fun s ρ w s' h hr => ?_)
    obtain ⟨F, hW, h0, h1⟩ := h
    refine ol_v (e_as _ rfl) rfl ?_
    obtain rfl := Option.some.inj hr
    exact ol_nil ⟨F, hW, h0, h1⟩
  refine Ref.seq (B := G3 w0 F0) ?_ ?_
  · refine Ref.seq (B := G1 w0 F0) ?_ ?_
    · refine Ref.region (fun s ρ w s' h hr => ?_)
      obtain ⟨F, hW, h0, h1⟩ := h
      refine ol_v (e_mv _ rfl) rfl ?_
      obtain ⟨A1, c2, e3, hc4, R5⟩ := id h0
      refine ol_v (e_len (SlT.sl sl_23) e3) rfl ?_
      refine ol_v (e_mv _ rfl) rfl ?_
      obtain rfl := Option.some.inj hr
      exact ol_nil ⟨F, hW, h0, h1, rfl, rfl⟩
    refine Ref.block ?_
    refine Ref.loop ?_
    refine Ref.seq (B := G2 w0 F0) ?_ ?_
    · refine Ref.region (fun s ρ w s' h hr => ?_)
      obtain ⟨F, hW, h0, h1, h7, h8⟩ := h
      refine ol_v (e_lss h8 h7) rfl ?_
      obtain rfl := Option.some.inj hr
      exact ol_nil ⟨F, hW, h0, h1, h7, h8, rfl⟩
    refine Ref.seq (B := G1 w0 F0) ?_ ?_
    · refine Ref.cond (b := fun s => s.t_9) (fun s ρ w ⟨F, hW, h0, h1, h7, h8, h9⟩ => h9) (Ref.pre (A := G1 w0 F0) ?_ (fun s ρ w h => (fun ⟨F, hW, h0, h1, h7, h8, h9⟩ => ⟨F, hW, h0, h1, h7, h8⟩ : G2 w0 F0 s ρ w → G1 w0 F0 s ρ w) h.2)) (Ref.pre (A := G3 w0 F0) ?_ (fun s ρ w h => (fun ⟨F, hW, h0, h1, h7, h8, h9⟩ => ⟨F, hW⟩ : G2 w0 F0 s ρ w → G3 w0 F0 s ρ w) h.2))
      · exact Ref.skip
      · exact Ref.exit (fun s ρ w h => h)
    refine Ref.seq (B := G1 w0 F0) ?_ ?_
    · refine Ref.block ?_
      refine Ref.seq (B := G4 w0 F0) ?_ ?_
      · refine Ref.region (fun s ρ w s' h hr => ?_)
        obtain ⟨F, hW, h0, h1, h7, h8⟩ := h
        refine ol_v (e_mv _ h8) rfl ?_
        refine ol_v (e_as _ rfl) rfl ?_
        obtain rfl := Option.some.inj hr
        exact ol_nil ⟨F, hW, h0, h1, rfl, h7, h8⟩
      refine Ref.seq (B := G5 w0 F0) ?_ ?_
      · refine Ref.region (fun s ρ w s' h hr => ?_)
        obtain ⟨F, hW, h0, h1, h5, h7, h8⟩ := h
        refine ol_v (e_mv _ rfl) rfl ?_
        refine ol_v (e_mv _ rfl) rfl ?_
        refine ol_v (e_mv _ h5) rfl ?_
        obtain ⟨x6, hx6, hr⟩ := bind_some' hr
        obtain ⟨A7, c8, e9, hc10, R11⟩ := id h0
        obtain ⟨b12, o13, hA14, L15⟩ := Row.at_ R11 hx6
        refine ol_v (e_ix (SlT.sl sl_23) (SlT.sz sl_23) hA14 hx6 e9 rfl) rfl ?_
        refine ol_v (e_ld ty_3 (LiesV.int L15.at_) rfl) rfl ?_
        obtain ⟨x16, hx16, hr⟩ := bind_some' hr
        refine ol_e (f_callV [.int .i64 x6] h1 hW.ok rfl (lcons rfl rfl) ⟨_, rfl, (val_int _ _)⟩ hx16) rfl rfl ?_
        rintro _ w17 ⟨rfl, kw1⟩
        have hW18 := hW.trans kw1
        have st1 := kw1.stp hW.ok
        obtain rfl := Option.some.inj hr
        exact ol_nil ⟨F, hW18, (h0.keep st1), (h1.keep st1), h5, h7, h8, rfl⟩
      refine Ref.cond (b := fun s => s.t_16) (fun s ρ w ⟨F, hW, h0, h1, h5, h7, h8, h16⟩ => h16) (Ref.pre (A := G6 w0 F0) ?_ (fun s ρ w h => (fun ⟨F, hW, h0, h1, h5, h7, h8, h16⟩ => ⟨F, hW, h5⟩ : G5 w0 F0 s ρ w → G6 w0 F0 s ρ w) h.2)) (Ref.pre (A := G1 w0 F0) ?_ (fun s ρ w h => (fun ⟨F, hW, h0, h1, h5, h7, h8, h16⟩ => ⟨F, hW, h0, h1, h7, h8⟩ : G5 w0 F0 s ρ w → G1 w0 F0 s ρ w) h.2))
      · refine Ref.seq (B := G7 w0 F0) ?_ ?_
        · refine Ref.region (fun s ρ w s' h hr => ?_)
          obtain ⟨F, hW, h5⟩ := h
          refine ol_v (e_mv _ h5) rfl ?_
          refine ol_v (e_as _ rfl) rfl ?_
          obtain rfl := Option.some.inj hr
          exact ol_nil ⟨F, hW, rfl⟩
        exact Ref.ret (fun s ρ w h => ⟨s, rfl, h⟩)
      · exact Ref.skip
    refine Ref.region (fun s ρ w s' h hr => ?_)
    obtain ⟨F, hW, h0, h1, h7, h8⟩ := h
    refine ol_v (e_add h8 rfl) rfl ?_
    refine ol_v (e_mv _ rfl) rfl ?_
    obtain rfl := Option.some.inj hr
    exact ol_nil ⟨F, hW, h0, h1, h7, rfl⟩
  refine Ref.seq (B := G7 w0 F0) ?_ ?_
  · refine Ref.region (fun s ρ w s' h hr => ?_)
    obtain ⟨F, hW⟩ := h
    refine ol_v (e_as _ rfl) rfl ?_
    obtain rfl := Option.some.inj hr
    exact ol_nil ⟨F, hW, rfl⟩
  exact Ref.ret (fun s ρ w h => ⟨s, rfl, h⟩)
def post (w : World) (F : BSet) (r : R) (v : Value) (w' : World) : Prop := ∃ (F' : BSet), v = .int .i64 r ∧ Wk nrow w F F' w'
theorem calls {w : World} {F : BSet} (hok : ∀ b, F b → b < w.heap.size) {v0 : Value} {a0 : (List Int)} (h0 : SlR (kInt .i64) F w v0 a0) {v1 : Value} {a1 : (Int → Option Bool)} (h1 : Val (kFn Try.prog (ra1 (kInt .i64)) (fun r => (.bool r : Value))) F w v1 a1) {r : R} (hf : f a0 a1 = some r) : Calls Try.prog 58 #[v0, v1] w fun e w' => ∃ v, e = .returned v ∧ post w F r v w' := by
  obtain ⟨c, hc, href⟩ := ref w F
  refine calls_of_ref (args := [v0, v1]) _ Try.func58 hc rfl rfl href ?_ (retOf_some hf) ?_
  · exact ⟨F, Wk.refl hok, h0, h1⟩
  · rintro ρ w' a ⟨s, rfl, F', hW, h4⟩ hF
    refine ⟨_, run_results (rs := [.tmp 4]) rfl hF (vs := [ρ 4]) (⟨_, rfl, rfl⟩), ?_⟩
    have hv : resVal [ρ 4] = .int .i64 s.t_4 := by rw [h4]; rfl
    exact ⟨F', hv, hW⟩
end
end slices_IndexFunc_int_int

namespace slices_DeleteFunc_int_int
section
def G0 (u0 : Value) (w0 : World) (F0 : BSet) (s : S) (ρ : Env) (w : World) : Prop := ∃ (F : BSet), Wk (ob u0.ownBlock) w0 F0 F w ∧ OwnV (kInt .i64) 3 (Bs w0 (ob u0.ownBlock)) F w (ρ 0) s.s_0 ∧ Val (kFn Try.prog (ra1 (kInt .i64)) (fun r => (.bool r : Value))) F w (ρ 1) s.del_1
def G1 (u0 : Value) (w0 : World) (F0 : BSet) (s : S) (ρ : Env) (w : World) : Prop := ∃ (F : BSet), Wk (ob u0.ownBlock) w0 F0 F w ∧ OwnV (kInt .i64) 3 (Bs w0 (ob u0.ownBlock)) F w (ρ 0) s.s_0 ∧ Val (kFn Try.prog (ra1 (kInt .i64)) (fun r => (.bool r : Value))) F w (ρ 1) s.del_1 ∧ ρ 5 = .int .i64 s.i_5
def G2 (u0 : Value) (w0 : World) (F0 : BSet) (s : S) (ρ : Env) (w : World) : Prop := ∃ (F : BSet), Wk (ob u0.ownBlock) w0 F0 F w ∧ OwnV (kInt .i64) 3 (Bs w0 (ob u0.ownBlock)) F w (ρ 0) s.s_0 ∧ Val (kFn Try.prog (ra1 (kInt .i64)) (fun r => (.bool r : Value))) F w (ρ 1) s.del_1 ∧ ρ 5 = .int .i64 s.i_5 ∧ ρ 12 = .bool s.t_12
def G3 (u0 : Value) (w0 : World) (F0 : BSet) (s : S) (ρ : Env) (w : World) : Prop := ∃ (F : BSet), Wk (ob u0.ownBlock) w0 F0 F w ∧ OwnV (kInt .i64) 3 (Bs w0 (ob u0.ownBlock)) F w (ρ 0) s.s_0
def G4 (u0 : Value) (w0 : World) (F0 : BSet) (s : S) (ρ : Env) (w : World) : Prop := ∃ (F : BSet), Wk (ob u0.ownBlock) w0 F0 F w ∧ OwnV (kInt .i64) 3 (Bs w0 (ob u0.ownBlock)) F w (ρ 4) s.t_4
def G5 (u0 : Value) (w0 : World) (F0 : BSet) (s : S) (ρ : Env) (w : World) : Prop := ∃ (F : BSet), Wk (ob u0.ownBlock) w0 F0 F w ∧ OwnV (kInt .i64) 3 (Bs w0 (ob u0.ownBlock)) F w (ρ 0) s.s_0 ∧ Val (kFn Try.prog (ra1 (kInt .i64)) (fun r => (.bool r : Value))) F w (ρ 1) s.del_1 ∧ ρ 5 = .int .i64 s.i_5 ∧ ρ 6 = .int .i64 s.j_6
def G6 (u0 : Value) (w0 : World) (F0 : BSet) (s : S) (ρ : Env) (w : World) : Prop := ∃ (F : BSet), Wk (ob u0.ownBlock) w0 F0 F w ∧ OwnV (kInt .i64) 3 (Bs w0 (ob u0.ownBlock)) F w (ρ 0) s.s_0 ∧ Val (kFn Try.prog (ra1 (kInt .i64)) (fun r => (.bool r : Value))) F w (ρ 1) s.del_1 ∧ ρ 5 = .int .i64 s.i_5 ∧ ρ 6 = .int .i64 s.j_6 ∧ ρ 19 = .bool s.t_19
def G7 (u0 : Value) (w0 : World) (F0 : BSet) (s : S) (ρ : Env) (w : World) : Prop := ∃ (F : BSet), Wk (ob u0.ownBlock) w0 F0 F w ∧ OwnV (kInt .i64) 3 (Bs w0 (ob u0.ownBlock)) F w (ρ 0) s.s_0 ∧ ρ 5 = .int .i64 s.i_5
def G8 (u0 : Value) (w0 : World) (F0 : BSet) (s : S) (ρ : Env) (w : World) : Prop := ∃ (F : BSet), Wk (ob u0.ownBlock) w0 F0 F w ∧ OwnV (kInt .i64) 3 (Bs w0 (ob u0.ownBlock)) F w (ρ 0) s.s_0 ∧ Val (kFn Try.prog (ra1 (kInt .i64)) (fun r => (.bool r : Value))) F w (ρ 1) s.del_1 ∧ ρ 5 = .int .i64 s.i_5 ∧ ρ 6 = .int .i64 s.j_6 ∧ ρ 7 = .int .i64 s.v_7
def G9 (u0 : Value) (w0 : World) (F0 : BSet) (s : S) (ρ : Env) (w : World) : Prop := ∃ (F : BSet), Wk (ob u0.ownBlock) w0 F0 F w ∧ OwnV (kInt .i64) 3 (Bs w0 (ob u0.ownBlock)) F w (ρ 0) s.s_0 ∧ Val (kFn Try.prog (ra1 (kInt .i64)) (fun r => (.bool r : Value))) F w (ρ 1) s.del_1 ∧ ρ 5 = .int .i64 s.i_5 ∧ ρ 6 = .int .i64 s.j_6 ∧ ρ 7 = .int .i64 s.v_7 ∧ ρ 29 = .bool s.t_29
set_option maxHeartbeats 4000000 in
set_option maxRecDepth 20000 in
theorem ref (u0 : Value) (w0 : World) (F0 : BSet) : ∃ c, Try.f53.body = some c ∧ Ref Try.prog 42 c (G0 u0 w0 F0) body (fun _ _ _ => False) (fun _ _ _ _ => False) (fun r ρ w => ∃ s, retv s = r ∧ G4 u0 w0 F0 s ρ w) := by
  refine ⟨_, rfl, ?_⟩
  unfold body
  refine Ref.seq (B := G0 u0 w0 F0) ?_ ?_
  · refine Ref.region (fun s ρ w s' h hr => ?_)
    obtain ⟨F, hW, h0, h1⟩ := h
    refine ol_v (e_as _ rfl) rfl ?_
    obtain rfl := Option.some.inj hr
    exact ol_nil ⟨F, hW, h0, h1⟩
  refine Ref.seq (B := G1 u0 w0 F0) ?_ ?_
  · refine Ref.region (fun s ρ w s' h hr => ?_)
    obtain ⟨F, hW, h0, h1⟩ := h
    refine ol_v (e_mv _ rfl) rfl ?_
    refine ol_v (e_mv _ rfl) rfl ?_
    obtain ⟨Fl1, okl1, stl1, hFl1, hl1⟩ := OwnV.lent h0 hW.ok
    obtain ⟨x2, hx2, hr⟩ := bind_some' hr
    refine ol_e (f_call [(ρ 0), (ρ 1)] fn_58 (lcons rfl (lcons rfl rfl)) (slices_IndexFunc_int_int.calls okl1 hl1 (h1.keep stl1) hx2)) rfl rfl ?_
    rintro _ w3 ⟨Fz4, rfl, kw1⟩
    have ko6 := kw1
    have kw1 := kw1.lend hW.ok
    have hW7 := hW.trans kw1
    have st1 := kw1.stp hW.ok
    refine ol_v (e_as _ rfl) rfl ?_
    obtain rfl := Option.some.inj hr
    exact ol_nil ⟨F, hW7, (h0.wk kw1 hW.ok), (h1.keep st1), rfl⟩
  refine Ref.seq (B := G1 u0 w0 F0) ?_ ?_
  · refine Ref.seq (B := G2 u0 w0 F0) ?_ ?_
    · refine Ref.region (fun s ρ w s' h hr => ?_)
      obtain ⟨F, hW, h0, h1, h5⟩ := h
      refine ol_v (e_mv _ h5) rfl ?_
      refine ol_v (e_eql rfl rfl) rfl ?_
      obtain rfl := Option.some.inj hr
      exact ol_nil ⟨F, hW, h0, h1, h5, rfl⟩
    refine Ref.cond (b := fun s => s.t_12) (fun s ρ w ⟨F, hW, h0, h1, h5, h12⟩ => h12) (Ref.pre (A := G3 u0 w0 F0) ?_ (fun s ρ w h => (fun ⟨F, hW, h0, h1, h5, h12⟩ => ⟨F, hW, h0⟩ : G2 u0 w0 F0 s ρ w → G3 u0 w0 F0 s ρ w) h.2)) (Ref.pre (A := G1 u0 w0 F0) ?_ (fun s ρ w h => (fun ⟨F, hW, h0, h1, h5, h12⟩ => ⟨F, hW, h0, h1, h5⟩ : G2 u0 w0 F0 s ρ w → G1 u0 w0 F0 s ρ w) h.2))
    · refine Ref.seq (B := G4 u0 w0 F0) ?_ ?_
      · refine Ref.region (fun s ρ w s' h hr => ?_)
        obtain ⟨F, hW, h0⟩ := h
        refine ol_v (e_mv _ rfl) rfl ?_
        refine ol_v (e_as _ rfl) rfl ?_
        obtain rfl := Option.some.inj hr
        exact ol_nil ⟨F, hW, h0⟩
      exact Ref.ret (fun s ρ w h => ⟨s, rfl, h⟩)
    · exact Ref.skip
  refine Ref.seq (B := G7 u0 w0 F0) ?_ ?_
  · refine Ref.seq (B := G5 u0 w0 F0) ?_ ?_
    · refine Ref.region (fun s ρ w s' h hr => ?_)
      obtain ⟨F, hW, h0, h1, h5⟩ := h
      refine ol_v (e_mv _ h5) rfl ?_
      refine ol_v (e_add rfl rfl) rfl ?_
      refine ol_v (e_as _ rfl) rfl ?_
      obtain rfl := Option.some.inj hr
      exact ol_nil ⟨F, hW, h0, h1, h5, rfl⟩
    refine Ref.block ?_
    refine Ref.loop ?_
    refine Ref.seq (B := G5 u0 w0 F0) ?_ ?_
    · refine Ref.seq (B := G6 u0 w0 F0) ?_ ?_
      · refine Ref.region (fun s ρ w s' h hr => ?_)
        obtain ⟨F, hW, h0, h1, h5, h6⟩ := h
        refine ol_v (e_mv _ h6) rfl ?_
        refine ol_v (e_mv _ rfl) rfl ?_
        obtain ⟨A8, c9, e10, hc11⟩ := h0.shape
        refine ol_v (e_len (SlT.sl sl_23) e10) rfl ?_
        refine ol_v (e_lss rfl rfl) rfl ?_
        obtain rfl := Option.some.inj hr
        exact ol_nil ⟨F, hW, h0, h1, h5, h6, rfl⟩
      refine Ref.cond (b := fun s => s.t_19) (fun s ρ w ⟨F, hW, h0, h1, h5, h6, h19⟩ => h19) (Ref.pre (A := G5 u0 w0 F0) ?_ (fun s ρ w h => (fun ⟨F, hW, h0, h1, h5, h6, h19⟩ => ⟨F, hW, h0, h1, h5, h6⟩ : G6 u0 w0 F0 s ρ w → G5 u0 w0 F0 s ρ w) h.2)) (Ref.pre (A := G7 u0 w0 F0) ?_ (fun s ρ w h => (fun ⟨F, hW, h0, h1, h5, h6, h19⟩ => ⟨F, hW, h0, h5⟩ : G6 u0 w0 F0 s ρ w → G7 u0 w0 F0 s ρ w) h.2))
      · exact Ref.skip
      · exact Ref.exit (fun s ρ w h => h)
    refine Ref.seq (B := G5 u0 w0 F0) ?_ ?_
    · refine Ref.block ?_
      refine Ref.seq (B := G8 u0 w0 F0) ?_ ?_
      · refine Ref.region (fun s ρ w s' h hr => ?_)
        obtain ⟨F, hW, h0, h1, h5, h6⟩ := h
        refine ol_v (e_mv _ rfl) rfl ?_
        refine ol_v (e_mv _ h6) rfl ?_
        obtain ⟨x12, hx12, hr⟩ := bind_some' hr
        obtain ⟨g13, o14, c15, hv16, L17⟩ := OwnV.at_ h0 hx12
        refine ol_v (e_ixO sl_23 hv16 hx12 rfl rfl) rfl ?_
        refine ol_v (e_ld ty_3 (LiesV.int L17) rfl) rfl ?_
        refine ol_v (e_as _ rfl) rfl ?_
        obtain rfl := Option.some.inj hr
        exact ol_nil ⟨F, hW, h0, h1, h5, h6, rfl⟩
      refine Ref.seq (B := G9 u0 w0 F0) ?_ ?_
      · refine Ref.region (fun s ρ w s' h hr => ?_)
        obtain ⟨F, hW, h0, h1, h5, h6, h7⟩ := h
        refine ol_v (e_mv _ rfl) rfl ?_
        refine ol_v (e_mv _ h7) rfl ?_
        obtain ⟨x18, hx18, hr⟩ := bind_some' hr
        refine ol_e (f_callV [.int .i64 s.v_7] h1 hW.ok rfl (lcons rfl rfl) ⟨_, rfl, (val_int _ _)⟩ hx18) rfl rfl ?_
        rintro _ w19 ⟨rfl, kw1⟩
        have hW20 := hW.trans kw1
        have st1 := kw1.stp hW.ok
        refine ol_v (e_not_ rfl) rfl ?_
        obtain rfl := Option.some.inj hr
        exact ol_nil ⟨F, hW20, (h0.wk kw1 hW.ok), (h1.keep st1), h5, h6, h7, rfl⟩
      refine Ref.cond (b := fun s => s.t_29) (fun s ρ w ⟨F, hW, h0, h1, h5, h6, h7, h29⟩ => h29) (Ref.pre (A := G8 u0 w0 F0) ?_ (fun s ρ w h => (fun ⟨F, hW, h0, h1, h5, h6, h7, h29⟩ => ⟨F, hW, h0, h1, h5, h6, h7⟩ : G9 u0 w0 F0 s ρ w → G8 u0 w0 F0 s ρ w) h.2)) (Ref.pre (A := G5 u0 w0 F0) ?_ (fun s ρ w h => (fun ⟨F, hW, h0, h1, h5, h6, h7, h29⟩ => ⟨F, hW, h0, h1, h5, h6⟩ : G9 u0 w0 F0 s ρ w → G5 u0 w0 F0 s ρ w) h.2))
      · refine Ref.seq (B := G5 u0 w0 F0) ?_ ?_
        · refine Ref.region (fun s ρ w s' h hr => ?_)
          obtain ⟨F, hW, h0, h1, h5, h6, h7⟩ := h
          refine ol_v (e_mv _ rfl) rfl ?_
          refine ol_v (e_mv _ h5) rfl ?_
          refine ol_v (e_mv _ h7) rfl ?_
          obtain ⟨x21, hx21, hr⟩ := bind_some' hr
          obtain ⟨g22, o23, c24, hv25, L26⟩ := OwnV.at_ h0 hx21
          refine ol_v (e_ixO sl_23 hv25 hx21 rfl rfl) rfl ?_
          refine ol_eN (f_stO hW h0 hx21 (FldS.whole _) ty_3 (val_int _ _) hv25 rfl rfl) rfl ?_
          rintro - w27 ⟨hW28, ho29, hg1, st1⟩
          obtain rfl := Option.some.inj hr
          exact ol_nil ⟨F, hW28, ho29, (h1.keep st1), h5, h6⟩
        refine Ref.region (fun s ρ w s' h hr => ?_)
        obtain ⟨F, hW, h0, h1, h5, h6⟩ := h
        refine ol_v (e_mv _ h5) rfl ?_
        refine ol_v (e_add rfl rfl) rfl ?_
        refine ol_v (e_as _ rfl) rfl ?_
        obtain rfl := Option.some.inj hr
        exact ol_nil ⟨F, hW, h0, h1, rfl, h6⟩
      · exact Ref.skip
    refine Ref.region (fun s ρ w s' h hr => ?_)
    obtain ⟨F, hW, h0, h1, h5, h6⟩ := h
    refine ol_v (e_mv _ h6) rfl ?_
    refine ol_v (e_add rfl rfl) rfl ?_
    refine ol_v (e_as _ rfl) rfl ?_
    obtain rfl := Option.some.inj hr
    exact ol_nil ⟨F, hW, h0, h1, h5, rfl⟩
  refine Ref.seq (B := G7 u0 w0 F0) ?_ ?_
  · refine Ref.region (fun s ρ w s' h hr => ?_)
    obtain ⟨F, hW, h0, h5⟩ := h
    refine ol_v (e_mv _ rfl) rfl ?_
    refine ol_v (e_mv _ h5) rfl ?_
    obtain ⟨A30, c31, e32, hc33⟩ := h0.shape
    obtain ⟨x34, hx34, hr⟩ := bind_some' hr
    refine ol_v (e_slL (SlT.sl sl_23) (SlT.sz sl_23) hc33 e32 rfl hx34) rfl ?_
    refine ol_eN (f_clear sl_23 hW (OwnV.eqv e32.symm h0) hx34 rfl) rfl ?_
    rintro - w35 ⟨hW36, ho37, hx38, st1⟩
    have hg1 : World.grownBy w w35 (ρ 0).ownBlock := by rw [e32]; exact hx38
    obtain rfl := Option.some.inj hr
    exact ol_nil ⟨F, hW36, (OwnV.eqv e32 ho37), h5⟩
  refine Ref.seq (B := G4 u0 w0 F0) ?_ ?_
  · refine Ref.region (fun s ρ w s' h hr => ?_)
    obtain ⟨F, hW, h0, h5⟩ := h
    refine ol_v (e_mv _ rfl) rfl ?_
    refine ol_v (e_mv _ h5) rfl ?_
    obtain ⟨A39, c40, e41, hc42⟩ := h0.shape
    obtain ⟨x43, hx43, hr⟩ := bind_some' hr
    obtain ⟨hn44, hbn45⟩ := OwnV.cutTo (OwnV.eqv e41.symm h0) hx43
    refine ol_v (e_slH (SlT.sl sl_23) (SlT.sz sl_23) hc42 e41 rfl hx43) rfl ?_
    refine ol_v (e_as _ rfl) rfl ?_
    obtain rfl := Option.some.inj hr
    exact ol_nil ⟨F, hW, hn44⟩
  exact Ref.ret (fun s ρ w h => ⟨s, rfl, h⟩)
def post (v0 : Value) (w : World) (F : BSet) (r : R) (v : Value) (w' : World) : Prop := ∃ (F' : BSet) (v0' : Value), v = v0' ∧ Wk (ob v0.ownBlock) w F F' w' ∧ OwnV (kInt .i64) 3 (Bs w (ob v0.ownBlock)) F' w' v0' r
theorem calls {w : World} {F : BSet} (hok : ∀ b, F b → b < w.heap.size) {v0 : Value} {a0 : (List Int)} (h0 : OwnV (kInt .i64) 3 (fun _ => True) F w v0 a0) {v1 : Value} {a1 : (Int → Option Bool)} (h1 : Val (kFn Try.prog (ra1 (kInt .i64)) (fun r => (.bool r : Value))) F w v1 a1) {r : R} (hf : f a0 a1 = some r) : Calls Try.prog 53 #[v0, v1] w fun e w' => ∃ v, e = .returned v ∧ post v0 w F r v w' := by
  obtain ⟨c, hc, href⟩ := ref v0 w F
  refine calls_of_ref (args := [v0, v1]) _ Try.func53 hc rfl rfl href ?_ (retOf_some hf) ?_
  · exact ⟨F, Wk.refl hok, (h0.rebase (fun g hg => .inr hg)), h1⟩
  · rintro ρ w' a ⟨s, rfl, F', hW, h4⟩ hF
    refine ⟨_, run_results (rs := [.tmp 4]) rfl hF (vs := [ρ 4]) (⟨_, rfl, rfl⟩), ?_⟩
    exact ⟨F', ρ 4, rfl, hW, h4.rebase (fun g hg => (h4.lt hg).1)⟩
end
end slices_DeleteFunc_int_int

namespace history_Order_2
section
def G0 (w0 : World) (F0 : BSet) (s : S) (ρ : Env) (w : World) : Prop := ∃ (F : BSet), Wk nrow w0 F0 F w ∧ ∃ (g1 : Nat), ρ 0 = .int .i64 s.i_0 ∧ ρ 1 = .pointer (some ⟨g1, 0, none⟩) ∧ Lies (kInt .i64) F w g1 0 s.t_1
def G1 (w0 : World) (F0 : BSet) (s : S) (ρ : Env) (w : World) : Prop := ∃ (F : BSet), Wk nrow w0 F0 F w ∧ ρ 3 = .bool s.t_3
set_option maxHeartbeats 4000000 in
set_option maxRecDepth 20000 in
theorem ref (w0 : World) (F0 : BSet) : ∃ c, Try.f54.body = some c ∧ Ref Try.prog 7 c (G0 w0 F0) body (fun _ _ _ => False) (fun _ _ _ _ => False) (fun r ρ w => ∃ s, retv s = r ∧ G1 w0 F0 s ρ w) := by
  refine ⟨_, rfl, ?_⟩
  unfold body
  refine Ref.seq (B := G0 w0 F0) ?_ ?_
  · refine Ref.region (fun s ρ w s' h hr => ?_)
    obtain ⟨F, hW, g1, h0, p1, h1⟩ := h
    refine ol_v (e_as _ rfl) rfl ?_
    obtain rfl := Option.some.inj hr
    exact ol_nil ⟨F, hW, g1, h0, p1, h1⟩
  refine Ref.seq (B := G1 w0 F0) ?_ ?_
  · refine Ref.region (fun s ρ w s' h hr => ?_)
    obtain ⟨F, hW, g1, h0, p1, h1⟩ := h
    refine ol_v (e_mv _ h0) rfl ?_
    refine ol_v (e_ld ty_3 (LiesV.int h1.at_) p1) rfl ?_
    refine ol_v (e_eql rfl rfl) rfl ?_
    refine ol_v (e_as _ rfl) rfl ?_
    obtain rfl := Option.some.inj hr
    exact ol_nil ⟨F, hW, rfl⟩
  exact Ref.ret (fun s ρ w h => ⟨s, rfl, h⟩)
def post (w : World) (F : BSet) (r : R) (v : Value) (w' : World) : Prop := ∃ (F' : BSet), v = .bool r ∧ Wk nrow w F F' w'
theorem calls {w : World} {F : BSet} (hok : ∀ b, F b → b < w.heap.size) (a0 : Int) {g1 : Nat} {a1 : Int} (h1 : Lies (kInt .i64) F w g1 0 a1) {r : R} (hf : f a0 a1 = some r) : Calls Try.prog 54 #[.int .i64 a0, .pointer (some ⟨g1, 0, none⟩)] w fun e w' => ∃ v, e = .returned v ∧ post w F r v w' := by
  obtain ⟨c, hc, href⟩ := ref w F
  refine calls_of_ref (args := [.int .i64 a0, .pointer (some ⟨g1, 0, none⟩)]) _ Try.func54 hc rfl rfl href ?_ (retOf_some hf) ?_
  · exact ⟨F, Wk.refl hok, g1, rfl, rfl, h1⟩
  · rintro ρ w' a ⟨s, rfl, F', hW, h3⟩ hF
    refine ⟨_, run_results (rs := [.tmp 3]) rfl hF (vs := [ρ 3]) (⟨_, rfl, rfl⟩), ?_⟩
    have hv : resVal [ρ 3] = .bool s.t_3 := by rw [h3]; rfl
    exact ⟨F', hv, hW⟩
theorem fnv {w : World} {F : BSet} {g1 : Nat} {a1 : Int} (h1 : Lies (kInt .i64) F w g1 0 a1) : FnV Try.prog (ra1 (kInt .i64)) (fun r => (.bool r : Value)) F w (.func (.func 54) #[] #[.pointer (some ⟨g1, 0, none⟩)]) (fun x => f x a1) := by
  refine ⟨54, _, rfl, fn_54, fun F' W st ok vs x r hra hg => ?_⟩
  obtain ⟨v0, rfl, k0⟩ := hra
  obtain rfl := eqv_int k0
  have e_ : ([.int .i64 x] : List Value).toArray ++ (#[.pointer (some ⟨g1, 0, none⟩)] : Array Value) = #[.int .i64 x, .pointer (some ⟨g1, 0, none⟩)] := by simp
  rw [e_]
  refine (calls ok x (h1.keep st) hg).mono ?_
  rintro e W' ⟨v, rfl, F'', rfl, hk⟩
  exact ⟨_, rfl, rfl, F'', hk⟩
end
end history_Order_2

namespace history_Order
section
def G0 (w0 : World) (F0 : BSet) (s : S) (ρ : Env) (w : World) : Prop := ∃ (F : BSet), Wk nrow w0 F0 F w ∧ SlR k_Commit F w (ρ 0) s.t_0
def G1 (w0 : World) (F0 : BSet) (s : S) (ρ : Env) (w : World) : Prop := ∃ (F : BSet), Wk nrow w0 F0 F w ∧ ∃ (g1 : Nat) (g3 : Nat), ρ 1 = .pointer (some ⟨g1, 0, none⟩) ∧ Box (kSl k_Commit) 22 (Bs w0 nrow) F w g1 s.t_1 ∧ ρ 3 = .pointer (some ⟨g3, 0, none⟩) ∧ Box k_Fault 26 (Bs w0 nrow) F w g3 s.t_3
def G2 (w0 : World) (F0 : BSet) (s : S) (ρ : Env) (w : World) : Prop := ∃ (F : BSet), Wk nrow w0 F0 F w ∧ ∃ (g1 : Nat) (g3 : Nat) (g4 : Nat), ρ 1 = .pointer (some ⟨g1, 0, none⟩) ∧ Box (kSl k_Commit) 22 (Bs w0 nrow) F w g1 s.t_1 ∧ ρ 3 = .pointer (some ⟨g3, 0, none⟩) ∧ Box k_Fault 26 (Bs w0 nrow) F w g3 s.t_3 ∧ ρ 4 = .pointer (some ⟨g4, 0, none⟩) ∧ Box k_Fault 26 (Bs w0 nrow) F w g4 s.t_4 ∧ Apart (some g3) (some g4)
def G3 (w0 : World) (F0 : BSet) (s : S) (ρ : Env) (w : World) : Prop := ∃ (F : BSet), Wk nrow w0 F0 F w ∧ ∃ (g1 : Nat) (g3 : Nat) (g4 : Nat), ρ 1 = .pointer (some ⟨g1, 0, none⟩) ∧ Box (kSl k_Commit) 22 (Bs w0 nrow) F w g1 s.t_1 ∧ ρ 3 = .pointer (some ⟨g3, 0, none⟩) ∧ Box k_Fault 26 (Bs w0 nrow) F w g3 s.t_3 ∧ ρ 4 = .pointer (some ⟨g4, 0, none⟩) ∧ Box k_Fault 26 (Bs w0 nrow) F w g4 s.t_4 ∧ ρ 21 = .bool s.t_21 ∧ Apart (some g3) (some g4)
def G4 (w0 : World) (F0 : BSet) (s : S) (ρ : Env) (w : World) : Prop := ∃ (F : BSet), Wk nrow w0 F0 F w ∧ ∃ (g3 : Nat) (g4 : Nat), ρ 3 = .pointer (some ⟨g3, 0, none⟩) ∧ Box k_Fault 26 (Bs w0 nrow) F w g3 s.t_3 ∧ ρ 4 = .pointer (some ⟨g4, 0, none⟩) ∧ Box k_Fault 26 (Bs w0 nrow) F w g4 s.t_4 ∧ Apart (some g3) (some g4)
def G5 (w0 : World) (F0 : BSet) (s : S) (ρ : Env) (w : World) : Prop := ∃ (F : BSet), Wk nrow w0 F0 F w ∧ ∃ (g3 : Nat), OwnV (kInt .i64) 3 (Bs w0 nrow) F w (ρ 2) s.t_2 ∧ ρ 3 = .pointer (some ⟨g3, 0, none⟩) ∧ Box k_Fault 26 (Bs w0 nrow) F w g3 s.t_3
def G6 (w0 : World) (F0 : BSet) (s : S) (ρ : Env) (w : World) : Prop := ∃ (F : BSet), Wk nrow w0 F0 F w ∧ ∃ (g1 : Nat) (g3 : Nat), ρ 1 = .pointer (some ⟨g1, 0, none⟩) ∧ Box (kSl k_Commit) 22 (Bs w0 nrow) F w g1 s.t_1 ∧ ρ 3 = .pointer (some ⟨g3, 0, none⟩) ∧ Box k_Fault 26 (Bs w0 nrow) F w g3 s.t_3 ∧ OwnV (kInt .i64) 3 (Bs w0 nrow) F w (ρ 5) s.t_5
def G7 (w0 : World) (F0 : BSet) (s : S) (ρ : Env) (w : World) : Prop := ∃ (F : BSet), Wk nrow w0 F0 F w ∧ ∃ (g1 : Nat) (g3 : Nat), ρ 1 = .pointer (some ⟨g1, 0, none⟩) ∧ Box (kSl k_Commit) 22 (Bs w0 nrow) F w g1 s.t_1 ∧ ρ 3 = .pointer (some ⟨g3, 0, none⟩) ∧ Box k_Fault 26 (Bs w0 nrow) F w g3 s.t_3 ∧ OwnV (kInt .i64) 3 (Bs w0 nrow) F w (ρ 5) s.t_5 ∧ SlR k_Commit F w (ρ 26) s.t_26 ∧ ρ 27 = .int .i64 s.t_27 ∧ ρ 28 = .int .i64 s.t_28
def G8 (w0 : World) (F0 : BSet) (s : S) (ρ : Env) (w : World) : Prop := ∃ (F : BSet), Wk nrow w0 F0 F w ∧ ∃ (g1 : Nat) (g3 : Nat), ρ 1 = .pointer (some ⟨g1, 0, none⟩) ∧ Box (kSl k_Commit) 22 (Bs w0 nrow) F w g1 s.t_1 ∧ ρ 3 = .pointer (some ⟨g3, 0, none⟩) ∧ Box k_Fault 26 (Bs w0 nrow) F w g3 s.t_3 ∧ OwnV (kInt .i64) 3 (Bs w0 nrow) F w (ρ 5) s.t_5 ∧ SlR k_Commit F w (ρ 26) s.t_26 ∧ ρ 27 = .int .i64 s.t_27 ∧ ρ 28 = .int .i64 s.t_28 ∧ ρ 29 = .bool s.t_29
def G9 (w0 : World) (F0 : BSet) (s : S) (ρ : Env) (w : World) : Prop := ∃ (F : BSet), Wk nrow w0 F0 F w ∧ ∃ (g1 : Nat) (g3 : Nat) (g7 : Nat), ρ 1 = .pointer (some ⟨g1, 0, none⟩) ∧ Box (kSl k_Commit) 22 (Bs w0 nrow) F w g1 s.t_1 ∧ ρ 3 = .pointer (some ⟨g3, 0, none⟩) ∧ Box k_Fault 26 (Bs w0 nrow) F w g3 s.t_3 ∧ OwnV (kInt .i64) 3 (Bs w0 nrow) F w (ρ 5) s.t_5 ∧ ρ 7 = .pointer (some ⟨g7, 0, none⟩) ∧ Box k_Commit 56 (Bs w0 nrow) F w g7 s.t_7 ∧ SlR k_Commit F w (ρ 26) s.t_26 ∧ ρ 27 = .int .i64 s.t_27 ∧ ρ 28 = .int .i64 s.t_28
def G10 (w0 : World) (F0 : BSet) (s : S) (ρ : Env) (w : World) : Prop := ∃ (F : BSet), Wk nrow w0 F0 F w ∧ ∃ (g1 : Nat) (g3 : Nat), ρ 1 = .pointer (some ⟨g1, 0, none⟩) ∧ Box (kSl k_Commit) 22 (Bs w0 nrow) F w g1 s.t_1 ∧ ρ 3 = .pointer (some ⟨g3, 0, none⟩) ∧ Box k_Fault 26 (Bs w0 nrow) F w g3 s.t_3 ∧ OwnV (kInt .i64) 3 (Bs w0 nrow) F w (ρ 5) s.t_5 ∧ SlR k_Commit F w (ρ 26) s.t_26 ∧ ρ 27 = .int .i64 s.t_27 ∧ ρ 28 = .int .i64 s.t_28 ∧ SlR (kInt .i64) F w (ρ 33) s.t_33 ∧ ρ 34 = .int .i64 s.t_34 ∧ ρ 35 = .int .i64 s.t_35
def G11 (w0 : World) (F0 : BSet) (s : S) (ρ : Env) (w : World) : Prop := ∃ (F : BSet), Wk nrow w0 F0 F w ∧ ∃ (g1 : Nat) (g3 : Nat), ρ 1 = .pointer (some ⟨g1, 0, none⟩) ∧ Box (kSl k_Commit) 22 (Bs w0 nrow) F w g1 s.t_1 ∧ ρ 3 = .pointer (some ⟨g3, 0, none⟩) ∧ Box k_Fault 26 (Bs w0 nrow) F w g3 s.t_3 ∧ OwnV (kInt .i64) 3 (Bs w0 nrow) F w (ρ 5) s.t_5 ∧ SlR k_Commit F w (ρ 26) s.t_26 ∧ ρ 27 = .int .i64 s.t_27 ∧ ρ 28 = .int .i64 s.t_28 ∧ SlR (kInt .i64) F w (ρ 33) s.t_33 ∧ ρ 34 = .int .i64 s.t_34 ∧ ρ 35 = .int .i64 s.t_35 ∧ ρ 36 = .bool s.t_36
def G12 (w0 : World) (F0 : BSet) (s : S) (ρ : Env) (w : World) : Prop := ∃ (F : BSet), Wk nrow w0 F0 F w ∧ ∃ (g1 : Nat) (g3 : Nat), ρ 1 = .pointer (some ⟨g1, 0, none⟩) ∧ Box (kSl k_Commit) 22 (Bs w0 nrow) F w g1 s.t_1 ∧ ρ 3 = .pointer (some ⟨g3, 0, none⟩) ∧ Box k_Fault 26 (Bs w0 nrow) F w g3 s.t_3 ∧ OwnV (kInt .i64) 3 (Bs w0 nrow) F w (ρ 5) s.t_5 ∧ ρ 9 = .int .i64 s.t_9 ∧ SlR k_Commit F w (ρ 26) s.t_26 ∧ ρ 27 = .int .i64 s.t_27 ∧ ρ 28 = .int .i64 s.t_28 ∧ SlR (kInt .i64) F w (ρ 33) s.t_33 ∧ ρ 34 = .int .i64 s.t_34 ∧ ρ 35 = .int .i64 s.t_35
def G13 (w0 : World) (F0 : BSet) (s : S) (ρ : Env) (w : World) : Prop := ∃ (F : BSet), Wk nrow w0 F0 F w ∧ ∃ (g1 : Nat) (g3 : Nat), ρ 1 = .pointer (some ⟨g1, 0, none⟩) ∧ Box (kSl k_Commit) 22 (Bs w0 nrow) F w g1 s.t_1 ∧ ρ 3 = .pointer (some ⟨g3, 0, none⟩) ∧ Box k_Fault 26 (Bs w0 nrow) F w g3 s.t_3 ∧ OwnV (kInt .i64) 3 (Bs w0 nrow) F w (ρ 5) s.t_5 ∧ OwnV (kInt .i64) 3 (Bs w0 nrow) F w (ρ 10) s.t_10 ∧ OwnV (kInt .i64) 3 (Bs w0 nrow) F w (ρ 11) s.t_11 ∧ Apart (ρ 5).ownBlock (ρ 10).ownBlock ∧ Apart (ρ 5).ownBlock (ρ 11).ownBlock ∧ Apart (ρ 10).ownBlock (ρ 11).ownBlock
def G14 (w0 : World) (F0 : BSet) (s : S) (ρ : Env) (w : World) : Prop := ∃ (F : BSet), Wk nrow w0 F0 F w ∧ ∃ (g1 : Nat) (g3 : Nat), ρ 1 = .pointer (some ⟨g1, 0, none⟩) ∧ Box (kSl k_Commit) 22 (Bs w0 nrow) F w g1 s.t_1 ∧ ρ 3 = .pointer (some ⟨g3, 0, none⟩) ∧ Box k_Fault 26 (Bs w0 nrow) F w g3 s.t_3 ∧ OwnV (kInt .i64) 3 (Bs w0 nrow) F w (ρ 5) s.t_5 ∧ OwnV (kInt .i64) 3 (Bs w0 nrow) F w (ρ 10) s.t_10 ∧ OwnV (kInt .i64) 3 (Bs w0 nrow) F w (ρ 11) s.t_11 ∧ ρ 47 = ρ 5 ∧ ρ 48 = .int .i64 s.t_48 ∧ ρ 49 = .int .i64 s.t_49 ∧ Apart (ρ 5).ownBlock (ρ 10).ownBlock ∧ Apart (ρ 5).ownBlock (ρ 11).ownBlock ∧ Apart (ρ 10).ownBlock (ρ 11).ownBlock
def G15 (w0 : World) (F0 : BSet) (s : S) (ρ : Env) (w : World) : Prop := ∃ (F : BSet), Wk nrow w0 F0 F w ∧ ∃ (g1 : Nat) (g3 : Nat), ρ 1 = .pointer (some ⟨g1, 0, none⟩) ∧ Box (kSl k_Commit) 22 (Bs w0 nrow) F w g1 s.t_1 ∧ ρ 3 = .pointer (some ⟨g3, 0, none⟩) ∧ Box k_Fault 26 (Bs w0 nrow) F w g3 s.t_3 ∧ OwnV (kInt .i64) 3 (Bs w0 nrow) F w (ρ 5) s.t_5 ∧ OwnV (kInt .i64) 3 (Bs w0 nrow) F w (ρ 10) s.t_10 ∧ OwnV (kInt .i64) 3 (Bs w0 nrow) F w (ρ 11) s.t_11 ∧ ρ 47 = ρ 5 ∧ ρ 48 = .int .i64 s.t_48 ∧ ρ 49 = .int .i64 s.t_49 ∧ ρ 50 = .bool s.t_50 ∧ Apart (ρ 5).ownBlock (ρ 10).ownBlock ∧ Apart (ρ 5).ownBlock (ρ 11).ownBlock ∧ Apart (ρ 10).ownBlock (ρ 11).ownBlock
def G16 (w0 : World) (F0 : BSet) (s : S) (ρ : Env) (w : World) : Prop := ∃ (F : BSet), Wk nrow w0 F0 F w ∧ ∃ (g1 : Nat) (g3 : Nat), ρ 1 = .pointer (some ⟨g1, 0, none⟩) ∧ Box (kSl k_Commit) 22 (Bs w0 nrow) F w g1 s.t_1 ∧ ρ 3 = .pointer (some ⟨g3, 0, none⟩) ∧ Box k_Fault 26 (Bs w0 nrow) F w g3 s.t_3 ∧ OwnV (kInt .i64) 3 (Bs w0 nrow) F w (ρ 5) s.t_5 ∧ OwnV (kInt .i64) 3 (Bs w0 nrow) F w (ρ 10) s.t_10 ∧ OwnV (kInt .i64) 3 (Bs w0 nrow) F w (ρ 11) s.t_11 ∧ ρ 12 = .int .i64 s.t_12 ∧ ρ 13 = .int .i64 s.t_13 ∧ ρ 47 = ρ 5 ∧ ρ 48 = .int .i64 s.t_48 ∧ ρ 49 = .int .i64 s.t_49 ∧ Apart (ρ 5).ownBlock (ρ 10).ownBlock ∧ Apart (ρ 5).ownBlock (ρ 11).ownBlock ∧ Apart (ρ 10).ownBlock (ρ 11).ownBlock
def G17 (w0 : World) (F0 : BSet) (s : S) (ρ : Env) (w : World) : Prop := ∃ (F : BSet), Wk nrow w0 F0 F w ∧ ∃ (g1 : Nat) (g3 : Nat), ρ 1 = .pointer (some ⟨g1, 0, none⟩) ∧ Box (kSl k_Commit) 22 (Bs w0 nrow) F w g1 s.t_1 ∧ ρ 3 = .pointer (some ⟨g3, 0, none⟩) ∧ Box k_Fault 26 (Bs w0 nrow) F w g3 s.t_3 ∧ OwnV (kInt .i64) 3 (Bs w0 nrow) F w (ρ 5) s.t_5 ∧ OwnV (kInt .i64) 3 (Bs w0 nrow) F w (ρ 10) s.t_10 ∧ OwnV (kInt .i64) 3 (Bs w0 nrow) F w (ρ 11) s.t_11 ∧ ρ 12 = .int .i64 s.t_12 ∧ ρ 47 = ρ 5 ∧ ρ 48 = .int .i64 s.t_48 ∧ ρ 49 = .int .i64 s.t_49 ∧ ρ 55 = .bool s.t_55 ∧ Apart (ρ 5).ownBlock (ρ 10).ownBlock ∧ Apart (ρ 5).ownBlock (ρ 11).ownBlock ∧ Apart (ρ 10).ownBlock (ρ 11).ownBlock
def G18 (w0 : World) (F0 : BSet) (s : S) (ρ : Env) (w : World) : Prop := ∃ (F : BSet), Wk nrow w0 F0 F w ∧ ∃ (g1 : Nat) (g3 : Nat), ρ 1 = .pointer (some ⟨g1, 0, none⟩) ∧ Box (kSl k_Commit) 22 (Bs w0 nrow) F w g1 s.t_1 ∧ ρ 3 = .pointer (some ⟨g3, 0, none⟩) ∧ Box k_Fault 26 (Bs w0 nrow) F w g3 s.t_3 ∧ OwnV (kInt .i64) 3 (Bs w0 nrow) F w (ρ 5) s.t_5 ∧ OwnV (kInt .i64) 3 (Bs w0 nrow) F w (ρ 10) s.t_10 ∧ OwnV (kInt .i64) 3 (Bs w0 nrow) F w (ρ 11) s.t_11 ∧ ρ 12 = .int .i64 s.t_12 ∧ ρ 47 = ρ 5 ∧ ρ 48 = .int .i64 s.t_48 ∧ ρ 49 = .int .i64 s.t_49 ∧ Apart (ρ 5).ownBlock (ρ 10).ownBlock ∧ Apart (ρ 5).ownBlock (ρ 11).ownBlock ∧ Apart (ρ 10).ownBlock (ρ 11).ownBlock
def G19 (w0 : World) (F0 : BSet) (s : S) (ρ : Env) (w : World) : Prop := ∃ (F : BSet), Wk nrow w0 F0 F w ∧ ∃ (g1 : Nat) (g3 : Nat), ρ 1 = .pointer (some ⟨g1, 0, none⟩) ∧ Box (kSl k_Commit) 22 (Bs w0 nrow) F w g1 s.t_1 ∧ ρ 3 = .pointer (some ⟨g3, 0, none⟩) ∧ Box k_Fault 26 (Bs w0 nrow) F w g3 s.t_3 ∧ OwnV (kInt .i64) 3 (Bs w0 nrow) F w (ρ 5) s.t_5 ∧ OwnV (kInt .i64) 3 (Bs w0 nrow) F w (ρ 10) s.t_10 ∧ OwnV (kInt .i64) 3 (Bs w0 nrow) F w (ρ 11) s.t_11 ∧ ρ 63 = .bool s.t_63 ∧ Apart (ρ 5).ownBlock (ρ 10).ownBlock ∧ Apart (ρ 5).ownBlock (ρ 11).ownBlock ∧ Apart (ρ 10).ownBlock (ρ 11).ownBlock
def G20 (w0 : World) (F0 : BSet) (s : S) (ρ : Env) (w : World) : Prop := ∃ (F : BSet), Wk nrow w0 F0 F w ∧ ∃ (g3 : Nat), ρ 3 = .pointer (some ⟨g3, 0, none⟩) ∧ Box k_Fault 26 (Bs w0 nrow) F w g3 s.t_3 ∧ OwnV (kInt .i64) 3 (Bs w0 nrow) F w (ρ 11) s.t_11
def G21 (w0 : World) (F0 : BSet) (s : S) (ρ : Env) (w : World) : Prop := ∃ (F : BSet), Wk nrow w0 F0 F w ∧ ∃ (g1 : Nat) (g3 : Nat) (g14 : Nat), ρ 1 = .pointer (some ⟨g1, 0, none⟩) ∧ Box (kSl k_Commit) 22 (Bs w0 nrow) F w g1 s.t_1 ∧ ρ 3 = .pointer (some ⟨g3, 0, none⟩) ∧ Box k_Fault 26 (Bs w0 nrow) F w g3 s.t_3 ∧ OwnV (kInt .i64) 3 (Bs w0 nrow) F w (ρ 5) s.t_5 ∧ OwnV (kInt .i64) 3 (Bs w0 nrow) F w (ρ 10) s.t_10 ∧ OwnV (kInt .i64) 3 (Bs w0 nrow) F w (ρ 11) s.t_11 ∧ ρ 14 = .pointer (some ⟨g14, 0, none⟩) ∧ Box (kInt .i64) 3 (Bs w0 nrow) F w g14 s.t_14 ∧ Apart (ρ 5).ownBlock (ρ 10).ownBlock ∧ Apart (ρ 5).ownBlock (ρ 11).ownBlock ∧ Apart (ρ 5).ownBlock (some g14) ∧ Apart (ρ 10).ownBlock (ρ 11).ownBlock ∧ Apart (ρ 10).ownBlock (some g14) ∧ Apart (ρ 11).ownBlock (some g14)
def G22 (w0 : World) (F0 : BSet) (s : S) (ρ : Env) (w : World) : Prop := ∃ (F : BSet), Wk nrow w0 F0 F w ∧ ∃ (g1 : Nat) (g3 : Nat), ρ 1 = .pointer (some ⟨g1, 0, none⟩) ∧ Box (kSl k_Commit) 22 (Bs w0 nrow) F w g1 s.t_1 ∧ ρ 3 = .pointer (some ⟨g3, 0, none⟩) ∧ Box k_Fault 26 (Bs w0 nrow) F w g3 s.t_3 ∧ OwnV (kInt .i64) 3 (Bs w0 nrow) F w (ρ 5) s.t_5 ∧ OwnV (kInt .i64) 3 (Bs w0 nrow) F w (ρ 10) s.t_10 ∧ OwnV (kInt .i64) 3 (Bs w0 nrow) F w (ρ 11) s.t_11 ∧ SlR (kInt .i64) F w (ρ 78) s.t_78 ∧ ρ 79 = .int .i64 s.t_79 ∧ ρ 80 = .int .i64 s.t_80 ∧ Apart (ρ 5).ownBlock (ρ 10).ownBlock ∧ Apart (ρ 5).ownBlock (ρ 11).ownBlock ∧ Apart (ρ 10).ownBlock (ρ 11).ownBlock
def G23 (w0 : World) (F0 : BSet) (s : S) (ρ : Env) (w : World) : Prop := ∃ (F : BSet), Wk nrow w0 F0 F w ∧ ∃ (g1 : Nat) (g3 : Nat), ρ 1 = .pointer (some ⟨g1, 0, none⟩) ∧ Box (kSl k_Commit) 22 (Bs w0 nrow) F w g1 s.t_1 ∧ ρ 3 = .pointer (some ⟨g3, 0, none⟩) ∧ Box k_Fault 26 (Bs w0 nrow) F w g3 s.t_3 ∧ OwnV (kInt .i64) 3 (Bs w0 nrow) F w (ρ 5) s.t_5 ∧ OwnV (kInt .i64) 3 (Bs w0 nrow) F w (ρ 10) s.t_10 ∧ OwnV (kInt .i64) 3 (Bs w0 nrow) F w (ρ 11) s.t_11 ∧ SlR (kInt .i64) F w (ρ 78) s.t_78 ∧ ρ 79 = .int .i64 s.t_79 ∧ ρ 80 = .int .i64 s.t_80 ∧ ρ 81 = .bool s.t_81 ∧ Apart (ρ 5).ownBlock (ρ 10).ownBlock ∧ Apart (ρ 5).ownBlock (ρ 11).ownBlock ∧ Apart (ρ 10).ownBlock (ρ 11).ownBlock
def G24 (w0 : World) (F0 : BSet) (s : S) (ρ : Env) (w : World) : Prop := ∃ (F : BSet), Wk nrow w0 F0 F w ∧ ∃ (g1 : Nat) (g3 : Nat), ρ 1 = .pointer (some ⟨g1, 0, none⟩) ∧ Box (kSl k_Commit) 22 (Bs w0 nrow) F w g1 s.t_1 ∧ ρ 3 = .pointer (some ⟨g3, 0, none⟩) ∧ Box k_Fault 26 (Bs w0 nrow) F w g3 s.t_3 ∧ OwnV (kInt .i64) 3 (Bs w0 nrow) F w (ρ 5) s.t_5 ∧ OwnV (kInt .i64) 3 (Bs w0 nrow) F w (ρ 10) s.t_10 ∧ OwnV (kInt .i64) 3 (Bs w0 nrow) F w (ρ 11) s.t_11 ∧ ρ 16 = .int .i64 s.t_16 ∧ SlR (kInt .i64) F w (ρ 78) s.t_78 ∧ ρ 79 = .int .i64 s.t_79 ∧ ρ 80 = .int .i64 s.t_80 ∧ Apart (ρ 5).ownBlock (ρ 10).ownBlock ∧ Apart (ρ 5).ownBlock (ρ 11).ownBlock ∧ Apart (ρ 10).ownBlock (ρ 11).ownBlock
def G25 (w0 : World) (F0 : BSet) (s : S) (ρ : Env) (w : World) : Prop := ∃ (F : BSet), Wk nrow w0 F0 F w ∧ ∃ (g1 : Nat) (g3 : Nat), ρ 1 = .pointer (some ⟨g1, 0, none⟩) ∧ Box (kSl k_Commit) 22 (Bs w0 nrow) F w g1 s.t_1 ∧ ρ 3 = .pointer (some ⟨g3, 0, none⟩) ∧ Box k_Fault 26 (Bs w0 nrow) F w g3 s.t_3 ∧ OwnV (kInt .i64) 3 (Bs w0 nrow) F w (ρ 5) s.t_5 ∧ OwnV (kInt .i64) 3 (Bs w0 nrow) F w (ρ 10) s.t_10 ∧ OwnV (kInt .i64) 3 (Bs w0 nrow) F w (ρ 11) s.t_11 ∧ ρ 16 = .int .i64 s.t_16 ∧ SlR (kInt .i64) F w (ρ 78) s.t_78 ∧ ρ 79 = .int .i64 s.t_79 ∧ ρ 80 = .int .i64 s.t_80 ∧ ρ 94 = .bool s.t_94 ∧ Apart (ρ 5).ownBlock (ρ 10).ownBlock ∧ Apart (ρ 5).ownBlock (ρ 11).ownBlock ∧ Apart (ρ 10).ownBlock (ρ 11).ownBlock
set_option maxHeartbeats 4000000 in
set_option maxRecDepth 20000 in
theorem ref (w0 : World) (F0 : BSet) : ∃ c, Try.f43.body = some c ∧ Ref Try.prog 102 c (G0 w0 F0) body (fun _ _ _ => False) (fun _ _ _ _ => False) (fun r ρ w => ∃ s, retv s = r ∧ G5 w0 F0 s ρ w) := by
  refine ⟨_, rfl, ?_⟩
  unfold body
  refine Ref.seq (B := G1 w0 F0) ?_ ?_
  · refine Ref.region (fun s ρ w s' h hr => ?_)
    obtain ⟨F, hW, h0⟩ := h
    refine ol_e (f_box hW rfl (val_sl h0)) rfl rfl ?_
    rintro _ w2 ⟨g1, rfl, kw1, ho3⟩
    have hW4 := hW.trans kw1
    have st1 := kw1.stp hW.ok
    refine ol_v (e_as _ rfl) rfl ?_
    refine ol_e (f_alloc zer_26 hW4) rfl rfl ?_
    rintro _ w6 ⟨g5, rfl, kw2, ho7⟩
    have hW8 := hW4.trans kw2
    have st2 := kw2.stp hW4.ok
    obtain rfl := Option.some.inj hr
    exact ol_nil ⟨F, hW8, g1, g5, rfl, ((ho3.base (row := nrow) hW.le).wk kw2 hW4.ok), rfl, (ho7.base (row := nrow) hW4.le)⟩
  refine Ref.seq (B := G1 w0 F0) ?_ ?_
  · refine Ref.seq (B := G2 w0 F0) ?_ ?_
    · refine Ref.region (fun s ρ w s' h hr => ?_)
      obtain ⟨F, hW, g1, g3, p1, h1, p3, h3⟩ := h
      obtain ⟨v9, hl10, hs11⟩ := LiesV.sl (h1).at_
      refine ol_v (e_ld ty_22 hl10 p1) rfl ?_
      obtain ⟨x12, hx12, hr⟩ := bind_some' hr
      refine ol_e (f_call [v9] fn_35 (lcons rfl rfl) (history_Validate.calls hW.ok hs11 hx12)) rfl rfl ?_
      rintro v15 w13 ⟨Fz14, _, rfl, kw1, hk16⟩
      have hW18 := hW.trans kw1
      have st1 := kw1.stp hW.ok
      refine ol_e (f_alloc zer_26 hW18) rfl rfl ?_
      rintro _ w20 ⟨g19, rfl, kw2, ho21⟩
      have hW22 := hW18.trans kw2
      have st2 := kw2.stp hW18.ok
      refine ol_eN (f_stB hW22 (ho21.base (row := nrow) hW18.le) (FldS.whole _) ty_26 (hk16.keep st2) rfl rfl) rfl ?_
      rintro - w23 ⟨hW24, ho25, hg3, st3⟩
      obtain rfl := Option.some.inj hr
      exact ol_nil ⟨Fz14, hW24, g1, g3, g19, p1, (((h1.wk kw1 hW.ok).wk kw2 hW18.ok).mut (apart_bb (ho21.base (row := nrow) hW18.le) ((h1.wk kw1 hW.ok).wk kw2 hW18.ok) rfl) hg3 st3), p3, (((h3.wk kw1 hW.ok).wk kw2 hW18.ok).mut (Apart.base (fun _ e_ => by cases e_; exact ho21.ge) (h3.wk kw1 hW.ok).ltw) hg3 st3), rfl, ho25, (Apart.base (fun _ e_ => by cases e_; exact ho21.ge) (h3.wk kw1 hW.ok).ltw).symm⟩
    refine Ref.seq (B := G3 w0 F0) ?_ ?_
    · refine Ref.region (fun s ρ w s' h hr => ?_)
      obtain ⟨F, hW, g1, g3, g4, p1, h1, p3, h3, p4, h4, a3b_4b⟩ := h
      obtain ⟨v26, hl27⟩ := LiesAt.v (h4).at_
      refine ol_v (e_ld ty_26 hl27 p4) rfl ?_
      refine ol_v (e_bld (cells := #[.int .i64 0, .int .i64 0]) bld_26 (vs := []) rfl rfl) rfl ?_
      have hb28 : Val k_Fault F w (.agg #[.int .i64 0, .int .i64 0]) (⟨(0 : Int), (0 : Int)⟩ : Fault) := mk_Fault (val_int _ _) (val_int _ _)
      refine ol_v (e_tneq (eq_Fault_26 hl27.val hb28) rfl rfl) rfl ?_
      obtain rfl := Option.some.inj hr
      exact ol_nil ⟨F, hW, g1, g3, g4, p1, h1, p3, h3, p4, h4, rfl, a3b_4b⟩
    refine Ref.cond (b := fun s => s.t_21) (fun s ρ w ⟨F, hW, g1, g3, g4, p1, h1, p3, h3, p4, h4, h21, a3b_4b⟩ => h21) (Ref.pre (A := G4 w0 F0) ?_ (fun s ρ w h => (fun ⟨F, hW, g1, g3, g4, p1, h1, p3, h3, p4, h4, h21, a3b_4b⟩ => ⟨F, hW, g3, g4, p3, h3, p4, h4, a3b_4b⟩ : G3 w0 F0 s ρ w → G4 w0 F0 s ρ w) h.2)) (Ref.pre (A := G1 w0 F0) ?_ (fun s ρ w h => (fun ⟨F, hW, g1, g3, g4, p1, h1, p3, h3, p4, h4, h21, a3b_4b⟩ => ⟨F, hW, g1, g3, p1, h1, p3, h3⟩ : G3 w0 F0 s ρ w → G1 w0 F0 s ρ w) h.2))
    · refine Ref.seq (B := G5 w0 F0) ?_ ?_
      · refine Ref.regionD 2 (by kernel_rfl) (by kernel_rfl) (fun s ρ w ⟨F, hW, g3, g4, p3, h3, p4, h4, a3b_4b⟩ => ⟨F, hW.drewS, g3, g4, p3, h3.wk (Wk.drew (row := nrow) hW.ok) hW.ok, p4, h4.wk (Wk.drew (row := nrow) hW.ok) hW.ok, a3b_4b⟩) (fun s ρ w s' h hr => ?_)
        obtain ⟨F, hW, g3, g4, p3, h3, p4, h4, a3b_4b⟩ := h
        obtain ⟨v29, hl30⟩ := LiesAt.v (h4).at_
        refine ol_v (e_ld ty_26 hl30 p4) rfl ?_
        refine ol_v (e_as _ rfl) rfl ?_
        refine ol_eN (f_stB hW h3 (FldS.whole _) ty_26 hl30.val p3 rfl) rfl ?_
        rintro - w31 ⟨hW32, ho33, hg1, st1⟩
        obtain rfl := Option.some.inj hr
        exact ol_nil ⟨F, hW32, g3, ((OwnV.nil (kInt .i64) 3 (Bs w0 nrow) F w).mut (apart_bo h3 (OwnV.nil (kInt .i64) 3 (Bs w0 nrow) F w) rfl) hg1 st1), p3, ho33⟩
      exact Ref.ret (fun s ρ w h => ⟨s, rfl, h⟩)
    · exact Ref.skip
  refine Ref.seq (B := G6 w0 F0) ?_ ?_
  · refine Ref.region (fun s ρ w s' h hr => ?_)
    obtain ⟨F, hW, g1, g3, p1, h1, p3, h3⟩ := h
    obtain ⟨v34, hl35, hs36⟩ := LiesV.sl (h1).at_
    refine ol_v (e_ld ty_22 hl35 p1) rfl ?_
    obtain ⟨A37, c38, e39, hc40, R41⟩ := id hs36
    refine ol_v (e_len (SlT.sl sl_22) e39) rfl ?_
    obtain ⟨x42, hx42, hr⟩ := bind_some' hr
    refine ol_e (f_mks sl_23 hW rfl rfl hx42) rfl rfl ?_
    rintro v43 w44 ⟨kw1, ho45⟩
    have hW46 := hW.trans kw1
    have st1 := kw1.stp hW.ok
    refine ol_v (e_as _ rfl) rfl ?_
    obtain rfl := Option.some.inj hr
    exact ol_nil ⟨F, hW46, g1, g3, p1, (h1.wk kw1 hW.ok), p3, (h3.wk kw1 hW.ok), (ho45.base (row := nrow) hW.le)⟩
  refine Ref.seq (B := G6 w0 F0) ?_ ?_
  · refine Ref.seq (B := G7 w0 F0) ?_ ?_
    · refine Ref.region (fun s ρ w s' h hr => ?_)
      obtain ⟨F, hW, g1, g3, p1, h1, p3, h3, h5⟩ := h
      obtain ⟨v47, hl48, hs49⟩ := LiesV.sl (h1).at_
      refine ol_v (e_ld ty_22 hl48 p1) rfl ?_
      obtain ⟨A50, c51, e52, hc53, R54⟩ := id hs49
      refine ol_v (e_len (SlT.sl sl_22) e52) rfl ?_
      refine ol_v (e_mv _ rfl) rfl ?_
      obtain rfl := Option.some.inj hr
      exact ol_nil ⟨F, hW, g1, g3, p1, h1, p3, h3, h5, hs49, rfl, rfl⟩
    refine Ref.block ?_
    refine Ref.loop ?_
    refine Ref.seq (B := G8 w0 F0) ?_ ?_
    · refine Ref.region (fun s ρ w s' h hr => ?_)
      obtain ⟨F, hW, g1, g3, p1, h1, p3, h3, h5, h26, h27, h28⟩ := h
      refine ol_v (e_lss h28 h27) rfl ?_
      obtain rfl := Option.some.inj hr
      exact ol_nil ⟨F, hW, g1, g3, p1, h1, p3, h3, h5, h26, h27, h28, rfl⟩
    refine Ref.seq (B := G7 w0 F0) ?_ ?_
    · refine Ref.cond (b := fun s => s.t_29) (fun s ρ w ⟨F, hW, g1, g3, p1, h1, p3, h3, h5, h26, h27, h28, h29⟩ => h29) (Ref.pre (A := G7 w0 F0) ?_ (fun s ρ w h => (fun ⟨F, hW, g1, g3, p1, h1, p3, h3, h5, h26, h27, h28, h29⟩ => ⟨F, hW, g1, g3, p1, h1, p3, h3, h5, h26, h27, h28⟩ : G8 w0 F0 s ρ w → G7 w0 F0 s ρ w) h.2)) (Ref.pre (A := G6 w0 F0) ?_ (fun s ρ w h => (fun ⟨F, hW, g1, g3, p1, h1, p3, h3, h5, h26, h27, h28, h29⟩ => ⟨F, hW, g1, g3, p1, h1, p3, h3, h5⟩ : G8 w0 F0 s ρ w → G6 w0 F0 s ρ w) h.2))
      · exact Ref.skip
      · exact Ref.exit (fun s ρ w h => h)
    refine Ref.seq (B := G7 w0 F0) ?_ ?_
    · refine Ref.block ?_
      refine Ref.seq (B := G9 w0 F0) ?_ ?_
      · refine Ref.region (fun s ρ w s' h hr => ?_)
        obtain ⟨F, hW, g1, g3, p1, h1, p3, h3, h5, h26, h27, h28⟩ := h
        obtain ⟨x55, hx55, hr⟩ := bind_some' hr
        obtain ⟨A56, c57, e58, hc59, R60⟩ := id h26
        obtain ⟨b61, o62, hA63, L64⟩ := Row.at_ R60 hx55
        refine ol_v (e_ix (SlT.sl sl_22) (SlT.sz sl_22) hA63 hx55 e58 h28) rfl ?_
        obtain ⟨v65, hl66⟩ := LiesAt.v L64.at_
        refine ol_v (e_ld ty_56 hl66 rfl) rfl ?_
        refine ol_e (f_alloc zer_56 hW) rfl rfl ?_
        rintro _ w68 ⟨g67, rfl, kw1, ho69⟩
        have hW70 := hW.trans kw1
        have st1 := kw1.stp hW.ok
        refine ol_eN (f_stB hW70 (ho69.base (row := nrow) hW.le) (FldS.whole _) ty_56 (hl66.val.keep st1) rfl rfl) rfl ?_
        rintro - w71 ⟨hW72, ho73, hg2, st2⟩
        obtain rfl := Option.some.inj hr
        exact ol_nil ⟨F, hW72, g1, g3, g67, p1, ((h1.wk kw1 hW.ok).mut (apart_bb (ho69.base (row := nrow) hW.le) (h1.wk kw1 hW.ok) rfl) hg2 st2), p3, ((h3.wk kw1 hW.ok).mut (apart_bb (ho69.base (row := nrow) hW.le) (h3.wk kw1 hW.ok) rfl) hg2 st2), ((h5.wk kw1 hW.ok).mut (apart_bo (ho69.base (row := nrow) hW.le) (h5.wk kw1 hW.ok) rfl) hg2 st2), rfl, ho73, (h26.keep (st1.trans st2)), h27, h28⟩
      refine Ref.seq (B := G10 w0 F0) ?_ ?_
      · refine Ref.region (fun s ρ w s' h hr => ?_)
        obtain ⟨F, hW, g1, g3, g7, p1, h1, p3, h3, h5, p7, h7, h26, h27, h28⟩ := h
        refine ol_v (e_fa fa_56_0 p7) rfl ?_
        obtain ⟨v74, hl75, hs76⟩ := LiesV.sl ((h7).at_.fld fl_Commit_0)
        refine ol_v (e_ld ty_23 hl75 rfl) rfl ?_
        obtain ⟨A77, c78, e79, hc80, R81⟩ := id hs76
        refine ol_v (e_len (SlT.sl sl_23) e79) rfl ?_
        refine ol_v (e_mv _ rfl) rfl ?_
        obtain rfl := Option.some.inj hr
        exact ol_nil ⟨F, hW, g1, g3, p1, h1, p3, h3, h5, h26, h27, h28, hs76, rfl, rfl⟩
      refine Ref.block ?_
      refine Ref.loop ?_
      refine Ref.seq (B := G11 w0 F0) ?_ ?_
      · refine Ref.region (fun s ρ w s' h hr => ?_)
        obtain ⟨F, hW, g1, g3, p1, h1, p3, h3, h5, h26, h27, h28, h33, h34, h35⟩ := h
        refine ol_v (e_lss h35 h34) rfl ?_
        obtain rfl := Option.some.inj hr
        exact ol_nil ⟨F, hW, g1, g3, p1, h1, p3, h3, h5, h26, h27, h28, h33, h34, h35, rfl⟩
      refine Ref.seq (B := G10 w0 F0) ?_ ?_
      · refine Ref.cond (b := fun s => s.t_36) (fun s ρ w ⟨F, hW, g1, g3, p1, h1, p3, h3, h5, h26, h27, h28, h33, h34, h35, h36⟩ => h36) (Ref.pre (A := G10 w0 F0) ?_ (fun s ρ w h => (fun ⟨F, hW, g1, g3, p1, h1, p3, h3, h5, h26, h27, h28, h33, h34, h35, h36⟩ => ⟨F, hW, g1, g3, p1, h1, p3, h3, h5, h26, h27, h28, h33, h34, h35⟩ : G11 w0 F0 s ρ w → G10 w0 F0 s ρ w) h.2)) (Ref.pre (A := G7 w0 F0) ?_ (fun s ρ w h => (fun ⟨F, hW, g1, g3, p1, h1, p3, h3, h5, h26, h27, h28, h33, h34, h35, h36⟩ => ⟨F, hW, g1, g3, p1, h1, p3, h3, h5, h26, h27, h28⟩ : G11 w0 F0 s ρ w → G7 w0 F0 s ρ w) h.2))
        · exact Ref.skip
        · exact Ref.exit (fun s ρ w h => h)
      refine Ref.seq (B := G10 w0 F0) ?_ ?_
      · refine Ref.block ?_
        refine Ref.seq (B := G12 w0 F0) ?_ ?_
        · refine Ref.region (fun s ρ w s' h hr => ?_)
          obtain ⟨F, hW, g1, g3, p1, h1, p3, h3, h5, h26, h27, h28, h33, h34, h35⟩ := h
          obtain ⟨x82, hx82, hr⟩ := bind_some' hr
          obtain ⟨A83, c84, e85, hc86, R87⟩ := id h33
          obtain ⟨b88, o89, hA90, L91⟩ := Row.at_ R87 hx82
          refine ol_v (e_ix (SlT.sl sl_23) (SlT.sz sl_23) hA90 hx82 e85 h35) rfl ?_
          refine ol_v (e_ld ty_3 (LiesV.int L91.at_) rfl) rfl ?_
          refine ol_v (e_as _ rfl) rfl ?_
          obtain rfl := Option.some.inj hr
          exact ol_nil ⟨F, hW, g1, g3, p1, h1, p3, h3, h5, rfl, h26, h27, h28, h33, h34, h35⟩
        refine Ref.region (fun s ρ w s' h hr => ?_)
        obtain ⟨F, hW, g1, g3, p1, h1, p3, h3, h5, h9, h26, h27, h28, h33, h34, h35⟩ := h
        refine ol_v (e_mv _ rfl) rfl ?_
        refine ol_v (e_mv _ h9) rfl ?_
        obtain ⟨x92, hx92, hr⟩ := bind_some' hr
        obtain ⟨g93, o94, c95, hv96, L97⟩ := OwnV.at_ h5 hx92
        refine ol_v (e_ixO sl_23 hv96 hx92 rfl rfl) rfl ?_
        refine ol_v (e_ld ty_3 (LiesV.int L97) rfl) rfl ?_
        refine ol_v (e_add rfl rfl) rfl ?_
        obtain ⟨x98, hx98, hr⟩ := bind_some' hr
        obtain ⟨g99, o100, c101, hv102, L103⟩ := OwnV.at_ h5 hx98
        refine ol_v (e_ixO sl_23 hv102 hx98 rfl rfl) rfl ?_
        refine ol_eN (f_stO hW h5 hx98 (FldS.whole _) ty_3 (val_int _ _) hv102 rfl rfl) rfl ?_
        rintro - w104 ⟨hW105, ho106, hg1, st1⟩
        obtain rfl := Option.some.inj hr
        exact ol_nil ⟨F, hW105, g1, g3, p1, (h1.mut (apart_bo h1 h5 rfl).symm hg1 st1), p3, (h3.mut (apart_bo h3 h5 rfl).symm hg1 st1), ho106, (h26.keep st1), h27, h28, (h33.keep st1), h34, h35⟩
      refine Ref.region (fun s ρ w s' h hr => ?_)
      obtain ⟨F, hW, g1, g3, p1, h1, p3, h3, h5, h26, h27, h28, h33, h34, h35⟩ := h
      refine ol_v (e_add h35 rfl) rfl ?_
      refine ol_v (e_mv _ rfl) rfl ?_
      obtain rfl := Option.some.inj hr
      exact ol_nil ⟨F, hW, g1, g3, p1, h1, p3, h3, h5, h26, h27, h28, h33, h34, rfl⟩
    refine Ref.region (fun s ρ w s' h hr => ?_)
    obtain ⟨F, hW, g1, g3, p1, h1, p3, h3, h5, h26, h27, h28⟩ := h
    refine ol_v (e_add h28 rfl) rfl ?_
    refine ol_v (e_mv _ rfl) rfl ?_
    obtain rfl := Option.some.inj hr
    exact ol_nil ⟨F, hW, g1, g3, p1, h1, p3, h3, h5, h26, h27, rfl⟩
  refine Ref.seq (B := G13 w0 F0) ?_ ?_
  · refine Ref.region (fun s ρ w s' h hr => ?_)
    obtain ⟨F, hW, g1, g3, p1, h1, p3, h3, h5⟩ := h
    refine ol_v (e_as _ rfl) rfl ?_
    refine ol_v (e_as _ rfl) rfl ?_
    obtain rfl := Option.some.inj hr
    exact ol_nil ⟨F, hW, g1, g3, p1, h1, p3, h3, h5, (OwnV.nil (kInt .i64) 3 (Bs w0 nrow) F w), (OwnV.nil (kInt .i64) 3 (Bs w0 nrow) F w), (Apart.none _).symm, (Apart.none _).symm, (Apart.none _).symm⟩
  refine Ref.seq (B := G13 w0 F0) ?_ ?_
  · refine Ref.seq (B := G14 w0 F0) ?_ ?_
    · refine Ref.region (fun s ρ w s' h hr => ?_)
      obtain ⟨F, hW, g1, g3, p1, h1, p3, h3, h5, h10, h11, a5o_10o, a5o_11o, a10o_11o⟩ := h
      refine ol_v (e_mv _ rfl) rfl ?_
      obtain ⟨A107, c108, e109, hc110⟩ := h5.shape
      refine ol_v (e_len (SlT.sl sl_23) e109) rfl ?_
      refine ol_v (e_mv _ rfl) rfl ?_
      obtain rfl := Option.some.inj hr
      exact ol_nil ⟨F, hW, g1, g3, p1, h1, p3, h3, h5, h10, h11, rfl, rfl, rfl, a5o_10o, a5o_11o, a10o_11o⟩
    refine Ref.block ?_
    refine Ref.loop ?_
    refine Ref.seq (B := G15 w0 F0) ?_ ?_
    · refine Ref.region (fun s ρ w s' h hr => ?_)
      obtain ⟨F, hW, g1, g3, p1, h1, p3, h3, h5, h10, h11, h47, h48, h49, a5o_10o, a5o_11o, a10o_11o⟩ := h
      refine ol_v (e_lss h49 h48) rfl ?_
      obtain rfl := Option.some.inj hr
      exact ol_nil ⟨F, hW, g1, g3, p1, h1, p3, h3, h5, h10, h11, h47, h48, h49, rfl, a5o_10o, a5o_11o, a10o_11o⟩
    refine Ref.seq (B := G14 w0 F0) ?_ ?_
    · refine Ref.cond (b := fun s => s.t_50) (fun s ρ w ⟨F, hW, g1, g3, p1, h1, p3, h3, h5, h10, h11, h47, h48, h49, h50, a5o_10o, a5o_11o, a10o_11o⟩ => h50) (Ref.pre (A := G14 w0 F0) ?_ (fun s ρ w h => (fun ⟨F, hW, g1, g3, p1, h1, p3, h3, h5, h10, h11, h47, h48, h49, h50, a5o_10o, a5o_11o, a10o_11o⟩ => ⟨F, hW, g1, g3, p1, h1, p3, h3, h5, h10, h11, h47, h48, h49, a5o_10o, a5o_11o, a10o_11o⟩ : G15 w0 F0 s ρ w → G14 w0 F0 s ρ w) h.2)) (Ref.pre (A := G13 w0 F0) ?_ (fun s ρ w h => (fun ⟨F, hW, g1, g3, p1, h1, p3, h3, h5, h10, h11, h47, h48, h49, h50, a5o_10o, a5o_11o, a10o_11o⟩ => ⟨F, hW, g1, g3, p1, h1, p3, h3, h5, h10, h11, a5o_10o, a5o_11o, a10o_11o⟩ : G15 w0 F0 s ρ w → G13 w0 F0 s ρ w) h.2))
      · exact Ref.skip
      · exact Ref.exit (fun s ρ w h => h)
    refine Ref.seq (B := G14 w0 F0) ?_ ?_
    · refine Ref.block ?_
      refine Ref.seq (B := G16 w0 F0) ?_ ?_
      · refine Ref.region (fun s ρ w s' h hr => ?_)
        obtain ⟨F, hW, g1, g3, p1, h1, p3, h3, h5, h10, h11, h47, h48, h49, a5o_10o, a5o_11o, a10o_11o⟩ := h
        refine ol_v (e_mv _ h49) rfl ?_
        obtain ⟨x111, hx111, hr⟩ := bind_some' hr
        obtain ⟨g112, o113, c114, hv115, L116⟩ := OwnV.at_ h5 hx111
        refine ol_v (e_ixO sl_23 hv115 hx111 h47 h49) rfl ?_
        refine ol_v (e_ld ty_3 (LiesV.int L116) rfl) rfl ?_
        refine ol_v (e_as _ rfl) rfl ?_
        refine ol_v (e_as _ rfl) rfl ?_
        obtain rfl := Option.some.inj hr
        exact ol_nil ⟨F, hW, g1, g3, p1, h1, p3, h3, h5, h10, h11, rfl, rfl, h47, h48, h49, a5o_10o, a5o_11o, a10o_11o⟩
      refine Ref.seq (B := G17 w0 F0) ?_ ?_
      · refine Ref.region (fun s ρ w s' h hr => ?_)
        obtain ⟨F, hW, g1, g3, p1, h1, p3, h3, h5, h10, h11, h12, h13, h47, h48, h49, a5o_10o, a5o_11o, a10o_11o⟩ := h
        refine ol_v (e_mv _ h13) rfl ?_
        refine ol_v (e_eql rfl rfl) rfl ?_
        obtain rfl := Option.some.inj hr
        exact ol_nil ⟨F, hW, g1, g3, p1, h1, p3, h3, h5, h10, h11, h12, h47, h48, h49, rfl, a5o_10o, a5o_11o, a10o_11o⟩
      refine Ref.cond (b := fun s => s.t_55) (fun s ρ w ⟨F, hW, g1, g3, p1, h1, p3, h3, h5, h10, h11, h12, h47, h48, h49, h55, a5o_10o, a5o_11o, a10o_11o⟩ => h55) (Ref.pre (A := G18 w0 F0) ?_ (fun s ρ w h => (fun ⟨F, hW, g1, g3, p1, h1, p3, h3, h5, h10, h11, h12, h47, h48, h49, h55, a5o_10o, a5o_11o, a10o_11o⟩ => ⟨F, hW, g1, g3, p1, h1, p3, h3, h5, h10, h11, h12, h47, h48, h49, a5o_10o, a5o_11o, a10o_11o⟩ : G17 w0 F0 s ρ w → G18 w0 F0 s ρ w) h.2)) (Ref.pre (A := G14 w0 F0) ?_ (fun s ρ w h => (fun ⟨F, hW, g1, g3, p1, h1, p3, h3, h5, h10, h11, h12, h47, h48, h49, h55, a5o_10o, a5o_11o, a10o_11o⟩ => ⟨F, hW, g1, g3, p1, h1, p3, h3, h5, h10, h11, h47, h48, h49, a5o_10o, a5o_11o, a10o_11o⟩ : G17 w0 F0 s ρ w → G14 w0 F0 s ρ w) h.2))
      · refine Ref.region (fun s ρ w s' h hr => ?_)
        obtain ⟨F, hW, g1, g3, p1, h1, p3, h3, h5, h10, h11, h12, h47, h48, h49, a5o_10o, a5o_11o, a10o_11o⟩ := h
        refine ol_v (e_mv _ rfl) rfl ?_
        refine ol_v (e_mv _ h12) rfl ?_
        refine ol_e (f_bslF sl_23 hW ([s.t_12] : List Int) [.int .i64 s.t_12] (by exact ⟨_, _, rfl, (val_int _ _), rfl⟩) rfl (Nat.le_of_ble_eq_true rfl) (lcons (congrArg (Prod.mk 0) rfl) rfl)) rfl rfl ?_
        rintro v117 w118 ⟨Fz120, kw1, ho119⟩
        have hW121 := hW.trans kw1
        have st1 := kw1.stp hW.ok
        obtain ⟨x122, hx122, hr⟩ := bind_some' hr
        refine ol_e (f_app sl_23 hW121 (h10.wk kw1 hW.ok) ho119 hx122 rfl rfl) rfl rfl ?_
        rintro v123 w124 ⟨hW125, ho126, hg2, st2, hor127⟩
        refine ol_v (e_as _ rfl) rfl ?_
        obtain rfl := Option.some.inj hr
        exact ol_nil ⟨Fz120, hW125, g1, g3, p1, ((h1.wk kw1 hW.ok).mut (apart_bo (h1.wk kw1 hW.ok) (h10.wk kw1 hW.ok) rfl).symm hg2 st2), p3, ((h3.wk kw1 hW.ok).mut (apart_bo (h3.wk kw1 hW.ok) (h10.wk kw1 hW.ok) rfl).symm hg2 st2), ((h5.wk kw1 hW.ok).mut a5o_10o.symm hg2 st2), ho126, ((h11.wk kw1 hW.ok).mut a10o_11o hg2 st2), h47, h48, h49, (Apart.grown a5o_10o.symm (h5.wk kw1 hW.ok).ltw hor127).symm, a5o_11o, (Apart.grown a10o_11o (h11.wk kw1 hW.ok).ltw hor127)⟩
      · exact Ref.skip
    refine Ref.region (fun s ρ w s' h hr => ?_)
    obtain ⟨F, hW, g1, g3, p1, h1, p3, h3, h5, h10, h11, h47, h48, h49, a5o_10o, a5o_11o, a10o_11o⟩ := h
    refine ol_v (e_add h49 rfl) rfl ?_
    refine ol_v (e_mv _ rfl) rfl ?_
    obtain rfl := Option.some.inj hr
    exact ol_nil ⟨F, hW, g1, g3, p1, h1, p3, h3, h5, h10, h11, h47, h48, rfl, a5o_10o, a5o_11o, a10o_11o⟩
  refine Ref.seq (B := G20 w0 F0) ?_ ?_
  · refine Ref.block ?_
    refine Ref.loop ?_
    refine Ref.seq (B := G13 w0 F0) ?_ ?_
    · refine Ref.seq (B := G19 w0 F0) ?_ ?_
      · refine Ref.region (fun s ρ w s' h hr => ?_)
        obtain ⟨F, hW, g1, g3, p1, h1, p3, h3, h5, h10, h11, a5o_10o, a5o_11o, a10o_11o⟩ := h
        refine ol_v (e_mv _ rfl) rfl ?_
        obtain ⟨A128, c129, e130, hc131⟩ := h10.shape
        refine ol_v (e_len (SlT.sl sl_23) e130) rfl ?_
        refine ol_v (e_gtr rfl rfl) rfl ?_
        obtain rfl := Option.some.inj hr
        exact ol_nil ⟨F, hW, g1, g3, p1, h1, p3, h3, h5, h10, h11, rfl, a5o_10o, a5o_11o, a10o_11o⟩
      refine Ref.cond (b := fun s => s.t_63) (fun s ρ w ⟨F, hW, g1, g3, p1, h1, p3, h3, h5, h10, h11, h63, a5o_10o, a5o_11o, a10o_11o⟩ => h63) (Ref.pre (A := G13 w0 F0) ?_ (fun s ρ w h => (fun ⟨F, hW, g1, g3, p1, h1, p3, h3, h5, h10, h11, h63, a5o_10o, a5o_11o, a10o_11o⟩ => ⟨F, hW, g1, g3, p1, h1, p3, h3, h5, h10, h11, a5o_10o, a5o_11o, a10o_11o⟩ : G19 w0 F0 s ρ w → G13 w0 F0 s ρ w) h.2)) (Ref.pre (A := G20 w0 F0) ?_ (fun s ρ w h => (fun ⟨F, hW, g1, g3, p1, h1, p3, h3, h5, h10, h11, h63, a5o_10o, a5o_11o, a10o_11o⟩ => ⟨F, hW, g3, p3, h3, h11⟩ : G19 w0 F0 s ρ w → G20 w0 F0 s ρ w) h.2))
      · exact Ref.skip
      · exact Ref.exit (fun s ρ w h => h)
    refine Ref.block ?_
    refine Ref.seq (B := G21 w0 F0) ?_ ?_
    · refine Ref.region (fun s ρ w s' h hr => ?_)
      obtain ⟨F, hW, g1, g3, p1, h1, p3, h3, h5, h10, h11, a5o_10o, a5o_11o, a10o_11o⟩ := h
      refine ol_v (e_mv _ rfl) rfl ?_
      refine ol_v (e_mkf (xs := []) (us := []) rfl (lcons p1 rfl)) rfl ?_
      obtain ⟨Fl132, okl132, stl132, hFl132, hl132⟩ := OwnV.lent h10 hW.ok
      obtain ⟨Fl133, okl133, stl133, hFl133, hl133⟩ := Box.lent (h1.frz (apart_bo h1 h10 rfl).symm hFl132 stl132) okl132
      obtain ⟨x134, hx134, hr⟩ := bind_some' hr
      refine ol_e (f_call [(ρ 10), .func (.func 52) #[] #[.pointer (some ⟨g1, 0, none⟩)]] fn_51 (lcons rfl (lcons rfl rfl)) (slices_MaxFunc_int_int.calls okl133 (hl132.keep stl133) (val_fn (history_Order_1.fnv hl133)) hx134)) rfl rfl ?_
      rintro _ w135 ⟨Fz136, rfl, kw1⟩
      have ko138 := kw1
      have kw1 := kw1.lend hW.ok
      have hW139 := hW.trans kw1
      have st1 := kw1.stp hW.ok
      refine ol_e (f_alloc zer_3 hW139) rfl rfl ?_
      rintro _ w141 ⟨g140, rfl, kw2, ho142⟩
      have hW143 := hW139.trans kw2
      have st2 := kw2.stp hW139.ok
      refine ol_eN (f_stB hW143 (ho142.base (row := nrow) hW139.le) (FldS.whole _) ty_3 (val_int _ _) rfl rfl) rfl ?_
      rintro - w144 ⟨hW145, ho146, hg3, st3⟩
      obtain rfl := Option.some.inj hr
      exact ol_nil ⟨F, hW145, g1, g3, g140, p1, (((h1.wk kw1 hW.ok).wk kw2 hW139.ok).mut (apart_bb (ho142.base (row := nrow) hW139.le) ((h1.wk kw1 hW.ok).wk kw2 hW139.ok) rfl) hg3 st3), p3, (((h3.wk kw1 hW.ok).wk kw2 hW139.ok).mut (apart_bb (ho142.base (row := nrow) hW139.le) ((h3.wk kw1 hW.ok).wk kw2 hW139.ok) rfl) hg3 st3), (((h5.wk kw1 hW.ok).wk kw2 hW139.ok).mut (Apart.base (fun _ e_ => by cases e_; exact ho142.ge) (h5.wk kw1 hW.ok).ltw) hg3 st3), (((h10.wk kw1 hW.ok).wk kw2 hW139.ok).mut (Apart.base (fun _ e_ => by cases e_; exact ho142.ge) (h10.wk kw1 hW.ok).ltw) hg3 st3), (((h11.wk kw1 hW.ok).wk kw2 hW139.ok).mut (Apart.base (fun _ e_ => by cases e_; exact ho142.ge) (h11.wk kw1 hW.ok).ltw) hg3 st3), rfl, ho146, a5o_10o, a5o_11o, (Apart.base (fun _ e_ => by cases e_; exact ho142.ge) (h5.wk kw1 hW.ok).ltw).symm, a10o_11o, (Apart.base (fun _ e_ => by cases e_; exact ho142.ge) (h10.wk kw1 hW.ok).ltw).symm, (Apart.base (fun _ e_ => by cases e_; exact ho142.ge) (h11.wk kw1 hW.ok).ltw).symm⟩
    refine Ref.seq (B := G21 w0 F0) ?_ ?_
    · refine Ref.region (fun s ρ w s' h hr => ?_)
      obtain ⟨F, hW, g1, g3, g14, p1, h1, p3, h3, h5, h10, h11, p14, h14, a5o_10o, a5o_11o, a5o_14b, a10o_11o, a10o_14b, a11o_14b⟩ := h
      refine ol_v (e_mv _ rfl) rfl ?_
      refine ol_v (e_mkf (xs := []) (us := []) rfl (lcons p14 rfl)) rfl ?_
      obtain ⟨Fl147, okl147, stl147, hFl147, hl147⟩ := Box.lent h14 hW.ok
      obtain ⟨x148, hx148, hr⟩ := bind_some' hr
      refine ol_e (f_call [(ρ 10), .func (.func 54) #[] #[.pointer (some ⟨g14, 0, none⟩)]] fn_53 (lcons rfl (lcons rfl rfl)) (slices_DeleteFunc_int_int.calls okl147 (OwnV.rebase (h10.frz a10o_14b.symm hFl147 stl147) (fun _ _ => trivial)) (val_fn (history_Order_2.fnv hl147)) hx148)) rfl rfl ?_
      rintro v151 w149 ⟨Fz150, _, rfl, kw1, hk152⟩
      have ko154 := kw1
      have kw1 := kw1.lend hW.ok
      have hB156 := fun g hg => (OwnV.lt h10 (g := g) hg).1
      have st1 := kw1.stpR hW.ok (fun g hg => (OwnV.lt h10 hg).2.1)
      have hW155 := hW.transR kw1 hB156
      refine ol_v (e_as _ rfl) rfl ?_
      obtain rfl := Option.some.inj hr
      exact ol_nil ⟨F, hW155, g1, g3, g14, p1, (h1.wkR (apart_bo h1 h10 rfl).symm kw1 st1), p3, (h3.wkR (apart_bo h3 h10 rfl).symm kw1 st1), (h5.wkR a5o_10o.symm kw1 st1), ((OwnV.plainB (plain_int _) hk152 (fun b_ hb_ => ko154.mono b_ (stl147.mono _ hb_))).rebase (fun g_ hg_ => ((OwnV.plainB (plain_int _) hk152 (fun b_ hb_ => ko154.mono b_ (stl147.mono _ hb_))).lt hg_).1.elim (fun h_ => .inl (Nat.le_trans hW.le h_)) (fun h_ => hB156 g_ h_))), (h11.wkR a10o_11o kw1 st1), p14, (h14.wkR a10o_14b kw1 st1), (Apart.took (fun g_ hg_ => ((OwnV.plainB (plain_int _) hk152 (fun b_ hb_ => ko154.mono b_ (stl147.mono _ hb_))).lt hg_).1) a5o_10o.symm h5.ltw).symm, a5o_11o, a5o_14b, (Apart.took (fun g_ hg_ => ((OwnV.plainB (plain_int _) hk152 (fun b_ hb_ => ko154.mono b_ (stl147.mono _ hb_))).lt hg_).1) a10o_11o h11.ltw), (Apart.took (fun g_ hg_ => ((OwnV.plainB (plain_int _) hk152 (fun b_ hb_ => ko154.mono b_ (stl147.mono _ hb_))).lt hg_).1) a10o_14b h14.ltw), a11o_14b⟩
    refine Ref.seq (B := G21 w0 F0) ?_ ?_
    · refine Ref.region (fun s ρ w s' h hr => ?_)
      obtain ⟨F, hW, g1, g3, g14, p1, h1, p3, h3, h5, h10, h11, p14, h14, a5o_10o, a5o_11o, a5o_14b, a10o_11o, a10o_14b, a11o_14b⟩ := h
      refine ol_v (e_mv _ rfl) rfl ?_
      refine ol_v (e_ld ty_3 (LiesV.int (h14).at_) p14) rfl ?_
      refine ol_e (f_bslF sl_23 hW ([s.t_14] : List Int) [.int .i64 s.t_14] (by exact ⟨_, _, rfl, (val_int _ _), rfl⟩) rfl (Nat.le_of_ble_eq_true rfl) (lcons (congrArg (Prod.mk 0) rfl) rfl)) rfl rfl ?_
      rintro v157 w158 ⟨Fz160, kw1, ho159⟩
      have hW161 := hW.trans kw1
      have st1 := kw1.stp hW.ok
      obtain ⟨x162, hx162, hr⟩ := bind_some' hr
      refine ol_e (f_app sl_23 hW161 (h11.wk kw1 hW.ok) ho159 hx162 rfl rfl) rfl rfl ?_
      rintro v163 w164 ⟨hW165, ho166, hg2, st2, hor167⟩
      refine ol_v (e_as _ rfl) rfl ?_
      obtain rfl := Option.some.inj hr
      exact ol_nil ⟨Fz160, hW165, g1, g3, g14, p1, ((h1.wk kw1 hW.ok).mut (apart_bo (h1.wk kw1 hW.ok) (h11.wk kw1 hW.ok) rfl).symm hg2 st2), p3, ((h3.wk kw1 hW.ok).mut (apart_bo (h3.wk kw1 hW.ok) (h11.wk kw1 hW.ok) rfl).symm hg2 st2), ((h5.wk kw1 hW.ok).mut a5o_11o.symm hg2 st2), ((h10.wk kw1 hW.ok).mut a10o_11o.symm hg2 st2), ho166, p14, ((h14.wk kw1 hW.ok).mut a11o_14b hg2 st2), a5o_10o, (Apart.grown a5o_11o.symm (h5.wk kw1 hW.ok).ltw hor167).symm, a5o_14b, (Apart.grown a10o_11o.symm (h10.wk kw1 hW.ok).ltw hor167).symm, a10o_14b, (Apart.grown a11o_14b (h14.wk kw1 hW.ok).ltw hor167)⟩
    refine Ref.seq (B := G22 w0 F0) ?_ ?_
    · refine Ref.region (fun s ρ w s' h hr => ?_)
      obtain ⟨F, hW, g1, g3, g14, p1, h1, p3, h3, h5, h10, h11, p14, h14, a5o_10o, a5o_11o, a5o_14b, a10o_11o, a10o_14b, a11o_14b⟩ := h
      obtain ⟨v168, hl169, hs170⟩ := LiesV.sl (h1).at_
      refine ol_v (e_ld ty_22 hl169 p1) rfl ?_
      refine ol_v (e_ld ty_3 (LiesV.int (h14).at_) p14) rfl ?_
      obtain ⟨x171, hx171, hr⟩ := bind_some' hr
      obtain ⟨A172, c173, e174, hc175, R176⟩ := id hs170
      obtain ⟨b177, o178, hA179, L180⟩ := Row.at_ R176 hx171
      refine ol_v (e_ix (SlT.sl sl_22) (SlT.sz sl_22) hA179 hx171 e174 rfl) rfl ?_
      refine ol_v (e_fa fa_56_0 rfl) rfl ?_
      obtain ⟨v181, hl182, hs183⟩ := LiesV.sl (L180.fld fl_Commit_0).at_
      refine ol_v (e_ld ty_23 hl182 rfl) rfl ?_
      obtain ⟨A184, c185, e186, hc187, R188⟩ := id hs183
      refine ol_v (e_len (SlT.sl sl_23) e186) rfl ?_
      refine ol_v (e_mv _ rfl) rfl ?_
      obtain rfl := Option.some.inj hr
      exact ol_nil ⟨F, hW, g1, g3, p1, h1, p3, h3, h5, h10, h11, hs183, rfl, rfl, a5o_10o, a5o_11o, a10o_11o⟩
    refine Ref.block ?_
    refine Ref.loop ?_
    refine Ref.seq (B := G23 w0 F0) ?_ ?_
    · refine Ref.region (fun s ρ w s' h hr => ?_)
      obtain ⟨F, hW, g1, g3, p1, h1, p3, h3, h5, h10, h11, h78, h79, h80, a5o_10o, a5o_11o, a10o_11o⟩ := h
      refine ol_v (e_lss h80 h79) rfl ?_
      obtain rfl := Option.some.inj hr
      exact ol_nil ⟨F, hW, g1, g3, p1, h1, p3, h3, h5, h10, h11, h78, h79, h80, rfl, a5o_10o, a5o_11o, a10o_11o⟩
    refine Ref.seq (B := G22 w0 F0) ?_ ?_
    · refine Ref.cond (b := fun s => s.t_81) (fun s ρ w ⟨F, hW, g1, g3, p1, h1, p3, h3, h5, h10, h11, h78, h79, h80, h81, a5o_10o, a5o_11o, a10o_11o⟩ => h81) (Ref.pre (A := G22 w0 F0) ?_ (fun s ρ w h => (fun ⟨F, hW, g1, g3, p1, h1, p3, h3, h5, h10, h11, h78, h79, h80, h81, a5o_10o, a5o_11o, a10o_11o⟩ => ⟨F, hW, g1, g3, p1, h1, p3, h3, h5, h10, h11, h78, h79, h80, a5o_10o, a5o_11o, a10o_11o⟩ : G23 w0 F0 s ρ w → G22 w0 F0 s ρ w) h.2)) (Ref.pre (A := G13 w0 F0) ?_ (fun s ρ w h => (fun ⟨F, hW, g1, g3, p1, h1, p3, h3, h5, h10, h11, h78, h79, h80, h81, a5o_10o, a5o_11o, a10o_11o⟩ => ⟨F, hW, g1, g3, p1, h1, p3, h3, h5, h10, h11, a5o_10o, a5o_11o, a10o_11o⟩ : G23 w0 F0 s ρ w → G13 w0 F0 s ρ w) h.2))
      · exact Ref.skip
      · exact Ref.exit (fun s ρ w h => h)
    refine Ref.seq (B := G22 w0 F0) ?_ ?_
    · refine Ref.block ?_
      refine Ref.seq (B := G24 w0 F0) ?_ ?_
      · refine Ref.region (fun s ρ w s' h hr => ?_)
        obtain ⟨F, hW, g1, g3, p1, h1, p3, h3, h5, h10, h11, h78, h79, h80, a5o_10o, a5o_11o, a10o_11o⟩ := h
        obtain ⟨x189, hx189, hr⟩ := bind_some' hr
        obtain ⟨A190, c191, e192, hc193, R194⟩ := id h78
        obtain ⟨b195, o196, hA197, L198⟩ := Row.at_ R194 hx189
        refine ol_v (e_ix (SlT.sl sl_23) (SlT.sz sl_23) hA197 hx189 e192 h80) rfl ?_
        refine ol_v (e_ld ty_3 (LiesV.int L198.at_) rfl) rfl ?_
        refine ol_v (e_as _ rfl) rfl ?_
        obtain rfl := Option.some.inj hr
        exact ol_nil ⟨F, hW, g1, g3, p1, h1, p3, h3, h5, h10, h11, rfl, h78, h79, h80, a5o_10o, a5o_11o, a10o_11o⟩
      refine Ref.seq (B := G24 w0 F0) ?_ ?_
      · refine Ref.region (fun s ρ w s' h hr => ?_)
        obtain ⟨F, hW, g1, g3, p1, h1, p3, h3, h5, h10, h11, h16, h78, h79, h80, a5o_10o, a5o_11o, a10o_11o⟩ := h
        refine ol_v (e_mv _ rfl) rfl ?_
        refine ol_v (e_mv _ h16) rfl ?_
        obtain ⟨x199, hx199, hr⟩ := bind_some' hr
        obtain ⟨g200, o201, c202, hv203, L204⟩ := OwnV.at_ h5 hx199
        refine ol_v (e_ixO sl_23 hv203 hx199 rfl rfl) rfl ?_
        refine ol_v (e_ld ty_3 (LiesV.int L204) rfl) rfl ?_
        refine ol_v (e_sub rfl rfl) rfl ?_
        obtain ⟨x205, hx205, hr⟩ := bind_some' hr
        obtain ⟨g206, o207, c208, hv209, L210⟩ := OwnV.at_ h5 hx205
        refine ol_v (e_ixO sl_23 hv209 hx205 rfl rfl) rfl ?_
        refine ol_eN (f_stO hW h5 hx205 (FldS.whole _) ty_3 (val_int _ _) hv209 rfl rfl) rfl ?_
        rintro - w211 ⟨hW212, ho213, hg1, st1⟩
        obtain rfl := Option.some.inj hr
        exact ol_nil ⟨F, hW212, g1, g3, p1, (h1.mut (apart_bo h1 h5 rfl).symm hg1 st1), p3, (h3.mut (apart_bo h3 h5 rfl).symm hg1 st1), ho213, (h10.mut a5o_10o hg1 st1), (h11.mut a5o_11o hg1 st1), h16, (h78.keep st1), h79, h80, a5o_10o, a5o_11o, a10o_11o⟩
      refine Ref.seq (B := G25 w0 F0) ?_ ?_
      · refine Ref.region (fun s ρ w s' h hr => ?_)
        obtain ⟨F, hW, g1, g3, p1, h1, p3, h3, h5, h10, h11, h16, h78, h79, h80, a5o_10o, a5o_11o, a10o_11o⟩ := h
        refine ol_v (e_mv _ rfl) rfl ?_
        refine ol_v (e_mv _ h16) rfl ?_
        obtain ⟨x214, hx214, hr⟩ := bind_some' hr
        obtain ⟨g215, o216, c217, hv218, L219⟩ := OwnV.at_ h5 hx214
        refine ol_v (e_ixO sl_23 hv218 hx214 rfl rfl) rfl ?_
        refine ol_v (e_ld ty_3 (LiesV.int L219) rfl) rfl ?_
        refine ol_v (e_eql rfl rfl) rfl ?_
        obtain rfl := Option.some.inj hr
        exact ol_nil ⟨F, hW, g1, g3, p1, h1, p3, h3, h5, h10, h11, h16, h78, h79, h80, rfl, a5o_10o, a5o_11o, a10o_11o⟩
      refine Ref.cond (b := fun s => s.t_94) (fun s ρ w ⟨F, hW, g1, g3, p1, h1, p3, h3, h5, h10, h11, h16, h78, h79, h80, h94, a5o_10o, a5o_11o, a10o_11o⟩ => h94) (Ref.pre (A := G24 w0 F0) ?_ (fun s ρ w h => (fun ⟨F, hW, g1, g3, p1, h1, p3, h3, h5, h10, h11, h16, h78, h79, h80, h94, a5o_10o, a5o_11o, a10o_11o⟩ => ⟨F, hW, g1, g3, p1, h1, p3, h3, h5, h10, h11, h16, h78, h79, h80, a5o_10o, a5o_11o, a10o_11o⟩ : G25 w0 F0 s ρ w → G24 w0 F0 s ρ w) h.2)) (Ref.pre (A := G22 w0 F0) ?_ (fun s ρ w h => (fun ⟨F, hW, g1, g3, p1, h1, p3, h3, h5, h10, h11, h16, h78, h79, h80, h94, a5o_10o, a5o_11o, a10o_11o⟩ => ⟨F, hW, g1, g3, p1, h1, p3, h3, h5, h10, h11, h78, h79, h80, a5o_10o, a5o_11o, a10o_11o⟩ : G25 w0 F0 s ρ w → G22 w0 F0 s ρ w) h.2))
      · refine Ref.region (fun s ρ w s' h hr => ?_)
        obtain ⟨F, hW, g1, g3, p1, h1, p3, h3, h5, h10, h11, h16, h78, h79, h80, a5o_10o, a5o_11o, a10o_11o⟩ := h
        refine ol_v (e_mv _ rfl) rfl ?_
        refine ol_v (e_mv _ h16) rfl ?_
        refine ol_e (f_bslF sl_23 hW ([s.t_16] : List Int) [.int .i64 s.t_16] (by exact ⟨_, _, rfl, (val_int _ _), rfl⟩) rfl (Nat.le_of_ble_eq_true rfl) (lcons (congrArg (Prod.mk 0) rfl) rfl)) rfl rfl ?_
        rintro v220 w221 ⟨Fz223, kw1, ho222⟩
        have hW224 := hW.trans kw1
        have st1 := kw1.stp hW.ok
        obtain ⟨x225, hx225, hr⟩ := bind_some' hr
        refine ol_e (f_app sl_23 hW224 (h10.wk kw1 hW.ok) ho222 hx225 rfl rfl) rfl rfl ?_
        rintro v226 w227 ⟨hW228, ho229, hg2, st2, hor230⟩
        refine ol_v (e_as _ rfl) rfl ?_
        obtain rfl := Option.some.inj hr
        exact ol_nil ⟨Fz223, hW228, g1, g3, p1, ((h1.wk kw1 hW.ok).mut (apart_bo (h1.wk kw1 hW.ok) (h10.wk kw1 hW.ok) rfl).symm hg2 st2), p3, ((h3.wk kw1 hW.ok).mut (apart_bo (h3.wk kw1 hW.ok) (h10.wk kw1 hW.ok) rfl).symm hg2 st2), ((h5.wk kw1 hW.ok).mut a5o_10o.symm hg2 st2), ho229, ((h11.wk kw1 hW.ok).mut a10o_11o hg2 st2), (h78.keep (st1.trans st2)), h79, h80, (Apart.grown a5o_10o.symm (h5.wk kw1 hW.ok).ltw hor230).symm, a5o_11o, (Apart.grown a10o_11o (h11.wk kw1 hW.ok).ltw hor230)⟩
      · exact Ref.skip
    refine Ref.region (fun s ρ w s' h hr => ?_)
    obtain ⟨F, hW, g1, g3, p1, h1, p3, h3, h5, h10, h11, h78, h79, h80, a5o_10o, a5o_11o, a10o_11o⟩ := h
    refine ol_v (e_add h80 rfl) rfl ?_
    refine ol_v (e_mv _ rfl) rfl ?_
    obtain rfl := Option.some.inj hr
    exact ol_nil ⟨F, hW, g1, g3, p1, h1, p3, h3, h5, h10, h11, h78, h79, rfl, a5o_10o, a5o_11o, a10o_11o⟩
  refine Ref.seq (B := G5 w0 F0) ?_ ?_
  · refine Ref.region (fun s ρ w s' h hr => ?_)
    obtain ⟨F, hW, g3, p3, h3, h11⟩ := h
    refine ol_v (e_mv _ rfl) rfl ?_
    refine ol_v (e_bld (cells := #[.int .i64 0, .int .i64 0]) bld_26 (vs := []) rfl rfl) rfl ?_
    have hb231 : Val k_Fault F w (.agg #[.int .i64 0, .int .i64 0]) (⟨(0 : Int), (0 : Int)⟩ : Fault) := mk_Fault (val_int _ _) (val_int _ _)
    refine ol_v (e_as _ rfl) rfl ?_
    refine ol_eN (f_stB hW h3 (FldS.whole _) ty_26 hb231 p3 rfl) rfl ?_
    rintro - w232 ⟨hW233, ho234, hg1, st1⟩
    obtain rfl := Option.some.inj hr
    exact ol_nil ⟨F, hW233, g3, (h11.mut (apart_bo h3 h11 rfl) hg1 st1), p3, ho234⟩
  exact Ref.ret (fun s ρ w h => ⟨s, rfl, h⟩)
def post (w : World) (F : BSet) (r : R) (v : Value) (w' : World) : Prop := ∃ (F' : BSet) (v0' : Value) (v1' : Value), v = .tuple #[v0', v1'] ∧ Wk nrow w F F' w' ∧ OwnV (kInt .i64) 3 (Nw w) F' w' v0' r.1 ∧ Val k_Fault F' w' v1' r.2
theorem calls {w : World} {F : BSet} (hok : ∀ b, F b → b < w.heap.size) {v0 : Value} {a0 : (List Commit)} (h0 : SlR k_Commit F w v0 a0) {r : R} (hf : f a0 = some r) : Calls Try.prog 43 #[v0] w fun e w' => ∃ v, e = .returned v ∧ post w F r v w' := by
  obtain ⟨c, hc, href⟩ := ref w F
  refine calls_of_ref (args := [v0]) _ Try.func43 hc rfl rfl href ?_ (retOf_some hf) ?_
  · exact ⟨F, Wk.refl hok, h0⟩
  · rintro ρ w' a ⟨s, rfl, F', hW, g3, h2, p3, h3⟩ hF
    obtain ⟨u3, l3, k3⟩ := res_box (P := Try.prog) ty_26 h3
    refine ⟨_, run_results (rs := [.tmp 2, .cell 3 26]) rfl hF (vs := [ρ 2, u3]) (⟨_, rfl, ⟨_, _, _, rfl, p3, l3, rfl⟩⟩), ?_⟩
    exact ⟨F', ρ 2, u3, rfl, hW, h2.rebase (fun g hg => (h2.lt hg).1.resolve_right (fun h => h)), k3⟩
end
end history_Order

namespace negotiate_Run
section
def G0 (w0 : World) (F0 : BSet) (s : S) (ρ : Env) (w : World) : Prop := ∃ (F : BSet), Wk nrow w0 F0 F w ∧ SlR k_Commit F w (ρ 0) s.t_0 ∧ SlR kBool F w (ρ 1) s.t_1 ∧ SlR kBool F w (ρ 2) s.t_2 ∧ SlR (kInt .i64) F w (ρ 3) s.t_3
def G1 (w0 : World) (F0 : BSet) (s : S) (ρ : Env) (w : World) : Prop := ∃ (F : BSet), Wk nrow w0 F0 F w ∧ ∃ (g10 : Nat), SlR k_Commit F w (ρ 0) s.t_0 ∧ SlR kBool F w (ρ 1) s.t_1 ∧ SlR kBool F w (ρ 2) s.t_2 ∧ SlR (kInt .i64) F w (ρ 3) s.t_3 ∧ ρ 10 = .pointer (some ⟨g10, 0, none⟩) ∧ Box k_Fault 26 (Bs w0 nrow) F w g10 s.t_10
def G2 (w0 : World) (F0 : BSet) (s : S) (ρ : Env) (w : World) : Prop := ∃ (F : BSet), Wk nrow w0 F0 F w ∧ ∃ (g10 : Nat) (g11 : Nat), SlR k_Commit F w (ρ 0) s.t_0 ∧ SlR kBool F w (ρ 1) s.t_1 ∧ SlR kBool F w (ρ 2) s.t_2 ∧ SlR (kInt .i64) F w (ρ 3) s.t_3 ∧ ρ 10 = .pointer (some ⟨g10, 0, none⟩) ∧ Box k_Fault 26 (Bs w0 nrow) F w g10 s.t_10 ∧ ρ 11 = .pointer (some ⟨g11, 0, none⟩) ∧ Box k_Fault 26 (Bs w0 nrow) F w g11 s.t_11 ∧ Apart (some g10) (some g11)
def G3 (w0 : World) (F0 : BSet) (s : S) (ρ : Env) (w : World) : Prop := ∃ (F : BSet), Wk nrow w0 F0 F w ∧ ∃ (g10 : Nat) (g11 : Nat), SlR k_Commit F w (ρ 0) s.t_0 ∧ SlR kBool F w (ρ 1) s.t_1 ∧ SlR kBool F w (ρ 2) s.t_2 ∧ SlR (kInt .i64) F w (ρ 3) s.t_3 ∧ ρ 10 = .pointer (some ⟨g10, 0, none⟩) ∧ Box k_Fault 26 (Bs w0 nrow) F w g10 s.t_10 ∧ ρ 11 = .pointer (some ⟨g11, 0, none⟩) ∧ Box k_Fault 26 (Bs w0 nrow) F w g11 s.t_11 ∧ ρ 30 = .bool s.t_30 ∧ Apart (some g10) (some g11)
def G4 (w0 : World) (F0 : BSet) (s : S) (ρ : Env) (w : World) : Prop := ∃ (F : BSet), Wk nrow w0 F0 F w ∧ ∃ (g10 : Nat) (g11 : Nat), ρ 10 = .pointer (some ⟨g10, 0, none⟩) ∧ Box k_Fault 26 (Bs w0 nrow) F w g10 s.t_10 ∧ ρ 11 = .pointer (some ⟨g11, 0, none⟩) ∧ Box k_Fault 26 (Bs w0 nrow) F w g11 s.t_11 ∧ Apart (some g10) (some g11)
def G5 (w0 : World) (F0 : BSet) (s : S) (ρ : Env) (w : World) : Prop := ∃ (F : BSet), Wk nrow w0 F0 F w ∧ ∃ (g10 : Nat), OwnV (kSl (kInt .i64)) 23 (Bs w0 nrow) F w (ρ 8) s.t_8 ∧ OwnV (kInt .i64) 3 (Bs w0 nrow) F w (ρ 9) s.t_9 ∧ ρ 10 = .pointer (some ⟨g10, 0, none⟩) ∧ Box k_Fault 26 (Bs w0 nrow) F w g10 s.t_10
def G6 (w0 : World) (F0 : BSet) (s : S) (ρ : Env) (w : World) : Prop := ∃ (F : BSet), Wk nrow w0 F0 F w ∧ ∃ (g10 : Nat), SlR k_Commit F w (ρ 0) s.t_0 ∧ SlR kBool F w (ρ 1) s.t_1 ∧ SlR kBool F w (ρ 2) s.t_2 ∧ SlR (kInt .i64) F w (ρ 3) s.t_3 ∧ ρ 10 = .pointer (some ⟨g10, 0, none⟩) ∧ Box k_Fault 26 (Bs w0 nrow) F w g10 s.t_10 ∧ SlR (kInt .i64) F w (ρ 12) s.t_12
def G7 (w0 : World) (F0 : BSet) (s : S) (ρ : Env) (w : World) : Prop := ∃ (F : BSet), Wk nrow w0 F0 F w ∧ ∃ (g10 : Nat), SlR k_Commit F w (ρ 0) s.t_0 ∧ SlR kBool F w (ρ 1) s.t_1 ∧ SlR kBool F w (ρ 2) s.t_2 ∧ SlR (kInt .i64) F w (ρ 3) s.t_3 ∧ ρ 10 = .pointer (some ⟨g10, 0, none⟩) ∧ Box k_Fault 26 (Bs w0 nrow) F w g10 s.t_10 ∧ SlR (kInt .i64) F w (ρ 12) s.t_12 ∧ OwnV kBool 4 (Bs w0 nrow) F w (ρ 14) s.t_14 ∧ OwnV kBool 4 (Bs w0 nrow) F w (ρ 15) s.t_15 ∧ Apart (ρ 14).ownBlock (ρ 15).ownBlock
def G8 (w0 : World) (F0 : BSet) (s : S) (ρ : Env) (w : World) : Prop := ∃ (F : BSet), Wk nrow w0 F0 F w ∧ ∃ (g10 : Nat), SlR k_Commit F w (ρ 0) s.t_0 ∧ SlR kBool F w (ρ 1) s.t_1 ∧ SlR kBool F w (ρ 2) s.t_2 ∧ SlR (kInt .i64) F w (ρ 3) s.t_3 ∧ ρ 10 = .pointer (some ⟨g10, 0, none⟩) ∧ Box k_Fault 26 (Bs w0 nrow) F w g10 s.t_10 ∧ SlR (kInt .i64) F w (ρ 12) s.t_12 ∧ OwnV kBool 4 (Bs w0 nrow) F w (ρ 14) s.t_14 ∧ OwnV kBool 4 (Bs w0 nrow) F w (ρ 15) s.t_15 ∧ OwnV (kSl (kInt .i64)) 23 (Bs w0 nrow) F w (ρ 16) s.t_16 ∧ Apart (ρ 14).ownBlock (ρ 15).ownBlock
def G9 (w0 : World) (F0 : BSet) (s : S) (ρ : Env) (w : World) : Prop := ∃ (F : BSet), Wk nrow w0 F0 F w ∧ ∃ (g10 : Nat), SlR k_Commit F w (ρ 0) s.t_0 ∧ SlR kBool F w (ρ 1) s.t_1 ∧ SlR kBool F w (ρ 2) s.t_2 ∧ SlR (kInt .i64) F w (ρ 3) s.t_3 ∧ ρ 10 = .pointer (some ⟨g10, 0, none⟩) ∧ Box k_Fault 26 (Bs w0 nrow) F w g10 s.t_10 ∧ SlR (kInt .i64) F w (ρ 12) s.t_12 ∧ OwnV kBool 4 (Bs w0 nrow) F w (ρ 14) s.t_14 ∧ OwnV kBool 4 (Bs w0 nrow) F w (ρ 15) s.t_15 ∧ OwnV (kSl (kInt .i64)) 23 (Bs w0 nrow) F w (ρ 16) s.t_16 ∧ ρ 17 = .int .i64 s.t_17 ∧ Apart (ρ 14).ownBlock (ρ 15).ownBlock
def G10 (w0 : World) (F0 : BSet) (s : S) (ρ : Env) (w : World) : Prop := ∃ (F : BSet), Wk nrow w0 F0 F w ∧ ∃ (g10 : Nat), SlR k_Commit F w (ρ 0) s.t_0 ∧ SlR kBool F w (ρ 1) s.t_1 ∧ SlR kBool F w (ρ 2) s.t_2 ∧ SlR (kInt .i64) F w (ρ 3) s.t_3 ∧ ρ 10 = .pointer (some ⟨g10, 0, none⟩) ∧ Box k_Fault 26 (Bs w0 nrow) F w g10 s.t_10 ∧ SlR (kInt .i64) F w (ρ 12) s.t_12 ∧ OwnV kBool 4 (Bs w0 nrow) F w (ρ 14) s.t_14 ∧ OwnV kBool 4 (Bs w0 nrow) F w (ρ 15) s.t_15 ∧ OwnV (kSl (kInt .i64)) 23 (Bs w0 nrow) F w (ρ 16) s.t_16 ∧ ρ 17 = .int .i64 s.t_17 ∧ OwnV (kInt .i64) 3 (Bs w0 nrow) F w (ρ 18) s.t_18 ∧ Apart (ρ 14).ownBlock (ρ 15).ownBlock
def G11 (w0 : World) (F0 : BSet) (s : S) (ρ : Env) (w : World) : Prop := ∃ (F : BSet), Wk nrow w0 F0 F w ∧ ∃ (g10 : Nat), SlR k_Commit F w (ρ 0) s.t_0 ∧ SlR kBool F w (ρ 1) s.t_1 ∧ SlR kBool F w (ρ 2) s.t_2 ∧ SlR (kInt .i64) F w (ρ 3) s.t_3 ∧ ρ 10 = .pointer (some ⟨g10, 0, none⟩) ∧ Box k_Fault 26 (Bs w0 nrow) F w g10 s.t_10 ∧ SlR (kInt .i64) F w (ρ 12) s.t_12 ∧ OwnV kBool 4 (Bs w0 nrow) F w (ρ 14) s.t_14 ∧ OwnV kBool 4 (Bs w0 nrow) F w (ρ 15) s.t_15 ∧ OwnV (kSl (kInt .i64)) 23 (Bs w0 nrow) F w (ρ 16) s.t_16 ∧ ρ 17 = .int .i64 s.t_17 ∧ OwnV (kInt .i64) 3 (Bs w0 nrow) F w (ρ 18) s.t_18 ∧ SlR (kInt .i64) F w (ρ 46) s.t_46 ∧ ρ 47 = .int .i64 s.t_47 ∧ ρ 48 = .int .i64 s.t_48 ∧ Apart (ρ 14).ownBlock (ρ 15).ownBlock
def G12 (w0 : World) (F0 : BSet) (s : S) (ρ : Env) (w : World) : Prop := ∃ (F : BSet), Wk nrow w0 F0 F w ∧ ∃ (g10 : Nat), SlR k_Commit F w (ρ 0) s.t_0 ∧ SlR kBool F w (ρ 1) s.t_1 ∧ SlR kBool F w (ρ 2) s.t_2 ∧ SlR (kInt .i64) F w (ρ 3) s.t_3 ∧ ρ 10 = .pointer (some ⟨g10, 0, none⟩) ∧ Box k_Fault 26 (Bs w0 nrow) F w g10 s.t_10 ∧ SlR (kInt .i64) F w (ρ 12) s.t_12 ∧ OwnV kBool 4 (Bs w0 nrow) F w (ρ 14) s.t_14 ∧ OwnV kBool 4 (Bs w0 nrow) F w (ρ 15) s.t_15 ∧ OwnV (kSl (kInt .i64)) 23 (Bs w0 nrow) F w (ρ 16) s.t_16 ∧ ρ 17 = .int .i64 s.t_17 ∧ OwnV (kInt .i64) 3 (Bs w0 nrow) F w (ρ 18) s.t_18 ∧ SlR (kInt .i64) F w (ρ 46) s.t_46 ∧ ρ 47 = .int .i64 s.t_47 ∧ ρ 48 = .int .i64 s.t_48 ∧ ρ 49 = .bool s.t_49 ∧ Apart (ρ 14).ownBlock (ρ 15).ownBlock
def G13 (w0 : World) (F0 : BSet) (s : S) (ρ : Env) (w : World) : Prop := ∃ (F : BSet), Wk nrow w0 F0 F w ∧ ∃ (g10 : Nat), SlR k_Commit F w (ρ 0) s.t_0 ∧ SlR kBool F w (ρ 1) s.t_1 ∧ SlR kBool F w (ρ 2) s.t_2 ∧ SlR (kInt .i64) F w (ρ 3) s.t_3 ∧ ρ 10 = .pointer (some ⟨g10, 0, none⟩) ∧ Box k_Fault 26 (Bs w0 nrow) F w g10 s.t_10 ∧ SlR (kInt .i64) F w (ρ 12) s.t_12 ∧ OwnV kBool 4 (Bs w0 nrow) F w (ρ 14) s.t_14 ∧ OwnV kBool 4 (Bs w0 nrow) F w (ρ 15) s.t_15 ∧ OwnV (kSl (kInt .i64)) 23 (Bs w0 nrow) F w (ρ 16) s.t_16 ∧ ρ 17 = .int .i64 s.t_17 ∧ OwnV (kInt .i64) 3 (Bs w0 nrow) F w (ρ 18) s.t_18 ∧ ρ 20 = .int .i64 s.t_20 ∧ SlR (kInt .i64) F w (ρ 46) s.t_46 ∧ ρ 47 = .int .i64 s.t_47 ∧ ρ 48 = .int .i64 s.t_48 ∧ Apart (ρ 14).ownBlock (ρ 15).ownBlock
def G14 (w0 : World) (F0 : BSet) (s : S) (ρ : Env) (w : World) : Prop := ∃ (F : BSet), Wk nrow w0 F0 F w ∧ ∃ (g10 : Nat), SlR k_Commit F w (ρ 0) s.t_0 ∧ SlR kBool F w (ρ 1) s.t_1 ∧ SlR kBool F w (ρ 2) s.t_2 ∧ SlR (kInt .i64) F w (ρ 3) s.t_3 ∧ ρ 10 = .pointer (some ⟨g10, 0, none⟩) ∧ Box k_Fault 26 (Bs w0 nrow) F w g10 s.t_10 ∧ SlR (kInt .i64) F w (ρ 12) s.t_12 ∧ OwnV kBool 4 (Bs w0 nrow) F w (ρ 14) s.t_14 ∧ OwnV kBool 4 (Bs w0 nrow) F w (ρ 15) s.t_15 ∧ OwnV (kSl (kInt .i64)) 23 (Bs w0 nrow) F w (ρ 16) s.t_16 ∧ ρ 17 = .int .i64 s.t_17 ∧ OwnV (kInt .i64) 3 (Bs w0 nrow) F w (ρ 18) s.t_18 ∧ ρ 20 = .int .i64 s.t_20 ∧ SlR (kInt .i64) F w (ρ 46) s.t_46 ∧ ρ 47 = .int .i64 s.t_47 ∧ ρ 48 = .int .i64 s.t_48 ∧ ρ 75 = .bool s.t_75 ∧ Apart (ρ 14).ownBlock (ρ 15).ownBlock
def G15 (w0 : World) (F0 : BSet) (s : S) (ρ : Env) (w : World) : Prop := ∃ (F : BSet), Wk nrow w0 F0 F w ∧ ∃ (g10 : Nat), SlR k_Commit F w (ρ 0) s.t_0 ∧ SlR kBool F w (ρ 1) s.t_1 ∧ SlR kBool F w (ρ 2) s.t_2 ∧ SlR (kInt .i64) F w (ρ 3) s.t_3 ∧ ρ 10 = .pointer (some ⟨g10, 0, none⟩) ∧ Box k_Fault 26 (Bs w0 nrow) F w g10 s.t_10 ∧ SlR (kInt .i64) F w (ρ 12) s.t_12 ∧ OwnV kBool 4 (Bs w0 nrow) F w (ρ 14) s.t_14 ∧ OwnV kBool 4 (Bs w0 nrow) F w (ρ 15) s.t_15 ∧ OwnV (kSl (kInt .i64)) 23 (Bs w0 nrow) F w (ρ 16) s.t_16 ∧ ρ 17 = .int .i64 s.t_17 ∧ OwnV (kInt .i64) 3 (Bs w0 nrow) F w (ρ 18) s.t_18 ∧ ρ 83 = .bool s.t_83 ∧ Apart (ρ 14).ownBlock (ρ 15).ownBlock
def G16 (w0 : World) (F0 : BSet) (s : S) (ρ : Env) (w : World) : Prop := ∃ (F : BSet), Wk nrow w0 F0 F w ∧ ∃ (g10 : Nat), SlR k_Commit F w (ρ 0) s.t_0 ∧ SlR (kInt .i64) F w (ρ 3) s.t_3 ∧ ρ 10 = .pointer (some ⟨g10, 0, none⟩) ∧ Box k_Fault 26 (Bs w0 nrow) F w g10 s.t_10 ∧ OwnV kBool 4 (Bs w0 nrow) F w (ρ 14) s.t_14 ∧ OwnV (kSl (kInt .i64)) 23 (Bs w0 nrow) F w (ρ 16) s.t_16
def G17 (w0 : World) (F0 : BSet) (s : S) (ρ : Env) (w : World) : Prop := ∃ (F : BSet), Wk nrow w0 F0 F w ∧ ∃ (g10 : Nat), SlR k_Commit F w (ρ 0) s.t_0 ∧ SlR kBool F w (ρ 1) s.t_1 ∧ SlR kBool F w (ρ 2) s.t_2 ∧ SlR (kInt .i64) F w (ρ 3) s.t_3 ∧ ρ 10 = .pointer (some ⟨g10, 0, none⟩) ∧ Box k_Fault 26 (Bs w0 nrow) F w g10 s.t_10 ∧ SlR (kInt .i64) F w (ρ 12) s.t_12 ∧ OwnV kBool 4 (Bs w0 nrow) F w (ρ 14) s.t_14 ∧ OwnV kBool 4 (Bs w0 nrow) F w (ρ 15) s.t_15 ∧ OwnV (kSl (kInt .i64)) 23 (Bs w0 nrow) F w (ρ 16) s.t_16 ∧ ρ 17 = .int .i64 s.t_17 ∧ SlR (kInt .i64) F w (ρ 18) s.t_18 ∧ Apart (ρ 14).ownBlock (ρ 15).ownBlock
def G18 (w0 : World) (F0 : BSet) (s : S) (ρ : Env) (w : World) : Prop := ∃ (F : BSet), Wk nrow w0 F0 F w ∧ ∃ (g10 : Nat), SlR k_Commit F w (ρ 0) s.t_0 ∧ SlR kBool F w (ρ 1) s.t_1 ∧ SlR kBool F w (ρ 2) s.t_2 ∧ SlR (kInt .i64) F w (ρ 3) s.t_3 ∧ ρ 10 = .pointer (some ⟨g10, 0, none⟩) ∧ Box k_Fault 26 (Bs w0 nrow) F w g10 s.t_10 ∧ SlR (kInt .i64) F w (ρ 12) s.t_12 ∧ OwnV kBool 4 (Bs w0 nrow) F w (ρ 14) s.t_14 ∧ OwnV kBool 4 (Bs w0 nrow) F w (ρ 15) s.t_15 ∧ OwnV (kSl (kInt .i64)) 23 (Bs w0 nrow) F w (ρ 16) s.t_16 ∧ ρ 17 = .int .i64 s.t_17 ∧ SlR (kInt .i64) F w (ρ 94) s.t_94 ∧ ρ 95 = .int .i64 s.t_95 ∧ ρ 96 = .int .i64 s.t_96 ∧ Apart (ρ 14).ownBlock (ρ 15).ownBlock
def G19 (w0 : World) (F0 : BSet) (s : S) (ρ : Env) (w : World) : Prop := ∃ (F : BSet), Wk nrow w0 F0 F w ∧ ∃ (g10 : Nat), SlR k_Commit F w (ρ 0) s.t_0 ∧ SlR kBool F w (ρ 1) s.t_1 ∧ SlR kBool F w (ρ 2) s.t_2 ∧ SlR (kInt .i64) F w (ρ 3) s.t_3 ∧ ρ 10 = .pointer (some ⟨g10, 0, none⟩) ∧ Box k_Fault 26 (Bs w0 nrow) F w g10 s.t_10 ∧ SlR (kInt .i64) F w (ρ 12) s.t_12 ∧ OwnV kBool 4 (Bs w0 nrow) F w (ρ 14) s.t_14 ∧ OwnV kBool 4 (Bs w0 nrow) F w (ρ 15) s.t_15 ∧ OwnV (kSl (kInt .i64)) 23 (Bs w0 nrow) F w (ρ 16) s.t_16 ∧ ρ 17 = .int .i64 s.t_17 ∧ SlR (kInt .i64) F w (ρ 94) s.t_94 ∧ ρ 95 = .int .i64 s.t_95 ∧ ρ 96 = .int .i64 s.t_96 ∧ ρ 97 = .bool s.t_97 ∧ Apart (ρ 14).ownBlock (ρ 15).ownBlock
def G20 (w0 : World) (F0 : BSet) (s : S) (ρ : Env) (w : World) : Prop := ∃ (F : BSet), Wk nrow w0 F0 F w ∧ ∃ (g10 : Nat), SlR k_Commit F w (ρ 0) s.t_0 ∧ SlR kBool F w (ρ 1) s.t_1 ∧ SlR kBool F w (ρ 2) s.t_2 ∧ SlR (kInt .i64) F w (ρ 3) s.t_3 ∧ ρ 10 = .pointer (some ⟨g10, 0, none⟩) ∧ Box k_Fault 26 (Bs w0 nrow) F w g10 s.t_10 ∧ SlR (kInt .i64) F w (ρ 12) s.t_12 ∧ OwnV kBool 4 (Bs w0 nrow) F w (ρ 14) s.t_14 ∧ OwnV kBool 4 (Bs w0 nrow) F w (ρ 15) s.t_15 ∧ OwnV (kSl (kInt .i64)) 23 (Bs w0 nrow) F w (ρ 16) s.t_16 ∧ ρ 17 = .int .i64 s.t_17 ∧ ρ 22 = .int .i64 s.t_22 ∧ SlR (kInt .i64) F w (ρ 94) s.t_94 ∧ ρ 95 = .int .i64 s.t_95 ∧ ρ 96 = .int .i64 s.t_96 ∧ Apart (ρ 14).ownBlock (ρ 15).ownBlock
def G21 (w0 : World) (F0 : BSet) (s : S) (ρ : Env) (w : World) : Prop := ∃ (F : BSet), Wk nrow w0 F0 F w ∧ ∃ (g10 : Nat), SlR k_Commit F w (ρ 0) s.t_0 ∧ SlR kBool F w (ρ 1) s.t_1 ∧ SlR kBool F w (ρ 2) s.t_2 ∧ SlR (kInt .i64) F w (ρ 3) s.t_3 ∧ ρ 10 = .pointer (some ⟨g10, 0, none⟩) ∧ Box k_Fault 26 (Bs w0 nrow) F w g10 s.t_10 ∧ SlR (kInt .i64) F w (ρ 12) s.t_12 ∧ OwnV kBool 4 (Bs w0 nrow) F w (ρ 14) s.t_14 ∧ OwnV kBool 4 (Bs w0 nrow) F w (ρ 15) s.t_15 ∧ OwnV (kSl (kInt .i64)) 23 (Bs w0 nrow) F w (ρ 16) s.t_16 ∧ ρ 17 = .int .i64 s.t_17 ∧ ρ 22 = .int .i64 s.t_22 ∧ SlR (kInt .i64) F w (ρ 94) s.t_94 ∧ ρ 95 = .int .i64 s.t_95 ∧ ρ 96 = .int .i64 s.t_96 ∧ ρ 106 = .bool s.t_106 ∧ Apart (ρ 14).ownBlock (ρ 15).ownBlock
set_option maxHeartbeats 4000000 in
set_option maxRecDepth 20000 in
theorem ref (w0 : World) (F0 : BSet) : ∃ c, Try.f29.body = some c ∧ Ref Try.prog 112 c (G0 w0 F0) body (fun _ _ _ => False) (fun _ _ _ _ => False) (fun r ρ w => ∃ s, retv s = r ∧ G5 w0 F0 s ρ w) := by
  refine ⟨_, rfl, ?_⟩
  unfold body
  refine Ref.seq (B := G1 w0 F0) ?_ ?_
  · refine Ref.region (fun s ρ w s' h hr => ?_)
    obtain ⟨F, hW, h0, h1, h2, h3⟩ := h
    refine ol_v (e_as _ rfl) rfl ?_
    refine ol_v (e_as _ rfl) rfl ?_
    refine ol_e (f_alloc zer_26 hW) rfl rfl ?_
    rintro _ w2 ⟨g1, rfl, kw1, ho3⟩
    have hW4 := hW.trans kw1
    have st1 := kw1.stp hW.ok
    obtain rfl := Option.some.inj hr
    exact ol_nil ⟨F, hW4, g1, (h0.keep st1), (h1.keep st1), (h2.keep st1), (h3.keep st1), rfl, (ho3.base (row := nrow) hW.le)⟩
  refine Ref.seq (B := G1 w0 F0) ?_ ?_
  · refine Ref.seq (B := G2 w0 F0) ?_ ?_
    · refine Ref.region (fun s ρ w s' h hr => ?_)
      obtain ⟨F, hW, g10, h0, h1, h2, h3, p10, h10⟩ := h
      refine ol_v (e_mv _ rfl) rfl ?_
      refine ol_v (e_mv _ rfl) rfl ?_
      refine ol_v (e_mv _ rfl) rfl ?_
      refine ol_v (e_mv _ rfl) rfl ?_
      obtain ⟨x5, hx5, hr⟩ := bind_some' hr
      refine ol_e (f_call [(ρ 0), (ρ 1), (ρ 2), (ρ 3)] fn_41 (lcons rfl (lcons rfl (lcons rfl (lcons rfl rfl)))) (negotiate_check.calls hW.ok h0 h1 h2 h3 hx5)) rfl rfl ?_
      rintro v8 w6 ⟨Fz7, _, rfl, kw1, hk9⟩
      have hW11 := hW.trans kw1
      have st1 := kw1.stp hW.ok
      refine ol_e (f_alloc zer_26 hW11) rfl rfl ?_
      rintro _ w13 ⟨g12, rfl, kw2, ho14⟩
      have hW15 := hW11.trans kw2
      have st2 := kw2.stp hW11.ok
      refine ol_eN (f_stB hW15 (ho14.base (row := nrow) hW11.le) (FldS.whole _) ty_26 (hk9.keep st2) rfl rfl) rfl ?_
      rintro - w16 ⟨hW17, ho18, hg3, st3⟩
      obtain rfl := Option.some.inj hr
      exact ol_nil ⟨Fz7, hW17, g10, g12, (h0.keep (st1.trans (st2.trans st3))), (h1.keep (st1.trans (st2.trans st3))), (h2.keep (st1.trans (st2.trans st3))), (h3.keep (st1.trans (st2.trans st3))), p10, (((h10.wk kw1 hW.ok).wk kw2 hW11.ok).mut (Apart.base (fun _ e_ => by cases e_; exact ho14.ge) (h10.wk kw1 hW.ok).ltw) hg3 st3), rfl, ho18, (Apart.base (fun _ e_ => by cases e_; exact ho14.ge) (h10.wk kw1 hW.ok).ltw).symm⟩
    refine Ref.seq (B := G3 w0 F0) ?_ ?_
    · refine Ref.region (fun s ρ w s' h hr => ?_)
      obtain ⟨F, hW, g10, g11, h0, h1, h2, h3, p10, h10, p11, h11, a10b_11b⟩ := h
      obtain ⟨v19, hl20⟩ := LiesAt.v (h11).at_
      refine ol_v (e_ld ty_26 hl20 p11) rfl ?_
      refine ol_v (e_bld (cells := #[.int .i64 0, .int .i64 0]) bld_26 (vs := []) rfl rfl) rfl ?_
      have hb21 : Val k_Fault F w (.agg #[.int .i64 0, .int .i64 0]) (⟨(0 : Int), (0 : Int)⟩ : Fault) := mk_Fault (val_int _ _) (val_int _ _)
      refine ol_v (e_tneq (eq_Fault_26 hl20.val hb21) rfl rfl) rfl ?_
      obtain rfl := Option.some.inj hr
      exact ol_nil ⟨F, hW, g10, g11, h0, h1, h2, h3, p10, h10, p11, h11, rfl, a10b_11b⟩
    refine Ref.cond (b := fun s => s.t_30) (fun s ρ w ⟨F, hW, g10, g11, h0, h1, h2, h3, p10, h10, p11, h11, h30, a10b_11b⟩ => h30) (Ref.pre (A := G4 w0 F0) ?_ (fun s ρ w h => (fun ⟨F, hW, g10, g11, h0, h1, h2, h3, p10, h10, p11, h11, h30, a10b_11b⟩ => ⟨F, hW, g10, g11, p10, h10, p11, h11, a10b_11b⟩ : G3 w0 F0 s ρ w → G4 w0 F0 s ρ w) h.2)) (Ref.pre (A := G1 w0 F0) ?_ (fun s ρ w h => (fun ⟨F, hW, g10, g11, h0, h1, h2, h3, p10, h10, p11, h11, h30, a10b_11b⟩ => ⟨F, hW, g10, h0, h1, h2, h3, p10, h10⟩ : G3 w0 F0 s ρ w → G1 w0 F0 s ρ w) h.2))
    · refine Ref.seq (B := G5 w0 F0) ?_ ?_
      · refine Ref.regionD 3 (by kernel_rfl) (by kernel_rfl) (fun s ρ w ⟨F, hW, g10, g11, p10, h10, p11, h11, a10b_11b⟩ => ⟨F, hW.drewS, g10, g11, p10, h10.wk (Wk.drew (row := nrow) hW.ok) hW.ok, p11, h11.wk (Wk.drew (row := nrow) hW.ok) hW.ok, a10b_11b⟩) (fun s ρ w s' h hr => ?_)
        obtain ⟨F, hW, g10, g11, p10, h10, p11, h11, a10b_11b⟩ := h
        obtain ⟨v22, hl23⟩ := LiesAt.v (h11).at_
        refine ol_v (e_ld ty_26 hl23 p11) rfl ?_
        refine ol_v (e_as _ rfl) rfl ?_
        refine ol_v (e_as _ rfl) rfl ?_
        refine ol_eN (f_stB hW h10 (FldS.whole _) ty_26 hl23.val p10 rfl) rfl ?_
        rintro - w24 ⟨hW25, ho26, hg1, st1⟩
        obtain rfl := Option.some.inj hr
        exact ol_nil ⟨F, hW25, g10, ((OwnV.nil (kSl (kInt .i64)) 23 (Bs w0 nrow) F w).mut (apart_bo h10 (OwnV.nil (kSl (kInt .i64)) 23 (Bs w0 nrow) F w) rfl) hg1 st1), ((OwnV.nil (kInt .i64) 3 (Bs w0 nrow) F w).mut (apart_bo h10 (OwnV.nil (kInt .i64) 3 (Bs w0 nrow) F w) rfl) hg1 st1), p10, ho26⟩
      exact Ref.ret (fun s ρ w h => ⟨s, rfl, h⟩)
    · exact Ref.skip
  refine Ref.seq (B := G6 w0 F0) ?_ ?_
  · refine Ref.region (fun s ρ w s' h hr => ?_)
    obtain ⟨F, hW, g10, h0, h1, h2, h3, p10, h10⟩ := h
    refine ol_v (e_mv _ rfl) rfl ?_
    obtain ⟨x27, hx27, hr⟩ := bind_some' hr
    refine ol_e (f_call [(ρ 0)] fn_43 (lcons rfl rfl) (history_Order.calls hW.ok h0 hx27)) rfl rfl ?_
    rintro _ w28 ⟨Fz29, v30, v32, rfl, kw1, hk31, hk33⟩
    have hW35 := hW.trans kw1
    have st1 := kw1.stp hW.ok
    refine ol_v (e_mv _ rfl) rfl ?_
    refine ol_v (e_ext _ rfl rfl) rfl ?_
    refine ol_v (e_ext _ rfl rfl) rfl ?_
    refine ol_e (f_alloc zer_26 hW35) rfl rfl ?_
    rintro _ w37 ⟨g36, rfl, kw2, ho38⟩
    have hW39 := hW35.trans kw2
    have st2 := kw2.stp hW35.ok
    obtain ⟨Fz40, hWz41, st3, hF3, hz42⟩ := (((hk31.base (row := nrow) hW.le).wk kw2 hW35.ok)).frozen hW39
    refine ol_v (e_as _ rfl) rfl ?_
    refine ol_eN (f_stB hWz41 ((ho38.base (row := nrow) hW35.le).frz (apart_bo (ho38.base (row := nrow) hW35.le) ((hk31.base (row := nrow) hW.le).wk kw2 hW35.ok) rfl).symm hF3 st3) (FldS.whole _) ty_26 (hk33.keep (st2.trans st3)) rfl rfl) rfl ?_
    rintro - w43 ⟨hW44, ho45, hg4, st4⟩
    obtain rfl := Option.some.inj hr
    exact ol_nil ⟨Fz40, hW44, g10, (h0.keep (st1.trans (st2.trans (st3.trans st4)))), (h1.keep (st1.trans (st2.trans (st3.trans st4)))), (h2.keep (st1.trans (st2.trans (st3.trans st4)))), (h3.keep (st1.trans (st2.trans (st3.trans st4)))), p10, ((((h10.wk kw1 hW.ok).wk kw2 hW35.ok).frz (apart_bo ((h10.wk kw1 hW.ok).wk kw2 hW35.ok) ((hk31.base (row := nrow) hW.le).wk kw2 hW35.ok) rfl).symm hF3 st3).mut (Apart.base (fun _ e_ => by cases e_; exact ho38.ge) (h10.wk kw1 hW.ok).ltw) hg4 st4), (hz42.keep st4)⟩
  refine Ref.seq (B := G7 w0 F0) ?_ ?_
  · refine Ref.regionH (by kernel_rfl) (fun s ρ w ⟨F, hW, g10, h0, h1, h2, h3, p10, h10, h12⟩ => ⟨F, hW.drewS, g10, h0.keep (sd hW), h1.keep (sd hW), h2.keep (sd hW), h3.keep (sd hW), p10, h10.wk (Wk.drew (row := nrow) hW.ok) hW.ok, h12.keep (sd hW)⟩) (fun s ρ w s' h hr => ?_)
    obtain ⟨F, hW, g10, h0, h1, h2, h3, p10, h10, h12⟩ := h
    refine ⟨fun w' => Stp F w F w', ?_⟩
    refine oh_v 0 rfl (by kernel_rfl) (by kernel_rfl) (by kernel_rfl) (Stp.refl _ _) (fun wv_ SV => e_mv _ rfl) rfl ?_
    obtain ⟨A46, c47, e48, hc49, R50⟩ := id h0
    refine oh_v 1 rfl (by kernel_rfl) (by kernel_rfl) (by kernel_rfl) (Stp.refl _ _) (fun wv_ SV => e_len (SlT.sl sl_22) e48) rfl ?_
    refine oh_v 3 rfl (by kernel_rfl) (by kernel_rfl) (by kernel_rfl) (Stp.refl _ _) (fun wv_ SV => e_mv _ rfl) rfl ?_
    obtain ⟨A51, c52, e53, hc54, R55⟩ := id h0
    refine oh_v 4 rfl (by kernel_rfl) (by kernel_rfl) (by kernel_rfl) (Stp.refl _ _) (fun wv_ SV => e_len (SlT.sl sl_22) e53) rfl ?_
    refine oh_all [2, 5] (by kernel_rfl) rfl ⟨?_, ?_, trivial⟩
    · obtain ⟨x56, hx56, hr⟩ := bind_some' hr
      refine oh1_e rfl (f_mks sl_46 hW rfl rfl hx56) rfl ?_
      rintro v57 w58 ⟨kw1, ho59⟩
      have hW60 := hW.trans kw1
      have st1 := kw1.stp hW.ok
      refine ⟨(Stp.back st1), ?_⟩
      refine oh_v 6 rfl (by kernel_rfl) (by kernel_rfl) (by kernel_rfl) (Stp.back st1) (fun wv_ SV => e_as _ rfl) rfl ?_
      refine oh_all [5] (by kernel_rfl) rfl ⟨?_, trivial⟩
      · obtain ⟨x61, hx61, hr⟩ := bind_some' hr
        refine oh1_e rfl (f_mks sl_46 hW60 rfl rfl hx61) rfl ?_
        rintro v62 w63 ⟨kw2, ho64⟩
        have hW65 := hW60.trans kw2
        have st2 := kw2.stp hW60.ok
        refine ⟨(Stp.back (st1.trans st2)), ?_⟩
        refine oh_v 7 rfl (by kernel_rfl) (by kernel_rfl) (by kernel_rfl) (Stp.back (st1.trans st2)) (fun wv_ SV => e_as _ rfl) rfl ?_
        obtain rfl := Option.some.inj hr
        exact oh_done (by kernel_rfl) ⟨F, hW65, g10, (h0.keep (st1.trans st2)), (h1.keep (st1.trans st2)), (h2.keep (st1.trans st2)), (h3.keep (st1.trans st2)), p10, ((h10.wk kw1 hW.ok).wk kw2 hW60.ok), (h12.keep (st1.trans st2)), ((ho59.base (row := nrow) hW.le).wk kw2 hW60.ok), (ho64.base (row := nrow) hW60.le), (Apart.base (fun g_ hg_ => (ho64.lt hg_).1) (ho59.base (row := nrow) hW.le).ltw).symm⟩
    · obtain ⟨x56, hx56, hr⟩ := bind_some' hr
      obtain ⟨x61, hx61, hr⟩ := bind_some' hr
      refine oh1_e rfl (f_mks sl_46 hW rfl rfl hx61) rfl ?_
      rintro v66 w67 ⟨kw1, ho68⟩
      have hW69 := hW.trans kw1
      have st1 := kw1.stp hW.ok
      refine ⟨(Stp.back st1), ?_⟩
      refine oh_all [2] (by kernel_rfl) rfl ⟨?_, trivial⟩
      · refine oh1_e rfl (f_mks sl_46 hW69 rfl rfl hx56) rfl ?_
        rintro v70 w71 ⟨kw2, ho72⟩
        have hW73 := hW69.trans kw2
        have st2 := kw2.stp hW69.ok
        refine ⟨(Stp.back (st1.trans st2)), ?_⟩
        refine oh_v 6 rfl (by kernel_rfl) (by kernel_rfl) (by kernel_rfl) (Stp.back (st1.trans st2)) (fun wv_ SV => e_as _ rfl) rfl ?_
        refine oh_v 7 rfl (by kernel_rfl) (by kernel_rfl) (by kernel_rfl) (Stp.back (st1.trans st2)) (fun wv_ SV => e_as _ rfl) rfl ?_
        obtain rfl := Option.some.inj hr
        exact oh_done (by kernel_rfl) ⟨F, hW73, g10, (h0.keep (st1.trans st2)), (h1.keep (st1.trans st2)), (h2.keep (st1.trans st2)), (h3.keep (st1.trans st2)), p10, ((h10.wk kw1 hW.ok).wk kw2 hW69.ok), (h12.keep (st1.trans st2)), (ho72.base (row := nrow) hW69.le), ((ho68.base (row := nrow) hW.le).wk kw2 hW69.ok), (Apart.base (fun g_ hg_ => (ho72.lt hg_).1) (ho68.base (row := nrow) hW.le).ltw)⟩
  refine Ref.seq (B := G8 w0 F0) ?_ ?_
  · refine Ref.region (fun s ρ w s' h hr => ?_)
    obtain ⟨F, hW, g10, h0, h1, h2, h3, p10, h10, h12, h14, h15, a14o_15o⟩ := h
    refine ol_v (e_as _ rfl) rfl ?_
    obtain rfl := Option.some.inj hr
    exact ol_nil ⟨F, hW, g10, h0, h1, h2, h3, p10, h10, h12, h14, h15, (OwnV.nil (kSl (kInt .i64)) 23 (Bs w0 nrow) F w), a14o_15o⟩
  refine Ref.seq (B := G9 w0 F0) ?_ ?_
  · refine Ref.region (fun s ρ w s' h hr => ?_)
    obtain ⟨F, hW, g10, h0, h1, h2, h3, p10, h10, h12, h14, h15, h16, a14o_15o⟩ := h
    refine ol_v (e_as _ rfl) rfl ?_
    obtain rfl := Option.some.inj hr
    exact ol_nil ⟨F, hW, g10, h0, h1, h2, h3, p10, h10, h12, h14, h15, h16, rfl, a14o_15o⟩
  refine Ref.block ?_
  refine Ref.loop ?_
  refine Ref.seq (B := G9 w0 F0) ?_ ?_
  · refine Ref.block ?_
    refine Ref.seq (B := G10 w0 F0) ?_ ?_
    · refine Ref.region (fun s ρ w s' h hr => ?_)
      obtain ⟨F, hW, g10, h0, h1, h2, h3, p10, h10, h12, h14, h15, h16, h17, a14o_15o⟩ := h
      refine ol_v (e_as _ rfl) rfl ?_
      obtain rfl := Option.some.inj hr
      exact ol_nil ⟨F, hW, g10, h0, h1, h2, h3, p10, h10, h12, h14, h15, h16, h17, (OwnV.nil (kInt .i64) 3 (Bs w0 nrow) F w), a14o_15o⟩
    refine Ref.seq (B := G10 w0 F0) ?_ ?_
    · refine Ref.seq (B := G11 w0 F0) ?_ ?_
      · refine Ref.region (fun s ρ w s' h hr => ?_)
        obtain ⟨F, hW, g10, h0, h1, h2, h3, p10, h10, h12, h14, h15, h16, h17, h18, a14o_15o⟩ := h
        refine ol_v (e_mv _ rfl) rfl ?_
        obtain ⟨A74, c75, e76, hc77, R78⟩ := id h12
        refine ol_v (e_len (SlT.sl sl_23) e76) rfl ?_
        refine ol_v (e_mv _ rfl) rfl ?_
        obtain rfl := Option.some.inj hr
        exact ol_nil ⟨F, hW, g10, h0, h1, h2, h3, p10, h10, h12, h14, h15, h16, h17, h18, h12, rfl, rfl, a14o_15o⟩
      refine Ref.block ?_
      refine Ref.loop ?_
      refine Ref.seq (B := G12 w0 F0) ?_ ?_
      · refine Ref.region (fun s ρ w s' h hr => ?_)
        obtain ⟨F, hW, g10, h0, h1, h2, h3, p10, h10, h12, h14, h15, h16, h17, h18, h46, h47, h48, a14o_15o⟩ := h
        refine ol_v (e_lss h48 h47) rfl ?_
        obtain rfl := Option.some.inj hr
        exact ol_nil ⟨F, hW, g10, h0, h1, h2, h3, p10, h10, h12, h14, h15, h16, h17, h18, h46, h47, h48, rfl, a14o_15o⟩
      refine Ref.seq (B := G11 w0 F0) ?_ ?_
      · refine Ref.cond (b := fun s => s.t_49) (fun s ρ w ⟨F, hW, g10, h0, h1, h2, h3, p10, h10, h12, h14, h15, h16, h17, h18, h46, h47, h48, h49, a14o_15o⟩ => h49) (Ref.pre (A := G11 w0 F0) ?_ (fun s ρ w h => (fun ⟨F, hW, g10, h0, h1, h2, h3, p10, h10, h12, h14, h15, h16, h17, h18, h46, h47, h48, h49, a14o_15o⟩ => ⟨F, hW, g10, h0, h1, h2, h3, p10, h10, h12, h14, h15, h16, h17, h18, h46, h47, h48, a14o_15o⟩ : G12 w0 F0 s ρ w → G11 w0 F0 s ρ w) h.2)) (Ref.pre (A := G10 w0 F0) ?_ (fun s ρ w h => (fun ⟨F, hW, g10, h0, h1, h2, h3, p10, h10, h12, h14, h15, h16, h17, h18, h46, h47, h48, h49, a14o_15o⟩ => ⟨F, hW, g10, h0, h1, h2, h3, p10, h10, h12, h14, h15, h16, h17, h18, a14o_15o⟩ : G12 w0 F0 s ρ w → G10 w0 F0 s ρ w) h.2))
        · exact Ref.skip
        · exact Ref.exit (fun s ρ w h => h)
      refine Ref.seq (B := G11 w0 F0) ?_ ?_
      · refine Ref.block ?_
        refine Ref.seq (B := G13 w0 F0) ?_ ?_
        · refine Ref.region (fun s ρ w s' h hr => ?_)
          obtain ⟨F, hW, g10, h0, h1, h2, h3, p10, h10, h12, h14, h15, h16, h17, h18, h46, h47, h48, a14o_15o⟩ := h
          obtain ⟨x79, hx79, hr⟩ := bind_some' hr
          obtain ⟨A80, c81, e82, hc83, R84⟩ := id h46
          obtain ⟨b85, o86, hA87, L88⟩ := Row.at_ R84 hx79
          refine ol_v (e_ix (SlT.sl sl_23) (SlT.sz sl_23) hA87 hx79 e82 h48) rfl ?_
          refine ol_v (e_ld ty_3 (LiesV.int L88.at_) rfl) rfl ?_
          refine ol_v (e_as _ rfl) rfl ?_
          obtain rfl := Option.some.inj hr
          exact ol_nil ⟨F, hW, g10, h0, h1, h2, h3, p10, h10, h12, h14, h15, h16, h17, h18, rfl, h46, h47, h48, a14o_15o⟩
        refine Ref.seq (B := G14 w0 F0) ?_ ?_
        · refine Ref.region (fun s ρ w s' h hr => ?_)
          obtain ⟨F, hW, g10, h0, h1, h2, h3, p10, h10, h12, h14, h15, h16, h17, h18, h20, h46, h47, h48, a14o_15o⟩ := h
          refine ol_v (e_mv _ rfl) rfl ?_
          refine ol_v (e_mv _ h20) rfl ?_
          obtain ⟨x89, hx89, hr⟩ := bind_some' hr
          obtain ⟨A90, c91, e92, hc93, R94⟩ := id h2
          obtain ⟨b95, o96, hA97, L98⟩ := Row.at_ R94 hx89
          refine ol_v (e_ix (SlT.sl sl_46) (SlT.sz sl_46) hA97 hx89 e92 rfl) rfl ?_
          refine ol_v (e_ld ty_4 (LiesV.bool L98.at_) rfl) rfl ?_
          obtain ⟨x107, hx108, hr⟩ := bind_some' hr
          refine ol_cutA 7 56 62 (fun ρ' w' => w = w' ∧ ρ' 62 = .bool x107) rfl ?_ ?_
          · by_cases hb99 : x89 = true
            · have hr := hx108
              rw [if_pos hb99] at hr
              refine ol_v (e_mv _ rfl) rfl ?_
              refine ol_yes rfl rfl (congrArg Value.bool hb99) ?_
              refine ol_v (e_mv _ rfl) rfl ?_
              refine ol_yes rfl rfl (congrArg Value.bool hb99) ?_
              refine ol_v (e_mv _ h20) rfl ?_
              refine ol_yes rfl rfl (congrArg Value.bool hb99) ?_
              obtain ⟨x101, hx101, hr⟩ := bind_some' hr
              obtain ⟨g102, o103, c104, hv105, L106⟩ := OwnV.at_ h15 hx101
              refine ol_v (e_ixO sl_46 hv105 hx101 rfl rfl) rfl ?_
              refine ol_yes rfl rfl (congrArg Value.bool hb99) ?_
              refine ol_v (e_ld ty_4 (LiesV.bool L106) rfl) rfl ?_
              refine ol_yes rfl rfl (congrArg Value.bool hb99) ?_
              refine ol_v (e_not_ rfl) rfl ?_
              refine ol_v (e_pick true _ (congrArg Value.bool hb99) rfl) rfl ?_
              exact ol_nil ⟨⟨rfl, (congrArg Value.bool (Option.some.inj hr))⟩, ((((((((Agr.refl _ _ _).upd rfl rfl).upd rfl rfl).upd rfl rfl).upd rfl rfl).upd rfl rfl).upd rfl rfl).upd rfl rfl)⟩
            · have hb100 := Bool.eq_false_iff.mpr hb99
              have hr := hx108
              rw [if_neg hb99] at hr
              refine ol_v (e_mv _ rfl) rfl ?_
              refine ol_not rfl rfl rfl (congrArg Value.bool hb100) rfl ?_
              refine ol_not rfl rfl rfl (congrArg Value.bool hb100) rfl ?_
              refine ol_not rfl rfl rfl (congrArg Value.bool hb100) rfl ?_
              refine ol_not rfl rfl rfl (congrArg Value.bool hb100) rfl ?_
              refine ol_not rfl rfl rfl (congrArg Value.bool hb100) rfl ?_
              refine ol_v (e_pick false _ (congrArg Value.bool hb100) rfl) rfl ?_
              exact ol_nil ⟨⟨rfl, (congrArg Value.bool (Option.some.inj hr))⟩, ((((((((Agr.refl _ _ _).upd rfl rfl).upd rfl rfl).upd rfl rfl).upd rfl rfl).upd rfl rfl).upd rfl rfl).upd rfl rfl)⟩
          rintro ρ108 _ ⟨⟨rfl, hp108⟩, hAg108⟩
          obtain ⟨x117, hx118, hr⟩ := bind_some' hr
          refine ol_cutA 7 63 69 (fun ρ' w' => w = w' ∧ ρ' 69 = .bool x117) rfl ?_ ?_
          · by_cases hb109 : x107 = true
            · have hr := hx118
              rw [if_pos hb109] at hr
              refine ol_v (e_mv _ hp108) rfl ?_
              refine ol_yes rfl rfl (congrArg Value.bool hb109) ?_
              refine ol_v (e_mv _ (hAg108 14 rfl)) rfl ?_
              refine ol_yes rfl rfl (congrArg Value.bool hb109) ?_
              refine ol_v (e_mv _ ((hAg108 20 rfl).trans h20)) rfl ?_
              refine ol_yes rfl rfl (congrArg Value.bool hb109) ?_
              obtain ⟨x111, hx111, hr⟩ := bind_some' hr
              obtain ⟨g112, o113, c114, hv115, L116⟩ := OwnV.at_ h14 hx111
              refine ol_v (e_ixO sl_46 hv115 hx111 rfl rfl) rfl ?_
              refine ol_yes rfl rfl (congrArg Value.bool hb109) ?_
              refine ol_v (e_ld ty_4 (LiesV.bool L116) rfl) rfl ?_
              refine ol_yes rfl rfl (congrArg Value.bool hb109) ?_
              refine ol_v (e_not_ rfl) rfl ?_
              refine ol_v (e_pick true _ (congrArg Value.bool hb109) rfl) rfl ?_
              exact ol_nil ⟨⟨rfl, (congrArg Value.bool (Option.some.inj hr))⟩, ((((((((Agr.refl _ _ _).upd rfl rfl).upd rfl rfl).upd rfl rfl).upd rfl rfl).upd rfl rfl).upd rfl rfl).upd rfl rfl)⟩
            · have hb110 := Bool.eq_false_iff.mpr hb109
              have hr := hx118
              rw [if_neg hb109] at hr
              refine ol_v (e_mv _ hp108) rfl ?_
              refine ol_not rfl rfl rfl (congrArg Value.bool hb110) rfl ?_
              refine ol_not rfl rfl rfl (congrArg Value.bool hb110) rfl ?_
              refine ol_not rfl rfl rfl (congrArg Value.bool hb110) rfl ?_
              refine ol_not rfl rfl rfl (congrArg Value.bool hb110) rfl ?_
              refine ol_not rfl rfl rfl (congrArg Value.bool hb110) rfl ?_
              refine ol_v (e_pick false _ (congrArg Value.bool hb110) rfl) rfl ?_
              exact ol_nil ⟨⟨rfl, (congrArg Value.bool (Option.some.inj hr))⟩, ((((((((Agr.refl _ _ _).upd rfl rfl).upd rfl rfl).upd rfl rfl).upd rfl rfl).upd rfl rfl).upd rfl rfl).upd rfl rfl)⟩
          rintro ρ118 _ ⟨⟨rfl, hp118⟩, hAg118⟩
          refine ol_cutA 6 70 75 (fun ρ' w' => w = w' ∧ ρ' 75 = .bool (x117 && (decide ((s.t_18.length : Int) < s.t_17)))) rfl ?_ ?_
          · by_cases hb119 : x117 = true
            · refine ol_v (e_mv _ hp118) rfl ?_
              refine ol_yes rfl rfl (congrArg Value.bool hb119) ?_
              refine ol_v (e_mv _ ((hAg118 18 rfl).trans (hAg108 18 rfl))) rfl ?_
              refine ol_yes rfl rfl (congrArg Value.bool hb119) ?_
              obtain ⟨A121, c122, e123, hc124⟩ := h18.shape
              refine ol_v (e_len (SlT.sl sl_23) e123) rfl ?_
              refine ol_yes rfl rfl (congrArg Value.bool hb119) ?_
              refine ol_v (e_mv _ ((hAg118 17 rfl).trans ((hAg108 17 rfl).trans h17))) rfl ?_
              refine ol_yes rfl rfl (congrArg Value.bool hb119) ?_
              refine ol_v (e_lss rfl rfl) rfl ?_
              refine ol_v (e_pick true _ (congrArg Value.bool hb119) rfl) rfl ?_
              exact ol_nil ⟨⟨rfl, (bv_and_t hb119)⟩, (((((((Agr.refl _ _ _).upd rfl rfl).upd rfl rfl).upd rfl rfl).upd rfl rfl).upd rfl rfl).upd rfl rfl)⟩
            · have hb120 := Bool.eq_false_iff.mpr hb119
              refine ol_v (e_mv _ hp118) rfl ?_
              refine ol_not rfl rfl rfl (congrArg Value.bool hb120) rfl ?_
              refine ol_not rfl rfl rfl (congrArg Value.bool hb120) rfl ?_
              refine ol_not rfl rfl rfl (congrArg Value.bool hb120) rfl ?_
              refine ol_not rfl rfl rfl (congrArg Value.bool hb120) rfl ?_
              refine ol_v (e_pick false _ (congrArg Value.bool hb120) rfl) rfl ?_
              exact ol_nil ⟨⟨rfl, (bv_and_f hb120)⟩, (((((((Agr.refl _ _ _).upd rfl rfl).upd rfl rfl).upd rfl rfl).upd rfl rfl).upd rfl rfl).upd rfl rfl)⟩
          rintro ρ125 _ ⟨⟨rfl, hp125⟩, hAg125⟩
          obtain rfl := Option.some.inj hr
          exact ol_nil ⟨F, hW, g10, (SlR.eqv ((hAg125 0 rfl).trans ((hAg118 0 rfl).trans (hAg108 0 rfl))) h0), (SlR.eqv ((hAg125 1 rfl).trans ((hAg118 1 rfl).trans (hAg108 1 rfl))) h1), (SlR.eqv ((hAg125 2 rfl).trans ((hAg118 2 rfl).trans (hAg108 2 rfl))) h2), (SlR.eqv ((hAg125 3 rfl).trans ((hAg118 3 rfl).trans (hAg108 3 rfl))) h3), ((hAg125 10 rfl).trans ((hAg118 10 rfl).trans ((hAg108 10 rfl).trans p10))), h10, (SlR.eqv ((hAg125 12 rfl).trans ((hAg118 12 rfl).trans (hAg108 12 rfl))) h12), (OwnV.eqv ((hAg125 14 rfl).trans ((hAg118 14 rfl).trans (hAg108 14 rfl))) h14), (OwnV.eqv ((hAg125 15 rfl).trans ((hAg118 15 rfl).trans (hAg108 15 rfl))) h15), (OwnV.eqv ((hAg125 16 rfl).trans ((hAg118 16 rfl).trans (hAg108 16 rfl))) h16), ((hAg125 17 rfl).trans ((hAg118 17 rfl).trans ((hAg108 17 rfl).trans h17))), (OwnV.eqv ((hAg125 18 rfl).trans ((hAg118 18 rfl).trans (hAg108 18 rfl))) h18), ((hAg125 20 rfl).trans ((hAg118 20 rfl).trans ((hAg108 20 rfl).trans h20))), (SlR.eqv ((hAg125 46 rfl).trans ((hAg118 46 rfl).trans (hAg108 46 rfl))) h46), ((hAg125 47 rfl).trans ((hAg118 47 rfl).trans ((hAg108 47 rfl).trans h47))), ((hAg125 48 rfl).trans ((hAg118 48 rfl).trans ((hAg108 48 rfl).trans h48))), hp125, (Apart.eqR ((hAg125 15 rfl).trans ((hAg118 15 rfl).trans (hAg108 15 rfl))) (Apart.eqL ((hAg125 14 rfl).trans ((hAg118 14 rfl).trans (hAg108 14 rfl))) a14o_15o))⟩
        refine Ref.cond (b := fun s => s.t_75) (fun s ρ w ⟨F, hW, g10, h0, h1, h2, h3, p10, h10, h12, h14, h15, h16, h17, h18, h20, h46, h47, h48, h75, a14o_15o⟩ => h75) (Ref.pre (A := G13 w0 F0) ?_ (fun s ρ w h => (fun ⟨F, hW, g10, h0, h1, h2, h3, p10, h10, h12, h14, h15, h16, h17, h18, h20, h46, h47, h48, h75, a14o_15o⟩ => ⟨F, hW, g10, h0, h1, h2, h3, p10, h10, h12, h14, h15, h16, h17, h18, h20, h46, h47, h48, a14o_15o⟩ : G14 w0 F0 s ρ w → G13 w0 F0 s ρ w) h.2)) (Ref.pre (A := G11 w0 F0) ?_ (fun s ρ w h => (fun ⟨F, hW, g10, h0, h1, h2, h3, p10, h10, h12, h14, h15, h16, h17, h18, h20, h46, h47, h48, h75, a14o_15o⟩ => ⟨F, hW, g10, h0, h1, h2, h3, p10, h10, h12, h14, h15, h16, h17, h18, h46, h47, h48, a14o_15o⟩ : G14 w0 F0 s ρ w → G11 w0 F0 s ρ w) h.2))
        · refine Ref.region (fun s ρ w s' h hr => ?_)
          obtain ⟨F, hW, g10, h0, h1, h2, h3, p10, h10, h12, h14, h15, h16, h17, h18, h20, h46, h47, h48, a14o_15o⟩ := h
          refine ol_v (e_mv _ rfl) rfl ?_
          refine ol_v (e_mv _ h20) rfl ?_
          refine ol_e (f_bslF sl_23 hW ([s.t_20] : List Int) [.int .i64 s.t_20] (by exact ⟨_, _, rfl, (val_int _ _), rfl⟩) rfl (Nat.le_of_ble_eq_true rfl) (lcons (congrArg (Prod.mk 0) rfl) rfl)) rfl rfl ?_
          rintro v126 w127 ⟨Fz129, kw1, ho128⟩
          have hW130 := hW.trans kw1
          have st1 := kw1.stp hW.ok
          obtain ⟨x131, hx131, hr⟩ := bind_some' hr
          refine ol_e (f_app sl_23 hW130 (h18.wk kw1 hW.ok) ho128 hx131 rfl rfl) rfl rfl ?_
          rintro v132 w133 ⟨hW134, ho135, hg2, st2, hor136⟩
          refine ol_v (e_as _ rfl) rfl ?_
          obtain rfl := Option.some.inj hr
          exact ol_nil ⟨Fz129, hW134, g10, (h0.keep (st1.trans st2)), (h1.keep (st1.trans st2)), (h2.keep (st1.trans st2)), (h3.keep (st1.trans st2)), p10, ((h10.wk kw1 hW.ok).mut (apart_bo (h10.wk kw1 hW.ok) (h18.wk kw1 hW.ok) rfl).symm hg2 st2), (h12.keep (st1.trans st2)), ((h14.wk kw1 hW.ok).mut (apart_oo (h18.wk kw1 hW.ok) (h14.wk kw1 hW.ok) rfl) hg2 st2), ((h15.wk kw1 hW.ok).mut (apart_oo (h18.wk kw1 hW.ok) (h15.wk kw1 hW.ok) rfl) hg2 st2), ((h16.wk kw1 hW.ok).mut (apart_oo (h18.wk kw1 hW.ok) (h16.wk kw1 hW.ok) rfl) hg2 st2), h17, ho135, (h46.keep (st1.trans st2)), h47, h48, a14o_15o⟩
        · exact Ref.skip
      refine Ref.region (fun s ρ w s' h hr => ?_)
      obtain ⟨F, hW, g10, h0, h1, h2, h3, p10, h10, h12, h14, h15, h16, h17, h18, h46, h47, h48, a14o_15o⟩ := h
      refine ol_v (e_add h48 rfl) rfl ?_
      refine ol_v (e_mv _ rfl) rfl ?_
      obtain rfl := Option.some.inj hr
      exact ol_nil ⟨F, hW, g10, h0, h1, h2, h3, p10, h10, h12, h14, h15, h16, h17, h18, h46, h47, rfl, a14o_15o⟩
    refine Ref.seq (B := G10 w0 F0) ?_ ?_
    · refine Ref.seq (B := G15 w0 F0) ?_ ?_
      · refine Ref.region (fun s ρ w s' h hr => ?_)
        obtain ⟨F, hW, g10, h0, h1, h2, h3, p10, h10, h12, h14, h15, h16, h17, h18, a14o_15o⟩ := h
        refine ol_v (e_mv _ rfl) rfl ?_
        obtain ⟨A137, c138, e139, hc140⟩ := h18.shape
        refine ol_v (e_len (SlT.sl sl_23) e139) rfl ?_
        refine ol_v (e_eql rfl rfl) rfl ?_
        obtain rfl := Option.some.inj hr
        exact ol_nil ⟨F, hW, g10, h0, h1, h2, h3, p10, h10, h12, h14, h15, h16, h17, h18, rfl, a14o_15o⟩
      refine Ref.cond (b := fun s => s.t_83) (fun s ρ w ⟨F, hW, g10, h0, h1, h2, h3, p10, h10, h12, h14, h15, h16, h17, h18, h83, a14o_15o⟩ => h83) (Ref.pre (A := G16 w0 F0) ?_ (fun s ρ w h => (fun ⟨F, hW, g10, h0, h1, h2, h3, p10, h10, h12, h14, h15, h16, h17, h18, h83, a14o_15o⟩ => ⟨F, hW, g10, h0, h3, p10, h10, h14, h16⟩ : G15 w0 F0 s ρ w → G16 w0 F0 s ρ w) h.2)) (Ref.pre (A := G10 w0 F0) ?_ (fun s ρ w h => (fun ⟨F, hW, g10, h0, h1, h2, h3, p10, h10, h12, h14, h15, h16, h17, h18, h83, a14o_15o⟩ => ⟨F, hW, g10, h0, h1, h2, h3, p10, h10, h12, h14, h15, h16, h17, h18, a14o_15o⟩ : G15 w0 F0 s ρ w → G10 w0 F0 s ρ w) h.2))
      · refine Ref.seq (B := G5 w0 F0) ?_ ?_
        · refine Ref.region (fun s ρ w s' h hr => ?_)
          obtain ⟨F, hW, g10, h0, h3, p10, h10, h14, h16⟩ := h
          refine ol_v (e_mv _ rfl) rfl ?_
          refine ol_v (e_mv _ rfl) rfl ?_
          refine ol_v (e_mv _ rfl) rfl ?_
          refine ol_v (e_mv _ rfl) rfl ?_
          obtain ⟨Fl141, okl141, stl141, hFl141, hl141⟩ := OwnV.lent h14 hW.ok
          obtain ⟨x142, hx142, hr⟩ := bind_some' hr
          refine ol_e (f_call [(ρ 0), (ρ 3), (ρ 14)] fn_42 (lcons rfl (lcons rfl (lcons rfl rfl))) (negotiate_missing.calls okl141 (h0.keep stl141) (h3.keep stl141) hl141 hx142)) rfl rfl ?_
          rintro v145 w143 ⟨Fz144, _, rfl, kw1, hk146⟩
          have ko148 := kw1
          have kw1 := kw1.lend hW.ok
          have hW149 := hW.trans kw1
          have st1 := kw1.stp hW.ok
          refine ol_v (e_bld (cells := #[.int .i64 0, .int .i64 0]) bld_26 (vs := []) rfl rfl) rfl ?_
          have hb150 : Val k_Fault F w143 (.agg #[.int .i64 0, .int .i64 0]) (⟨(0 : Int), (0 : Int)⟩ : Fault) := mk_Fault (val_int _ _) (val_int _ _)
          refine ol_v (e_as _ rfl) rfl ?_
          refine ol_v (e_as _ rfl) rfl ?_
          refine ol_eN (f_stB hW149 (h10.wk kw1 hW.ok) (FldS.whole _) ty_26 hb150 p10 rfl) rfl ?_
          rintro - w151 ⟨hW152, ho153, hg2, st2⟩
          obtain rfl := Option.some.inj hr
          exact ol_nil ⟨F, hW152, g10, ((h16.wk kw1 hW.ok).mut (apart_bo (h10.wk kw1 hW.ok) (h16.wk kw1 hW.ok) rfl) hg2 st2), (((OwnV.plain (plain_int _) hk146 hW.ok).base (row := nrow) hW.le).mut (apart_bo (h10.wk kw1 hW.ok) ((OwnV.plain (plain_int _) hk146 hW.ok).base (row := nrow) hW.le) rfl) hg2 st2), p10, ho153⟩
        exact Ref.ret (fun s ρ w h => ⟨s, rfl, h⟩)
      · exact Ref.skip
    refine Ref.seq (B := G17 w0 F0) ?_ ?_
    · refine Ref.region (fun s ρ w s' h hr => ?_)
      obtain ⟨F, hW, g10, h0, h1, h2, h3, p10, h10, h12, h14, h15, h16, h17, h18, a14o_15o⟩ := h
      refine ol_v (e_mv _ rfl) rfl ?_
      refine ol_v (e_mv _ rfl) rfl ?_
      obtain ⟨Fz154, hWz155, st1, hF1, hz156⟩ := (h18).frozen hW
      refine ol_e (f_bslF sl_48 hWz155 ([s.t_18] : List (List Int)) [(ρ 18)] (by exact ⟨_, _, rfl, (val_sl hz156), rfl⟩) rfl (Nat.le_of_ble_eq_true rfl) (lcons (congrArg (Prod.mk 0) rfl) rfl)) rfl rfl ?_
      rintro v157 w158 ⟨Fz160, kw2, ho159⟩
      have hW161 := hWz155.trans kw2
      have st2 := kw2.stp hWz155.ok
      obtain ⟨x162, hx162, hr⟩ := bind_some' hr
      refine ol_e (f_app sl_48 hW161 ((h16.frz (apart_oo h18 h16 rfl) hF1 st1).wk kw2 hWz155.ok) ho159 hx162 rfl rfl) rfl rfl ?_
      rintro v163 w164 ⟨hW165, ho166, hg3, st3, hor167⟩
      refine ol_v (e_as _ rfl) rfl ?_
      obtain rfl := Option.some.inj hr
      exact ol_nil ⟨Fz160, hW165, g10, (h0.keep (st1.trans (st2.trans st3))), (h1.keep (st1.trans (st2.trans st3))), (h2.keep (st1.trans (st2.trans st3))), (h3.keep (st1.trans (st2.trans st3))), p10, (((h10.frz (apart_bo h10 h18 rfl).symm hF1 st1).wk kw2 hWz155.ok).mut (apart_bo ((h10.frz (apart_bo h10 h18 rfl).symm hF1 st1).wk kw2 hWz155.ok) ((h16.frz (apart_oo h18 h16 rfl) hF1 st1).wk kw2 hWz155.ok) rfl).symm hg3 st3), (h12.keep (st1.trans (st2.trans st3))), (((h14.frz (apart_oo h18 h14 rfl) hF1 st1).wk kw2 hWz155.ok).mut (apart_oo ((h16.frz (apart_oo h18 h16 rfl) hF1 st1).wk kw2 hWz155.ok) ((h14.frz (apart_oo h18 h14 rfl) hF1 st1).wk kw2 hWz155.ok) rfl) hg3 st3), (((h15.frz (apart_oo h18 h15 rfl) hF1 st1).wk kw2 hWz155.ok).mut (apart_oo ((h16.frz (apart_oo h18 h16 rfl) hF1 st1).wk kw2 hWz155.ok) ((h15.frz (apart_oo h18 h15 rfl) hF1 st1).wk kw2 hWz155.ok) rfl) hg3 st3), ho166, h17, (hz156.keep (st2.trans st3)), a14o_15o⟩
    refine Ref.seq (B := G18 w0 F0) ?_ ?_
    · refine Ref.region (fun s ρ w s' h hr => ?_)
      obtain ⟨F, hW, g10, h0, h1, h2, h3, p10, h10, h12, h14, h15, h16, h17, h18, a14o_15o⟩ := h
      refine ol_v (e_mv _ rfl) rfl ?_
      obtain ⟨A168, c169, e170, hc171, R172⟩ := id h18
      refine ol_v (e_len (SlT.sl sl_23) e170) rfl ?_
      refine ol_v (e_mv _ rfl) rfl ?_
      obtain rfl := Option.some.inj hr
      exact ol_nil ⟨F, hW, g10, h0, h1, h2, h3, p10, h10, h12, h14, h15, h16, h17, h18, rfl, rfl, a14o_15o⟩
    refine Ref.block ?_
    refine Ref.loop ?_
    refine Ref.seq (B := G19 w0 F0) ?_ ?_
    · refine Ref.region (fun s ρ w s' h hr => ?_)
      obtain ⟨F, hW, g10, h0, h1, h2, h3, p10, h10, h12, h14, h15, h16, h17, h94, h95, h96, a14o_15o⟩ := h
      refine ol_v (e_lss h96 h95) rfl ?_
      obtain rfl := Option.some.inj hr
      exact ol_nil ⟨F, hW, g10, h0, h1, h2, h3, p10, h10, h12, h14, h15, h16, h17, h94, h95, h96, rfl, a14o_15o⟩
    refine Ref.seq (B := G18 w0 F0) ?_ ?_
    · refine Ref.cond (b := fun s => s.t_97) (fun s ρ w ⟨F, hW, g10, h0, h1, h2, h3, p10, h10, h12, h14, h15, h16, h17, h94, h95, h96, h97, a14o_15o⟩ => h97) (Ref.pre (A := G18 w0 F0) ?_ (fun s ρ w h => (fun ⟨F, hW, g10, h0, h1, h2, h3, p10, h10, h12, h14, h15, h16, h17, h94, h95, h96, h97, a14o_15o⟩ => ⟨F, hW, g10, h0, h1, h2, h3, p10, h10, h12, h14, h15, h16, h17, h94, h95, h96, a14o_15o⟩ : G19 w0 F0 s ρ w → G18 w0 F0 s ρ w) h.2)) (Ref.pre (A := G9 w0 F0) ?_ (fun s ρ w h => (fun ⟨F, hW, g10, h0, h1, h2, h3, p10, h10, h12, h14, h15, h16, h17, h94, h95, h96, h97, a14o_15o⟩ => ⟨F, hW, g10, h0, h1, h2, h3, p10, h10, h12, h14, h15, h16, h17, a14o_15o⟩ : G19 w0 F0 s ρ w → G9 w0 F0 s ρ w) h.2))
      · exact Ref.skip
      · exact Ref.exit (fun s ρ w h => h)
    refine Ref.seq (B := G18 w0 F0) ?_ ?_
    · refine Ref.block ?_
      refine Ref.seq (B := G20 w0 F0) ?_ ?_
      · refine Ref.region (fun s ρ w s' h hr => ?_)
        obtain ⟨F, hW, g10, h0, h1, h2, h3, p10, h10, h12, h14, h15, h16, h17, h94, h95, h96, a14o_15o⟩ := h
        obtain ⟨x173, hx173, hr⟩ := bind_some' hr
        obtain ⟨A174, c175, e176, hc177, R178⟩ := id h94
        obtain ⟨b179, o180, hA181, L182⟩ := Row.at_ R178 hx173
        refine ol_v (e_ix (SlT.sl sl_23) (SlT.sz sl_23) hA181 hx173 e176 h96) rfl ?_
        refine ol_v (e_ld ty_3 (LiesV.int L182.at_) rfl) rfl ?_
        refine ol_v (e_as _ rfl) rfl ?_
        obtain rfl := Option.some.inj hr
        exact ol_nil ⟨F, hW, g10, h0, h1, h2, h3, p10, h10, h12, h14, h15, h16, h17, rfl, h94, h95, h96, a14o_15o⟩
      refine Ref.seq (B := G20 w0 F0) ?_ ?_
      · refine Ref.region (fun s ρ w s' h hr => ?_)
        obtain ⟨F, hW, g10, h0, h1, h2, h3, p10, h10, h12, h14, h15, h16, h17, h22, h94, h95, h96, a14o_15o⟩ := h
        refine ol_v (e_mv _ rfl) rfl ?_
        refine ol_v (e_mv _ h22) rfl ?_
        obtain ⟨x183, hx183, hr⟩ := bind_some' hr
        obtain ⟨g184, o185, c186, hv187, L188⟩ := OwnV.at_ h15 hx183
        refine ol_v (e_ixO sl_46 hv187 hx183 rfl rfl) rfl ?_
        refine ol_eN (f_stO hW h15 hx183 (FldS.whole _) ty_4 (val_bool _) hv187 rfl rfl) rfl ?_
        rintro - w189 ⟨hW190, ho191, hg1, st1⟩
        obtain rfl := Option.some.inj hr
        exact ol_nil ⟨F, hW190, g10, (h0.keep st1), (h1.keep st1), (h2.keep st1), (h3.keep st1), p10, (h10.mut (apart_bo h10 h15 rfl).symm hg1 st1), (h12.keep st1), (h14.mut a14o_15o.symm hg1 st1), ho191, (h16.mut (apart_oo h15 h16 rfl) hg1 st1), h17, h22, (h94.keep st1), h95, h96, a14o_15o.symm.symm⟩
      refine Ref.seq (B := G21 w0 F0) ?_ ?_
      · refine Ref.region (fun s ρ w s' h hr => ?_)
        obtain ⟨F, hW, g10, h0, h1, h2, h3, p10, h10, h12, h14, h15, h16, h17, h22, h94, h95, h96, a14o_15o⟩ := h
        refine ol_v (e_mv _ rfl) rfl ?_
        refine ol_v (e_mv _ h22) rfl ?_
        obtain ⟨x192, hx192, hr⟩ := bind_some' hr
        obtain ⟨A193, c194, e195, hc196, R197⟩ := id h1
        obtain ⟨b198, o199, hA200, L201⟩ := Row.at_ R197 hx192
        refine ol_v (e_ix (SlT.sl sl_46) (SlT.sz sl_46) hA200 hx192 e195 rfl) rfl ?_
        refine ol_v (e_ld ty_4 (LiesV.bool L201.at_) rfl) rfl ?_
        obtain rfl := Option.some.inj hr
        exact ol_nil ⟨F, hW, g10, h0, h1, h2, h3, p10, h10, h12, h14, h15, h16, h17, h22, h94, h95, h96, rfl, a14o_15o⟩
      refine Ref.cond (b := fun s => s.t_106) (fun s ρ w ⟨F, hW, g10, h0, h1, h2, h3, p10, h10, h12, h14, h15, h16, h17, h22, h94, h95, h96, h106, a14o_15o⟩ => h106) (Ref.pre (A := G20 w0 F0) ?_ (fun s ρ w h => (fun ⟨F, hW, g10, h0, h1, h2, h3, p10, h10, h12, h14, h15, h16, h17, h22, h94, h95, h96, h106, a14o_15o⟩ => ⟨F, hW, g10, h0, h1, h2, h3, p10, h10, h12, h14, h15, h16, h17, h22, h94, h95, h96, a14o_15o⟩ : G21 w0 F0 s ρ w → G20 w0 F0 s ρ w) h.2)) (Ref.pre (A := G18 w0 F0) ?_ (fun s ρ w h => (fun ⟨F, hW, g10, h0, h1, h2, h3, p10, h10, h12, h14, h15, h16, h17, h22, h94, h95, h96, h106, a14o_15o⟩ => ⟨F, hW, g10, h0, h1, h2, h3, p10, h10, h12, h14, h15, h16, h17, h94, h95, h96, a14o_15o⟩ : G21 w0 F0 s ρ w → G18 w0 F0 s ρ w) h.2))
      · refine Ref.region (fun s ρ w s' h hr => ?_)
        obtain ⟨F, hW, g10, h0, h1, h2, h3, p10, h10, h12, h14, h15, h16, h17, h22, h94, h95, h96, a14o_15o⟩ := h
        refine ol_v (e_mv _ rfl) rfl ?_
        refine ol_v (e_mv _ rfl) rfl ?_
        refine ol_v (e_mv _ h22) rfl ?_
        obtain ⟨x202, hx202, hr⟩ := bind_some' hr
        refine ol_e (f_call [(ρ 0), (ρ 14), .int .i64 s.t_22] fn_44 (lcons rfl (lcons rfl (lcons rfl rfl))) (negotiate_mark.calls hW.ok h0 (OwnV.rebase h14 (fun _ _ => trivial)) s.t_22 hx202)) rfl rfl ?_
        rintro _ w203 ⟨Fz204, rfl, kw1, hk205⟩
        have hB207 := fun g hg => (OwnV.lt h14 (g := g) hg).1
        have st1 := kw1.stpR hW.ok (fun g hg => (OwnV.lt h14 hg).2.1)
        have hW206 := hW.transR kw1 hB207
        obtain rfl := Option.some.inj hr
        exact ol_nil ⟨Fz204, hW206, g10, (h0.keep st1), (h1.keep st1), (h2.keep st1), (h3.keep st1), p10, (h10.wkR (apart_bo h10 h14 rfl).symm kw1 st1), (h12.keep st1), (hk205.rebase hB207), (h15.wkR a14o_15o kw1 st1), (h16.wkR (apart_oo h14 h16 rfl) kw1 st1), h17, (h94.keep st1), h95, h96, a14o_15o⟩
      · exact Ref.skip
    refine Ref.region (fun s ρ w s' h hr => ?_)
    obtain ⟨F, hW, g10, h0, h1, h2, h3, p10, h10, h12, h14, h15, h16, h17, h94, h95, h96, a14o_15o⟩ := h
    refine ol_v (e_add h96 rfl) rfl ?_
    refine ol_v (e_mv _ rfl) rfl ?_
    obtain rfl := Option.some.inj hr
    exact ol_nil ⟨F, hW, g10, h0, h1, h2, h3, p10, h10, h12, h14, h15, h16, h17, h94, h95, rfl, a14o_15o⟩
  refine Ref.region (fun s ρ w s' h hr => ?_)
  obtain ⟨F, hW, g10, h0, h1, h2, h3, p10, h10, h12, h14, h15, h16, h17, a14o_15o⟩ := h
  refine ol_v (e_mv _ h17) rfl ?_
  refine ol_v (e_mul rfl rfl) rfl ?_
  refine ol_v (e_min rfl rfl) rfl ?_
  refine ol_v (e_as _ rfl) rfl ?_
  obtain rfl := Option.some.inj hr
  exact ol_nil ⟨F, hW, g10, h0, h1, h2, h3, p10, h10, h12, h14, h15, h16, rfl, a14o_15o⟩
def post (w : World) (F : BSet) (r : R) (v : Value) (w' : World) : Prop := ∃ (F' : BSet) (v0' : Value) (v1' : Value) (v2' : Value), v = .tuple #[v0', v1', v2'] ∧ Wk nrow w F F' w' ∧ OwnV (kSl (kInt .i64)) 23 (Nw w) F' w' v0' r.1 ∧ OwnV (kInt .i64) 3 (Nw w) F' w' v1' r.2.1 ∧ Val k_Fault F' w' v2' r.2.2
theorem calls {w : World} {F : BSet} (hok : ∀ b, F b → b < w.heap.size) {v0 : Value} {a0 : (List Commit)} (h0 : SlR k_Commit F w v0 a0) {v1 : Value} {a1 : (List Bool)} (h1 : SlR kBool F w v1 a1) {v2 : Value} {a2 : (List Bool)} (h2 : SlR kBool F w v2 a2) {v3 : Value} {a3 : (List Int)} (h3 : SlR (kInt .i64) F w v3 a3) {r : R} (hf : f a0 a1 a2 a3 = some r) : Calls Try.prog 29 #[v0, v1, v2, v3] w fun e w' => ∃ v, e = .returned v ∧ post w F r v w' := by
  obtain ⟨c, hc, href⟩ := ref w F
  refine calls_of_ref (args := [v0, v1, v2, v3]) _ Try.func29 hc rfl rfl href ?_ (retOf_some hf) ?_
  · exact ⟨F, Wk.refl hok, h0, h1, h2, h3⟩
  · rintro ρ w' a ⟨s, rfl, F', hW, g10, h8, h9, p10, h10⟩ hF
    obtain ⟨u10, l10, k10⟩ := res_box (P := Try.prog) ty_26 h10
    refine ⟨_, run_results (rs := [.tmp 8, .tmp 9, .cell 10 26]) rfl hF (vs := [ρ 8, ρ 9, u10]) (⟨_, rfl, ⟨_, rfl, ⟨_, _, _, rfl, p10, l10, rfl⟩⟩⟩), ?_⟩
    exact ⟨F', ρ 8, ρ 9, u10, rfl, hW, h8.rebase (fun g hg => (h8.lt hg).1.resolve_right (fun h => h)), h9.rebase (fun g hg => (h9.lt hg).1.resolve_right (fun h => h)), k10⟩
end
end negotiate_Run

namespace law4_negotiateExample
section
def G0 (w0 : World) (F0 : BSet) (s : S) (ρ : Env) (w : World) : Prop := ∃ (F : BSet), Wk nrow w0 F0 F w
def G1 (w0 : World) (F0 : BSet) (s : S) (ρ : Env) (w : World) : Prop := ∃ (F : BSet), Wk nrow w0 F0 F w ∧ SlR kBool F w (ρ 1) s.all_1 ∧ SlR kBool F w (ρ 2) s.first_2
def G2 (w0 : World) (F0 : BSet) (s : S) (ρ : Env) (w : World) : Prop := ∃ (F : BSet), Wk nrow w0 F0 F w ∧ ∃ (g4 : Nat), SlR kBool F w (ρ 1) s.all_1 ∧ SlR kBool F w (ρ 2) s.first_2 ∧ SlR (kInt .i64) F w (ρ 3) s.m_3 ∧ ρ 4 = .pointer (some ⟨g4, 0, none⟩) ∧ Box k_Fault 26 (Bs w0 nrow) F w g4 s.f_4
def G3 (w0 : World) (F0 : BSet) (s : S) (ρ : Env) (w : World) : Prop := ∃ (F : BSet), Wk nrow w0 F0 F w ∧ ∃ (g4 : Nat) (g7 : Nat), SlR (kInt .i64) F w (ρ 3) s.m_3 ∧ ρ 4 = .pointer (some ⟨g4, 0, none⟩) ∧ Box k_Fault 26 (Bs w0 nrow) F w g4 s.f_4 ∧ SlR (kSl (kInt .i64)) F w (ρ 5) s.r_5 ∧ SlR (kInt .i64) F w (ρ 6) s.sent_6 ∧ ρ 7 = .pointer (some ⟨g7, 0, none⟩) ∧ Box k_Fault 26 (Bs w0 nrow) F w g7 s.g_7 ∧ Apart (some g4) (some g7)
def G4 (w0 : World) (F0 : BSet) (s : S) (ρ : Env) (w : World) : Prop := ∃ (F : BSet), Wk nrow w0 F0 F w ∧ ρ 0 = .bool s.t_0
set_option maxHeartbeats 4000000 in
set_option maxRecDepth 20000 in
theorem ref (w0 : World) (F0 : BSet) : ∃ c, Try.f27.body = some c ∧ Ref Try.prog 57 c (G0 w0 F0) body (fun _ _ _ => False) (fun _ _ _ _ => False) (fun r ρ w => ∃ s, retv s = r ∧ G4 w0 F0 s ρ w) := by
  refine ⟨_, rfl, ?_⟩
  unfold body
  refine Ref.seq (B := G0 w0 F0) ?_ ?_
  · refine Ref.region (fun s ρ w s' h hr => ?_)
    obtain ⟨F, hW⟩ := h
    refine ol_v (e_as _ rfl) rfl ?_
    obtain rfl := Option.some.inj hr
    exact ol_nil ⟨F, hW⟩
  refine Ref.seq (B := G1 w0 F0) ?_ ?_
  · refine Ref.region (fun s ρ w s' h hr => ?_)
    obtain ⟨F, hW⟩ := h
    refine ol_e (f_bslF sl_46 hW ([true, true, true] : List Bool) [.bool true, .bool true, .bool true] (by exact ⟨_, _, rfl, (val_bool _), ⟨_, _, rfl, (val_bool _), ⟨_, _, rfl, (val_bool _), rfl⟩⟩⟩) rfl (Nat.le_of_ble_eq_true rfl) (lcons (congrArg (Prod.mk 0) rfl) (lcons (congrArg (Prod.mk 1) rfl) (lcons (congrArg (Prod.mk 2) rfl) rfl)))) rfl rfl ?_
    rintro v1 w2 ⟨Fz4, kw1, ho3⟩
    have hW5 := hW.trans kw1
    have st1 := kw1.stp hW.ok
    refine ol_e (f_bslF sl_46 hW5 ([true, false, false] : List Bool) [.bool true, .bool false, .bool false] (by exact ⟨_, _, rfl, (val_bool _), ⟨_, _, rfl, (val_bool _), ⟨_, _, rfl, (val_bool _), rfl⟩⟩⟩) rfl (Nat.le_of_ble_eq_true rfl) (lcons (congrArg (Prod.mk 0) rfl) (lcons (congrArg (Prod.mk 1) rfl) (lcons (congrArg (Prod.mk 2) rfl) rfl)))) rfl rfl ?_
    rintro v6 w7 ⟨Fz9, kw2, ho8⟩
    have hW10 := hW5.trans kw2
    have st2 := kw2.stp hW5.ok
    refine ol_v (e_as _ rfl) rfl ?_
    refine ol_v (e_as _ rfl) rfl ?_
    obtain rfl := Option.some.inj hr
    exact ol_nil ⟨Fz9, hW10, (ho3.keep st2), ho8⟩
  refine Ref.seq (B := G2 w0 F0) ?_ ?_
  · refine Ref.region (fun s ρ w s' h hr => ?_)
    obtain ⟨F, hW, h1, h2⟩ := h
    obtain ⟨x11, hx11, hr⟩ := bind_some' hr
    refine ol_e (f_call [.int .i64 (3 : Int)] fn_34 (lcons rfl rfl) (law4_chain.calls hW.ok (3 : Int) hx11)) rfl rfl ?_
    rintro v14 w12 ⟨Fz13, _, rfl, kw1, hk15⟩
    have hW17 := hW.trans kw1
    have st1 := kw1.stp hW.ok
    refine ol_v (e_mv _ rfl) rfl ?_
    refine ol_v (e_mv _ rfl) rfl ?_
    refine ol_e (f_bslF sl_23 hW17 ([(2 : Int)] : List Int) [.int .i64 (2)] (by exact ⟨_, _, rfl, (val_int _ _), rfl⟩) rfl (Nat.le_of_ble_eq_true rfl) (lcons (congrArg (Prod.mk 0) rfl) rfl)) rfl rfl ?_
    rintro v18 w19 ⟨Fz21, kw2, ho20⟩
    have hW22 := hW17.trans kw2
    have st2 := kw2.stp hW17.ok
    obtain ⟨Fl23, okl23, stl23, hFl23, hl23⟩ := OwnV.lent ((hk15.base (row := nrow) hW.le).wk kw2 hW17.ok) hW22.ok
    obtain ⟨x24, hx24, hr⟩ := bind_some' hr
    refine ol_e (f_call [v14, (ρ 1), (ρ 2), v18] fn_28 (lcons rfl (lcons rfl (lcons rfl (lcons rfl rfl)))) (negotiate_Missing.calls okl23 hl23 ((h1.keep (st1.trans st2)).keep stl23) ((h2.keep (st1.trans st2)).keep stl23) (ho20.keep stl23) hx24)) rfl rfl ?_
    rintro _ w25 ⟨Fz26, v27, v29, rfl, kw3, hk28, hk30⟩
    have ko32 := kw3
    have kw3 := kw3.lend hW22.ok
    have hW33 := hW22.trans kw3
    have st3 := kw3.stp hW22.ok
    refine ol_v (e_mv _ rfl) rfl ?_
    refine ol_v (e_ext _ rfl rfl) rfl ?_
    refine ol_v (e_ext _ rfl rfl) rfl ?_
    refine ol_e (f_alloc zer_26 hW33) rfl rfl ?_
    rintro _ w35 ⟨g34, rfl, kw4, ho36⟩
    have hW37 := hW33.trans kw4
    have st4 := kw4.stp hW33.ok
    obtain ⟨Fz38, hWz39, st5, hF5, hz40⟩ := ((((OwnV.plain (plain_int _) hk28 hW22.ok).base (row := nrow) hW22.le).wk kw4 hW33.ok)).frozen hW37
    refine ol_v (e_as _ rfl) rfl ?_
    refine ol_eN (f_stB hWz39 ((ho36.base (row := nrow) hW33.le).frz (apart_bo (ho36.base (row := nrow) hW33.le) (((OwnV.plain (plain_int _) hk28 hW22.ok).base (row := nrow) hW22.le).wk kw4 hW33.ok) rfl).symm hF5 st5) (FldS.whole _) ty_26 ((Val.plain plain_Fault hk30).keep (st4.trans st5)) rfl rfl) rfl ?_
    rintro - w41 ⟨hW42, ho43, hg6, st6⟩
    obtain rfl := Option.some.inj hr
    exact ol_nil ⟨Fz38, hW42, g34, (h1.keep (st1.trans (st2.trans (st3.trans (st4.trans (st5.trans st6)))))), (h2.keep (st1.trans (st2.trans (st3.trans (st4.trans (st5.trans st6)))))), (hz40.keep st6), rfl, ho43⟩
  refine Ref.seq (B := G3 w0 F0) ?_ ?_
  · refine Ref.region (fun s ρ w s' h hr => ?_)
    obtain ⟨F, hW, g4, h1, h2, h3, p4, h4⟩ := h
    obtain ⟨x44, hx44, hr⟩ := bind_some' hr
    refine ol_e (f_call [.int .i64 (3 : Int)] fn_34 (lcons rfl rfl) (law4_chain.calls hW.ok (3 : Int) hx44)) rfl rfl ?_
    rintro v47 w45 ⟨Fz46, _, rfl, kw1, hk48⟩
    have hW50 := hW.trans kw1
    have st1 := kw1.stp hW.ok
    refine ol_v (e_mv _ rfl) rfl ?_
    refine ol_v (e_mv _ rfl) rfl ?_
    refine ol_e (f_bslF sl_23 hW50 ([(2 : Int)] : List Int) [.int .i64 (2)] (by exact ⟨_, _, rfl, (val_int _ _), rfl⟩) rfl (Nat.le_of_ble_eq_true rfl) (lcons (congrArg (Prod.mk 0) rfl) rfl)) rfl rfl ?_
    rintro v51 w52 ⟨Fz54, kw2, ho53⟩
    have hW55 := hW50.trans kw2
    have st2 := kw2.stp hW50.ok
    obtain ⟨Fz56, hWz57, st3, hF3, hz58⟩ := (((hk48.base (row := nrow) hW.le).wk kw2 hW50.ok)).frozen hW55
    obtain ⟨x59, hx59, hr⟩ := bind_some' hr
    refine ol_e (f_call [v47, (ρ 1), (ρ 2), v51] fn_29 (lcons rfl (lcons rfl (lcons rfl (lcons rfl rfl)))) (negotiate_Run.calls hWz57.ok hz58 (h1.keep (st1.trans (st2.trans st3))) (h2.keep (st1.trans (st2.trans st3))) (ho53.keep st3) hx59)) rfl rfl ?_
    rintro _ w60 ⟨Fz61, v62, v64, v66, rfl, kw4, hk63, hk65, hk67⟩
    have hW69 := hWz57.trans kw4
    have st4 := kw4.stp hWz57.ok
    refine ol_v (e_mv _ rfl) rfl ?_
    refine ol_v (e_ext _ rfl rfl) rfl ?_
    refine ol_v (e_ext _ rfl rfl) rfl ?_
    refine ol_v (e_ext _ rfl rfl) rfl ?_
    refine ol_e (f_alloc zer_26 hW69) rfl rfl ?_
    rintro _ w71 ⟨g70, rfl, kw5, ho72⟩
    have hW73 := hW69.trans kw5
    have st5 := kw5.stp hW69.ok
    obtain ⟨Fz74, hWz75, st6, hF6, hz76⟩ := (((hk63.base (row := nrow) hWz57.le).wk kw5 hW69.ok)).frozen hW73
    refine ol_v (e_as _ rfl) rfl ?_
    obtain ⟨Fz77, hWz78, st7, hF7, hz79⟩ := ((((hk65.base (row := nrow) hWz57.le).wk kw5 hW69.ok).frz (apart_oo ((hk63.base (row := nrow) hWz57.le).wk kw5 hW69.ok) ((hk65.base (row := nrow) hWz57.le).wk kw5 hW69.ok) rfl) hF6 st6)).frozen hWz75
    refine ol_v (e_as _ rfl) rfl ?_
    refine ol_eN (f_stB hWz78 (((ho72.base (row := nrow) hW69.le).frz (apart_bo (ho72.base (row := nrow) hW69.le) ((hk63.base (row := nrow) hWz57.le).wk kw5 hW69.ok) rfl).symm hF6 st6).frz (apart_bo ((ho72.base (row := nrow) hW69.le).frz (apart_bo (ho72.base (row := nrow) hW69.le) ((hk63.base (row := nrow) hWz57.le).wk kw5 hW69.ok) rfl).symm hF6 st6) (((hk65.base (row := nrow) hWz57.le).wk kw5 hW69.ok).frz (apart_oo ((hk63.base (row := nrow) hWz57.le).wk kw5 hW69.ok) ((hk65.base (row := nrow) hWz57.le).wk kw5 hW69.ok) rfl) hF6 st6) rfl).symm hF7 st7) (FldS.whole _) ty_26 (hk67.keep (st5.trans (st6.trans st7))) rfl rfl) rfl ?_
    rintro - w80 ⟨hW81, ho82, hg8, st8⟩
    obtain rfl := Option.some.inj hr
    exact ol_nil ⟨Fz77, hW81, g4, g70, (h3.keep (st1.trans (st2.trans (st3.trans (st4.trans (st5.trans (st6.trans (st7.trans st8)))))))), p4, ((((((((h4.wk kw1 hW.ok).wk kw2 hW50.ok).frz (apart_bo ((h4.wk kw1 hW.ok).wk kw2 hW50.ok) ((hk48.base (row := nrow) hW.le).wk kw2 hW50.ok) rfl).symm hF3 st3).wk kw4 hWz57.ok).wk kw5 hW69.ok).frz (apart_bo (((((h4.wk kw1 hW.ok).wk kw2 hW50.ok).frz (apart_bo ((h4.wk kw1 hW.ok).wk kw2 hW50.ok) ((hk48.base (row := nrow) hW.le).wk kw2 hW50.ok) rfl).symm hF3 st3).wk kw4 hWz57.ok).wk kw5 hW69.ok) ((hk63.base (row := nrow) hWz57.le).wk kw5 hW69.ok) rfl).symm hF6 st6).frz (apart_bo ((((((h4.wk kw1 hW.ok).wk kw2 hW50.ok).frz (apart_bo ((h4.wk kw1 hW.ok).wk kw2 hW50.ok) ((hk48.base (row := nrow) hW.le).wk kw2 hW50.ok) rfl).symm hF3 st3).wk kw4 hWz57.ok).wk kw5 hW69.ok).frz (apart_bo (((((h4.wk kw1 hW.ok).wk kw2 hW50.ok).frz (apart_bo ((h4.wk kw1 hW.ok).wk kw2 hW50.ok) ((hk48.base (row := nrow) hW.le).wk kw2 hW50.ok) rfl).symm hF3 st3).wk kw4 hWz57.ok).wk kw5 hW69.ok) ((hk63.base (row := nrow) hWz57.le).wk kw5 hW69.ok) rfl).symm hF6 st6) (((hk65.base (row := nrow) hWz57.le).wk kw5 hW69.ok).frz (apart_oo ((hk63.base (row := nrow) hWz57.le).wk kw5 hW69.ok) ((hk65.base (row := nrow) hWz57.le).wk kw5 hW69.ok) rfl) hF6 st6) rfl).symm hF7 st7).mut (Apart.base (fun _ e_ => by cases e_; exact ho72.ge) ((((h4.wk kw1 hW.ok).wk kw2 hW50.ok).frz (apart_bo ((h4.wk kw1 hW.ok).wk kw2 hW50.ok) ((hk48.base (row := nrow) hW.le).wk kw2 hW50.ok) rfl).symm hF3 st3).wk kw4 hWz57.ok).ltw) hg8 st8), (hz76.keep (st7.trans st8)), (hz79.keep st8), rfl, ho82, (Apart.base (fun _ e_ => by cases e_; exact ho72.ge) ((((h4.wk kw1 hW.ok).wk kw2 hW50.ok).frz (apart_bo ((h4.wk kw1 hW.ok).wk kw2 hW50.ok) ((hk48.base (row := nrow) hW.le).wk kw2 hW50.ok) rfl).symm hF3 st3).wk kw4 hWz57.ok).ltw).symm⟩
  refine Ref.seq (B := G4 w0 F0) ?_ ?_
  · refine Ref.region (fun s ρ w s' h hr => ?_)
    obtain ⟨F, hW, g4, g7, h3, p4, h4, h5, h6, p7, h7, a4b_7b⟩ := h
    refine ol_v (e_fa fa_26_0 p4) rfl ?_
    refine ol_v (e_ld ty_3 (LiesV.int ((h4).at_.fld fl_Fault_0)) rfl) rfl ?_
    refine ol_v (e_eql rfl rfl) rfl ?_
    refine ol_cutA 5 30 34 (fun ρ' w' => w = w' ∧ ρ' 34 = .bool ((decide (s.f_4.Code = (0 : Int))) && (decide (s.g_7.Code = (0 : Int))))) rfl ?_ ?_
    · by_cases hb83 : (decide (s.f_4.Code = (0 : Int))) = true
      · refine ol_v (e_mv _ rfl) rfl ?_
        refine ol_yes rfl rfl (congrArg Value.bool hb83) ?_
        refine ol_v (e_fa fa_26_0 p7) rfl ?_
        refine ol_yes rfl rfl (congrArg Value.bool hb83) ?_
        refine ol_v (e_ld ty_3 (LiesV.int ((h7).at_.fld fl_Fault_0)) rfl) rfl ?_
        refine ol_yes rfl rfl (congrArg Value.bool hb83) ?_
        refine ol_v (e_eql rfl rfl) rfl ?_
        refine ol_v (e_pick true _ (congrArg Value.bool hb83) rfl) rfl ?_
        exact ol_nil ⟨⟨rfl, (bv_and_t hb83)⟩, ((((((Agr.refl _ _ _).upd rfl rfl).upd rfl rfl).upd rfl rfl).upd rfl rfl).upd rfl rfl)⟩
      · have hb84 := Bool.eq_false_iff.mpr hb83
        refine ol_v (e_mv _ rfl) rfl ?_
        refine ol_not rfl rfl rfl (congrArg Value.bool hb84) rfl ?_
        refine ol_not rfl rfl rfl (congrArg Value.bool hb84) rfl ?_
        refine ol_not rfl rfl rfl (congrArg Value.bool hb84) rfl ?_
        refine ol_v (e_pick false _ (congrArg Value.bool hb84) rfl) rfl ?_
        exact ol_nil ⟨⟨rfl, (bv_and_f hb84)⟩, ((((((Agr.refl _ _ _).upd rfl rfl).upd rfl rfl).upd rfl rfl).upd rfl rfl).upd rfl rfl)⟩
    rintro ρ85 _ ⟨⟨rfl, hp85⟩, hAg85⟩
    obtain ⟨x98, hx99, hr⟩ := bind_some' hr
    refine ol_cutA 5 35 39 (fun ρ' w' => ∃ F', Wk nrow w F F' w' ∧ ρ' 39 = .bool x98) rfl ?_ ?_
    · by_cases hb86 : ((decide (s.f_4.Code = (0 : Int))) && (decide (s.g_7.Code = (0 : Int)))) = true
      · have hr := hx99
        rw [if_pos hb86] at hr
        refine ol_v (e_mv _ hp85) rfl ?_
        refine ol_yes rfl rfl (congrArg Value.bool hb86) ?_
        refine ol_v (e_mv _ (hAg85 3 rfl)) rfl ?_
        refine ol_yes rfl rfl (congrArg Value.bool hb86) ?_
        refine ol_e (f_bslF sl_23 hW ([(1 : Int), (2 : Int)] : List Int) [.int .i64 (1), .int .i64 (2)] (by exact ⟨_, _, rfl, (val_int _ _), ⟨_, _, rfl, (val_int _ _), rfl⟩⟩) rfl (Nat.le_of_ble_eq_true rfl) (lcons (congrArg (Prod.mk 0) rfl) (lcons (congrArg (Prod.mk 1) rfl) rfl))) rfl rfl ?_
        rintro v88 w89 ⟨Fz91, kw1, ho90⟩
        have hW92 := hW.trans kw1
        have st1 := kw1.stp hW.ok
        refine ol_yes rfl rfl (congrArg Value.bool hb86) ?_
        obtain ⟨x93, hx93, hr⟩ := bind_some' hr
        refine ol_e (f_call [(ρ 3), v88] fn_17 (lcons rfl (lcons rfl rfl)) (ref3_Ints.calls hW92.ok (h3.keep st1) ho90 hx93)) rfl rfl ?_
        rintro _ w94 ⟨Fz95, rfl, kw2⟩
        have hW97 := hW92.trans kw2
        have st2 := kw2.stp hW92.ok
        refine ol_v (e_pick true _ (congrArg Value.bool hb86) rfl) rfl ?_
        exact ol_nil ⟨⟨_, (kw1.trans kw2), (congrArg Value.bool (Option.some.inj hr))⟩, ((((((Agr.refl _ _ _).upd rfl rfl).upd rfl rfl).upd rfl rfl).upd rfl rfl).upd rfl rfl)⟩
      · have hb87 := Bool.eq_false_iff.mpr hb86
        have hr := hx99
        rw [if_neg hb86] at hr
        refine ol_v (e_mv _ hp85) rfl ?_
        refine ol_not rfl rfl rfl (congrArg Value.bool hb87) rfl ?_
        refine ol_not rfl rfl rfl (congrArg Value.bool hb87) rfl ?_
        refine ol_not rfl rfl rfl (congrArg Value.bool hb87) rfl ?_
        refine ol_v (e_pick false _ (congrArg Value.bool hb87) rfl) rfl ?_
        exact ol_nil ⟨⟨_, Wk.refl hW.ok, (congrArg Value.bool (Option.some.inj hr))⟩, ((((((Agr.refl _ _ _).upd rfl rfl).upd rfl rfl).upd rfl rfl).upd rfl rfl).upd rfl rfl)⟩
    rintro ρ99 w100 ⟨⟨Fz101, kw1, hp99⟩, hAg99⟩
    have hW102 := hW.trans kw1
    have st1 := kw1.stp hW.ok
    obtain ⟨x115, hx116, hr⟩ := bind_some' hr
    refine ol_cutA 5 40 44 (fun ρ' w' => ∃ F', Wk nrow w100 Fz101 F' w' ∧ ρ' 44 = .bool x115) rfl ?_ ?_
    · by_cases hb103 : x98 = true
      · have hr := hx116
        rw [if_pos hb103] at hr
        refine ol_v (e_mv _ hp99) rfl ?_
        refine ol_yes rfl rfl (congrArg Value.bool hb103) ?_
        refine ol_v (e_mv _ ((hAg99 6 rfl).trans (hAg85 6 rfl))) rfl ?_
        refine ol_yes rfl rfl (congrArg Value.bool hb103) ?_
        refine ol_e (f_bslF sl_23 hW102 ([(1 : Int), (2 : Int)] : List Int) [.int .i64 (1), .int .i64 (2)] (by exact ⟨_, _, rfl, (val_int _ _), ⟨_, _, rfl, (val_int _ _), rfl⟩⟩) rfl (Nat.le_of_ble_eq_true rfl) (lcons (congrArg (Prod.mk 0) rfl) (lcons (congrArg (Prod.mk 1) rfl) rfl))) rfl rfl ?_
        rintro v105 w106 ⟨Fz108, kw2, ho107⟩
        have hW109 := hW102.trans kw2
        have st2 := kw2.stp hW102.ok
        refine ol_yes rfl rfl (congrArg Value.bool hb103) ?_
        obtain ⟨x110, hx110, hr⟩ := bind_some' hr
        refine ol_e (f_call [(ρ 6), v105] fn_17 (lcons rfl (lcons rfl rfl)) (ref3_Ints.calls hW109.ok (h6.keep (st1.trans st2)) ho107 hx110)) rfl rfl ?_
        rintro _ w111 ⟨Fz112, rfl, kw3⟩
        have hW114 := hW109.trans kw3
        have st3 := kw3.stp hW109.ok
        refine ol_v (e_pick true _ (congrArg Value.bool hb103) rfl) rfl ?_
        exact ol_nil ⟨⟨_, (kw2.trans kw3), (congrArg Value.bool (Option.some.inj hr))⟩, ((((((Agr.refl _ _ _).upd rfl rfl).upd rfl rfl).upd rfl rfl).upd rfl rfl).upd rfl rfl)⟩
      · have hb104 := Bool.eq_false_iff.mpr hb103
        have hr := hx116
        rw [if_neg hb103] at hr
        refine ol_v (e_mv _ hp99) rfl ?_
        refine ol_not rfl rfl rfl (congrArg Value.bool hb104) rfl ?_
        refine ol_not rfl rfl rfl (congrArg Value.bool hb104) rfl ?_
        refine ol_not rfl rfl rfl (congrArg Value.bool hb104) rfl ?_
        refine ol_v (e_pick false _ (congrArg Value.bool hb104) rfl) rfl ?_
        exact ol_nil ⟨⟨_, Wk.refl hW102.ok, (congrArg Value.bool (Option.some.inj hr))⟩, ((((((Agr.refl _ _ _).upd rfl rfl).upd rfl rfl).upd rfl rfl).upd rfl rfl).upd rfl rfl)⟩
    rintro ρ116 w117 ⟨⟨Fz118, kw2, hp116⟩, hAg116⟩
    have hW119 := hW102.trans kw2
    have st2 := kw2.stp hW102.ok
    refine ol_cutA 5 45 49 (fun ρ' w' => w117 = w' ∧ ρ' 49 = .bool (x115 && (decide ((s.r_5.length : Int) = (1 : Int))))) rfl ?_ ?_
    · by_cases hb120 : x115 = true
      · refine ol_v (e_mv _ hp116) rfl ?_
        refine ol_yes rfl rfl (congrArg Value.bool hb120) ?_
        refine ol_v (e_mv _ ((hAg116 5 rfl).trans ((hAg99 5 rfl).trans (hAg85 5 rfl)))) rfl ?_
        refine ol_yes rfl rfl (congrArg Value.bool hb120) ?_
        obtain ⟨A122, c123, e124, hc125, R126⟩ := id (h5.keep (st1.trans st2))
        refine ol_v (e_len (SlT.sl sl_48) e124) rfl ?_
        refine ol_yes rfl rfl (congrArg Value.bool hb120) ?_
        refine ol_v (e_eql rfl rfl) rfl ?_
        refine ol_v (e_pick true _ (congrArg Value.bool hb120) rfl) rfl ?_
        exact ol_nil ⟨⟨rfl, (bv_and_t hb120)⟩, ((((((Agr.refl _ _ _).upd rfl rfl).upd rfl rfl).upd rfl rfl).upd rfl rfl).upd rfl rfl)⟩
      · have hb121 := Bool.eq_false_iff.mpr hb120
        refine ol_v (e_mv _ hp116) rfl ?_
        refine ol_not rfl rfl rfl (congrArg Value.bool hb121) rfl ?_
        refine ol_not rfl rfl rfl (congrArg Value.bool hb121) rfl ?_
        refine ol_not rfl rfl rfl (congrArg Value.bool hb121) rfl ?_
        refine ol_v (e_pick false _ (congrArg Value.bool hb121) rfl) rfl ?_
        exact ol_nil ⟨⟨rfl, (bv_and_f hb121)⟩, ((((((Agr.refl _ _ _).upd rfl rfl).upd rfl rfl).upd rfl rfl).upd rfl rfl).upd rfl rfl)⟩
    rintro ρ127 _ ⟨⟨rfl, hp127⟩, hAg127⟩
    obtain ⟨x153, hx154, hr⟩ := bind_some' hr
    refine ol_cutA 7 50 56 (fun ρ' w' => ∃ F', Wk nrow w117 Fz118 F' w' ∧ ρ' 56 = .bool x153) rfl ?_ ?_
    · by_cases hb128 : (x115 && (decide ((s.r_5.length : Int) = (1 : Int)))) = true
      · have hr := hx154
        rw [if_pos hb128] at hr
        refine ol_v (e_mv _ hp127) rfl ?_
        refine ol_yes rfl rfl (congrArg Value.bool hb128) ?_
        refine ol_v (e_mv _ ((hAg127 5 rfl).trans ((hAg116 5 rfl).trans ((hAg99 5 rfl).trans (hAg85 5 rfl))))) rfl ?_
        refine ol_yes rfl rfl (congrArg Value.bool hb128) ?_
        obtain ⟨x130, hx130, hr⟩ := bind_some' hr
        obtain ⟨A131, c132, e133, hc134, R135⟩ := id (h5.keep (st1.trans st2))
        obtain ⟨b136, o137, hA138, L139⟩ := Row.at_ R135 hx130
        refine ol_v (e_ix (SlT.sl sl_48) (SlT.sz sl_48) hA138 hx130 e133 rfl) rfl ?_
        refine ol_yes rfl rfl (congrArg Value.bool hb128) ?_
        obtain ⟨v140, hl141, hs142⟩ := LiesV.sl L139.at_
        refine ol_v (e_ld ty_23 hl141 rfl) rfl ?_
        refine ol_yes rfl rfl (congrArg Value.bool hb128) ?_
        refine ol_e (f_bslF sl_23 hW119 ([(0 : Int)] : List Int) [.int .i64 (0)] (by exact ⟨_, _, rfl, (val_int _ _), rfl⟩) rfl (Nat.le_of_ble_eq_true rfl) (lcons (congrArg (Prod.mk 0) rfl) rfl)) rfl rfl ?_
        rintro v143 w144 ⟨Fz146, kw3, ho145⟩
        have hW147 := hW119.trans kw3
        have st3 := kw3.stp hW119.ok
        refine ol_yes rfl rfl (congrArg Value.bool hb128) ?_
        obtain ⟨x148, hx148, hr⟩ := bind_some' hr
        refine ol_e (f_call [v140, v143] fn_17 (lcons rfl (lcons rfl rfl)) (ref3_Ints.calls hW147.ok (hs142.keep st3) ho145 hx148)) rfl rfl ?_
        rintro _ w149 ⟨Fz150, rfl, kw4⟩
        have hW152 := hW147.trans kw4
        have st4 := kw4.stp hW147.ok
        refine ol_v (e_pick true _ (congrArg Value.bool hb128) rfl) rfl ?_
        exact ol_nil ⟨⟨_, (kw3.trans kw4), (congrArg Value.bool (Option.some.inj hr))⟩, ((((((((Agr.refl _ _ _).upd rfl rfl).upd rfl rfl).upd rfl rfl).upd rfl rfl).upd rfl rfl).upd rfl rfl).upd rfl rfl)⟩
      · have hb129 := Bool.eq_false_iff.mpr hb128
        have hr := hx154
        rw [if_neg hb128] at hr
        refine ol_v (e_mv _ hp127) rfl ?_
        refine ol_not rfl rfl rfl (congrArg Value.bool hb129) rfl ?_
        refine ol_not rfl rfl rfl (congrArg Value.bool hb129) rfl ?_
        refine ol_not rfl rfl rfl (congrArg Value.bool hb129) rfl ?_
        refine ol_not rfl rfl rfl (congrArg Value.bool hb129) rfl ?_
        refine ol_not rfl rfl rfl (congrArg Value.bool hb129) rfl ?_
        refine ol_v (e_pick false _ (congrArg Value.bool hb129) rfl) rfl ?_
        exact ol_nil ⟨⟨_, Wk.refl hW119.ok, (congrArg Value.bool (Option.some.inj hr))⟩, ((((((((Agr.refl _ _ _).upd rfl rfl).upd rfl rfl).upd rfl rfl).upd rfl rfl).upd rfl rfl).upd rfl rfl).upd rfl rfl)⟩
    rintro ρ154 w155 ⟨⟨Fz156, kw3, hp154⟩, hAg154⟩
    have hW157 := hW119.trans kw3
    have st3 := kw3.stp hW119.ok
    refine ol_v (e_as _ hp154) rfl ?_
    obtain rfl := Option.some.inj hr
    exact ol_nil ⟨Fz156, hW157, rfl⟩
  exact Ref.ret (fun s ρ w h => ⟨s, rfl, h⟩)
def post (w : World) (F : BSet) (r : R) (v : Value) (w' : World) : Prop := ∃ (F' : BSet), v = .bool r ∧ Wk nrow w F F' w'
theorem calls {w : World} {F : BSet} (hok : ∀ b, F b → b < w.heap.size)  {r : R} (hf : f  = some r) : Calls Try.prog 27 #[] w fun e w' => ∃ v, e = .returned v ∧ post w F r v w' := by
  obtain ⟨c, hc, href⟩ := ref w F
  refine calls_of_ref (args := []) _ Try.func27 hc rfl rfl href ?_ (retOf_some hf) ?_
  · exact ⟨F, Wk.refl hok⟩
  · rintro ρ w' a ⟨s, rfl, F', hW, h0⟩ hF
    refine ⟨_, run_results (rs := [.tmp 0]) rfl hF (vs := [ρ 0]) (⟨_, rfl, rfl⟩), ?_⟩
    have hv : resVal [ρ 0] = .bool s.t_0 := by rw [h0]; rfl
    exact ⟨F', hv, hW⟩
end
end law4_negotiateExample

end Go.Proofs.Ytilodamhgepjoaa
