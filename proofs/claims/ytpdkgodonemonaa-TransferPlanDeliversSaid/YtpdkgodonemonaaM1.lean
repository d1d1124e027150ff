/- The machine's calls come to these plain functions (written by a program, wip/fx/gen.py). -/
import Derived.Test.YtpdkgodonemonaaPA
import Derived.Test.YtpdkgodonemonaaNm
import Derived.Test.YtpdkgodonemonaaM0
import Derived.Test.YtpdkgodonemonaaIt
import Derived.Test.YtpdkgodonemonaaSl
namespace Go.Proofs.Ytpdkgodonemonaa
open Go.Fx Go.RowKit
set_option linter.unusedVariables false

namespace slices_Concat_byte_byte
section
def G0 (w0 : World) (F0 : BSet) (s : S) (ρ : Env) (w : World) : Prop := ∃ (F : BSet), Wk nrow w0 F0 F w ∧ SlR (kSl kByte) F w (ρ 0) s.slices_0
def G1 (w0 : World) (F0 : BSet) (s : S) (ρ : Env) (w : World) : Prop := ∃ (F : BSet), Wk nrow w0 F0 F w ∧ SlR (kSl kByte) F w (ρ 0) s.slices_0 ∧ ρ 3 = .int .i64 s.size_3
def G2 (w0 : World) (F0 : BSet) (s : S) (ρ : Env) (w : World) : Prop := ∃ (F : BSet), Wk nrow w0 F0 F w ∧ SlR (kSl kByte) F w (ρ 0) s.slices_0 ∧ ρ 3 = .int .i64 s.size_3 ∧ SlR (kSl kByte) F w (ρ 9) s.t_9 ∧ ρ 10 = .int .i64 s.t_10 ∧ ρ 11 = .int .i64 s.t_11
def G3 (w0 : World) (F0 : BSet) (s : S) (ρ : Env) (w : World) : Prop := ∃ (F : BSet), Wk nrow w0 F0 F w ∧ SlR (kSl kByte) F w (ρ 0) s.slices_0 ∧ ρ 3 = .int .i64 s.size_3 ∧ SlR (kSl kByte) F w (ρ 9) s.t_9 ∧ ρ 10 = .int .i64 s.t_10 ∧ ρ 11 = .int .i64 s.t_11 ∧ ρ 12 = .bool s.t_12
def G4 (w0 : World) (F0 : BSet) (s : S) (ρ : Env) (w : World) : Prop := ∃ (F : BSet), Wk nrow w0 F0 F w ∧ SlR (kSl kByte) F w (ρ 0) s.slices_0 ∧ ρ 3 = .int .i64 s.size_3 ∧ SlR kByte F w (ρ 5) s.s_5 ∧ SlR (kSl kByte) F w (ρ 9) s.t_9 ∧ ρ 10 = .int .i64 s.t_10 ∧ ρ 11 = .int .i64 s.t_11
def G5 (w0 : World) (F0 : BSet) (s : S) (ρ : Env) (w : World) : Prop := ∃ (F : BSet), Wk nrow w0 F0 F w ∧ SlR (kSl kByte) F w (ρ 0) s.slices_0 ∧ ρ 3 = .int .i64 s.size_3 ∧ SlR (kSl kByte) F w (ρ 9) s.t_9 ∧ ρ 10 = .int .i64 s.t_10 ∧ ρ 11 = .int .i64 s.t_11 ∧ ρ 20 = .bool s.t_20
def G6 (w0 : World) (F0 : BSet) (s : S) (ρ : Env) (w : World) : Prop := ∃ (F : BSet), Wk nrow w0 F0 F w ∧ SlR (kSl kByte) F w (ρ 0) s.slices_0 ∧ OwnV kByte 5 (Bs w0 nrow) F w (ρ 6) s.newslice_6
def G7 (w0 : World) (F0 : BSet) (s : S) (ρ : Env) (w : World) : Prop := ∃ (F : BSet), Wk nrow w0 F0 F w ∧ OwnV kByte 5 (Bs w0 nrow) F w (ρ 6) s.newslice_6 ∧ SlR (kSl kByte) F w (ρ 25) s.t_25 ∧ ρ 26 = .int .i64 s.t_26 ∧ ρ 27 = .int .i64 s.t_27
def G8 (w0 : World) (F0 : BSet) (s : S) (ρ : Env) (w : World) : Prop := ∃ (F : BSet), Wk nrow w0 F0 F w ∧ OwnV kByte 5 (Bs w0 nrow) F w (ρ 6) s.newslice_6 ∧ SlR (kSl kByte) F w (ρ 25) s.t_25 ∧ ρ 26 = .int .i64 s.t_26 ∧ ρ 27 = .int .i64 s.t_27 ∧ ρ 28 = .bool s.t_28
def G9 (w0 : World) (F0 : BSet) (s : S) (ρ : Env) (w : World) : Prop := ∃ (F : BSet), Wk nrow w0 F0 F w ∧ OwnV kByte 5 (Bs w0 nrow) F w (ρ 6) s.newslice_6
def G10 (w0 : World) (F0 : BSet) (s : S) (ρ : Env) (w : World) : Prop := ∃ (F : BSet), Wk nrow w0 F0 F w ∧ OwnV kByte 5 (Bs w0 nrow) F w (ρ 6) s.newslice_6 ∧ SlR kByte F w (ρ 8) s.s_8 ∧ SlR (kSl kByte) F w (ρ 25) s.t_25 ∧ ρ 26 = .int .i64 s.t_26 ∧ ρ 27 = .int .i64 s.t_27
def G11 (w0 : World) (F0 : BSet) (s : S) (ρ : Env) (w : World) : Prop := ∃ (F : BSet), Wk nrow w0 F0 F w ∧ OwnV kByte 5 (Bs w0 nrow) F w (ρ 2) s.t_2
set_option maxHeartbeats 4000000 in
set_option maxRecDepth 20000 in
theorem ref (w0 : World) (F0 : BSet) : ∃ c, Try.f22.body = some c ∧ Ref Try.prog 36 c (G0 w0 F0) body (fun _ _ _ => False) (fun _ _ _ _ => False) (fun r ρ w => ∃ s, retv s = r ∧ G11 w0 F0 s ρ w) := by
  refine ⟨_, rfl, ?_⟩
  unfold body
  refine Ref.seq (B := G0 w0 F0) ?_ ?_
  · refine Ref.region (fun s ρ w s' h hr => ?_)
    obtain ⟨F, hW, h0⟩ := h
    refine ol_v (e_as _ rfl) rfl ?_
    obtain rfl := Option.some.inj hr
    exact ol_nil ⟨F, hW, h0⟩
  refine Ref.seq (B := G1 w0 F0) ?_ ?_
  · refine Ref.region (fun s ρ w s' h hr => ?_)
    obtain ⟨F, hW, h0⟩ := h
    refine ol_v (e_as _ rfl) rfl ?_
    obtain rfl := Option.some.inj hr
    exact ol_nil ⟨F, hW, h0, rfl⟩
  refine Ref.seq (B := G1 w0 F0) ?_ ?_
  · refine Ref.seq (B := G2 w0 F0) ?_ ?_
    · refine Ref.region (fun s ρ w s' h hr => ?_)
      obtain ⟨F, hW, h0, h3⟩ := h
      refine ol_v (e_mv _ rfl) rfl ?_
      obtain ⟨A1, c2, e3, hc4, R5⟩ := id h0
      refine ol_v (e_len (SlT.sl sl_25) e3) rfl ?_
      refine ol_v (e_mv _ rfl) rfl ?_
      obtain rfl := Option.some.inj hr
      exact ol_nil ⟨F, hW, h0, h3, h0, rfl, rfl⟩
    refine Ref.block ?_
    refine Ref.loop ?_
    refine Ref.seq (B := G3 w0 F0) ?_ ?_
    · refine Ref.region (fun s ρ w s' h hr => ?_)
      obtain ⟨F, hW, h0, h3, h9, h10, h11⟩ := h
      refine ol_v (e_lss h11 h10) rfl ?_
      obtain rfl := Option.some.inj hr
      exact ol_nil ⟨F, hW, h0, h3, h9, h10, h11, rfl⟩
    refine Ref.seq (B := G2 w0 F0) ?_ ?_
    · refine Ref.cond (b := fun s => s.t_12) (fun s ρ w ⟨F, hW, h0, h3, h9, h10, h11, h12⟩ => h12) (Ref.pre (A := G2 w0 F0) ?_ (fun s ρ w h => (fun ⟨F, hW, h0, h3, h9, h10, h11, h12⟩ => ⟨F, hW, h0, h3, h9, h10, h11⟩ : G3 w0 F0 s ρ w → G2 w0 F0 s ρ w) h.2)) (Ref.pre (A := G1 w0 F0) ?_ (fun s ρ w h => (fun ⟨F, hW, h0, h3, h9, h10, h11, h12⟩ => ⟨F, hW, h0, h3⟩ : G3 w0 F0 s ρ w → G1 w0 F0 s ρ w) h.2))
      · exact Ref.skip
      · exact Ref.exit (fun s ρ w h => h)
    refine Ref.seq (B := G2 w0 F0) ?_ ?_
    · refine Ref.block ?_
      refine Ref.seq (B := G4 w0 F0) ?_ ?_
      · refine Ref.region (fun s ρ w s' h hr => ?_)
        obtain ⟨F, hW, h0, h3, h9, h10, h11⟩ := h
        obtain ⟨x6, hx6, hr⟩ := bind_some' hr
        obtain ⟨A7, c8, e9, hc10, R11⟩ := id h9
        obtain ⟨b12, o13, hA14, L15⟩ := Row.at_ R11 hx6
        refine ol_v (e_ix (SlT.sl sl_25) (SlT.sz sl_25) hA14 hx6 e9 h11) rfl ?_
        obtain ⟨v16, hl17, hs18⟩ := LiesV.sl L15.at_
        refine ol_v (e_ld ty_22 hl17 rfl) rfl ?_
        refine ol_v (e_as _ rfl) rfl ?_
        obtain rfl := Option.some.inj hr
        exact ol_nil ⟨F, hW, h0, h3, hs18, h9, h10, h11⟩
      refine Ref.seq (B := G2 w0 F0) ?_ ?_
      · refine Ref.region (fun s ρ w s' h hr => ?_)
        obtain ⟨F, hW, h0, h3, h5, h9, h10, h11⟩ := h
        refine ol_v (e_mv _ h3) rfl ?_
        refine ol_v (e_mv _ rfl) rfl ?_
        obtain ⟨A19, c20, e21, hc22, R23⟩ := id h5
        refine ol_v (e_len (SlT.sl sl_22) e21) rfl ?_
        refine ol_v (e_add rfl rfl) rfl ?_
        refine ol_v (e_as _ rfl) rfl ?_
        obtain rfl := Option.some.inj hr
        exact ol_nil ⟨F, hW, h0, rfl, h9, h10, h11⟩
      refine Ref.seq (B := G5 w0 F0) ?_ ?_
      · refine Ref.region (fun s ρ w s' h hr => ?_)
        obtain ⟨F, hW, h0, h3, h9, h10, h11⟩ := h
        refine ol_v (e_mv _ h3) rfl ?_
        refine ol_v (e_lss rfl rfl) rfl ?_
        obtain rfl := Option.some.inj hr
        exact ol_nil ⟨F, hW, h0, h3, h9, h10, h11, rfl⟩
      refine Ref.cond (b := fun s => s.t_20) (fun s ρ w ⟨F, hW, h0, h3, h9, h10, h11, h20⟩ => h20) (Ref.pre (A := G2 w0 F0) ?_ (fun s ρ w h => (fun ⟨F, hW, h0, h3, h9, h10, h11, h20⟩ => ⟨F, hW, h0, h3, h9, h10, h11⟩ : G5 w0 F0 s ρ w → G2 w0 F0 s ρ w) h.2)) (Ref.pre (A := G2 w0 F0) ?_ (fun s ρ w h => (fun ⟨F, hW, h0, h3, h9, h10, h11, h20⟩ => ⟨F, hW, h0, h3, h9, h10, h11⟩ : G5 w0 F0 s ρ w → G2 w0 F0 s ρ w) h.2))
      · refine Ref.region (fun s ρ w s' h hr => ?_)
        cases hr
      · exact Ref.skip
    refine Ref.region (fun s ρ w s' h hr => ?_)
    obtain ⟨F, hW, h0, h3, h9, h10, h11⟩ := h
    refine ol_v (e_add h11 rfl) rfl ?_
    refine ol_v (e_mv _ rfl) rfl ?_
    obtain rfl := Option.some.inj hr
    exact ol_nil ⟨F, hW, h0, h3, h9, h10, rfl⟩
  refine Ref.seq (B := G6 w0 F0) ?_ ?_
  · refine Ref.region (fun s ρ w s' h hr => ?_)
    obtain ⟨F, hW, h0, h3⟩ := h
    refine ol_v (e_mv _ h3) rfl ?_
    obtain ⟨x24, hx24, hr⟩ := bind_some' hr
    refine ol_e (f_call [.slice none 0 0, .int .i64 s.size_3] fn_26 (lcons rfl (lcons rfl rfl)) (Grow.calls hW.ok (SlR.nil kByte _ _) s.size_3 hx24)) rfl rfl ?_
    rintro v27 w25 ⟨Fz26, _, rfl, kw1, hk28⟩
    have hW30 := hW.trans kw1
    have st1 := kw1.stp hW.ok
    refine ol_v (e_as _ rfl) rfl ?_
    obtain rfl := Option.some.inj hr
    exact ol_nil ⟨Fz26, hW30, (h0.keep st1), (hk28.base (row := nrow) hW.le)⟩
  refine Ref.seq (B := G9 w0 F0) ?_ ?_
  · refine Ref.seq (B := G7 w0 F0) ?_ ?_
    · refine Ref.region (fun s ρ w s' h hr => ?_)
      obtain ⟨F, hW, h0, h6⟩ := h
      refine ol_v (e_mv _ rfl) rfl ?_
      obtain ⟨A31, c32, e33, hc34, R35⟩ := id h0
      refine ol_v (e_len (SlT.sl sl_25) e33) rfl ?_
      refine ol_v (e_mv _ rfl) rfl ?_
      obtain rfl := Option.some.inj hr
      exact ol_nil ⟨F, hW, h6, h0, rfl, rfl⟩
    refine Ref.block ?_
    refine Ref.loop ?_
    refine Ref.seq (B := G8 w0 F0) ?_ ?_
    · refine Ref.region (fun s ρ w s' h hr => ?_)
      obtain ⟨F, hW, h6, h25, h26, h27⟩ := h
      refine ol_v (e_lss h27 h26) rfl ?_
      obtain rfl := Option.some.inj hr
      exact ol_nil ⟨F, hW, h6, h25, h26, h27, rfl⟩
    refine Ref.seq (B := G7 w0 F0) ?_ ?_
    · refine Ref.cond (b := fun s => s.t_28) (fun s ρ w ⟨F, hW, h6, h25, h26, h27, h28⟩ => h28) (Ref.pre (A := G7 w0 F0) ?_ (fun s ρ w h => (fun ⟨F, hW, h6, h25, h26, h27, h28⟩ => ⟨F, hW, h6, h25, h26, h27⟩ : G8 w0 F0 s ρ w → G7 w0 F0 s ρ w) h.2)) (Ref.pre (A := G9 w0 F0) ?_ (fun s ρ w h => (fun ⟨F, hW, h6, h25, h26, h27, h28⟩ => ⟨F, hW, h6⟩ : G8 w0 F0 s ρ w → G9 w0 F0 s ρ w) h.2))
      · exact Ref.skip
      · exact Ref.exit (fun s ρ w h => h)
    refine Ref.seq (B := G7 w0 F0) ?_ ?_
    · refine Ref.block ?_
      refine Ref.seq (B := G10 w0 F0) ?_ ?_
      · refine Ref.region (fun s ρ w s' h hr => ?_)
        obtain ⟨F, hW, h6, h25, h26, h27⟩ := h
        obtain ⟨x36, hx36, hr⟩ := bind_some' hr
        obtain ⟨A37, c38, e39, hc40, R41⟩ := id h25
        obtain ⟨b42, o43, hA44, L45⟩ := Row.at_ R41 hx36
        refine ol_v (e_ix (SlT.sl sl_25) (SlT.sz sl_25) hA44 hx36 e39 h27) rfl ?_
        obtain ⟨v46, hl47, hs48⟩ := LiesV.sl L45.at_
        refine ol_v (e_ld ty_22 hl47 rfl) rfl ?_
        refine ol_v (e_as _ rfl) rfl ?_
        obtain rfl := Option.some.inj hr
        exact ol_nil ⟨F, hW, h6, hs48, h25, h26, h27⟩
      refine Ref.region (fun s ρ w s' h hr => ?_)
      obtain ⟨F, hW, h6, h8, h25, h26, h27⟩ := h
      refine ol_v (e_mv _ rfl) rfl ?_
      refine ol_v (e_mv _ rfl) rfl ?_
      obtain ⟨x49, hx49, hr⟩ := bind_some' hr
      refine ol_e (f_app sl_22 hW h6 h8 hx49 rfl rfl) rfl rfl ?_
      rintro v50 w51 ⟨hW52, ho53, hg1, st1, hor54⟩
      refine ol_v (e_as _ rfl) rfl ?_
      obtain rfl := Option.some.inj hr
      exact ol_nil ⟨F, hW52, ho53, (h25.keep st1), h26, h27⟩
    refine Ref.region (fun s ρ w s' h hr => ?_)
    obtain ⟨F, hW, h6, h25, h26, h27⟩ := h
    refine ol_v (e_add h27 rfl) rfl ?_
    refine ol_v (e_mv _ rfl) rfl ?_
    obtain rfl := Option.some.inj hr
    exact ol_nil ⟨F, hW, h6, h25, h26, rfl⟩
  refine Ref.seq (B := G11 w0 F0) ?_ ?_
  · refine Ref.region (fun s ρ w s' h hr => ?_)
    obtain ⟨F, hW, h6⟩ := h
    refine ol_v (e_mv _ rfl) rfl ?_
    refine ol_v (e_as _ rfl) rfl ?_
    obtain rfl := Option.some.inj hr
    exact ol_nil ⟨F, hW, h6⟩
  exact Ref.ret (fun s ρ w h => ⟨s, rfl, h⟩)
def post (w : World) (F : BSet) (r : R) (v : Value) (w' : World) : Prop := ∃ (F' : BSet) (v0' : Value), v = v0' ∧ Wk nrow w F F' w' ∧ OwnV kByte 5 (Nw w) F' w' v0' r
theorem calls {w : World} {F : BSet} (hok : ∀ b, F b → b < w.heap.size) {v0 : Value} {a0 : (List (List UInt8))} (h0 : SlR (kSl kByte) F w v0 a0) {r : R} (hf : f a0 = some r) : Calls Try.prog 22 #[v0] w fun e w' => ∃ v, e = .returned v ∧ post w F r v w' := by
  obtain ⟨c, hc, href⟩ := ref w F
  refine calls_of_ref (args := [v0]) _ Try.func22 hc rfl rfl href ?_ (retOf_some hf) ?_
  · exact ⟨F, Wk.refl hok, h0⟩
  · rintro ρ w' a ⟨s, rfl, F', hW, h2⟩ hF
    refine ⟨_, run_results (rs := [.tmp 2]) rfl hF (vs := [ρ 2]) (⟨_, rfl, rfl⟩), ?_⟩
    exact ⟨F', ρ 2, rfl, hW, h2.rebase (fun g hg => (h2.lt hg).1.resolve_right (fun h => h))⟩
end
end slices_Concat_byte_byte

namespace transfer_Run
section
def G0 (w0 : World) (F0 : BSet) (s : S) (ρ : Env) (w : World) : Prop := ∃ (F : BSet), Wk nrow w0 F0 F w ∧ SlR kByte F w (ρ 0) s.data_0 ∧ SlR k_LinkEvent F w (ρ 1) s.events_1
def G1 (w0 : World) (F0 : BSet) (s : S) (ρ : Env) (w : World) : Prop := ∃ (F : BSet), Wk nrow w0 F0 F w ∧ ∃ (g6 : Nat), SlR kByte F w (ρ 0) s.data_0 ∧ SlR k_LinkEvent F w (ρ 1) s.events_1 ∧ ρ 6 = .pointer (some ⟨g6, 0, none⟩) ∧ Box k_Fault 27 (Bs w0 nrow) F w g6 s.f_6
def G2 (w0 : World) (F0 : BSet) (s : S) (ρ : Env) (w : World) : Prop := ∃ (F : BSet), Wk nrow w0 F0 F w ∧ ∃ (g6 : Nat), SlR k_LinkEvent F w (ρ 1) s.events_1 ∧ ρ 6 = .pointer (some ⟨g6, 0, none⟩) ∧ Box k_Fault 27 (Bs w0 nrow) F w g6 s.f_6 ∧ SlR (kSl kByte) F w (ρ 7) s.frames_7
def G3 (w0 : World) (F0 : BSet) (s : S) (ρ : Env) (w : World) : Prop := ∃ (F : BSet), Wk nrow w0 F0 F w ∧ ∃ (g6 : Nat), SlR k_LinkEvent F w (ρ 1) s.events_1 ∧ ρ 6 = .pointer (some ⟨g6, 0, none⟩) ∧ Box k_Fault 27 (Bs w0 nrow) F w g6 s.f_6 ∧ SlR (kSl kByte) F w (ρ 7) s.frames_7 ∧ ρ 19 = .bool s.t_19
def G4 (w0 : World) (F0 : BSet) (s : S) (ρ : Env) (w : World) : Prop := ∃ (F : BSet), Wk nrow w0 F0 F w ∧ ∃ (g6 : Nat), ρ 6 = .pointer (some ⟨g6, 0, none⟩) ∧ Box k_Fault 27 (Bs w0 nrow) F w g6 s.f_6
def G5 (w0 : World) (F0 : BSet) (s : S) (ρ : Env) (w : World) : Prop := ∃ (F : BSet), Wk nrow w0 F0 F w ∧ ∃ (g6 : Nat), OwnV kByte 5 (Bs w0 nrow) F w (ρ 4) s.received_4 ∧ ρ 5 = .int .i64 s.acked_5 ∧ ρ 6 = .pointer (some ⟨g6, 0, none⟩) ∧ Box k_Fault 27 (Bs w0 nrow) F w g6 s.f_6
def G6 (w0 : World) (F0 : BSet) (s : S) (ρ : Env) (w : World) : Prop := ∃ (F : BSet), Wk nrow w0 F0 F w ∧ ∃ (g6 : Nat), SlR k_LinkEvent F w (ρ 1) s.events_1 ∧ ρ 6 = .pointer (some ⟨g6, 0, none⟩) ∧ Box k_Fault 27 (Bs w0 nrow) F w g6 s.f_6 ∧ SlR (kSl kByte) F w (ρ 7) s.frames_7 ∧ ρ 23 = .bool s.t_23
def G7 (w0 : World) (F0 : BSet) (s : S) (ρ : Env) (w : World) : Prop := ∃ (F : BSet), Wk nrow w0 F0 F w ∧ ∃ (g6 : Nat) (g8 : Nat) (v8_1 : Value) (v8_2 : Value), SlR k_LinkEvent F w (ρ 1) s.events_1 ∧ ρ 6 = .pointer (some ⟨g6, 0, none⟩) ∧ Box k_Fault 27 (Bs w0 nrow) F w g6 s.f_6 ∧ SlR (kSl kByte) F w (ρ 7) s.frames_7 ∧ ρ 8 = .pointer (some ⟨g8, 0, none⟩) ∧ Box k_Transfer_link_r 56 (Bs w0 nrow) F w g8 (⟨s.k_8.frames, v8_1, v8_2, s.k_8.count, s.k_8.acked⟩ : Transfer_link_r) ∧ OwnV (kInt .i64) 3 (Bs w0 nrow) F w v8_1 s.k_8.sent ∧ OwnV (kInt .i64) 3 (Bs w0 nrow) F w v8_2 s.k_8.acks ∧ Apart v8_1.ownBlock v8_2.ownBlock
def G8 (w0 : World) (F0 : BSet) (s : S) (ρ : Env) (w : World) : Prop := ∃ (F : BSet), Wk nrow w0 F0 F w ∧ ∃ (g6 : Nat) (g8 : Nat) (v8_1 : Value) (v8_2 : Value), ρ 6 = .pointer (some ⟨g6, 0, none⟩) ∧ Box k_Fault 27 (Bs w0 nrow) F w g6 s.f_6 ∧ SlR (kSl kByte) F w (ρ 7) s.frames_7 ∧ ρ 8 = .pointer (some ⟨g8, 0, none⟩) ∧ Box k_Transfer_link_r 56 (Bs w0 nrow) F w g8 (⟨s.k_8.frames, v8_1, v8_2, s.k_8.count, s.k_8.acked⟩ : Transfer_link_r) ∧ OwnV (kInt .i64) 3 (Bs w0 nrow) F w v8_1 s.k_8.sent ∧ OwnV (kInt .i64) 3 (Bs w0 nrow) F w v8_2 s.k_8.acks ∧ SlR k_LinkEvent F w (ρ 28) s.t_28 ∧ ρ 29 = .int .i64 s.t_29 ∧ ρ 30 = .int .i64 s.t_30 ∧ Apart v8_1.ownBlock v8_2.ownBlock
def G9 (w0 : World) (F0 : BSet) (s : S) (ρ : Env) (w : World) : Prop := ∃ (F : BSet), Wk nrow w0 F0 F w ∧ ∃ (g6 : Nat) (g8 : Nat) (v8_1 : Value) (v8_2 : Value), ρ 6 = .pointer (some ⟨g6, 0, none⟩) ∧ Box k_Fault 27 (Bs w0 nrow) F w g6 s.f_6 ∧ SlR (kSl kByte) F w (ρ 7) s.frames_7 ∧ ρ 8 = .pointer (some ⟨g8, 0, none⟩) ∧ Box k_Transfer_link_r 56 (Bs w0 nrow) F w g8 (⟨s.k_8.frames, v8_1, v8_2, s.k_8.count, s.k_8.acked⟩ : Transfer_link_r) ∧ OwnV (kInt .i64) 3 (Bs w0 nrow) F w v8_1 s.k_8.sent ∧ OwnV (kInt .i64) 3 (Bs w0 nrow) F w v8_2 s.k_8.acks ∧ SlR k_LinkEvent F w (ρ 28) s.t_28 ∧ ρ 29 = .int .i64 s.t_29 ∧ ρ 30 = .int .i64 s.t_30 ∧ ρ 31 = .bool s.t_31 ∧ Apart v8_1.ownBlock v8_2.ownBlock
def G10 (w0 : World) (F0 : BSet) (s : S) (ρ : Env) (w : World) : Prop := ∃ (F : BSet), Wk nrow w0 F0 F w ∧ ∃ (g6 : Nat) (g8 : Nat) (v8_1 : Value) (v8_2 : Value), ρ 6 = .pointer (some ⟨g6, 0, none⟩) ∧ Box k_Fault 27 (Bs w0 nrow) F w g6 s.f_6 ∧ SlR (kSl kByte) F w (ρ 7) s.frames_7 ∧ ρ 8 = .pointer (some ⟨g8, 0, none⟩) ∧ Box k_Transfer_link_r 56 (Bs w0 nrow) F w g8 (⟨s.k_8.frames, v8_1, v8_2, s.k_8.count, s.k_8.acked⟩ : Transfer_link_r) ∧ OwnV (kInt .i64) 3 (Bs w0 nrow) F w v8_1 s.k_8.sent ∧ OwnV (kInt .i64) 3 (Bs w0 nrow) F w v8_2 s.k_8.acks ∧ Apart v8_1.ownBlock v8_2.ownBlock
def G11 (w0 : World) (F0 : BSet) (s : S) (ρ : Env) (w : World) : Prop := ∃ (F : BSet), Wk nrow w0 F0 F w ∧ ∃ (g6 : Nat) (g8 : Nat) (v8_1 : Value) (v8_2 : Value) (g10 : Nat), ρ 6 = .pointer (some ⟨g6, 0, none⟩) ∧ Box k_Fault 27 (Bs w0 nrow) F w g6 s.f_6 ∧ SlR (kSl kByte) F w (ρ 7) s.frames_7 ∧ ρ 8 = .pointer (some ⟨g8, 0, none⟩) ∧ Box k_Transfer_link_r 56 (Bs w0 nrow) F w g8 (⟨s.k_8.frames, v8_1, v8_2, s.k_8.count, s.k_8.acked⟩ : Transfer_link_r) ∧ OwnV (kInt .i64) 3 (Bs w0 nrow) F w v8_1 s.k_8.sent ∧ OwnV (kInt .i64) 3 (Bs w0 nrow) F w v8_2 s.k_8.acks ∧ ρ 9 = .int .i64 s.i_9 ∧ ρ 10 = .pointer (some ⟨g10, 0, none⟩) ∧ Box k_LinkEvent 48 (Bs w0 nrow) F w g10 s.e_10 ∧ SlR k_LinkEvent F w (ρ 28) s.t_28 ∧ ρ 29 = .int .i64 s.t_29 ∧ ρ 30 = .int .i64 s.t_30 ∧ Apart v8_1.ownBlock v8_2.ownBlock
def G12 (w0 : World) (F0 : BSet) (s : S) (ρ : Env) (w : World) : Prop := ∃ (F : BSet), Wk nrow w0 F0 F w ∧ ∃ (g6 : Nat) (g8 : Nat) (v8_1 : Value) (v8_2 : Value), ρ 6 = .pointer (some ⟨g6, 0, none⟩) ∧ Box k_Fault 27 (Bs w0 nrow) F w g6 s.f_6 ∧ SlR (kSl kByte) F w (ρ 7) s.frames_7 ∧ ρ 8 = .pointer (some ⟨g8, 0, none⟩) ∧ Box k_Transfer_link_r 56 (Bs w0 nrow) F w g8 (⟨s.k_8.frames, v8_1, v8_2, s.k_8.count, s.k_8.acked⟩ : Transfer_link_r) ∧ OwnV (kInt .i64) 3 (Bs w0 nrow) F w v8_1 s.k_8.sent ∧ OwnV (kInt .i64) 3 (Bs w0 nrow) F w v8_2 s.k_8.acks ∧ ρ 9 = .int .i64 s.i_9 ∧ ρ 11 = .int .i64 s.code_11 ∧ SlR k_LinkEvent F w (ρ 28) s.t_28 ∧ ρ 29 = .int .i64 s.t_29 ∧ ρ 30 = .int .i64 s.t_30 ∧ Apart v8_1.ownBlock v8_2.ownBlock
def G13 (w0 : World) (F0 : BSet) (s : S) (ρ : Env) (w : World) : Prop := ∃ (F : BSet), Wk nrow w0 F0 F w ∧ ∃ (g6 : Nat) (g8 : Nat) (v8_1 : Value) (v8_2 : Value), ρ 6 = .pointer (some ⟨g6, 0, none⟩) ∧ Box k_Fault 27 (Bs w0 nrow) F w g6 s.f_6 ∧ SlR (kSl kByte) F w (ρ 7) s.frames_7 ∧ ρ 8 = .pointer (some ⟨g8, 0, none⟩) ∧ Box k_Transfer_link_r 56 (Bs w0 nrow) F w g8 (⟨s.k_8.frames, v8_1, v8_2, s.k_8.count, s.k_8.acked⟩ : Transfer_link_r) ∧ OwnV (kInt .i64) 3 (Bs w0 nrow) F w v8_1 s.k_8.sent ∧ OwnV (kInt .i64) 3 (Bs w0 nrow) F w v8_2 s.k_8.acks ∧ ρ 9 = .int .i64 s.i_9 ∧ ρ 11 = .int .i64 s.code_11 ∧ SlR k_LinkEvent F w (ρ 28) s.t_28 ∧ ρ 29 = .int .i64 s.t_29 ∧ ρ 30 = .int .i64 s.t_30 ∧ ρ 39 = .bool s.t_39 ∧ Apart v8_1.ownBlock v8_2.ownBlock
def G14 (w0 : World) (F0 : BSet) (s : S) (ρ : Env) (w : World) : Prop := ∃ (F : BSet), Wk nrow w0 F0 F w ∧ ∃ (g6 : Nat), ρ 6 = .pointer (some ⟨g6, 0, none⟩) ∧ Box k_Fault 27 (Bs w0 nrow) F w g6 s.f_6 ∧ ρ 9 = .int .i64 s.i_9 ∧ ρ 11 = .int .i64 s.code_11
set_option maxHeartbeats 4000000 in
set_option maxRecDepth 20000 in
theorem ref (w0 : World) (F0 : BSet) : ∃ c, Try.f10.body = some c ∧ Ref Try.prog 56 c (G0 w0 F0) body (fun _ _ _ => False) (fun _ _ _ _ => False) (fun r ρ w => ∃ s, retv s = r ∧ G5 w0 F0 s ρ w) := by
  refine ⟨_, rfl, ?_⟩
  unfold body
  refine Ref.seq (B := G1 w0 F0) ?_ ?_
  · refine Ref.region (fun s ρ w s' h hr => ?_)
    obtain ⟨F, hW, h0, h1⟩ := h
    refine ol_v (e_as _ rfl) rfl ?_
    refine ol_v (e_as _ rfl) rfl ?_
    refine ol_e (f_alloc zer_27 hW) rfl rfl ?_
    rintro _ w2 ⟨g1, rfl, kw1, ho3⟩
    have hW4 := hW.trans kw1
    have st1 := kw1.stp hW.ok
    obtain rfl := Option.some.inj hr
    exact ol_nil ⟨F, hW4, g1, (h0.keep st1), (h1.keep st1), rfl, (ho3.base (row := nrow) hW.le)⟩
  refine Ref.seq (B := G2 w0 F0) ?_ ?_
  · refine Ref.region (fun s ρ w s' h hr => ?_)
    obtain ⟨F, hW, g6, h0, h1, p6, h6⟩ := h
    refine ol_v (e_mv _ rfl) rfl ?_
    obtain ⟨x5, hx5, hr⟩ := bind_some' hr
    refine ol_e (f_call [(ρ 0)] fn_9 (lcons rfl rfl) (transfer_Frames.calls hW.ok h0 hx5)) rfl rfl ?_
    rintro _ w6 ⟨Fz7, v8, v10, rfl, kw1, hk9, hk11⟩
    have hW13 := hW.trans kw1
    have st1 := kw1.stp hW.ok
    refine ol_v (e_mv _ rfl) rfl ?_
    refine ol_v (e_ext _ rfl rfl) rfl ?_
    refine ol_v (e_ext _ rfl rfl) rfl ?_
    obtain ⟨Fz14, hWz15, st2, hF2, hz16⟩ := ((hk9.base (row := nrow) hW.le)).frozen hW13
    refine ol_v (e_as _ rfl) rfl ?_
    refine ol_eN (f_stB hWz15 ((h6.wk kw1 hW.ok).frz (apart_bo (h6.wk kw1 hW.ok) (hk9.base (row := nrow) hW.le) rfl).symm hF2 st2) (FldS.whole _) ty_27 (hk11.keep st2) p6 rfl) rfl ?_
    rintro - w17 ⟨hW18, ho19, hg3, st3⟩
    obtain rfl := Option.some.inj hr
    exact ol_nil ⟨Fz14, hW18, g6, (h1.keep (st1.trans (st2.trans st3))), p6, ho19, (hz16.keep st3)⟩
  refine Ref.seq (B := G2 w0 F0) ?_ ?_
  · refine Ref.seq (B := G3 w0 F0) ?_ ?_
    · refine Ref.region (fun s ρ w s' h hr => ?_)
      obtain ⟨F, hW, g6, h1, p6, h6, h7⟩ := h
      obtain ⟨v20, hl21⟩ := LiesAt.v (h6).at_
      refine ol_v (e_ld ty_27 hl21 p6) rfl ?_
      refine ol_v (e_bld (cells := #[.int .i64 0, .int .i64 0]) bld_27 (vs := []) rfl rfl) rfl ?_
      have hb22 : Val k_Fault F w (.agg #[.int .i64 0, .int .i64 0]) (⟨(0 : Int), (0 : Int)⟩ : Fault) := mk_Fault (val_int _ _) (val_int _ _)
      refine ol_v (e_tneq (eq_Fault_27 hl21.val hb22) rfl rfl) rfl ?_
      obtain rfl := Option.some.inj hr
      exact ol_nil ⟨F, hW, g6, h1, p6, h6, h7, rfl⟩
    refine Ref.cond (b := fun s => s.t_19) (fun s ρ w ⟨F, hW, g6, h1, p6, h6, h7, h19⟩ => h19) (Ref.pre (A := G4 w0 F0) ?_ (fun s ρ w h => (fun ⟨F, hW, g6, h1, p6, h6, h7, h19⟩ => ⟨F, hW, g6, p6, h6⟩ : G3 w0 F0 s ρ w → G4 w0 F0 s ρ w) h.2)) (Ref.pre (A := G2 w0 F0) ?_ (fun s ρ w h => (fun ⟨F, hW, g6, h1, p6, h6, h7, h19⟩ => ⟨F, hW, g6, h1, p6, h6, h7⟩ : G3 w0 F0 s ρ w → G2 w0 F0 s ρ w) h.2))
    · refine Ref.seq (B := G5 w0 F0) ?_ ?_
      · refine Ref.regionD 3 (by kernel_rfl) (by kernel_rfl) (fun s ρ w ⟨F, hW, g6, p6, h6⟩ => ⟨F, hW.drewS, g6, p6, h6.wk (Wk.drew (row := nrow) hW.ok) hW.ok⟩) (fun s ρ w s' h hr => ?_)
        obtain ⟨F, hW, g6, p6, h6⟩ := h
        obtain ⟨v23, hl24⟩ := LiesAt.v (h6).at_
        refine ol_v (e_ld ty_27 hl24 p6) rfl ?_
        refine ol_v (e_as _ rfl) rfl ?_
        refine ol_v (e_as _ rfl) rfl ?_
        refine ol_eN (f_stB hW h6 (FldS.whole _) ty_27 hl24.val p6 rfl) rfl ?_
        rintro - w25 ⟨hW26, ho27, hg1, st1⟩
        obtain rfl := Option.some.inj hr
        exact ol_nil ⟨F, hW26, g6, ((OwnV.nil kByte 5 (Bs w0 nrow) F w).mut (apart_bo h6 (OwnV.nil kByte 5 (Bs w0 nrow) F w) rfl) hg1 st1), rfl, p6, ho27⟩
      exact Ref.ret (fun s ρ w h => ⟨s, rfl, h⟩)
    · exact Ref.skip
  refine Ref.seq (B := G2 w0 F0) ?_ ?_
  · refine Ref.seq (B := G6 w0 F0) ?_ ?_
    · refine Ref.region (fun s ρ w s' h hr => ?_)
      obtain ⟨F, hW, g6, h1, p6, h6, h7⟩ := h
      refine ol_v (e_mv _ rfl) rfl ?_
      obtain ⟨A28, c29, e30, hc31, R32⟩ := id h1
      refine ol_v (e_len (SlT.sl sl_23) e30) rfl ?_
      refine ol_v (e_gtr rfl rfl) rfl ?_
      obtain rfl := Option.some.inj hr
      exact ol_nil ⟨F, hW, g6, h1, p6, h6, h7, rfl⟩
    refine Ref.cond (b := fun s => s.t_23) (fun s ρ w ⟨F, hW, g6, h1, p6, h6, h7, h23⟩ => h23) (Ref.pre (A := G4 w0 F0) ?_ (fun s ρ w h => (fun ⟨F, hW, g6, h1, p6, h6, h7, h23⟩ => ⟨F, hW, g6, p6, h6⟩ : G6 w0 F0 s ρ w → G4 w0 F0 s ρ w) h.2)) (Ref.pre (A := G2 w0 F0) ?_ (fun s ρ w h => (fun ⟨F, hW, g6, h1, p6, h6, h7, h23⟩ => ⟨F, hW, g6, h1, p6, h6, h7⟩ : G6 w0 F0 s ρ w → G2 w0 F0 s ρ w) h.2))
    · refine Ref.seq (B := G5 w0 F0) ?_ ?_
      · refine Ref.region (fun s ρ w s' h hr => ?_)
        obtain ⟨F, hW, g6, p6, h6⟩ := h
        refine ol_v (e_bld (cells := #[.int .i64 (2), .int .i64 (-2)]) bld_27 (vs := [(0, .int .i64 (2)), (1, .int .i64 (-2))]) (lcons (congrArg (Prod.mk 0) rfl) (lcons (congrArg (Prod.mk 1) rfl) rfl)) rfl) rfl ?_
        have hb33 : Val k_Fault F w (.agg #[.int .i64 (2), .int .i64 (-2)]) (⟨(2 : Int), (-2 : Int)⟩ : Fault) := mk_Fault (val_int _ _) (val_int _ _)
        refine ol_v (e_as _ rfl) rfl ?_
        refine ol_v (e_as _ rfl) rfl ?_
        refine ol_eN (f_stB hW h6 (FldS.whole _) ty_27 hb33 p6 rfl) rfl ?_
        rintro - w34 ⟨hW35, ho36, hg1, st1⟩
        obtain rfl := Option.some.inj hr
        exact ol_nil ⟨F, hW35, g6, ((OwnV.nil kByte 5 (Bs w0 nrow) F w).mut (apart_bo h6 (OwnV.nil kByte 5 (Bs w0 nrow) F w) rfl) hg1 st1), rfl, p6, ho36⟩
      exact Ref.ret (fun s ρ w h => ⟨s, rfl, h⟩)
    · exact Ref.skip
  refine Ref.seq (B := G7 w0 F0) ?_ ?_
  · refine Ref.region (fun s ρ w s' h hr => ?_)
    obtain ⟨F, hW, g6, h1, p6, h6, h7⟩ := h
    refine ol_v (e_mv _ rfl) rfl ?_
    obtain ⟨A37, c38, e39, hc40, R41⟩ := id h7
    refine ol_v (e_bld (cells := #[.slice A37 s.frames_7.length c38, (Value.slice none 0 0), (Value.slice none 0 0), .int .i64 0, .int .i64 0]) bld_56 (vs := [(0, .slice A37 s.frames_7.length c38)]) (lcons (congrArg (Prod.mk 0) e39) rfl) rfl) rfl ?_
    have hb42 : Val k_Transfer_link_r F w (.agg #[.slice A37 s.frames_7.length c38, (Value.slice none 0 0), (Value.slice none 0 0), .int .i64 0, .int .i64 0]) (⟨s.frames_7, (Value.slice none 0 0), (Value.slice none 0 0), (0 : Int), (0 : Int)⟩ : Transfer_link_r) := mk_Transfer_link_r (val_sl ⟨A37, c38, rfl, hc40, R41⟩) (OwnV.raw (OwnV.nil (kInt .i64) 3 (Bs w0 nrow) F w)) (OwnV.raw (OwnV.nil (kInt .i64) 3 (Bs w0 nrow) F w)) (val_int _ _) (val_int _ _)
    refine ol_e (f_box (k := k_Transfer_link_r) hW rfl hb42) rfl rfl ?_
    rintro _ w44 ⟨g43, rfl, kw1, ho45⟩
    have hW46 := hW.trans kw1
    have st1 := kw1.stp hW.ok
    refine ol_v (e_as _ rfl) rfl ?_
    obtain rfl := Option.some.inj hr
    exact ol_nil ⟨F, hW46, g6, g43, (Value.slice none 0 0), (Value.slice none 0 0), (h1.keep st1), p6, (h6.wk kw1 hW.ok), (h7.keep st1), rfl, (ho45.base (row := nrow) hW.le), ((OwnV.nil (kInt .i64) 3 (Bs w0 nrow) F w).wk kw1 hW.ok), ((OwnV.nil (kInt .i64) 3 (Bs w0 nrow) F w).wk kw1 hW.ok), (Apart.none _)⟩
  refine Ref.seq (B := G10 w0 F0) ?_ ?_
  · refine Ref.seq (B := G8 w0 F0) ?_ ?_
    · refine Ref.region (fun s ρ w s' h hr => ?_)
      obtain ⟨F, hW, g6, g8, v8_1, v8_2, h1, p6, h6, h7, p8, b8, h8_1, h8_2, a81_82⟩ := h
      refine ol_v (e_mv _ rfl) rfl ?_
      obtain ⟨A47, c48, e49, hc50, R51⟩ := id h1
      refine ol_v (e_len (SlT.sl sl_23) e49) rfl ?_
      refine ol_v (e_mv _ rfl) rfl ?_
      obtain rfl := Option.some.inj hr
      exact ol_nil ⟨F, hW, g6, g8, v8_1, v8_2, p6, h6, h7, p8, b8, h8_1, h8_2, h1, rfl, rfl, a81_82⟩
    refine Ref.block ?_
    refine Ref.loop ?_
    refine Ref.seq (B := G9 w0 F0) ?_ ?_
    · refine Ref.region (fun s ρ w s' h hr => ?_)
      obtain ⟨F, hW, g6, g8, v8_1, v8_2, p6, h6, h7, p8, b8, h8_1, h8_2, h28, h29, h30, a81_82⟩ := h
      refine ol_v (e_lss h30 h29) rfl ?_
      obtain rfl := Option.some.inj hr
      exact ol_nil ⟨F, hW, g6, g8, v8_1, v8_2, p6, h6, h7, p8, b8, h8_1, h8_2, h28, h29, h30, rfl, a81_82⟩
    refine Ref.seq (B := G8 w0 F0) ?_ ?_
    · refine Ref.cond (b := fun s => s.t_31) (fun s ρ w ⟨F, hW, g6, g8, v8_1, v8_2, p6, h6, h7, p8, b8, h8_1, h8_2, h28, h29, h30, h31, a81_82⟩ => h31) (Ref.pre (A := G8 w0 F0) ?_ (fun s ρ w h => (fun ⟨F, hW, g6, g8, v8_1, v8_2, p6, h6, h7, p8, b8, h8_1, h8_2, h28, h29, h30, h31, a81_82⟩ => ⟨F, hW, g6, g8, v8_1, v8_2, p6, h6, h7, p8, b8, h8_1, h8_2, h28, h29, h30, a81_82⟩ : G9 w0 F0 s ρ w → G8 w0 F0 s ρ w) h.2)) (Ref.pre (A := G10 w0 F0) ?_ (fun s ρ w h => (fun ⟨F, hW, g6, g8, v8_1, v8_2, p6, h6, h7, p8, b8, h8_1, h8_2, h28, h29, h30, h31, a81_82⟩ => ⟨F, hW, g6, g8, v8_1, v8_2, p6, h6, h7, p8, b8, h8_1, h8_2, a81_82⟩ : G9 w0 F0 s ρ w → G10 w0 F0 s ρ w) h.2))
      · exact Ref.skip
      · exact Ref.exit (fun s ρ w h => h)
    refine Ref.seq (B := G8 w0 F0) ?_ ?_
    · refine Ref.block ?_
      refine Ref.seq (B := G11 w0 F0) ?_ ?_
      · refine Ref.region (fun s ρ w s' h hr => ?_)
        obtain ⟨F, hW, g6, g8, v8_1, v8_2, p6, h6, h7, p8, b8, h8_1, h8_2, h28, h29, h30, a81_82⟩ := h
        refine ol_v (e_mv _ h30) rfl ?_
        obtain ⟨x52, hx52, hr⟩ := bind_some' hr
        obtain ⟨A53, c54, e55, hc56, R57⟩ := id h28
        obtain ⟨b58, o59, hA60, L61⟩ := Row.at_ R57 hx52
        refine ol_v (e_ix (SlT.sl sl_23) (SlT.sz sl_23) hA60 hx52 e55 h30) rfl ?_
        obtain ⟨v62, hl63⟩ := LiesAt.v L61.at_
        refine ol_v (e_ld ty_48 hl63 rfl) rfl ?_
        refine ol_e (f_alloc zer_48 hW) rfl rfl ?_
        rintro _ w65 ⟨g64, rfl, kw1, ho66⟩
        have hW67 := hW.trans kw1
        have st1 := kw1.stp hW.ok
        refine ol_v (e_as _ rfl) rfl ?_
        refine ol_eN (f_stB hW67 (ho66.base (row := nrow) hW.le) (FldS.whole _) ty_48 (hl63.val.keep st1) rfl rfl) rfl ?_
        rintro - w68 ⟨hW69, ho70, hg2, st2⟩
        obtain rfl := Option.some.inj hr
        exact ol_nil ⟨F, hW69, g6, g8, v8_1, v8_2, g64, p6, ((h6.wk kw1 hW.ok).mut (apart_bb (ho66.base (row := nrow) hW.le) (h6.wk kw1 hW.ok) rfl) hg2 st2), (h7.keep (st1.trans st2)), p8, ((b8.wk kw1 hW.ok).mut (apart_bb (ho66.base (row := nrow) hW.le) (b8.wk kw1 hW.ok) rfl) hg2 st2), ((h8_1.wk kw1 hW.ok).mut (apart_bo (ho66.base (row := nrow) hW.le) (h8_1.wk kw1 hW.ok) rfl) hg2 st2), ((h8_2.wk kw1 hW.ok).mut (apart_bo (ho66.base (row := nrow) hW.le) (h8_2.wk kw1 hW.ok) rfl) hg2 st2), rfl, rfl, ho70, (h28.keep (st1.trans st2)), h29, h30, a81_82⟩
      refine Ref.seq (B := G12 w0 F0) ?_ ?_
      · refine Ref.region (fun s ρ w s' h hr => ?_)
        obtain ⟨F, hW, g6, g8, v8_1, v8_2, g10, p6, h6, h7, p8, b8, h8_1, h8_2, h9, p10, h10, h28, h29, h30, a81_82⟩ := h
        refine ol_v (e_mv _ p8) rfl ?_
        obtain ⟨v71, hl72⟩ := LiesAt.v (h10).at_
        refine ol_v (e_ld ty_48 hl72 p10) rfl ?_
        obtain ⟨x73, hx73, hr⟩ := bind_some' hr
        refine ol_e (f_call [.pointer (some ⟨g8, 0, none⟩), v71] fn_21 (lcons rfl (lcons rfl rfl)) (transfer_link_do.calls hW.ok (a0 := s.k_8) (Box.rebase b8 trivial) (OwnV.rebase h8_1 (fun _ _ => trivial)) (OwnV.rebase h8_2 (fun _ _ => trivial)) a81_82 hl72.val hx73)) rfl rfl ?_
        rintro _ w74 ⟨Fz75, v76, v77, rfl, kw1, hk78, hk79, hk80, ha81⟩
        have hB83 : ∀ g_, rowL [(some g8), v8_1.ownBlock, v8_2.ownBlock] g_ → Bs w0 nrow g_ := (rowL_cons (fun g_ e_ => by cases e_; exact (b8).ge) (rowL_cons (fun g_ hg_ => (OwnV.lt h8_1 hg_).1) (rowL_cons (fun g_ hg_ => (OwnV.lt h8_2 hg_).1) rowL_nil)))
        have st1 := kw1.stpR hW.ok (rowL_cons (fun g_ e_ => by cases e_; exact (b8).nF) (rowL_cons (fun g_ hg_ => (OwnV.lt h8_1 hg_).2.1) (rowL_cons (fun g_ hg_ => (OwnV.lt h8_2 hg_).2.1) rowL_nil)))
        have hW82 := hW.transR kw1 hB83
        refine ol_v (e_as _ rfl) rfl ?_
        obtain rfl := Option.some.inj hr
        exact ol_nil ⟨Fz75, hW82, g6, g8, v76, v77, p6, (h6.wkR (rowL_cons (apart_bb b8 h6 rfl) (rowL_cons (apart_bo h6 h8_1 rfl).symm (rowL_cons (apart_bo h6 h8_2 rfl).symm rowL_nil))) kw1 st1), (h7.keep st1), p8, (hk78.rebase (Or.elim (hk78.ge) (fun h_ => .inl (Nat.le_trans hW.le h_)) (fun h_ => hB83 _ h_))), (hk79.rebase (fun g_ hg_ => (hk79.lt hg_).1.elim (fun h_ => .inl (Nat.le_trans hW.le h_)) (fun h_ => hB83 g_ h_))), (hk80.rebase (fun g_ hg_ => (hk80.lt hg_).1.elim (fun h_ => .inl (Nat.le_trans hW.le h_)) (fun h_ => hB83 g_ h_))), h9, rfl, (h28.keep st1), h29, h30, ha81⟩
      refine Ref.seq (B := G13 w0 F0) ?_ ?_
      · refine Ref.region (fun s ρ w s' h hr => ?_)
        obtain ⟨F, hW, g6, g8, v8_1, v8_2, p6, h6, h7, p8, b8, h8_1, h8_2, h9, h11, h28, h29, h30, a81_82⟩ := h
        refine ol_v (e_mv _ h11) rfl ?_
        refine ol_v (e_neq rfl rfl) rfl ?_
        obtain rfl := Option.some.inj hr
        exact ol_nil ⟨F, hW, g6, g8, v8_1, v8_2, p6, h6, h7, p8, b8, h8_1, h8_2, h9, h11, h28, h29, h30, rfl, a81_82⟩
      refine Ref.cond (b := fun s => s.t_39) (fun s ρ w ⟨F, hW, g6, g8, v8_1, v8_2, p6, h6, h7, p8, b8, h8_1, h8_2, h9, h11, h28, h29, h30, h39, a81_82⟩ => h39) (Ref.pre (A := G14 w0 F0) ?_ (fun s ρ w h => (fun ⟨F, hW, g6, g8, v8_1, v8_2, p6, h6, h7, p8, b8, h8_1, h8_2, h9, h11, h28, h29, h30, h39, a81_82⟩ => ⟨F, hW, g6, p6, h6, h9, h11⟩ : G13 w0 F0 s ρ w → G14 w0 F0 s ρ w) h.2)) (Ref.pre (A := G8 w0 F0) ?_ (fun s ρ w h => (fun ⟨F, hW, g6, g8, v8_1, v8_2, p6, h6, h7, p8, b8, h8_1, h8_2, h9, h11, h28, h29, h30, h39, a81_82⟩ => ⟨F, hW, g6, g8, v8_1, v8_2, p6, h6, h7, p8, b8, h8_1, h8_2, h28, h29, h30, a81_82⟩ : G13 w0 F0 s ρ w → G8 w0 F0 s ρ w) h.2))
      · refine Ref.seq (B := G5 w0 F0) ?_ ?_
        · refine Ref.region (fun s ρ w s' h hr => ?_)
          obtain ⟨F, hW, g6, p6, h6, h9, h11⟩ := h
          refine ol_v (e_mv _ h11) rfl ?_
          refine ol_v (e_mv _ h9) rfl ?_
          refine ol_v (e_bld (cells := #[.int .i64 s.code_11, .int .i64 s.i_9]) bld_27 (vs := [(0, .int .i64 s.code_11), (1, .int .i64 s.i_9)]) (lcons (congrArg (Prod.mk 0) rfl) (lcons (congrArg (Prod.mk 1) rfl) rfl)) rfl) rfl ?_
          have hb84 : Val k_Fault F w (.agg #[.int .i64 s.code_11, .int .i64 s.i_9]) (⟨s.code_11, s.i_9⟩ : Fault) := mk_Fault (val_int _ _) (val_int _ _)
          refine ol_v (e_as _ rfl) rfl ?_
          refine ol_v (e_as _ rfl) rfl ?_
          refine ol_eN (f_stB hW h6 (FldS.whole _) ty_27 hb84 p6 rfl) rfl ?_
          rintro - w85 ⟨hW86, ho87, hg1, st1⟩
          obtain rfl := Option.some.inj hr
          exact ol_nil ⟨F, hW86, g6, ((OwnV.nil kByte 5 (Bs w0 nrow) F w).mut (apart_bo h6 (OwnV.nil kByte 5 (Bs w0 nrow) F w) rfl) hg1 st1), rfl, p6, ho87⟩
        exact Ref.ret (fun s ρ w h => ⟨s, rfl, h⟩)
      · exact Ref.skip
    refine Ref.region (fun s ρ w s' h hr => ?_)
    obtain ⟨F, hW, g6, g8, v8_1, v8_2, p6, h6, h7, p8, b8, h8_1, h8_2, h28, h29, h30, a81_82⟩ := h
    refine ol_v (e_add h30 rfl) rfl ?_
    refine ol_v (e_mv _ rfl) rfl ?_
    obtain rfl := Option.some.inj hr
    exact ol_nil ⟨F, hW, g6, g8, v8_1, v8_2, p6, h6, h7, p8, b8, h8_1, h8_2, h28, h29, rfl, a81_82⟩
  refine Ref.seq (B := G5 w0 F0) ?_ ?_
  · refine Ref.regionH (by kernel_rfl) (fun s ρ w ⟨F, hW, g6, g8, v8_1, v8_2, p6, h6, h7, p8, b8, h8_1, h8_2, a81_82⟩ => ⟨F, hW.drewS, g6, g8, v8_1, v8_2, p6, h6.wk (Wk.drew (row := nrow) hW.ok) hW.ok, h7.keep (sd hW), p8, b8.wk (Wk.drew (row := nrow) hW.ok) hW.ok, h8_1.wk (Wk.drew (row := nrow) hW.ok) hW.ok, h8_2.wk (Wk.drew (row := nrow) hW.ok) hW.ok, a81_82⟩) (fun s ρ w s' h hr => ?_)
    obtain ⟨F, hW, g6, g8, v8_1, v8_2, p6, h6, h7, p8, b8, h8_1, h8_2, a81_82⟩ := h
    refine ⟨fun w' => Stp F w F w', ?_⟩
    refine oh_v 0 rfl (by kernel_rfl) (by kernel_rfl) (by kernel_rfl) (Stp.refl _ _) (fun wv_ SV => e_mv _ rfl) rfl ?_
    refine oh_v 1 rfl (by kernel_rfl) (by kernel_rfl) (by kernel_rfl) (Stp.refl _ _) (fun wv_ SV => e_mv _ p8) rfl ?_
    refine oh_v 2 rfl (by kernel_rfl) (by kernel_rfl) (by kernel_rfl) (Stp.refl _ _) (fun wv_ SV => e_nil_ rfl) rfl ?_
    refine oh_v 3 rfl (by kernel_rfl) (by kernel_rfl) (by kernel_rfl) (Stp.refl _ _) (fun wv_ SV => e_fa fa_56_3 rfl) rfl ?_
    refine oh_v 7 rfl (by kernel_rfl) (by kernel_rfl) (by kernel_rfl) (Stp.refl _ _) (fun wv_ SV => e_mv _ p8) rfl ?_
    refine oh_v 8 rfl (by kernel_rfl) (by kernel_rfl) (by kernel_rfl) (Stp.refl _ _) (fun wv_ SV => e_nil_ rfl) rfl ?_
    refine oh_v 9 rfl (by kernel_rfl) (by kernel_rfl) (by kernel_rfl) (Stp.refl _ _) (fun wv_ SV => e_fa fa_56_4 rfl) rfl ?_
    refine oh_v 11 rfl (by kernel_rfl) (by kernel_rfl) (by kernel_rfl) (Stp.refl _ _) (fun wv_ SV => e_bld (cells := #[.int .i64 0, .int .i64 0]) bld_27 (vs := []) rfl rfl) rfl ?_
    have hb88 : Val k_Fault F w (.agg #[.int .i64 0, .int .i64 0]) (⟨(0 : Int), (0 : Int)⟩ : Fault) := mk_Fault (val_int _ _) (val_int _ _)
    refine oh_all [4, 10] (by kernel_rfl) rfl ⟨?_, ?_, trivial⟩
    · refine oh1_v rfl (e_ld ty_3 (LiesV.int ((b8).at_.fld fl_Transfer_link_r_3)) rfl) rfl ?_
      refine ⟨(Stp.refl _ _), ?_⟩
      obtain ⟨A89, c90, e91, hc92, R93⟩ := id h7
      obtain ⟨x94, hx94, hr⟩ := bind_some' hr
      have hs95 := SlR.cutTo R93 hc92 hx94
      refine oh_v 5 rfl (by kernel_rfl) (by kernel_rfl) (by kernel_rfl) (Stp.refl _ _) (fun wv_ SV => e_slH (SlT.sl sl_25) (SlT.sz sl_25) hc92 e91 rfl hx94) rfl ?_
      refine oh_all [6, 10] (by kernel_rfl) rfl ⟨?_, ?_, trivial⟩
      · obtain ⟨x96, hx96, hr⟩ := bind_some' hr
        refine oh1_e rfl (f_call [(sliced A89 0 (s.k_8.count).toNat c90 (kSl kByte).sz)] fn_22 (lcons rfl rfl) (slices_Concat_byte_byte.calls hW.ok hs95 hx96)) rfl ?_
        rintro v99 w97 ⟨Fz98, _, rfl, kw1, hk100⟩
        have hW102 := hW.trans kw1
        have st1 := kw1.stp hW.ok
        refine ⟨(Stp.back st1), ?_⟩
        refine oh_v 12 rfl (by kernel_rfl) (by kernel_rfl) (by kernel_rfl) (Stp.back st1) (fun wv_ SV => e_as _ rfl) rfl ?_
        refine oh_all [10] (by kernel_rfl) rfl ⟨?_, trivial⟩
        · refine oh1_v rfl (e_ld ty_3 (LiesV.int (((b8.wk kw1 hW.ok)).at_.fld fl_Transfer_link_r_4)) rfl) rfl ?_
          refine ⟨(Stp.back st1), ?_⟩
          refine oh_v 13 rfl (by kernel_rfl) (by kernel_rfl) (by kernel_rfl) (Stp.back st1) (fun wv_ SV => e_as _ rfl) rfl ?_
          refine oh_all [14] (by kernel_rfl) rfl ⟨?_, trivial⟩
          · refine oh1_eN rfl (f_stB hW102 (h6.wk kw1 hW.ok) (FldS.whole _) ty_27 (hb88.keep st1) p6 rfl) ?_
            rintro - w103 ⟨hW104, ho105, hg2, st2⟩
            refine ⟨(Stp.back (st1.trans st2)), ?_⟩
            obtain rfl := Option.some.inj hr
            exact oh_done (by kernel_rfl) ⟨Fz98, hW104, g6, ((hk100.base (row := nrow) hW.le).mut (apart_bo (h6.wk kw1 hW.ok) (hk100.base (row := nrow) hW.le) rfl) hg2 st2), rfl, p6, ho105⟩
      · refine oh1_v rfl (e_ld ty_3 (LiesV.int ((b8).at_.fld fl_Transfer_link_r_4)) rfl) rfl ?_
        refine ⟨(Stp.refl _ _), ?_⟩
        refine oh_all [6] (by kernel_rfl) rfl ⟨?_, trivial⟩
        · obtain ⟨x96, hx96, hr⟩ := bind_some' hr
          refine oh1_e rfl (f_call [(sliced A89 0 (s.k_8.count).toNat c90 (kSl kByte).sz)] fn_22 (lcons rfl rfl) (slices_Concat_byte_byte.calls hW.ok hs95 hx96)) rfl ?_
          rintro v108 w106 ⟨Fz107, _, rfl, kw1, hk109⟩
          have hW111 := hW.trans kw1
          have st1 := kw1.stp hW.ok
          refine ⟨(Stp.back st1), ?_⟩
          refine oh_v 12 rfl (by kernel_rfl) (by kernel_rfl) (by kernel_rfl) (Stp.back st1) (fun wv_ SV => e_as _ rfl) rfl ?_
          refine oh_v 13 rfl (by kernel_rfl) (by kernel_rfl) (by kernel_rfl) (Stp.back st1) (fun wv_ SV => e_as _ rfl) rfl ?_
          refine oh_all [14] (by kernel_rfl) rfl ⟨?_, trivial⟩
          · refine oh1_eN rfl (f_stB hW111 (h6.wk kw1 hW.ok) (FldS.whole _) ty_27 (hb88.keep st1) p6 rfl) ?_
            rintro - w112 ⟨hW113, ho114, hg2, st2⟩
            refine ⟨(Stp.back (st1.trans st2)), ?_⟩
            obtain rfl := Option.some.inj hr
            exact oh_done (by kernel_rfl) ⟨Fz107, hW113, g6, ((hk109.base (row := nrow) hW.le).mut (apart_bo (h6.wk kw1 hW.ok) (hk109.base (row := nrow) hW.le) rfl) hg2 st2), rfl, p6, ho114⟩
    · refine oh1_v rfl (e_ld ty_3 (LiesV.int ((b8).at_.fld fl_Transfer_link_r_4)) rfl) rfl ?_
      refine ⟨(Stp.refl _ _), ?_⟩
      refine oh_all [4] (by kernel_rfl) rfl ⟨?_, trivial⟩
      · refine oh1_v rfl (e_ld ty_3 (LiesV.int ((b8).at_.fld fl_Transfer_link_r_3)) rfl) rfl ?_
        refine ⟨(Stp.refl _ _), ?_⟩
        obtain ⟨A115, c116, e117, hc118, R119⟩ := id h7
        obtain ⟨x94, hx94, hr⟩ := bind_some' hr
        have hs120 := SlR.cutTo R119 hc118 hx94
        refine oh_v 5 rfl (by kernel_rfl) (by kernel_rfl) (by kernel_rfl) (Stp.refl _ _) (fun wv_ SV => e_slH (SlT.sl sl_25) (SlT.sz sl_25) hc118 e117 rfl hx94) rfl ?_
        refine oh_all [6] (by kernel_rfl) rfl ⟨?_, trivial⟩
        · obtain ⟨x96, hx96, hr⟩ := bind_some' hr
          refine oh1_e rfl (f_call [(sliced A115 0 (s.k_8.count).toNat c116 (kSl kByte).sz)] fn_22 (lcons rfl rfl) (slices_Concat_byte_byte.calls hW.ok hs120 hx96)) rfl ?_
          rintro v123 w121 ⟨Fz122, _, rfl, kw1, hk124⟩
          have hW126 := hW.trans kw1
          have st1 := kw1.stp hW.ok
          refine ⟨(Stp.back st1), ?_⟩
          refine oh_v 12 rfl (by kernel_rfl) (by kernel_rfl) (by kernel_rfl) (Stp.back st1) (fun wv_ SV => e_as _ rfl) rfl ?_
          refine oh_v 13 rfl (by kernel_rfl) (by kernel_rfl) (by kernel_rfl) (Stp.back st1) (fun wv_ SV => e_as _ rfl) rfl ?_
          refine oh_all [14] (by kernel_rfl) rfl ⟨?_, trivial⟩
          · refine oh1_eN rfl (f_stB hW126 (h6.wk kw1 hW.ok) (FldS.whole _) ty_27 (hb88.keep st1) p6 rfl) ?_
            rintro - w127 ⟨hW128, ho129, hg2, st2⟩
            refine ⟨(Stp.back (st1.trans st2)), ?_⟩
            obtain rfl := Option.some.inj hr
            exact oh_done (by kernel_rfl) ⟨Fz122, hW128, g6, ((hk124.base (row := nrow) hW.le).mut (apart_bo (h6.wk kw1 hW.ok) (hk124.base (row := nrow) hW.le) rfl) hg2 st2), rfl, p6, ho129⟩
  exact Ref.ret (fun s ρ w h => ⟨s, rfl, h⟩)
def post (w : World) (F : BSet) (r : R) (v : Value) (w' : World) : Prop := ∃ (F' : BSet) (v0' : Value) (v2' : Value), v = .tuple #[v0', .int .i64 r.2.1, v2'] ∧ Wk nrow w F F' w' ∧ OwnV kByte 5 (Nw w) F' w' v0' r.1 ∧ Val k_Fault F' w' v2' r.2.2
theorem calls {w : World} {F : BSet} (hok : ∀ b, F b → b < w.heap.size) {v0 : Value} {a0 : (List UInt8)} (h0 : SlR kByte F w v0 a0) {v1 : Value} {a1 : (List LinkEvent)} (h1 : SlR k_LinkEvent F w v1 a1) {r : R} (hf : f a0 a1 = some r) : Calls Try.prog 10 #[v0, v1] w fun e w' => ∃ v, e = .returned v ∧ post w F r v w' := by
  obtain ⟨c, hc, href⟩ := ref w F
  refine calls_of_ref (args := [v0, v1]) _ Try.func10 hc rfl rfl href ?_ (retOf_some hf) ?_
  · exact ⟨F, Wk.refl hok, h0, h1⟩
  · rintro ρ w' a ⟨s, rfl, F', hW, g6, h4, h5, p6, h6⟩ hF
    obtain ⟨u6, l6, k6⟩ := res_box (P := Try.prog) ty_27 h6
    refine ⟨_, run_results (rs := [.tmp 4, .tmp 5, .cell 6 27]) rfl hF (vs := [ρ 4, ρ 5, u6]) (⟨_, rfl, ⟨_, rfl, ⟨_, _, _, rfl, p6, l6, rfl⟩⟩⟩), ?_⟩
    have hv : resVal [ρ 4, ρ 5, u6] = .tuple #[ρ 4, .int .i64 s.acked_5, u6] := by rw [h5]; rfl
    exact ⟨F', ρ 4, u6, hv, hW, h4.rebase (fun g hg => (h4.lt hg).1.resolve_right (fun h => h)), k6⟩
end
end transfer_Run

namespace transfer_Plan
section
def G0 (w0 : World) (F0 : BSet) (s : S) (ρ : Env) (w : World) : Prop := ∃ (F : BSet), Wk nrow w0 F0 F w ∧ SlR kByte F w (ρ 0) s.t_0 ∧ SlR kBool F w (ρ 1) s.t_1
def G1 (w0 : World) (F0 : BSet) (s : S) (ρ : Env) (w : World) : Prop := ∃ (F : BSet), Wk nrow w0 F0 F w ∧ ∃ (g6 : Nat), SlR kByte F w (ρ 0) s.t_0 ∧ SlR kBool F w (ρ 1) s.t_1 ∧ ρ 6 = .pointer (some ⟨g6, 0, none⟩) ∧ Box k_Fault 27 (Bs w0 nrow) F w g6 s.t_6
def G2 (w0 : World) (F0 : BSet) (s : S) (ρ : Env) (w : World) : Prop := ∃ (F : BSet), Wk nrow w0 F0 F w ∧ ∃ (g6 : Nat) (g8 : Nat), SlR kBool F w (ρ 1) s.t_1 ∧ ρ 6 = .pointer (some ⟨g6, 0, none⟩) ∧ Box k_Fault 27 (Bs w0 nrow) F w g6 s.t_6 ∧ SlR (kSl kByte) F w (ρ 7) s.t_7 ∧ ρ 8 = .pointer (some ⟨g8, 0, none⟩) ∧ Box k_Fault 27 (Bs w0 nrow) F w g8 s.t_8 ∧ Apart (some g6) (some g8)
def G3 (w0 : World) (F0 : BSet) (s : S) (ρ : Env) (w : World) : Prop := ∃ (F : BSet), Wk nrow w0 F0 F w ∧ ∃ (g6 : Nat) (g8 : Nat), SlR kBool F w (ρ 1) s.t_1 ∧ ρ 6 = .pointer (some ⟨g6, 0, none⟩) ∧ Box k_Fault 27 (Bs w0 nrow) F w g6 s.t_6 ∧ SlR (kSl kByte) F w (ρ 7) s.t_7 ∧ ρ 8 = .pointer (some ⟨g8, 0, none⟩) ∧ Box k_Fault 27 (Bs w0 nrow) F w g8 s.t_8 ∧ ρ 21 = .bool s.t_21 ∧ Apart (some g6) (some g8)
def G4 (w0 : World) (F0 : BSet) (s : S) (ρ : Env) (w : World) : Prop := ∃ (F : BSet), Wk nrow w0 F0 F w ∧ ∃ (g6 : Nat) (g8 : Nat), ρ 6 = .pointer (some ⟨g6, 0, none⟩) ∧ Box k_Fault 27 (Bs w0 nrow) F w g6 s.t_6 ∧ ρ 8 = .pointer (some ⟨g8, 0, none⟩) ∧ Box k_Fault 27 (Bs w0 nrow) F w g8 s.t_8 ∧ Apart (some g6) (some g8)
def G5 (w0 : World) (F0 : BSet) (s : S) (ρ : Env) (w : World) : Prop := ∃ (F : BSet), Wk nrow w0 F0 F w ∧ ∃ (g6 : Nat), SlR kBool F w (ρ 1) s.t_1 ∧ ρ 6 = .pointer (some ⟨g6, 0, none⟩) ∧ Box k_Fault 27 (Bs w0 nrow) F w g6 s.t_6 ∧ SlR (kSl kByte) F w (ρ 7) s.t_7
def G6 (w0 : World) (F0 : BSet) (s : S) (ρ : Env) (w : World) : Prop := ∃ (F : BSet), Wk nrow w0 F0 F w ∧ ∃ (g6 : Nat), OwnV k_LinkEvent 48 (Bs w0 nrow) F w (ρ 4) s.t_4 ∧ ρ 5 = .bool s.t_5 ∧ ρ 6 = .pointer (some ⟨g6, 0, none⟩) ∧ Box k_Fault 27 (Bs w0 nrow) F w g6 s.t_6
def G7 (w0 : World) (F0 : BSet) (s : S) (ρ : Env) (w : World) : Prop := ∃ (F : BSet), Wk nrow w0 F0 F w ∧ ∃ (g6 : Nat), SlR kBool F w (ρ 1) s.t_1 ∧ ρ 6 = .pointer (some ⟨g6, 0, none⟩) ∧ Box k_Fault 27 (Bs w0 nrow) F w g6 s.t_6 ∧ SlR (kSl kByte) F w (ρ 7) s.t_7 ∧ ρ 25 = .bool s.t_25
def G8 (w0 : World) (F0 : BSet) (s : S) (ρ : Env) (w : World) : Prop := ∃ (F : BSet), Wk nrow w0 F0 F w ∧ ∃ (g6 : Nat), ρ 6 = .pointer (some ⟨g6, 0, none⟩) ∧ Box k_Fault 27 (Bs w0 nrow) F w g6 s.t_6
def G9 (w0 : World) (F0 : BSet) (s : S) (ρ : Env) (w : World) : Prop := ∃ (F : BSet), Wk nrow w0 F0 F w ∧ ∃ (g6 : Nat), SlR kBool F w (ρ 1) s.t_1 ∧ ρ 6 = .pointer (some ⟨g6, 0, none⟩) ∧ Box k_Fault 27 (Bs w0 nrow) F w g6 s.t_6 ∧ SlR (kSl kByte) F w (ρ 7) s.t_7 ∧ OwnV k_LinkEvent 48 (Bs w0 nrow) F w (ρ 9) s.t_9
def G10 (w0 : World) (F0 : BSet) (s : S) (ρ : Env) (w : World) : Prop := ∃ (F : BSet), Wk nrow w0 F0 F w ∧ ∃ (g6 : Nat), SlR kBool F w (ρ 1) s.t_1 ∧ ρ 6 = .pointer (some ⟨g6, 0, none⟩) ∧ Box k_Fault 27 (Bs w0 nrow) F w g6 s.t_6 ∧ SlR (kSl kByte) F w (ρ 7) s.t_7 ∧ OwnV k_LinkEvent 48 (Bs w0 nrow) F w (ρ 9) s.t_9 ∧ ρ 10 = .int .i64 s.t_10
def G11 (w0 : World) (F0 : BSet) (s : S) (ρ : Env) (w : World) : Prop := ∃ (F : BSet), Wk nrow w0 F0 F w ∧ ∃ (g6 : Nat), SlR kBool F w (ρ 1) s.t_1 ∧ ρ 6 = .pointer (some ⟨g6, 0, none⟩) ∧ Box k_Fault 27 (Bs w0 nrow) F w g6 s.t_6 ∧ SlR (kSl kByte) F w (ρ 7) s.t_7 ∧ OwnV k_LinkEvent 48 (Bs w0 nrow) F w (ρ 9) s.t_9 ∧ ρ 10 = .int .i64 s.t_10 ∧ ρ 11 = .int .i64 s.t_11
def G12 (w0 : World) (F0 : BSet) (s : S) (ρ : Env) (w : World) : Prop := ∃ (F : BSet), Wk nrow w0 F0 F w ∧ ∃ (g6 : Nat), SlR kBool F w (ρ 1) s.t_1 ∧ ρ 6 = .pointer (some ⟨g6, 0, none⟩) ∧ Box k_Fault 27 (Bs w0 nrow) F w g6 s.t_6 ∧ SlR (kSl kByte) F w (ρ 7) s.t_7 ∧ OwnV k_LinkEvent 48 (Bs w0 nrow) F w (ρ 9) s.t_9 ∧ ρ 10 = .int .i64 s.t_10 ∧ ρ 11 = .int .i64 s.t_11 ∧ ρ 30 = .bool s.t_30
def G13 (w0 : World) (F0 : BSet) (s : S) (ρ : Env) (w : World) : Prop := ∃ (F : BSet), Wk nrow w0 F0 F w ∧ ∃ (g6 : Nat), ρ 6 = .pointer (some ⟨g6, 0, none⟩) ∧ Box k_Fault 27 (Bs w0 nrow) F w g6 s.t_6 ∧ OwnV k_LinkEvent 48 (Bs w0 nrow) F w (ρ 9) s.t_9
def G14 (w0 : World) (F0 : BSet) (s : S) (ρ : Env) (w : World) : Prop := ∃ (F : BSet), Wk nrow w0 F0 F w ∧ ∃ (g6 : Nat), SlR kBool F w (ρ 1) s.t_1 ∧ ρ 6 = .pointer (some ⟨g6, 0, none⟩) ∧ Box k_Fault 27 (Bs w0 nrow) F w g6 s.t_6 ∧ SlR (kSl kByte) F w (ρ 7) s.t_7 ∧ OwnV k_LinkEvent 48 (Bs w0 nrow) F w (ρ 9) s.t_9 ∧ ρ 10 = .int .i64 s.t_10 ∧ ρ 11 = .int .i64 s.t_11 ∧ ρ 12 = .bool s.t_12
def G15 (w0 : World) (F0 : BSet) (s : S) (ρ : Env) (w : World) : Prop := ∃ (F : BSet), Wk nrow w0 F0 F w ∧ ∃ (g6 : Nat), SlR kBool F w (ρ 1) s.t_1 ∧ ρ 6 = .pointer (some ⟨g6, 0, none⟩) ∧ Box k_Fault 27 (Bs w0 nrow) F w g6 s.t_6 ∧ SlR (kSl kByte) F w (ρ 7) s.t_7 ∧ OwnV k_LinkEvent 48 (Bs w0 nrow) F w (ρ 9) s.t_9 ∧ ρ 10 = .int .i64 s.t_10 ∧ ρ 11 = .int .i64 s.t_11 ∧ ρ 12 = .bool s.t_12 ∧ SlR k_LinkEvent F w (ρ 13) s.t_13
def G16 (w0 : World) (F0 : BSet) (s : S) (ρ : Env) (w : World) : Prop := ∃ (F : BSet), Wk nrow w0 F0 F w ∧ ∃ (g6 : Nat), SlR kBool F w (ρ 1) s.t_1 ∧ ρ 6 = .pointer (some ⟨g6, 0, none⟩) ∧ Box k_Fault 27 (Bs w0 nrow) F w g6 s.t_6 ∧ SlR (kSl kByte) F w (ρ 7) s.t_7 ∧ OwnV k_LinkEvent 48 (Bs w0 nrow) F w (ρ 9) s.t_9 ∧ ρ 10 = .int .i64 s.t_10 ∧ ρ 11 = .int .i64 s.t_11 ∧ SlR k_LinkEvent F w (ρ 13) s.t_13 ∧ ρ 47 = .bool s.t_47
def G17 (w0 : World) (F0 : BSet) (s : S) (ρ : Env) (w : World) : Prop := ∃ (F : BSet), Wk nrow w0 F0 F w ∧ ∃ (g6 : Nat), SlR kBool F w (ρ 1) s.t_1 ∧ ρ 6 = .pointer (some ⟨g6, 0, none⟩) ∧ Box k_Fault 27 (Bs w0 nrow) F w g6 s.t_6 ∧ SlR (kSl kByte) F w (ρ 7) s.t_7 ∧ OwnV k_LinkEvent 48 (Bs w0 nrow) F w (ρ 9) s.t_9 ∧ ρ 10 = .int .i64 s.t_10 ∧ ρ 11 = .int .i64 s.t_11 ∧ SlR k_LinkEvent F w (ρ 13) s.t_13
def G18 (w0 : World) (F0 : BSet) (s : S) (ρ : Env) (w : World) : Prop := ∃ (F : BSet), Wk nrow w0 F0 F w ∧ ∃ (g6 : Nat), SlR kBool F w (ρ 1) s.t_1 ∧ ρ 6 = .pointer (some ⟨g6, 0, none⟩) ∧ Box k_Fault 27 (Bs w0 nrow) F w g6 s.t_6 ∧ SlR (kSl kByte) F w (ρ 7) s.t_7 ∧ OwnV k_LinkEvent 48 (Bs w0 nrow) F w (ρ 9) s.t_9 ∧ ρ 10 = .int .i64 s.t_10 ∧ ρ 11 = .int .i64 s.t_11 ∧ SlR k_LinkEvent F w (ρ 13) s.t_13 ∧ ρ 58 = .bool s.t_58
set_option maxHeartbeats 4000000 in
set_option maxRecDepth 20000 in
theorem ref (w0 : World) (F0 : BSet) : ∃ c, Try.f15.body = some c ∧ Ref Try.prog 66 c (G0 w0 F0) body (fun _ _ _ => False) (fun _ _ _ _ => False) (fun r ρ w => ∃ s, retv s = r ∧ G6 w0 F0 s ρ w) := by
  refine ⟨_, rfl, ?_⟩
  unfold body
  refine Ref.seq (B := G1 w0 F0) ?_ ?_
  · refine Ref.region (fun s ρ w s' h hr => ?_)
    obtain ⟨F, hW, h0, h1⟩ := h
    refine ol_v (e_as _ rfl) rfl ?_
    refine ol_v (e_as _ rfl) rfl ?_
    refine ol_e (f_alloc zer_27 hW) rfl rfl ?_
    rintro _ w2 ⟨g1, rfl, kw1, ho3⟩
    have hW4 := hW.trans kw1
    have st1 := kw1.stp hW.ok
    obtain rfl := Option.some.inj hr
    exact ol_nil ⟨F, hW4, g1, (h0.keep st1), (h1.keep st1), rfl, (ho3.base (row := nrow) hW.le)⟩
  refine Ref.seq (B := G2 w0 F0) ?_ ?_
  · refine Ref.region (fun s ρ w s' h hr => ?_)
    obtain ⟨F, hW, g6, h0, h1, p6, h6⟩ := h
    refine ol_v (e_mv _ rfl) rfl ?_
    obtain ⟨x5, hx5, hr⟩ := bind_some' hr
    refine ol_e (f_call [(ρ 0)] fn_9 (lcons rfl rfl) (transfer_Frames.calls hW.ok h0 hx5)) rfl rfl ?_
    rintro _ w6 ⟨Fz7, v8, v10, rfl, kw1, hk9, hk11⟩
    have hW13 := hW.trans kw1
    have st1 := kw1.stp hW.ok
    refine ol_v (e_mv _ rfl) rfl ?_
    refine ol_v (e_ext _ rfl rfl) rfl ?_
    refine ol_v (e_ext _ rfl rfl) rfl ?_
    refine ol_e (f_alloc zer_27 hW13) rfl rfl ?_
    rintro _ w15 ⟨g14, rfl, kw2, ho16⟩
    have hW17 := hW13.trans kw2
    have st2 := kw2.stp hW13.ok
    obtain ⟨Fz18, hWz19, st3, hF3, hz20⟩ := (((hk9.base (row := nrow) hW.le).wk kw2 hW13.ok)).frozen hW17
    refine ol_v (e_as _ rfl) rfl ?_
    refine ol_eN (f_stB hWz19 ((ho16.base (row := nrow) hW13.le).frz (apart_bo (ho16.base (row := nrow) hW13.le) ((hk9.base (row := nrow) hW.le).wk kw2 hW13.ok) rfl).symm hF3 st3) (FldS.whole _) ty_27 (hk11.keep (st2.trans st3)) rfl rfl) rfl ?_
    rintro - w21 ⟨hW22, ho23, hg4, st4⟩
    obtain rfl := Option.some.inj hr
    exact ol_nil ⟨Fz18, hW22, g6, g14, (h1.keep (st1.trans (st2.trans (st3.trans st4)))), p6, ((((h6.wk kw1 hW.ok).wk kw2 hW13.ok).frz (apart_bo ((h6.wk kw1 hW.ok).wk kw2 hW13.ok) ((hk9.base (row := nrow) hW.le).wk kw2 hW13.ok) rfl).symm hF3 st3).mut (Apart.base (fun _ e_ => by cases e_; exact ho16.ge) (h6.wk kw1 hW.ok).ltw) hg4 st4), (hz20.keep st4), rfl, ho23, (Apart.base (fun _ e_ => by cases e_; exact ho16.ge) (h6.wk kw1 hW.ok).ltw).symm⟩
  refine Ref.seq (B := G5 w0 F0) ?_ ?_
  · refine Ref.seq (B := G3 w0 F0) ?_ ?_
    · refine Ref.region (fun s ρ w s' h hr => ?_)
      obtain ⟨F, hW, g6, g8, h1, p6, h6, h7, p8, h8, a6b_8b⟩ := h
      obtain ⟨v24, hl25⟩ := LiesAt.v (h8).at_
      refine ol_v (e_ld ty_27 hl25 p8) rfl ?_
      refine ol_v (e_bld (cells := #[.int .i64 0, .int .i64 0]) bld_27 (vs := []) rfl rfl) rfl ?_
      have hb26 : Val k_Fault F w (.agg #[.int .i64 0, .int .i64 0]) (⟨(0 : Int), (0 : Int)⟩ : Fault) := mk_Fault (val_int _ _) (val_int _ _)
      refine ol_v (e_tneq (eq_Fault_27 hl25.val hb26) rfl rfl) rfl ?_
      obtain rfl := Option.some.inj hr
      exact ol_nil ⟨F, hW, g6, g8, h1, p6, h6, h7, p8, h8, rfl, a6b_8b⟩
    refine Ref.cond (b := fun s => s.t_21) (fun s ρ w ⟨F, hW, g6, g8, h1, p6, h6, h7, p8, h8, h21, a6b_8b⟩ => h21) (Ref.pre (A := G4 w0 F0) ?_ (fun s ρ w h => (fun ⟨F, hW, g6, g8, h1, p6, h6, h7, p8, h8, h21, a6b_8b⟩ => ⟨F, hW, g6, g8, p6, h6, p8, h8, a6b_8b⟩ : G3 w0 F0 s ρ w → G4 w0 F0 s ρ w) h.2)) (Ref.pre (A := G5 w0 F0) ?_ (fun s ρ w h => (fun ⟨F, hW, g6, g8, h1, p6, h6, h7, p8, h8, h21, a6b_8b⟩ => ⟨F, hW, g6, h1, p6, h6, h7⟩ : G3 w0 F0 s ρ w → G5 w0 F0 s ρ w) h.2))
    · refine Ref.seq (B := G6 w0 F0) ?_ ?_
      · refine Ref.regionD 3 (by kernel_rfl) (by kernel_rfl) (fun s ρ w ⟨F, hW, g6, g8, p6, h6, p8, h8, a6b_8b⟩ => ⟨F, hW.drewS, g6, g8, p6, h6.wk (Wk.drew (row := nrow) hW.ok) hW.ok, p8, h8.wk (Wk.drew (row := nrow) hW.ok) hW.ok, a6b_8b⟩) (fun s ρ w s' h hr => ?_)
        obtain ⟨F, hW, g6, g8, p6, h6, p8, h8, a6b_8b⟩ := h
        obtain ⟨v27, hl28⟩ := LiesAt.v (h8).at_
        refine ol_v (e_ld ty_27 hl28 p8) rfl ?_
        refine ol_v (e_as _ rfl) rfl ?_
        refine ol_v (e_as _ rfl) rfl ?_
        refine ol_eN (f_stB hW h6 (FldS.whole _) ty_27 hl28.val p6 rfl) rfl ?_
        rintro - w29 ⟨hW30, ho31, hg1, st1⟩
        obtain rfl := Option.some.inj hr
        exact ol_nil ⟨F, hW30, g6, ((OwnV.nil k_LinkEvent 48 (Bs w0 nrow) F w).mut (apart_bo h6 (OwnV.nil k_LinkEvent 48 (Bs w0 nrow) F w) rfl) hg1 st1), rfl, p6, ho31⟩
      exact Ref.ret (fun s ρ w h => ⟨s, rfl, h⟩)
    · exact Ref.skip
  refine Ref.seq (B := G5 w0 F0) ?_ ?_
  · refine Ref.seq (B := G7 w0 F0) ?_ ?_
    · refine Ref.region (fun s ρ w s' h hr => ?_)
      obtain ⟨F, hW, g6, h1, p6, h6, h7⟩ := h
      refine ol_v (e_mv _ rfl) rfl ?_
      obtain ⟨A32, c33, e34, hc35, R36⟩ := id h1
      refine ol_v (e_len (SlT.sl sl_38) e34) rfl ?_
      refine ol_v (e_gtr rfl rfl) rfl ?_
      obtain rfl := Option.some.inj hr
      exact ol_nil ⟨F, hW, g6, h1, p6, h6, h7, rfl⟩
    refine Ref.cond (b := fun s => s.t_25) (fun s ρ w ⟨F, hW, g6, h1, p6, h6, h7, h25⟩ => h25) (Ref.pre (A := G8 w0 F0) ?_ (fun s ρ w h => (fun ⟨F, hW, g6, h1, p6, h6, h7, h25⟩ => ⟨F, hW, g6, p6, h6⟩ : G7 w0 F0 s ρ w → G8 w0 F0 s ρ w) h.2)) (Ref.pre (A := G5 w0 F0) ?_ (fun s ρ w h => (fun ⟨F, hW, g6, h1, p6, h6, h7, h25⟩ => ⟨F, hW, g6, h1, p6, h6, h7⟩ : G7 w0 F0 s ρ w → G5 w0 F0 s ρ w) h.2))
    · refine Ref.seq (B := G6 w0 F0) ?_ ?_
      · refine Ref.region (fun s ρ w s' h hr => ?_)
        obtain ⟨F, hW, g6, p6, h6⟩ := h
        refine ol_v (e_bld (cells := #[.int .i64 (2), .int .i64 (-2)]) bld_27 (vs := [(0, .int .i64 (2)), (1, .int .i64 (-2))]) (lcons (congrArg (Prod.mk 0) rfl) (lcons (congrArg (Prod.mk 1) rfl) rfl)) rfl) rfl ?_
        have hb37 : Val k_Fault F w (.agg #[.int .i64 (2), .int .i64 (-2)]) (⟨(2 : Int), (-2 : Int)⟩ : Fault) := mk_Fault (val_int _ _) (val_int _ _)
        refine ol_v (e_as _ rfl) rfl ?_
        refine ol_v (e_as _ rfl) rfl ?_
        refine ol_eN (f_stB hW h6 (FldS.whole _) ty_27 hb37 p6 rfl) rfl ?_
        rintro - w38 ⟨hW39, ho40, hg1, st1⟩
        obtain rfl := Option.some.inj hr
        exact ol_nil ⟨F, hW39, g6, ((OwnV.nil k_LinkEvent 48 (Bs w0 nrow) F w).mut (apart_bo h6 (OwnV.nil k_LinkEvent 48 (Bs w0 nrow) F w) rfl) hg1 st1), rfl, p6, ho40⟩
      exact Ref.ret (fun s ρ w h => ⟨s, rfl, h⟩)
    · exact Ref.skip
  refine Ref.seq (B := G9 w0 F0) ?_ ?_
  · refine Ref.region (fun s ρ w s' h hr => ?_)
    obtain ⟨F, hW, g6, h1, p6, h6, h7⟩ := h
    refine ol_v (e_as _ rfl) rfl ?_
    obtain rfl := Option.some.inj hr
    exact ol_nil ⟨F, hW, g6, h1, p6, h6, h7, (OwnV.nil k_LinkEvent 48 (Bs w0 nrow) F w)⟩
  refine Ref.seq (B := G10 w0 F0) ?_ ?_
  · refine Ref.region (fun s ρ w s' h hr => ?_)
    obtain ⟨F, hW, g6, h1, p6, h6, h7, h9⟩ := h
    refine ol_v (e_as _ rfl) rfl ?_
    obtain rfl := Option.some.inj hr
    exact ol_nil ⟨F, hW, g6, h1, p6, h6, h7, h9, rfl⟩
  refine Ref.seq (B := G13 w0 F0) ?_ ?_
  · refine Ref.seq (B := G11 w0 F0) ?_ ?_
    · refine Ref.region (fun s ρ w s' h hr => ?_)
      obtain ⟨F, hW, g6, h1, p6, h6, h7, h9, h10⟩ := h
      refine ol_v (e_as _ rfl) rfl ?_
      obtain rfl := Option.some.inj hr
      exact ol_nil ⟨F, hW, g6, h1, p6, h6, h7, h9, h10, rfl⟩
    refine Ref.block ?_
    refine Ref.loop ?_
    refine Ref.seq (B := G11 w0 F0) ?_ ?_
    · refine Ref.seq (B := G12 w0 F0) ?_ ?_
      · refine Ref.region (fun s ρ w s' h hr => ?_)
        obtain ⟨F, hW, g6, h1, p6, h6, h7, h9, h10, h11⟩ := h
        refine ol_v (e_mv _ h10) rfl ?_
        refine ol_v (e_mv _ rfl) rfl ?_
        obtain ⟨A41, c42, e43, hc44, R45⟩ := id h7
        refine ol_v (e_len (SlT.sl sl_25) e43) rfl ?_
        refine ol_v (e_lss rfl rfl) rfl ?_
        obtain rfl := Option.some.inj hr
        exact ol_nil ⟨F, hW, g6, h1, p6, h6, h7, h9, h10, h11, rfl⟩
      refine Ref.cond (b := fun s => s.t_30) (fun s ρ w ⟨F, hW, g6, h1, p6, h6, h7, h9, h10, h11, h30⟩ => h30) (Ref.pre (A := G11 w0 F0) ?_ (fun s ρ w h => (fun ⟨F, hW, g6, h1, p6, h6, h7, h9, h10, h11, h30⟩ => ⟨F, hW, g6, h1, p6, h6, h7, h9, h10, h11⟩ : G12 w0 F0 s ρ w → G11 w0 F0 s ρ w) h.2)) (Ref.pre (A := G13 w0 F0) ?_ (fun s ρ w h => (fun ⟨F, hW, g6, h1, p6, h6, h7, h9, h10, h11, h30⟩ => ⟨F, hW, g6, p6, h6, h9⟩ : G12 w0 F0 s ρ w → G13 w0 F0 s ρ w) h.2))
      · exact Ref.skip
      · exact Ref.exit (fun s ρ w h => h)
    refine Ref.seq (B := G11 w0 F0) ?_ ?_
    · refine Ref.block ?_
      refine Ref.seq (B := G14 w0 F0) ?_ ?_
      · refine Ref.region (fun s ρ w s' h hr => ?_)
        obtain ⟨F, hW, g6, h1, p6, h6, h7, h9, h10, h11⟩ := h
        refine ol_v (e_mv _ h11) rfl ?_
        refine ol_v (e_mv _ rfl) rfl ?_
        obtain ⟨A46, c47, e48, hc49, R50⟩ := id h1
        refine ol_v (e_len (SlT.sl sl_38) e48) rfl ?_
        refine ol_v (e_lss rfl rfl) rfl ?_
        obtain ⟨x63, hx64, hr⟩ := bind_some' hr
        refine ol_cutA 6 37 42 (fun ρ' w' => w = w' ∧ ρ' 42 = .bool x63) rfl ?_ ?_
        · by_cases hb51 : (decide (s.t_11 < (s.t_1.length : Int))) = true
          · have hr := hx64
            rw [if_pos hb51] at hr
            refine ol_v (e_mv _ rfl) rfl ?_
            refine ol_yes rfl rfl (congrArg Value.bool hb51) ?_
            refine ol_v (e_mv _ rfl) rfl ?_
            refine ol_yes rfl rfl (congrArg Value.bool hb51) ?_
            refine ol_v (e_mv _ h11) rfl ?_
            refine ol_yes rfl rfl (congrArg Value.bool hb51) ?_
            obtain ⟨x53, hx53, hr⟩ := bind_some' hr
            obtain ⟨A54, c55, e56, hc57, R58⟩ := id h1
            obtain ⟨b59, o60, hA61, L62⟩ := Row.at_ R58 hx53
            refine ol_v (e_ix (SlT.sl sl_38) (SlT.sz sl_38) hA61 hx53 e56 rfl) rfl ?_
            refine ol_yes rfl rfl (congrArg Value.bool hb51) ?_
            refine ol_v (e_ld ty_4 (LiesV.bool L62.at_) rfl) rfl ?_
            refine ol_v (e_pick true _ (congrArg Value.bool hb51) rfl) rfl ?_
            exact ol_nil ⟨⟨rfl, (congrArg Value.bool (Option.some.inj hr))⟩, (((((((Agr.refl _ _ _).upd rfl rfl).upd rfl rfl).upd rfl rfl).upd rfl rfl).upd rfl rfl).upd rfl rfl)⟩
          · have hb52 := Bool.eq_false_iff.mpr hb51
            have hr := hx64
            rw [if_neg hb51] at hr
            refine ol_v (e_mv _ rfl) rfl ?_
            refine ol_not rfl rfl rfl (congrArg Value.bool hb52) rfl ?_
            refine ol_not rfl rfl rfl (congrArg Value.bool hb52) rfl ?_
            refine ol_not rfl rfl rfl (congrArg Value.bool hb52) rfl ?_
            refine ol_not rfl rfl rfl (congrArg Value.bool hb52) rfl ?_
            refine ol_v (e_pick false _ (congrArg Value.bool hb52) rfl) rfl ?_
            exact ol_nil ⟨⟨rfl, (congrArg Value.bool (Option.some.inj hr))⟩, (((((((Agr.refl _ _ _).upd rfl rfl).upd rfl rfl).upd rfl rfl).upd rfl rfl).upd rfl rfl).upd rfl rfl)⟩
        rintro ρ64 _ ⟨⟨rfl, hp64⟩, hAg64⟩
        refine ol_v (e_as _ hp64) rfl ?_
        obtain rfl := Option.some.inj hr
        exact ol_nil ⟨F, hW, g6, (SlR.eqv (hAg64 1 rfl) h1), ((hAg64 6 rfl).trans p6), h6, (SlR.eqv (hAg64 7 rfl) h7), (OwnV.eqv (hAg64 9 rfl) h9), ((hAg64 10 rfl).trans h10), ((hAg64 11 rfl).trans h11), rfl⟩
      refine Ref.seq (B := G15 w0 F0) ?_ ?_
      · refine Ref.region (fun s ρ w s' h hr => ?_)
        obtain ⟨F, hW, g6, h1, p6, h6, h7, h9, h10, h11, h12⟩ := h
        refine ol_v (e_bld (cells := #[.int .i64 (1), .int .i64 0]) bld_48 (vs := [(0, .int .i64 (1))]) (lcons (congrArg (Prod.mk 0) rfl) rfl) rfl) rfl ?_
        have hb65 : Val k_LinkEvent F w (.agg #[.int .i64 (1), .int .i64 0]) (⟨(1 : Int), (0 : Int)⟩ : LinkEvent) := mk_LinkEvent (val_int _ _) (val_int _ _)
        refine ol_v (e_bld (cells := #[.int .i64 (2), .int .i64 0]) bld_48 (vs := [(0, .int .i64 (2))]) (lcons (congrArg (Prod.mk 0) rfl) rfl) rfl) rfl ?_
        have hb66 : Val k_LinkEvent F w (.agg #[.int .i64 (2), .int .i64 0]) (⟨(2 : Int), (0 : Int)⟩ : LinkEvent) := mk_LinkEvent (val_int _ _) (val_int _ _)
        refine ol_v (e_bld (cells := #[.int .i64 (5), .int .i64 0]) bld_48 (vs := [(0, .int .i64 (5))]) (lcons (congrArg (Prod.mk 0) rfl) rfl) rfl) rfl ?_
        have hb67 : Val k_LinkEvent F w (.agg #[.int .i64 (5), .int .i64 0]) (⟨(5 : Int), (0 : Int)⟩ : LinkEvent) := mk_LinkEvent (val_int _ _) (val_int _ _)
        refine ol_e (f_bslF sl_23 hW ([(⟨(1 : Int), (0 : Int)⟩ : LinkEvent), (⟨(2 : Int), (0 : Int)⟩ : LinkEvent), (⟨(5 : Int), (0 : Int)⟩ : LinkEvent)] : List LinkEvent) [.agg #[.int .i64 (1), .int .i64 0], .agg #[.int .i64 (2), .int .i64 0], .agg #[.int .i64 (5), .int .i64 0]] (by exact ⟨_, _, rfl, hb65, ⟨_, _, rfl, hb66, ⟨_, _, rfl, hb67, rfl⟩⟩⟩) rfl (Nat.le_of_ble_eq_true rfl) (lcons (congrArg (Prod.mk 0) rfl) (lcons (congrArg (Prod.mk 1) rfl) (lcons (congrArg (Prod.mk 2) rfl) rfl)))) rfl rfl ?_
        rintro v68 w69 ⟨Fz71, kw1, ho70⟩
        have hW72 := hW.trans kw1
        have st1 := kw1.stp hW.ok
        refine ol_v (e_as _ rfl) rfl ?_
        obtain rfl := Option.some.inj hr
        exact ol_nil ⟨Fz71, hW72, g6, (h1.keep st1), p6, (h6.wk kw1 hW.ok), (h7.keep st1), (h9.wk kw1 hW.ok), h10, h11, h12, ho70⟩
      refine Ref.seq (B := G17 w0 F0) ?_ ?_
      · refine Ref.seq (B := G16 w0 F0) ?_ ?_
        · refine Ref.region (fun s ρ w s' h hr => ?_)
          obtain ⟨F, hW, g6, h1, p6, h6, h7, h9, h10, h11, h12, h13⟩ := h
          refine ol_v (e_mv _ h12) rfl ?_
          obtain rfl := Option.some.inj hr
          exact ol_nil ⟨F, hW, g6, h1, p6, h6, h7, h9, h10, h11, h13, rfl⟩
        refine Ref.cond (b := fun s => s.t_47) (fun s ρ w ⟨F, hW, g6, h1, p6, h6, h7, h9, h10, h11, h13, h47⟩ => h47) (Ref.pre (A := G11 w0 F0) ?_ (fun s ρ w h => (fun ⟨F, hW, g6, h1, p6, h6, h7, h9, h10, h11, h13, h47⟩ => ⟨F, hW, g6, h1, p6, h6, h7, h9, h10, h11⟩ : G16 w0 F0 s ρ w → G11 w0 F0 s ρ w) h.2)) (Ref.pre (A := G17 w0 F0) ?_ (fun s ρ w h => (fun ⟨F, hW, g6, h1, p6, h6, h7, h9, h10, h11, h13, h47⟩ => ⟨F, hW, g6, h1, p6, h6, h7, h9, h10, h11, h13⟩ : G16 w0 F0 s ρ w → G17 w0 F0 s ρ w) h.2))
        · refine Ref.region (fun s ρ w s' h hr => ?_)
          obtain ⟨F, hW, g6, h1, p6, h6, h7, h9, h10, h11⟩ := h
          refine ol_v (e_bld (cells := #[.int .i64 (1), .int .i64 0]) bld_48 (vs := [(0, .int .i64 (1))]) (lcons (congrArg (Prod.mk 0) rfl) rfl) rfl) rfl ?_
          have hb73 : Val k_LinkEvent F w (.agg #[.int .i64 (1), .int .i64 0]) (⟨(1 : Int), (0 : Int)⟩ : LinkEvent) := mk_LinkEvent (val_int _ _) (val_int _ _)
          refine ol_v (e_bld (cells := #[.int .i64 (3), .int .i64 0]) bld_48 (vs := [(0, .int .i64 (3))]) (lcons (congrArg (Prod.mk 0) rfl) rfl) rfl) rfl ?_
          have hb74 : Val k_LinkEvent F w (.agg #[.int .i64 (3), .int .i64 0]) (⟨(3 : Int), (0 : Int)⟩ : LinkEvent) := mk_LinkEvent (val_int _ _) (val_int _ _)
          refine ol_e (f_bslF sl_23 hW ([(⟨(1 : Int), (0 : Int)⟩ : LinkEvent), (⟨(3 : Int), (0 : Int)⟩ : LinkEvent)] : List LinkEvent) [.agg #[.int .i64 (1), .int .i64 0], .agg #[.int .i64 (3), .int .i64 0]] (by exact ⟨_, _, rfl, hb73, ⟨_, _, rfl, hb74, rfl⟩⟩) rfl (Nat.le_of_ble_eq_true rfl) (lcons (congrArg (Prod.mk 0) rfl) (lcons (congrArg (Prod.mk 1) rfl) rfl))) rfl rfl ?_
          rintro v75 w76 ⟨Fz78, kw1, ho77⟩
          have hW79 := hW.trans kw1
          have st1 := kw1.stp hW.ok
          refine ol_v (e_as _ rfl) rfl ?_
          obtain rfl := Option.some.inj hr
          exact ol_nil ⟨Fz78, hW79, g6, (h1.keep st1), p6, (h6.wk kw1 hW.ok), (h7.keep st1), (h9.wk kw1 hW.ok), h10, h11, ho77⟩
        · refine Ref.region (fun s ρ w s' h hr => ?_)
          obtain ⟨F, hW, g6, h1, p6, h6, h7, h9, h10, h11, h13⟩ := h
          refine ol_v (e_mv _ h10) rfl ?_
          refine ol_v (e_add rfl rfl) rfl ?_
          refine ol_v (e_as _ rfl) rfl ?_
          obtain rfl := Option.some.inj hr
          exact ol_nil ⟨F, hW, g6, h1, p6, h6, h7, h9, rfl, h11, h13⟩
      refine Ref.seq (B := G17 w0 F0) ?_ ?_
      · refine Ref.seq (B := G18 w0 F0) ?_ ?_
        · refine Ref.region (fun s ρ w s' h hr => ?_)
          obtain ⟨F, hW, g6, h1, p6, h6, h7, h9, h10, h11, h13⟩ := h
          refine ol_v (e_mv _ rfl) rfl ?_
          obtain ⟨A80, c81, e82, hc83⟩ := h9.shape
          refine ol_v (e_len (SlT.sl sl_23) e82) rfl ?_
          refine ol_v (e_mv _ rfl) rfl ?_
          obtain ⟨A84, c85, e86, hc87, R88⟩ := id h13
          refine ol_v (e_len (SlT.sl sl_23) e86) rfl ?_
          refine ol_v (e_add rfl rfl) rfl ?_
          refine ol_v (e_gtr rfl rfl) rfl ?_
          obtain rfl := Option.some.inj hr
          exact ol_nil ⟨F, hW, g6, h1, p6, h6, h7, h9, h10, h11, h13, rfl⟩
        refine Ref.cond (b := fun s => s.t_58) (fun s ρ w ⟨F, hW, g6, h1, p6, h6, h7, h9, h10, h11, h13, h58⟩ => h58) (Ref.pre (A := G13 w0 F0) ?_ (fun s ρ w h => (fun ⟨F, hW, g6, h1, p6, h6, h7, h9, h10, h11, h13, h58⟩ => ⟨F, hW, g6, p6, h6, h9⟩ : G18 w0 F0 s ρ w → G13 w0 F0 s ρ w) h.2)) (Ref.pre (A := G17 w0 F0) ?_ (fun s ρ w h => (fun ⟨F, hW, g6, h1, p6, h6, h7, h9, h10, h11, h13, h58⟩ => ⟨F, hW, g6, h1, p6, h6, h7, h9, h10, h11, h13⟩ : G18 w0 F0 s ρ w → G17 w0 F0 s ρ w) h.2))
        · refine Ref.seq (B := G6 w0 F0) ?_ ?_
          · refine Ref.region (fun s ρ w s' h hr => ?_)
            obtain ⟨F, hW, g6, p6, h6, h9⟩ := h
            refine ol_v (e_mv _ rfl) rfl ?_
            refine ol_v (e_bld (cells := #[.int .i64 0, .int .i64 0]) bld_27 (vs := []) rfl rfl) rfl ?_
            have hb89 : Val k_Fault F w (.agg #[.int .i64 0, .int .i64 0]) (⟨(0 : Int), (0 : Int)⟩ : Fault) := mk_Fault (val_int _ _) (val_int _ _)
            refine ol_v (e_as _ rfl) rfl ?_
            refine ol_v (e_as _ rfl) rfl ?_
            refine ol_eN (f_stB hW h6 (FldS.whole _) ty_27 hb89 p6 rfl) rfl ?_
            rintro - w90 ⟨hW91, ho92, hg1, st1⟩
            obtain rfl := Option.some.inj hr
            exact ol_nil ⟨F, hW91, g6, (h9.mut (apart_bo h6 h9 rfl) hg1 st1), rfl, p6, ho92⟩
          exact Ref.ret (fun s ρ w h => ⟨s, rfl, h⟩)
        · exact Ref.skip
      refine Ref.region (fun s ρ w s' h hr => ?_)
      obtain ⟨F, hW, g6, h1, p6, h6, h7, h9, h10, h11, h13⟩ := h
      refine ol_v (e_mv _ rfl) rfl ?_
      refine ol_v (e_mv _ rfl) rfl ?_
      obtain ⟨x93, hx93, hr⟩ := bind_some' hr
      refine ol_e (f_app sl_23 hW h9 h13 hx93 rfl rfl) rfl rfl ?_
      rintro v94 w95 ⟨hW96, ho97, hg1, st1, hor98⟩
      refine ol_v (e_as _ rfl) rfl ?_
      obtain rfl := Option.some.inj hr
      exact ol_nil ⟨F, hW96, g6, (h1.keep st1), p6, (h6.mut (apart_bo h6 h9 rfl).symm hg1 st1), (h7.keep st1), ho97, h10, h11⟩
    refine Ref.region (fun s ρ w s' h hr => ?_)
    obtain ⟨F, hW, g6, h1, p6, h6, h7, h9, h10, h11⟩ := h
    refine ol_v (e_mv _ h11) rfl ?_
    refine ol_v (e_add rfl rfl) rfl ?_
    refine ol_v (e_as _ rfl) rfl ?_
    obtain rfl := Option.some.inj hr
    exact ol_nil ⟨F, hW, g6, h1, p6, h6, h7, h9, h10, rfl⟩
  refine Ref.seq (B := G6 w0 F0) ?_ ?_
  · refine Ref.region (fun s ρ w s' h hr => ?_)
    obtain ⟨F, hW, g6, p6, h6, h9⟩ := h
    refine ol_v (e_mv _ rfl) rfl ?_
    refine ol_v (e_bld (cells := #[.int .i64 0, .int .i64 0]) bld_27 (vs := []) rfl rfl) rfl ?_
    have hb99 : Val k_Fault F w (.agg #[.int .i64 0, .int .i64 0]) (⟨(0 : Int), (0 : Int)⟩ : Fault) := mk_Fault (val_int _ _) (val_int _ _)
    refine ol_v (e_as _ rfl) rfl ?_
    refine ol_v (e_as _ rfl) rfl ?_
    refine ol_eN (f_stB hW h6 (FldS.whole _) ty_27 hb99 p6 rfl) rfl ?_
    rintro - w100 ⟨hW101, ho102, hg1, st1⟩
    obtain rfl := Option.some.inj hr
    exact ol_nil ⟨F, hW101, g6, (h9.mut (apart_bo h6 h9 rfl) hg1 st1), rfl, p6, ho102⟩
  exact Ref.ret (fun s ρ w h => ⟨s, rfl, h⟩)
def post (w : World) (F : BSet) (r : R) (v : Value) (w' : World) : Prop := ∃ (F' : BSet) (v0' : Value) (v2' : Value), v = .tuple #[v0', .bool r.2.1, v2'] ∧ Wk nrow w F F' w' ∧ OwnV k_LinkEvent 48 (Nw w) F' w' v0' r.1 ∧ Val k_Fault F' w' v2' r.2.2
theorem calls {w : World} {F : BSet} (hok : ∀ b, F b → b < w.heap.size) {v0 : Value} {a0 : (List UInt8)} (h0 : SlR kByte F w v0 a0) {v1 : Value} {a1 : (List Bool)} (h1 : SlR kBool F w v1 a1) {r : R} (hf : f a0 a1 = some r) : Calls Try.prog 15 #[v0, v1] w fun e w' => ∃ v, e = .returned v ∧ post w F r v w' := by
  obtain ⟨c, hc, href⟩ := ref w F
  refine calls_of_ref (args := [v0, v1]) _ Try.func15 hc rfl rfl href ?_ (retOf_some hf) ?_
  · exact ⟨F, Wk.refl hok, h0, h1⟩
  · rintro ρ w' a ⟨s, rfl, F', hW, g6, h4, h5, p6, h6⟩ hF
    obtain ⟨u6, l6, k6⟩ := res_box (P := Try.prog) ty_27 h6
    refine ⟨_, run_results (rs := [.tmp 4, .tmp 5, .cell 6 27]) rfl hF (vs := [ρ 4, ρ 5, u6]) (⟨_, rfl, ⟨_, rfl, ⟨_, _, _, rfl, p6, l6, rfl⟩⟩⟩), ?_⟩
    have hv : resVal [ρ 4, ρ 5, u6] = .tuple #[ρ 4, .bool s.t_5, u6] := by rw [h5]; rfl
    exact ⟨F', ρ 4, u6, hv, hW, h4.rebase (fun g hg => (h4.lt hg).1.resolve_right (fun h => h)), k6⟩
end
end transfer_Plan

namespace law4_transferExample
section
def G0 (w0 : World) (F0 : BSet) (s : S) (ρ : Env) (w : World) : Prop := ∃ (F : BSet), Wk nrow w0 F0 F w
def G1 (w0 : World) (F0 : BSet) (s : S) (ρ : Env) (w : World) : Prop := ∃ (F : BSet), Wk nrow w0 F0 F w ∧ ∃ (g3 : Nat), SlR kByte F w (ρ 1) s.b_1 ∧ ρ 2 = .int .i64 s.n_2 ∧ ρ 3 = .pointer (some ⟨g3, 0, none⟩) ∧ Box k_Fault 27 (Bs w0 nrow) F w g3 s.f_3
def G2 (w0 : World) (F0 : BSet) (s : S) (ρ : Env) (w : World) : Prop := ∃ (F : BSet), Wk nrow w0 F0 F w ∧ ∃ (g3 : Nat) (g6 : Nat), SlR kByte F w (ρ 1) s.b_1 ∧ ρ 2 = .int .i64 s.n_2 ∧ ρ 3 = .pointer (some ⟨g3, 0, none⟩) ∧ Box k_Fault 27 (Bs w0 nrow) F w g3 s.f_3 ∧ SlR k_LinkEvent F w (ρ 4) s.l_4 ∧ ρ 5 = .bool s.done_5 ∧ ρ 6 = .pointer (some ⟨g6, 0, none⟩) ∧ Box k_Fault 27 (Bs w0 nrow) F w g6 s.g_6 ∧ Apart (some g3) (some g6)
def G3 (w0 : World) (F0 : BSet) (s : S) (ρ : Env) (w : World) : Prop := ∃ (F : BSet), Wk nrow w0 F0 F w ∧ ρ 0 = .bool s.t_0
set_option maxHeartbeats 4000000 in
set_option maxRecDepth 20000 in
theorem ref (w0 : World) (F0 : BSet) : ∃ c, Try.f8.body = some c ∧ Ref Try.prog 50 c (G0 w0 F0) body (fun _ _ _ => False) (fun _ _ _ _ => False) (fun r ρ w => ∃ s, retv s = r ∧ G3 w0 F0 s ρ w) := by
  refine ⟨_, rfl, ?_⟩
  unfold body
  refine Ref.seq (B := G0 w0 F0) ?_ ?_
  · refine Ref.region (fun s ρ w s' h hr => ?_)
    obtain ⟨F, hW⟩ := h
    refine ol_v (e_as _ rfl) rfl ?_
    obtain rfl := Option.some.inj hr
    exact ol_nil ⟨F, hW⟩
  refine Ref.seq (B := G1 w0 F0) ?_ ?_
  · refine Ref.region (fun s ρ w s' h hr => ?_)
    obtain ⟨F, hW⟩ := h
    refine ol_e (f_bslF sl_22 hW ([(7 : UInt8)] : List UInt8) [.int .u8 7] (by exact ⟨_, _, rfl, (val_byte _), rfl⟩) rfl (Nat.le_of_ble_eq_true rfl) (lcons (congrArg (Prod.mk 0) rfl) rfl)) rfl rfl ?_
    rintro v1 w2 ⟨Fz4, kw1, ho3⟩
    have hW5 := hW.trans kw1
    have st1 := kw1.stp hW.ok
    refine ol_v (e_bld (cells := #[.int .i64 (1), .int .i64 0]) bld_48 (vs := [(0, .int .i64 (1))]) (lcons (congrArg (Prod.mk 0) rfl) rfl) rfl) rfl ?_
    have hb6 : Val k_LinkEvent Fz4 w2 (.agg #[.int .i64 (1), .int .i64 0]) (⟨(1 : Int), (0 : Int)⟩ : LinkEvent) := mk_LinkEvent (val_int _ _) (val_int _ _)
    refine ol_v (e_bld (cells := #[.int .i64 (4), .int .i64 0]) bld_48 (vs := [(0, .int .i64 (4))]) (lcons (congrArg (Prod.mk 0) rfl) rfl) rfl) rfl ?_
    have hb7 : Val k_LinkEvent Fz4 w2 (.agg #[.int .i64 (4), .int .i64 0]) (⟨(4 : Int), (0 : Int)⟩ : LinkEvent) := mk_LinkEvent (val_int _ _) (val_int _ _)
    refine ol_v (e_bld (cells := #[.int .i64 (2), .int .i64 0]) bld_48 (vs := [(0, .int .i64 (2))]) (lcons (congrArg (Prod.mk 0) rfl) rfl) rfl) rfl ?_
    have hb8 : Val k_LinkEvent Fz4 w2 (.agg #[.int .i64 (2), .int .i64 0]) (⟨(2 : Int), (0 : Int)⟩ : LinkEvent) := mk_LinkEvent (val_int _ _) (val_int _ _)
    refine ol_v (e_bld (cells := #[.int .i64 (2), .int .i64 0]) bld_48 (vs := [(0, .int .i64 (2))]) (lcons (congrArg (Prod.mk 0) rfl) rfl) rfl) rfl ?_
    have hb9 : Val k_LinkEvent Fz4 w2 (.agg #[.int .i64 (2), .int .i64 0]) (⟨(2 : Int), (0 : Int)⟩ : LinkEvent) := mk_LinkEvent (val_int _ _) (val_int _ _)
    refine ol_e (f_bslF sl_23 hW5 ([(⟨(1 : Int), (0 : Int)⟩ : LinkEvent), (⟨(4 : Int), (0 : Int)⟩ : LinkEvent), (⟨(2 : Int), (0 : Int)⟩ : LinkEvent), (⟨(2 : Int), (0 : Int)⟩ : LinkEvent)] : List LinkEvent) [.agg #[.int .i64 (1), .int .i64 0], .agg #[.int .i64 (4), .int .i64 0], .agg #[.int .i64 (2), .int .i64 0], .agg #[.int .i64 (2), .int .i64 0]] (by exact ⟨_, _, rfl, hb6, ⟨_, _, rfl, hb7, ⟨_, _, rfl, hb8, ⟨_, _, rfl, hb9, rfl⟩⟩⟩⟩) rfl (Nat.le_of_ble_eq_true rfl) (lcons (congrArg (Prod.mk 0) rfl) (lcons (congrArg (Prod.mk 1) rfl) (lcons (congrArg (Prod.mk 2) rfl) (lcons (congrArg (Prod.mk 3) rfl) rfl))))) rfl rfl ?_
    rintro v10 w11 ⟨Fz13, kw2, ho12⟩
    have hW14 := hW5.trans kw2
    have st2 := kw2.stp hW5.ok
    obtain ⟨x15, hx15, hr⟩ := bind_some' hr
    refine ol_e (f_call [v1, v10] fn_10 (lcons rfl (lcons rfl rfl)) (transfer_Run.calls hW14.ok (ho3.keep st2) ho12 hx15)) rfl rfl ?_
    rintro _ w16 ⟨Fz17, v18, v20, rfl, kw3, hk19, hk21⟩
    have hW23 := hW14.trans kw3
    have st3 := kw3.stp hW14.ok
    refine ol_v (e_mv _ rfl) rfl ?_
    refine ol_v (e_ext _ rfl rfl) rfl ?_
    refine ol_v (e_ext _ rfl rfl) rfl ?_
    refine ol_v (e_ext _ rfl rfl) rfl ?_
    refine ol_e (f_alloc zer_27 hW23) rfl rfl ?_
    rintro _ w25 ⟨g24, rfl, kw4, ho26⟩
    have hW27 := hW23.trans kw4
    have st4 := kw4.stp hW23.ok
    obtain ⟨Fz28, hWz29, st5, hF5, hz30⟩ := (((hk19.base (row := nrow) hW14.le).wk kw4 hW23.ok)).frozen hW27
    refine ol_v (e_as _ rfl) rfl ?_
    refine ol_v (e_as _ rfl) rfl ?_
    refine ol_eN (f_stB hWz29 ((ho26.base (row := nrow) hW23.le).frz (apart_bo (ho26.base (row := nrow) hW23.le) ((hk19.base (row := nrow) hW14.le).wk kw4 hW23.ok) rfl).symm hF5 st5) (FldS.whole _) ty_27 (hk21.keep (st4.trans st5)) rfl rfl) rfl ?_
    rintro - w31 ⟨hW32, ho33, hg6, st6⟩
    obtain rfl := Option.some.inj hr
    exact ol_nil ⟨Fz28, hW32, g24, (hz30.keep st6), rfl, rfl, ho33⟩
  refine Ref.seq (B := G2 w0 F0) ?_ ?_
  · refine Ref.region (fun s ρ w s' h hr => ?_)
    obtain ⟨F, hW, g3, h1, h2, p3, h3⟩ := h
    refine ol_e (f_bslF sl_22 hW ([(7 : UInt8)] : List UInt8) [.int .u8 7] (by exact ⟨_, _, rfl, (val_byte _), rfl⟩) rfl (Nat.le_of_ble_eq_true rfl) (lcons (congrArg (Prod.mk 0) rfl) rfl)) rfl rfl ?_
    rintro v34 w35 ⟨Fz37, kw1, ho36⟩
    have hW38 := hW.trans kw1
    have st1 := kw1.stp hW.ok
    refine ol_e (f_bslF sl_38 hW38 ([true] : List Bool) [.bool true] (by exact ⟨_, _, rfl, (val_bool _), rfl⟩) rfl (Nat.le_of_ble_eq_true rfl) (lcons (congrArg (Prod.mk 0) rfl) rfl)) rfl rfl ?_
    rintro v39 w40 ⟨Fz42, kw2, ho41⟩
    have hW43 := hW38.trans kw2
    have st2 := kw2.stp hW38.ok
    obtain ⟨x44, hx44, hr⟩ := bind_some' hr
    refine ol_e (f_call [v34, v39] fn_15 (lcons rfl (lcons rfl rfl)) (transfer_Plan.calls hW43.ok (ho36.keep st2) ho41 hx44)) rfl rfl ?_
    rintro _ w45 ⟨Fz46, v47, v49, rfl, kw3, hk48, hk50⟩
    have hW52 := hW43.trans kw3
    have st3 := kw3.stp hW43.ok
    refine ol_v (e_mv _ rfl) rfl ?_
    refine ol_v (e_ext _ rfl rfl) rfl ?_
    refine ol_v (e_ext _ rfl rfl) rfl ?_
    refine ol_v (e_ext _ rfl rfl) rfl ?_
    refine ol_e (f_alloc zer_27 hW52) rfl rfl ?_
    rintro _ w54 ⟨g53, rfl, kw4, ho55⟩
    have hW56 := hW52.trans kw4
    have st4 := kw4.stp hW52.ok
    obtain ⟨Fz57, hWz58, st5, hF5, hz59⟩ := (((hk48.base (row := nrow) hW43.le).wk kw4 hW52.ok)).frozen hW56
    refine ol_v (e_as _ rfl) rfl ?_
    refine ol_v (e_as _ rfl) rfl ?_
    refine ol_eN (f_stB hWz58 ((ho55.base (row := nrow) hW52.le).frz (apart_bo (ho55.base (row := nrow) hW52.le) ((hk48.base (row := nrow) hW43.le).wk kw4 hW52.ok) rfl).symm hF5 st5) (FldS.whole _) ty_27 (hk50.keep (st4.trans st5)) rfl rfl) rfl ?_
    rintro - w60 ⟨hW61, ho62, hg6, st6⟩
    obtain rfl := Option.some.inj hr
    exact ol_nil ⟨Fz57, hW61, g3, g53, (h1.keep (st1.trans (st2.trans (st3.trans (st4.trans (st5.trans st6)))))), h2, p3, ((((((h3.wk kw1 hW.ok).wk kw2 hW38.ok).wk kw3 hW43.ok).wk kw4 hW52.ok).frz (apart_bo ((((h3.wk kw1 hW.ok).wk kw2 hW38.ok).wk kw3 hW43.ok).wk kw4 hW52.ok) ((hk48.base (row := nrow) hW43.le).wk kw4 hW52.ok) rfl).symm hF5 st5).mut (Apart.base (fun _ e_ => by cases e_; exact ho55.ge) (((h3.wk kw1 hW.ok).wk kw2 hW38.ok).wk kw3 hW43.ok).ltw) hg6 st6), (hz59.keep st6), rfl, rfl, ho62, (Apart.base (fun _ e_ => by cases e_; exact ho55.ge) (((h3.wk kw1 hW.ok).wk kw2 hW38.ok).wk kw3 hW43.ok).ltw).symm⟩
  refine Ref.seq (B := G3 w0 F0) ?_ ?_
  · refine Ref.region (fun s ρ w s' h hr => ?_)
    obtain ⟨F, hW, g3, g6, h1, h2, p3, h3, h4, h5, p6, h6, a3b_6b⟩ := h
    refine ol_v (e_fa fa_27_0 p3) rfl ?_
    refine ol_v (e_ld ty_3 (LiesV.int ((h3).at_.fld fl_Fault_0)) rfl) rfl ?_
    refine ol_v (e_eql rfl rfl) rfl ?_
    refine ol_cutA 5 28 32 (fun ρ' w' => w = w' ∧ ρ' 32 = .bool ((decide (s.f_3.Code = (0 : Int))) && (decide (s.g_6.Code = (0 : Int))))) rfl ?_ ?_
    · by_cases hb63 : (decide (s.f_3.Code = (0 : Int))) = true
      · refine ol_v (e_mv _ rfl) rfl ?_
        refine ol_yes rfl rfl (congrArg Value.bool hb63) ?_
        refine ol_v (e_fa fa_27_0 p6) rfl ?_
        refine ol_yes rfl rfl (congrArg Value.bool hb63) ?_
        refine ol_v (e_ld ty_3 (LiesV.int ((h6).at_.fld fl_Fault_0)) rfl) rfl ?_
        refine ol_yes rfl rfl (congrArg Value.bool hb63) ?_
        refine ol_v (e_eql rfl rfl) rfl ?_
        refine ol_v (e_pick true _ (congrArg Value.bool hb63) rfl) rfl ?_
        exact ol_nil ⟨⟨rfl, (bv_and_t hb63)⟩, ((((((Agr.refl _ _ _).upd rfl rfl).upd rfl rfl).upd rfl rfl).upd rfl rfl).upd rfl rfl)⟩
      · have hb64 := Bool.eq_false_iff.mpr hb63
        refine ol_v (e_mv _ rfl) rfl ?_
        refine ol_not rfl rfl rfl (congrArg Value.bool hb64) rfl ?_
        refine ol_not rfl rfl rfl (congrArg Value.bool hb64) rfl ?_
        refine ol_not rfl rfl rfl (congrArg Value.bool hb64) rfl ?_
        refine ol_v (e_pick false _ (congrArg Value.bool hb64) rfl) rfl ?_
        exact ol_nil ⟨⟨rfl, (bv_and_f hb64)⟩, ((((((Agr.refl _ _ _).upd rfl rfl).upd rfl rfl).upd rfl rfl).upd rfl rfl).upd rfl rfl)⟩
    rintro ρ65 _ ⟨⟨rfl, hp65⟩, hAg65⟩
    refine ol_cutA 5 33 37 (fun ρ' w' => w = w' ∧ ρ' 37 = .bool (((decide (s.f_3.Code = (0 : Int))) && (decide (s.g_6.Code = (0 : Int)))) && (decide ((strOf s.b_1) = (⟨#[7]⟩ : ByteArray))))) rfl ?_ ?_
    · by_cases hb66 : ((decide (s.f_3.Code = (0 : Int))) && (decide (s.g_6.Code = (0 : Int)))) = true
      · refine ol_v (e_mv _ hp65) rfl ?_
        refine ol_yes rfl rfl (congrArg Value.bool hb66) ?_
        refine ol_v (e_mv _ (hAg65 1 rfl)) rfl ?_
        refine ol_yes rfl rfl (congrArg Value.bool hb66) ?_
        refine ol_v (e_b2s (SlT.sl sl_22) (by kernel_rfl) (by kernel_rfl) h1 rfl) rfl ?_
        refine ol_yes rfl rfl (congrArg Value.bool hb66) ?_
        refine ol_v (e_seql rfl rfl) rfl ?_
        refine ol_v (e_pick true _ (congrArg Value.bool hb66) rfl) rfl ?_
        exact ol_nil ⟨⟨rfl, (bv_and_t hb66)⟩, ((((((Agr.refl _ _ _).upd rfl rfl).upd rfl rfl).upd rfl rfl).upd rfl rfl).upd rfl rfl)⟩
      · have hb67 := Bool.eq_false_iff.mpr hb66
        refine ol_v (e_mv _ hp65) rfl ?_
        refine ol_not rfl rfl rfl (congrArg Value.bool hb67) rfl ?_
        refine ol_not rfl rfl rfl (congrArg Value.bool hb67) rfl ?_
        refine ol_not rfl rfl rfl (congrArg Value.bool hb67) rfl ?_
        refine ol_v (e_pick false _ (congrArg Value.bool hb67) rfl) rfl ?_
        exact ol_nil ⟨⟨rfl, (bv_and_f hb67)⟩, ((((((Agr.refl _ _ _).upd rfl rfl).upd rfl rfl).upd rfl rfl).upd rfl rfl).upd rfl rfl)⟩
    rintro ρ68 _ ⟨⟨rfl, hp68⟩, hAg68⟩
    refine ol_cutA 4 38 41 (fun ρ' w' => w = w' ∧ ρ' 41 = .bool ((((decide (s.f_3.Code = (0 : Int))) && (decide (s.g_6.Code = (0 : Int)))) && (decide ((strOf s.b_1) = (⟨#[7]⟩ : ByteArray)))) && (decide (s.n_2 = (0 : Int))))) rfl ?_ ?_
    · by_cases hb69 : (((decide (s.f_3.Code = (0 : Int))) && (decide (s.g_6.Code = (0 : Int)))) && (decide ((strOf s.b_1) = (⟨#[7]⟩ : ByteArray)))) = true
      · refine ol_v (e_mv _ hp68) rfl ?_
        refine ol_yes rfl rfl (congrArg Value.bool hb69) ?_
        refine ol_v (e_mv _ ((hAg68 2 rfl).trans ((hAg65 2 rfl).trans h2))) rfl ?_
        refine ol_yes rfl rfl (congrArg Value.bool hb69) ?_
        refine ol_v (e_eql rfl rfl) rfl ?_
        refine ol_v (e_pick true _ (congrArg Value.bool hb69) rfl) rfl ?_
        exact ol_nil ⟨⟨rfl, (bv_and_t hb69)⟩, (((((Agr.refl _ _ _).upd rfl rfl).upd rfl rfl).upd rfl rfl).upd rfl rfl)⟩
      · have hb70 := Bool.eq_false_iff.mpr hb69
        refine ol_v (e_mv _ hp68) rfl ?_
        refine ol_not rfl rfl rfl (congrArg Value.bool hb70) rfl ?_
        refine ol_not rfl rfl rfl (congrArg Value.bool hb70) rfl ?_
        refine ol_v (e_pick false _ (congrArg Value.bool hb70) rfl) rfl ?_
        exact ol_nil ⟨⟨rfl, (bv_and_f hb70)⟩, (((((Agr.refl _ _ _).upd rfl rfl).upd rfl rfl).upd rfl rfl).upd rfl rfl)⟩
    rintro ρ71 _ ⟨⟨rfl, hp71⟩, hAg71⟩
    refine ol_cutA 3 42 44 (fun ρ' w' => w = w' ∧ ρ' 44 = .bool (((((decide (s.f_3.Code = (0 : Int))) && (decide (s.g_6.Code = (0 : Int)))) && (decide ((strOf s.b_1) = (⟨#[7]⟩ : ByteArray)))) && (decide (s.n_2 = (0 : Int)))) && s.done_5)) rfl ?_ ?_
    · by_cases hb72 : ((((decide (s.f_3.Code = (0 : Int))) && (decide (s.g_6.Code = (0 : Int)))) && (decide ((strOf s.b_1) = (⟨#[7]⟩ : ByteArray)))) && (decide (s.n_2 = (0 : Int)))) = true
      · refine ol_v (e_mv _ hp71) rfl ?_
        refine ol_yes rfl rfl (congrArg Value.bool hb72) ?_
        refine ol_v (e_mv _ ((hAg71 5 rfl).trans ((hAg68 5 rfl).trans ((hAg65 5 rfl).trans h5)))) rfl ?_
        refine ol_v (e_pick true _ (congrArg Value.bool hb72) rfl) rfl ?_
        exact ol_nil ⟨⟨rfl, (bv_and_t hb72)⟩, ((((Agr.refl _ _ _).upd rfl rfl).upd rfl rfl).upd rfl rfl)⟩
      · have hb73 := Bool.eq_false_iff.mpr hb72
        refine ol_v (e_mv _ hp71) rfl ?_
        refine ol_not rfl rfl rfl (congrArg Value.bool hb73) rfl ?_
        refine ol_v (e_pick false _ (congrArg Value.bool hb73) rfl) rfl ?_
        exact ol_nil ⟨⟨rfl, (bv_and_f hb73)⟩, ((((Agr.refl _ _ _).upd rfl rfl).upd rfl rfl).upd rfl rfl)⟩
    rintro ρ74 _ ⟨⟨rfl, hp74⟩, hAg74⟩
    refine ol_cutA 5 45 49 (fun ρ' w' => w = w' ∧ ρ' 49 = .bool ((((((decide (s.f_3.Code = (0 : Int))) && (decide (s.g_6.Code = (0 : Int)))) && (decide ((strOf s.b_1) = (⟨#[7]⟩ : ByteArray)))) && (decide (s.n_2 = (0 : Int)))) && s.done_5) && (decide ((s.l_4.length : Int) = (5 : Int))))) rfl ?_ ?_
    · by_cases hb75 : (((((decide (s.f_3.Code = (0 : Int))) && (decide (s.g_6.Code = (0 : Int)))) && (decide ((strOf s.b_1) = (⟨#[7]⟩ : ByteArray)))) && (decide (s.n_2 = (0 : Int)))) && s.done_5) = true
      · refine ol_v (e_mv _ hp74) rfl ?_
        refine ol_yes rfl rfl (congrArg Value.bool hb75) ?_
        refine ol_v (e_mv _ ((hAg74 4 rfl).trans ((hAg71 4 rfl).trans ((hAg68 4 rfl).trans (hAg65 4 rfl))))) rfl ?_
        refine ol_yes rfl rfl (congrArg Value.bool hb75) ?_
        obtain ⟨A77, c78, e79, hc80, R81⟩ := id h4
        refine ol_v (e_len (SlT.sl sl_23) e79) rfl ?_
        refine ol_yes rfl rfl (congrArg Value.bool hb75) ?_
        refine ol_v (e_eql rfl rfl) rfl ?_
        refine ol_v (e_pick true _ (congrArg Value.bool hb75) rfl) rfl ?_
        exact ol_nil ⟨⟨rfl, (bv_and_t hb75)⟩, ((((((Agr.refl _ _ _).upd rfl rfl).upd rfl rfl).upd rfl rfl).upd rfl rfl).upd rfl rfl)⟩
      · have hb76 := Bool.eq_false_iff.mpr hb75
        refine ol_v (e_mv _ hp74) rfl ?_
        refine ol_not rfl rfl rfl (congrArg Value.bool hb76) rfl ?_
        refine ol_not rfl rfl rfl (congrArg Value.bool hb76) rfl ?_
        refine ol_not rfl rfl rfl (congrArg Value.bool hb76) rfl ?_
        refine ol_v (e_pick false _ (congrArg Value.bool hb76) rfl) rfl ?_
        exact ol_nil ⟨⟨rfl, (bv_and_f hb76)⟩, ((((((Agr.refl _ _ _).upd rfl rfl).upd rfl rfl).upd rfl rfl).upd rfl rfl).upd rfl rfl)⟩
    rintro ρ82 _ ⟨⟨rfl, hp82⟩, hAg82⟩
    refine ol_v (e_as _ hp82) rfl ?_
    obtain rfl := Option.some.inj hr
    exact ol_nil ⟨F, hW, rfl⟩
  exact Ref.ret (fun s ρ w h => ⟨s, rfl, h⟩)
def post (w : World) (F : BSet) (r : R) (v : Value) (w' : World) : Prop := ∃ (F' : BSet), v = .bool r ∧ Wk nrow w F F' w'
theorem calls {w : World} {F : BSet} (hok : ∀ b, F b → b < w.heap.size)  {r : R} (hf : f  = some r) : Calls Try.prog 8 #[] w fun e w' => ∃ v, e = .returned v ∧ post w F r v w' := by
  obtain ⟨c, hc, href⟩ := ref w F
  refine calls_of_ref (args := []) _ Try.func8 hc rfl rfl href ?_ (retOf_some hf) ?_
  · exact ⟨F, Wk.refl hok⟩
  · rintro ρ w' a ⟨s, rfl, F', hW, h0⟩ hF
    refine ⟨_, run_results (rs := [.tmp 0]) rfl hF (vs := [ρ 0]) (⟨_, rfl, rfl⟩), ?_⟩
    have hv : resVal [ρ 0] = .bool s.t_0 := by rw [h0]; rfl
    exact ⟨F', hv, hW⟩
end
end law4_transferExample

end Go.Proofs.Ytpdkgodonemonaa
