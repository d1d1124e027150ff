/- The machine's calls come to these plain functions (written by a program, wip/fx/gen.py). -/
import Derived.Test.YtpdkgodonemonaaPA
import Derived.Test.YtpdkgodonemonaaNm
import Derived.Test.YtpdkgodonemonaaM0
import Derived.Test.YtpdkgodonemonaaM1
import Derived.Test.YtpdkgodonemonaaM2
import Derived.Test.YtpdkgodonemonaaM3
import Derived.Test.YtpdkgodonemonaaM4
import Derived.Test.YtpdkgodonemonaaIt
import Derived.Test.YtpdkgodonemonaaSl
namespace Go.Proofs.Ytpdkgodonemonaa
open Go.Fx Go.RowKit
set_option linter.unusedVariables false

namespace ref4_FrameOf
section
def G0 (w0 : World) (F0 : BSet) (s : S) (ρ : Env) (w : World) : Prop := ∃ (F : BSet), Wk nrow w0 F0 F w ∧ SlR kByte F w (ρ 0) s.data_0 ∧ ρ 1 = .int .i64 s.n_1
def G1 (w0 : World) (F0 : BSet) (s : S) (ρ : Env) (w : World) : Prop := ∃ (F : BSet), Wk nrow w0 F0 F w ∧ SlR kByte F w (ρ 4) s.t_4
set_option maxHeartbeats 4000000 in
set_option maxRecDepth 20000 in
theorem ref (w0 : World) (F0 : BSet) : ∃ c, Try.f13.body = some c ∧ Ref Try.prog 15 c (G0 w0 F0) body (fun _ _ _ => False) (fun _ _ _ _ => False) (fun r ρ w => ∃ s, retv s = r ∧ G1 w0 F0 s ρ w) := by
  refine ⟨_, rfl, ?_⟩
  unfold body
  refine Ref.seq (B := G0 w0 F0) ?_ ?_
  · refine Ref.region (fun s ρ w s' h hr => ?_)
    obtain ⟨F, hW, h0, h1⟩ := h
    refine ol_v (e_as _ rfl) rfl ?_
    obtain rfl := Option.some.inj hr
    exact ol_nil ⟨F, hW, h0, h1⟩
  refine Ref.seq (B := G1 w0 F0) ?_ ?_
  · refine Ref.region (fun s ρ w s' h hr => ?_)
    obtain ⟨F, hW, h0, h1⟩ := h
    refine ol_v (e_mv _ rfl) rfl ?_
    refine ol_v (e_mv _ h1) rfl ?_
    refine ol_v (e_mul rfl rfl) rfl ?_
    refine ol_v (e_mv _ rfl) rfl ?_
    obtain ⟨A1, c2, e3, hc4, R5⟩ := id h0
    refine ol_v (e_len (SlT.sl sl_22) e3) rfl ?_
    refine ol_v (e_mv _ h1) rfl ?_
    refine ol_v (e_mul rfl rfl) rfl ?_
    refine ol_v (e_add rfl rfl) rfl ?_
    refine ol_v (e_min rfl rfl) rfl ?_
    obtain ⟨A6, c7, e8, hc9, R10⟩ := id h0
    obtain ⟨x11, hx11, hr⟩ := bind_some' hr
    have hs12 := SlR.cutL R10 hc9 hx11
    refine ol_v (e_slLH (SlT.sl sl_22) (SlT.sz sl_22) hc9 e8 rfl rfl hx11) rfl ?_
    refine ol_v (e_as _ rfl) rfl ?_
    obtain rfl := Option.some.inj hr
    exact ol_nil ⟨F, hW, hs12⟩
  exact Ref.ret (fun s ρ w h => ⟨s, rfl, h⟩)
def post (w : World) (F : BSet) (r : R) (v : Value) (w' : World) : Prop := ∃ (F' : BSet) (v0' : Value), v = v0' ∧ Wk nrow w F F' w' ∧ SlR kByte F' w' v0' r
theorem calls {w : World} {F : BSet} (hok : ∀ b, F b → b < w.heap.size) {v0 : Value} {a0 : (List UInt8)} (h0 : SlR kByte F w v0 a0) (a1 : Int) {r : R} (hf : f a0 a1 = some r) : Calls Try.prog 13 #[v0, .int .i64 a1] w fun e w' => ∃ v, e = .returned v ∧ post w F r v w' := by
  obtain ⟨c, hc, href⟩ := ref w F
  refine calls_of_ref (args := [v0, .int .i64 a1]) _ Try.func13 hc rfl rfl href ?_ (retOf_some hf) ?_
  · exact ⟨F, Wk.refl hok, h0, rfl⟩
  · rintro ρ w' a ⟨s, rfl, F', hW, h4⟩ hF
    refine ⟨_, run_results (rs := [.tmp 4]) rfl hF (vs := [ρ 4]) (⟨_, rfl, rfl⟩), ?_⟩
    exact ⟨F', ρ 4, rfl, hW, h4⟩
end
end ref4_FrameOf

namespace ref4_without
section
def G0 (w0 : World) (F0 : BSet) (s : S) (ρ : Env) (w : World) : Prop := ∃ (F : BSet), Wk nrow w0 F0 F w ∧ SlR (kInt .i64) F w (ρ 0) s.l_0 ∧ ρ 1 = .int .i64 s.n_1
def G1 (w0 : World) (F0 : BSet) (s : S) (ρ : Env) (w : World) : Prop := ∃ (F : BSet), Wk nrow w0 F0 F w ∧ OwnV (kInt .i64) 3 (Bs w0 nrow) F w (ρ 4) s.t_4
set_option maxHeartbeats 4000000 in
set_option maxRecDepth 20000 in
theorem ref (w0 : World) (F0 : BSet) : ∃ c, Try.f23.body = some c ∧ Ref Try.prog 14 c (G0 w0 F0) body (fun _ _ _ => False) (fun _ _ _ _ => False) (fun r ρ w => ∃ s, retv s = r ∧ G1 w0 F0 s ρ w) := by
  refine ⟨_, rfl, ?_⟩
  unfold body
  refine Ref.seq (B := G0 w0 F0) ?_ ?_
  · refine Ref.region (fun s ρ w s' h hr => ?_)
    obtain ⟨F, hW, h0, h1⟩ := h
    refine ol_v (e_as _ rfl) rfl ?_
    obtain rfl := Option.some.inj hr
    exact ol_nil ⟨F, hW, h0, h1⟩
  refine Ref.seq (B := G1 w0 F0) ?_ ?_
  · refine Ref.regionH (by kernel_rfl) (fun s ρ w ⟨F, hW, h0, h1⟩ => ⟨F, hW.drewS, h0.keep (sd hW), h1⟩) (fun s ρ w s' h hr => ?_)
    obtain ⟨F, hW, h0, h1⟩ := h
    refine ⟨fun w' => Stp F w F w', ?_⟩
    refine oh_v 0 rfl (by kernel_rfl) (by kernel_rfl) (by kernel_rfl) (Stp.refl _ _) (fun wv_ SV => e_mv _ rfl) rfl ?_
    refine oh_v 1 rfl (by kernel_rfl) (by kernel_rfl) (by kernel_rfl) (Stp.refl _ _) (fun wv_ SV => e_mv _ h1) rfl ?_
    obtain ⟨A1, c2, e3, hc4, R5⟩ := id h0
    obtain ⟨x6, hx6, hr⟩ := bind_some' hr
    have hs7 := SlR.cutTo R5 hc4 hx6
    refine oh_v 2 rfl (by kernel_rfl) (by kernel_rfl) (by kernel_rfl) (Stp.refl _ _) (fun wv_ SV => e_slH (SlT.sl sl_54) (SlT.sz sl_54) hc4 e3 rfl hx6) rfl ?_
    refine oh_v 4 rfl (by kernel_rfl) (by kernel_rfl) (by kernel_rfl) (Stp.refl _ _) (fun wv_ SV => e_mv _ rfl) rfl ?_
    refine oh_v 5 rfl (by kernel_rfl) (by kernel_rfl) (by kernel_rfl) (Stp.refl _ _) (fun wv_ SV => e_mv _ h1) rfl ?_
    refine oh_v 6 rfl (by kernel_rfl) (by kernel_rfl) (by kernel_rfl) (Stp.refl _ _) (fun wv_ SV => e_add rfl rfl) rfl ?_
    obtain ⟨A8, c9, e10, hc11, R12⟩ := id h0
    obtain ⟨x13, hx13, hr⟩ := bind_some' hr
    have hs14 := SlR.cutFrom R12 hc11 hx13
    refine oh_v 7 rfl (by kernel_rfl) (by kernel_rfl) (by kernel_rfl) (Stp.refl _ _) (fun wv_ SV => e_slL (SlT.sl sl_54) (SlT.sz sl_54) hc11 e10 rfl hx13) rfl ?_
    refine oh_all [3] (by kernel_rfl) rfl ⟨?_, trivial⟩
    · obtain ⟨x15, hx15, hr⟩ := bind_some' hr
      refine oh1_e rfl (f_app sl_54 hW (OwnV.nil (kInt .i64) 3 (Bs w0 nrow) F w) hs7 hx15 rfl rfl) rfl ?_
      rintro v16 w17 ⟨hW18, ho19, hg1, st1, hor20⟩
      refine ⟨(Stp.back st1), ?_⟩
      refine oh_all [8] (by kernel_rfl) rfl ⟨?_, trivial⟩
      · obtain ⟨x21, hx21, hr⟩ := bind_some' hr
        refine oh1_e rfl (f_app sl_54 hW18 ho19 (hs14.keep st1) hx21 rfl rfl) rfl ?_
        rintro v22 w23 ⟨hW24, ho25, hg2, st2, hor26⟩
        refine ⟨(Stp.back (st1.trans st2)), ?_⟩
        refine oh_v 9 rfl (by kernel_rfl) (by kernel_rfl) (by kernel_rfl) (Stp.back (st1.trans st2)) (fun wv_ SV => e_as _ rfl) rfl ?_
        obtain rfl := Option.some.inj hr
        exact oh_done (by kernel_rfl) ⟨F, hW24, ho25⟩
  exact Ref.ret (fun s ρ w h => ⟨s, rfl, h⟩)
def post (w : World) (F : BSet) (r : R) (v : Value) (w' : World) : Prop := ∃ (F' : BSet) (v0' : Value), v = v0' ∧ Wk nrow w F F' w' ∧ OwnV (kInt .i64) 3 (Nw w) F' w' v0' r
theorem calls {w : World} {F : BSet} (hok : ∀ b, F b → b < w.heap.size) {v0 : Value} {a0 : (List Int)} (h0 : SlR (kInt .i64) F w v0 a0) (a1 : Int) {r : R} (hf : f a0 a1 = some r) : Calls Try.prog 23 #[v0, .int .i64 a1] w fun e w' => ∃ v, e = .returned v ∧ post w F r v w' := by
  obtain ⟨c, hc, href⟩ := ref w F
  refine calls_of_ref (args := [v0, .int .i64 a1]) _ Try.func23 hc rfl rfl href ?_ (retOf_some hf) ?_
  · exact ⟨F, Wk.refl hok, h0, rfl⟩
  · rintro ρ w' a ⟨s, rfl, F', hW, h4⟩ hF
    refine ⟨_, run_results (rs := [.tmp 4]) rfl hF (vs := [ρ 4]) (⟨_, rfl, rfl⟩), ?_⟩
    exact ⟨F', ρ 4, rfl, hW, h4.rebase (fun g hg => (h4.lt hg).1.resolve_right (fun h => h))⟩
end
end ref4_without

namespace ref4_TransferOf
section
def G0 (w0 : World) (F0 : BSet) (s : S) (ρ : Env) (w : World) : Prop := ∃ (F : BSet), Wk nrow w0 F0 F w ∧ ρ 0 = .int .i64 s.t_0 ∧ SlR k_LinkEvent F w (ρ 1) s.t_1
def G1 (w0 : World) (F0 : BSet) (s : S) (ρ : Env) (w : World) : Prop := ∃ (F : BSet), Wk nrow w0 F0 F w ∧ ∃ (g6 : Nat), ρ 0 = .int .i64 s.t_0 ∧ SlR k_LinkEvent F w (ρ 1) s.t_1 ∧ ρ 6 = .pointer (some ⟨g6, 0, none⟩) ∧ Box k_Fault 27 (Bs w0 nrow) F w g6 s.t_6
def G2 (w0 : World) (F0 : BSet) (s : S) (ρ : Env) (w : World) : Prop := ∃ (F : BSet), Wk nrow w0 F0 F w ∧ ∃ (g6 : Nat), ρ 0 = .int .i64 s.t_0 ∧ SlR k_LinkEvent F w (ρ 1) s.t_1 ∧ ρ 6 = .pointer (some ⟨g6, 0, none⟩) ∧ Box k_Fault 27 (Bs w0 nrow) F w g6 s.t_6 ∧ OwnV (kInt .i64) 3 (Bs w0 nrow) F w (ρ 7) s.t_7 ∧ OwnV (kInt .i64) 3 (Bs w0 nrow) F w (ρ 8) s.t_8 ∧ Apart (ρ 7).ownBlock (ρ 8).ownBlock
def G3 (w0 : World) (F0 : BSet) (s : S) (ρ : Env) (w : World) : Prop := ∃ (F : BSet), Wk nrow w0 F0 F w ∧ ∃ (g6 : Nat), ρ 0 = .int .i64 s.t_0 ∧ SlR k_LinkEvent F w (ρ 1) s.t_1 ∧ ρ 6 = .pointer (some ⟨g6, 0, none⟩) ∧ Box k_Fault 27 (Bs w0 nrow) F w g6 s.t_6 ∧ OwnV (kInt .i64) 3 (Bs w0 nrow) F w (ρ 7) s.t_7 ∧ OwnV (kInt .i64) 3 (Bs w0 nrow) F w (ρ 8) s.t_8 ∧ ρ 9 = .int .i64 s.t_9 ∧ ρ 10 = .int .i64 s.t_10 ∧ Apart (ρ 7).ownBlock (ρ 8).ownBlock
def G4 (w0 : World) (F0 : BSet) (s : S) (ρ : Env) (w : World) : Prop := ∃ (F : BSet), Wk nrow w0 F0 F w ∧ ∃ (g6 : Nat), ρ 0 = .int .i64 s.t_0 ∧ SlR k_LinkEvent F w (ρ 1) s.t_1 ∧ ρ 6 = .pointer (some ⟨g6, 0, none⟩) ∧ Box k_Fault 27 (Bs w0 nrow) F w g6 s.t_6 ∧ OwnV (kInt .i64) 3 (Bs w0 nrow) F w (ρ 7) s.t_7 ∧ OwnV (kInt .i64) 3 (Bs w0 nrow) F w (ρ 8) s.t_8 ∧ ρ 9 = .int .i64 s.t_9 ∧ ρ 10 = .int .i64 s.t_10 ∧ ρ 11 = .int .i64 s.t_11 ∧ Apart (ρ 7).ownBlock (ρ 8).ownBlock
def G5 (w0 : World) (F0 : BSet) (s : S) (ρ : Env) (w : World) : Prop := ∃ (F : BSet), Wk nrow w0 F0 F w ∧ ∃ (g6 : Nat), ρ 0 = .int .i64 s.t_0 ∧ SlR k_LinkEvent F w (ρ 1) s.t_1 ∧ ρ 6 = .pointer (some ⟨g6, 0, none⟩) ∧ Box k_Fault 27 (Bs w0 nrow) F w g6 s.t_6 ∧ OwnV (kInt .i64) 3 (Bs w0 nrow) F w (ρ 7) s.t_7 ∧ OwnV (kInt .i64) 3 (Bs w0 nrow) F w (ρ 8) s.t_8 ∧ ρ 9 = .int .i64 s.t_9 ∧ ρ 10 = .int .i64 s.t_10 ∧ ρ 11 = .int .i64 s.t_11 ∧ ρ 17 = .bool s.t_17 ∧ Apart (ρ 7).ownBlock (ρ 8).ownBlock
def G6 (w0 : World) (F0 : BSet) (s : S) (ρ : Env) (w : World) : Prop := ∃ (F : BSet), Wk nrow w0 F0 F w ∧ ∃ (g6 : Nat), ρ 6 = .pointer (some ⟨g6, 0, none⟩) ∧ Box k_Fault 27 (Bs w0 nrow) F w g6 s.t_6 ∧ ρ 9 = .int .i64 s.t_9 ∧ ρ 10 = .int .i64 s.t_10
def G7 (w0 : World) (F0 : BSet) (s : S) (ρ : Env) (w : World) : Prop := ∃ (F : BSet), Wk nrow w0 F0 F w ∧ ∃ (g6 : Nat), ρ 0 = .int .i64 s.t_0 ∧ SlR k_LinkEvent F w (ρ 1) s.t_1 ∧ ρ 6 = .pointer (some ⟨g6, 0, none⟩) ∧ Box k_Fault 27 (Bs w0 nrow) F w g6 s.t_6 ∧ OwnV (kInt .i64) 3 (Bs w0 nrow) F w (ρ 7) s.t_7 ∧ OwnV (kInt .i64) 3 (Bs w0 nrow) F w (ρ 8) s.t_8 ∧ ρ 9 = .int .i64 s.t_9 ∧ ρ 10 = .int .i64 s.t_10 ∧ ρ 11 = .int .i64 s.t_11 ∧ ρ 12 = .int .i64 s.t_12 ∧ Apart (ρ 7).ownBlock (ρ 8).ownBlock
def G8 (w0 : World) (F0 : BSet) (s : S) (ρ : Env) (w : World) : Prop := ∃ (F : BSet), Wk nrow w0 F0 F w ∧ ∃ (g6 : Nat), ρ 0 = .int .i64 s.t_0 ∧ SlR k_LinkEvent F w (ρ 1) s.t_1 ∧ ρ 6 = .pointer (some ⟨g6, 0, none⟩) ∧ Box k_Fault 27 (Bs w0 nrow) F w g6 s.t_6 ∧ OwnV (kInt .i64) 3 (Bs w0 nrow) F w (ρ 7) s.t_7 ∧ OwnV (kInt .i64) 3 (Bs w0 nrow) F w (ρ 8) s.t_8 ∧ ρ 9 = .int .i64 s.t_9 ∧ ρ 10 = .int .i64 s.t_10 ∧ ρ 11 = .int .i64 s.t_11 ∧ ρ 12 = .int .i64 s.t_12 ∧ ρ 13 = .int .i64 s.t_13 ∧ Apart (ρ 7).ownBlock (ρ 8).ownBlock
def G9 (w0 : World) (F0 : BSet) (s : S) (ρ : Env) (w : World) : Prop := ∃ (F : BSet), Wk nrow w0 F0 F w ∧ ∃ (g6 : Nat), ρ 0 = .int .i64 s.t_0 ∧ SlR k_LinkEvent F w (ρ 1) s.t_1 ∧ ρ 6 = .pointer (some ⟨g6, 0, none⟩) ∧ Box k_Fault 27 (Bs w0 nrow) F w g6 s.t_6 ∧ OwnV (kInt .i64) 3 (Bs w0 nrow) F w (ρ 7) s.t_7 ∧ OwnV (kInt .i64) 3 (Bs w0 nrow) F w (ρ 8) s.t_8 ∧ ρ 9 = .int .i64 s.t_9 ∧ ρ 10 = .int .i64 s.t_10 ∧ ρ 11 = .int .i64 s.t_11 ∧ ρ 12 = .int .i64 s.t_12 ∧ ρ 13 = .int .i64 s.t_13 ∧ ρ 32 = .bool s.t_32 ∧ Apart (ρ 7).ownBlock (ρ 8).ownBlock
def G10 (w0 : World) (F0 : BSet) (s : S) (ρ : Env) (w : World) : Prop := ∃ (F : BSet), Wk nrow w0 F0 F w ∧ ∃ (g6 : Nat), ρ 6 = .pointer (some ⟨g6, 0, none⟩) ∧ Box k_Fault 27 (Bs w0 nrow) F w g6 s.t_6 ∧ ρ 11 = .int .i64 s.t_11
def G11 (w0 : World) (F0 : BSet) (s : S) (ρ : Env) (w : World) : Prop := ∃ (F : BSet), Wk nrow w0 F0 F w ∧ ∃ (g6 : Nat), ρ 4 = .int .i64 s.t_4 ∧ ρ 5 = .int .i64 s.t_5 ∧ ρ 6 = .pointer (some ⟨g6, 0, none⟩) ∧ Box k_Fault 27 (Bs w0 nrow) F w g6 s.t_6
def G12 (w0 : World) (F0 : BSet) (s : S) (ρ : Env) (w : World) : Prop := ∃ (F : BSet), Wk nrow w0 F0 F w ∧ ∃ (g6 : Nat), ρ 0 = .int .i64 s.t_0 ∧ SlR k_LinkEvent F w (ρ 1) s.t_1 ∧ ρ 6 = .pointer (some ⟨g6, 0, none⟩) ∧ Box k_Fault 27 (Bs w0 nrow) F w g6 s.t_6 ∧ OwnV (kInt .i64) 3 (Bs w0 nrow) F w (ρ 7) s.t_7 ∧ OwnV (kInt .i64) 3 (Bs w0 nrow) F w (ρ 8) s.t_8 ∧ ρ 9 = .int .i64 s.t_9 ∧ ρ 10 = .int .i64 s.t_10 ∧ ρ 11 = .int .i64 s.t_11 ∧ ρ 12 = .int .i64 s.t_12 ∧ ρ 13 = .int .i64 s.t_13 ∧ ρ 40 = .bool s.t_40 ∧ Apart (ρ 7).ownBlock (ρ 8).ownBlock
def G13 (w0 : World) (F0 : BSet) (s : S) (ρ : Env) (w : World) : Prop := ∃ (F : BSet), Wk nrow w0 F0 F w ∧ ∃ (g6 : Nat), ρ 0 = .int .i64 s.t_0 ∧ SlR k_LinkEvent F w (ρ 1) s.t_1 ∧ ρ 6 = .pointer (some ⟨g6, 0, none⟩) ∧ Box k_Fault 27 (Bs w0 nrow) F w g6 s.t_6 ∧ OwnV (kInt .i64) 3 (Bs w0 nrow) F w (ρ 7) s.t_7 ∧ OwnV (kInt .i64) 3 (Bs w0 nrow) F w (ρ 8) s.t_8 ∧ ρ 9 = .int .i64 s.t_9 ∧ ρ 10 = .int .i64 s.t_10 ∧ ρ 11 = .int .i64 s.t_11 ∧ ρ 12 = .int .i64 s.t_12 ∧ ρ 13 = .int .i64 s.t_13 ∧ ρ 49 = .bool s.t_49 ∧ Apart (ρ 7).ownBlock (ρ 8).ownBlock
def G14 (w0 : World) (F0 : BSet) (s : S) (ρ : Env) (w : World) : Prop := ∃ (F : BSet), Wk nrow w0 F0 F w ∧ ∃ (g6 : Nat), ρ 0 = .int .i64 s.t_0 ∧ SlR k_LinkEvent F w (ρ 1) s.t_1 ∧ ρ 6 = .pointer (some ⟨g6, 0, none⟩) ∧ Box k_Fault 27 (Bs w0 nrow) F w g6 s.t_6 ∧ OwnV (kInt .i64) 3 (Bs w0 nrow) F w (ρ 7) s.t_7 ∧ OwnV (kInt .i64) 3 (Bs w0 nrow) F w (ρ 8) s.t_8 ∧ ρ 9 = .int .i64 s.t_9 ∧ ρ 10 = .int .i64 s.t_10 ∧ ρ 11 = .int .i64 s.t_11 ∧ ρ 12 = .int .i64 s.t_12 ∧ ρ 13 = .int .i64 s.t_13 ∧ ρ 73 = .bool s.t_73 ∧ Apart (ρ 7).ownBlock (ρ 8).ownBlock
def G15 (w0 : World) (F0 : BSet) (s : S) (ρ : Env) (w : World) : Prop := ∃ (F : BSet), Wk nrow w0 F0 F w ∧ ∃ (g6 : Nat), ρ 0 = .int .i64 s.t_0 ∧ SlR k_LinkEvent F w (ρ 1) s.t_1 ∧ ρ 6 = .pointer (some ⟨g6, 0, none⟩) ∧ Box k_Fault 27 (Bs w0 nrow) F w g6 s.t_6 ∧ OwnV (kInt .i64) 3 (Bs w0 nrow) F w (ρ 7) s.t_7 ∧ OwnV (kInt .i64) 3 (Bs w0 nrow) F w (ρ 8) s.t_8 ∧ ρ 9 = .int .i64 s.t_9 ∧ ρ 10 = .int .i64 s.t_10 ∧ ρ 11 = .int .i64 s.t_11 ∧ ρ 12 = .int .i64 s.t_12 ∧ ρ 76 = .int .i64 s.t_76 ∧ Apart (ρ 7).ownBlock (ρ 8).ownBlock
def G16 (w0 : World) (F0 : BSet) (s : S) (ρ : Env) (w : World) : Prop := ∃ (F : BSet), Wk nrow w0 F0 F w ∧ ∃ (g6 : Nat), ρ 0 = .int .i64 s.t_0 ∧ SlR k_LinkEvent F w (ρ 1) s.t_1 ∧ ρ 6 = .pointer (some ⟨g6, 0, none⟩) ∧ Box k_Fault 27 (Bs w0 nrow) F w g6 s.t_6 ∧ OwnV (kInt .i64) 3 (Bs w0 nrow) F w (ρ 7) s.t_7 ∧ OwnV (kInt .i64) 3 (Bs w0 nrow) F w (ρ 8) s.t_8 ∧ ρ 9 = .int .i64 s.t_9 ∧ ρ 10 = .int .i64 s.t_10 ∧ ρ 11 = .int .i64 s.t_11 ∧ ρ 12 = .int .i64 s.t_12 ∧ ρ 76 = .int .i64 s.t_76 ∧ ρ 77 = .bool s.t_77 ∧ Apart (ρ 7).ownBlock (ρ 8).ownBlock
def G17 (w0 : World) (F0 : BSet) (s : S) (ρ : Env) (w : World) : Prop := ∃ (F : BSet), Wk nrow w0 F0 F w ∧ ∃ (g6 : Nat), ρ 0 = .int .i64 s.t_0 ∧ SlR k_LinkEvent F w (ρ 1) s.t_1 ∧ ρ 6 = .pointer (some ⟨g6, 0, none⟩) ∧ Box k_Fault 27 (Bs w0 nrow) F w g6 s.t_6 ∧ OwnV (kInt .i64) 3 (Bs w0 nrow) F w (ρ 7) s.t_7 ∧ OwnV (kInt .i64) 3 (Bs w0 nrow) F w (ρ 8) s.t_8 ∧ ρ 9 = .int .i64 s.t_9 ∧ ρ 10 = .int .i64 s.t_10 ∧ ρ 11 = .int .i64 s.t_11 ∧ ρ 12 = .int .i64 s.t_12 ∧ ρ 76 = .int .i64 s.t_76 ∧ ρ 83 = .bool s.t_83 ∧ Apart (ρ 7).ownBlock (ρ 8).ownBlock
def G18 (w0 : World) (F0 : BSet) (s : S) (ρ : Env) (w : World) : Prop := ∃ (F : BSet), Wk nrow w0 F0 F w ∧ ∃ (g6 : Nat), ρ 0 = .int .i64 s.t_0 ∧ SlR k_LinkEvent F w (ρ 1) s.t_1 ∧ ρ 6 = .pointer (some ⟨g6, 0, none⟩) ∧ Box k_Fault 27 (Bs w0 nrow) F w g6 s.t_6 ∧ OwnV (kInt .i64) 3 (Bs w0 nrow) F w (ρ 7) s.t_7 ∧ OwnV (kInt .i64) 3 (Bs w0 nrow) F w (ρ 8) s.t_8 ∧ ρ 9 = .int .i64 s.t_9 ∧ ρ 10 = .int .i64 s.t_10 ∧ ρ 11 = .int .i64 s.t_11 ∧ ρ 12 = .int .i64 s.t_12 ∧ ρ 90 = .bool s.t_90 ∧ Apart (ρ 7).ownBlock (ρ 8).ownBlock
def G19 (w0 : World) (F0 : BSet) (s : S) (ρ : Env) (w : World) : Prop := ∃ (F : BSet), Wk nrow w0 F0 F w ∧ ∃ (g6 : Nat), ρ 0 = .int .i64 s.t_0 ∧ SlR k_LinkEvent F w (ρ 1) s.t_1 ∧ ρ 6 = .pointer (some ⟨g6, 0, none⟩) ∧ Box k_Fault 27 (Bs w0 nrow) F w g6 s.t_6 ∧ OwnV (kInt .i64) 3 (Bs w0 nrow) F w (ρ 7) s.t_7 ∧ OwnV (kInt .i64) 3 (Bs w0 nrow) F w (ρ 8) s.t_8 ∧ ρ 9 = .int .i64 s.t_9 ∧ ρ 10 = .int .i64 s.t_10 ∧ ρ 11 = .int .i64 s.t_11 ∧ ρ 12 = .int .i64 s.t_12 ∧ ρ 76 = .int .i64 s.t_76 ∧ ρ 100 = .bool s.t_100 ∧ Apart (ρ 7).ownBlock (ρ 8).ownBlock
def G20 (w0 : World) (F0 : BSet) (s : S) (ρ : Env) (w : World) : Prop := ∃ (F : BSet), Wk nrow w0 F0 F w ∧ ∃ (g6 : Nat), ρ 0 = .int .i64 s.t_0 ∧ SlR k_LinkEvent F w (ρ 1) s.t_1 ∧ ρ 6 = .pointer (some ⟨g6, 0, none⟩) ∧ Box k_Fault 27 (Bs w0 nrow) F w g6 s.t_6 ∧ OwnV (kInt .i64) 3 (Bs w0 nrow) F w (ρ 7) s.t_7 ∧ OwnV (kInt .i64) 3 (Bs w0 nrow) F w (ρ 8) s.t_8 ∧ ρ 9 = .int .i64 s.t_9 ∧ ρ 10 = .int .i64 s.t_10 ∧ ρ 11 = .int .i64 s.t_11 ∧ ρ 12 = .int .i64 s.t_12 ∧ ρ 76 = .int .i64 s.t_76 ∧ ρ 105 = .bool s.t_105 ∧ Apart (ρ 7).ownBlock (ρ 8).ownBlock
def G21 (w0 : World) (F0 : BSet) (s : S) (ρ : Env) (w : World) : Prop := ∃ (F : BSet), Wk nrow w0 F0 F w ∧ ∃ (g6 : Nat), ρ 0 = .int .i64 s.t_0 ∧ SlR k_LinkEvent F w (ρ 1) s.t_1 ∧ ρ 6 = .pointer (some ⟨g6, 0, none⟩) ∧ Box k_Fault 27 (Bs w0 nrow) F w g6 s.t_6 ∧ OwnV (kInt .i64) 3 (Bs w0 nrow) F w (ρ 7) s.t_7 ∧ OwnV (kInt .i64) 3 (Bs w0 nrow) F w (ρ 8) s.t_8 ∧ ρ 9 = .int .i64 s.t_9 ∧ ρ 10 = .int .i64 s.t_10 ∧ ρ 11 = .int .i64 s.t_11 ∧ ρ 12 = .int .i64 s.t_12 ∧ ρ 76 = .int .i64 s.t_76 ∧ ρ 114 = .bool s.t_114 ∧ Apart (ρ 7).ownBlock (ρ 8).ownBlock
def G22 (w0 : World) (F0 : BSet) (s : S) (ρ : Env) (w : World) : Prop := ∃ (F : BSet), Wk nrow w0 F0 F w ∧ ∃ (g6 : Nat), ρ 0 = .int .i64 s.t_0 ∧ SlR k_LinkEvent F w (ρ 1) s.t_1 ∧ ρ 6 = .pointer (some ⟨g6, 0, none⟩) ∧ Box k_Fault 27 (Bs w0 nrow) F w g6 s.t_6 ∧ OwnV (kInt .i64) 3 (Bs w0 nrow) F w (ρ 7) s.t_7 ∧ OwnV (kInt .i64) 3 (Bs w0 nrow) F w (ρ 8) s.t_8 ∧ ρ 9 = .int .i64 s.t_9 ∧ ρ 10 = .int .i64 s.t_10 ∧ ρ 11 = .int .i64 s.t_11 ∧ ρ 12 = .int .i64 s.t_12 ∧ ρ 121 = .bool s.t_121 ∧ Apart (ρ 7).ownBlock (ρ 8).ownBlock
def G23 (w0 : World) (F0 : BSet) (s : S) (ρ : Env) (w : World) : Prop := ∃ (F : BSet), Wk nrow w0 F0 F w ∧ ∃ (g6 : Nat), ρ 0 = .int .i64 s.t_0 ∧ SlR k_LinkEvent F w (ρ 1) s.t_1 ∧ ρ 6 = .pointer (some ⟨g6, 0, none⟩) ∧ Box k_Fault 27 (Bs w0 nrow) F w g6 s.t_6 ∧ OwnV (kInt .i64) 3 (Bs w0 nrow) F w (ρ 7) s.t_7 ∧ OwnV (kInt .i64) 3 (Bs w0 nrow) F w (ρ 8) s.t_8 ∧ ρ 9 = .int .i64 s.t_9 ∧ ρ 11 = .int .i64 s.t_11 ∧ ρ 12 = .int .i64 s.t_12 ∧ Apart (ρ 7).ownBlock (ρ 8).ownBlock
def G24 (w0 : World) (F0 : BSet) (s : S) (ρ : Env) (w : World) : Prop := ∃ (F : BSet), Wk nrow w0 F0 F w ∧ ∃ (g6 : Nat), ρ 0 = .int .i64 s.t_0 ∧ SlR k_LinkEvent F w (ρ 1) s.t_1 ∧ ρ 6 = .pointer (some ⟨g6, 0, none⟩) ∧ Box k_Fault 27 (Bs w0 nrow) F w g6 s.t_6 ∧ OwnV (kInt .i64) 3 (Bs w0 nrow) F w (ρ 7) s.t_7 ∧ OwnV (kInt .i64) 3 (Bs w0 nrow) F w (ρ 8) s.t_8 ∧ ρ 9 = .int .i64 s.t_9 ∧ ρ 10 = .int .i64 s.t_10 ∧ ρ 11 = .int .i64 s.t_11 ∧ ρ 12 = .int .i64 s.t_12 ∧ ρ 129 = .bool s.t_129 ∧ Apart (ρ 7).ownBlock (ρ 8).ownBlock
set_option maxHeartbeats 4000000 in
set_option maxRecDepth 20000 in
theorem ref (w0 : World) (F0 : BSet) : ∃ c, Try.f14.body = some c ∧ Ref Try.prog 137 c (G0 w0 F0) body (fun _ _ _ => False) (fun _ _ _ _ => False) (fun r ρ w => ∃ s, retv s = r ∧ G11 w0 F0 s ρ w) := by
  refine ⟨_, rfl, ?_⟩
  unfold body
  refine Ref.seq (B := G1 w0 F0) ?_ ?_
  · refine Ref.region (fun s ρ w s' h hr => ?_)
    obtain ⟨F, hW, h0, h1⟩ := h
    refine ol_v (e_as _ rfl) rfl ?_
    refine ol_v (e_as _ rfl) rfl ?_
    refine ol_e (f_alloc zer_27 hW) rfl rfl ?_
    rintro _ w2 ⟨g1, rfl, kw1, ho3⟩
    have hW4 := hW.trans kw1
    have st1 := kw1.stp hW.ok
    obtain rfl := Option.some.inj hr
    exact ol_nil ⟨F, hW4, g1, h0, (h1.keep st1), rfl, (ho3.base (row := nrow) hW.le)⟩
  refine Ref.seq (B := G2 w0 F0) ?_ ?_
  · refine Ref.region (fun s ρ w s' h hr => ?_)
    obtain ⟨F, hW, g6, h0, h1, p6, h6⟩ := h
    refine ol_v (e_as _ rfl) rfl ?_
    refine ol_v (e_as _ rfl) rfl ?_
    obtain rfl := Option.some.inj hr
    exact ol_nil ⟨F, hW, g6, h0, h1, p6, h6, (OwnV.nil (kInt .i64) 3 (Bs w0 nrow) F w), (OwnV.nil (kInt .i64) 3 (Bs w0 nrow) F w), (Apart.none _).symm⟩
  refine Ref.seq (B := G3 w0 F0) ?_ ?_
  · refine Ref.region (fun s ρ w s' h hr => ?_)
    obtain ⟨F, hW, g6, h0, h1, p6, h6, h7, h8, a7o_8o⟩ := h
    refine ol_v (e_as _ rfl) rfl ?_
    refine ol_v (e_as _ rfl) rfl ?_
    obtain rfl := Option.some.inj hr
    exact ol_nil ⟨F, hW, g6, h0, h1, p6, h6, h7, h8, rfl, rfl, a7o_8o⟩
  refine Ref.seq (B := G6 w0 F0) ?_ ?_
  · refine Ref.seq (B := G4 w0 F0) ?_ ?_
    · refine Ref.region (fun s ρ w s' h hr => ?_)
      obtain ⟨F, hW, g6, h0, h1, p6, h6, h7, h8, h9, h10, a7o_8o⟩ := h
      refine ol_v (e_as _ rfl) rfl ?_
      obtain rfl := Option.some.inj hr
      exact ol_nil ⟨F, hW, g6, h0, h1, p6, h6, h7, h8, h9, h10, rfl, a7o_8o⟩
    refine Ref.block ?_
    refine Ref.loop ?_
    refine Ref.seq (B := G4 w0 F0) ?_ ?_
    · refine Ref.seq (B := G5 w0 F0) ?_ ?_
      · refine Ref.region (fun s ρ w s' h hr => ?_)
        obtain ⟨F, hW, g6, h0, h1, p6, h6, h7, h8, h9, h10, h11, a7o_8o⟩ := h
        refine ol_v (e_mv _ h11) rfl ?_
        refine ol_v (e_mv _ rfl) rfl ?_
        obtain ⟨A5, c6, e7, hc8, R9⟩ := id h1
        refine ol_v (e_len (SlT.sl sl_23) e7) rfl ?_
        refine ol_v (e_lss rfl rfl) rfl ?_
        obtain rfl := Option.some.inj hr
        exact ol_nil ⟨F, hW, g6, h0, h1, p6, h6, h7, h8, h9, h10, h11, rfl, a7o_8o⟩
      refine Ref.cond (b := fun s => s.t_17) (fun s ρ w ⟨F, hW, g6, h0, h1, p6, h6, h7, h8, h9, h10, h11, h17, a7o_8o⟩ => h17) (Ref.pre (A := G4 w0 F0) ?_ (fun s ρ w h => (fun ⟨F, hW, g6, h0, h1, p6, h6, h7, h8, h9, h10, h11, h17, a7o_8o⟩ => ⟨F, hW, g6, h0, h1, p6, h6, h7, h8, h9, h10, h11, a7o_8o⟩ : G5 w0 F0 s ρ w → G4 w0 F0 s ρ w) h.2)) (Ref.pre (A := G6 w0 F0) ?_ (fun s ρ w h => (fun ⟨F, hW, g6, h0, h1, p6, h6, h7, h8, h9, h10, h11, h17, a7o_8o⟩ => ⟨F, hW, g6, p6, h6, h9, h10⟩ : G5 w0 F0 s ρ w → G6 w0 F0 s ρ w) h.2))
      · exact Ref.skip
      · exact Ref.exit (fun s ρ w h => h)
    refine Ref.seq (B := G4 w0 F0) ?_ ?_
    · refine Ref.block ?_
      refine Ref.seq (B := G7 w0 F0) ?_ ?_
      · refine Ref.region (fun s ρ w s' h hr => ?_)
        obtain ⟨F, hW, g6, h0, h1, p6, h6, h7, h8, h9, h10, h11, a7o_8o⟩ := h
        refine ol_v (e_mv _ rfl) rfl ?_
        refine ol_v (e_mv _ h11) rfl ?_
        obtain ⟨x10, hx10, hr⟩ := bind_some' hr
        obtain ⟨A11, c12, e13, hc14, R15⟩ := id h1
        obtain ⟨b16, o17, hA18, L19⟩ := Row.at_ R15 hx10
        refine ol_v (e_ix (SlT.sl sl_23) (SlT.sz sl_23) hA18 hx10 e13 rfl) rfl ?_
        refine ol_v (e_fa fa_48_1 rfl) rfl ?_
        refine ol_v (e_ld ty_3 (LiesV.int (L19.fld fl_LinkEvent_1).at_) rfl) rfl ?_
        refine ol_v (e_as _ rfl) rfl ?_
        obtain rfl := Option.some.inj hr
        exact ol_nil ⟨F, hW, g6, h0, h1, p6, h6, h7, h8, h9, h10, h11, rfl, a7o_8o⟩
      refine Ref.seq (B := G8 w0 F0) ?_ ?_
      · refine Ref.region (fun s ρ w s' h hr => ?_)
        obtain ⟨F, hW, g6, h0, h1, p6, h6, h7, h8, h9, h10, h11, h12, a7o_8o⟩ := h
        refine ol_v (e_mv _ rfl) rfl ?_
        refine ol_v (e_mv _ h11) rfl ?_
        obtain ⟨x20, hx20, hr⟩ := bind_some' hr
        obtain ⟨A21, c22, e23, hc24, R25⟩ := id h1
        obtain ⟨b26, o27, hA28, L29⟩ := Row.at_ R25 hx20
        refine ol_v (e_ix (SlT.sl sl_23) (SlT.sz sl_23) hA28 hx20 e23 rfl) rfl ?_
        refine ol_v (e_fa fa_48_0 rfl) rfl ?_
        refine ol_v (e_ld ty_3 (LiesV.int (L29.fld fl_LinkEvent_0).at_) rfl) rfl ?_
        refine ol_v (e_as _ rfl) rfl ?_
        obtain rfl := Option.some.inj hr
        exact ol_nil ⟨F, hW, g6, h0, h1, p6, h6, h7, h8, h9, h10, h11, h12, rfl, a7o_8o⟩
      refine Ref.seq (B := G8 w0 F0) ?_ ?_
      · refine Ref.seq (B := G9 w0 F0) ?_ ?_
        · refine Ref.region (fun s ρ w s' h hr => ?_)
          obtain ⟨F, hW, g6, h0, h1, p6, h6, h7, h8, h9, h10, h11, h12, h13, a7o_8o⟩ := h
          refine ol_v (e_mv _ h13) rfl ?_
          obtain ⟨x30, hx30, hr⟩ := bind_some' hr
          refine ol_e (f_call [.int .i64 s.t_13, .int .i64 (1 : Int), .int .i64 (6 : Int)] fn_18 (lcons rfl (lcons rfl (lcons rfl rfl))) (ref3_In.calls hW.ok s.t_13 (1 : Int) (6 : Int) hx30)) rfl rfl ?_
          rintro _ w31 ⟨Fz32, rfl, kw1⟩
          have hW34 := hW.trans kw1
          have st1 := kw1.stp hW.ok
          refine ol_v (e_not_ rfl) rfl ?_
          obtain rfl := Option.some.inj hr
          exact ol_nil ⟨Fz32, hW34, g6, h0, (h1.keep st1), p6, (h6.wk kw1 hW.ok), (h7.wk kw1 hW.ok), (h8.wk kw1 hW.ok), h9, h10, h11, h12, h13, rfl, a7o_8o⟩
        refine Ref.cond (b := fun s => s.t_32) (fun s ρ w ⟨F, hW, g6, h0, h1, p6, h6, h7, h8, h9, h10, h11, h12, h13, h32, a7o_8o⟩ => h32) (Ref.pre (A := G10 w0 F0) ?_ (fun s ρ w h => (fun ⟨F, hW, g6, h0, h1, p6, h6, h7, h8, h9, h10, h11, h12, h13, h32, a7o_8o⟩ => ⟨F, hW, g6, p6, h6, h11⟩ : G9 w0 F0 s ρ w → G10 w0 F0 s ρ w) h.2)) (Ref.pre (A := G8 w0 F0) ?_ (fun s ρ w h => (fun ⟨F, hW, g6, h0, h1, p6, h6, h7, h8, h9, h10, h11, h12, h13, h32, a7o_8o⟩ => ⟨F, hW, g6, h0, h1, p6, h6, h7, h8, h9, h10, h11, h12, h13, a7o_8o⟩ : G9 w0 F0 s ρ w → G8 w0 F0 s ρ w) h.2))
        · refine Ref.seq (B := G11 w0 F0) ?_ ?_
          · refine Ref.region (fun s ρ w s' h hr => ?_)
            obtain ⟨F, hW, g6, p6, h6, h11⟩ := h
            refine ol_v (e_mv _ h11) rfl ?_
            obtain ⟨x35, hx35, hr⟩ := bind_some' hr
            refine ol_e (f_call [.int .i64 (4 : Int), .int .i64 s.t_11] fn_11 (lcons rfl (lcons rfl rfl)) (ref3_Fault.calls hW.ok (4 : Int) s.t_11 hx35)) rfl rfl ?_
            rintro v38 w36 ⟨Fz37, _, rfl, kw1, hk39⟩
            have hW41 := hW.trans kw1
            have st1 := kw1.stp hW.ok
            refine ol_v (e_as _ rfl) rfl ?_
            refine ol_v (e_as _ rfl) rfl ?_
            refine ol_eN (f_stB hW41 (h6.wk kw1 hW.ok) (FldS.whole _) ty_27 hk39 p6 rfl) rfl ?_
            rintro - w42 ⟨hW43, ho44, hg2, st2⟩
            obtain rfl := Option.some.inj hr
            exact ol_nil ⟨Fz37, hW43, g6, rfl, rfl, p6, ho44⟩
          exact Ref.ret (fun s ρ w h => ⟨s, rfl, h⟩)
        · exact Ref.skip
      refine Ref.seq (B := G8 w0 F0) ?_ ?_
      · refine Ref.seq (B := G12 w0 F0) ?_ ?_
        · refine Ref.region (fun s ρ w s' h hr => ?_)
          obtain ⟨F, hW, g6, h0, h1, p6, h6, h7, h8, h9, h10, h11, h12, h13, a7o_8o⟩ := h
          refine ol_v (e_mv _ h13) rfl ?_
          refine ol_v (e_eql rfl rfl) rfl ?_
          refine ol_cutA 4 37 40 (fun ρ' w' => w = w' ∧ ρ' 40 = .bool ((decide (s.t_13 = (1 : Int))) && (!decide (s.t_12 = (0 : Int))))) rfl ?_ ?_
          · by_cases hb45 : (decide (s.t_13 = (1 : Int))) = true
            · refine ol_v (e_mv _ rfl) rfl ?_
              refine ol_yes rfl rfl (congrArg Value.bool hb45) ?_
              refine ol_v (e_mv _ h12) rfl ?_
              refine ol_yes rfl rfl (congrArg Value.bool hb45) ?_
              refine ol_v (e_neq rfl rfl) rfl ?_
              refine ol_v (e_pick true _ (congrArg Value.bool hb45) rfl) rfl ?_
              exact ol_nil ⟨⟨rfl, (bv_and_t hb45)⟩, (((((Agr.refl _ _ _).upd rfl rfl).upd rfl rfl).upd rfl rfl).upd rfl rfl)⟩
            · have hb46 := Bool.eq_false_iff.mpr hb45
              refine ol_v (e_mv _ rfl) rfl ?_
              refine ol_not rfl rfl rfl (congrArg Value.bool hb46) rfl ?_
              refine ol_not rfl rfl rfl (congrArg Value.bool hb46) rfl ?_
              refine ol_v (e_pick false _ (congrArg Value.bool hb46) rfl) rfl ?_
              exact ol_nil ⟨⟨rfl, (bv_and_f hb46)⟩, (((((Agr.refl _ _ _).upd rfl rfl).upd rfl rfl).upd rfl rfl).upd rfl rfl)⟩
          rintro ρ47 _ ⟨⟨rfl, hp47⟩, hAg47⟩
          obtain rfl := Option.some.inj hr
          exact ol_nil ⟨F, hW, g6, ((hAg47 0 rfl).trans h0), (SlR.eqv (hAg47 1 rfl) h1), ((hAg47 6 rfl).trans p6), h6, (OwnV.eqv (hAg47 7 rfl) h7), (OwnV.eqv (hAg47 8 rfl) h8), ((hAg47 9 rfl).trans h9), ((hAg47 10 rfl).trans h10), ((hAg47 11 rfl).trans h11), ((hAg47 12 rfl).trans h12), ((hAg47 13 rfl).trans h13), hp47, (Apart.eqR (hAg47 8 rfl) (Apart.eqL (hAg47 7 rfl) a7o_8o))⟩
        refine Ref.cond (b := fun s => s.t_40) (fun s ρ w ⟨F, hW, g6, h0, h1, p6, h6, h7, h8, h9, h10, h11, h12, h13, h40, a7o_8o⟩ => h40) (Ref.pre (A := G10 w0 F0) ?_ (fun s ρ w h => (fun ⟨F, hW, g6, h0, h1, p6, h6, h7, h8, h9, h10, h11, h12, h13, h40, a7o_8o⟩ => ⟨F, hW, g6, p6, h6, h11⟩ : G12 w0 F0 s ρ w → G10 w0 F0 s ρ w) h.2)) (Ref.pre (A := G8 w0 F0) ?_ (fun s ρ w h => (fun ⟨F, hW, g6, h0, h1, p6, h6, h7, h8, h9, h10, h11, h12, h13, h40, a7o_8o⟩ => ⟨F, hW, g6, h0, h1, p6, h6, h7, h8, h9, h10, h11, h12, h13, a7o_8o⟩ : G12 w0 F0 s ρ w → G8 w0 F0 s ρ w) h.2))
        · refine Ref.seq (B := G11 w0 F0) ?_ ?_
          · refine Ref.region (fun s ρ w s' h hr => ?_)
            obtain ⟨F, hW, g6, p6, h6, h11⟩ := h
            refine ol_v (e_mv _ h11) rfl ?_
            obtain ⟨x48, hx48, hr⟩ := bind_some' hr
            refine ol_e (f_call [.int .i64 (5 : Int), .int .i64 s.t_11] fn_11 (lcons rfl (lcons rfl rfl)) (ref3_Fault.calls hW.ok (5 : Int) s.t_11 hx48)) rfl rfl ?_
            rintro v51 w49 ⟨Fz50, _, rfl, kw1, hk52⟩
            have hW54 := hW.trans kw1
            have st1 := kw1.stp hW.ok
            refine ol_v (e_as _ rfl) rfl ?_
            refine ol_v (e_as _ rfl) rfl ?_
            refine ol_eN (f_stB hW54 (h6.wk kw1 hW.ok) (FldS.whole _) ty_27 hk52 p6 rfl) rfl ?_
            rintro - w55 ⟨hW56, ho57, hg2, st2⟩
            obtain rfl := Option.some.inj hr
            exact ol_nil ⟨Fz50, hW56, g6, rfl, rfl, p6, ho57⟩
          exact Ref.ret (fun s ρ w h => ⟨s, rfl, h⟩)
        · exact Ref.skip
      refine Ref.seq (B := G8 w0 F0) ?_ ?_
      · refine Ref.seq (B := G13 w0 F0) ?_ ?_
        · refine Ref.region (fun s ρ w s' h hr => ?_)
          obtain ⟨F, hW, g6, h0, h1, p6, h6, h7, h8, h9, h10, h11, h12, h13, a7o_8o⟩ := h
          refine ol_v (e_mv _ h13) rfl ?_
          refine ol_v (e_eql rfl rfl) rfl ?_
          refine ol_cutA 5 45 49 (fun ρ' w' => w = w' ∧ ρ' 49 = .bool ((decide (s.t_13 = (1 : Int))) && (decide (s.t_0 ≤ s.t_10)))) rfl ?_ ?_
          · by_cases hb58 : (decide (s.t_13 = (1 : Int))) = true
            · refine ol_v (e_mv _ rfl) rfl ?_
              refine ol_yes rfl rfl (congrArg Value.bool hb58) ?_
              refine ol_v (e_mv _ h10) rfl ?_
              refine ol_yes rfl rfl (congrArg Value.bool hb58) ?_
              refine ol_v (e_mv _ h0) rfl ?_
              refine ol_yes rfl rfl (congrArg Value.bool hb58) ?_
              refine ol_v (e_geq rfl rfl) rfl ?_
              refine ol_v (e_pick true _ (congrArg Value.bool hb58) rfl) rfl ?_
              exact ol_nil ⟨⟨rfl, (bv_and_t hb58)⟩, ((((((Agr.refl _ _ _).upd rfl rfl).upd rfl rfl).upd rfl rfl).upd rfl rfl).upd rfl rfl)⟩
            · have hb59 := Bool.eq_false_iff.mpr hb58
              refine ol_v (e_mv _ rfl) rfl ?_
              refine ol_not rfl rfl rfl (congrArg Value.bool hb59) rfl ?_
              refine ol_not rfl rfl rfl (congrArg Value.bool hb59) rfl ?_
              refine ol_not rfl rfl rfl (congrArg Value.bool hb59) rfl ?_
              refine ol_v (e_pick false _ (congrArg Value.bool hb59) rfl) rfl ?_
              exact ol_nil ⟨⟨rfl, (bv_and_f hb59)⟩, ((((((Agr.refl _ _ _).upd rfl rfl).upd rfl rfl).upd rfl rfl).upd rfl rfl).upd rfl rfl)⟩
          rintro ρ60 _ ⟨⟨rfl, hp60⟩, hAg60⟩
          obtain rfl := Option.some.inj hr
          exact ol_nil ⟨F, hW, g6, ((hAg60 0 rfl).trans h0), (SlR.eqv (hAg60 1 rfl) h1), ((hAg60 6 rfl).trans p6), h6, (OwnV.eqv (hAg60 7 rfl) h7), (OwnV.eqv (hAg60 8 rfl) h8), ((hAg60 9 rfl).trans h9), ((hAg60 10 rfl).trans h10), ((hAg60 11 rfl).trans h11), ((hAg60 12 rfl).trans h12), ((hAg60 13 rfl).trans h13), hp60, (Apart.eqR (hAg60 8 rfl) (Apart.eqL (hAg60 7 rfl) a7o_8o))⟩
        refine Ref.cond (b := fun s => s.t_49) (fun s ρ w ⟨F, hW, g6, h0, h1, p6, h6, h7, h8, h9, h10, h11, h12, h13, h49, a7o_8o⟩ => h49) (Ref.pre (A := G10 w0 F0) ?_ (fun s ρ w h => (fun ⟨F, hW, g6, h0, h1, p6, h6, h7, h8, h9, h10, h11, h12, h13, h49, a7o_8o⟩ => ⟨F, hW, g6, p6, h6, h11⟩ : G13 w0 F0 s ρ w → G10 w0 F0 s ρ w) h.2)) (Ref.pre (A := G8 w0 F0) ?_ (fun s ρ w h => (fun ⟨F, hW, g6, h0, h1, p6, h6, h7, h8, h9, h10, h11, h12, h13, h49, a7o_8o⟩ => ⟨F, hW, g6, h0, h1, p6, h6, h7, h8, h9, h10, h11, h12, h13, a7o_8o⟩ : G13 w0 F0 s ρ w → G8 w0 F0 s ρ w) h.2))
        · refine Ref.seq (B := G11 w0 F0) ?_ ?_
          · refine Ref.region (fun s ρ w s' h hr => ?_)
            obtain ⟨F, hW, g6, p6, h6, h11⟩ := h
            refine ol_v (e_mv _ h11) rfl ?_
            obtain ⟨x61, hx61, hr⟩ := bind_some' hr
            refine ol_e (f_call [.int .i64 (11 : Int), .int .i64 s.t_11] fn_11 (lcons rfl (lcons rfl rfl)) (ref3_Fault.calls hW.ok (11 : Int) s.t_11 hx61)) rfl rfl ?_
            rintro v64 w62 ⟨Fz63, _, rfl, kw1, hk65⟩
            have hW67 := hW.trans kw1
            have st1 := kw1.stp hW.ok
            refine ol_v (e_as _ rfl) rfl ?_
            refine ol_v (e_as _ rfl) rfl ?_
            refine ol_eN (f_stB hW67 (h6.wk kw1 hW.ok) (FldS.whole _) ty_27 hk65 p6 rfl) rfl ?_
            rintro - w68 ⟨hW69, ho70, hg2, st2⟩
            obtain rfl := Option.some.inj hr
            exact ol_nil ⟨Fz63, hW69, g6, rfl, rfl, p6, ho70⟩
          exact Ref.ret (fun s ρ w h => ⟨s, rfl, h⟩)
        · exact Ref.skip
      refine Ref.seq (B := G8 w0 F0) ?_ ?_
      · refine Ref.seq (B := G14 w0 F0) ?_ ?_
        · refine Ref.region (fun s ρ w s' h hr => ?_)
          obtain ⟨F, hW, g6, h0, h1, p6, h6, h7, h8, h9, h10, h11, h12, h13, a7o_8o⟩ := h
          refine ol_v (e_mv _ h13) rfl ?_
          obtain ⟨x71, hx71, hr⟩ := bind_some' hr
          refine ol_e (f_call [.int .i64 s.t_13, .int .i64 (2 : Int), .int .i64 (4 : Int)] fn_18 (lcons rfl (lcons rfl (lcons rfl rfl))) (ref3_In.calls hW.ok s.t_13 (2 : Int) (4 : Int) hx71)) rfl rfl ?_
          rintro _ w72 ⟨Fz73, rfl, kw1⟩
          have hW75 := hW.trans kw1
          have st1 := kw1.stp hW.ok
          obtain ⟨x87, hx88, hr⟩ := bind_some' hr
          refine ol_cutA 8 54 61 (fun ρ' w' => ∃ F', Wk nrow w72 Fz73 F' w' ∧ ρ' 61 = .bool x87) rfl ?_ ?_
          · by_cases hb76 : x71 = true
            · have hr := hx88
              rw [if_pos hb76] at hr
              refine ol_v (e_mv _ rfl) rfl ?_
              refine ol_yes rfl rfl (congrArg Value.bool hb76) ?_
              refine ol_v (e_mv _ h12) rfl ?_
              refine ol_yes rfl rfl (congrArg Value.bool hb76) ?_
              refine ol_v (e_mv _ rfl) rfl ?_
              refine ol_yes rfl rfl (congrArg Value.bool hb76) ?_
              obtain ⟨A78, c79, e80, hc81⟩ := (h7.wk kw1 hW.ok).shape
              refine ol_v (e_len (SlT.sl sl_54) e80) rfl ?_
              refine ol_yes rfl rfl (congrArg Value.bool hb76) ?_
              refine ol_v (e_sub rfl rfl) rfl ?_
              refine ol_yes rfl rfl (congrArg Value.bool hb76) ?_
              obtain ⟨x82, hx82, hr⟩ := bind_some' hr
              refine ol_e (f_call [.int .i64 s.t_12, .int .i64 (0 : Int), .int .i64 (w64 ((s.t_7.length : Int) - (1 : Int)))] fn_18 (lcons rfl (lcons rfl (lcons rfl rfl))) (ref3_In.calls hW75.ok s.t_12 (0 : Int) (w64 ((s.t_7.length : Int) - (1 : Int))) hx82)) rfl rfl ?_
              rintro _ w83 ⟨Fz84, rfl, kw2⟩
              have hW86 := hW75.trans kw2
              have st2 := kw2.stp hW75.ok
              refine ol_yes rfl rfl (congrArg Value.bool hb76) ?_
              refine ol_v (e_not_ rfl) rfl ?_
              refine ol_v (e_pick true _ (congrArg Value.bool hb76) rfl) rfl ?_
              exact ol_nil ⟨⟨_, kw2, (congrArg Value.bool (Option.some.inj hr))⟩, (((((((((Agr.refl _ _ _).upd rfl rfl).upd rfl rfl).upd rfl rfl).upd rfl rfl).upd rfl rfl).upd rfl rfl).upd rfl rfl).upd rfl rfl)⟩
            · have hb77 := Bool.eq_false_iff.mpr hb76
              have hr := hx88
              rw [if_neg hb76] at hr
              refine ol_v (e_mv _ rfl) rfl ?_
              refine ol_not rfl rfl rfl (congrArg Value.bool hb77) rfl ?_
              refine ol_not rfl rfl rfl (congrArg Value.bool hb77) rfl ?_
              refine ol_not rfl rfl rfl (congrArg Value.bool hb77) rfl ?_
              refine ol_not rfl rfl rfl (congrArg Value.bool hb77) rfl ?_
              refine ol_not rfl rfl rfl (congrArg Value.bool hb77) rfl ?_
              refine ol_not rfl rfl rfl (congrArg Value.bool hb77) rfl ?_
              refine ol_v (e_pick false _ (congrArg Value.bool hb77) rfl) rfl ?_
              exact ol_nil ⟨⟨_, Wk.refl hW75.ok, (congrArg Value.bool (Option.some.inj hr))⟩, (((((((((Agr.refl _ _ _).upd rfl rfl).upd rfl rfl).upd rfl rfl).upd rfl rfl).upd rfl rfl).upd rfl rfl).upd rfl rfl).upd rfl rfl)⟩
          rintro ρ88 w89 ⟨⟨Fz90, kw2, hp88⟩, hAg88⟩
          have hW91 := hW75.trans kw2
          have st2 := kw2.stp hW75.ok
          obtain ⟨x110, hx111, hr⟩ := bind_some' hr
          refine ol_cutA 12 62 73 (fun ρ' w' => ∃ F', Wk nrow w89 Fz90 F' w' ∧ ρ' 73 = .bool x110) rfl ?_ ?_
          · by_cases hb92 : x87 = true
            · have hr := hx111
              rw [if_pos hb92] at hr
              refine ol_v (e_mv _ hp88) rfl ?_
              refine ol_not rfl rfl rfl (congrArg Value.bool hb92) rfl ?_
              refine ol_not rfl rfl rfl (congrArg Value.bool hb92) rfl ?_
              refine ol_not rfl rfl rfl (congrArg Value.bool hb92) rfl ?_
              refine ol_notU rfl rfl rfl rfl ?_
              refine ol_notU rfl rfl rfl rfl ?_
              refine ol_notU rfl rfl rfl rfl ?_
              refine ol_notU rfl rfl rfl rfl ?_
              refine ol_notU rfl rfl rfl rfl ?_
              refine ol_notU rfl rfl rfl rfl ?_
              refine ol_not rfl rfl rfl (congrArg Value.bool hb92) rfl ?_
              refine ol_v (e_pick true _ (congrArg Value.bool hb92) rfl) rfl ?_
              exact ol_nil ⟨⟨_, Wk.refl hW91.ok, (congrArg Value.bool (Option.some.inj hr))⟩, (((((((((((((Agr.refl _ _ _).upd rfl rfl).upd rfl rfl).upd rfl rfl).upd rfl rfl).upd rfl rfl).upd rfl rfl).upd rfl rfl).upd rfl rfl).upd rfl rfl).upd rfl rfl).upd rfl rfl).upd rfl rfl)⟩
            · have hb93 := Bool.eq_false_iff.mpr hb92
              have hr := hx111
              rw [if_neg hb92] at hr
              refine ol_v (e_mv _ hp88) rfl ?_
              refine ol_yes rfl rfl (congrArg Value.bool hb93) ?_
              refine ol_v (e_mv _ ((hAg88 13 rfl).trans h13)) rfl ?_
              refine ol_yes rfl rfl (congrArg Value.bool hb93) ?_
              refine ol_v (e_geq rfl rfl) rfl ?_
              refine ol_yes rfl rfl (congrArg Value.bool hb93) ?_
              obtain ⟨x105, hx106, hr⟩ := bind_some' hr
              refine ol_cutA 8 65 72 (fun ρ' w' => ∃ F', Wk nrow w89 Fz90 F' w' ∧ ρ' 72 = .bool x105) rfl ?_ ?_
              · by_cases hb94 : (decide ((5 : Int) ≤ s.t_13)) = true
                · have hr := hx106
                  rw [if_pos hb94] at hr
                  refine ol_v (e_mv _ rfl) rfl ?_
                  refine ol_yes rfl rfl (congrArg Value.bool hb94) ?_
                  refine ol_v (e_mv _ ((hAg88 12 rfl).trans h12)) rfl ?_
                  refine ol_yes rfl rfl (congrArg Value.bool hb94) ?_
                  refine ol_v (e_mv _ (hAg88 8 rfl)) rfl ?_
                  refine ol_yes rfl rfl (congrArg Value.bool hb94) ?_
                  obtain ⟨A96, c97, e98, hc99⟩ := ((h8.wk kw1 hW.ok).wk kw2 hW75.ok).shape
                  refine ol_v (e_len (SlT.sl sl_54) e98) rfl ?_
                  refine ol_yes rfl rfl (congrArg Value.bool hb94) ?_
                  refine ol_v (e_sub rfl rfl) rfl ?_
                  refine ol_yes rfl rfl (congrArg Value.bool hb94) ?_
                  obtain ⟨x100, hx100, hr⟩ := bind_some' hr
                  refine ol_e (f_call [.int .i64 s.t_12, .int .i64 (0 : Int), .int .i64 (w64 ((s.t_8.length : Int) - (1 : Int)))] fn_18 (lcons rfl (lcons rfl (lcons rfl rfl))) (ref3_In.calls hW91.ok s.t_12 (0 : Int) (w64 ((s.t_8.length : Int) - (1 : Int))) hx100)) rfl rfl ?_
                  rintro _ w101 ⟨Fz102, rfl, kw3⟩
                  have hW104 := hW91.trans kw3
                  have st3 := kw3.stp hW91.ok
                  refine ol_yes rfl rfl (congrArg Value.bool hb94) ?_
                  refine ol_v (e_not_ rfl) rfl ?_
                  refine ol_yes rfl rfl (congrArg Value.bool hb93) ?_
                  refine ol_v (e_pick true _ (congrArg Value.bool hb94) rfl) rfl ?_
                  exact ol_nil ⟨⟨_, kw3, (congrArg Value.bool (Option.some.inj hr))⟩, (((((((((Agr.refl _ _ _).upd rfl rfl).upd rfl rfl).upd rfl rfl).upd rfl rfl).upd rfl rfl).upd rfl rfl).upd rfl rfl).upd rfl rfl)⟩
                · have hb95 := Bool.eq_false_iff.mpr hb94
                  have hr := hx106
                  rw [if_neg hb94] at hr
                  refine ol_v (e_mv _ rfl) rfl ?_
                  refine ol_not rfl rfl rfl (congrArg Value.bool hb95) rfl ?_
                  refine ol_not rfl rfl rfl (congrArg Value.bool hb95) rfl ?_
                  refine ol_not rfl rfl rfl (congrArg Value.bool hb95) rfl ?_
                  refine ol_not rfl rfl rfl (congrArg Value.bool hb95) rfl ?_
                  refine ol_not rfl rfl rfl (congrArg Value.bool hb95) rfl ?_
                  refine ol_not rfl rfl rfl (congrArg Value.bool hb95) rfl ?_
                  refine ol_yes rfl rfl (congrArg Value.bool hb93) ?_
                  refine ol_v (e_pick false _ (congrArg Value.bool hb95) rfl) rfl ?_
                  exact ol_nil ⟨⟨_, Wk.refl hW91.ok, (congrArg Value.bool (Option.some.inj hr))⟩, (((((((((Agr.refl _ _ _).upd rfl rfl).upd rfl rfl).upd rfl rfl).upd rfl rfl).upd rfl rfl).upd rfl rfl).upd rfl rfl).upd rfl rfl)⟩
              rintro ρ106 w107 ⟨⟨Fz108, kw3, hp106⟩, hAg106⟩
              have hW109 := hW91.trans kw3
              have st3 := kw3.stp hW91.ok
              refine ol_v (e_pick false _ ((hAg106 62 rfl).trans (congrArg Value.bool hb93)) hp106) rfl ?_
              exact ol_nil ⟨⟨_, kw3, (congrArg Value.bool (Option.some.inj hr))⟩, ((((((Agr.refl _ _ _).upd rfl rfl).upd rfl rfl).upd rfl rfl).into hAg106 rfl rfl).upd rfl rfl)⟩
          rintro ρ111 w112 ⟨⟨Fz113, kw3, hp111⟩, hAg111⟩
          have hW114 := hW91.trans kw3
          have st3 := kw3.stp hW91.ok
          obtain rfl := Option.some.inj hr
          exact ol_nil ⟨Fz113, hW114, g6, ((hAg111 0 rfl).trans ((hAg88 0 rfl).trans h0)), (SlR.eqv ((hAg111 1 rfl).trans (hAg88 1 rfl)) (h1.keep (st1.trans (st2.trans st3)))), ((hAg111 6 rfl).trans ((hAg88 6 rfl).trans p6)), (((h6.wk kw1 hW.ok).wk kw2 hW75.ok).wk kw3 hW91.ok), (OwnV.eqv ((hAg111 7 rfl).trans (hAg88 7 rfl)) (((h7.wk kw1 hW.ok).wk kw2 hW75.ok).wk kw3 hW91.ok)), (OwnV.eqv ((hAg111 8 rfl).trans (hAg88 8 rfl)) (((h8.wk kw1 hW.ok).wk kw2 hW75.ok).wk kw3 hW91.ok)), ((hAg111 9 rfl).trans ((hAg88 9 rfl).trans h9)), ((hAg111 10 rfl).trans ((hAg88 10 rfl).trans h10)), ((hAg111 11 rfl).trans ((hAg88 11 rfl).trans h11)), ((hAg111 12 rfl).trans ((hAg88 12 rfl).trans h12)), ((hAg111 13 rfl).trans ((hAg88 13 rfl).trans h13)), hp111, (Apart.eqR ((hAg111 8 rfl).trans (hAg88 8 rfl)) (Apart.eqL ((hAg111 7 rfl).trans (hAg88 7 rfl)) a7o_8o))⟩
        refine Ref.cond (b := fun s => s.t_73) (fun s ρ w ⟨F, hW, g6, h0, h1, p6, h6, h7, h8, h9, h10, h11, h12, h13, h73, a7o_8o⟩ => h73) (Ref.pre (A := G10 w0 F0) ?_ (fun s ρ w h => (fun ⟨F, hW, g6, h0, h1, p6, h6, h7, h8, h9, h10, h11, h12, h13, h73, a7o_8o⟩ => ⟨F, hW, g6, p6, h6, h11⟩ : G14 w0 F0 s ρ w → G10 w0 F0 s ρ w) h.2)) (Ref.pre (A := G8 w0 F0) ?_ (fun s ρ w h => (fun ⟨F, hW, g6, h0, h1, p6, h6, h7, h8, h9, h10, h11, h12, h13, h73, a7o_8o⟩ => ⟨F, hW, g6, h0, h1, p6, h6, h7, h8, h9, h10, h11, h12, h13, a7o_8o⟩ : G14 w0 F0 s ρ w → G8 w0 F0 s ρ w) h.2))
        · refine Ref.seq (B := G11 w0 F0) ?_ ?_
          · refine Ref.region (fun s ρ w s' h hr => ?_)
            obtain ⟨F, hW, g6, p6, h6, h11⟩ := h
            refine ol_v (e_mv _ h11) rfl ?_
            obtain ⟨x115, hx115, hr⟩ := bind_some' hr
            refine ol_e (f_call [.int .i64 (6 : Int), .int .i64 s.t_11] fn_11 (lcons rfl (lcons rfl rfl)) (ref3_Fault.calls hW.ok (6 : Int) s.t_11 hx115)) rfl rfl ?_
            rintro v118 w116 ⟨Fz117, _, rfl, kw1, hk119⟩
            have hW121 := hW.trans kw1
            have st1 := kw1.stp hW.ok
            refine ol_v (e_as _ rfl) rfl ?_
            refine ol_v (e_as _ rfl) rfl ?_
            refine ol_eN (f_stB hW121 (h6.wk kw1 hW.ok) (FldS.whole _) ty_27 hk119 p6 rfl) rfl ?_
            rintro - w122 ⟨hW123, ho124, hg2, st2⟩
            obtain rfl := Option.some.inj hr
            exact ol_nil ⟨Fz117, hW123, g6, rfl, rfl, p6, ho124⟩
          exact Ref.ret (fun s ρ w h => ⟨s, rfl, h⟩)
        · exact Ref.skip
      refine Ref.seq (B := G15 w0 F0) ?_ ?_
      · refine Ref.region (fun s ρ w s' h hr => ?_)
        obtain ⟨F, hW, g6, h0, h1, p6, h6, h7, h8, h9, h10, h11, h12, h13, a7o_8o⟩ := h
        refine ol_v (e_mv _ h13) rfl ?_
        obtain rfl := Option.some.inj hr
        exact ol_nil ⟨F, hW, g6, h0, h1, p6, h6, h7, h8, h9, h10, h11, h12, rfl, a7o_8o⟩
      refine Ref.block ?_
      refine Ref.seq (B := G16 w0 F0) ?_ ?_
      · refine Ref.region (fun s ρ w s' h hr => ?_)
        obtain ⟨F, hW, g6, h0, h1, p6, h6, h7, h8, h9, h10, h11, h12, h76, a7o_8o⟩ := h
        refine ol_v (e_eql h76 rfl) rfl ?_
        refine ol_v (e_as _ rfl) rfl ?_
        obtain rfl := Option.some.inj hr
        exact ol_nil ⟨F, hW, g6, h0, h1, p6, h6, h7, h8, h9, h10, h11, h12, h76, rfl, a7o_8o⟩
      refine Ref.cond (b := fun s => s.t_77) (fun s ρ w ⟨F, hW, g6, h0, h1, p6, h6, h7, h8, h9, h10, h11, h12, h76, h77, a7o_8o⟩ => h77) (Ref.pre (A := G4 w0 F0) ?_ (fun s ρ w h => (fun ⟨F, hW, g6, h0, h1, p6, h6, h7, h8, h9, h10, h11, h12, h76, h77, a7o_8o⟩ => ⟨F, hW, g6, h0, h1, p6, h6, h7, h8, h9, h10, h11, a7o_8o⟩ : G16 w0 F0 s ρ w → G4 w0 F0 s ρ w) h.2)) (Ref.pre (A := G15 w0 F0) ?_ (fun s ρ w h => (fun ⟨F, hW, g6, h0, h1, p6, h6, h7, h8, h9, h10, h11, h12, h76, h77, a7o_8o⟩ => ⟨F, hW, g6, h0, h1, p6, h6, h7, h8, h9, h10, h11, h12, h76, a7o_8o⟩ : G16 w0 F0 s ρ w → G15 w0 F0 s ρ w) h.2))
      · refine Ref.region (fun s ρ w s' h hr => ?_)
        obtain ⟨F, hW, g6, h0, h1, p6, h6, h7, h8, h9, h10, h11, a7o_8o⟩ := h
        refine ol_v (e_mv _ rfl) rfl ?_
        refine ol_v (e_mv _ h10) rfl ?_
        refine ol_e (f_bslF sl_54 hW ([s.t_10] : List Int) [.int .i64 s.t_10] (by exact ⟨_, _, rfl, (val_int _ _), rfl⟩) rfl (Nat.le_of_ble_eq_true rfl) (lcons (congrArg (Prod.mk 0) rfl) rfl)) rfl rfl ?_
        rintro v125 w126 ⟨Fz128, kw1, ho127⟩
        have hW129 := hW.trans kw1
        have st1 := kw1.stp hW.ok
        obtain ⟨x130, hx130, hr⟩ := bind_some' hr
        refine ol_e (f_app sl_54 hW129 (h7.wk kw1 hW.ok) ho127 hx130 rfl rfl) rfl rfl ?_
        rintro v131 w132 ⟨hW133, ho134, hg2, st2, hor135⟩
        refine ol_v (e_as _ rfl) rfl ?_
        obtain rfl := Option.some.inj hr
        exact ol_nil ⟨Fz128, hW133, g6, h0, (h1.keep (st1.trans st2)), p6, ((h6.wk kw1 hW.ok).mut (apart_bo (h6.wk kw1 hW.ok) (h7.wk kw1 hW.ok) rfl).symm hg2 st2), ho134, ((h8.wk kw1 hW.ok).mut a7o_8o hg2 st2), h9, h10, h11, (Apart.grown a7o_8o (h8.wk kw1 hW.ok).ltw hor135)⟩
      · refine Ref.seq (B := G17 w0 F0) ?_ ?_
        · refine Ref.region (fun s ρ w s' h hr => ?_)
          obtain ⟨F, hW, g6, h0, h1, p6, h6, h7, h8, h9, h10, h11, h12, h76, a7o_8o⟩ := h
          refine ol_v (e_eql h76 rfl) rfl ?_
          refine ol_v (e_as _ rfl) rfl ?_
          obtain rfl := Option.some.inj hr
          exact ol_nil ⟨F, hW, g6, h0, h1, p6, h6, h7, h8, h9, h10, h11, h12, h76, rfl, a7o_8o⟩
        refine Ref.cond (b := fun s => s.t_83) (fun s ρ w ⟨F, hW, g6, h0, h1, p6, h6, h7, h8, h9, h10, h11, h12, h76, h83, a7o_8o⟩ => h83) (Ref.pre (A := G7 w0 F0) ?_ (fun s ρ w h => (fun ⟨F, hW, g6, h0, h1, p6, h6, h7, h8, h9, h10, h11, h12, h76, h83, a7o_8o⟩ => ⟨F, hW, g6, h0, h1, p6, h6, h7, h8, h9, h10, h11, h12, a7o_8o⟩ : G17 w0 F0 s ρ w → G7 w0 F0 s ρ w) h.2)) (Ref.pre (A := G15 w0 F0) ?_ (fun s ρ w h => (fun ⟨F, hW, g6, h0, h1, p6, h6, h7, h8, h9, h10, h11, h12, h76, h83, a7o_8o⟩ => ⟨F, hW, g6, h0, h1, p6, h6, h7, h8, h9, h10, h11, h12, h76, a7o_8o⟩ : G17 w0 F0 s ρ w → G15 w0 F0 s ρ w) h.2))
        · refine Ref.seq (B := G7 w0 F0) ?_ ?_
          · refine Ref.seq (B := G18 w0 F0) ?_ ?_
            · refine Ref.region (fun s ρ w s' h hr => ?_)
              obtain ⟨F, hW, g6, h0, h1, p6, h6, h7, h8, h9, h10, h11, h12, a7o_8o⟩ := h
              refine ol_v (e_mv _ rfl) rfl ?_
              refine ol_v (e_mv _ h12) rfl ?_
              obtain ⟨x136, hx136, hr⟩ := bind_some' hr
              obtain ⟨g137, o138, c139, hv140, L141⟩ := OwnV.at_ h7 hx136
              refine ol_v (e_ixO sl_54 hv140 hx136 rfl rfl) rfl ?_
              refine ol_v (e_ld ty_3 (LiesV.int L141) rfl) rfl ?_
              refine ol_v (e_mv _ h9) rfl ?_
              refine ol_v (e_eql rfl rfl) rfl ?_
              obtain rfl := Option.some.inj hr
              exact ol_nil ⟨F, hW, g6, h0, h1, p6, h6, h7, h8, h9, h10, h11, h12, rfl, a7o_8o⟩
            refine Ref.cond (b := fun s => s.t_90) (fun s ρ w ⟨F, hW, g6, h0, h1, p6, h6, h7, h8, h9, h10, h11, h12, h90, a7o_8o⟩ => h90) (Ref.pre (A := G7 w0 F0) ?_ (fun s ρ w h => (fun ⟨F, hW, g6, h0, h1, p6, h6, h7, h8, h9, h10, h11, h12, h90, a7o_8o⟩ => ⟨F, hW, g6, h0, h1, p6, h6, h7, h8, h9, h10, h11, h12, a7o_8o⟩ : G18 w0 F0 s ρ w → G7 w0 F0 s ρ w) h.2)) (Ref.pre (A := G7 w0 F0) ?_ (fun s ρ w h => (fun ⟨F, hW, g6, h0, h1, p6, h6, h7, h8, h9, h10, h11, h12, h90, a7o_8o⟩ => ⟨F, hW, g6, h0, h1, p6, h6, h7, h8, h9, h10, h11, h12, a7o_8o⟩ : G18 w0 F0 s ρ w → G7 w0 F0 s ρ w) h.2))
            · refine Ref.region (fun s ρ w s' h hr => ?_)
              obtain ⟨F, hW, g6, h0, h1, p6, h6, h7, h8, h9, h10, h11, h12, a7o_8o⟩ := h
              refine ol_v (e_mv _ h9) rfl ?_
              refine ol_v (e_add rfl rfl) rfl ?_
              refine ol_v (e_as _ rfl) rfl ?_
              obtain rfl := Option.some.inj hr
              exact ol_nil ⟨F, hW, g6, h0, h1, p6, h6, h7, h8, rfl, h10, h11, h12, a7o_8o⟩
            · exact Ref.skip
          refine Ref.seq (B := G7 w0 F0) ?_ ?_
          · refine Ref.region (fun s ρ w s' h hr => ?_)
            obtain ⟨F, hW, g6, h0, h1, p6, h6, h7, h8, h9, h10, h11, h12, a7o_8o⟩ := h
            refine ol_v (e_mv _ rfl) rfl ?_
            refine ol_v (e_mv _ h9) rfl ?_
            refine ol_e (f_bslF sl_54 hW ([s.t_9] : List Int) [.int .i64 s.t_9] (by exact ⟨_, _, rfl, (val_int _ _), rfl⟩) rfl (Nat.le_of_ble_eq_true rfl) (lcons (congrArg (Prod.mk 0) rfl) rfl)) rfl rfl ?_
            rintro v142 w143 ⟨Fz145, kw1, ho144⟩
            have hW146 := hW.trans kw1
            have st1 := kw1.stp hW.ok
            obtain ⟨x147, hx147, hr⟩ := bind_some' hr
            refine ol_e (f_app sl_54 hW146 (h8.wk kw1 hW.ok) ho144 hx147 rfl rfl) rfl rfl ?_
            rintro v148 w149 ⟨hW150, ho151, hg2, st2, hor152⟩
            refine ol_v (e_as _ rfl) rfl ?_
            obtain rfl := Option.some.inj hr
            exact ol_nil ⟨Fz145, hW150, g6, h0, (h1.keep (st1.trans st2)), p6, ((h6.wk kw1 hW.ok).mut (apart_bo (h6.wk kw1 hW.ok) (h8.wk kw1 hW.ok) rfl).symm hg2 st2), ((h7.wk kw1 hW.ok).mut a7o_8o.symm hg2 st2), ho151, h9, h10, h11, h12, (Apart.grown a7o_8o.symm (h7.wk kw1 hW.ok).ltw hor152).symm⟩
          refine Ref.region (fun s ρ w s' h hr => ?_)
          obtain ⟨F, hW, g6, h0, h1, p6, h6, h7, h8, h9, h10, h11, h12, a7o_8o⟩ := h
          refine ol_v (e_mv _ rfl) rfl ?_
          refine ol_v (e_mv _ h12) rfl ?_
          obtain ⟨Fl153, okl153, stl153, hFl153, hl153⟩ := OwnV.lent h7 hW.ok
          obtain ⟨x154, hx154, hr⟩ := bind_some' hr
          refine ol_e (f_call [(ρ 7), .int .i64 s.t_12] fn_23 (lcons rfl (lcons rfl rfl)) (ref4_without.calls okl153 hl153 s.t_12 hx154)) rfl rfl ?_
          rintro v157 w155 ⟨Fz156, _, rfl, kw1, hk158⟩
          have ko160 := kw1
          have kw1 := kw1.lend hW.ok
          have hW161 := hW.trans kw1
          have st1 := kw1.stp hW.ok
          refine ol_v (e_as _ rfl) rfl ?_
          obtain rfl := Option.some.inj hr
          exact ol_nil ⟨F, hW161, g6, h0, (h1.keep st1), p6, (h6.wk kw1 hW.ok), ((OwnV.plain (plain_int _) hk158 hW.ok).base (row := nrow) hW.le), (h8.wk kw1 hW.ok), h9, h10, h11, (Apart.base (fun g_ hg_ => ((OwnV.plain (plain_int _) hk158 hW.ok).lt hg_).1) h8.ltw)⟩
        · refine Ref.seq (B := G19 w0 F0) ?_ ?_
          · refine Ref.region (fun s ρ w s' h hr => ?_)
            obtain ⟨F, hW, g6, h0, h1, p6, h6, h7, h8, h9, h10, h11, h12, h76, a7o_8o⟩ := h
            refine ol_v (e_eql h76 rfl) rfl ?_
            refine ol_v (e_as _ rfl) rfl ?_
            obtain rfl := Option.some.inj hr
            exact ol_nil ⟨F, hW, g6, h0, h1, p6, h6, h7, h8, h9, h10, h11, h12, h76, rfl, a7o_8o⟩
          refine Ref.cond (b := fun s => s.t_100) (fun s ρ w ⟨F, hW, g6, h0, h1, p6, h6, h7, h8, h9, h10, h11, h12, h76, h100, a7o_8o⟩ => h100) (Ref.pre (A := G7 w0 F0) ?_ (fun s ρ w h => (fun ⟨F, hW, g6, h0, h1, p6, h6, h7, h8, h9, h10, h11, h12, h76, h100, a7o_8o⟩ => ⟨F, hW, g6, h0, h1, p6, h6, h7, h8, h9, h10, h11, h12, a7o_8o⟩ : G19 w0 F0 s ρ w → G7 w0 F0 s ρ w) h.2)) (Ref.pre (A := G15 w0 F0) ?_ (fun s ρ w h => (fun ⟨F, hW, g6, h0, h1, p6, h6, h7, h8, h9, h10, h11, h12, h76, h100, a7o_8o⟩ => ⟨F, hW, g6, h0, h1, p6, h6, h7, h8, h9, h10, h11, h12, h76, a7o_8o⟩ : G19 w0 F0 s ρ w → G15 w0 F0 s ρ w) h.2))
          · refine Ref.region (fun s ρ w s' h hr => ?_)
            obtain ⟨F, hW, g6, h0, h1, p6, h6, h7, h8, h9, h10, h11, h12, a7o_8o⟩ := h
            refine ol_v (e_mv _ rfl) rfl ?_
            refine ol_v (e_mv _ h12) rfl ?_
            obtain ⟨Fl162, okl162, stl162, hFl162, hl162⟩ := OwnV.lent h7 hW.ok
            obtain ⟨x163, hx163, hr⟩ := bind_some' hr
            refine ol_e (f_call [(ρ 7), .int .i64 s.t_12] fn_23 (lcons rfl (lcons rfl rfl)) (ref4_without.calls okl162 hl162 s.t_12 hx163)) rfl rfl ?_
            rintro v166 w164 ⟨Fz165, _, rfl, kw1, hk167⟩
            have ko169 := kw1
            have kw1 := kw1.lend hW.ok
            have hW170 := hW.trans kw1
            have st1 := kw1.stp hW.ok
            refine ol_v (e_as _ rfl) rfl ?_
            obtain rfl := Option.some.inj hr
            exact ol_nil ⟨F, hW170, g6, h0, (h1.keep st1), p6, (h6.wk kw1 hW.ok), ((OwnV.plain (plain_int _) hk167 hW.ok).base (row := nrow) hW.le), (h8.wk kw1 hW.ok), h9, h10, h11, (Apart.base (fun g_ hg_ => ((OwnV.plain (plain_int _) hk167 hW.ok).lt hg_).1) h8.ltw)⟩
          · refine Ref.seq (B := G20 w0 F0) ?_ ?_
            · refine Ref.region (fun s ρ w s' h hr => ?_)
              obtain ⟨F, hW, g6, h0, h1, p6, h6, h7, h8, h9, h10, h11, h12, h76, a7o_8o⟩ := h
              refine ol_v (e_eql h76 rfl) rfl ?_
              refine ol_v (e_as _ rfl) rfl ?_
              obtain rfl := Option.some.inj hr
              exact ol_nil ⟨F, hW, g6, h0, h1, p6, h6, h7, h8, h9, h10, h11, h12, h76, rfl, a7o_8o⟩
            refine Ref.cond (b := fun s => s.t_105) (fun s ρ w ⟨F, hW, g6, h0, h1, p6, h6, h7, h8, h9, h10, h11, h12, h76, h105, a7o_8o⟩ => h105) (Ref.pre (A := G7 w0 F0) ?_ (fun s ρ w h => (fun ⟨F, hW, g6, h0, h1, p6, h6, h7, h8, h9, h10, h11, h12, h76, h105, a7o_8o⟩ => ⟨F, hW, g6, h0, h1, p6, h6, h7, h8, h9, h10, h11, h12, a7o_8o⟩ : G20 w0 F0 s ρ w → G7 w0 F0 s ρ w) h.2)) (Ref.pre (A := G15 w0 F0) ?_ (fun s ρ w h => (fun ⟨F, hW, g6, h0, h1, p6, h6, h7, h8, h9, h10, h11, h12, h76, h105, a7o_8o⟩ => ⟨F, hW, g6, h0, h1, p6, h6, h7, h8, h9, h10, h11, h12, h76, a7o_8o⟩ : G20 w0 F0 s ρ w → G15 w0 F0 s ρ w) h.2))
            · refine Ref.region (fun s ρ w s' h hr => ?_)
              obtain ⟨F, hW, g6, h0, h1, p6, h6, h7, h8, h9, h10, h11, h12, a7o_8o⟩ := h
              refine ol_v (e_mv _ rfl) rfl ?_
              refine ol_v (e_mv _ rfl) rfl ?_
              refine ol_v (e_mv _ h12) rfl ?_
              obtain ⟨x171, hx171, hr⟩ := bind_some' hr
              obtain ⟨g172, o173, c174, hv175, L176⟩ := OwnV.at_ h7 hx171
              refine ol_v (e_ixO sl_54 hv175 hx171 rfl rfl) rfl ?_
              refine ol_v (e_ld ty_3 (LiesV.int L176) rfl) rfl ?_
              refine ol_e (f_bslF sl_54 hW ([x171] : List Int) [.int .i64 x171] (by exact ⟨_, _, rfl, (val_int _ _), rfl⟩) rfl (Nat.le_of_ble_eq_true rfl) (lcons (congrArg (Prod.mk 0) rfl) rfl)) rfl rfl ?_
              rintro v177 w178 ⟨Fz180, kw1, ho179⟩
              have hW181 := hW.trans kw1
              have st1 := kw1.stp hW.ok
              obtain ⟨x182, hx182, hr⟩ := bind_some' hr
              refine ol_e (f_app sl_54 hW181 (h7.wk kw1 hW.ok) ho179 hx182 rfl rfl) rfl rfl ?_
              rintro v183 w184 ⟨hW185, ho186, hg2, st2, hor187⟩
              refine ol_v (e_as _ rfl) rfl ?_
              obtain rfl := Option.some.inj hr
              exact ol_nil ⟨Fz180, hW185, g6, h0, (h1.keep (st1.trans st2)), p6, ((h6.wk kw1 hW.ok).mut (apart_bo (h6.wk kw1 hW.ok) (h7.wk kw1 hW.ok) rfl).symm hg2 st2), ho186, ((h8.wk kw1 hW.ok).mut a7o_8o hg2 st2), h9, h10, h11, (Apart.grown a7o_8o (h8.wk kw1 hW.ok).ltw hor187)⟩
            · refine Ref.seq (B := G21 w0 F0) ?_ ?_
              · refine Ref.region (fun s ρ w s' h hr => ?_)
                obtain ⟨F, hW, g6, h0, h1, p6, h6, h7, h8, h9, h10, h11, h12, h76, a7o_8o⟩ := h
                refine ol_v (e_eql h76 rfl) rfl ?_
                refine ol_v (e_as _ rfl) rfl ?_
                obtain rfl := Option.some.inj hr
                exact ol_nil ⟨F, hW, g6, h0, h1, p6, h6, h7, h8, h9, h10, h11, h12, h76, rfl, a7o_8o⟩
              refine Ref.cond (b := fun s => s.t_114) (fun s ρ w ⟨F, hW, g6, h0, h1, p6, h6, h7, h8, h9, h10, h11, h12, h76, h114, a7o_8o⟩ => h114) (Ref.pre (A := G7 w0 F0) ?_ (fun s ρ w h => (fun ⟨F, hW, g6, h0, h1, p6, h6, h7, h8, h9, h10, h11, h12, h76, h114, a7o_8o⟩ => ⟨F, hW, g6, h0, h1, p6, h6, h7, h8, h9, h10, h11, h12, a7o_8o⟩ : G21 w0 F0 s ρ w → G7 w0 F0 s ρ w) h.2)) (Ref.pre (A := G15 w0 F0) ?_ (fun s ρ w h => (fun ⟨F, hW, g6, h0, h1, p6, h6, h7, h8, h9, h10, h11, h12, h76, h114, a7o_8o⟩ => ⟨F, hW, g6, h0, h1, p6, h6, h7, h8, h9, h10, h11, h12, h76, a7o_8o⟩ : G21 w0 F0 s ρ w → G15 w0 F0 s ρ w) h.2))
              · refine Ref.seq (B := G7 w0 F0) ?_ ?_
                · refine Ref.seq (B := G22 w0 F0) ?_ ?_
                  · refine Ref.region (fun s ρ w s' h hr => ?_)
                    obtain ⟨F, hW, g6, h0, h1, p6, h6, h7, h8, h9, h10, h11, h12, a7o_8o⟩ := h
                    refine ol_v (e_mv _ rfl) rfl ?_
                    refine ol_v (e_mv _ h12) rfl ?_
                    obtain ⟨x188, hx188, hr⟩ := bind_some' hr
                    obtain ⟨g189, o190, c191, hv192, L193⟩ := OwnV.at_ h8 hx188
                    refine ol_v (e_ixO sl_54 hv192 hx188 rfl rfl) rfl ?_
                    refine ol_v (e_ld ty_3 (LiesV.int L193) rfl) rfl ?_
                    refine ol_v (e_mv _ h10) rfl ?_
                    refine ol_v (e_gtr rfl rfl) rfl ?_
                    obtain rfl := Option.some.inj hr
                    exact ol_nil ⟨F, hW, g6, h0, h1, p6, h6, h7, h8, h9, h10, h11, h12, rfl, a7o_8o⟩
                  refine Ref.cond (b := fun s => s.t_121) (fun s ρ w ⟨F, hW, g6, h0, h1, p6, h6, h7, h8, h9, h10, h11, h12, h121, a7o_8o⟩ => h121) (Ref.pre (A := G23 w0 F0) ?_ (fun s ρ w h => (fun ⟨F, hW, g6, h0, h1, p6, h6, h7, h8, h9, h10, h11, h12, h121, a7o_8o⟩ => ⟨F, hW, g6, h0, h1, p6, h6, h7, h8, h9, h11, h12, a7o_8o⟩ : G22 w0 F0 s ρ w → G23 w0 F0 s ρ w) h.2)) (Ref.pre (A := G7 w0 F0) ?_ (fun s ρ w h => (fun ⟨F, hW, g6, h0, h1, p6, h6, h7, h8, h9, h10, h11, h12, h121, a7o_8o⟩ => ⟨F, hW, g6, h0, h1, p6, h6, h7, h8, h9, h10, h11, h12, a7o_8o⟩ : G22 w0 F0 s ρ w → G7 w0 F0 s ρ w) h.2))
                  · refine Ref.region (fun s ρ w s' h hr => ?_)
                    obtain ⟨F, hW, g6, h0, h1, p6, h6, h7, h8, h9, h11, h12, a7o_8o⟩ := h
                    refine ol_v (e_mv _ rfl) rfl ?_
                    refine ol_v (e_mv _ h12) rfl ?_
                    obtain ⟨x194, hx194, hr⟩ := bind_some' hr
                    obtain ⟨g195, o196, c197, hv198, L199⟩ := OwnV.at_ h8 hx194
                    refine ol_v (e_ixO sl_54 hv198 hx194 rfl rfl) rfl ?_
                    refine ol_v (e_ld ty_3 (LiesV.int L199) rfl) rfl ?_
                    refine ol_v (e_as _ rfl) rfl ?_
                    obtain rfl := Option.some.inj hr
                    exact ol_nil ⟨F, hW, g6, h0, h1, p6, h6, h7, h8, h9, rfl, h11, h12, a7o_8o⟩
                  · exact Ref.skip
                refine Ref.region (fun s ρ w s' h hr => ?_)
                obtain ⟨F, hW, g6, h0, h1, p6, h6, h7, h8, h9, h10, h11, h12, a7o_8o⟩ := h
                refine ol_v (e_mv _ rfl) rfl ?_
                refine ol_v (e_mv _ h12) rfl ?_
                obtain ⟨Fl200, okl200, stl200, hFl200, hl200⟩ := OwnV.lent h8 hW.ok
                obtain ⟨x201, hx201, hr⟩ := bind_some' hr
                refine ol_e (f_call [(ρ 8), .int .i64 s.t_12] fn_23 (lcons rfl (lcons rfl rfl)) (ref4_without.calls okl200 hl200 s.t_12 hx201)) rfl rfl ?_
                rintro v204 w202 ⟨Fz203, _, rfl, kw1, hk205⟩
                have ko207 := kw1
                have kw1 := kw1.lend hW.ok
                have hW208 := hW.trans kw1
                have st1 := kw1.stp hW.ok
                refine ol_v (e_as _ rfl) rfl ?_
                obtain rfl := Option.some.inj hr
                exact ol_nil ⟨F, hW208, g6, h0, (h1.keep st1), p6, (h6.wk kw1 hW.ok), (h7.wk kw1 hW.ok), ((OwnV.plain (plain_int _) hk205 hW.ok).base (row := nrow) hW.le), h9, h10, h11, (Apart.base (fun g_ hg_ => ((OwnV.plain (plain_int _) hk205 hW.ok).lt hg_).1) h7.ltw).symm⟩
              · refine Ref.seq (B := G24 w0 F0) ?_ ?_
                · refine Ref.region (fun s ρ w s' h hr => ?_)
                  obtain ⟨F, hW, g6, h0, h1, p6, h6, h7, h8, h9, h10, h11, h12, h76, a7o_8o⟩ := h
                  refine ol_v (e_eql h76 rfl) rfl ?_
                  refine ol_v (e_as _ rfl) rfl ?_
                  obtain rfl := Option.some.inj hr
                  exact ol_nil ⟨F, hW, g6, h0, h1, p6, h6, h7, h8, h9, h10, h11, h12, rfl, a7o_8o⟩
                refine Ref.cond (b := fun s => s.t_129) (fun s ρ w ⟨F, hW, g6, h0, h1, p6, h6, h7, h8, h9, h10, h11, h12, h129, a7o_8o⟩ => h129) (Ref.pre (A := G7 w0 F0) ?_ (fun s ρ w h => (fun ⟨F, hW, g6, h0, h1, p6, h6, h7, h8, h9, h10, h11, h12, h129, a7o_8o⟩ => ⟨F, hW, g6, h0, h1, p6, h6, h7, h8, h9, h10, h11, h12, a7o_8o⟩ : G24 w0 F0 s ρ w → G7 w0 F0 s ρ w) h.2)) (Ref.pre (A := G4 w0 F0) ?_ (fun s ρ w h => (fun ⟨F, hW, g6, h0, h1, p6, h6, h7, h8, h9, h10, h11, h12, h129, a7o_8o⟩ => ⟨F, hW, g6, h0, h1, p6, h6, h7, h8, h9, h10, h11, a7o_8o⟩ : G24 w0 F0 s ρ w → G4 w0 F0 s ρ w) h.2))
                · refine Ref.region (fun s ρ w s' h hr => ?_)
                  obtain ⟨F, hW, g6, h0, h1, p6, h6, h7, h8, h9, h10, h11, h12, a7o_8o⟩ := h
                  refine ol_v (e_mv _ rfl) rfl ?_
                  refine ol_v (e_mv _ h12) rfl ?_
                  obtain ⟨Fl209, okl209, stl209, hFl209, hl209⟩ := OwnV.lent h8 hW.ok
                  obtain ⟨x210, hx210, hr⟩ := bind_some' hr
                  refine ol_e (f_call [(ρ 8), .int .i64 s.t_12] fn_23 (lcons rfl (lcons rfl rfl)) (ref4_without.calls okl209 hl209 s.t_12 hx210)) rfl rfl ?_
                  rintro v213 w211 ⟨Fz212, _, rfl, kw1, hk214⟩
                  have ko216 := kw1
                  have kw1 := kw1.lend hW.ok
                  have hW217 := hW.trans kw1
                  have st1 := kw1.stp hW.ok
                  refine ol_v (e_as _ rfl) rfl ?_
                  obtain rfl := Option.some.inj hr
                  exact ol_nil ⟨F, hW217, g6, h0, (h1.keep st1), p6, (h6.wk kw1 hW.ok), (h7.wk kw1 hW.ok), ((OwnV.plain (plain_int _) hk214 hW.ok).base (row := nrow) hW.le), h9, h10, h11, (Apart.base (fun g_ hg_ => ((OwnV.plain (plain_int _) hk214 hW.ok).lt hg_).1) h7.ltw).symm⟩
                · exact Ref.skip
    refine Ref.region (fun s ρ w s' h hr => ?_)
    obtain ⟨F, hW, g6, h0, h1, p6, h6, h7, h8, h9, h10, h11, a7o_8o⟩ := h
    refine ol_v (e_mv _ h11) rfl ?_
    refine ol_v (e_add rfl rfl) rfl ?_
    refine ol_v (e_as _ rfl) rfl ?_
    obtain rfl := Option.some.inj hr
    exact ol_nil ⟨F, hW, g6, h0, h1, p6, h6, h7, h8, h9, h10, rfl, a7o_8o⟩
  refine Ref.seq (B := G11 w0 F0) ?_ ?_
  · refine Ref.region (fun s ρ w s' h hr => ?_)
    obtain ⟨F, hW, g6, p6, h6, h9, h10⟩ := h
    refine ol_v (e_mv _ h9) rfl ?_
    refine ol_v (e_mv _ h10) rfl ?_
    refine ol_v (e_bld (cells := #[.int .i64 0, .int .i64 0]) bld_27 (vs := []) rfl rfl) rfl ?_
    have hb218 : Val k_Fault F w (.agg #[.int .i64 0, .int .i64 0]) (⟨(0 : Int), (0 : Int)⟩ : Fault) := mk_Fault (val_int _ _) (val_int _ _)
    refine ol_v (e_as _ rfl) rfl ?_
    refine ol_v (e_as _ rfl) rfl ?_
    refine ol_eN (f_stB hW h6 (FldS.whole _) ty_27 hb218 p6 rfl) rfl ?_
    rintro - w219 ⟨hW220, ho221, hg1, st1⟩
    obtain rfl := Option.some.inj hr
    exact ol_nil ⟨F, hW220, g6, rfl, rfl, p6, ho221⟩
  exact Ref.ret (fun s ρ w h => ⟨s, rfl, h⟩)
def post (w : World) (F : BSet) (r : R) (v : Value) (w' : World) : Prop := ∃ (F' : BSet) (v2' : Value), v = .tuple #[.int .i64 r.1, .int .i64 r.2.1, v2'] ∧ Wk nrow w F F' w' ∧ Val k_Fault F' w' v2' r.2.2
theorem calls {w : World} {F : BSet} (hok : ∀ b, F b → b < w.heap.size) (a0 : Int) {v1 : Value} {a1 : (List LinkEvent)} (h1 : SlR k_LinkEvent F w v1 a1) {r : R} (hf : f a0 a1 = some r) : Calls Try.prog 14 #[.int .i64 a0, v1] w fun e w' => ∃ v, e = .returned v ∧ post w F r v w' := by
  obtain ⟨c, hc, href⟩ := ref w F
  refine calls_of_ref (args := [.int .i64 a0, v1]) _ Try.func14 hc rfl rfl href ?_ (retOf_some hf) ?_
  · exact ⟨F, Wk.refl hok, rfl, h1⟩
  · rintro ρ w' a ⟨s, rfl, F', hW, g6, h4, h5, p6, h6⟩ hF
    obtain ⟨u6, l6, k6⟩ := res_box (P := Try.prog) ty_27 h6
    refine ⟨_, run_results (rs := [.tmp 4, .tmp 5, .cell 6 27]) rfl hF (vs := [ρ 4, ρ 5, u6]) (⟨_, rfl, ⟨_, rfl, ⟨_, _, _, rfl, p6, l6, rfl⟩⟩⟩), ?_⟩
    have hv : resVal [ρ 4, ρ 5, u6] = .tuple #[.int .i64 s.t_4, .int .i64 s.t_5, u6] := by rw [h4, h5]; rfl
    exact ⟨F', u6, hv, hW, k6⟩
end
end ref4_TransferOf

namespace law4_TransferRunMatchesSpec
section
def G0 (w0 : World) (F0 : BSet) (s : S) (ρ : Env) (w : World) : Prop := ∃ (F : BSet), Wk nrow w0 F0 F w ∧ SlR kByte F w (ρ 0) s.t_0 ∧ SlR k_LinkEvent F w (ρ 1) s.t_1
def G1 (w0 : World) (F0 : BSet) (s : S) (ρ : Env) (w : World) : Prop := ∃ (F : BSet), Wk nrow w0 F0 F w ∧ SlR kByte F w (ρ 0) s.t_0 ∧ SlR k_LinkEvent F w (ρ 1) s.t_1 ∧ ρ 16 = .bool s.t_16
def G2 (w0 : World) (F0 : BSet) (s : S) (ρ : Env) (w : World) : Prop := ∃ (F : BSet), Wk nrow w0 F0 F w
def G3 (w0 : World) (F0 : BSet) (s : S) (ρ : Env) (w : World) : Prop := ∃ (F : BSet), Wk nrow w0 F0 F w ∧ ρ 4 = .bool s.t_4
def G4 (w0 : World) (F0 : BSet) (s : S) (ρ : Env) (w : World) : Prop := ∃ (F : BSet), Wk nrow w0 F0 F w ∧ ∃ (g6 : Nat), SlR kByte F w (ρ 0) s.t_0 ∧ SlR k_LinkEvent F w (ρ 1) s.t_1 ∧ SlR (kSl kByte) F w (ρ 5) s.t_5 ∧ ρ 6 = .pointer (some ⟨g6, 0, none⟩) ∧ Box k_Fault 27 (Bs w0 nrow) F w g6 s.t_6
def G5 (w0 : World) (F0 : BSet) (s : S) (ρ : Env) (w : World) : Prop := ∃ (F : BSet), Wk nrow w0 F0 F w ∧ ∃ (g6 : Nat) (g9 : Nat), SlR kByte F w (ρ 0) s.t_0 ∧ SlR k_LinkEvent F w (ρ 1) s.t_1 ∧ SlR (kSl kByte) F w (ρ 5) s.t_5 ∧ ρ 6 = .pointer (some ⟨g6, 0, none⟩) ∧ Box k_Fault 27 (Bs w0 nrow) F w g6 s.t_6 ∧ SlR kByte F w (ρ 7) s.t_7 ∧ ρ 8 = .int .i64 s.t_8 ∧ ρ 9 = .pointer (some ⟨g9, 0, none⟩) ∧ Box k_Fault 27 (Bs w0 nrow) F w g9 s.t_9 ∧ Apart (some g6) (some g9)
def G6 (w0 : World) (F0 : BSet) (s : S) (ρ : Env) (w : World) : Prop := ∃ (F : BSet), Wk nrow w0 F0 F w ∧ ∃ (g6 : Nat) (g9 : Nat), SlR kByte F w (ρ 0) s.t_0 ∧ SlR k_LinkEvent F w (ρ 1) s.t_1 ∧ SlR (kSl kByte) F w (ρ 5) s.t_5 ∧ ρ 6 = .pointer (some ⟨g6, 0, none⟩) ∧ Box k_Fault 27 (Bs w0 nrow) F w g6 s.t_6 ∧ SlR kByte F w (ρ 7) s.t_7 ∧ ρ 8 = .int .i64 s.t_8 ∧ ρ 9 = .pointer (some ⟨g9, 0, none⟩) ∧ Box k_Fault 27 (Bs w0 nrow) F w g9 s.t_9 ∧ ρ 31 = .bool s.t_31 ∧ Apart (some g6) (some g9)
def G7 (w0 : World) (F0 : BSet) (s : S) (ρ : Env) (w : World) : Prop := ∃ (F : BSet), Wk nrow w0 F0 F w ∧ ∃ (g6 : Nat) (g9 : Nat), SlR (kSl kByte) F w (ρ 5) s.t_5 ∧ ρ 6 = .pointer (some ⟨g6, 0, none⟩) ∧ Box k_Fault 27 (Bs w0 nrow) F w g6 s.t_6 ∧ SlR kByte F w (ρ 7) s.t_7 ∧ ρ 8 = .int .i64 s.t_8 ∧ ρ 9 = .pointer (some ⟨g9, 0, none⟩) ∧ Box k_Fault 27 (Bs w0 nrow) F w g9 s.t_9 ∧ Apart (some g6) (some g9)
def G8 (w0 : World) (F0 : BSet) (s : S) (ρ : Env) (w : World) : Prop := ∃ (F : BSet), Wk nrow w0 F0 F w ∧ ∃ (g6 : Nat) (g9 : Nat) (g10 : Nat), SlR (kSl kByte) F w (ρ 5) s.t_5 ∧ ρ 6 = .pointer (some ⟨g6, 0, none⟩) ∧ Box k_Fault 27 (Bs w0 nrow) F w g6 s.t_6 ∧ SlR kByte F w (ρ 7) s.t_7 ∧ ρ 8 = .int .i64 s.t_8 ∧ ρ 9 = .pointer (some ⟨g9, 0, none⟩) ∧ Box k_Fault 27 (Bs w0 nrow) F w g9 s.t_9 ∧ ρ 10 = .pointer (some ⟨g10, 0, none⟩) ∧ Box k_Fault 27 (Bs w0 nrow) F w g10 s.t_10 ∧ Apart (some g6) (some g9) ∧ Apart (some g6) (some g10) ∧ Apart (some g9) (some g10)
def G9 (w0 : World) (F0 : BSet) (s : S) (ρ : Env) (w : World) : Prop := ∃ (F : BSet), Wk nrow w0 F0 F w ∧ ∃ (g9 : Nat), SlR kByte F w (ρ 0) s.t_0 ∧ SlR k_LinkEvent F w (ρ 1) s.t_1 ∧ SlR (kSl kByte) F w (ρ 5) s.t_5 ∧ SlR kByte F w (ρ 7) s.t_7 ∧ ρ 8 = .int .i64 s.t_8 ∧ ρ 9 = .pointer (some ⟨g9, 0, none⟩) ∧ Box k_Fault 27 (Bs w0 nrow) F w g9 s.t_9 ∧ ρ 60 = .bool s.t_60
def G10 (w0 : World) (F0 : BSet) (s : S) (ρ : Env) (w : World) : Prop := ∃ (F : BSet), Wk nrow w0 F0 F w ∧ ∃ (g9 : Nat), SlR kByte F w (ρ 0) s.t_0 ∧ SlR k_LinkEvent F w (ρ 1) s.t_1 ∧ SlR (kSl kByte) F w (ρ 5) s.t_5 ∧ SlR kByte F w (ρ 7) s.t_7 ∧ ρ 8 = .int .i64 s.t_8 ∧ ρ 9 = .pointer (some ⟨g9, 0, none⟩) ∧ Box k_Fault 27 (Bs w0 nrow) F w g9 s.t_9
def G11 (w0 : World) (F0 : BSet) (s : S) (ρ : Env) (w : World) : Prop := ∃ (F : BSet), Wk nrow w0 F0 F w ∧ ∃ (g9 : Nat), SlR kByte F w (ρ 0) s.t_0 ∧ SlR k_LinkEvent F w (ρ 1) s.t_1 ∧ SlR (kSl kByte) F w (ρ 5) s.t_5 ∧ SlR kByte F w (ρ 7) s.t_7 ∧ ρ 8 = .int .i64 s.t_8 ∧ ρ 9 = .pointer (some ⟨g9, 0, none⟩) ∧ Box k_Fault 27 (Bs w0 nrow) F w g9 s.t_9 ∧ ρ 11 = .int .i64 s.t_11
def G12 (w0 : World) (F0 : BSet) (s : S) (ρ : Env) (w : World) : Prop := ∃ (F : BSet), Wk nrow w0 F0 F w ∧ ∃ (g9 : Nat), SlR kByte F w (ρ 0) s.t_0 ∧ SlR k_LinkEvent F w (ρ 1) s.t_1 ∧ SlR (kSl kByte) F w (ρ 5) s.t_5 ∧ SlR kByte F w (ρ 7) s.t_7 ∧ ρ 8 = .int .i64 s.t_8 ∧ ρ 9 = .pointer (some ⟨g9, 0, none⟩) ∧ Box k_Fault 27 (Bs w0 nrow) F w g9 s.t_9 ∧ ρ 11 = .int .i64 s.t_11 ∧ ρ 64 = .bool s.t_64
def G13 (w0 : World) (F0 : BSet) (s : S) (ρ : Env) (w : World) : Prop := ∃ (F : BSet), Wk nrow w0 F0 F w ∧ ∃ (g9 : Nat), SlR kByte F w (ρ 0) s.t_0 ∧ SlR k_LinkEvent F w (ρ 1) s.t_1 ∧ SlR (kSl kByte) F w (ρ 5) s.t_5 ∧ SlR kByte F w (ρ 7) s.t_7 ∧ ρ 8 = .int .i64 s.t_8 ∧ ρ 9 = .pointer (some ⟨g9, 0, none⟩) ∧ Box k_Fault 27 (Bs w0 nrow) F w g9 s.t_9 ∧ ρ 11 = .int .i64 s.t_11 ∧ ρ 76 = .bool s.t_76
def G14 (w0 : World) (F0 : BSet) (s : S) (ρ : Env) (w : World) : Prop := ∃ (F : BSet), Wk nrow w0 F0 F w ∧ ∃ (g9 : Nat) (g12 : Nat), SlR kByte F w (ρ 0) s.t_0 ∧ SlR k_LinkEvent F w (ρ 1) s.t_1 ∧ SlR (kSl kByte) F w (ρ 5) s.t_5 ∧ SlR kByte F w (ρ 7) s.t_7 ∧ ρ 8 = .int .i64 s.t_8 ∧ ρ 9 = .pointer (some ⟨g9, 0, none⟩) ∧ Box k_Fault 27 (Bs w0 nrow) F w g9 s.t_9 ∧ ρ 12 = .pointer (some ⟨g12, 0, none⟩) ∧ Box k_Fault 27 (Bs w0 nrow) F w g12 s.t_12 ∧ Apart (some g9) (some g12)
def G15 (w0 : World) (F0 : BSet) (s : S) (ρ : Env) (w : World) : Prop := ∃ (F : BSet), Wk nrow w0 F0 F w ∧ ∃ (g9 : Nat) (g12 : Nat), SlR kByte F w (ρ 0) s.t_0 ∧ SlR k_LinkEvent F w (ρ 1) s.t_1 ∧ SlR (kSl kByte) F w (ρ 5) s.t_5 ∧ SlR kByte F w (ρ 7) s.t_7 ∧ ρ 8 = .int .i64 s.t_8 ∧ ρ 9 = .pointer (some ⟨g9, 0, none⟩) ∧ Box k_Fault 27 (Bs w0 nrow) F w g9 s.t_9 ∧ ρ 12 = .pointer (some ⟨g12, 0, none⟩) ∧ Box k_Fault 27 (Bs w0 nrow) F w g12 s.t_12 ∧ ρ 13 = .int .i64 s.t_13 ∧ ρ 14 = .int .i64 s.t_14 ∧ Apart (some g9) (some g12)
def G16 (w0 : World) (F0 : BSet) (s : S) (ρ : Env) (w : World) : Prop := ∃ (F : BSet), Wk nrow w0 F0 F w ∧ ∃ (g9 : Nat) (g12 : Nat), SlR kByte F w (ρ 0) s.t_0 ∧ SlR k_LinkEvent F w (ρ 1) s.t_1 ∧ SlR (kSl kByte) F w (ρ 5) s.t_5 ∧ SlR kByte F w (ρ 7) s.t_7 ∧ ρ 8 = .int .i64 s.t_8 ∧ ρ 9 = .pointer (some ⟨g9, 0, none⟩) ∧ Box k_Fault 27 (Bs w0 nrow) F w g9 s.t_9 ∧ ρ 12 = .pointer (some ⟨g12, 0, none⟩) ∧ Box k_Fault 27 (Bs w0 nrow) F w g12 s.t_12 ∧ ρ 13 = .int .i64 s.t_13 ∧ ρ 14 = .int .i64 s.t_14 ∧ ρ 80 = .bool s.t_80 ∧ Apart (some g9) (some g12)
def G17 (w0 : World) (F0 : BSet) (s : S) (ρ : Env) (w : World) : Prop := ∃ (F : BSet), Wk nrow w0 F0 F w ∧ ∃ (g9 : Nat) (g12 : Nat), SlR kByte F w (ρ 0) s.t_0 ∧ SlR kByte F w (ρ 7) s.t_7 ∧ ρ 8 = .int .i64 s.t_8 ∧ ρ 9 = .pointer (some ⟨g9, 0, none⟩) ∧ Box k_Fault 27 (Bs w0 nrow) F w g9 s.t_9 ∧ ρ 12 = .pointer (some ⟨g12, 0, none⟩) ∧ Box k_Fault 27 (Bs w0 nrow) F w g12 s.t_12 ∧ ρ 13 = .int .i64 s.t_13 ∧ ρ 14 = .int .i64 s.t_14 ∧ Apart (some g9) (some g12)
def G18 (w0 : World) (F0 : BSet) (s : S) (ρ : Env) (w : World) : Prop := ∃ (F : BSet), Wk nrow w0 F0 F w ∧ ∃ (g9 : Nat) (g12 : Nat), SlR kByte F w (ρ 0) s.t_0 ∧ SlR kByte F w (ρ 7) s.t_7 ∧ ρ 8 = .int .i64 s.t_8 ∧ ρ 9 = .pointer (some ⟨g9, 0, none⟩) ∧ Box k_Fault 27 (Bs w0 nrow) F w g9 s.t_9 ∧ ρ 12 = .pointer (some ⟨g12, 0, none⟩) ∧ Box k_Fault 27 (Bs w0 nrow) F w g12 s.t_12 ∧ ρ 13 = .int .i64 s.t_13 ∧ ρ 14 = .int .i64 s.t_14 ∧ ρ 92 = .bool s.t_92 ∧ Apart (some g9) (some g12)
def G19 (w0 : World) (F0 : BSet) (s : S) (ρ : Env) (w : World) : Prop := ∃ (F : BSet), Wk nrow w0 F0 F w ∧ ∃ (g9 : Nat) (g12 : Nat), SlR kByte F w (ρ 7) s.t_7 ∧ ρ 8 = .int .i64 s.t_8 ∧ ρ 9 = .pointer (some ⟨g9, 0, none⟩) ∧ Box k_Fault 27 (Bs w0 nrow) F w g9 s.t_9 ∧ ρ 12 = .pointer (some ⟨g12, 0, none⟩) ∧ Box k_Fault 27 (Bs w0 nrow) F w g12 s.t_12 ∧ Apart (some g9) (some g12)
def G20 (w0 : World) (F0 : BSet) (s : S) (ρ : Env) (w : World) : Prop := ∃ (F : BSet), Wk nrow w0 F0 F w ∧ ∃ (g9 : Nat), SlR kByte F w (ρ 0) s.t_0 ∧ SlR kByte F w (ρ 7) s.t_7 ∧ ρ 8 = .int .i64 s.t_8 ∧ ρ 9 = .pointer (some ⟨g9, 0, none⟩) ∧ Box k_Fault 27 (Bs w0 nrow) F w g9 s.t_9 ∧ ρ 13 = .int .i64 s.t_13 ∧ ρ 14 = .int .i64 s.t_14
set_option maxHeartbeats 4000000 in
set_option maxRecDepth 20000 in
theorem ref (w0 : World) (F0 : BSet) : ∃ c, Try.f3.body = some c ∧ Ref Try.prog 124 c (G0 w0 F0) body (fun _ _ _ => False) (fun _ _ _ _ => False) (fun r ρ w => ∃ s, retv s = r ∧ G3 w0 F0 s ρ w) := by
  refine ⟨_, rfl, ?_⟩
  unfold body
  refine Ref.seq (B := G0 w0 F0) ?_ ?_
  · refine Ref.region (fun s ρ w s' h hr => ?_)
    obtain ⟨F, hW, h0, h1⟩ := h
    refine ol_v (e_as _ rfl) rfl ?_
    obtain rfl := Option.some.inj hr
    exact ol_nil ⟨F, hW, h0, h1⟩
  refine Ref.seq (B := G0 w0 F0) ?_ ?_
  · refine Ref.seq (B := G1 w0 F0) ?_ ?_
    · refine Ref.region (fun s ρ w s' h hr => ?_)
      obtain ⟨F, hW, h0, h1⟩ := h
      obtain ⟨x1, hx1, hr⟩ := bind_some' hr
      refine ol_e (f_call [] fn_8 rfl (law4_transferExample.calls hW.ok  hx1)) rfl rfl ?_
      rintro _ w2 ⟨Fz3, rfl, kw1⟩
      have hW5 := hW.trans kw1
      have st1 := kw1.stp hW.ok
      refine ol_v (e_not_ rfl) rfl ?_
      obtain rfl := Option.some.inj hr
      exact ol_nil ⟨Fz3, hW5, (h0.keep st1), (h1.keep st1), rfl⟩
    refine Ref.cond (b := fun s => s.t_16) (fun s ρ w ⟨F, hW, h0, h1, h16⟩ => h16) (Ref.pre (A := G2 w0 F0) ?_ (fun s ρ w h => (fun ⟨F, hW, h0, h1, h16⟩ => ⟨F, hW⟩ : G1 w0 F0 s ρ w → G2 w0 F0 s ρ w) h.2)) (Ref.pre (A := G0 w0 F0) ?_ (fun s ρ w h => (fun ⟨F, hW, h0, h1, h16⟩ => ⟨F, hW, h0, h1⟩ : G1 w0 F0 s ρ w → G0 w0 F0 s ρ w) h.2))
    · refine Ref.seq (B := G3 w0 F0) ?_ ?_
      · refine Ref.region (fun s ρ w s' h hr => ?_)
        obtain ⟨F, hW⟩ := h
        refine ol_v (e_as _ rfl) rfl ?_
        obtain rfl := Option.some.inj hr
        exact ol_nil ⟨F, hW, rfl⟩
      exact Ref.ret (fun s ρ w h => ⟨s, rfl, h⟩)
    · exact Ref.skip
  refine Ref.seq (B := G4 w0 F0) ?_ ?_
  · refine Ref.region (fun s ρ w s' h hr => ?_)
    obtain ⟨F, hW, h0, h1⟩ := h
    refine ol_v (e_mv _ rfl) rfl ?_
    obtain ⟨x6, hx6, hr⟩ := bind_some' hr
    refine ol_e (f_call [(ρ 0)] fn_9 (lcons rfl rfl) (transfer_Frames.calls hW.ok h0 hx6)) rfl rfl ?_
    rintro _ w7 ⟨Fz8, v9, v11, rfl, kw1, hk10, hk12⟩
    have hW14 := hW.trans kw1
    have st1 := kw1.stp hW.ok
    refine ol_v (e_mv _ rfl) rfl ?_
    refine ol_v (e_ext _ rfl rfl) rfl ?_
    refine ol_v (e_ext _ rfl rfl) rfl ?_
    refine ol_e (f_alloc zer_27 hW14) rfl rfl ?_
    rintro _ w16 ⟨g15, rfl, kw2, ho17⟩
    have hW18 := hW14.trans kw2
    have st2 := kw2.stp hW14.ok
    obtain ⟨Fz19, hWz20, st3, hF3, hz21⟩ := (((hk10.base (row := nrow) hW.le).wk kw2 hW14.ok)).frozen hW18
    refine ol_v (e_as _ rfl) rfl ?_
    refine ol_eN (f_stB hWz20 ((ho17.base (row := nrow) hW14.le).frz (apart_bo (ho17.base (row := nrow) hW14.le) ((hk10.base (row := nrow) hW.le).wk kw2 hW14.ok) rfl).symm hF3 st3) (FldS.whole _) ty_27 (hk12.keep (st2.trans st3)) rfl rfl) rfl ?_
    rintro - w22 ⟨hW23, ho24, hg4, st4⟩
    obtain rfl := Option.some.inj hr
    exact ol_nil ⟨Fz19, hW23, g15, (h0.keep (st1.trans (st2.trans (st3.trans st4)))), (h1.keep (st1.trans (st2.trans (st3.trans st4)))), (hz21.keep st4), rfl, ho24⟩
  refine Ref.seq (B := G5 w0 F0) ?_ ?_
  · refine Ref.region (fun s ρ w s' h hr => ?_)
    obtain ⟨F, hW, g6, h0, h1, h5, p6, h6⟩ := h
    refine ol_v (e_mv _ rfl) rfl ?_
    refine ol_v (e_mv _ rfl) rfl ?_
    obtain ⟨x25, hx25, hr⟩ := bind_some' hr
    refine ol_e (f_call [(ρ 0), (ρ 1)] fn_10 (lcons rfl (lcons rfl rfl)) (transfer_Run.calls hW.ok h0 h1 hx25)) rfl rfl ?_
    rintro _ w26 ⟨Fz27, v28, v30, rfl, kw1, hk29, hk31⟩
    have hW33 := hW.trans kw1
    have st1 := kw1.stp hW.ok
    refine ol_v (e_mv _ rfl) rfl ?_
    refine ol_v (e_ext _ rfl rfl) rfl ?_
    refine ol_v (e_ext _ rfl rfl) rfl ?_
    refine ol_v (e_ext _ rfl rfl) rfl ?_
    refine ol_e (f_alloc zer_27 hW33) rfl rfl ?_
    rintro _ w35 ⟨g34, rfl, kw2, ho36⟩
    have hW37 := hW33.trans kw2
    have st2 := kw2.stp hW33.ok
    obtain ⟨Fz38, hWz39, st3, hF3, hz40⟩ := (((hk29.base (row := nrow) hW.le).wk kw2 hW33.ok)).frozen hW37
    refine ol_v (e_as _ rfl) rfl ?_
    refine ol_v (e_as _ rfl) rfl ?_
    refine ol_eN (f_stB hWz39 ((ho36.base (row := nrow) hW33.le).frz (apart_bo (ho36.base (row := nrow) hW33.le) ((hk29.base (row := nrow) hW.le).wk kw2 hW33.ok) rfl).symm hF3 st3) (FldS.whole _) ty_27 (hk31.keep (st2.trans st3)) rfl rfl) rfl ?_
    rintro - w41 ⟨hW42, ho43, hg4, st4⟩
    obtain rfl := Option.some.inj hr
    exact ol_nil ⟨Fz38, hW42, g6, g34, (h0.keep (st1.trans (st2.trans (st3.trans st4)))), (h1.keep (st1.trans (st2.trans (st3.trans st4)))), (h5.keep (st1.trans (st2.trans (st3.trans st4)))), p6, ((((h6.wk kw1 hW.ok).wk kw2 hW33.ok).frz (apart_bo ((h6.wk kw1 hW.ok).wk kw2 hW33.ok) ((hk29.base (row := nrow) hW.le).wk kw2 hW33.ok) rfl).symm hF3 st3).mut (Apart.base (fun _ e_ => by cases e_; exact ho36.ge) (h6.wk kw1 hW.ok).ltw) hg4 st4), (hz40.keep st4), rfl, rfl, ho43, (Apart.base (fun _ e_ => by cases e_; exact ho36.ge) (h6.wk kw1 hW.ok).ltw).symm⟩
  refine Ref.seq (B := G5 w0 F0) ?_ ?_
  · refine Ref.seq (B := G6 w0 F0) ?_ ?_
    · refine Ref.region (fun s ρ w s' h hr => ?_)
      obtain ⟨F, hW, g6, g9, h0, h1, h5, p6, h6, h7, h8, p9, h9, a6b_9b⟩ := h
      refine ol_v (e_mv _ rfl) rfl ?_
      obtain ⟨A44, c45, e46, hc47, R48⟩ := id h0
      refine ol_v (e_len (SlT.sl sl_22) e46) rfl ?_
      refine ol_v (e_gtr rfl rfl) rfl ?_
      obtain rfl := Option.some.inj hr
      exact ol_nil ⟨F, hW, g6, g9, h0, h1, h5, p6, h6, h7, h8, p9, h9, rfl, a6b_9b⟩
    refine Ref.cond (b := fun s => s.t_31) (fun s ρ w ⟨F, hW, g6, g9, h0, h1, h5, p6, h6, h7, h8, p9, h9, h31, a6b_9b⟩ => h31) (Ref.pre (A := G7 w0 F0) ?_ (fun s ρ w h => (fun ⟨F, hW, g6, g9, h0, h1, h5, p6, h6, h7, h8, p9, h9, h31, a6b_9b⟩ => ⟨F, hW, g6, g9, h5, p6, h6, h7, h8, p9, h9, a6b_9b⟩ : G6 w0 F0 s ρ w → G7 w0 F0 s ρ w) h.2)) (Ref.pre (A := G5 w0 F0) ?_ (fun s ρ w h => (fun ⟨F, hW, g6, g9, h0, h1, h5, p6, h6, h7, h8, p9, h9, h31, a6b_9b⟩ => ⟨F, hW, g6, g9, h0, h1, h5, p6, h6, h7, h8, p9, h9, a6b_9b⟩ : G6 w0 F0 s ρ w → G5 w0 F0 s ρ w) h.2))
    · refine Ref.seq (B := G8 w0 F0) ?_ ?_
      · refine Ref.region (fun s ρ w s' h hr => ?_)
        obtain ⟨F, hW, g6, g9, h5, p6, h6, h7, h8, p9, h9, a6b_9b⟩ := h
        obtain ⟨x49, hx49, hr⟩ := bind_some' hr
        refine ol_e (f_call [.int .i64 (2 : Int), .int .i64 (-1 : Int)] fn_11 (lcons rfl (lcons rfl rfl)) (ref3_Fault.calls hW.ok (2 : Int) (-1 : Int) hx49)) rfl rfl ?_
        rintro v52 w50 ⟨Fz51, _, rfl, kw1, hk53⟩
        have hW55 := hW.trans kw1
        have st1 := kw1.stp hW.ok
        refine ol_e (f_alloc zer_27 hW55) rfl rfl ?_
        rintro _ w57 ⟨g56, rfl, kw2, ho58⟩
        have hW59 := hW55.trans kw2
        have st2 := kw2.stp hW55.ok
        refine ol_eN (f_stB hW59 (ho58.base (row := nrow) hW55.le) (FldS.whole _) ty_27 (hk53.keep st2) rfl rfl) rfl ?_
        rintro - w60 ⟨hW61, ho62, hg3, st3⟩
        obtain rfl := Option.some.inj hr
        exact ol_nil ⟨Fz51, hW61, g6, g9, g56, (h5.keep (st1.trans (st2.trans st3))), p6, (((h6.wk kw1 hW.ok).wk kw2 hW55.ok).mut (Apart.base (fun _ e_ => by cases e_; exact ho58.ge) (h6.wk kw1 hW.ok).ltw) hg3 st3), (h7.keep (st1.trans (st2.trans st3))), h8, p9, (((h9.wk kw1 hW.ok).wk kw2 hW55.ok).mut (Apart.base (fun _ e_ => by cases e_; exact ho58.ge) (h9.wk kw1 hW.ok).ltw) hg3 st3), rfl, ho62, a6b_9b, (Apart.base (fun _ e_ => by cases e_; exact ho58.ge) (h6.wk kw1 hW.ok).ltw).symm, (Apart.base (fun _ e_ => by cases e_; exact ho58.ge) (h9.wk kw1 hW.ok).ltw).symm⟩
      refine Ref.seq (B := G3 w0 F0) ?_ ?_
      · refine Ref.region (fun s ρ w s' h hr => ?_)
        obtain ⟨F, hW, g6, g9, g10, h5, p6, h6, h7, h8, p9, h9, p10, h10, a6b_9b, a6b_10b, a9b_10b⟩ := h
        obtain ⟨v63, hl64⟩ := LiesAt.v (h6).at_
        refine ol_v (e_ld ty_27 hl64 p6) rfl ?_
        obtain ⟨v65, hl66⟩ := LiesAt.v (h10).at_
        refine ol_v (e_ld ty_27 hl66 p10) rfl ?_
        refine ol_v (e_teql (eq_Fault_27 hl64.val hl66.val) rfl rfl) rfl ?_
        refine ol_cutA 5 36 40 (fun ρ' w' => w = w' ∧ ρ' 40 = .bool ((decide (s.t_6 = s.t_10)) && (decide (s.t_9 = s.t_10)))) rfl ?_ ?_
        · by_cases hb67 : (decide (s.t_6 = s.t_10)) = true
          · refine ol_v (e_mv _ rfl) rfl ?_
            refine ol_yes rfl rfl (congrArg Value.bool hb67) ?_
            obtain ⟨v69, hl70⟩ := LiesAt.v (h9).at_
            refine ol_v (e_ld ty_27 hl70 p9) rfl ?_
            refine ol_yes rfl rfl (congrArg Value.bool hb67) ?_
            obtain ⟨v71, hl72⟩ := LiesAt.v (h10).at_
            refine ol_v (e_ld ty_27 hl72 p10) rfl ?_
            refine ol_yes rfl rfl (congrArg Value.bool hb67) ?_
            refine ol_v (e_teql (eq_Fault_27 hl70.val hl72.val) rfl rfl) rfl ?_
            refine ol_v (e_pick true _ (congrArg Value.bool hb67) rfl) rfl ?_
            exact ol_nil ⟨⟨rfl, (bv_and_t hb67)⟩, ((((((Agr.refl _ _ _).upd rfl rfl).upd rfl rfl).upd rfl rfl).upd rfl rfl).upd rfl rfl)⟩
          · have hb68 := Bool.eq_false_iff.mpr hb67
            refine ol_v (e_mv _ rfl) rfl ?_
            refine ol_not rfl rfl rfl (congrArg Value.bool hb68) rfl ?_
            refine ol_not rfl rfl rfl (congrArg Value.bool hb68) rfl ?_
            refine ol_not rfl rfl rfl (congrArg Value.bool hb68) rfl ?_
            refine ol_v (e_pick false _ (congrArg Value.bool hb68) rfl) rfl ?_
            exact ol_nil ⟨⟨rfl, (bv_and_f hb68)⟩, ((((((Agr.refl _ _ _).upd rfl rfl).upd rfl rfl).upd rfl rfl).upd rfl rfl).upd rfl rfl)⟩
        rintro ρ73 _ ⟨⟨rfl, hp73⟩, hAg73⟩
        refine ol_cutA 10 41 50 (fun ρ' w' => w = w' ∧ ρ' 50 = .bool (((decide (s.t_6 = s.t_10)) && (decide (s.t_9 = s.t_10))) && (decide ((w64 (w64 ((s.t_5.length : Int) + (s.t_7.length : Int)) + s.t_8)) = (0 : Int))))) rfl ?_ ?_
        · by_cases hb74 : ((decide (s.t_6 = s.t_10)) && (decide (s.t_9 = s.t_10))) = true
          · refine ol_v (e_mv _ hp73) rfl ?_
            refine ol_yes rfl rfl (congrArg Value.bool hb74) ?_
            refine ol_v (e_mv _ (hAg73 5 rfl)) rfl ?_
            refine ol_yes rfl rfl (congrArg Value.bool hb74) ?_
            obtain ⟨A76, c77, e78, hc79, R80⟩ := id h5
            refine ol_v (e_len (SlT.sl sl_25) e78) rfl ?_
            refine ol_yes rfl rfl (congrArg Value.bool hb74) ?_
            refine ol_v (e_mv _ (hAg73 7 rfl)) rfl ?_
            refine ol_yes rfl rfl (congrArg Value.bool hb74) ?_
            obtain ⟨A81, c82, e83, hc84, R85⟩ := id h7
            refine ol_v (e_len (SlT.sl sl_22) e83) rfl ?_
            refine ol_yes rfl rfl (congrArg Value.bool hb74) ?_
            refine ol_v (e_add rfl rfl) rfl ?_
            refine ol_yes rfl rfl (congrArg Value.bool hb74) ?_
            refine ol_v (e_mv _ ((hAg73 8 rfl).trans h8)) rfl ?_
            refine ol_yes rfl rfl (congrArg Value.bool hb74) ?_
            refine ol_v (e_add rfl rfl) rfl ?_
            refine ol_yes rfl rfl (congrArg Value.bool hb74) ?_
            refine ol_v (e_eql rfl rfl) rfl ?_
            refine ol_v (e_pick true _ (congrArg Value.bool hb74) rfl) rfl ?_
            exact ol_nil ⟨⟨rfl, (bv_and_t hb74)⟩, (((((((((((Agr.refl _ _ _).upd rfl rfl).upd rfl rfl).upd rfl rfl).upd rfl rfl).upd rfl rfl).upd rfl rfl).upd rfl rfl).upd rfl rfl).upd rfl rfl).upd rfl rfl)⟩
          · have hb75 := Bool.eq_false_iff.mpr hb74
            refine ol_v (e_mv _ hp73) rfl ?_
            refine ol_not rfl rfl rfl (congrArg Value.bool hb75) rfl ?_
            refine ol_not rfl rfl rfl (congrArg Value.bool hb75) rfl ?_
            refine ol_not rfl rfl rfl (congrArg Value.bool hb75) rfl ?_
            refine ol_not rfl rfl rfl (congrArg Value.bool hb75) rfl ?_
            refine ol_not rfl rfl rfl (congrArg Value.bool hb75) rfl ?_
            refine ol_not rfl rfl rfl (congrArg Value.bool hb75) rfl ?_
            refine ol_not rfl rfl rfl (congrArg Value.bool hb75) rfl ?_
            refine ol_not rfl rfl rfl (congrArg Value.bool hb75) rfl ?_
            refine ol_v (e_pick false _ (congrArg Value.bool hb75) rfl) rfl ?_
            exact ol_nil ⟨⟨rfl, (bv_and_f hb75)⟩, (((((((((((Agr.refl _ _ _).upd rfl rfl).upd rfl rfl).upd rfl rfl).upd rfl rfl).upd rfl rfl).upd rfl rfl).upd rfl rfl).upd rfl rfl).upd rfl rfl).upd rfl rfl)⟩
        rintro ρ86 _ ⟨⟨rfl, hp86⟩, hAg86⟩
        refine ol_v (e_as _ hp86) rfl ?_
        obtain rfl := Option.some.inj hr
        exact ol_nil ⟨F, hW, rfl⟩
      exact Ref.ret (fun s ρ w h => ⟨s, rfl, h⟩)
    · exact Ref.skip
  refine Ref.seq (B := G10 w0 F0) ?_ ?_
  · refine Ref.seq (B := G9 w0 F0) ?_ ?_
    · refine Ref.region (fun s ρ w s' h hr => ?_)
      obtain ⟨F, hW, g6, g9, h0, h1, h5, p6, h6, h7, h8, p9, h9, a6b_9b⟩ := h
      refine ol_v (e_fa fa_27_0 p6) rfl ?_
      refine ol_v (e_ld ty_3 (LiesV.int ((h6).at_.fld fl_Fault_0)) rfl) rfl ?_
      refine ol_v (e_neq rfl rfl) rfl ?_
      obtain ⟨x99, hx100, hr⟩ := bind_some' hr
      refine ol_cutA 7 54 60 (fun ρ' w' => ∃ F', Wk nrow w F F' w' ∧ ρ' 60 = .bool x99) rfl ?_ ?_
      · by_cases hb87 : (!decide (s.t_6.Code = (0 : Int))) = true
        · have hr := hx100
          rw [if_pos hb87] at hr
          refine ol_v (e_mv _ rfl) rfl ?_
          refine ol_not rfl rfl rfl (congrArg Value.bool hb87) rfl ?_
          refine ol_not rfl rfl rfl (congrArg Value.bool hb87) rfl ?_
          refine ol_not rfl rfl rfl (congrArg Value.bool hb87) rfl ?_
          refine ol_not rfl rfl rfl (congrArg Value.bool hb87) rfl ?_
          refine ol_not rfl rfl rfl (congrArg Value.bool hb87) rfl ?_
          refine ol_v (e_pick true _ (congrArg Value.bool hb87) rfl) rfl ?_
          exact ol_nil ⟨⟨_, Wk.refl hW.ok, (congrArg Value.bool (Option.some.inj hr))⟩, ((((((((Agr.refl _ _ _).upd rfl rfl).upd rfl rfl).upd rfl rfl).upd rfl rfl).upd rfl rfl).upd rfl rfl).upd rfl rfl)⟩
        · have hb88 := Bool.eq_false_iff.mpr hb87
          have hr := hx100
          rw [if_neg hb87] at hr
          refine ol_v (e_mv _ rfl) rfl ?_
          refine ol_yes rfl rfl (congrArg Value.bool hb88) ?_
          refine ol_v (e_mv _ rfl) rfl ?_
          refine ol_yes rfl rfl (congrArg Value.bool hb88) ?_
          obtain ⟨A89, c90, e91, hc92, R93⟩ := id h5
          refine ol_v (e_len (SlT.sl sl_25) e91) rfl ?_
          refine ol_yes rfl rfl (congrArg Value.bool hb88) ?_
          refine ol_v (e_mv _ rfl) rfl ?_
          refine ol_yes rfl rfl (congrArg Value.bool hb88) ?_
          obtain ⟨x94, hx94, hr⟩ := bind_some' hr
          refine ol_e (f_call [(ρ 0)] fn_12 (lcons rfl rfl) (ref4_FrameCount.calls hW.ok h0 hx94)) rfl rfl ?_
          rintro _ w95 ⟨Fz96, rfl, kw1⟩
          have hW98 := hW.trans kw1
          have st1 := kw1.stp hW.ok
          refine ol_yes rfl rfl (congrArg Value.bool hb88) ?_
          refine ol_v (e_neq rfl rfl) rfl ?_
          refine ol_v (e_pick false _ (congrArg Value.bool hb88) rfl) rfl ?_
          exact ol_nil ⟨⟨_, kw1, (congrArg Value.bool (Option.some.inj hr))⟩, ((((((((Agr.refl _ _ _).upd rfl rfl).upd rfl rfl).upd rfl rfl).upd rfl rfl).upd rfl rfl).upd rfl rfl).upd rfl rfl)⟩
      rintro ρ100 w101 ⟨⟨Fz102, kw1, hp100⟩, hAg100⟩
      have hW103 := hW.trans kw1
      have st1 := kw1.stp hW.ok
      obtain rfl := Option.some.inj hr
      exact ol_nil ⟨Fz102, hW103, g9, (SlR.eqv (hAg100 0 rfl) (h0.keep st1)), (SlR.eqv (hAg100 1 rfl) (h1.keep st1)), (SlR.eqv (hAg100 5 rfl) (h5.keep st1)), (SlR.eqv (hAg100 7 rfl) (h7.keep st1)), ((hAg100 8 rfl).trans h8), ((hAg100 9 rfl).trans p9), (h9.wk kw1 hW.ok), hp100⟩
    refine Ref.cond (b := fun s => s.t_60) (fun s ρ w ⟨F, hW, g9, h0, h1, h5, h7, h8, p9, h9, h60⟩ => h60) (Ref.pre (A := G2 w0 F0) ?_ (fun s ρ w h => (fun ⟨F, hW, g9, h0, h1, h5, h7, h8, p9, h9, h60⟩ => ⟨F, hW⟩ : G9 w0 F0 s ρ w → G2 w0 F0 s ρ w) h.2)) (Ref.pre (A := G10 w0 F0) ?_ (fun s ρ w h => (fun ⟨F, hW, g9, h0, h1, h5, h7, h8, p9, h9, h60⟩ => ⟨F, hW, g9, h0, h1, h5, h7, h8, p9, h9⟩ : G9 w0 F0 s ρ w → G10 w0 F0 s ρ w) h.2))
    · refine Ref.seq (B := G3 w0 F0) ?_ ?_
      · refine Ref.region (fun s ρ w s' h hr => ?_)
        obtain ⟨F, hW⟩ := h
        refine ol_v (e_as _ rfl) rfl ?_
        obtain rfl := Option.some.inj hr
        exact ol_nil ⟨F, hW, rfl⟩
      exact Ref.ret (fun s ρ w h => ⟨s, rfl, h⟩)
    · exact Ref.skip
  refine Ref.seq (B := G10 w0 F0) ?_ ?_
  · refine Ref.seq (B := G11 w0 F0) ?_ ?_
    · refine Ref.region (fun s ρ w s' h hr => ?_)
      obtain ⟨F, hW, g9, h0, h1, h5, h7, h8, p9, h9⟩ := h
      refine ol_v (e_as _ rfl) rfl ?_
      obtain rfl := Option.some.inj hr
      exact ol_nil ⟨F, hW, g9, h0, h1, h5, h7, h8, p9, h9, rfl⟩
    refine Ref.block ?_
    refine Ref.loop ?_
    refine Ref.seq (B := G11 w0 F0) ?_ ?_
    · refine Ref.seq (B := G12 w0 F0) ?_ ?_
      · refine Ref.region (fun s ρ w s' h hr => ?_)
        obtain ⟨F, hW, g9, h0, h1, h5, h7, h8, p9, h9, h11⟩ := h
        refine ol_v (e_mv _ h11) rfl ?_
        refine ol_v (e_mv _ rfl) rfl ?_
        obtain ⟨A104, c105, e106, hc107, R108⟩ := id h5
        refine ol_v (e_len (SlT.sl sl_25) e106) rfl ?_
        refine ol_v (e_lss rfl rfl) rfl ?_
        obtain rfl := Option.some.inj hr
        exact ol_nil ⟨F, hW, g9, h0, h1, h5, h7, h8, p9, h9, h11, rfl⟩
      refine Ref.cond (b := fun s => s.t_64) (fun s ρ w ⟨F, hW, g9, h0, h1, h5, h7, h8, p9, h9, h11, h64⟩ => h64) (Ref.pre (A := G11 w0 F0) ?_ (fun s ρ w h => (fun ⟨F, hW, g9, h0, h1, h5, h7, h8, p9, h9, h11, h64⟩ => ⟨F, hW, g9, h0, h1, h5, h7, h8, p9, h9, h11⟩ : G12 w0 F0 s ρ w → G11 w0 F0 s ρ w) h.2)) (Ref.pre (A := G10 w0 F0) ?_ (fun s ρ w h => (fun ⟨F, hW, g9, h0, h1, h5, h7, h8, p9, h9, h11, h64⟩ => ⟨F, hW, g9, h0, h1, h5, h7, h8, p9, h9⟩ : G12 w0 F0 s ρ w → G10 w0 F0 s ρ w) h.2))
      · exact Ref.skip
      · exact Ref.exit (fun s ρ w h => h)
    refine Ref.seq (B := G11 w0 F0) ?_ ?_
    · refine Ref.block ?_
      refine Ref.seq (B := G13 w0 F0) ?_ ?_
      · refine Ref.regionH (by kernel_rfl) (fun s ρ w ⟨F, hW, g9, h0, h1, h5, h7, h8, p9, h9, h11⟩ => ⟨F, hW.drewS, g9, h0.keep (sd hW), h1.keep (sd hW), h5.keep (sd hW), h7.keep (sd hW), h8, p9, h9.wk (Wk.drew (row := nrow) hW.ok) hW.ok, h11⟩) (fun s ρ w s' h hr => ?_)
        obtain ⟨F, hW, g9, h0, h1, h5, h7, h8, p9, h9, h11⟩ := h
        refine ⟨fun w' => Stp F w F w', ?_⟩
        refine oh_v 0 rfl (by kernel_rfl) (by kernel_rfl) (by kernel_rfl) (Stp.refl _ _) (fun wv_ SV => e_mv _ rfl) rfl ?_
        refine oh_v 1 rfl (by kernel_rfl) (by kernel_rfl) (by kernel_rfl) (Stp.refl _ _) (fun wv_ SV => e_mv _ h11) rfl ?_
        obtain ⟨x109, hx109, hr⟩ := bind_some' hr
        obtain ⟨A110, c111, e112, hc113, R114⟩ := id h5
        obtain ⟨b115, o116, hA117, L118⟩ := Row.at_ R114 hx109
        refine oh_v 2 rfl (by kernel_rfl) (by kernel_rfl) (by kernel_rfl) (Stp.refl _ _) (fun wv_ SV => e_ix (SlT.sl sl_25) (SlT.sz sl_25) hA117 hx109 e112 rfl) rfl ?_
        obtain ⟨v119, hl120, hs121⟩ := LiesV.sl L118.at_
        refine oh_v 3 rfl (by kernel_rfl) (by kernel_rfl) (by kernel_rfl) (Stp.refl _ _) (fun wv_ SV => e_ld ty_22 (hl120.same SV (SV.keep _ L118.1)) rfl) rfl ?_
        refine oh_v 5 rfl (by kernel_rfl) (by kernel_rfl) (by kernel_rfl) (Stp.refl _ _) (fun wv_ SV => e_mv _ rfl) rfl ?_
        refine oh_v 6 rfl (by kernel_rfl) (by kernel_rfl) (by kernel_rfl) (Stp.refl _ _) (fun wv_ SV => e_mv _ h11) rfl ?_
        refine oh_all [4, 7] (by kernel_rfl) rfl ⟨?_, ?_, trivial⟩
        · refine oh1_v rfl (e_b2s (SlT.sl sl_22) (by kernel_rfl) (by kernel_rfl) hs121 rfl) rfl ?_
          refine ⟨(Stp.refl _ _), ?_⟩
          refine oh_all [7] (by kernel_rfl) rfl ⟨?_, trivial⟩
          · obtain ⟨x122, hx122, hr⟩ := bind_some' hr
            refine oh1_e rfl (f_call [(ρ 0), .int .i64 s.t_11] fn_13 (lcons rfl (lcons rfl rfl)) (ref4_FrameOf.calls hW.ok h0 s.t_11 hx122)) rfl ?_
            rintro v125 w123 ⟨Fz124, _, rfl, kw1, hk126⟩
            have hW128 := hW.trans kw1
            have st1 := kw1.stp hW.ok
            refine ⟨(Stp.back st1), ?_⟩
            refine oh_all [8] (by kernel_rfl) rfl ⟨?_, trivial⟩
            · refine oh1_v rfl (e_b2s (SlT.sl sl_22) (by kernel_rfl) (by kernel_rfl) hk126 rfl) rfl ?_
              refine ⟨(Stp.back st1), ?_⟩
              refine oh_v 9 rfl (by kernel_rfl) (by kernel_rfl) (by kernel_rfl) (Stp.back st1) (fun wv_ SV => e_sneq rfl rfl) rfl ?_
              obtain rfl := Option.some.inj hr
              exact oh_done (by kernel_rfl) ⟨Fz124, hW128, g9, (h0.keep st1), (h1.keep st1), (h5.keep st1), (h7.keep st1), h8, p9, (h9.wk kw1 hW.ok), h11, rfl⟩
        · obtain ⟨x122, hx122, hr⟩ := bind_some' hr
          refine oh1_e rfl (f_call [(ρ 0), .int .i64 s.t_11] fn_13 (lcons rfl (lcons rfl rfl)) (ref4_FrameOf.calls hW.ok h0 s.t_11 hx122)) rfl ?_
          rintro v131 w129 ⟨Fz130, _, rfl, kw1, hk132⟩
          have hW134 := hW.trans kw1
          have st1 := kw1.stp hW.ok
          refine ⟨(Stp.back st1), ?_⟩
          refine oh_all [4, 8] (by kernel_rfl) rfl ⟨?_, ?_, trivial⟩
          · refine oh1_v rfl (e_b2s (SlT.sl sl_22) (by kernel_rfl) (by kernel_rfl) (hs121.keep st1) rfl) rfl ?_
            refine ⟨(Stp.back st1), ?_⟩
            refine oh_all [8] (by kernel_rfl) rfl ⟨?_, trivial⟩
            · refine oh1_v rfl (e_b2s (SlT.sl sl_22) (by kernel_rfl) (by kernel_rfl) hk132 rfl) rfl ?_
              refine ⟨(Stp.back st1), ?_⟩
              refine oh_v 9 rfl (by kernel_rfl) (by kernel_rfl) (by kernel_rfl) (Stp.back st1) (fun wv_ SV => e_sneq rfl rfl) rfl ?_
              obtain rfl := Option.some.inj hr
              exact oh_done (by kernel_rfl) ⟨Fz130, hW134, g9, (h0.keep st1), (h1.keep st1), (h5.keep st1), (h7.keep st1), h8, p9, (h9.wk kw1 hW.ok), h11, rfl⟩
          · refine oh1_v rfl (e_b2s (SlT.sl sl_22) (by kernel_rfl) (by kernel_rfl) hk132 rfl) rfl ?_
            refine ⟨(Stp.back st1), ?_⟩
            refine oh_all [4] (by kernel_rfl) rfl ⟨?_, trivial⟩
            · refine oh1_v rfl (e_b2s (SlT.sl sl_22) (by kernel_rfl) (by kernel_rfl) (hs121.keep st1) rfl) rfl ?_
              refine ⟨(Stp.back st1), ?_⟩
              refine oh_v 9 rfl (by kernel_rfl) (by kernel_rfl) (by kernel_rfl) (Stp.back st1) (fun wv_ SV => e_sneq rfl rfl) rfl ?_
              obtain rfl := Option.some.inj hr
              exact oh_done (by kernel_rfl) ⟨Fz130, hW134, g9, (h0.keep st1), (h1.keep st1), (h5.keep st1), (h7.keep st1), h8, p9, (h9.wk kw1 hW.ok), h11, rfl⟩
      refine Ref.cond (b := fun s => s.t_76) (fun s ρ w ⟨F, hW, g9, h0, h1, h5, h7, h8, p9, h9, h11, h76⟩ => h76) (Ref.pre (A := G2 w0 F0) ?_ (fun s ρ w h => (fun ⟨F, hW, g9, h0, h1, h5, h7, h8, p9, h9, h11, h76⟩ => ⟨F, hW⟩ : G13 w0 F0 s ρ w → G2 w0 F0 s ρ w) h.2)) (Ref.pre (A := G11 w0 F0) ?_ (fun s ρ w h => (fun ⟨F, hW, g9, h0, h1, h5, h7, h8, p9, h9, h11, h76⟩ => ⟨F, hW, g9, h0, h1, h5, h7, h8, p9, h9, h11⟩ : G13 w0 F0 s ρ w → G11 w0 F0 s ρ w) h.2))
      · refine Ref.seq (B := G3 w0 F0) ?_ ?_
        · refine Ref.region (fun s ρ w s' h hr => ?_)
          obtain ⟨F, hW⟩ := h
          refine ol_v (e_as _ rfl) rfl ?_
          obtain rfl := Option.some.inj hr
          exact ol_nil ⟨F, hW, rfl⟩
        exact Ref.ret (fun s ρ w h => ⟨s, rfl, h⟩)
      · exact Ref.skip
    refine Ref.region (fun s ρ w s' h hr => ?_)
    obtain ⟨F, hW, g9, h0, h1, h5, h7, h8, p9, h9, h11⟩ := h
    refine ol_v (e_mv _ h11) rfl ?_
    refine ol_v (e_add rfl rfl) rfl ?_
    refine ol_v (e_as _ rfl) rfl ?_
    obtain rfl := Option.some.inj hr
    exact ol_nil ⟨F, hW, g9, h0, h1, h5, h7, h8, p9, h9, rfl⟩
  refine Ref.seq (B := G14 w0 F0) ?_ ?_
  · refine Ref.region (fun s ρ w s' h hr => ?_)
    obtain ⟨F, hW, g9, h0, h1, h5, h7, h8, p9, h9⟩ := h
    refine ol_v (e_bld (cells := #[.int .i64 0, .int .i64 0]) bld_27 (vs := []) rfl rfl) rfl ?_
    have hb135 : Val k_Fault F w (.agg #[.int .i64 0, .int .i64 0]) (⟨(0 : Int), (0 : Int)⟩ : Fault) := mk_Fault (val_int _ _) (val_int _ _)
    refine ol_e (f_alloc zer_27 hW) rfl rfl ?_
    rintro _ w137 ⟨g136, rfl, kw1, ho138⟩
    have hW139 := hW.trans kw1
    have st1 := kw1.stp hW.ok
    refine ol_eN (f_stB hW139 (ho138.base (row := nrow) hW.le) (FldS.whole _) ty_27 (hb135.keep st1) rfl rfl) rfl ?_
    rintro - w140 ⟨hW141, ho142, hg2, st2⟩
    obtain rfl := Option.some.inj hr
    exact ol_nil ⟨F, hW141, g9, g136, (h0.keep (st1.trans st2)), (h1.keep (st1.trans st2)), (h5.keep (st1.trans st2)), (h7.keep (st1.trans st2)), h8, p9, ((h9.wk kw1 hW.ok).mut (Apart.base (fun _ e_ => by cases e_; exact ho138.ge) h9.ltw) hg2 st2), rfl, ho142, (Apart.base (fun _ e_ => by cases e_; exact ho138.ge) h9.ltw).symm⟩
  refine Ref.seq (B := G15 w0 F0) ?_ ?_
  · refine Ref.region (fun s ρ w s' h hr => ?_)
    obtain ⟨F, hW, g9, g12, h0, h1, h5, h7, h8, p9, h9, p12, h12, a9b_12b⟩ := h
    refine ol_v (e_as _ rfl) rfl ?_
    refine ol_v (e_as _ rfl) rfl ?_
    obtain rfl := Option.some.inj hr
    exact ol_nil ⟨F, hW, g9, g12, h0, h1, h5, h7, h8, p9, h9, p12, h12, rfl, rfl, a9b_12b⟩
  refine Ref.seq (B := G17 w0 F0) ?_ ?_
  · refine Ref.seq (B := G16 w0 F0) ?_ ?_
    · refine Ref.region (fun s ρ w s' h hr => ?_)
      obtain ⟨F, hW, g9, g12, h0, h1, h5, h7, h8, p9, h9, p12, h12, h13, h14, a9b_12b⟩ := h
      refine ol_v (e_mv _ rfl) rfl ?_
      obtain ⟨A143, c144, e145, hc146, R147⟩ := id h1
      refine ol_v (e_len (SlT.sl sl_23) e145) rfl ?_
      refine ol_v (e_gtr rfl rfl) rfl ?_
      obtain rfl := Option.some.inj hr
      exact ol_nil ⟨F, hW, g9, g12, h0, h1, h5, h7, h8, p9, h9, p12, h12, h13, h14, rfl, a9b_12b⟩
    refine Ref.cond (b := fun s => s.t_80) (fun s ρ w ⟨F, hW, g9, g12, h0, h1, h5, h7, h8, p9, h9, p12, h12, h13, h14, h80, a9b_12b⟩ => h80) (Ref.pre (A := G17 w0 F0) ?_ (fun s ρ w h => (fun ⟨F, hW, g9, g12, h0, h1, h5, h7, h8, p9, h9, p12, h12, h13, h14, h80, a9b_12b⟩ => ⟨F, hW, g9, g12, h0, h7, h8, p9, h9, p12, h12, h13, h14, a9b_12b⟩ : G16 w0 F0 s ρ w → G17 w0 F0 s ρ w) h.2)) (Ref.pre (A := G14 w0 F0) ?_ (fun s ρ w h => (fun ⟨F, hW, g9, g12, h0, h1, h5, h7, h8, p9, h9, p12, h12, h13, h14, h80, a9b_12b⟩ => ⟨F, hW, g9, g12, h0, h1, h5, h7, h8, p9, h9, p12, h12, a9b_12b⟩ : G16 w0 F0 s ρ w → G14 w0 F0 s ρ w) h.2))
    · refine Ref.region (fun s ρ w s' h hr => ?_)
      obtain ⟨F, hW, g9, g12, h0, h7, h8, p9, h9, p12, h12, h13, h14, a9b_12b⟩ := h
      obtain ⟨x148, hx148, hr⟩ := bind_some' hr
      refine ol_e (f_call [.int .i64 (2 : Int), .int .i64 (-2 : Int)] fn_11 (lcons rfl (lcons rfl rfl)) (ref3_Fault.calls hW.ok (2 : Int) (-2 : Int) hx148)) rfl rfl ?_
      rintro v151 w149 ⟨Fz150, _, rfl, kw1, hk152⟩
      have hW154 := hW.trans kw1
      have st1 := kw1.stp hW.ok
      refine ol_eN (f_stB hW154 (h12.wk kw1 hW.ok) (FldS.whole _) ty_27 hk152 p12 rfl) rfl ?_
      rintro - w155 ⟨hW156, ho157, hg2, st2⟩
      obtain rfl := Option.some.inj hr
      exact ol_nil ⟨Fz150, hW156, g9, g12, (h0.keep (st1.trans st2)), (h7.keep (st1.trans st2)), h8, p9, ((h9.wk kw1 hW.ok).mut a9b_12b.symm hg2 st2), p12, ho157, h13, h14, a9b_12b.symm.symm⟩
    · refine Ref.region (fun s ρ w s' h hr => ?_)
      obtain ⟨F, hW, g9, g12, h0, h1, h5, h7, h8, p9, h9, p12, h12, a9b_12b⟩ := h
      refine ol_v (e_mv _ rfl) rfl ?_
      obtain ⟨A158, c159, e160, hc161, R162⟩ := id h5
      refine ol_v (e_len (SlT.sl sl_25) e160) rfl ?_
      refine ol_v (e_mv _ rfl) rfl ?_
      obtain ⟨x163, hx163, hr⟩ := bind_some' hr
      refine ol_e (f_call [.int .i64 (s.t_5.length : Int), (ρ 1)] fn_14 (lcons rfl (lcons rfl rfl)) (ref4_TransferOf.calls hW.ok (s.t_5.length : Int) h1 hx163)) rfl rfl ?_
      rintro _ w164 ⟨Fz165, v166, rfl, kw1, hk167⟩
      have hW169 := hW.trans kw1
      have st1 := kw1.stp hW.ok
      refine ol_v (e_mv _ rfl) rfl ?_
      refine ol_v (e_ext _ rfl rfl) rfl ?_
      refine ol_v (e_ext _ rfl rfl) rfl ?_
      refine ol_v (e_ext _ rfl rfl) rfl ?_
      refine ol_v (e_as _ rfl) rfl ?_
      refine ol_v (e_as _ rfl) rfl ?_
      refine ol_eN (f_stB hW169 (h12.wk kw1 hW.ok) (FldS.whole _) ty_27 hk167 p12 rfl) rfl ?_
      rintro - w170 ⟨hW171, ho172, hg2, st2⟩
      obtain rfl := Option.some.inj hr
      exact ol_nil ⟨Fz165, hW171, g9, g12, (h0.keep (st1.trans st2)), (h7.keep (st1.trans st2)), h8, p9, ((h9.wk kw1 hW.ok).mut a9b_12b.symm hg2 st2), p12, ho172, rfl, rfl, a9b_12b.symm.symm⟩
  refine Ref.seq (B := G20 w0 F0) ?_ ?_
  · refine Ref.seq (B := G18 w0 F0) ?_ ?_
    · refine Ref.region (fun s ρ w s' h hr => ?_)
      obtain ⟨F, hW, g9, g12, h0, h7, h8, p9, h9, p12, h12, h13, h14, a9b_12b⟩ := h
      refine ol_v (e_fa fa_27_0 p12) rfl ?_
      refine ol_v (e_ld ty_3 (LiesV.int ((h12).at_.fld fl_Fault_0)) rfl) rfl ?_
      refine ol_v (e_neq rfl rfl) rfl ?_
      obtain rfl := Option.some.inj hr
      exact ol_nil ⟨F, hW, g9, g12, h0, h7, h8, p9, h9, p12, h12, h13, h14, rfl, a9b_12b⟩
    refine Ref.cond (b := fun s => s.t_92) (fun s ρ w ⟨F, hW, g9, g12, h0, h7, h8, p9, h9, p12, h12, h13, h14, h92, a9b_12b⟩ => h92) (Ref.pre (A := G19 w0 F0) ?_ (fun s ρ w h => (fun ⟨F, hW, g9, g12, h0, h7, h8, p9, h9, p12, h12, h13, h14, h92, a9b_12b⟩ => ⟨F, hW, g9, g12, h7, h8, p9, h9, p12, h12, a9b_12b⟩ : G18 w0 F0 s ρ w → G19 w0 F0 s ρ w) h.2)) (Ref.pre (A := G20 w0 F0) ?_ (fun s ρ w h => (fun ⟨F, hW, g9, g12, h0, h7, h8, p9, h9, p12, h12, h13, h14, h92, a9b_12b⟩ => ⟨F, hW, g9, h0, h7, h8, p9, h9, h13, h14⟩ : G18 w0 F0 s ρ w → G20 w0 F0 s ρ w) h.2))
    · refine Ref.seq (B := G3 w0 F0) ?_ ?_
      · refine Ref.region (fun s ρ w s' h hr => ?_)
        obtain ⟨F, hW, g9, g12, h7, h8, p9, h9, p12, h12, a9b_12b⟩ := h
        obtain ⟨v173, hl174⟩ := LiesAt.v (h9).at_
        refine ol_v (e_ld ty_27 hl174 p9) rfl ?_
        obtain ⟨v175, hl176⟩ := LiesAt.v (h12).at_
        refine ol_v (e_ld ty_27 hl176 p12) rfl ?_
        refine ol_v (e_teql (eq_Fault_27 hl174.val hl176.val) rfl rfl) rfl ?_
        refine ol_cutA 7 96 102 (fun ρ' w' => w = w' ∧ ρ' 102 = .bool ((decide (s.t_9 = s.t_12)) && (decide ((w64 ((s.t_7.length : Int) + s.t_8)) = (0 : Int))))) rfl ?_ ?_
        · by_cases hb177 : (decide (s.t_9 = s.t_12)) = true
          · refine ol_v (e_mv _ rfl) rfl ?_
            refine ol_yes rfl rfl (congrArg Value.bool hb177) ?_
            refine ol_v (e_mv _ rfl) rfl ?_
            refine ol_yes rfl rfl (congrArg Value.bool hb177) ?_
            obtain ⟨A179, c180, e181, hc182, R183⟩ := id h7
            refine ol_v (e_len (SlT.sl sl_22) e181) rfl ?_
            refine ol_yes rfl rfl (congrArg Value.bool hb177) ?_
            refine ol_v (e_mv _ h8) rfl ?_
            refine ol_yes rfl rfl (congrArg Value.bool hb177) ?_
            refine ol_v (e_add rfl rfl) rfl ?_
            refine ol_yes rfl rfl (congrArg Value.bool hb177) ?_
            refine ol_v (e_eql rfl rfl) rfl ?_
            refine ol_v (e_pick true _ (congrArg Value.bool hb177) rfl) rfl ?_
            exact ol_nil ⟨⟨rfl, (bv_and_t hb177)⟩, ((((((((Agr.refl _ _ _).upd rfl rfl).upd rfl rfl).upd rfl rfl).upd rfl rfl).upd rfl rfl).upd rfl rfl).upd rfl rfl)⟩
          · have hb178 := Bool.eq_false_iff.mpr hb177
            refine ol_v (e_mv _ rfl) rfl ?_
            refine ol_not rfl rfl rfl (congrArg Value.bool hb178) rfl ?_
            refine ol_not rfl rfl rfl (congrArg Value.bool hb178) rfl ?_
            refine ol_not rfl rfl rfl (congrArg Value.bool hb178) rfl ?_
            refine ol_not rfl rfl rfl (congrArg Value.bool hb178) rfl ?_
            refine ol_not rfl rfl rfl (congrArg Value.bool hb178) rfl ?_
            refine ol_v (e_pick false _ (congrArg Value.bool hb178) rfl) rfl ?_
            exact ol_nil ⟨⟨rfl, (bv_and_f hb178)⟩, ((((((((Agr.refl _ _ _).upd rfl rfl).upd rfl rfl).upd rfl rfl).upd rfl rfl).upd rfl rfl).upd rfl rfl).upd rfl rfl)⟩
        rintro ρ184 _ ⟨⟨rfl, hp184⟩, hAg184⟩
        refine ol_v (e_as _ hp184) rfl ?_
        obtain rfl := Option.some.inj hr
        exact ol_nil ⟨F, hW, rfl⟩
      exact Ref.ret (fun s ρ w h => ⟨s, rfl, h⟩)
    · exact Ref.skip
  refine Ref.seq (B := G3 w0 F0) ?_ ?_
  · refine Ref.regionS (by kernel_rfl) (by kernel_rfl) (fun s ρ w ⟨F, hW, g9, h0, h7, h8, p9, h9, h13, h14⟩ => ⟨F, hW.drewS, g9, h0.keep (sd hW), h7.keep (sd hW), h8, p9, h9.wk (Wk.drew (row := nrow) hW.ok) hW.ok, h13, h14⟩) (fun s ρ w s' h hr => ?_)
    obtain ⟨F, hW, g9, h0, h7, h8, p9, h9, h13, h14⟩ := h
    refine ol_v (e_fa fa_27_0 p9) rfl ?_
    refine ol_v (e_ld ty_3 (LiesV.int ((h9).at_.fld fl_Fault_0)) rfl) rfl ?_
    refine ol_v (e_eql rfl rfl) rfl ?_
    refine ol_cutA 5 106 110 (fun ρ' w' => w = w' ∧ ρ' 110 = .bool ((decide (s.t_9.Code = (0 : Int))) && (decide (s.t_8 = s.t_14)))) rfl ?_ ?_
    · by_cases hb185 : (decide (s.t_9.Code = (0 : Int))) = true
      · refine ol_v (e_mv _ rfl) rfl ?_
        refine ol_yes rfl rfl (congrArg Value.bool hb185) ?_
        refine ol_v (e_mv _ h8) rfl ?_
        refine ol_yes rfl rfl (congrArg Value.bool hb185) ?_
        refine ol_v (e_mv _ h14) rfl ?_
        refine ol_yes rfl rfl (congrArg Value.bool hb185) ?_
        refine ol_v (e_eql rfl rfl) rfl ?_
        refine ol_v (e_pick true _ (congrArg Value.bool hb185) rfl) rfl ?_
        exact ol_nil ⟨⟨rfl, (bv_and_t hb185)⟩, ((((((Agr.refl _ _ _).upd rfl rfl).upd rfl rfl).upd rfl rfl).upd rfl rfl).upd rfl rfl)⟩
      · have hb186 := Bool.eq_false_iff.mpr hb185
        refine ol_v (e_mv _ rfl) rfl ?_
        refine ol_not rfl rfl rfl (congrArg Value.bool hb186) rfl ?_
        refine ol_not rfl rfl rfl (congrArg Value.bool hb186) rfl ?_
        refine ol_not rfl rfl rfl (congrArg Value.bool hb186) rfl ?_
        refine ol_v (e_pick false _ (congrArg Value.bool hb186) rfl) rfl ?_
        exact ol_nil ⟨⟨rfl, (bv_and_f hb186)⟩, ((((((Agr.refl _ _ _).upd rfl rfl).upd rfl rfl).upd rfl rfl).upd rfl rfl).upd rfl rfl)⟩
    rintro ρ187 _ ⟨⟨rfl, hp187⟩, hAg187⟩
    obtain ⟨x202, hx203, hr⟩ := bind_some' hr
    refine ol_cutA 13 111 123 (fun ρ' w' => w = w' ∧ ρ' 123 = .bool x202) rfl ?_ ?_
    · by_cases hb188 : ((decide (s.t_9.Code = (0 : Int))) && (decide (s.t_8 = s.t_14))) = true
      · have hr := hx203
        rw [if_pos hb188] at hr
        refine ol_v (e_mv _ hp187) rfl ?_
        refine ol_yes rfl rfl (congrArg Value.bool hb188) ?_
        refine ol_v (e_mv _ (hAg187 7 rfl)) rfl ?_
        refine ol_yes rfl rfl (congrArg Value.bool hb188) ?_
        refine ol_v (e_b2s (SlT.sl sl_22) (by kernel_rfl) (by kernel_rfl) h7 rfl) rfl ?_
        refine ol_yes rfl rfl (congrArg Value.bool hb188) ?_
        refine ol_v (e_mv _ (hAg187 0 rfl)) rfl ?_
        refine ol_yes rfl rfl (congrArg Value.bool hb188) ?_
        refine ol_v (e_mv _ (hAg187 0 rfl)) rfl ?_
        refine ol_yes rfl rfl (congrArg Value.bool hb188) ?_
        obtain ⟨A190, c191, e192, hc193, R194⟩ := id h0
        refine ol_v (e_len (SlT.sl sl_22) e192) rfl ?_
        refine ol_yes rfl rfl (congrArg Value.bool hb188) ?_
        refine ol_v (e_mv _ ((hAg187 13 rfl).trans h13)) rfl ?_
        refine ol_yes rfl rfl (congrArg Value.bool hb188) ?_
        refine ol_v (e_mul rfl rfl) rfl ?_
        refine ol_yes rfl rfl (congrArg Value.bool hb188) ?_
        refine ol_v (e_min rfl rfl) rfl ?_
        refine ol_yes rfl rfl (congrArg Value.bool hb188) ?_
        obtain ⟨A195, c196, e197, hc198, R199⟩ := id h0
        obtain ⟨x200, hx200, hr⟩ := bind_some' hr
        have hs201 := SlR.cutTo R199 hc198 hx200
        refine ol_v (e_slH (SlT.sl sl_22) (SlT.sz sl_22) hc198 e197 rfl hx200) rfl ?_
        refine ol_yes rfl rfl (congrArg Value.bool hb188) ?_
        refine ol_v (e_b2s (SlT.sl sl_22) (by kernel_rfl) (by kernel_rfl) hs201 rfl) rfl ?_
        refine ol_yes rfl rfl (congrArg Value.bool hb188) ?_
        refine ol_v (e_seql rfl rfl) rfl ?_
        refine ol_v (e_pick true _ (congrArg Value.bool hb188) rfl) rfl ?_
        exact ol_nil ⟨⟨rfl, (congrArg Value.bool (Option.some.inj hr))⟩, ((((((((((((((Agr.refl _ _ _).upd rfl rfl).upd rfl rfl).upd rfl rfl).upd rfl rfl).upd rfl rfl).upd rfl rfl).upd rfl rfl).upd rfl rfl).upd rfl rfl).upd rfl rfl).upd rfl rfl).upd rfl rfl).upd rfl rfl)⟩
      · have hb189 := Bool.eq_false_iff.mpr hb188
        have hr := hx203
        rw [if_neg hb188] at hr
        refine ol_v (e_mv _ hp187) rfl ?_
        refine ol_not rfl rfl rfl (congrArg Value.bool hb189) rfl ?_
        refine ol_not rfl rfl rfl (congrArg Value.bool hb189) rfl ?_
        refine ol_not rfl rfl rfl (congrArg Value.bool hb189) rfl ?_
        refine ol_not rfl rfl rfl (congrArg Value.bool hb189) rfl ?_
        refine ol_not rfl rfl rfl (congrArg Value.bool hb189) rfl ?_
        refine ol_not rfl rfl rfl (congrArg Value.bool hb189) rfl ?_
        refine ol_not rfl rfl rfl (congrArg Value.bool hb189) rfl ?_
        refine ol_not rfl rfl rfl (congrArg Value.bool hb189) rfl ?_
        refine ol_not rfl rfl rfl (congrArg Value.bool hb189) rfl ?_
        refine ol_not rfl rfl rfl (congrArg Value.bool hb189) rfl ?_
        refine ol_not rfl rfl rfl (congrArg Value.bool hb189) rfl ?_
        refine ol_v (e_pick false _ (congrArg Value.bool hb189) rfl) rfl ?_
        exact ol_nil ⟨⟨rfl, (congrArg Value.bool (Option.some.inj hr))⟩, ((((((((((((((Agr.refl _ _ _).upd rfl rfl).upd rfl rfl).upd rfl rfl).upd rfl rfl).upd rfl rfl).upd rfl rfl).upd rfl rfl).upd rfl rfl).upd rfl rfl).upd rfl rfl).upd rfl rfl).upd rfl rfl).upd rfl rfl)⟩
    rintro ρ203 _ ⟨⟨rfl, hp203⟩, hAg203⟩
    refine ol_v (e_as _ hp203) rfl ?_
    obtain rfl := Option.some.inj hr
    exact ol_nil ⟨F, hW, rfl⟩
  exact Ref.ret (fun s ρ w h => ⟨s, rfl, h⟩)
def post (w : World) (F : BSet) (r : R) (v : Value) (w' : World) : Prop := ∃ (F' : BSet), v = .bool r ∧ Wk nrow w F F' w'
theorem calls {w : World} {F : BSet} (hok : ∀ b, F b → b < w.heap.size) {v0 : Value} {a0 : (List UInt8)} (h0 : SlR kByte F w v0 a0) {v1 : Value} {a1 : (List LinkEvent)} (h1 : SlR k_LinkEvent F w v1 a1) {r : R} (hf : f a0 a1 = some r) : Calls Try.prog 3 #[v0, v1] w fun e w' => ∃ v, e = .returned v ∧ post w F r v w' := by
  obtain ⟨c, hc, href⟩ := ref w F
  refine calls_of_ref (args := [v0, v1]) _ Try.func3 hc rfl rfl href ?_ (retOf_some hf) ?_
  · exact ⟨F, Wk.refl hok, h0, h1⟩
  · rintro ρ w' a ⟨s, rfl, F', hW, h4⟩ hF
    refine ⟨_, run_results (rs := [.tmp 4]) rfl hF (vs := [ρ 4]) (⟨_, rfl, rfl⟩), ?_⟩
    have hv : resVal [ρ 4] = .bool s.t_4 := by rw [h4]; rfl
    exact ⟨F', hv, hW⟩
end
end law4_TransferRunMatchesSpec

end Go.Proofs.Ytpdkgodonemonaa
