/- The machine's calls come to these plain functions (written by a program, wip/fx/gen.py). -/
import Derived.Test.YtoiafcpnhhplnaaPA
import Derived.Test.YtoiafcpnhhplnaaNm
import Derived.Test.YtoiafcpnhhplnaaM0
import Derived.Test.YtoiafcpnhhplnaaM1
import Derived.Test.YtoiafcpnhhplnaaSl
import Derived.Test.YtoiafcpnhhplnaaIn
import Derived.Test.YtoiafcpnhhplnaaInP
import Derived.Test.YtoiafcpnhhplnaaFx15
namespace Go.Proofs.Ytoiafcpnhhplnaa
open Go.Fx Go.RowKit
set_option linter.unusedVariables false

namespace slices_Index_int_int
section
abbrev c0 (F : BSet) (w : World) (ρ : Env) (s : S) (X : Prop) : Prop := SlR (kInt .i64) F w (ρ 0) s.s_0 ∧ ρ 1 = .int .i64 s.v_1 ∧ X
def G0 : GT S := fun w0 F0 s ρ w => ∃ F, Wk nrow w0 F0 F w ∧ SlR (kInt .i64) F w (ρ 0) s.s_0 ∧ ρ 1 = .int .i64 s.v_1
def G1 : GT S := fun w0 F0 s ρ w => ∃ F, Wk nrow w0 F0 F w ∧ c0 F w ρ s (ρ 7 = .int .i64 s.t_7 ∧ ρ 8 = .int .i64 s.t_8)
def G2 : GT S := fun w0 F0 s ρ w => ∃ F, Wk nrow w0 F0 F w ∧ c0 F w ρ s (ρ 7 = .int .i64 s.t_7 ∧ ρ 8 = .int .i64 s.t_8 ∧ ρ 9 = .bool s.t_9)
def G3 : GT S := fun w0 F0 s ρ w => ∃ F, Wk nrow w0 F0 F w
def G4 : GT S := fun w0 F0 s ρ w => ∃ F, Wk nrow w0 F0 F w ∧ c0 F w ρ s (ρ 5 = .int .i64 s.i_5 ∧ ρ 7 = .int .i64 s.t_7 ∧ ρ 8 = .int .i64 s.t_8)
def G5 : GT S := fun w0 F0 s ρ w => ∃ F, Wk nrow w0 F0 F w ∧ c0 F w ρ s (ρ 5 = .int .i64 s.i_5 ∧ ρ 7 = .int .i64 s.t_7 ∧ ρ 8 = .int .i64 s.t_8 ∧ ρ 16 = .bool s.t_16)
def G6 : GT S := fun w0 F0 s ρ w => ∃ F, Wk nrow w0 F0 F w ∧ ρ 5 = .int .i64 s.i_5
def G7 : GT S := fun w0 F0 s ρ w => ∃ F, Wk nrow w0 F0 F w ∧ ρ 4 = .int .i64 s.t_4
set_option maxHeartbeats 4000000 in
set_option maxRecDepth 20000 in
theorem ref (w0 : World) (F0 : BSet) : ∃ c, Try.f47.body = some c ∧ Ref Try.prog 19 c (G0 w0 F0) body (fun _ _ _ => False) (fun _ _ _ _ => False) (fun r ρ w => ∃ s, retv s = r ∧ G7 w0 F0 s ρ w) := by
  refine ⟨_, rfl, ?_⟩; unfold body; refine Ref.seq (B := G0 w0 F0) ?_ ?_
  · refine Ref.region (fun s ρ w s' h hr => ?_); obtain ⟨F, hW, h0, h1⟩ := h; refine ol_a rfl ?_; exact ol_fin hr ⟨F, hW, h0, h1⟩
  refine Ref.seq (B := G3 w0 F0) ?_ ?_
  · refine Ref.seq (B := G1 w0 F0) ?_ ?_
    · refine Ref.region (fun s ρ w s' h hr => ?_); obtain ⟨F, hW, h0, h1⟩ := h; refine ol_m rfl ?_; obtain ⟨A1, c2, e3, hc4, R5⟩ := id h0; refine ol_v (e_len (SlT.sl sl_24) e3) rfl ?_; refine ol_m rfl ?_; exact ol_fin hr ⟨F, hW, h0, h1, rfl, rfl⟩
    refine Ref.block ?_; refine Ref.loop ?_; refine Ref.seq (B := G2 w0 F0) ?_ ?_
    · refine Ref.region (fun s ρ w s' h hr => ?_); obtain ⟨F, hW, h0, h1, h7, h8⟩ := h; refine ol_v (e_lss h8 h7) rfl ?_; exact ol_fin hr ⟨F, hW, h0, h1, h7, h8, rfl⟩
    refine Ref.seq (B := G1 w0 F0) ?_ ?_
    · refine Ref.condP (b := fun s => s.t_9) (L := G1 w0 F0) (K := G3 w0 F0) ?_ ?_ ?_
      · rintro s ρ w ⟨F, hW, h0, h1, h7, h8, h9⟩; exact ⟨h9, ⟨F, hW, h0, h1, h7, h8⟩, F, hW⟩
      · exact Ref.skip
      · exact Ref.exit (fun s ρ w h => h)
    refine Ref.seq (B := G1 w0 F0) ?_ ?_
    · refine Ref.block ?_; refine Ref.seq (B := G4 w0 F0) ?_ ?_
      · refine Ref.region (fun s ρ w s' h hr => ?_); obtain ⟨F, hW, h0, h1, h7, h8⟩ := h; refine ol_m h8 ?_; refine ol_a rfl ?_; exact ol_fin hr ⟨F, hW, h0, h1, rfl, h7, h8⟩
      refine Ref.seq (B := G5 w0 F0) ?_ ?_
      · refine Ref.region (fun s ρ w s' h hr => ?_); obtain ⟨F, hW, h0, h1, h5, h7, h8⟩ := h; refine ol_m h1 ?_; refine ol_m rfl ?_; refine ol_m h5 ?_; obtain ⟨x6, hx6, hr⟩ := bind_some' hr; obtain ⟨A7, c8, e9, hc10, R11⟩ := id h0; obtain ⟨b12, o13, hA14, L15⟩ := Row.at_ R11 hx6; refine ol_v (e_ix (SlT.sl sl_24) (SlT.sz sl_24) hA14 hx6 e9 rfl) rfl ?_; refine ol_v (e_ld ty_3 (LiesV.int L15.at_) rfl) rfl ?_; refine ol_v (e_eql rfl rfl) rfl ?_; exact ol_fin hr ⟨F, hW, h0, h1, h5, h7, h8, rfl⟩
      refine Ref.condP (b := fun s => s.t_16) (L := G6 w0 F0) (K := G1 w0 F0) ?_ ?_ ?_
      · rintro s ρ w ⟨F, hW, h0, h1, h5, h7, h8, h16⟩; exact ⟨h16, ⟨F, hW, h5⟩, F, hW, h0, h1, h7, h8⟩
      · refine Ref.seq (B := G7 w0 F0) ?_ ?_
        · refine Ref.region (fun s ρ w s' h hr => ?_); obtain ⟨F, hW, h5⟩ := h; refine ol_m h5 ?_; refine ol_a rfl ?_; exact ol_fin hr ⟨F, hW, rfl⟩
        exact Ref.ret (fun s ρ w h => ⟨s, rfl, h⟩)
      · exact Ref.skip
    refine Ref.region (fun s ρ w s' h hr => ?_); obtain ⟨F, hW, h0, h1, h7, h8⟩ := h; refine ol_v (e_add h8 rfl) rfl ?_; refine ol_m rfl ?_; exact ol_fin hr ⟨F, hW, h0, h1, h7, rfl⟩
  refine Ref.seq (B := G7 w0 F0) ?_ ?_
  · refine Ref.region (fun s ρ w s' h hr => ?_); obtain ⟨F, hW⟩ := h; refine ol_a rfl ?_; exact ol_fin hr ⟨F, hW, rfl⟩
  exact Ref.ret (fun s ρ w h => ⟨s, rfl, h⟩)
def post (w : World) (F : BSet) (r : R) (v : Value) (w' : World) : Prop := ∃ (F' : BSet), v = .int .i64 r ∧ Wk nrow w F F' w'
theorem calls {w : World} {F : BSet} (hok : ∀ b, F b → b < w.heap.size) {v0 : Value} {a0 : (List Int)} (h0 : SlR (kInt .i64) F w v0 a0) (a1 : Int) {r : R} (hf : f a0 a1 = some r) : Calls Try.prog 47 #[v0, .int .i64 a1] w fun e w' => ∃ v, e = .returned v ∧ post w F r v w' := by
  obtain ⟨c, hc, href⟩ := ref w F; refine calls_of_ref (args := [v0, .int .i64 a1]) _ Try.func47 hc rfl rfl href ?_ (retOf_some hf) ?_
  · exact ⟨F, Wk.refl hok, h0, rfl⟩
  · rintro ρ w' a ⟨s, rfl, F', hW, h4⟩ hF; refine ⟨_, run_results (rs := [.tmp 4]) rfl hF (vs := [ρ 4]) (⟨_, rfl, rfl⟩), ?_⟩; have hv : resVal [ρ 4] = .int .i64 s.t_4 := by rw [h4]; rfl
    exact ⟨F', hv, hW⟩
end
end slices_Index_int_int

namespace slices_Contains_int_int
section
def G0 : GT S := fun w0 F0 s ρ w => ∃ F, Wk nrow w0 F0 F w ∧ SlR (kInt .i64) F w (ρ 0) s.s_0 ∧ ρ 1 = .int .i64 s.v_1
def G1 : GT S := fun w0 F0 s ρ w => ∃ F, Wk nrow w0 F0 F w ∧ ρ 4 = .bool s.t_4
set_option maxHeartbeats 4000000 in
set_option maxRecDepth 20000 in
theorem ref (w0 : World) (F0 : BSet) : ∃ c, Try.f34.body = some c ∧ Ref Try.prog 9 c (G0 w0 F0) body (fun _ _ _ => False) (fun _ _ _ _ => False) (fun r ρ w => ∃ s, retv s = r ∧ G1 w0 F0 s ρ w) := by
  refine ⟨_, rfl, ?_⟩; unfold body; refine Ref.seq (B := G0 w0 F0) ?_ ?_
  · refine Ref.region (fun s ρ w s' h hr => ?_); obtain ⟨F, hW, h0, h1⟩ := h; refine ol_a rfl ?_; exact ol_fin hr ⟨F, hW, h0, h1⟩
  refine Ref.seq (B := G1 w0 F0) ?_ ?_
  · refine Ref.region (fun s ρ w s' h hr => ?_); obtain ⟨F, hW, h0, h1⟩ := h; refine ol_m rfl ?_; refine ol_m h1 ?_; obtain ⟨x1, hx1, hr⟩ := bind_some' hr; refine ol_e (f_call [(ρ 0), .int .i64 s.v_1] fn_47 (lcons rfl (lcons rfl rfl)) (slices_Index_int_int.calls hW.ok h0 s.v_1 hx1)) rfl rfl ?_; rintro _ w2 ⟨Fz3, rfl, kw1⟩; have hW5 := hW.trans kw1; have st1 := kw1.stp hW.ok; refine ol_v (e_geq rfl rfl) rfl ?_; refine ol_a rfl ?_; exact ol_fin hr ⟨Fz3, hW5, rfl⟩
  exact Ref.ret (fun s ρ w h => ⟨s, rfl, h⟩)
def post (w : World) (F : BSet) (r : R) (v : Value) (w' : World) : Prop := ∃ (F' : BSet), v = .bool r ∧ Wk nrow w F F' w'
theorem calls {w : World} {F : BSet} (hok : ∀ b, F b → b < w.heap.size) {v0 : Value} {a0 : (List Int)} (h0 : SlR (kInt .i64) F w v0 a0) (a1 : Int) {r : R} (hf : f a0 a1 = some r) : Calls Try.prog 34 #[v0, .int .i64 a1] w fun e w' => ∃ v, e = .returned v ∧ post w F r v w' := by
  obtain ⟨c, hc, href⟩ := ref w F; refine calls_of_ref (args := [v0, .int .i64 a1]) _ Try.func34 hc rfl rfl href ?_ (retOf_some hf) ?_
  · exact ⟨F, Wk.refl hok, h0, rfl⟩
  · rintro ρ w' a ⟨s, rfl, F', hW, h4⟩ hF; refine ⟨_, run_results (rs := [.tmp 4]) rfl hF (vs := [ρ 4]) (⟨_, rfl, rfl⟩), ?_⟩; have hv : resVal [ρ 4] = .bool s.t_4 := by rw [h4]; rfl
    exact ⟨F', hv, hW⟩
end
end slices_Contains_int_int

namespace trigram_Validate_1
section
def G0 : GT S := fun w0 F0 s ρ w => ∃ F, Wk nrow w0 F0 F w ∧ ∃ g1, ρ 0 = .int .i64 s.n_0 ∧ ρ 1 = .pointer (some ⟨g1, 0, none⟩) ∧ Lies k_TrigramIndex F w g1 0 s.t_1
def G1 : GT S := fun w0 F0 s ρ w => ∃ F, Wk nrow w0 F0 F w ∧ ρ 3 = .bool s.t_3
set_option maxHeartbeats 4000000 in
set_option maxRecDepth 20000 in
theorem ref (w0 : World) (F0 : BSet) : ∃ c, Try.f33.body = some c ∧ Ref Try.prog 9 c (G0 w0 F0) body (fun _ _ _ => False) (fun _ _ _ _ => False) (fun r ρ w => ∃ s, retv s = r ∧ G1 w0 F0 s ρ w) := by
  refine ⟨_, rfl, ?_⟩; unfold body; refine Ref.seq (B := G0 w0 F0) ?_ ?_
  · refine Ref.region (fun s ρ w s' h hr => ?_); obtain ⟨F, hW, g1, h0, p1, h1⟩ := h; refine ol_a rfl ?_; exact ol_fin hr ⟨F, hW, g1, h0, p1, h1⟩
  refine Ref.seq (B := G1 w0 F0) ?_ ?_
  · refine Ref.region (fun s ρ w s' h hr => ?_); obtain ⟨F, hW, g1, h0, p1, h1⟩ := h; refine ol_v (e_fa fa_27_0 p1) rfl ?_; obtain ⟨v1, hl2, hs3⟩ := LiesV.sl (h1.fld fl_TrigramIndex_0).at_; refine ol_v (e_ld ty_24 hl2 rfl) rfl ?_; refine ol_m h0 ?_; obtain ⟨x4, hx4, hr⟩ := bind_some' hr; refine ol_e (f_call [v1, .int .i64 s.n_0] fn_34 (lcons rfl (lcons rfl rfl)) (slices_Contains_int_int.calls hW.ok hs3 s.n_0 hx4)) rfl rfl ?_; rintro _ w5 ⟨Fz6, rfl, kw1⟩; have hW8 := hW.trans kw1; have st1 := kw1.stp hW.ok; refine ol_v (e_not_ rfl) rfl ?_; refine ol_a rfl ?_; exact ol_fin hr ⟨Fz6, hW8, rfl⟩
  exact Ref.ret (fun s ρ w h => ⟨s, rfl, h⟩)
def post (w : World) (F : BSet) (r : R) (v : Value) (w' : World) : Prop := ∃ (F' : BSet), v = .bool r ∧ Wk nrow w F F' w'
theorem calls {w : World} {F : BSet} (hok : ∀ b, F b → b < w.heap.size) (a0 : Int) {g1 : Nat} {a1 : TrigramIndex} (h1 : Lies k_TrigramIndex F w g1 0 a1) {r : R} (hf : f a0 a1 = some r) : Calls Try.prog 33 #[.int .i64 a0, .pointer (some ⟨g1, 0, none⟩)] w fun e w' => ∃ v, e = .returned v ∧ post w F r v w' := by
  obtain ⟨c, hc, href⟩ := ref w F; refine calls_of_ref (args := [.int .i64 a0, .pointer (some ⟨g1, 0, none⟩)]) _ Try.func33 hc rfl rfl href ?_ (retOf_some hf) ?_
  · exact ⟨F, Wk.refl hok, g1, rfl, rfl, h1⟩
  · rintro ρ w' a ⟨s, rfl, F', hW, h3⟩ hF; refine ⟨_, run_results (rs := [.tmp 3]) rfl hF (vs := [ρ 3]) (⟨_, rfl, rfl⟩), ?_⟩; have hv : resVal [ρ 3] = .bool s.t_3 := by rw [h3]; rfl
    exact ⟨F', hv, hW⟩
theorem fnv {w : World} {F : BSet} {g1 : Nat} {a1 : TrigramIndex} (h1 : Lies k_TrigramIndex F w g1 0 a1) : FnV Try.prog (ra1 (kInt .i64)) (fun r => (.bool r : Value)) F w (.func (.func 33) #[] #[.pointer (some ⟨g1, 0, none⟩)]) (fun x => f x a1) := by
  refine ⟨33, _, rfl, fn_33, fun F' W st ok vs x r hra hg => ?_⟩; obtain ⟨v0, rfl, k0⟩ := hra; obtain rfl := eqv_int k0; have e_ : ([.int .i64 x] : List Value).toArray ++ (#[.pointer (some ⟨g1, 0, none⟩)] : Array Value) = #[.int .i64 x, .pointer (some ⟨g1, 0, none⟩)] := by simp
  rw [e_]; refine (calls ok x (h1.keep st) hg).mono ?_; rintro e W' ⟨v, rfl, F'', rfl, hk⟩; exact ⟨_, rfl, rfl, F'', hk⟩
end
end trigram_Validate_1

namespace trigram_Validate
section
abbrev c1 (ρ : Env) (g1 : Nat) (w0 w : World) (F : BSet) (s : S) (X : Prop) : Prop := ρ 1 = .pointer (some ⟨g1, 0, none⟩) ∧ Box k_TrigramIndex 27 (Bs w0 nrow) F w g1 s.t_1 ∧ X
abbrev c2 (ρ : Env) (g2 : Nat) (w0 w : World) (F : BSet) (s : S) (X : Prop) : Prop := ρ 2 = .pointer (some ⟨g2, 0, none⟩) ∧ Box k_Fault 29 (Bs w0 nrow) F w g2 s.t_2 ∧ X
abbrev c4 (F : BSet) (w : World) (ρ : Env) (s : S) (X : Prop) : Prop := SlR (kInt .i64) F w (ρ 13) s.t_13 ∧ ρ 14 = .int .i64 s.t_14 ∧ ρ 15 = .int .i64 s.t_15 ∧ X
abbrev e4 (F : BSet) (w : World) (ρ : Env) (s : S) : Prop := SlR (kInt .i64) F w (ρ 13) s.t_13 ∧ ρ 14 = .int .i64 s.t_14 ∧ ρ 15 = .int .i64 s.t_15
abbrev c10 (F : BSet) (w : World) (ρ : Env) (s : S) (X : Prop) : Prop := SlR k_Posting F w (ρ 48) s.t_48 ∧ ρ 49 = .int .i64 s.t_49 ∧ ρ 50 = .int .i64 s.t_50 ∧ X
abbrev e10 (F : BSet) (w : World) (ρ : Env) (s : S) : Prop := SlR k_Posting F w (ρ 48) s.t_48 ∧ ρ 49 = .int .i64 s.t_49 ∧ ρ 50 = .int .i64 s.t_50
abbrev c13 (ρ : Env) (g6 : Nat) (w0 w : World) (F : BSet) (s : S) (X : Prop) : Prop := ρ 6 = .pointer (some ⟨g6, 0, none⟩) ∧ Box k_Posting 55 (Bs w0 nrow) F w g6 s.t_6 ∧ X
def G0 : GT S := fun w0 F0 s ρ w => ∃ F, Wk nrow w0 F0 F w ∧ Val k_TrigramIndex F w (ρ 0) s.t_0
def G1 : GT S := fun w0 F0 s ρ w => ∃ F, Wk nrow w0 F0 F w ∧ ∃ g1 g2, c1 ρ g1 w0 w F s (ρ 2 = .pointer (some ⟨g2, 0, none⟩) ∧ Box k_Fault 29 (Bs w0 nrow) F w g2 s.t_2)
def G2 : GT S := fun w0 F0 s ρ w => ∃ F, Wk nrow w0 F0 F w ∧ ∃ g1 g2, c1 ρ g1 w0 w F s (c2 ρ g2 w0 w F s (ρ 10 = .bool s.t_10))
def G3 : GT S := fun w0 F0 s ρ w => ∃ F, Wk nrow w0 F0 F w ∧ ∃ g2, ρ 2 = .pointer (some ⟨g2, 0, none⟩) ∧ Box k_Fault 29 (Bs w0 nrow) F w g2 s.t_2
def G4 : GT S := fun w0 F0 s ρ w => ∃ F, Wk nrow w0 F0 F w ∧ ∃ g1 g2, c1 ρ g1 w0 w F s (c2 ρ g2 w0 w F s (e4 F w ρ s))
def G5 : GT S := fun w0 F0 s ρ w => ∃ F, Wk nrow w0 F0 F w ∧ ∃ g1 g2, c1 ρ g1 w0 w F s (c2 ρ g2 w0 w F s (c4 F w ρ s (ρ 16 = .bool s.t_16)))
def G6 : GT S := fun w0 F0 s ρ w => ∃ F, Wk nrow w0 F0 F w ∧ ∃ g1 g2, c1 ρ g1 w0 w F s (c2 ρ g2 w0 w F s (ρ 3 = .int .i64 s.t_3 ∧ ρ 4 = .int .i64 s.t_4 ∧ e4 F w ρ s))
def G7 : GT S := fun w0 F0 s ρ w => ∃ F, Wk nrow w0 F0 F w ∧ ∃ g1 g2, c1 ρ g1 w0 w F s (c2 ρ g2 w0 w F s (ρ 3 = .int .i64 s.t_3 ∧ ρ 4 = .int .i64 s.t_4 ∧ c4 F w ρ s (ρ 20 = .bool s.t_20)))
def G8 : GT S := fun w0 F0 s ρ w => ∃ F, Wk nrow w0 F0 F w ∧ ∃ g2, c2 ρ g2 w0 w F s (ρ 3 = .int .i64 s.t_3)
def G9 : GT S := fun w0 F0 s ρ w => ∃ F, Wk nrow w0 F0 F w ∧ ∃ g1 g2, c1 ρ g1 w0 w F s (c2 ρ g2 w0 w F s (ρ 3 = .int .i64 s.t_3 ∧ c4 F w ρ s (ρ 30 = .bool s.t_30)))
def G10 : GT S := fun w0 F0 s ρ w => ∃ F, Wk nrow w0 F0 F w ∧ ∃ g1 g2, c1 ρ g1 w0 w F s (c2 ρ g2 w0 w F s (e10 F w ρ s))
def G11 : GT S := fun w0 F0 s ρ w => ∃ F, Wk nrow w0 F0 F w ∧ ∃ g1 g2, c1 ρ g1 w0 w F s (c2 ρ g2 w0 w F s (c10 F w ρ s (ρ 51 = .bool s.t_51)))
def G12 : GT S := fun w0 F0 s ρ w => ∃ F, Wk nrow w0 F0 F w ∧ ∃ g1 g2 g6, c1 ρ g1 w0 w F s (c2 ρ g2 w0 w F s (ρ 5 = .int .i64 s.t_5 ∧ c13 ρ g6 w0 w F s (e10 F w ρ s)))
def G13 : GT S := fun w0 F0 s ρ w => ∃ F, Wk nrow w0 F0 F w ∧ ∃ g1 g2 g6, c1 ρ g1 w0 w F s (c2 ρ g2 w0 w F s (ρ 5 = .int .i64 s.t_5 ∧ c13 ρ g6 w0 w F s (c10 F w ρ s (ρ 55 = .bool s.t_55))))
def G14 : GT S := fun w0 F0 s ρ w => ∃ F, Wk nrow w0 F0 F w ∧ ∃ g2, c2 ρ g2 w0 w F s (ρ 5 = .int .i64 s.t_5)
def G15 : GT S := fun w0 F0 s ρ w => ∃ F, Wk nrow w0 F0 F w ∧ ∃ g1 g2 g6, c1 ρ g1 w0 w F s (c2 ρ g2 w0 w F s (ρ 5 = .int .i64 s.t_5 ∧ c13 ρ g6 w0 w F s (c10 F w ρ s (ρ 62 = .bool s.t_62))))
def G16 : GT S := fun w0 F0 s ρ w => ∃ F, Wk nrow w0 F0 F w ∧ ∃ g1 g2, c1 ρ g1 w0 w F s (c2 ρ g2 w0 w F s (ρ 5 = .int .i64 s.t_5 ∧ c10 F w ρ s (ρ 87 = .bool s.t_87)))
set_option maxHeartbeats 4000000 in
set_option maxRecDepth 20000 in
theorem ref (w0 : World) (F0 : BSet) : ∃ c, Try.f15.body = some c ∧ Ref Try.prog 96 c (G0 w0 F0) body (fun _ _ _ => False) (fun _ _ _ _ => False) (fun r ρ w => ∃ s, retv s = r ∧ G3 w0 F0 s ρ w) := by
  refine ⟨_, rfl, ?_⟩; unfold body; refine Ref.seq (B := G1 w0 F0) ?_ ?_
  · refine Ref.region (fun s ρ w s' h hr => ?_); obtain ⟨F, hW, h0⟩ := h; refine ol_e (f_box hW rfl h0) rfl rfl ?_; rintro _ w2 ⟨g1, rfl, kw1, ho3⟩; have hW4 := hW.trans kw1; have st1 := kw1.stp hW.ok; refine ol_e (f_alloc zer_29 hW4) rfl rfl ?_; rintro _ w6 ⟨g5, rfl, kw2, ho7⟩; have hW8 := hW4.trans kw2; have st2 := kw2.stp hW4.ok; exact ol_fin hr ⟨F, hW8, g1, g5, rfl, ((ho3.base (row := nrow) hW.le).wk kw2 hW4.ok), rfl, (ho7.base (row := nrow) hW4.le)⟩
  refine Ref.seq (B := G1 w0 F0) ?_ ?_
  · refine Ref.seq (B := G2 w0 F0) ?_ ?_
    · refine Ref.region (fun s ρ w s' h hr => ?_); obtain ⟨F, hW, g1, g2, p1, h1, p2, h2⟩ := h; refine ol_v (e_fa fa_27_0 p1) rfl ?_; obtain ⟨v9, hl10, hs11⟩ := LiesV.sl ((h1).at_.fld fl_TrigramIndex_0); refine ol_v (e_ld ty_24 hl10 rfl) rfl ?_; obtain ⟨A12, c13, e14, hc15, R16⟩ := id hs11; refine ol_v (e_len (SlT.sl sl_24) e14) rfl ?_; refine ol_v (e_gtr rfl rfl) rfl ?_; exact ol_fin hr ⟨F, hW, g1, g2, p1, h1, p2, h2, rfl⟩
    refine Ref.condP (b := fun s => s.t_10) (L := G3 w0 F0) (K := G1 w0 F0) ?_ ?_ ?_
    · rintro s ρ w ⟨F, hW, g1, g2, p1, h1, p2, h2, h10⟩; exact ⟨h10, ⟨F, hW, g2, p2, h2⟩, F, hW, g1, g2, p1, h1, p2, h2⟩
    · refine Ref.seq (B := G3 w0 F0) ?_ ?_
      · refine Ref.region (fun s ρ w s' h hr => ?_); obtain ⟨F, hW, g2, p2, h2⟩ := h; refine ol_v (e_bld (cells := #[.int .i64 (2), .int .i64 (-1)]) bld_29 (vs := [(0, .int .i64 (2)), (1, .int .i64 (-1))]) (lcons (congrArg (Prod.mk 0) rfl) (lcons (congrArg (Prod.mk 1) rfl) rfl)) rfl) rfl ?_; have hb17 : Val k_Fault F w (.agg #[.int .i64 (2), .int .i64 (-1)]) (⟨(2 : Int), (-1 : Int)⟩ : Fault) := mk_Fault (val_int _ _) (val_int _ _); refine ol_eN (f_stB hW h2 (FldS.whole _) ty_29 hb17 p2 rfl) rfl ?_; rintro - w18 ⟨hW19, ho20, hg1, st1⟩; exact ol_fin hr ⟨F, hW19, g2, p2, ho20⟩
      exact Ref.ret (fun s ρ w h => ⟨s, rfl, h⟩)
    · exact Ref.skip
  refine Ref.seq (B := G1 w0 F0) ?_ ?_
  · refine Ref.seq (B := G4 w0 F0) ?_ ?_
    · refine Ref.region (fun s ρ w s' h hr => ?_); obtain ⟨F, hW, g1, g2, p1, h1, p2, h2⟩ := h; refine ol_v (e_fa fa_27_0 p1) rfl ?_; obtain ⟨v21, hl22, hs23⟩ := LiesV.sl ((h1).at_.fld fl_TrigramIndex_0); refine ol_v (e_ld ty_24 hl22 rfl) rfl ?_; obtain ⟨A24, c25, e26, hc27, R28⟩ := id hs23; refine ol_v (e_len (SlT.sl sl_24) e26) rfl ?_; refine ol_m rfl ?_; exact ol_fin hr ⟨F, hW, g1, g2, p1, h1, p2, h2, hs23, rfl, rfl⟩
    refine Ref.block ?_; refine Ref.loop ?_; refine Ref.seq (B := G5 w0 F0) ?_ ?_
    · refine Ref.region (fun s ρ w s' h hr => ?_); obtain ⟨F, hW, g1, g2, p1, h1, p2, h2, h13, h14, h15⟩ := h; refine ol_v (e_lss h15 h14) rfl ?_; exact ol_fin hr ⟨F, hW, g1, g2, p1, h1, p2, h2, h13, h14, h15, rfl⟩
    refine Ref.seq (B := G4 w0 F0) ?_ ?_
    · refine Ref.condP (b := fun s => s.t_16) (L := G4 w0 F0) (K := G1 w0 F0) ?_ ?_ ?_
      · rintro s ρ w ⟨F, hW, g1, g2, p1, h1, p2, h2, h13, h14, h15, h16⟩; exact ⟨h16, ⟨F, hW, g1, g2, p1, h1, p2, h2, h13, h14, h15⟩, F, hW, g1, g2, p1, h1, p2, h2⟩
      · exact Ref.skip
      · exact Ref.exit (fun s ρ w h => h)
    refine Ref.seq (B := G4 w0 F0) ?_ ?_
    · refine Ref.block ?_; refine Ref.seq (B := G6 w0 F0) ?_ ?_
      · refine Ref.region (fun s ρ w s' h hr => ?_); obtain ⟨F, hW, g1, g2, p1, h1, p2, h2, h13, h14, h15⟩ := h; refine ol_m h15 ?_; obtain ⟨x29, hx29, hr⟩ := bind_some' hr; obtain ⟨A30, c31, e32, hc33, R34⟩ := id h13; obtain ⟨b35, o36, hA37, L38⟩ := Row.at_ R34 hx29; refine ol_v (e_ix (SlT.sl sl_24) (SlT.sz sl_24) hA37 hx29 e32 h15) rfl ?_; refine ol_v (e_ld ty_3 (LiesV.int L38.at_) rfl) rfl ?_; refine ol_a rfl ?_; refine ol_a rfl ?_; exact ol_fin hr ⟨F, hW, g1, g2, p1, h1, p2, h2, rfl, rfl, h13, h14, h15⟩
      refine Ref.block ?_; refine Ref.seq (B := G7 w0 F0) ?_ ?_
      · refine Ref.region (fun s ρ w s' h hr => ?_); obtain ⟨F, hW, g1, g2, p1, h1, p2, h2, h3, h4, h13, h14, h15⟩ := h; refine ol_m h4 ?_; refine ol_v (e_lss rfl rfl) rfl ?_; refine ol_cutA 4 23 26 (fun ρ' w' => w = w' ∧ ρ' 26 = .bool ((decide (s.t_4 < (0 : Int))) || (decide ((20 : Int) ≤ s.t_4)))) rfl ?_ ?_
        · by_cases hb39 : (decide (s.t_4 < (0 : Int))) = true
          · refine ol_m rfl ?_; refine ol_not rfl rfl rfl (congrArg Value.bool hb39) rfl ?_; refine ol_not rfl rfl rfl (congrArg Value.bool hb39) rfl ?_; refine ol_v (e_pick true _ (congrArg Value.bool hb39) rfl) rfl ?_; exact ol_nil ⟨⟨rfl, (bv_or_t hb39)⟩, (Agr.refl _ _ _).u.u.u.u⟩
          · have hb40 := Bool.eq_false_iff.mpr hb39; refine ol_m rfl ?_; refine ol_yes rfl rfl (congrArg Value.bool hb40) ?_; refine ol_m h4 ?_; refine ol_yes rfl rfl (congrArg Value.bool hb40) ?_; refine ol_v (e_geq rfl rfl) rfl ?_; refine ol_v (e_pick false _ (congrArg Value.bool hb40) rfl) rfl ?_; exact ol_nil ⟨⟨rfl, (bv_or_f hb40)⟩, (Agr.refl _ _ _).u.u.u.u⟩
        rintro ρ41 _ ⟨⟨rfl, hp41⟩, hAg41⟩; refine ol_a hp41 ?_; exact ol_fin hr ⟨F, hW, g1, g2, ((hAg41 1 rfl).trans p1), h1, ((hAg41 2 rfl).trans p2), h2, ((hAg41 3 rfl).trans h3), ((hAg41 4 rfl).trans h4), (SlR.eqv (hAg41 13 rfl) h13), ((hAg41 14 rfl).trans h14), ((hAg41 15 rfl).trans h15), rfl⟩
      refine Ref.condP (b := fun s => s.t_20) (L := G8 w0 F0) (K := G6 w0 F0) ?_ ?_ ?_
      · rintro s ρ w ⟨F, hW, g1, g2, p1, h1, p2, h2, h3, h4, h13, h14, h15, h20⟩; exact ⟨h20, ⟨F, hW, g2, p2, h2, h3⟩, F, hW, g1, g2, p1, h1, p2, h2, h3, h4, h13, h14, h15⟩
      · refine Ref.seq (B := G3 w0 F0) ?_ ?_
        · refine Ref.region (fun s ρ w s' h hr => ?_); obtain ⟨F, hW, g2, p2, h2, h3⟩ := h; refine ol_m h3 ?_; refine ol_v (e_sub rfl rfl) rfl ?_; refine ol_v (e_bld (cells := #[.int .i64 (3), .int .i64 (w64 ((-2 : Int) - s.t_3))]) bld_29 (vs := [(0, .int .i64 (3)), (1, .int .i64 (w64 ((-2 : Int) - s.t_3)))]) (lcons (congrArg (Prod.mk 0) rfl) (lcons (congrArg (Prod.mk 1) rfl) rfl)) rfl) rfl ?_; have hb42 : Val k_Fault F w (.agg #[.int .i64 (3), .int .i64 (w64 ((-2 : Int) - s.t_3))]) (⟨(3 : Int), w64 ((-2 : Int) - s.t_3)⟩ : Fault) := mk_Fault (val_int _ _) (val_int _ _); refine ol_eN (f_stB hW h2 (FldS.whole _) ty_29 hb42 p2 rfl) rfl ?_; rintro - w43 ⟨hW44, ho45, hg1, st1⟩; exact ol_fin hr ⟨F, hW44, g2, p2, ho45⟩
        exact Ref.ret (fun s ρ w h => ⟨s, rfl, h⟩)
      · refine Ref.seq (B := G9 w0 F0) ?_ ?_
        · refine Ref.region (fun s ρ w s' h hr => ?_); obtain ⟨F, hW, g1, g2, p1, h1, p2, h2, h3, h4, h13, h14, h15⟩ := h; refine ol_m h3 ?_; refine ol_v (e_gtr rfl rfl) rfl ?_; obtain ⟨x61, hx62, hr⟩ := bind_some' hr; refine ol_cutA 10 33 42 (fun ρ' w' => w = w' ∧ ρ' 42 = .bool x61) rfl ?_ ?_
          · by_cases hb46 : (decide ((0 : Int) < s.t_3)) = true
            · have hr := hx62; rw [if_pos hb46] at hr; refine ol_m rfl ?_; refine ol_yes rfl rfl (congrArg Value.bool hb46) ?_; refine ol_m h4 ?_; refine ol_yes rfl rfl (congrArg Value.bool hb46) ?_; refine ol_v (e_fa fa_27_0 p1) rfl ?_; refine ol_yes rfl rfl (congrArg Value.bool hb46) ?_; obtain ⟨v48, hl49, hs50⟩ := LiesV.sl ((h1).at_.fld fl_TrigramIndex_0); refine ol_v (e_ld ty_24 hl49 rfl) rfl ?_; refine ol_yes rfl rfl (congrArg Value.bool hb46) ?_; refine ol_m h3 ?_; refine ol_yes rfl rfl (congrArg Value.bool hb46) ?_; refine ol_v (e_sub rfl rfl) rfl ?_; refine ol_yes rfl rfl (congrArg Value.bool hb46) ?_; obtain ⟨x51, hx51, hr⟩ := bind_some' hr; obtain ⟨A52, c53, e54, hc55, R56⟩ := id hs50; obtain ⟨b57, o58, hA59, L60⟩ := Row.at_ R56 hx51; refine ol_v (e_ix (SlT.sl sl_24) (SlT.sz sl_24) hA59 hx51 e54 rfl) rfl ?_; refine ol_yes rfl rfl (congrArg Value.bool hb46) ?_; refine ol_v (e_ld ty_3 (LiesV.int L60.at_) rfl) rfl ?_; refine ol_yes rfl rfl (congrArg Value.bool hb46) ?_; refine ol_v (e_leq rfl rfl) rfl ?_; refine ol_v (e_pick true _ (congrArg Value.bool hb46) rfl) rfl ?_; exact ol_nil ⟨⟨rfl, (congrArg Value.bool (Option.some.inj hr))⟩, (Agr.refl _ _ _).u.u.u.u.u.u.u.u.u.u⟩
            · have hb47 := Bool.eq_false_iff.mpr hb46; have hr := hx62; rw [if_neg hb46] at hr; refine ol_m rfl ?_; refine ol_not rfl rfl rfl (congrArg Value.bool hb47) rfl ?_; refine ol_not rfl rfl rfl (congrArg Value.bool hb47) rfl ?_; refine ol_not rfl rfl rfl (congrArg Value.bool hb47) rfl ?_; refine ol_not rfl rfl rfl (congrArg Value.bool hb47) rfl ?_; refine ol_not rfl rfl rfl (congrArg Value.bool hb47) rfl ?_; refine ol_not rfl rfl rfl (congrArg Value.bool hb47) rfl ?_; refine ol_not rfl rfl rfl (congrArg Value.bool hb47) rfl ?_; refine ol_not rfl rfl rfl (congrArg Value.bool hb47) rfl ?_; refine ol_v (e_pick false _ (congrArg Value.bool hb47) rfl) rfl ?_; exact ol_nil ⟨⟨rfl, (congrArg Value.bool (Option.some.inj hr))⟩, (Agr.refl _ _ _).u.u.u.u.u.u.u.u.u.u⟩
          rintro ρ62 _ ⟨⟨rfl, hp62⟩, hAg62⟩; refine ol_a hp62 ?_; exact ol_fin hr ⟨F, hW, g1, g2, ((hAg62 1 rfl).trans p1), h1, ((hAg62 2 rfl).trans p2), h2, ((hAg62 3 rfl).trans h3), (SlR.eqv (hAg62 13 rfl) h13), ((hAg62 14 rfl).trans h14), ((hAg62 15 rfl).trans h15), rfl⟩
        refine Ref.condP (b := fun s => s.t_30) (L := G8 w0 F0) (K := G4 w0 F0) ?_ ?_ ?_
        · rintro s ρ w ⟨F, hW, g1, g2, p1, h1, p2, h2, h3, h13, h14, h15, h30⟩; exact ⟨h30, ⟨F, hW, g2, p2, h2, h3⟩, F, hW, g1, g2, p1, h1, p2, h2, h13, h14, h15⟩
        · refine Ref.seq (B := G3 w0 F0) ?_ ?_
          · refine Ref.region (fun s ρ w s' h hr => ?_); obtain ⟨F, hW, g2, p2, h2, h3⟩ := h; refine ol_m h3 ?_; refine ol_v (e_sub rfl rfl) rfl ?_; refine ol_v (e_bld (cells := #[.int .i64 (5), .int .i64 (w64 ((-2 : Int) - s.t_3))]) bld_29 (vs := [(0, .int .i64 (5)), (1, .int .i64 (w64 ((-2 : Int) - s.t_3)))]) (lcons (congrArg (Prod.mk 0) rfl) (lcons (congrArg (Prod.mk 1) rfl) rfl)) rfl) rfl ?_; have hb63 : Val k_Fault F w (.agg #[.int .i64 (5), .int .i64 (w64 ((-2 : Int) - s.t_3))]) (⟨(5 : Int), w64 ((-2 : Int) - s.t_3)⟩ : Fault) := mk_Fault (val_int _ _) (val_int _ _); refine ol_eN (f_stB hW h2 (FldS.whole _) ty_29 hb63 p2 rfl) rfl ?_; rintro - w64 ⟨hW65, ho66, hg1, st1⟩; exact ol_fin hr ⟨F, hW65, g2, p2, ho66⟩
          exact Ref.ret (fun s ρ w h => ⟨s, rfl, h⟩)
        · exact Ref.skip
    refine Ref.region (fun s ρ w s' h hr => ?_); obtain ⟨F, hW, g1, g2, p1, h1, p2, h2, h13, h14, h15⟩ := h; refine ol_v (e_add h15 rfl) rfl ?_; refine ol_m rfl ?_; exact ol_fin hr ⟨F, hW, g1, g2, p1, h1, p2, h2, h13, h14, rfl⟩
  refine Ref.seq (B := G3 w0 F0) ?_ ?_
  · refine Ref.seq (B := G10 w0 F0) ?_ ?_
    · refine Ref.region (fun s ρ w s' h hr => ?_); obtain ⟨F, hW, g1, g2, p1, h1, p2, h2⟩ := h; refine ol_v (e_fa fa_27_1 p1) rfl ?_; obtain ⟨v67, hl68, hs69⟩ := LiesV.sl ((h1).at_.fld fl_TrigramIndex_1); refine ol_v (e_ld ty_25 hl68 rfl) rfl ?_; obtain ⟨A70, c71, e72, hc73, R74⟩ := id hs69; refine ol_v (e_len (SlT.sl sl_25) e72) rfl ?_; refine ol_m rfl ?_; exact ol_fin hr ⟨F, hW, g1, g2, p1, h1, p2, h2, hs69, rfl, rfl⟩
    refine Ref.block ?_; refine Ref.loop ?_; refine Ref.seq (B := G11 w0 F0) ?_ ?_
    · refine Ref.region (fun s ρ w s' h hr => ?_); obtain ⟨F, hW, g1, g2, p1, h1, p2, h2, h48, h49, h50⟩ := h; refine ol_v (e_lss h50 h49) rfl ?_; exact ol_fin hr ⟨F, hW, g1, g2, p1, h1, p2, h2, h48, h49, h50, rfl⟩
    refine Ref.seq (B := G10 w0 F0) ?_ ?_
    · refine Ref.condP (b := fun s => s.t_51) (L := G10 w0 F0) (K := G3 w0 F0) ?_ ?_ ?_
      · rintro s ρ w ⟨F, hW, g1, g2, p1, h1, p2, h2, h48, h49, h50, h51⟩; exact ⟨h51, ⟨F, hW, g1, g2, p1, h1, p2, h2, h48, h49, h50⟩, F, hW, g2, p2, h2⟩
      · exact Ref.skip
      · exact Ref.exit (fun s ρ w h => h)
    refine Ref.seq (B := G10 w0 F0) ?_ ?_
    · refine Ref.block ?_; refine Ref.seq (B := G12 w0 F0) ?_ ?_
      · refine Ref.region (fun s ρ w s' h hr => ?_); obtain ⟨F, hW, g1, g2, p1, h1, p2, h2, h48, h49, h50⟩ := h; refine ol_m h50 ?_; obtain ⟨x75, hx75, hr⟩ := bind_some' hr; obtain ⟨A76, c77, e78, hc79, R80⟩ := id h48; obtain ⟨b81, o82, hA83, L84⟩ := Row.at_ R80 hx75; refine ol_v (e_ix (SlT.sl sl_25) (SlT.sz sl_25) hA83 hx75 e78 h50) rfl ?_; obtain ⟨v85, hl86⟩ := LiesAt.v L84.at_; refine ol_v (e_ld ty_55 hl86 rfl) rfl ?_; refine ol_e (f_alloc zer_55 hW) rfl rfl ?_; rintro _ w88 ⟨g87, rfl, kw1, ho89⟩; have hW90 := hW.trans kw1; have st1 := kw1.stp hW.ok; refine ol_a rfl ?_; refine ol_eN (f_stB hW90 (ho89.base (row := nrow) hW.le) (FldS.whole _) ty_55 (hl86.val.keep st1) rfl rfl) rfl ?_; rintro - w91 ⟨hW92, ho93, hg2, st2⟩; exact ol_fin hr ⟨F, hW92, g1, g2, g87, p1, ((h1.wk kw1 hW.ok).mut (apart_bb (ho89.base (row := nrow) hW.le) (h1.wk kw1 hW.ok) rfl) hg2 st2), p2, ((h2.wk kw1 hW.ok).mut (apart_bb (ho89.base (row := nrow) hW.le) (h2.wk kw1 hW.ok) rfl) hg2 st2), rfl, rfl, ho93, (h48.keep (st1.trans st2)), h49, h50⟩
      refine Ref.block ?_; refine Ref.seq (B := G13 w0 F0) ?_ ?_
      · refine Ref.region (fun s ρ w s' h hr => ?_); obtain ⟨F, hW, g1, g2, g6, p1, h1, p2, h2, h5, p6, h6, h48, h49, h50⟩ := h; refine ol_v (e_fa fa_55_0 p6) rfl ?_; refine ol_v (e_ld ty_9 (LiesV.str ((h6).at_.fld fl_Posting_0)) rfl) rfl ?_; refine ol_v (e_lenS (by kernel_rfl) rfl) rfl ?_; refine ol_v (e_neq rfl rfl) rfl ?_; refine ol_a rfl ?_; exact ol_fin hr ⟨F, hW, g1, g2, g6, p1, h1, p2, h2, h5, p6, h6, h48, h49, h50, rfl⟩
      refine Ref.condP (b := fun s => s.t_55) (L := G14 w0 F0) (K := G12 w0 F0) ?_ ?_ ?_
      · rintro s ρ w ⟨F, hW, g1, g2, g6, p1, h1, p2, h2, h5, p6, h6, h48, h49, h50, h55⟩; exact ⟨h55, ⟨F, hW, g2, p2, h2, h5⟩, F, hW, g1, g2, g6, p1, h1, p2, h2, h5, p6, h6, h48, h49, h50⟩
      · refine Ref.seq (B := G3 w0 F0) ?_ ?_
        · refine Ref.region (fun s ρ w s' h hr => ?_); obtain ⟨F, hW, g2, p2, h2, h5⟩ := h; refine ol_m h5 ?_; refine ol_v (e_bld (cells := #[.int .i64 (9), .int .i64 s.t_5]) bld_29 (vs := [(0, .int .i64 (9)), (1, .int .i64 s.t_5)]) (lcons (congrArg (Prod.mk 0) rfl) (lcons (congrArg (Prod.mk 1) rfl) rfl)) rfl) rfl ?_; have hb94 : Val k_Fault F w (.agg #[.int .i64 (9), .int .i64 s.t_5]) (⟨(9 : Int), s.t_5⟩ : Fault) := mk_Fault (val_int _ _) (val_int _ _); refine ol_eN (f_stB hW h2 (FldS.whole _) ty_29 hb94 p2 rfl) rfl ?_; rintro - w95 ⟨hW96, ho97, hg1, st1⟩; exact ol_fin hr ⟨F, hW96, g2, p2, ho97⟩
        exact Ref.ret (fun s ρ w h => ⟨s, rfl, h⟩)
      · refine Ref.seq (B := G15 w0 F0) ?_ ?_
        · refine Ref.seq (B := G15 w0 F0) ?_ ?_
          · refine Ref.regionS (by kernel_rfl) (by kernel_rfl) (fun s ρ w ⟨F, hW, g1, g2, g6, p1, h1, p2, h2, h5, p6, h6, h48, h49, h50⟩ => ⟨F, hW.drewS, g1, g2, g6, p1, h1.wk (Wk.drew (row := nrow) hW.ok) hW.ok, p2, h2.wk (Wk.drew (row := nrow) hW.ok) hW.ok, h5, p6, h6.wk (Wk.drew (row := nrow) hW.ok) hW.ok, h48.keep (sd hW), h49, h50⟩) (fun s ρ w s' h hr => ?_); obtain ⟨F, hW, g1, g2, g6, p1, h1, p2, h2, h5, p6, h6, h48, h49, h50⟩ := h; refine ol_m h5 ?_; refine ol_v (e_gtr rfl rfl) rfl ?_; obtain ⟨x113, hx114, hr⟩ := bind_some' hr; refine ol_cutA 12 65 76 (fun ρ' w' => w = w' ∧ ρ' 76 = .bool x113) rfl ?_ ?_
            · by_cases hb98 : (decide ((0 : Int) < s.t_5)) = true
              · have hr := hx114; rw [if_pos hb98] at hr; refine ol_m rfl ?_; refine ol_yes rfl rfl (congrArg Value.bool hb98) ?_; refine ol_v (e_fa fa_55_0 p6) rfl ?_; refine ol_yes rfl rfl (congrArg Value.bool hb98) ?_; refine ol_v (e_ld ty_9 (LiesV.str ((h6).at_.fld fl_Posting_0)) rfl) rfl ?_; refine ol_yes rfl rfl (congrArg Value.bool hb98) ?_; refine ol_v (e_fa fa_27_1 p1) rfl ?_; refine ol_yes rfl rfl (congrArg Value.bool hb98) ?_; obtain ⟨v100, hl101, hs102⟩ := LiesV.sl ((h1).at_.fld fl_TrigramIndex_1); refine ol_v (e_ld ty_25 hl101 rfl) rfl ?_; refine ol_yes rfl rfl (congrArg Value.bool hb98) ?_; refine ol_m h5 ?_; refine ol_yes rfl rfl (congrArg Value.bool hb98) ?_; refine ol_v (e_sub rfl rfl) rfl ?_; refine ol_yes rfl rfl (congrArg Value.bool hb98) ?_; obtain ⟨x103, hx103, hr⟩ := bind_some' hr; obtain ⟨A104, c105, e106, hc107, R108⟩ := id hs102; obtain ⟨b109, o110, hA111, L112⟩ := Row.at_ R108 hx103; refine ol_v (e_ix (SlT.sl sl_25) (SlT.sz sl_25) hA111 hx103 e106 rfl) rfl ?_; refine ol_yes rfl rfl (congrArg Value.bool hb98) ?_; refine ol_v (e_fa fa_55_0 rfl) rfl ?_; refine ol_yes rfl rfl (congrArg Value.bool hb98) ?_; refine ol_v (e_ld ty_9 (LiesV.str (L112.fld fl_Posting_0).at_) rfl) rfl ?_; refine ol_yes rfl rfl (congrArg Value.bool hb98) ?_; refine ol_v (e_sleq rfl rfl) rfl ?_; refine ol_v (e_pick true _ (congrArg Value.bool hb98) rfl) rfl ?_; exact ol_nil ⟨⟨rfl, (congrArg Value.bool (Option.some.inj hr))⟩, (Agr.refl _ _ _).u.u.u.u.u.u.u.u.u.u.u.u⟩
              · have hb99 := Bool.eq_false_iff.mpr hb98; have hr := hx114; rw [if_neg hb98] at hr; refine ol_m rfl ?_; refine ol_not rfl rfl rfl (congrArg Value.bool hb99) rfl ?_; refine ol_not rfl rfl rfl (congrArg Value.bool hb99) rfl ?_; refine ol_not rfl rfl rfl (congrArg Value.bool hb99) rfl ?_; refine ol_not rfl rfl rfl (congrArg Value.bool hb99) rfl ?_; refine ol_not rfl rfl rfl (congrArg Value.bool hb99) rfl ?_; refine ol_not rfl rfl rfl (congrArg Value.bool hb99) rfl ?_; refine ol_not rfl rfl rfl (congrArg Value.bool hb99) rfl ?_; refine ol_not rfl rfl rfl (congrArg Value.bool hb99) rfl ?_; refine ol_not rfl rfl rfl (congrArg Value.bool hb99) rfl ?_; refine ol_not rfl rfl rfl (congrArg Value.bool hb99) rfl ?_; refine ol_v (e_pick false _ (congrArg Value.bool hb99) rfl) rfl ?_; exact ol_nil ⟨⟨rfl, (congrArg Value.bool (Option.some.inj hr))⟩, (Agr.refl _ _ _).u.u.u.u.u.u.u.u.u.u.u.u⟩
            rintro ρ114 _ ⟨⟨rfl, hp114⟩, hAg114⟩; refine ol_a hp114 ?_; exact ol_fin hr ⟨F, hW, g1, g2, g6, ((hAg114 1 rfl).trans p1), h1, ((hAg114 2 rfl).trans p2), h2, ((hAg114 5 rfl).trans h5), ((hAg114 6 rfl).trans p6), h6, (SlR.eqv (hAg114 48 rfl) h48), ((hAg114 49 rfl).trans h49), ((hAg114 50 rfl).trans h50), rfl⟩
          refine Ref.condP (b := fun s => s.t_62) (L := G15 w0 F0) (K := G12 w0 F0) ?_ ?_ ?_
          · rintro s ρ w ⟨F, hW, g1, g2, g6, p1, h1, p2, h2, h5, p6, h6, h48, h49, h50, h62⟩; exact ⟨h62, ⟨F, hW, g1, g2, g6, p1, h1, p2, h2, h5, p6, h6, h48, h49, h50, h62⟩, F, hW, g1, g2, g6, p1, h1, p2, h2, h5, p6, h6, h48, h49, h50⟩
          · exact Ref.skip
          · refine Ref.seq (B := G15 w0 F0) ?_ ?_
            · refine Ref.region (fun s ρ w s' h hr => ?_); obtain ⟨F, hW, g1, g2, g6, p1, h1, p2, h2, h5, p6, h6, h48, h49, h50⟩ := h; refine ol_v (e_fa fa_55_1 p6) rfl ?_; obtain ⟨v115, hl116, hs117⟩ := LiesV.sl ((h6).at_.fld fl_Posting_1); refine ol_v (e_ld ty_24 hl116 rfl) rfl ?_; obtain ⟨A118, c119, e120, hc121, R122⟩ := id hs117; refine ol_v (e_len (SlT.sl sl_24) e120) rfl ?_; refine ol_v (e_eql rfl rfl) rfl ?_; refine ol_a rfl ?_; exact ol_fin hr ⟨F, hW, g1, g2, g6, p1, h1, p2, h2, h5, p6, h6, h48, h49, h50, rfl⟩
            refine Ref.condP (b := fun s => s.t_62) (L := G15 w0 F0) (K := G12 w0 F0) ?_ ?_ ?_
            · rintro s ρ w ⟨F, hW, g1, g2, g6, p1, h1, p2, h2, h5, p6, h6, h48, h49, h50, h62⟩; exact ⟨h62, ⟨F, hW, g1, g2, g6, p1, h1, p2, h2, h5, p6, h6, h48, h49, h50, h62⟩, F, hW, g1, g2, g6, p1, h1, p2, h2, h5, p6, h6, h48, h49, h50⟩
            · exact Ref.skip
            · refine Ref.region (fun s ρ w s' h hr => ?_); obtain ⟨F, hW, g1, g2, g6, p1, h1, p2, h2, h5, p6, h6, h48, h49, h50⟩ := h; refine ol_v (e_fa fa_55_1 p6) rfl ?_; obtain ⟨v123, hl124, hs125⟩ := LiesV.sl ((h6).at_.fld fl_Posting_1); refine ol_v (e_ld ty_24 hl124 rfl) rfl ?_; obtain ⟨x126, hx126, hr⟩ := bind_some' hr; refine ol_e (f_call [v123] fn_31 (lcons rfl rfl) (trigram_increasing.calls hW.ok hs125 hx126)) rfl rfl ?_; rintro _ w127 ⟨Fz128, rfl, kw1⟩; have hW130 := hW.trans kw1; have st1 := kw1.stp hW.ok; refine ol_v (e_not_ rfl) rfl ?_; refine ol_a rfl ?_; exact ol_fin hr ⟨Fz128, hW130, g1, g2, g6, p1, (h1.wk kw1 hW.ok), p2, (h2.wk kw1 hW.ok), h5, p6, (h6.wk kw1 hW.ok), (h48.keep st1), h49, h50, rfl⟩
        refine Ref.condP (b := fun s => s.t_62) (L := G14 w0 F0) (K := G12 w0 F0) ?_ ?_ ?_
        · rintro s ρ w ⟨F, hW, g1, g2, g6, p1, h1, p2, h2, h5, p6, h6, h48, h49, h50, h62⟩; exact ⟨h62, ⟨F, hW, g2, p2, h2, h5⟩, F, hW, g1, g2, g6, p1, h1, p2, h2, h5, p6, h6, h48, h49, h50⟩
        · refine Ref.seq (B := G3 w0 F0) ?_ ?_
          · refine Ref.region (fun s ρ w s' h hr => ?_); obtain ⟨F, hW, g2, p2, h2, h5⟩ := h; refine ol_m h5 ?_; refine ol_v (e_bld (cells := #[.int .i64 (5), .int .i64 s.t_5]) bld_29 (vs := [(0, .int .i64 (5)), (1, .int .i64 s.t_5)]) (lcons (congrArg (Prod.mk 0) rfl) (lcons (congrArg (Prod.mk 1) rfl) rfl)) rfl) rfl ?_; have hb131 : Val k_Fault F w (.agg #[.int .i64 (5), .int .i64 s.t_5]) (⟨(5 : Int), s.t_5⟩ : Fault) := mk_Fault (val_int _ _) (val_int _ _); refine ol_eN (f_stB hW h2 (FldS.whole _) ty_29 hb131 p2 rfl) rfl ?_; rintro - w132 ⟨hW133, ho134, hg1, st1⟩; exact ol_fin hr ⟨F, hW133, g2, p2, ho134⟩
          exact Ref.ret (fun s ρ w h => ⟨s, rfl, h⟩)
        · refine Ref.seq (B := G16 w0 F0) ?_ ?_
          · refine Ref.region (fun s ρ w s' h hr => ?_); obtain ⟨F, hW, g1, g2, g6, p1, h1, p2, h2, h5, p6, h6, h48, h49, h50⟩ := h; refine ol_v (e_fa fa_55_1 p6) rfl ?_; obtain ⟨v135, hl136, hs137⟩ := LiesV.sl ((h6).at_.fld fl_Posting_1); refine ol_v (e_ld ty_24 hl136 rfl) rfl ?_; refine ol_v (e_mkf (xs := []) (us := []) rfl (lcons p1 rfl)) rfl ?_; obtain ⟨Fl138, okl138, stl138, hFl138, hl138⟩ := Box.lent h1 hW.ok; obtain ⟨x139, hx139, hr⟩ := bind_some' hr; refine ol_e (f_call [v135, .func (.func 33) #[] #[.pointer (some ⟨g1, 0, none⟩)]] fn_32 (lcons rfl (lcons rfl rfl)) (slices_ContainsFunc_int_int.calls okl138 (hs137.keep stl138) (val_fn (trigram_Validate_1.fnv hl138)) hx139)) rfl rfl ?_; rintro _ w140 ⟨Fz141, rfl, kw1⟩; have ko143 := kw1; have kw1 := kw1.lend hW.ok; have hW144 := hW.trans kw1; have st1 := kw1.stp hW.ok; refine ol_a rfl ?_; exact ol_fin hr ⟨F, hW144, g1, g2, p1, (h1.wk kw1 hW.ok), p2, (h2.wk kw1 hW.ok), h5, (h48.keep st1), h49, h50, rfl⟩
          refine Ref.condP (b := fun s => s.t_87) (L := G14 w0 F0) (K := G10 w0 F0) ?_ ?_ ?_
          · rintro s ρ w ⟨F, hW, g1, g2, p1, h1, p2, h2, h5, h48, h49, h50, h87⟩; exact ⟨h87, ⟨F, hW, g2, p2, h2, h5⟩, F, hW, g1, g2, p1, h1, p2, h2, h48, h49, h50⟩
          · refine Ref.seq (B := G3 w0 F0) ?_ ?_
            · refine Ref.region (fun s ρ w s' h hr => ?_); obtain ⟨F, hW, g2, p2, h2, h5⟩ := h; refine ol_m h5 ?_; refine ol_v (e_bld (cells := #[.int .i64 (6), .int .i64 s.t_5]) bld_29 (vs := [(0, .int .i64 (6)), (1, .int .i64 s.t_5)]) (lcons (congrArg (Prod.mk 0) rfl) (lcons (congrArg (Prod.mk 1) rfl) rfl)) rfl) rfl ?_; have hb145 : Val k_Fault F w (.agg #[.int .i64 (6), .int .i64 s.t_5]) (⟨(6 : Int), s.t_5⟩ : Fault) := mk_Fault (val_int _ _) (val_int _ _); refine ol_eN (f_stB hW h2 (FldS.whole _) ty_29 hb145 p2 rfl) rfl ?_; rintro - w146 ⟨hW147, ho148, hg1, st1⟩; exact ol_fin hr ⟨F, hW147, g2, p2, ho148⟩
            exact Ref.ret (fun s ρ w h => ⟨s, rfl, h⟩)
          · exact Ref.skip
    refine Ref.region (fun s ρ w s' h hr => ?_); obtain ⟨F, hW, g1, g2, p1, h1, p2, h2, h48, h49, h50⟩ := h; refine ol_v (e_add h50 rfl) rfl ?_; refine ol_m rfl ?_; exact ol_fin hr ⟨F, hW, g1, g2, p1, h1, p2, h2, h48, h49, rfl⟩
  refine Ref.seq (B := G3 w0 F0) ?_ ?_
  · refine Ref.region (fun s ρ w s' h hr => ?_); obtain ⟨F, hW, g2, p2, h2⟩ := h; refine ol_v (e_bld (cells := #[.int .i64 0, .int .i64 0]) bld_29 (vs := []) rfl rfl) rfl ?_; have hb149 : Val k_Fault F w (.agg #[.int .i64 0, .int .i64 0]) (⟨(0 : Int), (0 : Int)⟩ : Fault) := mk_Fault (val_int _ _) (val_int _ _); refine ol_eN (f_stB hW h2 (FldS.whole _) ty_29 hb149 p2 rfl) rfl ?_; rintro - w150 ⟨hW151, ho152, hg1, st1⟩; exact ol_fin hr ⟨F, hW151, g2, p2, ho152⟩
  exact Ref.ret (fun s ρ w h => ⟨s, rfl, h⟩)
def post (w : World) (F : BSet) (r : R) (v : Value) (w' : World) : Prop := ∃ (F' : BSet) (v0' : Value), v = v0' ∧ Wk nrow w F F' w' ∧ Val k_Fault F' w' v0' r
theorem calls {w : World} {F : BSet} (hok : ∀ b, F b → b < w.heap.size) {v0 : Value} {a0 : TrigramIndex} (h0 : Val k_TrigramIndex F w v0 a0) {r : R} (hf : f a0 = some r) : Calls Try.prog 15 #[v0] w fun e w' => ∃ v, e = .returned v ∧ post w F r v w' := by
  obtain ⟨c, hc, href⟩ := ref w F; refine calls_of_ref (args := [v0]) _ Try.func15 hc rfl rfl href ?_ (retOf_some hf) ?_
  · exact ⟨F, Wk.refl hok, h0⟩
  · rintro ρ w' a ⟨s, rfl, F', hW, g2, p2, h2⟩ hF; obtain ⟨u2, l2, k2⟩ := res_box (P := Try.prog) ty_29 h2; refine ⟨_, run_results (rs := [.cell 2 29]) rfl hF (vs := [u2]) (⟨_, _, _, rfl, p2, l2, rfl⟩), ?_⟩; exact ⟨F', u2, rfl, hW, k2⟩
end
end trigram_Validate

namespace slices_DeleteFunc_int_int
section
def G0 (u0 : Value) (w0 : World) (F0 : BSet) (s : S) (ρ : Env) (w : World) : Prop := ∃ (F : BSet), Wk (ob u0.ownBlock) w0 F0 F w ∧ OwnV (kInt .i64) 3 (Bs w0 (ob u0.ownBlock)) F w (ρ 0) s.s_0 ∧ Val (kFn Try.prog (ra1 (kInt .i64)) (fun r => (.bool r : Value))) F w (ρ 1) s.del_1
def G1 (u0 : Value) (w0 : World) (F0 : BSet) (s : S) (ρ : Env) (w : World) : Prop := ∃ (F : BSet), Wk (ob u0.ownBlock) w0 F0 F w ∧ OwnV (kInt .i64) 3 (Bs w0 (ob u0.ownBlock)) F w (ρ 0) s.s_0 ∧ Val (kFn Try.prog (ra1 (kInt .i64)) (fun r => (.bool r : Value))) F w (ρ 1) s.del_1 ∧ ρ 5 = .int .i64 s.i_5
def G2 (u0 : Value) (w0 : World) (F0 : BSet) (s : S) (ρ : Env) (w : World) : Prop := ∃ (F : BSet), Wk (ob u0.ownBlock) w0 F0 F w ∧ OwnV (kInt .i64) 3 (Bs w0 (ob u0.ownBlock)) F w (ρ 0) s.s_0 ∧ Val (kFn Try.prog (ra1 (kInt .i64)) (fun r => (.bool r : Value))) F w (ρ 1) s.del_1 ∧ ρ 5 = .int .i64 s.i_5 ∧ ρ 12 = .bool s.t_12
def G3 (u0 : Value) (w0 : World) (F0 : BSet) (s : S) (ρ : Env) (w : World) : Prop := ∃ (F : BSet), Wk (ob u0.ownBlock) w0 F0 F w ∧ OwnV (kInt .i64) 3 (Bs w0 (ob u0.ownBlock)) F w (ρ 0) s.s_0
def G4 (u0 : Value) (w0 : World) (F0 : BSet) (s : S) (ρ : Env) (w : World) : Prop := ∃ (F : BSet), Wk (ob u0.ownBlock) w0 F0 F w ∧ OwnV (kInt .i64) 3 (Bs w0 (ob u0.ownBlock)) F w (ρ 4) s.t_4
def G5 (u0 : Value) (w0 : World) (F0 : BSet) (s : S) (ρ : Env) (w : World) : Prop := ∃ (F : BSet), Wk (ob u0.ownBlock) w0 F0 F w ∧ OwnV (kInt .i64) 3 (Bs w0 (ob u0.ownBlock)) F w (ρ 0) s.s_0 ∧ Val (kFn Try.prog (ra1 (kInt .i64)) (fun r => (.bool r : Value))) F w (ρ 1) s.del_1 ∧ ρ 5 = .int .i64 s.i_5 ∧ ρ 6 = .int .i64 s.j_6
def G6 (u0 : Value) (w0 : World) (F0 : BSet) (s : S) (ρ : Env) (w : World) : Prop := ∃ (F : BSet), Wk (ob u0.ownBlock) w0 F0 F w ∧ OwnV (kInt .i64) 3 (Bs w0 (ob u0.ownBlock)) F w (ρ 0) s.s_0 ∧ Val (kFn Try.prog (ra1 (kInt .i64)) (fun r => (.bool r : Value))) F w (ρ 1) s.del_1 ∧ ρ 5 = .int .i64 s.i_5 ∧ ρ 6 = .int .i64 s.j_6 ∧ ρ 19 = .bool s.t_19
def G7 (u0 : Value) (w0 : World) (F0 : BSet) (s : S) (ρ : Env) (w : World) : Prop := ∃ (F : BSet), Wk (ob u0.ownBlock) w0 F0 F w ∧ OwnV (kInt .i64) 3 (Bs w0 (ob u0.ownBlock)) F w (ρ 0) s.s_0 ∧ ρ 5 = .int .i64 s.i_5
def G8 (u0 : Value) (w0 : World) (F0 : BSet) (s : S) (ρ : Env) (w : World) : Prop := ∃ (F : BSet), Wk (ob u0.ownBlock) w0 F0 F w ∧ OwnV (kInt .i64) 3 (Bs w0 (ob u0.ownBlock)) F w (ρ 0) s.s_0 ∧ Val (kFn Try.prog (ra1 (kInt .i64)) (fun r => (.bool r : Value))) F w (ρ 1) s.del_1 ∧ ρ 5 = .int .i64 s.i_5 ∧ ρ 6 = .int .i64 s.j_6 ∧ ρ 7 = .int .i64 s.v_7
def G9 (u0 : Value) (w0 : World) (F0 : BSet) (s : S) (ρ : Env) (w : World) : Prop := ∃ (F : BSet), Wk (ob u0.ownBlock) w0 F0 F w ∧ OwnV (kInt .i64) 3 (Bs w0 (ob u0.ownBlock)) F w (ρ 0) s.s_0 ∧ Val (kFn Try.prog (ra1 (kInt .i64)) (fun r => (.bool r : Value))) F w (ρ 1) s.del_1 ∧ ρ 5 = .int .i64 s.i_5 ∧ ρ 6 = .int .i64 s.j_6 ∧ ρ 7 = .int .i64 s.v_7 ∧ ρ 29 = .bool s.t_29
set_option maxHeartbeats 4000000 in
set_option maxRecDepth 20000 in
theorem ref (u0 : Value) (w0 : World) (F0 : BSet) : ∃ c, Try.f38.body = some c ∧ Ref Try.prog 42 c (G0 u0 w0 F0) body (fun _ _ _ => False) (fun _ _ _ _ => False) (fun r ρ w => ∃ s, retv s = r ∧ G4 u0 w0 F0 s ρ w) := by
  refine ⟨_, rfl, ?_⟩; unfold body; refine Ref.seq (B := G0 u0 w0 F0) ?_ ?_
  · refine Ref.region (fun s ρ w s' h hr => ?_); obtain ⟨F, hW, h0, h1⟩ := h; refine ol_a rfl ?_; exact ol_fin hr ⟨F, hW, h0, h1⟩
  refine Ref.seq (B := G1 u0 w0 F0) ?_ ?_
  · refine Ref.region (fun s ρ w s' h hr => ?_); obtain ⟨F, hW, h0, h1⟩ := h; refine ol_m rfl ?_; refine ol_m rfl ?_; obtain ⟨Fl1, okl1, stl1, hFl1, hl1⟩ := OwnV.lent h0 hW.ok; obtain ⟨x2, hx2, hr⟩ := bind_some' hr; refine ol_e (f_call [(ρ 0), (ρ 1)] fn_46 (lcons rfl (lcons rfl rfl)) (slices_IndexFunc_int_int.calls okl1 hl1 (h1.keep stl1) hx2)) rfl rfl ?_; rintro _ w3 ⟨Fz4, rfl, kw1⟩; have ko6 := kw1; have kw1 := kw1.lend hW.ok; have hW7 := hW.trans kw1; have st1 := kw1.stp hW.ok; refine ol_a rfl ?_; exact ol_fin hr ⟨F, hW7, (h0.wk kw1 hW.ok), (h1.keep st1), rfl⟩
  refine Ref.seq (B := G1 u0 w0 F0) ?_ ?_
  · refine Ref.seq (B := G2 u0 w0 F0) ?_ ?_
    · refine Ref.region (fun s ρ w s' h hr => ?_); obtain ⟨F, hW, h0, h1, h5⟩ := h; refine ol_m h5 ?_; refine ol_v (e_eql rfl rfl) rfl ?_; exact ol_fin hr ⟨F, hW, h0, h1, h5, rfl⟩
    refine Ref.cond (b := fun s => s.t_12) (fun s ρ w ⟨F, hW, h0, h1, h5, h12⟩ => h12) (Ref.pre (A := G3 u0 w0 F0) ?_ (fun s ρ w h => (fun ⟨F, hW, h0, h1, h5, h12⟩ => ⟨F, hW, h0⟩ : G2 u0 w0 F0 s ρ w → G3 u0 w0 F0 s ρ w) h.2)) (Ref.pre (A := G1 u0 w0 F0) ?_ (fun s ρ w h => (fun ⟨F, hW, h0, h1, h5, h12⟩ => ⟨F, hW, h0, h1, h5⟩ : G2 u0 w0 F0 s ρ w → G1 u0 w0 F0 s ρ w) h.2))
    · refine Ref.seq (B := G4 u0 w0 F0) ?_ ?_
      · refine Ref.region (fun s ρ w s' h hr => ?_); obtain ⟨F, hW, h0⟩ := h; refine ol_m rfl ?_; refine ol_a rfl ?_; exact ol_fin hr ⟨F, hW, h0⟩
      exact Ref.ret (fun s ρ w h => ⟨s, rfl, h⟩)
    · exact Ref.skip
  refine Ref.seq (B := G7 u0 w0 F0) ?_ ?_
  · refine Ref.seq (B := G5 u0 w0 F0) ?_ ?_
    · refine Ref.region (fun s ρ w s' h hr => ?_); obtain ⟨F, hW, h0, h1, h5⟩ := h; refine ol_m h5 ?_; refine ol_v (e_add rfl rfl) rfl ?_; refine ol_a rfl ?_; exact ol_fin hr ⟨F, hW, h0, h1, h5, rfl⟩
    refine Ref.block ?_; refine Ref.loop ?_; refine Ref.seq (B := G5 u0 w0 F0) ?_ ?_
    · refine Ref.seq (B := G6 u0 w0 F0) ?_ ?_
      · refine Ref.region (fun s ρ w s' h hr => ?_); obtain ⟨F, hW, h0, h1, h5, h6⟩ := h; refine ol_m h6 ?_; refine ol_m rfl ?_; obtain ⟨A8, c9, e10, hc11⟩ := h0.shape; refine ol_v (e_len (SlT.sl sl_24) e10) rfl ?_; refine ol_v (e_lss rfl rfl) rfl ?_; exact ol_fin hr ⟨F, hW, h0, h1, h5, h6, rfl⟩
      refine Ref.cond (b := fun s => s.t_19) (fun s ρ w ⟨F, hW, h0, h1, h5, h6, h19⟩ => h19) (Ref.pre (A := G5 u0 w0 F0) ?_ (fun s ρ w h => (fun ⟨F, hW, h0, h1, h5, h6, h19⟩ => ⟨F, hW, h0, h1, h5, h6⟩ : G6 u0 w0 F0 s ρ w → G5 u0 w0 F0 s ρ w) h.2)) (Ref.pre (A := G7 u0 w0 F0) ?_ (fun s ρ w h => (fun ⟨F, hW, h0, h1, h5, h6, h19⟩ => ⟨F, hW, h0, h5⟩ : G6 u0 w0 F0 s ρ w → G7 u0 w0 F0 s ρ w) h.2))
      · exact Ref.skip
      · exact Ref.exit (fun s ρ w h => h)
    refine Ref.seq (B := G5 u0 w0 F0) ?_ ?_
    · refine Ref.block ?_; refine Ref.seq (B := G8 u0 w0 F0) ?_ ?_
      · refine Ref.region (fun s ρ w s' h hr => ?_); obtain ⟨F, hW, h0, h1, h5, h6⟩ := h; refine ol_m rfl ?_; refine ol_m h6 ?_; obtain ⟨x12, hx12, hr⟩ := bind_some' hr; obtain ⟨g13, o14, c15, hv16, L17⟩ := OwnV.at_ h0 hx12; refine ol_v (e_ixO sl_24 hv16 hx12 rfl rfl) rfl ?_; refine ol_v (e_ld ty_3 (LiesV.int L17) rfl) rfl ?_; refine ol_a rfl ?_; exact ol_fin hr ⟨F, hW, h0, h1, h5, h6, rfl⟩
      refine Ref.seq (B := G9 u0 w0 F0) ?_ ?_
      · refine Ref.region (fun s ρ w s' h hr => ?_); obtain ⟨F, hW, h0, h1, h5, h6, h7⟩ := h; refine ol_m rfl ?_; refine ol_m h7 ?_; obtain ⟨x18, hx18, hr⟩ := bind_some' hr; refine ol_e (f_callV [.int .i64 s.v_7] h1 hW.ok rfl (lcons rfl rfl) ⟨_, rfl, (val_int _ _)⟩ hx18) rfl rfl ?_; rintro _ w19 ⟨rfl, kw1⟩; have hW20 := hW.trans kw1; have st1 := kw1.stp hW.ok; refine ol_v (e_not_ rfl) rfl ?_; exact ol_fin hr ⟨F, hW20, (h0.wk kw1 hW.ok), (h1.keep st1), h5, h6, h7, rfl⟩
      refine Ref.cond (b := fun s => s.t_29) (fun s ρ w ⟨F, hW, h0, h1, h5, h6, h7, h29⟩ => h29) (Ref.pre (A := G8 u0 w0 F0) ?_ (fun s ρ w h => (fun ⟨F, hW, h0, h1, h5, h6, h7, h29⟩ => ⟨F, hW, h0, h1, h5, h6, h7⟩ : G9 u0 w0 F0 s ρ w → G8 u0 w0 F0 s ρ w) h.2)) (Ref.pre (A := G5 u0 w0 F0) ?_ (fun s ρ w h => (fun ⟨F, hW, h0, h1, h5, h6, h7, h29⟩ => ⟨F, hW, h0, h1, h5, h6⟩ : G9 u0 w0 F0 s ρ w → G5 u0 w0 F0 s ρ w) h.2))
      · refine Ref.seq (B := G5 u0 w0 F0) ?_ ?_
        · refine Ref.region (fun s ρ w s' h hr => ?_); obtain ⟨F, hW, h0, h1, h5, h6, h7⟩ := h; refine ol_m rfl ?_; refine ol_m h5 ?_; refine ol_m h7 ?_; obtain ⟨x21, hx21, hr⟩ := bind_some' hr; obtain ⟨g22, o23, c24, hv25, L26⟩ := OwnV.at_ h0 hx21; refine ol_v (e_ixO sl_24 hv25 hx21 rfl rfl) rfl ?_; refine ol_eN (f_stO hW h0 hx21 (FldS.whole _) ty_3 (val_int _ _) hv25 rfl rfl) rfl ?_; rintro - w27 ⟨hW28, ho29, hg1, st1⟩; exact ol_fin hr ⟨F, hW28, ho29, (h1.keep st1), h5, h6⟩
        refine Ref.region (fun s ρ w s' h hr => ?_); obtain ⟨F, hW, h0, h1, h5, h6⟩ := h; refine ol_m h5 ?_; refine ol_v (e_add rfl rfl) rfl ?_; refine ol_a rfl ?_; exact ol_fin hr ⟨F, hW, h0, h1, rfl, h6⟩
      · exact Ref.skip
    refine Ref.region (fun s ρ w s' h hr => ?_); obtain ⟨F, hW, h0, h1, h5, h6⟩ := h; refine ol_m h6 ?_; refine ol_v (e_add rfl rfl) rfl ?_; refine ol_a rfl ?_; exact ol_fin hr ⟨F, hW, h0, h1, h5, rfl⟩
  refine Ref.seq (B := G7 u0 w0 F0) ?_ ?_
  · refine Ref.region (fun s ρ w s' h hr => ?_); obtain ⟨F, hW, h0, h5⟩ := h; refine ol_m rfl ?_; refine ol_m h5 ?_; obtain ⟨A30, c31, e32, hc33⟩ := h0.shape; obtain ⟨x34, hx34, hr⟩ := bind_some' hr; refine ol_v (e_slL (SlT.sl sl_24) (SlT.sz sl_24) hc33 e32 rfl hx34) rfl ?_; refine ol_eN (f_clear sl_24 hW (OwnV.eqv e32.symm h0) hx34 rfl) rfl ?_; rintro - w35 ⟨hW36, ho37, hx38, st1⟩; have hg1 : World.grownBy w w35 (ρ 0).ownBlock := by rw [e32]; exact hx38
    exact ol_fin hr ⟨F, hW36, (OwnV.eqv e32 ho37), h5⟩
  refine Ref.seq (B := G4 u0 w0 F0) ?_ ?_
  · refine Ref.region (fun s ρ w s' h hr => ?_); obtain ⟨F, hW, h0, h5⟩ := h; refine ol_m rfl ?_; refine ol_m h5 ?_; obtain ⟨A39, c40, e41, hc42⟩ := h0.shape; obtain ⟨x43, hx43, hr⟩ := bind_some' hr; obtain ⟨hn44, hbn45⟩ := OwnV.cutTo (OwnV.eqv e41.symm h0) hx43; refine ol_v (e_slH (SlT.sl sl_24) (SlT.sz sl_24) hc42 e41 rfl hx43) rfl ?_; refine ol_a rfl ?_; exact ol_fin hr ⟨F, hW, hn44⟩
  exact Ref.ret (fun s ρ w h => ⟨s, rfl, h⟩)
def post (v0 : Value) (w : World) (F : BSet) (r : R) (v : Value) (w' : World) : Prop := ∃ (F' : BSet) (v0' : Value), v = v0' ∧ Wk (ob v0.ownBlock) w F F' w' ∧ OwnV (kInt .i64) 3 (Bs w (ob v0.ownBlock)) F' w' v0' r
theorem calls {w : World} {F : BSet} (hok : ∀ b, F b → b < w.heap.size) {v0 : Value} {a0 : (List Int)} (h0 : OwnV (kInt .i64) 3 (fun _ => True) F w v0 a0) {v1 : Value} {a1 : (Int → Option Bool)} (h1 : Val (kFn Try.prog (ra1 (kInt .i64)) (fun r => (.bool r : Value))) F w v1 a1) {r : R} (hf : f a0 a1 = some r) : Calls Try.prog 38 #[v0, v1] w fun e w' => ∃ v, e = .returned v ∧ post v0 w F r v w' := by
  obtain ⟨c, hc, href⟩ := ref v0 w F; refine calls_of_ref (args := [v0, v1]) _ Try.func38 hc rfl rfl href ?_ (retOf_some hf) ?_
  · exact ⟨F, Wk.refl hok, (h0.rebase (fun g hg => .inr hg)), h1⟩
  · rintro ρ w' a ⟨s, rfl, F', hW, h4⟩ hF; refine ⟨_, run_results (rs := [.tmp 4]) rfl hF (vs := [ρ 4]) (⟨_, rfl, rfl⟩), ?_⟩; exact ⟨F', ρ 4, rfl, hW, h4.rebase (fun g hg => (h4.lt hg).1)⟩
end
end slices_DeleteFunc_int_int

namespace trigram_Candidates_1
section
def G0 : GT S := fun w0 F0 s ρ w => ∃ F, Wk nrow w0 F0 F w ∧ ∃ g1, ρ 0 = .int .i64 s.n_0 ∧ ρ 1 = .pointer (some ⟨g1, 0, none⟩) ∧ Lies (kSl (kInt .i64)) F w g1 0 s.t_1
def G1 : GT S := fun w0 F0 s ρ w => ∃ F, Wk nrow w0 F0 F w ∧ ρ 3 = .bool s.t_3
set_option maxHeartbeats 4000000 in
set_option maxRecDepth 20000 in
theorem ref (w0 : World) (F0 : BSet) : ∃ c, Try.f39.body = some c ∧ Ref Try.prog 8 c (G0 w0 F0) body (fun _ _ _ => False) (fun _ _ _ _ => False) (fun r ρ w => ∃ s, retv s = r ∧ G1 w0 F0 s ρ w) := by
  refine ⟨_, rfl, ?_⟩; unfold body; refine Ref.seq (B := G0 w0 F0) ?_ ?_
  · refine Ref.region (fun s ρ w s' h hr => ?_); obtain ⟨F, hW, g1, h0, p1, h1⟩ := h; refine ol_a rfl ?_; exact ol_fin hr ⟨F, hW, g1, h0, p1, h1⟩
  refine Ref.seq (B := G1 w0 F0) ?_ ?_
  · refine Ref.region (fun s ρ w s' h hr => ?_); obtain ⟨F, hW, g1, h0, p1, h1⟩ := h; obtain ⟨v1, hl2, hs3⟩ := LiesV.sl h1.at_; refine ol_v (e_ld ty_24 hl2 p1) rfl ?_; refine ol_m h0 ?_; obtain ⟨x4, hx4, hr⟩ := bind_some' hr; refine ol_e (f_call [v1, .int .i64 s.n_0] fn_34 (lcons rfl (lcons rfl rfl)) (slices_Contains_int_int.calls hW.ok hs3 s.n_0 hx4)) rfl rfl ?_; rintro _ w5 ⟨Fz6, rfl, kw1⟩; have hW8 := hW.trans kw1; have st1 := kw1.stp hW.ok; refine ol_v (e_not_ rfl) rfl ?_; refine ol_a rfl ?_; exact ol_fin hr ⟨Fz6, hW8, rfl⟩
  exact Ref.ret (fun s ρ w h => ⟨s, rfl, h⟩)
def post (w : World) (F : BSet) (r : R) (v : Value) (w' : World) : Prop := ∃ (F' : BSet), v = .bool r ∧ Wk nrow w F F' w'
theorem calls {w : World} {F : BSet} (hok : ∀ b, F b → b < w.heap.size) (a0 : Int) {g1 : Nat} {a1 : (List Int)} (h1 : Lies (kSl (kInt .i64)) F w g1 0 a1) {r : R} (hf : f a0 a1 = some r) : Calls Try.prog 39 #[.int .i64 a0, .pointer (some ⟨g1, 0, none⟩)] w fun e w' => ∃ v, e = .returned v ∧ post w F r v w' := by
  obtain ⟨c, hc, href⟩ := ref w F; refine calls_of_ref (args := [.int .i64 a0, .pointer (some ⟨g1, 0, none⟩)]) _ Try.func39 hc rfl rfl href ?_ (retOf_some hf) ?_
  · exact ⟨F, Wk.refl hok, g1, rfl, rfl, h1⟩
  · rintro ρ w' a ⟨s, rfl, F', hW, h3⟩ hF; refine ⟨_, run_results (rs := [.tmp 3]) rfl hF (vs := [ρ 3]) (⟨_, rfl, rfl⟩), ?_⟩; have hv : resVal [ρ 3] = .bool s.t_3 := by rw [h3]; rfl
    exact ⟨F', hv, hW⟩
theorem fnv {w : World} {F : BSet} {g1 : Nat} {a1 : (List Int)} (h1 : Lies (kSl (kInt .i64)) F w g1 0 a1) : FnV Try.prog (ra1 (kInt .i64)) (fun r => (.bool r : Value)) F w (.func (.func 39) #[] #[.pointer (some ⟨g1, 0, none⟩)]) (fun x => f x a1) := by
  refine ⟨39, _, rfl, fn_39, fun F' W st ok vs x r hra hg => ?_⟩; obtain ⟨v0, rfl, k0⟩ := hra; obtain rfl := eqv_int k0; have e_ : ([.int .i64 x] : List Value).toArray ++ (#[.pointer (some ⟨g1, 0, none⟩)] : Array Value) = #[.int .i64 x, .pointer (some ⟨g1, 0, none⟩)] := by simp
  rw [e_]; refine (calls ok x (h1.keep st) hg).mono ?_; rintro e W' ⟨v, rfl, F'', rfl, hk⟩; exact ⟨_, rfl, rfl, F'', hk⟩
end
end trigram_Candidates_1

namespace trigram_Candidates
section
abbrev c1 (ρ : Env) (s : S) (X : Prop) : Prop := ρ 1 = .string s.part_1 ∧ X
abbrev c2 (ρ : Env) (g2 : Nat) (w0 w : World) (F : BSet) (s : S) (X : Prop) : Prop := ρ 2 = .pointer (some ⟨g2, 0, none⟩) ∧ Box k_TrigramIndex 27 (Bs w0 nrow) F w g2 s.x_2 ∧ X
abbrev c3 (ρ : Env) (g5 : Nat) (w0 w : World) (F : BSet) (s : S) (X : Prop) : Prop := ρ 5 = .pointer (some ⟨g5, 0, none⟩) ∧ Box k_Fault 29 (Bs w0 nrow) F w g5 s.t_5 ∧ X
abbrev e3 (ρ : Env) (g5 : Nat) (w0 w : World) (F : BSet) (s : S) : Prop := ρ 5 = .pointer (some ⟨g5, 0, none⟩) ∧ Box k_Fault 29 (Bs w0 nrow) F w g5 s.t_5
abbrev c4 (ρ : Env) (g6 : Nat) (w0 w : World) (F : BSet) (s : S) (X : Prop) : Prop := ρ 6 = .pointer (some ⟨g6, 0, none⟩) ∧ Box k_Fault 29 (Bs w0 nrow) F w g6 s.f_6 ∧ X
abbrev c9 (w0 w : World) (F : BSet) (ρ : Env) (s : S) (X : Prop) : Prop := OwnV (kInt .i64) 3 (Bs w0 nrow) F w (ρ 7) s.out_7 ∧ X
abbrev e10 (F : BSet) (w : World) (ρ : Env) (s : S) : Prop := SlR kStr F w (ρ 27) s.t_27 ∧ ρ 28 = .int .i64 s.t_28 ∧ ρ 29 = .int .i64 s.t_29
abbrev c13 (ρ : Env) (g10 : Nat) (w0 w : World) (F : BSet) (s : S) (X : Prop) : Prop := ρ 10 = .pointer (some ⟨g10, 0, none⟩) ∧ Box (kSl (kInt .i64)) 24 (Bs w0 nrow) F w g10 s.in_10 ∧ X
def G0 : GT S := fun w0 F0 s ρ w => ∃ F, Wk nrow w0 F0 F w ∧ Val k_TrigramIndex F w (ρ 0) s.x_0 ∧ ρ 1 = .string s.part_1
def G1 : GT S := fun w0 F0 s ρ w => ∃ F, Wk nrow w0 F0 F w ∧ ∃ g2 g5, c1 ρ s (c2 ρ g2 w0 w F s (e3 ρ g5 w0 w F s))
def G2 : GT S := fun w0 F0 s ρ w => ∃ F, Wk nrow w0 F0 F w ∧ ∃ g2 g5 g6, c1 ρ s (c2 ρ g2 w0 w F s (c3 ρ g5 w0 w F s (c4 ρ g6 w0 w F s (Apart (some g5) (some g6)))))
def G3 : GT S := fun w0 F0 s ρ w => ∃ F, Wk nrow w0 F0 F w ∧ ∃ g2 g5 g6, c1 ρ s (c2 ρ g2 w0 w F s (c3 ρ g5 w0 w F s (c4 ρ g6 w0 w F s (ρ 17 = .bool s.t_17 ∧ Apart (some g5) (some g6)))))
def G4 : GT S := fun w0 F0 s ρ w => ∃ F, Wk nrow w0 F0 F w ∧ ∃ g5 g6, c3 ρ g5 w0 w F s (c4 ρ g6 w0 w F s (Apart (some g5) (some g6)))
def G5 : GT S := fun w0 F0 s ρ w => ∃ F, Wk nrow w0 F0 F w ∧ ∃ g5, OwnV (kInt .i64) 3 (Bs w0 nrow) F w (ρ 4) s.t_4 ∧ e3 ρ g5 w0 w F s
def G6 : GT S := fun w0 F0 s ρ w => ∃ F, Wk nrow w0 F0 F w ∧ ∃ g2 g5, c1 ρ s (c2 ρ g2 w0 w F s (c3 ρ g5 w0 w F s (ρ 21 = .bool s.t_21)))
def G7 : GT S := fun w0 F0 s ρ w => ∃ F, Wk nrow w0 F0 F w ∧ ∃ g5, e3 ρ g5 w0 w F s
def G8 : GT S := fun w0 F0 s ρ w => ∃ F, Wk nrow w0 F0 F w ∧ ∃ g2 g5, c1 ρ s (c2 ρ g2 w0 w F s (c3 ρ g5 w0 w F s (OwnV (kInt .i64) 3 (Bs w0 nrow) F w (ρ 7) s.out_7)))
def G9 : GT S := fun w0 F0 s ρ w => ∃ F, Wk nrow w0 F0 F w ∧ ∃ g2 g5, c2 ρ g2 w0 w F s (c3 ρ g5 w0 w F s (c9 w0 w F ρ s (e10 F w ρ s)))
def G10 : GT S := fun w0 F0 s ρ w => ∃ F, Wk nrow w0 F0 F w ∧ ∃ g2 g5, c2 ρ g2 w0 w F s (c3 ρ g5 w0 w F s (c9 w0 w F ρ s (SlR kStr F w (ρ 27) s.t_27 ∧ ρ 28 = .int .i64 s.t_28 ∧ ρ 29 = .int .i64 s.t_29 ∧ ρ 30 = .bool s.t_30)))
def G11 : GT S := fun w0 F0 s ρ w => ∃ F, Wk nrow w0 F0 F w ∧ ∃ g5, c3 ρ g5 w0 w F s (OwnV (kInt .i64) 3 (Bs w0 nrow) F w (ρ 7) s.out_7)
def G12 : GT S := fun w0 F0 s ρ w => ∃ F, Wk nrow w0 F0 F w ∧ ∃ g2 g5, c2 ρ g2 w0 w F s (c3 ρ g5 w0 w F s (c9 w0 w F ρ s (ρ 9 = .string s.g_9 ∧ e10 F w ρ s)))
def G13 : GT S := fun w0 F0 s ρ w => ∃ F, Wk nrow w0 F0 F w ∧ ∃ g2 g5 g10, c2 ρ g2 w0 w F s (c3 ρ g5 w0 w F s (c9 w0 w F ρ s (ρ 9 = .string s.g_9 ∧ c13 ρ g10 w0 w F s (e10 F w ρ s))))
def G14 : GT S := fun w0 F0 s ρ w => ∃ F, Wk nrow w0 F0 F w ∧ ∃ g2 g5 g10, c2 ρ g2 w0 w F s (c3 ρ g5 w0 w F s (c9 w0 w F ρ s (c13 ρ g10 w0 w F s (ρ 11 = .int .i64 s.at_11 ∧ ρ 12 = .bool s.there_12 ∧ e10 F w ρ s))))
def G15 : GT S := fun w0 F0 s ρ w => ∃ F, Wk nrow w0 F0 F w ∧ ∃ g2 g5 g10, c2 ρ g2 w0 w F s (c3 ρ g5 w0 w F s (c9 w0 w F ρ s (c13 ρ g10 w0 w F s (ρ 11 = .int .i64 s.at_11 ∧ SlR kStr F w (ρ 27) s.t_27 ∧ ρ 28 = .int .i64 s.t_28 ∧ ρ 29 = .int .i64 s.t_29 ∧ ρ 39 = .bool s.t_39))))
def G16 : GT S := fun w0 F0 s ρ w => ∃ F, Wk nrow w0 F0 F w ∧ ∃ g2 g5 g10, c2 ρ g2 w0 w F s (c3 ρ g5 w0 w F s (c9 w0 w F ρ s (c13 ρ g10 w0 w F s (ρ 11 = .int .i64 s.at_11 ∧ e10 F w ρ s))))
def G17 : GT S := fun w0 F0 s ρ w => ∃ F, Wk nrow w0 F0 F w ∧ ∃ g2 g5 g10, c2 ρ g2 w0 w F s (c3 ρ g5 w0 w F s (c9 w0 w F ρ s (c13 ρ g10 w0 w F s (e10 F w ρ s))))
set_option maxHeartbeats 4000000 in
set_option maxRecDepth 20000 in
theorem ref (w0 : World) (F0 : BSet) : ∃ c, Try.f16.body = some c ∧ Ref Try.prog 52 c (G0 w0 F0) body (fun _ _ _ => False) (fun _ _ _ _ => False) (fun r ρ w => ∃ s, retv s = r ∧ G5 w0 F0 s ρ w) := by
  refine ⟨_, rfl, ?_⟩; unfold body; refine Ref.seq (B := G1 w0 F0) ?_ ?_
  · refine Ref.region (fun s ρ w s' h hr => ?_); obtain ⟨F, hW, h0, h1⟩ := h; refine ol_e (f_box hW rfl h0) rfl rfl ?_; rintro _ w2 ⟨g1, rfl, kw1, ho3⟩; have hW4 := hW.trans kw1; have st1 := kw1.stp hW.ok; refine ol_a rfl ?_; refine ol_e (f_alloc zer_29 hW4) rfl rfl ?_; rintro _ w6 ⟨g5, rfl, kw2, ho7⟩; have hW8 := hW4.trans kw2; have st2 := kw2.stp hW4.ok; exact ol_fin hr ⟨F, hW8, g1, g5, h1, rfl, ((ho3.base (row := nrow) hW.le).wk kw2 hW4.ok), rfl, (ho7.base (row := nrow) hW4.le)⟩
  refine Ref.seq (B := G1 w0 F0) ?_ ?_
  · refine Ref.seq (B := G2 w0 F0) ?_ ?_
    · refine Ref.region (fun s ρ w s' h hr => ?_); obtain ⟨F, hW, g2, g5, h1, p2, h2, p5, h5⟩ := h; obtain ⟨v9, hl10⟩ := LiesAt.v (h2).at_; refine ol_v (e_ld ty_27 hl10 p2) rfl ?_; obtain ⟨x11, hx11, hr⟩ := bind_some' hr; refine ol_e (f_call [v9] fn_15 (lcons rfl rfl) (trigram_Validate.calls hW.ok hl10.val hx11)) rfl rfl ?_; rintro v14 w12 ⟨Fz13, _, rfl, kw1, hk15⟩; have hW17 := hW.trans kw1; have st1 := kw1.stp hW.ok; refine ol_e (f_alloc zer_29 hW17) rfl rfl ?_; rintro _ w19 ⟨g18, rfl, kw2, ho20⟩; have hW21 := hW17.trans kw2; have st2 := kw2.stp hW17.ok; refine ol_eN (f_stB hW21 (ho20.base (row := nrow) hW17.le) (FldS.whole _) ty_29 (hk15.keep st2) rfl rfl) rfl ?_; rintro - w22 ⟨hW23, ho24, hg3, st3⟩; have z1 := (h2.wk kw1 hW.ok).wk kw2 hW17.ok; have z2 := h5.wk kw1 hW.ok; exact ol_fin hr ⟨Fz13, hW23, g2, g5, g18, h1, p2, (z1.mut (apart_bb (ho20.base (row := nrow) hW17.le) z1 rfl) hg3 st3), p5, ((z2.wk kw2 hW17.ok).mut (Apart.base (fun _ e_ => by cases e_; exact ho20.ge) z2.ltw) hg3 st3), rfl, ho24, (Apart.base (fun _ e_ => by cases e_; exact ho20.ge) z2.ltw).symm⟩
    refine Ref.seq (B := G3 w0 F0) ?_ ?_
    · refine Ref.region (fun s ρ w s' h hr => ?_); obtain ⟨F, hW, g2, g5, g6, h1, p2, h2, p5, h5, p6, h6, a5b_6b⟩ := h; obtain ⟨v25, hl26⟩ := LiesAt.v (h6).at_; refine ol_v (e_ld ty_29 hl26 p6) rfl ?_; refine ol_v (e_bld (cells := #[.int .i64 0, .int .i64 0]) bld_29 (vs := []) rfl rfl) rfl ?_; have hb27 : Val k_Fault F w (.agg #[.int .i64 0, .int .i64 0]) (⟨(0 : Int), (0 : Int)⟩ : Fault) := mk_Fault (val_int _ _) (val_int _ _); refine ol_v (e_tneq (eq_Fault_29 hl26.val hb27) rfl rfl) rfl ?_; exact ol_fin hr ⟨F, hW, g2, g5, g6, h1, p2, h2, p5, h5, p6, h6, rfl, a5b_6b⟩
    refine Ref.condP (b := fun s => s.t_17) (L := G4 w0 F0) (K := G1 w0 F0) ?_ ?_ ?_
    · rintro s ρ w ⟨F, hW, g2, g5, g6, h1, p2, h2, p5, h5, p6, h6, h17, a5b_6b⟩; exact ⟨h17, ⟨F, hW, g5, g6, p5, h5, p6, h6, a5b_6b⟩, F, hW, g2, g5, h1, p2, h2, p5, h5⟩
    · refine Ref.seq (B := G5 w0 F0) ?_ ?_
      · refine Ref.regionD 2 (by kernel_rfl) (by kernel_rfl) (fun s ρ w ⟨F, hW, g5, g6, p5, h5, p6, h6, a5b_6b⟩ => ⟨F, hW.drewS, g5, g6, p5, h5.wk (Wk.drew (row := nrow) hW.ok) hW.ok, p6, h6.wk (Wk.drew (row := nrow) hW.ok) hW.ok, a5b_6b⟩) (fun s ρ w s' h hr => ?_); obtain ⟨F, hW, g5, g6, p5, h5, p6, h6, a5b_6b⟩ := h; obtain ⟨v28, hl29⟩ := LiesAt.v (h6).at_; refine ol_v (e_ld ty_29 hl29 p6) rfl ?_; refine ol_a rfl ?_; refine ol_eN (f_stB hW h5 (FldS.whole _) ty_29 hl29.val p5 rfl) rfl ?_; rintro - w30 ⟨hW31, ho32, hg1, st1⟩; exact ol_fin hr ⟨F, hW31, g5, ((OwnV.nil (kInt .i64) 3 (Bs w0 nrow) F w).mut (apart_bo h5 (OwnV.nil (kInt .i64) 3 (Bs w0 nrow) F w) rfl) hg1 st1), p5, ho32⟩
      exact Ref.ret (fun s ρ w h => ⟨s, rfl, h⟩)
    · exact Ref.skip
  refine Ref.seq (B := G1 w0 F0) ?_ ?_
  · refine Ref.seq (B := G6 w0 F0) ?_ ?_
    · refine Ref.region (fun s ρ w s' h hr => ?_); obtain ⟨F, hW, g2, g5, h1, p2, h2, p5, h5⟩ := h; refine ol_m h1 ?_; refine ol_v (e_lenS (by kernel_rfl) rfl) rfl ?_; refine ol_v (e_gtr rfl rfl) rfl ?_; exact ol_fin hr ⟨F, hW, g2, g5, h1, p2, h2, p5, h5, rfl⟩
    refine Ref.condP (b := fun s => s.t_21) (L := G7 w0 F0) (K := G1 w0 F0) ?_ ?_ ?_
    · rintro s ρ w ⟨F, hW, g2, g5, h1, p2, h2, p5, h5, h21⟩; exact ⟨h21, ⟨F, hW, g5, p5, h5⟩, F, hW, g2, g5, h1, p2, h2, p5, h5⟩
    · refine Ref.seq (B := G5 w0 F0) ?_ ?_
      · refine Ref.region (fun s ρ w s' h hr => ?_); obtain ⟨F, hW, g5, p5, h5⟩ := h; refine ol_v (e_bld (cells := #[.int .i64 (10), .int .i64 (-1)]) bld_29 (vs := [(0, .int .i64 (10)), (1, .int .i64 (-1))]) (lcons (congrArg (Prod.mk 0) rfl) (lcons (congrArg (Prod.mk 1) rfl) rfl)) rfl) rfl ?_; have hb33 : Val k_Fault F w (.agg #[.int .i64 (10), .int .i64 (-1)]) (⟨(10 : Int), (-1 : Int)⟩ : Fault) := mk_Fault (val_int _ _) (val_int _ _); refine ol_a rfl ?_; refine ol_eN (f_stB hW h5 (FldS.whole _) ty_29 hb33 p5 rfl) rfl ?_; rintro - w34 ⟨hW35, ho36, hg1, st1⟩; exact ol_fin hr ⟨F, hW35, g5, ((OwnV.nil (kInt .i64) 3 (Bs w0 nrow) F w).mut (apart_bo h5 (OwnV.nil (kInt .i64) 3 (Bs w0 nrow) F w) rfl) hg1 st1), p5, ho36⟩
      exact Ref.ret (fun s ρ w h => ⟨s, rfl, h⟩)
    · exact Ref.skip
  refine Ref.seq (B := G8 w0 F0) ?_ ?_
  · refine Ref.region (fun s ρ w s' h hr => ?_); obtain ⟨F, hW, g2, g5, h1, p2, h2, p5, h5⟩ := h; refine ol_v (e_fa fa_27_0 p2) rfl ?_; obtain ⟨v37, hl38, hs39⟩ := LiesV.sl ((h2).at_.fld fl_TrigramIndex_0); refine ol_v (e_ld ty_24 hl38 rfl) rfl ?_; obtain ⟨x40, hx40, hr⟩ := bind_some' hr; refine ol_e (f_call [v37] fn_35 (lcons rfl rfl) (CloneI.calls hW.ok hs39 hx40)) rfl rfl ?_; rintro v43 w41 ⟨Fz42, _, rfl, kw1, hk44⟩; have hW46 := hW.trans kw1; have st1 := kw1.stp hW.ok; refine ol_a rfl ?_; exact ol_fin hr ⟨Fz42, hW46, g2, g5, h1, p2, (h2.wk kw1 hW.ok), p5, (h5.wk kw1 hW.ok), (hk44.base (row := nrow) hW.le)⟩
  refine Ref.seq (B := G11 w0 F0) ?_ ?_
  · refine Ref.seq (B := G9 w0 F0) ?_ ?_
    · refine Ref.region (fun s ρ w s' h hr => ?_); obtain ⟨F, hW, g2, g5, h1, p2, h2, p5, h5, h7⟩ := h; refine ol_m h1 ?_; obtain ⟨x47, hx47, hr⟩ := bind_some' hr; refine ol_e (f_call [.string s.part_1] fn_36 (lcons rfl rfl) (trigram_grams.calls hW.ok s.part_1 hx47)) rfl rfl ?_; rintro v50 w48 ⟨Fz49, _, rfl, kw1, hk51⟩; have hW53 := hW.trans kw1; have st1 := kw1.stp hW.ok; obtain ⟨Fz54, hWz55, st2, hF2, hz56⟩ := ((hk51.base (row := nrow) hW.le)).frozen hW53; obtain ⟨A57, c58, e59, hc60, R61⟩ := id hz56; refine ol_v (e_len (SlT.sl sl_22) e59) rfl ?_; refine ol_m rfl ?_; exact ol_fin hr ⟨Fz54, hWz55, g2, g5, p2, ((h2.wk kw1 hW.ok).frz (apart_bo (h2.wk kw1 hW.ok) (hk51.base (row := nrow) hW.le) rfl).symm hF2 st2), p5, ((h5.wk kw1 hW.ok).frz (apart_bo (h5.wk kw1 hW.ok) (hk51.base (row := nrow) hW.le) rfl).symm hF2 st2), ((h7.wk kw1 hW.ok).frz (apart_oo (hk51.base (row := nrow) hW.le) (h7.wk kw1 hW.ok) rfl) hF2 st2), hz56, rfl, rfl⟩
    refine Ref.block ?_; refine Ref.loop ?_; refine Ref.seq (B := G10 w0 F0) ?_ ?_
    · refine Ref.region (fun s ρ w s' h hr => ?_); obtain ⟨F, hW, g2, g5, p2, h2, p5, h5, h7, h27, h28, h29⟩ := h; refine ol_v (e_lss h29 h28) rfl ?_; exact ol_fin hr ⟨F, hW, g2, g5, p2, h2, p5, h5, h7, h27, h28, h29, rfl⟩
    refine Ref.seq (B := G9 w0 F0) ?_ ?_
    · refine Ref.condP (b := fun s => s.t_30) (L := G9 w0 F0) (K := G11 w0 F0) ?_ ?_ ?_
      · rintro s ρ w ⟨F, hW, g2, g5, p2, h2, p5, h5, h7, h27, h28, h29, h30⟩; exact ⟨h30, ⟨F, hW, g2, g5, p2, h2, p5, h5, h7, h27, h28, h29⟩, F, hW, g5, p5, h5, h7⟩
      · exact Ref.skip
      · exact Ref.exit (fun s ρ w h => h)
    refine Ref.seq (B := G9 w0 F0) ?_ ?_
    · refine Ref.block ?_; refine Ref.seq (B := G12 w0 F0) ?_ ?_
      · refine Ref.region (fun s ρ w s' h hr => ?_); obtain ⟨F, hW, g2, g5, p2, h2, p5, h5, h7, h27, h28, h29⟩ := h; obtain ⟨x62, hx62, hr⟩ := bind_some' hr; obtain ⟨A63, c64, e65, hc66, R67⟩ := id h27; obtain ⟨b68, o69, hA70, L71⟩ := Row.at_ R67 hx62; refine ol_v (e_ix (SlT.sl sl_22) (SlT.sz sl_22) hA70 hx62 e65 h29) rfl ?_; refine ol_v (e_ld ty_9 (LiesV.str L71.at_) rfl) rfl ?_; refine ol_a rfl ?_; exact ol_fin hr ⟨F, hW, g2, g5, p2, h2, p5, h5, h7, rfl, h27, h28, h29⟩
      refine Ref.seq (B := G13 w0 F0) ?_ ?_
      · refine Ref.region (fun s ρ w s' h hr => ?_); obtain ⟨F, hW, g2, g5, p2, h2, p5, h5, h7, h9, h27, h28, h29⟩ := h; refine ol_e (f_alloc zer_24 hW) rfl rfl ?_; rintro _ w73 ⟨g72, rfl, kw1, ho74⟩; have hW75 := hW.trans kw1; have st1 := kw1.stp hW.ok; exact ol_fin hr ⟨F, hW75, g2, g5, g72, p2, (h2.wk kw1 hW.ok), p5, (h5.wk kw1 hW.ok), (h7.wk kw1 hW.ok), h9, rfl, (ho74.base (row := nrow) hW.le), (h27.keep st1), h28, h29⟩
      refine Ref.seq (B := G17 w0 F0) ?_ ?_
      · refine Ref.seq (B := G14 w0 F0) ?_ ?_
        · refine Ref.region (fun s ρ w s' h hr => ?_); obtain ⟨F, hW, g2, g5, g10, p2, h2, p5, h5, h7, h9, p10, h10, h27, h28, h29⟩ := h; obtain ⟨v76, hl77⟩ := LiesAt.v (h2).at_; refine ol_v (e_ld ty_27 hl77 p2) rfl ?_; refine ol_m h9 ?_; obtain ⟨x78, hx78, hr⟩ := bind_some' hr; refine ol_e (f_call [v76, .string s.g_9] fn_37 (lcons rfl (lcons rfl rfl)) (trigram_find.calls hW.ok hl77.val s.g_9 hx78)) rfl rfl ?_; rintro _ w79 ⟨Fz80, rfl, kw1⟩; have hW82 := hW.trans kw1; have st1 := kw1.stp hW.ok; refine ol_m rfl ?_; refine ol_v (e_ext _ rfl rfl) rfl ?_; refine ol_v (e_ext _ rfl rfl) rfl ?_; refine ol_a rfl ?_; refine ol_a rfl ?_; exact ol_fin hr ⟨Fz80, hW82, g2, g5, g10, p2, (h2.wk kw1 hW.ok), p5, (h5.wk kw1 hW.ok), (h7.wk kw1 hW.ok), p10, (h10.wk kw1 hW.ok), rfl, rfl, (h27.keep st1), h28, h29⟩
        refine Ref.seq (B := G15 w0 F0) ?_ ?_
        · refine Ref.region (fun s ρ w s' h hr => ?_); obtain ⟨F, hW, g2, g5, g10, p2, h2, p5, h5, h7, p10, h10, h11, h12, h27, h28, h29⟩ := h; refine ol_m h12 ?_; exact ol_fin hr ⟨F, hW, g2, g5, g10, p2, h2, p5, h5, h7, p10, h10, h11, h27, h28, h29, rfl⟩
        refine Ref.condP (b := fun s => s.t_39) (L := G16 w0 F0) (K := G17 w0 F0) ?_ ?_ ?_
        · rintro s ρ w ⟨F, hW, g2, g5, g10, p2, h2, p5, h5, h7, p10, h10, h11, h27, h28, h29, h39⟩; exact ⟨h39, ⟨F, hW, g2, g5, g10, p2, h2, p5, h5, h7, p10, h10, h11, h27, h28, h29⟩, F, hW, g2, g5, g10, p2, h2, p5, h5, h7, p10, h10, h27, h28, h29⟩
        · refine Ref.region (fun s ρ w s' h hr => ?_); obtain ⟨F, hW, g2, g5, g10, p2, h2, p5, h5, h7, p10, h10, h11, h27, h28, h29⟩ := h; refine ol_v (e_fa fa_27_1 p2) rfl ?_; obtain ⟨v83, hl84, hs85⟩ := LiesV.sl ((h2).at_.fld fl_TrigramIndex_1); refine ol_v (e_ld ty_25 hl84 rfl) rfl ?_; refine ol_m h11 ?_; obtain ⟨x86, hx86, hr⟩ := bind_some' hr; obtain ⟨A87, c88, e89, hc90, R91⟩ := id hs85; obtain ⟨b92, o93, hA94, L95⟩ := Row.at_ R91 hx86; refine ol_v (e_ix (SlT.sl sl_25) (SlT.sz sl_25) hA94 hx86 e89 rfl) rfl ?_; refine ol_v (e_fa fa_55_1 rfl) rfl ?_; obtain ⟨v96, hl97, hs98⟩ := LiesV.sl (L95.fld fl_Posting_1).at_; refine ol_v (e_ld ty_24 hl97 rfl) rfl ?_; refine ol_eN (f_stB hW h10 (FldS.whole _) ty_24 (val_sl hs98) p10 rfl) rfl ?_; rintro - w99 ⟨hW100, ho101, hg1, st1⟩; exact ol_fin hr ⟨F, hW100, g2, g5, g10, p2, (h2.mut (apart_bb h10 h2 rfl) hg1 st1), p5, (h5.mut (apart_bb h10 h5 rfl) hg1 st1), (h7.mut (apart_bo h10 h7 rfl) hg1 st1), p10, ho101, (h27.keep st1), h28, h29⟩
        · exact Ref.skip
      refine Ref.region (fun s ρ w s' h hr => ?_); obtain ⟨F, hW, g2, g5, g10, p2, h2, p5, h5, h7, p10, h10, h27, h28, h29⟩ := h; refine ol_m rfl ?_; refine ol_v (e_mkf (xs := []) (us := []) rfl (lcons p10 rfl)) rfl ?_; obtain ⟨Fl102, okl102, stl102, hFl102, hl102⟩ := Box.lent h10 hW.ok; obtain ⟨x103, hx103, hr⟩ := bind_some' hr; refine ol_e (f_call [(ρ 7), .func (.func 39) #[] #[.pointer (some ⟨g10, 0, none⟩)]] fn_38 (lcons rfl (lcons rfl rfl)) (slices_DeleteFunc_int_int.calls okl102 (OwnV.rebase (h7.frz (apart_bo h10 h7 rfl) hFl102 stl102) (fun _ _ => trivial)) (val_fn (trigram_Candidates_1.fnv hl102)) hx103)) rfl rfl ?_; rintro v106 w104 ⟨Fz105, _, rfl, kw1, hk107⟩; have ko109 := kw1; have kw1 := kw1.lend hW.ok; have hB111 := fun g hg => (OwnV.lt h7 (g := g) hg).1; have st1 := kw1.stpR hW.ok (fun g hg => (OwnV.lt h7 hg).2.1); have hW110 := hW.transR kw1 hB111; refine ol_a rfl ?_; exact ol_fin hr ⟨F, hW110, g2, g5, p2, (h2.wkR (apart_bo h2 h7 rfl).symm kw1 st1), p5, (h5.wkR (apart_bo h5 h7 rfl).symm kw1 st1), ((OwnV.plainB (plain_int _) hk107 (fun b_ hb_ => ko109.mono b_ (stl102.mono _ hb_))).rebase (fun g_ hg_ => ((OwnV.plainB (plain_int _) hk107 (fun b_ hb_ => ko109.mono b_ (stl102.mono _ hb_))).lt hg_).1.elim (fun h_ => .inl (Nat.le_trans hW.le h_)) (fun h_ => hB111 g_ h_))), (h27.keep st1), h28, h29⟩
    refine Ref.region (fun s ρ w s' h hr => ?_); obtain ⟨F, hW, g2, g5, p2, h2, p5, h5, h7, h27, h28, h29⟩ := h; refine ol_v (e_add h29 rfl) rfl ?_; refine ol_m rfl ?_; exact ol_fin hr ⟨F, hW, g2, g5, p2, h2, p5, h5, h7, h27, h28, rfl⟩
  refine Ref.seq (B := G5 w0 F0) ?_ ?_
  · refine Ref.region (fun s ρ w s' h hr => ?_); obtain ⟨F, hW, g5, p5, h5, h7⟩ := h; refine ol_m rfl ?_; refine ol_v (e_bld (cells := #[.int .i64 0, .int .i64 0]) bld_29 (vs := []) rfl rfl) rfl ?_; have hb112 : Val k_Fault F w (.agg #[.int .i64 0, .int .i64 0]) (⟨(0 : Int), (0 : Int)⟩ : Fault) := mk_Fault (val_int _ _) (val_int _ _); refine ol_a rfl ?_; refine ol_eN (f_stB hW h5 (FldS.whole _) ty_29 hb112 p5 rfl) rfl ?_; rintro - w113 ⟨hW114, ho115, hg1, st1⟩; exact ol_fin hr ⟨F, hW114, g5, (h7.mut (apart_bo h5 h7 rfl) hg1 st1), p5, ho115⟩
  exact Ref.ret (fun s ρ w h => ⟨s, rfl, h⟩)
def post (w : World) (F : BSet) (r : R) (v : Value) (w' : World) : Prop := ∃ (F' : BSet) (v0' : Value) (v1' : Value), v = .tuple #[v0', v1'] ∧ Wk nrow w F F' w' ∧ OwnV (kInt .i64) 3 (Nw w) F' w' v0' r.1 ∧ Val k_Fault F' w' v1' r.2
theorem calls {w : World} {F : BSet} (hok : ∀ b, F b → b < w.heap.size) {v0 : Value} {a0 : TrigramIndex} (h0 : Val k_TrigramIndex F w v0 a0) (a1 : ByteArray) {r : R} (hf : f a0 a1 = some r) : Calls Try.prog 16 #[v0, .string a1] w fun e w' => ∃ v, e = .returned v ∧ post w F r v w' := by
  obtain ⟨c, hc, href⟩ := ref w F; refine calls_of_ref (args := [v0, .string a1]) _ Try.func16 hc rfl rfl href ?_ (retOf_some hf) ?_
  · exact ⟨F, Wk.refl hok, h0, rfl⟩
  · rintro ρ w' a ⟨s, rfl, F', hW, g5, h4, p5, h5⟩ hF; obtain ⟨u5, l5, k5⟩ := res_box (P := Try.prog) ty_29 h5; refine ⟨_, run_results (rs := [.tmp 4, .cell 5 29]) rfl hF (vs := [ρ 4, u5]) (⟨_, rfl, ⟨_, _, _, rfl, p5, l5, rfl⟩⟩), ?_⟩; exact ⟨F', ρ 4, u5, rfl, hW, h4.rebase (fun g hg => (h4.lt hg).1.resolve_right (fun h => h)), k5⟩
end
end trigram_Candidates

end Go.Proofs.Ytoiafcpnhhplnaa
