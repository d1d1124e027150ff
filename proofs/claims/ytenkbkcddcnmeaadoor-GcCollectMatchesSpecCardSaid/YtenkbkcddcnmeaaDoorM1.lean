/- The machine's calls come to these plain functions (written by a program, wip/fx/gen.py). -/
import Derived.Test.YtenkbkcddcnmeaaDoorPA
import Derived.Test.YtenkbkcddcnmeaaDoorNm
import Derived.Test.YtenkbkcddcnmeaaDoorM0
import Derived.Test.YtenkbkcddcnmeaaDoorSl
import Derived.Test.YtenkbkcddcnmeaaDoorIn
import Derived.Test.YtenkbkcddcnmeaaDoorIt
import Derived.Test.YtenkbkcddcnmeaaDoorFx17
namespace Go.Proofs.YtenkbkcddcnmeaaDoor
open Go.Fx Go.RowKit
set_option linter.unusedVariables false

namespace refs_target
section
def G0 : GT S := fun w0 F0 s ρ w => ∃ F, Wk nrow w0 F0 F w ∧ ρ 0 = .int .i64 s.d_0
def G1 : GT S := fun w0 F0 s ρ w => ∃ F, Wk nrow w0 F0 F w ∧ ρ 2 = .bool s.t_2
set_option maxHeartbeats 4000000 in
set_option maxRecDepth 20000 in
theorem ref (w0 : World) (F0 : BSet) : ∃ c, Tryd.f44.body = some c ∧ Ref Tryd.prog 9 c (G0 w0 F0) body (fun _ _ _ => False) (fun _ _ _ _ => False) (fun r ρ w => ∃ s, retv s = r ∧ G1 w0 F0 s ρ w) := by
  refine ⟨_, rfl, ?_⟩; unfold body; refine Ref.seq (B := G0 w0 F0) ?_ ?_
  · refine Ref.region (fun s ρ w s' h hr => ?_); obtain ⟨F, hW, h0⟩ := h; refine ol_a rfl ?_; exact ol_fin hr ⟨F, hW, h0⟩
  refine Ref.seq (B := G1 w0 F0) ?_ ?_
  · refine Ref.region (fun s ρ w s' h hr => ?_); obtain ⟨F, hW, h0⟩ := h; refine ol_m h0 ?_; refine ol_v (e_geq rfl rfl) rfl ?_; refine ol_cutA 4 5 8 (fun ρ' w' => w = w' ∧ ρ' 8 = .bool ((decide ((0 : Int) ≤ s.d_0)) && (decide (s.d_0 < (2305843009213693951 : Int))))) rfl ?_ ?_
    · by_cases hb1 : (decide ((0 : Int) ≤ s.d_0)) = true
      · refine ol_m rfl ?_; refine ol_yes rfl rfl (congrArg Value.bool hb1) ?_; refine ol_m h0 ?_; refine ol_yes rfl rfl (congrArg Value.bool hb1) ?_; refine ol_v (e_lss rfl rfl) rfl ?_; refine ol_v (e_pick true _ (congrArg Value.bool hb1) rfl) rfl ?_; exact ol_nil ⟨⟨rfl, (bv_and_t hb1)⟩, (Agr.refl _ _ _).u.u.u.u⟩
      · have hb2 := Bool.eq_false_iff.mpr hb1; refine ol_m rfl ?_; refine ol_not rfl rfl rfl (congrArg Value.bool hb2) rfl ?_; refine ol_not rfl rfl rfl (congrArg Value.bool hb2) rfl ?_; refine ol_v (e_pick false _ (congrArg Value.bool hb2) rfl) rfl ?_; exact ol_nil ⟨⟨rfl, (bv_and_f hb2)⟩, (Agr.refl _ _ _).u.u.u.u⟩
    rintro ρ3 _ ⟨⟨rfl, hp3⟩, hAg3⟩; refine ol_a hp3 ?_; exact ol_fin hr ⟨F, hW, rfl⟩
  exact Ref.ret (fun s ρ w h => ⟨s, rfl, h⟩)
def post (w : World) (F : BSet) (r : R) (v : Value) (w' : World) : Prop := ∃ (F' : BSet), v = .bool r ∧ Wk nrow w F F' w'
theorem calls {w : World} {F : BSet} (hok : ∀ b, F b → b < w.heap.size) (a0 : Int) {r : R} (hf : f a0 = some r) : Calls Tryd.prog 44 #[.int .i64 a0] w fun e w' => ∃ v, e = .returned v ∧ post w F r v w' := by
  obtain ⟨c, hc, href⟩ := ref w F; refine calls_of_ref (args := [.int .i64 a0]) _ Tryd.func44 hc rfl rfl href ?_ (retOf_some hf) ?_
  · exact ⟨F, Wk.refl hok, rfl⟩
  · rintro ρ w' a ⟨s, rfl, F', hW, h2⟩ hF; refine ⟨_, run_results (rs := [.tmp 2]) rfl hF (vs := [ρ 2]) (⟨_, rfl, rfl⟩), ?_⟩; have hv : resVal [ρ 2] = .bool s.t_2 := by rw [h2]; rfl
    exact ⟨F', hv, hW⟩
end
end refs_target

namespace slices_IndexFunc_api_Ref_api_Ref
section
abbrev c0 (F : BSet) (w : World) (ρ : Env) (s : S) (X : Prop) : Prop := SlR k_RefTy F w (ρ 0) s.s_0 ∧ Val (kFn Tryd.prog (ra1 k_RefTy) (fun r => (.bool r : Value))) F w (ρ 1) s.f_1 ∧ X
def G0 : GT S := fun w0 F0 s ρ w => ∃ F, Wk nrow w0 F0 F w ∧ SlR k_RefTy F w (ρ 0) s.s_0 ∧ Val (kFn Tryd.prog (ra1 k_RefTy) (fun r => (.bool r : Value))) F w (ρ 1) s.f_1
def G1 : GT S := fun w0 F0 s ρ w => ∃ F, Wk nrow w0 F0 F w ∧ c0 F w ρ s (ρ 7 = .int .i64 s.t_7 ∧ ρ 8 = .int .i64 s.t_8)
def G2 : GT S := fun w0 F0 s ρ w => ∃ F, Wk nrow w0 F0 F w ∧ c0 F w ρ s (ρ 7 = .int .i64 s.t_7 ∧ ρ 8 = .int .i64 s.t_8 ∧ ρ 9 = .bool s.t_9)
def G3 : GT S := fun w0 F0 s ρ w => ∃ F, Wk nrow w0 F0 F w
def G4 : GT S := fun w0 F0 s ρ w => ∃ F, Wk nrow w0 F0 F w ∧ c0 F w ρ s (ρ 5 = .int .i64 s.i_5 ∧ ρ 7 = .int .i64 s.t_7 ∧ ρ 8 = .int .i64 s.t_8)
def G5 : GT S := fun w0 F0 s ρ w => ∃ F, Wk nrow w0 F0 F w ∧ c0 F w ρ s (ρ 5 = .int .i64 s.i_5 ∧ ρ 7 = .int .i64 s.t_7 ∧ ρ 8 = .int .i64 s.t_8 ∧ ρ 16 = .bool s.t_16)
def G6 : GT S := fun w0 F0 s ρ w => ∃ F, Wk nrow w0 F0 F w ∧ ρ 5 = .int .i64 s.i_5
def G7 : GT S := fun w0 F0 s ρ w => ∃ F, Wk nrow w0 F0 F w ∧ ρ 4 = .int .i64 s.t_4
set_option maxHeartbeats 4000000 in
set_option maxRecDepth 20000 in
theorem ref (w0 : World) (F0 : BSet) : ∃ c, Tryd.f68.body = some c ∧ Ref Tryd.prog 19 c (G0 w0 F0) body (fun _ _ _ => False) (fun _ _ _ _ => False) (fun r ρ w => ∃ s, retv s = r ∧ G7 w0 F0 s ρ w) := by
  refine ⟨_, rfl, ?_⟩; unfold body; refine Ref.seq (B := G0 w0 F0) ?_ ?_
  · refine Ref.region (fun s ρ w s' h hr => ?_); obtain ⟨F, hW, h0, h1⟩ := h; refine ol_a rfl ?_; exact ol_fin hr ⟨F, hW, h0, h1⟩
  refine Ref.seq (B := G3 w0 F0) ?_ ?_
  · refine Ref.seq (B := G1 w0 F0) ?_ ?_
    · refine Ref.region (fun s ρ w s' h hr => ?_); obtain ⟨F, hW, h0, h1⟩ := h; refine ol_m rfl ?_; obtain ⟨A1, c2, e3, hc4, R5⟩ := id h0; refine ol_v (e_len (SlT.sl sl_25) e3) rfl ?_; refine ol_m rfl ?_; exact ol_fin hr ⟨F, hW, h0, h1, rfl, rfl⟩
    refine Ref.block ?_; refine Ref.loop ?_; refine Ref.seq (B := G2 w0 F0) ?_ ?_
    · refine Ref.region (fun s ρ w s' h hr => ?_); obtain ⟨F, hW, h0, h1, h7, h8⟩ := h; refine ol_v (e_lss h8 h7) rfl ?_; exact ol_fin hr ⟨F, hW, h0, h1, h7, h8, rfl⟩
    refine Ref.seq (B := G1 w0 F0) ?_ ?_
    · refine Ref.condP (b := fun s => s.t_9) (L := G1 w0 F0) (K := G3 w0 F0) ?_ ?_ ?_
      · rintro s ρ w ⟨F, hW, h0, h1, h7, h8, h9⟩; exact ⟨h9, ⟨F, hW, h0, h1, h7, h8⟩, F, hW⟩
      · exact Ref.skip
      · exact Ref.exit (fun s ρ w h => h)
    refine Ref.seq (B := G1 w0 F0) ?_ ?_
    · refine Ref.block ?_; refine Ref.seq (B := G4 w0 F0) ?_ ?_
      · refine Ref.region (fun s ρ w s' h hr => ?_); obtain ⟨F, hW, h0, h1, h7, h8⟩ := h; refine ol_m h8 ?_; refine ol_a rfl ?_; exact ol_fin hr ⟨F, hW, h0, h1, rfl, h7, h8⟩
      refine Ref.seq (B := G5 w0 F0) ?_ ?_
      · refine Ref.region (fun s ρ w s' h hr => ?_); obtain ⟨F, hW, h0, h1, h5, h7, h8⟩ := h; refine ol_m rfl ?_; refine ol_m rfl ?_; refine ol_m h5 ?_; obtain ⟨x6, hx6, hr⟩ := bind_some' hr; obtain ⟨A7, c8, e9, hc10, R11⟩ := id h0; obtain ⟨b12, o13, hA14, L15⟩ := Row.at_ R11 hx6; refine ol_v (e_ix (SlT.sl sl_25) (SlT.sz sl_25) hA14 hx6 e9 rfl) rfl ?_; obtain ⟨v17, hl18⟩ := LiesAt.v L15.at_; refine ol_v (e_ld ty_65 hl18 rfl) rfl ?_; obtain ⟨x19, hx19, hr⟩ := bind_some' hr; refine ol_e (f_callV [v17] h1 hW.ok rfl (lcons rfl rfl) ⟨_, rfl, hl18.val⟩ hx19) rfl rfl ?_; rintro _ w20 ⟨rfl, kw1⟩; have hW21 := hW.trans kw1; have st1 := kw1.stp hW.ok; exact ol_fin hr ⟨F, hW21, (h0.keep st1), (h1.keep st1), h5, h7, h8, rfl⟩
      refine Ref.condP (b := fun s => s.t_16) (L := G6 w0 F0) (K := G1 w0 F0) ?_ ?_ ?_
      · rintro s ρ w ⟨F, hW, h0, h1, h5, h7, h8, h16⟩; exact ⟨h16, ⟨F, hW, h5⟩, F, hW, h0, h1, h7, h8⟩
      · refine Ref.seq (B := G7 w0 F0) ?_ ?_
        · refine Ref.region (fun s ρ w s' h hr => ?_); obtain ⟨F, hW, h5⟩ := h; refine ol_m h5 ?_; refine ol_a rfl ?_; exact ol_fin hr ⟨F, hW, rfl⟩
        exact Ref.ret (fun s ρ w h => ⟨s, rfl, h⟩)
      · exact Ref.skip
    refine Ref.region (fun s ρ w s' h hr => ?_); obtain ⟨F, hW, h0, h1, h7, h8⟩ := h; refine ol_v (e_add h8 rfl) rfl ?_; refine ol_m rfl ?_; exact ol_fin hr ⟨F, hW, h0, h1, h7, rfl⟩
  refine Ref.seq (B := G7 w0 F0) ?_ ?_
  · refine Ref.region (fun s ρ w s' h hr => ?_); obtain ⟨F, hW⟩ := h; refine ol_a rfl ?_; exact ol_fin hr ⟨F, hW, rfl⟩
  exact Ref.ret (fun s ρ w h => ⟨s, rfl, h⟩)
def post (w : World) (F : BSet) (r : R) (v : Value) (w' : World) : Prop := ∃ (F' : BSet), v = .int .i64 r ∧ Wk nrow w F F' w'
theorem calls {w : World} {F : BSet} (hok : ∀ b, F b → b < w.heap.size) {v0 : Value} {a0 : (List RefTy)} (h0 : SlR k_RefTy F w v0 a0) {v1 : Value} {a1 : (RefTy → Option Bool)} (h1 : Val (kFn Tryd.prog (ra1 k_RefTy) (fun r => (.bool r : Value))) F w v1 a1) {r : R} (hf : f a0 a1 = some r) : Calls Tryd.prog 68 #[v0, v1] w fun e w' => ∃ v, e = .returned v ∧ post w F r v w' := by
  obtain ⟨c, hc, href⟩ := ref w F; refine calls_of_ref (args := [v0, v1]) _ Tryd.func68 hc rfl rfl href ?_ (retOf_some hf) ?_
  · exact ⟨F, Wk.refl hok, h0, h1⟩
  · rintro ρ w' a ⟨s, rfl, F', hW, h4⟩ hF; refine ⟨_, run_results (rs := [.tmp 4]) rfl hF (vs := [ρ 4]) (⟨_, rfl, rfl⟩), ?_⟩; have hv : resVal [ρ 4] = .int .i64 s.t_4 := by rw [h4]; rfl
    exact ⟨F', hv, hW⟩
end
end slices_IndexFunc_api_Ref_api_Ref

namespace slices_ContainsFunc_api_Ref_api_Ref
section
def G0 : GT S := fun w0 F0 s ρ w => ∃ F, Wk nrow w0 F0 F w ∧ SlR k_RefTy F w (ρ 0) s.s_0 ∧ Val (kFn Tryd.prog (ra1 k_RefTy) (fun r => (.bool r : Value))) F w (ρ 1) s.f_1
def G1 : GT S := fun w0 F0 s ρ w => ∃ F, Wk nrow w0 F0 F w ∧ ρ 4 = .bool s.t_4
set_option maxHeartbeats 4000000 in
set_option maxRecDepth 20000 in
theorem ref (w0 : World) (F0 : BSet) : ∃ c, Tryd.f45.body = some c ∧ Ref Tryd.prog 9 c (G0 w0 F0) body (fun _ _ _ => False) (fun _ _ _ _ => False) (fun r ρ w => ∃ s, retv s = r ∧ G1 w0 F0 s ρ w) := by
  refine ⟨_, rfl, ?_⟩; unfold body; refine Ref.seq (B := G0 w0 F0) ?_ ?_
  · refine Ref.region (fun s ρ w s' h hr => ?_); obtain ⟨F, hW, h0, h1⟩ := h; refine ol_a rfl ?_; exact ol_fin hr ⟨F, hW, h0, h1⟩
  refine Ref.seq (B := G1 w0 F0) ?_ ?_
  · refine Ref.region (fun s ρ w s' h hr => ?_); obtain ⟨F, hW, h0, h1⟩ := h; refine ol_m rfl ?_; refine ol_m rfl ?_; obtain ⟨x1, hx1, hr⟩ := bind_some' hr; refine ol_e (f_call [(ρ 0), (ρ 1)] fn_68 (lcons rfl (lcons rfl rfl)) (slices_IndexFunc_api_Ref_api_Ref.calls hW.ok h0 h1 hx1)) rfl rfl ?_; rintro _ w2 ⟨Fz3, rfl, kw1⟩; have hW5 := hW.trans kw1; have st1 := kw1.stp hW.ok; refine ol_v (e_geq rfl rfl) rfl ?_; refine ol_a rfl ?_; exact ol_fin hr ⟨Fz3, hW5, rfl⟩
  exact Ref.ret (fun s ρ w h => ⟨s, rfl, h⟩)
def post (w : World) (F : BSet) (r : R) (v : Value) (w' : World) : Prop := ∃ (F' : BSet), v = .bool r ∧ Wk nrow w F F' w'
theorem calls {w : World} {F : BSet} (hok : ∀ b, F b → b < w.heap.size) {v0 : Value} {a0 : (List RefTy)} (h0 : SlR k_RefTy F w v0 a0) {v1 : Value} {a1 : (RefTy → Option Bool)} (h1 : Val (kFn Tryd.prog (ra1 k_RefTy) (fun r => (.bool r : Value))) F w v1 a1) {r : R} (hf : f a0 a1 = some r) : Calls Tryd.prog 45 #[v0, v1] w fun e w' => ∃ v, e = .returned v ∧ post w F r v w' := by
  obtain ⟨c, hc, href⟩ := ref w F; refine calls_of_ref (args := [v0, v1]) _ Tryd.func45 hc rfl rfl href ?_ (retOf_some hf) ?_
  · exact ⟨F, Wk.refl hok, h0, h1⟩
  · rintro ρ w' a ⟨s, rfl, F', hW, h4⟩ hF; refine ⟨_, run_results (rs := [.tmp 4]) rfl hF (vs := [ρ 4]) (⟨_, rfl, rfl⟩), ?_⟩; have hv : resVal [ρ 4] = .bool s.t_4 := by rw [h4]; rfl
    exact ⟨F', hv, hW⟩
end
end slices_ContainsFunc_api_Ref_api_Ref

namespace refs_within
section
def G0 : GT S := fun w0 F0 s ρ w => ∃ F, Wk nrow w0 F0 F w ∧ ρ 0 = .string s.a_0 ∧ ρ 1 = .string s.b_1
def G1 : GT S := fun w0 F0 s ρ w => ∃ F, Wk nrow w0 F0 F w ∧ ρ 4 = .bool s.t_4
set_option maxHeartbeats 4000000 in
set_option maxRecDepth 20000 in
theorem ref (w0 : World) (F0 : BSet) : ∃ c, Tryd.f47.body = some c ∧ Ref Tryd.prog 15 c (G0 w0 F0) body (fun _ _ _ => False) (fun _ _ _ _ => False) (fun r ρ w => ∃ s, retv s = r ∧ G1 w0 F0 s ρ w) := by
  refine ⟨_, rfl, ?_⟩; unfold body; refine Ref.seq (B := G0 w0 F0) ?_ ?_
  · refine Ref.region (fun s ρ w s' h hr => ?_); obtain ⟨F, hW, h0, h1⟩ := h; refine ol_a rfl ?_; exact ol_fin hr ⟨F, hW, h0, h1⟩
  refine Ref.seq (B := G1 w0 F0) ?_ ?_
  · refine Ref.region (fun s ρ w s' h hr => ?_); obtain ⟨F, hW, h0, h1⟩ := h; refine ol_m h1 ?_; refine ol_m h0 ?_; obtain ⟨x1, hx1, hr⟩ := bind_some' hr; refine ol_v (e_catS rfl rfl hx1) rfl ?_; obtain ⟨x2, hx2, hr⟩ := bind_some' hr; refine ol_e (f_call [.string s.b_1, .string x1] fn_69 (lcons rfl (lcons rfl rfl)) (HasPrefixS.calls hW.ok s.b_1 x1 hx2)) rfl rfl ?_; rintro _ w3 ⟨Fz4, rfl, kw1⟩; have hW6 := hW.trans kw1; have st1 := kw1.stp hW.ok; obtain ⟨x15, hx16, hr⟩ := bind_some' hr; refine ol_cutA 6 9 14 (fun ρ' w' => ∃ F', Wk nrow w3 Fz4 F' w' ∧ ρ' 14 = .bool x15) rfl ?_ ?_
    · by_cases hb7 : x2 = true
      · have hr := hx16; rw [if_pos hb7] at hr; refine ol_m rfl ?_; refine ol_not rfl rfl rfl (congrArg Value.bool hb7) rfl ?_; refine ol_not rfl rfl rfl (congrArg Value.bool hb7) rfl ?_; refine ol_not rfl rfl rfl (congrArg Value.bool hb7) rfl ?_; refine ol_not rfl rfl rfl (congrArg Value.bool hb7) rfl ?_; refine ol_v (e_pick true _ (congrArg Value.bool hb7) rfl) rfl ?_; exact ol_nil ⟨⟨_, Wk.refl hW6.ok, (congrArg Value.bool (Option.some.inj hr))⟩, (Agr.refl _ _ _).u.u.u.u.u.u⟩
      · have hb8 := Bool.eq_false_iff.mpr hb7; have hr := hx16; rw [if_neg hb7] at hr; refine ol_m rfl ?_; refine ol_yes rfl rfl (congrArg Value.bool hb8) ?_; refine ol_m h0 ?_; refine ol_yes rfl rfl (congrArg Value.bool hb8) ?_; refine ol_m h1 ?_; refine ol_yes rfl rfl (congrArg Value.bool hb8) ?_; obtain ⟨x9, hx9, hr⟩ := bind_some' hr; refine ol_v (e_catS rfl rfl hx9) rfl ?_; refine ol_yes rfl rfl (congrArg Value.bool hb8) ?_; obtain ⟨x10, hx10, hr⟩ := bind_some' hr; refine ol_e (f_call [.string s.a_0, .string x9] fn_69 (lcons rfl (lcons rfl rfl)) (HasPrefixS.calls hW6.ok s.a_0 x9 hx10)) rfl rfl ?_; rintro _ w11 ⟨Fz12, rfl, kw2⟩; have hW14 := hW6.trans kw2; have st2 := kw2.stp hW6.ok; refine ol_v (e_pick false _ (congrArg Value.bool hb8) rfl) rfl ?_; exact ol_nil ⟨⟨_, kw2, (congrArg Value.bool (Option.some.inj hr))⟩, (Agr.refl _ _ _).u.u.u.u.u.u⟩
    rintro ρ16 w17 ⟨⟨Fz18, kw2, hp16⟩, hAg16⟩; have hW19 := hW6.trans kw2; have st2 := kw2.stp hW6.ok; refine ol_a hp16 ?_; exact ol_fin hr ⟨Fz18, hW19, rfl⟩
  exact Ref.ret (fun s ρ w h => ⟨s, rfl, h⟩)
def post (w : World) (F : BSet) (r : R) (v : Value) (w' : World) : Prop := ∃ (F' : BSet), v = .bool r ∧ Wk nrow w F F' w'
theorem calls {w : World} {F : BSet} (hok : ∀ b, F b → b < w.heap.size) (a0 : ByteArray) (a1 : ByteArray) {r : R} (hf : f a0 a1 = some r) : Calls Tryd.prog 47 #[.string a0, .string a1] w fun e w' => ∃ v, e = .returned v ∧ post w F r v w' := by
  obtain ⟨c, hc, href⟩ := ref w F; refine calls_of_ref (args := [.string a0, .string a1]) _ Tryd.func47 hc rfl rfl href ?_ (retOf_some hf) ?_
  · exact ⟨F, Wk.refl hok, rfl, rfl⟩
  · rintro ρ w' a ⟨s, rfl, F', hW, h4⟩ hF; refine ⟨_, run_results (rs := [.tmp 4]) rfl hF (vs := [ρ 4]) (⟨_, rfl, rfl⟩), ?_⟩; have hv : resVal [ρ 4] = .bool s.t_4 := by rw [h4]; rfl
    exact ⟨F', hv, hW⟩
end
end refs_within

namespace refs_Validate_1
section
def G0 : GT S := fun w0 F0 s ρ w => ∃ F, Wk nrow w0 F0 F w ∧ ∃ g1, Val k_RefTy F w (ρ 0) s.o_0 ∧ ρ 1 = .pointer (some ⟨g1, 0, none⟩) ∧ Lies k_RefTy F w g1 0 s.t_1
def G1 : GT S := fun w0 F0 s ρ w => ∃ F, Wk nrow w0 F0 F w ∧ ∃ g1 g2, ρ 1 = .pointer (some ⟨g1, 0, none⟩) ∧ Lies k_RefTy F w g1 0 s.t_1 ∧ ρ 2 = .pointer (some ⟨g2, 0, none⟩) ∧ Box k_RefTy 65 (Bs w0 nrow) F w g2 s.o_2
def G2 : GT S := fun w0 F0 s ρ w => ∃ F, Wk nrow w0 F0 F w ∧ ρ 3 = .bool s.t_3
set_option maxHeartbeats 4000000 in
set_option maxRecDepth 20000 in
theorem ref (w0 : World) (F0 : BSet) : ∃ c, Tryd.f46.body = some c ∧ Ref Tryd.prog 9 c (G0 w0 F0) body (fun _ _ _ => False) (fun _ _ _ _ => False) (fun r ρ w => ∃ s, retv s = r ∧ G2 w0 F0 s ρ w) := by
  refine ⟨_, rfl, ?_⟩; unfold body; refine Ref.seq (B := G1 w0 F0) ?_ ?_
  · refine Ref.region (fun s ρ w s' h hr => ?_); obtain ⟨F, hW, g1, h0, p1, h1⟩ := h; refine ol_e (f_box hW rfl h0) rfl rfl ?_; rintro _ w5 ⟨g4, rfl, kw1, ho6⟩; have hW7 := hW.trans kw1; have st1 := kw1.stp hW.ok; refine ol_a rfl ?_; exact ol_fin hr ⟨F, hW7, g1, g4, p1, (h1.keep st1), rfl, (ho6.base (row := nrow) hW.le)⟩
  refine Ref.seq (B := G2 w0 F0) ?_ ?_
  · refine Ref.region (fun s ρ w s' h hr => ?_); obtain ⟨F, hW, g1, g2, p1, h1, p2, h2⟩ := h; refine ol_v (e_fa fa_65_0 p2) rfl ?_; refine ol_v (e_ld ty_9 (LiesV.str ((h2).at_.fld fl_RefTy_0)) rfl) rfl ?_; refine ol_v (e_fa fa_65_0 p1) rfl ?_; refine ol_v (e_ld ty_9 (LiesV.str (h1.fld fl_RefTy_0).at_) rfl) rfl ?_; obtain ⟨x8, hx8, hr⟩ := bind_some' hr; refine ol_e (f_call [.string s.o_2.Name, .string s.t_1.Name] fn_47 (lcons rfl (lcons rfl rfl)) (refs_within.calls hW.ok s.o_2.Name s.t_1.Name hx8)) rfl rfl ?_; rintro _ w9 ⟨Fz10, rfl, kw1⟩; have hW12 := hW.trans kw1; have st1 := kw1.stp hW.ok; refine ol_a rfl ?_; exact ol_fin hr ⟨Fz10, hW12, rfl⟩
  exact Ref.ret (fun s ρ w h => ⟨s, rfl, h⟩)
def post (w : World) (F : BSet) (r : R) (v : Value) (w' : World) : Prop := ∃ (F' : BSet), v = .bool r ∧ Wk nrow w F F' w'
theorem calls {w : World} {F : BSet} (hok : ∀ b, F b → b < w.heap.size) {v0 : Value} {a0 : RefTy} (h0 : Val k_RefTy F w v0 a0) {g1 : Nat} {a1 : RefTy} (h1 : Lies k_RefTy F w g1 0 a1) {r : R} (hf : f a0 a1 = some r) : Calls Tryd.prog 46 #[v0, .pointer (some ⟨g1, 0, none⟩)] w fun e w' => ∃ v, e = .returned v ∧ post w F r v w' := by
  obtain ⟨c, hc, href⟩ := ref w F; refine calls_of_ref (args := [v0, .pointer (some ⟨g1, 0, none⟩)]) _ Tryd.func46 hc rfl rfl href ?_ (retOf_some hf) ?_
  · exact ⟨F, Wk.refl hok, g1, h0, rfl, h1⟩
  · rintro ρ w' a ⟨s, rfl, F', hW, h3⟩ hF; refine ⟨_, run_results (rs := [.tmp 3]) rfl hF (vs := [ρ 3]) (⟨_, rfl, rfl⟩), ?_⟩; have hv : resVal [ρ 3] = .bool s.t_3 := by rw [h3]; rfl
    exact ⟨F', hv, hW⟩
theorem fnv {w : World} {F : BSet} {g1 : Nat} {a1 : RefTy} (h1 : Lies k_RefTy F w g1 0 a1) : FnV Tryd.prog (ra1 k_RefTy) (fun r => (.bool r : Value)) F w (.func (.func 46) #[] #[.pointer (some ⟨g1, 0, none⟩)]) (fun x => f x a1) := by
  refine ⟨46, _, rfl, fn_46, fun F' W st ok vs x r hra hg => ?_⟩; obtain ⟨v0, rfl, k0⟩ := hra; have e_ : ([v0] : List Value).toArray ++ (#[.pointer (some ⟨g1, 0, none⟩)] : Array Value) = #[v0, .pointer (some ⟨g1, 0, none⟩)] := by simp
  rw [e_]; refine (calls ok k0 (h1.keep st) hg).mono ?_; rintro e W' ⟨v, rfl, F'', rfl, hk⟩; exact ⟨_, rfl, rfl, F'', hk⟩
end
end refs_Validate_1

namespace refs_Validate
section
abbrev c2 (ρ : Env) (g1 : Nat) (w0 w : World) (F : BSet) (s : S) (X : Prop) : Prop := ρ 1 = .pointer (some ⟨g1, 0, none⟩) ∧ Box k_RefStore 27 (Bs w0 nrow) F w g1 s.s_1 ∧ X
abbrev c3 (ρ : Env) (g2 : Nat) (w0 w : World) (F : BSet) (s : S) (X : Prop) : Prop := ρ 2 = .pointer (some ⟨g2, 0, none⟩) ∧ Box k_Fault 32 (Bs w0 nrow) F w g2 s.t_2 ∧ X
abbrev c5 (F : BSet) (w : World) (ρ : Env) (s : S) (X : Prop) : Prop := SlR k_RefTy F w (ρ 11) s.t_11 ∧ ρ 12 = .int .i64 s.t_12 ∧ ρ 13 = .int .i64 s.t_13 ∧ X
abbrev e5 (F : BSet) (w : World) (ρ : Env) (s : S) : Prop := SlR k_RefTy F w (ρ 11) s.t_11 ∧ ρ 12 = .int .i64 s.t_12 ∧ ρ 13 = .int .i64 s.t_13
abbrev c7 (ρ : Env) (s : S) (X : Prop) : Prop := ρ 3 = .int .i64 s.i_3 ∧ X
abbrev c8 (ρ : Env) (g4 : Nat) (w0 w : World) (F : BSet) (s : S) (X : Prop) : Prop := ρ 4 = .pointer (some ⟨g4, 0, none⟩) ∧ Box k_RefTy 65 (Bs w0 nrow) F w g4 s.r_4 ∧ X
def G0 : GT S := fun w0 F0 s ρ w => ∃ F, Wk nrow w0 F0 F w ∧ GL 2 F w ∧ Val k_RefStore F w (ρ 0) s.s_0
def G1 : GT S := fun w0 F0 s ρ w => ∃ F, Wk nrow w0 F0 F w ∧ ∃ g1 g2, GL 2 F w ∧ c2 ρ g1 w0 w F s (ρ 2 = .pointer (some ⟨g2, 0, none⟩) ∧ Box k_Fault 32 (Bs w0 nrow) F w g2 s.t_2)
def G2 : GT S := fun w0 F0 s ρ w => ∃ F, Wk nrow w0 F0 F w ∧ ∃ g1 g2, GL 2 F w ∧ c2 ρ g1 w0 w F s (c3 ρ g2 w0 w F s (ρ 8 = .bool s.t_8))
def G3 : GT S := fun w0 F0 s ρ w => ∃ F, Wk nrow w0 F0 F w ∧ ∃ g2, GL 2 F w ∧ ρ 2 = .pointer (some ⟨g2, 0, none⟩) ∧ Box k_Fault 32 (Bs w0 nrow) F w g2 s.t_2
def G4 : GT S := fun w0 F0 s ρ w => ∃ F, Wk nrow w0 F0 F w ∧ ∃ g1 g2, GL 2 F w ∧ c2 ρ g1 w0 w F s (c3 ρ g2 w0 w F s (e5 F w ρ s))
def G5 : GT S := fun w0 F0 s ρ w => ∃ F, Wk nrow w0 F0 F w ∧ ∃ g1 g2, GL 2 F w ∧ c2 ρ g1 w0 w F s (c3 ρ g2 w0 w F s (c5 F w ρ s (ρ 14 = .bool s.t_14)))
def G6 : GT S := fun w0 F0 s ρ w => ∃ F, Wk nrow w0 F0 F w ∧ ∃ g1 g2 g4, GL 2 F w ∧ c2 ρ g1 w0 w F s (c3 ρ g2 w0 w F s (c7 ρ s (c8 ρ g4 w0 w F s (e5 F w ρ s))))
def G7 : GT S := fun w0 F0 s ρ w => ∃ F, Wk nrow w0 F0 F w ∧ ∃ g1 g2 g4, GL 2 F w ∧ c2 ρ g1 w0 w F s (c3 ρ g2 w0 w F s (c7 ρ s (c8 ρ g4 w0 w F s (c5 F w ρ s (ρ 18 = .bool s.t_18)))))
def G8 : GT S := fun w0 F0 s ρ w => ∃ F, Wk nrow w0 F0 F w ∧ ∃ g2, GL 2 F w ∧ c3 ρ g2 w0 w F s (ρ 3 = .int .i64 s.i_3)
def G9 : GT S := fun w0 F0 s ρ w => ∃ F, Wk nrow w0 F0 F w ∧ ∃ g1 g2 g4, GL 2 F w ∧ c2 ρ g1 w0 w F s (c3 ρ g2 w0 w F s (c7 ρ s (c8 ρ g4 w0 w F s (c5 F w ρ s (ρ 25 = .bool s.t_25)))))
def G10 : GT S := fun w0 F0 s ρ w => ∃ F, Wk nrow w0 F0 F w ∧ ∃ g1 g2 g4, GL 2 F w ∧ c2 ρ g1 w0 w F s (c3 ρ g2 w0 w F s (c7 ρ s (c8 ρ g4 w0 w F s (c5 F w ρ s (ρ 32 = .bool s.t_32)))))
def G11 : GT S := fun w0 F0 s ρ w => ∃ F, Wk nrow w0 F0 F w ∧ ∃ g1 g2, GL 2 F w ∧ c2 ρ g1 w0 w F s (c3 ρ g2 w0 w F s (c7 ρ s (c5 F w ρ s (ρ 49 = .bool s.t_49))))
set_option maxHeartbeats 4000000 in
set_option maxRecDepth 20000 in
theorem ref (w0 : World) (F0 : BSet) : ∃ c, Tryd.f29.body = some c ∧ Ref Tryd.prog 60 c (G0 w0 F0) body (fun _ _ _ => False) (fun _ _ _ _ => False) (fun r ρ w => ∃ s, retv s = r ∧ G3 w0 F0 s ρ w) := by
  refine ⟨_, rfl, ?_⟩; unfold body; refine Ref.seq (B := G1 w0 F0) ?_ ?_
  · refine Ref.region (fun s ρ w s' h hr => ?_); obtain ⟨F, hW, hG, h0⟩ := h; refine ol_e (f_box hW rfl h0) rfl rfl ?_; rintro _ w6 ⟨g5, rfl, kw1, ho7⟩; have hW8 := hW.trans kw1; have st1 := kw1.stp hW.ok; refine ol_e (f_alloc zer_32 hW8) rfl rfl ?_; rintro _ w10 ⟨g9, rfl, kw2, ho11⟩; have hW12 := hW8.trans kw2; have st2 := kw2.stp hW8.ok; exact ol_fin hr ⟨F, hW12, g5, g9, (hG.keep (st1.trans st2)), rfl, ((ho7.base (row := nrow) hW.le).wk kw2 hW8.ok), rfl, (ho11.base (row := nrow) hW8.le)⟩
  refine Ref.seq (B := G1 w0 F0) ?_ ?_
  · refine Ref.seq (B := G2 w0 F0) ?_ ?_
    · refine Ref.region (fun s ρ w s' h hr => ?_); obtain ⟨F, hW, g1, g2, hG, p1, h1, p2, h2⟩ := h; refine ol_v (e_fa fa_27_0 p1) rfl ?_; obtain ⟨v15, hl16, hs17⟩ := LiesV.sl ((h1).at_.fld fl_RefStore_0); refine ol_v (e_ld ty_25 hl16 rfl) rfl ?_; obtain ⟨A18, c19, e20, hc21, R22⟩ := id hs17; refine ol_v (e_len (SlT.sl sl_25) e20) rfl ?_; refine ol_v (e_gtr rfl rfl) rfl ?_; exact ol_fin hr ⟨F, hW, g1, g2, hG, p1, h1, p2, h2, rfl⟩
    refine Ref.condP (b := fun s => s.t_8) (L := G3 w0 F0) (K := G1 w0 F0) ?_ ?_ ?_
    · rintro s ρ w ⟨F, hW, g1, g2, hG, p1, h1, p2, h2, h8⟩; exact ⟨h8, ⟨F, hW, g2, hG, p2, h2⟩, F, hW, g1, g2, hG, p1, h1, p2, h2⟩
    · refine Ref.seq (B := G3 w0 F0) ?_ ?_
      · refine Ref.region (fun s ρ w s' h hr => ?_); obtain ⟨F, hW, g2, hG, p2, h2⟩ := h; refine ol_v (e_bld (cells := #[.int .i64 (2), .int .i64 (-1)]) bld_32 (vs := [(0, .int .i64 (2)), (1, .int .i64 (-1))]) (lcons (congrArg (Prod.mk 0) rfl) (lcons (congrArg (Prod.mk 1) rfl) rfl)) rfl) rfl ?_; have hb23 : Val k_Fault F w (.agg #[.int .i64 (2), .int .i64 (-1)]) (⟨(2 : Int), (-1 : Int)⟩ : Fault) := mk_Fault (val_int _ _) (val_int _ _); refine ol_eN (f_stB hW h2 (FldS.whole _) ty_32 hb23 p2 rfl) rfl ?_; rintro - w24 ⟨hW25, ho26, hg1, st1⟩; exact ol_fin hr ⟨F, hW25, g2, (hG.keep st1), p2, ho26⟩
      exact Ref.ret (fun s ρ w h => ⟨s, rfl, h⟩)
    · exact Ref.skip
  refine Ref.seq (B := G3 w0 F0) ?_ ?_
  · refine Ref.seq (B := G4 w0 F0) ?_ ?_
    · refine Ref.region (fun s ρ w s' h hr => ?_); obtain ⟨F, hW, g1, g2, hG, p1, h1, p2, h2⟩ := h; refine ol_v (e_fa fa_27_0 p1) rfl ?_; obtain ⟨v27, hl28, hs29⟩ := LiesV.sl ((h1).at_.fld fl_RefStore_0); refine ol_v (e_ld ty_25 hl28 rfl) rfl ?_; obtain ⟨A30, c31, e32, hc33, R34⟩ := id hs29; refine ol_v (e_len (SlT.sl sl_25) e32) rfl ?_; refine ol_m rfl ?_; exact ol_fin hr ⟨F, hW, g1, g2, hG, p1, h1, p2, h2, hs29, rfl, rfl⟩
    refine Ref.block ?_; refine Ref.loop ?_; refine Ref.seq (B := G5 w0 F0) ?_ ?_
    · refine Ref.region (fun s ρ w s' h hr => ?_); obtain ⟨F, hW, g1, g2, hG, p1, h1, p2, h2, h11, h12, h13⟩ := h; refine ol_v (e_lss h13 h12) rfl ?_; exact ol_fin hr ⟨F, hW, g1, g2, hG, p1, h1, p2, h2, h11, h12, h13, rfl⟩
    refine Ref.seq (B := G4 w0 F0) ?_ ?_
    · refine Ref.condP (b := fun s => s.t_14) (L := G4 w0 F0) (K := G3 w0 F0) ?_ ?_ ?_
      · rintro s ρ w ⟨F, hW, g1, g2, hG, p1, h1, p2, h2, h11, h12, h13, h14⟩; exact ⟨h14, ⟨F, hW, g1, g2, hG, p1, h1, p2, h2, h11, h12, h13⟩, F, hW, g2, hG, p2, h2⟩
      · exact Ref.skip
      · exact Ref.exit (fun s ρ w h => h)
    refine Ref.seq (B := G4 w0 F0) ?_ ?_
    · refine Ref.block ?_; refine Ref.seq (B := G6 w0 F0) ?_ ?_
      · refine Ref.region (fun s ρ w s' h hr => ?_); obtain ⟨F, hW, g1, g2, hG, p1, h1, p2, h2, h11, h12, h13⟩ := h; refine ol_m h13 ?_; obtain ⟨x35, hx35, hr⟩ := bind_some' hr; obtain ⟨A36, c37, e38, hc39, R40⟩ := id h11; obtain ⟨b41, o42, hA43, L44⟩ := Row.at_ R40 hx35; refine ol_v (e_ix (SlT.sl sl_25) (SlT.sz sl_25) hA43 hx35 e38 h13) rfl ?_; obtain ⟨v45, hl46⟩ := LiesAt.v L44.at_; refine ol_v (e_ld ty_65 hl46 rfl) rfl ?_; refine ol_e (f_alloc zer_65 hW) rfl rfl ?_; rintro _ w48 ⟨g47, rfl, kw1, ho49⟩; have hW50 := hW.trans kw1; have st1 := kw1.stp hW.ok; refine ol_a rfl ?_; refine ol_eN (f_stB hW50 (ho49.base (row := nrow) hW.le) (FldS.whole _) ty_65 (hl46.val.keep st1) rfl rfl) rfl ?_; rintro - w51 ⟨hW52, ho53, hg2, st2⟩; exact ol_fin hr ⟨F, hW52, g1, g2, g47, (hG.keep (st1.trans st2)), p1, ((h1.wk kw1 hW.ok).mut (apart_bb (ho49.base (row := nrow) hW.le) (h1.wk kw1 hW.ok) rfl) hg2 st2), p2, ((h2.wk kw1 hW.ok).mut (apart_bb (ho49.base (row := nrow) hW.le) (h2.wk kw1 hW.ok) rfl) hg2 st2), rfl, rfl, ho53, (h11.keep (st1.trans st2)), h12, h13⟩
      refine Ref.block ?_; refine Ref.seq (B := G7 w0 F0) ?_ ?_
      · refine Ref.region (fun s ρ w s' h hr => ?_); obtain ⟨F, hW, g1, g2, g4, hG, p1, h1, p2, h2, h3, p4, h4, h11, h12, h13⟩ := h; refine ol_v (e_fa fa_65_0 p4) rfl ?_; refine ol_v (e_ld ty_9 (LiesV.str ((h4).at_.fld fl_RefTy_0)) rfl) rfl ?_; obtain ⟨x54, hx54, hr⟩ := bind_some' hr; refine ol_e (f_call [.string s.r_4.Name] fn_43 (lcons rfl rfl) (refs_good.calls hW.ok hG s.r_4.Name hx54)) rfl rfl ?_; rintro _ w55 ⟨Fz56, rfl, kw1⟩; have hW58 := hW.trans kw1; have st1 := kw1.stp hW.ok; refine ol_v (e_not_ rfl) rfl ?_; refine ol_a rfl ?_; exact ol_fin hr ⟨Fz56, hW58, g1, g2, g4, (hG.keep st1), p1, (h1.wk kw1 hW.ok), p2, (h2.wk kw1 hW.ok), h3, p4, (h4.wk kw1 hW.ok), (h11.keep st1), h12, h13, rfl⟩
      refine Ref.condP (b := fun s => s.t_18) (L := G8 w0 F0) (K := G6 w0 F0) ?_ ?_ ?_
      · rintro s ρ w ⟨F, hW, g1, g2, g4, hG, p1, h1, p2, h2, h3, p4, h4, h11, h12, h13, h18⟩; exact ⟨h18, ⟨F, hW, g2, hG, p2, h2, h3⟩, F, hW, g1, g2, g4, hG, p1, h1, p2, h2, h3, p4, h4, h11, h12, h13⟩
      · refine Ref.seq (B := G3 w0 F0) ?_ ?_
        · refine Ref.region (fun s ρ w s' h hr => ?_); obtain ⟨F, hW, g2, hG, p2, h2, h3⟩ := h; refine ol_m h3 ?_; refine ol_v (e_bld (cells := #[.int .i64 (12), .int .i64 s.i_3]) bld_32 (vs := [(0, .int .i64 (12)), (1, .int .i64 s.i_3)]) (lcons (congrArg (Prod.mk 0) rfl) (lcons (congrArg (Prod.mk 1) rfl) rfl)) rfl) rfl ?_; have hb59 : Val k_Fault F w (.agg #[.int .i64 (12), .int .i64 s.i_3]) (⟨(12 : Int), s.i_3⟩ : Fault) := mk_Fault (val_int _ _) (val_int _ _); refine ol_eN (f_stB hW h2 (FldS.whole _) ty_32 hb59 p2 rfl) rfl ?_; rintro - w60 ⟨hW61, ho62, hg1, st1⟩; exact ol_fin hr ⟨F, hW61, g2, (hG.keep st1), p2, ho62⟩
        exact Ref.ret (fun s ρ w h => ⟨s, rfl, h⟩)
      · refine Ref.seq (B := G9 w0 F0) ?_ ?_
        · refine Ref.region (fun s ρ w s' h hr => ?_); obtain ⟨F, hW, g1, g2, g4, hG, p1, h1, p2, h2, h3, p4, h4, h11, h12, h13⟩ := h; refine ol_v (e_fa fa_65_1 p4) rfl ?_; refine ol_v (e_ld ty_3 (LiesV.int ((h4).at_.fld fl_RefTy_1)) rfl) rfl ?_; obtain ⟨x63, hx63, hr⟩ := bind_some' hr; refine ol_e (f_call [.int .i64 s.r_4.Target] fn_44 (lcons rfl rfl) (refs_target.calls hW.ok s.r_4.Target hx63)) rfl rfl ?_; rintro _ w64 ⟨Fz65, rfl, kw1⟩; have hW67 := hW.trans kw1; have st1 := kw1.stp hW.ok; refine ol_v (e_not_ rfl) rfl ?_; refine ol_a rfl ?_; exact ol_fin hr ⟨Fz65, hW67, g1, g2, g4, (hG.keep st1), p1, (h1.wk kw1 hW.ok), p2, (h2.wk kw1 hW.ok), h3, p4, (h4.wk kw1 hW.ok), (h11.keep st1), h12, h13, rfl⟩
        refine Ref.condP (b := fun s => s.t_25) (L := G8 w0 F0) (K := G6 w0 F0) ?_ ?_ ?_
        · rintro s ρ w ⟨F, hW, g1, g2, g4, hG, p1, h1, p2, h2, h3, p4, h4, h11, h12, h13, h25⟩; exact ⟨h25, ⟨F, hW, g2, hG, p2, h2, h3⟩, F, hW, g1, g2, g4, hG, p1, h1, p2, h2, h3, p4, h4, h11, h12, h13⟩
        · refine Ref.seq (B := G3 w0 F0) ?_ ?_
          · refine Ref.region (fun s ρ w s' h hr => ?_); obtain ⟨F, hW, g2, hG, p2, h2, h3⟩ := h; refine ol_m h3 ?_; refine ol_v (e_bld (cells := #[.int .i64 (3), .int .i64 s.i_3]) bld_32 (vs := [(0, .int .i64 (3)), (1, .int .i64 s.i_3)]) (lcons (congrArg (Prod.mk 0) rfl) (lcons (congrArg (Prod.mk 1) rfl) rfl)) rfl) rfl ?_; have hb68 : Val k_Fault F w (.agg #[.int .i64 (3), .int .i64 s.i_3]) (⟨(3 : Int), s.i_3⟩ : Fault) := mk_Fault (val_int _ _) (val_int _ _); refine ol_eN (f_stB hW h2 (FldS.whole _) ty_32 hb68 p2 rfl) rfl ?_; rintro - w69 ⟨hW70, ho71, hg1, st1⟩; exact ol_fin hr ⟨F, hW70, g2, (hG.keep st1), p2, ho71⟩
          exact Ref.ret (fun s ρ w h => ⟨s, rfl, h⟩)
        · refine Ref.seq (B := G10 w0 F0) ?_ ?_
          · refine Ref.regionS (by kernel_rfl) (by kernel_rfl) (fun s ρ w ⟨F, hW, g1, g2, g4, hG, p1, h1, p2, h2, h3, p4, h4, h11, h12, h13⟩ => ⟨F, hW.drewS, g1, g2, g4, hG.keep (sd hW), p1, h1.wk (Wk.drew (row := nrow) hW.ok) hW.ok, p2, h2.wk (Wk.drew (row := nrow) hW.ok) hW.ok, h3, p4, h4.wk (Wk.drew (row := nrow) hW.ok) hW.ok, h11.keep (sd hW), h12, h13⟩) (fun s ρ w s' h hr => ?_); obtain ⟨F, hW, g1, g2, g4, hG, p1, h1, p2, h2, h3, p4, h4, h11, h12, h13⟩ := h; refine ol_m h3 ?_; refine ol_v (e_gtr rfl rfl) rfl ?_; obtain ⟨x87, hx88, hr⟩ := bind_some' hr; refine ol_cutA 12 35 46 (fun ρ' w' => w = w' ∧ ρ' 46 = .bool x87) rfl ?_ ?_
            · by_cases hb72 : (decide ((0 : Int) < s.i_3)) = true
              · have hr := hx88; rw [if_pos hb72] at hr; refine ol_m rfl ?_; refine ol_yes rfl rfl (congrArg Value.bool hb72) ?_; refine ol_v (e_fa fa_27_0 p1) rfl ?_; refine ol_yes rfl rfl (congrArg Value.bool hb72) ?_; obtain ⟨v74, hl75, hs76⟩ := LiesV.sl ((h1).at_.fld fl_RefStore_0); refine ol_v (e_ld ty_25 hl75 rfl) rfl ?_; refine ol_yes rfl rfl (congrArg Value.bool hb72) ?_; refine ol_m h3 ?_; refine ol_yes rfl rfl (congrArg Value.bool hb72) ?_; refine ol_v (e_sub rfl rfl) rfl ?_; refine ol_yes rfl rfl (congrArg Value.bool hb72) ?_; obtain ⟨x77, hx77, hr⟩ := bind_some' hr; obtain ⟨A78, c79, e80, hc81, R82⟩ := id hs76; obtain ⟨b83, o84, hA85, L86⟩ := Row.at_ R82 hx77; refine ol_v (e_ix (SlT.sl sl_25) (SlT.sz sl_25) hA85 hx77 e80 rfl) rfl ?_; refine ol_yes rfl rfl (congrArg Value.bool hb72) ?_; refine ol_v (e_fa fa_65_0 rfl) rfl ?_; refine ol_yes rfl rfl (congrArg Value.bool hb72) ?_; refine ol_v (e_ld ty_9 (LiesV.str (L86.fld fl_RefTy_0).at_) rfl) rfl ?_; refine ol_yes rfl rfl (congrArg Value.bool hb72) ?_; refine ol_v (e_fa fa_65_0 p4) rfl ?_; refine ol_yes rfl rfl (congrArg Value.bool hb72) ?_; refine ol_v (e_ld ty_9 (LiesV.str ((h4).at_.fld fl_RefTy_0)) rfl) rfl ?_; refine ol_yes rfl rfl (congrArg Value.bool hb72) ?_; refine ol_v (e_sgeq rfl rfl) rfl ?_; refine ol_v (e_pick true _ (congrArg Value.bool hb72) rfl) rfl ?_; exact ol_nil ⟨⟨rfl, (congrArg Value.bool (Option.some.inj hr))⟩, (Agr.refl _ _ _).u.u.u.u.u.u.u.u.u.u.u.u⟩
              · have hb73 := Bool.eq_false_iff.mpr hb72; have hr := hx88; rw [if_neg hb72] at hr; refine ol_m rfl ?_; refine ol_not rfl rfl rfl (congrArg Value.bool hb73) rfl ?_; refine ol_not rfl rfl rfl (congrArg Value.bool hb73) rfl ?_; refine ol_not rfl rfl rfl (congrArg Value.bool hb73) rfl ?_; refine ol_not rfl rfl rfl (congrArg Value.bool hb73) rfl ?_; refine ol_not rfl rfl rfl (congrArg Value.bool hb73) rfl ?_; refine ol_not rfl rfl rfl (congrArg Value.bool hb73) rfl ?_; refine ol_not rfl rfl rfl (congrArg Value.bool hb73) rfl ?_; refine ol_not rfl rfl rfl (congrArg Value.bool hb73) rfl ?_; refine ol_not rfl rfl rfl (congrArg Value.bool hb73) rfl ?_; refine ol_not rfl rfl rfl (congrArg Value.bool hb73) rfl ?_; refine ol_v (e_pick false _ (congrArg Value.bool hb73) rfl) rfl ?_; exact ol_nil ⟨⟨rfl, (congrArg Value.bool (Option.some.inj hr))⟩, (Agr.refl _ _ _).u.u.u.u.u.u.u.u.u.u.u.u⟩
            rintro ρ88 _ ⟨⟨rfl, hp88⟩, hAg88⟩; refine ol_a hp88 ?_; exact ol_fin hr ⟨F, hW, g1, g2, g4, hG, ((hAg88 1 rfl).trans p1), h1, ((hAg88 2 rfl).trans p2), h2, ((hAg88 3 rfl).trans h3), ((hAg88 4 rfl).trans p4), h4, (SlR.eqv (hAg88 11 rfl) h11), ((hAg88 12 rfl).trans h12), ((hAg88 13 rfl).trans h13), rfl⟩
          refine Ref.condP (b := fun s => s.t_32) (L := G8 w0 F0) (K := G6 w0 F0) ?_ ?_ ?_
          · rintro s ρ w ⟨F, hW, g1, g2, g4, hG, p1, h1, p2, h2, h3, p4, h4, h11, h12, h13, h32⟩; exact ⟨h32, ⟨F, hW, g2, hG, p2, h2, h3⟩, F, hW, g1, g2, g4, hG, p1, h1, p2, h2, h3, p4, h4, h11, h12, h13⟩
          · refine Ref.seq (B := G3 w0 F0) ?_ ?_
            · refine Ref.region (fun s ρ w s' h hr => ?_); obtain ⟨F, hW, g2, hG, p2, h2, h3⟩ := h; refine ol_m h3 ?_; refine ol_v (e_bld (cells := #[.int .i64 (5), .int .i64 s.i_3]) bld_32 (vs := [(0, .int .i64 (5)), (1, .int .i64 s.i_3)]) (lcons (congrArg (Prod.mk 0) rfl) (lcons (congrArg (Prod.mk 1) rfl) rfl)) rfl) rfl ?_; have hb89 : Val k_Fault F w (.agg #[.int .i64 (5), .int .i64 s.i_3]) (⟨(5 : Int), s.i_3⟩ : Fault) := mk_Fault (val_int _ _) (val_int _ _); refine ol_eN (f_stB hW h2 (FldS.whole _) ty_32 hb89 p2 rfl) rfl ?_; rintro - w90 ⟨hW91, ho92, hg1, st1⟩; exact ol_fin hr ⟨F, hW91, g2, (hG.keep st1), p2, ho92⟩
            exact Ref.ret (fun s ρ w h => ⟨s, rfl, h⟩)
          · refine Ref.seq (B := G11 w0 F0) ?_ ?_
            · refine Ref.region (fun s ρ w s' h hr => ?_); obtain ⟨F, hW, g1, g2, g4, hG, p1, h1, p2, h2, h3, p4, h4, h11, h12, h13⟩ := h; refine ol_v (e_fa fa_27_0 p1) rfl ?_; obtain ⟨v93, hl94, hs95⟩ := LiesV.sl ((h1).at_.fld fl_RefStore_0); refine ol_v (e_ld ty_25 hl94 rfl) rfl ?_; refine ol_m h3 ?_; obtain ⟨A96, c97, e98, hc99, R100⟩ := id hs95; obtain ⟨x101, hx101, hr⟩ := bind_some' hr; have hs102 := SlR.cutTo R100 hc99 hx101; refine ol_v (e_slH (SlT.sl sl_25) (SlT.sz sl_25) hc99 e98 rfl hx101) rfl ?_; refine ol_v (e_mkf (xs := []) (us := []) rfl (lcons p4 rfl)) rfl ?_; obtain ⟨Fl103, okl103, stl103, hFl103, hl103⟩ := Box.lent h4 hW.ok; obtain ⟨x104, hx104, hr⟩ := bind_some' hr; refine ol_e (f_call [(sliced A96 0 (s.i_3).toNat c97 k_RefTy.sz), .func (.func 46) #[] #[.pointer (some ⟨g4, 0, none⟩)]] fn_45 (lcons rfl (lcons rfl rfl)) (slices_ContainsFunc_api_Ref_api_Ref.calls okl103 (hs102.keep stl103) (val_fn (refs_Validate_1.fnv hl103)) hx104)) rfl rfl ?_; rintro _ w105 ⟨Fz106, rfl, kw1⟩; have ko108 := kw1; have kw1 := kw1.lend hW.ok; have hW109 := hW.trans kw1; have st1 := kw1.stp hW.ok; refine ol_a rfl ?_; exact ol_fin hr ⟨F, hW109, g1, g2, (hG.keep st1), p1, (h1.wk kw1 hW.ok), p2, (h2.wk kw1 hW.ok), h3, (h11.keep st1), h12, h13, rfl⟩
            refine Ref.condP (b := fun s => s.t_49) (L := G8 w0 F0) (K := G4 w0 F0) ?_ ?_ ?_
            · rintro s ρ w ⟨F, hW, g1, g2, hG, p1, h1, p2, h2, h3, h11, h12, h13, h49⟩; exact ⟨h49, ⟨F, hW, g2, hG, p2, h2, h3⟩, F, hW, g1, g2, hG, p1, h1, p2, h2, h11, h12, h13⟩
            · refine Ref.seq (B := G3 w0 F0) ?_ ?_
              · refine Ref.region (fun s ρ w s' h hr => ?_); obtain ⟨F, hW, g2, hG, p2, h2, h3⟩ := h; refine ol_m h3 ?_; refine ol_v (e_bld (cells := #[.int .i64 (19), .int .i64 s.i_3]) bld_32 (vs := [(0, .int .i64 (19)), (1, .int .i64 s.i_3)]) (lcons (congrArg (Prod.mk 0) rfl) (lcons (congrArg (Prod.mk 1) rfl) rfl)) rfl) rfl ?_; have hb110 : Val k_Fault F w (.agg #[.int .i64 (19), .int .i64 s.i_3]) (⟨(19 : Int), s.i_3⟩ : Fault) := mk_Fault (val_int _ _) (val_int _ _); refine ol_eN (f_stB hW h2 (FldS.whole _) ty_32 hb110 p2 rfl) rfl ?_; rintro - w111 ⟨hW112, ho113, hg1, st1⟩; exact ol_fin hr ⟨F, hW112, g2, (hG.keep st1), p2, ho113⟩
              exact Ref.ret (fun s ρ w h => ⟨s, rfl, h⟩)
            · exact Ref.skip
    refine Ref.region (fun s ρ w s' h hr => ?_); obtain ⟨F, hW, g1, g2, hG, p1, h1, p2, h2, h11, h12, h13⟩ := h; refine ol_v (e_add h13 rfl) rfl ?_; refine ol_m rfl ?_; exact ol_fin hr ⟨F, hW, g1, g2, hG, p1, h1, p2, h2, h11, h12, rfl⟩
  refine Ref.seq (B := G3 w0 F0) ?_ ?_
  · refine Ref.region (fun s ρ w s' h hr => ?_); obtain ⟨F, hW, g2, hG, p2, h2⟩ := h; refine ol_v (e_bld (cells := #[.int .i64 0, .int .i64 0]) bld_32 (vs := []) rfl rfl) rfl ?_; have hb114 : Val k_Fault F w (.agg #[.int .i64 0, .int .i64 0]) (⟨(0 : Int), (0 : Int)⟩ : Fault) := mk_Fault (val_int _ _) (val_int _ _); refine ol_eN (f_stB hW h2 (FldS.whole _) ty_32 hb114 p2 rfl) rfl ?_; rintro - w115 ⟨hW116, ho117, hg1, st1⟩; exact ol_fin hr ⟨F, hW116, g2, (hG.keep st1), p2, ho117⟩
  exact Ref.ret (fun s ρ w h => ⟨s, rfl, h⟩)
def post (w : World) (F : BSet) (r : R) (v : Value) (w' : World) : Prop := ∃ (F' : BSet) (v0' : Value), v = v0' ∧ Wk nrow w F F' w' ∧ Val k_Fault F' w' v0' r
theorem calls {w : World} {F : BSet} (hok : ∀ b, F b → b < w.heap.size) (hG : GL 2 F w) {v0 : Value} {a0 : RefStore} (h0 : Val k_RefStore F w v0 a0) {r : R} (hf : f a0 = some r) : Calls Tryd.prog 29 #[v0] w fun e w' => ∃ v, e = .returned v ∧ post w F r v w' := by
  obtain ⟨c, hc, href⟩ := ref w F; refine calls_of_ref (args := [v0]) _ Tryd.func29 hc rfl rfl href ?_ (retOf_some hf) ?_
  · exact ⟨F, Wk.refl hok, hG, h0⟩
  · rintro ρ w' a ⟨s, rfl, F', hW, g2, hG, p2, h2⟩ hF; obtain ⟨u2, l2, k2⟩ := res_box (P := Tryd.prog) ty_32 h2; refine ⟨_, run_results (rs := [.cell 2 32]) rfl hF (vs := [u2]) (⟨_, _, _, rfl, p2, l2, rfl⟩), ?_⟩; exact ⟨F', u2, rfl, hW, k2⟩
end
end refs_Validate

namespace gc_mark
section
abbrev c1 (F : BSet) (w : World) (ρ : Env) (s : S) (X : Prop) : Prop := SlR (kInt .i64) F w (ρ 1) s.t_1 ∧ X
abbrev c2 (ρ : Env) (g2 : Nat) (w0 w : World) (F : BSet) (s : S) (X : Prop) : Prop := ρ 2 = .pointer (some ⟨g2, 0, none⟩) ∧ Box k_ObjectStore 24 (Bs w0 nrow) F w g2 s.t_2 ∧ X
abbrev c3 (w0 w : World) (F : BSet) (ρ : Env) (s : S) (X : Prop) : Prop := MapV .i64 (fun x => (.int .i64 x : Value)) (Bs w0 nrow) F w (ρ 5) s.t_5 ∧ X
abbrev e4 (F : BSet) (w : World) (ρ : Env) (s : S) : Prop := SlR k_StoredObject F w (ρ 14) s.t_14 ∧ ρ 15 = .int .i64 s.t_15 ∧ ρ 16 = .int .i64 s.t_16
abbrev c7 (w0 w : World) (F : BSet) (ρ : Env) (s : S) (X : Prop) : Prop := OwnV kBool 4 (Bs w0 nrow) F w (ρ 8) s.t_8 ∧ X
abbrev c8 (w0 w : World) (F : BSet) (ρ : Env) (s : S) (X : Prop) : Prop := OwnV (kInt .i64) 3 (Bs w0 nrow) F w (ρ 9) s.t_9 ∧ X
def G0 : GT S := fun w0 F0 s ρ w => ∃ F, Wk nrow w0 F0 F w ∧ Val k_ObjectStore F w (ρ 0) s.t_0 ∧ SlR (kInt .i64) F w (ρ 1) s.t_1
def G1 : GT S := fun w0 F0 s ρ w => ∃ F, Wk nrow w0 F0 F w ∧ ∃ g2, c1 F w ρ s (ρ 2 = .pointer (some ⟨g2, 0, none⟩) ∧ Box k_ObjectStore 24 (Bs w0 nrow) F w g2 s.t_2)
def G2 : GT S := fun w0 F0 s ρ w => ∃ F, Wk nrow w0 F0 F w ∧ ∃ g2, c1 F w ρ s (c2 ρ g2 w0 w F s (MapV .i64 (fun x => (.int .i64 x : Value)) (Bs w0 nrow) F w (ρ 5) s.t_5))
def G3 : GT S := fun w0 F0 s ρ w => ∃ F, Wk nrow w0 F0 F w ∧ ∃ g2, c1 F w ρ s (c2 ρ g2 w0 w F s (c3 w0 w F ρ s (e4 F w ρ s)))
def G4 : GT S := fun w0 F0 s ρ w => ∃ F, Wk nrow w0 F0 F w ∧ ∃ g2, c1 F w ρ s (c2 ρ g2 w0 w F s (c3 w0 w F ρ s (SlR k_StoredObject F w (ρ 14) s.t_14 ∧ ρ 15 = .int .i64 s.t_15 ∧ ρ 16 = .int .i64 s.t_16 ∧ ρ 17 = .bool s.t_17)))
def G5 : GT S := fun w0 F0 s ρ w => ∃ F, Wk nrow w0 F0 F w ∧ ∃ g2 g7, c1 F w ρ s (c2 ρ g2 w0 w F s (c3 w0 w F ρ s (ρ 6 = .int .i64 s.t_6 ∧ ρ 7 = .pointer (some ⟨g7, 0, none⟩) ∧ Box k_StoredObject 50 (Bs w0 nrow) F w g7 s.t_7 ∧ e4 F w ρ s)))
def G6 : GT S := fun w0 F0 s ρ w => ∃ F, Wk nrow w0 F0 F w ∧ ∃ g2, c1 F w ρ s (c2 ρ g2 w0 w F s (c3 w0 w F ρ s (OwnV kBool 4 (Bs w0 nrow) F w (ρ 8) s.t_8)))
def G7 : GT S := fun w0 F0 s ρ w => ∃ F, Wk nrow w0 F0 F w ∧ ∃ g2, c2 ρ g2 w0 w F s (c3 w0 w F ρ s (c7 w0 w F ρ s (OwnV (kInt .i64) 3 (Bs w0 nrow) F w (ρ 9) s.t_9)))
def G8 : GT S := fun w0 F0 s ρ w => ∃ F, Wk nrow w0 F0 F w ∧ ∃ g2, c2 ρ g2 w0 w F s (c3 w0 w F ρ s (c7 w0 w F ρ s (c8 w0 w F ρ s (ρ 34 = .bool s.t_34))))
def G9 : GT S := fun w0 F0 s ρ w => ∃ F, Wk nrow w0 F0 F w ∧ OwnV kBool 4 (Bs w0 nrow) F w (ρ 8) s.t_8
def G10 : GT S := fun w0 F0 s ρ w => ∃ F, Wk nrow w0 F0 F w ∧ ∃ g2, c2 ρ g2 w0 w F s (c3 w0 w F ρ s (c7 w0 w F ρ s (c8 w0 w F ρ s (ρ 10 = .int .i64 s.t_10 ∧ ρ 11 = .bool s.t_11))))
def G11 : GT S := fun w0 F0 s ρ w => ∃ F, Wk nrow w0 F0 F w ∧ ∃ g2, c2 ρ g2 w0 w F s (c3 w0 w F ρ s (c7 w0 w F ρ s (c8 w0 w F ρ s (ρ 10 = .int .i64 s.t_10 ∧ ρ 52 = .bool s.t_52))))
def G12 : GT S := fun w0 F0 s ρ w => ∃ F, Wk nrow w0 F0 F w ∧ ∃ g2, c2 ρ g2 w0 w F s (c3 w0 w F ρ s (c7 w0 w F ρ s (c8 w0 w F ρ s (ρ 10 = .int .i64 s.t_10))))
def G13 : GT S := fun w0 F0 s ρ w => ∃ F, Wk nrow w0 F0 F w ∧ OwnV kBool 4 (Bs w0 nrow) F w (ρ 4) s.t_4
set_option maxHeartbeats 4000000 in
set_option maxRecDepth 20000 in
theorem ref (w0 : World) (F0 : BSet) : ∃ c, Tryd.f30.body = some c ∧ Ref Tryd.prog 66 c (G0 w0 F0) body (fun _ _ _ => False) (fun _ _ _ _ => False) (fun r ρ w => ∃ s, retv s = r ∧ G13 w0 F0 s ρ w) := by
  refine ⟨_, rfl, ?_⟩; unfold body; refine Ref.seq (B := G1 w0 F0) ?_ ?_
  · refine Ref.region (fun s ρ w s' h hr => ?_); obtain ⟨F, hW, h0, h1⟩ := h; refine ol_e (f_box hW rfl h0) rfl rfl ?_; rintro _ w4 ⟨g3, rfl, kw1, ho5⟩; have hW6 := hW.trans kw1; have st1 := kw1.stp hW.ok; refine ol_a rfl ?_; exact ol_fin hr ⟨F, hW6, g3, (h1.keep st1), rfl, (ho5.base (row := nrow) hW.le)⟩
  refine Ref.seq (B := G2 w0 F0) ?_ ?_
  · refine Ref.region (fun s ρ w s' h hr => ?_); obtain ⟨F, hW, g2, h1, p2, h2⟩ := h; refine ol_e (f_mkMap (i := .i64) (enc := (fun x => (.int .i64 x : Value))) hW) rfl rfl ?_; rintro v12 w13 ⟨kw1, ho14⟩; have hW15 := hW.trans kw1; have st1 := kw1.stp hW.ok; refine ol_a rfl ?_; exact ol_fin hr ⟨F, hW15, g2, (h1.keep st1), p2, (h2.wk kw1 hW.ok), (ho14.base (row := nrow) hW.le)⟩
  refine Ref.seq (B := G2 w0 F0) ?_ ?_
  · refine Ref.seq (B := G3 w0 F0) ?_ ?_
    · refine Ref.region (fun s ρ w s' h hr => ?_); obtain ⟨F, hW, g2, h1, p2, h2, h5⟩ := h; refine ol_v (e_fa fa_24_0 p2) rfl ?_; obtain ⟨v18, hl19, hs20⟩ := LiesV.sl ((h2).at_.fld fl_ObjectStore_0); refine ol_v (e_ld ty_22 hl19 rfl) rfl ?_; obtain ⟨A21, c22, e23, hc24, R25⟩ := id hs20; refine ol_v (e_len (SlT.sl sl_22) e23) rfl ?_; refine ol_m rfl ?_; exact ol_fin hr ⟨F, hW, g2, h1, p2, h2, h5, hs20, rfl, rfl⟩
    refine Ref.block ?_; refine Ref.loop ?_; refine Ref.seq (B := G4 w0 F0) ?_ ?_
    · refine Ref.region (fun s ρ w s' h hr => ?_); obtain ⟨F, hW, g2, h1, p2, h2, h5, h14, h15, h16⟩ := h; refine ol_v (e_lss h16 h15) rfl ?_; exact ol_fin hr ⟨F, hW, g2, h1, p2, h2, h5, h14, h15, h16, rfl⟩
    refine Ref.seq (B := G3 w0 F0) ?_ ?_
    · refine Ref.condP (b := fun s => s.t_17) (L := G3 w0 F0) (K := G2 w0 F0) ?_ ?_ ?_
      · rintro s ρ w ⟨F, hW, g2, h1, p2, h2, h5, h14, h15, h16, h17⟩; exact ⟨h17, ⟨F, hW, g2, h1, p2, h2, h5, h14, h15, h16⟩, F, hW, g2, h1, p2, h2, h5⟩
      · exact Ref.skip
      · exact Ref.exit (fun s ρ w h => h)
    refine Ref.seq (B := G3 w0 F0) ?_ ?_
    · refine Ref.block ?_; refine Ref.seq (B := G5 w0 F0) ?_ ?_
      · refine Ref.region (fun s ρ w s' h hr => ?_); obtain ⟨F, hW, g2, h1, p2, h2, h5, h14, h15, h16⟩ := h; refine ol_m h16 ?_; obtain ⟨x26, hx26, hr⟩ := bind_some' hr; obtain ⟨A27, c28, e29, hc30, R31⟩ := id h14; obtain ⟨b32, o33, hA34, L35⟩ := Row.at_ R31 hx26; refine ol_v (e_ix (SlT.sl sl_22) (SlT.sz sl_22) hA34 hx26 e29 h16) rfl ?_; obtain ⟨v36, hl37⟩ := LiesAt.v L35.at_; refine ol_v (e_ld ty_50 hl37 rfl) rfl ?_; refine ol_e (f_alloc zer_50 hW) rfl rfl ?_; rintro _ w39 ⟨g38, rfl, kw1, ho40⟩; have hW41 := hW.trans kw1; have st1 := kw1.stp hW.ok; refine ol_a rfl ?_; refine ol_eN (f_stB hW41 (ho40.base (row := nrow) hW.le) (FldS.whole _) ty_50 (hl37.val.keep st1) rfl rfl) rfl ?_; rintro - w42 ⟨hW43, ho44, hg2, st2⟩; exact ol_fin hr ⟨F, hW43, g2, g38, (h1.keep (st1.trans st2)), p2, ((h2.wk kw1 hW.ok).mut (apart_bb (ho40.base (row := nrow) hW.le) (h2.wk kw1 hW.ok) rfl) hg2 st2), ((h5.wk kw1 hW.ok).mut (apart_mb (h5.wk kw1 hW.ok) (ho40.base (row := nrow) hW.le)).symm hg2 st2), rfl, rfl, ho44, (h14.keep (st1.trans st2)), h15, h16⟩
      refine Ref.region (fun s ρ w s' h hr => ?_); obtain ⟨F, hW, g2, g7, h1, p2, h2, h5, h6, p7, h7, h14, h15, h16⟩ := h; refine ol_m rfl ?_; refine ol_v (e_fa fa_50_0 p7) rfl ?_; refine ol_v (e_ld ty_3 (LiesV.int ((h7).at_.fld fl_StoredObject_0)) rfl) rfl ?_; refine ol_m h6 ?_; refine ol_eN (f_mput (u := s.t_6) mp_88 hW h5 rfl rfl rfl) rfl ?_; rintro - w45 ⟨hW46, ho47, hg1, st1⟩; exact ol_fin hr ⟨F, hW46, g2, (h1.keep st1), p2, (h2.mut (apart_mb h5 h2) hg1 st1), ho47, (h14.keep st1), h15, h16⟩
    refine Ref.region (fun s ρ w s' h hr => ?_); obtain ⟨F, hW, g2, h1, p2, h2, h5, h14, h15, h16⟩ := h; refine ol_v (e_add h16 rfl) rfl ?_; refine ol_m rfl ?_; exact ol_fin hr ⟨F, hW, g2, h1, p2, h2, h5, h14, h15, rfl⟩
  refine Ref.seq (B := G6 w0 F0) ?_ ?_
  · refine Ref.region (fun s ρ w s' h hr => ?_); obtain ⟨F, hW, g2, h1, p2, h2, h5⟩ := h; refine ol_v (e_fa fa_24_0 p2) rfl ?_; obtain ⟨v48, hl49, hs50⟩ := LiesV.sl ((h2).at_.fld fl_ObjectStore_0); refine ol_v (e_ld ty_22 hl49 rfl) rfl ?_; obtain ⟨A51, c52, e53, hc54, R55⟩ := id hs50; refine ol_v (e_len (SlT.sl sl_22) e53) rfl ?_; obtain ⟨x56, hx56, hr⟩ := bind_some' hr; refine ol_e (f_mks sl_36 hW rfl rfl hx56) rfl rfl ?_; rintro v57 w58 ⟨kw1, ho59⟩; have hW60 := hW.trans kw1; have st1 := kw1.stp hW.ok; refine ol_a rfl ?_; exact ol_fin hr ⟨F, hW60, g2, (h1.keep st1), p2, (h2.wk kw1 hW.ok), (h5.wk kw1 hW.ok), (ho59.base (row := nrow) hW.le)⟩
  refine Ref.seq (B := G9 w0 F0) ?_ ?_
  · refine Ref.seq (B := G7 w0 F0) ?_ ?_
    · refine Ref.region (fun s ρ w s' h hr => ?_); obtain ⟨F, hW, g2, h1, p2, h2, h5, h8⟩ := h; refine ol_m rfl ?_; obtain ⟨x61, hx61, hr⟩ := bind_some' hr; refine ol_e (f_call [(ρ 1)] fn_48 (lcons rfl rfl) (CloneI.calls hW.ok h1 hx61)) rfl rfl ?_; rintro v64 w62 ⟨Fz63, _, rfl, kw1, hk65⟩; have hW67 := hW.trans kw1; have st1 := kw1.stp hW.ok; refine ol_a rfl ?_; exact ol_fin hr ⟨Fz63, hW67, g2, p2, (h2.wk kw1 hW.ok), (h5.wk kw1 hW.ok), (h8.wk kw1 hW.ok), (hk65.base (row := nrow) hW.le)⟩
    refine Ref.block ?_; refine Ref.loop ?_; refine Ref.seq (B := G7 w0 F0) ?_ ?_
    · refine Ref.seq (B := G8 w0 F0) ?_ ?_
      · refine Ref.region (fun s ρ w s' h hr => ?_); obtain ⟨F, hW, g2, p2, h2, h5, h8, h9⟩ := h; refine ol_m rfl ?_; obtain ⟨A68, c69, e70, hc71⟩ := h9.shape; refine ol_v (e_len (SlT.sl sl_30) e70) rfl ?_; refine ol_v (e_gtr rfl rfl) rfl ?_; exact ol_fin hr ⟨F, hW, g2, p2, h2, h5, h8, h9, rfl⟩
      refine Ref.condP (b := fun s => s.t_34) (L := G7 w0 F0) (K := G9 w0 F0) ?_ ?_ ?_
      · rintro s ρ w ⟨F, hW, g2, p2, h2, h5, h8, h9, h34⟩; exact ⟨h34, ⟨F, hW, g2, p2, h2, h5, h8, h9⟩, F, hW, h8⟩
      · exact Ref.skip
      · exact Ref.exit (fun s ρ w h => h)
    refine Ref.block ?_; refine Ref.seq (B := G10 w0 F0) ?_ ?_
    · refine Ref.region (fun s ρ w s' h hr => ?_); obtain ⟨F, hW, g2, p2, h2, h5, h8, h9⟩ := h; refine ol_m rfl ?_; refine ol_m rfl ?_; obtain ⟨x72, hx72, hr⟩ := bind_some' hr; obtain ⟨g73, o74, c75, hv76, L77⟩ := OwnV.at_ h9 hx72; refine ol_v (e_ixO sl_30 hv76 hx72 rfl rfl) rfl ?_; refine ol_v (e_ld ty_3 (LiesV.int L77) rfl) rfl ?_; refine ol_v (e_lookOk (z := (0 : Int)) mp_88 h5 rfl rfl) rfl ?_; refine ol_m rfl ?_; refine ol_v (e_ext _ rfl rfl) rfl ?_; refine ol_v (e_ext _ rfl rfl) rfl ?_; refine ol_a rfl ?_; refine ol_a rfl ?_; exact ol_fin hr ⟨F, hW, g2, p2, h2, h5, h8, h9, rfl, rfl⟩
    refine Ref.seq (B := G10 w0 F0) ?_ ?_
    · refine Ref.region (fun s ρ w s' h hr => ?_); obtain ⟨F, hW, g2, p2, h2, h5, h8, h9, h10, h11⟩ := h; refine ol_m rfl ?_; obtain ⟨A78, c79, e80, hc81⟩ := h9.shape; obtain ⟨x82, hx82, hr⟩ := bind_some' hr; refine ol_v (e_slL (SlT.sl sl_30) (SlT.sz sl_30) hc81 e80 rfl hx82) rfl ?_; obtain ⟨hn83, hbn84⟩ := OwnV.cutFrom (OwnV.eqv e80.symm h9) hx82; refine ol_a rfl ?_; exact ol_fin hr ⟨F, hW, g2, p2, h2, h5, h8, hn83, h10, h11⟩
    refine Ref.seq (B := G11 w0 F0) ?_ ?_
    · refine Ref.region (fun s ρ w s' h hr => ?_); obtain ⟨F, hW, g2, p2, h2, h5, h8, h9, h10, h11⟩ := h; refine ol_m h11 ?_; obtain ⟨x93, hx94, hr⟩ := bind_some' hr; refine ol_cutA 7 46 52 (fun ρ' w' => w = w' ∧ ρ' 52 = .bool x93) rfl ?_ ?_
      · by_cases hb85 : s.t_11 = true
        · have hr := hx94; rw [if_pos hb85] at hr; refine ol_m rfl ?_; refine ol_yes rfl rfl (congrArg Value.bool hb85) ?_; refine ol_m rfl ?_; refine ol_yes rfl rfl (congrArg Value.bool hb85) ?_; refine ol_m h10 ?_; refine ol_yes rfl rfl (congrArg Value.bool hb85) ?_; obtain ⟨x87, hx87, hr⟩ := bind_some' hr; obtain ⟨g88, o89, c90, hv91, L92⟩ := OwnV.at_ h8 hx87; refine ol_v (e_ixO sl_36 hv91 hx87 rfl rfl) rfl ?_; refine ol_yes rfl rfl (congrArg Value.bool hb85) ?_; refine ol_v (e_ld ty_4 (LiesV.bool L92) rfl) rfl ?_; refine ol_yes rfl rfl (congrArg Value.bool hb85) ?_; refine ol_v (e_not_ rfl) rfl ?_; refine ol_v (e_pick true _ (congrArg Value.bool hb85) rfl) rfl ?_; exact ol_nil ⟨⟨rfl, (congrArg Value.bool (Option.some.inj hr))⟩, (Agr.refl _ _ _).u.u.u.u.u.u.u⟩
        · have hb86 := Bool.eq_false_iff.mpr hb85; have hr := hx94; rw [if_neg hb85] at hr; refine ol_m rfl ?_; refine ol_not rfl rfl rfl (congrArg Value.bool hb86) rfl ?_; refine ol_not rfl rfl rfl (congrArg Value.bool hb86) rfl ?_; refine ol_not rfl rfl rfl (congrArg Value.bool hb86) rfl ?_; refine ol_not rfl rfl rfl (congrArg Value.bool hb86) rfl ?_; refine ol_not rfl rfl rfl (congrArg Value.bool hb86) rfl ?_; refine ol_v (e_pick false _ (congrArg Value.bool hb86) rfl) rfl ?_; exact ol_nil ⟨⟨rfl, (congrArg Value.bool (Option.some.inj hr))⟩, (Agr.refl _ _ _).u.u.u.u.u.u.u⟩
      rintro ρ94 _ ⟨⟨rfl, hp94⟩, hAg94⟩; exact ol_fin hr ⟨F, hW, g2, ((hAg94 2 rfl).trans p2), h2, (MapV.eqv (hAg94 5 rfl) h5), (OwnV.eqv (hAg94 8 rfl) h8), (OwnV.eqv (hAg94 9 rfl) h9), ((hAg94 10 rfl).trans h10), hp94⟩
    refine Ref.condP (b := fun s => s.t_52) (L := G12 w0 F0) (K := G7 w0 F0) ?_ ?_ ?_
    · rintro s ρ w ⟨F, hW, g2, p2, h2, h5, h8, h9, h10, h52⟩; exact ⟨h52, ⟨F, hW, g2, p2, h2, h5, h8, h9, h10⟩, F, hW, g2, p2, h2, h5, h8, h9⟩
    · refine Ref.seq (B := G12 w0 F0) ?_ ?_
      · refine Ref.region (fun s ρ w s' h hr => ?_); obtain ⟨F, hW, g2, p2, h2, h5, h8, h9, h10⟩ := h; refine ol_m rfl ?_; refine ol_m h10 ?_; obtain ⟨x95, hx95, hr⟩ := bind_some' hr; obtain ⟨g96, o97, c98, hv99, L100⟩ := OwnV.at_ h8 hx95; refine ol_v (e_ixO sl_36 hv99 hx95 rfl rfl) rfl ?_; refine ol_eN (f_stO hW h8 hx95 (FldS.whole _) ty_4 (val_bool _) hv99 rfl rfl) rfl ?_; rintro - w101 ⟨hW102, ho103, hg1, st1⟩; exact ol_fin hr ⟨F, hW102, g2, p2, (h2.mut (apart_bo h2 h8 rfl).symm hg1 st1), (h5.mut (apart_mo h5 h8).symm hg1 st1), ho103, (h9.mut (apart_oo h8 h9 rfl) hg1 st1), h10⟩
      refine Ref.region (fun s ρ w s' h hr => ?_); obtain ⟨F, hW, g2, p2, h2, h5, h8, h9, h10⟩ := h; refine ol_m rfl ?_; refine ol_v (e_fa fa_24_0 p2) rfl ?_; obtain ⟨v104, hl105, hs106⟩ := LiesV.sl ((h2).at_.fld fl_ObjectStore_0); refine ol_v (e_ld ty_22 hl105 rfl) rfl ?_; refine ol_m h10 ?_; obtain ⟨x107, hx107, hr⟩ := bind_some' hr; obtain ⟨A108, c109, e110, hc111, R112⟩ := id hs106; obtain ⟨b113, o114, hA115, L116⟩ := Row.at_ R112 hx107; refine ol_v (e_ix (SlT.sl sl_22) (SlT.sz sl_22) hA115 hx107 e110 rfl) rfl ?_; refine ol_v (e_fa fa_50_1 rfl) rfl ?_; refine ol_v (e_fa fa_48_1 rfl) rfl ?_; obtain ⟨v117, hl118, hs119⟩ := LiesV.sl ((L116.fld fl_StoredObject_1).fld fl_Object_1).at_; refine ol_v (e_ld ty_30 hl118 rfl) rfl ?_; obtain ⟨x120, hx120, hr⟩ := bind_some' hr; refine ol_e (f_app sl_30 hW h9 hs119 hx120 rfl rfl) rfl rfl ?_; rintro v121 w122 ⟨hW123, ho124, hg1, st1, hor125⟩; refine ol_a rfl ?_; exact ol_fin hr ⟨F, hW123, g2, p2, (h2.mut (apart_bo h2 h9 rfl).symm hg1 st1), (h5.mut (apart_mo h5 h9).symm hg1 st1), (h8.mut (apart_oo h9 h8 rfl) hg1 st1), ho124⟩
    · exact Ref.skip
  refine Ref.seq (B := G13 w0 F0) ?_ ?_
  · refine Ref.region (fun s ρ w s' h hr => ?_); obtain ⟨F, hW, h8⟩ := h; refine ol_m rfl ?_; refine ol_a rfl ?_; exact ol_fin hr ⟨F, hW, h8⟩
  exact Ref.ret (fun s ρ w h => ⟨s, rfl, h⟩)
def post (w : World) (F : BSet) (r : R) (v : Value) (w' : World) : Prop := ∃ (F' : BSet) (v0' : Value), v = v0' ∧ Wk nrow w F F' w' ∧ OwnV kBool 4 (Nw w) F' w' v0' r
theorem calls {w : World} {F : BSet} (hok : ∀ b, F b → b < w.heap.size) {v0 : Value} {a0 : ObjectStore} (h0 : Val k_ObjectStore F w v0 a0) {v1 : Value} {a1 : (List Int)} (h1 : SlR (kInt .i64) F w v1 a1) {r : R} (hf : f a0 a1 = some r) : Calls Tryd.prog 30 #[v0, v1] w fun e w' => ∃ v, e = .returned v ∧ post w F r v w' := by
  obtain ⟨c, hc, href⟩ := ref w F; refine calls_of_ref (args := [v0, v1]) _ Tryd.func30 hc rfl rfl href ?_ (retOf_some hf) ?_
  · exact ⟨F, Wk.refl hok, h0, h1⟩
  · rintro ρ w' a ⟨s, rfl, F', hW, h4⟩ hF; refine ⟨_, run_results (rs := [.tmp 4]) rfl hF (vs := [ρ 4]) (⟨_, rfl, rfl⟩), ?_⟩; exact ⟨F', ρ 4, rfl, hW, h4.rebase (fun g hg => (h4.lt hg).1.resolve_right (fun h => h))⟩
end
end gc_mark

end Go.Proofs.YtenkbkcddcnmeaaDoor
