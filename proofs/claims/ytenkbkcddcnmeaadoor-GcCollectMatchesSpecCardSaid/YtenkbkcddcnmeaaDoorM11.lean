/- The machine's calls come to these plain functions (written by a program, wip/fx/gen.py). -/
import Derived.Test.YtenkbkcddcnmeaaDoorPA
import Derived.Test.YtenkbkcddcnmeaaDoorNm
import Derived.Test.YtenkbkcddcnmeaaDoorM8
import Derived.Test.YtenkbkcddcnmeaaDoorM9
import Derived.Test.YtenkbkcddcnmeaaDoorSl
import Derived.Test.YtenkbkcddcnmeaaDoorIn
import Derived.Test.YtenkbkcddcnmeaaDoorIt
import Derived.Test.YtenkbkcddcnmeaaDoorFx17
namespace Go.Proofs.YtenkbkcddcnmeaaDoor
open Go.Fx Go.RowKit
set_option linter.unusedVariables false

namespace ref3_components
section
abbrev c0 (ρ : Env) (s : S) (X : Prop) : Prop := ρ 0 = .string s.name_0 ∧ X
abbrev c1 (w0 w : World) (F : BSet) (ρ : Env) (s : S) (X : Prop) : Prop := OwnV kStr 9 (Bs w0 nrow) F w (ρ 3) s.out_3 ∧ X
def G0 : GT S := fun w0 F0 s ρ w => ∃ F, Wk nrow w0 F0 F w ∧ ρ 0 = .string s.name_0
def G1 : GT S := fun w0 F0 s ρ w => ∃ F, Wk nrow w0 F0 F w ∧ c0 ρ s (OwnV kStr 9 (Bs w0 nrow) F w (ρ 3) s.out_3)
def G2 : GT S := fun w0 F0 s ρ w => ∃ F, Wk nrow w0 F0 F w ∧ c0 ρ s (c1 w0 w F ρ s (ρ 4 = .string s.now_4))
def G3 : GT S := fun w0 F0 s ρ w => ∃ F, Wk nrow w0 F0 F w ∧ c0 ρ s (c1 w0 w F ρ s (ρ 4 = .string s.now_4 ∧ ρ 5 = .int .i64 s.i_5))
def G4 : GT S := fun w0 F0 s ρ w => ∃ F, Wk nrow w0 F0 F w ∧ c0 ρ s (c1 w0 w F ρ s (ρ 4 = .string s.now_4 ∧ ρ 5 = .int .i64 s.i_5 ∧ ρ 9 = .bool s.t_9))
def G5 : GT S := fun w0 F0 s ρ w => ∃ F, Wk nrow w0 F0 F w ∧ c1 w0 w F ρ s (ρ 4 = .string s.now_4)
def G6 : GT S := fun w0 F0 s ρ w => ∃ F, Wk nrow w0 F0 F w ∧ c0 ρ s (c1 w0 w F ρ s (ρ 4 = .string s.now_4 ∧ ρ 5 = .int .i64 s.i_5 ∧ ρ 15 = .bool s.t_15))
def G7 : GT S := fun w0 F0 s ρ w => ∃ F, Wk nrow w0 F0 F w ∧ c0 ρ s (c1 w0 w F ρ s (ρ 5 = .int .i64 s.i_5))
def G8 : GT S := fun w0 F0 s ρ w => ∃ F, Wk nrow w0 F0 F w ∧ OwnV kStr 9 (Bs w0 nrow) F w (ρ 2) s.t_2
set_option maxHeartbeats 4000000 in
set_option maxRecDepth 20000 in
theorem ref (w0 : World) (F0 : BSet) : ∃ c, Tryd.f70.body = some c ∧ Ref Tryd.prog 31 c (G0 w0 F0) body (fun _ _ _ => False) (fun _ _ _ _ => False) (fun r ρ w => ∃ s, retv s = r ∧ G8 w0 F0 s ρ w) := by
  refine ⟨_, rfl, ?_⟩; unfold body; refine Ref.seq (B := G0 w0 F0) ?_ ?_
  · refine Ref.region (fun s ρ w s' h hr => ?_); obtain ⟨F, hW, h0⟩ := h; refine ol_a rfl ?_; exact ol_fin hr ⟨F, hW, h0⟩
  refine Ref.seq (B := G1 w0 F0) ?_ ?_
  · refine Ref.region (fun s ρ w s' h hr => ?_); obtain ⟨F, hW, h0⟩ := h; refine ol_a rfl ?_; exact ol_fin hr ⟨F, hW, h0, (OwnV.nil kStr 9 (Bs w0 nrow) F w)⟩
  refine Ref.seq (B := G2 w0 F0) ?_ ?_
  · refine Ref.region (fun s ρ w s' h hr => ?_); obtain ⟨F, hW, h0, h3⟩ := h; refine ol_a rfl ?_; exact ol_fin hr ⟨F, hW, h0, h3, rfl⟩
  refine Ref.seq (B := G5 w0 F0) ?_ ?_
  · refine Ref.seq (B := G3 w0 F0) ?_ ?_
    · refine Ref.region (fun s ρ w s' h hr => ?_); obtain ⟨F, hW, h0, h3, h4⟩ := h; refine ol_a rfl ?_; exact ol_fin hr ⟨F, hW, h0, h3, h4, rfl⟩
    refine Ref.block ?_; refine Ref.loop ?_; refine Ref.seq (B := G3 w0 F0) ?_ ?_
    · refine Ref.seq (B := G4 w0 F0) ?_ ?_
      · refine Ref.region (fun s ρ w s' h hr => ?_); obtain ⟨F, hW, h0, h3, h4, h5⟩ := h; refine ol_m h5 ?_; refine ol_m h0 ?_; refine ol_v (e_lenS (by kernel_rfl) rfl) rfl ?_; refine ol_v (e_lss rfl rfl) rfl ?_; exact ol_fin hr ⟨F, hW, h0, h3, h4, h5, rfl⟩
      refine Ref.condP (b := fun s => s.t_9) (L := G3 w0 F0) (K := G5 w0 F0) ?_ ?_ ?_
      · rintro s ρ w ⟨F, hW, h0, h3, h4, h5, h9⟩; exact ⟨h9, ⟨F, hW, h0, h3, h4, h5⟩, F, hW, h3, h4⟩
      · exact Ref.skip
      · exact Ref.exit (fun s ρ w h => h)
    refine Ref.seq (B := G3 w0 F0) ?_ ?_
    · refine Ref.block ?_; refine Ref.seq (B := G6 w0 F0) ?_ ?_
      · refine Ref.region (fun s ρ w s' h hr => ?_); obtain ⟨F, hW, h0, h3, h4, h5⟩ := h; refine ol_m h0 ?_; refine ol_m h5 ?_; obtain ⟨b1, hb1, hr⟩ := bind_some' hr; refine ol_v (e_ixS (by kernel_rfl) rfl rfl hb1) rfl ?_; refine ol_v (e_eql rfl rfl) rfl ?_; exact ol_fin hr ⟨F, hW, h0, h3, h4, h5, rfl⟩
      refine Ref.condP (b := fun s => s.t_15) (L := G3 w0 F0) (K := G3 w0 F0) ?_ ?_ ?_
      · rintro s ρ w ⟨F, hW, h0, h3, h4, h5, h15⟩; exact ⟨h15, ⟨F, hW, h0, h3, h4, h5⟩, F, hW, h0, h3, h4, h5⟩
      · refine Ref.seq (B := G7 w0 F0) ?_ ?_
        · refine Ref.region (fun s ρ w s' h hr => ?_); obtain ⟨F, hW, h0, h3, h4, h5⟩ := h; refine ol_m rfl ?_; refine ol_m h4 ?_; refine ol_e (f_bslF sl_106 hW ([s.now_4] : List ByteArray) [.string s.now_4] (by exact ⟨_, _, rfl, (val_str _), rfl⟩) rfl (Nat.le_of_ble_eq_true rfl) (lcons (congrArg (Prod.mk 0) rfl) rfl)) rfl rfl ?_; rintro v6 w7 ⟨Fz9, kw1, ho8⟩; have hW10 := hW.trans kw1; have st1 := kw1.stp hW.ok; obtain ⟨x11, hx11, hr⟩ := bind_some' hr; refine ol_e (f_app sl_106 hW10 (h3.wk kw1 hW.ok) ho8 hx11 rfl rfl) rfl rfl ?_; rintro v12 w13 ⟨hW14, ho15, hg2, st2, hor16⟩; refine ol_a rfl ?_; exact ol_fin hr ⟨Fz9, hW14, h0, ho15, h5⟩
        refine Ref.region (fun s ρ w s' h hr => ?_); obtain ⟨F, hW, h0, h3, h5⟩ := h; refine ol_a rfl ?_; exact ol_fin hr ⟨F, hW, h0, h3, rfl, h5⟩
      · refine Ref.region (fun s ρ w s' h hr => ?_); obtain ⟨F, hW, h0, h3, h4, h5⟩ := h; refine ol_m h4 ?_; refine ol_m h0 ?_; refine ol_m h5 ?_; refine ol_m h5 ?_; refine ol_v (e_add rfl rfl) rfl ?_; obtain ⟨x17, hx17, hr⟩ := bind_some' hr; refine ol_v (e_cutS (by kernel_rfl) rfl rfl rfl hx17) rfl ?_; obtain ⟨x18, hx18, hr⟩ := bind_some' hr; refine ol_v (e_catS rfl rfl hx18) rfl ?_; refine ol_a rfl ?_; exact ol_fin hr ⟨F, hW, h0, h3, rfl, h5⟩
    refine Ref.region (fun s ρ w s' h hr => ?_); obtain ⟨F, hW, h0, h3, h4, h5⟩ := h; refine ol_m h5 ?_; refine ol_v (e_add rfl rfl) rfl ?_; refine ol_a rfl ?_; exact ol_fin hr ⟨F, hW, h0, h3, h4, rfl⟩
  refine Ref.seq (B := G8 w0 F0) ?_ ?_
  · refine Ref.region (fun s ρ w s' h hr => ?_); obtain ⟨F, hW, h3, h4⟩ := h; refine ol_m rfl ?_; refine ol_m h4 ?_; refine ol_e (f_bslF sl_106 hW ([s.now_4] : List ByteArray) [.string s.now_4] (by exact ⟨_, _, rfl, (val_str _), rfl⟩) rfl (Nat.le_of_ble_eq_true rfl) (lcons (congrArg (Prod.mk 0) rfl) rfl)) rfl rfl ?_; rintro v19 w20 ⟨Fz22, kw1, ho21⟩; have hW23 := hW.trans kw1; have st1 := kw1.stp hW.ok; obtain ⟨x24, hx24, hr⟩ := bind_some' hr; refine ol_e (f_app sl_106 hW23 (h3.wk kw1 hW.ok) ho21 hx24 rfl rfl) rfl rfl ?_; rintro v25 w26 ⟨hW27, ho28, hg2, st2, hor29⟩; refine ol_a rfl ?_; exact ol_fin hr ⟨Fz22, hW27, ho28⟩
  exact Ref.ret (fun s ρ w h => ⟨s, rfl, h⟩)
def post (w : World) (F : BSet) (r : R) (v : Value) (w' : World) : Prop := ∃ (F' : BSet) (v0' : Value), v = v0' ∧ Wk nrow w F F' w' ∧ OwnV kStr 9 (Nw w) F' w' v0' r
theorem calls {w : World} {F : BSet} (hok : ∀ b, F b → b < w.heap.size) (a0 : ByteArray) {r : R} (hf : f a0 = some r) : Calls Tryd.prog 70 #[.string a0] w fun e w' => ∃ v, e = .returned v ∧ post w F r v w' := by
  obtain ⟨c, hc, href⟩ := ref w F; refine calls_of_ref (args := [.string a0]) _ Tryd.func70 hc rfl rfl href ?_ (retOf_some hf) ?_
  · exact ⟨F, Wk.refl hok, rfl⟩
  · rintro ρ w' a ⟨s, rfl, F', hW, h2⟩ hF; refine ⟨_, run_results (rs := [.tmp 2]) rfl hF (vs := [ρ 2]) (⟨_, rfl, rfl⟩), ?_⟩; exact ⟨F', ρ 2, rfl, hW, h2.rebase (fun g hg => (h2.lt hg).1.resolve_right (fun h => h))⟩
end
end ref3_components

namespace ref3_RefName
section
abbrev c3 (F : BSet) (w : World) (ρ : Env) (s : S) (X : Prop) : Prop := SlR kStr F w (ρ 3) s.t_3 ∧ X
abbrev c4 (ρ : Env) (s : S) (X : Prop) : Prop := ρ 4 = .int .i64 s.t_4 ∧ X
def G0 : GT S := fun w0 F0 s ρ w => ∃ F, Wk nrow w0 F0 F w ∧ ρ 0 = .string s.t_0
def G1 : GT S := fun w0 F0 s ρ w => ∃ F, Wk nrow w0 F0 F w ∧ ρ 0 = .string s.t_0 ∧ ρ 10 = .bool s.t_10
def G2 : GT S := fun w0 F0 s ρ w => ∃ F, Wk nrow w0 F0 F w
def G3 : GT S := fun w0 F0 s ρ w => ∃ F, Wk nrow w0 F0 F w ∧ ρ 2 = .bool s.t_2
def G4 : GT S := fun w0 F0 s ρ w => ∃ F, Wk nrow w0 F0 F w ∧ SlR kStr F w (ρ 3) s.t_3
def G5 : GT S := fun w0 F0 s ρ w => ∃ F, Wk nrow w0 F0 F w ∧ c3 F w ρ s (ρ 4 = .int .i64 s.t_4)
def G6 : GT S := fun w0 F0 s ρ w => ∃ F, Wk nrow w0 F0 F w ∧ c3 F w ρ s (c4 ρ s (ρ 16 = .bool s.t_16))
def G7 : GT S := fun w0 F0 s ρ w => ∃ F, Wk nrow w0 F0 F w ∧ c3 F w ρ s (c4 ρ s (ρ 5 = .string s.t_5))
def G8 : GT S := fun w0 F0 s ρ w => ∃ F, Wk nrow w0 F0 F w ∧ c3 F w ρ s (c4 ρ s (ρ 5 = .string s.t_5 ∧ ρ 42 = .bool s.t_42))
def G9 : GT S := fun w0 F0 s ρ w => ∃ F, Wk nrow w0 F0 F w ∧ c3 F w ρ s (c4 ρ s (ρ 5 = .string s.t_5 ∧ ρ 6 = .int .i64 s.t_6))
def G10 : GT S := fun w0 F0 s ρ w => ∃ F, Wk nrow w0 F0 F w ∧ c3 F w ρ s (c4 ρ s (ρ 5 = .string s.t_5 ∧ ρ 6 = .int .i64 s.t_6 ∧ ρ 46 = .bool s.t_46))
def G11 : GT S := fun w0 F0 s ρ w => ∃ F, Wk nrow w0 F0 F w ∧ c3 F w ρ s (c4 ρ s (ρ 5 = .string s.t_5 ∧ ρ 6 = .int .i64 s.t_6 ∧ ρ 7 = .int .u8 (s.t_7.toNat : Int)))
def G12 : GT S := fun w0 F0 s ρ w => ∃ F, Wk nrow w0 F0 F w ∧ c3 F w ρ s (c4 ρ s (ρ 5 = .string s.t_5 ∧ ρ 6 = .int .i64 s.t_6 ∧ ρ 93 = .bool s.t_93))
set_option maxHeartbeats 4000000 in
set_option maxRecDepth 20000 in
theorem ref (w0 : World) (F0 : BSet) : ∃ c, Tryd.f50.body = some c ∧ Ref Tryd.prog 94 c (G0 w0 F0) body (fun _ _ _ => False) (fun _ _ _ _ => False) (fun r ρ w => ∃ s, retv s = r ∧ G3 w0 F0 s ρ w) := by
  refine ⟨_, rfl, ?_⟩; unfold body; refine Ref.seq (B := G0 w0 F0) ?_ ?_
  · refine Ref.region (fun s ρ w s' h hr => ?_); obtain ⟨F, hW, h0⟩ := h; refine ol_a rfl ?_; exact ol_fin hr ⟨F, hW, h0⟩
  refine Ref.seq (B := G0 w0 F0) ?_ ?_
  · refine Ref.seq (B := G1 w0 F0) ?_ ?_
    · refine Ref.region (fun s ρ w s' h hr => ?_); obtain ⟨F, hW, h0⟩ := h; refine ol_m h0 ?_; refine ol_v (e_lenS (by kernel_rfl) rfl) rfl ?_; refine ol_v (e_gtr rfl rfl) rfl ?_; exact ol_fin hr ⟨F, hW, h0, rfl⟩
    refine Ref.condP (b := fun s => s.t_10) (L := G2 w0 F0) (K := G0 w0 F0) ?_ ?_ ?_
    · rintro s ρ w ⟨F, hW, h0, h10⟩; exact ⟨h10, ⟨F, hW⟩, F, hW, h0⟩
    · refine Ref.seq (B := G3 w0 F0) ?_ ?_
      · refine Ref.region (fun s ρ w s' h hr => ?_); obtain ⟨F, hW⟩ := h; refine ol_a rfl ?_; exact ol_fin hr ⟨F, hW, rfl⟩
      exact Ref.ret (fun s ρ w h => ⟨s, rfl, h⟩)
    · exact Ref.skip
  refine Ref.seq (B := G4 w0 F0) ?_ ?_
  · refine Ref.region (fun s ρ w s' h hr => ?_); obtain ⟨F, hW, h0⟩ := h; refine ol_m h0 ?_; obtain ⟨x1, hx1, hr⟩ := bind_some' hr; refine ol_e (f_call [.string s.t_0] fn_70 (lcons rfl rfl) (ref3_components.calls hW.ok s.t_0 hx1)) rfl rfl ?_; rintro v8 w2 ⟨Fz3, _, rfl, kw1, hk9⟩; have hW11 := hW.trans kw1; have st1 := kw1.stp hW.ok; obtain ⟨Fz12, hWz13, st2, hF2, hz14⟩ := ((hk9.base (row := nrow) hW.le)).frozen hW11; refine ol_a rfl ?_; exact ol_fin hr ⟨Fz12, hWz13, hz14⟩
  refine Ref.seq (B := G2 w0 F0) ?_ ?_
  · refine Ref.seq (B := G5 w0 F0) ?_ ?_
    · refine Ref.region (fun s ρ w s' h hr => ?_); obtain ⟨F, hW, h3⟩ := h; refine ol_a rfl ?_; exact ol_fin hr ⟨F, hW, h3, rfl⟩
    refine Ref.block ?_; refine Ref.loop ?_; refine Ref.seq (B := G5 w0 F0) ?_ ?_
    · refine Ref.seq (B := G6 w0 F0) ?_ ?_
      · refine Ref.region (fun s ρ w s' h hr => ?_); obtain ⟨F, hW, h3, h4⟩ := h; refine ol_m h4 ?_; refine ol_m rfl ?_; obtain ⟨A15, c16, e17, hc18, R19⟩ := id h3; refine ol_v (e_len (SlT.sl sl_106) e17) rfl ?_; refine ol_v (e_lss rfl rfl) rfl ?_; exact ol_fin hr ⟨F, hW, h3, h4, rfl⟩
      refine Ref.condP (b := fun s => s.t_16) (L := G5 w0 F0) (K := G2 w0 F0) ?_ ?_ ?_
      · rintro s ρ w ⟨F, hW, h3, h4, h16⟩; exact ⟨h16, ⟨F, hW, h3, h4⟩, F, hW⟩
      · exact Ref.skip
      · exact Ref.exit (fun s ρ w h => h)
    refine Ref.seq (B := G5 w0 F0) ?_ ?_
    · refine Ref.block ?_; refine Ref.seq (B := G7 w0 F0) ?_ ?_
      · refine Ref.region (fun s ρ w s' h hr => ?_); obtain ⟨F, hW, h3, h4⟩ := h; refine ol_m rfl ?_; refine ol_m h4 ?_; obtain ⟨x20, hx20, hr⟩ := bind_some' hr; obtain ⟨A21, c22, e23, hc24, R25⟩ := id h3; obtain ⟨b26, o27, hA28, L29⟩ := Row.at_ R25 hx20; refine ol_v (e_ix (SlT.sl sl_106) (SlT.sz sl_106) hA28 hx20 e23 rfl) rfl ?_; refine ol_v (e_ld ty_9 (LiesV.str L29.at_) rfl) rfl ?_; refine ol_a rfl ?_; exact ol_fin hr ⟨F, hW, h3, h4, rfl⟩
      refine Ref.seq (B := G7 w0 F0) ?_ ?_
      · refine Ref.seq (B := G8 w0 F0) ?_ ?_
        · refine Ref.region (fun s ρ w s' h hr => ?_); obtain ⟨F, hW, h3, h4, h5⟩ := h; refine ol_m h5 ?_; refine ol_v (e_seql rfl rfl) rfl ?_; obtain ⟨x33, hx34, hr⟩ := bind_some' hr; refine ol_cutA 5 25 29 (fun ρ' w' => w = w' ∧ ρ' 29 = .bool x33) rfl ?_ ?_
          · by_cases hb30 : (decide (s.t_5 = (⟨#[]⟩ : ByteArray))) = true
            · have hr := hx34; rw [if_pos hb30] at hr; refine ol_m rfl ?_; refine ol_not rfl rfl rfl (congrArg Value.bool hb30) rfl ?_; refine ol_not rfl rfl rfl (congrArg Value.bool hb30) rfl ?_; refine ol_not rfl rfl rfl (congrArg Value.bool hb30) rfl ?_; refine ol_v (e_pick true _ (congrArg Value.bool hb30) rfl) rfl ?_; exact ol_nil ⟨⟨rfl, (congrArg Value.bool (Option.some.inj hr))⟩, (Agr.refl _ _ _).u.u.u.u.u⟩
            · have hb31 := Bool.eq_false_iff.mpr hb30; have hr := hx34; rw [if_neg hb30] at hr; refine ol_m rfl ?_; refine ol_yes rfl rfl (congrArg Value.bool hb31) ?_; refine ol_m h5 ?_; refine ol_yes rfl rfl (congrArg Value.bool hb31) ?_; obtain ⟨b32, hb32, hr⟩ := bind_some' hr; refine ol_v (e_ixS (by kernel_rfl) rfl rfl hb32) rfl ?_; refine ol_yes rfl rfl (congrArg Value.bool hb31) ?_; refine ol_v (e_eql rfl rfl) rfl ?_; refine ol_v (e_pick false _ (congrArg Value.bool hb31) rfl) rfl ?_; exact ol_nil ⟨⟨rfl, (congrArg Value.bool (Option.some.inj hr))⟩, (Agr.refl _ _ _).u.u.u.u.u⟩
          rintro ρ34 _ ⟨⟨rfl, hp34⟩, hAg34⟩; obtain ⟨x42, hx43, hr⟩ := bind_some' hr; refine ol_cutA 13 30 42 (fun ρ' w' => w = w' ∧ ρ' 42 = .bool x42) rfl ?_ ?_
          · by_cases hb35 : x33 = true
            · have hr := hx43; rw [if_pos hb35] at hr; refine ol_m hp34 ?_; refine ol_not rfl rfl rfl (congrArg Value.bool hb35) rfl ?_; refine ol_not rfl rfl rfl (congrArg Value.bool hb35) rfl ?_; refine ol_not rfl rfl rfl (congrArg Value.bool hb35) rfl ?_; refine ol_not rfl rfl rfl (congrArg Value.bool hb35) rfl ?_; refine ol_notU rfl rfl rfl rfl ?_; refine ol_notU rfl rfl rfl rfl ?_; refine ol_notU rfl rfl rfl rfl ?_; refine ol_notU rfl rfl rfl rfl ?_; refine ol_notU rfl rfl rfl rfl ?_; refine ol_notU rfl rfl rfl rfl ?_; refine ol_not rfl rfl rfl (congrArg Value.bool hb35) rfl ?_; refine ol_v (e_pick true _ (congrArg Value.bool hb35) rfl) rfl ?_; exact ol_nil ⟨⟨rfl, (congrArg Value.bool (Option.some.inj hr))⟩, (Agr.refl _ _ _).u.u.u.u.u.u.u.u.u.u.u.u.u⟩
            · have hb36 := Bool.eq_false_iff.mpr hb35; have hr := hx43; rw [if_neg hb35] at hr; refine ol_m hp34 ?_; refine ol_yes rfl rfl (congrArg Value.bool hb36) ?_; refine ol_v (e_mv _ ((hAg34 5 rfl).trans h5)) rfl ?_; refine ol_yes rfl rfl (congrArg Value.bool hb36) ?_; refine ol_v (e_lenS (by kernel_rfl) rfl) rfl ?_; refine ol_yes rfl rfl (congrArg Value.bool hb36) ?_; refine ol_v (e_geq rfl rfl) rfl ?_; refine ol_yes rfl rfl (congrArg Value.bool hb36) ?_; obtain ⟨x40, hx41, hr⟩ := bind_some' hr; refine ol_cutA 8 34 41 (fun ρ' w' => w = w' ∧ ρ' 41 = .bool x40) rfl ?_ ?_
              · by_cases hb37 : (decide ((5 : Int) ≤ (s.t_5.size : Int))) = true
                · have hr := hx41; rw [if_pos hb37] at hr; refine ol_m rfl ?_; refine ol_yes rfl rfl (congrArg Value.bool hb37) ?_; refine ol_v (e_mv _ ((hAg34 5 rfl).trans h5)) rfl ?_; refine ol_yes rfl rfl (congrArg Value.bool hb37) ?_; refine ol_v (e_mv _ ((hAg34 5 rfl).trans h5)) rfl ?_; refine ol_yes rfl rfl (congrArg Value.bool hb37) ?_; refine ol_v (e_lenS (by kernel_rfl) rfl) rfl ?_; refine ol_yes rfl rfl (congrArg Value.bool hb37) ?_; refine ol_v (e_sub rfl rfl) rfl ?_; refine ol_yes rfl rfl (congrArg Value.bool hb37) ?_; obtain ⟨x39, hx39, hr⟩ := bind_some' hr; refine ol_v (e_cutSL (by kernel_rfl) rfl rfl hx39) rfl ?_; refine ol_yes rfl rfl (congrArg Value.bool hb37) ?_; refine ol_v (e_seql rfl rfl) rfl ?_; refine ol_yes rfl rfl (congrArg Value.bool hb36) ?_; refine ol_v (e_pick true _ (congrArg Value.bool hb37) rfl) rfl ?_; exact ol_nil ⟨⟨rfl, (congrArg Value.bool (Option.some.inj hr))⟩, (Agr.refl _ _ _).u.u.u.u.u.u.u.u⟩
                · have hb38 := Bool.eq_false_iff.mpr hb37; have hr := hx41; rw [if_neg hb37] at hr; refine ol_m rfl ?_; refine ol_not rfl rfl rfl (congrArg Value.bool hb38) rfl ?_; refine ol_not rfl rfl rfl (congrArg Value.bool hb38) rfl ?_; refine ol_not rfl rfl rfl (congrArg Value.bool hb38) rfl ?_; refine ol_not rfl rfl rfl (congrArg Value.bool hb38) rfl ?_; refine ol_not rfl rfl rfl (congrArg Value.bool hb38) rfl ?_; refine ol_not rfl rfl rfl (congrArg Value.bool hb38) rfl ?_; refine ol_yes rfl rfl (congrArg Value.bool hb36) ?_; refine ol_v (e_pick false _ (congrArg Value.bool hb38) rfl) rfl ?_; exact ol_nil ⟨⟨rfl, (congrArg Value.bool (Option.some.inj hr))⟩, (Agr.refl _ _ _).u.u.u.u.u.u.u.u⟩
              rintro ρ41 _ ⟨⟨rfl, hp41⟩, hAg41⟩; refine ol_v (e_pick false _ ((hAg41 30 rfl).trans (congrArg Value.bool hb36)) hp41) rfl ?_; exact ol_nil ⟨⟨rfl, (congrArg Value.bool (Option.some.inj hr))⟩, (((Agr.refl _ _ _).u.u.u.u.into hAg41 rfl rfl).upd rfl rfl)⟩
          rintro ρ43 _ ⟨⟨rfl, hp43⟩, hAg43⟩; exact ol_fin hr ⟨F, hW, (SlR.eqv ((hAg43 3 rfl).trans (hAg34 3 rfl)) h3), ((hAg43 4 rfl).trans ((hAg34 4 rfl).trans h4)), ((hAg43 5 rfl).trans ((hAg34 5 rfl).trans h5)), hp43⟩
        refine Ref.condP (b := fun s => s.t_42) (L := G2 w0 F0) (K := G7 w0 F0) ?_ ?_ ?_
        · rintro s ρ w ⟨F, hW, h3, h4, h5, h42⟩; exact ⟨h42, ⟨F, hW⟩, F, hW, h3, h4, h5⟩
        · refine Ref.seq (B := G3 w0 F0) ?_ ?_
          · refine Ref.region (fun s ρ w s' h hr => ?_); obtain ⟨F, hW⟩ := h; refine ol_a rfl ?_; exact ol_fin hr ⟨F, hW, rfl⟩
          exact Ref.ret (fun s ρ w h => ⟨s, rfl, h⟩)
        · exact Ref.skip
      refine Ref.seq (B := G9 w0 F0) ?_ ?_
      · refine Ref.region (fun s ρ w s' h hr => ?_); obtain ⟨F, hW, h3, h4, h5⟩ := h; refine ol_a rfl ?_; exact ol_fin hr ⟨F, hW, h3, h4, h5, rfl⟩
      refine Ref.block ?_; refine Ref.loop ?_; refine Ref.seq (B := G9 w0 F0) ?_ ?_
      · refine Ref.seq (B := G10 w0 F0) ?_ ?_
        · refine Ref.region (fun s ρ w s' h hr => ?_); obtain ⟨F, hW, h3, h4, h5, h6⟩ := h; refine ol_m h6 ?_; refine ol_m h5 ?_; refine ol_v (e_lenS (by kernel_rfl) rfl) rfl ?_; refine ol_v (e_lss rfl rfl) rfl ?_; exact ol_fin hr ⟨F, hW, h3, h4, h5, h6, rfl⟩
        refine Ref.condP (b := fun s => s.t_46) (L := G9 w0 F0) (K := G5 w0 F0) ?_ ?_ ?_
        · rintro s ρ w ⟨F, hW, h3, h4, h5, h6, h46⟩; exact ⟨h46, ⟨F, hW, h3, h4, h5, h6⟩, F, hW, h3, h4⟩
        · exact Ref.skip
        · exact Ref.exit (fun s ρ w h => h)
      refine Ref.seq (B := G9 w0 F0) ?_ ?_
      · refine Ref.block ?_; refine Ref.seq (B := G11 w0 F0) ?_ ?_
        · refine Ref.region (fun s ρ w s' h hr => ?_); obtain ⟨F, hW, h3, h4, h5, h6⟩ := h; refine ol_m h5 ?_; refine ol_m h6 ?_; obtain ⟨b44, hb44, hr⟩ := bind_some' hr; refine ol_v (e_ixS (by kernel_rfl) rfl rfl hb44) rfl ?_; refine ol_a rfl ?_; exact ol_fin hr ⟨F, hW, h3, h4, h5, h6, rfl⟩
        refine Ref.seq (B := G12 w0 F0) ?_ ?_
        · refine Ref.region (fun s ρ w s' h hr => ?_); obtain ⟨F, hW, h3, h4, h5, h6, h7⟩ := h; refine ol_m h7 ?_; refine ol_v (e_geq rfl rfl) rfl ?_; refine ol_cutA 4 54 57 (fun ρ' w' => w = w' ∧ ρ' 57 = .bool ((decide ((97 : Int) ≤ (s.t_7.toNat : Int))) && (decide ((s.t_7.toNat : Int) ≤ (122 : Int))))) rfl ?_ ?_
          · by_cases hb45 : (decide ((97 : Int) ≤ (s.t_7.toNat : Int))) = true
            · refine ol_m rfl ?_; refine ol_yes rfl rfl (congrArg Value.bool hb45) ?_; refine ol_m h7 ?_; refine ol_yes rfl rfl (congrArg Value.bool hb45) ?_; refine ol_v (e_leq rfl rfl) rfl ?_; refine ol_v (e_pick true _ (congrArg Value.bool hb45) rfl) rfl ?_; exact ol_nil ⟨⟨rfl, (bv_and_t hb45)⟩, (Agr.refl _ _ _).u.u.u.u⟩
            · have hb46 := Bool.eq_false_iff.mpr hb45; refine ol_m rfl ?_; refine ol_not rfl rfl rfl (congrArg Value.bool hb46) rfl ?_; refine ol_not rfl rfl rfl (congrArg Value.bool hb46) rfl ?_; refine ol_v (e_pick false _ (congrArg Value.bool hb46) rfl) rfl ?_; exact ol_nil ⟨⟨rfl, (bv_and_f hb46)⟩, (Agr.refl _ _ _).u.u.u.u⟩
          rintro ρ47 _ ⟨⟨rfl, hp47⟩, hAg47⟩; refine ol_cutA 8 58 65 (fun ρ' w' => w = w' ∧ ρ' 65 = .bool (((decide ((97 : Int) ≤ (s.t_7.toNat : Int))) && (decide ((s.t_7.toNat : Int) ≤ (122 : Int)))) || ((decide ((48 : Int) ≤ (s.t_7.toNat : Int))) && (decide ((s.t_7.toNat : Int) ≤ (57 : Int)))))) rfl ?_ ?_
          · by_cases hb48 : ((decide ((97 : Int) ≤ (s.t_7.toNat : Int))) && (decide ((s.t_7.toNat : Int) ≤ (122 : Int)))) = true
            · refine ol_m hp47 ?_; refine ol_not rfl rfl rfl (congrArg Value.bool hb48) rfl ?_; refine ol_not rfl rfl rfl (congrArg Value.bool hb48) rfl ?_; refine ol_not rfl rfl rfl (congrArg Value.bool hb48) rfl ?_; refine ol_notU rfl rfl rfl rfl ?_; refine ol_notU rfl rfl rfl rfl ?_; refine ol_not rfl rfl rfl (congrArg Value.bool hb48) rfl ?_; refine ol_v (e_pick true _ (congrArg Value.bool hb48) rfl) rfl ?_; exact ol_nil ⟨⟨rfl, (bv_or_t hb48)⟩, (Agr.refl _ _ _).u.u.u.u.u.u.u.u⟩
            · have hb49 := Bool.eq_false_iff.mpr hb48; refine ol_m hp47 ?_; refine ol_yes rfl rfl (congrArg Value.bool hb49) ?_; refine ol_v (e_mv _ ((hAg47 7 rfl).trans h7)) rfl ?_; refine ol_yes rfl rfl (congrArg Value.bool hb49) ?_; refine ol_v (e_geq rfl rfl) rfl ?_; refine ol_yes rfl rfl (congrArg Value.bool hb49) ?_; refine ol_cutA 4 61 64 (fun ρ' w' => w = w' ∧ ρ' 64 = .bool ((decide ((48 : Int) ≤ (s.t_7.toNat : Int))) && (decide ((s.t_7.toNat : Int) ≤ (57 : Int))))) rfl ?_ ?_
              · by_cases hb50 : (decide ((48 : Int) ≤ (s.t_7.toNat : Int))) = true
                · refine ol_m rfl ?_; refine ol_yes rfl rfl (congrArg Value.bool hb50) ?_; refine ol_v (e_mv _ ((hAg47 7 rfl).trans h7)) rfl ?_; refine ol_yes rfl rfl (congrArg Value.bool hb50) ?_; refine ol_v (e_leq rfl rfl) rfl ?_; refine ol_yes rfl rfl (congrArg Value.bool hb49) ?_; refine ol_v (e_pick true _ (congrArg Value.bool hb50) rfl) rfl ?_; exact ol_nil ⟨⟨rfl, (bv_and_t hb50)⟩, (Agr.refl _ _ _).u.u.u.u⟩
                · have hb51 := Bool.eq_false_iff.mpr hb50; refine ol_m rfl ?_; refine ol_not rfl rfl rfl (congrArg Value.bool hb51) rfl ?_; refine ol_not rfl rfl rfl (congrArg Value.bool hb51) rfl ?_; refine ol_yes rfl rfl (congrArg Value.bool hb49) ?_; refine ol_v (e_pick false _ (congrArg Value.bool hb51) rfl) rfl ?_; exact ol_nil ⟨⟨rfl, (bv_and_f hb51)⟩, (Agr.refl _ _ _).u.u.u.u⟩
              rintro ρ52 _ ⟨⟨rfl, hp52⟩, hAg52⟩; refine ol_v (e_pick false _ ((hAg52 58 rfl).trans (congrArg Value.bool hb49)) hp52) rfl ?_; exact ol_nil ⟨⟨rfl, (bv_or_f hb49)⟩, (((Agr.refl _ _ _).u.u.u.into hAg52 rfl rfl).upd rfl rfl)⟩
          rintro ρ53 _ ⟨⟨rfl, hp53⟩, hAg53⟩; refine ol_cutA 4 66 69 (fun ρ' w' => w = w' ∧ ρ' 69 = .bool ((((decide ((97 : Int) ≤ (s.t_7.toNat : Int))) && (decide ((s.t_7.toNat : Int) ≤ (122 : Int)))) || ((decide ((48 : Int) ≤ (s.t_7.toNat : Int))) && (decide ((s.t_7.toNat : Int) ≤ (57 : Int))))) || (decide ((s.t_7.toNat : Int) = (45 : Int))))) rfl ?_ ?_
          · by_cases hb54 : (((decide ((97 : Int) ≤ (s.t_7.toNat : Int))) && (decide ((s.t_7.toNat : Int) ≤ (122 : Int)))) || ((decide ((48 : Int) ≤ (s.t_7.toNat : Int))) && (decide ((s.t_7.toNat : Int) ≤ (57 : Int))))) = true
            · refine ol_m hp53 ?_; refine ol_not rfl rfl rfl (congrArg Value.bool hb54) rfl ?_; refine ol_not rfl rfl rfl (congrArg Value.bool hb54) rfl ?_; refine ol_v (e_pick true _ (congrArg Value.bool hb54) rfl) rfl ?_; exact ol_nil ⟨⟨rfl, (bv_or_t hb54)⟩, (Agr.refl _ _ _).u.u.u.u⟩
            · have hb55 := Bool.eq_false_iff.mpr hb54; refine ol_m hp53 ?_; refine ol_yes rfl rfl (congrArg Value.bool hb55) ?_; refine ol_v (e_mv _ ((hAg53 7 rfl).trans ((hAg47 7 rfl).trans h7))) rfl ?_; refine ol_yes rfl rfl (congrArg Value.bool hb55) ?_; refine ol_v (e_eql rfl rfl) rfl ?_; refine ol_v (e_pick false _ (congrArg Value.bool hb55) rfl) rfl ?_; exact ol_nil ⟨⟨rfl, (bv_or_f hb55)⟩, (Agr.refl _ _ _).u.u.u.u⟩
          rintro ρ56 _ ⟨⟨rfl, hp56⟩, hAg56⟩; refine ol_cutA 4 70 73 (fun ρ' w' => w = w' ∧ ρ' 73 = .bool (((((decide ((97 : Int) ≤ (s.t_7.toNat : Int))) && (decide ((s.t_7.toNat : Int) ≤ (122 : Int)))) || ((decide ((48 : Int) ≤ (s.t_7.toNat : Int))) && (decide ((s.t_7.toNat : Int) ≤ (57 : Int))))) || (decide ((s.t_7.toNat : Int) = (45 : Int)))) || (decide ((s.t_7.toNat : Int) = (95 : Int))))) rfl ?_ ?_
          · by_cases hb57 : ((((decide ((97 : Int) ≤ (s.t_7.toNat : Int))) && (decide ((s.t_7.toNat : Int) ≤ (122 : Int)))) || ((decide ((48 : Int) ≤ (s.t_7.toNat : Int))) && (decide ((s.t_7.toNat : Int) ≤ (57 : Int))))) || (decide ((s.t_7.toNat : Int) = (45 : Int)))) = true
            · refine ol_m hp56 ?_; refine ol_not rfl rfl rfl (congrArg Value.bool hb57) rfl ?_; refine ol_not rfl rfl rfl (congrArg Value.bool hb57) rfl ?_; refine ol_v (e_pick true _ (congrArg Value.bool hb57) rfl) rfl ?_; exact ol_nil ⟨⟨rfl, (bv_or_t hb57)⟩, (Agr.refl _ _ _).u.u.u.u⟩
            · have hb58 := Bool.eq_false_iff.mpr hb57; refine ol_m hp56 ?_; refine ol_yes rfl rfl (congrArg Value.bool hb58) ?_; refine ol_v (e_mv _ ((hAg56 7 rfl).trans ((hAg53 7 rfl).trans ((hAg47 7 rfl).trans h7)))) rfl ?_; refine ol_yes rfl rfl (congrArg Value.bool hb58) ?_; refine ol_v (e_eql rfl rfl) rfl ?_; refine ol_v (e_pick false _ (congrArg Value.bool hb58) rfl) rfl ?_; exact ol_nil ⟨⟨rfl, (bv_or_f hb58)⟩, (Agr.refl _ _ _).u.u.u.u⟩
          rintro ρ59 _ ⟨⟨rfl, hp59⟩, hAg59⟩; refine ol_cutA 4 74 77 (fun ρ' w' => w = w' ∧ ρ' 77 = .bool ((((((decide ((97 : Int) ≤ (s.t_7.toNat : Int))) && (decide ((s.t_7.toNat : Int) ≤ (122 : Int)))) || ((decide ((48 : Int) ≤ (s.t_7.toNat : Int))) && (decide ((s.t_7.toNat : Int) ≤ (57 : Int))))) || (decide ((s.t_7.toNat : Int) = (45 : Int)))) || (decide ((s.t_7.toNat : Int) = (95 : Int)))) || (decide ((s.t_7.toNat : Int) = (46 : Int))))) rfl ?_ ?_
          · by_cases hb60 : (((((decide ((97 : Int) ≤ (s.t_7.toNat : Int))) && (decide ((s.t_7.toNat : Int) ≤ (122 : Int)))) || ((decide ((48 : Int) ≤ (s.t_7.toNat : Int))) && (decide ((s.t_7.toNat : Int) ≤ (57 : Int))))) || (decide ((s.t_7.toNat : Int) = (45 : Int)))) || (decide ((s.t_7.toNat : Int) = (95 : Int)))) = true
            · refine ol_m hp59 ?_; refine ol_not rfl rfl rfl (congrArg Value.bool hb60) rfl ?_; refine ol_not rfl rfl rfl (congrArg Value.bool hb60) rfl ?_; refine ol_v (e_pick true _ (congrArg Value.bool hb60) rfl) rfl ?_; exact ol_nil ⟨⟨rfl, (bv_or_t hb60)⟩, (Agr.refl _ _ _).u.u.u.u⟩
            · have hb61 := Bool.eq_false_iff.mpr hb60; refine ol_m hp59 ?_; refine ol_yes rfl rfl (congrArg Value.bool hb61) ?_; refine ol_v (e_mv _ ((hAg59 7 rfl).trans ((hAg56 7 rfl).trans ((hAg53 7 rfl).trans ((hAg47 7 rfl).trans h7))))) rfl ?_; refine ol_yes rfl rfl (congrArg Value.bool hb61) ?_; refine ol_v (e_eql rfl rfl) rfl ?_; refine ol_v (e_pick false _ (congrArg Value.bool hb61) rfl) rfl ?_; exact ol_nil ⟨⟨rfl, (bv_or_f hb61)⟩, (Agr.refl _ _ _).u.u.u.u⟩
          rintro ρ62 _ ⟨⟨rfl, hp62⟩, hAg62⟩; refine ol_v (e_not_ hp62) rfl ?_; obtain ⟨x73, hx74, hr⟩ := bind_some' hr; refine ol_cutA 15 79 93 (fun ρ' w' => w = w' ∧ ρ' 93 = .bool x73) rfl ?_ ?_
          · by_cases hb63 : (!((((((decide ((97 : Int) ≤ (s.t_7.toNat : Int))) && (decide ((s.t_7.toNat : Int) ≤ (122 : Int)))) || ((decide ((48 : Int) ≤ (s.t_7.toNat : Int))) && (decide ((s.t_7.toNat : Int) ≤ (57 : Int))))) || (decide ((s.t_7.toNat : Int) = (45 : Int)))) || (decide ((s.t_7.toNat : Int) = (95 : Int)))) || (decide ((s.t_7.toNat : Int) = (46 : Int))))) = true
            · have hr := hx74; rw [if_pos hb63] at hr; refine ol_m rfl ?_; refine ol_not rfl rfl rfl (congrArg Value.bool hb63) rfl ?_; refine ol_not rfl rfl rfl (congrArg Value.bool hb63) rfl ?_; refine ol_not rfl rfl rfl (congrArg Value.bool hb63) rfl ?_; refine ol_notU rfl rfl rfl rfl ?_; refine ol_notU rfl rfl rfl rfl ?_; refine ol_not rfl rfl rfl (congrArg Value.bool hb63) rfl ?_; refine ol_not rfl rfl rfl (congrArg Value.bool hb63) rfl ?_; refine ol_notU rfl rfl rfl rfl ?_; refine ol_notU rfl rfl rfl rfl ?_; refine ol_notU rfl rfl rfl rfl ?_; refine ol_notU rfl rfl rfl rfl ?_; refine ol_notU rfl rfl rfl rfl ?_; refine ol_not rfl rfl rfl (congrArg Value.bool hb63) rfl ?_; refine ol_v (e_pick true _ (congrArg Value.bool hb63) rfl) rfl ?_; exact ol_nil ⟨⟨rfl, (congrArg Value.bool (Option.some.inj hr))⟩, (Agr.refl _ _ _).u.u.u.u.u.u.u.u.u.u.u.u.u.u.u⟩
            · have hb64 := Bool.eq_false_iff.mpr hb63; have hr := hx74; rw [if_neg hb63] at hr; refine ol_m rfl ?_; refine ol_yes rfl rfl (congrArg Value.bool hb64) ?_; refine ol_v (e_mv _ ((hAg62 6 rfl).trans ((hAg59 6 rfl).trans ((hAg56 6 rfl).trans ((hAg53 6 rfl).trans ((hAg47 6 rfl).trans h6)))))) rfl ?_; refine ol_yes rfl rfl (congrArg Value.bool hb64) ?_; refine ol_v (e_gtr rfl rfl) rfl ?_; refine ol_yes rfl rfl (congrArg Value.bool hb64) ?_; refine ol_cutA 4 82 85 (fun ρ' w' => w = w' ∧ ρ' 85 = .bool ((decide ((0 : Int) < s.t_6)) && (decide ((s.t_7.toNat : Int) = (46 : Int))))) rfl ?_ ?_
              · by_cases hb65 : (decide ((0 : Int) < s.t_6)) = true
                · refine ol_m rfl ?_; refine ol_yes rfl rfl (congrArg Value.bool hb65) ?_; refine ol_v (e_mv _ ((hAg62 7 rfl).trans ((hAg59 7 rfl).trans ((hAg56 7 rfl).trans ((hAg53 7 rfl).trans ((hAg47 7 rfl).trans h7)))))) rfl ?_; refine ol_yes rfl rfl (congrArg Value.bool hb65) ?_; refine ol_v (e_eql rfl rfl) rfl ?_; refine ol_yes rfl rfl (congrArg Value.bool hb64) ?_; refine ol_v (e_pick true _ (congrArg Value.bool hb65) rfl) rfl ?_; exact ol_nil ⟨⟨rfl, (bv_and_t hb65)⟩, (Agr.refl _ _ _).u.u.u.u⟩
                · have hb66 := Bool.eq_false_iff.mpr hb65; refine ol_m rfl ?_; refine ol_not rfl rfl rfl (congrArg Value.bool hb66) rfl ?_; refine ol_not rfl rfl rfl (congrArg Value.bool hb66) rfl ?_; refine ol_yes rfl rfl (congrArg Value.bool hb64) ?_; refine ol_v (e_pick false _ (congrArg Value.bool hb66) rfl) rfl ?_; exact ol_nil ⟨⟨rfl, (bv_and_f hb66)⟩, (Agr.refl _ _ _).u.u.u.u⟩
              rintro ρ67 _ ⟨⟨rfl, hp67⟩, hAg67⟩; refine ol_yes rfl rfl ((hAg67 79 rfl).trans (congrArg Value.bool hb64)) ?_; obtain ⟨x71, hx72, hr⟩ := bind_some' hr; refine ol_cutA 7 86 92 (fun ρ' w' => w = w' ∧ ρ' 92 = .bool x71) rfl ?_ ?_
              · by_cases hb68 : ((decide ((0 : Int) < s.t_6)) && (decide ((s.t_7.toNat : Int) = (46 : Int)))) = true
                · have hr := hx72; rw [if_pos hb68] at hr; refine ol_m hp67 ?_; refine ol_yes rfl rfl (congrArg Value.bool hb68) ?_; refine ol_v (e_mv _ ((hAg67 5 rfl).trans ((hAg62 5 rfl).trans ((hAg59 5 rfl).trans ((hAg56 5 rfl).trans ((hAg53 5 rfl).trans ((hAg47 5 rfl).trans h5))))))) rfl ?_; refine ol_yes rfl rfl (congrArg Value.bool hb68) ?_; refine ol_v (e_mv _ ((hAg67 6 rfl).trans ((hAg62 6 rfl).trans ((hAg59 6 rfl).trans ((hAg56 6 rfl).trans ((hAg53 6 rfl).trans ((hAg47 6 rfl).trans h6))))))) rfl ?_; refine ol_yes rfl rfl (congrArg Value.bool hb68) ?_; refine ol_v (e_sub rfl rfl) rfl ?_; refine ol_yes rfl rfl (congrArg Value.bool hb68) ?_; obtain ⟨b70, hb70, hr⟩ := bind_some' hr; refine ol_v (e_ixS (by kernel_rfl) rfl rfl hb70) rfl ?_; refine ol_yes rfl rfl (congrArg Value.bool hb68) ?_; refine ol_v (e_eql rfl rfl) rfl ?_; refine ol_yes rfl rfl ((hAg67 79 rfl).trans (congrArg Value.bool hb64)) ?_; refine ol_v (e_pick true _ (congrArg Value.bool hb68) rfl) rfl ?_; exact ol_nil ⟨⟨rfl, (congrArg Value.bool (Option.some.inj hr))⟩, (Agr.refl _ _ _).u.u.u.u.u.u.u⟩
                · have hb69 := Bool.eq_false_iff.mpr hb68; have hr := hx72; rw [if_neg hb68] at hr; refine ol_m hp67 ?_; refine ol_not rfl rfl rfl (congrArg Value.bool hb69) rfl ?_; refine ol_not rfl rfl rfl (congrArg Value.bool hb69) rfl ?_; refine ol_not rfl rfl rfl (congrArg Value.bool hb69) rfl ?_; refine ol_not rfl rfl rfl (congrArg Value.bool hb69) rfl ?_; refine ol_not rfl rfl rfl (congrArg Value.bool hb69) rfl ?_; refine ol_yes rfl rfl ((hAg67 79 rfl).trans (congrArg Value.bool hb64)) ?_; refine ol_v (e_pick false _ (congrArg Value.bool hb69) rfl) rfl ?_; exact ol_nil ⟨⟨rfl, (congrArg Value.bool (Option.some.inj hr))⟩, (Agr.refl _ _ _).u.u.u.u.u.u.u⟩
              rintro ρ72 _ ⟨⟨rfl, hp72⟩, hAg72⟩; refine ol_v (e_pick false _ ((hAg72 79 rfl).trans ((hAg67 79 rfl).trans (congrArg Value.bool hb64))) hp72) rfl ?_; exact ol_nil ⟨⟨rfl, (congrArg Value.bool (Option.some.inj hr))⟩, ((((Agr.refl _ _ _).u.u.u.into hAg67 rfl rfl).into hAg72 rfl rfl).upd rfl rfl)⟩
          rintro ρ74 _ ⟨⟨rfl, hp74⟩, hAg74⟩; exact ol_fin hr ⟨F, hW, (SlR.eqv ((hAg74 3 rfl).trans ((hAg62 3 rfl).trans ((hAg59 3 rfl).trans ((hAg56 3 rfl).trans ((hAg53 3 rfl).trans (hAg47 3 rfl)))))) h3), ((hAg74 4 rfl).trans ((hAg62 4 rfl).trans ((hAg59 4 rfl).trans ((hAg56 4 rfl).trans ((hAg53 4 rfl).trans ((hAg47 4 rfl).trans h4)))))), ((hAg74 5 rfl).trans ((hAg62 5 rfl).trans ((hAg59 5 rfl).trans ((hAg56 5 rfl).trans ((hAg53 5 rfl).trans ((hAg47 5 rfl).trans h5)))))), ((hAg74 6 rfl).trans ((hAg62 6 rfl).trans ((hAg59 6 rfl).trans ((hAg56 6 rfl).trans ((hAg53 6 rfl).trans ((hAg47 6 rfl).trans h6)))))), hp74⟩
        refine Ref.condP (b := fun s => s.t_93) (L := G2 w0 F0) (K := G9 w0 F0) ?_ ?_ ?_
        · rintro s ρ w ⟨F, hW, h3, h4, h5, h6, h93⟩; exact ⟨h93, ⟨F, hW⟩, F, hW, h3, h4, h5, h6⟩
        · refine Ref.seq (B := G3 w0 F0) ?_ ?_
          · refine Ref.region (fun s ρ w s' h hr => ?_); obtain ⟨F, hW⟩ := h; refine ol_a rfl ?_; exact ol_fin hr ⟨F, hW, rfl⟩
          exact Ref.ret (fun s ρ w h => ⟨s, rfl, h⟩)
        · exact Ref.skip
      refine Ref.region (fun s ρ w s' h hr => ?_); obtain ⟨F, hW, h3, h4, h5, h6⟩ := h; refine ol_m h6 ?_; refine ol_v (e_add rfl rfl) rfl ?_; refine ol_a rfl ?_; exact ol_fin hr ⟨F, hW, h3, h4, h5, rfl⟩
    refine Ref.region (fun s ρ w s' h hr => ?_); obtain ⟨F, hW, h3, h4⟩ := h; refine ol_m h4 ?_; refine ol_v (e_add rfl rfl) rfl ?_; refine ol_a rfl ?_; exact ol_fin hr ⟨F, hW, h3, rfl⟩
  refine Ref.seq (B := G3 w0 F0) ?_ ?_
  · refine Ref.region (fun s ρ w s' h hr => ?_); obtain ⟨F, hW⟩ := h; refine ol_a rfl ?_; exact ol_fin hr ⟨F, hW, rfl⟩
  exact Ref.ret (fun s ρ w h => ⟨s, rfl, h⟩)
def post (w : World) (F : BSet) (r : R) (v : Value) (w' : World) : Prop := ∃ (F' : BSet), v = .bool r ∧ Wk nrow w F F' w'
theorem calls {w : World} {F : BSet} (hok : ∀ b, F b → b < w.heap.size) (a0 : ByteArray) {r : R} (hf : f a0 = some r) : Calls Tryd.prog 50 #[.string a0] w fun e w' => ∃ v, e = .returned v ∧ post w F r v w' := by
  obtain ⟨c, hc, href⟩ := ref w F; refine calls_of_ref (args := [.string a0]) _ Tryd.func50 hc rfl rfl href ?_ (retOf_some hf) ?_
  · exact ⟨F, Wk.refl hok, rfl⟩
  · rintro ρ w' a ⟨s, rfl, F', hW, h2⟩ hF; refine ⟨_, run_results (rs := [.tmp 2]) rfl hF (vs := [ρ 2]) (⟨_, rfl, rfl⟩), ?_⟩; have hv : resVal [ρ 2] = .bool s.t_2 := by rw [h2]; rfl
    exact ⟨F', hv, hW⟩
end
end ref3_RefName

namespace ref3_isDigest
section
def G0 : GT S := fun w0 F0 s ρ w => ∃ F, Wk nrow w0 F0 F w ∧ ρ 0 = .int .i64 s.d_0
def G1 : GT S := fun w0 F0 s ρ w => ∃ F, Wk nrow w0 F0 F w ∧ ρ 2 = .bool s.t_2
set_option maxHeartbeats 4000000 in
set_option maxRecDepth 20000 in
theorem ref (w0 : World) (F0 : BSet) : ∃ c, Tryd.f51.body = some c ∧ Ref Tryd.prog 5 c (G0 w0 F0) body (fun _ _ _ => False) (fun _ _ _ _ => False) (fun r ρ w => ∃ s, retv s = r ∧ G1 w0 F0 s ρ w) := by
  refine ⟨_, rfl, ?_⟩; unfold body; refine Ref.seq (B := G0 w0 F0) ?_ ?_
  · refine Ref.region (fun s ρ w s' h hr => ?_); obtain ⟨F, hW, h0⟩ := h; refine ol_a rfl ?_; exact ol_fin hr ⟨F, hW, h0⟩
  refine Ref.seq (B := G1 w0 F0) ?_ ?_
  · refine Ref.region (fun s ρ w s' h hr => ?_); obtain ⟨F, hW, h0⟩ := h; refine ol_m h0 ?_; obtain ⟨x1, hx1, hr⟩ := bind_some' hr; refine ol_e (f_call [.int .i64 s.d_0, .int .i64 (0 : Int), .int .i64 (2305843009213693950 : Int)] fn_33 (lcons rfl (lcons rfl (lcons rfl rfl))) (ref3_In.calls hW.ok s.d_0 (0 : Int) (2305843009213693950 : Int) hx1)) rfl rfl ?_; rintro _ w2 ⟨Fz3, rfl, kw1⟩; have hW5 := hW.trans kw1; have st1 := kw1.stp hW.ok; refine ol_a rfl ?_; exact ol_fin hr ⟨Fz3, hW5, rfl⟩
  exact Ref.ret (fun s ρ w h => ⟨s, rfl, h⟩)
def post (w : World) (F : BSet) (r : R) (v : Value) (w' : World) : Prop := ∃ (F' : BSet), v = .bool r ∧ Wk nrow w F F' w'
theorem calls {w : World} {F : BSet} (hok : ∀ b, F b → b < w.heap.size) (a0 : Int) {r : R} (hf : f a0 = some r) : Calls Tryd.prog 51 #[.int .i64 a0] w fun e w' => ∃ v, e = .returned v ∧ post w F r v w' := by
  obtain ⟨c, hc, href⟩ := ref w F; refine calls_of_ref (args := [.int .i64 a0]) _ Tryd.func51 hc rfl rfl href ?_ (retOf_some hf) ?_
  · exact ⟨F, Wk.refl hok, rfl⟩
  · rintro ρ w' a ⟨s, rfl, F', hW, h2⟩ hF; refine ⟨_, run_results (rs := [.tmp 2]) rfl hF (vs := [ρ 2]) (⟨_, rfl, rfl⟩), ?_⟩; have hv : resVal [ρ 2] = .bool s.t_2 := by rw [h2]; rfl
    exact ⟨F', hv, hW⟩
end
end ref3_isDigest

namespace ref3_Strings
section
abbrev c0 (F : BSet) (w : World) (ρ : Env) (s : S) (X : Prop) : Prop := SlR kStr F w (ρ 0) s.a_0 ∧ SlR kStr F w (ρ 1) s.b_1 ∧ X
def G0 : GT S := fun w0 F0 s ρ w => ∃ F, Wk nrow w0 F0 F w ∧ SlR kStr F w (ρ 0) s.a_0 ∧ SlR kStr F w (ρ 1) s.b_1
def G1 : GT S := fun w0 F0 s ρ w => ∃ F, Wk nrow w0 F0 F w ∧ c0 F w ρ s (ρ 10 = .bool s.t_10)
def G2 : GT S := fun w0 F0 s ρ w => ∃ F, Wk nrow w0 F0 F w
def G3 : GT S := fun w0 F0 s ρ w => ∃ F, Wk nrow w0 F0 F w ∧ ρ 4 = .bool s.t_4
def G4 : GT S := fun w0 F0 s ρ w => ∃ F, Wk nrow w0 F0 F w ∧ c0 F w ρ s (ρ 5 = .int .i64 s.i_5)
def G5 : GT S := fun w0 F0 s ρ w => ∃ F, Wk nrow w0 F0 F w ∧ c0 F w ρ s (ρ 5 = .int .i64 s.i_5 ∧ ρ 14 = .bool s.t_14)
def G6 : GT S := fun w0 F0 s ρ w => ∃ F, Wk nrow w0 F0 F w ∧ c0 F w ρ s (ρ 5 = .int .i64 s.i_5 ∧ ρ 25 = .bool s.t_25)
set_option maxHeartbeats 4000000 in
set_option maxRecDepth 20000 in
theorem ref (w0 : World) (F0 : BSet) : ∃ c, Tryd.f71.body = some c ∧ Ref Tryd.prog 26 c (G0 w0 F0) body (fun _ _ _ => False) (fun _ _ _ _ => False) (fun r ρ w => ∃ s, retv s = r ∧ G3 w0 F0 s ρ w) := by
  refine ⟨_, rfl, ?_⟩; unfold body; refine Ref.seq (B := G0 w0 F0) ?_ ?_
  · refine Ref.region (fun s ρ w s' h hr => ?_); obtain ⟨F, hW, h0, h1⟩ := h; refine ol_a rfl ?_; exact ol_fin hr ⟨F, hW, h0, h1⟩
  refine Ref.seq (B := G0 w0 F0) ?_ ?_
  · refine Ref.seq (B := G1 w0 F0) ?_ ?_
    · refine Ref.region (fun s ρ w s' h hr => ?_); obtain ⟨F, hW, h0, h1⟩ := h; refine ol_m rfl ?_; obtain ⟨A1, c2, e3, hc4, R5⟩ := id h0; refine ol_v (e_len (SlT.sl sl_106) e3) rfl ?_; refine ol_m rfl ?_; obtain ⟨A6, c7, e8, hc9, R10⟩ := id h1; refine ol_v (e_len (SlT.sl sl_106) e8) rfl ?_; refine ol_v (e_neq rfl rfl) rfl ?_; exact ol_fin hr ⟨F, hW, h0, h1, rfl⟩
    refine Ref.condP (b := fun s => s.t_10) (L := G2 w0 F0) (K := G0 w0 F0) ?_ ?_ ?_
    · rintro s ρ w ⟨F, hW, h0, h1, h10⟩; exact ⟨h10, ⟨F, hW⟩, F, hW, h0, h1⟩
    · refine Ref.seq (B := G3 w0 F0) ?_ ?_
      · refine Ref.region (fun s ρ w s' h hr => ?_); obtain ⟨F, hW⟩ := h; refine ol_a rfl ?_; exact ol_fin hr ⟨F, hW, rfl⟩
      exact Ref.ret (fun s ρ w h => ⟨s, rfl, h⟩)
    · exact Ref.skip
  refine Ref.seq (B := G2 w0 F0) ?_ ?_
  · refine Ref.seq (B := G4 w0 F0) ?_ ?_
    · refine Ref.region (fun s ρ w s' h hr => ?_); obtain ⟨F, hW, h0, h1⟩ := h; refine ol_a rfl ?_; exact ol_fin hr ⟨F, hW, h0, h1, rfl⟩
    refine Ref.block ?_; refine Ref.loop ?_; refine Ref.seq (B := G4 w0 F0) ?_ ?_
    · refine Ref.seq (B := G5 w0 F0) ?_ ?_
      · refine Ref.region (fun s ρ w s' h hr => ?_); obtain ⟨F, hW, h0, h1, h5⟩ := h; refine ol_m h5 ?_; refine ol_m rfl ?_; obtain ⟨A11, c12, e13, hc14, R15⟩ := id h0; refine ol_v (e_len (SlT.sl sl_106) e13) rfl ?_; refine ol_v (e_lss rfl rfl) rfl ?_; exact ol_fin hr ⟨F, hW, h0, h1, h5, rfl⟩
      refine Ref.condP (b := fun s => s.t_14) (L := G4 w0 F0) (K := G2 w0 F0) ?_ ?_ ?_
      · rintro s ρ w ⟨F, hW, h0, h1, h5, h14⟩; exact ⟨h14, ⟨F, hW, h0, h1, h5⟩, F, hW⟩
      · exact Ref.skip
      · exact Ref.exit (fun s ρ w h => h)
    refine Ref.seq (B := G4 w0 F0) ?_ ?_
    · refine Ref.block ?_; refine Ref.seq (B := G6 w0 F0) ?_ ?_
      · refine Ref.regionS (by kernel_rfl) (by kernel_rfl) (fun s ρ w ⟨F, hW, h0, h1, h5⟩ => ⟨F, hW.drewS, h0.keep (sd hW), h1.keep (sd hW), h5⟩) (fun s ρ w s' h hr => ?_); obtain ⟨F, hW, h0, h1, h5⟩ := h; refine ol_m rfl ?_; refine ol_m h5 ?_; obtain ⟨x16, hx16, hr⟩ := bind_some' hr; obtain ⟨A17, c18, e19, hc20, R21⟩ := id h0; obtain ⟨b22, o23, hA24, L25⟩ := Row.at_ R21 hx16; refine ol_v (e_ix (SlT.sl sl_106) (SlT.sz sl_106) hA24 hx16 e19 rfl) rfl ?_; refine ol_v (e_ld ty_9 (LiesV.str L25.at_) rfl) rfl ?_; refine ol_m rfl ?_; refine ol_m h5 ?_; obtain ⟨x26, hx26, hr⟩ := bind_some' hr; obtain ⟨A27, c28, e29, hc30, R31⟩ := id h1; obtain ⟨b32, o33, hA34, L35⟩ := Row.at_ R31 hx26; refine ol_v (e_ix (SlT.sl sl_106) (SlT.sz sl_106) hA34 hx26 e29 rfl) rfl ?_; refine ol_v (e_ld ty_9 (LiesV.str L35.at_) rfl) rfl ?_; refine ol_v (e_sneq rfl rfl) rfl ?_; exact ol_fin hr ⟨F, hW, h0, h1, h5, rfl⟩
      refine Ref.condP (b := fun s => s.t_25) (L := G2 w0 F0) (K := G4 w0 F0) ?_ ?_ ?_
      · rintro s ρ w ⟨F, hW, h0, h1, h5, h25⟩; exact ⟨h25, ⟨F, hW⟩, F, hW, h0, h1, h5⟩
      · refine Ref.seq (B := G3 w0 F0) ?_ ?_
        · refine Ref.region (fun s ρ w s' h hr => ?_); obtain ⟨F, hW⟩ := h; refine ol_a rfl ?_; exact ol_fin hr ⟨F, hW, rfl⟩
        exact Ref.ret (fun s ρ w h => ⟨s, rfl, h⟩)
      · exact Ref.skip
    refine Ref.region (fun s ρ w s' h hr => ?_); obtain ⟨F, hW, h0, h1, h5⟩ := h; refine ol_m h5 ?_; refine ol_v (e_add rfl rfl) rfl ?_; refine ol_a rfl ?_; exact ol_fin hr ⟨F, hW, h0, h1, rfl⟩
  refine Ref.seq (B := G3 w0 F0) ?_ ?_
  · refine Ref.region (fun s ρ w s' h hr => ?_); obtain ⟨F, hW⟩ := h; refine ol_a rfl ?_; exact ol_fin hr ⟨F, hW, rfl⟩
  exact Ref.ret (fun s ρ w h => ⟨s, rfl, h⟩)
def post (w : World) (F : BSet) (r : R) (v : Value) (w' : World) : Prop := ∃ (F' : BSet), v = .bool r ∧ Wk nrow w F F' w'
theorem calls {w : World} {F : BSet} (hok : ∀ b, F b → b < w.heap.size) {v0 : Value} {a0 : (List ByteArray)} (h0 : SlR kStr F w v0 a0) {v1 : Value} {a1 : (List ByteArray)} (h1 : SlR kStr F w v1 a1) {r : R} (hf : f a0 a1 = some r) : Calls Tryd.prog 71 #[v0, v1] w fun e w' => ∃ v, e = .returned v ∧ post w F r v w' := by
  obtain ⟨c, hc, href⟩ := ref w F; refine calls_of_ref (args := [v0, v1]) _ Tryd.func71 hc rfl rfl href ?_ (retOf_some hf) ?_
  · exact ⟨F, Wk.refl hok, h0, h1⟩
  · rintro ρ w' a ⟨s, rfl, F', hW, h4⟩ hF; refine ⟨_, run_results (rs := [.tmp 4]) rfl hF (vs := [ρ 4]) (⟨_, rfl, rfl⟩), ?_⟩; have hv : resVal [ρ 4] = .bool s.t_4 := by rw [h4]; rfl
    exact ⟨F', hv, hW⟩
end
end ref3_Strings

namespace ref3_RefConflict
section
def G0 : GT S := fun w0 F0 s ρ w => ∃ F, Wk nrow w0 F0 F w ∧ ρ 0 = .string s.a_0 ∧ ρ 1 = .string s.b_1
def G1 : GT S := fun w0 F0 s ρ w => ∃ F, Wk nrow w0 F0 F w ∧ SlR kStr F w (ρ 5) s.x_5 ∧ SlR kStr F w (ρ 6) s.y_6
def G2 : GT S := fun w0 F0 s ρ w => ∃ F, Wk nrow w0 F0 F w ∧ SlR kStr F w (ρ 5) s.x_5 ∧ SlR kStr F w (ρ 6) s.y_6 ∧ ρ 16 = .bool s.t_16
def G3 : GT S := fun w0 F0 s ρ w => ∃ F, Wk nrow w0 F0 F w
def G4 : GT S := fun w0 F0 s ρ w => ∃ F, Wk nrow w0 F0 F w ∧ ρ 4 = .bool s.t_4
def G5 : GT S := fun w0 F0 s ρ w => ∃ F, Wk nrow w0 F0 F w ∧ SlR kStr F w (ρ 5) s.x_5 ∧ SlR kStr F w (ρ 6) s.y_6 ∧ ρ 7 = .int .i64 s.n_7
set_option maxHeartbeats 4000000 in
set_option maxRecDepth 20000 in
theorem ref (w0 : World) (F0 : BSet) : ∃ c, Tryd.f52.body = some c ∧ Ref Tryd.prog 29 c (G0 w0 F0) body (fun _ _ _ => False) (fun _ _ _ _ => False) (fun r ρ w => ∃ s, retv s = r ∧ G4 w0 F0 s ρ w) := by
  refine ⟨_, rfl, ?_⟩; unfold body; refine Ref.seq (B := G0 w0 F0) ?_ ?_
  · refine Ref.region (fun s ρ w s' h hr => ?_); obtain ⟨F, hW, h0, h1⟩ := h; refine ol_a rfl ?_; exact ol_fin hr ⟨F, hW, h0, h1⟩
  refine Ref.seq (B := G1 w0 F0) ?_ ?_
  · refine Ref.region (fun s ρ w s' h hr => ?_); obtain ⟨F, hW, h0, h1⟩ := h; refine ol_m h0 ?_; obtain ⟨x1, hx1, hr⟩ := bind_some' hr; refine ol_e (f_call [.string s.a_0] fn_70 (lcons rfl rfl) (ref3_components.calls hW.ok s.a_0 hx1)) rfl rfl ?_; rintro v8 w2 ⟨Fz3, _, rfl, kw1, hk9⟩; have hW11 := hW.trans kw1; have st1 := kw1.stp hW.ok; refine ol_m h1 ?_; obtain ⟨x12, hx12, hr⟩ := bind_some' hr; refine ol_e (f_call [.string s.b_1] fn_70 (lcons rfl rfl) (ref3_components.calls hW11.ok s.b_1 hx12)) rfl rfl ?_; rintro v15 w13 ⟨Fz14, _, rfl, kw2, hk16⟩; have hW18 := hW11.trans kw2; have st2 := kw2.stp hW11.ok; obtain ⟨Fz19, hWz20, st3, hF3, hz21⟩ := (((hk9.base (row := nrow) hW.le).wk kw2 hW11.ok)).frozen hW18; refine ol_a rfl ?_; obtain ⟨Fz22, hWz23, st4, hF4, hz24⟩ := (((hk16.base (row := nrow) hW11.le).frz (Apart.base (fun g_ hg_ => (hk16.lt hg_).1) (hk9.base (row := nrow) hW.le).ltw).symm hF3 st3)).frozen hWz20; refine ol_a rfl ?_; exact ol_fin hr ⟨Fz22, hWz23, (hz21.keep st4), hz24⟩
  refine Ref.seq (B := G1 w0 F0) ?_ ?_
  · refine Ref.seq (B := G2 w0 F0) ?_ ?_
    · refine Ref.region (fun s ρ w s' h hr => ?_); obtain ⟨F, hW, h5, h6⟩ := h; refine ol_m rfl ?_; obtain ⟨A25, c26, e27, hc28, R29⟩ := id h5; refine ol_v (e_len (SlT.sl sl_106) e27) rfl ?_; refine ol_m rfl ?_; obtain ⟨A30, c31, e32, hc33, R34⟩ := id h6; refine ol_v (e_len (SlT.sl sl_106) e32) rfl ?_; refine ol_v (e_eql rfl rfl) rfl ?_; exact ol_fin hr ⟨F, hW, h5, h6, rfl⟩
    refine Ref.condP (b := fun s => s.t_16) (L := G3 w0 F0) (K := G1 w0 F0) ?_ ?_ ?_
    · rintro s ρ w ⟨F, hW, h5, h6, h16⟩; exact ⟨h16, ⟨F, hW⟩, F, hW, h5, h6⟩
    · refine Ref.seq (B := G4 w0 F0) ?_ ?_
      · refine Ref.region (fun s ρ w s' h hr => ?_); obtain ⟨F, hW⟩ := h; refine ol_a rfl ?_; exact ol_fin hr ⟨F, hW, rfl⟩
      exact Ref.ret (fun s ρ w h => ⟨s, rfl, h⟩)
    · exact Ref.skip
  refine Ref.seq (B := G5 w0 F0) ?_ ?_
  · refine Ref.region (fun s ρ w s' h hr => ?_); obtain ⟨F, hW, h5, h6⟩ := h; refine ol_m rfl ?_; obtain ⟨A35, c36, e37, hc38, R39⟩ := id h5; refine ol_v (e_len (SlT.sl sl_106) e37) rfl ?_; refine ol_m rfl ?_; obtain ⟨A40, c41, e42, hc43, R44⟩ := id h6; refine ol_v (e_len (SlT.sl sl_106) e42) rfl ?_; refine ol_v (e_min rfl rfl) rfl ?_; refine ol_a rfl ?_; exact ol_fin hr ⟨F, hW, h5, h6, rfl⟩
  refine Ref.seq (B := G4 w0 F0) ?_ ?_
  · refine Ref.regionD 6 (by kernel_rfl) (by kernel_rfl) (fun s ρ w ⟨F, hW, h5, h6, h7⟩ => ⟨F, hW.drewS, h5.keep (sd hW), h6.keep (sd hW), h7⟩) (fun s ρ w s' h hr => ?_); obtain ⟨F, hW, h5, h6, h7⟩ := h; refine ol_m rfl ?_; refine ol_m h7 ?_; obtain ⟨A45, c46, e47, hc48, R49⟩ := id h5; obtain ⟨x50, hx50, hr⟩ := bind_some' hr; have hs51 := SlR.cutTo R49 hc48 hx50; refine ol_v (e_slH (SlT.sl sl_106) (SlT.sz sl_106) hc48 e47 rfl hx50) rfl ?_; refine ol_m rfl ?_; refine ol_m h7 ?_; obtain ⟨A52, c53, e54, hc55, R56⟩ := id h6; obtain ⟨x57, hx57, hr⟩ := bind_some' hr; have hs58 := SlR.cutTo R56 hc55 hx57; refine ol_v (e_slH (SlT.sl sl_106) (SlT.sz sl_106) hc55 e54 rfl hx57) rfl ?_; obtain ⟨x59, hx59, hr⟩ := bind_some' hr; refine ol_e (f_call [(sliced A45 0 (s.n_7).toNat c46 kStr.sz), (sliced A52 0 (s.n_7).toNat c53 kStr.sz)] fn_71 (lcons rfl (lcons rfl rfl)) (ref3_Strings.calls hW.ok hs51 hs58 hx59)) rfl rfl ?_; rintro _ w60 ⟨Fz61, rfl, kw1⟩; have hW63 := hW.trans kw1; have st1 := kw1.stp hW.ok; refine ol_a rfl ?_; exact ol_fin hr ⟨Fz61, hW63, rfl⟩
  exact Ref.ret (fun s ρ w h => ⟨s, rfl, h⟩)
def post (w : World) (F : BSet) (r : R) (v : Value) (w' : World) : Prop := ∃ (F' : BSet), v = .bool r ∧ Wk nrow w F F' w'
theorem calls {w : World} {F : BSet} (hok : ∀ b, F b → b < w.heap.size) (a0 : ByteArray) (a1 : ByteArray) {r : R} (hf : f a0 a1 = some r) : Calls Tryd.prog 52 #[.string a0, .string a1] w fun e w' => ∃ v, e = .returned v ∧ post w F r v w' := by
  obtain ⟨c, hc, href⟩ := ref w F; refine calls_of_ref (args := [.string a0, .string a1]) _ Tryd.func52 hc rfl rfl href ?_ (retOf_some hf) ?_
  · exact ⟨F, Wk.refl hok, rfl, rfl⟩
  · rintro ρ w' a ⟨s, rfl, F', hW, h4⟩ hF; refine ⟨_, run_results (rs := [.tmp 4]) rfl hF (vs := [ρ 4]) (⟨_, rfl, rfl⟩), ?_⟩; have hv : resVal [ρ 4] = .bool s.t_4 := by rw [h4]; rfl
    exact ⟨F', hv, hW⟩
end
end ref3_RefConflict

namespace ref3_RefsFault
section
abbrev c1 (ρ : Env) (g1 : Nat) (w0 w : World) (F : BSet) (s : S) (X : Prop) : Prop := ρ 1 = .pointer (some ⟨g1, 0, none⟩) ∧ Box k_RefStore 27 (Bs w0 nrow) F w g1 s.t_1 ∧ X
abbrev c2 (ρ : Env) (g2 : Nat) (w0 w : World) (F : BSet) (s : S) (X : Prop) : Prop := ρ 2 = .pointer (some ⟨g2, 0, none⟩) ∧ Box k_Fault 32 (Bs w0 nrow) F w g2 s.t_2 ∧ X
abbrev c4 (ρ : Env) (s : S) (X : Prop) : Prop := ρ 3 = .int .i64 s.t_3 ∧ X
def G0 : GT S := fun w0 F0 s ρ w => ∃ F, Wk nrow w0 F0 F w ∧ Val k_RefStore F w (ρ 0) s.t_0
def G1 : GT S := fun w0 F0 s ρ w => ∃ F, Wk nrow w0 F0 F w ∧ ∃ g1 g2, c1 ρ g1 w0 w F s (ρ 2 = .pointer (some ⟨g2, 0, none⟩) ∧ Box k_Fault 32 (Bs w0 nrow) F w g2 s.t_2)
def G2 : GT S := fun w0 F0 s ρ w => ∃ F, Wk nrow w0 F0 F w ∧ ∃ g1 g2, c1 ρ g1 w0 w F s (c2 ρ g2 w0 w F s (ρ 8 = .bool s.t_8))
def G3 : GT S := fun w0 F0 s ρ w => ∃ F, Wk nrow w0 F0 F w ∧ ∃ g2, ρ 2 = .pointer (some ⟨g2, 0, none⟩) ∧ Box k_Fault 32 (Bs w0 nrow) F w g2 s.t_2
def G4 : GT S := fun w0 F0 s ρ w => ∃ F, Wk nrow w0 F0 F w ∧ ∃ g1 g2, c1 ρ g1 w0 w F s (c2 ρ g2 w0 w F s (ρ 3 = .int .i64 s.t_3))
def G5 : GT S := fun w0 F0 s ρ w => ∃ F, Wk nrow w0 F0 F w ∧ ∃ g1 g2, c1 ρ g1 w0 w F s (c2 ρ g2 w0 w F s (c4 ρ s (ρ 14 = .bool s.t_14)))
def G6 : GT S := fun w0 F0 s ρ w => ∃ F, Wk nrow w0 F0 F w ∧ ∃ g1 g2, c1 ρ g1 w0 w F s (c2 ρ g2 w0 w F s (c4 ρ s (ρ 24 = .bool s.t_24)))
def G7 : GT S := fun w0 F0 s ρ w => ∃ F, Wk nrow w0 F0 F w ∧ ∃ g2, c2 ρ g2 w0 w F s (ρ 3 = .int .i64 s.t_3)
def G8 : GT S := fun w0 F0 s ρ w => ∃ F, Wk nrow w0 F0 F w ∧ ∃ g1 g2, c1 ρ g1 w0 w F s (c2 ρ g2 w0 w F s (c4 ρ s (ρ 34 = .bool s.t_34)))
def G9 : GT S := fun w0 F0 s ρ w => ∃ F, Wk nrow w0 F0 F w ∧ ∃ g1 g2, c1 ρ g1 w0 w F s (c2 ρ g2 w0 w F s (c4 ρ s (ρ 54 = .bool s.t_54)))
def G10 : GT S := fun w0 F0 s ρ w => ∃ F, Wk nrow w0 F0 F w ∧ ∃ g1 g2, c1 ρ g1 w0 w F s (c2 ρ g2 w0 w F s (c4 ρ s (ρ 4 = .int .i64 s.t_4)))
def G11 : GT S := fun w0 F0 s ρ w => ∃ F, Wk nrow w0 F0 F w ∧ ∃ g1 g2, c1 ρ g1 w0 w F s (c2 ρ g2 w0 w F s (c4 ρ s (ρ 4 = .int .i64 s.t_4 ∧ ρ 59 = .bool s.t_59)))
def G12 : GT S := fun w0 F0 s ρ w => ∃ F, Wk nrow w0 F0 F w ∧ ∃ g1 g2, c1 ρ g1 w0 w F s (c2 ρ g2 w0 w F s (c4 ρ s (ρ 4 = .int .i64 s.t_4 ∧ ρ 74 = .bool s.t_74)))
set_option maxHeartbeats 4000000 in
set_option maxRecDepth 20000 in
theorem ref (w0 : World) (F0 : BSet) : ∃ c, Tryd.f32.body = some c ∧ Ref Tryd.prog 78 c (G0 w0 F0) body (fun _ _ _ => False) (fun _ _ _ _ => False) (fun r ρ w => ∃ s, retv s = r ∧ G3 w0 F0 s ρ w) := by
  refine ⟨_, rfl, ?_⟩; unfold body; refine Ref.seq (B := G1 w0 F0) ?_ ?_
  · refine Ref.region (fun s ρ w s' h hr => ?_); obtain ⟨F, hW, h0⟩ := h; refine ol_e (f_box hW rfl h0) rfl rfl ?_; rintro _ w6 ⟨g5, rfl, kw1, ho7⟩; have hW8 := hW.trans kw1; have st1 := kw1.stp hW.ok; refine ol_e (f_alloc zer_32 hW8) rfl rfl ?_; rintro _ w10 ⟨g9, rfl, kw2, ho11⟩; have hW12 := hW8.trans kw2; have st2 := kw2.stp hW8.ok; exact ol_fin hr ⟨F, hW12, g5, g9, rfl, ((ho7.base (row := nrow) hW.le).wk kw2 hW8.ok), rfl, (ho11.base (row := nrow) hW8.le)⟩
  refine Ref.seq (B := G1 w0 F0) ?_ ?_
  · refine Ref.seq (B := G2 w0 F0) ?_ ?_
    · refine Ref.region (fun s ρ w s' h hr => ?_); obtain ⟨F, hW, g1, g2, p1, h1, p2, h2⟩ := h; refine ol_v (e_fa fa_27_0 p1) rfl ?_; obtain ⟨v13, hl14, hs15⟩ := LiesV.sl ((h1).at_.fld fl_RefStore_0); refine ol_v (e_ld ty_25 hl14 rfl) rfl ?_; obtain ⟨A16, c17, e18, hc19, R20⟩ := id hs15; refine ol_v (e_len (SlT.sl sl_25) e18) rfl ?_; refine ol_v (e_gtr rfl rfl) rfl ?_; exact ol_fin hr ⟨F, hW, g1, g2, p1, h1, p2, h2, rfl⟩
    refine Ref.condP (b := fun s => s.t_8) (L := G3 w0 F0) (K := G1 w0 F0) ?_ ?_ ?_
    · rintro s ρ w ⟨F, hW, g1, g2, p1, h1, p2, h2, h8⟩; exact ⟨h8, ⟨F, hW, g2, p2, h2⟩, F, hW, g1, g2, p1, h1, p2, h2⟩
    · refine Ref.seq (B := G3 w0 F0) ?_ ?_
      · refine Ref.region (fun s ρ w s' h hr => ?_); obtain ⟨F, hW, g2, p2, h2⟩ := h; obtain ⟨x21, hx21, hr⟩ := bind_some' hr; refine ol_e (f_call [.int .i64 (2 : Int), .int .i64 (-1 : Int)] fn_24 (lcons rfl (lcons rfl rfl)) (ref3_Fault.calls hW.ok (2 : Int) (-1 : Int) hx21)) rfl rfl ?_; rintro v25 w22 ⟨Fz23, _, rfl, kw1, hk26⟩; have hW28 := hW.trans kw1; have st1 := kw1.stp hW.ok; refine ol_eN (f_stB hW28 (h2.wk kw1 hW.ok) (FldS.whole _) ty_32 hk26 p2 rfl) rfl ?_; rintro - w29 ⟨hW30, ho31, hg2, st2⟩; exact ol_fin hr ⟨Fz23, hW30, g2, p2, ho31⟩
      exact Ref.ret (fun s ρ w h => ⟨s, rfl, h⟩)
    · exact Ref.skip
  refine Ref.seq (B := G3 w0 F0) ?_ ?_
  · refine Ref.seq (B := G4 w0 F0) ?_ ?_
    · refine Ref.region (fun s ρ w s' h hr => ?_); obtain ⟨F, hW, g1, g2, p1, h1, p2, h2⟩ := h; refine ol_a rfl ?_; exact ol_fin hr ⟨F, hW, g1, g2, p1, h1, p2, h2, rfl⟩
    refine Ref.block ?_; refine Ref.loop ?_; refine Ref.seq (B := G4 w0 F0) ?_ ?_
    · refine Ref.seq (B := G5 w0 F0) ?_ ?_
      · refine Ref.region (fun s ρ w s' h hr => ?_); obtain ⟨F, hW, g1, g2, p1, h1, p2, h2, h3⟩ := h; refine ol_m h3 ?_; refine ol_v (e_fa fa_27_0 p1) rfl ?_; obtain ⟨v32, hl33, hs34⟩ := LiesV.sl ((h1).at_.fld fl_RefStore_0); refine ol_v (e_ld ty_25 hl33 rfl) rfl ?_; obtain ⟨A35, c36, e37, hc38, R39⟩ := id hs34; refine ol_v (e_len (SlT.sl sl_25) e37) rfl ?_; refine ol_v (e_lss rfl rfl) rfl ?_; exact ol_fin hr ⟨F, hW, g1, g2, p1, h1, p2, h2, h3, rfl⟩
      refine Ref.condP (b := fun s => s.t_14) (L := G4 w0 F0) (K := G3 w0 F0) ?_ ?_ ?_
      · rintro s ρ w ⟨F, hW, g1, g2, p1, h1, p2, h2, h3, h14⟩; exact ⟨h14, ⟨F, hW, g1, g2, p1, h1, p2, h2, h3⟩, F, hW, g2, p2, h2⟩
      · exact Ref.skip
      · exact Ref.exit (fun s ρ w h => h)
    refine Ref.seq (B := G4 w0 F0) ?_ ?_
    · refine Ref.block ?_; refine Ref.seq (B := G4 w0 F0) ?_ ?_
      · refine Ref.seq (B := G6 w0 F0) ?_ ?_
        · refine Ref.region (fun s ρ w s' h hr => ?_); obtain ⟨F, hW, g1, g2, p1, h1, p2, h2, h3⟩ := h; refine ol_v (e_fa fa_27_0 p1) rfl ?_; obtain ⟨v40, hl41, hs42⟩ := LiesV.sl ((h1).at_.fld fl_RefStore_0); refine ol_v (e_ld ty_25 hl41 rfl) rfl ?_; refine ol_m h3 ?_; obtain ⟨x43, hx43, hr⟩ := bind_some' hr; obtain ⟨A44, c45, e46, hc47, R48⟩ := id hs42; obtain ⟨b49, o50, hA51, L52⟩ := Row.at_ R48 hx43; refine ol_v (e_ix (SlT.sl sl_25) (SlT.sz sl_25) hA51 hx43 e46 rfl) rfl ?_; refine ol_v (e_fa fa_65_0 rfl) rfl ?_; refine ol_v (e_ld ty_9 (LiesV.str (L52.fld fl_RefTy_0).at_) rfl) rfl ?_; obtain ⟨x53, hx53, hr⟩ := bind_some' hr; refine ol_e (f_call [.string x43.Name] fn_50 (lcons rfl rfl) (ref3_RefName.calls hW.ok x43.Name hx53)) rfl rfl ?_; rintro _ w54 ⟨Fz55, rfl, kw1⟩; have hW57 := hW.trans kw1; have st1 := kw1.stp hW.ok; refine ol_v (e_not_ rfl) rfl ?_; exact ol_fin hr ⟨Fz55, hW57, g1, g2, p1, (h1.wk kw1 hW.ok), p2, (h2.wk kw1 hW.ok), h3, rfl⟩
        refine Ref.condP (b := fun s => s.t_24) (L := G7 w0 F0) (K := G4 w0 F0) ?_ ?_ ?_
        · rintro s ρ w ⟨F, hW, g1, g2, p1, h1, p2, h2, h3, h24⟩; exact ⟨h24, ⟨F, hW, g2, p2, h2, h3⟩, F, hW, g1, g2, p1, h1, p2, h2, h3⟩
        · refine Ref.seq (B := G3 w0 F0) ?_ ?_
          · refine Ref.region (fun s ρ w s' h hr => ?_); obtain ⟨F, hW, g2, p2, h2, h3⟩ := h; refine ol_m h3 ?_; obtain ⟨x58, hx58, hr⟩ := bind_some' hr; refine ol_e (f_call [.int .i64 (12 : Int), .int .i64 s.t_3] fn_24 (lcons rfl (lcons rfl rfl)) (ref3_Fault.calls hW.ok (12 : Int) s.t_3 hx58)) rfl rfl ?_; rintro v61 w59 ⟨Fz60, _, rfl, kw1, hk62⟩; have hW64 := hW.trans kw1; have st1 := kw1.stp hW.ok; refine ol_eN (f_stB hW64 (h2.wk kw1 hW.ok) (FldS.whole _) ty_32 hk62 p2 rfl) rfl ?_; rintro - w65 ⟨hW66, ho67, hg2, st2⟩; exact ol_fin hr ⟨Fz60, hW66, g2, p2, ho67⟩
          exact Ref.ret (fun s ρ w h => ⟨s, rfl, h⟩)
        · exact Ref.skip
      refine Ref.seq (B := G4 w0 F0) ?_ ?_
      · refine Ref.seq (B := G8 w0 F0) ?_ ?_
        · refine Ref.region (fun s ρ w s' h hr => ?_); obtain ⟨F, hW, g1, g2, p1, h1, p2, h2, h3⟩ := h; refine ol_v (e_fa fa_27_0 p1) rfl ?_; obtain ⟨v68, hl69, hs70⟩ := LiesV.sl ((h1).at_.fld fl_RefStore_0); refine ol_v (e_ld ty_25 hl69 rfl) rfl ?_; refine ol_m h3 ?_; obtain ⟨x71, hx71, hr⟩ := bind_some' hr; obtain ⟨A72, c73, e74, hc75, R76⟩ := id hs70; obtain ⟨b77, o78, hA79, L80⟩ := Row.at_ R76 hx71; refine ol_v (e_ix (SlT.sl sl_25) (SlT.sz sl_25) hA79 hx71 e74 rfl) rfl ?_; refine ol_v (e_fa fa_65_1 rfl) rfl ?_; refine ol_v (e_ld ty_3 (LiesV.int (L80.fld fl_RefTy_1).at_) rfl) rfl ?_; obtain ⟨x81, hx81, hr⟩ := bind_some' hr; refine ol_e (f_call [.int .i64 x71.Target] fn_51 (lcons rfl rfl) (ref3_isDigest.calls hW.ok x71.Target hx81)) rfl rfl ?_; rintro _ w82 ⟨Fz83, rfl, kw1⟩; have hW85 := hW.trans kw1; have st1 := kw1.stp hW.ok; refine ol_v (e_not_ rfl) rfl ?_; exact ol_fin hr ⟨Fz83, hW85, g1, g2, p1, (h1.wk kw1 hW.ok), p2, (h2.wk kw1 hW.ok), h3, rfl⟩
        refine Ref.condP (b := fun s => s.t_34) (L := G7 w0 F0) (K := G4 w0 F0) ?_ ?_ ?_
        · rintro s ρ w ⟨F, hW, g1, g2, p1, h1, p2, h2, h3, h34⟩; exact ⟨h34, ⟨F, hW, g2, p2, h2, h3⟩, F, hW, g1, g2, p1, h1, p2, h2, h3⟩
        · refine Ref.seq (B := G3 w0 F0) ?_ ?_
          · refine Ref.region (fun s ρ w s' h hr => ?_); obtain ⟨F, hW, g2, p2, h2, h3⟩ := h; refine ol_m h3 ?_; obtain ⟨x86, hx86, hr⟩ := bind_some' hr; refine ol_e (f_call [.int .i64 (3 : Int), .int .i64 s.t_3] fn_24 (lcons rfl (lcons rfl rfl)) (ref3_Fault.calls hW.ok (3 : Int) s.t_3 hx86)) rfl rfl ?_; rintro v89 w87 ⟨Fz88, _, rfl, kw1, hk90⟩; have hW92 := hW.trans kw1; have st1 := kw1.stp hW.ok; refine ol_eN (f_stB hW92 (h2.wk kw1 hW.ok) (FldS.whole _) ty_32 hk90 p2 rfl) rfl ?_; rintro - w93 ⟨hW94, ho95, hg2, st2⟩; exact ol_fin hr ⟨Fz88, hW94, g2, p2, ho95⟩
          exact Ref.ret (fun s ρ w h => ⟨s, rfl, h⟩)
        · exact Ref.skip
      refine Ref.seq (B := G4 w0 F0) ?_ ?_
      · refine Ref.seq (B := G9 w0 F0) ?_ ?_
        · refine Ref.regionS (by kernel_rfl) (by kernel_rfl) (fun s ρ w ⟨F, hW, g1, g2, p1, h1, p2, h2, h3⟩ => ⟨F, hW.drewS, g1, g2, p1, h1.wk (Wk.drew (row := nrow) hW.ok) hW.ok, p2, h2.wk (Wk.drew (row := nrow) hW.ok) hW.ok, h3⟩) (fun s ρ w s' h hr => ?_); obtain ⟨F, hW, g1, g2, p1, h1, p2, h2, h3⟩ := h; refine ol_m h3 ?_; refine ol_v (e_gtr rfl rfl) rfl ?_; obtain ⟨x124, hx125, hr⟩ := bind_some' hr; refine ol_cutA 16 39 54 (fun ρ' w' => w = w' ∧ ρ' 54 = .bool x124) rfl ?_ ?_
          · by_cases hb96 : (decide ((0 : Int) < s.t_3)) = true
            · have hr := hx125; rw [if_pos hb96] at hr; refine ol_m rfl ?_; refine ol_yes rfl rfl (congrArg Value.bool hb96) ?_; refine ol_v (e_fa fa_27_0 p1) rfl ?_; refine ol_yes rfl rfl (congrArg Value.bool hb96) ?_; obtain ⟨v98, hl99, hs100⟩ := LiesV.sl ((h1).at_.fld fl_RefStore_0); refine ol_v (e_ld ty_25 hl99 rfl) rfl ?_; refine ol_yes rfl rfl (congrArg Value.bool hb96) ?_; refine ol_m h3 ?_; refine ol_yes rfl rfl (congrArg Value.bool hb96) ?_; obtain ⟨x101, hx101, hr⟩ := bind_some' hr; obtain ⟨A102, c103, e104, hc105, R106⟩ := id hs100; obtain ⟨b107, o108, hA109, L110⟩ := Row.at_ R106 hx101; refine ol_v (e_ix (SlT.sl sl_25) (SlT.sz sl_25) hA109 hx101 e104 rfl) rfl ?_; refine ol_yes rfl rfl (congrArg Value.bool hb96) ?_; refine ol_v (e_fa fa_65_0 rfl) rfl ?_; refine ol_yes rfl rfl (congrArg Value.bool hb96) ?_; refine ol_v (e_ld ty_9 (LiesV.str (L110.fld fl_RefTy_0).at_) rfl) rfl ?_; refine ol_yes rfl rfl (congrArg Value.bool hb96) ?_; refine ol_v (e_fa fa_27_0 p1) rfl ?_; refine ol_yes rfl rfl (congrArg Value.bool hb96) ?_; obtain ⟨v111, hl112, hs113⟩ := LiesV.sl ((h1).at_.fld fl_RefStore_0); refine ol_v (e_ld ty_25 hl112 rfl) rfl ?_; refine ol_yes rfl rfl (congrArg Value.bool hb96) ?_; refine ol_m h3 ?_; refine ol_yes rfl rfl (congrArg Value.bool hb96) ?_; refine ol_v (e_sub rfl rfl) rfl ?_; refine ol_yes rfl rfl (congrArg Value.bool hb96) ?_; obtain ⟨x114, hx114, hr⟩ := bind_some' hr; obtain ⟨A115, c116, e117, hc118, R119⟩ := id hs113; obtain ⟨b120, o121, hA122, L123⟩ := Row.at_ R119 hx114; refine ol_v (e_ix (SlT.sl sl_25) (SlT.sz sl_25) hA122 hx114 e117 rfl) rfl ?_; refine ol_yes rfl rfl (congrArg Value.bool hb96) ?_; refine ol_v (e_fa fa_65_0 rfl) rfl ?_; refine ol_yes rfl rfl (congrArg Value.bool hb96) ?_; refine ol_v (e_ld ty_9 (LiesV.str (L123.fld fl_RefTy_0).at_) rfl) rfl ?_; refine ol_yes rfl rfl (congrArg Value.bool hb96) ?_; refine ol_v (e_sleq rfl rfl) rfl ?_; refine ol_v (e_pick true _ (congrArg Value.bool hb96) rfl) rfl ?_; exact ol_nil ⟨⟨rfl, (congrArg Value.bool (Option.some.inj hr))⟩, (Agr.refl _ _ _).u.u.u.u.u.u.u.u.u.u.u.u.u.u.u.u⟩
            · have hb97 := Bool.eq_false_iff.mpr hb96; have hr := hx125; rw [if_neg hb96] at hr; refine ol_m rfl ?_; refine ol_not rfl rfl rfl (congrArg Value.bool hb97) rfl ?_; refine ol_not rfl rfl rfl (congrArg Value.bool hb97) rfl ?_; refine ol_not rfl rfl rfl (congrArg Value.bool hb97) rfl ?_; refine ol_not rfl rfl rfl (congrArg Value.bool hb97) rfl ?_; refine ol_not rfl rfl rfl (congrArg Value.bool hb97) rfl ?_; refine ol_not rfl rfl rfl (congrArg Value.bool hb97) rfl ?_; refine ol_not rfl rfl rfl (congrArg Value.bool hb97) rfl ?_; refine ol_not rfl rfl rfl (congrArg Value.bool hb97) rfl ?_; refine ol_not rfl rfl rfl (congrArg Value.bool hb97) rfl ?_; refine ol_not rfl rfl rfl (congrArg Value.bool hb97) rfl ?_; refine ol_not rfl rfl rfl (congrArg Value.bool hb97) rfl ?_; refine ol_not rfl rfl rfl (congrArg Value.bool hb97) rfl ?_; refine ol_not rfl rfl rfl (congrArg Value.bool hb97) rfl ?_; refine ol_not rfl rfl rfl (congrArg Value.bool hb97) rfl ?_; refine ol_v (e_pick false _ (congrArg Value.bool hb97) rfl) rfl ?_; exact ol_nil ⟨⟨rfl, (congrArg Value.bool (Option.some.inj hr))⟩, (Agr.refl _ _ _).u.u.u.u.u.u.u.u.u.u.u.u.u.u.u.u⟩
          rintro ρ125 _ ⟨⟨rfl, hp125⟩, hAg125⟩; exact ol_fin hr ⟨F, hW, g1, g2, ((hAg125 1 rfl).trans p1), h1, ((hAg125 2 rfl).trans p2), h2, ((hAg125 3 rfl).trans h3), hp125⟩
        refine Ref.condP (b := fun s => s.t_54) (L := G7 w0 F0) (K := G4 w0 F0) ?_ ?_ ?_
        · rintro s ρ w ⟨F, hW, g1, g2, p1, h1, p2, h2, h3, h54⟩; exact ⟨h54, ⟨F, hW, g2, p2, h2, h3⟩, F, hW, g1, g2, p1, h1, p2, h2, h3⟩
        · refine Ref.seq (B := G3 w0 F0) ?_ ?_
          · refine Ref.region (fun s ρ w s' h hr => ?_); obtain ⟨F, hW, g2, p2, h2, h3⟩ := h; refine ol_m h3 ?_; obtain ⟨x126, hx126, hr⟩ := bind_some' hr; refine ol_e (f_call [.int .i64 (5 : Int), .int .i64 s.t_3] fn_24 (lcons rfl (lcons rfl rfl)) (ref3_Fault.calls hW.ok (5 : Int) s.t_3 hx126)) rfl rfl ?_; rintro v129 w127 ⟨Fz128, _, rfl, kw1, hk130⟩; have hW132 := hW.trans kw1; have st1 := kw1.stp hW.ok; refine ol_eN (f_stB hW132 (h2.wk kw1 hW.ok) (FldS.whole _) ty_32 hk130 p2 rfl) rfl ?_; rintro - w133 ⟨hW134, ho135, hg2, st2⟩; exact ol_fin hr ⟨Fz128, hW134, g2, p2, ho135⟩
          exact Ref.ret (fun s ρ w h => ⟨s, rfl, h⟩)
        · exact Ref.skip
      refine Ref.seq (B := G10 w0 F0) ?_ ?_
      · refine Ref.region (fun s ρ w s' h hr => ?_); obtain ⟨F, hW, g1, g2, p1, h1, p2, h2, h3⟩ := h; refine ol_a rfl ?_; exact ol_fin hr ⟨F, hW, g1, g2, p1, h1, p2, h2, h3, rfl⟩
      refine Ref.block ?_; refine Ref.loop ?_; refine Ref.seq (B := G10 w0 F0) ?_ ?_
      · refine Ref.seq (B := G11 w0 F0) ?_ ?_
        · refine Ref.region (fun s ρ w s' h hr => ?_); obtain ⟨F, hW, g1, g2, p1, h1, p2, h2, h3, h4⟩ := h; refine ol_m h4 ?_; refine ol_m h3 ?_; refine ol_v (e_lss rfl rfl) rfl ?_; exact ol_fin hr ⟨F, hW, g1, g2, p1, h1, p2, h2, h3, h4, rfl⟩
        refine Ref.condP (b := fun s => s.t_59) (L := G10 w0 F0) (K := G4 w0 F0) ?_ ?_ ?_
        · rintro s ρ w ⟨F, hW, g1, g2, p1, h1, p2, h2, h3, h4, h59⟩; exact ⟨h59, ⟨F, hW, g1, g2, p1, h1, p2, h2, h3, h4⟩, F, hW, g1, g2, p1, h1, p2, h2, h3⟩
        · exact Ref.skip
        · exact Ref.exit (fun s ρ w h => h)
      refine Ref.seq (B := G10 w0 F0) ?_ ?_
      · refine Ref.block ?_; refine Ref.seq (B := G12 w0 F0) ?_ ?_
        · refine Ref.regionD 12 (by kernel_rfl) (by kernel_rfl) (fun s ρ w ⟨F, hW, g1, g2, p1, h1, p2, h2, h3, h4⟩ => ⟨F, hW.drewS, g1, g2, p1, h1.wk (Wk.drew (row := nrow) hW.ok) hW.ok, p2, h2.wk (Wk.drew (row := nrow) hW.ok) hW.ok, h3, h4⟩) (fun s ρ w s' h hr => ?_); obtain ⟨F, hW, g1, g2, p1, h1, p2, h2, h3, h4⟩ := h; refine ol_v (e_fa fa_27_0 p1) rfl ?_; obtain ⟨v136, hl137, hs138⟩ := LiesV.sl ((h1).at_.fld fl_RefStore_0); refine ol_v (e_ld ty_25 hl137 rfl) rfl ?_; refine ol_m h4 ?_; obtain ⟨x139, hx139, hr⟩ := bind_some' hr; obtain ⟨A140, c141, e142, hc143, R144⟩ := id hs138; obtain ⟨b145, o146, hA147, L148⟩ := Row.at_ R144 hx139; refine ol_v (e_ix (SlT.sl sl_25) (SlT.sz sl_25) hA147 hx139 e142 rfl) rfl ?_; refine ol_v (e_fa fa_65_0 rfl) rfl ?_; refine ol_v (e_ld ty_9 (LiesV.str (L148.fld fl_RefTy_0).at_) rfl) rfl ?_; refine ol_v (e_fa fa_27_0 p1) rfl ?_; obtain ⟨v149, hl150, hs151⟩ := LiesV.sl ((h1).at_.fld fl_RefStore_0); refine ol_v (e_ld ty_25 hl150 rfl) rfl ?_; refine ol_m h3 ?_; obtain ⟨x152, hx152, hr⟩ := bind_some' hr; obtain ⟨A153, c154, e155, hc156, R157⟩ := id hs151; obtain ⟨b158, o159, hA160, L161⟩ := Row.at_ R157 hx152; refine ol_v (e_ix (SlT.sl sl_25) (SlT.sz sl_25) hA160 hx152 e155 rfl) rfl ?_; refine ol_v (e_fa fa_65_0 rfl) rfl ?_; refine ol_v (e_ld ty_9 (LiesV.str (L161.fld fl_RefTy_0).at_) rfl) rfl ?_; obtain ⟨x162, hx162, hr⟩ := bind_some' hr; refine ol_e (f_call [.string x139.Name, .string x152.Name] fn_52 (lcons rfl (lcons rfl rfl)) (ref3_RefConflict.calls hW.ok x139.Name x152.Name hx162)) rfl rfl ?_; rintro _ w163 ⟨Fz164, rfl, kw1⟩; have hW166 := hW.trans kw1; have st1 := kw1.stp hW.ok; exact ol_fin hr ⟨Fz164, hW166, g1, g2, p1, (h1.wk kw1 hW.ok), p2, (h2.wk kw1 hW.ok), h3, h4, rfl⟩
        refine Ref.condP (b := fun s => s.t_74) (L := G7 w0 F0) (K := G10 w0 F0) ?_ ?_ ?_
        · rintro s ρ w ⟨F, hW, g1, g2, p1, h1, p2, h2, h3, h4, h74⟩; exact ⟨h74, ⟨F, hW, g2, p2, h2, h3⟩, F, hW, g1, g2, p1, h1, p2, h2, h3, h4⟩
        · refine Ref.seq (B := G3 w0 F0) ?_ ?_
          · refine Ref.region (fun s ρ w s' h hr => ?_); obtain ⟨F, hW, g2, p2, h2, h3⟩ := h; refine ol_m h3 ?_; obtain ⟨x167, hx167, hr⟩ := bind_some' hr; refine ol_e (f_call [.int .i64 (19 : Int), .int .i64 s.t_3] fn_24 (lcons rfl (lcons rfl rfl)) (ref3_Fault.calls hW.ok (19 : Int) s.t_3 hx167)) rfl rfl ?_; rintro v170 w168 ⟨Fz169, _, rfl, kw1, hk171⟩; have hW173 := hW.trans kw1; have st1 := kw1.stp hW.ok; refine ol_eN (f_stB hW173 (h2.wk kw1 hW.ok) (FldS.whole _) ty_32 hk171 p2 rfl) rfl ?_; rintro - w174 ⟨hW175, ho176, hg2, st2⟩; exact ol_fin hr ⟨Fz169, hW175, g2, p2, ho176⟩
          exact Ref.ret (fun s ρ w h => ⟨s, rfl, h⟩)
        · exact Ref.skip
      refine Ref.region (fun s ρ w s' h hr => ?_); obtain ⟨F, hW, g1, g2, p1, h1, p2, h2, h3, h4⟩ := h; refine ol_m h4 ?_; refine ol_v (e_add rfl rfl) rfl ?_; refine ol_a rfl ?_; exact ol_fin hr ⟨F, hW, g1, g2, p1, h1, p2, h2, h3, rfl⟩
    refine Ref.region (fun s ρ w s' h hr => ?_); obtain ⟨F, hW, g1, g2, p1, h1, p2, h2, h3⟩ := h; refine ol_m h3 ?_; refine ol_v (e_add rfl rfl) rfl ?_; refine ol_a rfl ?_; exact ol_fin hr ⟨F, hW, g1, g2, p1, h1, p2, h2, rfl⟩
  refine Ref.seq (B := G3 w0 F0) ?_ ?_
  · refine Ref.region (fun s ρ w s' h hr => ?_); obtain ⟨F, hW, g2, p2, h2⟩ := h; refine ol_v (e_bld (cells := #[.int .i64 0, .int .i64 0]) bld_32 (vs := []) rfl rfl) rfl ?_; have hb177 : Val k_Fault F w (.agg #[.int .i64 0, .int .i64 0]) (⟨(0 : Int), (0 : Int)⟩ : Fault) := mk_Fault (val_int _ _) (val_int _ _); refine ol_eN (f_stB hW h2 (FldS.whole _) ty_32 hb177 p2 rfl) rfl ?_; rintro - w178 ⟨hW179, ho180, hg1, st1⟩; exact ol_fin hr ⟨F, hW179, g2, p2, ho180⟩
  exact Ref.ret (fun s ρ w h => ⟨s, rfl, h⟩)
def post (w : World) (F : BSet) (r : R) (v : Value) (w' : World) : Prop := ∃ (F' : BSet) (v0' : Value), v = v0' ∧ Wk nrow w F F' w' ∧ Val k_Fault F' w' v0' r
theorem calls {w : World} {F : BSet} (hok : ∀ b, F b → b < w.heap.size) {v0 : Value} {a0 : RefStore} (h0 : Val k_RefStore F w v0 a0) {r : R} (hf : f a0 = some r) : Calls Tryd.prog 32 #[v0] w fun e w' => ∃ v, e = .returned v ∧ post w F r v w' := by
  obtain ⟨c, hc, href⟩ := ref w F; refine calls_of_ref (args := [v0]) _ Tryd.func32 hc rfl rfl href ?_ (retOf_some hf) ?_
  · exact ⟨F, Wk.refl hok, h0⟩
  · rintro ρ w' a ⟨s, rfl, F', hW, g2, p2, h2⟩ hF; obtain ⟨u2, l2, k2⟩ := res_box (P := Tryd.prog) ty_32 h2; refine ⟨_, run_results (rs := [.cell 2 32]) rfl hF (vs := [u2]) (⟨_, _, _, rfl, p2, l2, rfl⟩), ?_⟩; exact ⟨F', u2, rfl, hW, k2⟩
end
end ref3_RefsFault

namespace ref4_CollectFault
section
abbrev c1 (F : BSet) (w : World) (ρ : Env) (s : S) (X : Prop) : Prop := SlR k_Lease F w (ρ 2) s.leases_2 ∧ X
abbrev c2 (ρ : Env) (s : S) (X : Prop) : Prop := ρ 3 = .int .i64 s.time_3 ∧ X
abbrev c4 (ρ : Env) (g5 : Nat) (w0 w : World) (F : BSet) (s : S) (X : Prop) : Prop := ρ 5 = .pointer (some ⟨g5, 0, none⟩) ∧ Box k_RefStore 27 (Bs w0 nrow) F w g5 s.r_5 ∧ X
abbrev c5 (ρ : Env) (g8 : Nat) (w0 w : World) (F : BSet) (s : S) (X : Prop) : Prop := ρ 8 = .pointer (some ⟨g8, 0, none⟩) ∧ Box k_Fault 32 (Bs w0 nrow) F w g8 s.t_8 ∧ X
abbrev e5 (ρ : Env) (g8 : Nat) (w0 w : World) (F : BSet) (s : S) : Prop := ρ 8 = .pointer (some ⟨g8, 0, none⟩) ∧ Box k_Fault 32 (Bs w0 nrow) F w g8 s.t_8
abbrev c6 (ρ : Env) (g9 : Nat) (w0 w : World) (F : BSet) (s : S) (X : Prop) : Prop := ρ 9 = .pointer (some ⟨g9, 0, none⟩) ∧ Box k_Fault 32 (Bs w0 nrow) F w g9 s.f_9 ∧ X
abbrev c9 (ρ : Env) (g10 : Nat) (w0 w : World) (F : BSet) (s : S) (X : Prop) : Prop := ρ 10 = .pointer (some ⟨g10, 0, none⟩) ∧ Box k_Fault 32 (Bs w0 nrow) F w g10 s.f_10 ∧ X
def G0 : GT S := fun w0 F0 s ρ w => ∃ F, Wk nrow w0 F0 F w ∧ Val k_ObjectStore F w (ρ 0) s.s_0 ∧ Val k_RefStore F w (ρ 1) s.r_1 ∧ c1 F w ρ s (ρ 3 = .int .i64 s.time_3)
def G1 : GT S := fun w0 F0 s ρ w => ∃ F, Wk nrow w0 F0 F w ∧ ∃ g4 g5 g8, c1 F w ρ s (c2 ρ s (ρ 4 = .pointer (some ⟨g4, 0, none⟩) ∧ Box k_ObjectStore 24 (Bs w0 nrow) F w g4 s.s_4 ∧ c4 ρ g5 w0 w F s (e5 ρ g8 w0 w F s)))
def G2 : GT S := fun w0 F0 s ρ w => ∃ F, Wk nrow w0 F0 F w ∧ ∃ g5 g8 g9, c1 F w ρ s (c2 ρ s (c4 ρ g5 w0 w F s (c5 ρ g8 w0 w F s (c6 ρ g9 w0 w F s (Apart (some g8) (some g9))))))
def G3 : GT S := fun w0 F0 s ρ w => ∃ F, Wk nrow w0 F0 F w ∧ ∃ g5 g8 g9, c1 F w ρ s (c2 ρ s (c4 ρ g5 w0 w F s (c5 ρ g8 w0 w F s (c6 ρ g9 w0 w F s (ρ 16 = .bool s.t_16 ∧ Apart (some g8) (some g9))))))
def G4 : GT S := fun w0 F0 s ρ w => ∃ F, Wk nrow w0 F0 F w ∧ ∃ g8 g9, c5 ρ g8 w0 w F s (c6 ρ g9 w0 w F s (Apart (some g8) (some g9)))
def G5 : GT S := fun w0 F0 s ρ w => ∃ F, Wk nrow w0 F0 F w ∧ ∃ g5 g8, c1 F w ρ s (c2 ρ s (c4 ρ g5 w0 w F s (e5 ρ g8 w0 w F s)))
def G6 : GT S := fun w0 F0 s ρ w => ∃ F, Wk nrow w0 F0 F w ∧ ∃ g8, e5 ρ g8 w0 w F s
def G7 : GT S := fun w0 F0 s ρ w => ∃ F, Wk nrow w0 F0 F w ∧ ∃ g8 g10, c1 F w ρ s (c2 ρ s (c5 ρ g8 w0 w F s (c9 ρ g10 w0 w F s (Apart (some g8) (some g10)))))
def G8 : GT S := fun w0 F0 s ρ w => ∃ F, Wk nrow w0 F0 F w ∧ ∃ g8 g10, c1 F w ρ s (c2 ρ s (c5 ρ g8 w0 w F s (c9 ρ g10 w0 w F s (ρ 22 = .bool s.t_22 ∧ Apart (some g8) (some g10)))))
def G9 : GT S := fun w0 F0 s ρ w => ∃ F, Wk nrow w0 F0 F w ∧ ∃ g8 g10, c5 ρ g8 w0 w F s (c9 ρ g10 w0 w F s (Apart (some g8) (some g10)))
def G10 : GT S := fun w0 F0 s ρ w => ∃ F, Wk nrow w0 F0 F w ∧ ∃ g8, c1 F w ρ s (c2 ρ s (e5 ρ g8 w0 w F s))
def G11 : GT S := fun w0 F0 s ρ w => ∃ F, Wk nrow w0 F0 F w ∧ ∃ g8, c1 F w ρ s (c2 ρ s (c5 ρ g8 w0 w F s (ρ 28 = .bool s.t_28)))
def G12 : GT S := fun w0 F0 s ρ w => ∃ F, Wk nrow w0 F0 F w ∧ ∃ g8, c1 F w ρ s (c2 ρ s (c5 ρ g8 w0 w F s (ρ 11 = .int .i64 s.i_11)))
def G13 : GT S := fun w0 F0 s ρ w => ∃ F, Wk nrow w0 F0 F w ∧ ∃ g8, c1 F w ρ s (c2 ρ s (c5 ρ g8 w0 w F s (ρ 11 = .int .i64 s.i_11 ∧ ρ 33 = .bool s.t_33)))
def G14 : GT S := fun w0 F0 s ρ w => ∃ F, Wk nrow w0 F0 F w ∧ ∃ g8, c2 ρ s (e5 ρ g8 w0 w F s)
def G15 : GT S := fun w0 F0 s ρ w => ∃ F, Wk nrow w0 F0 F w ∧ ∃ g8, c1 F w ρ s (c2 ρ s (c5 ρ g8 w0 w F s (ρ 11 = .int .i64 s.i_11 ∧ ρ 51 = .bool s.t_51)))
def G16 : GT S := fun w0 F0 s ρ w => ∃ F, Wk nrow w0 F0 F w ∧ ∃ g8, c5 ρ g8 w0 w F s (ρ 11 = .int .i64 s.i_11)
def G17 : GT S := fun w0 F0 s ρ w => ∃ F, Wk nrow w0 F0 F w ∧ ∃ g8, c5 ρ g8 w0 w F s (ρ 57 = .bool s.t_57)
set_option maxHeartbeats 4000000 in
set_option maxRecDepth 20000 in
theorem ref (w0 : World) (F0 : BSet) : ∃ c, Tryd.f11.body = some c ∧ Ref Tryd.prog 60 c (G0 w0 F0) body (fun _ _ _ => False) (fun _ _ _ _ => False) (fun r ρ w => ∃ s, retv s = r ∧ G6 w0 F0 s ρ w) := by
  refine ⟨_, rfl, ?_⟩; unfold body; refine Ref.seq (B := G1 w0 F0) ?_ ?_
  · refine Ref.region (fun s ρ w s' h hr => ?_); obtain ⟨F, hW, h0, h1, h2, h3⟩ := h; refine ol_e (f_box hW rfl h0) rfl rfl ?_; rintro _ w7 ⟨g6, rfl, kw1, ho8⟩; have hW9 := hW.trans kw1; have st1 := kw1.stp hW.ok; refine ol_e (f_box hW9 rfl (h1.keep st1)) rfl rfl ?_; rintro _ w13 ⟨g12, rfl, kw2, ho14⟩; have hW15 := hW9.trans kw2; have st2 := kw2.stp hW9.ok; refine ol_e (f_alloc zer_32 hW15) rfl rfl ?_; rintro _ w18 ⟨g17, rfl, kw3, ho19⟩; have hW20 := hW15.trans kw3; have st3 := kw3.stp hW15.ok; exact ol_fin hr ⟨F, hW20, g6, g12, g17, (h2.keep (st1.trans (st2.trans st3))), h3, rfl, (((ho8.base (row := nrow) hW.le).wk kw2 hW9.ok).wk kw3 hW15.ok), rfl, ((ho14.base (row := nrow) hW9.le).wk kw3 hW15.ok), rfl, (ho19.base (row := nrow) hW15.le)⟩
  refine Ref.seq (B := G5 w0 F0) ?_ ?_
  · refine Ref.seq (B := G2 w0 F0) ?_ ?_
    · refine Ref.region (fun s ρ w s' h hr => ?_); obtain ⟨F, hW, g4, g5, g8, h2, h3, p4, h4, p5, h5, p8, h8⟩ := h; obtain ⟨v21, hl22⟩ := LiesAt.v (h4).at_; refine ol_v (e_ld ty_24 hl22 p4) rfl ?_; obtain ⟨x23, hx23, hr⟩ := bind_some' hr; refine ol_e (f_call [v21] fn_22 (lcons rfl rfl) (ref3_StoreFault.calls hW.ok hl22.val hx23)) rfl rfl ?_; rintro v26 w24 ⟨Fz25, _, rfl, kw1, hk27⟩; have hW29 := hW.trans kw1; have st1 := kw1.stp hW.ok; refine ol_e (f_alloc zer_32 hW29) rfl rfl ?_; rintro _ w31 ⟨g30, rfl, kw2, ho32⟩; have hW33 := hW29.trans kw2; have st2 := kw2.stp hW29.ok; refine ol_eN (f_stB hW33 (ho32.base (row := nrow) hW29.le) (FldS.whole _) ty_32 (hk27.keep st2) rfl rfl) rfl ?_; rintro - w34 ⟨hW35, ho36, hg3, st3⟩; have z1 := (h5.wk kw1 hW.ok).wk kw2 hW29.ok; have z2 := h8.wk kw1 hW.ok; exact ol_fin hr ⟨Fz25, hW35, g5, g8, g30, (h2.keep (st1.trans (st2.trans st3))), h3, p5, (z1.mut (apart_bb (ho32.base (row := nrow) hW29.le) z1 rfl) hg3 st3), p8, ((z2.wk kw2 hW29.ok).mut (Apart.base (fun _ e_ => by cases e_; exact ho32.ge) z2.ltw) hg3 st3), rfl, ho36, (Apart.base (fun _ e_ => by cases e_; exact ho32.ge) z2.ltw).symm⟩
    refine Ref.seq (B := G3 w0 F0) ?_ ?_
    · refine Ref.region (fun s ρ w s' h hr => ?_); obtain ⟨F, hW, g5, g8, g9, h2, h3, p5, h5, p8, h8, p9, h9, a8b_9b⟩ := h; refine ol_v (e_fa fa_32_0 p9) rfl ?_; refine ol_v (e_ld ty_3 (LiesV.int ((h9).at_.fld fl_Fault_0)) rfl) rfl ?_; refine ol_v (e_neq rfl rfl) rfl ?_; exact ol_fin hr ⟨F, hW, g5, g8, g9, h2, h3, p5, h5, p8, h8, p9, h9, rfl, a8b_9b⟩
    refine Ref.condP (b := fun s => s.t_16) (L := G4 w0 F0) (K := G5 w0 F0) ?_ ?_ ?_
    · rintro s ρ w ⟨F, hW, g5, g8, g9, h2, h3, p5, h5, p8, h8, p9, h9, h16, a8b_9b⟩; exact ⟨h16, ⟨F, hW, g8, g9, p8, h8, p9, h9, a8b_9b⟩, F, hW, g5, g8, h2, h3, p5, h5, p8, h8⟩
    · refine Ref.seq (B := G6 w0 F0) ?_ ?_
      · refine Ref.region (fun s ρ w s' h hr => ?_); obtain ⟨F, hW, g8, g9, p8, h8, p9, h9, a8b_9b⟩ := h; obtain ⟨v37, hl38⟩ := LiesAt.v (h9).at_; refine ol_v (e_ld ty_32 hl38 p9) rfl ?_; refine ol_eN (f_stB hW h8 (FldS.whole _) ty_32 hl38.val p8 rfl) rfl ?_; rintro - w39 ⟨hW40, ho41, hg1, st1⟩; exact ol_fin hr ⟨F, hW40, g8, p8, ho41⟩
      exact Ref.ret (fun s ρ w h => ⟨s, rfl, h⟩)
    · exact Ref.skip
  refine Ref.seq (B := G10 w0 F0) ?_ ?_
  · refine Ref.seq (B := G7 w0 F0) ?_ ?_
    · refine Ref.region (fun s ρ w s' h hr => ?_); obtain ⟨F, hW, g5, g8, h2, h3, p5, h5, p8, h8⟩ := h; obtain ⟨v42, hl43⟩ := LiesAt.v (h5).at_; refine ol_v (e_ld ty_27 hl43 p5) rfl ?_; obtain ⟨x44, hx44, hr⟩ := bind_some' hr; refine ol_e (f_call [v42] fn_32 (lcons rfl rfl) (ref3_RefsFault.calls hW.ok hl43.val hx44)) rfl rfl ?_; rintro v47 w45 ⟨Fz46, _, rfl, kw1, hk48⟩; have hW50 := hW.trans kw1; have st1 := kw1.stp hW.ok; refine ol_e (f_alloc zer_32 hW50) rfl rfl ?_; rintro _ w53 ⟨g52, rfl, kw2, ho54⟩; have hW55 := hW50.trans kw2; have st2 := kw2.stp hW50.ok; refine ol_eN (f_stB hW55 (ho54.base (row := nrow) hW50.le) (FldS.whole _) ty_32 (hk48.keep st2) rfl rfl) rfl ?_; rintro - w56 ⟨hW57, ho58, hg3, st3⟩; have z3 := h8.wk kw1 hW.ok; exact ol_fin hr ⟨Fz46, hW57, g8, g52, (h2.keep (st1.trans (st2.trans st3))), h3, p8, ((z3.wk kw2 hW50.ok).mut (Apart.base (fun _ e_ => by cases e_; exact ho54.ge) z3.ltw) hg3 st3), rfl, ho58, (Apart.base (fun _ e_ => by cases e_; exact ho54.ge) z3.ltw).symm⟩
    refine Ref.seq (B := G8 w0 F0) ?_ ?_
    · refine Ref.region (fun s ρ w s' h hr => ?_); obtain ⟨F, hW, g8, g10, h2, h3, p8, h8, p10, h10, a8b_10b⟩ := h; refine ol_v (e_fa fa_32_0 p10) rfl ?_; refine ol_v (e_ld ty_3 (LiesV.int ((h10).at_.fld fl_Fault_0)) rfl) rfl ?_; refine ol_v (e_neq rfl rfl) rfl ?_; exact ol_fin hr ⟨F, hW, g8, g10, h2, h3, p8, h8, p10, h10, rfl, a8b_10b⟩
    refine Ref.condP (b := fun s => s.t_22) (L := G9 w0 F0) (K := G10 w0 F0) ?_ ?_ ?_
    · rintro s ρ w ⟨F, hW, g8, g10, h2, h3, p8, h8, p10, h10, h22, a8b_10b⟩; exact ⟨h22, ⟨F, hW, g8, g10, p8, h8, p10, h10, a8b_10b⟩, F, hW, g8, h2, h3, p8, h8⟩
    · refine Ref.seq (B := G6 w0 F0) ?_ ?_
      · refine Ref.region (fun s ρ w s' h hr => ?_); obtain ⟨F, hW, g8, g10, p8, h8, p10, h10, a8b_10b⟩ := h; refine ol_v (e_fa fa_32_0 p10) rfl ?_; refine ol_v (e_ld ty_3 (LiesV.int ((h10).at_.fld fl_Fault_0)) rfl) rfl ?_; obtain ⟨x59, hx59, hr⟩ := bind_some' hr; refine ol_e (f_call [.int .i64 s.f_10.Code, .int .i64 (-1 : Int)] fn_24 (lcons rfl (lcons rfl rfl)) (ref3_Fault.calls hW.ok s.f_10.Code (-1 : Int) hx59)) rfl rfl ?_; rintro v62 w60 ⟨Fz61, _, rfl, kw1, hk63⟩; have hW65 := hW.trans kw1; have st1 := kw1.stp hW.ok; refine ol_eN (f_stB hW65 (h8.wk kw1 hW.ok) (FldS.whole _) ty_32 hk63 p8 rfl) rfl ?_; rintro - w66 ⟨hW67, ho68, hg2, st2⟩; exact ol_fin hr ⟨Fz61, hW67, g8, p8, ho68⟩
      exact Ref.ret (fun s ρ w h => ⟨s, rfl, h⟩)
    · exact Ref.skip
  refine Ref.seq (B := G10 w0 F0) ?_ ?_
  · refine Ref.seq (B := G11 w0 F0) ?_ ?_
    · refine Ref.region (fun s ρ w s' h hr => ?_); obtain ⟨F, hW, g8, h2, h3, p8, h8⟩ := h; refine ol_m rfl ?_; obtain ⟨A69, c70, e71, hc72, R73⟩ := id h2; refine ol_v (e_len (SlT.sl sl_28) e71) rfl ?_; refine ol_v (e_gtr rfl rfl) rfl ?_; exact ol_fin hr ⟨F, hW, g8, h2, h3, p8, h8, rfl⟩
    refine Ref.condP (b := fun s => s.t_28) (L := G6 w0 F0) (K := G10 w0 F0) ?_ ?_ ?_
    · rintro s ρ w ⟨F, hW, g8, h2, h3, p8, h8, h28⟩; exact ⟨h28, ⟨F, hW, g8, p8, h8⟩, F, hW, g8, h2, h3, p8, h8⟩
    · refine Ref.seq (B := G6 w0 F0) ?_ ?_
      · refine Ref.region (fun s ρ w s' h hr => ?_); obtain ⟨F, hW, g8, p8, h8⟩ := h; obtain ⟨x74, hx74, hr⟩ := bind_some' hr; refine ol_e (f_call [.int .i64 (2 : Int), .int .i64 (-2 : Int)] fn_24 (lcons rfl (lcons rfl rfl)) (ref3_Fault.calls hW.ok (2 : Int) (-2 : Int) hx74)) rfl rfl ?_; rintro v77 w75 ⟨Fz76, _, rfl, kw1, hk78⟩; have hW80 := hW.trans kw1; have st1 := kw1.stp hW.ok; refine ol_eN (f_stB hW80 (h8.wk kw1 hW.ok) (FldS.whole _) ty_32 hk78 p8 rfl) rfl ?_; rintro - w81 ⟨hW82, ho83, hg2, st2⟩; exact ol_fin hr ⟨Fz76, hW82, g8, p8, ho83⟩
      exact Ref.ret (fun s ρ w h => ⟨s, rfl, h⟩)
    · exact Ref.skip
  refine Ref.seq (B := G14 w0 F0) ?_ ?_
  · refine Ref.seq (B := G12 w0 F0) ?_ ?_
    · refine Ref.region (fun s ρ w s' h hr => ?_); obtain ⟨F, hW, g8, h2, h3, p8, h8⟩ := h; refine ol_a rfl ?_; exact ol_fin hr ⟨F, hW, g8, h2, h3, p8, h8, rfl⟩
    refine Ref.block ?_; refine Ref.loop ?_; refine Ref.seq (B := G12 w0 F0) ?_ ?_
    · refine Ref.seq (B := G13 w0 F0) ?_ ?_
      · refine Ref.region (fun s ρ w s' h hr => ?_); obtain ⟨F, hW, g8, h2, h3, p8, h8, h11⟩ := h; refine ol_m h11 ?_; refine ol_m rfl ?_; obtain ⟨A84, c85, e86, hc87, R88⟩ := id h2; refine ol_v (e_len (SlT.sl sl_28) e86) rfl ?_; refine ol_v (e_lss rfl rfl) rfl ?_; exact ol_fin hr ⟨F, hW, g8, h2, h3, p8, h8, h11, rfl⟩
      refine Ref.condP (b := fun s => s.t_33) (L := G12 w0 F0) (K := G14 w0 F0) ?_ ?_ ?_
      · rintro s ρ w ⟨F, hW, g8, h2, h3, p8, h8, h11, h33⟩; exact ⟨h33, ⟨F, hW, g8, h2, h3, p8, h8, h11⟩, F, hW, g8, h3, p8, h8⟩
      · exact Ref.skip
      · exact Ref.exit (fun s ρ w h => h)
    refine Ref.seq (B := G12 w0 F0) ?_ ?_
    · refine Ref.block ?_; refine Ref.seq (B := G15 w0 F0) ?_ ?_
      · refine Ref.region (fun s ρ w s' h hr => ?_); obtain ⟨F, hW, g8, h2, h3, p8, h8, h11⟩ := h; refine ol_m rfl ?_; refine ol_m h11 ?_; obtain ⟨x89, hx89, hr⟩ := bind_some' hr; obtain ⟨A90, c91, e92, hc93, R94⟩ := id h2; obtain ⟨b95, o96, hA97, L98⟩ := Row.at_ R94 hx89; refine ol_v (e_ix (SlT.sl sl_28) (SlT.sz sl_28) hA97 hx89 e92 rfl) rfl ?_; refine ol_v (e_fa fa_67_0 rfl) rfl ?_; refine ol_v (e_ld ty_3 (LiesV.int (L98.fld fl_Lease_0).at_) rfl) rfl ?_; obtain ⟨x99, hx99, hr⟩ := bind_some' hr; refine ol_e (f_call [.int .i64 x89.Digest, .int .i64 (0 : Int), .int .i64 (2305843009213693950 : Int)] fn_33 (lcons rfl (lcons rfl (lcons rfl rfl))) (ref3_In.calls hW.ok x89.Digest (0 : Int) (2305843009213693950 : Int) hx99)) rfl rfl ?_; rintro _ w100 ⟨Fz101, rfl, kw1⟩; have hW103 := hW.trans kw1; have st1 := kw1.stp hW.ok; refine ol_v (e_not_ rfl) rfl ?_; obtain ⟨x121, hx122, hr⟩ := bind_some' hr; refine ol_cutA 9 43 51 (fun ρ' w' => ∃ F', Wk nrow w100 Fz101 F' w' ∧ ρ' 51 = .bool x121) rfl ?_ ?_
        · by_cases hb104 : (!x99) = true
          · have hr := hx122; rw [if_pos hb104] at hr; refine ol_m rfl ?_; refine ol_not rfl rfl rfl (congrArg Value.bool hb104) rfl ?_; refine ol_not rfl rfl rfl (congrArg Value.bool hb104) rfl ?_; refine ol_not rfl rfl rfl (congrArg Value.bool hb104) rfl ?_; refine ol_not rfl rfl rfl (congrArg Value.bool hb104) rfl ?_; refine ol_not rfl rfl rfl (congrArg Value.bool hb104) rfl ?_; refine ol_not rfl rfl rfl (congrArg Value.bool hb104) rfl ?_; refine ol_not rfl rfl rfl (congrArg Value.bool hb104) rfl ?_; refine ol_v (e_pick true _ (congrArg Value.bool hb104) rfl) rfl ?_; exact ol_nil ⟨⟨_, Wk.refl hW103.ok, (congrArg Value.bool (Option.some.inj hr))⟩, (Agr.refl _ _ _).u.u.u.u.u.u.u.u.u⟩
          · have hb105 := Bool.eq_false_iff.mpr hb104; have hr := hx122; rw [if_neg hb104] at hr; refine ol_m rfl ?_; refine ol_yes rfl rfl (congrArg Value.bool hb105) ?_; refine ol_m rfl ?_; refine ol_yes rfl rfl (congrArg Value.bool hb105) ?_; refine ol_m h11 ?_; refine ol_yes rfl rfl (congrArg Value.bool hb105) ?_; obtain ⟨x106, hx106, hr⟩ := bind_some' hr; obtain ⟨A107, c108, e109, hc110, R111⟩ := id (h2.keep st1); obtain ⟨b112, o113, hA114, L115⟩ := Row.at_ R111 hx106; refine ol_v (e_ix (SlT.sl sl_28) (SlT.sz sl_28) hA114 hx106 e109 rfl) rfl ?_; refine ol_yes rfl rfl (congrArg Value.bool hb105) ?_; refine ol_v (e_fa fa_67_1 rfl) rfl ?_; refine ol_yes rfl rfl (congrArg Value.bool hb105) ?_; refine ol_v (e_ld ty_3 (LiesV.int (L115.fld fl_Lease_1).at_) rfl) rfl ?_; refine ol_yes rfl rfl (congrArg Value.bool hb105) ?_; obtain ⟨x116, hx116, hr⟩ := bind_some' hr; refine ol_e (f_call [.int .i64 x106.Until, .int .i64 (0 : Int), .int .i64 (100000 : Int)] fn_33 (lcons rfl (lcons rfl (lcons rfl rfl))) (ref3_In.calls hW103.ok x106.Until (0 : Int) (100000 : Int) hx116)) rfl rfl ?_; rintro _ w117 ⟨Fz118, rfl, kw2⟩; have hW120 := hW103.trans kw2; have st2 := kw2.stp hW103.ok; refine ol_yes rfl rfl (congrArg Value.bool hb105) ?_; refine ol_v (e_not_ rfl) rfl ?_; refine ol_v (e_pick false _ (congrArg Value.bool hb105) rfl) rfl ?_; exact ol_nil ⟨⟨_, kw2, (congrArg Value.bool (Option.some.inj hr))⟩, (Agr.refl _ _ _).u.u.u.u.u.u.u.u.u⟩
        rintro ρ122 w123 ⟨⟨Fz124, kw2, hp122⟩, hAg122⟩; have hW125 := hW103.trans kw2; have st2 := kw2.stp hW103.ok; exact ol_fin hr ⟨Fz124, hW125, g8, (SlR.eqv (hAg122 2 rfl) (h2.keep (st1.trans st2))), ((hAg122 3 rfl).trans h3), ((hAg122 8 rfl).trans p8), ((h8.wk kw1 hW.ok).wk kw2 hW103.ok), ((hAg122 11 rfl).trans h11), hp122⟩
      refine Ref.condP (b := fun s => s.t_51) (L := G16 w0 F0) (K := G12 w0 F0) ?_ ?_ ?_
      · rintro s ρ w ⟨F, hW, g8, h2, h3, p8, h8, h11, h51⟩; exact ⟨h51, ⟨F, hW, g8, p8, h8, h11⟩, F, hW, g8, h2, h3, p8, h8, h11⟩
      · refine Ref.seq (B := G6 w0 F0) ?_ ?_
        · refine Ref.region (fun s ρ w s' h hr => ?_); obtain ⟨F, hW, g8, p8, h8, h11⟩ := h; refine ol_m h11 ?_; refine ol_v (e_sub rfl rfl) rfl ?_; obtain ⟨x126, hx126, hr⟩ := bind_some' hr; refine ol_e (f_call [.int .i64 (3 : Int), .int .i64 (w64 ((-3 : Int) - s.i_11))] fn_24 (lcons rfl (lcons rfl rfl)) (ref3_Fault.calls hW.ok (3 : Int) (w64 ((-3 : Int) - s.i_11)) hx126)) rfl rfl ?_; rintro v129 w127 ⟨Fz128, _, rfl, kw1, hk130⟩; have hW132 := hW.trans kw1; have st1 := kw1.stp hW.ok; refine ol_eN (f_stB hW132 (h8.wk kw1 hW.ok) (FldS.whole _) ty_32 hk130 p8 rfl) rfl ?_; rintro - w133 ⟨hW134, ho135, hg2, st2⟩; exact ol_fin hr ⟨Fz128, hW134, g8, p8, ho135⟩
        exact Ref.ret (fun s ρ w h => ⟨s, rfl, h⟩)
      · exact Ref.skip
    refine Ref.region (fun s ρ w s' h hr => ?_); obtain ⟨F, hW, g8, h2, h3, p8, h8, h11⟩ := h; refine ol_m h11 ?_; refine ol_v (e_add rfl rfl) rfl ?_; refine ol_a rfl ?_; exact ol_fin hr ⟨F, hW, g8, h2, h3, p8, h8, rfl⟩
  refine Ref.seq (B := G6 w0 F0) ?_ ?_
  · refine Ref.seq (B := G17 w0 F0) ?_ ?_
    · refine Ref.region (fun s ρ w s' h hr => ?_); obtain ⟨F, hW, g8, h3, p8, h8⟩ := h; refine ol_m h3 ?_; obtain ⟨x136, hx136, hr⟩ := bind_some' hr; refine ol_e (f_call [.int .i64 s.time_3, .int .i64 (0 : Int), .int .i64 (100000 : Int)] fn_33 (lcons rfl (lcons rfl (lcons rfl rfl))) (ref3_In.calls hW.ok s.time_3 (0 : Int) (100000 : Int) hx136)) rfl rfl ?_; rintro _ w137 ⟨Fz138, rfl, kw1⟩; have hW140 := hW.trans kw1; have st1 := kw1.stp hW.ok; refine ol_v (e_not_ rfl) rfl ?_; exact ol_fin hr ⟨Fz138, hW140, g8, p8, (h8.wk kw1 hW.ok), rfl⟩
    refine Ref.condP (b := fun s => s.t_57) (L := G6 w0 F0) (K := G6 w0 F0) ?_ ?_ ?_
    · rintro s ρ w ⟨F, hW, g8, p8, h8, h57⟩; exact ⟨h57, ⟨F, hW, g8, p8, h8⟩, F, hW, g8, p8, h8⟩
    · refine Ref.seq (B := G6 w0 F0) ?_ ?_
      · refine Ref.region (fun s ρ w s' h hr => ?_); obtain ⟨F, hW, g8, p8, h8⟩ := h; obtain ⟨x141, hx141, hr⟩ := bind_some' hr; refine ol_e (f_call [.int .i64 (3 : Int), .int .i64 (-2 : Int)] fn_24 (lcons rfl (lcons rfl rfl)) (ref3_Fault.calls hW.ok (3 : Int) (-2 : Int) hx141)) rfl rfl ?_; rintro v144 w142 ⟨Fz143, _, rfl, kw1, hk145⟩; have hW147 := hW.trans kw1; have st1 := kw1.stp hW.ok; refine ol_eN (f_stB hW147 (h8.wk kw1 hW.ok) (FldS.whole _) ty_32 hk145 p8 rfl) rfl ?_; rintro - w148 ⟨hW149, ho150, hg2, st2⟩; exact ol_fin hr ⟨Fz143, hW149, g8, p8, ho150⟩
      exact Ref.ret (fun s ρ w h => ⟨s, rfl, h⟩)
    · exact Ref.skip
  refine Ref.seq (B := G6 w0 F0) ?_ ?_
  · refine Ref.region (fun s ρ w s' h hr => ?_); obtain ⟨F, hW, g8, p8, h8⟩ := h; refine ol_v (e_bld (cells := #[.int .i64 0, .int .i64 0]) bld_32 (vs := []) rfl rfl) rfl ?_; have hb151 : Val k_Fault F w (.agg #[.int .i64 0, .int .i64 0]) (⟨(0 : Int), (0 : Int)⟩ : Fault) := mk_Fault (val_int _ _) (val_int _ _); refine ol_eN (f_stB hW h8 (FldS.whole _) ty_32 hb151 p8 rfl) rfl ?_; rintro - w152 ⟨hW153, ho154, hg1, st1⟩; exact ol_fin hr ⟨F, hW153, g8, p8, ho154⟩
  exact Ref.ret (fun s ρ w h => ⟨s, rfl, h⟩)
def post (w : World) (F : BSet) (r : R) (v : Value) (w' : World) : Prop := ∃ (F' : BSet) (v0' : Value), v = v0' ∧ Wk nrow w F F' w' ∧ Val k_Fault F' w' v0' r
theorem calls {w : World} {F : BSet} (hok : ∀ b, F b → b < w.heap.size) {v0 : Value} {a0 : ObjectStore} (h0 : Val k_ObjectStore F w v0 a0) {v1 : Value} {a1 : RefStore} (h1 : Val k_RefStore F w v1 a1) {v2 : Value} {a2 : (List Lease)} (h2 : SlR k_Lease F w v2 a2) (a3 : Int) {r : R} (hf : f a0 a1 a2 a3 = some r) : Calls Tryd.prog 11 #[v0, v1, v2, .int .i64 a3] w fun e w' => ∃ v, e = .returned v ∧ post w F r v w' := by
  obtain ⟨c, hc, href⟩ := ref w F; refine calls_of_ref (args := [v0, v1, v2, .int .i64 a3]) _ Tryd.func11 hc rfl rfl href ?_ (retOf_some hf) ?_
  · exact ⟨F, Wk.refl hok, h0, h1, h2, rfl⟩
  · rintro ρ w' a ⟨s, rfl, F', hW, g8, p8, h8⟩ hF; obtain ⟨u8, l8, k8⟩ := res_box (P := Tryd.prog) ty_32 h8; refine ⟨_, run_results (rs := [.cell 8 32]) rfl hF (vs := [u8]) (⟨_, _, _, rfl, p8, l8, rfl⟩), ?_⟩; exact ⟨F', u8, rfl, hW, k8⟩
end
end ref4_CollectFault

end Go.Proofs.YtenkbkcddcnmeaaDoor
