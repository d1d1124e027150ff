/- The machine's calls come to these plain functions (written by a program, wip/fx/gen.py). -/
import Derived.Test.YtenkbkcddcnmeaaPA
import Derived.Test.YtenkbkcddcnmeaaNm
import Derived.Test.YtenkbkcddcnmeaaM0
import Derived.Test.YtenkbkcddcnmeaaM2
import Derived.Test.YtenkbkcddcnmeaaM3
import Derived.Test.YtenkbkcddcnmeaaM4
import Derived.Test.YtenkbkcddcnmeaaM5
import Derived.Test.YtenkbkcddcnmeaaM6
import Derived.Test.YtenkbkcddcnmeaaSl
import Derived.Test.YtenkbkcddcnmeaaIn
namespace Go.Proofs.Ytenkbkcddcnmeaa
open Go.Fx Go.RowKit
set_option linter.unusedVariables false

namespace ref4_Marked
section
abbrev c1 (F : BSet) (w : World) (ρ : Env) (s : S) (X : Prop) : Prop := SlR (kInt .i64) F w (ρ 1) s.t_1 ∧ X
abbrev c2 (ρ : Env) (g2 : Nat) (w0 w : World) (F : BSet) (s : S) (X : Prop) : Prop := ρ 2 = .pointer (some ⟨g2, 0, none⟩) ∧ Box k_ObjectStore 24 (Bs w0 nrow) F w g2 s.t_2 ∧ X
abbrev c3 (w0 w : World) (F : BSet) (ρ : Env) (s : S) (X : Prop) : Prop := OwnV kBool 4 (Bs w0 nrow) F w (ρ 5) s.t_5 ∧ X
abbrev c4 (ρ : Env) (s : S) (X : Prop) : Prop := ρ 6 = .bool s.t_6 ∧ X
abbrev c6 (ρ : Env) (s : S) (X : Prop) : Prop := ρ 7 = .int .i64 s.t_7 ∧ X
def G0 : GT S := fun w0 F0 s ρ w => ∃ F, Wk nrow w0 F0 F w ∧ Val k_ObjectStore F w (ρ 0) s.t_0 ∧ SlR (kInt .i64) F w (ρ 1) s.t_1
def G1 : GT S := fun w0 F0 s ρ w => ∃ F, Wk nrow w0 F0 F w ∧ ∃ g2, c1 F w ρ s (ρ 2 = .pointer (some ⟨g2, 0, none⟩) ∧ Box k_ObjectStore 24 (Bs w0 nrow) F w g2 s.t_2)
def G2 : GT S := fun w0 F0 s ρ w => ∃ F, Wk nrow w0 F0 F w ∧ ∃ g2, c1 F w ρ s (c2 ρ g2 w0 w F s (OwnV kBool 4 (Bs w0 nrow) F w (ρ 5) s.t_5))
def G3 : GT S := fun w0 F0 s ρ w => ∃ F, Wk nrow w0 F0 F w ∧ ∃ g2, c1 F w ρ s (c2 ρ g2 w0 w F s (c3 w0 w F ρ s (ρ 6 = .bool s.t_6)))
def G4 : GT S := fun w0 F0 s ρ w => ∃ F, Wk nrow w0 F0 F w ∧ ∃ g2, c1 F w ρ s (c2 ρ g2 w0 w F s (c3 w0 w F ρ s (ρ 15 = .bool s.t_15)))
def G5 : GT S := fun w0 F0 s ρ w => ∃ F, Wk nrow w0 F0 F w ∧ OwnV kBool 4 (Bs w0 nrow) F w (ρ 5) s.t_5
def G6 : GT S := fun w0 F0 s ρ w => ∃ F, Wk nrow w0 F0 F w ∧ ∃ g2, c1 F w ρ s (c2 ρ g2 w0 w F s (c3 w0 w F ρ s (c4 ρ s (ρ 7 = .int .i64 s.t_7))))
def G7 : GT S := fun w0 F0 s ρ w => ∃ F, Wk nrow w0 F0 F w ∧ ∃ g2, c1 F w ρ s (c2 ρ g2 w0 w F s (c3 w0 w F ρ s (c4 ρ s (c6 ρ s (ρ 20 = .bool s.t_20)))))
def G8 : GT S := fun w0 F0 s ρ w => ∃ F, Wk nrow w0 F0 F w ∧ ∃ g2, c1 F w ρ s (c2 ρ g2 w0 w F s (c3 w0 w F ρ s (c4 ρ s (c6 ρ s (ρ 8 = .int .i64 s.t_8)))))
def G9 : GT S := fun w0 F0 s ρ w => ∃ F, Wk nrow w0 F0 F w ∧ ∃ g2, c1 F w ρ s (c2 ρ g2 w0 w F s (c3 w0 w F ρ s (c4 ρ s (c6 ρ s (ρ 8 = .int .i64 s.t_8 ∧ ρ 9 = .bool s.t_9)))))
def G10 : GT S := fun w0 F0 s ρ w => ∃ F, Wk nrow w0 F0 F w ∧ ∃ g2, c1 F w ρ s (c2 ρ g2 w0 w F s (c3 w0 w F ρ s (c4 ρ s (c6 ρ s (ρ 8 = .int .i64 s.t_8 ∧ ρ 9 = .bool s.t_9 ∧ ρ 10 = .int .i64 s.t_10)))))
def G11 : GT S := fun w0 F0 s ρ w => ∃ F, Wk nrow w0 F0 F w ∧ ∃ g2, c1 F w ρ s (c2 ρ g2 w0 w F s (c3 w0 w F ρ s (c4 ρ s (c6 ρ s (ρ 8 = .int .i64 s.t_8 ∧ ρ 9 = .bool s.t_9 ∧ ρ 10 = .int .i64 s.t_10 ∧ ρ 36 = .bool s.t_36)))))
def G12 : GT S := fun w0 F0 s ρ w => ∃ F, Wk nrow w0 F0 F w ∧ ∃ g2, c1 F w ρ s (c2 ρ g2 w0 w F s (c3 w0 w F ρ s (c4 ρ s (c6 ρ s (ρ 9 = .bool s.t_9)))))
def G13 : GT S := fun w0 F0 s ρ w => ∃ F, Wk nrow w0 F0 F w ∧ ∃ g2, c1 F w ρ s (c2 ρ g2 w0 w F s (c3 w0 w F ρ s (c4 ρ s (c6 ρ s (ρ 64 = .bool s.t_64)))))
def G14 : GT S := fun w0 F0 s ρ w => ∃ F, Wk nrow w0 F0 F w ∧ ∃ g2, c1 F w ρ s (c2 ρ g2 w0 w F s (c3 w0 w F ρ s (ρ 7 = .int .i64 s.t_7)))
def G15 : GT S := fun w0 F0 s ρ w => ∃ F, Wk nrow w0 F0 F w ∧ OwnV kBool 4 (Bs w0 nrow) F w (ρ 4) s.t_4
set_option maxHeartbeats 4000000 in
set_option maxRecDepth 20000 in
theorem ref (w0 : World) (F0 : BSet) : ∃ c, Try.f37.body = some c ∧ Ref Try.prog 69 c (G0 w0 F0) body (fun _ _ _ => False) (fun _ _ _ _ => False) (fun r ρ w => ∃ s, retv s = r ∧ G15 w0 F0 s ρ w) := by
  refine ⟨_, rfl, ?_⟩; unfold body; refine Ref.seq (B := G1 w0 F0) ?_ ?_
  · refine Ref.region (fun s ρ w s' h hr => ?_); obtain ⟨F, hW, h0, h1⟩ := h; refine ol_e (f_box hW rfl h0) rfl rfl ?_; rintro _ w2 ⟨g1, rfl, kw1, ho3⟩; have hW4 := hW.trans kw1; have st1 := kw1.stp hW.ok; refine ol_a rfl ?_; exact ol_fin hr ⟨F, hW4, g1, (h1.keep st1), rfl, (ho3.base (row := nrow) hW.le)⟩
  refine Ref.seq (B := G2 w0 F0) ?_ ?_
  · refine Ref.region (fun s ρ w s' h hr => ?_); obtain ⟨F, hW, g2, h1, p2, h2⟩ := h; refine ol_v (e_fa fa_24_0 p2) rfl ?_; obtain ⟨v5, hl6, hs7⟩ := LiesV.sl ((h2).at_.fld fl_ObjectStore_0); refine ol_v (e_ld ty_22 hl6 rfl) rfl ?_; obtain ⟨A8, c9, e10, hc11, R12⟩ := id hs7; refine ol_v (e_len (SlT.sl sl_22) e10) rfl ?_; obtain ⟨x13, hx13, hr⟩ := bind_some' hr; refine ol_e (f_mks sl_34 hW rfl rfl hx13) rfl rfl ?_; rintro v14 w15 ⟨kw1, ho16⟩; have hW17 := hW.trans kw1; have st1 := kw1.stp hW.ok; refine ol_a rfl ?_; exact ol_fin hr ⟨F, hW17, g2, (h1.keep st1), p2, (h2.wk kw1 hW.ok), (ho16.base (row := nrow) hW.le)⟩
  refine Ref.seq (B := G5 w0 F0) ?_ ?_
  · refine Ref.seq (B := G3 w0 F0) ?_ ?_
    · refine Ref.region (fun s ρ w s' h hr => ?_); obtain ⟨F, hW, g2, h1, p2, h2, h5⟩ := h; refine ol_a rfl ?_; exact ol_fin hr ⟨F, hW, g2, h1, p2, h2, h5, rfl⟩
    refine Ref.block ?_; refine Ref.loop ?_; refine Ref.seq (B := G2 w0 F0) ?_ ?_
    · refine Ref.seq (B := G4 w0 F0) ?_ ?_
      · refine Ref.region (fun s ρ w s' h hr => ?_); obtain ⟨F, hW, g2, h1, p2, h2, h5, h6⟩ := h; refine ol_m h6 ?_; exact ol_fin hr ⟨F, hW, g2, h1, p2, h2, h5, rfl⟩
      refine Ref.condP (b := fun s => s.t_15) (L := G2 w0 F0) (K := G5 w0 F0) ?_ ?_ ?_
      · rintro s ρ w ⟨F, hW, g2, h1, p2, h2, h5, h15⟩; exact ⟨h15, ⟨F, hW, g2, h1, p2, h2, h5⟩, F, hW, h5⟩
      · exact Ref.skip
      · exact Ref.exit (fun s ρ w h => h)
    refine Ref.block ?_; refine Ref.seq (B := G3 w0 F0) ?_ ?_
    · refine Ref.region (fun s ρ w s' h hr => ?_); obtain ⟨F, hW, g2, h1, p2, h2, h5⟩ := h; refine ol_a rfl ?_; exact ol_fin hr ⟨F, hW, g2, h1, p2, h2, h5, rfl⟩
    refine Ref.seq (B := G6 w0 F0) ?_ ?_
    · refine Ref.region (fun s ρ w s' h hr => ?_); obtain ⟨F, hW, g2, h1, p2, h2, h5, h6⟩ := h; refine ol_a rfl ?_; exact ol_fin hr ⟨F, hW, g2, h1, p2, h2, h5, h6, rfl⟩
    refine Ref.block ?_; refine Ref.loop ?_; refine Ref.seq (B := G6 w0 F0) ?_ ?_
    · refine Ref.seq (B := G7 w0 F0) ?_ ?_
      · refine Ref.region (fun s ρ w s' h hr => ?_); obtain ⟨F, hW, g2, h1, p2, h2, h5, h6, h7⟩ := h; refine ol_m h7 ?_; refine ol_v (e_fa fa_24_0 p2) rfl ?_; obtain ⟨v18, hl19, hs20⟩ := LiesV.sl ((h2).at_.fld fl_ObjectStore_0); refine ol_v (e_ld ty_22 hl19 rfl) rfl ?_; obtain ⟨A21, c22, e23, hc24, R25⟩ := id hs20; refine ol_v (e_len (SlT.sl sl_22) e23) rfl ?_; refine ol_v (e_lss rfl rfl) rfl ?_; exact ol_fin hr ⟨F, hW, g2, h1, p2, h2, h5, h6, h7, rfl⟩
      refine Ref.condP (b := fun s => s.t_20) (L := G6 w0 F0) (K := G3 w0 F0) ?_ ?_ ?_
      · rintro s ρ w ⟨F, hW, g2, h1, p2, h2, h5, h6, h7, h20⟩; exact ⟨h20, ⟨F, hW, g2, h1, p2, h2, h5, h6, h7⟩, F, hW, g2, h1, p2, h2, h5, h6⟩
      · exact Ref.skip
      · exact Ref.exit (fun s ρ w h => h)
    refine Ref.seq (B := G6 w0 F0) ?_ ?_
    · refine Ref.block ?_; refine Ref.seq (B := G8 w0 F0) ?_ ?_
      · refine Ref.region (fun s ρ w s' h hr => ?_); obtain ⟨F, hW, g2, h1, p2, h2, h5, h6, h7⟩ := h; refine ol_v (e_fa fa_24_0 p2) rfl ?_; obtain ⟨v26, hl27, hs28⟩ := LiesV.sl ((h2).at_.fld fl_ObjectStore_0); refine ol_v (e_ld ty_22 hl27 rfl) rfl ?_; refine ol_m h7 ?_; obtain ⟨x29, hx29, hr⟩ := bind_some' hr; obtain ⟨A30, c31, e32, hc33, R34⟩ := id hs28; obtain ⟨b35, o36, hA37, L38⟩ := Row.at_ R34 hx29; refine ol_v (e_ix (SlT.sl sl_22) (SlT.sz sl_22) hA37 hx29 e32 rfl) rfl ?_; refine ol_v (e_fa fa_39_0 rfl) rfl ?_; refine ol_v (e_ld ty_3 (LiesV.int (L38.fld fl_StoredObject_0).at_) rfl) rfl ?_; refine ol_a rfl ?_; exact ol_fin hr ⟨F, hW, g2, h1, p2, h2, h5, h6, h7, rfl⟩
      refine Ref.seq (B := G9 w0 F0) ?_ ?_
      · refine Ref.region (fun s ρ w s' h hr => ?_); obtain ⟨F, hW, g2, h1, p2, h2, h5, h6, h7, h8⟩ := h; refine ol_m rfl ?_; refine ol_m h8 ?_; obtain ⟨x39, hx39, hr⟩ := bind_some' hr; refine ol_e (f_call [(ρ 1), .int .i64 s.t_8] fn_24 (lcons rfl (lcons rfl rfl)) (ref3_Has.calls hW.ok h1 s.t_8 hx39)) rfl rfl ?_; rintro _ w40 ⟨Fz41, rfl, kw1⟩; have hW43 := hW.trans kw1; have st1 := kw1.stp hW.ok; refine ol_a rfl ?_; exact ol_fin hr ⟨Fz41, hW43, g2, (h1.keep st1), p2, (h2.wk kw1 hW.ok), (h5.wk kw1 hW.ok), h6, h7, h8, rfl⟩
      refine Ref.seq (B := G12 w0 F0) ?_ ?_
      · refine Ref.seq (B := G10 w0 F0) ?_ ?_
        · refine Ref.region (fun s ρ w s' h hr => ?_); obtain ⟨F, hW, g2, h1, p2, h2, h5, h6, h7, h8, h9⟩ := h; refine ol_a rfl ?_; exact ol_fin hr ⟨F, hW, g2, h1, p2, h2, h5, h6, h7, h8, h9, rfl⟩
        refine Ref.block ?_; refine Ref.loop ?_; refine Ref.seq (B := G10 w0 F0) ?_ ?_
        · refine Ref.seq (B := G11 w0 F0) ?_ ?_
          · refine Ref.region (fun s ρ w s' h hr => ?_); obtain ⟨F, hW, g2, h1, p2, h2, h5, h6, h7, h8, h9, h10⟩ := h; refine ol_m h10 ?_; refine ol_v (e_fa fa_24_0 p2) rfl ?_; obtain ⟨v44, hl45, hs46⟩ := LiesV.sl ((h2).at_.fld fl_ObjectStore_0); refine ol_v (e_ld ty_22 hl45 rfl) rfl ?_; obtain ⟨A47, c48, e49, hc50, R51⟩ := id hs46; refine ol_v (e_len (SlT.sl sl_22) e49) rfl ?_; refine ol_v (e_lss rfl rfl) rfl ?_; exact ol_fin hr ⟨F, hW, g2, h1, p2, h2, h5, h6, h7, h8, h9, h10, rfl⟩
          refine Ref.condP (b := fun s => s.t_36) (L := G10 w0 F0) (K := G12 w0 F0) ?_ ?_ ?_
          · rintro s ρ w ⟨F, hW, g2, h1, p2, h2, h5, h6, h7, h8, h9, h10, h36⟩; exact ⟨h36, ⟨F, hW, g2, h1, p2, h2, h5, h6, h7, h8, h9, h10⟩, F, hW, g2, h1, p2, h2, h5, h6, h7, h9⟩
          · exact Ref.skip
          · exact Ref.exit (fun s ρ w h => h)
        refine Ref.seq (B := G10 w0 F0) ?_ ?_
        · refine Ref.block ?_; refine Ref.region (fun s ρ w s' h hr => ?_); obtain ⟨F, hW, g2, h1, p2, h2, h5, h6, h7, h8, h9, h10⟩ := h; refine ol_m h9 ?_; obtain ⟨x88, hx89, hr⟩ := bind_some' hr; refine ol_cutA 17 40 56 (fun ρ' w' => ∃ F', Wk nrow w F F' w' ∧ ρ' 56 = .bool x88) rfl ?_ ?_
          · by_cases hb52 : s.t_9 = true
            · have hr := hx89; rw [if_pos hb52] at hr; refine ol_m rfl ?_; refine ol_not rfl rfl rfl (congrArg Value.bool hb52) rfl ?_; refine ol_not rfl rfl rfl (congrArg Value.bool hb52) rfl ?_; refine ol_not rfl rfl rfl (congrArg Value.bool hb52) rfl ?_; refine ol_not rfl rfl rfl (congrArg Value.bool hb52) rfl ?_; refine ol_not rfl rfl rfl (congrArg Value.bool hb52) rfl ?_; refine ol_notU rfl rfl rfl rfl ?_; refine ol_notU rfl rfl rfl rfl ?_; refine ol_notU rfl rfl rfl rfl ?_; refine ol_notU rfl rfl rfl rfl ?_; refine ol_notU rfl rfl rfl rfl ?_; refine ol_notU rfl rfl rfl rfl ?_; refine ol_notU rfl rfl rfl rfl ?_; refine ol_notU rfl rfl rfl rfl ?_; refine ol_notU rfl rfl rfl rfl ?_; refine ol_not rfl rfl rfl (congrArg Value.bool hb52) rfl ?_; refine ol_v (e_pick true _ (congrArg Value.bool hb52) rfl) rfl ?_; exact ol_nil ⟨⟨_, Wk.refl hW.ok, (congrArg Value.bool (Option.some.inj hr))⟩, (Agr.refl _ _ _).u.u.u.u.u.u.u.u.u.u.u.u.u.u.u.u.u⟩
            · have hb53 := Bool.eq_false_iff.mpr hb52; have hr := hx89; rw [if_neg hb52] at hr; refine ol_m rfl ?_; refine ol_yes rfl rfl (congrArg Value.bool hb53) ?_; refine ol_m rfl ?_; refine ol_yes rfl rfl (congrArg Value.bool hb53) ?_; refine ol_m h10 ?_; refine ol_yes rfl rfl (congrArg Value.bool hb53) ?_; obtain ⟨x54, hx54, hr⟩ := bind_some' hr; obtain ⟨g55, o56, c57, hv58, L59⟩ := OwnV.at_ h5 hx54; refine ol_v (e_ixO sl_34 hv58 hx54 rfl rfl) rfl ?_; refine ol_yes rfl rfl (congrArg Value.bool hb53) ?_; refine ol_v (e_ld ty_4 (LiesV.bool L59) rfl) rfl ?_; refine ol_yes rfl rfl (congrArg Value.bool hb53) ?_; obtain ⟨x83, hx84, hr⟩ := bind_some' hr; refine ol_cutA 11 45 55 (fun ρ' w' => ∃ F', Wk nrow w F F' w' ∧ ρ' 55 = .bool x83) rfl ?_ ?_
              · by_cases hb60 : x54 = true
                · have hr := hx84; rw [if_pos hb60] at hr; refine ol_m rfl ?_; refine ol_yes rfl rfl (congrArg Value.bool hb60) ?_; refine ol_v (e_fa fa_24_0 p2) rfl ?_; refine ol_yes rfl rfl (congrArg Value.bool hb60) ?_; obtain ⟨v62, hl63, hs64⟩ := LiesV.sl ((h2).at_.fld fl_ObjectStore_0); refine ol_v (e_ld ty_22 hl63 rfl) rfl ?_; refine ol_yes rfl rfl (congrArg Value.bool hb60) ?_; refine ol_m h10 ?_; refine ol_yes rfl rfl (congrArg Value.bool hb60) ?_; obtain ⟨x65, hx65, hr⟩ := bind_some' hr; obtain ⟨A66, c67, e68, hc69, R70⟩ := id hs64; obtain ⟨b71, o72, hA73, L74⟩ := Row.at_ R70 hx65; refine ol_v (e_ix (SlT.sl sl_22) (SlT.sz sl_22) hA73 hx65 e68 rfl) rfl ?_; refine ol_yes rfl rfl (congrArg Value.bool hb60) ?_; refine ol_v (e_fa fa_39_1 rfl) rfl ?_; refine ol_yes rfl rfl (congrArg Value.bool hb60) ?_; refine ol_v (e_fa fa_37_1 rfl) rfl ?_; refine ol_yes rfl rfl (congrArg Value.bool hb60) ?_; obtain ⟨v75, hl76, hs77⟩ := LiesV.sl ((L74.fld fl_StoredObject_1).fld fl_Object_1).at_; refine ol_v (e_ld ty_26 hl76 rfl) rfl ?_; refine ol_yes rfl rfl (congrArg Value.bool hb60) ?_; refine ol_m h8 ?_; refine ol_yes rfl rfl (congrArg Value.bool hb60) ?_; obtain ⟨x78, hx78, hr⟩ := bind_some' hr; refine ol_e (f_call [v75, .int .i64 s.t_8] fn_24 (lcons rfl (lcons rfl rfl)) (ref3_Has.calls hW.ok hs77 s.t_8 hx78)) rfl rfl ?_; rintro _ w79 ⟨Fz80, rfl, kw1⟩; have hW82 := hW.trans kw1; have st1 := kw1.stp hW.ok; refine ol_yes rfl rfl (congrArg Value.bool hb53) ?_; refine ol_v (e_pick true _ (congrArg Value.bool hb60) rfl) rfl ?_; exact ol_nil ⟨⟨_, kw1, (congrArg Value.bool (Option.some.inj hr))⟩, (Agr.refl _ _ _).u.u.u.u.u.u.u.u.u.u.u⟩
                · have hb61 := Bool.eq_false_iff.mpr hb60; have hr := hx84; rw [if_neg hb60] at hr; refine ol_m rfl ?_; refine ol_not rfl rfl rfl (congrArg Value.bool hb61) rfl ?_; refine ol_not rfl rfl rfl (congrArg Value.bool hb61) rfl ?_; refine ol_not rfl rfl rfl (congrArg Value.bool hb61) rfl ?_; refine ol_not rfl rfl rfl (congrArg Value.bool hb61) rfl ?_; refine ol_not rfl rfl rfl (congrArg Value.bool hb61) rfl ?_; refine ol_not rfl rfl rfl (congrArg Value.bool hb61) rfl ?_; refine ol_not rfl rfl rfl (congrArg Value.bool hb61) rfl ?_; refine ol_not rfl rfl rfl (congrArg Value.bool hb61) rfl ?_; refine ol_not rfl rfl rfl (congrArg Value.bool hb61) rfl ?_; refine ol_yes rfl rfl (congrArg Value.bool hb53) ?_; refine ol_v (e_pick false _ (congrArg Value.bool hb61) rfl) rfl ?_; exact ol_nil ⟨⟨_, Wk.refl hW.ok, (congrArg Value.bool (Option.some.inj hr))⟩, (Agr.refl _ _ _).u.u.u.u.u.u.u.u.u.u.u⟩
              rintro ρ84 w85 ⟨⟨Fz86, kw1, hp84⟩, hAg84⟩; have hW87 := hW.trans kw1; have st1 := kw1.stp hW.ok; refine ol_v (e_pick false _ ((hAg84 40 rfl).trans (congrArg Value.bool hb53)) hp84) rfl ?_; exact ol_nil ⟨⟨_, kw1, (congrArg Value.bool (Option.some.inj hr))⟩, (((Agr.refl _ _ _).u.u.u.u.u.into hAg84 rfl rfl).upd rfl rfl)⟩
          rintro ρ89 w90 ⟨⟨Fz91, kw1, hp89⟩, hAg89⟩; have hW92 := hW.trans kw1; have st1 := kw1.stp hW.ok; refine ol_a hp89 ?_; exact ol_fin hr ⟨Fz91, hW92, g2, (SlR.eqv (hAg89 1 rfl) (h1.keep st1)), ((hAg89 2 rfl).trans p2), (h2.wk kw1 hW.ok), (OwnV.eqv (hAg89 5 rfl) (h5.wk kw1 hW.ok)), ((hAg89 6 rfl).trans h6), ((hAg89 7 rfl).trans h7), ((hAg89 8 rfl).trans h8), rfl, ((hAg89 10 rfl).trans h10)⟩
        refine Ref.region (fun s ρ w s' h hr => ?_); obtain ⟨F, hW, g2, h1, p2, h2, h5, h6, h7, h8, h9, h10⟩ := h; refine ol_m h10 ?_; refine ol_v (e_add rfl rfl) rfl ?_; refine ol_a rfl ?_; exact ol_fin hr ⟨F, hW, g2, h1, p2, h2, h5, h6, h7, h8, h9, rfl⟩
      refine Ref.seq (B := G13 w0 F0) ?_ ?_
      · refine Ref.region (fun s ρ w s' h hr => ?_); obtain ⟨F, hW, g2, h1, p2, h2, h5, h6, h7, h9⟩ := h; refine ol_m h9 ?_; obtain ⟨x101, hx102, hr⟩ := bind_some' hr; refine ol_cutA 7 58 64 (fun ρ' w' => w = w' ∧ ρ' 64 = .bool x101) rfl ?_ ?_
        · by_cases hb93 : s.t_9 = true
          · have hr := hx102; rw [if_pos hb93] at hr; refine ol_m rfl ?_; refine ol_yes rfl rfl (congrArg Value.bool hb93) ?_; refine ol_m rfl ?_; refine ol_yes rfl rfl (congrArg Value.bool hb93) ?_; refine ol_m h7 ?_; refine ol_yes rfl rfl (congrArg Value.bool hb93) ?_; obtain ⟨x95, hx95, hr⟩ := bind_some' hr; obtain ⟨g96, o97, c98, hv99, L100⟩ := OwnV.at_ h5 hx95; refine ol_v (e_ixO sl_34 hv99 hx95 rfl rfl) rfl ?_; refine ol_yes rfl rfl (congrArg Value.bool hb93) ?_; refine ol_v (e_ld ty_4 (LiesV.bool L100) rfl) rfl ?_; refine ol_yes rfl rfl (congrArg Value.bool hb93) ?_; refine ol_v (e_not_ rfl) rfl ?_; refine ol_v (e_pick true _ (congrArg Value.bool hb93) rfl) rfl ?_; exact ol_nil ⟨⟨rfl, (congrArg Value.bool (Option.some.inj hr))⟩, (Agr.refl _ _ _).u.u.u.u.u.u.u⟩
          · have hb94 := Bool.eq_false_iff.mpr hb93; have hr := hx102; rw [if_neg hb93] at hr; refine ol_m rfl ?_; refine ol_not rfl rfl rfl (congrArg Value.bool hb94) rfl ?_; refine ol_not rfl rfl rfl (congrArg Value.bool hb94) rfl ?_; refine ol_not rfl rfl rfl (congrArg Value.bool hb94) rfl ?_; refine ol_not rfl rfl rfl (congrArg Value.bool hb94) rfl ?_; refine ol_not rfl rfl rfl (congrArg Value.bool hb94) rfl ?_; refine ol_v (e_pick false _ (congrArg Value.bool hb94) rfl) rfl ?_; exact ol_nil ⟨⟨rfl, (congrArg Value.bool (Option.some.inj hr))⟩, (Agr.refl _ _ _).u.u.u.u.u.u.u⟩
        rintro ρ102 _ ⟨⟨rfl, hp102⟩, hAg102⟩; exact ol_fin hr ⟨F, hW, g2, (SlR.eqv (hAg102 1 rfl) h1), ((hAg102 2 rfl).trans p2), h2, (OwnV.eqv (hAg102 5 rfl) h5), ((hAg102 6 rfl).trans h6), ((hAg102 7 rfl).trans h7), hp102⟩
      refine Ref.condP (b := fun s => s.t_64) (L := G14 w0 F0) (K := G6 w0 F0) ?_ ?_ ?_
      · rintro s ρ w ⟨F, hW, g2, h1, p2, h2, h5, h6, h7, h64⟩; exact ⟨h64, ⟨F, hW, g2, h1, p2, h2, h5, h7⟩, F, hW, g2, h1, p2, h2, h5, h6, h7⟩
      · refine Ref.seq (B := G14 w0 F0) ?_ ?_
        · refine Ref.region (fun s ρ w s' h hr => ?_); obtain ⟨F, hW, g2, h1, p2, h2, h5, h7⟩ := h; refine ol_m rfl ?_; refine ol_m h7 ?_; obtain ⟨x103, hx103, hr⟩ := bind_some' hr; obtain ⟨g104, o105, c106, hv107, L108⟩ := OwnV.at_ h5 hx103; refine ol_v (e_ixO sl_34 hv107 hx103 rfl rfl) rfl ?_; refine ol_eN (f_stO hW h5 hx103 (FldS.whole _) ty_4 (val_bool _) hv107 rfl rfl) rfl ?_; rintro - w109 ⟨hW110, ho111, hg1, st1⟩; exact ol_fin hr ⟨F, hW110, g2, (h1.keep st1), p2, (h2.mut (apart_bo h2 h5 rfl).symm hg1 st1), ho111, h7⟩
        refine Ref.region (fun s ρ w s' h hr => ?_); obtain ⟨F, hW, g2, h1, p2, h2, h5, h7⟩ := h; refine ol_a rfl ?_; exact ol_fin hr ⟨F, hW, g2, h1, p2, h2, h5, rfl, h7⟩
      · exact Ref.skip
    refine Ref.region (fun s ρ w s' h hr => ?_); obtain ⟨F, hW, g2, h1, p2, h2, h5, h6, h7⟩ := h; refine ol_m h7 ?_; refine ol_v (e_add rfl rfl) rfl ?_; refine ol_a rfl ?_; exact ol_fin hr ⟨F, hW, g2, h1, p2, h2, h5, h6, rfl⟩
  refine Ref.seq (B := G15 w0 F0) ?_ ?_
  · refine Ref.region (fun s ρ w s' h hr => ?_); obtain ⟨F, hW, h5⟩ := h; refine ol_m rfl ?_; refine ol_a rfl ?_; exact ol_fin hr ⟨F, hW, h5⟩
  exact Ref.ret (fun s ρ w h => ⟨s, rfl, h⟩)
def post (w : World) (F : BSet) (r : R) (v : Value) (w' : World) : Prop := ∃ (F' : BSet) (v0' : Value), v = v0' ∧ Wk nrow w F F' w' ∧ OwnV kBool 4 (Nw w) F' w' v0' r
theorem calls {w : World} {F : BSet} (hok : ∀ b, F b → b < w.heap.size) {v0 : Value} {a0 : ObjectStore} (h0 : Val k_ObjectStore F w v0 a0) {v1 : Value} {a1 : (List Int)} (h1 : SlR (kInt .i64) F w v1 a1) {r : R} (hf : f a0 a1 = some r) : Calls Try.prog 37 #[v0, v1] w fun e w' => ∃ v, e = .returned v ∧ post w F r v w' := by
  obtain ⟨c, hc, href⟩ := ref w F; refine calls_of_ref (args := [v0, v1]) _ Try.func37 hc rfl rfl href ?_ (retOf_some hf) ?_
  · exact ⟨F, Wk.refl hok, h0, h1⟩
  · rintro ρ w' a ⟨s, rfl, F', hW, h4⟩ hF; refine ⟨_, run_results (rs := [.tmp 4]) rfl hF (vs := [ρ 4]) (⟨_, rfl, rfl⟩), ?_⟩; exact ⟨F', ρ 4, rfl, hW, h4.rebase (fun g hg => (h4.lt hg).1.resolve_right (fun h => h))⟩
end
end ref4_Marked

namespace ref4_Insert
section
def G0 : GT S := fun w0 F0 s ρ w => ∃ F, Wk nrow w0 F0 F w ∧ SlR (kInt .i64) F w (ρ 0) s.l_0 ∧ ρ 1 = .int .i64 s.n_1
def G1 : GT S := fun w0 F0 s ρ w => ∃ F, Wk nrow w0 F0 F w ∧ SlR (kInt .i64) F w (ρ 0) s.l_0 ∧ ρ 1 = .int .i64 s.n_1 ∧ ρ 8 = .bool s.t_8
def G2 : GT S := fun w0 F0 s ρ w => ∃ F, Wk nrow w0 F0 F w ∧ SlR (kInt .i64) F w (ρ 0) s.l_0
def G3 : GT S := fun w0 F0 s ρ w => ∃ F, Wk nrow w0 F0 F w ∧ SlR (kInt .i64) F w (ρ 4) s.t_4
def G4 : GT S := fun w0 F0 s ρ w => ∃ F, Wk nrow w0 F0 F w ∧ SlR (kInt .i64) F w (ρ 0) s.l_0 ∧ ρ 1 = .int .i64 s.n_1 ∧ ρ 5 = .int .i64 s.at_5
def G5 : GT S := fun w0 F0 s ρ w => ∃ F, Wk nrow w0 F0 F w ∧ SlR (kInt .i64) F w (ρ 0) s.l_0 ∧ ρ 1 = .int .i64 s.n_1 ∧ ρ 5 = .int .i64 s.at_5 ∧ ρ 21 = .bool s.t_21
set_option maxHeartbeats 4000000 in
set_option maxRecDepth 20000 in
theorem ref (w0 : World) (F0 : BSet) : ∃ c, Try.f38.body = some c ∧ Ref Try.prog 35 c (G0 w0 F0) body (fun _ _ _ => False) (fun _ _ _ _ => False) (fun r ρ w => ∃ s, retv s = r ∧ G3 w0 F0 s ρ w) := by
  refine ⟨_, rfl, ?_⟩; unfold body; refine Ref.seq (B := G0 w0 F0) ?_ ?_
  · refine Ref.region (fun s ρ w s' h hr => ?_); obtain ⟨F, hW, h0, h1⟩ := h; refine ol_a rfl ?_; exact ol_fin hr ⟨F, hW, h0, h1⟩
  refine Ref.seq (B := G0 w0 F0) ?_ ?_
  · refine Ref.seq (B := G1 w0 F0) ?_ ?_
    · refine Ref.region (fun s ρ w s' h hr => ?_); obtain ⟨F, hW, h0, h1⟩ := h; refine ol_m rfl ?_; refine ol_m h1 ?_; obtain ⟨x1, hx1, hr⟩ := bind_some' hr; refine ol_e (f_call [(ρ 0), .int .i64 s.n_1] fn_24 (lcons rfl (lcons rfl rfl)) (ref3_Has.calls hW.ok h0 s.n_1 hx1)) rfl rfl ?_; rintro _ w2 ⟨Fz3, rfl, kw1⟩; have hW5 := hW.trans kw1; have st1 := kw1.stp hW.ok; exact ol_fin hr ⟨Fz3, hW5, (h0.keep st1), h1, rfl⟩
    refine Ref.condP (b := fun s => s.t_8) (L := G2 w0 F0) (K := G0 w0 F0) ?_ ?_ ?_
    · rintro s ρ w ⟨F, hW, h0, h1, h8⟩; exact ⟨h8, ⟨F, hW, h0⟩, F, hW, h0, h1⟩
    · refine Ref.seq (B := G3 w0 F0) ?_ ?_
      · refine Ref.region (fun s ρ w s' h hr => ?_); obtain ⟨F, hW, h0⟩ := h; refine ol_m rfl ?_; refine ol_a rfl ?_; exact ol_fin hr ⟨F, hW, h0⟩
      exact Ref.ret (fun s ρ w h => ⟨s, rfl, h⟩)
    · exact Ref.skip
  refine Ref.seq (B := G4 w0 F0) ?_ ?_
  · refine Ref.region (fun s ρ w s' h hr => ?_); obtain ⟨F, hW, h0, h1⟩ := h; refine ol_a rfl ?_; exact ol_fin hr ⟨F, hW, h0, h1, rfl⟩
  refine Ref.seq (B := G4 w0 F0) ?_ ?_
  · refine Ref.block ?_; refine Ref.loop ?_; refine Ref.seq (B := G4 w0 F0) ?_ ?_
    · refine Ref.seq (B := G5 w0 F0) ?_ ?_
      · refine Ref.region (fun s ρ w s' h hr => ?_); obtain ⟨F, hW, h0, h1, h5⟩ := h; refine ol_m h5 ?_; refine ol_m rfl ?_; obtain ⟨A6, c7, e8, hc9, R10⟩ := id h0; refine ol_v (e_len (SlT.sl sl_26) e8) rfl ?_; refine ol_v (e_lss rfl rfl) rfl ?_; obtain ⟨x23, hx24, hr⟩ := bind_some' hr; refine ol_cutA 8 14 21 (fun ρ' w' => w = w' ∧ ρ' 21 = .bool x23) rfl ?_ ?_
        · by_cases hb11 : (decide (s.at_5 < (s.l_0.length : Int))) = true
          · have hr := hx24; rw [if_pos hb11] at hr; refine ol_m rfl ?_; refine ol_yes rfl rfl (congrArg Value.bool hb11) ?_; refine ol_m rfl ?_; refine ol_yes rfl rfl (congrArg Value.bool hb11) ?_; refine ol_m h5 ?_; refine ol_yes rfl rfl (congrArg Value.bool hb11) ?_; obtain ⟨x13, hx13, hr⟩ := bind_some' hr; obtain ⟨A14, c15, e16, hc17, R18⟩ := id h0; obtain ⟨b19, o20, hA21, L22⟩ := Row.at_ R18 hx13; refine ol_v (e_ix (SlT.sl sl_26) (SlT.sz sl_26) hA21 hx13 e16 rfl) rfl ?_; refine ol_yes rfl rfl (congrArg Value.bool hb11) ?_; refine ol_v (e_ld ty_3 (LiesV.int L22.at_) rfl) rfl ?_; refine ol_yes rfl rfl (congrArg Value.bool hb11) ?_; refine ol_m h1 ?_; refine ol_yes rfl rfl (congrArg Value.bool hb11) ?_; refine ol_v (e_lss rfl rfl) rfl ?_; refine ol_v (e_pick true _ (congrArg Value.bool hb11) rfl) rfl ?_; exact ol_nil ⟨⟨rfl, (congrArg Value.bool (Option.some.inj hr))⟩, (Agr.refl _ _ _).u.u.u.u.u.u.u.u⟩
          · have hb12 := Bool.eq_false_iff.mpr hb11; have hr := hx24; rw [if_neg hb11] at hr; refine ol_m rfl ?_; refine ol_not rfl rfl rfl (congrArg Value.bool hb12) rfl ?_; refine ol_not rfl rfl rfl (congrArg Value.bool hb12) rfl ?_; refine ol_not rfl rfl rfl (congrArg Value.bool hb12) rfl ?_; refine ol_not rfl rfl rfl (congrArg Value.bool hb12) rfl ?_; refine ol_not rfl rfl rfl (congrArg Value.bool hb12) rfl ?_; refine ol_not rfl rfl rfl (congrArg Value.bool hb12) rfl ?_; refine ol_v (e_pick false _ (congrArg Value.bool hb12) rfl) rfl ?_; exact ol_nil ⟨⟨rfl, (congrArg Value.bool (Option.some.inj hr))⟩, (Agr.refl _ _ _).u.u.u.u.u.u.u.u⟩
        rintro ρ24 _ ⟨⟨rfl, hp24⟩, hAg24⟩; exact ol_fin hr ⟨F, hW, (SlR.eqv (hAg24 0 rfl) h0), ((hAg24 1 rfl).trans h1), ((hAg24 5 rfl).trans h5), hp24⟩
      refine Ref.condP (b := fun s => s.t_21) (L := G4 w0 F0) (K := G4 w0 F0) ?_ ?_ ?_
      · rintro s ρ w ⟨F, hW, h0, h1, h5, h21⟩; exact ⟨h21, ⟨F, hW, h0, h1, h5⟩, F, hW, h0, h1, h5⟩
      · exact Ref.skip
      · exact Ref.exit (fun s ρ w h => h)
    refine Ref.block ?_; refine Ref.region (fun s ρ w s' h hr => ?_); obtain ⟨F, hW, h0, h1, h5⟩ := h; refine ol_m h5 ?_; refine ol_v (e_add rfl rfl) rfl ?_; refine ol_a rfl ?_; exact ol_fin hr ⟨F, hW, h0, h1, rfl⟩
  refine Ref.seq (B := G3 w0 F0) ?_ ?_
  · refine Ref.regionH (by kernel_rfl) (fun s ρ w ⟨F, hW, h0, h1, h5⟩ => ⟨F, hW.drewS, h0.keep (sd hW), h1, h5⟩) (fun s ρ w s' h hr => ?_); obtain ⟨F, hW, h0, h1, h5⟩ := h; refine ⟨fun w' => Stp F w F w', ?_⟩; refine oh_v 0 rfl (by kernel_rfl) (by kernel_rfl) (by kernel_rfl) (Stp.refl _ _) (fun wv_ SV => e_mv _ rfl) rfl ?_; refine oh_v 1 rfl (by kernel_rfl) (by kernel_rfl) (by kernel_rfl) (Stp.refl _ _) (fun wv_ SV => e_mv _ h5) rfl ?_; obtain ⟨A25, c26, e27, hc28, R29⟩ := id h0; obtain ⟨x30, hx30, hr⟩ := bind_some' hr; have hs31 := SlR.cutTo R29 hc28 hx30; refine oh_v 2 rfl (by kernel_rfl) (by kernel_rfl) (by kernel_rfl) (Stp.refl _ _) (fun wv_ SV => e_slH (SlT.sl sl_26) (SlT.sz sl_26) hc28 e27 rfl hx30) rfl ?_; refine oh_v 4 rfl (by kernel_rfl) (by kernel_rfl) (by kernel_rfl) (Stp.refl _ _) (fun wv_ SV => e_mv _ h1) rfl ?_; refine oh_v 7 rfl (by kernel_rfl) (by kernel_rfl) (by kernel_rfl) (Stp.refl _ _) (fun wv_ SV => e_mv _ rfl) rfl ?_; refine oh_v 8 rfl (by kernel_rfl) (by kernel_rfl) (by kernel_rfl) (Stp.refl _ _) (fun wv_ SV => e_mv _ h5) rfl ?_; obtain ⟨A32, c33, e34, hc35, R36⟩ := id h0; obtain ⟨x37, hx37, hr⟩ := bind_some' hr; have hs38 := SlR.cutFrom R36 hc35 hx37; refine oh_v 9 rfl (by kernel_rfl) (by kernel_rfl) (by kernel_rfl) (Stp.refl _ _) (fun wv_ SV => e_slL (SlT.sl sl_26) (SlT.sz sl_26) hc35 e34 rfl hx37) rfl ?_; refine oh_all [3, 5] (by kernel_rfl) rfl ⟨?_, ?_, trivial⟩
    · obtain ⟨x39, hx39, hr⟩ := bind_some' hr; refine oh1_e rfl (f_app sl_26 hW (OwnV.nil (kInt .i64) 3 (Bs w0 nrow) F w) hs31 hx39 rfl rfl) rfl ?_; rintro v40 w41 ⟨hW42, ho43, hg1, st1, hor44⟩; refine ⟨(Stp.back st1), ?_⟩; refine oh_all [5] (by kernel_rfl) rfl ⟨?_, trivial⟩
      · refine oh1_e rfl (f_bslF sl_26 hW42 ([s.n_1] : List Int) [.int .i64 s.n_1] (by exact ⟨_, _, rfl, (val_int _ _), rfl⟩) rfl (Nat.le_of_ble_eq_true rfl) (lcons (congrArg (Prod.mk 0) rfl) rfl)) rfl ?_; rintro v45 w46 ⟨Fz48, kw2, ho47⟩; have hW49 := hW42.trans kw2; have st2 := kw2.stp hW42.ok; refine ⟨(Stp.back (st1.trans st2)), ?_⟩; refine oh_all [6] (by kernel_rfl) rfl ⟨?_, trivial⟩
        · obtain ⟨x50, hx50, hr⟩ := bind_some' hr; refine oh1_e rfl (f_app sl_26 hW49 (ho43.wk kw2 hW42.ok) ho47 hx50 rfl rfl) rfl ?_; rintro v51 w52 ⟨hW53, ho54, hg3, st3, hor55⟩; refine ⟨(Stp.back (st1.trans (st2.trans st3))), ?_⟩; refine oh_all [10] (by kernel_rfl) rfl ⟨?_, trivial⟩
          · obtain ⟨x56, hx56, hr⟩ := bind_some' hr; refine oh1_e rfl (f_app sl_26 hW53 ho54 (hs38.keep (st1.trans (st2.trans st3))) hx56 rfl rfl) rfl ?_; rintro v57 w58 ⟨hW59, ho60, hg4, st4, hor61⟩; refine ⟨(Stp.back (st1.trans (st2.trans (st3.trans st4)))), ?_⟩; refine oh_all [11] (by kernel_rfl) rfl ⟨?_, trivial⟩
            · obtain ⟨Fz62, hWz63, st5, hF5, hz64⟩ := (ho60).frozen hW59; refine oh1_v rfl (e_as _ rfl) rfl ?_; refine ⟨(Stp.back (st1.trans (st2.trans (st3.trans (st4.trans st5))))), ?_⟩; obtain rfl := Option.some.inj hr; exact oh_done (by kernel_rfl) ⟨Fz62, hWz63, hz64⟩
    · refine oh1_e rfl (f_bslF sl_26 hW ([s.n_1] : List Int) [.int .i64 s.n_1] (by exact ⟨_, _, rfl, (val_int _ _), rfl⟩) rfl (Nat.le_of_ble_eq_true rfl) (lcons (congrArg (Prod.mk 0) rfl) rfl)) rfl ?_; rintro v65 w66 ⟨Fz68, kw1, ho67⟩; have hW69 := hW.trans kw1; have st1 := kw1.stp hW.ok; refine ⟨(Stp.back st1), ?_⟩; refine oh_all [3] (by kernel_rfl) rfl ⟨?_, trivial⟩
      · obtain ⟨x39, hx39, hr⟩ := bind_some' hr; refine oh1_e rfl (f_app sl_26 hW69 (OwnV.nil (kInt .i64) 3 (Bs w0 nrow) Fz68 w66) (hs31.keep st1) hx39 rfl rfl) rfl ?_; rintro v70 w71 ⟨hW72, ho73, hg2, st2, hor74⟩; refine ⟨(Stp.back (st1.trans st2)), ?_⟩; refine oh_all [6] (by kernel_rfl) rfl ⟨?_, trivial⟩
        · obtain ⟨x50, hx50, hr⟩ := bind_some' hr; refine oh1_e rfl (f_app sl_26 hW72 ho73 (ho67.keep st2) hx50 rfl rfl) rfl ?_; rintro v75 w76 ⟨hW77, ho78, hg3, st3, hor79⟩; refine ⟨(Stp.back (st1.trans (st2.trans st3))), ?_⟩; refine oh_all [10] (by kernel_rfl) rfl ⟨?_, trivial⟩
          · obtain ⟨x56, hx56, hr⟩ := bind_some' hr; refine oh1_e rfl (f_app sl_26 hW77 ho78 (hs38.keep (st1.trans (st2.trans st3))) hx56 rfl rfl) rfl ?_; rintro v80 w81 ⟨hW82, ho83, hg4, st4, hor84⟩; refine ⟨(Stp.back (st1.trans (st2.trans (st3.trans st4)))), ?_⟩; refine oh_all [11] (by kernel_rfl) rfl ⟨?_, trivial⟩
            · obtain ⟨Fz85, hWz86, st5, hF5, hz87⟩ := (ho83).frozen hW82; refine oh1_v rfl (e_as _ rfl) rfl ?_; refine ⟨(Stp.back (st1.trans (st2.trans (st3.trans (st4.trans st5))))), ?_⟩; obtain rfl := Option.some.inj hr; exact oh_done (by kernel_rfl) ⟨Fz85, hWz86, hz87⟩
  exact Ref.ret (fun s ρ w h => ⟨s, rfl, h⟩)
def post (w : World) (F : BSet) (r : R) (v : Value) (w' : World) : Prop := ∃ (F' : BSet) (v0' : Value), v = v0' ∧ Wk nrow w F F' w' ∧ SlR (kInt .i64) F' w' v0' r
theorem calls {w : World} {F : BSet} (hok : ∀ b, F b → b < w.heap.size) {v0 : Value} {a0 : (List Int)} (h0 : SlR (kInt .i64) F w v0 a0) (a1 : Int) {r : R} (hf : f a0 a1 = some r) : Calls Try.prog 38 #[v0, .int .i64 a1] w fun e w' => ∃ v, e = .returned v ∧ post w F r v w' := by
  obtain ⟨c, hc, href⟩ := ref w F; refine calls_of_ref (args := [v0, .int .i64 a1]) _ Try.func38 hc rfl rfl href ?_ (retOf_some hf) ?_
  · exact ⟨F, Wk.refl hok, h0, rfl⟩
  · rintro ρ w' a ⟨s, rfl, F', hW, h4⟩ hF; refine ⟨_, run_results (rs := [.tmp 4]) rfl hF (vs := [ρ 4]) (⟨_, rfl, rfl⟩), ?_⟩; exact ⟨F', ρ 4, rfl, hW, h4⟩
end
end ref4_Insert

namespace ref4_NeededOf
section
abbrev c1 (F : BSet) (w : World) (ρ : Env) (s : S) (X : Prop) : Prop := SlR (kInt .i64) F w (ρ 1) s.t_1 ∧ SlR (kInt .i64) F w (ρ 2) s.t_2 ∧ X
abbrev c2 (ρ : Env) (g3 : Nat) (w0 w : World) (F : BSet) (s : S) (X : Prop) : Prop := ρ 3 = .pointer (some ⟨g3, 0, none⟩) ∧ Box k_ObjectStore 24 (Bs w0 nrow) F w g3 s.t_3 ∧ X
abbrev c3 (F : BSet) (w : World) (ρ : Env) (s : S) (X : Prop) : Prop := SlR kBool F w (ρ 8) s.t_8 ∧ X
abbrev c4 (F : BSet) (w : World) (ρ : Env) (s : S) (X : Prop) : Prop := SlR (kInt .i64) F w (ρ 9) s.t_9 ∧ X
abbrev c5 (ρ : Env) (s : S) (X : Prop) : Prop := ρ 10 = .bool s.t_10 ∧ X
abbrev c6 (ρ : Env) (s : S) (X : Prop) : Prop := ρ 11 = .int .i64 s.t_11 ∧ X
abbrev c8 (F : BSet) (w : World) (ρ : Env) (s : S) (X : Prop) : Prop := SlR (kInt .i64) F w (ρ 12) s.t_12 ∧ X
def G0 : GT S := fun w0 F0 s ρ w => ∃ F, Wk nrow w0 F0 F w ∧ Val k_ObjectStore F w (ρ 0) s.t_0 ∧ SlR (kInt .i64) F w (ρ 1) s.t_1 ∧ SlR (kInt .i64) F w (ρ 2) s.t_2
def G1 : GT S := fun w0 F0 s ρ w => ∃ F, Wk nrow w0 F0 F w ∧ ∃ g3, c1 F w ρ s (ρ 3 = .pointer (some ⟨g3, 0, none⟩) ∧ Box k_ObjectStore 24 (Bs w0 nrow) F w g3 s.t_3)
def G2 : GT S := fun w0 F0 s ρ w => ∃ F, Wk nrow w0 F0 F w ∧ ∃ g3, c1 F w ρ s (c2 ρ g3 w0 w F s (SlR kBool F w (ρ 8) s.t_8))
def G3 : GT S := fun w0 F0 s ρ w => ∃ F, Wk nrow w0 F0 F w ∧ ∃ g3, c1 F w ρ s (c2 ρ g3 w0 w F s (c3 F w ρ s (SlR (kInt .i64) F w (ρ 9) s.t_9)))
def G4 : GT S := fun w0 F0 s ρ w => ∃ F, Wk nrow w0 F0 F w ∧ ∃ g3, c1 F w ρ s (c2 ρ g3 w0 w F s (c3 F w ρ s (c4 F w ρ s (ρ 10 = .bool s.t_10))))
def G5 : GT S := fun w0 F0 s ρ w => ∃ F, Wk nrow w0 F0 F w ∧ ∃ g3, c1 F w ρ s (c2 ρ g3 w0 w F s (c3 F w ρ s (c4 F w ρ s (c5 ρ s (ρ 11 = .int .i64 s.t_11)))))
def G6 : GT S := fun w0 F0 s ρ w => ∃ F, Wk nrow w0 F0 F w ∧ ∃ g3, c1 F w ρ s (c2 ρ g3 w0 w F s (c3 F w ρ s (c4 F w ρ s (c5 ρ s (c6 ρ s (ρ 21 = .bool s.t_21))))))
def G7 : GT S := fun w0 F0 s ρ w => ∃ F, Wk nrow w0 F0 F w ∧ c4 F w ρ s (ρ 10 = .bool s.t_10)
def G8 : GT S := fun w0 F0 s ρ w => ∃ F, Wk nrow w0 F0 F w ∧ ∃ g3, c1 F w ρ s (c2 ρ g3 w0 w F s (c3 F w ρ s (c4 F w ρ s (c5 ρ s (c6 ρ s (SlR (kInt .i64) F w (ρ 12) s.t_12))))))
def G9 : GT S := fun w0 F0 s ρ w => ∃ F, Wk nrow w0 F0 F w ∧ ∃ g3, c1 F w ρ s (c2 ρ g3 w0 w F s (c3 F w ρ s (c4 F w ρ s (c5 ρ s (c6 ρ s (c8 F w ρ s (ρ 26 = .bool s.t_26)))))))
def G10 : GT S := fun w0 F0 s ρ w => ∃ F, Wk nrow w0 F0 F w ∧ ∃ g3, c1 F w ρ s (c2 ρ g3 w0 w F s (c3 F w ρ s (c4 F w ρ s (c5 ρ s (c6 ρ s (c8 F w ρ s (ρ 13 = .int .i64 s.t_13)))))))
def G11 : GT S := fun w0 F0 s ρ w => ∃ F, Wk nrow w0 F0 F w ∧ ∃ g3, c1 F w ρ s (c2 ρ g3 w0 w F s (c3 F w ρ s (c4 F w ρ s (c5 ρ s (c6 ρ s (c8 F w ρ s (ρ 13 = .int .i64 s.t_13 ∧ ρ 47 = .bool s.t_47)))))))
def G12 : GT S := fun w0 F0 s ρ w => ∃ F, Wk nrow w0 F0 F w ∧ ∃ g3, c1 F w ρ s (c2 ρ g3 w0 w F s (c3 F w ρ s (c4 F w ρ s (c5 ρ s (c6 ρ s (c8 F w ρ s (ρ 13 = .int .i64 s.t_13 ∧ ρ 55 = .bool s.t_55)))))))
def G13 : GT S := fun w0 F0 s ρ w => ∃ F, Wk nrow w0 F0 F w ∧ ∃ g3, c1 F w ρ s (c2 ρ g3 w0 w F s (c3 F w ρ s (c4 F w ρ s (c5 ρ s (c6 ρ s (c8 F w ρ s (ρ 13 = .int .i64 s.t_13 ∧ ρ 68 = .bool s.t_68)))))))
def G14 : GT S := fun w0 F0 s ρ w => ∃ F, Wk nrow w0 F0 F w ∧ ∃ g3, c1 F w ρ s (c2 ρ g3 w0 w F s (c3 F w ρ s (c4 F w ρ s (c6 ρ s (c8 F w ρ s (ρ 13 = .int .i64 s.t_13))))))
def G15 : GT S := fun w0 F0 s ρ w => ∃ F, Wk nrow w0 F0 F w ∧ SlR (kInt .i64) F w (ρ 6) s.t_6 ∧ ρ 7 = .bool s.t_7
set_option maxHeartbeats 4000000 in
set_option maxRecDepth 20000 in
theorem ref (w0 : World) (F0 : BSet) : ∃ c, Try.f20.body = some c ∧ Ref Try.prog 71 c (G0 w0 F0) body (fun _ _ _ => False) (fun _ _ _ _ => False) (fun r ρ w => ∃ s, retv s = r ∧ G15 w0 F0 s ρ w) := by
  refine ⟨_, rfl, ?_⟩; unfold body; refine Ref.seq (B := G1 w0 F0) ?_ ?_
  · refine Ref.region (fun s ρ w s' h hr => ?_); obtain ⟨F, hW, h0, h1, h2⟩ := h; refine ol_e (f_box hW rfl h0) rfl rfl ?_; rintro _ w2 ⟨g1, rfl, kw1, ho3⟩; have hW4 := hW.trans kw1; have st1 := kw1.stp hW.ok; refine ol_a rfl ?_; refine ol_a rfl ?_; exact ol_fin hr ⟨F, hW4, g1, (h1.keep st1), (h2.keep st1), rfl, (ho3.base (row := nrow) hW.le)⟩
  refine Ref.seq (B := G2 w0 F0) ?_ ?_
  · refine Ref.region (fun s ρ w s' h hr => ?_); obtain ⟨F, hW, g3, h1, h2, p3, h3⟩ := h; obtain ⟨v5, hl6⟩ := LiesAt.v (h3).at_; refine ol_v (e_ld ty_24 hl6 p3) rfl ?_; refine ol_m rfl ?_; obtain ⟨x7, hx7, hr⟩ := bind_some' hr; refine ol_e (f_call [v5, (ρ 2)] fn_37 (lcons rfl (lcons rfl rfl)) (ref4_Marked.calls hW.ok hl6.val h2 hx7)) rfl rfl ?_; rintro v10 w8 ⟨Fz9, _, rfl, kw1, hk11⟩; have hW13 := hW.trans kw1; have st1 := kw1.stp hW.ok; obtain ⟨Fz14, hWz15, st2, hF2, hz16⟩ := ((hk11.base (row := nrow) hW.le)).frozen hW13; refine ol_a rfl ?_; exact ol_fin hr ⟨Fz14, hWz15, g3, (h1.keep (st1.trans st2)), (h2.keep (st1.trans st2)), p3, ((h3.wk kw1 hW.ok).frz (apart_bo (h3.wk kw1 hW.ok) (hk11.base (row := nrow) hW.le) rfl).symm hF2 st2), hz16⟩
  refine Ref.seq (B := G3 w0 F0) ?_ ?_
  · refine Ref.region (fun s ρ w s' h hr => ?_); obtain ⟨F, hW, g3, h1, h2, p3, h3, h8⟩ := h; refine ol_a rfl ?_; exact ol_fin hr ⟨F, hW, g3, h1, h2, p3, h3, h8, (SlR.nil (kInt .i64) F w)⟩
  refine Ref.seq (B := G4 w0 F0) ?_ ?_
  · refine Ref.region (fun s ρ w s' h hr => ?_); obtain ⟨F, hW, g3, h1, h2, p3, h3, h8, h9⟩ := h; refine ol_a rfl ?_; exact ol_fin hr ⟨F, hW, g3, h1, h2, p3, h3, h8, h9, rfl⟩
  refine Ref.seq (B := G7 w0 F0) ?_ ?_
  · refine Ref.seq (B := G5 w0 F0) ?_ ?_
    · refine Ref.region (fun s ρ w s' h hr => ?_); obtain ⟨F, hW, g3, h1, h2, p3, h3, h8, h9, h10⟩ := h; refine ol_a rfl ?_; exact ol_fin hr ⟨F, hW, g3, h1, h2, p3, h3, h8, h9, h10, rfl⟩
    refine Ref.block ?_; refine Ref.loop ?_; refine Ref.seq (B := G5 w0 F0) ?_ ?_
    · refine Ref.seq (B := G6 w0 F0) ?_ ?_
      · refine Ref.region (fun s ρ w s' h hr => ?_); obtain ⟨F, hW, g3, h1, h2, p3, h3, h8, h9, h10, h11⟩ := h; refine ol_m h11 ?_; refine ol_v (e_fa fa_24_0 p3) rfl ?_; obtain ⟨v17, hl18, hs19⟩ := LiesV.sl ((h3).at_.fld fl_ObjectStore_0); refine ol_v (e_ld ty_22 hl18 rfl) rfl ?_; obtain ⟨A20, c21, e22, hc23, R24⟩ := id hs19; refine ol_v (e_len (SlT.sl sl_22) e22) rfl ?_; refine ol_v (e_lss rfl rfl) rfl ?_; exact ol_fin hr ⟨F, hW, g3, h1, h2, p3, h3, h8, h9, h10, h11, rfl⟩
      refine Ref.condP (b := fun s => s.t_21) (L := G5 w0 F0) (K := G7 w0 F0) ?_ ?_ ?_
      · rintro s ρ w ⟨F, hW, g3, h1, h2, p3, h3, h8, h9, h10, h11, h21⟩; exact ⟨h21, ⟨F, hW, g3, h1, h2, p3, h3, h8, h9, h10, h11⟩, F, hW, h9, h10⟩
      · exact Ref.skip
      · exact Ref.exit (fun s ρ w h => h)
    refine Ref.seq (B := G5 w0 F0) ?_ ?_
    · refine Ref.block ?_; refine Ref.seq (B := G8 w0 F0) ?_ ?_
      · refine Ref.region (fun s ρ w s' h hr => ?_); obtain ⟨F, hW, g3, h1, h2, p3, h3, h8, h9, h10, h11⟩ := h; refine ol_m rfl ?_; refine ol_a rfl ?_; exact ol_fin hr ⟨F, hW, g3, h1, h2, p3, h3, h8, h9, h10, h11, h2⟩
      refine Ref.seq (B := G8 w0 F0) ?_ ?_
      · refine Ref.seq (B := G9 w0 F0) ?_ ?_
        · refine Ref.region (fun s ρ w s' h hr => ?_); obtain ⟨F, hW, g3, h1, h2, p3, h3, h8, h9, h10, h11, h12⟩ := h; refine ol_m h11 ?_; refine ol_v (e_geq rfl rfl) rfl ?_; exact ol_fin hr ⟨F, hW, g3, h1, h2, p3, h3, h8, h9, h10, h11, h12, rfl⟩
        refine Ref.condP (b := fun s => s.t_26) (L := G5 w0 F0) (K := G8 w0 F0) ?_ ?_ ?_
        · rintro s ρ w ⟨F, hW, g3, h1, h2, p3, h3, h8, h9, h10, h11, h12, h26⟩; exact ⟨h26, ⟨F, hW, g3, h1, h2, p3, h3, h8, h9, h10, h11⟩, F, hW, g3, h1, h2, p3, h3, h8, h9, h10, h11, h12⟩
        · refine Ref.region (fun s ρ w s' h hr => ?_); obtain ⟨F, hW, g3, h1, h2, p3, h3, h8, h9, h10, h11⟩ := h; refine ol_v (e_fa fa_24_0 p3) rfl ?_; obtain ⟨v25, hl26, hs27⟩ := LiesV.sl ((h3).at_.fld fl_ObjectStore_0); refine ol_v (e_ld ty_22 hl26 rfl) rfl ?_; refine ol_m h11 ?_; obtain ⟨x28, hx28, hr⟩ := bind_some' hr; obtain ⟨A29, c30, e31, hc32, R33⟩ := id hs27; obtain ⟨b34, o35, hA36, L37⟩ := Row.at_ R33 hx28; refine ol_v (e_ix (SlT.sl sl_22) (SlT.sz sl_22) hA36 hx28 e31 rfl) rfl ?_; refine ol_v (e_fa fa_39_1 rfl) rfl ?_; refine ol_v (e_fa fa_37_1 rfl) rfl ?_; obtain ⟨v38, hl39, hs40⟩ := LiesV.sl ((L37.fld fl_StoredObject_1).fld fl_Object_1).at_; refine ol_v (e_ld ty_26 hl39 rfl) rfl ?_; refine ol_a rfl ?_; exact ol_fin hr ⟨F, hW, g3, h1, h2, p3, h3, h8, h9, h10, h11, hs40⟩
        · exact Ref.skip
      refine Ref.seq (B := G10 w0 F0) ?_ ?_
      · refine Ref.region (fun s ρ w s' h hr => ?_); obtain ⟨F, hW, g3, h1, h2, p3, h3, h8, h9, h10, h11, h12⟩ := h; refine ol_a rfl ?_; exact ol_fin hr ⟨F, hW, g3, h1, h2, p3, h3, h8, h9, h10, h11, h12, rfl⟩
      refine Ref.block ?_; refine Ref.loop ?_; refine Ref.seq (B := G10 w0 F0) ?_ ?_
      · refine Ref.seq (B := G11 w0 F0) ?_ ?_
        · refine Ref.region (fun s ρ w s' h hr => ?_); obtain ⟨F, hW, g3, h1, h2, p3, h3, h8, h9, h10, h11, h12, h13⟩ := h; refine ol_m h13 ?_; refine ol_m rfl ?_; obtain ⟨A41, c42, e43, hc44, R45⟩ := id h12; refine ol_v (e_len (SlT.sl sl_26) e43) rfl ?_; refine ol_v (e_lss rfl rfl) rfl ?_; obtain ⟨x62, hx63, hr⟩ := bind_some' hr; refine ol_cutA 10 38 47 (fun ρ' w' => w = w' ∧ ρ' 47 = .bool x62) rfl ?_ ?_
          · by_cases hb46 : (decide (s.t_13 < (s.t_12.length : Int))) = true
            · have hr := hx63; rw [if_pos hb46] at hr; refine ol_m rfl ?_; refine ol_yes rfl rfl (congrArg Value.bool hb46) ?_; refine ol_m h11 ?_; refine ol_yes rfl rfl (congrArg Value.bool hb46) ?_; refine ol_v (e_lss rfl rfl) rfl ?_; refine ol_yes rfl rfl (congrArg Value.bool hb46) ?_; obtain ⟨x60, hx61, hr⟩ := bind_some' hr; refine ol_cutA 6 41 46 (fun ρ' w' => w = w' ∧ ρ' 46 = .bool x60) rfl ?_ ?_
              · by_cases hb48 : (decide (s.t_11 < (0 : Int))) = true
                · have hr := hx61; rw [if_pos hb48] at hr; refine ol_m rfl ?_; refine ol_not rfl rfl rfl (congrArg Value.bool hb48) rfl ?_; refine ol_not rfl rfl rfl (congrArg Value.bool hb48) rfl ?_; refine ol_not rfl rfl rfl (congrArg Value.bool hb48) rfl ?_; refine ol_not rfl rfl rfl (congrArg Value.bool hb48) rfl ?_; refine ol_yes rfl rfl (congrArg Value.bool hb46) ?_; refine ol_v (e_pick true _ (congrArg Value.bool hb48) rfl) rfl ?_; exact ol_nil ⟨⟨rfl, (congrArg Value.bool (Option.some.inj hr))⟩, (Agr.refl _ _ _).u.u.u.u.u.u⟩
                · have hb49 := Bool.eq_false_iff.mpr hb48; have hr := hx61; rw [if_neg hb48] at hr; refine ol_m rfl ?_; refine ol_yes rfl rfl (congrArg Value.bool hb49) ?_; refine ol_m rfl ?_; refine ol_yes rfl rfl (congrArg Value.bool hb49) ?_; refine ol_m h11 ?_; refine ol_yes rfl rfl (congrArg Value.bool hb49) ?_; obtain ⟨x50, hx50, hr⟩ := bind_some' hr; obtain ⟨A51, c52, e53, hc54, R55⟩ := id h8; obtain ⟨b56, o57, hA58, L59⟩ := Row.at_ R55 hx50; refine ol_v (e_ix (SlT.sl sl_34) (SlT.sz sl_34) hA58 hx50 e53 rfl) rfl ?_; refine ol_yes rfl rfl (congrArg Value.bool hb49) ?_; refine ol_v (e_ld ty_4 (LiesV.bool L59.at_) rfl) rfl ?_; refine ol_yes rfl rfl (congrArg Value.bool hb46) ?_; refine ol_v (e_pick false _ (congrArg Value.bool hb49) rfl) rfl ?_; exact ol_nil ⟨⟨rfl, (congrArg Value.bool (Option.some.inj hr))⟩, (Agr.refl _ _ _).u.u.u.u.u.u⟩
              rintro ρ61 _ ⟨⟨rfl, hp61⟩, hAg61⟩; refine ol_v (e_pick true _ ((hAg61 38 rfl).trans (congrArg Value.bool hb46)) hp61) rfl ?_; exact ol_nil ⟨⟨rfl, (congrArg Value.bool (Option.some.inj hr))⟩, (((Agr.refl _ _ _).u.u.u.into hAg61 rfl rfl).upd rfl rfl)⟩
            · have hb47 := Bool.eq_false_iff.mpr hb46; have hr := hx63; rw [if_neg hb46] at hr; refine ol_m rfl ?_; refine ol_not rfl rfl rfl (congrArg Value.bool hb47) rfl ?_; refine ol_not rfl rfl rfl (congrArg Value.bool hb47) rfl ?_; refine ol_not rfl rfl rfl (congrArg Value.bool hb47) rfl ?_; refine ol_notU rfl rfl rfl rfl ?_; refine ol_notU rfl rfl rfl rfl ?_; refine ol_notU rfl rfl rfl rfl ?_; refine ol_notU rfl rfl rfl rfl ?_; refine ol_not rfl rfl rfl (congrArg Value.bool hb47) rfl ?_; refine ol_v (e_pick false _ (congrArg Value.bool hb47) rfl) rfl ?_; exact ol_nil ⟨⟨rfl, (congrArg Value.bool (Option.some.inj hr))⟩, (Agr.refl _ _ _).u.u.u.u.u.u.u.u.u.u⟩
          rintro ρ63 _ ⟨⟨rfl, hp63⟩, hAg63⟩; exact ol_fin hr ⟨F, hW, g3, (SlR.eqv (hAg63 1 rfl) h1), (SlR.eqv (hAg63 2 rfl) h2), ((hAg63 3 rfl).trans p3), h3, (SlR.eqv (hAg63 8 rfl) h8), (SlR.eqv (hAg63 9 rfl) h9), ((hAg63 10 rfl).trans h10), ((hAg63 11 rfl).trans h11), (SlR.eqv (hAg63 12 rfl) h12), ((hAg63 13 rfl).trans h13), hp63⟩
        refine Ref.condP (b := fun s => s.t_47) (L := G10 w0 F0) (K := G5 w0 F0) ?_ ?_ ?_
        · rintro s ρ w ⟨F, hW, g3, h1, h2, p3, h3, h8, h9, h10, h11, h12, h13, h47⟩; exact ⟨h47, ⟨F, hW, g3, h1, h2, p3, h3, h8, h9, h10, h11, h12, h13⟩, F, hW, g3, h1, h2, p3, h3, h8, h9, h10, h11⟩
        · exact Ref.skip
        · exact Ref.exit (fun s ρ w h => h)
      refine Ref.seq (B := G10 w0 F0) ?_ ?_
      · refine Ref.block ?_; refine Ref.seq (B := G12 w0 F0) ?_ ?_
        · refine Ref.region (fun s ρ w s' h hr => ?_); obtain ⟨F, hW, g3, h1, h2, p3, h3, h8, h9, h10, h11, h12, h13⟩ := h; refine ol_m rfl ?_; refine ol_m rfl ?_; refine ol_m h13 ?_; obtain ⟨x64, hx64, hr⟩ := bind_some' hr; obtain ⟨A65, c66, e67, hc68, R69⟩ := id h12; obtain ⟨b70, o71, hA72, L73⟩ := Row.at_ R69 hx64; refine ol_v (e_ix (SlT.sl sl_26) (SlT.sz sl_26) hA72 hx64 e67 rfl) rfl ?_; refine ol_v (e_ld ty_3 (LiesV.int L73.at_) rfl) rfl ?_; obtain ⟨x74, hx74, hr⟩ := bind_some' hr; refine ol_e (f_call [(ρ 1), .int .i64 x64] fn_24 (lcons rfl (lcons rfl rfl)) (ref3_Has.calls hW.ok h1 x64 hx74)) rfl rfl ?_; rintro _ w75 ⟨Fz76, rfl, kw1⟩; have hW78 := hW.trans kw1; have st1 := kw1.stp hW.ok; exact ol_fin hr ⟨Fz76, hW78, g3, (h1.keep st1), (h2.keep st1), p3, (h3.wk kw1 hW.ok), (h8.keep st1), (h9.keep st1), h10, h11, (h12.keep st1), h13, rfl⟩
        refine Ref.condP (b := fun s => s.t_55) (L := G10 w0 F0) (K := G10 w0 F0) ?_ ?_ ?_
        · rintro s ρ w ⟨F, hW, g3, h1, h2, p3, h3, h8, h9, h10, h11, h12, h13, h55⟩; exact ⟨h55, ⟨F, hW, g3, h1, h2, p3, h3, h8, h9, h10, h11, h12, h13⟩, F, hW, g3, h1, h2, p3, h3, h8, h9, h10, h11, h12, h13⟩
        · refine Ref.region (fun s ρ w s' h hr => ?_); obtain ⟨F, hW, g3, h1, h2, p3, h3, h8, h9, h10, h11, h12, h13⟩ := h; refine ol_m rfl ?_; refine ol_m rfl ?_; refine ol_m h13 ?_; obtain ⟨x79, hx79, hr⟩ := bind_some' hr; obtain ⟨A80, c81, e82, hc83, R84⟩ := id h12; obtain ⟨b85, o86, hA87, L88⟩ := Row.at_ R84 hx79; refine ol_v (e_ix (SlT.sl sl_26) (SlT.sz sl_26) hA87 hx79 e82 rfl) rfl ?_; refine ol_v (e_ld ty_3 (LiesV.int L88.at_) rfl) rfl ?_; obtain ⟨x89, hx89, hr⟩ := bind_some' hr; refine ol_e (f_call [(ρ 9), .int .i64 x79] fn_38 (lcons rfl (lcons rfl rfl)) (ref4_Insert.calls hW.ok h9 x79 hx89)) rfl rfl ?_; rintro v92 w90 ⟨Fz91, _, rfl, kw1, hk93⟩; have hW95 := hW.trans kw1; have st1 := kw1.stp hW.ok; refine ol_a rfl ?_; exact ol_fin hr ⟨Fz91, hW95, g3, (h1.keep st1), (h2.keep st1), p3, (h3.wk kw1 hW.ok), (h8.keep st1), hk93, h10, h11, (h12.keep st1), h13⟩
        · refine Ref.seq (B := G13 w0 F0) ?_ ?_
          · refine Ref.regionD 5 (by kernel_rfl) (by kernel_rfl) (fun s ρ w ⟨F, hW, g3, h1, h2, p3, h3, h8, h9, h10, h11, h12, h13⟩ => ⟨F, hW.drewS, g3, h1.keep (sd hW), h2.keep (sd hW), p3, h3.wk (Wk.drew (row := nrow) hW.ok) hW.ok, h8.keep (sd hW), h9.keep (sd hW), h10, h11, h12.keep (sd hW), h13⟩) (fun s ρ w s' h hr => ?_); obtain ⟨F, hW, g3, h1, h2, p3, h3, h8, h9, h10, h11, h12, h13⟩ := h; obtain ⟨v96, hl97⟩ := LiesAt.v (h3).at_; refine ol_v (e_ld ty_24 hl97 p3) rfl ?_; refine ol_m rfl ?_; refine ol_m h13 ?_; obtain ⟨x98, hx98, hr⟩ := bind_some' hr; obtain ⟨A99, c100, e101, hc102, R103⟩ := id h12; obtain ⟨b104, o105, hA106, L107⟩ := Row.at_ R103 hx98; refine ol_v (e_ix (SlT.sl sl_26) (SlT.sz sl_26) hA106 hx98 e101 rfl) rfl ?_; refine ol_v (e_ld ty_3 (LiesV.int L107.at_) rfl) rfl ?_; obtain ⟨x108, hx108, hr⟩ := bind_some' hr; refine ol_e (f_call [v96, .int .i64 x98] fn_36 (lcons rfl (lcons rfl rfl)) (ref3_At.calls hW.ok hl97.val x98 hx108)) rfl rfl ?_; rintro _ w109 ⟨Fz110, rfl, kw1⟩; have hW112 := hW.trans kw1; have st1 := kw1.stp hW.ok; refine ol_v (e_lss rfl rfl) rfl ?_; exact ol_fin hr ⟨Fz110, hW112, g3, (h1.keep st1), (h2.keep st1), p3, (h3.wk kw1 hW.ok), (h8.keep st1), (h9.keep st1), h10, h11, (h12.keep st1), h13, rfl⟩
          refine Ref.condP (b := fun s => s.t_68) (L := G14 w0 F0) (K := G10 w0 F0) ?_ ?_ ?_
          · rintro s ρ w ⟨F, hW, g3, h1, h2, p3, h3, h8, h9, h10, h11, h12, h13, h68⟩; exact ⟨h68, ⟨F, hW, g3, h1, h2, p3, h3, h8, h9, h11, h12, h13⟩, F, hW, g3, h1, h2, p3, h3, h8, h9, h10, h11, h12, h13⟩
          · refine Ref.region (fun s ρ w s' h hr => ?_); obtain ⟨F, hW, g3, h1, h2, p3, h3, h8, h9, h11, h12, h13⟩ := h; refine ol_a rfl ?_; exact ol_fin hr ⟨F, hW, g3, h1, h2, p3, h3, h8, h9, rfl, h11, h12, h13⟩
          · exact Ref.skip
      refine Ref.region (fun s ρ w s' h hr => ?_); obtain ⟨F, hW, g3, h1, h2, p3, h3, h8, h9, h10, h11, h12, h13⟩ := h; refine ol_m h13 ?_; refine ol_v (e_add rfl rfl) rfl ?_; refine ol_a rfl ?_; exact ol_fin hr ⟨F, hW, g3, h1, h2, p3, h3, h8, h9, h10, h11, h12, rfl⟩
    refine Ref.region (fun s ρ w s' h hr => ?_); obtain ⟨F, hW, g3, h1, h2, p3, h3, h8, h9, h10, h11⟩ := h; refine ol_m h11 ?_; refine ol_v (e_add rfl rfl) rfl ?_; refine ol_a rfl ?_; exact ol_fin hr ⟨F, hW, g3, h1, h2, p3, h3, h8, h9, h10, rfl⟩
  refine Ref.seq (B := G15 w0 F0) ?_ ?_
  · refine Ref.region (fun s ρ w s' h hr => ?_); obtain ⟨F, hW, h9, h10⟩ := h; refine ol_m rfl ?_; refine ol_m h10 ?_; refine ol_a rfl ?_; refine ol_a rfl ?_; exact ol_fin hr ⟨F, hW, h9, rfl⟩
  exact Ref.ret (fun s ρ w h => ⟨s, rfl, h⟩)
def post (w : World) (F : BSet) (r : R) (v : Value) (w' : World) : Prop := ∃ (F' : BSet) (v0' : Value), v = .tuple #[v0', .bool r.2] ∧ Wk nrow w F F' w' ∧ SlR (kInt .i64) F' w' v0' r.1
theorem calls {w : World} {F : BSet} (hok : ∀ b, F b → b < w.heap.size) {v0 : Value} {a0 : ObjectStore} (h0 : Val k_ObjectStore F w v0 a0) {v1 : Value} {a1 : (List Int)} (h1 : SlR (kInt .i64) F w v1 a1) {v2 : Value} {a2 : (List Int)} (h2 : SlR (kInt .i64) F w v2 a2) {r : R} (hf : f a0 a1 a2 = some r) : Calls Try.prog 20 #[v0, v1, v2] w fun e w' => ∃ v, e = .returned v ∧ post w F r v w' := by
  obtain ⟨c, hc, href⟩ := ref w F; refine calls_of_ref (args := [v0, v1, v2]) _ Try.func20 hc rfl rfl href ?_ (retOf_some hf) ?_
  · exact ⟨F, Wk.refl hok, h0, h1, h2⟩
  · rintro ρ w' a ⟨s, rfl, F', hW, h6, h7⟩ hF; refine ⟨_, run_results (rs := [.tmp 6, .tmp 7]) rfl hF (vs := [ρ 6, ρ 7]) (⟨_, rfl, ⟨_, rfl, rfl⟩⟩), ?_⟩; have hv : resVal [ρ 6, ρ 7] = .tuple #[ρ 6, .bool s.t_7] := by rw [h7]; rfl
    exact ⟨F', ρ 6, hv, hW, h6⟩
end
end ref4_NeededOf

namespace law4_PartialNeededMatchesSpec
section
abbrev c1 (F : BSet) (w : World) (ρ : Env) (s : S) (X : Prop) : Prop := SlR (kInt .i64) F w (ρ 1) s.t_1 ∧ SlR (kInt .i64) F w (ρ 2) s.t_2 ∧ X
abbrev c2 (ρ : Env) (g3 : Nat) (w0 w : World) (F : BSet) (s : S) (X : Prop) : Prop := ρ 3 = .pointer (some ⟨g3, 0, none⟩) ∧ Box k_ObjectStore 24 (Bs w0 nrow) F w g3 s.t_3 ∧ X
abbrev c5 (F : BSet) (w w0 : World) (ρ : Env) (s : S) (g8 : Nat) (X : Prop) : Prop := SlR (kInt .i64) F w (ρ 7) s.t_7 ∧ ρ 8 = .pointer (some ⟨g8, 0, none⟩) ∧ Box k_Fault 28 (Bs w0 nrow) F w g8 s.t_8 ∧ X
abbrev c6 (ρ : Env) (g9 : Nat) (w0 w : World) (F : BSet) (s : S) (X : Prop) : Prop := ρ 9 = .pointer (some ⟨g9, 0, none⟩) ∧ Box k_Fault 28 (Bs w0 nrow) F w g9 s.t_9 ∧ X
abbrev e7 (g8 g9 : Nat) : Prop := Apart (some g8) (some g9)
abbrev c9 (F : BSet) (w : World) (ρ : Env) (s : S) (X : Prop) : Prop := SlR (kInt .i64) F w (ρ 10) s.t_10 ∧ X
def G0 : GT S := fun w0 F0 s ρ w => ∃ F, Wk nrow w0 F0 F w ∧ Val k_ObjectStore F w (ρ 0) s.t_0 ∧ SlR (kInt .i64) F w (ρ 1) s.t_1 ∧ SlR (kInt .i64) F w (ρ 2) s.t_2
def G1 : GT S := fun w0 F0 s ρ w => ∃ F, Wk nrow w0 F0 F w ∧ ∃ g3, c1 F w ρ s (ρ 3 = .pointer (some ⟨g3, 0, none⟩) ∧ Box k_ObjectStore 24 (Bs w0 nrow) F w g3 s.t_3)
def G2 : GT S := fun w0 F0 s ρ w => ∃ F, Wk nrow w0 F0 F w ∧ ∃ g3, c1 F w ρ s (c2 ρ g3 w0 w F s (ρ 13 = .bool s.t_13))
def G3 : GT S := fun w0 F0 s ρ w => ∃ F, Wk nrow w0 F0 F w
def G4 : GT S := fun w0 F0 s ρ w => ∃ F, Wk nrow w0 F0 F w ∧ ρ 6 = .bool s.t_6
def G5 : GT S := fun w0 F0 s ρ w => ∃ F, Wk nrow w0 F0 F w ∧ ∃ g3 g8, c1 F w ρ s (c2 ρ g3 w0 w F s (SlR (kInt .i64) F w (ρ 7) s.t_7 ∧ ρ 8 = .pointer (some ⟨g8, 0, none⟩) ∧ Box k_Fault 28 (Bs w0 nrow) F w g8 s.t_8))
def G6 : GT S := fun w0 F0 s ρ w => ∃ F, Wk nrow w0 F0 F w ∧ ∃ g3 g8 g9, c1 F w ρ s (c2 ρ g3 w0 w F s (c5 F w w0 ρ s g8 (c6 ρ g9 w0 w F s (e7 g8 g9))))
def G7 : GT S := fun w0 F0 s ρ w => ∃ F, Wk nrow w0 F0 F w ∧ ∃ g3 g8 g9, c1 F w ρ s (c2 ρ g3 w0 w F s (c5 F w w0 ρ s g8 (c6 ρ g9 w0 w F s (ρ 31 = .bool s.t_31 ∧ e7 g8 g9))))
def G8 : GT S := fun w0 F0 s ρ w => ∃ F, Wk nrow w0 F0 F w ∧ ∃ g3 g8 g9, c1 F w ρ s (c2 ρ g3 w0 w F s (c5 F w w0 ρ s g8 (c6 ρ g9 w0 w F s (c9 F w ρ s (e7 g8 g9)))))
def G9 : GT S := fun w0 F0 s ρ w => ∃ F, Wk nrow w0 F0 F w ∧ ∃ g3 g8 g9, c1 F w ρ s (c2 ρ g3 w0 w F s (c5 F w w0 ρ s g8 (c6 ρ g9 w0 w F s (c9 F w ρ s (ρ 35 = .bool s.t_35 ∧ e7 g8 g9)))))
def G10 : GT S := fun w0 F0 s ρ w => ∃ F, Wk nrow w0 F0 F w ∧ ∃ g8 g9, c5 F w w0 ρ s g8 (c6 ρ g9 w0 w F s (c9 F w ρ s (e7 g8 g9)))
def G11 : GT S := fun w0 F0 s ρ w => ∃ F, Wk nrow w0 F0 F w ∧ ∃ g8 g9, c5 F w w0 ρ s g8 (c6 ρ g9 w0 w F s (c9 F w ρ s (ρ 11 = .bool s.t_11 ∧ e7 g8 g9)))
def G12 : GT S := fun w0 F0 s ρ w => ∃ F, Wk nrow w0 F0 F w ∧ ∃ g8 g9, c5 F w w0 ρ s g8 (c6 ρ g9 w0 w F s (c9 F w ρ s (ρ 44 = .bool s.t_44 ∧ e7 g8 g9)))
def G13 : GT S := fun w0 F0 s ρ w => ∃ F, Wk nrow w0 F0 F w ∧ ∃ g8 g9, c5 F w w0 ρ s g8 (c6 ρ g9 w0 w F s (c9 F w ρ s (ρ 48 = .bool s.t_48 ∧ e7 g8 g9)))
def G14 : GT S := fun w0 F0 s ρ w => ∃ F, Wk nrow w0 F0 F w ∧ ∃ g8 g9, c5 F w w0 ρ s g8 (c6 ρ g9 w0 w F s (e7 g8 g9))
def G15 : GT S := fun w0 F0 s ρ w => ∃ F, Wk nrow w0 F0 F w ∧ ∃ g8, c5 F w w0 ρ s g8 (SlR (kInt .i64) F w (ρ 10) s.t_10)
set_option maxHeartbeats 4000000 in
set_option maxRecDepth 20000 in
theorem ref (w0 : World) (F0 : BSet) : ∃ c, Try.f4.body = some c ∧ Ref Try.prog 65 c (G0 w0 F0) body (fun _ _ _ => False) (fun _ _ _ _ => False) (fun r ρ w => ∃ s, retv s = r ∧ G4 w0 F0 s ρ w) := by
  refine ⟨_, rfl, ?_⟩; unfold body; refine Ref.seq (B := G1 w0 F0) ?_ ?_
  · refine Ref.region (fun s ρ w s' h hr => ?_); obtain ⟨F, hW, h0, h1, h2⟩ := h; refine ol_e (f_box hW rfl h0) rfl rfl ?_; rintro _ w2 ⟨g1, rfl, kw1, ho3⟩; have hW4 := hW.trans kw1; have st1 := kw1.stp hW.ok; refine ol_a rfl ?_; exact ol_fin hr ⟨F, hW4, g1, (h1.keep st1), (h2.keep st1), rfl, (ho3.base (row := nrow) hW.le)⟩
  refine Ref.seq (B := G1 w0 F0) ?_ ?_
  · refine Ref.seq (B := G2 w0 F0) ?_ ?_
    · refine Ref.region (fun s ρ w s' h hr => ?_); obtain ⟨F, hW, g3, h1, h2, p3, h3⟩ := h; obtain ⟨x5, hx5, hr⟩ := bind_some' hr; refine ol_e (f_call [] fn_9 rfl (law4_partialExample.calls hW.ok  hx5)) rfl rfl ?_; rintro _ w6 ⟨Fz7, rfl, kw1⟩; have hW9 := hW.trans kw1; have st1 := kw1.stp hW.ok; refine ol_v (e_not_ rfl) rfl ?_; exact ol_fin hr ⟨Fz7, hW9, g3, (h1.keep st1), (h2.keep st1), p3, (h3.wk kw1 hW.ok), rfl⟩
    refine Ref.condP (b := fun s => s.t_13) (L := G3 w0 F0) (K := G1 w0 F0) ?_ ?_ ?_
    · rintro s ρ w ⟨F, hW, g3, h1, h2, p3, h3, h13⟩; exact ⟨h13, ⟨F, hW⟩, F, hW, g3, h1, h2, p3, h3⟩
    · refine Ref.seq (B := G4 w0 F0) ?_ ?_
      · refine Ref.region (fun s ρ w s' h hr => ?_); obtain ⟨F, hW⟩ := h; refine ol_a rfl ?_; exact ol_fin hr ⟨F, hW, rfl⟩
      exact Ref.ret (fun s ρ w h => ⟨s, rfl, h⟩)
    · exact Ref.skip
  refine Ref.seq (B := G5 w0 F0) ?_ ?_
  · refine Ref.region (fun s ρ w s' h hr => ?_); obtain ⟨F, hW, g3, h1, h2, p3, h3⟩ := h; obtain ⟨v10, hl11⟩ := LiesAt.v (h3).at_; refine ol_v (e_ld ty_24 hl11 p3) rfl ?_; refine ol_m rfl ?_; refine ol_m rfl ?_; obtain ⟨x12, hx12, hr⟩ := bind_some' hr; refine ol_e (f_call [v10, (ρ 1), (ρ 2)] fn_18 (lcons rfl (lcons rfl (lcons rfl rfl))) (partial_Needed.calls hW.ok hl11.val h1 h2 hx12)) rfl rfl ?_; rintro _ w13 ⟨Fz14, v15, v17, rfl, kw1, hk16, hk18⟩; have hW20 := hW.trans kw1; have st1 := kw1.stp hW.ok; refine ol_m rfl ?_; refine ol_v (e_ext _ rfl rfl) rfl ?_; refine ol_v (e_ext _ rfl rfl) rfl ?_; refine ol_e (f_alloc zer_28 hW20) rfl rfl ?_; rintro _ w22 ⟨g21, rfl, kw2, ho23⟩; have hW24 := hW20.trans kw2; have st2 := kw2.stp hW20.ok; obtain ⟨Fz25, hWz26, st3, hF3, hz27⟩ := (((hk16.base (row := nrow) hW.le).wk kw2 hW20.ok)).frozen hW24; refine ol_a rfl ?_; refine ol_eN (f_stB hWz26 ((ho23.base (row := nrow) hW20.le).frz (apart_bo (ho23.base (row := nrow) hW20.le) ((hk16.base (row := nrow) hW.le).wk kw2 hW20.ok) rfl).symm hF3 st3) (FldS.whole _) ty_28 (hk18.keep (st2.trans st3)) rfl rfl) rfl ?_; rintro - w28 ⟨hW29, ho30, hg4, st4⟩; have z1 := (h3.wk kw1 hW.ok).wk kw2 hW20.ok; exact ol_fin hr ⟨Fz25, hW29, g3, g21, (h1.keep (st1.trans (st2.trans (st3.trans st4)))), (h2.keep (st1.trans (st2.trans (st3.trans st4)))), p3, ((z1.frz (apart_bo z1 ((hk16.base (row := nrow) hW.le).wk kw2 hW20.ok) rfl).symm hF3 st3).mut (apart_bb ((ho23.base (row := nrow) hW20.le).frz (apart_bo (ho23.base (row := nrow) hW20.le) ((hk16.base (row := nrow) hW.le).wk kw2 hW20.ok) rfl).symm hF3 st3) (z1.frz (apart_bo z1 ((hk16.base (row := nrow) hW.le).wk kw2 hW20.ok) rfl).symm hF3 st3) rfl) hg4 st4), (hz27.keep st4), rfl, ho30⟩
  refine Ref.seq (B := G6 w0 F0) ?_ ?_
  · refine Ref.region (fun s ρ w s' h hr => ?_); obtain ⟨F, hW, g3, g8, h1, h2, p3, h3, h7, p8, h8⟩ := h; obtain ⟨v31, hl32⟩ := LiesAt.v (h3).at_; refine ol_v (e_ld ty_24 hl32 p3) rfl ?_; refine ol_m rfl ?_; obtain ⟨x33, hx33, hr⟩ := bind_some' hr; refine ol_e (f_call [v31, (ρ 1)] fn_19 (lcons rfl (lcons rfl rfl)) (ref4_PromiseFault.calls hW.ok hl32.val h1 hx33)) rfl rfl ?_; rintro v36 w34 ⟨Fz35, _, rfl, kw1, hk37⟩; have hW39 := hW.trans kw1; have st1 := kw1.stp hW.ok; refine ol_e (f_alloc zer_28 hW39) rfl rfl ?_; rintro _ w41 ⟨g40, rfl, kw2, ho42⟩; have hW43 := hW39.trans kw2; have st2 := kw2.stp hW39.ok; refine ol_eN (f_stB hW43 (ho42.base (row := nrow) hW39.le) (FldS.whole _) ty_28 (hk37.keep st2) rfl rfl) rfl ?_; rintro - w44 ⟨hW45, ho46, hg3, st3⟩; have z2 := (h3.wk kw1 hW.ok).wk kw2 hW39.ok; have z3 := h8.wk kw1 hW.ok; exact ol_fin hr ⟨Fz35, hW45, g3, g8, g40, (h1.keep (st1.trans (st2.trans st3))), (h2.keep (st1.trans (st2.trans st3))), p3, (z2.mut (apart_bb (ho42.base (row := nrow) hW39.le) z2 rfl) hg3 st3), (h7.keep (st1.trans (st2.trans st3))), p8, ((z3.wk kw2 hW39.ok).mut (Apart.base (fun _ e_ => by cases e_; exact ho42.ge) z3.ltw) hg3 st3), rfl, ho46, (Apart.base (fun _ e_ => by cases e_; exact ho42.ge) z3.ltw).symm⟩
  refine Ref.seq (B := G6 w0 F0) ?_ ?_
  · refine Ref.seq (B := G7 w0 F0) ?_ ?_
    · refine Ref.region (fun s ρ w s' h hr => ?_); obtain ⟨F, hW, g3, g8, g9, h1, h2, p3, h3, h7, p8, h8, p9, h9, a8b_9b⟩ := h; refine ol_v (e_fa fa_28_0 p9) rfl ?_; refine ol_v (e_ld ty_3 (LiesV.int ((h9).at_.fld fl_Fault_0)) rfl) rfl ?_; refine ol_v (e_eql rfl rfl) rfl ?_; refine ol_cutA 5 27 31 (fun ρ' w' => w = w' ∧ ρ' 31 = .bool ((decide (s.t_9.Code = (0 : Int))) && (decide ((40 : Int) < (s.t_2.length : Int))))) rfl ?_ ?_
      · by_cases hb47 : (decide (s.t_9.Code = (0 : Int))) = true
        · refine ol_m rfl ?_; refine ol_yes rfl rfl (congrArg Value.bool hb47) ?_; refine ol_m rfl ?_; refine ol_yes rfl rfl (congrArg Value.bool hb47) ?_; obtain ⟨A49, c50, e51, hc52, R53⟩ := id h2; refine ol_v (e_len (SlT.sl sl_26) e51) rfl ?_; refine ol_yes rfl rfl (congrArg Value.bool hb47) ?_; refine ol_v (e_gtr rfl rfl) rfl ?_; refine ol_v (e_pick true _ (congrArg Value.bool hb47) rfl) rfl ?_; exact ol_nil ⟨⟨rfl, (bv_and_t hb47)⟩, (Agr.refl _ _ _).u.u.u.u.u⟩
        · have hb48 := Bool.eq_false_iff.mpr hb47; refine ol_m rfl ?_; refine ol_not rfl rfl rfl (congrArg Value.bool hb48) rfl ?_; refine ol_not rfl rfl rfl (congrArg Value.bool hb48) rfl ?_; refine ol_not rfl rfl rfl (congrArg Value.bool hb48) rfl ?_; refine ol_v (e_pick false _ (congrArg Value.bool hb48) rfl) rfl ?_; exact ol_nil ⟨⟨rfl, (bv_and_f hb48)⟩, (Agr.refl _ _ _).u.u.u.u.u⟩
      rintro ρ54 _ ⟨⟨rfl, hp54⟩, hAg54⟩; exact ol_fin hr ⟨F, hW, g3, g8, g9, (SlR.eqv (hAg54 1 rfl) h1), (SlR.eqv (hAg54 2 rfl) h2), ((hAg54 3 rfl).trans p3), h3, (SlR.eqv (hAg54 7 rfl) h7), ((hAg54 8 rfl).trans p8), h8, ((hAg54 9 rfl).trans p9), h9, hp54, a8b_9b⟩
    refine Ref.condP (b := fun s => s.t_31) (L := G6 w0 F0) (K := G6 w0 F0) ?_ ?_ ?_
    · rintro s ρ w ⟨F, hW, g3, g8, g9, h1, h2, p3, h3, h7, p8, h8, p9, h9, h31, a8b_9b⟩; exact ⟨h31, ⟨F, hW, g3, g8, g9, h1, h2, p3, h3, h7, p8, h8, p9, h9, a8b_9b⟩, F, hW, g3, g8, g9, h1, h2, p3, h3, h7, p8, h8, p9, h9, a8b_9b⟩
    · refine Ref.region (fun s ρ w s' h hr => ?_); obtain ⟨F, hW, g3, g8, g9, h1, h2, p3, h3, h7, p8, h8, p9, h9, a8b_9b⟩ := h; obtain ⟨x55, hx55, hr⟩ := bind_some' hr; refine ol_e (f_call [.int .i64 (2 : Int), .int .i64 (-1 : Int)] fn_13 (lcons rfl (lcons rfl rfl)) (ref3_Fault.calls hW.ok (2 : Int) (-1 : Int) hx55)) rfl rfl ?_; rintro v58 w56 ⟨Fz57, _, rfl, kw1, hk59⟩; have hW61 := hW.trans kw1; have st1 := kw1.stp hW.ok; refine ol_eN (f_stB hW61 (h9.wk kw1 hW.ok) (FldS.whole _) ty_28 hk59 p9 rfl) rfl ?_; rintro - w62 ⟨hW63, ho64, hg2, st2⟩; exact ol_fin hr ⟨Fz57, hW63, g3, g8, g9, (h1.keep (st1.trans st2)), (h2.keep (st1.trans st2)), p3, ((h3.wk kw1 hW.ok).mut (apart_bb (h9.wk kw1 hW.ok) (h3.wk kw1 hW.ok) rfl) hg2 st2), (h7.keep (st1.trans st2)), p8, ((h8.wk kw1 hW.ok).mut a8b_9b.symm hg2 st2), p9, ho64, a8b_9b.symm.symm⟩
    · exact Ref.skip
  refine Ref.seq (B := G8 w0 F0) ?_ ?_
  · refine Ref.region (fun s ρ w s' h hr => ?_); obtain ⟨F, hW, g3, g8, g9, h1, h2, p3, h3, h7, p8, h8, p9, h9, a8b_9b⟩ := h; refine ol_a rfl ?_; exact ol_fin hr ⟨F, hW, g3, g8, g9, h1, h2, p3, h3, h7, p8, h8, p9, h9, (SlR.nil (kInt .i64) F w), a8b_9b⟩
  refine Ref.seq (B := G10 w0 F0) ?_ ?_
  · refine Ref.seq (B := G9 w0 F0) ?_ ?_
    · refine Ref.region (fun s ρ w s' h hr => ?_); obtain ⟨F, hW, g3, g8, g9, h1, h2, p3, h3, h7, p8, h8, p9, h9, h10, a8b_9b⟩ := h; refine ol_v (e_fa fa_28_0 p9) rfl ?_; refine ol_v (e_ld ty_3 (LiesV.int ((h9).at_.fld fl_Fault_0)) rfl) rfl ?_; refine ol_v (e_eql rfl rfl) rfl ?_; exact ol_fin hr ⟨F, hW, g3, g8, g9, h1, h2, p3, h3, h7, p8, h8, p9, h9, h10, rfl, a8b_9b⟩
    refine Ref.condP (b := fun s => s.t_35) (L := G6 w0 F0) (K := G10 w0 F0) ?_ ?_ ?_
    · rintro s ρ w ⟨F, hW, g3, g8, g9, h1, h2, p3, h3, h7, p8, h8, p9, h9, h10, h35, a8b_9b⟩; exact ⟨h35, ⟨F, hW, g3, g8, g9, h1, h2, p3, h3, h7, p8, h8, p9, h9, a8b_9b⟩, F, hW, g8, g9, h7, p8, h8, p9, h9, h10, a8b_9b⟩
    · refine Ref.seq (B := G6 w0 F0) ?_ ?_
      · refine Ref.region (fun s ρ w s' h hr => ?_); obtain ⟨F, hW, g3, g8, g9, h1, h2, p3, h3, h7, p8, h8, p9, h9, a8b_9b⟩ := h; refine ol_a rfl ?_; exact ol_fin hr ⟨F, hW, g3, g8, g9, h1, h2, p3, h3, h7, p8, h8, p9, h9, a8b_9b⟩
      refine Ref.seq (B := G11 w0 F0) ?_ ?_
      · refine Ref.region (fun s ρ w s' h hr => ?_); obtain ⟨F, hW, g3, g8, g9, h1, h2, p3, h3, h7, p8, h8, p9, h9, a8b_9b⟩ := h; obtain ⟨v65, hl66⟩ := LiesAt.v (h3).at_; refine ol_v (e_ld ty_24 hl66 p3) rfl ?_; refine ol_m rfl ?_; refine ol_m rfl ?_; obtain ⟨x67, hx67, hr⟩ := bind_some' hr; refine ol_e (f_call [v65, (ρ 1), (ρ 2)] fn_20 (lcons rfl (lcons rfl (lcons rfl rfl))) (ref4_NeededOf.calls hW.ok hl66.val h1 h2 hx67)) rfl rfl ?_; rintro _ w68 ⟨Fz69, v70, rfl, kw1, hk71⟩; have hW73 := hW.trans kw1; have st1 := kw1.stp hW.ok; refine ol_m rfl ?_; refine ol_v (e_ext _ rfl rfl) rfl ?_; refine ol_v (e_ext _ rfl rfl) rfl ?_; refine ol_a rfl ?_; refine ol_a rfl ?_; exact ol_fin hr ⟨Fz69, hW73, g8, g9, (h7.keep st1), p8, (h8.wk kw1 hW.ok), p9, (h9.wk kw1 hW.ok), hk71, rfl, a8b_9b⟩
      refine Ref.seq (B := G12 w0 F0) ?_ ?_
      · refine Ref.region (fun s ρ w s' h hr => ?_); obtain ⟨F, hW, g8, g9, h7, p8, h8, p9, h9, h10, h11, a8b_9b⟩ := h; refine ol_m h11 ?_; refine ol_v (e_not_ rfl) rfl ?_; exact ol_fin hr ⟨F, hW, g8, g9, h7, p8, h8, p9, h9, h10, rfl, a8b_9b⟩
      refine Ref.condP (b := fun s => s.t_44) (L := G10 w0 F0) (K := G10 w0 F0) ?_ ?_ ?_
      · rintro s ρ w ⟨F, hW, g8, g9, h7, p8, h8, p9, h9, h10, h44, a8b_9b⟩; exact ⟨h44, ⟨F, hW, g8, g9, h7, p8, h8, p9, h9, h10, a8b_9b⟩, F, hW, g8, g9, h7, p8, h8, p9, h9, h10, a8b_9b⟩
      · refine Ref.region (fun s ρ w s' h hr => ?_); obtain ⟨F, hW, g8, g9, h7, p8, h8, p9, h9, h10, a8b_9b⟩ := h; obtain ⟨x74, hx74, hr⟩ := bind_some' hr; refine ol_e (f_call [.int .i64 (6 : Int), .int .i64 (-1 : Int)] fn_13 (lcons rfl (lcons rfl rfl)) (ref3_Fault.calls hW.ok (6 : Int) (-1 : Int) hx74)) rfl rfl ?_; rintro v77 w75 ⟨Fz76, _, rfl, kw1, hk78⟩; have hW80 := hW.trans kw1; have st1 := kw1.stp hW.ok; refine ol_eN (f_stB hW80 (h9.wk kw1 hW.ok) (FldS.whole _) ty_28 hk78 p9 rfl) rfl ?_; rintro - w81 ⟨hW82, ho83, hg2, st2⟩; exact ol_fin hr ⟨Fz76, hW82, g8, g9, (h7.keep (st1.trans st2)), p8, ((h8.wk kw1 hW.ok).mut a8b_9b.symm hg2 st2), p9, ho83, (h10.keep (st1.trans st2)), a8b_9b.symm.symm⟩
      · exact Ref.skip
    · exact Ref.skip
  refine Ref.seq (B := G15 w0 F0) ?_ ?_
  · refine Ref.seq (B := G13 w0 F0) ?_ ?_
    · refine Ref.region (fun s ρ w s' h hr => ?_); obtain ⟨F, hW, g8, g9, h7, p8, h8, p9, h9, h10, a8b_9b⟩ := h; refine ol_v (e_fa fa_28_0 p9) rfl ?_; refine ol_v (e_ld ty_3 (LiesV.int ((h9).at_.fld fl_Fault_0)) rfl) rfl ?_; refine ol_v (e_neq rfl rfl) rfl ?_; exact ol_fin hr ⟨F, hW, g8, g9, h7, p8, h8, p9, h9, h10, rfl, a8b_9b⟩
    refine Ref.condP (b := fun s => s.t_48) (L := G14 w0 F0) (K := G15 w0 F0) ?_ ?_ ?_
    · rintro s ρ w ⟨F, hW, g8, g9, h7, p8, h8, p9, h9, h10, h48, a8b_9b⟩; exact ⟨h48, ⟨F, hW, g8, g9, h7, p8, h8, p9, h9, a8b_9b⟩, F, hW, g8, h7, p8, h8, h10⟩
    · refine Ref.seq (B := G4 w0 F0) ?_ ?_
      · refine Ref.region (fun s ρ w s' h hr => ?_); obtain ⟨F, hW, g8, g9, h7, p8, h8, p9, h9, a8b_9b⟩ := h; obtain ⟨v84, hl85⟩ := LiesAt.v (h8).at_; refine ol_v (e_ld ty_28 hl85 p8) rfl ?_; obtain ⟨v86, hl87⟩ := LiesAt.v (h9).at_; refine ol_v (e_ld ty_28 hl87 p9) rfl ?_; refine ol_v (e_teql (eq_Fault_28 hl85.val hl87.val) rfl rfl) rfl ?_; refine ol_cutA 5 52 56 (fun ρ' w' => w = w' ∧ ρ' 56 = .bool ((decide (s.t_8 = s.t_9)) && (decide ((s.t_7.length : Int) = (0 : Int))))) rfl ?_ ?_
        · by_cases hb88 : (decide (s.t_8 = s.t_9)) = true
          · refine ol_m rfl ?_; refine ol_yes rfl rfl (congrArg Value.bool hb88) ?_; refine ol_m rfl ?_; refine ol_yes rfl rfl (congrArg Value.bool hb88) ?_; obtain ⟨A90, c91, e92, hc93, R94⟩ := id h7; refine ol_v (e_len (SlT.sl sl_26) e92) rfl ?_; refine ol_yes rfl rfl (congrArg Value.bool hb88) ?_; refine ol_v (e_eql rfl rfl) rfl ?_; refine ol_v (e_pick true _ (congrArg Value.bool hb88) rfl) rfl ?_; exact ol_nil ⟨⟨rfl, (bv_and_t hb88)⟩, (Agr.refl _ _ _).u.u.u.u.u⟩
          · have hb89 := Bool.eq_false_iff.mpr hb88; refine ol_m rfl ?_; refine ol_not rfl rfl rfl (congrArg Value.bool hb89) rfl ?_; refine ol_not rfl rfl rfl (congrArg Value.bool hb89) rfl ?_; refine ol_not rfl rfl rfl (congrArg Value.bool hb89) rfl ?_; refine ol_v (e_pick false _ (congrArg Value.bool hb89) rfl) rfl ?_; exact ol_nil ⟨⟨rfl, (bv_and_f hb89)⟩, (Agr.refl _ _ _).u.u.u.u.u⟩
        rintro ρ95 _ ⟨⟨rfl, hp95⟩, hAg95⟩; refine ol_a hp95 ?_; exact ol_fin hr ⟨F, hW, rfl⟩
      exact Ref.ret (fun s ρ w h => ⟨s, rfl, h⟩)
    · exact Ref.skip
  refine Ref.seq (B := G4 w0 F0) ?_ ?_
  · refine Ref.region (fun s ρ w s' h hr => ?_); obtain ⟨F, hW, g8, h7, p8, h8, h10⟩ := h; refine ol_v (e_fa fa_28_0 p8) rfl ?_; refine ol_v (e_ld ty_3 (LiesV.int ((h8).at_.fld fl_Fault_0)) rfl) rfl ?_; refine ol_v (e_eql rfl rfl) rfl ?_; obtain ⟨x103, hx104, hr⟩ := bind_some' hr; refine ol_cutA 5 60 64 (fun ρ' w' => ∃ F', Wk nrow w F F' w' ∧ ρ' 64 = .bool x103) rfl ?_ ?_
    · by_cases hb96 : (decide (s.t_8.Code = (0 : Int))) = true
      · have hr := hx104; rw [if_pos hb96] at hr; refine ol_m rfl ?_; refine ol_yes rfl rfl (congrArg Value.bool hb96) ?_; refine ol_m rfl ?_; refine ol_yes rfl rfl (congrArg Value.bool hb96) ?_; refine ol_m rfl ?_; refine ol_yes rfl rfl (congrArg Value.bool hb96) ?_; obtain ⟨x98, hx98, hr⟩ := bind_some' hr; refine ol_e (f_call [(ρ 7), (ρ 10)] fn_16 (lcons rfl (lcons rfl rfl)) (ref3_Ints.calls hW.ok h7 h10 hx98)) rfl rfl ?_; rintro _ w99 ⟨Fz100, rfl, kw1⟩; have hW102 := hW.trans kw1; have st1 := kw1.stp hW.ok; refine ol_v (e_pick true _ (congrArg Value.bool hb96) rfl) rfl ?_; exact ol_nil ⟨⟨_, kw1, (congrArg Value.bool (Option.some.inj hr))⟩, (Agr.refl _ _ _).u.u.u.u.u⟩
      · have hb97 := Bool.eq_false_iff.mpr hb96; have hr := hx104; rw [if_neg hb96] at hr; refine ol_m rfl ?_; refine ol_not rfl rfl rfl (congrArg Value.bool hb97) rfl ?_; refine ol_not rfl rfl rfl (congrArg Value.bool hb97) rfl ?_; refine ol_not rfl rfl rfl (congrArg Value.bool hb97) rfl ?_; refine ol_v (e_pick false _ (congrArg Value.bool hb97) rfl) rfl ?_; exact ol_nil ⟨⟨_, Wk.refl hW.ok, (congrArg Value.bool (Option.some.inj hr))⟩, (Agr.refl _ _ _).u.u.u.u.u⟩
    rintro ρ104 w105 ⟨⟨Fz106, kw1, hp104⟩, hAg104⟩; have hW107 := hW.trans kw1; have st1 := kw1.stp hW.ok; refine ol_a hp104 ?_; exact ol_fin hr ⟨Fz106, hW107, rfl⟩
  exact Ref.ret (fun s ρ w h => ⟨s, rfl, h⟩)
def post (w : World) (F : BSet) (r : R) (v : Value) (w' : World) : Prop := ∃ (F' : BSet), v = .bool r ∧ Wk nrow w F F' w'
theorem calls {w : World} {F : BSet} (hok : ∀ b, F b → b < w.heap.size) {v0 : Value} {a0 : ObjectStore} (h0 : Val k_ObjectStore F w v0 a0) {v1 : Value} {a1 : (List Int)} (h1 : SlR (kInt .i64) F w v1 a1) {v2 : Value} {a2 : (List Int)} (h2 : SlR (kInt .i64) F w v2 a2) {r : R} (hf : f a0 a1 a2 = some r) : Calls Try.prog 4 #[v0, v1, v2] w fun e w' => ∃ v, e = .returned v ∧ post w F r v w' := by
  obtain ⟨c, hc, href⟩ := ref w F; refine calls_of_ref (args := [v0, v1, v2]) _ Try.func4 hc rfl rfl href ?_ (retOf_some hf) ?_
  · exact ⟨F, Wk.refl hok, h0, h1, h2⟩
  · rintro ρ w' a ⟨s, rfl, F', hW, h6⟩ hF; refine ⟨_, run_results (rs := [.tmp 6]) rfl hF (vs := [ρ 6]) (⟨_, rfl, rfl⟩), ?_⟩; have hv : resVal [ρ 6] = .bool s.t_6 := by rw [h6]; rfl
    exact ⟨F', hv, hW⟩
end
end law4_PartialNeededMatchesSpec

end Go.Proofs.Ytenkbkcddcnmeaa
