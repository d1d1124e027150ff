/- The machine's calls come to these plain functions (written by a program, wip/fx/gen.py). -/
import Derived.Test.YtoiafcpnhhplnaaPA
import Derived.Test.YtoiafcpnhhplnaaNm
import Derived.Test.YtoiafcpnhhplnaaM2
import Derived.Test.YtoiafcpnhhplnaaM3
import Derived.Test.YtoiafcpnhhplnaaM5
import Derived.Test.YtoiafcpnhhplnaaM6
import Derived.Test.YtoiafcpnhhplnaaM10
import Derived.Test.YtoiafcpnhhplnaaSl
import Derived.Test.YtoiafcpnhhplnaaIn
import Derived.Test.YtoiafcpnhhplnaaInP
import Derived.Test.YtoiafcpnhhplnaaFx15
namespace Go.Proofs.Ytoiafcpnhhplnaa
open Go.Fx Go.RowKit
set_option linter.unusedVariables false

namespace ref4_CandidatesFor
section
abbrev c1 (ρ : Env) (s : S) (X : Prop) : Prop := ρ 1 = .string s.t_1 ∧ X
abbrev c2 (ρ : Env) (g2 : Nat) (w0 w : World) (F : BSet) (s : S) (X : Prop) : Prop := ρ 2 = .pointer (some ⟨g2, 0, none⟩) ∧ Box k_TrigramIndex 27 (Bs w0 nrow) F w g2 s.t_2 ∧ X
abbrev c3 (w0 w : World) (F : BSet) (ρ : Env) (s : S) (X : Prop) : Prop := OwnV (kInt .i64) 3 (Bs w0 nrow) F w (ρ 5) s.t_5 ∧ X
abbrev c4 (ρ : Env) (s : S) (X : Prop) : Prop := ρ 6 = .int .i64 s.t_6 ∧ X
def G0 : GT S := fun w0 F0 s ρ w => ∃ F, Wk nrow w0 F0 F w ∧ Val k_TrigramIndex F w (ρ 0) s.t_0 ∧ ρ 1 = .string s.t_1
def G1 : GT S := fun w0 F0 s ρ w => ∃ F, Wk nrow w0 F0 F w ∧ ∃ g2, c1 ρ s (ρ 2 = .pointer (some ⟨g2, 0, none⟩) ∧ Box k_TrigramIndex 27 (Bs w0 nrow) F w g2 s.t_2)
def G2 : GT S := fun w0 F0 s ρ w => ∃ F, Wk nrow w0 F0 F w ∧ ∃ g2, c1 ρ s (c2 ρ g2 w0 w F s (OwnV (kInt .i64) 3 (Bs w0 nrow) F w (ρ 5) s.t_5))
def G3 : GT S := fun w0 F0 s ρ w => ∃ F, Wk nrow w0 F0 F w ∧ ∃ g2, c1 ρ s (c2 ρ g2 w0 w F s (c3 w0 w F ρ s (ρ 6 = .int .i64 s.t_6)))
def G4 : GT S := fun w0 F0 s ρ w => ∃ F, Wk nrow w0 F0 F w ∧ ∃ g2, c1 ρ s (c2 ρ g2 w0 w F s (c3 w0 w F ρ s (c4 ρ s (ρ 15 = .bool s.t_15))))
def G5 : GT S := fun w0 F0 s ρ w => ∃ F, Wk nrow w0 F0 F w ∧ OwnV (kInt .i64) 3 (Bs w0 nrow) F w (ρ 5) s.t_5
def G6 : GT S := fun w0 F0 s ρ w => ∃ F, Wk nrow w0 F0 F w ∧ ∃ g2, c1 ρ s (c2 ρ g2 w0 w F s (c3 w0 w F ρ s (c4 ρ s (ρ 7 = .bool s.t_7))))
def G7 : GT S := fun w0 F0 s ρ w => ∃ F, Wk nrow w0 F0 F w ∧ ∃ g2, c1 ρ s (c2 ρ g2 w0 w F s (c3 w0 w F ρ s (c4 ρ s (ρ 7 = .bool s.t_7 ∧ ρ 8 = .int .i64 s.t_8))))
def G8 : GT S := fun w0 F0 s ρ w => ∃ F, Wk nrow w0 F0 F w ∧ ∃ g2, c1 ρ s (c2 ρ g2 w0 w F s (c3 w0 w F ρ s (c4 ρ s (ρ 7 = .bool s.t_7 ∧ ρ 8 = .int .i64 s.t_8 ∧ ρ 22 = .bool s.t_22))))
def G9 : GT S := fun w0 F0 s ρ w => ∃ F, Wk nrow w0 F0 F w ∧ ∃ g2, c1 ρ s (c2 ρ g2 w0 w F s (c3 w0 w F ρ s (c4 ρ s (ρ 7 = .bool s.t_7 ∧ ρ 8 = .int .i64 s.t_8 ∧ ρ 9 = .bool s.t_9))))
def G10 : GT S := fun w0 F0 s ρ w => ∃ F, Wk nrow w0 F0 F w ∧ ∃ g2, c1 ρ s (c2 ρ g2 w0 w F s (c3 w0 w F ρ s (c4 ρ s (ρ 7 = .bool s.t_7 ∧ ρ 8 = .int .i64 s.t_8 ∧ ρ 9 = .bool s.t_9 ∧ ρ 10 = .int .i64 s.t_10))))
def G11 : GT S := fun w0 F0 s ρ w => ∃ F, Wk nrow w0 F0 F w ∧ ∃ g2, c1 ρ s (c2 ρ g2 w0 w F s (c3 w0 w F ρ s (c4 ρ s (ρ 7 = .bool s.t_7 ∧ ρ 8 = .int .i64 s.t_8 ∧ ρ 9 = .bool s.t_9 ∧ ρ 10 = .int .i64 s.t_10 ∧ ρ 29 = .bool s.t_29))))
def G12 : GT S := fun w0 F0 s ρ w => ∃ F, Wk nrow w0 F0 F w ∧ ∃ g2, c1 ρ s (c2 ρ g2 w0 w F s (c3 w0 w F ρ s (c4 ρ s (ρ 65 = .bool s.t_65))))
def G13 : GT S := fun w0 F0 s ρ w => ∃ F, Wk nrow w0 F0 F w ∧ OwnV (kInt .i64) 3 (Bs w0 nrow) F w (ρ 4) s.t_4
set_option maxHeartbeats 4000000 in
set_option maxRecDepth 20000 in
theorem ref (w0 : World) (F0 : BSet) : ∃ c, Try.f20.body = some c ∧ Ref Try.prog 75 c (G0 w0 F0) body (fun _ _ _ => False) (fun _ _ _ _ => False) (fun r ρ w => ∃ s, retv s = r ∧ G13 w0 F0 s ρ w) := by
  refine ⟨_, rfl, ?_⟩; unfold body; refine Ref.seq (B := G1 w0 F0) ?_ ?_
  · refine Ref.region (fun s ρ w s' h hr => ?_); obtain ⟨F, hW, h0, h1⟩ := h; refine ol_e (f_box hW rfl h0) rfl rfl ?_; rintro _ w2 ⟨g1, rfl, kw1, ho3⟩; have hW4 := hW.trans kw1; have st1 := kw1.stp hW.ok; refine ol_a rfl ?_; exact ol_fin hr ⟨F, hW4, g1, h1, rfl, (ho3.base (row := nrow) hW.le)⟩
  refine Ref.seq (B := G2 w0 F0) ?_ ?_
  · refine Ref.region (fun s ρ w s' h hr => ?_); obtain ⟨F, hW, g2, h1, p2, h2⟩ := h; refine ol_a rfl ?_; exact ol_fin hr ⟨F, hW, g2, h1, p2, h2, (OwnV.nil (kInt .i64) 3 (Bs w0 nrow) F w)⟩
  refine Ref.seq (B := G5 w0 F0) ?_ ?_
  · refine Ref.seq (B := G3 w0 F0) ?_ ?_
    · refine Ref.region (fun s ρ w s' h hr => ?_); obtain ⟨F, hW, g2, h1, p2, h2, h5⟩ := h; refine ol_a rfl ?_; exact ol_fin hr ⟨F, hW, g2, h1, p2, h2, h5, rfl⟩
    refine Ref.block ?_; refine Ref.loop ?_; refine Ref.seq (B := G3 w0 F0) ?_ ?_
    · refine Ref.seq (B := G4 w0 F0) ?_ ?_
      · refine Ref.region (fun s ρ w s' h hr => ?_); obtain ⟨F, hW, g2, h1, p2, h2, h5, h6⟩ := h; refine ol_m h6 ?_; refine ol_v (e_fa fa_27_0 p2) rfl ?_; obtain ⟨v5, hl6, hs7⟩ := LiesV.sl ((h2).at_.fld fl_TrigramIndex_0); refine ol_v (e_ld ty_24 hl6 rfl) rfl ?_; obtain ⟨A8, c9, e10, hc11, R12⟩ := id hs7; refine ol_v (e_len (SlT.sl sl_24) e10) rfl ?_; refine ol_v (e_lss rfl rfl) rfl ?_; exact ol_fin hr ⟨F, hW, g2, h1, p2, h2, h5, h6, rfl⟩
      refine Ref.condP (b := fun s => s.t_15) (L := G3 w0 F0) (K := G5 w0 F0) ?_ ?_ ?_
      · rintro s ρ w ⟨F, hW, g2, h1, p2, h2, h5, h6, h15⟩; exact ⟨h15, ⟨F, hW, g2, h1, p2, h2, h5, h6⟩, F, hW, h5⟩
      · exact Ref.skip
      · exact Ref.exit (fun s ρ w h => h)
    refine Ref.seq (B := G3 w0 F0) ?_ ?_
    · refine Ref.block ?_; refine Ref.seq (B := G6 w0 F0) ?_ ?_
      · refine Ref.region (fun s ρ w s' h hr => ?_); obtain ⟨F, hW, g2, h1, p2, h2, h5, h6⟩ := h; refine ol_a rfl ?_; exact ol_fin hr ⟨F, hW, g2, h1, p2, h2, h5, h6, rfl⟩
      refine Ref.seq (B := G6 w0 F0) ?_ ?_
      · refine Ref.seq (B := G7 w0 F0) ?_ ?_
        · refine Ref.region (fun s ρ w s' h hr => ?_); obtain ⟨F, hW, g2, h1, p2, h2, h5, h6, h7⟩ := h; refine ol_a rfl ?_; exact ol_fin hr ⟨F, hW, g2, h1, p2, h2, h5, h6, h7, rfl⟩
        refine Ref.block ?_; refine Ref.loop ?_; refine Ref.seq (B := G7 w0 F0) ?_ ?_
        · refine Ref.seq (B := G8 w0 F0) ?_ ?_
          · refine Ref.region (fun s ρ w s' h hr => ?_); obtain ⟨F, hW, g2, h1, p2, h2, h5, h6, h7, h8⟩ := h; refine ol_m h8 ?_; refine ol_v (e_add rfl rfl) rfl ?_; refine ol_m h1 ?_; refine ol_v (e_lenS (by kernel_rfl) rfl) rfl ?_; refine ol_v (e_leq rfl rfl) rfl ?_; exact ol_fin hr ⟨F, hW, g2, h1, p2, h2, h5, h6, h7, h8, rfl⟩
          refine Ref.condP (b := fun s => s.t_22) (L := G7 w0 F0) (K := G6 w0 F0) ?_ ?_ ?_
          · rintro s ρ w ⟨F, hW, g2, h1, p2, h2, h5, h6, h7, h8, h22⟩; exact ⟨h22, ⟨F, hW, g2, h1, p2, h2, h5, h6, h7, h8⟩, F, hW, g2, h1, p2, h2, h5, h6, h7⟩
          · exact Ref.skip
          · exact Ref.exit (fun s ρ w h => h)
        refine Ref.seq (B := G7 w0 F0) ?_ ?_
        · refine Ref.block ?_; refine Ref.seq (B := G9 w0 F0) ?_ ?_
          · refine Ref.region (fun s ρ w s' h hr => ?_); obtain ⟨F, hW, g2, h1, p2, h2, h5, h6, h7, h8⟩ := h; refine ol_a rfl ?_; exact ol_fin hr ⟨F, hW, g2, h1, p2, h2, h5, h6, h7, h8, rfl⟩
          refine Ref.seq (B := G9 w0 F0) ?_ ?_
          · refine Ref.seq (B := G10 w0 F0) ?_ ?_
            · refine Ref.region (fun s ρ w s' h hr => ?_); obtain ⟨F, hW, g2, h1, p2, h2, h5, h6, h7, h8, h9⟩ := h; refine ol_a rfl ?_; exact ol_fin hr ⟨F, hW, g2, h1, p2, h2, h5, h6, h7, h8, h9, rfl⟩
            refine Ref.block ?_; refine Ref.loop ?_; refine Ref.seq (B := G10 w0 F0) ?_ ?_
            · refine Ref.seq (B := G11 w0 F0) ?_ ?_
              · refine Ref.region (fun s ρ w s' h hr => ?_); obtain ⟨F, hW, g2, h1, p2, h2, h5, h6, h7, h8, h9, h10⟩ := h; refine ol_m h10 ?_; refine ol_v (e_fa fa_27_1 p2) rfl ?_; obtain ⟨v13, hl14, hs15⟩ := LiesV.sl ((h2).at_.fld fl_TrigramIndex_1); refine ol_v (e_ld ty_25 hl14 rfl) rfl ?_; obtain ⟨A16, c17, e18, hc19, R20⟩ := id hs15; refine ol_v (e_len (SlT.sl sl_25) e18) rfl ?_; refine ol_v (e_lss rfl rfl) rfl ?_; exact ol_fin hr ⟨F, hW, g2, h1, p2, h2, h5, h6, h7, h8, h9, h10, rfl⟩
              refine Ref.condP (b := fun s => s.t_29) (L := G10 w0 F0) (K := G9 w0 F0) ?_ ?_ ?_
              · rintro s ρ w ⟨F, hW, g2, h1, p2, h2, h5, h6, h7, h8, h9, h10, h29⟩; exact ⟨h29, ⟨F, hW, g2, h1, p2, h2, h5, h6, h7, h8, h9, h10⟩, F, hW, g2, h1, p2, h2, h5, h6, h7, h8, h9⟩
              · exact Ref.skip
              · exact Ref.exit (fun s ρ w h => h)
            refine Ref.seq (B := G10 w0 F0) ?_ ?_
            · refine Ref.block ?_; refine Ref.regionD 26 (by kernel_rfl) (by kernel_rfl) (fun s ρ w ⟨F, hW, g2, h1, p2, h2, h5, h6, h7, h8, h9, h10⟩ => ⟨F, hW.drewS, g2, h1, p2, h2.wk (Wk.drew (row := nrow) hW.ok) hW.ok, h5.wk (Wk.drew (row := nrow) hW.ok) hW.ok, h6, h7, h8, h9, h10⟩) (fun s ρ w s' h hr => ?_); obtain ⟨F, hW, g2, h1, p2, h2, h5, h6, h7, h8, h9, h10⟩ := h; refine ol_m h9 ?_; obtain ⟨x78, hx79, hr⟩ := bind_some' hr; refine ol_cutA 28 33 60 (fun ρ' w' => ∃ F', Wk nrow w F F' w' ∧ ρ' 60 = .bool x78) rfl ?_ ?_
              · by_cases hb21 : s.t_9 = true
                · have hr := hx79; rw [if_pos hb21] at hr; refine ol_m rfl ?_; refine ol_not rfl rfl rfl (congrArg Value.bool hb21) rfl ?_; refine ol_not rfl rfl rfl (congrArg Value.bool hb21) rfl ?_; refine ol_not rfl rfl rfl (congrArg Value.bool hb21) rfl ?_; refine ol_not rfl rfl rfl (congrArg Value.bool hb21) rfl ?_; refine ol_not rfl rfl rfl (congrArg Value.bool hb21) rfl ?_; refine ol_not rfl rfl rfl (congrArg Value.bool hb21) rfl ?_; refine ol_not rfl rfl rfl (congrArg Value.bool hb21) rfl ?_; refine ol_not rfl rfl rfl (congrArg Value.bool hb21) rfl ?_; refine ol_not rfl rfl rfl (congrArg Value.bool hb21) rfl ?_; refine ol_not rfl rfl rfl (congrArg Value.bool hb21) rfl ?_; refine ol_not rfl rfl rfl (congrArg Value.bool hb21) rfl ?_; refine ol_not rfl rfl rfl (congrArg Value.bool hb21) rfl ?_; refine ol_not rfl rfl rfl (congrArg Value.bool hb21) rfl ?_; refine ol_notU rfl rfl rfl rfl ?_; refine ol_notU rfl rfl rfl rfl ?_; refine ol_notU rfl rfl rfl rfl ?_; refine ol_notU rfl rfl rfl rfl ?_; refine ol_notU rfl rfl rfl rfl ?_; refine ol_notU rfl rfl rfl rfl ?_; refine ol_notU rfl rfl rfl rfl ?_; refine ol_notU rfl rfl rfl rfl ?_; refine ol_notU rfl rfl rfl rfl ?_; refine ol_notU rfl rfl rfl rfl ?_; refine ol_notU rfl rfl rfl rfl ?_; refine ol_notU rfl rfl rfl rfl ?_; refine ol_not rfl rfl rfl (congrArg Value.bool hb21) rfl ?_; refine ol_v (e_pick true _ (congrArg Value.bool hb21) rfl) rfl ?_; exact ol_nil ⟨⟨_, Wk.refl hW.ok, (congrArg Value.bool (Option.some.inj hr))⟩, (Agr.refl _ _ _).u.u.u.u.u.u.u.u.u.u.u.u.u.u.u.u.u.u.u.u.u.u.u.u.u.u.u.u⟩
                · have hb22 := Bool.eq_false_iff.mpr hb21; have hr := hx79; rw [if_neg hb21] at hr; refine ol_m rfl ?_; refine ol_yes rfl rfl (congrArg Value.bool hb22) ?_; refine ol_v (e_fa fa_27_1 p2) rfl ?_; refine ol_yes rfl rfl (congrArg Value.bool hb22) ?_; obtain ⟨v23, hl24, hs25⟩ := LiesV.sl ((h2).at_.fld fl_TrigramIndex_1); refine ol_v (e_ld ty_25 hl24 rfl) rfl ?_; refine ol_yes rfl rfl (congrArg Value.bool hb22) ?_; refine ol_m h10 ?_; refine ol_yes rfl rfl (congrArg Value.bool hb22) ?_; obtain ⟨x26, hx26, hr⟩ := bind_some' hr; obtain ⟨A27, c28, e29, hc30, R31⟩ := id hs25; obtain ⟨b32, o33, hA34, L35⟩ := Row.at_ R31 hx26; refine ol_v (e_ix (SlT.sl sl_25) (SlT.sz sl_25) hA34 hx26 e29 rfl) rfl ?_; refine ol_yes rfl rfl (congrArg Value.bool hb22) ?_; refine ol_v (e_fa fa_55_0 rfl) rfl ?_; refine ol_yes rfl rfl (congrArg Value.bool hb22) ?_; refine ol_v (e_ld ty_9 (LiesV.str (L35.fld fl_Posting_0).at_) rfl) rfl ?_; refine ol_yes rfl rfl (congrArg Value.bool hb22) ?_; refine ol_m h1 ?_; refine ol_yes rfl rfl (congrArg Value.bool hb22) ?_; refine ol_m h8 ?_; refine ol_yes rfl rfl (congrArg Value.bool hb22) ?_; refine ol_m h8 ?_; refine ol_yes rfl rfl (congrArg Value.bool hb22) ?_; refine ol_v (e_add rfl rfl) rfl ?_; refine ol_yes rfl rfl (congrArg Value.bool hb22) ?_; obtain ⟨x36, hx36, hr⟩ := bind_some' hr; refine ol_v (e_cutS (by kernel_rfl) rfl rfl rfl hx36) rfl ?_; refine ol_yes rfl rfl (congrArg Value.bool hb22) ?_; refine ol_v (e_seql rfl rfl) rfl ?_; refine ol_yes rfl rfl (congrArg Value.bool hb22) ?_; obtain ⟨x73, hx74, hr⟩ := bind_some' hr; refine ol_cutA 14 46 59 (fun ρ' w' => ∃ F', Wk nrow w F F' w' ∧ ρ' 59 = .bool x73) rfl ?_ ?_
                  · by_cases hb37 : (decide (x26.Gram = x36)) = true
                    · have hr := hx74; rw [if_pos hb37] at hr; refine ol_m rfl ?_; refine ol_yes rfl rfl (congrArg Value.bool hb37) ?_; refine ol_v (e_fa fa_27_1 p2) rfl ?_; refine ol_yes rfl rfl (congrArg Value.bool hb37) ?_; obtain ⟨v39, hl40, hs41⟩ := LiesV.sl ((h2).at_.fld fl_TrigramIndex_1); refine ol_v (e_ld ty_25 hl40 rfl) rfl ?_; refine ol_yes rfl rfl (congrArg Value.bool hb37) ?_; refine ol_m h10 ?_; refine ol_yes rfl rfl (congrArg Value.bool hb37) ?_; obtain ⟨x42, hx42, hr⟩ := bind_some' hr; obtain ⟨A43, c44, e45, hc46, R47⟩ := id hs41; obtain ⟨b48, o49, hA50, L51⟩ := Row.at_ R47 hx42; refine ol_v (e_ix (SlT.sl sl_25) (SlT.sz sl_25) hA50 hx42 e45 rfl) rfl ?_; refine ol_yes rfl rfl (congrArg Value.bool hb37) ?_; refine ol_v (e_fa fa_55_1 rfl) rfl ?_; refine ol_yes rfl rfl (congrArg Value.bool hb37) ?_; obtain ⟨v52, hl53, hs54⟩ := LiesV.sl (L51.fld fl_Posting_1).at_; refine ol_v (e_ld ty_24 hl53 rfl) rfl ?_; refine ol_yes rfl rfl (congrArg Value.bool hb37) ?_; refine ol_v (e_fa fa_27_0 p2) rfl ?_; refine ol_yes rfl rfl (congrArg Value.bool hb37) ?_; obtain ⟨v55, hl56, hs57⟩ := LiesV.sl ((h2).at_.fld fl_TrigramIndex_0); refine ol_v (e_ld ty_24 hl56 rfl) rfl ?_; refine ol_yes rfl rfl (congrArg Value.bool hb37) ?_; refine ol_m h6 ?_; refine ol_yes rfl rfl (congrArg Value.bool hb37) ?_; obtain ⟨x58, hx58, hr⟩ := bind_some' hr; obtain ⟨A59, c60, e61, hc62, R63⟩ := id hs57; obtain ⟨b64, o65, hA66, L67⟩ := Row.at_ R63 hx58; refine ol_v (e_ix (SlT.sl sl_24) (SlT.sz sl_24) hA66 hx58 e61 rfl) rfl ?_; refine ol_yes rfl rfl (congrArg Value.bool hb37) ?_; refine ol_v (e_ld ty_3 (LiesV.int L67.at_) rfl) rfl ?_; refine ol_yes rfl rfl (congrArg Value.bool hb37) ?_; obtain ⟨x68, hx68, hr⟩ := bind_some' hr; refine ol_e (f_call [v52, .int .i64 x58] fn_22 (lcons rfl (lcons rfl rfl)) (ref3_Has.calls hW.ok hs54 x58 hx68)) rfl rfl ?_; rintro _ w69 ⟨Fz70, rfl, kw1⟩; have hW72 := hW.trans kw1; have st1 := kw1.stp hW.ok; refine ol_yes rfl rfl (congrArg Value.bool hb22) ?_; refine ol_v (e_pick true _ (congrArg Value.bool hb37) rfl) rfl ?_; exact ol_nil ⟨⟨_, kw1, (congrArg Value.bool (Option.some.inj hr))⟩, (Agr.refl _ _ _).u.u.u.u.u.u.u.u.u.u.u.u.u.u⟩
                    · have hb38 := Bool.eq_false_iff.mpr hb37; have hr := hx74; rw [if_neg hb37] at hr; refine ol_m rfl ?_; refine ol_not rfl rfl rfl (congrArg Value.bool hb38) rfl ?_; refine ol_not rfl rfl rfl (congrArg Value.bool hb38) rfl ?_; refine ol_not rfl rfl rfl (congrArg Value.bool hb38) rfl ?_; refine ol_not rfl rfl rfl (congrArg Value.bool hb38) rfl ?_; refine ol_not rfl rfl rfl (congrArg Value.bool hb38) rfl ?_; refine ol_not rfl rfl rfl (congrArg Value.bool hb38) rfl ?_; refine ol_not rfl rfl rfl (congrArg Value.bool hb38) rfl ?_; refine ol_not rfl rfl rfl (congrArg Value.bool hb38) rfl ?_; refine ol_not rfl rfl rfl (congrArg Value.bool hb38) rfl ?_; refine ol_not rfl rfl rfl (congrArg Value.bool hb38) rfl ?_; refine ol_not rfl rfl rfl (congrArg Value.bool hb38) rfl ?_; refine ol_not rfl rfl rfl (congrArg Value.bool hb38) rfl ?_; refine ol_yes rfl rfl (congrArg Value.bool hb22) ?_; refine ol_v (e_pick false _ (congrArg Value.bool hb38) rfl) rfl ?_; exact ol_nil ⟨⟨_, Wk.refl hW.ok, (congrArg Value.bool (Option.some.inj hr))⟩, (Agr.refl _ _ _).u.u.u.u.u.u.u.u.u.u.u.u.u.u⟩
                  rintro ρ74 w75 ⟨⟨Fz76, kw1, hp74⟩, hAg74⟩; have hW77 := hW.trans kw1; have st1 := kw1.stp hW.ok; refine ol_v (e_pick false _ ((hAg74 33 rfl).trans (congrArg Value.bool hb22)) hp74) rfl ?_; exact ol_nil ⟨⟨_, kw1, (congrArg Value.bool (Option.some.inj hr))⟩, (((Agr.refl _ _ _).u.u.u.u.u.u.u.u.u.u.u.u.u.into hAg74 rfl rfl).upd rfl rfl)⟩
              rintro ρ79 w80 ⟨⟨Fz81, kw1, hp79⟩, hAg79⟩; have hW82 := hW.trans kw1; have st1 := kw1.stp hW.ok; refine ol_a hp79 ?_; exact ol_fin hr ⟨Fz81, hW82, g2, ((hAg79 1 rfl).trans h1), ((hAg79 2 rfl).trans p2), (h2.wk kw1 hW.ok), (OwnV.eqv (hAg79 5 rfl) (h5.wk kw1 hW.ok)), ((hAg79 6 rfl).trans h6), ((hAg79 7 rfl).trans h7), ((hAg79 8 rfl).trans h8), rfl, ((hAg79 10 rfl).trans h10)⟩
            refine Ref.region (fun s ρ w s' h hr => ?_); obtain ⟨F, hW, g2, h1, p2, h2, h5, h6, h7, h8, h9, h10⟩ := h; refine ol_m h10 ?_; refine ol_v (e_add rfl rfl) rfl ?_; refine ol_a rfl ?_; exact ol_fin hr ⟨F, hW, g2, h1, p2, h2, h5, h6, h7, h8, h9, rfl⟩
          refine Ref.region (fun s ρ w s' h hr => ?_); obtain ⟨F, hW, g2, h1, p2, h2, h5, h6, h7, h8, h9⟩ := h; refine ol_m h7 ?_; refine ol_cutA 3 62 64 (fun ρ' w' => w = w' ∧ ρ' 64 = .bool (s.t_7 && s.t_9)) rfl ?_ ?_
          · by_cases hb83 : s.t_7 = true
            · refine ol_m rfl ?_; refine ol_yes rfl rfl (congrArg Value.bool hb83) ?_; refine ol_m h9 ?_; refine ol_v (e_pick true _ (congrArg Value.bool hb83) rfl) rfl ?_; exact ol_nil ⟨⟨rfl, (bv_and_t hb83)⟩, (Agr.refl _ _ _).u.u.u⟩
            · have hb84 := Bool.eq_false_iff.mpr hb83; refine ol_m rfl ?_; refine ol_not rfl rfl rfl (congrArg Value.bool hb84) rfl ?_; refine ol_v (e_pick false _ (congrArg Value.bool hb84) rfl) rfl ?_; exact ol_nil ⟨⟨rfl, (bv_and_f hb84)⟩, (Agr.refl _ _ _).u.u.u⟩
          rintro ρ85 _ ⟨⟨rfl, hp85⟩, hAg85⟩; refine ol_a hp85 ?_; exact ol_fin hr ⟨F, hW, g2, ((hAg85 1 rfl).trans h1), ((hAg85 2 rfl).trans p2), h2, (OwnV.eqv (hAg85 5 rfl) h5), ((hAg85 6 rfl).trans h6), rfl, ((hAg85 8 rfl).trans h8)⟩
        refine Ref.region (fun s ρ w s' h hr => ?_); obtain ⟨F, hW, g2, h1, p2, h2, h5, h6, h7, h8⟩ := h; refine ol_m h8 ?_; refine ol_v (e_add rfl rfl) rfl ?_; refine ol_a rfl ?_; exact ol_fin hr ⟨F, hW, g2, h1, p2, h2, h5, h6, h7, rfl⟩
      refine Ref.seq (B := G12 w0 F0) ?_ ?_
      · refine Ref.region (fun s ρ w s' h hr => ?_); obtain ⟨F, hW, g2, h1, p2, h2, h5, h6, h7⟩ := h; refine ol_m h7 ?_; exact ol_fin hr ⟨F, hW, g2, h1, p2, h2, h5, h6, rfl⟩
      refine Ref.condP (b := fun s => s.t_65) (L := G3 w0 F0) (K := G3 w0 F0) ?_ ?_ ?_
      · rintro s ρ w ⟨F, hW, g2, h1, p2, h2, h5, h6, h65⟩; exact ⟨h65, ⟨F, hW, g2, h1, p2, h2, h5, h6⟩, F, hW, g2, h1, p2, h2, h5, h6⟩
      · refine Ref.region (fun s ρ w s' h hr => ?_); obtain ⟨F, hW, g2, h1, p2, h2, h5, h6⟩ := h; refine ol_m rfl ?_; refine ol_v (e_fa fa_27_0 p2) rfl ?_; obtain ⟨v86, hl87, hs88⟩ := LiesV.sl ((h2).at_.fld fl_TrigramIndex_0); refine ol_v (e_ld ty_24 hl87 rfl) rfl ?_; refine ol_m h6 ?_; obtain ⟨x89, hx89, hr⟩ := bind_some' hr; obtain ⟨A90, c91, e92, hc93, R94⟩ := id hs88; obtain ⟨b95, o96, hA97, L98⟩ := Row.at_ R94 hx89; refine ol_v (e_ix (SlT.sl sl_24) (SlT.sz sl_24) hA97 hx89 e92 rfl) rfl ?_; refine ol_v (e_ld ty_3 (LiesV.int L98.at_) rfl) rfl ?_; refine ol_e (f_bslF sl_24 hW ([x89] : List Int) [.int .i64 x89] (by exact ⟨_, _, rfl, (val_int _ _), rfl⟩) rfl (Nat.le_of_ble_eq_true rfl) (lcons (congrArg (Prod.mk 0) rfl) rfl)) rfl rfl ?_; rintro v99 w100 ⟨Fz102, kw1, ho101⟩; have hW103 := hW.trans kw1; have st1 := kw1.stp hW.ok; obtain ⟨x104, hx104, hr⟩ := bind_some' hr; refine ol_e (f_app sl_24 hW103 (h5.wk kw1 hW.ok) ho101 hx104 rfl rfl) rfl rfl ?_; rintro v105 w106 ⟨hW107, ho108, hg2, st2, hor109⟩; refine ol_a rfl ?_; exact ol_fin hr ⟨Fz102, hW107, g2, h1, p2, ((h2.wk kw1 hW.ok).mut (apart_bo (h2.wk kw1 hW.ok) (h5.wk kw1 hW.ok) rfl).symm hg2 st2), ho108, h6⟩
      · exact Ref.skip
    refine Ref.region (fun s ρ w s' h hr => ?_); obtain ⟨F, hW, g2, h1, p2, h2, h5, h6⟩ := h; refine ol_m h6 ?_; refine ol_v (e_add rfl rfl) rfl ?_; refine ol_a rfl ?_; exact ol_fin hr ⟨F, hW, g2, h1, p2, h2, h5, rfl⟩
  refine Ref.seq (B := G13 w0 F0) ?_ ?_
  · refine Ref.region (fun s ρ w s' h hr => ?_); obtain ⟨F, hW, h5⟩ := h; refine ol_m rfl ?_; refine ol_a rfl ?_; exact ol_fin hr ⟨F, hW, h5⟩
  exact Ref.ret (fun s ρ w h => ⟨s, rfl, h⟩)
def post (w : World) (F : BSet) (r : R) (v : Value) (w' : World) : Prop := ∃ (F' : BSet) (v0' : Value), v = v0' ∧ Wk nrow w F F' w' ∧ OwnV (kInt .i64) 3 (Nw w) F' w' v0' r
theorem calls {w : World} {F : BSet} (hok : ∀ b, F b → b < w.heap.size) {v0 : Value} {a0 : TrigramIndex} (h0 : Val k_TrigramIndex F w v0 a0) (a1 : ByteArray) {r : R} (hf : f a0 a1 = some r) : Calls Try.prog 20 #[v0, .string a1] w fun e w' => ∃ v, e = .returned v ∧ post w F r v w' := by
  obtain ⟨c, hc, href⟩ := ref w F; refine calls_of_ref (args := [v0, .string a1]) _ Try.func20 hc rfl rfl href ?_ (retOf_some hf) ?_
  · exact ⟨F, Wk.refl hok, h0, rfl⟩
  · rintro ρ w' a ⟨s, rfl, F', hW, h4⟩ hF; refine ⟨_, run_results (rs := [.tmp 4]) rfl hF (vs := [ρ 4]) (⟨_, rfl, rfl⟩), ?_⟩; exact ⟨F', ρ 4, rfl, hW, h4.rebase (fun g hg => (h4.lt hg).1.resolve_right (fun h => h))⟩
end
end ref4_CandidatesFor

namespace law4_TrigramCandidatesMatchesSpec
section
abbrev c1 (ρ : Env) (s : S) (X : Prop) : Prop := ρ 1 = .string s.part_1 ∧ X
abbrev c2 (ρ : Env) (g2 : Nat) (w0 w : World) (F : BSet) (s : S) (X : Prop) : Prop := ρ 2 = .pointer (some ⟨g2, 0, none⟩) ∧ Box k_TrigramIndex 27 (Bs w0 nrow) F w g2 s.x_2 ∧ X
abbrev c5 (F : BSet) (w w0 : World) (ρ : Env) (s : S) (g6 : Nat) (X : Prop) : Prop := SlR (kInt .i64) F w (ρ 5) s.l_5 ∧ ρ 6 = .pointer (some ⟨g6, 0, none⟩) ∧ Box k_Fault 29 (Bs w0 nrow) F w g6 s.f_6 ∧ X
abbrev c6 (ρ : Env) (g7 : Nat) (w0 w : World) (F : BSet) (s : S) (X : Prop) : Prop := ρ 7 = .pointer (some ⟨g7, 0, none⟩) ∧ Box k_Fault 29 (Bs w0 nrow) F w g7 s.w_7 ∧ X
abbrev e7 (g6 g7 : Nat) : Prop := Apart (some g6) (some g7)
def G0 : GT S := fun w0 F0 s ρ w => ∃ F, Wk nrow w0 F0 F w ∧ Val k_TrigramIndex F w (ρ 0) s.x_0 ∧ ρ 1 = .string s.part_1
def G1 : GT S := fun w0 F0 s ρ w => ∃ F, Wk nrow w0 F0 F w ∧ ∃ g2, c1 ρ s (ρ 2 = .pointer (some ⟨g2, 0, none⟩) ∧ Box k_TrigramIndex 27 (Bs w0 nrow) F w g2 s.x_2)
def G2 : GT S := fun w0 F0 s ρ w => ∃ F, Wk nrow w0 F0 F w ∧ ∃ g2, c1 ρ s (c2 ρ g2 w0 w F s (ρ 9 = .bool s.t_9))
def G3 : GT S := fun w0 F0 s ρ w => ∃ F, Wk nrow w0 F0 F w
def G4 : GT S := fun w0 F0 s ρ w => ∃ F, Wk nrow w0 F0 F w ∧ ρ 4 = .bool s.t_4
def G5 : GT S := fun w0 F0 s ρ w => ∃ F, Wk nrow w0 F0 F w ∧ ∃ g2 g6, c1 ρ s (c2 ρ g2 w0 w F s (SlR (kInt .i64) F w (ρ 5) s.l_5 ∧ ρ 6 = .pointer (some ⟨g6, 0, none⟩) ∧ Box k_Fault 29 (Bs w0 nrow) F w g6 s.f_6))
def G6 : GT S := fun w0 F0 s ρ w => ∃ F, Wk nrow w0 F0 F w ∧ ∃ g2 g6 g7, c1 ρ s (c2 ρ g2 w0 w F s (c5 F w w0 ρ s g6 (c6 ρ g7 w0 w F s (e7 g6 g7))))
def G7 : GT S := fun w0 F0 s ρ w => ∃ F, Wk nrow w0 F0 F w ∧ ∃ g2 g6 g7, c1 ρ s (c2 ρ g2 w0 w F s (c5 F w w0 ρ s g6 (c6 ρ g7 w0 w F s (ρ 25 = .bool s.t_25 ∧ e7 g6 g7))))
def G8 : GT S := fun w0 F0 s ρ w => ∃ F, Wk nrow w0 F0 F w ∧ ∃ g2 g6 g7, c1 ρ s (c2 ρ g2 w0 w F s (c5 F w w0 ρ s g6 (c6 ρ g7 w0 w F s (ρ 29 = .bool s.t_29 ∧ e7 g6 g7))))
def G9 : GT S := fun w0 F0 s ρ w => ∃ F, Wk nrow w0 F0 F w ∧ ∃ g6 g7, c5 F w w0 ρ s g6 (c6 ρ g7 w0 w F s (e7 g6 g7))
set_option maxHeartbeats 4000000 in
set_option maxRecDepth 20000 in
theorem ref (w0 : World) (F0 : BSet) : ∃ c, Try.f4.body = some c ∧ Ref Try.prog 48 c (G0 w0 F0) body (fun _ _ _ => False) (fun _ _ _ _ => False) (fun r ρ w => ∃ s, retv s = r ∧ G4 w0 F0 s ρ w) := by
  refine ⟨_, rfl, ?_⟩; unfold body; refine Ref.seq (B := G1 w0 F0) ?_ ?_
  · refine Ref.region (fun s ρ w s' h hr => ?_); obtain ⟨F, hW, h0, h1⟩ := h; refine ol_e (f_box hW rfl h0) rfl rfl ?_; rintro _ w2 ⟨g1, rfl, kw1, ho3⟩; have hW4 := hW.trans kw1; have st1 := kw1.stp hW.ok; refine ol_a rfl ?_; exact ol_fin hr ⟨F, hW4, g1, h1, rfl, (ho3.base (row := nrow) hW.le)⟩
  refine Ref.seq (B := G1 w0 F0) ?_ ?_
  · refine Ref.seq (B := G2 w0 F0) ?_ ?_
    · refine Ref.region (fun s ρ w s' h hr => ?_); obtain ⟨F, hW, g2, h1, p2, h2⟩ := h; obtain ⟨x5, hx5, hr⟩ := bind_some' hr; refine ol_e (f_call [] fn_9 rfl (law4_trigramExample.calls hW.ok  hx5)) rfl rfl ?_; rintro _ w6 ⟨Fz7, rfl, kw1⟩; have hW9 := hW.trans kw1; have st1 := kw1.stp hW.ok; refine ol_v (e_not_ rfl) rfl ?_; exact ol_fin hr ⟨Fz7, hW9, g2, h1, p2, (h2.wk kw1 hW.ok), rfl⟩
    refine Ref.condP (b := fun s => s.t_9) (L := G3 w0 F0) (K := G1 w0 F0) ?_ ?_ ?_
    · rintro s ρ w ⟨F, hW, g2, h1, p2, h2, h9⟩; exact ⟨h9, ⟨F, hW⟩, F, hW, g2, h1, p2, h2⟩
    · refine Ref.seq (B := G4 w0 F0) ?_ ?_
      · refine Ref.region (fun s ρ w s' h hr => ?_); obtain ⟨F, hW⟩ := h; refine ol_a rfl ?_; exact ol_fin hr ⟨F, hW, rfl⟩
      exact Ref.ret (fun s ρ w h => ⟨s, rfl, h⟩)
    · exact Ref.skip
  refine Ref.seq (B := G5 w0 F0) ?_ ?_
  · refine Ref.region (fun s ρ w s' h hr => ?_); obtain ⟨F, hW, g2, h1, p2, h2⟩ := h; obtain ⟨v10, hl11⟩ := LiesAt.v (h2).at_; refine ol_v (e_ld ty_27 hl11 p2) rfl ?_; refine ol_m h1 ?_; obtain ⟨x12, hx12, hr⟩ := bind_some' hr; refine ol_e (f_call [v10, .string s.part_1] fn_16 (lcons rfl (lcons rfl rfl)) (trigram_Candidates.calls hW.ok hl11.val s.part_1 hx12)) rfl rfl ?_; rintro _ w13 ⟨Fz14, v15, v17, rfl, kw1, hk16, hk18⟩; have hW20 := hW.trans kw1; have st1 := kw1.stp hW.ok; refine ol_m rfl ?_; refine ol_v (e_ext _ rfl rfl) rfl ?_; refine ol_v (e_ext _ rfl rfl) rfl ?_; refine ol_e (f_alloc zer_29 hW20) rfl rfl ?_; rintro _ w22 ⟨g21, rfl, kw2, ho23⟩; have hW24 := hW20.trans kw2; have st2 := kw2.stp hW20.ok; obtain ⟨Fz25, hWz26, st3, hF3, hz27⟩ := (((hk16.base (row := nrow) hW.le).wk kw2 hW20.ok)).frozen hW24; refine ol_a rfl ?_; refine ol_eN (f_stB hWz26 ((ho23.base (row := nrow) hW20.le).frz (apart_bo (ho23.base (row := nrow) hW20.le) ((hk16.base (row := nrow) hW.le).wk kw2 hW20.ok) rfl).symm hF3 st3) (FldS.whole _) ty_29 (hk18.keep (st2.trans st3)) rfl rfl) rfl ?_; rintro - w28 ⟨hW29, ho30, hg4, st4⟩; have z1 := (h2.wk kw1 hW.ok).wk kw2 hW20.ok; exact ol_fin hr ⟨Fz25, hW29, g2, g21, h1, p2, ((z1.frz (apart_bo z1 ((hk16.base (row := nrow) hW.le).wk kw2 hW20.ok) rfl).symm hF3 st3).mut (apart_bb ((ho23.base (row := nrow) hW20.le).frz (apart_bo (ho23.base (row := nrow) hW20.le) ((hk16.base (row := nrow) hW.le).wk kw2 hW20.ok) rfl).symm hF3 st3) (z1.frz (apart_bo z1 ((hk16.base (row := nrow) hW.le).wk kw2 hW20.ok) rfl).symm hF3 st3) rfl) hg4 st4), (hz27.keep st4), rfl, ho30⟩
  refine Ref.seq (B := G6 w0 F0) ?_ ?_
  · refine Ref.region (fun s ρ w s' h hr => ?_); obtain ⟨F, hW, g2, g6, h1, p2, h2, h5, p6, h6⟩ := h; obtain ⟨v31, hl32⟩ := LiesAt.v (h2).at_; refine ol_v (e_ld ty_27 hl32 p2) rfl ?_; obtain ⟨x33, hx33, hr⟩ := bind_some' hr; refine ol_e (f_call [v31] fn_17 (lcons rfl rfl) (ref4_IndexFault.calls hW.ok hl32.val hx33)) rfl rfl ?_; rintro v36 w34 ⟨Fz35, _, rfl, kw1, hk37⟩; have hW39 := hW.trans kw1; have st1 := kw1.stp hW.ok; refine ol_e (f_alloc zer_29 hW39) rfl rfl ?_; rintro _ w41 ⟨g40, rfl, kw2, ho42⟩; have hW43 := hW39.trans kw2; have st2 := kw2.stp hW39.ok; refine ol_eN (f_stB hW43 (ho42.base (row := nrow) hW39.le) (FldS.whole _) ty_29 (hk37.keep st2) rfl rfl) rfl ?_; rintro - w44 ⟨hW45, ho46, hg3, st3⟩; have z2 := (h2.wk kw1 hW.ok).wk kw2 hW39.ok; have z3 := h6.wk kw1 hW.ok; exact ol_fin hr ⟨Fz35, hW45, g2, g6, g40, h1, p2, (z2.mut (apart_bb (ho42.base (row := nrow) hW39.le) z2 rfl) hg3 st3), (h5.keep (st1.trans (st2.trans st3))), p6, ((z3.wk kw2 hW39.ok).mut (Apart.base (fun _ e_ => by cases e_; exact ho42.ge) z3.ltw) hg3 st3), rfl, ho46, (Apart.base (fun _ e_ => by cases e_; exact ho42.ge) z3.ltw).symm⟩
  refine Ref.seq (B := G6 w0 F0) ?_ ?_
  · refine Ref.seq (B := G7 w0 F0) ?_ ?_
    · refine Ref.region (fun s ρ w s' h hr => ?_); obtain ⟨F, hW, g2, g6, g7, h1, p2, h2, h5, p6, h6, p7, h7, a6b_7b⟩ := h; refine ol_v (e_fa fa_29_0 p7) rfl ?_; refine ol_v (e_ld ty_3 (LiesV.int ((h7).at_.fld fl_Fault_0)) rfl) rfl ?_; refine ol_v (e_eql rfl rfl) rfl ?_; refine ol_cutA 5 21 25 (fun ρ' w' => w = w' ∧ ρ' 25 = .bool ((decide (s.w_7.Code = (0 : Int))) && (decide ((400 : Int) < (s.part_1.size : Int))))) rfl ?_ ?_
      · by_cases hb47 : (decide (s.w_7.Code = (0 : Int))) = true
        · refine ol_m rfl ?_; refine ol_yes rfl rfl (congrArg Value.bool hb47) ?_; refine ol_m h1 ?_; refine ol_yes rfl rfl (congrArg Value.bool hb47) ?_; refine ol_v (e_lenS (by kernel_rfl) rfl) rfl ?_; refine ol_yes rfl rfl (congrArg Value.bool hb47) ?_; refine ol_v (e_gtr rfl rfl) rfl ?_; refine ol_v (e_pick true _ (congrArg Value.bool hb47) rfl) rfl ?_; exact ol_nil ⟨⟨rfl, (bv_and_t hb47)⟩, (Agr.refl _ _ _).u.u.u.u.u⟩
        · have hb48 := Bool.eq_false_iff.mpr hb47; refine ol_m rfl ?_; refine ol_not rfl rfl rfl (congrArg Value.bool hb48) rfl ?_; refine ol_not rfl rfl rfl (congrArg Value.bool hb48) rfl ?_; refine ol_not rfl rfl rfl (congrArg Value.bool hb48) rfl ?_; refine ol_v (e_pick false _ (congrArg Value.bool hb48) rfl) rfl ?_; exact ol_nil ⟨⟨rfl, (bv_and_f hb48)⟩, (Agr.refl _ _ _).u.u.u.u.u⟩
      rintro ρ49 _ ⟨⟨rfl, hp49⟩, hAg49⟩; exact ol_fin hr ⟨F, hW, g2, g6, g7, ((hAg49 1 rfl).trans h1), ((hAg49 2 rfl).trans p2), h2, (SlR.eqv (hAg49 5 rfl) h5), ((hAg49 6 rfl).trans p6), h6, ((hAg49 7 rfl).trans p7), h7, hp49, a6b_7b⟩
    refine Ref.condP (b := fun s => s.t_25) (L := G6 w0 F0) (K := G6 w0 F0) ?_ ?_ ?_
    · rintro s ρ w ⟨F, hW, g2, g6, g7, h1, p2, h2, h5, p6, h6, p7, h7, h25, a6b_7b⟩; exact ⟨h25, ⟨F, hW, g2, g6, g7, h1, p2, h2, h5, p6, h6, p7, h7, a6b_7b⟩, F, hW, g2, g6, g7, h1, p2, h2, h5, p6, h6, p7, h7, a6b_7b⟩
    · refine Ref.region (fun s ρ w s' h hr => ?_); obtain ⟨F, hW, g2, g6, g7, h1, p2, h2, h5, p6, h6, p7, h7, a6b_7b⟩ := h; obtain ⟨x50, hx50, hr⟩ := bind_some' hr; refine ol_e (f_call [.int .i64 (10 : Int), .int .i64 (-1 : Int)] fn_18 (lcons rfl (lcons rfl rfl)) (ref3_Fault.calls hW.ok (10 : Int) (-1 : Int) hx50)) rfl rfl ?_; rintro v53 w51 ⟨Fz52, _, rfl, kw1, hk54⟩; have hW56 := hW.trans kw1; have st1 := kw1.stp hW.ok; refine ol_eN (f_stB hW56 (h7.wk kw1 hW.ok) (FldS.whole _) ty_29 hk54 p7 rfl) rfl ?_; rintro - w57 ⟨hW58, ho59, hg2, st2⟩; exact ol_fin hr ⟨Fz52, hW58, g2, g6, g7, h1, p2, ((h2.wk kw1 hW.ok).mut (apart_bb (h7.wk kw1 hW.ok) (h2.wk kw1 hW.ok) rfl) hg2 st2), (h5.keep (st1.trans st2)), p6, ((h6.wk kw1 hW.ok).mut a6b_7b.symm hg2 st2), p7, ho59, a6b_7b.symm.symm⟩
    · exact Ref.skip
  refine Ref.seq (B := G5 w0 F0) ?_ ?_
  · refine Ref.seq (B := G8 w0 F0) ?_ ?_
    · refine Ref.region (fun s ρ w s' h hr => ?_); obtain ⟨F, hW, g2, g6, g7, h1, p2, h2, h5, p6, h6, p7, h7, a6b_7b⟩ := h; refine ol_v (e_fa fa_29_0 p7) rfl ?_; refine ol_v (e_ld ty_3 (LiesV.int ((h7).at_.fld fl_Fault_0)) rfl) rfl ?_; refine ol_v (e_neq rfl rfl) rfl ?_; exact ol_fin hr ⟨F, hW, g2, g6, g7, h1, p2, h2, h5, p6, h6, p7, h7, rfl, a6b_7b⟩
    refine Ref.condP (b := fun s => s.t_29) (L := G9 w0 F0) (K := G5 w0 F0) ?_ ?_ ?_
    · rintro s ρ w ⟨F, hW, g2, g6, g7, h1, p2, h2, h5, p6, h6, p7, h7, h29, a6b_7b⟩; exact ⟨h29, ⟨F, hW, g6, g7, h5, p6, h6, p7, h7, a6b_7b⟩, F, hW, g2, g6, h1, p2, h2, h5, p6, h6⟩
    · refine Ref.seq (B := G4 w0 F0) ?_ ?_
      · refine Ref.region (fun s ρ w s' h hr => ?_); obtain ⟨F, hW, g6, g7, h5, p6, h6, p7, h7, a6b_7b⟩ := h; obtain ⟨v60, hl61⟩ := LiesAt.v (h6).at_; refine ol_v (e_ld ty_29 hl61 p6) rfl ?_; obtain ⟨v62, hl63⟩ := LiesAt.v (h7).at_; refine ol_v (e_ld ty_29 hl63 p7) rfl ?_; refine ol_v (e_teql (eq_Fault_29 hl61.val hl63.val) rfl rfl) rfl ?_; refine ol_cutA 5 33 37 (fun ρ' w' => w = w' ∧ ρ' 37 = .bool ((decide (s.f_6 = s.w_7)) && (decide ((s.l_5.length : Int) = (0 : Int))))) rfl ?_ ?_
        · by_cases hb64 : (decide (s.f_6 = s.w_7)) = true
          · refine ol_m rfl ?_; refine ol_yes rfl rfl (congrArg Value.bool hb64) ?_; refine ol_m rfl ?_; refine ol_yes rfl rfl (congrArg Value.bool hb64) ?_; obtain ⟨A66, c67, e68, hc69, R70⟩ := id h5; refine ol_v (e_len (SlT.sl sl_24) e68) rfl ?_; refine ol_yes rfl rfl (congrArg Value.bool hb64) ?_; refine ol_v (e_eql rfl rfl) rfl ?_; refine ol_v (e_pick true _ (congrArg Value.bool hb64) rfl) rfl ?_; exact ol_nil ⟨⟨rfl, (bv_and_t hb64)⟩, (Agr.refl _ _ _).u.u.u.u.u⟩
          · have hb65 := Bool.eq_false_iff.mpr hb64; refine ol_m rfl ?_; refine ol_not rfl rfl rfl (congrArg Value.bool hb65) rfl ?_; refine ol_not rfl rfl rfl (congrArg Value.bool hb65) rfl ?_; refine ol_not rfl rfl rfl (congrArg Value.bool hb65) rfl ?_; refine ol_v (e_pick false _ (congrArg Value.bool hb65) rfl) rfl ?_; exact ol_nil ⟨⟨rfl, (bv_and_f hb65)⟩, (Agr.refl _ _ _).u.u.u.u.u⟩
        rintro ρ71 _ ⟨⟨rfl, hp71⟩, hAg71⟩; refine ol_a hp71 ?_; exact ol_fin hr ⟨F, hW, rfl⟩
      exact Ref.ret (fun s ρ w h => ⟨s, rfl, h⟩)
    · exact Ref.skip
  refine Ref.seq (B := G4 w0 F0) ?_ ?_
  · refine Ref.region (fun s ρ w s' h hr => ?_); obtain ⟨F, hW, g2, g6, h1, p2, h2, h5, p6, h6⟩ := h; refine ol_v (e_fa fa_29_0 p6) rfl ?_; refine ol_v (e_ld ty_3 (LiesV.int ((h6).at_.fld fl_Fault_0)) rfl) rfl ?_; refine ol_v (e_eql rfl rfl) rfl ?_; obtain ⟨x90, hx91, hr⟩ := bind_some' hr; refine ol_cutA 7 41 47 (fun ρ' w' => ∃ F', Wk nrow w F F' w' ∧ ρ' 47 = .bool x90) rfl ?_ ?_
    · by_cases hb72 : (decide (s.f_6.Code = (0 : Int))) = true
      · have hr := hx91; rw [if_pos hb72] at hr; refine ol_m rfl ?_; refine ol_yes rfl rfl (congrArg Value.bool hb72) ?_; refine ol_m rfl ?_; refine ol_yes rfl rfl (congrArg Value.bool hb72) ?_; obtain ⟨v74, hl75⟩ := LiesAt.v (h2).at_; refine ol_v (e_ld ty_27 hl75 p2) rfl ?_; refine ol_yes rfl rfl (congrArg Value.bool hb72) ?_; refine ol_m h1 ?_; refine ol_yes rfl rfl (congrArg Value.bool hb72) ?_; obtain ⟨x76, hx76, hr⟩ := bind_some' hr; refine ol_e (f_call [v74, .string s.part_1] fn_20 (lcons rfl (lcons rfl rfl)) (ref4_CandidatesFor.calls hW.ok hl75.val s.part_1 hx76)) rfl rfl ?_; rintro v79 w77 ⟨Fz78, _, rfl, kw1, hk80⟩; have hW82 := hW.trans kw1; have st1 := kw1.stp hW.ok; refine ol_yes rfl rfl (congrArg Value.bool hb72) ?_; obtain ⟨Fl83, okl83, stl83, hFl83, hl83⟩ := OwnV.lent (hk80.base (row := nrow) hW.le) hW82.ok; obtain ⟨x84, hx84, hr⟩ := bind_some' hr; refine ol_e (f_call [(ρ 5), v79] fn_19 (lcons rfl (lcons rfl rfl)) (ref3_Ints.calls okl83 ((h5.keep st1).keep stl83) hl83 hx84)) rfl rfl ?_; rintro _ w85 ⟨Fz86, rfl, kw2⟩; have ko88 := kw2; have kw2 := kw2.lend hW82.ok; have hW89 := hW82.trans kw2; have st2 := kw2.stp hW82.ok; refine ol_v (e_pick true _ (congrArg Value.bool hb72) rfl) rfl ?_; exact ol_nil ⟨⟨_, (kw1.trans kw2), (congrArg Value.bool (Option.some.inj hr))⟩, (Agr.refl _ _ _).u.u.u.u.u.u.u⟩
      · have hb73 := Bool.eq_false_iff.mpr hb72; have hr := hx91; rw [if_neg hb72] at hr; refine ol_m rfl ?_; refine ol_not rfl rfl rfl (congrArg Value.bool hb73) rfl ?_; refine ol_not rfl rfl rfl (congrArg Value.bool hb73) rfl ?_; refine ol_not rfl rfl rfl (congrArg Value.bool hb73) rfl ?_; refine ol_not rfl rfl rfl (congrArg Value.bool hb73) rfl ?_; refine ol_not rfl rfl rfl (congrArg Value.bool hb73) rfl ?_; refine ol_v (e_pick false _ (congrArg Value.bool hb73) rfl) rfl ?_; exact ol_nil ⟨⟨_, Wk.refl hW.ok, (congrArg Value.bool (Option.some.inj hr))⟩, (Agr.refl _ _ _).u.u.u.u.u.u.u⟩
    rintro ρ91 w92 ⟨⟨Fz93, kw1, hp91⟩, hAg91⟩; have hW94 := hW.trans kw1; have st1 := kw1.stp hW.ok; refine ol_a hp91 ?_; exact ol_fin hr ⟨Fz93, hW94, rfl⟩
  exact Ref.ret (fun s ρ w h => ⟨s, rfl, h⟩)
def post (w : World) (F : BSet) (r : R) (v : Value) (w' : World) : Prop := ∃ (F' : BSet), v = .bool r ∧ Wk nrow w F F' w'
theorem calls {w : World} {F : BSet} (hok : ∀ b, F b → b < w.heap.size) {v0 : Value} {a0 : TrigramIndex} (h0 : Val k_TrigramIndex F w v0 a0) (a1 : ByteArray) {r : R} (hf : f a0 a1 = some r) : Calls Try.prog 4 #[v0, .string a1] w fun e w' => ∃ v, e = .returned v ∧ post w F r v w' := by
  obtain ⟨c, hc, href⟩ := ref w F; refine calls_of_ref (args := [v0, .string a1]) _ Try.func4 hc rfl rfl href ?_ (retOf_some hf) ?_
  · exact ⟨F, Wk.refl hok, h0, rfl⟩
  · rintro ρ w' a ⟨s, rfl, F', hW, h4⟩ hF; refine ⟨_, run_results (rs := [.tmp 4]) rfl hF (vs := [ρ 4]) (⟨_, rfl, rfl⟩), ?_⟩; have hv : resVal [ρ 4] = .bool s.t_4 := by rw [h4]; rfl
    exact ⟨F', hv, hW⟩
end
end law4_TrigramCandidatesMatchesSpec

end Go.Proofs.Ytoiafcpnhhplnaa
