/- The machine's calls come to these plain functions (written by a program, wip/fx/gen.py). -/
import Derived.Test.YtenkbkcddcnmeaaDoorPA
import Derived.Test.YtenkbkcddcnmeaaDoorNm
import Derived.Test.YtenkbkcddcnmeaaDoorSl
import Derived.Test.YtenkbkcddcnmeaaDoorIn
import Derived.Test.YtenkbkcddcnmeaaDoorIt
import Derived.Test.YtenkbkcddcnmeaaDoorFx17
namespace Go.Proofs.YtenkbkcddcnmeaaDoor
open Go.Fx Go.RowKit
set_option linter.unusedVariables false

namespace bits_Div64
section
abbrev c0 (ρ : Env) (s : S) (X : Prop) : Prop := ρ 0 = .int .u64 s.t_0 ∧ X
abbrev c1 (ρ : Env) (s : S) (X : Prop) : Prop := ρ 1 = .int .u64 s.t_1 ∧ X
abbrev c2 (ρ : Env) (s : S) (X : Prop) : Prop := ρ 2 = .int .u64 s.t_2 ∧ X
abbrev c7 (ρ : Env) (s : S) (X : Prop) : Prop := ρ 8 = .int .u64 s.t_8 ∧ X
abbrev c8 (ρ : Env) (s : S) (X : Prop) : Prop := ρ 9 = .int .u64 s.t_9 ∧ X
abbrev c9 (ρ : Env) (s : S) (X : Prop) : Prop := ρ 10 = .int .u64 s.t_10 ∧ X
abbrev c10 (ρ : Env) (s : S) (X : Prop) : Prop := ρ 11 = .int .u64 s.t_11 ∧ X
abbrev c12 (ρ : Env) (s : S) (X : Prop) : Prop := ρ 13 = .int .u64 s.t_13 ∧ X
abbrev c13 (ρ : Env) (s : S) (X : Prop) : Prop := ρ 14 = .int .u64 s.t_14 ∧ X
abbrev c14 (ρ : Env) (s : S) (X : Prop) : Prop := ρ 15 = .int .u64 s.t_15 ∧ X
abbrev c15 (ρ : Env) (s : S) (X : Prop) : Prop := ρ 16 = .int .u64 s.t_16 ∧ X
abbrev c18 (ρ : Env) (s : S) (X : Prop) : Prop := ρ 17 = .int .u64 s.t_17 ∧ X
def G0 : GT S := fun w0 F0 s ρ w => ∃ F, Wk nrow w0 F0 F w ∧ c0 ρ s (c1 ρ s (ρ 2 = .int .u64 s.t_2))
def G1 : GT S := fun w0 F0 s ρ w => ∃ F, Wk nrow w0 F0 F w ∧ c0 ρ s (c1 ρ s (c2 ρ s (ρ 20 = .bool s.t_20)))
def G2 : GT S := fun w0 F0 s ρ w => ∃ F, Wk nrow w0 F0 F w ∧ c0 ρ s (c1 ρ s (c2 ρ s (ρ 24 = .bool s.t_24)))
def G3 : GT S := fun w0 F0 s ρ w => ∃ F, Wk nrow w0 F0 F w ∧ c0 ρ s (c1 ρ s (c2 ρ s (ρ 27 = .bool s.t_27)))
def G4 : GT S := fun w0 F0 s ρ w => ∃ F, Wk nrow w0 F0 F w ∧ c1 ρ s (ρ 2 = .int .u64 s.t_2)
def G5 : GT S := fun w0 F0 s ρ w => ∃ F, Wk nrow w0 F0 F w ∧ ρ 6 = .int .u64 s.t_6 ∧ ρ 7 = .int .u64 s.t_7
def G6 : GT S := fun w0 F0 s ρ w => ∃ F, Wk nrow w0 F0 F w ∧ c0 ρ s (c1 ρ s (c2 ρ s (ρ 8 = .int .u64 s.t_8)))
def G7 : GT S := fun w0 F0 s ρ w => ∃ F, Wk nrow w0 F0 F w ∧ c0 ρ s (c1 ρ s (c2 ρ s (c7 ρ s (ρ 9 = .int .u64 s.t_9))))
def G8 : GT S := fun w0 F0 s ρ w => ∃ F, Wk nrow w0 F0 F w ∧ c0 ρ s (c1 ρ s (c2 ρ s (c7 ρ s (c8 ρ s (ρ 10 = .int .u64 s.t_10)))))
def G9 : GT S := fun w0 F0 s ρ w => ∃ F, Wk nrow w0 F0 F w ∧ c1 ρ s (c2 ρ s (c7 ρ s (c8 ρ s (c9 ρ s (ρ 11 = .int .u64 s.t_11)))))
def G10 : GT S := fun w0 F0 s ρ w => ∃ F, Wk nrow w0 F0 F w ∧ c2 ρ s (c7 ρ s (c8 ρ s (c9 ρ s (c10 ρ s (ρ 12 = .int .u64 s.t_12)))))
def G11 : GT S := fun w0 F0 s ρ w => ∃ F, Wk nrow w0 F0 F w ∧ c2 ρ s (c7 ρ s (c8 ρ s (c9 ρ s (c10 ρ s (ρ 12 = .int .u64 s.t_12 ∧ ρ 13 = .int .u64 s.t_13)))))
def G12 : GT S := fun w0 F0 s ρ w => ∃ F, Wk nrow w0 F0 F w ∧ c2 ρ s (c7 ρ s (c8 ρ s (c9 ρ s (c10 ρ s (c12 ρ s (ρ 14 = .int .u64 s.t_14))))))
def G13 : GT S := fun w0 F0 s ρ w => ∃ F, Wk nrow w0 F0 F w ∧ c2 ρ s (c7 ρ s (c8 ρ s (c9 ρ s (c10 ρ s (c12 ρ s (c13 ρ s (ρ 15 = .int .u64 s.t_15)))))))
def G14 : GT S := fun w0 F0 s ρ w => ∃ F, Wk nrow w0 F0 F w ∧ c2 ρ s (c7 ρ s (c8 ρ s (c9 ρ s (c10 ρ s (c12 ρ s (c13 ρ s (c14 ρ s (ρ 16 = .int .u64 s.t_16))))))))
def G15 : GT S := fun w0 F0 s ρ w => ∃ F, Wk nrow w0 F0 F w ∧ c2 ρ s (c7 ρ s (c8 ρ s (c9 ρ s (c10 ρ s (c12 ρ s (c13 ρ s (c14 ρ s (c15 ρ s (ρ 78 = .bool s.t_78)))))))))
def G16 : GT S := fun w0 F0 s ρ w => ∃ F, Wk nrow w0 F0 F w ∧ c2 ρ s (c7 ρ s (c8 ρ s (c9 ρ s (c10 ρ s (c12 ρ s (c13 ρ s (c14 ρ s (c15 ρ s (ρ 85 = .bool s.t_85)))))))))
def G17 : GT S := fun w0 F0 s ρ w => ∃ F, Wk nrow w0 F0 F w ∧ c2 ρ s (c7 ρ s (c8 ρ s (c9 ρ s (c13 ρ s (c14 ρ s (ρ 17 = .int .u64 s.t_17))))))
def G18 : GT S := fun w0 F0 s ρ w => ∃ F, Wk nrow w0 F0 F w ∧ c2 ρ s (c7 ρ s (c8 ρ s (c9 ρ s (c13 ρ s (c14 ρ s (c18 ρ s (ρ 18 = .int .u64 s.t_18)))))))
def G19 : GT S := fun w0 F0 s ρ w => ∃ F, Wk nrow w0 F0 F w ∧ c2 ρ s (c7 ρ s (c8 ρ s (c9 ρ s (c13 ρ s (c14 ρ s (c15 ρ s (c18 ρ s (ρ 18 = .int .u64 s.t_18))))))))
def G20 : GT S := fun w0 F0 s ρ w => ∃ F, Wk nrow w0 F0 F w ∧ c2 ρ s (c7 ρ s (c8 ρ s (c9 ρ s (c13 ρ s (c14 ρ s (c15 ρ s (c18 ρ s (ρ 18 = .int .u64 s.t_18 ∧ ρ 113 = .bool s.t_113))))))))
def G21 : GT S := fun w0 F0 s ρ w => ∃ F, Wk nrow w0 F0 F w ∧ c2 ρ s (c7 ρ s (c13 ρ s (c14 ρ s (c18 ρ s (ρ 18 = .int .u64 s.t_18)))))
def G22 : GT S := fun w0 F0 s ρ w => ∃ F, Wk nrow w0 F0 F w ∧ c2 ρ s (c7 ρ s (c8 ρ s (c9 ρ s (c13 ρ s (c14 ρ s (c15 ρ s (c18 ρ s (ρ 18 = .int .u64 s.t_18 ∧ ρ 120 = .bool s.t_120))))))))
set_option maxHeartbeats 4000000 in
set_option maxRecDepth 20000 in
theorem ref (w0 : World) (F0 : BSet) : ∃ c, Tryd.f104.body = some c ∧ Ref Tryd.prog 135 c (G0 w0 F0) body (fun _ _ _ => False) (fun _ _ _ _ => False) (fun r ρ w => ∃ s, retv s = r ∧ G5 w0 F0 s ρ w) := by
  refine ⟨_, rfl, ?_⟩; unfold body; refine Ref.seq (B := G0 w0 F0) ?_ ?_
  · refine Ref.region (fun s ρ w s' h hr => ?_); obtain ⟨F, hW, h0, h1, h2⟩ := h; refine ol_a rfl ?_; refine ol_a rfl ?_; exact ol_fin hr ⟨F, hW, h0, h1, h2⟩
  refine Ref.seq (B := G0 w0 F0) ?_ ?_
  · refine Ref.seq (B := G1 w0 F0) ?_ ?_
    · refine Ref.region (fun s ρ w s' h hr => ?_); obtain ⟨F, hW, h0, h1, h2⟩ := h; refine ol_m h2 ?_; refine ol_v (e_eql rfl rfl) rfl ?_; exact ol_fin hr ⟨F, hW, h0, h1, h2, rfl⟩
    refine Ref.condP (b := fun s => s.t_20) (L := G0 w0 F0) (K := G0 w0 F0) ?_ ?_ ?_
    · rintro s ρ w ⟨F, hW, h0, h1, h2, h20⟩; exact ⟨h20, ⟨F, hW, h0, h1, h2⟩, F, hW, h0, h1, h2⟩
    · refine Ref.region (fun s ρ w s' h hr => ?_); cases hr
    · exact Ref.skip
  refine Ref.seq (B := G0 w0 F0) ?_ ?_
  · refine Ref.seq (B := G2 w0 F0) ?_ ?_
    · refine Ref.region (fun s ρ w s' h hr => ?_); obtain ⟨F, hW, h0, h1, h2⟩ := h; refine ol_m h2 ?_; refine ol_m h0 ?_; refine ol_v (e_leq rfl rfl) rfl ?_; exact ol_fin hr ⟨F, hW, h0, h1, h2, rfl⟩
    refine Ref.condP (b := fun s => s.t_24) (L := G0 w0 F0) (K := G0 w0 F0) ?_ ?_ ?_
    · rintro s ρ w ⟨F, hW, h0, h1, h2, h24⟩; exact ⟨h24, ⟨F, hW, h0, h1, h2⟩, F, hW, h0, h1, h2⟩
    · refine Ref.region (fun s ρ w s' h hr => ?_); cases hr
    · exact Ref.skip
  refine Ref.seq (B := G0 w0 F0) ?_ ?_
  · refine Ref.seq (B := G3 w0 F0) ?_ ?_
    · refine Ref.region (fun s ρ w s' h hr => ?_); obtain ⟨F, hW, h0, h1, h2⟩ := h; refine ol_m h0 ?_; refine ol_v (e_eql rfl rfl) rfl ?_; exact ol_fin hr ⟨F, hW, h0, h1, h2, rfl⟩
    refine Ref.condP (b := fun s => s.t_27) (L := G4 w0 F0) (K := G0 w0 F0) ?_ ?_ ?_
    · rintro s ρ w ⟨F, hW, h0, h1, h2, h27⟩; exact ⟨h27, ⟨F, hW, h1, h2⟩, F, hW, h0, h1, h2⟩
    · refine Ref.seq (B := G5 w0 F0) ?_ ?_
      · refine Ref.regionS (by kernel_rfl) (by kernel_rfl) (fun s ρ w ⟨F, hW, h1, h2⟩ => ⟨F, hW.drewS, h1, h2⟩) (fun s ρ w s' h hr => ?_); obtain ⟨F, hW, h1, h2⟩ := h; refine ol_m h1 ?_; refine ol_m h2 ?_; obtain ⟨hc1, hr⟩ := ite_some hr; refine ol_v (e_quo rfl rfl hc1) rfl ?_; refine ol_m h1 ?_; refine ol_m h2 ?_; obtain ⟨hc2, hr⟩ := ite_some hr; refine ol_v (e_rem rfl rfl hc2) rfl ?_; refine ol_a rfl ?_; refine ol_a rfl ?_; exact ol_fin hr ⟨F, hW, rfl, rfl⟩
      exact Ref.ret (fun s ρ w h => ⟨s, rfl, h⟩)
    · exact Ref.skip
  refine Ref.seq (B := G6 w0 F0) ?_ ?_
  · refine Ref.region (fun s ρ w s' h hr => ?_); obtain ⟨F, hW, h0, h1, h2⟩ := h; refine ol_m h2 ?_; obtain ⟨x3, hx3, hr⟩ := bind_some' hr; refine ol_e (f_call [.int .u64 s.t_2] fn_110 (lcons rfl rfl) (Lead.calls hW.ok s.t_2 hx3)) rfl rfl ?_; rintro _ w4 ⟨Fz5, rfl, kw1⟩; have hW7 := hW.trans kw1; have st1 := kw1.stp hW.ok; refine ol_v (e_conv (k := .u64) (by kernel_rfl) (by kernel_rfl) rfl) rfl ?_; refine ol_a rfl ?_; exact ol_fin hr ⟨Fz5, hW7, h0, h1, h2, rfl⟩
  refine Ref.seq (B := G6 w0 F0) ?_ ?_
  · refine Ref.region (fun s ρ w s' h hr => ?_); obtain ⟨F, hW, h0, h1, h2, h8⟩ := h; refine ol_m h2 ?_; refine ol_m h8 ?_; obtain ⟨hc8, hr⟩ := ite_some hr; refine ol_v (e_shlV rfl rfl hc8) rfl ?_; refine ol_a rfl ?_; exact ol_fin hr ⟨F, hW, h0, h1, rfl, h8⟩
  refine Ref.seq (B := G7 w0 F0) ?_ ?_
  · refine Ref.region (fun s ρ w s' h hr => ?_); obtain ⟨F, hW, h0, h1, h2, h8⟩ := h; refine ol_m h2 ?_; refine ol_v (e_shrV rfl rfl (by decide)) rfl ?_; refine ol_a rfl ?_; exact ol_fin hr ⟨F, hW, h0, h1, h2, h8, rfl⟩
  refine Ref.seq (B := G8 w0 F0) ?_ ?_
  · refine Ref.region (fun s ρ w s' h hr => ?_); obtain ⟨F, hW, h0, h1, h2, h8, h9⟩ := h; refine ol_m h2 ?_; refine ol_v (e_andV rfl rfl) rfl ?_; refine ol_a rfl ?_; exact ol_fin hr ⟨F, hW, h0, h1, h2, h8, h9, rfl⟩
  refine Ref.seq (B := G9 w0 F0) ?_ ?_
  · refine Ref.region (fun s ρ w s' h hr => ?_); obtain ⟨F, hW, h0, h1, h2, h8, h9, h10⟩ := h; refine ol_m h0 ?_; refine ol_m h8 ?_; obtain ⟨hc9, hr⟩ := ite_some hr; refine ol_v (e_shlV rfl rfl hc9) rfl ?_; refine ol_m h1 ?_; refine ol_m h8 ?_; refine ol_v (e_sub rfl rfl) rfl ?_; obtain ⟨hc10, hr⟩ := ite_some hr; refine ol_v (e_shrV rfl rfl hc10) rfl ?_; refine ol_v (e_orV rfl rfl) rfl ?_; refine ol_a rfl ?_; exact ol_fin hr ⟨F, hW, h1, h2, h8, h9, h10, rfl⟩
  refine Ref.seq (B := G10 w0 F0) ?_ ?_
  · refine Ref.region (fun s ρ w s' h hr => ?_); obtain ⟨F, hW, h1, h2, h8, h9, h10, h11⟩ := h; refine ol_m h1 ?_; refine ol_m h8 ?_; obtain ⟨hc11, hr⟩ := ite_some hr; refine ol_v (e_shlV rfl rfl hc11) rfl ?_; refine ol_a rfl ?_; exact ol_fin hr ⟨F, hW, h2, h8, h9, h10, h11, rfl⟩
  refine Ref.seq (B := G11 w0 F0) ?_ ?_
  · refine Ref.region (fun s ρ w s' h hr => ?_); obtain ⟨F, hW, h2, h8, h9, h10, h11, h12⟩ := h; refine ol_m h12 ?_; refine ol_v (e_shrV rfl rfl (by decide)) rfl ?_; refine ol_a rfl ?_; exact ol_fin hr ⟨F, hW, h2, h8, h9, h10, h11, h12, rfl⟩
  refine Ref.seq (B := G12 w0 F0) ?_ ?_
  · refine Ref.region (fun s ρ w s' h hr => ?_); obtain ⟨F, hW, h2, h8, h9, h10, h11, h12, h13⟩ := h; refine ol_m h12 ?_; refine ol_v (e_andV rfl rfl) rfl ?_; refine ol_a rfl ?_; exact ol_fin hr ⟨F, hW, h2, h8, h9, h10, h11, h13, rfl⟩
  refine Ref.seq (B := G13 w0 F0) ?_ ?_
  · refine Ref.region (fun s ρ w s' h hr => ?_); obtain ⟨F, hW, h2, h8, h9, h10, h11, h13, h14⟩ := h; refine ol_m h11 ?_; refine ol_m h9 ?_; obtain ⟨hc12, hr⟩ := ite_some hr; refine ol_v (e_quo rfl rfl hc12) rfl ?_; refine ol_a rfl ?_; exact ol_fin hr ⟨F, hW, h2, h8, h9, h10, h11, h13, h14, rfl⟩
  refine Ref.seq (B := G14 w0 F0) ?_ ?_
  · refine Ref.region (fun s ρ w s' h hr => ?_); obtain ⟨F, hW, h2, h8, h9, h10, h11, h13, h14, h15⟩ := h; refine ol_m h11 ?_; refine ol_m h15 ?_; refine ol_m h9 ?_; refine ol_v (e_mul rfl rfl) rfl ?_; refine ol_v (e_sub rfl rfl) rfl ?_; refine ol_a rfl ?_; exact ol_fin hr ⟨F, hW, h2, h8, h9, h10, h11, h13, h14, h15, rfl⟩
  refine Ref.seq (B := G13 w0 F0) ?_ ?_
  · refine Ref.block ?_; refine Ref.loop ?_; refine Ref.seq (B := G14 w0 F0) ?_ ?_
    · refine Ref.seq (B := G15 w0 F0) ?_ ?_
      · refine Ref.region (fun s ρ w s' h hr => ?_); obtain ⟨F, hW, h2, h8, h9, h10, h11, h13, h14, h15, h16⟩ := h; refine ol_m h15 ?_; refine ol_v (e_geq rfl rfl) rfl ?_; refine ol_cutA 10 69 78 (fun ρ' w' => w = w' ∧ ρ' 78 = .bool ((decide ((4294967296 : Int) ≤ s.t_15)) || (decide ((IntKind.u64.wrap (IntKind.u64.wrap ((4294967296 : Int) * s.t_16) + s.t_13)) < (IntKind.u64.wrap (s.t_15 * s.t_10)))))) rfl ?_ ?_
        · by_cases hb13 : (decide ((4294967296 : Int) ≤ s.t_15)) = true
          · refine ol_m rfl ?_; refine ol_not rfl rfl rfl (congrArg Value.bool hb13) rfl ?_; refine ol_not rfl rfl rfl (congrArg Value.bool hb13) rfl ?_; refine ol_not rfl rfl rfl (congrArg Value.bool hb13) rfl ?_; refine ol_not rfl rfl rfl (congrArg Value.bool hb13) rfl ?_; refine ol_not rfl rfl rfl (congrArg Value.bool hb13) rfl ?_; refine ol_not rfl rfl rfl (congrArg Value.bool hb13) rfl ?_; refine ol_not rfl rfl rfl (congrArg Value.bool hb13) rfl ?_; refine ol_not rfl rfl rfl (congrArg Value.bool hb13) rfl ?_; refine ol_v (e_pick true _ (congrArg Value.bool hb13) rfl) rfl ?_; exact ol_nil ⟨⟨rfl, (bv_or_t hb13)⟩, (Agr.refl _ _ _).u.u.u.u.u.u.u.u.u.u⟩
          · have hb14 := Bool.eq_false_iff.mpr hb13; refine ol_m rfl ?_; refine ol_yes rfl rfl (congrArg Value.bool hb14) ?_; refine ol_m h15 ?_; refine ol_yes rfl rfl (congrArg Value.bool hb14) ?_; refine ol_m h10 ?_; refine ol_yes rfl rfl (congrArg Value.bool hb14) ?_; refine ol_v (e_mul rfl rfl) rfl ?_; refine ol_yes rfl rfl (congrArg Value.bool hb14) ?_; refine ol_m h16 ?_; refine ol_yes rfl rfl (congrArg Value.bool hb14) ?_; refine ol_v (e_mul rfl rfl) rfl ?_; refine ol_yes rfl rfl (congrArg Value.bool hb14) ?_; refine ol_m h13 ?_; refine ol_yes rfl rfl (congrArg Value.bool hb14) ?_; refine ol_v (e_add rfl rfl) rfl ?_; refine ol_yes rfl rfl (congrArg Value.bool hb14) ?_; refine ol_v (e_gtr rfl rfl) rfl ?_; refine ol_v (e_pick false _ (congrArg Value.bool hb14) rfl) rfl ?_; exact ol_nil ⟨⟨rfl, (bv_or_f hb14)⟩, (Agr.refl _ _ _).u.u.u.u.u.u.u.u.u.u⟩
        rintro ρ19 _ ⟨⟨rfl, hp19⟩, hAg19⟩; exact ol_fin hr ⟨F, hW, ((hAg19 2 rfl).trans h2), ((hAg19 8 rfl).trans h8), ((hAg19 9 rfl).trans h9), ((hAg19 10 rfl).trans h10), ((hAg19 11 rfl).trans h11), ((hAg19 13 rfl).trans h13), ((hAg19 14 rfl).trans h14), ((hAg19 15 rfl).trans h15), ((hAg19 16 rfl).trans h16), hp19⟩
      refine Ref.condP (b := fun s => s.t_78) (L := G14 w0 F0) (K := G13 w0 F0) ?_ ?_ ?_
      · rintro s ρ w ⟨F, hW, h2, h8, h9, h10, h11, h13, h14, h15, h16, h78⟩; exact ⟨h78, ⟨F, hW, h2, h8, h9, h10, h11, h13, h14, h15, h16⟩, F, hW, h2, h8, h9, h10, h11, h13, h14, h15⟩
      · exact Ref.skip
      · exact Ref.exit (fun s ρ w h => h)
    refine Ref.block ?_; refine Ref.seq (B := G14 w0 F0) ?_ ?_
    · refine Ref.region (fun s ρ w s' h hr => ?_); obtain ⟨F, hW, h2, h8, h9, h10, h11, h13, h14, h15, h16⟩ := h; refine ol_m h15 ?_; refine ol_v (e_sub rfl rfl) rfl ?_; refine ol_a rfl ?_; exact ol_fin hr ⟨F, hW, h2, h8, h9, h10, h11, h13, h14, rfl, h16⟩
    refine Ref.seq (B := G14 w0 F0) ?_ ?_
    · refine Ref.region (fun s ρ w s' h hr => ?_); obtain ⟨F, hW, h2, h8, h9, h10, h11, h13, h14, h15, h16⟩ := h; refine ol_m h16 ?_; refine ol_m h9 ?_; refine ol_v (e_add rfl rfl) rfl ?_; refine ol_a rfl ?_; exact ol_fin hr ⟨F, hW, h2, h8, h9, h10, h11, h13, h14, h15, rfl⟩
    refine Ref.seq (B := G16 w0 F0) ?_ ?_
    · refine Ref.region (fun s ρ w s' h hr => ?_); obtain ⟨F, hW, h2, h8, h9, h10, h11, h13, h14, h15, h16⟩ := h; refine ol_m h16 ?_; refine ol_v (e_geq rfl rfl) rfl ?_; exact ol_fin hr ⟨F, hW, h2, h8, h9, h10, h11, h13, h14, h15, h16, rfl⟩
    refine Ref.condP (b := fun s => s.t_85) (L := G13 w0 F0) (K := G14 w0 F0) ?_ ?_ ?_
    · rintro s ρ w ⟨F, hW, h2, h8, h9, h10, h11, h13, h14, h15, h16, h85⟩; exact ⟨h85, ⟨F, hW, h2, h8, h9, h10, h11, h13, h14, h15⟩, F, hW, h2, h8, h9, h10, h11, h13, h14, h15, h16⟩
    · exact Ref.exit (fun s ρ w h => h)
    · exact Ref.skip
  refine Ref.seq (B := G17 w0 F0) ?_ ?_
  · refine Ref.region (fun s ρ w s' h hr => ?_); obtain ⟨F, hW, h2, h8, h9, h10, h11, h13, h14, h15⟩ := h; refine ol_m h11 ?_; refine ol_v (e_mul rfl rfl) rfl ?_; refine ol_m h13 ?_; refine ol_v (e_add rfl rfl) rfl ?_; refine ol_m h15 ?_; refine ol_m h2 ?_; refine ol_v (e_mul rfl rfl) rfl ?_; refine ol_v (e_sub rfl rfl) rfl ?_; refine ol_a rfl ?_; exact ol_fin hr ⟨F, hW, h2, h8, h9, h10, h14, h15, rfl⟩
  refine Ref.seq (B := G18 w0 F0) ?_ ?_
  · refine Ref.region (fun s ρ w s' h hr => ?_); obtain ⟨F, hW, h2, h8, h9, h10, h14, h15, h17⟩ := h; refine ol_m h17 ?_; refine ol_m h9 ?_; obtain ⟨hc20, hr⟩ := ite_some hr; refine ol_v (e_quo rfl rfl hc20) rfl ?_; refine ol_a rfl ?_; exact ol_fin hr ⟨F, hW, h2, h8, h9, h10, h14, h15, h17, rfl⟩
  refine Ref.seq (B := G19 w0 F0) ?_ ?_
  · refine Ref.region (fun s ρ w s' h hr => ?_); obtain ⟨F, hW, h2, h8, h9, h10, h14, h15, h17, h18⟩ := h; refine ol_m h17 ?_; refine ol_m h18 ?_; refine ol_m h9 ?_; refine ol_v (e_mul rfl rfl) rfl ?_; refine ol_v (e_sub rfl rfl) rfl ?_; refine ol_a rfl ?_; exact ol_fin hr ⟨F, hW, h2, h8, h9, h10, h14, h15, rfl, h17, h18⟩
  refine Ref.seq (B := G21 w0 F0) ?_ ?_
  · refine Ref.block ?_; refine Ref.loop ?_; refine Ref.seq (B := G19 w0 F0) ?_ ?_
    · refine Ref.seq (B := G20 w0 F0) ?_ ?_
      · refine Ref.region (fun s ρ w s' h hr => ?_); obtain ⟨F, hW, h2, h8, h9, h10, h14, h15, h16, h17, h18⟩ := h; refine ol_m h18 ?_; refine ol_v (e_geq rfl rfl) rfl ?_; refine ol_cutA 10 104 113 (fun ρ' w' => w = w' ∧ ρ' 113 = .bool ((decide ((4294967296 : Int) ≤ s.t_18)) || (decide ((IntKind.u64.wrap (IntKind.u64.wrap ((4294967296 : Int) * s.t_16) + s.t_14)) < (IntKind.u64.wrap (s.t_18 * s.t_10)))))) rfl ?_ ?_
        · by_cases hb21 : (decide ((4294967296 : Int) ≤ s.t_18)) = true
          · refine ol_m rfl ?_; refine ol_not rfl rfl rfl (congrArg Value.bool hb21) rfl ?_; refine ol_not rfl rfl rfl (congrArg Value.bool hb21) rfl ?_; refine ol_not rfl rfl rfl (congrArg Value.bool hb21) rfl ?_; refine ol_not rfl rfl rfl (congrArg Value.bool hb21) rfl ?_; refine ol_not rfl rfl rfl (congrArg Value.bool hb21) rfl ?_; refine ol_not rfl rfl rfl (congrArg Value.bool hb21) rfl ?_; refine ol_not rfl rfl rfl (congrArg Value.bool hb21) rfl ?_; refine ol_not rfl rfl rfl (congrArg Value.bool hb21) rfl ?_; refine ol_v (e_pick true _ (congrArg Value.bool hb21) rfl) rfl ?_; exact ol_nil ⟨⟨rfl, (bv_or_t hb21)⟩, (Agr.refl _ _ _).u.u.u.u.u.u.u.u.u.u⟩
          · have hb22 := Bool.eq_false_iff.mpr hb21; refine ol_m rfl ?_; refine ol_yes rfl rfl (congrArg Value.bool hb22) ?_; refine ol_m h18 ?_; refine ol_yes rfl rfl (congrArg Value.bool hb22) ?_; refine ol_m h10 ?_; refine ol_yes rfl rfl (congrArg Value.bool hb22) ?_; refine ol_v (e_mul rfl rfl) rfl ?_; refine ol_yes rfl rfl (congrArg Value.bool hb22) ?_; refine ol_m h16 ?_; refine ol_yes rfl rfl (congrArg Value.bool hb22) ?_; refine ol_v (e_mul rfl rfl) rfl ?_; refine ol_yes rfl rfl (congrArg Value.bool hb22) ?_; refine ol_m h14 ?_; refine ol_yes rfl rfl (congrArg Value.bool hb22) ?_; refine ol_v (e_add rfl rfl) rfl ?_; refine ol_yes rfl rfl (congrArg Value.bool hb22) ?_; refine ol_v (e_gtr rfl rfl) rfl ?_; refine ol_v (e_pick false _ (congrArg Value.bool hb22) rfl) rfl ?_; exact ol_nil ⟨⟨rfl, (bv_or_f hb22)⟩, (Agr.refl _ _ _).u.u.u.u.u.u.u.u.u.u⟩
        rintro ρ23 _ ⟨⟨rfl, hp23⟩, hAg23⟩; exact ol_fin hr ⟨F, hW, ((hAg23 2 rfl).trans h2), ((hAg23 8 rfl).trans h8), ((hAg23 9 rfl).trans h9), ((hAg23 10 rfl).trans h10), ((hAg23 14 rfl).trans h14), ((hAg23 15 rfl).trans h15), ((hAg23 16 rfl).trans h16), ((hAg23 17 rfl).trans h17), ((hAg23 18 rfl).trans h18), hp23⟩
      refine Ref.condP (b := fun s => s.t_113) (L := G19 w0 F0) (K := G21 w0 F0) ?_ ?_ ?_
      · rintro s ρ w ⟨F, hW, h2, h8, h9, h10, h14, h15, h16, h17, h18, h113⟩; exact ⟨h113, ⟨F, hW, h2, h8, h9, h10, h14, h15, h16, h17, h18⟩, F, hW, h2, h8, h14, h15, h17, h18⟩
      · exact Ref.skip
      · exact Ref.exit (fun s ρ w h => h)
    refine Ref.block ?_; refine Ref.seq (B := G19 w0 F0) ?_ ?_
    · refine Ref.region (fun s ρ w s' h hr => ?_); obtain ⟨F, hW, h2, h8, h9, h10, h14, h15, h16, h17, h18⟩ := h; refine ol_m h18 ?_; refine ol_v (e_sub rfl rfl) rfl ?_; refine ol_a rfl ?_; exact ol_fin hr ⟨F, hW, h2, h8, h9, h10, h14, h15, h16, h17, rfl⟩
    refine Ref.seq (B := G19 w0 F0) ?_ ?_
    · refine Ref.region (fun s ρ w s' h hr => ?_); obtain ⟨F, hW, h2, h8, h9, h10, h14, h15, h16, h17, h18⟩ := h; refine ol_m h16 ?_; refine ol_m h9 ?_; refine ol_v (e_add rfl rfl) rfl ?_; refine ol_a rfl ?_; exact ol_fin hr ⟨F, hW, h2, h8, h9, h10, h14, h15, rfl, h17, h18⟩
    refine Ref.seq (B := G22 w0 F0) ?_ ?_
    · refine Ref.region (fun s ρ w s' h hr => ?_); obtain ⟨F, hW, h2, h8, h9, h10, h14, h15, h16, h17, h18⟩ := h; refine ol_m h16 ?_; refine ol_v (e_geq rfl rfl) rfl ?_; exact ol_fin hr ⟨F, hW, h2, h8, h9, h10, h14, h15, h16, h17, h18, rfl⟩
    refine Ref.condP (b := fun s => s.t_120) (L := G21 w0 F0) (K := G19 w0 F0) ?_ ?_ ?_
    · rintro s ρ w ⟨F, hW, h2, h8, h9, h10, h14, h15, h16, h17, h18, h120⟩; exact ⟨h120, ⟨F, hW, h2, h8, h14, h15, h17, h18⟩, F, hW, h2, h8, h9, h10, h14, h15, h16, h17, h18⟩
    · exact Ref.exit (fun s ρ w h => h)
    · exact Ref.skip
  refine Ref.seq (B := G5 w0 F0) ?_ ?_
  · refine Ref.region (fun s ρ w s' h hr => ?_); obtain ⟨F, hW, h2, h8, h14, h15, h17, h18⟩ := h; refine ol_m h15 ?_; refine ol_v (e_mul rfl rfl) rfl ?_; refine ol_m h18 ?_; refine ol_v (e_add rfl rfl) rfl ?_; refine ol_m h17 ?_; refine ol_v (e_mul rfl rfl) rfl ?_; refine ol_m h14 ?_; refine ol_v (e_add rfl rfl) rfl ?_; refine ol_m h18 ?_; refine ol_m h2 ?_; refine ol_v (e_mul rfl rfl) rfl ?_; refine ol_v (e_sub rfl rfl) rfl ?_; refine ol_m h8 ?_; obtain ⟨hc24, hr⟩ := ite_some hr; refine ol_v (e_shrV rfl rfl hc24) rfl ?_; refine ol_a rfl ?_; refine ol_a rfl ?_; exact ol_fin hr ⟨F, hW, rfl, rfl⟩
  exact Ref.ret (fun s ρ w h => ⟨s, rfl, h⟩)
def post (w : World) (F : BSet) (r : R) (v : Value) (w' : World) : Prop := ∃ (F' : BSet), v = .tuple #[.int .u64 r.1, .int .u64 r.2] ∧ Wk nrow w F F' w'
theorem calls {w : World} {F : BSet} (hok : ∀ b, F b → b < w.heap.size) (a0 : Int) (a1 : Int) (a2 : Int) {r : R} (hf : f a0 a1 a2 = some r) : Calls Tryd.prog 104 #[.int .u64 a0, .int .u64 a1, .int .u64 a2] w fun e w' => ∃ v, e = .returned v ∧ post w F r v w' := by
  obtain ⟨c, hc, href⟩ := ref w F; refine calls_of_ref (args := [.int .u64 a0, .int .u64 a1, .int .u64 a2]) _ Tryd.func104 hc rfl rfl href ?_ (retOf_some hf) ?_
  · exact ⟨F, Wk.refl hok, rfl, rfl, rfl⟩
  · rintro ρ w' a ⟨s, rfl, F', hW, h6, h7⟩ hF; refine ⟨_, run_results (rs := [.tmp 6, .tmp 7]) rfl hF (vs := [ρ 6, ρ 7]) (⟨_, rfl, ⟨_, rfl, rfl⟩⟩), ?_⟩; have hv : resVal [ρ 6, ρ 7] = .tuple #[.int .u64 s.t_6, .int .u64 s.t_7] := by rw [h6, h7]; rfl
    exact ⟨F', hv, hW⟩
end
end bits_Div64

namespace digest_mul
section
def G0 : GT S := fun w0 F0 s ρ w => ∃ F, Wk nrow w0 F0 F w ∧ ρ 0 = .int .u64 s.a_0 ∧ ρ 1 = .int .u64 s.b_1
def G1 : GT S := fun w0 F0 s ρ w => ∃ F, Wk nrow w0 F0 F w ∧ ρ 5 = .int .u64 s.hi_5 ∧ ρ 6 = .int .u64 s.lo_6
def G2 : GT S := fun w0 F0 s ρ w => ∃ F, Wk nrow w0 F0 F w ∧ ρ 8 = .int .u64 s.rem_8
def G3 : GT S := fun w0 F0 s ρ w => ∃ F, Wk nrow w0 F0 F w ∧ ρ 4 = .int .u64 s.t_4
set_option maxHeartbeats 4000000 in
set_option maxRecDepth 20000 in
theorem ref (w0 : World) (F0 : BSet) : ∃ c, Tryd.f90.body = some c ∧ Ref Tryd.prog 23 c (G0 w0 F0) body (fun _ _ _ => False) (fun _ _ _ _ => False) (fun r ρ w => ∃ s, retv s = r ∧ G3 w0 F0 s ρ w) := by
  refine ⟨_, rfl, ?_⟩; unfold body; refine Ref.seq (B := G0 w0 F0) ?_ ?_
  · refine Ref.region (fun s ρ w s' h hr => ?_); obtain ⟨F, hW, h0, h1⟩ := h; refine ol_a rfl ?_; exact ol_fin hr ⟨F, hW, h0, h1⟩
  refine Ref.seq (B := G1 w0 F0) ?_ ?_
  · refine Ref.region (fun s ρ w s' h hr => ?_); obtain ⟨F, hW, h0, h1⟩ := h; refine ol_m h0 ?_; refine ol_m h1 ?_; obtain ⟨x1, hx1, hr⟩ := bind_some' hr; refine ol_e (f_call [.int .u64 s.a_0, .int .u64 s.b_1] fn_103 (lcons rfl (lcons rfl rfl)) (Mul64.calls hW.ok s.a_0 s.b_1 hx1)) rfl rfl ?_; rintro _ w2 ⟨Fz3, rfl, kw1⟩; have hW5 := hW.trans kw1; have st1 := kw1.stp hW.ok; refine ol_m rfl ?_; refine ol_v (e_ext _ rfl rfl) rfl ?_; refine ol_v (e_ext _ rfl rfl) rfl ?_; refine ol_a rfl ?_; refine ol_a rfl ?_; exact ol_fin hr ⟨Fz3, hW5, rfl, rfl⟩
  refine Ref.seq (B := G2 w0 F0) ?_ ?_
  · refine Ref.region (fun s ρ w s' h hr => ?_); obtain ⟨F, hW, h5, h6⟩ := h; refine ol_m h5 ?_; refine ol_v (e_rem rfl rfl (by decide)) rfl ?_; refine ol_m h6 ?_; obtain ⟨x6, hx6, hr⟩ := bind_some' hr; refine ol_e (f_call [.int .u64 (Int.tmod s.hi_5 (2305843009213693951 : Int)), .int .u64 s.lo_6, .int .u64 (2305843009213693951 : Int)] fn_104 (lcons rfl (lcons rfl (lcons rfl rfl))) (bits_Div64.calls hW.ok (Int.tmod s.hi_5 (2305843009213693951 : Int)) s.lo_6 (2305843009213693951 : Int) hx6)) rfl rfl ?_; rintro _ w7 ⟨Fz8, rfl, kw1⟩; have hW10 := hW.trans kw1; have st1 := kw1.stp hW.ok; refine ol_m rfl ?_; refine ol_v (e_ext _ rfl rfl) rfl ?_; refine ol_v (e_ext _ rfl rfl) rfl ?_; refine ol_a rfl ?_; refine ol_a rfl ?_; exact ol_fin hr ⟨Fz8, hW10, rfl⟩
  refine Ref.seq (B := G3 w0 F0) ?_ ?_
  · refine Ref.region (fun s ρ w s' h hr => ?_); obtain ⟨F, hW, h8⟩ := h; refine ol_m h8 ?_; refine ol_a rfl ?_; exact ol_fin hr ⟨F, hW, rfl⟩
  exact Ref.ret (fun s ρ w h => ⟨s, rfl, h⟩)
def post (w : World) (F : BSet) (r : R) (v : Value) (w' : World) : Prop := ∃ (F' : BSet), v = .int .u64 r ∧ Wk nrow w F F' w'
theorem calls {w : World} {F : BSet} (hok : ∀ b, F b → b < w.heap.size) (a0 : Int) (a1 : Int) {r : R} (hf : f a0 a1 = some r) : Calls Tryd.prog 90 #[.int .u64 a0, .int .u64 a1] w fun e w' => ∃ v, e = .returned v ∧ post w F r v w' := by
  obtain ⟨c, hc, href⟩ := ref w F; refine calls_of_ref (args := [.int .u64 a0, .int .u64 a1]) _ Tryd.func90 hc rfl rfl href ?_ (retOf_some hf) ?_
  · exact ⟨F, Wk.refl hok, rfl, rfl⟩
  · rintro ρ w' a ⟨s, rfl, F', hW, h4⟩ hF; refine ⟨_, run_results (rs := [.tmp 4]) rfl hF (vs := [ρ 4]) (⟨_, rfl, rfl⟩), ?_⟩; have hv : resVal [ρ 4] = .int .u64 s.t_4 := by rw [h4]; rfl
    exact ⟨F', hv, hW⟩
end
end digest_mul

namespace digest_Of
section
abbrev c1 (ρ : Env) (g3 : Nat) (w0 w : World) (F : BSet) (s : S) (X : Prop) : Prop := ρ 3 = .pointer (some ⟨g3, 0, none⟩) ∧ Box k_Fault 32 (Bs w0 nrow) F w g3 s.t_3 ∧ X
abbrev e1 (ρ : Env) (g3 : Nat) (w0 w : World) (F : BSet) (s : S) : Prop := ρ 3 = .pointer (some ⟨g3, 0, none⟩) ∧ Box k_Fault 32 (Bs w0 nrow) F w g3 s.t_3
abbrev e5 (F : BSet) (w : World) (ρ : Env) (s : S) : Prop := SlR kByte F w (ρ 11) s.t_11 ∧ ρ 12 = .int .i64 s.t_12 ∧ ρ 13 = .int .i64 s.t_13
def G0 : GT S := fun w0 F0 s ρ w => ∃ F, Wk nrow w0 F0 F w ∧ SlR kByte F w (ρ 0) s.data_0
def G1 : GT S := fun w0 F0 s ρ w => ∃ F, Wk nrow w0 F0 F w ∧ ∃ g3, SlR kByte F w (ρ 0) s.data_0 ∧ e1 ρ g3 w0 w F s
def G2 : GT S := fun w0 F0 s ρ w => ∃ F, Wk nrow w0 F0 F w ∧ ∃ g3, SlR kByte F w (ρ 0) s.data_0 ∧ c1 ρ g3 w0 w F s (ρ 9 = .bool s.t_9)
def G3 : GT S := fun w0 F0 s ρ w => ∃ F, Wk nrow w0 F0 F w ∧ ∃ g3, e1 ρ g3 w0 w F s
def G4 : GT S := fun w0 F0 s ρ w => ∃ F, Wk nrow w0 F0 F w ∧ ∃ g3, ρ 2 = .int .i64 s.t_2 ∧ e1 ρ g3 w0 w F s
def G5 : GT S := fun w0 F0 s ρ w => ∃ F, Wk nrow w0 F0 F w ∧ ∃ g3, SlR kByte F w (ρ 0) s.data_0 ∧ c1 ρ g3 w0 w F s (ρ 4 = .int .u64 s.h_4)
def G6 : GT S := fun w0 F0 s ρ w => ∃ F, Wk nrow w0 F0 F w ∧ ∃ g3, c1 ρ g3 w0 w F s (ρ 4 = .int .u64 s.h_4 ∧ e5 F w ρ s)
def G7 : GT S := fun w0 F0 s ρ w => ∃ F, Wk nrow w0 F0 F w ∧ ∃ g3, c1 ρ g3 w0 w F s (ρ 4 = .int .u64 s.h_4 ∧ SlR kByte F w (ρ 11) s.t_11 ∧ ρ 12 = .int .i64 s.t_12 ∧ ρ 13 = .int .i64 s.t_13 ∧ ρ 14 = .bool s.t_14)
def G8 : GT S := fun w0 F0 s ρ w => ∃ F, Wk nrow w0 F0 F w ∧ ∃ g3, c1 ρ g3 w0 w F s (ρ 4 = .int .u64 s.h_4)
def G9 : GT S := fun w0 F0 s ρ w => ∃ F, Wk nrow w0 F0 F w ∧ ∃ g3, c1 ρ g3 w0 w F s (ρ 4 = .int .u64 s.h_4 ∧ ρ 6 = .int .u8 (s.b_6.toNat : Int) ∧ e5 F w ρ s)
set_option maxHeartbeats 4000000 in
set_option maxRecDepth 20000 in
theorem ref (w0 : World) (F0 : BSet) : ∃ c, Tryd.f62.body = some c ∧ Ref Tryd.prog 28 c (G0 w0 F0) body (fun _ _ _ => False) (fun _ _ _ _ => False) (fun r ρ w => ∃ s, retv s = r ∧ G4 w0 F0 s ρ w) := by
  refine ⟨_, rfl, ?_⟩; unfold body; refine Ref.seq (B := G1 w0 F0) ?_ ?_
  · refine Ref.region (fun s ρ w s' h hr => ?_); obtain ⟨F, hW, h0⟩ := h; refine ol_a rfl ?_; refine ol_e (f_alloc zer_32 hW) rfl rfl ?_; rintro _ w2 ⟨g1, rfl, kw1, ho3⟩; have hW4 := hW.trans kw1; have st1 := kw1.stp hW.ok; exact ol_fin hr ⟨F, hW4, g1, (h0.keep st1), rfl, (ho3.base (row := nrow) hW.le)⟩
  refine Ref.seq (B := G1 w0 F0) ?_ ?_
  · refine Ref.seq (B := G2 w0 F0) ?_ ?_
    · refine Ref.region (fun s ρ w s' h hr => ?_); obtain ⟨F, hW, g3, h0, p3, h3⟩ := h; refine ol_m rfl ?_; obtain ⟨A5, c6, e7, hc8, R9⟩ := id h0; refine ol_v (e_len (SlT.sl sl_46) e7) rfl ?_; refine ol_v (e_gtr rfl rfl) rfl ?_; exact ol_fin hr ⟨F, hW, g3, h0, p3, h3, rfl⟩
    refine Ref.condP (b := fun s => s.t_9) (L := G3 w0 F0) (K := G1 w0 F0) ?_ ?_ ?_
    · rintro s ρ w ⟨F, hW, g3, h0, p3, h3, h9⟩; exact ⟨h9, ⟨F, hW, g3, p3, h3⟩, F, hW, g3, h0, p3, h3⟩
    · refine Ref.seq (B := G4 w0 F0) ?_ ?_
      · refine Ref.region (fun s ρ w s' h hr => ?_); obtain ⟨F, hW, g3, p3, h3⟩ := h; refine ol_v (e_bld (cells := #[.int .i64 (2), .int .i64 0]) bld_32 (vs := [(0, .int .i64 (2))]) (lcons (congrArg (Prod.mk 0) rfl) rfl) rfl) rfl ?_; have hb10 : Val k_Fault F w (.agg #[.int .i64 (2), .int .i64 0]) (⟨(2 : Int), (0 : Int)⟩ : Fault) := mk_Fault (val_int _ _) (val_int _ _); refine ol_a rfl ?_; refine ol_eN (f_stB hW h3 (FldS.whole _) ty_32 hb10 p3 rfl) rfl ?_; rintro - w11 ⟨hW12, ho13, hg1, st1⟩; exact ol_fin hr ⟨F, hW12, g3, rfl, p3, ho13⟩
      exact Ref.ret (fun s ρ w h => ⟨s, rfl, h⟩)
    · exact Ref.skip
  refine Ref.seq (B := G5 w0 F0) ?_ ?_
  · refine Ref.region (fun s ρ w s' h hr => ?_); obtain ⟨F, hW, g3, h0, p3, h3⟩ := h; refine ol_a rfl ?_; exact ol_fin hr ⟨F, hW, g3, h0, p3, h3, rfl⟩
  refine Ref.seq (B := G8 w0 F0) ?_ ?_
  · refine Ref.seq (B := G6 w0 F0) ?_ ?_
    · refine Ref.region (fun s ρ w s' h hr => ?_); obtain ⟨F, hW, g3, h0, p3, h3, h4⟩ := h; refine ol_m rfl ?_; obtain ⟨A14, c15, e16, hc17, R18⟩ := id h0; refine ol_v (e_len (SlT.sl sl_46) e16) rfl ?_; refine ol_m rfl ?_; exact ol_fin hr ⟨F, hW, g3, p3, h3, h4, h0, rfl, rfl⟩
    refine Ref.block ?_; refine Ref.loop ?_; refine Ref.seq (B := G7 w0 F0) ?_ ?_
    · refine Ref.region (fun s ρ w s' h hr => ?_); obtain ⟨F, hW, g3, p3, h3, h4, h11, h12, h13⟩ := h; refine ol_v (e_lss h13 h12) rfl ?_; exact ol_fin hr ⟨F, hW, g3, p3, h3, h4, h11, h12, h13, rfl⟩
    refine Ref.seq (B := G6 w0 F0) ?_ ?_
    · refine Ref.condP (b := fun s => s.t_14) (L := G6 w0 F0) (K := G8 w0 F0) ?_ ?_ ?_
      · rintro s ρ w ⟨F, hW, g3, p3, h3, h4, h11, h12, h13, h14⟩; exact ⟨h14, ⟨F, hW, g3, p3, h3, h4, h11, h12, h13⟩, F, hW, g3, p3, h3, h4⟩
      · exact Ref.skip
      · exact Ref.exit (fun s ρ w h => h)
    refine Ref.seq (B := G6 w0 F0) ?_ ?_
    · refine Ref.block ?_; refine Ref.seq (B := G9 w0 F0) ?_ ?_
      · refine Ref.region (fun s ρ w s' h hr => ?_); obtain ⟨F, hW, g3, p3, h3, h4, h11, h12, h13⟩ := h; obtain ⟨x19, hx19, hr⟩ := bind_some' hr; obtain ⟨A20, c21, e22, hc23, R24⟩ := id h11; obtain ⟨b25, o26, hA27, L28⟩ := Row.at_ R24 hx19; refine ol_v (e_ix (SlT.sl sl_46) (SlT.sz sl_46) hA27 hx19 e22 h13) rfl ?_; refine ol_v (e_ld ty_5 (LiesV.byte L28.at_) rfl) rfl ?_; refine ol_a rfl ?_; exact ol_fin hr ⟨F, hW, g3, p3, h3, h4, rfl, h11, h12, h13⟩
      refine Ref.region (fun s ρ w s' h hr => ?_); obtain ⟨F, hW, g3, p3, h3, h4, h6, h11, h12, h13⟩ := h; refine ol_m h4 ?_; obtain ⟨x29, hx29, hr⟩ := bind_some' hr; refine ol_e (f_call [.int .u64 s.h_4, .int .u64 (257 : Int)] fn_90 (lcons rfl (lcons rfl rfl)) (digest_mul.calls hW.ok s.h_4 (257 : Int) hx29)) rfl rfl ?_; rintro _ w30 ⟨Fz31, rfl, kw1⟩; have hW33 := hW.trans kw1; have st1 := kw1.stp hW.ok; refine ol_m h6 ?_; refine ol_v (e_conv (k := .u64) (by kernel_rfl) (by kernel_rfl) rfl) rfl ?_; refine ol_v (e_add rfl rfl) rfl ?_; refine ol_v (e_add rfl rfl) rfl ?_; refine ol_v (e_rem rfl rfl (by decide)) rfl ?_; refine ol_a rfl ?_; exact ol_fin hr ⟨Fz31, hW33, g3, p3, (h3.wk kw1 hW.ok), rfl, (h11.keep st1), h12, h13⟩
    refine Ref.region (fun s ρ w s' h hr => ?_); obtain ⟨F, hW, g3, p3, h3, h4, h11, h12, h13⟩ := h; refine ol_v (e_add h13 rfl) rfl ?_; refine ol_m rfl ?_; exact ol_fin hr ⟨F, hW, g3, p3, h3, h4, h11, h12, rfl⟩
  refine Ref.seq (B := G4 w0 F0) ?_ ?_
  · refine Ref.region (fun s ρ w s' h hr => ?_); obtain ⟨F, hW, g3, p3, h3, h4⟩ := h; refine ol_m h4 ?_; refine ol_v (e_conv (k := .i64) (by kernel_rfl) (by kernel_rfl) rfl) rfl ?_; refine ol_v (e_bld (cells := #[.int .i64 0, .int .i64 0]) bld_32 (vs := []) rfl rfl) rfl ?_; have hb34 : Val k_Fault F w (.agg #[.int .i64 0, .int .i64 0]) (⟨(0 : Int), (0 : Int)⟩ : Fault) := mk_Fault (val_int _ _) (val_int _ _); refine ol_a rfl ?_; refine ol_eN (f_stB hW h3 (FldS.whole _) ty_32 hb34 p3 rfl) rfl ?_; rintro - w35 ⟨hW36, ho37, hg1, st1⟩; exact ol_fin hr ⟨F, hW36, g3, rfl, p3, ho37⟩
  exact Ref.ret (fun s ρ w h => ⟨s, rfl, h⟩)
def post (w : World) (F : BSet) (r : R) (v : Value) (w' : World) : Prop := ∃ (F' : BSet) (v1' : Value), v = .tuple #[.int .i64 r.1, v1'] ∧ Wk nrow w F F' w' ∧ Val k_Fault F' w' v1' r.2
theorem calls {w : World} {F : BSet} (hok : ∀ b, F b → b < w.heap.size) {v0 : Value} {a0 : (List UInt8)} (h0 : SlR kByte F w v0 a0) {r : R} (hf : f a0 = some r) : Calls Tryd.prog 62 #[v0] w fun e w' => ∃ v, e = .returned v ∧ post w F r v w' := by
  obtain ⟨c, hc, href⟩ := ref w F; refine calls_of_ref (args := [v0]) _ Tryd.func62 hc rfl rfl href ?_ (retOf_some hf) ?_
  · exact ⟨F, Wk.refl hok, h0⟩
  · rintro ρ w' a ⟨s, rfl, F', hW, g3, h2, p3, h3⟩ hF; obtain ⟨u3, l3, k3⟩ := res_box (P := Tryd.prog) ty_32 h3; refine ⟨_, run_results (rs := [.tmp 2, .cell 3 32]) rfl hF (vs := [ρ 2, u3]) (⟨_, rfl, ⟨_, _, _, rfl, p3, l3, rfl⟩⟩), ?_⟩; have hv : resVal [ρ 2, u3] = .tuple #[.int .i64 s.t_2, u3] := by rw [h2]; rfl
    exact ⟨F', u3, hv, hW, k3⟩
end
end digest_Of

namespace objects_check
section
abbrev c1 (ρ : Env) (g1 : Nat) (w0 w : World) (F : BSet) (s : S) (X : Prop) : Prop := ρ 1 = .pointer (some ⟨g1, 0, none⟩) ∧ Box k_Object 48 (Bs w0 nrow) F w g1 s.o_1 ∧ X
abbrev c2 (ρ : Env) (g2 : Nat) (w0 w : World) (F : BSet) (s : S) (X : Prop) : Prop := ρ 2 = .pointer (some ⟨g2, 0, none⟩) ∧ Box k_Fault 32 (Bs w0 nrow) F w g2 s.t_2 ∧ X
abbrev e7 (F : BSet) (w : World) (ρ : Env) (s : S) : Prop := SlR (kInt .i64) F w (ρ 39) s.t_39 ∧ ρ 40 = .int .i64 s.t_40 ∧ ρ 41 = .int .i64 s.t_41
def G0 : GT S := fun w0 F0 s ρ w => ∃ F, Wk nrow w0 F0 F w ∧ Val k_Object F w (ρ 0) s.o_0
def G1 : GT S := fun w0 F0 s ρ w => ∃ F, Wk nrow w0 F0 F w ∧ ∃ g1 g2, c1 ρ g1 w0 w F s (ρ 2 = .pointer (some ⟨g2, 0, none⟩) ∧ Box k_Fault 32 (Bs w0 nrow) F w g2 s.t_2)
def G2 : GT S := fun w0 F0 s ρ w => ∃ F, Wk nrow w0 F0 F w ∧ ∃ g1 g2, c1 ρ g1 w0 w F s (c2 ρ g2 w0 w F s (ρ 5 = .bool s.t_5))
def G3 : GT S := fun w0 F0 s ρ w => ∃ F, Wk nrow w0 F0 F w ∧ ∃ g2, ρ 2 = .pointer (some ⟨g2, 0, none⟩) ∧ Box k_Fault 32 (Bs w0 nrow) F w g2 s.t_2
def G4 : GT S := fun w0 F0 s ρ w => ∃ F, Wk nrow w0 F0 F w ∧ ∃ g1 g2, c1 ρ g1 w0 w F s (c2 ρ g2 w0 w F s (ρ 15 = .bool s.t_15))
def G5 : GT S := fun w0 F0 s ρ w => ∃ F, Wk nrow w0 F0 F w ∧ ∃ g1 g2, c1 ρ g1 w0 w F s (c2 ρ g2 w0 w F s (ρ 21 = .bool s.t_21))
def G6 : GT S := fun w0 F0 s ρ w => ∃ F, Wk nrow w0 F0 F w ∧ ∃ g1 g2, c1 ρ g1 w0 w F s (c2 ρ g2 w0 w F s (ρ 27 = .bool s.t_27))
def G7 : GT S := fun w0 F0 s ρ w => ∃ F, Wk nrow w0 F0 F w ∧ ∃ g2, c2 ρ g2 w0 w F s (e7 F w ρ s)
def G8 : GT S := fun w0 F0 s ρ w => ∃ F, Wk nrow w0 F0 F w ∧ ∃ g2, c2 ρ g2 w0 w F s (SlR (kInt .i64) F w (ρ 39) s.t_39 ∧ ρ 40 = .int .i64 s.t_40 ∧ ρ 41 = .int .i64 s.t_41 ∧ ρ 42 = .bool s.t_42)
def G9 : GT S := fun w0 F0 s ρ w => ∃ F, Wk nrow w0 F0 F w ∧ ∃ g2, c2 ρ g2 w0 w F s (ρ 3 = .int .i64 s.i_3 ∧ ρ 4 = .int .i64 s.d_4 ∧ e7 F w ρ s)
def G10 : GT S := fun w0 F0 s ρ w => ∃ F, Wk nrow w0 F0 F w ∧ ∃ g2, c2 ρ g2 w0 w F s (ρ 3 = .int .i64 s.i_3 ∧ SlR (kInt .i64) F w (ρ 39) s.t_39 ∧ ρ 40 = .int .i64 s.t_40 ∧ ρ 41 = .int .i64 s.t_41 ∧ ρ 51 = .bool s.t_51)
def G11 : GT S := fun w0 F0 s ρ w => ∃ F, Wk nrow w0 F0 F w ∧ ∃ g2, c2 ρ g2 w0 w F s (ρ 3 = .int .i64 s.i_3)
set_option maxHeartbeats 4000000 in
set_option maxRecDepth 20000 in
theorem ref (w0 : World) (F0 : BSet) : ∃ c, Tryd.f64.body = some c ∧ Ref Tryd.prog 56 c (G0 w0 F0) body (fun _ _ _ => False) (fun _ _ _ _ => False) (fun r ρ w => ∃ s, retv s = r ∧ G3 w0 F0 s ρ w) := by
  refine ⟨_, rfl, ?_⟩; unfold body; refine Ref.seq (B := G1 w0 F0) ?_ ?_
  · refine Ref.region (fun s ρ w s' h hr => ?_); obtain ⟨F, hW, h0⟩ := h; refine ol_e (f_box hW rfl h0) rfl rfl ?_; rintro _ w7 ⟨g6, rfl, kw1, ho8⟩; have hW9 := hW.trans kw1; have st1 := kw1.stp hW.ok; refine ol_e (f_alloc zer_32 hW9) rfl rfl ?_; rintro _ w11 ⟨g10, rfl, kw2, ho12⟩; have hW13 := hW9.trans kw2; have st2 := kw2.stp hW9.ok; exact ol_fin hr ⟨F, hW13, g6, g10, rfl, ((ho8.base (row := nrow) hW.le).wk kw2 hW9.ok), rfl, (ho12.base (row := nrow) hW9.le)⟩
  refine Ref.seq (B := G1 w0 F0) ?_ ?_
  · refine Ref.block ?_; refine Ref.seq (B := G2 w0 F0) ?_ ?_
    · refine Ref.region (fun s ρ w s' h hr => ?_); obtain ⟨F, hW, g1, g2, p1, h1, p2, h2⟩ := h; refine ol_v (e_fa fa_48_0 p1) rfl ?_; refine ol_v (e_ld ty_3 (LiesV.int ((h1).at_.fld fl_Object_0)) rfl) rfl ?_; refine ol_v (e_lss rfl rfl) rfl ?_; refine ol_cutA 5 9 13 (fun ρ' w' => w = w' ∧ ρ' 13 = .bool ((decide (s.o_1.Kind < (1 : Int))) || (decide ((3 : Int) < s.o_1.Kind)))) rfl ?_ ?_
      · by_cases hb14 : (decide (s.o_1.Kind < (1 : Int))) = true
        · refine ol_m rfl ?_; refine ol_not rfl rfl rfl (congrArg Value.bool hb14) rfl ?_; refine ol_not rfl rfl rfl (congrArg Value.bool hb14) rfl ?_; refine ol_not rfl rfl rfl (congrArg Value.bool hb14) rfl ?_; refine ol_v (e_pick true _ (congrArg Value.bool hb14) rfl) rfl ?_; exact ol_nil ⟨⟨rfl, (bv_or_t hb14)⟩, (Agr.refl _ _ _).u.u.u.u.u⟩
        · have hb15 := Bool.eq_false_iff.mpr hb14; refine ol_m rfl ?_; refine ol_yes rfl rfl (congrArg Value.bool hb15) ?_; refine ol_v (e_fa fa_48_0 p1) rfl ?_; refine ol_yes rfl rfl (congrArg Value.bool hb15) ?_; refine ol_v (e_ld ty_3 (LiesV.int ((h1).at_.fld fl_Object_0)) rfl) rfl ?_; refine ol_yes rfl rfl (congrArg Value.bool hb15) ?_; refine ol_v (e_gtr rfl rfl) rfl ?_; refine ol_v (e_pick false _ (congrArg Value.bool hb15) rfl) rfl ?_; exact ol_nil ⟨⟨rfl, (bv_or_f hb15)⟩, (Agr.refl _ _ _).u.u.u.u.u⟩
      rintro ρ16 _ ⟨⟨rfl, hp16⟩, hAg16⟩; refine ol_a hp16 ?_; exact ol_fin hr ⟨F, hW, g1, g2, ((hAg16 1 rfl).trans p1), h1, ((hAg16 2 rfl).trans p2), h2, rfl⟩
    refine Ref.condP (b := fun s => s.t_5) (L := G3 w0 F0) (K := G1 w0 F0) ?_ ?_ ?_
    · rintro s ρ w ⟨F, hW, g1, g2, p1, h1, p2, h2, h5⟩; exact ⟨h5, ⟨F, hW, g2, p2, h2⟩, F, hW, g1, g2, p1, h1, p2, h2⟩
    · refine Ref.seq (B := G3 w0 F0) ?_ ?_
      · refine Ref.region (fun s ρ w s' h hr => ?_); obtain ⟨F, hW, g2, p2, h2⟩ := h; refine ol_v (e_bld (cells := #[.int .i64 (4), .int .i64 0]) bld_32 (vs := [(0, .int .i64 (4))]) (lcons (congrArg (Prod.mk 0) rfl) rfl) rfl) rfl ?_; have hb17 : Val k_Fault F w (.agg #[.int .i64 (4), .int .i64 0]) (⟨(4 : Int), (0 : Int)⟩ : Fault) := mk_Fault (val_int _ _) (val_int _ _); refine ol_eN (f_stB hW h2 (FldS.whole _) ty_32 hb17 p2 rfl) rfl ?_; rintro - w18 ⟨hW19, ho20, hg1, st1⟩; exact ol_fin hr ⟨F, hW19, g2, p2, ho20⟩
      exact Ref.ret (fun s ρ w h => ⟨s, rfl, h⟩)
    · refine Ref.seq (B := G4 w0 F0) ?_ ?_
      · refine Ref.region (fun s ρ w s' h hr => ?_); obtain ⟨F, hW, g1, g2, p1, h1, p2, h2⟩ := h; refine ol_v (e_fa fa_48_1 p1) rfl ?_; obtain ⟨v22, hl23, hs24⟩ := LiesV.sl ((h1).at_.fld fl_Object_1); refine ol_v (e_ld ty_30 hl23 rfl) rfl ?_; obtain ⟨A25, c26, e27, hc28, R29⟩ := id hs24; refine ol_v (e_len (SlT.sl sl_30) e27) rfl ?_; refine ol_v (e_gtr rfl rfl) rfl ?_; refine ol_a rfl ?_; exact ol_fin hr ⟨F, hW, g1, g2, p1, h1, p2, h2, rfl⟩
      refine Ref.condP (b := fun s => s.t_15) (L := G3 w0 F0) (K := G1 w0 F0) ?_ ?_ ?_
      · rintro s ρ w ⟨F, hW, g1, g2, p1, h1, p2, h2, h15⟩; exact ⟨h15, ⟨F, hW, g2, p2, h2⟩, F, hW, g1, g2, p1, h1, p2, h2⟩
      · refine Ref.seq (B := G3 w0 F0) ?_ ?_
        · refine Ref.region (fun s ρ w s' h hr => ?_); obtain ⟨F, hW, g2, p2, h2⟩ := h; refine ol_v (e_bld (cells := #[.int .i64 (2), .int .i64 0]) bld_32 (vs := [(0, .int .i64 (2))]) (lcons (congrArg (Prod.mk 0) rfl) rfl) rfl) rfl ?_; have hb30 : Val k_Fault F w (.agg #[.int .i64 (2), .int .i64 0]) (⟨(2 : Int), (0 : Int)⟩ : Fault) := mk_Fault (val_int _ _) (val_int _ _); refine ol_eN (f_stB hW h2 (FldS.whole _) ty_32 hb30 p2 rfl) rfl ?_; rintro - w31 ⟨hW32, ho33, hg1, st1⟩; exact ol_fin hr ⟨F, hW32, g2, p2, ho33⟩
        exact Ref.ret (fun s ρ w h => ⟨s, rfl, h⟩)
      · refine Ref.seq (B := G5 w0 F0) ?_ ?_
        · refine Ref.region (fun s ρ w s' h hr => ?_); obtain ⟨F, hW, g1, g2, p1, h1, p2, h2⟩ := h; refine ol_v (e_fa fa_48_2 p1) rfl ?_; obtain ⟨v34, hl35, hs36⟩ := LiesV.sl ((h1).at_.fld fl_Object_2); refine ol_v (e_ld ty_46 hl35 rfl) rfl ?_; obtain ⟨A37, c38, e39, hc40, R41⟩ := id hs36; refine ol_v (e_len (SlT.sl sl_46) e39) rfl ?_; refine ol_v (e_gtr rfl rfl) rfl ?_; refine ol_a rfl ?_; exact ol_fin hr ⟨F, hW, g1, g2, p1, h1, p2, h2, rfl⟩
        refine Ref.condP (b := fun s => s.t_21) (L := G3 w0 F0) (K := G1 w0 F0) ?_ ?_ ?_
        · rintro s ρ w ⟨F, hW, g1, g2, p1, h1, p2, h2, h21⟩; exact ⟨h21, ⟨F, hW, g2, p2, h2⟩, F, hW, g1, g2, p1, h1, p2, h2⟩
        · refine Ref.seq (B := G3 w0 F0) ?_ ?_
          · refine Ref.region (fun s ρ w s' h hr => ?_); obtain ⟨F, hW, g2, p2, h2⟩ := h; refine ol_v (e_bld (cells := #[.int .i64 (10), .int .i64 0]) bld_32 (vs := [(0, .int .i64 (10))]) (lcons (congrArg (Prod.mk 0) rfl) rfl) rfl) rfl ?_; have hb42 : Val k_Fault F w (.agg #[.int .i64 (10), .int .i64 0]) (⟨(10 : Int), (0 : Int)⟩ : Fault) := mk_Fault (val_int _ _) (val_int _ _); refine ol_eN (f_stB hW h2 (FldS.whole _) ty_32 hb42 p2 rfl) rfl ?_; rintro - w43 ⟨hW44, ho45, hg1, st1⟩; exact ol_fin hr ⟨F, hW44, g2, p2, ho45⟩
          exact Ref.ret (fun s ρ w h => ⟨s, rfl, h⟩)
        · refine Ref.seq (B := G6 w0 F0) ?_ ?_
          · refine Ref.region (fun s ρ w s' h hr => ?_); obtain ⟨F, hW, g1, g2, p1, h1, p2, h2⟩ := h; refine ol_v (e_fa fa_48_0 p1) rfl ?_; refine ol_v (e_ld ty_3 (LiesV.int ((h1).at_.fld fl_Object_0)) rfl) rfl ?_; refine ol_v (e_eql rfl rfl) rfl ?_; refine ol_cutA 6 31 36 (fun ρ' w' => w = w' ∧ ρ' 36 = .bool ((decide (s.o_1.Kind = (1 : Int))) && (decide ((0 : Int) < (s.o_1.Links.length : Int))))) rfl ?_ ?_
            · by_cases hb46 : (decide (s.o_1.Kind = (1 : Int))) = true
              · refine ol_m rfl ?_; refine ol_yes rfl rfl (congrArg Value.bool hb46) ?_; refine ol_v (e_fa fa_48_1 p1) rfl ?_; refine ol_yes rfl rfl (congrArg Value.bool hb46) ?_; obtain ⟨v48, hl49, hs50⟩ := LiesV.sl ((h1).at_.fld fl_Object_1); refine ol_v (e_ld ty_30 hl49 rfl) rfl ?_; refine ol_yes rfl rfl (congrArg Value.bool hb46) ?_; obtain ⟨A51, c52, e53, hc54, R55⟩ := id hs50; refine ol_v (e_len (SlT.sl sl_30) e53) rfl ?_; refine ol_yes rfl rfl (congrArg Value.bool hb46) ?_; refine ol_v (e_gtr rfl rfl) rfl ?_; refine ol_v (e_pick true _ (congrArg Value.bool hb46) rfl) rfl ?_; exact ol_nil ⟨⟨rfl, (bv_and_t hb46)⟩, (Agr.refl _ _ _).u.u.u.u.u.u⟩
              · have hb47 := Bool.eq_false_iff.mpr hb46; refine ol_m rfl ?_; refine ol_not rfl rfl rfl (congrArg Value.bool hb47) rfl ?_; refine ol_not rfl rfl rfl (congrArg Value.bool hb47) rfl ?_; refine ol_not rfl rfl rfl (congrArg Value.bool hb47) rfl ?_; refine ol_not rfl rfl rfl (congrArg Value.bool hb47) rfl ?_; refine ol_v (e_pick false _ (congrArg Value.bool hb47) rfl) rfl ?_; exact ol_nil ⟨⟨rfl, (bv_and_f hb47)⟩, (Agr.refl _ _ _).u.u.u.u.u.u⟩
            rintro ρ56 _ ⟨⟨rfl, hp56⟩, hAg56⟩; refine ol_a hp56 ?_; exact ol_fin hr ⟨F, hW, g1, g2, ((hAg56 1 rfl).trans p1), h1, ((hAg56 2 rfl).trans p2), h2, rfl⟩
          refine Ref.condP (b := fun s => s.t_27) (L := G3 w0 F0) (K := G1 w0 F0) ?_ ?_ ?_
          · rintro s ρ w ⟨F, hW, g1, g2, p1, h1, p2, h2, h27⟩; exact ⟨h27, ⟨F, hW, g2, p2, h2⟩, F, hW, g1, g2, p1, h1, p2, h2⟩
          · refine Ref.seq (B := G3 w0 F0) ?_ ?_
            · refine Ref.region (fun s ρ w s' h hr => ?_); obtain ⟨F, hW, g2, p2, h2⟩ := h; refine ol_v (e_bld (cells := #[.int .i64 (5), .int .i64 0]) bld_32 (vs := [(0, .int .i64 (5))]) (lcons (congrArg (Prod.mk 0) rfl) rfl) rfl) rfl ?_; have hb57 : Val k_Fault F w (.agg #[.int .i64 (5), .int .i64 0]) (⟨(5 : Int), (0 : Int)⟩ : Fault) := mk_Fault (val_int _ _) (val_int _ _); refine ol_eN (f_stB hW h2 (FldS.whole _) ty_32 hb57 p2 rfl) rfl ?_; rintro - w58 ⟨hW59, ho60, hg1, st1⟩; exact ol_fin hr ⟨F, hW59, g2, p2, ho60⟩
            exact Ref.ret (fun s ρ w h => ⟨s, rfl, h⟩)
          · exact Ref.skip
  refine Ref.seq (B := G3 w0 F0) ?_ ?_
  · refine Ref.seq (B := G7 w0 F0) ?_ ?_
    · refine Ref.region (fun s ρ w s' h hr => ?_); obtain ⟨F, hW, g1, g2, p1, h1, p2, h2⟩ := h; refine ol_v (e_fa fa_48_1 p1) rfl ?_; obtain ⟨v61, hl62, hs63⟩ := LiesV.sl ((h1).at_.fld fl_Object_1); refine ol_v (e_ld ty_30 hl62 rfl) rfl ?_; obtain ⟨A64, c65, e66, hc67, R68⟩ := id hs63; refine ol_v (e_len (SlT.sl sl_30) e66) rfl ?_; refine ol_m rfl ?_; exact ol_fin hr ⟨F, hW, g2, p2, h2, hs63, rfl, rfl⟩
    refine Ref.block ?_; refine Ref.loop ?_; refine Ref.seq (B := G8 w0 F0) ?_ ?_
    · refine Ref.region (fun s ρ w s' h hr => ?_); obtain ⟨F, hW, g2, p2, h2, h39, h40, h41⟩ := h; refine ol_v (e_lss h41 h40) rfl ?_; exact ol_fin hr ⟨F, hW, g2, p2, h2, h39, h40, h41, rfl⟩
    refine Ref.seq (B := G7 w0 F0) ?_ ?_
    · refine Ref.condP (b := fun s => s.t_42) (L := G7 w0 F0) (K := G3 w0 F0) ?_ ?_ ?_
      · rintro s ρ w ⟨F, hW, g2, p2, h2, h39, h40, h41, h42⟩; exact ⟨h42, ⟨F, hW, g2, p2, h2, h39, h40, h41⟩, F, hW, g2, p2, h2⟩
      · exact Ref.skip
      · exact Ref.exit (fun s ρ w h => h)
    refine Ref.seq (B := G7 w0 F0) ?_ ?_
    · refine Ref.block ?_; refine Ref.seq (B := G9 w0 F0) ?_ ?_
      · refine Ref.region (fun s ρ w s' h hr => ?_); obtain ⟨F, hW, g2, p2, h2, h39, h40, h41⟩ := h; refine ol_m h41 ?_; obtain ⟨x69, hx69, hr⟩ := bind_some' hr; obtain ⟨A70, c71, e72, hc73, R74⟩ := id h39; obtain ⟨b75, o76, hA77, L78⟩ := Row.at_ R74 hx69; refine ol_v (e_ix (SlT.sl sl_30) (SlT.sz sl_30) hA77 hx69 e72 h41) rfl ?_; refine ol_v (e_ld ty_3 (LiesV.int L78.at_) rfl) rfl ?_; refine ol_a rfl ?_; refine ol_a rfl ?_; exact ol_fin hr ⟨F, hW, g2, p2, h2, rfl, rfl, h39, h40, h41⟩
      refine Ref.seq (B := G10 w0 F0) ?_ ?_
      · refine Ref.region (fun s ρ w s' h hr => ?_); obtain ⟨F, hW, g2, p2, h2, h3, h4, h39, h40, h41⟩ := h; refine ol_m h4 ?_; refine ol_v (e_lss rfl rfl) rfl ?_; refine ol_cutA 4 48 51 (fun ρ' w' => w = w' ∧ ρ' 51 = .bool ((decide (s.d_4 < (0 : Int))) || (decide ((2305843009213693951 : Int) ≤ s.d_4)))) rfl ?_ ?_
        · by_cases hb79 : (decide (s.d_4 < (0 : Int))) = true
          · refine ol_m rfl ?_; refine ol_not rfl rfl rfl (congrArg Value.bool hb79) rfl ?_; refine ol_not rfl rfl rfl (congrArg Value.bool hb79) rfl ?_; refine ol_v (e_pick true _ (congrArg Value.bool hb79) rfl) rfl ?_; exact ol_nil ⟨⟨rfl, (bv_or_t hb79)⟩, (Agr.refl _ _ _).u.u.u.u⟩
          · have hb80 := Bool.eq_false_iff.mpr hb79; refine ol_m rfl ?_; refine ol_yes rfl rfl (congrArg Value.bool hb80) ?_; refine ol_m h4 ?_; refine ol_yes rfl rfl (congrArg Value.bool hb80) ?_; refine ol_v (e_geq rfl rfl) rfl ?_; refine ol_v (e_pick false _ (congrArg Value.bool hb80) rfl) rfl ?_; exact ol_nil ⟨⟨rfl, (bv_or_f hb80)⟩, (Agr.refl _ _ _).u.u.u.u⟩
        rintro ρ81 _ ⟨⟨rfl, hp81⟩, hAg81⟩; exact ol_fin hr ⟨F, hW, g2, ((hAg81 2 rfl).trans p2), h2, ((hAg81 3 rfl).trans h3), (SlR.eqv (hAg81 39 rfl) h39), ((hAg81 40 rfl).trans h40), ((hAg81 41 rfl).trans h41), hp81⟩
      refine Ref.condP (b := fun s => s.t_51) (L := G11 w0 F0) (K := G7 w0 F0) ?_ ?_ ?_
      · rintro s ρ w ⟨F, hW, g2, p2, h2, h3, h39, h40, h41, h51⟩; exact ⟨h51, ⟨F, hW, g2, p2, h2, h3⟩, F, hW, g2, p2, h2, h39, h40, h41⟩
      · refine Ref.seq (B := G3 w0 F0) ?_ ?_
        · refine Ref.region (fun s ρ w s' h hr => ?_); obtain ⟨F, hW, g2, p2, h2, h3⟩ := h; refine ol_m h3 ?_; refine ol_v (e_bld (cells := #[.int .i64 (3), .int .i64 s.i_3]) bld_32 (vs := [(0, .int .i64 (3)), (1, .int .i64 s.i_3)]) (lcons (congrArg (Prod.mk 0) rfl) (lcons (congrArg (Prod.mk 1) rfl) rfl)) rfl) rfl ?_; have hb82 : Val k_Fault F w (.agg #[.int .i64 (3), .int .i64 s.i_3]) (⟨(3 : Int), s.i_3⟩ : Fault) := mk_Fault (val_int _ _) (val_int _ _); refine ol_eN (f_stB hW h2 (FldS.whole _) ty_32 hb82 p2 rfl) rfl ?_; rintro - w83 ⟨hW84, ho85, hg1, st1⟩; exact ol_fin hr ⟨F, hW84, g2, p2, ho85⟩
        exact Ref.ret (fun s ρ w h => ⟨s, rfl, h⟩)
      · exact Ref.skip
    refine Ref.region (fun s ρ w s' h hr => ?_); obtain ⟨F, hW, g2, p2, h2, h39, h40, h41⟩ := h; refine ol_v (e_add h41 rfl) rfl ?_; refine ol_m rfl ?_; exact ol_fin hr ⟨F, hW, g2, p2, h2, h39, h40, rfl⟩
  refine Ref.seq (B := G3 w0 F0) ?_ ?_
  · refine Ref.region (fun s ρ w s' h hr => ?_); obtain ⟨F, hW, g2, p2, h2⟩ := h; refine ol_v (e_bld (cells := #[.int .i64 0, .int .i64 0]) bld_32 (vs := []) rfl rfl) rfl ?_; have hb86 : Val k_Fault F w (.agg #[.int .i64 0, .int .i64 0]) (⟨(0 : Int), (0 : Int)⟩ : Fault) := mk_Fault (val_int _ _) (val_int _ _); refine ol_eN (f_stB hW h2 (FldS.whole _) ty_32 hb86 p2 rfl) rfl ?_; rintro - w87 ⟨hW88, ho89, hg1, st1⟩; exact ol_fin hr ⟨F, hW88, g2, p2, ho89⟩
  exact Ref.ret (fun s ρ w h => ⟨s, rfl, h⟩)
def post (w : World) (F : BSet) (r : R) (v : Value) (w' : World) : Prop := ∃ (F' : BSet) (v0' : Value), v = v0' ∧ Wk nrow w F F' w' ∧ Val k_Fault F' w' v0' r
theorem calls {w : World} {F : BSet} (hok : ∀ b, F b → b < w.heap.size) {v0 : Value} {a0 : Object} (h0 : Val k_Object F w v0 a0) {r : R} (hf : f a0 = some r) : Calls Tryd.prog 64 #[v0] w fun e w' => ∃ v, e = .returned v ∧ post w F r v w' := by
  obtain ⟨c, hc, href⟩ := ref w F; refine calls_of_ref (args := [v0]) _ Tryd.func64 hc rfl rfl href ?_ (retOf_some hf) ?_
  · exact ⟨F, Wk.refl hok, h0⟩
  · rintro ρ w' a ⟨s, rfl, F', hW, g2, p2, h2⟩ hF; obtain ⟨u2, l2, k2⟩ := res_box (P := Tryd.prog) ty_32 h2; refine ⟨_, run_results (rs := [.cell 2 32]) rfl hF (vs := [u2]) (⟨_, _, _, rfl, p2, l2, rfl⟩), ?_⟩; exact ⟨F', u2, rfl, hW, k2⟩
end
end objects_check

namespace objects_Digest
section
abbrev c1 (ρ : Env) (g1 : Nat) (w0 w : World) (F : BSet) (s : S) (X : Prop) : Prop := ρ 1 = .pointer (some ⟨g1, 0, none⟩) ∧ Box k_Object 48 (Bs w0 nrow) F w g1 s.o_1 ∧ X
abbrev c2 (ρ : Env) (g3 : Nat) (w0 w : World) (F : BSet) (s : S) (X : Prop) : Prop := ρ 3 = .pointer (some ⟨g3, 0, none⟩) ∧ Box k_Fault 32 (Bs w0 nrow) F w g3 s.t_3 ∧ X
abbrev c3 (ρ : Env) (g4 : Nat) (w0 w : World) (F : BSet) (s : S) (X : Prop) : Prop := ρ 4 = .pointer (some ⟨g4, 0, none⟩) ∧ Box k_Fault 32 (Bs w0 nrow) F w g4 s.f_4 ∧ X
abbrev c7 (w0 w : World) (F : BSet) (ρ : Env) (s : S) (X : Prop) : Prop := OwnV kByte 5 (Bs w0 nrow) F w (ρ 5) s.b_5 ∧ X
abbrev e8 (F : BSet) (w : World) (ρ : Env) (s : S) : Prop := SlR (kInt .i64) F w (ρ 24) s.t_24 ∧ ρ 25 = .int .i64 s.t_25 ∧ ρ 26 = .int .i64 s.t_26
def G0 : GT S := fun w0 F0 s ρ w => ∃ F, Wk nrow w0 F0 F w ∧ Val k_Object F w (ρ 0) s.o_0
def G1 : GT S := fun w0 F0 s ρ w => ∃ F, Wk nrow w0 F0 F w ∧ ∃ g1 g3, c1 ρ g1 w0 w F s (ρ 3 = .pointer (some ⟨g3, 0, none⟩) ∧ Box k_Fault 32 (Bs w0 nrow) F w g3 s.t_3)
def G2 : GT S := fun w0 F0 s ρ w => ∃ F, Wk nrow w0 F0 F w ∧ ∃ g1 g3 g4, c1 ρ g1 w0 w F s (c2 ρ g3 w0 w F s (c3 ρ g4 w0 w F s (Apart (some g3) (some g4))))
def G3 : GT S := fun w0 F0 s ρ w => ∃ F, Wk nrow w0 F0 F w ∧ ∃ g1 g3 g4, c1 ρ g1 w0 w F s (c2 ρ g3 w0 w F s (c3 ρ g4 w0 w F s (ρ 13 = .bool s.t_13 ∧ Apart (some g3) (some g4))))
def G4 : GT S := fun w0 F0 s ρ w => ∃ F, Wk nrow w0 F0 F w ∧ ∃ g3 g4, c2 ρ g3 w0 w F s (c3 ρ g4 w0 w F s (Apart (some g3) (some g4)))
def G5 : GT S := fun w0 F0 s ρ w => ∃ F, Wk nrow w0 F0 F w ∧ ∃ g3, ρ 2 = .int .i64 s.t_2 ∧ ρ 3 = .pointer (some ⟨g3, 0, none⟩) ∧ Box k_Fault 32 (Bs w0 nrow) F w g3 s.t_3
def G6 : GT S := fun w0 F0 s ρ w => ∃ F, Wk nrow w0 F0 F w ∧ ∃ g1 g3, c1 ρ g1 w0 w F s (c2 ρ g3 w0 w F s (OwnV kByte 5 (Bs w0 nrow) F w (ρ 5) s.b_5))
def G7 : GT S := fun w0 F0 s ρ w => ∃ F, Wk nrow w0 F0 F w ∧ ∃ g1 g3, c1 ρ g1 w0 w F s (c2 ρ g3 w0 w F s (c7 w0 w F ρ s (e8 F w ρ s)))
def G8 : GT S := fun w0 F0 s ρ w => ∃ F, Wk nrow w0 F0 F w ∧ ∃ g1 g3, c1 ρ g1 w0 w F s (c2 ρ g3 w0 w F s (c7 w0 w F ρ s (SlR (kInt .i64) F w (ρ 24) s.t_24 ∧ ρ 25 = .int .i64 s.t_25 ∧ ρ 26 = .int .i64 s.t_26 ∧ ρ 27 = .bool s.t_27)))
def G9 : GT S := fun w0 F0 s ρ w => ∃ F, Wk nrow w0 F0 F w ∧ ∃ g1 g3, c1 ρ g1 w0 w F s (c2 ρ g3 w0 w F s (c7 w0 w F ρ s (ρ 7 = .int .i64 s.d_7 ∧ e8 F w ρ s)))
def G10 : GT S := fun w0 F0 s ρ w => ∃ F, Wk nrow w0 F0 F w ∧ ∃ g1 g3, c1 ρ g1 w0 w F s (c2 ρ g3 w0 w F s (c7 w0 w F ρ s (ρ 7 = .int .i64 s.d_7 ∧ ρ 8 = .int .i64 s.s_8 ∧ e8 F w ρ s)))
def G11 : GT S := fun w0 F0 s ρ w => ∃ F, Wk nrow w0 F0 F w ∧ ∃ g1 g3, c1 ρ g1 w0 w F s (c2 ρ g3 w0 w F s (c7 w0 w F ρ s (ρ 7 = .int .i64 s.d_7 ∧ ρ 8 = .int .i64 s.s_8 ∧ SlR (kInt .i64) F w (ρ 24) s.t_24 ∧ ρ 25 = .int .i64 s.t_25 ∧ ρ 26 = .int .i64 s.t_26 ∧ ρ 31 = .bool s.t_31)))
set_option maxHeartbeats 4000000 in
set_option maxRecDepth 20000 in
theorem ref (w0 : World) (F0 : BSet) : ∃ c, Tryd.f42.body = some c ∧ Ref Tryd.prog 49 c (G0 w0 F0) body (fun _ _ _ => False) (fun _ _ _ _ => False) (fun r ρ w => ∃ s, retv s = r ∧ G5 w0 F0 s ρ w) := by
  refine ⟨_, rfl, ?_⟩; unfold body; refine Ref.seq (B := G1 w0 F0) ?_ ?_
  · refine Ref.region (fun s ρ w s' h hr => ?_); obtain ⟨F, hW, h0⟩ := h; refine ol_e (f_box hW rfl h0) rfl rfl ?_; rintro _ w7 ⟨g6, rfl, kw1, ho8⟩; have hW9 := hW.trans kw1; have st1 := kw1.stp hW.ok; refine ol_a rfl ?_; refine ol_e (f_alloc zer_32 hW9) rfl rfl ?_; rintro _ w11 ⟨g10, rfl, kw2, ho12⟩; have hW13 := hW9.trans kw2; have st2 := kw2.stp hW9.ok; exact ol_fin hr ⟨F, hW13, g6, g10, rfl, ((ho8.base (row := nrow) hW.le).wk kw2 hW9.ok), rfl, (ho12.base (row := nrow) hW9.le)⟩
  refine Ref.seq (B := G1 w0 F0) ?_ ?_
  · refine Ref.seq (B := G2 w0 F0) ?_ ?_
    · refine Ref.region (fun s ρ w s' h hr => ?_); obtain ⟨F, hW, g1, g3, p1, h1, p3, h3⟩ := h; obtain ⟨v14, hl15⟩ := LiesAt.v (h1).at_; refine ol_v (e_ld ty_48 hl15 p1) rfl ?_; obtain ⟨x16, hx16, hr⟩ := bind_some' hr; refine ol_e (f_call [v14] fn_64 (lcons rfl rfl) (objects_check.calls hW.ok hl15.val hx16)) rfl rfl ?_; rintro v19 w17 ⟨Fz18, _, rfl, kw1, hk20⟩; have hW22 := hW.trans kw1; have st1 := kw1.stp hW.ok; refine ol_e (f_alloc zer_32 hW22) rfl rfl ?_; rintro _ w24 ⟨g23, rfl, kw2, ho25⟩; have hW26 := hW22.trans kw2; have st2 := kw2.stp hW22.ok; refine ol_eN (f_stB hW26 (ho25.base (row := nrow) hW22.le) (FldS.whole _) ty_32 (hk20.keep st2) rfl rfl) rfl ?_; rintro - w27 ⟨hW28, ho29, hg3, st3⟩; have z1 := (h1.wk kw1 hW.ok).wk kw2 hW22.ok; have z2 := h3.wk kw1 hW.ok; exact ol_fin hr ⟨Fz18, hW28, g1, g3, g23, p1, (z1.mut (apart_bb (ho25.base (row := nrow) hW22.le) z1 rfl) hg3 st3), p3, ((z2.wk kw2 hW22.ok).mut (Apart.base (fun _ e_ => by cases e_; exact ho25.ge) z2.ltw) hg3 st3), rfl, ho29, (Apart.base (fun _ e_ => by cases e_; exact ho25.ge) z2.ltw).symm⟩
    refine Ref.seq (B := G3 w0 F0) ?_ ?_
    · refine Ref.region (fun s ρ w s' h hr => ?_); obtain ⟨F, hW, g1, g3, g4, p1, h1, p3, h3, p4, h4, a3b_4b⟩ := h; obtain ⟨v30, hl31⟩ := LiesAt.v (h4).at_; refine ol_v (e_ld ty_32 hl31 p4) rfl ?_; refine ol_v (e_bld (cells := #[.int .i64 0, .int .i64 0]) bld_32 (vs := []) rfl rfl) rfl ?_; have hb32 : Val k_Fault F w (.agg #[.int .i64 0, .int .i64 0]) (⟨(0 : Int), (0 : Int)⟩ : Fault) := mk_Fault (val_int _ _) (val_int _ _); refine ol_v (e_tneq (eq_Fault_32 hl31.val hb32) rfl rfl) rfl ?_; exact ol_fin hr ⟨F, hW, g1, g3, g4, p1, h1, p3, h3, p4, h4, rfl, a3b_4b⟩
    refine Ref.condP (b := fun s => s.t_13) (L := G4 w0 F0) (K := G1 w0 F0) ?_ ?_ ?_
    · rintro s ρ w ⟨F, hW, g1, g3, g4, p1, h1, p3, h3, p4, h4, h13, a3b_4b⟩; exact ⟨h13, ⟨F, hW, g3, g4, p3, h3, p4, h4, a3b_4b⟩, F, hW, g1, g3, p1, h1, p3, h3⟩
    · refine Ref.seq (B := G5 w0 F0) ?_ ?_
      · refine Ref.regionD 2 (by kernel_rfl) (by kernel_rfl) (fun s ρ w ⟨F, hW, g3, g4, p3, h3, p4, h4, a3b_4b⟩ => ⟨F, hW.drewS, g3, g4, p3, h3.wk (Wk.drew (row := nrow) hW.ok) hW.ok, p4, h4.wk (Wk.drew (row := nrow) hW.ok) hW.ok, a3b_4b⟩) (fun s ρ w s' h hr => ?_); obtain ⟨F, hW, g3, g4, p3, h3, p4, h4, a3b_4b⟩ := h; obtain ⟨v33, hl34⟩ := LiesAt.v (h4).at_; refine ol_v (e_ld ty_32 hl34 p4) rfl ?_; refine ol_a rfl ?_; refine ol_eN (f_stB hW h3 (FldS.whole _) ty_32 hl34.val p3 rfl) rfl ?_; rintro - w35 ⟨hW36, ho37, hg1, st1⟩; exact ol_fin hr ⟨F, hW36, g3, rfl, p3, ho37⟩
      exact Ref.ret (fun s ρ w h => ⟨s, rfl, h⟩)
    · exact Ref.skip
  refine Ref.seq (B := G6 w0 F0) ?_ ?_
  · refine Ref.region (fun s ρ w s' h hr => ?_); obtain ⟨F, hW, g1, g3, p1, h1, p3, h3⟩ := h; refine ol_v (e_fa fa_48_0 p1) rfl ?_; refine ol_v (e_ld ty_3 (LiesV.int ((h1).at_.fld fl_Object_0)) rfl) rfl ?_; refine ol_v (e_convB (by kernel_rfl) (by kernel_rfl) rfl) rfl ?_; refine ol_v (e_fa fa_48_1 p1) rfl ?_; obtain ⟨v38, hl39, hs40⟩ := LiesV.sl ((h1).at_.fld fl_Object_1); refine ol_v (e_ld ty_30 hl39 rfl) rfl ?_; obtain ⟨A41, c42, e43, hc44, R45⟩ := id hs40; refine ol_v (e_len (SlT.sl sl_30) e43) rfl ?_; refine ol_v (e_convB (by kernel_rfl) (by kernel_rfl) rfl) rfl ?_; refine ol_e (f_bsl sl_46 hW ([toByte s.o_1.Kind, toByte (s.o_1.Links.length : Int)] : List UInt8) [.int .u8 ((toByte s.o_1.Kind).toNat : Int), .int .u8 ((toByte (s.o_1.Links.length : Int)).toNat : Int)] (by exact ⟨_, _, rfl, (val_byte _), ⟨_, _, rfl, (val_byte _), rfl⟩⟩) rfl (Nat.le_of_ble_eq_true rfl) (lcons (congrArg (Prod.mk 0) rfl) (lcons (congrArg (Prod.mk 1) rfl) rfl))) rfl rfl ?_; rintro v46 w47 ⟨kw1, ho48⟩; have hW49 := hW.trans kw1; have st1 := kw1.stp hW.ok; refine ol_a rfl ?_; exact ol_fin hr ⟨F, hW49, g1, g3, p1, (h1.wk kw1 hW.ok), p3, (h3.wk kw1 hW.ok), (ho48.base (row := nrow) hW.le)⟩
  refine Ref.seq (B := G6 w0 F0) ?_ ?_
  · refine Ref.seq (B := G7 w0 F0) ?_ ?_
    · refine Ref.region (fun s ρ w s' h hr => ?_); obtain ⟨F, hW, g1, g3, p1, h1, p3, h3, h5⟩ := h; refine ol_v (e_fa fa_48_1 p1) rfl ?_; obtain ⟨v50, hl51, hs52⟩ := LiesV.sl ((h1).at_.fld fl_Object_1); refine ol_v (e_ld ty_30 hl51 rfl) rfl ?_; obtain ⟨A53, c54, e55, hc56, R57⟩ := id hs52; refine ol_v (e_len (SlT.sl sl_30) e55) rfl ?_; refine ol_m rfl ?_; exact ol_fin hr ⟨F, hW, g1, g3, p1, h1, p3, h3, h5, hs52, rfl, rfl⟩
    refine Ref.block ?_; refine Ref.loop ?_; refine Ref.seq (B := G8 w0 F0) ?_ ?_
    · refine Ref.region (fun s ρ w s' h hr => ?_); obtain ⟨F, hW, g1, g3, p1, h1, p3, h3, h5, h24, h25, h26⟩ := h; refine ol_v (e_lss h26 h25) rfl ?_; exact ol_fin hr ⟨F, hW, g1, g3, p1, h1, p3, h3, h5, h24, h25, h26, rfl⟩
    refine Ref.seq (B := G7 w0 F0) ?_ ?_
    · refine Ref.condP (b := fun s => s.t_27) (L := G7 w0 F0) (K := G6 w0 F0) ?_ ?_ ?_
      · rintro s ρ w ⟨F, hW, g1, g3, p1, h1, p3, h3, h5, h24, h25, h26, h27⟩; exact ⟨h27, ⟨F, hW, g1, g3, p1, h1, p3, h3, h5, h24, h25, h26⟩, F, hW, g1, g3, p1, h1, p3, h3, h5⟩
      · exact Ref.skip
      · exact Ref.exit (fun s ρ w h => h)
    refine Ref.seq (B := G7 w0 F0) ?_ ?_
    · refine Ref.block ?_; refine Ref.seq (B := G9 w0 F0) ?_ ?_
      · refine Ref.region (fun s ρ w s' h hr => ?_); obtain ⟨F, hW, g1, g3, p1, h1, p3, h3, h5, h24, h25, h26⟩ := h; obtain ⟨x58, hx58, hr⟩ := bind_some' hr; obtain ⟨A59, c60, e61, hc62, R63⟩ := id h24; obtain ⟨b64, o65, hA66, L67⟩ := Row.at_ R63 hx58; refine ol_v (e_ix (SlT.sl sl_30) (SlT.sz sl_30) hA66 hx58 e61 h26) rfl ?_; refine ol_v (e_ld ty_3 (LiesV.int L67.at_) rfl) rfl ?_; refine ol_a rfl ?_; exact ol_fin hr ⟨F, hW, g1, g3, p1, h1, p3, h3, h5, rfl, h24, h25, h26⟩
      refine Ref.seq (B := G10 w0 F0) ?_ ?_
      · refine Ref.region (fun s ρ w s' h hr => ?_); obtain ⟨F, hW, g1, g3, p1, h1, p3, h3, h5, h7, h24, h25, h26⟩ := h; refine ol_a rfl ?_; exact ol_fin hr ⟨F, hW, g1, g3, p1, h1, p3, h3, h5, h7, rfl, h24, h25, h26⟩
      refine Ref.block ?_; refine Ref.loop ?_; refine Ref.seq (B := G10 w0 F0) ?_ ?_
      · refine Ref.seq (B := G11 w0 F0) ?_ ?_
        · refine Ref.region (fun s ρ w s' h hr => ?_); obtain ⟨F, hW, g1, g3, p1, h1, p3, h3, h5, h7, h8, h24, h25, h26⟩ := h; refine ol_m h8 ?_; refine ol_v (e_geq rfl rfl) rfl ?_; exact ol_fin hr ⟨F, hW, g1, g3, p1, h1, p3, h3, h5, h7, h8, h24, h25, h26, rfl⟩
        refine Ref.condP (b := fun s => s.t_31) (L := G10 w0 F0) (K := G7 w0 F0) ?_ ?_ ?_
        · rintro s ρ w ⟨F, hW, g1, g3, p1, h1, p3, h3, h5, h7, h8, h24, h25, h26, h31⟩; exact ⟨h31, ⟨F, hW, g1, g3, p1, h1, p3, h3, h5, h7, h8, h24, h25, h26⟩, F, hW, g1, g3, p1, h1, p3, h3, h5, h24, h25, h26⟩
        · exact Ref.skip
        · exact Ref.exit (fun s ρ w h => h)
      refine Ref.seq (B := G10 w0 F0) ?_ ?_
      · refine Ref.block ?_; refine Ref.region (fun s ρ w s' h hr => ?_); obtain ⟨F, hW, g1, g3, p1, h1, p3, h3, h5, h7, h8, h24, h25, h26⟩ := h; refine ol_m rfl ?_; refine ol_m h7 ?_; refine ol_m h8 ?_; obtain ⟨hc68, hr⟩ := ite_some hr; refine ol_v (e_shrV rfl rfl hc68) rfl ?_; refine ol_v (e_convB (by kernel_rfl) (by kernel_rfl) rfl) rfl ?_; refine ol_e (f_bslF sl_46 hW ([toByte (shrV .i64 s.d_7 s.s_8)] : List UInt8) [.int .u8 ((toByte (shrV .i64 s.d_7 s.s_8)).toNat : Int)] (by exact ⟨_, _, rfl, (val_byte _), rfl⟩) rfl (Nat.le_of_ble_eq_true rfl) (lcons (congrArg (Prod.mk 0) rfl) rfl)) rfl rfl ?_; rintro v69 w70 ⟨Fz72, kw1, ho71⟩; have hW73 := hW.trans kw1; have st1 := kw1.stp hW.ok; obtain ⟨x74, hx74, hr⟩ := bind_some' hr; have z3 := h5.wk kw1 hW.ok; refine ol_e (f_app sl_46 hW73 z3 ho71 hx74 rfl rfl) rfl rfl ?_; rintro v75 w76 ⟨hW77, ho78, hg2, st2, hor79⟩; refine ol_a rfl ?_; exact ol_fin hr ⟨Fz72, hW77, g1, g3, p1, ((h1.wk kw1 hW.ok).mut (apart_bo (h1.wk kw1 hW.ok) z3 rfl).symm hg2 st2), p3, ((h3.wk kw1 hW.ok).mut (apart_bo (h3.wk kw1 hW.ok) z3 rfl).symm hg2 st2), ho78, h7, h8, (h24.keep (st1.trans st2)), h25, h26⟩
      refine Ref.region (fun s ρ w s' h hr => ?_); obtain ⟨F, hW, g1, g3, p1, h1, p3, h3, h5, h7, h8, h24, h25, h26⟩ := h; refine ol_m h8 ?_; refine ol_v (e_sub rfl rfl) rfl ?_; refine ol_a rfl ?_; exact ol_fin hr ⟨F, hW, g1, g3, p1, h1, p3, h3, h5, h7, rfl, h24, h25, h26⟩
    refine Ref.region (fun s ρ w s' h hr => ?_); obtain ⟨F, hW, g1, g3, p1, h1, p3, h3, h5, h24, h25, h26⟩ := h; refine ol_v (e_add h26 rfl) rfl ?_; refine ol_m rfl ?_; exact ol_fin hr ⟨F, hW, g1, g3, p1, h1, p3, h3, h5, h24, h25, rfl⟩
  refine Ref.seq (B := G5 w0 F0) ?_ ?_
  · refine Ref.region (fun s ρ w s' h hr => ?_); obtain ⟨F, hW, g1, g3, p1, h1, p3, h3, h5⟩ := h; refine ol_m rfl ?_; refine ol_v (e_fa fa_48_2 p1) rfl ?_; obtain ⟨v80, hl81, hs82⟩ := LiesV.sl ((h1).at_.fld fl_Object_2); refine ol_v (e_ld ty_46 hl81 rfl) rfl ?_; obtain ⟨x83, hx83, hr⟩ := bind_some' hr; refine ol_e (f_app sl_46 hW h5 hs82 hx83 rfl rfl) rfl rfl ?_; rintro v84 w85 ⟨hW86, ho87, hg1, st1, hor88⟩; obtain ⟨Fl89, okl89, stl89, hFl89, hl89⟩ := OwnV.lent ho87 hW86.ok; obtain ⟨x90, hx90, hr⟩ := bind_some' hr; refine ol_e (f_call [v84] fn_62 (lcons rfl rfl) (digest_Of.calls okl89 hl89 hx90)) rfl rfl ?_; rintro _ w91 ⟨Fz92, v93, rfl, kw2, hk94⟩; have ko96 := kw2; have kw2 := kw2.lend hW86.ok; have hW97 := hW86.trans kw2; have st2 := kw2.stp hW86.ok; refine ol_v (e_ext _ rfl rfl) rfl ?_; refine ol_v (e_ext _ rfl rfl) rfl ?_; refine ol_a rfl ?_; refine ol_eN (f_stB hW97 ((h3.mut (apart_bo h3 h5 rfl).symm hg1 st1).wk kw2 hW86.ok) (FldS.whole _) ty_32 (Val.plain plain_Fault hk94) p3 rfl) rfl ?_; rintro - w98 ⟨hW99, ho100, hg3, st3⟩; exact ol_fin hr ⟨F, hW99, g3, rfl, p3, ho100⟩
  exact Ref.ret (fun s ρ w h => ⟨s, rfl, h⟩)
def post (w : World) (F : BSet) (r : R) (v : Value) (w' : World) : Prop := ∃ (F' : BSet) (v1' : Value), v = .tuple #[.int .i64 r.1, v1'] ∧ Wk nrow w F F' w' ∧ Val k_Fault F' w' v1' r.2
theorem calls {w : World} {F : BSet} (hok : ∀ b, F b → b < w.heap.size) {v0 : Value} {a0 : Object} (h0 : Val k_Object F w v0 a0) {r : R} (hf : f a0 = some r) : Calls Tryd.prog 42 #[v0] w fun e w' => ∃ v, e = .returned v ∧ post w F r v w' := by
  obtain ⟨c, hc, href⟩ := ref w F; refine calls_of_ref (args := [v0]) _ Tryd.func42 hc rfl rfl href ?_ (retOf_some hf) ?_
  · exact ⟨F, Wk.refl hok, h0⟩
  · rintro ρ w' a ⟨s, rfl, F', hW, g3, h2, p3, h3⟩ hF; obtain ⟨u3, l3, k3⟩ := res_box (P := Tryd.prog) ty_32 h3; refine ⟨_, run_results (rs := [.tmp 2, .cell 3 32]) rfl hF (vs := [ρ 2, u3]) (⟨_, rfl, ⟨_, _, _, rfl, p3, l3, rfl⟩⟩), ?_⟩; have hv : resVal [ρ 2, u3] = .tuple #[.int .i64 s.t_2, u3] := by rw [h2]; rfl
    exact ⟨F', u3, hv, hW, k3⟩
end
end objects_Digest

namespace objects_Validate
section
abbrev c1 (ρ : Env) (g1 : Nat) (w0 w : World) (F : BSet) (s : S) (X : Prop) : Prop := ρ 1 = .pointer (some ⟨g1, 0, none⟩) ∧ Box k_ObjectStore 24 (Bs w0 nrow) F w g1 s.s_1 ∧ X
abbrev c2 (ρ : Env) (g2 : Nat) (w0 w : World) (F : BSet) (s : S) (X : Prop) : Prop := ρ 2 = .pointer (some ⟨g2, 0, none⟩) ∧ Box k_Fault 32 (Bs w0 nrow) F w g2 s.t_2 ∧ X
abbrev c4 (F : BSet) (w : World) (ρ : Env) (s : S) (X : Prop) : Prop := SlR k_StoredObject F w (ρ 13) s.t_13 ∧ ρ 14 = .int .i64 s.t_14 ∧ ρ 15 = .int .i64 s.t_15 ∧ X
abbrev e4 (F : BSet) (w : World) (ρ : Env) (s : S) : Prop := SlR k_StoredObject F w (ρ 13) s.t_13 ∧ ρ 14 = .int .i64 s.t_14 ∧ ρ 15 = .int .i64 s.t_15
abbrev c6 (ρ : Env) (s : S) (X : Prop) : Prop := ρ 3 = .int .i64 s.i_3 ∧ X
abbrev c7 (ρ : Env) (g4 : Nat) (w0 w : World) (F : BSet) (s : S) (X : Prop) : Prop := ρ 4 = .pointer (some ⟨g4, 0, none⟩) ∧ Box k_StoredObject 50 (Bs w0 nrow) F w g4 s.o_4 ∧ X
abbrev c8 (ρ : Env) (s : S) (X : Prop) : Prop := ρ 5 = .int .i64 s.d_5 ∧ X
abbrev c9 (ρ : Env) (g6 : Nat) (w0 w : World) (F : BSet) (s : S) (X : Prop) : Prop := ρ 6 = .pointer (some ⟨g6, 0, none⟩) ∧ Box k_Fault 32 (Bs w0 nrow) F w g6 s.f_6 ∧ X
def G0 : GT S := fun w0 F0 s ρ w => ∃ F, Wk nrow w0 F0 F w ∧ Val k_ObjectStore F w (ρ 0) s.s_0
def G1 : GT S := fun w0 F0 s ρ w => ∃ F, Wk nrow w0 F0 F w ∧ ∃ g1 g2, c1 ρ g1 w0 w F s (ρ 2 = .pointer (some ⟨g2, 0, none⟩) ∧ Box k_Fault 32 (Bs w0 nrow) F w g2 s.t_2)
def G2 : GT S := fun w0 F0 s ρ w => ∃ F, Wk nrow w0 F0 F w ∧ ∃ g1 g2, c1 ρ g1 w0 w F s (c2 ρ g2 w0 w F s (ρ 10 = .bool s.t_10))
def G3 : GT S := fun w0 F0 s ρ w => ∃ F, Wk nrow w0 F0 F w ∧ ∃ g2, ρ 2 = .pointer (some ⟨g2, 0, none⟩) ∧ Box k_Fault 32 (Bs w0 nrow) F w g2 s.t_2
def G4 : GT S := fun w0 F0 s ρ w => ∃ F, Wk nrow w0 F0 F w ∧ ∃ g1 g2, c1 ρ g1 w0 w F s (c2 ρ g2 w0 w F s (e4 F w ρ s))
def G5 : GT S := fun w0 F0 s ρ w => ∃ F, Wk nrow w0 F0 F w ∧ ∃ g1 g2, c1 ρ g1 w0 w F s (c2 ρ g2 w0 w F s (c4 F w ρ s (ρ 16 = .bool s.t_16)))
def G6 : GT S := fun w0 F0 s ρ w => ∃ F, Wk nrow w0 F0 F w ∧ ∃ g1 g2 g4, c1 ρ g1 w0 w F s (c2 ρ g2 w0 w F s (c6 ρ s (c7 ρ g4 w0 w F s (e4 F w ρ s))))
def G7 : GT S := fun w0 F0 s ρ w => ∃ F, Wk nrow w0 F0 F w ∧ ∃ g1 g2 g4 g6, c1 ρ g1 w0 w F s (c2 ρ g2 w0 w F s (c6 ρ s (c7 ρ g4 w0 w F s (c8 ρ s (c9 ρ g6 w0 w F s (c4 F w ρ s (Apart (some g2) (some g6))))))))
def G8 : GT S := fun w0 F0 s ρ w => ∃ F, Wk nrow w0 F0 F w ∧ ∃ g1 g2 g4 g6, c1 ρ g1 w0 w F s (c2 ρ g2 w0 w F s (c6 ρ s (c7 ρ g4 w0 w F s (c8 ρ s (c9 ρ g6 w0 w F s (c4 F w ρ s (ρ 26 = .bool s.t_26 ∧ Apart (some g2) (some g6))))))))
def G9 : GT S := fun w0 F0 s ρ w => ∃ F, Wk nrow w0 F0 F w ∧ ∃ g2 g6, c2 ρ g2 w0 w F s (c6 ρ s (c9 ρ g6 w0 w F s (Apart (some g2) (some g6))))
def G10 : GT S := fun w0 F0 s ρ w => ∃ F, Wk nrow w0 F0 F w ∧ ∃ g1 g2 g4, c1 ρ g1 w0 w F s (c2 ρ g2 w0 w F s (c6 ρ s (c7 ρ g4 w0 w F s (c8 ρ s (e4 F w ρ s)))))
def G11 : GT S := fun w0 F0 s ρ w => ∃ F, Wk nrow w0 F0 F w ∧ ∃ g1 g2, c1 ρ g1 w0 w F s (c2 ρ g2 w0 w F s (c6 ρ s (c8 ρ s (c4 F w ρ s (ρ 34 = .bool s.t_34)))))
def G12 : GT S := fun w0 F0 s ρ w => ∃ F, Wk nrow w0 F0 F w ∧ ∃ g2, c2 ρ g2 w0 w F s (ρ 3 = .int .i64 s.i_3)
def G13 : GT S := fun w0 F0 s ρ w => ∃ F, Wk nrow w0 F0 F w ∧ ∃ g1 g2, c1 ρ g1 w0 w F s (c2 ρ g2 w0 w F s (c6 ρ s (c8 ρ s (e4 F w ρ s))))
def G14 : GT S := fun w0 F0 s ρ w => ∃ F, Wk nrow w0 F0 F w ∧ ∃ g1 g2, c1 ρ g1 w0 w F s (c2 ρ g2 w0 w F s (c6 ρ s (c4 F w ρ s (ρ 41 = .bool s.t_41))))
set_option maxHeartbeats 4000000 in
set_option maxRecDepth 20000 in
theorem ref (w0 : World) (F0 : BSet) : ∃ c, Tryd.f28.body = some c ∧ Ref Tryd.prog 59 c (G0 w0 F0) body (fun _ _ _ => False) (fun _ _ _ _ => False) (fun r ρ w => ∃ s, retv s = r ∧ G3 w0 F0 s ρ w) := by
  refine ⟨_, rfl, ?_⟩; unfold body; refine Ref.seq (B := G1 w0 F0) ?_ ?_
  · refine Ref.region (fun s ρ w s' h hr => ?_); obtain ⟨F, hW, h0⟩ := h; refine ol_e (f_box hW rfl h0) rfl rfl ?_; rintro _ w8 ⟨g7, rfl, kw1, ho9⟩; have hW10 := hW.trans kw1; have st1 := kw1.stp hW.ok; refine ol_e (f_alloc zer_32 hW10) rfl rfl ?_; rintro _ w12 ⟨g11, rfl, kw2, ho13⟩; have hW14 := hW10.trans kw2; have st2 := kw2.stp hW10.ok; exact ol_fin hr ⟨F, hW14, g7, g11, rfl, ((ho9.base (row := nrow) hW.le).wk kw2 hW10.ok), rfl, (ho13.base (row := nrow) hW10.le)⟩
  refine Ref.seq (B := G1 w0 F0) ?_ ?_
  · refine Ref.seq (B := G2 w0 F0) ?_ ?_
    · refine Ref.region (fun s ρ w s' h hr => ?_); obtain ⟨F, hW, g1, g2, p1, h1, p2, h2⟩ := h; refine ol_v (e_fa fa_24_0 p1) rfl ?_; obtain ⟨v17, hl18, hs19⟩ := LiesV.sl ((h1).at_.fld fl_ObjectStore_0); refine ol_v (e_ld ty_22 hl18 rfl) rfl ?_; obtain ⟨A20, c21, e22, hc23, R24⟩ := id hs19; refine ol_v (e_len (SlT.sl sl_22) e22) rfl ?_; refine ol_v (e_gtr rfl rfl) rfl ?_; exact ol_fin hr ⟨F, hW, g1, g2, p1, h1, p2, h2, rfl⟩
    refine Ref.condP (b := fun s => s.t_10) (L := G3 w0 F0) (K := G1 w0 F0) ?_ ?_ ?_
    · rintro s ρ w ⟨F, hW, g1, g2, p1, h1, p2, h2, h10⟩; exact ⟨h10, ⟨F, hW, g2, p2, h2⟩, F, hW, g1, g2, p1, h1, p2, h2⟩
    · refine Ref.seq (B := G3 w0 F0) ?_ ?_
      · refine Ref.region (fun s ρ w s' h hr => ?_); obtain ⟨F, hW, g2, p2, h2⟩ := h; refine ol_v (e_bld (cells := #[.int .i64 (2), .int .i64 0]) bld_32 (vs := [(0, .int .i64 (2))]) (lcons (congrArg (Prod.mk 0) rfl) rfl) rfl) rfl ?_; have hb25 : Val k_Fault F w (.agg #[.int .i64 (2), .int .i64 0]) (⟨(2 : Int), (0 : Int)⟩ : Fault) := mk_Fault (val_int _ _) (val_int _ _); refine ol_eN (f_stB hW h2 (FldS.whole _) ty_32 hb25 p2 rfl) rfl ?_; rintro - w26 ⟨hW27, ho28, hg1, st1⟩; exact ol_fin hr ⟨F, hW27, g2, p2, ho28⟩
      exact Ref.ret (fun s ρ w h => ⟨s, rfl, h⟩)
    · exact Ref.skip
  refine Ref.seq (B := G3 w0 F0) ?_ ?_
  · refine Ref.seq (B := G4 w0 F0) ?_ ?_
    · refine Ref.region (fun s ρ w s' h hr => ?_); obtain ⟨F, hW, g1, g2, p1, h1, p2, h2⟩ := h; refine ol_v (e_fa fa_24_0 p1) rfl ?_; obtain ⟨v29, hl30, hs31⟩ := LiesV.sl ((h1).at_.fld fl_ObjectStore_0); refine ol_v (e_ld ty_22 hl30 rfl) rfl ?_; obtain ⟨A32, c33, e34, hc35, R36⟩ := id hs31; refine ol_v (e_len (SlT.sl sl_22) e34) rfl ?_; refine ol_m rfl ?_; exact ol_fin hr ⟨F, hW, g1, g2, p1, h1, p2, h2, hs31, rfl, rfl⟩
    refine Ref.block ?_; refine Ref.loop ?_; refine Ref.seq (B := G5 w0 F0) ?_ ?_
    · refine Ref.region (fun s ρ w s' h hr => ?_); obtain ⟨F, hW, g1, g2, p1, h1, p2, h2, h13, h14, h15⟩ := h; refine ol_v (e_lss h15 h14) rfl ?_; exact ol_fin hr ⟨F, hW, g1, g2, p1, h1, p2, h2, h13, h14, h15, rfl⟩
    refine Ref.seq (B := G4 w0 F0) ?_ ?_
    · refine Ref.condP (b := fun s => s.t_16) (L := G4 w0 F0) (K := G3 w0 F0) ?_ ?_ ?_
      · rintro s ρ w ⟨F, hW, g1, g2, p1, h1, p2, h2, h13, h14, h15, h16⟩; exact ⟨h16, ⟨F, hW, g1, g2, p1, h1, p2, h2, h13, h14, h15⟩, F, hW, g2, p2, h2⟩
      · exact Ref.skip
      · exact Ref.exit (fun s ρ w h => h)
    refine Ref.seq (B := G4 w0 F0) ?_ ?_
    · refine Ref.block ?_; refine Ref.seq (B := G6 w0 F0) ?_ ?_
      · refine Ref.region (fun s ρ w s' h hr => ?_); obtain ⟨F, hW, g1, g2, p1, h1, p2, h2, h13, h14, h15⟩ := h; refine ol_m h15 ?_; obtain ⟨x37, hx37, hr⟩ := bind_some' hr; obtain ⟨A38, c39, e40, hc41, R42⟩ := id h13; obtain ⟨b43, o44, hA45, L46⟩ := Row.at_ R42 hx37; refine ol_v (e_ix (SlT.sl sl_22) (SlT.sz sl_22) hA45 hx37 e40 h15) rfl ?_; obtain ⟨v47, hl48⟩ := LiesAt.v L46.at_; refine ol_v (e_ld ty_50 hl48 rfl) rfl ?_; refine ol_e (f_alloc zer_50 hW) rfl rfl ?_; rintro _ w50 ⟨g49, rfl, kw1, ho51⟩; have hW52 := hW.trans kw1; have st1 := kw1.stp hW.ok; refine ol_a rfl ?_; refine ol_eN (f_stB hW52 (ho51.base (row := nrow) hW.le) (FldS.whole _) ty_50 (hl48.val.keep st1) rfl rfl) rfl ?_; rintro - w53 ⟨hW54, ho55, hg2, st2⟩; exact ol_fin hr ⟨F, hW54, g1, g2, g49, p1, ((h1.wk kw1 hW.ok).mut (apart_bb (ho51.base (row := nrow) hW.le) (h1.wk kw1 hW.ok) rfl) hg2 st2), p2, ((h2.wk kw1 hW.ok).mut (apart_bb (ho51.base (row := nrow) hW.le) (h2.wk kw1 hW.ok) rfl) hg2 st2), rfl, rfl, ho55, (h13.keep (st1.trans st2)), h14, h15⟩
      refine Ref.seq (B := G7 w0 F0) ?_ ?_
      · refine Ref.region (fun s ρ w s' h hr => ?_); obtain ⟨F, hW, g1, g2, g4, p1, h1, p2, h2, h3, p4, h4, h13, h14, h15⟩ := h; refine ol_v (e_fa fa_50_1 p4) rfl ?_; obtain ⟨v56, hl57⟩ := LiesAt.v ((h4).at_.fld fl_StoredObject_1); refine ol_v (e_ld ty_48 hl57 rfl) rfl ?_; obtain ⟨x58, hx58, hr⟩ := bind_some' hr; refine ol_e (f_call [v56] fn_42 (lcons rfl rfl) (objects_Digest.calls hW.ok hl57.val hx58)) rfl rfl ?_; rintro _ w59 ⟨Fz60, v61, rfl, kw1, hk62⟩; have hW64 := hW.trans kw1; have st1 := kw1.stp hW.ok; refine ol_m rfl ?_; refine ol_v (e_ext _ rfl rfl) rfl ?_; refine ol_v (e_ext _ rfl rfl) rfl ?_; refine ol_e (f_alloc zer_32 hW64) rfl rfl ?_; rintro _ w66 ⟨g65, rfl, kw2, ho67⟩; have hW68 := hW64.trans kw2; have st2 := kw2.stp hW64.ok; refine ol_a rfl ?_; refine ol_eN (f_stB hW68 (ho67.base (row := nrow) hW64.le) (FldS.whole _) ty_32 (hk62.keep st2) rfl rfl) rfl ?_; rintro - w69 ⟨hW70, ho71, hg3, st3⟩; have z1 := (h1.wk kw1 hW.ok).wk kw2 hW64.ok; have z2 := (h4.wk kw1 hW.ok).wk kw2 hW64.ok; have z3 := h2.wk kw1 hW.ok; exact ol_fin hr ⟨Fz60, hW70, g1, g2, g4, g65, p1, (z1.mut (apart_bb (ho67.base (row := nrow) hW64.le) z1 rfl) hg3 st3), p2, ((z3.wk kw2 hW64.ok).mut (Apart.base (fun _ e_ => by cases e_; exact ho67.ge) z3.ltw) hg3 st3), h3, p4, (z2.mut (apart_bb (ho67.base (row := nrow) hW64.le) z2 rfl) hg3 st3), rfl, rfl, ho71, (h13.keep (st1.trans (st2.trans st3))), h14, h15, (Apart.base (fun _ e_ => by cases e_; exact ho67.ge) z3.ltw).symm⟩
      refine Ref.block ?_; refine Ref.seq (B := G8 w0 F0) ?_ ?_
      · refine Ref.region (fun s ρ w s' h hr => ?_); obtain ⟨F, hW, g1, g2, g4, g6, p1, h1, p2, h2, h3, p4, h4, h5, p6, h6, h13, h14, h15, a2b_6b⟩ := h; obtain ⟨v72, hl73⟩ := LiesAt.v (h6).at_; refine ol_v (e_ld ty_32 hl73 p6) rfl ?_; refine ol_v (e_bld (cells := #[.int .i64 0, .int .i64 0]) bld_32 (vs := []) rfl rfl) rfl ?_; have hb74 : Val k_Fault F w (.agg #[.int .i64 0, .int .i64 0]) (⟨(0 : Int), (0 : Int)⟩ : Fault) := mk_Fault (val_int _ _) (val_int _ _); refine ol_v (e_tneq (eq_Fault_32 hl73.val hb74) rfl rfl) rfl ?_; refine ol_a rfl ?_; exact ol_fin hr ⟨F, hW, g1, g2, g4, g6, p1, h1, p2, h2, h3, p4, h4, h5, p6, h6, h13, h14, h15, rfl, a2b_6b⟩
      refine Ref.condP (b := fun s => s.t_26) (L := G9 w0 F0) (K := G10 w0 F0) ?_ ?_ ?_
      · rintro s ρ w ⟨F, hW, g1, g2, g4, g6, p1, h1, p2, h2, h3, p4, h4, h5, p6, h6, h13, h14, h15, h26, a2b_6b⟩; exact ⟨h26, ⟨F, hW, g2, g6, p2, h2, h3, p6, h6, a2b_6b⟩, F, hW, g1, g2, g4, p1, h1, p2, h2, h3, p4, h4, h5, h13, h14, h15⟩
      · refine Ref.seq (B := G3 w0 F0) ?_ ?_
        · refine Ref.region (fun s ρ w s' h hr => ?_); obtain ⟨F, hW, g2, g6, p2, h2, h3, p6, h6, a2b_6b⟩ := h; refine ol_v (e_fa fa_32_0 p6) rfl ?_; refine ol_v (e_ld ty_3 (LiesV.int ((h6).at_.fld fl_Fault_0)) rfl) rfl ?_; refine ol_m h3 ?_; refine ol_v (e_bld (cells := #[.int .i64 s.f_6.Code, .int .i64 s.i_3]) bld_32 (vs := [(0, .int .i64 s.f_6.Code), (1, .int .i64 s.i_3)]) (lcons (congrArg (Prod.mk 0) rfl) (lcons (congrArg (Prod.mk 1) rfl) rfl)) rfl) rfl ?_; have hb75 : Val k_Fault F w (.agg #[.int .i64 s.f_6.Code, .int .i64 s.i_3]) (⟨s.f_6.Code, s.i_3⟩ : Fault) := mk_Fault (val_int _ _) (val_int _ _); refine ol_eN (f_stB hW h2 (FldS.whole _) ty_32 hb75 p2 rfl) rfl ?_; rintro - w76 ⟨hW77, ho78, hg1, st1⟩; exact ol_fin hr ⟨F, hW77, g2, p2, ho78⟩
        exact Ref.ret (fun s ρ w h => ⟨s, rfl, h⟩)
      · refine Ref.seq (B := G11 w0 F0) ?_ ?_
        · refine Ref.region (fun s ρ w s' h hr => ?_); obtain ⟨F, hW, g1, g2, g4, p1, h1, p2, h2, h3, p4, h4, h5, h13, h14, h15⟩ := h; refine ol_m h5 ?_; refine ol_v (e_fa fa_50_0 p4) rfl ?_; refine ol_v (e_ld ty_3 (LiesV.int ((h4).at_.fld fl_StoredObject_0)) rfl) rfl ?_; refine ol_v (e_neq rfl rfl) rfl ?_; refine ol_a rfl ?_; exact ol_fin hr ⟨F, hW, g1, g2, p1, h1, p2, h2, h3, h5, h13, h14, h15, rfl⟩
        refine Ref.condP (b := fun s => s.t_34) (L := G12 w0 F0) (K := G13 w0 F0) ?_ ?_ ?_
        · rintro s ρ w ⟨F, hW, g1, g2, p1, h1, p2, h2, h3, h5, h13, h14, h15, h34⟩; exact ⟨h34, ⟨F, hW, g2, p2, h2, h3⟩, F, hW, g1, g2, p1, h1, p2, h2, h3, h5, h13, h14, h15⟩
        · refine Ref.seq (B := G3 w0 F0) ?_ ?_
          · refine Ref.region (fun s ρ w s' h hr => ?_); obtain ⟨F, hW, g2, p2, h2, h3⟩ := h; refine ol_m h3 ?_; refine ol_v (e_bld (cells := #[.int .i64 (18), .int .i64 s.i_3]) bld_32 (vs := [(0, .int .i64 (18)), (1, .int .i64 s.i_3)]) (lcons (congrArg (Prod.mk 0) rfl) (lcons (congrArg (Prod.mk 1) rfl) rfl)) rfl) rfl ?_; have hb79 : Val k_Fault F w (.agg #[.int .i64 (18), .int .i64 s.i_3]) (⟨(18 : Int), s.i_3⟩ : Fault) := mk_Fault (val_int _ _) (val_int _ _); refine ol_eN (f_stB hW h2 (FldS.whole _) ty_32 hb79 p2 rfl) rfl ?_; rintro - w80 ⟨hW81, ho82, hg1, st1⟩; exact ol_fin hr ⟨F, hW81, g2, p2, ho82⟩
          exact Ref.ret (fun s ρ w h => ⟨s, rfl, h⟩)
        · refine Ref.seq (B := G14 w0 F0) ?_ ?_
          · refine Ref.region (fun s ρ w s' h hr => ?_); obtain ⟨F, hW, g1, g2, p1, h1, p2, h2, h3, h5, h13, h14, h15⟩ := h; refine ol_m h3 ?_; refine ol_v (e_gtr rfl rfl) rfl ?_; obtain ⟨x98, hx99, hr⟩ := bind_some' hr; refine ol_cutA 11 44 54 (fun ρ' w' => w = w' ∧ ρ' 54 = .bool x98) rfl ?_ ?_
            · by_cases hb83 : (decide ((0 : Int) < s.i_3)) = true
              · have hr := hx99; rw [if_pos hb83] at hr; refine ol_m rfl ?_; refine ol_yes rfl rfl (congrArg Value.bool hb83) ?_; refine ol_v (e_fa fa_24_0 p1) rfl ?_; refine ol_yes rfl rfl (congrArg Value.bool hb83) ?_; obtain ⟨v85, hl86, hs87⟩ := LiesV.sl ((h1).at_.fld fl_ObjectStore_0); refine ol_v (e_ld ty_22 hl86 rfl) rfl ?_; refine ol_yes rfl rfl (congrArg Value.bool hb83) ?_; refine ol_m h3 ?_; refine ol_yes rfl rfl (congrArg Value.bool hb83) ?_; refine ol_v (e_sub rfl rfl) rfl ?_; refine ol_yes rfl rfl (congrArg Value.bool hb83) ?_; obtain ⟨x88, hx88, hr⟩ := bind_some' hr; obtain ⟨A89, c90, e91, hc92, R93⟩ := id hs87; obtain ⟨b94, o95, hA96, L97⟩ := Row.at_ R93 hx88; refine ol_v (e_ix (SlT.sl sl_22) (SlT.sz sl_22) hA96 hx88 e91 rfl) rfl ?_; refine ol_yes rfl rfl (congrArg Value.bool hb83) ?_; refine ol_v (e_fa fa_50_0 rfl) rfl ?_; refine ol_yes rfl rfl (congrArg Value.bool hb83) ?_; refine ol_v (e_ld ty_3 (LiesV.int (L97.fld fl_StoredObject_0).at_) rfl) rfl ?_; refine ol_yes rfl rfl (congrArg Value.bool hb83) ?_; refine ol_m h5 ?_; refine ol_yes rfl rfl (congrArg Value.bool hb83) ?_; refine ol_v (e_geq rfl rfl) rfl ?_; refine ol_v (e_pick true _ (congrArg Value.bool hb83) rfl) rfl ?_; exact ol_nil ⟨⟨rfl, (congrArg Value.bool (Option.some.inj hr))⟩, (Agr.refl _ _ _).u.u.u.u.u.u.u.u.u.u.u⟩
              · have hb84 := Bool.eq_false_iff.mpr hb83; have hr := hx99; rw [if_neg hb83] at hr; refine ol_m rfl ?_; refine ol_not rfl rfl rfl (congrArg Value.bool hb84) rfl ?_; refine ol_not rfl rfl rfl (congrArg Value.bool hb84) rfl ?_; refine ol_not rfl rfl rfl (congrArg Value.bool hb84) rfl ?_; refine ol_not rfl rfl rfl (congrArg Value.bool hb84) rfl ?_; refine ol_not rfl rfl rfl (congrArg Value.bool hb84) rfl ?_; refine ol_not rfl rfl rfl (congrArg Value.bool hb84) rfl ?_; refine ol_not rfl rfl rfl (congrArg Value.bool hb84) rfl ?_; refine ol_not rfl rfl rfl (congrArg Value.bool hb84) rfl ?_; refine ol_not rfl rfl rfl (congrArg Value.bool hb84) rfl ?_; refine ol_v (e_pick false _ (congrArg Value.bool hb84) rfl) rfl ?_; exact ol_nil ⟨⟨rfl, (congrArg Value.bool (Option.some.inj hr))⟩, (Agr.refl _ _ _).u.u.u.u.u.u.u.u.u.u.u⟩
            rintro ρ99 _ ⟨⟨rfl, hp99⟩, hAg99⟩; refine ol_a hp99 ?_; exact ol_fin hr ⟨F, hW, g1, g2, ((hAg99 1 rfl).trans p1), h1, ((hAg99 2 rfl).trans p2), h2, ((hAg99 3 rfl).trans h3), (SlR.eqv (hAg99 13 rfl) h13), ((hAg99 14 rfl).trans h14), ((hAg99 15 rfl).trans h15), rfl⟩
          refine Ref.condP (b := fun s => s.t_41) (L := G12 w0 F0) (K := G4 w0 F0) ?_ ?_ ?_
          · rintro s ρ w ⟨F, hW, g1, g2, p1, h1, p2, h2, h3, h13, h14, h15, h41⟩; exact ⟨h41, ⟨F, hW, g2, p2, h2, h3⟩, F, hW, g1, g2, p1, h1, p2, h2, h13, h14, h15⟩
          · refine Ref.seq (B := G3 w0 F0) ?_ ?_
            · refine Ref.region (fun s ρ w s' h hr => ?_); obtain ⟨F, hW, g2, p2, h2, h3⟩ := h; refine ol_m h3 ?_; refine ol_v (e_bld (cells := #[.int .i64 (5), .int .i64 s.i_3]) bld_32 (vs := [(0, .int .i64 (5)), (1, .int .i64 s.i_3)]) (lcons (congrArg (Prod.mk 0) rfl) (lcons (congrArg (Prod.mk 1) rfl) rfl)) rfl) rfl ?_; have hb100 : Val k_Fault F w (.agg #[.int .i64 (5), .int .i64 s.i_3]) (⟨(5 : Int), s.i_3⟩ : Fault) := mk_Fault (val_int _ _) (val_int _ _); refine ol_eN (f_stB hW h2 (FldS.whole _) ty_32 hb100 p2 rfl) rfl ?_; rintro - w101 ⟨hW102, ho103, hg1, st1⟩; exact ol_fin hr ⟨F, hW102, g2, p2, ho103⟩
            exact Ref.ret (fun s ρ w h => ⟨s, rfl, h⟩)
          · exact Ref.skip
    refine Ref.region (fun s ρ w s' h hr => ?_); obtain ⟨F, hW, g1, g2, p1, h1, p2, h2, h13, h14, h15⟩ := h; refine ol_v (e_add h15 rfl) rfl ?_; refine ol_m rfl ?_; exact ol_fin hr ⟨F, hW, g1, g2, p1, h1, p2, h2, h13, h14, rfl⟩
  refine Ref.seq (B := G3 w0 F0) ?_ ?_
  · refine Ref.region (fun s ρ w s' h hr => ?_); obtain ⟨F, hW, g2, p2, h2⟩ := h; refine ol_v (e_bld (cells := #[.int .i64 0, .int .i64 0]) bld_32 (vs := []) rfl rfl) rfl ?_; have hb104 : Val k_Fault F w (.agg #[.int .i64 0, .int .i64 0]) (⟨(0 : Int), (0 : Int)⟩ : Fault) := mk_Fault (val_int _ _) (val_int _ _); refine ol_eN (f_stB hW h2 (FldS.whole _) ty_32 hb104 p2 rfl) rfl ?_; rintro - w105 ⟨hW106, ho107, hg1, st1⟩; exact ol_fin hr ⟨F, hW106, g2, p2, ho107⟩
  exact Ref.ret (fun s ρ w h => ⟨s, rfl, h⟩)
def post (w : World) (F : BSet) (r : R) (v : Value) (w' : World) : Prop := ∃ (F' : BSet) (v0' : Value), v = v0' ∧ Wk nrow w F F' w' ∧ Val k_Fault F' w' v0' r
theorem calls {w : World} {F : BSet} (hok : ∀ b, F b → b < w.heap.size) {v0 : Value} {a0 : ObjectStore} (h0 : Val k_ObjectStore F w v0 a0) {r : R} (hf : f a0 = some r) : Calls Tryd.prog 28 #[v0] w fun e w' => ∃ v, e = .returned v ∧ post w F r v w' := by
  obtain ⟨c, hc, href⟩ := ref w F; refine calls_of_ref (args := [v0]) _ Tryd.func28 hc rfl rfl href ?_ (retOf_some hf) ?_
  · exact ⟨F, Wk.refl hok, h0⟩
  · rintro ρ w' a ⟨s, rfl, F', hW, g2, p2, h2⟩ hF; obtain ⟨u2, l2, k2⟩ := res_box (P := Tryd.prog) ty_32 h2; refine ⟨_, run_results (rs := [.cell 2 32]) rfl hF (vs := [u2]) (⟨_, _, _, rfl, p2, l2, rfl⟩), ?_⟩; exact ⟨F', u2, rfl, hW, k2⟩
end
end objects_Validate

namespace refs_good
section
structure Pins where
  g2 : Nat
def G0 : GT S := fun w0 F0 s ρ w => ∃ F, Wk nrow w0 F0 F w ∧ GL 2 F w ∧ ρ 0 = .string s.name_0
def G1 : GT S := fun w0 F0 s ρ w => ∃ F, Wk nrow w0 F0 F w ∧ ∃ g2, GL 2 F w ∧ ρ 0 = .string s.name_0 ∧ ρ 2 = .pointer (some ⟨g2, 0, none⟩) ∧ Box kBool 4 (Bs w0 nrow) F w g2 s.t_2
def G2 : GT S := fun w0 F0 s ρ w => ∃ F, Wk nrow w0 F0 F w ∧ ∃ g2, GL 2 F w ∧ ρ 0 = .string s.name_0 ∧ ρ 2 = .pointer (some ⟨g2, 0, none⟩) ∧ Box kBool 4 (Bs w0 nrow) F w g2 s.t_2 ∧ ρ 8 = .bool s.t_8
def G3 : GT S := fun w0 F0 s ρ w => ∃ F, Wk nrow w0 F0 F w ∧ ∃ g2, GL 2 F w ∧ ρ 2 = .pointer (some ⟨g2, 0, none⟩) ∧ Box kBool 4 (Bs w0 nrow) F w g2 s.t_2
def G4 : GT S := fun w0 F0 s ρ w => ∃ F, Wk nrow w0 F0 F w ∧ ∃ g2, GL 2 F w ∧ ρ 2 = .pointer (some ⟨g2, 0, none⟩) ∧ Box kBool 4 (Bs w0 nrow) F w g2 s.t_2 ∧ SplitIt (Bs w0 nrow) F w (ρ 10) s.t_10
def K5 (p : Pins) (F B : BSet) (s : S) (ρ : Env) (w : World) : Prop := GL 2 F w ∧ ρ 2 = .pointer (some ⟨p.g2, 0, none⟩) ∧ Box kBool 4 B F w p.g2 s.t_2 ∧ ρ 11 = .string s.t_11
def G5 (p : Pins) (rs : BSet) (w0 : World) (F0 : BSet) (s : S) (ρ : Env) (w : World) : Prop := GK rs w0 F0 (fun F B w => K5 p F B s ρ w) w
def K6 (p : Pins) (F B : BSet) (s : S) (ρ : Env) (w : World) : Prop := GL 2 F w ∧ ρ 2 = .pointer (some ⟨p.g2, 0, none⟩) ∧ Box kBool 4 B F w p.g2 s.t_2 ∧ ρ 3 = .string s.part_3
def G6 (p : Pins) (rs : BSet) (w0 : World) (F0 : BSet) (s : S) (ρ : Env) (w : World) : Prop := GK rs w0 F0 (fun F B w => K6 p F B s ρ w) w
def K7 (p : Pins) (F B : BSet) (s : S) (ρ : Env) (w : World) : Prop := GL 2 F w ∧ ρ 2 = .pointer (some ⟨p.g2, 0, none⟩) ∧ Box kBool 4 B F w p.g2 s.t_2
def G7 (p : Pins) (rs : BSet) (w0 : World) (F0 : BSet) (s : S) (ρ : Env) (w : World) : Prop := GK rs w0 F0 (fun F B w => K7 p F B s ρ w) w
def K8 (p : Pins) (F B : BSet) (s : S) (ρ : Env) (w : World) : Prop := GL 2 F w ∧ ρ 2 = .pointer (some ⟨p.g2, 0, none⟩) ∧ Box kBool 4 B F w p.g2 s.t_2 ∧ ρ 3 = .string s.part_3 ∧ ρ 26 = .bool s.t_26
def G8 (p : Pins) (rs : BSet) (w0 : World) (F0 : BSet) (s : S) (ρ : Env) (w : World) : Prop := GK rs w0 F0 (fun F B w => K8 p F B s ρ w) w
def K9 (p : Pins) (F B : BSet) (s : S) (ρ : Env) (w : World) : Prop := GL 2 F w ∧ ρ 2 = .pointer (some ⟨p.g2, 0, none⟩) ∧ Box kBool 4 B F w p.g2 s.t_2 ∧ SlR kByte F w (ρ 28) s.t_28 ∧ ρ 29 = .int .i64 s.t_29 ∧ ρ 30 = .int .i64 s.t_30
def G9 (p : Pins) (rs : BSet) (w0 : World) (F0 : BSet) (s : S) (ρ : Env) (w : World) : Prop := GK rs w0 F0 (fun F B w => K9 p F B s ρ w) w
def K10 (p : Pins) (F B : BSet) (s : S) (ρ : Env) (w : World) : Prop := GL 2 F w ∧ ρ 2 = .pointer (some ⟨p.g2, 0, none⟩) ∧ Box kBool 4 B F w p.g2 s.t_2 ∧ SlR kByte F w (ρ 28) s.t_28 ∧ ρ 29 = .int .i64 s.t_29 ∧ ρ 30 = .int .i64 s.t_30 ∧ ρ 31 = .bool s.t_31
def G10 (p : Pins) (rs : BSet) (w0 : World) (F0 : BSet) (s : S) (ρ : Env) (w : World) : Prop := GK rs w0 F0 (fun F B w => K10 p F B s ρ w) w
def K11 (p : Pins) (F B : BSet) (s : S) (ρ : Env) (w : World) : Prop := GL 2 F w ∧ ρ 2 = .pointer (some ⟨p.g2, 0, none⟩) ∧ Box kBool 4 B F w p.g2 s.t_2 ∧ ρ 5 = .int .u8 (s.c_5.toNat : Int) ∧ SlR kByte F w (ρ 28) s.t_28 ∧ ρ 29 = .int .i64 s.t_29 ∧ ρ 30 = .int .i64 s.t_30
def G11 (p : Pins) (rs : BSet) (w0 : World) (F0 : BSet) (s : S) (ρ : Env) (w : World) : Prop := GK rs w0 F0 (fun F B w => K11 p F B s ρ w) w
def K12 (p : Pins) (F B : BSet) (s : S) (ρ : Env) (w : World) : Prop := GL 2 F w ∧ ρ 2 = .pointer (some ⟨p.g2, 0, none⟩) ∧ Box kBool 4 B F w p.g2 s.t_2 ∧ SlR kByte F w (ρ 28) s.t_28 ∧ ρ 29 = .int .i64 s.t_29 ∧ ρ 30 = .int .i64 s.t_30 ∧ ρ 59 = .bool s.t_59
def G12 (p : Pins) (rs : BSet) (w0 : World) (F0 : BSet) (s : S) (ρ : Env) (w : World) : Prop := GK rs w0 F0 (fun F B w => K12 p F B s ρ w) w
def K13 (F B : BSet) (s : S) (ρ : Env) (w : World) : Prop := ∃ (g2 : Nat), GL 2 F w ∧ ρ 2 = .pointer (some ⟨g2, 0, none⟩) ∧ Box kBool 4 B F w g2 s.t_2
def G13 (rs : BSet) (w0 : World) (F0 : BSet) (s : S) (ρ : Env) (w : World) : Prop := GK rs w0 F0 (fun F B w => K13 F B s ρ w) w
def KL (p : Pins) (F B : BSet) (s : S) (w : World) : Prop := GL 2 F w ∧ Box kBool 4 B F w p.g2 s.t_2
def Pin (p : Pins) (ρ : Env) : Prop := ρ 2 = .pointer (some ⟨p.g2, 0, none⟩)
theorem cL (p : Pins) (s : S) : CoreO (fun F B w => KL p F B s w) where
  put := by rintro F B w b o o' ⟨hG, h2⟩ hF hh hc; exact ⟨(hG.keep (Stp.put _ _ _ hF)), (h2.putN hF hh hc)⟩
  base := by rintro F B B' w ⟨hG, h2⟩ hB; exact ⟨hG, (h2.baseN hB)⟩
  wk := by rintro F B w w' ⟨hG, h2⟩ hK ok; exact ⟨(hG.keep (hK.stp ok)), (h2.wk hK ok)⟩
  own := by rintro F B w w' g ⟨hG, h2⟩ hF hB hg ok; exact ⟨(hG.keep (stpOwn hF hg ok)), (h2.ownB hF hB hg ok)⟩
def KXr (p : Pins) (F B : BSet) (s : S) (w : World) : Prop := GL 2 F w ∧ Box kBool 4 B F w p.g2 s.t_2
def KX (p : Pins) (F B : BSet) (r : R) (w : World) : Prop := ∃ s, retv s = r ∧ KXr p F B s w
theorem cXr (p : Pins) (s : S) : Core (fun F B w => KXr p F B s w) where
  put := by rintro F B w b o o' ⟨hG, h2⟩ hF hh hc; exact ⟨(hG.keep (Stp.put _ _ _ hF)), (h2.putN hF hh hc)⟩
  base := by rintro F B B' w ⟨hG, h2⟩ hB; exact ⟨hG, (h2.baseN hB)⟩
  wk := by rintro F B w w' ⟨hG, h2⟩ hK ok; exact ⟨(hG.keep (hK.stp ok)), (h2.wk hK ok)⟩
theorem cK5 (p : Pins) (s : S) (ρ : Env) : Core (fun F B w => K5 p F B s ρ w) where
  put := by rintro F B w b o o' ⟨hG, p2, h2, h11⟩ hF hh hc; exact ⟨(hG.keep (Stp.put _ _ _ hF)), p2, (h2.putN hF hh hc), h11⟩
  base := by rintro F B B' w ⟨hG, p2, h2, h11⟩ hB; exact ⟨hG, p2, (h2.baseN hB), h11⟩
  wk := by rintro F B w w' ⟨hG, p2, h2, h11⟩ hK ok; exact ⟨(hG.keep (hK.stp ok)), p2, (h2.wk hK ok), h11⟩
theorem cK6 (p : Pins) (s : S) (ρ : Env) : Core (fun F B w => K6 p F B s ρ w) where
  put := by rintro F B w b o o' ⟨hG, p2, h2, h3⟩ hF hh hc; exact ⟨(hG.keep (Stp.put _ _ _ hF)), p2, (h2.putN hF hh hc), h3⟩
  base := by rintro F B B' w ⟨hG, p2, h2, h3⟩ hB; exact ⟨hG, p2, (h2.baseN hB), h3⟩
  wk := by rintro F B w w' ⟨hG, p2, h2, h3⟩ hK ok; exact ⟨(hG.keep (hK.stp ok)), p2, (h2.wk hK ok), h3⟩
theorem cK13 (s : S) (ρ : Env) : Core (fun F B w => K13 F B s ρ w) where
  put := by rintro F B w b o o' ⟨g2, hG, p2, h2⟩ hF hh hc; exact ⟨g2, (hG.keep (Stp.put _ _ _ hF)), p2, (h2.putN hF hh hc)⟩
  base := by rintro F B B' w ⟨g2, hG, p2, h2⟩ hB; exact ⟨g2, hG, p2, (h2.baseN hB)⟩
  wk := by rintro F B w w' ⟨g2, hG, p2, h2⟩ hK ok; exact ⟨g2, (hG.keep (hK.stp ok)), p2, (h2.wk hK ok)⟩
set_option maxHeartbeats 4000000 in
set_option maxRecDepth 20000 in
theorem ref (w0 : World) (F0 : BSet) : ∃ c, Tryd.f43.body = some c ∧ RefT Tryd.prog 61 c (G0 w0 F0) body (fun r ρ w => ∃ s, retv s = r ∧ G3 w0 F0 s ρ w) := by
  refine ⟨_, rfl, ?_⟩; unfold body; refine RefT.seq (B := G1 w0 F0) ?_ ?_
  · refine Ref.region (fun s ρ w s' h hr => ?_); obtain ⟨F, hW, hG, h0⟩ := h; refine ol_e (f_alloc zer_4 hW) rfl rfl ?_; rintro _ w2 ⟨g1, rfl, kw1, ho3⟩; have hW4 := hW.trans kw1; have st1 := kw1.stp hW.ok; exact ol_fin hr ⟨F, hW4, g1, (hG.keep st1), h0, rfl, (ho3.base (row := nrow) hW.le)⟩
  refine RefT.seq (B := G1 w0 F0) ?_ ?_
  · refine Ref.seq (B := G2 w0 F0) ?_ ?_
    · refine Ref.region (fun s ρ w s' h hr => ?_); obtain ⟨F, hW, g2, hG, h0, p2, h2⟩ := h; refine ol_m h0 ?_; refine ol_v (e_lenS (by kernel_rfl) rfl) rfl ?_; refine ol_v (e_gtr rfl rfl) rfl ?_; exact ol_fin hr ⟨F, hW, g2, hG, h0, p2, h2, rfl⟩
    refine Ref.condP (b := fun s => s.t_8) (L := G3 w0 F0) (K := G1 w0 F0) ?_ ?_ ?_
    · rintro s ρ w ⟨F, hW, g2, hG, h0, p2, h2, h8⟩; exact ⟨h8, ⟨F, hW, g2, hG, p2, h2⟩, F, hW, g2, hG, h0, p2, h2⟩
    · refine Ref.seq (B := G3 w0 F0) ?_ ?_
      · refine Ref.region (fun s ρ w s' h hr => ?_); obtain ⟨F, hW, g2, hG, p2, h2⟩ := h; refine ol_eN (f_stB hW h2 (FldS.whole _) ty_4 (val_bool _) p2 rfl) rfl ?_; rintro - w5 ⟨hW6, ho7, hg1, st1⟩; exact ol_fin hr ⟨F, hW6, g2, (hG.keep st1), p2, ho7⟩
      exact Ref.ret (fun s ρ w h => ⟨s, rfl, h⟩)
    · exact Ref.skip
  refine RefT.seqS (BD := fun D s ρ w => ∃ p F, Wk nrow w0 F0 F w ∧ ¬ F D ∧ w0.heap.size ≤ D ∧ KL p F (Bs w0 nrow) s w ∧ Pin p ρ) (BX := fun D r ρ w => ∃ p F, Wk nrow w0 F0 F w ∧ ¬ F D ∧ w0.heap.size ≤ D ∧ KX p F (Bs w0 nrow) r w ∧ Pin p ρ) ?_ (fun D d' s ρ w a h => RefT.rest (row := nrow) (w0 := w0) (w0F := F0) (KR := K13) (KZ := fun F B r ρ w => ∃ s, retv s = r ∧ K13 F B s ρ w) (Z := fun _ _ _ => False) ?_ (fun _ _ _ h => h) cK13 (fun r ρ => Core.ex (fun s => cK13 s ρ)) (fun r ρ w ⟨F, hW, s, hs, hk⟩ => ⟨s, hs, F, hW, hk⟩) D d' s ρ w a (by obtain ⟨p, F, hW, hD, hl, hK, hP⟩ := h; obtain ⟨hG, h2⟩ := id hK; obtain n2 := id hP; exact ⟨F, hW, hD, hl, ⟨p.g2, hG, n2, h2⟩⟩)) (fun D r ρ w h hh => by obtain ⟨p, F, hW, hD, hl, hK, hP⟩ := h; have hK := (Core.ex (fun s => cXr p s) : Core (fun F B w => KX p F B r w)).put (o' := .deferred none) hK hD hh rfl; obtain ⟨s, hs, hk⟩ := hK; obtain ⟨hG, h2⟩ := id hk; obtain n2 := id hP; exact ⟨s, hs, F, hW.put _ hl, p.g2, hG, n2, h2⟩)
  · refine RefS.seq (B := G4 w0 F0) ?_ ?_
    · refine Ref.region (fun s ρ w s' h hr => ?_); obtain ⟨F, hW, g2, hG, h0, p2, h2⟩ := h; refine ol_m h0 ?_; obtain ⟨x8, hx8, hr⟩ := bind_some' hr; refine ol_e (f_call [.string s.name_0, .string (⟨#[47]⟩ : ByteArray)] fn_65 (lcons rfl (lcons rfl rfl)) (SplitSeq.calls hW.ok s.name_0 (⟨#[47]⟩ : ByteArray) hx8)) rfl rfl ?_; rintro v12 w9 ⟨Fz10, _, rfl, kw1, hk13⟩; have hW15 := hW.trans kw1; have st1 := kw1.stp hW.ok; exact ol_fin hr ⟨Fz10, hW15, g2, (hG.keep st1), p2, (h2.wk kw1 hW.ok), (hk13.base (row := nrow) hW.le)⟩
    refine RefS.range (row := nrow) (w0 := w0) (F0 := F0) (rel := relStr) (PT := Pins) (KL := KL) (KA := K5) (KB := K6) (KC := K7) (KY := fun p F B r ρ w => ∃ s, retv s = r ∧ K7 p F B s ρ w) (KX := KX) (Pin := Pin) (fun s ρ w h => by obtain ⟨F, hW, g2, hG, p2, h2, h10⟩ := h; obtain ⟨g_, s_, vss, hbx, hi, ha⟩ := h10; exact ⟨⟨g2⟩, vss, F, g_, hW, ⟨hG, (h2.rebase ⟨h2.ge, fun e_ => apart_bb hbx h2 rfl _ rfl (by rw [e_])⟩)⟩, p2, hbx.ge, hi, ha⟩) relStr.keep relStr.len (by rfl) cL (fun p r => Core.ex (fun s => cXr p s)) (fun {p F B s ρ w vs it} hK hP hR => by obtain ⟨hG, h2⟩ := id hK; obtain n2 := id hP; obtain rfl := hR; exact ⟨hG, n2, h2, rfl⟩) cK5 ?_ cK6 ?_ (fun {p F B s ρ w} hK => by obtain ⟨hG, p2, h2⟩ := id hK; exact ⟨hG, h2⟩) (fun {p F B r ρ w} hK => by obtain ⟨s, hs, hk⟩ := hK; obtain ⟨hG, p2, h2⟩ := id hk; exact ⟨s, hs, ⟨hG, h2⟩⟩)
    · intro l p rs w0 F0; refine Ref.regionR (by rfl) (fun s ρ w s' h hr => ?_); obtain ⟨F, hW, hG, p2, h2, h11⟩ := h; refine ol_a h11 ?_; obtain rfl := Option.some.inj hr; exact ol_nil ⟨F, hW, hG, p2, h2, rfl⟩
    · intro l p rs w0 F0; refine Ref.block ?_; refine Ref.seq (B := G6 p rs w0 F0) ?_ ?_
      · refine Ref.seq (B := G8 p rs w0 F0) ?_ ?_
        · refine Ref.regionR (by rfl) (fun s ρ w s' h hr => ?_); obtain ⟨F, hW, hG, p2, h2, h3⟩ := h; refine ol_m h3 ?_; refine ol_v (e_seql rfl rfl) rfl ?_; obtain ⟨x19, hx20, hr⟩ := bind_some' hr; refine ol_cutA 5 14 18 (fun ρ' w' => w = w' ∧ ρ' 18 = .bool x19) rfl ?_ ?_
          · by_cases hb16 : (decide (s.part_3 = (⟨#[]⟩ : ByteArray))) = true
            · have hr := hx20; rw [if_pos hb16] at hr; refine ol_m rfl ?_; refine ol_not rfl rfl rfl (congrArg Value.bool hb16) rfl ?_; refine ol_not rfl rfl rfl (congrArg Value.bool hb16) rfl ?_; refine ol_not rfl rfl rfl (congrArg Value.bool hb16) rfl ?_; refine ol_v (e_pick true _ (congrArg Value.bool hb16) rfl) rfl ?_; exact ol_nil ⟨⟨rfl, (congrArg Value.bool (Option.some.inj hr))⟩, (Agr.refl _ _ _).u.u.u.u.u⟩
            · have hb17 := Bool.eq_false_iff.mpr hb16; have hr := hx20; rw [if_neg hb16] at hr; refine ol_m rfl ?_; refine ol_yes rfl rfl (congrArg Value.bool hb17) ?_; refine ol_m h3 ?_; refine ol_yes rfl rfl (congrArg Value.bool hb17) ?_; obtain ⟨b18, hb18, hr⟩ := bind_some' hr; refine ol_v (e_ixS (by kernel_rfl) rfl rfl hb18) rfl ?_; refine ol_yes rfl rfl (congrArg Value.bool hb17) ?_; refine ol_v (e_eql rfl rfl) rfl ?_; refine ol_v (e_pick false _ (congrArg Value.bool hb17) rfl) rfl ?_; exact ol_nil ⟨⟨rfl, (congrArg Value.bool (Option.some.inj hr))⟩, (Agr.refl _ _ _).u.u.u.u.u⟩
          rintro ρ20 _ ⟨⟨rfl, hp20⟩, hAg20⟩; obtain ⟨x28, hx32, hr⟩ := bind_some' hr; refine ol_cutA 4 19 22 (fun ρ' w' => ∃ F', Wk nrow w F F' w' ∧ ρ' 22 = .bool x28) rfl ?_ ?_
          · by_cases hb21 : x19 = true
            · have hr := hx32; rw [if_pos hb21] at hr; refine ol_m hp20 ?_; refine ol_not rfl rfl rfl (congrArg Value.bool hb21) rfl ?_; refine ol_not rfl rfl rfl (congrArg Value.bool hb21) rfl ?_; refine ol_v (e_pick true _ (congrArg Value.bool hb21) rfl) rfl ?_; exact ol_nil ⟨⟨_, Wk.refl hW.ok, (congrArg Value.bool (Option.some.inj hr))⟩, (Agr.refl _ _ _).u.u.u.u⟩
            · have hb22 := Bool.eq_false_iff.mpr hb21; have hr := hx32; rw [if_neg hb21] at hr; refine ol_m hp20 ?_; refine ol_yes rfl rfl (congrArg Value.bool hb22) ?_; refine ol_v (e_mv _ ((hAg20 3 rfl).trans h3)) rfl ?_; refine ol_yes rfl rfl (congrArg Value.bool hb22) ?_; obtain ⟨x23, hx23, hr⟩ := bind_some' hr; refine ol_e (f_call [.string s.part_3, .string (⟨#[46, 108, 111, 99, 107]⟩ : ByteArray)] fn_66 (lcons rfl (lcons rfl rfl)) (HasSuffixS.calls hW.ok s.part_3 (⟨#[46, 108, 111, 99, 107]⟩ : ByteArray) hx23)) rfl rfl ?_; rintro _ w24 ⟨Fz25, rfl, kw1⟩; have hW27 := hW.trans kw1; have st1 := kw1.stp hW.ok; refine ol_v (e_pick false _ (congrArg Value.bool hb22) rfl) rfl ?_; exact ol_nil ⟨⟨_, kw1, (congrArg Value.bool (Option.some.inj hr))⟩, (Agr.refl _ _ _).u.u.u.u⟩
          rintro ρ32 w33 ⟨⟨Fz34, kw1, hp32⟩, hAg32⟩; have hW35 := hW.trans kw1; have st1 := kw1.stp hW.ok; obtain ⟨x43, hx44, hr⟩ := bind_some' hr; refine ol_cutA 4 23 26 (fun ρ' w' => ∃ F', Wk nrow w33 Fz34 F' w' ∧ ρ' 26 = .bool x43) rfl ?_ ?_
          · by_cases hb36 : x28 = true
            · have hr := hx44; rw [if_pos hb36] at hr; refine ol_m hp32 ?_; refine ol_not rfl rfl rfl (congrArg Value.bool hb36) rfl ?_; refine ol_not rfl rfl rfl (congrArg Value.bool hb36) rfl ?_; refine ol_v (e_pick true _ (congrArg Value.bool hb36) rfl) rfl ?_; exact ol_nil ⟨⟨_, Wk.refl hW35.ok, (congrArg Value.bool (Option.some.inj hr))⟩, (Agr.refl _ _ _).u.u.u.u⟩
            · have hb37 := Bool.eq_false_iff.mpr hb36; have hr := hx44; rw [if_neg hb36] at hr; refine ol_m hp32 ?_; refine ol_yes rfl rfl (congrArg Value.bool hb37) ?_; refine ol_v (e_mv _ ((hAg32 3 rfl).trans ((hAg20 3 rfl).trans h3))) rfl ?_; refine ol_yes rfl rfl (congrArg Value.bool hb37) ?_; obtain ⟨x38, hx38, hr⟩ := bind_some' hr; refine ol_e (f_call [.string s.part_3, .string (⟨#[46, 46]⟩ : ByteArray)] fn_67 (lcons rfl (lcons rfl rfl)) (ContainsS.calls hW35.ok (hG.keep st1) s.part_3 (⟨#[46, 46]⟩ : ByteArray) hx38)) rfl rfl ?_; rintro _ w39 ⟨Fz40, rfl, kw2⟩; have hW42 := hW35.trans kw2; have st2 := kw2.stp hW35.ok; refine ol_v (e_pick false _ (congrArg Value.bool hb37) rfl) rfl ?_; exact ol_nil ⟨⟨_, kw2, (congrArg Value.bool (Option.some.inj hr))⟩, (Agr.refl _ _ _).u.u.u.u⟩
          rintro ρ44 w45 ⟨⟨Fz46, kw2, hp44⟩, hAg44⟩; have hW47 := hW35.trans kw2; have st2 := kw2.stp hW35.ok; exact ol_fin hr ⟨Fz46, hW47, (hG.keep (st1.trans st2)), ((hAg44 2 rfl).trans ((hAg32 2 rfl).trans ((hAg20 2 rfl).trans p2))), ((h2.wk kw1 hW.ok).wk kw2 hW35.ok), ((hAg44 3 rfl).trans ((hAg32 3 rfl).trans ((hAg20 3 rfl).trans h3))), hp44⟩
        refine Ref.cond (b := fun s => s.t_26) (fun s ρ w ⟨F, hW, hG, p2, h2, h3, h26⟩ => h26) (Ref.pre (A := G7 p rs w0 F0) ?_ (fun s ρ w h => (fun ⟨F, hW, hG, p2, h2, h3, h26⟩ => ⟨F, hW, hG, p2, h2⟩ : G8 p rs w0 F0 s ρ w → G7 p rs w0 F0 s ρ w) h.2)) (Ref.pre (A := G6 p rs w0 F0) ?_ (fun s ρ w h => (fun ⟨F, hW, hG, p2, h2, h3, h26⟩ => ⟨F, hW, hG, p2, h2, h3⟩ : G8 p rs w0 F0 s ρ w → G6 p rs w0 F0 s ρ w) h.2))
        · refine Ref.seq (B := G7 p rs w0 F0) ?_ ?_
          · refine Ref.regionR (by rfl) (fun s ρ w s' h hr => ?_); obtain ⟨F, hW, hG, p2, h2⟩ := h; refine ol_eN (f_stB hW h2 (FldS.whole _) ty_4 (val_bool _) p2 rfl) rfl ?_; rintro - w48 ⟨hW49, ho50, hg1, st1⟩; exact ol_fin hr ⟨F, hW49, (hG.keep st1), p2, ho50⟩
          exact Ref.ret (fun s ρ w ⟨F, hW, h⟩ => ⟨F, hW, s, rfl, h⟩)
        · exact Ref.skip
      refine Ref.seq (B := G9 p rs w0 F0) ?_ ?_
      · refine Ref.regionR (by rfl) (fun s ρ w s' h hr => ?_); obtain ⟨F, hW, hG, p2, h2, h3⟩ := h; refine ol_m h3 ?_; refine ol_e (f_s2b hW (by kernel_rfl) (SlT.sl sl_46) (by kernel_rfl) rfl) rfl rfl ?_; rintro v51 w52 ⟨Fz53, kw1, ho54⟩; have hW55 := hW.trans kw1; have st1 := kw1.stp hW.ok; obtain ⟨A56, c57, e58, hc59, R60⟩ := id ho54; refine ol_v (e_len (SlT.sl sl_46) e58) rfl ?_; refine ol_m rfl ?_; exact ol_fin hr ⟨Fz53, hW55, (hG.keep st1), p2, (h2.wk kw1 hW.ok), ho54, rfl, rfl⟩
      refine Ref.block ?_; refine Ref.loop ?_; refine Ref.seq (B := G10 p rs w0 F0) ?_ ?_
      · refine Ref.regionR (by rfl) (fun s ρ w s' h hr => ?_); obtain ⟨F, hW, hG, p2, h2, h28, h29, h30⟩ := h; refine ol_v (e_lss h30 h29) rfl ?_; exact ol_fin hr ⟨F, hW, hG, p2, h2, h28, h29, h30, rfl⟩
      refine Ref.seq (B := G9 p rs w0 F0) ?_ ?_
      · refine Ref.cond (b := fun s => s.t_31) (fun s ρ w ⟨F, hW, hG, p2, h2, h28, h29, h30, h31⟩ => h31) (Ref.pre (A := G9 p rs w0 F0) ?_ (fun s ρ w h => (fun ⟨F, hW, hG, p2, h2, h28, h29, h30, h31⟩ => ⟨F, hW, hG, p2, h2, h28, h29, h30⟩ : G10 p rs w0 F0 s ρ w → G9 p rs w0 F0 s ρ w) h.2)) (Ref.pre (A := G7 p rs w0 F0) ?_ (fun s ρ w h => (fun ⟨F, hW, hG, p2, h2, h28, h29, h30, h31⟩ => ⟨F, hW, hG, p2, h2⟩ : G10 p rs w0 F0 s ρ w → G7 p rs w0 F0 s ρ w) h.2))
        · exact Ref.skip
        · exact Ref.exit (fun s ρ w h => h)
      refine Ref.seq (B := G9 p rs w0 F0) ?_ ?_
      · refine Ref.block ?_; refine Ref.seq (B := G11 p rs w0 F0) ?_ ?_
        · refine Ref.regionR (by rfl) (fun s ρ w s' h hr => ?_); obtain ⟨F, hW, hG, p2, h2, h28, h29, h30⟩ := h; obtain ⟨x61, hx61, hr⟩ := bind_some' hr; obtain ⟨A62, c63, e64, hc65, R66⟩ := id h28; obtain ⟨b67, o68, hA69, L70⟩ := Row.at_ R66 hx61; refine ol_v (e_ix (SlT.sl sl_46) (SlT.sz sl_46) hA69 hx61 e64 h30) rfl ?_; refine ol_v (e_ld ty_5 (LiesV.byte L70.at_) rfl) rfl ?_; refine ol_a rfl ?_; exact ol_fin hr ⟨F, hW, hG, p2, h2, rfl, h28, h29, h30⟩
        refine Ref.seq (B := G12 p rs w0 F0) ?_ ?_
        · refine Ref.regionR (by rfl) (fun s ρ w s' h hr => ?_); obtain ⟨F, hW, hG, p2, h2, h5, h28, h29, h30⟩ := h; refine ol_m h5 ?_; refine ol_v (e_lss rfl rfl) rfl ?_; refine ol_cutA 4 36 39 (fun ρ' w' => w = w' ∧ ρ' 39 = .bool ((decide ((s.c_5.toNat : Int) < (97 : Int))) || (decide ((122 : Int) < (s.c_5.toNat : Int))))) rfl ?_ ?_
          · by_cases hb71 : (decide ((s.c_5.toNat : Int) < (97 : Int))) = true
            · refine ol_m rfl ?_; refine ol_not rfl rfl rfl (congrArg Value.bool hb71) rfl ?_; refine ol_not rfl rfl rfl (congrArg Value.bool hb71) rfl ?_; refine ol_v (e_pick true _ (congrArg Value.bool hb71) rfl) rfl ?_; exact ol_nil ⟨⟨rfl, (bv_or_t hb71)⟩, (Agr.refl _ _ _).u.u.u.u⟩
            · have hb72 := Bool.eq_false_iff.mpr hb71; refine ol_m rfl ?_; refine ol_yes rfl rfl (congrArg Value.bool hb72) ?_; refine ol_m h5 ?_; refine ol_yes rfl rfl (congrArg Value.bool hb72) ?_; refine ol_v (e_gtr rfl rfl) rfl ?_; refine ol_v (e_pick false _ (congrArg Value.bool hb72) rfl) rfl ?_; exact ol_nil ⟨⟨rfl, (bv_or_f hb72)⟩, (Agr.refl _ _ _).u.u.u.u⟩
          rintro ρ73 _ ⟨⟨rfl, hp73⟩, hAg73⟩; refine ol_cutA 8 40 47 (fun ρ' w' => w = w' ∧ ρ' 47 = .bool (((decide ((s.c_5.toNat : Int) < (97 : Int))) || (decide ((122 : Int) < (s.c_5.toNat : Int)))) && ((decide ((s.c_5.toNat : Int) < (48 : Int))) || (decide ((57 : Int) < (s.c_5.toNat : Int)))))) rfl ?_ ?_
          · by_cases hb74 : ((decide ((s.c_5.toNat : Int) < (97 : Int))) || (decide ((122 : Int) < (s.c_5.toNat : Int)))) = true
            · refine ol_m hp73 ?_; refine ol_yes rfl rfl (congrArg Value.bool hb74) ?_; refine ol_v (e_mv _ ((hAg73 5 rfl).trans h5)) rfl ?_; refine ol_yes rfl rfl (congrArg Value.bool hb74) ?_; refine ol_v (e_lss rfl rfl) rfl ?_; refine ol_yes rfl rfl (congrArg Value.bool hb74) ?_; refine ol_cutA 4 43 46 (fun ρ' w' => w = w' ∧ ρ' 46 = .bool ((decide ((s.c_5.toNat : Int) < (48 : Int))) || (decide ((57 : Int) < (s.c_5.toNat : Int))))) rfl ?_ ?_
              · by_cases hb76 : (decide ((s.c_5.toNat : Int) < (48 : Int))) = true
                · refine ol_m rfl ?_; refine ol_not rfl rfl rfl (congrArg Value.bool hb76) rfl ?_; refine ol_not rfl rfl rfl (congrArg Value.bool hb76) rfl ?_; refine ol_yes rfl rfl (congrArg Value.bool hb74) ?_; refine ol_v (e_pick true _ (congrArg Value.bool hb76) rfl) rfl ?_; exact ol_nil ⟨⟨rfl, (bv_or_t hb76)⟩, (Agr.refl _ _ _).u.u.u.u⟩
                · have hb77 := Bool.eq_false_iff.mpr hb76; refine ol_m rfl ?_; refine ol_yes rfl rfl (congrArg Value.bool hb77) ?_; refine ol_v (e_mv _ ((hAg73 5 rfl).trans h5)) rfl ?_; refine ol_yes rfl rfl (congrArg Value.bool hb77) ?_; refine ol_v (e_gtr rfl rfl) rfl ?_; refine ol_yes rfl rfl (congrArg Value.bool hb74) ?_; refine ol_v (e_pick false _ (congrArg Value.bool hb77) rfl) rfl ?_; exact ol_nil ⟨⟨rfl, (bv_or_f hb77)⟩, (Agr.refl _ _ _).u.u.u.u⟩
              rintro ρ78 _ ⟨⟨rfl, hp78⟩, hAg78⟩; refine ol_v (e_pick true _ ((hAg78 40 rfl).trans (congrArg Value.bool hb74)) hp78) rfl ?_; exact ol_nil ⟨⟨rfl, (bv_and_t hb74)⟩, (((Agr.refl _ _ _).u.u.u.into hAg78 rfl rfl).upd rfl rfl)⟩
            · have hb75 := Bool.eq_false_iff.mpr hb74; refine ol_m hp73 ?_; refine ol_not rfl rfl rfl (congrArg Value.bool hb75) rfl ?_; refine ol_not rfl rfl rfl (congrArg Value.bool hb75) rfl ?_; refine ol_not rfl rfl rfl (congrArg Value.bool hb75) rfl ?_; refine ol_notU rfl rfl rfl rfl ?_; refine ol_notU rfl rfl rfl rfl ?_; refine ol_not rfl rfl rfl (congrArg Value.bool hb75) rfl ?_; refine ol_v (e_pick false _ (congrArg Value.bool hb75) rfl) rfl ?_; exact ol_nil ⟨⟨rfl, (bv_and_f hb75)⟩, (Agr.refl _ _ _).u.u.u.u.u.u.u.u⟩
          rintro ρ79 _ ⟨⟨rfl, hp79⟩, hAg79⟩; refine ol_cutA 4 48 51 (fun ρ' w' => w = w' ∧ ρ' 51 = .bool ((((decide ((s.c_5.toNat : Int) < (97 : Int))) || (decide ((122 : Int) < (s.c_5.toNat : Int)))) && ((decide ((s.c_5.toNat : Int) < (48 : Int))) || (decide ((57 : Int) < (s.c_5.toNat : Int))))) && (!decide ((s.c_5.toNat : Int) = (45 : Int))))) rfl ?_ ?_
          · by_cases hb80 : (((decide ((s.c_5.toNat : Int) < (97 : Int))) || (decide ((122 : Int) < (s.c_5.toNat : Int)))) && ((decide ((s.c_5.toNat : Int) < (48 : Int))) || (decide ((57 : Int) < (s.c_5.toNat : Int))))) = true
            · refine ol_m hp79 ?_; refine ol_yes rfl rfl (congrArg Value.bool hb80) ?_; refine ol_v (e_mv _ ((hAg79 5 rfl).trans ((hAg73 5 rfl).trans h5))) rfl ?_; refine ol_yes rfl rfl (congrArg Value.bool hb80) ?_; refine ol_v (e_neq rfl rfl) rfl ?_; refine ol_v (e_pick true _ (congrArg Value.bool hb80) rfl) rfl ?_; exact ol_nil ⟨⟨rfl, (bv_and_t hb80)⟩, (Agr.refl _ _ _).u.u.u.u⟩
            · have hb81 := Bool.eq_false_iff.mpr hb80; refine ol_m hp79 ?_; refine ol_not rfl rfl rfl (congrArg Value.bool hb81) rfl ?_; refine ol_not rfl rfl rfl (congrArg Value.bool hb81) rfl ?_; refine ol_v (e_pick false _ (congrArg Value.bool hb81) rfl) rfl ?_; exact ol_nil ⟨⟨rfl, (bv_and_f hb81)⟩, (Agr.refl _ _ _).u.u.u.u⟩
          rintro ρ82 _ ⟨⟨rfl, hp82⟩, hAg82⟩; refine ol_cutA 4 52 55 (fun ρ' w' => w = w' ∧ ρ' 55 = .bool (((((decide ((s.c_5.toNat : Int) < (97 : Int))) || (decide ((122 : Int) < (s.c_5.toNat : Int)))) && ((decide ((s.c_5.toNat : Int) < (48 : Int))) || (decide ((57 : Int) < (s.c_5.toNat : Int))))) && (!decide ((s.c_5.toNat : Int) = (45 : Int)))) && (!decide ((s.c_5.toNat : Int) = (95 : Int))))) rfl ?_ ?_
          · by_cases hb83 : ((((decide ((s.c_5.toNat : Int) < (97 : Int))) || (decide ((122 : Int) < (s.c_5.toNat : Int)))) && ((decide ((s.c_5.toNat : Int) < (48 : Int))) || (decide ((57 : Int) < (s.c_5.toNat : Int))))) && (!decide ((s.c_5.toNat : Int) = (45 : Int)))) = true
            · refine ol_m hp82 ?_; refine ol_yes rfl rfl (congrArg Value.bool hb83) ?_; refine ol_v (e_mv _ ((hAg82 5 rfl).trans ((hAg79 5 rfl).trans ((hAg73 5 rfl).trans h5)))) rfl ?_; refine ol_yes rfl rfl (congrArg Value.bool hb83) ?_; refine ol_v (e_neq rfl rfl) rfl ?_; refine ol_v (e_pick true _ (congrArg Value.bool hb83) rfl) rfl ?_; exact ol_nil ⟨⟨rfl, (bv_and_t hb83)⟩, (Agr.refl _ _ _).u.u.u.u⟩
            · have hb84 := Bool.eq_false_iff.mpr hb83; refine ol_m hp82 ?_; refine ol_not rfl rfl rfl (congrArg Value.bool hb84) rfl ?_; refine ol_not rfl rfl rfl (congrArg Value.bool hb84) rfl ?_; refine ol_v (e_pick false _ (congrArg Value.bool hb84) rfl) rfl ?_; exact ol_nil ⟨⟨rfl, (bv_and_f hb84)⟩, (Agr.refl _ _ _).u.u.u.u⟩
          rintro ρ85 _ ⟨⟨rfl, hp85⟩, hAg85⟩; refine ol_cutA 4 56 59 (fun ρ' w' => w = w' ∧ ρ' 59 = .bool ((((((decide ((s.c_5.toNat : Int) < (97 : Int))) || (decide ((122 : Int) < (s.c_5.toNat : Int)))) && ((decide ((s.c_5.toNat : Int) < (48 : Int))) || (decide ((57 : Int) < (s.c_5.toNat : Int))))) && (!decide ((s.c_5.toNat : Int) = (45 : Int)))) && (!decide ((s.c_5.toNat : Int) = (95 : Int)))) && (!decide ((s.c_5.toNat : Int) = (46 : Int))))) rfl ?_ ?_
          · by_cases hb86 : (((((decide ((s.c_5.toNat : Int) < (97 : Int))) || (decide ((122 : Int) < (s.c_5.toNat : Int)))) && ((decide ((s.c_5.toNat : Int) < (48 : Int))) || (decide ((57 : Int) < (s.c_5.toNat : Int))))) && (!decide ((s.c_5.toNat : Int) = (45 : Int)))) && (!decide ((s.c_5.toNat : Int) = (95 : Int)))) = true
            · refine ol_m hp85 ?_; refine ol_yes rfl rfl (congrArg Value.bool hb86) ?_; refine ol_v (e_mv _ ((hAg85 5 rfl).trans ((hAg82 5 rfl).trans ((hAg79 5 rfl).trans ((hAg73 5 rfl).trans h5))))) rfl ?_; refine ol_yes rfl rfl (congrArg Value.bool hb86) ?_; refine ol_v (e_neq rfl rfl) rfl ?_; refine ol_v (e_pick true _ (congrArg Value.bool hb86) rfl) rfl ?_; exact ol_nil ⟨⟨rfl, (bv_and_t hb86)⟩, (Agr.refl _ _ _).u.u.u.u⟩
            · have hb87 := Bool.eq_false_iff.mpr hb86; refine ol_m hp85 ?_; refine ol_not rfl rfl rfl (congrArg Value.bool hb87) rfl ?_; refine ol_not rfl rfl rfl (congrArg Value.bool hb87) rfl ?_; refine ol_v (e_pick false _ (congrArg Value.bool hb87) rfl) rfl ?_; exact ol_nil ⟨⟨rfl, (bv_and_f hb87)⟩, (Agr.refl _ _ _).u.u.u.u⟩
          rintro ρ88 _ ⟨⟨rfl, hp88⟩, hAg88⟩; exact ol_fin hr ⟨F, hW, hG, ((hAg88 2 rfl).trans ((hAg85 2 rfl).trans ((hAg82 2 rfl).trans ((hAg79 2 rfl).trans ((hAg73 2 rfl).trans p2))))), h2, (SlR.eqv ((hAg88 28 rfl).trans ((hAg85 28 rfl).trans ((hAg82 28 rfl).trans ((hAg79 28 rfl).trans (hAg73 28 rfl))))) h28), ((hAg88 29 rfl).trans ((hAg85 29 rfl).trans ((hAg82 29 rfl).trans ((hAg79 29 rfl).trans ((hAg73 29 rfl).trans h29))))), ((hAg88 30 rfl).trans ((hAg85 30 rfl).trans ((hAg82 30 rfl).trans ((hAg79 30 rfl).trans ((hAg73 30 rfl).trans h30))))), hp88⟩
        refine Ref.cond (b := fun s => s.t_59) (fun s ρ w ⟨F, hW, hG, p2, h2, h28, h29, h30, h59⟩ => h59) (Ref.pre (A := G7 p rs w0 F0) ?_ (fun s ρ w h => (fun ⟨F, hW, hG, p2, h2, h28, h29, h30, h59⟩ => ⟨F, hW, hG, p2, h2⟩ : G12 p rs w0 F0 s ρ w → G7 p rs w0 F0 s ρ w) h.2)) (Ref.pre (A := G9 p rs w0 F0) ?_ (fun s ρ w h => (fun ⟨F, hW, hG, p2, h2, h28, h29, h30, h59⟩ => ⟨F, hW, hG, p2, h2, h28, h29, h30⟩ : G12 p rs w0 F0 s ρ w → G9 p rs w0 F0 s ρ w) h.2))
        · refine Ref.seq (B := G7 p rs w0 F0) ?_ ?_
          · refine Ref.regionR (by rfl) (fun s ρ w s' h hr => ?_); obtain ⟨F, hW, hG, p2, h2⟩ := h; refine ol_eN (f_stB hW h2 (FldS.whole _) ty_4 (val_bool _) p2 rfl) rfl ?_; rintro - w89 ⟨hW90, ho91, hg1, st1⟩; exact ol_fin hr ⟨F, hW90, (hG.keep st1), p2, ho91⟩
          exact Ref.ret (fun s ρ w ⟨F, hW, h⟩ => ⟨F, hW, s, rfl, h⟩)
        · exact Ref.skip
      refine Ref.regionR (by rfl) (fun s ρ w s' h hr => ?_); obtain ⟨F, hW, hG, p2, h2, h28, h29, h30⟩ := h; refine ol_v (e_add h30 rfl) rfl ?_; refine ol_m rfl ?_; exact ol_fin hr ⟨F, hW, hG, p2, h2, h28, h29, rfl⟩
  · intro rs w0 F0; refine Ref.seq (B := G13 rs w0 F0) ?_ ?_
    · refine Ref.region (fun s ρ w s' h hr => ?_); obtain ⟨F, hW, g2, hG, p2, h2⟩ := h; refine ol_eN (f_stB hW h2 (FldS.whole _) ty_4 (val_bool _) p2 rfl) rfl ?_; rintro - w92 ⟨hW93, ho94, hg1, st1⟩; exact ol_fin hr ⟨F, hW93, g2, (hG.keep st1), p2, ho94⟩
    exact Ref.ret (fun s ρ w ⟨F, hW, h⟩ => ⟨F, hW, s, rfl, h⟩)
def post (w : World) (F : BSet) (r : R) (v : Value) (w' : World) : Prop := ∃ (F' : BSet), v = .bool r ∧ Wk nrow w F F' w'
theorem calls {w : World} {F : BSet} (hok : ∀ b, F b → b < w.heap.size) (hG : GL 2 F w) (a0 : ByteArray) {r : R} (hf : f a0 = some r) : Calls Tryd.prog 43 #[.string a0] w fun e w' => ∃ v, e = .returned v ∧ post w F r v w' := by
  obtain ⟨c, hc, href⟩ := ref w F; refine calls_of_refT (args := [.string a0]) _ Tryd.func43 hc rfl rfl href ?_ (retOf_some hf) ?_
  · exact ⟨F, Wk.refl hok, hG, rfl⟩
  · rintro ρ w' dl a ⟨s, rfl, F', hW, g2, hG, p2, h2⟩ hF; obtain ⟨u2, l2, k2⟩ := res_box (P := Tryd.prog) ty_4 h2; obtain rfl := eqv_bool k2; refine ⟨_, run_results (rs := [.cell 2 4]) rfl hF (vs := [.bool s.t_2]) (⟨_, _, _, rfl, p2, l2, rfl⟩), ?_⟩; exact ⟨F', rfl, hW⟩
end
end refs_good

end Go.Proofs.YtenkbkcddcnmeaaDoor
