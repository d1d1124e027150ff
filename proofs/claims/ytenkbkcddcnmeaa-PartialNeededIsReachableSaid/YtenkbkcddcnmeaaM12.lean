/- The machine's calls come to these plain functions (written by a program, wip/fx/gen.py). -/
import Derived.Test.YtenkbkcddcnmeaaPA
import Derived.Test.YtenkbkcddcnmeaaNm
import Derived.Test.YtenkbkcddcnmeaaM0
import Derived.Test.YtenkbkcddcnmeaaM2
import Derived.Test.YtenkbkcddcnmeaaM3
import Derived.Test.YtenkbkcddcnmeaaM5
import Derived.Test.YtenkbkcddcnmeaaSl
import Derived.Test.YtenkbkcddcnmeaaIn
namespace Go.Proofs.Ytenkbkcddcnmeaa
open Go.Fx Go.RowKit
set_option linter.unusedVariables false

namespace gc_mark
section
abbrev c1 (F : BSet) (w : World) (ρ : Env) (s : S) (X : Prop) : Prop := SlR (kInt .i64) F w (ρ 1) s.t_1 ∧ X
abbrev c2 (ρ : Env) (g2 : Nat) (w0 w : World) (F : BSet) (s : S) (X : Prop) : Prop := ρ 2 = .pointer (some ⟨g2, 0, none⟩) ∧ Box k_ObjectStore 24 (Bs w0 nrow) F w g2 s.t_2 ∧ X
abbrev c3 (w0 w : World) (F : BSet) (ρ : Env) (s : S) (X : Prop) : Prop := MapV .i64 (fun x => (.int .i64 x : Value)) (Bs w0 nrow) F w (ρ 5) s.t_5 ∧ X
abbrev e4 (F : BSet) (w : World) (ρ : Env) (s : S) : Prop := SlR k_StoredObject F w (ρ 14) s.t_14 ∧ ρ 15 = .int .i64 s.t_15 ∧ ρ 16 = .int .i64 s.t_16
abbrev c7 (w0 w : World) (F : BSet) (ρ : Env) (s : S) (X : Prop) : Prop := OwnV kBool 4 (Bs w0 nrow) F w (ρ 8) s.t_8 ∧ X
abbrev c8 (w0 w : World) (F : BSet) (ρ : Env) (s : S) (X : Prop) : Prop := OwnV (kInt .i64) 3 (Bs w0 nrow) F w (ρ 9) s.t_9 ∧ X
def G0 : GT S := fun w0 F0 s ρ w => ∃ F, Wk nrow w0 F0 F w ∧ Val k_ObjectStore F w (ρ 0) s.t_0 ∧ SlR (kInt .i64) F w (ρ 1) s.t_1
def G1 : GT S := fun w0 F0 s ρ w => ∃ F, Wk nrow w0 F0 F w ∧ ∃ g2, c1 F w ρ s (ρ 2 = .pointer (some ⟨g2, 0, none⟩) ∧ Box k_ObjectStore 24 (Bs w0 nrow) F w g2 s.t_2)
def G2 : GT S := fun w0 F0 s ρ w => ∃ F, Wk nrow w0 F0 F w ∧ ∃ g2, c1 F w ρ s (c2 ρ g2 w0 w F s (MapV .i64 (fun x => (.int .i64 x : Value)) (Bs w0 nrow) F w (ρ 5) s.t_5))
def G3 : GT S := fun w0 F0 s ρ w => ∃ F, Wk nrow w0 F0 F w ∧ ∃ g2, c1 F w ρ s (c2 ρ g2 w0 w F s (c3 w0 w F ρ s (e4 F w ρ s)))
def G4 : GT S := fun w0 F0 s ρ w => ∃ F, Wk nrow w0 F0 F w ∧ ∃ g2, c1 F w ρ s (c2 ρ g2 w0 w F s (c3 w0 w F ρ s (SlR k_StoredObject F w (ρ 14) s.t_14 ∧ ρ 15 = .int .i64 s.t_15 ∧ ρ 16 = .int .i64 s.t_16 ∧ ρ 17 = .bool s.t_17)))
def G5 : GT S := fun w0 F0 s ρ w => ∃ F, Wk nrow w0 F0 F w ∧ ∃ g2 g7, c1 F w ρ s (c2 ρ g2 w0 w F s (c3 w0 w F ρ s (ρ 6 = .int .i64 s.t_6 ∧ ρ 7 = .pointer (some ⟨g7, 0, none⟩) ∧ Box k_StoredObject 39 (Bs w0 nrow) F w g7 s.t_7 ∧ e4 F w ρ s)))
def G6 : GT S := fun w0 F0 s ρ w => ∃ F, Wk nrow w0 F0 F w ∧ ∃ g2, c1 F w ρ s (c2 ρ g2 w0 w F s (c3 w0 w F ρ s (OwnV kBool 4 (Bs w0 nrow) F w (ρ 8) s.t_8)))
def G7 : GT S := fun w0 F0 s ρ w => ∃ F, Wk nrow w0 F0 F w ∧ ∃ g2, c2 ρ g2 w0 w F s (c3 w0 w F ρ s (c7 w0 w F ρ s (OwnV (kInt .i64) 3 (Bs w0 nrow) F w (ρ 9) s.t_9)))
def G8 : GT S := fun w0 F0 s ρ w => ∃ F, Wk nrow w0 F0 F w ∧ ∃ g2, c2 ρ g2 w0 w F s (c3 w0 w F ρ s (c7 w0 w F ρ s (c8 w0 w F ρ s (ρ 34 = .bool s.t_34))))
def G9 : GT S := fun w0 F0 s ρ w => ∃ F, Wk nrow w0 F0 F w ∧ OwnV kBool 4 (Bs w0 nrow) F w (ρ 8) s.t_8
def G10 : GT S := fun w0 F0 s ρ w => ∃ F, Wk nrow w0 F0 F w ∧ ∃ g2, c2 ρ g2 w0 w F s (c3 w0 w F ρ s (c7 w0 w F ρ s (c8 w0 w F ρ s (ρ 10 = .int .i64 s.t_10 ∧ ρ 11 = .bool s.t_11))))
def G11 : GT S := fun w0 F0 s ρ w => ∃ F, Wk nrow w0 F0 F w ∧ ∃ g2, c2 ρ g2 w0 w F s (c3 w0 w F ρ s (c7 w0 w F ρ s (c8 w0 w F ρ s (ρ 10 = .int .i64 s.t_10 ∧ ρ 52 = .bool s.t_52))))
def G12 : GT S := fun w0 F0 s ρ w => ∃ F, Wk nrow w0 F0 F w ∧ ∃ g2, c2 ρ g2 w0 w F s (c3 w0 w F ρ s (c7 w0 w F ρ s (c8 w0 w F ρ s (ρ 10 = .int .i64 s.t_10))))
def G13 : GT S := fun w0 F0 s ρ w => ∃ F, Wk nrow w0 F0 F w ∧ OwnV kBool 4 (Bs w0 nrow) F w (ρ 4) s.t_4
set_option maxHeartbeats 4000000 in
set_option maxRecDepth 20000 in
theorem ref (w0 : World) (F0 : BSet) : ∃ c, Try.f43.body = some c ∧ Ref Try.prog 66 c (G0 w0 F0) body (fun _ _ _ => False) (fun _ _ _ _ => False) (fun r ρ w => ∃ s, retv s = r ∧ G13 w0 F0 s ρ w) := by
  refine ⟨_, rfl, ?_⟩; unfold body; refine Ref.seq (B := G1 w0 F0) ?_ ?_
  · refine Ref.region (fun s ρ w s' h hr => ?_); obtain ⟨F, hW, h0, h1⟩ := h; refine ol_e (f_box hW rfl h0) rfl rfl ?_; rintro _ w2 ⟨g1, rfl, kw1, ho3⟩; have hW4 := hW.trans kw1; have st1 := kw1.stp hW.ok; refine ol_a rfl ?_; exact ol_fin hr ⟨F, hW4, g1, (h1.keep st1), rfl, (ho3.base (row := nrow) hW.le)⟩
  refine Ref.seq (B := G2 w0 F0) ?_ ?_
  · refine Ref.region (fun s ρ w s' h hr => ?_); obtain ⟨F, hW, g2, h1, p2, h2⟩ := h; refine ol_e (f_mkMap (i := .i64) (enc := (fun x => (.int .i64 x : Value))) hW) rfl rfl ?_; rintro v5 w6 ⟨kw1, ho7⟩; have hW8 := hW.trans kw1; have st1 := kw1.stp hW.ok; refine ol_a rfl ?_; exact ol_fin hr ⟨F, hW8, g2, (h1.keep st1), p2, (h2.wk kw1 hW.ok), (ho7.base (row := nrow) hW.le)⟩
  refine Ref.seq (B := G2 w0 F0) ?_ ?_
  · refine Ref.seq (B := G3 w0 F0) ?_ ?_
    · refine Ref.region (fun s ρ w s' h hr => ?_); obtain ⟨F, hW, g2, h1, p2, h2, h5⟩ := h; refine ol_v (e_fa fa_24_0 p2) rfl ?_; obtain ⟨v9, hl10, hs11⟩ := LiesV.sl ((h2).at_.fld fl_ObjectStore_0); refine ol_v (e_ld ty_22 hl10 rfl) rfl ?_; obtain ⟨A12, c13, e14, hc15, R16⟩ := id hs11; refine ol_v (e_len (SlT.sl sl_22) e14) rfl ?_; refine ol_m rfl ?_; exact ol_fin hr ⟨F, hW, g2, h1, p2, h2, h5, hs11, rfl, rfl⟩
    refine Ref.block ?_; refine Ref.loop ?_; refine Ref.seq (B := G4 w0 F0) ?_ ?_
    · refine Ref.region (fun s ρ w s' h hr => ?_); obtain ⟨F, hW, g2, h1, p2, h2, h5, h14, h15, h16⟩ := h; refine ol_v (e_lss h16 h15) rfl ?_; exact ol_fin hr ⟨F, hW, g2, h1, p2, h2, h5, h14, h15, h16, rfl⟩
    refine Ref.seq (B := G3 w0 F0) ?_ ?_
    · refine Ref.condP (b := fun s => s.t_17) (L := G3 w0 F0) (K := G2 w0 F0) ?_ ?_ ?_
      · rintro s ρ w ⟨F, hW, g2, h1, p2, h2, h5, h14, h15, h16, h17⟩; exact ⟨h17, ⟨F, hW, g2, h1, p2, h2, h5, h14, h15, h16⟩, F, hW, g2, h1, p2, h2, h5⟩
      · exact Ref.skip
      · exact Ref.exit (fun s ρ w h => h)
    refine Ref.seq (B := G3 w0 F0) ?_ ?_
    · refine Ref.block ?_; refine Ref.seq (B := G5 w0 F0) ?_ ?_
      · refine Ref.region (fun s ρ w s' h hr => ?_); obtain ⟨F, hW, g2, h1, p2, h2, h5, h14, h15, h16⟩ := h; refine ol_m h16 ?_; obtain ⟨x17, hx17, hr⟩ := bind_some' hr; obtain ⟨A18, c19, e20, hc21, R22⟩ := id h14; obtain ⟨b23, o24, hA25, L26⟩ := Row.at_ R22 hx17; refine ol_v (e_ix (SlT.sl sl_22) (SlT.sz sl_22) hA25 hx17 e20 h16) rfl ?_; obtain ⟨v27, hl28⟩ := LiesAt.v L26.at_; refine ol_v (e_ld ty_39 hl28 rfl) rfl ?_; refine ol_e (f_alloc zer_39 hW) rfl rfl ?_; rintro _ w30 ⟨g29, rfl, kw1, ho31⟩; have hW32 := hW.trans kw1; have st1 := kw1.stp hW.ok; refine ol_a rfl ?_; refine ol_eN (f_stB hW32 (ho31.base (row := nrow) hW.le) (FldS.whole _) ty_39 (hl28.val.keep st1) rfl rfl) rfl ?_; rintro - w33 ⟨hW34, ho35, hg2, st2⟩; exact ol_fin hr ⟨F, hW34, g2, g29, (h1.keep (st1.trans st2)), p2, ((h2.wk kw1 hW.ok).mut (apart_bb (ho31.base (row := nrow) hW.le) (h2.wk kw1 hW.ok) rfl) hg2 st2), ((h5.wk kw1 hW.ok).mut (apart_mb (h5.wk kw1 hW.ok) (ho31.base (row := nrow) hW.le)).symm hg2 st2), rfl, rfl, ho35, (h14.keep (st1.trans st2)), h15, h16⟩
      refine Ref.region (fun s ρ w s' h hr => ?_); obtain ⟨F, hW, g2, g7, h1, p2, h2, h5, h6, p7, h7, h14, h15, h16⟩ := h; refine ol_m rfl ?_; refine ol_v (e_fa fa_39_0 p7) rfl ?_; refine ol_v (e_ld ty_3 (LiesV.int ((h7).at_.fld fl_StoredObject_0)) rfl) rfl ?_; refine ol_m h6 ?_; refine ol_eN (f_mput (u := s.t_6) mp_95 hW h5 rfl rfl rfl) rfl ?_; rintro - w36 ⟨hW37, ho38, hg1, st1⟩; exact ol_fin hr ⟨F, hW37, g2, (h1.keep st1), p2, (h2.mut (apart_mb h5 h2) hg1 st1), ho38, (h14.keep st1), h15, h16⟩
    refine Ref.region (fun s ρ w s' h hr => ?_); obtain ⟨F, hW, g2, h1, p2, h2, h5, h14, h15, h16⟩ := h; refine ol_v (e_add h16 rfl) rfl ?_; refine ol_m rfl ?_; exact ol_fin hr ⟨F, hW, g2, h1, p2, h2, h5, h14, h15, rfl⟩
  refine Ref.seq (B := G6 w0 F0) ?_ ?_
  · refine Ref.region (fun s ρ w s' h hr => ?_); obtain ⟨F, hW, g2, h1, p2, h2, h5⟩ := h; refine ol_v (e_fa fa_24_0 p2) rfl ?_; obtain ⟨v39, hl40, hs41⟩ := LiesV.sl ((h2).at_.fld fl_ObjectStore_0); refine ol_v (e_ld ty_22 hl40 rfl) rfl ?_; obtain ⟨A42, c43, e44, hc45, R46⟩ := id hs41; refine ol_v (e_len (SlT.sl sl_22) e44) rfl ?_; obtain ⟨x47, hx47, hr⟩ := bind_some' hr; refine ol_e (f_mks sl_34 hW rfl rfl hx47) rfl rfl ?_; rintro v48 w49 ⟨kw1, ho50⟩; have hW51 := hW.trans kw1; have st1 := kw1.stp hW.ok; refine ol_a rfl ?_; exact ol_fin hr ⟨F, hW51, g2, (h1.keep st1), p2, (h2.wk kw1 hW.ok), (h5.wk kw1 hW.ok), (ho50.base (row := nrow) hW.le)⟩
  refine Ref.seq (B := G9 w0 F0) ?_ ?_
  · refine Ref.seq (B := G7 w0 F0) ?_ ?_
    · refine Ref.region (fun s ρ w s' h hr => ?_); obtain ⟨F, hW, g2, h1, p2, h2, h5, h8⟩ := h; refine ol_m rfl ?_; obtain ⟨x52, hx52, hr⟩ := bind_some' hr; refine ol_e (f_call [(ρ 1)] fn_32 (lcons rfl rfl) (CloneI.calls hW.ok h1 hx52)) rfl rfl ?_; rintro v55 w53 ⟨Fz54, _, rfl, kw1, hk56⟩; have hW58 := hW.trans kw1; have st1 := kw1.stp hW.ok; refine ol_a rfl ?_; exact ol_fin hr ⟨Fz54, hW58, g2, p2, (h2.wk kw1 hW.ok), (h5.wk kw1 hW.ok), (h8.wk kw1 hW.ok), (hk56.base (row := nrow) hW.le)⟩
    refine Ref.block ?_; refine Ref.loop ?_; refine Ref.seq (B := G7 w0 F0) ?_ ?_
    · refine Ref.seq (B := G8 w0 F0) ?_ ?_
      · refine Ref.region (fun s ρ w s' h hr => ?_); obtain ⟨F, hW, g2, p2, h2, h5, h8, h9⟩ := h; refine ol_m rfl ?_; obtain ⟨A59, c60, e61, hc62⟩ := h9.shape; refine ol_v (e_len (SlT.sl sl_26) e61) rfl ?_; refine ol_v (e_gtr rfl rfl) rfl ?_; exact ol_fin hr ⟨F, hW, g2, p2, h2, h5, h8, h9, rfl⟩
      refine Ref.condP (b := fun s => s.t_34) (L := G7 w0 F0) (K := G9 w0 F0) ?_ ?_ ?_
      · rintro s ρ w ⟨F, hW, g2, p2, h2, h5, h8, h9, h34⟩; exact ⟨h34, ⟨F, hW, g2, p2, h2, h5, h8, h9⟩, F, hW, h8⟩
      · exact Ref.skip
      · exact Ref.exit (fun s ρ w h => h)
    refine Ref.block ?_; refine Ref.seq (B := G10 w0 F0) ?_ ?_
    · refine Ref.region (fun s ρ w s' h hr => ?_); obtain ⟨F, hW, g2, p2, h2, h5, h8, h9⟩ := h; refine ol_m rfl ?_; refine ol_m rfl ?_; obtain ⟨x63, hx63, hr⟩ := bind_some' hr; obtain ⟨g64, o65, c66, hv67, L68⟩ := OwnV.at_ h9 hx63; refine ol_v (e_ixO sl_26 hv67 hx63 rfl rfl) rfl ?_; refine ol_v (e_ld ty_3 (LiesV.int L68) rfl) rfl ?_; refine ol_v (e_lookOk (z := (0 : Int)) mp_95 h5 rfl rfl) rfl ?_; refine ol_m rfl ?_; refine ol_v (e_ext _ rfl rfl) rfl ?_; refine ol_v (e_ext _ rfl rfl) rfl ?_; refine ol_a rfl ?_; refine ol_a rfl ?_; exact ol_fin hr ⟨F, hW, g2, p2, h2, h5, h8, h9, rfl, rfl⟩
    refine Ref.seq (B := G10 w0 F0) ?_ ?_
    · refine Ref.region (fun s ρ w s' h hr => ?_); obtain ⟨F, hW, g2, p2, h2, h5, h8, h9, h10, h11⟩ := h; refine ol_m rfl ?_; obtain ⟨A69, c70, e71, hc72⟩ := h9.shape; obtain ⟨x73, hx73, hr⟩ := bind_some' hr; refine ol_v (e_slL (SlT.sl sl_26) (SlT.sz sl_26) hc72 e71 rfl hx73) rfl ?_; obtain ⟨hn74, hbn75⟩ := OwnV.cutFrom (OwnV.eqv e71.symm h9) hx73; refine ol_a rfl ?_; exact ol_fin hr ⟨F, hW, g2, p2, h2, h5, h8, hn74, h10, h11⟩
    refine Ref.seq (B := G11 w0 F0) ?_ ?_
    · refine Ref.region (fun s ρ w s' h hr => ?_); obtain ⟨F, hW, g2, p2, h2, h5, h8, h9, h10, h11⟩ := h; refine ol_m h11 ?_; obtain ⟨x84, hx85, hr⟩ := bind_some' hr; refine ol_cutA 7 46 52 (fun ρ' w' => w = w' ∧ ρ' 52 = .bool x84) rfl ?_ ?_
      · by_cases hb76 : s.t_11 = true
        · have hr := hx85; rw [if_pos hb76] at hr; refine ol_m rfl ?_; refine ol_yes rfl rfl (congrArg Value.bool hb76) ?_; refine ol_m rfl ?_; refine ol_yes rfl rfl (congrArg Value.bool hb76) ?_; refine ol_m h10 ?_; refine ol_yes rfl rfl (congrArg Value.bool hb76) ?_; obtain ⟨x78, hx78, hr⟩ := bind_some' hr; obtain ⟨g79, o80, c81, hv82, L83⟩ := OwnV.at_ h8 hx78; refine ol_v (e_ixO sl_34 hv82 hx78 rfl rfl) rfl ?_; refine ol_yes rfl rfl (congrArg Value.bool hb76) ?_; refine ol_v (e_ld ty_4 (LiesV.bool L83) rfl) rfl ?_; refine ol_yes rfl rfl (congrArg Value.bool hb76) ?_; refine ol_v (e_not_ rfl) rfl ?_; refine ol_v (e_pick true _ (congrArg Value.bool hb76) rfl) rfl ?_; exact ol_nil ⟨⟨rfl, (congrArg Value.bool (Option.some.inj hr))⟩, (Agr.refl _ _ _).u.u.u.u.u.u.u⟩
        · have hb77 := Bool.eq_false_iff.mpr hb76; have hr := hx85; rw [if_neg hb76] at hr; refine ol_m rfl ?_; refine ol_not rfl rfl rfl (congrArg Value.bool hb77) rfl ?_; refine ol_not rfl rfl rfl (congrArg Value.bool hb77) rfl ?_; refine ol_not rfl rfl rfl (congrArg Value.bool hb77) rfl ?_; refine ol_not rfl rfl rfl (congrArg Value.bool hb77) rfl ?_; refine ol_not rfl rfl rfl (congrArg Value.bool hb77) rfl ?_; refine ol_v (e_pick false _ (congrArg Value.bool hb77) rfl) rfl ?_; exact ol_nil ⟨⟨rfl, (congrArg Value.bool (Option.some.inj hr))⟩, (Agr.refl _ _ _).u.u.u.u.u.u.u⟩
      rintro ρ85 _ ⟨⟨rfl, hp85⟩, hAg85⟩; exact ol_fin hr ⟨F, hW, g2, ((hAg85 2 rfl).trans p2), h2, (MapV.eqv (hAg85 5 rfl) h5), (OwnV.eqv (hAg85 8 rfl) h8), (OwnV.eqv (hAg85 9 rfl) h9), ((hAg85 10 rfl).trans h10), hp85⟩
    refine Ref.condP (b := fun s => s.t_52) (L := G12 w0 F0) (K := G7 w0 F0) ?_ ?_ ?_
    · rintro s ρ w ⟨F, hW, g2, p2, h2, h5, h8, h9, h10, h52⟩; exact ⟨h52, ⟨F, hW, g2, p2, h2, h5, h8, h9, h10⟩, F, hW, g2, p2, h2, h5, h8, h9⟩
    · refine Ref.seq (B := G12 w0 F0) ?_ ?_
      · refine Ref.region (fun s ρ w s' h hr => ?_); obtain ⟨F, hW, g2, p2, h2, h5, h8, h9, h10⟩ := h; refine ol_m rfl ?_; refine ol_m h10 ?_; obtain ⟨x86, hx86, hr⟩ := bind_some' hr; obtain ⟨g87, o88, c89, hv90, L91⟩ := OwnV.at_ h8 hx86; refine ol_v (e_ixO sl_34 hv90 hx86 rfl rfl) rfl ?_; refine ol_eN (f_stO hW h8 hx86 (FldS.whole _) ty_4 (val_bool _) hv90 rfl rfl) rfl ?_; rintro - w92 ⟨hW93, ho94, hg1, st1⟩; exact ol_fin hr ⟨F, hW93, g2, p2, (h2.mut (apart_bo h2 h8 rfl).symm hg1 st1), (h5.mut (apart_mo h5 h8).symm hg1 st1), ho94, (h9.mut (apart_oo h8 h9 rfl) hg1 st1), h10⟩
      refine Ref.region (fun s ρ w s' h hr => ?_); obtain ⟨F, hW, g2, p2, h2, h5, h8, h9, h10⟩ := h; refine ol_m rfl ?_; refine ol_v (e_fa fa_24_0 p2) rfl ?_; obtain ⟨v95, hl96, hs97⟩ := LiesV.sl ((h2).at_.fld fl_ObjectStore_0); refine ol_v (e_ld ty_22 hl96 rfl) rfl ?_; refine ol_m h10 ?_; obtain ⟨x98, hx98, hr⟩ := bind_some' hr; obtain ⟨A99, c100, e101, hc102, R103⟩ := id hs97; obtain ⟨b104, o105, hA106, L107⟩ := Row.at_ R103 hx98; refine ol_v (e_ix (SlT.sl sl_22) (SlT.sz sl_22) hA106 hx98 e101 rfl) rfl ?_; refine ol_v (e_fa fa_39_1 rfl) rfl ?_; refine ol_v (e_fa fa_37_1 rfl) rfl ?_; obtain ⟨v108, hl109, hs110⟩ := LiesV.sl ((L107.fld fl_StoredObject_1).fld fl_Object_1).at_; refine ol_v (e_ld ty_26 hl109 rfl) rfl ?_; obtain ⟨x111, hx111, hr⟩ := bind_some' hr; refine ol_e (f_app sl_26 hW h9 hs110 hx111 rfl rfl) rfl rfl ?_; rintro v112 w113 ⟨hW114, ho115, hg1, st1, hor116⟩; refine ol_a rfl ?_; exact ol_fin hr ⟨F, hW114, g2, p2, (h2.mut (apart_bo h2 h9 rfl).symm hg1 st1), (h5.mut (apart_mo h5 h9).symm hg1 st1), (h8.mut (apart_oo h9 h8 rfl) hg1 st1), ho115⟩
    · exact Ref.skip
  refine Ref.seq (B := G13 w0 F0) ?_ ?_
  · refine Ref.region (fun s ρ w s' h hr => ?_); obtain ⟨F, hW, h8⟩ := h; refine ol_m rfl ?_; refine ol_a rfl ?_; exact ol_fin hr ⟨F, hW, h8⟩
  exact Ref.ret (fun s ρ w h => ⟨s, rfl, h⟩)
def post (w : World) (F : BSet) (r : R) (v : Value) (w' : World) : Prop := ∃ (F' : BSet) (v0' : Value), v = v0' ∧ Wk nrow w F F' w' ∧ OwnV kBool 4 (Nw w) F' w' v0' r
theorem calls {w : World} {F : BSet} (hok : ∀ b, F b → b < w.heap.size) {v0 : Value} {a0 : ObjectStore} (h0 : Val k_ObjectStore F w v0 a0) {v1 : Value} {a1 : (List Int)} (h1 : SlR (kInt .i64) F w v1 a1) {r : R} (hf : f a0 a1 = some r) : Calls Try.prog 43 #[v0, v1] w fun e w' => ∃ v, e = .returned v ∧ post w F r v w' := by
  obtain ⟨c, hc, href⟩ := ref w F; refine calls_of_ref (args := [v0, v1]) _ Try.func43 hc rfl rfl href ?_ (retOf_some hf) ?_
  · exact ⟨F, Wk.refl hok, h0, h1⟩
  · rintro ρ w' a ⟨s, rfl, F', hW, h4⟩ hF; refine ⟨_, run_results (rs := [.tmp 4]) rfl hF (vs := [ρ 4]) (⟨_, rfl, rfl⟩), ?_⟩; exact ⟨F', ρ 4, rfl, hW, h4.rebase (fun g hg => (h4.lt hg).1.resolve_right (fun h => h))⟩
end
end gc_mark

namespace gc_Mark
section
abbrev c1 (F : BSet) (w : World) (ρ : Env) (s : S) (X : Prop) : Prop := SlR (kInt .i64) F w (ρ 1) s.roots_1 ∧ X
abbrev c2 (ρ : Env) (g2 : Nat) (w0 w : World) (F : BSet) (s : S) (X : Prop) : Prop := ρ 2 = .pointer (some ⟨g2, 0, none⟩) ∧ Box k_ObjectStore 24 (Bs w0 nrow) F w g2 s.s_2 ∧ X
abbrev c3 (ρ : Env) (g5 : Nat) (w0 w : World) (F : BSet) (s : S) (X : Prop) : Prop := ρ 5 = .pointer (some ⟨g5, 0, none⟩) ∧ Box k_Fault 28 (Bs w0 nrow) F w g5 s.t_5 ∧ X
abbrev e3 (ρ : Env) (g5 : Nat) (w0 w : World) (F : BSet) (s : S) : Prop := ρ 5 = .pointer (some ⟨g5, 0, none⟩) ∧ Box k_Fault 28 (Bs w0 nrow) F w g5 s.t_5
abbrev c4 (ρ : Env) (g6 : Nat) (w0 w : World) (F : BSet) (s : S) (X : Prop) : Prop := ρ 6 = .pointer (some ⟨g6, 0, none⟩) ∧ Box k_Fault 28 (Bs w0 nrow) F w g6 s.f_6 ∧ X
abbrev c9 (w0 w : World) (F : BSet) (ρ : Env) (s : S) (X : Prop) : Prop := OwnV (kInt .i64) 3 (Bs w0 nrow) F w (ρ 7) s.out_7 ∧ X
abbrev e10 (F : BSet) (w : World) (ρ : Env) (s : S) : Prop := SlR kBool F w (ρ 22) s.t_22 ∧ ρ 23 = .int .i64 s.t_23 ∧ ρ 24 = .int .i64 s.t_24
def G0 : GT S := fun w0 F0 s ρ w => ∃ F, Wk nrow w0 F0 F w ∧ Val k_ObjectStore F w (ρ 0) s.s_0 ∧ SlR (kInt .i64) F w (ρ 1) s.roots_1
def G1 : GT S := fun w0 F0 s ρ w => ∃ F, Wk nrow w0 F0 F w ∧ ∃ g2 g5, c1 F w ρ s (c2 ρ g2 w0 w F s (e3 ρ g5 w0 w F s))
def G2 : GT S := fun w0 F0 s ρ w => ∃ F, Wk nrow w0 F0 F w ∧ ∃ g2 g5 g6, c1 F w ρ s (c2 ρ g2 w0 w F s (c3 ρ g5 w0 w F s (c4 ρ g6 w0 w F s (Apart (some g5) (some g6)))))
def G3 : GT S := fun w0 F0 s ρ w => ∃ F, Wk nrow w0 F0 F w ∧ ∃ g2 g5 g6, c1 F w ρ s (c2 ρ g2 w0 w F s (c3 ρ g5 w0 w F s (c4 ρ g6 w0 w F s (ρ 14 = .bool s.t_14 ∧ Apart (some g5) (some g6)))))
def G4 : GT S := fun w0 F0 s ρ w => ∃ F, Wk nrow w0 F0 F w ∧ ∃ g5 g6, c3 ρ g5 w0 w F s (c4 ρ g6 w0 w F s (Apart (some g5) (some g6)))
def G5 : GT S := fun w0 F0 s ρ w => ∃ F, Wk nrow w0 F0 F w ∧ ∃ g5, OwnV (kInt .i64) 3 (Bs w0 nrow) F w (ρ 4) s.t_4 ∧ e3 ρ g5 w0 w F s
def G6 : GT S := fun w0 F0 s ρ w => ∃ F, Wk nrow w0 F0 F w ∧ ∃ g2 g5, c1 F w ρ s (c2 ρ g2 w0 w F s (c3 ρ g5 w0 w F s (ρ 18 = .bool s.t_18)))
def G7 : GT S := fun w0 F0 s ρ w => ∃ F, Wk nrow w0 F0 F w ∧ ∃ g5, e3 ρ g5 w0 w F s
def G8 : GT S := fun w0 F0 s ρ w => ∃ F, Wk nrow w0 F0 F w ∧ ∃ g2 g5, c1 F w ρ s (c2 ρ g2 w0 w F s (c3 ρ g5 w0 w F s (OwnV (kInt .i64) 3 (Bs w0 nrow) F w (ρ 7) s.out_7)))
def G9 : GT S := fun w0 F0 s ρ w => ∃ F, Wk nrow w0 F0 F w ∧ ∃ g2 g5, c2 ρ g2 w0 w F s (c3 ρ g5 w0 w F s (c9 w0 w F ρ s (e10 F w ρ s)))
def G10 : GT S := fun w0 F0 s ρ w => ∃ F, Wk nrow w0 F0 F w ∧ ∃ g2 g5, c2 ρ g2 w0 w F s (c3 ρ g5 w0 w F s (c9 w0 w F ρ s (SlR kBool F w (ρ 22) s.t_22 ∧ ρ 23 = .int .i64 s.t_23 ∧ ρ 24 = .int .i64 s.t_24 ∧ ρ 25 = .bool s.t_25)))
def G11 : GT S := fun w0 F0 s ρ w => ∃ F, Wk nrow w0 F0 F w ∧ ∃ g5, c3 ρ g5 w0 w F s (OwnV (kInt .i64) 3 (Bs w0 nrow) F w (ρ 7) s.out_7)
def G12 : GT S := fun w0 F0 s ρ w => ∃ F, Wk nrow w0 F0 F w ∧ ∃ g2 g5, c2 ρ g2 w0 w F s (c3 ρ g5 w0 w F s (c9 w0 w F ρ s (ρ 8 = .int .i64 s.i_8 ∧ ρ 9 = .bool s.is_9 ∧ e10 F w ρ s)))
def G13 : GT S := fun w0 F0 s ρ w => ∃ F, Wk nrow w0 F0 F w ∧ ∃ g2 g5, c2 ρ g2 w0 w F s (c3 ρ g5 w0 w F s (c9 w0 w F ρ s (ρ 8 = .int .i64 s.i_8 ∧ SlR kBool F w (ρ 22) s.t_22 ∧ ρ 23 = .int .i64 s.t_23 ∧ ρ 24 = .int .i64 s.t_24 ∧ ρ 29 = .bool s.t_29)))
def G14 : GT S := fun w0 F0 s ρ w => ∃ F, Wk nrow w0 F0 F w ∧ ∃ g2 g5, c2 ρ g2 w0 w F s (c3 ρ g5 w0 w F s (c9 w0 w F ρ s (ρ 8 = .int .i64 s.i_8 ∧ e10 F w ρ s)))
set_option maxHeartbeats 4000000 in
set_option maxRecDepth 20000 in
theorem ref (w0 : World) (F0 : BSet) : ∃ c, Try.f23.body = some c ∧ Ref Try.prog 42 c (G0 w0 F0) body (fun _ _ _ => False) (fun _ _ _ _ => False) (fun r ρ w => ∃ s, retv s = r ∧ G5 w0 F0 s ρ w) := by
  refine ⟨_, rfl, ?_⟩; unfold body; refine Ref.seq (B := G1 w0 F0) ?_ ?_
  · refine Ref.region (fun s ρ w s' h hr => ?_); obtain ⟨F, hW, h0, h1⟩ := h; refine ol_e (f_box hW rfl h0) rfl rfl ?_; rintro _ w2 ⟨g1, rfl, kw1, ho3⟩; have hW4 := hW.trans kw1; have st1 := kw1.stp hW.ok; refine ol_a rfl ?_; refine ol_e (f_alloc zer_28 hW4) rfl rfl ?_; rintro _ w6 ⟨g5, rfl, kw2, ho7⟩; have hW8 := hW4.trans kw2; have st2 := kw2.stp hW4.ok; exact ol_fin hr ⟨F, hW8, g1, g5, (h1.keep (st1.trans st2)), rfl, ((ho3.base (row := nrow) hW.le).wk kw2 hW4.ok), rfl, (ho7.base (row := nrow) hW4.le)⟩
  refine Ref.seq (B := G1 w0 F0) ?_ ?_
  · refine Ref.seq (B := G2 w0 F0) ?_ ?_
    · refine Ref.region (fun s ρ w s' h hr => ?_); obtain ⟨F, hW, g2, g5, h1, p2, h2, p5, h5⟩ := h; obtain ⟨v9, hl10⟩ := LiesAt.v (h2).at_; refine ol_v (e_ld ty_24 hl10 p2) rfl ?_; obtain ⟨x11, hx11, hr⟩ := bind_some' hr; refine ol_e (f_call [v9] fn_26 (lcons rfl rfl) (objects_Validate.calls hW.ok hl10.val hx11)) rfl rfl ?_; rintro v14 w12 ⟨Fz13, _, rfl, kw1, hk15⟩; have hW17 := hW.trans kw1; have st1 := kw1.stp hW.ok; refine ol_e (f_alloc zer_28 hW17) rfl rfl ?_; rintro _ w19 ⟨g18, rfl, kw2, ho20⟩; have hW21 := hW17.trans kw2; have st2 := kw2.stp hW17.ok; refine ol_eN (f_stB hW21 (ho20.base (row := nrow) hW17.le) (FldS.whole _) ty_28 (hk15.keep st2) rfl rfl) rfl ?_; rintro - w22 ⟨hW23, ho24, hg3, st3⟩; have z1 := (h2.wk kw1 hW.ok).wk kw2 hW17.ok; have z2 := h5.wk kw1 hW.ok; exact ol_fin hr ⟨Fz13, hW23, g2, g5, g18, (h1.keep (st1.trans (st2.trans st3))), p2, (z1.mut (apart_bb (ho20.base (row := nrow) hW17.le) z1 rfl) hg3 st3), p5, ((z2.wk kw2 hW17.ok).mut (Apart.base (fun _ e_ => by cases e_; exact ho20.ge) z2.ltw) hg3 st3), rfl, ho24, (Apart.base (fun _ e_ => by cases e_; exact ho20.ge) z2.ltw).symm⟩
    refine Ref.seq (B := G3 w0 F0) ?_ ?_
    · refine Ref.region (fun s ρ w s' h hr => ?_); obtain ⟨F, hW, g2, g5, g6, h1, p2, h2, p5, h5, p6, h6, a5b_6b⟩ := h; obtain ⟨v25, hl26⟩ := LiesAt.v (h6).at_; refine ol_v (e_ld ty_28 hl26 p6) rfl ?_; refine ol_v (e_bld (cells := #[.int .i64 0, .int .i64 0]) bld_28 (vs := []) rfl rfl) rfl ?_; have hb27 : Val k_Fault F w (.agg #[.int .i64 0, .int .i64 0]) (⟨(0 : Int), (0 : Int)⟩ : Fault) := mk_Fault (val_int _ _) (val_int _ _); refine ol_v (e_tneq (eq_Fault_28 hl26.val hb27) rfl rfl) rfl ?_; exact ol_fin hr ⟨F, hW, g2, g5, g6, h1, p2, h2, p5, h5, p6, h6, rfl, a5b_6b⟩
    refine Ref.condP (b := fun s => s.t_14) (L := G4 w0 F0) (K := G1 w0 F0) ?_ ?_ ?_
    · rintro s ρ w ⟨F, hW, g2, g5, g6, h1, p2, h2, p5, h5, p6, h6, h14, a5b_6b⟩; exact ⟨h14, ⟨F, hW, g5, g6, p5, h5, p6, h6, a5b_6b⟩, F, hW, g2, g5, h1, p2, h2, p5, h5⟩
    · refine Ref.seq (B := G5 w0 F0) ?_ ?_
      · refine Ref.regionD 2 (by kernel_rfl) (by kernel_rfl) (fun s ρ w ⟨F, hW, g5, g6, p5, h5, p6, h6, a5b_6b⟩ => ⟨F, hW.drewS, g5, g6, p5, h5.wk (Wk.drew (row := nrow) hW.ok) hW.ok, p6, h6.wk (Wk.drew (row := nrow) hW.ok) hW.ok, a5b_6b⟩) (fun s ρ w s' h hr => ?_); obtain ⟨F, hW, g5, g6, p5, h5, p6, h6, a5b_6b⟩ := h; obtain ⟨v28, hl29⟩ := LiesAt.v (h6).at_; refine ol_v (e_ld ty_28 hl29 p6) rfl ?_; refine ol_a rfl ?_; refine ol_eN (f_stB hW h5 (FldS.whole _) ty_28 hl29.val p5 rfl) rfl ?_; rintro - w30 ⟨hW31, ho32, hg1, st1⟩; exact ol_fin hr ⟨F, hW31, g5, ((OwnV.nil (kInt .i64) 3 (Bs w0 nrow) F w).mut (apart_bo h5 (OwnV.nil (kInt .i64) 3 (Bs w0 nrow) F w) rfl) hg1 st1), p5, ho32⟩
      exact Ref.ret (fun s ρ w h => ⟨s, rfl, h⟩)
    · exact Ref.skip
  refine Ref.seq (B := G1 w0 F0) ?_ ?_
  · refine Ref.seq (B := G6 w0 F0) ?_ ?_
    · refine Ref.region (fun s ρ w s' h hr => ?_); obtain ⟨F, hW, g2, g5, h1, p2, h2, p5, h5⟩ := h; refine ol_m rfl ?_; obtain ⟨A33, c34, e35, hc36, R37⟩ := id h1; refine ol_v (e_len (SlT.sl sl_26) e35) rfl ?_; refine ol_v (e_gtr rfl rfl) rfl ?_; exact ol_fin hr ⟨F, hW, g2, g5, h1, p2, h2, p5, h5, rfl⟩
    refine Ref.condP (b := fun s => s.t_18) (L := G7 w0 F0) (K := G1 w0 F0) ?_ ?_ ?_
    · rintro s ρ w ⟨F, hW, g2, g5, h1, p2, h2, p5, h5, h18⟩; exact ⟨h18, ⟨F, hW, g5, p5, h5⟩, F, hW, g2, g5, h1, p2, h2, p5, h5⟩
    · refine Ref.seq (B := G5 w0 F0) ?_ ?_
      · refine Ref.region (fun s ρ w s' h hr => ?_); obtain ⟨F, hW, g5, p5, h5⟩ := h; refine ol_v (e_bld (cells := #[.int .i64 (2), .int .i64 (-1)]) bld_28 (vs := [(0, .int .i64 (2)), (1, .int .i64 (-1))]) (lcons (congrArg (Prod.mk 0) rfl) (lcons (congrArg (Prod.mk 1) rfl) rfl)) rfl) rfl ?_; have hb38 : Val k_Fault F w (.agg #[.int .i64 (2), .int .i64 (-1)]) (⟨(2 : Int), (-1 : Int)⟩ : Fault) := mk_Fault (val_int _ _) (val_int _ _); refine ol_a rfl ?_; refine ol_eN (f_stB hW h5 (FldS.whole _) ty_28 hb38 p5 rfl) rfl ?_; rintro - w39 ⟨hW40, ho41, hg1, st1⟩; exact ol_fin hr ⟨F, hW40, g5, ((OwnV.nil (kInt .i64) 3 (Bs w0 nrow) F w).mut (apart_bo h5 (OwnV.nil (kInt .i64) 3 (Bs w0 nrow) F w) rfl) hg1 st1), p5, ho41⟩
      exact Ref.ret (fun s ρ w h => ⟨s, rfl, h⟩)
    · exact Ref.skip
  refine Ref.seq (B := G8 w0 F0) ?_ ?_
  · refine Ref.region (fun s ρ w s' h hr => ?_); obtain ⟨F, hW, g2, g5, h1, p2, h2, p5, h5⟩ := h; refine ol_a rfl ?_; exact ol_fin hr ⟨F, hW, g2, g5, h1, p2, h2, p5, h5, (OwnV.nil (kInt .i64) 3 (Bs w0 nrow) F w)⟩
  refine Ref.seq (B := G11 w0 F0) ?_ ?_
  · refine Ref.seq (B := G9 w0 F0) ?_ ?_
    · refine Ref.region (fun s ρ w s' h hr => ?_); obtain ⟨F, hW, g2, g5, h1, p2, h2, p5, h5, h7⟩ := h; obtain ⟨v42, hl43⟩ := LiesAt.v (h2).at_; refine ol_v (e_ld ty_24 hl43 p2) rfl ?_; refine ol_m rfl ?_; obtain ⟨x44, hx44, hr⟩ := bind_some' hr; refine ol_e (f_call [v42, (ρ 1)] fn_43 (lcons rfl (lcons rfl rfl)) (gc_mark.calls hW.ok hl43.val h1 hx44)) rfl rfl ?_; rintro v47 w45 ⟨Fz46, _, rfl, kw1, hk48⟩; have hW50 := hW.trans kw1; have st1 := kw1.stp hW.ok; obtain ⟨Fz51, hWz52, st2, hF2, hz53⟩ := ((hk48.base (row := nrow) hW.le)).frozen hW50; obtain ⟨A54, c55, e56, hc57, R58⟩ := id hz53; refine ol_v (e_len (SlT.sl sl_34) e56) rfl ?_; refine ol_m rfl ?_; exact ol_fin hr ⟨Fz51, hWz52, g2, g5, p2, ((h2.wk kw1 hW.ok).frz (apart_bo (h2.wk kw1 hW.ok) (hk48.base (row := nrow) hW.le) rfl).symm hF2 st2), p5, ((h5.wk kw1 hW.ok).frz (apart_bo (h5.wk kw1 hW.ok) (hk48.base (row := nrow) hW.le) rfl).symm hF2 st2), ((h7.wk kw1 hW.ok).frz (apart_oo (hk48.base (row := nrow) hW.le) (h7.wk kw1 hW.ok) rfl) hF2 st2), hz53, rfl, rfl⟩
    refine Ref.block ?_; refine Ref.loop ?_; refine Ref.seq (B := G10 w0 F0) ?_ ?_
    · refine Ref.region (fun s ρ w s' h hr => ?_); obtain ⟨F, hW, g2, g5, p2, h2, p5, h5, h7, h22, h23, h24⟩ := h; refine ol_v (e_lss h24 h23) rfl ?_; exact ol_fin hr ⟨F, hW, g2, g5, p2, h2, p5, h5, h7, h22, h23, h24, rfl⟩
    refine Ref.seq (B := G9 w0 F0) ?_ ?_
    · refine Ref.condP (b := fun s => s.t_25) (L := G9 w0 F0) (K := G11 w0 F0) ?_ ?_ ?_
      · rintro s ρ w ⟨F, hW, g2, g5, p2, h2, p5, h5, h7, h22, h23, h24, h25⟩; exact ⟨h25, ⟨F, hW, g2, g5, p2, h2, p5, h5, h7, h22, h23, h24⟩, F, hW, g5, p5, h5, h7⟩
      · exact Ref.skip
      · exact Ref.exit (fun s ρ w h => h)
    refine Ref.seq (B := G9 w0 F0) ?_ ?_
    · refine Ref.block ?_; refine Ref.seq (B := G12 w0 F0) ?_ ?_
      · refine Ref.region (fun s ρ w s' h hr => ?_); obtain ⟨F, hW, g2, g5, p2, h2, p5, h5, h7, h22, h23, h24⟩ := h; refine ol_m h24 ?_; obtain ⟨x59, hx59, hr⟩ := bind_some' hr; obtain ⟨A60, c61, e62, hc63, R64⟩ := id h22; obtain ⟨b65, o66, hA67, L68⟩ := Row.at_ R64 hx59; refine ol_v (e_ix (SlT.sl sl_34) (SlT.sz sl_34) hA67 hx59 e62 h24) rfl ?_; refine ol_v (e_ld ty_4 (LiesV.bool L68.at_) rfl) rfl ?_; refine ol_a rfl ?_; refine ol_a rfl ?_; exact ol_fin hr ⟨F, hW, g2, g5, p2, h2, p5, h5, h7, rfl, rfl, h22, h23, h24⟩
      refine Ref.seq (B := G13 w0 F0) ?_ ?_
      · refine Ref.region (fun s ρ w s' h hr => ?_); obtain ⟨F, hW, g2, g5, p2, h2, p5, h5, h7, h8, h9, h22, h23, h24⟩ := h; refine ol_m h9 ?_; exact ol_fin hr ⟨F, hW, g2, g5, p2, h2, p5, h5, h7, h8, h22, h23, h24, rfl⟩
      refine Ref.condP (b := fun s => s.t_29) (L := G14 w0 F0) (K := G9 w0 F0) ?_ ?_ ?_
      · rintro s ρ w ⟨F, hW, g2, g5, p2, h2, p5, h5, h7, h8, h22, h23, h24, h29⟩; exact ⟨h29, ⟨F, hW, g2, g5, p2, h2, p5, h5, h7, h8, h22, h23, h24⟩, F, hW, g2, g5, p2, h2, p5, h5, h7, h22, h23, h24⟩
      · refine Ref.region (fun s ρ w s' h hr => ?_); obtain ⟨F, hW, g2, g5, p2, h2, p5, h5, h7, h8, h22, h23, h24⟩ := h; refine ol_m rfl ?_; refine ol_v (e_fa fa_24_0 p2) rfl ?_; obtain ⟨v69, hl70, hs71⟩ := LiesV.sl ((h2).at_.fld fl_ObjectStore_0); refine ol_v (e_ld ty_22 hl70 rfl) rfl ?_; refine ol_m h8 ?_; obtain ⟨x72, hx72, hr⟩ := bind_some' hr; obtain ⟨A73, c74, e75, hc76, R77⟩ := id hs71; obtain ⟨b78, o79, hA80, L81⟩ := Row.at_ R77 hx72; refine ol_v (e_ix (SlT.sl sl_22) (SlT.sz sl_22) hA80 hx72 e75 rfl) rfl ?_; refine ol_v (e_fa fa_39_0 rfl) rfl ?_; refine ol_v (e_ld ty_3 (LiesV.int (L81.fld fl_StoredObject_0).at_) rfl) rfl ?_; refine ol_e (f_bslF sl_26 hW ([x72.Digest] : List Int) [.int .i64 x72.Digest] (by exact ⟨_, _, rfl, (val_int _ _), rfl⟩) rfl (Nat.le_of_ble_eq_true rfl) (lcons (congrArg (Prod.mk 0) rfl) rfl)) rfl rfl ?_; rintro v82 w83 ⟨Fz85, kw1, ho84⟩; have hW86 := hW.trans kw1; have st1 := kw1.stp hW.ok; obtain ⟨x87, hx87, hr⟩ := bind_some' hr; have z3 := h7.wk kw1 hW.ok; refine ol_e (f_app sl_26 hW86 z3 ho84 hx87 rfl rfl) rfl rfl ?_; rintro v88 w89 ⟨hW90, ho91, hg2, st2, hor92⟩; refine ol_a rfl ?_; exact ol_fin hr ⟨Fz85, hW90, g2, g5, p2, ((h2.wk kw1 hW.ok).mut (apart_bo (h2.wk kw1 hW.ok) z3 rfl).symm hg2 st2), p5, ((h5.wk kw1 hW.ok).mut (apart_bo (h5.wk kw1 hW.ok) z3 rfl).symm hg2 st2), ho91, (h22.keep (st1.trans st2)), h23, h24⟩
      · exact Ref.skip
    refine Ref.region (fun s ρ w s' h hr => ?_); obtain ⟨F, hW, g2, g5, p2, h2, p5, h5, h7, h22, h23, h24⟩ := h; refine ol_v (e_add h24 rfl) rfl ?_; refine ol_m rfl ?_; exact ol_fin hr ⟨F, hW, g2, g5, p2, h2, p5, h5, h7, h22, h23, rfl⟩
  refine Ref.seq (B := G5 w0 F0) ?_ ?_
  · refine Ref.region (fun s ρ w s' h hr => ?_); obtain ⟨F, hW, g5, p5, h5, h7⟩ := h; refine ol_m rfl ?_; refine ol_v (e_bld (cells := #[.int .i64 0, .int .i64 0]) bld_28 (vs := []) rfl rfl) rfl ?_; have hb93 : Val k_Fault F w (.agg #[.int .i64 0, .int .i64 0]) (⟨(0 : Int), (0 : Int)⟩ : Fault) := mk_Fault (val_int _ _) (val_int _ _); refine ol_a rfl ?_; refine ol_eN (f_stB hW h5 (FldS.whole _) ty_28 hb93 p5 rfl) rfl ?_; rintro - w94 ⟨hW95, ho96, hg1, st1⟩; exact ol_fin hr ⟨F, hW95, g5, (h7.mut (apart_bo h5 h7 rfl) hg1 st1), p5, ho96⟩
  exact Ref.ret (fun s ρ w h => ⟨s, rfl, h⟩)
def post (w : World) (F : BSet) (r : R) (v : Value) (w' : World) : Prop := ∃ (F' : BSet) (v0' : Value) (v1' : Value), v = .tuple #[v0', v1'] ∧ Wk nrow w F F' w' ∧ OwnV (kInt .i64) 3 (Nw w) F' w' v0' r.1 ∧ Val k_Fault F' w' v1' r.2
theorem calls {w : World} {F : BSet} (hok : ∀ b, F b → b < w.heap.size) {v0 : Value} {a0 : ObjectStore} (h0 : Val k_ObjectStore F w v0 a0) {v1 : Value} {a1 : (List Int)} (h1 : SlR (kInt .i64) F w v1 a1) {r : R} (hf : f a0 a1 = some r) : Calls Try.prog 23 #[v0, v1] w fun e w' => ∃ v, e = .returned v ∧ post w F r v w' := by
  obtain ⟨c, hc, href⟩ := ref w F; refine calls_of_ref (args := [v0, v1]) _ Try.func23 hc rfl rfl href ?_ (retOf_some hf) ?_
  · exact ⟨F, Wk.refl hok, h0, h1⟩
  · rintro ρ w' a ⟨s, rfl, F', hW, g5, h4, p5, h5⟩ hF; obtain ⟨u5, l5, k5⟩ := res_box (P := Try.prog) ty_28 h5; refine ⟨_, run_results (rs := [.tmp 4, .cell 5 28]) rfl hF (vs := [ρ 4, u5]) (⟨_, rfl, ⟨_, _, _, rfl, p5, l5, rfl⟩⟩), ?_⟩; exact ⟨F', ρ 4, u5, rfl, hW, h4.rebase (fun g hg => (h4.lt hg).1.resolve_right (fun h => h)), k5⟩
end
end gc_Mark

namespace law4_PartialNeededIsReachable
section
abbrev c2 (F : BSet) (w : World) (ρ : Env) (s : S) (X : Prop) : Prop := SlR (kInt .i64) F w (ρ 2) s.t_2 ∧ X
abbrev c3 (ρ : Env) (g3 : Nat) (w0 w : World) (F : BSet) (s : S) (X : Prop) : Prop := ρ 3 = .pointer (some ⟨g3, 0, none⟩) ∧ Box k_ObjectStore 24 (Bs w0 nrow) F w g3 s.t_3 ∧ X
abbrev c6 (ρ : Env) (g7 : Nat) (w0 w : World) (F : BSet) (s : S) (X : Prop) : Prop := ρ 7 = .pointer (some ⟨g7, 0, none⟩) ∧ Box k_ObjectStore 24 (Bs w0 nrow) F w g7 s.t_7 ∧ X
abbrev c7 (F : BSet) (w : World) (ρ : Env) (s : S) (X : Prop) : Prop := SlR (kInt .i64) F w (ρ 8) s.t_8 ∧ X
abbrev c11 (F : BSet) (w : World) (ρ : Env) (s : S) (X : Prop) : Prop := SlR (kInt .i64) F w (ρ 10) s.t_10 ∧ X
abbrev c13 (F : BSet) (w : World) (ρ : Env) (s : S) (X : Prop) : Prop := SlR (kInt .i64) F w (ρ 12) s.t_12 ∧ X
def G0 : GT S := fun w0 F0 s ρ w => ∃ F, Wk nrow w0 F0 F w ∧ Val k_ObjectStore F w (ρ 0) s.t_0 ∧ ρ 1 = .int .i64 s.t_1 ∧ SlR (kInt .i64) F w (ρ 2) s.t_2
def G1 : GT S := fun w0 F0 s ρ w => ∃ F, Wk nrow w0 F0 F w ∧ ∃ g3, ρ 1 = .int .i64 s.t_1 ∧ c2 F w ρ s (ρ 3 = .pointer (some ⟨g3, 0, none⟩) ∧ Box k_ObjectStore 24 (Bs w0 nrow) F w g3 s.t_3)
def G2 : GT S := fun w0 F0 s ρ w => ∃ F, Wk nrow w0 F0 F w ∧ ∃ g3, ρ 1 = .int .i64 s.t_1 ∧ c2 F w ρ s (c3 ρ g3 w0 w F s (ρ 17 = .bool s.t_17))
def G3 : GT S := fun w0 F0 s ρ w => ∃ F, Wk nrow w0 F0 F w
def G4 : GT S := fun w0 F0 s ρ w => ∃ F, Wk nrow w0 F0 F w ∧ ρ 6 = .bool s.t_6
def G5 : GT S := fun w0 F0 s ρ w => ∃ F, Wk nrow w0 F0 F w ∧ ∃ g3 g7 g9, c2 F w ρ s (c3 ρ g3 w0 w F s (c6 ρ g7 w0 w F s (c7 F w ρ s (ρ 9 = .pointer (some ⟨g9, 0, none⟩) ∧ Box k_Fault 28 (Bs w0 nrow) F w g9 s.t_9 ∧ Apart (some g3) (some g7)))))
def G6 : GT S := fun w0 F0 s ρ w => ∃ F, Wk nrow w0 F0 F w ∧ ∃ g3 g7 g9, c2 F w ρ s (c3 ρ g3 w0 w F s (c6 ρ g7 w0 w F s (c7 F w ρ s (ρ 9 = .pointer (some ⟨g9, 0, none⟩) ∧ Box k_Fault 28 (Bs w0 nrow) F w g9 s.t_9 ∧ ρ 32 = .bool s.t_32 ∧ Apart (some g3) (some g7)))))
def G7 : GT S := fun w0 F0 s ρ w => ∃ F, Wk nrow w0 F0 F w ∧ ∃ g7 g9, c6 ρ g7 w0 w F s (c7 F w ρ s (ρ 9 = .pointer (some ⟨g9, 0, none⟩) ∧ Box k_Fault 28 (Bs w0 nrow) F w g9 s.t_9))
def G8 : GT S := fun w0 F0 s ρ w => ∃ F, Wk nrow w0 F0 F w ∧ ∃ g3 g7, c2 F w ρ s (c3 ρ g3 w0 w F s (c6 ρ g7 w0 w F s (c7 F w ρ s (Apart (some g3) (some g7)))))
def G9 : GT S := fun w0 F0 s ρ w => ∃ F, Wk nrow w0 F0 F w ∧ ∃ g3 g11, c2 F w ρ s (c3 ρ g3 w0 w F s (c7 F w ρ s (c11 F w ρ s (ρ 11 = .pointer (some ⟨g11, 0, none⟩) ∧ Box k_Fault 28 (Bs w0 nrow) F w g11 s.t_11))))
def G10 : GT S := fun w0 F0 s ρ w => ∃ F, Wk nrow w0 F0 F w ∧ ∃ g11 g13, c7 F w ρ s (c11 F w ρ s (ρ 11 = .pointer (some ⟨g11, 0, none⟩) ∧ Box k_Fault 28 (Bs w0 nrow) F w g11 s.t_11 ∧ c13 F w ρ s (ρ 13 = .pointer (some ⟨g13, 0, none⟩) ∧ Box k_Fault 28 (Bs w0 nrow) F w g13 s.t_13 ∧ Apart (some g11) (some g13))))
def G11 : GT S := fun w0 F0 s ρ w => ∃ F, Wk nrow w0 F0 F w ∧ ∃ g13, c7 F w ρ s (c11 F w ρ s (c13 F w ρ s (ρ 13 = .pointer (some ⟨g13, 0, none⟩) ∧ Box k_Fault 28 (Bs w0 nrow) F w g13 s.t_13 ∧ ρ 65 = .bool s.t_65)))
def G12 : GT S := fun w0 F0 s ρ w => ∃ F, Wk nrow w0 F0 F w ∧ ∃ g13, c11 F w ρ s (ρ 13 = .pointer (some ⟨g13, 0, none⟩) ∧ Box k_Fault 28 (Bs w0 nrow) F w g13 s.t_13)
def G13 : GT S := fun w0 F0 s ρ w => ∃ F, Wk nrow w0 F0 F w ∧ c7 F w ρ s (c11 F w ρ s (SlR (kInt .i64) F w (ρ 12) s.t_12))
def G14 : GT S := fun w0 F0 s ρ w => ∃ F, Wk nrow w0 F0 F w ∧ c7 F w ρ s (c11 F w ρ s (c13 F w ρ s (OwnV (kInt .i64) 3 (Bs w0 nrow) F w (ρ 14) s.t_14)))
def G15 : GT S := fun w0 F0 s ρ w => ∃ F, Wk nrow w0 F0 F w ∧ c7 F w ρ s (c11 F w ρ s (c13 F w ρ s (OwnV (kInt .i64) 3 (Bs w0 nrow) F w (ρ 14) s.t_14 ∧ ρ 15 = .int .i64 s.t_15)))
def G16 : GT S := fun w0 F0 s ρ w => ∃ F, Wk nrow w0 F0 F w ∧ c7 F w ρ s (c11 F w ρ s (c13 F w ρ s (OwnV (kInt .i64) 3 (Bs w0 nrow) F w (ρ 14) s.t_14 ∧ ρ 15 = .int .i64 s.t_15 ∧ ρ 77 = .bool s.t_77)))
def G17 : GT S := fun w0 F0 s ρ w => ∃ F, Wk nrow w0 F0 F w ∧ c11 F w ρ s (OwnV (kInt .i64) 3 (Bs w0 nrow) F w (ρ 14) s.t_14)
def G18 : GT S := fun w0 F0 s ρ w => ∃ F, Wk nrow w0 F0 F w ∧ c7 F w ρ s (c11 F w ρ s (c13 F w ρ s (OwnV (kInt .i64) 3 (Bs w0 nrow) F w (ρ 14) s.t_14 ∧ ρ 15 = .int .i64 s.t_15 ∧ ρ 85 = .bool s.t_85)))
set_option maxHeartbeats 4000000 in
set_option maxRecDepth 20000 in
theorem ref (w0 : World) (F0 : BSet) : ∃ c, Try.f8.body = some c ∧ Ref Try.prog 96 c (G0 w0 F0) body (fun _ _ _ => False) (fun _ _ _ _ => False) (fun r ρ w => ∃ s, retv s = r ∧ G4 w0 F0 s ρ w) := by
  refine ⟨_, rfl, ?_⟩; unfold body; refine Ref.seq (B := G1 w0 F0) ?_ ?_
  · refine Ref.region (fun s ρ w s' h hr => ?_); obtain ⟨F, hW, h0, h1, h2⟩ := h; refine ol_e (f_box hW rfl h0) rfl rfl ?_; rintro _ w2 ⟨g1, rfl, kw1, ho3⟩; have hW4 := hW.trans kw1; have st1 := kw1.stp hW.ok; refine ol_a rfl ?_; exact ol_fin hr ⟨F, hW4, g1, h1, (h2.keep st1), rfl, (ho3.base (row := nrow) hW.le)⟩
  refine Ref.seq (B := G1 w0 F0) ?_ ?_
  · refine Ref.seq (B := G2 w0 F0) ?_ ?_
    · refine Ref.region (fun s ρ w s' h hr => ?_); obtain ⟨F, hW, g3, h1, h2, p3, h3⟩ := h; obtain ⟨x5, hx5, hr⟩ := bind_some' hr; refine ol_e (f_call [] fn_9 rfl (law4_partialExample.calls hW.ok  hx5)) rfl rfl ?_; rintro _ w6 ⟨Fz7, rfl, kw1⟩; have hW9 := hW.trans kw1; have st1 := kw1.stp hW.ok; refine ol_v (e_not_ rfl) rfl ?_; exact ol_fin hr ⟨Fz7, hW9, g3, h1, (h2.keep st1), p3, (h3.wk kw1 hW.ok), rfl⟩
    refine Ref.condP (b := fun s => s.t_17) (L := G3 w0 F0) (K := G1 w0 F0) ?_ ?_ ?_
    · rintro s ρ w ⟨F, hW, g3, h1, h2, p3, h3, h17⟩; exact ⟨h17, ⟨F, hW⟩, F, hW, g3, h1, h2, p3, h3⟩
    · refine Ref.seq (B := G4 w0 F0) ?_ ?_
      · refine Ref.region (fun s ρ w s' h hr => ?_); obtain ⟨F, hW⟩ := h; refine ol_a rfl ?_; exact ol_fin hr ⟨F, hW, rfl⟩
      exact Ref.ret (fun s ρ w h => ⟨s, rfl, h⟩)
    · exact Ref.skip
  refine Ref.seq (B := G5 w0 F0) ?_ ?_
  · refine Ref.region (fun s ρ w s' h hr => ?_); obtain ⟨F, hW, g3, h1, h2, p3, h3⟩ := h; obtain ⟨v10, hl11⟩ := LiesAt.v (h3).at_; refine ol_v (e_ld ty_24 hl11 p3) rfl ?_; refine ol_m h1 ?_; obtain ⟨x12, hx12, hr⟩ := bind_some' hr; refine ol_e (f_call [v10, .int .i64 s.t_1] fn_10 (lcons rfl (lcons rfl rfl)) (partial_Filter.calls hW.ok hl11.val s.t_1 hx12)) rfl rfl ?_; rintro _ w13 ⟨Fz14, v15, v17, v19, rfl, kw1, hk16, hk18, hk20⟩; have hW22 := hW.trans kw1; have st1 := kw1.stp hW.ok; refine ol_m rfl ?_; refine ol_v (e_ext _ rfl rfl) rfl ?_; refine ol_v (e_ext _ rfl rfl) rfl ?_; refine ol_v (e_ext _ rfl rfl) rfl ?_; refine ol_e (f_alloc zer_24 hW22) rfl rfl ?_; rintro _ w24 ⟨g23, rfl, kw2, ho25⟩; have hW26 := hW22.trans kw2; have st2 := kw2.stp hW22.ok; refine ol_e (f_alloc zer_28 hW26) rfl rfl ?_; rintro _ w28 ⟨g27, rfl, kw3, ho29⟩; have hW30 := hW26.trans kw3; have st3 := kw3.stp hW26.ok; refine ol_eN (f_stB hW30 ((ho25.base (row := nrow) hW22.le).wk kw3 hW26.ok) (FldS.whole _) ty_24 (hk16.keep (st2.trans st3)) rfl rfl) rfl ?_; rintro - w31 ⟨hW32, ho33, hg4, st4⟩; obtain ⟨Fz34, hWz35, st5, hF5, hz36⟩ := (((((hk18.base (row := nrow) hW.le).wk kw2 hW22.ok).wk kw3 hW26.ok).mut (apart_bo ((ho25.base (row := nrow) hW22.le).wk kw3 hW26.ok) (((hk18.base (row := nrow) hW.le).wk kw2 hW22.ok).wk kw3 hW26.ok) rfl) hg4 st4)).frozen hW32; refine ol_a rfl ?_; refine ol_eN (f_stB hWz35 (((ho29.base (row := nrow) hW26.le).mut (apart_bb ((ho25.base (row := nrow) hW22.le).wk kw3 hW26.ok) (ho29.base (row := nrow) hW26.le) rfl) hg4 st4).frz (apart_bo ((ho29.base (row := nrow) hW26.le).mut (apart_bb ((ho25.base (row := nrow) hW22.le).wk kw3 hW26.ok) (ho29.base (row := nrow) hW26.le) rfl) hg4 st4) ((((hk18.base (row := nrow) hW.le).wk kw2 hW22.ok).wk kw3 hW26.ok).mut (apart_bo ((ho25.base (row := nrow) hW22.le).wk kw3 hW26.ok) (((hk18.base (row := nrow) hW.le).wk kw2 hW22.ok).wk kw3 hW26.ok) rfl) hg4 st4) rfl).symm hF5 st5) (FldS.whole _) ty_28 (hk20.keep (st2.trans (st3.trans (st4.trans st5)))) rfl rfl) rfl ?_; rintro - w37 ⟨hW38, ho39, hg6, st6⟩; have z2 := h3.wk kw1 hW.ok; have z1 := (z2.wk kw2 hW22.ok).wk kw3 hW26.ok; exact ol_fin hr ⟨Fz34, hW38, g3, g23, g27, (h2.keep (st1.trans (st2.trans (st3.trans (st4.trans (st5.trans st6)))))), p3, (((z1.mut (Apart.base (fun _ e_ => by cases e_; exact ho25.ge) z2.ltw) hg4 st4).frz (apart_bo (z1.mut (Apart.base (fun _ e_ => by cases e_; exact ho25.ge) z2.ltw) hg4 st4) ((((hk18.base (row := nrow) hW.le).wk kw2 hW22.ok).wk kw3 hW26.ok).mut (apart_bo ((ho25.base (row := nrow) hW22.le).wk kw3 hW26.ok) (((hk18.base (row := nrow) hW.le).wk kw2 hW22.ok).wk kw3 hW26.ok) rfl) hg4 st4) rfl).symm hF5 st5).mut (apart_bb (((ho29.base (row := nrow) hW26.le).mut (apart_bb ((ho25.base (row := nrow) hW22.le).wk kw3 hW26.ok) (ho29.base (row := nrow) hW26.le) rfl) hg4 st4).frz (apart_bo ((ho29.base (row := nrow) hW26.le).mut (apart_bb ((ho25.base (row := nrow) hW22.le).wk kw3 hW26.ok) (ho29.base (row := nrow) hW26.le) rfl) hg4 st4) ((((hk18.base (row := nrow) hW.le).wk kw2 hW22.ok).wk kw3 hW26.ok).mut (apart_bo ((ho25.base (row := nrow) hW22.le).wk kw3 hW26.ok) (((hk18.base (row := nrow) hW.le).wk kw2 hW22.ok).wk kw3 hW26.ok) rfl) hg4 st4) rfl).symm hF5 st5) ((z1.mut (Apart.base (fun _ e_ => by cases e_; exact ho25.ge) z2.ltw) hg4 st4).frz (apart_bo (z1.mut (Apart.base (fun _ e_ => by cases e_; exact ho25.ge) z2.ltw) hg4 st4) ((((hk18.base (row := nrow) hW.le).wk kw2 hW22.ok).wk kw3 hW26.ok).mut (apart_bo ((ho25.base (row := nrow) hW22.le).wk kw3 hW26.ok) (((hk18.base (row := nrow) hW.le).wk kw2 hW22.ok).wk kw3 hW26.ok) rfl) hg4 st4) rfl).symm hF5 st5) rfl) hg6 st6), rfl, ((ho33.frz (apart_bo ho33 ((((hk18.base (row := nrow) hW.le).wk kw2 hW22.ok).wk kw3 hW26.ok).mut (apart_bo ((ho25.base (row := nrow) hW22.le).wk kw3 hW26.ok) (((hk18.base (row := nrow) hW.le).wk kw2 hW22.ok).wk kw3 hW26.ok) rfl) hg4 st4) rfl).symm hF5 st5).mut (apart_bb (((ho29.base (row := nrow) hW26.le).mut (apart_bb ((ho25.base (row := nrow) hW22.le).wk kw3 hW26.ok) (ho29.base (row := nrow) hW26.le) rfl) hg4 st4).frz (apart_bo ((ho29.base (row := nrow) hW26.le).mut (apart_bb ((ho25.base (row := nrow) hW22.le).wk kw3 hW26.ok) (ho29.base (row := nrow) hW26.le) rfl) hg4 st4) ((((hk18.base (row := nrow) hW.le).wk kw2 hW22.ok).wk kw3 hW26.ok).mut (apart_bo ((ho25.base (row := nrow) hW22.le).wk kw3 hW26.ok) (((hk18.base (row := nrow) hW.le).wk kw2 hW22.ok).wk kw3 hW26.ok) rfl) hg4 st4) rfl).symm hF5 st5) (ho33.frz (apart_bo ho33 ((((hk18.base (row := nrow) hW.le).wk kw2 hW22.ok).wk kw3 hW26.ok).mut (apart_bo ((ho25.base (row := nrow) hW22.le).wk kw3 hW26.ok) (((hk18.base (row := nrow) hW.le).wk kw2 hW22.ok).wk kw3 hW26.ok) rfl) hg4 st4) rfl).symm hF5 st5) rfl) hg6 st6), (hz36.keep st6), rfl, ho39, (Apart.base (fun _ e_ => by cases e_; exact ho25.ge) z2.ltw).symm⟩
  refine Ref.seq (B := G8 w0 F0) ?_ ?_
  · refine Ref.seq (B := G6 w0 F0) ?_ ?_
    · refine Ref.region (fun s ρ w s' h hr => ?_); obtain ⟨F, hW, g3, g7, g9, h2, p3, h3, p7, h7, h8, p9, h9, a3b_7b⟩ := h; refine ol_v (e_fa fa_28_0 p9) rfl ?_; refine ol_v (e_ld ty_3 (LiesV.int ((h9).at_.fld fl_Fault_0)) rfl) rfl ?_; refine ol_v (e_neq rfl rfl) rfl ?_; refine ol_cutA 5 28 32 (fun ρ' w' => w = w' ∧ ρ' 32 = .bool ((!decide (s.t_9.Code = (0 : Int))) || (decide ((40 : Int) < (s.t_2.length : Int))))) rfl ?_ ?_
      · by_cases hb40 : (!decide (s.t_9.Code = (0 : Int))) = true
        · refine ol_m rfl ?_; refine ol_not rfl rfl rfl (congrArg Value.bool hb40) rfl ?_; refine ol_not rfl rfl rfl (congrArg Value.bool hb40) rfl ?_; refine ol_not rfl rfl rfl (congrArg Value.bool hb40) rfl ?_; refine ol_v (e_pick true _ (congrArg Value.bool hb40) rfl) rfl ?_; exact ol_nil ⟨⟨rfl, (bv_or_t hb40)⟩, (Agr.refl _ _ _).u.u.u.u.u⟩
        · have hb41 := Bool.eq_false_iff.mpr hb40; refine ol_m rfl ?_; refine ol_yes rfl rfl (congrArg Value.bool hb41) ?_; refine ol_m rfl ?_; refine ol_yes rfl rfl (congrArg Value.bool hb41) ?_; obtain ⟨A42, c43, e44, hc45, R46⟩ := id h2; refine ol_v (e_len (SlT.sl sl_26) e44) rfl ?_; refine ol_yes rfl rfl (congrArg Value.bool hb41) ?_; refine ol_v (e_gtr rfl rfl) rfl ?_; refine ol_v (e_pick false _ (congrArg Value.bool hb41) rfl) rfl ?_; exact ol_nil ⟨⟨rfl, (bv_or_f hb41)⟩, (Agr.refl _ _ _).u.u.u.u.u⟩
      rintro ρ47 _ ⟨⟨rfl, hp47⟩, hAg47⟩; exact ol_fin hr ⟨F, hW, g3, g7, g9, (SlR.eqv (hAg47 2 rfl) h2), ((hAg47 3 rfl).trans p3), h3, ((hAg47 7 rfl).trans p7), h7, (SlR.eqv (hAg47 8 rfl) h8), ((hAg47 9 rfl).trans p9), h9, hp47, a3b_7b⟩
    refine Ref.condP (b := fun s => s.t_32) (L := G7 w0 F0) (K := G8 w0 F0) ?_ ?_ ?_
    · rintro s ρ w ⟨F, hW, g3, g7, g9, h2, p3, h3, p7, h7, h8, p9, h9, h32, a3b_7b⟩; exact ⟨h32, ⟨F, hW, g7, g9, p7, h7, h8, p9, h9⟩, F, hW, g3, g7, h2, p3, h3, p7, h7, h8, a3b_7b⟩
    · refine Ref.seq (B := G4 w0 F0) ?_ ?_
      · refine Ref.region (fun s ρ w s' h hr => ?_); obtain ⟨F, hW, g7, g9, p7, h7, h8, p9, h9⟩ := h; refine ol_v (e_fa fa_28_0 p9) rfl ?_; refine ol_v (e_ld ty_3 (LiesV.int ((h9).at_.fld fl_Fault_0)) rfl) rfl ?_; refine ol_v (e_eql rfl rfl) rfl ?_; refine ol_cutA 9 36 44 (fun ρ' w' => w = w' ∧ ρ' 44 = .bool ((decide (s.t_9.Code = (0 : Int))) || (decide ((w64 ((s.t_7.Objects.length : Int) + (s.t_8.length : Int))) = (0 : Int))))) rfl ?_ ?_
        · by_cases hb48 : (decide (s.t_9.Code = (0 : Int))) = true
          · refine ol_m rfl ?_; refine ol_not rfl rfl rfl (congrArg Value.bool hb48) rfl ?_; refine ol_not rfl rfl rfl (congrArg Value.bool hb48) rfl ?_; refine ol_not rfl rfl rfl (congrArg Value.bool hb48) rfl ?_; refine ol_not rfl rfl rfl (congrArg Value.bool hb48) rfl ?_; refine ol_not rfl rfl rfl (congrArg Value.bool hb48) rfl ?_; refine ol_not rfl rfl rfl (congrArg Value.bool hb48) rfl ?_; refine ol_not rfl rfl rfl (congrArg Value.bool hb48) rfl ?_; refine ol_v (e_pick true _ (congrArg Value.bool hb48) rfl) rfl ?_; exact ol_nil ⟨⟨rfl, (bv_or_t hb48)⟩, (Agr.refl _ _ _).u.u.u.u.u.u.u.u.u⟩
          · have hb49 := Bool.eq_false_iff.mpr hb48; refine ol_m rfl ?_; refine ol_yes rfl rfl (congrArg Value.bool hb49) ?_; refine ol_v (e_fa fa_24_0 p7) rfl ?_; refine ol_yes rfl rfl (congrArg Value.bool hb49) ?_; obtain ⟨v50, hl51, hs52⟩ := LiesV.sl ((h7).at_.fld fl_ObjectStore_0); refine ol_v (e_ld ty_22 hl51 rfl) rfl ?_; refine ol_yes rfl rfl (congrArg Value.bool hb49) ?_; obtain ⟨A53, c54, e55, hc56, R57⟩ := id hs52; refine ol_v (e_len (SlT.sl sl_22) e55) rfl ?_; refine ol_yes rfl rfl (congrArg Value.bool hb49) ?_; refine ol_m rfl ?_; refine ol_yes rfl rfl (congrArg Value.bool hb49) ?_; obtain ⟨A58, c59, e60, hc61, R62⟩ := id h8; refine ol_v (e_len (SlT.sl sl_26) e60) rfl ?_; refine ol_yes rfl rfl (congrArg Value.bool hb49) ?_; refine ol_v (e_add rfl rfl) rfl ?_; refine ol_yes rfl rfl (congrArg Value.bool hb49) ?_; refine ol_v (e_eql rfl rfl) rfl ?_; refine ol_v (e_pick false _ (congrArg Value.bool hb49) rfl) rfl ?_; exact ol_nil ⟨⟨rfl, (bv_or_f hb49)⟩, (Agr.refl _ _ _).u.u.u.u.u.u.u.u.u⟩
        rintro ρ63 _ ⟨⟨rfl, hp63⟩, hAg63⟩; refine ol_a hp63 ?_; exact ol_fin hr ⟨F, hW, rfl⟩
      exact Ref.ret (fun s ρ w h => ⟨s, rfl, h⟩)
    · exact Ref.skip
  refine Ref.seq (B := G9 w0 F0) ?_ ?_
  · refine Ref.region (fun s ρ w s' h hr => ?_); obtain ⟨F, hW, g3, g7, h2, p3, h3, p7, h7, h8, a3b_7b⟩ := h; obtain ⟨v64, hl65⟩ := LiesAt.v (h7).at_; refine ol_v (e_ld ty_24 hl65 p7) rfl ?_; refine ol_m rfl ?_; refine ol_m rfl ?_; obtain ⟨x66, hx66, hr⟩ := bind_some' hr; refine ol_e (f_call [v64, (ρ 8), (ρ 2)] fn_18 (lcons rfl (lcons rfl (lcons rfl rfl))) (partial_Needed.calls hW.ok hl65.val h8 h2 hx66)) rfl rfl ?_; rintro _ w67 ⟨Fz68, v69, v71, rfl, kw1, hk70, hk72⟩; have hW74 := hW.trans kw1; have st1 := kw1.stp hW.ok; refine ol_m rfl ?_; refine ol_v (e_ext _ rfl rfl) rfl ?_; refine ol_v (e_ext _ rfl rfl) rfl ?_; refine ol_e (f_alloc zer_28 hW74) rfl rfl ?_; rintro _ w76 ⟨g75, rfl, kw2, ho77⟩; have hW78 := hW74.trans kw2; have st2 := kw2.stp hW74.ok; obtain ⟨Fz79, hWz80, st3, hF3, hz81⟩ := (((hk70.base (row := nrow) hW.le).wk kw2 hW74.ok)).frozen hW78; refine ol_a rfl ?_; refine ol_eN (f_stB hWz80 ((ho77.base (row := nrow) hW74.le).frz (apart_bo (ho77.base (row := nrow) hW74.le) ((hk70.base (row := nrow) hW.le).wk kw2 hW74.ok) rfl).symm hF3 st3) (FldS.whole _) ty_28 (hk72.keep (st2.trans st3)) rfl rfl) rfl ?_; rintro - w82 ⟨hW83, ho84, hg4, st4⟩; have z3 := (h3.wk kw1 hW.ok).wk kw2 hW74.ok; exact ol_fin hr ⟨Fz79, hW83, g3, g75, (h2.keep (st1.trans (st2.trans (st3.trans st4)))), p3, ((z3.frz (apart_bo z3 ((hk70.base (row := nrow) hW.le).wk kw2 hW74.ok) rfl).symm hF3 st3).mut (apart_bb ((ho77.base (row := nrow) hW74.le).frz (apart_bo (ho77.base (row := nrow) hW74.le) ((hk70.base (row := nrow) hW.le).wk kw2 hW74.ok) rfl).symm hF3 st3) (z3.frz (apart_bo z3 ((hk70.base (row := nrow) hW.le).wk kw2 hW74.ok) rfl).symm hF3 st3) rfl) hg4 st4), (h8.keep (st1.trans (st2.trans (st3.trans st4)))), (hz81.keep st4), rfl, ho84⟩
  refine Ref.seq (B := G10 w0 F0) ?_ ?_
  · refine Ref.region (fun s ρ w s' h hr => ?_); obtain ⟨F, hW, g3, g11, h2, p3, h3, h8, h10, p11, h11⟩ := h; obtain ⟨v85, hl86⟩ := LiesAt.v (h3).at_; refine ol_v (e_ld ty_24 hl86 p3) rfl ?_; refine ol_m rfl ?_; obtain ⟨x87, hx87, hr⟩ := bind_some' hr; refine ol_e (f_call [v85, (ρ 2)] fn_23 (lcons rfl (lcons rfl rfl)) (gc_Mark.calls hW.ok hl86.val h2 hx87)) rfl rfl ?_; rintro _ w88 ⟨Fz89, v90, v92, rfl, kw1, hk91, hk93⟩; have hW95 := hW.trans kw1; have st1 := kw1.stp hW.ok; refine ol_m rfl ?_; refine ol_v (e_ext _ rfl rfl) rfl ?_; refine ol_v (e_ext _ rfl rfl) rfl ?_; refine ol_e (f_alloc zer_28 hW95) rfl rfl ?_; rintro _ w97 ⟨g96, rfl, kw2, ho98⟩; have hW99 := hW95.trans kw2; have st2 := kw2.stp hW95.ok; obtain ⟨Fz100, hWz101, st3, hF3, hz102⟩ := (((hk91.base (row := nrow) hW.le).wk kw2 hW95.ok)).frozen hW99; refine ol_a rfl ?_; refine ol_eN (f_stB hWz101 ((ho98.base (row := nrow) hW95.le).frz (apart_bo (ho98.base (row := nrow) hW95.le) ((hk91.base (row := nrow) hW.le).wk kw2 hW95.ok) rfl).symm hF3 st3) (FldS.whole _) ty_28 (hk93.keep (st2.trans st3)) rfl rfl) rfl ?_; rintro - w103 ⟨hW104, ho105, hg4, st4⟩; have z4 := h11.wk kw1 hW.ok; exact ol_fin hr ⟨Fz100, hW104, g11, g96, (h8.keep (st1.trans (st2.trans (st3.trans st4)))), (h10.keep (st1.trans (st2.trans (st3.trans st4)))), p11, (((z4.wk kw2 hW95.ok).frz (apart_bo (z4.wk kw2 hW95.ok) ((hk91.base (row := nrow) hW.le).wk kw2 hW95.ok) rfl).symm hF3 st3).mut (Apart.base (fun _ e_ => by cases e_; exact ho98.ge) z4.ltw) hg4 st4), (hz102.keep st4), rfl, ho105, (Apart.base (fun _ e_ => by cases e_; exact ho98.ge) z4.ltw).symm⟩
  refine Ref.seq (B := G13 w0 F0) ?_ ?_
  · refine Ref.seq (B := G11 w0 F0) ?_ ?_
    · refine Ref.region (fun s ρ w s' h hr => ?_); obtain ⟨F, hW, g11, g13, h8, h10, p11, h11, h12, p13, h13, a11b_13b⟩ := h; refine ol_v (e_fa fa_28_0 p11) rfl ?_; refine ol_v (e_ld ty_3 (LiesV.int ((h11).at_.fld fl_Fault_0)) rfl) rfl ?_; refine ol_v (e_neq rfl rfl) rfl ?_; refine ol_cutA 5 61 65 (fun ρ' w' => w = w' ∧ ρ' 65 = .bool ((!decide (s.t_11.Code = (0 : Int))) || (!decide (s.t_13.Code = (0 : Int))))) rfl ?_ ?_
      · by_cases hb106 : (!decide (s.t_11.Code = (0 : Int))) = true
        · refine ol_m rfl ?_; refine ol_not rfl rfl rfl (congrArg Value.bool hb106) rfl ?_; refine ol_not rfl rfl rfl (congrArg Value.bool hb106) rfl ?_; refine ol_not rfl rfl rfl (congrArg Value.bool hb106) rfl ?_; refine ol_v (e_pick true _ (congrArg Value.bool hb106) rfl) rfl ?_; exact ol_nil ⟨⟨rfl, (bv_or_t hb106)⟩, (Agr.refl _ _ _).u.u.u.u.u⟩
        · have hb107 := Bool.eq_false_iff.mpr hb106; refine ol_m rfl ?_; refine ol_yes rfl rfl (congrArg Value.bool hb107) ?_; refine ol_v (e_fa fa_28_0 p13) rfl ?_; refine ol_yes rfl rfl (congrArg Value.bool hb107) ?_; refine ol_v (e_ld ty_3 (LiesV.int ((h13).at_.fld fl_Fault_0)) rfl) rfl ?_; refine ol_yes rfl rfl (congrArg Value.bool hb107) ?_; refine ol_v (e_neq rfl rfl) rfl ?_; refine ol_v (e_pick false _ (congrArg Value.bool hb107) rfl) rfl ?_; exact ol_nil ⟨⟨rfl, (bv_or_f hb107)⟩, (Agr.refl _ _ _).u.u.u.u.u⟩
      rintro ρ108 _ ⟨⟨rfl, hp108⟩, hAg108⟩; exact ol_fin hr ⟨F, hW, g13, (SlR.eqv (hAg108 8 rfl) h8), (SlR.eqv (hAg108 10 rfl) h10), (SlR.eqv (hAg108 12 rfl) h12), ((hAg108 13 rfl).trans p13), h13, hp108⟩
    refine Ref.condP (b := fun s => s.t_65) (L := G12 w0 F0) (K := G13 w0 F0) ?_ ?_ ?_
    · rintro s ρ w ⟨F, hW, g13, h8, h10, h12, p13, h13, h65⟩; exact ⟨h65, ⟨F, hW, g13, h10, p13, h13⟩, F, hW, h8, h10, h12⟩
    · refine Ref.seq (B := G4 w0 F0) ?_ ?_
      · refine Ref.region (fun s ρ w s' h hr => ?_); obtain ⟨F, hW, g13, h10, p13, h13⟩ := h; refine ol_v (e_fa fa_28_0 p13) rfl ?_; refine ol_v (e_ld ty_3 (LiesV.int ((h13).at_.fld fl_Fault_0)) rfl) rfl ?_; refine ol_v (e_eql rfl rfl) rfl ?_; refine ol_cutA 5 69 73 (fun ρ' w' => w = w' ∧ ρ' 73 = .bool ((decide (s.t_13.Code = (0 : Int))) && (decide ((s.t_10.length : Int) = (0 : Int))))) rfl ?_ ?_
        · by_cases hb109 : (decide (s.t_13.Code = (0 : Int))) = true
          · refine ol_m rfl ?_; refine ol_yes rfl rfl (congrArg Value.bool hb109) ?_; refine ol_m rfl ?_; refine ol_yes rfl rfl (congrArg Value.bool hb109) ?_; obtain ⟨A111, c112, e113, hc114, R115⟩ := id h10; refine ol_v (e_len (SlT.sl sl_26) e113) rfl ?_; refine ol_yes rfl rfl (congrArg Value.bool hb109) ?_; refine ol_v (e_eql rfl rfl) rfl ?_; refine ol_v (e_pick true _ (congrArg Value.bool hb109) rfl) rfl ?_; exact ol_nil ⟨⟨rfl, (bv_and_t hb109)⟩, (Agr.refl _ _ _).u.u.u.u.u⟩
          · have hb110 := Bool.eq_false_iff.mpr hb109; refine ol_m rfl ?_; refine ol_not rfl rfl rfl (congrArg Value.bool hb110) rfl ?_; refine ol_not rfl rfl rfl (congrArg Value.bool hb110) rfl ?_; refine ol_not rfl rfl rfl (congrArg Value.bool hb110) rfl ?_; refine ol_v (e_pick false _ (congrArg Value.bool hb110) rfl) rfl ?_; exact ol_nil ⟨⟨rfl, (bv_and_f hb110)⟩, (Agr.refl _ _ _).u.u.u.u.u⟩
        rintro ρ116 _ ⟨⟨rfl, hp116⟩, hAg116⟩; refine ol_a hp116 ?_; exact ol_fin hr ⟨F, hW, rfl⟩
      exact Ref.ret (fun s ρ w h => ⟨s, rfl, h⟩)
    · exact Ref.skip
  refine Ref.seq (B := G14 w0 F0) ?_ ?_
  · refine Ref.region (fun s ρ w s' h hr => ?_); obtain ⟨F, hW, h8, h10, h12⟩ := h; refine ol_a rfl ?_; exact ol_fin hr ⟨F, hW, h8, h10, h12, (OwnV.nil (kInt .i64) 3 (Bs w0 nrow) F w)⟩
  refine Ref.seq (B := G17 w0 F0) ?_ ?_
  · refine Ref.seq (B := G15 w0 F0) ?_ ?_
    · refine Ref.region (fun s ρ w s' h hr => ?_); obtain ⟨F, hW, h8, h10, h12, h14⟩ := h; refine ol_a rfl ?_; exact ol_fin hr ⟨F, hW, h8, h10, h12, h14, rfl⟩
    refine Ref.block ?_; refine Ref.loop ?_; refine Ref.seq (B := G15 w0 F0) ?_ ?_
    · refine Ref.seq (B := G16 w0 F0) ?_ ?_
      · refine Ref.region (fun s ρ w s' h hr => ?_); obtain ⟨F, hW, h8, h10, h12, h14, h15⟩ := h; refine ol_m h15 ?_; refine ol_m rfl ?_; obtain ⟨A117, c118, e119, hc120, R121⟩ := id h12; refine ol_v (e_len (SlT.sl sl_26) e119) rfl ?_; refine ol_v (e_lss rfl rfl) rfl ?_; exact ol_fin hr ⟨F, hW, h8, h10, h12, h14, h15, rfl⟩
      refine Ref.condP (b := fun s => s.t_77) (L := G15 w0 F0) (K := G17 w0 F0) ?_ ?_ ?_
      · rintro s ρ w ⟨F, hW, h8, h10, h12, h14, h15, h77⟩; exact ⟨h77, ⟨F, hW, h8, h10, h12, h14, h15⟩, F, hW, h10, h14⟩
      · exact Ref.skip
      · exact Ref.exit (fun s ρ w h => h)
    refine Ref.seq (B := G15 w0 F0) ?_ ?_
    · refine Ref.block ?_; refine Ref.seq (B := G18 w0 F0) ?_ ?_
      · refine Ref.region (fun s ρ w s' h hr => ?_); obtain ⟨F, hW, h8, h10, h12, h14, h15⟩ := h; refine ol_m rfl ?_; refine ol_m rfl ?_; refine ol_m h15 ?_; obtain ⟨x122, hx122, hr⟩ := bind_some' hr; obtain ⟨A123, c124, e125, hc126, R127⟩ := id h12; obtain ⟨b128, o129, hA130, L131⟩ := Row.at_ R127 hx122; refine ol_v (e_ix (SlT.sl sl_26) (SlT.sz sl_26) hA130 hx122 e125 rfl) rfl ?_; refine ol_v (e_ld ty_3 (LiesV.int L131.at_) rfl) rfl ?_; obtain ⟨x132, hx132, hr⟩ := bind_some' hr; refine ol_e (f_call [(ρ 8), .int .i64 x122] fn_24 (lcons rfl (lcons rfl rfl)) (ref3_Has.calls hW.ok h8 x122 hx132)) rfl rfl ?_; rintro _ w133 ⟨Fz134, rfl, kw1⟩; have hW136 := hW.trans kw1; have st1 := kw1.stp hW.ok; exact ol_fin hr ⟨Fz134, hW136, (h8.keep st1), (h10.keep st1), (h12.keep st1), (h14.wk kw1 hW.ok), h15, rfl⟩
      refine Ref.condP (b := fun s => s.t_85) (L := G15 w0 F0) (K := G15 w0 F0) ?_ ?_ ?_
      · rintro s ρ w ⟨F, hW, h8, h10, h12, h14, h15, h85⟩; exact ⟨h85, ⟨F, hW, h8, h10, h12, h14, h15⟩, F, hW, h8, h10, h12, h14, h15⟩
      · refine Ref.region (fun s ρ w s' h hr => ?_); obtain ⟨F, hW, h8, h10, h12, h14, h15⟩ := h; refine ol_m rfl ?_; refine ol_m rfl ?_; refine ol_m h15 ?_; obtain ⟨x137, hx137, hr⟩ := bind_some' hr; obtain ⟨A138, c139, e140, hc141, R142⟩ := id h12; obtain ⟨b143, o144, hA145, L146⟩ := Row.at_ R142 hx137; refine ol_v (e_ix (SlT.sl sl_26) (SlT.sz sl_26) hA145 hx137 e140 rfl) rfl ?_; refine ol_v (e_ld ty_3 (LiesV.int L146.at_) rfl) rfl ?_; refine ol_e (f_bslF sl_26 hW ([x137] : List Int) [.int .i64 x137] (by exact ⟨_, _, rfl, (val_int _ _), rfl⟩) rfl (Nat.le_of_ble_eq_true rfl) (lcons (congrArg (Prod.mk 0) rfl) rfl)) rfl rfl ?_; rintro v147 w148 ⟨Fz150, kw1, ho149⟩; have hW151 := hW.trans kw1; have st1 := kw1.stp hW.ok; obtain ⟨x152, hx152, hr⟩ := bind_some' hr; refine ol_e (f_app sl_26 hW151 (h14.wk kw1 hW.ok) ho149 hx152 rfl rfl) rfl rfl ?_; rintro v153 w154 ⟨hW155, ho156, hg2, st2, hor157⟩; refine ol_a rfl ?_; exact ol_fin hr ⟨Fz150, hW155, (h8.keep (st1.trans st2)), (h10.keep (st1.trans st2)), (h12.keep (st1.trans st2)), ho156, h15⟩
      · exact Ref.skip
    refine Ref.region (fun s ρ w s' h hr => ?_); obtain ⟨F, hW, h8, h10, h12, h14, h15⟩ := h; refine ol_m h15 ?_; refine ol_v (e_add rfl rfl) rfl ?_; refine ol_a rfl ?_; exact ol_fin hr ⟨F, hW, h8, h10, h12, h14, rfl⟩
  refine Ref.seq (B := G4 w0 F0) ?_ ?_
  · refine Ref.region (fun s ρ w s' h hr => ?_); obtain ⟨F, hW, h10, h14⟩ := h; refine ol_m rfl ?_; refine ol_m rfl ?_; obtain ⟨Fl158, okl158, stl158, hFl158, hl158⟩ := OwnV.lent h14 hW.ok; obtain ⟨x159, hx159, hr⟩ := bind_some' hr; refine ol_e (f_call [(ρ 10), (ρ 14)] fn_16 (lcons rfl (lcons rfl rfl)) (ref3_Ints.calls okl158 (h10.keep stl158) hl158 hx159)) rfl rfl ?_; rintro _ w160 ⟨Fz161, rfl, kw1⟩; have ko163 := kw1; have kw1 := kw1.lend hW.ok; have hW164 := hW.trans kw1; have st1 := kw1.stp hW.ok; refine ol_a rfl ?_; exact ol_fin hr ⟨F, hW164, rfl⟩
  exact Ref.ret (fun s ρ w h => ⟨s, rfl, h⟩)
def post (w : World) (F : BSet) (r : R) (v : Value) (w' : World) : Prop := ∃ (F' : BSet), v = .bool r ∧ Wk nrow w F F' w'
theorem calls {w : World} {F : BSet} (hok : ∀ b, F b → b < w.heap.size) {v0 : Value} {a0 : ObjectStore} (h0 : Val k_ObjectStore F w v0 a0) (a1 : Int) {v2 : Value} {a2 : (List Int)} (h2 : SlR (kInt .i64) F w v2 a2) {r : R} (hf : f a0 a1 a2 = some r) : Calls Try.prog 8 #[v0, .int .i64 a1, v2] w fun e w' => ∃ v, e = .returned v ∧ post w F r v w' := by
  obtain ⟨c, hc, href⟩ := ref w F; refine calls_of_ref (args := [v0, .int .i64 a1, v2]) _ Try.func8 hc rfl rfl href ?_ (retOf_some hf) ?_
  · exact ⟨F, Wk.refl hok, h0, rfl, h2⟩
  · rintro ρ w' a ⟨s, rfl, F', hW, h6⟩ hF; refine ⟨_, run_results (rs := [.tmp 6]) rfl hF (vs := [ρ 6]) (⟨_, rfl, rfl⟩), ?_⟩; have hv : resVal [ρ 6] = .bool s.t_6 := by rw [h6]; rfl
    exact ⟨F', hv, hW⟩
end
end law4_PartialNeededIsReachable

end Go.Proofs.Ytenkbkcddcnmeaa
