/- The machine's calls come to these plain functions (written by a program, wip/fx/gen.py). -/
import Derived.Test.YtilodamhgepjoaaPA
import Derived.Test.YtilodamhgepjoaaNm
import Derived.Test.YtilodamhgepjoaaIt
namespace Go.Proofs.Ytilodamhgepjoaa
open Go.Fx Go.RowKit
set_option linter.unusedVariables false

namespace ref3_Reach
section
def G0 (w0 : World) (F0 : BSet) (s : S) (ρ : Env) (w : World) : Prop := ∃ (F : BSet), Wk nrow w0 F0 F w ∧ SlR k_Commit F w (ρ 0) s.l_0
def G1 (w0 : World) (F0 : BSet) (s : S) (ρ : Env) (w : World) : Prop := ∃ (F : BSet), Wk nrow w0 F0 F w ∧ SlR k_Commit F w (ρ 0) s.l_0 ∧ OwnV (kSl kBool) 46 (Bs w0 nrow) F w (ρ 3) s.out_3
def G2 (w0 : World) (F0 : BSet) (s : S) (ρ : Env) (w : World) : Prop := ∃ (F : BSet), Wk nrow w0 F0 F w ∧ SlR k_Commit F w (ρ 0) s.l_0 ∧ OwnV (kSl kBool) 46 (Bs w0 nrow) F w (ρ 3) s.out_3 ∧ ρ 4 = .int .i64 s.i_4
def G3 (w0 : World) (F0 : BSet) (s : S) (ρ : Env) (w : World) : Prop := ∃ (F : BSet), Wk nrow w0 F0 F w ∧ SlR k_Commit F w (ρ 0) s.l_0 ∧ OwnV (kSl kBool) 46 (Bs w0 nrow) F w (ρ 3) s.out_3 ∧ ρ 4 = .int .i64 s.i_4 ∧ ρ 11 = .bool s.t_11
def G4 (w0 : World) (F0 : BSet) (s : S) (ρ : Env) (w : World) : Prop := ∃ (F : BSet), Wk nrow w0 F0 F w ∧ OwnV (kSl kBool) 46 (Bs w0 nrow) F w (ρ 3) s.out_3
def G5 (w0 : World) (F0 : BSet) (s : S) (ρ : Env) (w : World) : Prop := ∃ (F : BSet), Wk nrow w0 F0 F w ∧ SlR k_Commit F w (ρ 0) s.l_0 ∧ OwnV (kSl kBool) 46 (Bs w0 nrow) F w (ρ 3) s.out_3 ∧ ρ 4 = .int .i64 s.i_4 ∧ OwnV kBool 4 (Bs w0 nrow) F w (ρ 5) s.row_5
def G6 (w0 : World) (F0 : BSet) (s : S) (ρ : Env) (w : World) : Prop := ∃ (F : BSet), Wk nrow w0 F0 F w ∧ SlR k_Commit F w (ρ 0) s.l_0 ∧ OwnV (kSl kBool) 46 (Bs w0 nrow) F w (ρ 3) s.out_3 ∧ ρ 4 = .int .i64 s.i_4 ∧ OwnV kBool 4 (Bs w0 nrow) F w (ρ 5) s.row_5 ∧ ρ 6 = .int .i64 s.k_6
def G7 (w0 : World) (F0 : BSet) (s : S) (ρ : Env) (w : World) : Prop := ∃ (F : BSet), Wk nrow w0 F0 F w ∧ SlR k_Commit F w (ρ 0) s.l_0 ∧ OwnV (kSl kBool) 46 (Bs w0 nrow) F w (ρ 3) s.out_3 ∧ ρ 4 = .int .i64 s.i_4 ∧ OwnV kBool 4 (Bs w0 nrow) F w (ρ 5) s.row_5 ∧ ρ 6 = .int .i64 s.k_6 ∧ ρ 22 = .bool s.t_22
def G8 (w0 : World) (F0 : BSet) (s : S) (ρ : Env) (w : World) : Prop := ∃ (F : BSet), Wk nrow w0 F0 F w ∧ SlR k_Commit F w (ρ 0) s.l_0 ∧ OwnV (kSl kBool) 46 (Bs w0 nrow) F w (ρ 3) s.out_3 ∧ ρ 4 = .int .i64 s.i_4 ∧ OwnV kBool 4 (Bs w0 nrow) F w (ρ 5) s.row_5 ∧ ρ 6 = .int .i64 s.k_6 ∧ ρ 7 = .int .i64 s.j_7
def G9 (w0 : World) (F0 : BSet) (s : S) (ρ : Env) (w : World) : Prop := ∃ (F : BSet), Wk nrow w0 F0 F w ∧ SlR k_Commit F w (ρ 0) s.l_0 ∧ OwnV (kSl kBool) 46 (Bs w0 nrow) F w (ρ 3) s.out_3 ∧ ρ 4 = .int .i64 s.i_4 ∧ OwnV kBool 4 (Bs w0 nrow) F w (ρ 5) s.row_5 ∧ ρ 6 = .int .i64 s.k_6 ∧ ρ 7 = .int .i64 s.j_7 ∧ ρ 32 = .bool s.t_32
def G10 (w0 : World) (F0 : BSet) (s : S) (ρ : Env) (w : World) : Prop := ∃ (F : BSet), Wk nrow w0 F0 F w ∧ OwnV (kSl kBool) 46 (Bs w0 nrow) F w (ρ 2) s.t_2
set_option maxHeartbeats 4000000 in
set_option maxRecDepth 20000 in
theorem ref (w0 : World) (F0 : BSet) : ∃ c, Try.f26.body = some c ∧ Ref Try.prog 63 c (G0 w0 F0) body (fun _ _ _ => False) (fun _ _ _ _ => False) (fun r ρ w => ∃ s, retv s = r ∧ G10 w0 F0 s ρ w) := by
  refine ⟨_, rfl, ?_⟩
  unfold body
  refine Ref.seq (B := G0 w0 F0) ?_ ?_
  · refine Ref.region (fun s ρ w s' h hr => ?_)
    obtain ⟨F, hW, h0⟩ := h
    refine ol_v (e_as _ rfl) rfl ?_
    obtain rfl := Option.some.inj hr
    exact ol_nil ⟨F, hW, h0⟩
  refine Ref.seq (B := G1 w0 F0) ?_ ?_
  · refine Ref.region (fun s ρ w s' h hr => ?_)
    obtain ⟨F, hW, h0⟩ := h
    refine ol_v (e_as _ rfl) rfl ?_
    obtain rfl := Option.some.inj hr
    exact ol_nil ⟨F, hW, h0, (OwnV.nil (kSl kBool) 46 (Bs w0 nrow) F w)⟩
  refine Ref.seq (B := G4 w0 F0) ?_ ?_
  · refine Ref.seq (B := G2 w0 F0) ?_ ?_
    · refine Ref.region (fun s ρ w s' h hr => ?_)
      obtain ⟨F, hW, h0, h3⟩ := h
      refine ol_v (e_as _ rfl) rfl ?_
      obtain rfl := Option.some.inj hr
      exact ol_nil ⟨F, hW, h0, h3, rfl⟩
    refine Ref.block ?_
    refine Ref.loop ?_
    refine Ref.seq (B := G2 w0 F0) ?_ ?_
    · refine Ref.seq (B := G3 w0 F0) ?_ ?_
      · refine Ref.region (fun s ρ w s' h hr => ?_)
        obtain ⟨F, hW, h0, h3, h4⟩ := h
        refine ol_v (e_mv _ h4) rfl ?_
        refine ol_v (e_mv _ rfl) rfl ?_
        obtain ⟨A1, c2, e3, hc4, R5⟩ := id h0
        refine ol_v (e_len (SlT.sl sl_22) e3) rfl ?_
        refine ol_v (e_lss rfl rfl) rfl ?_
        obtain rfl := Option.some.inj hr
        exact ol_nil ⟨F, hW, h0, h3, h4, rfl⟩
      refine Ref.cond (b := fun s => s.t_11) (fun s ρ w ⟨F, hW, h0, h3, h4, h11⟩ => h11) (Ref.pre (A := G2 w0 F0) ?_ (fun s ρ w h => (fun ⟨F, hW, h0, h3, h4, h11⟩ => ⟨F, hW, h0, h3, h4⟩ : G3 w0 F0 s ρ w → G2 w0 F0 s ρ w) h.2)) (Ref.pre (A := G4 w0 F0) ?_ (fun s ρ w h => (fun ⟨F, hW, h0, h3, h4, h11⟩ => ⟨F, hW, h3⟩ : G3 w0 F0 s ρ w → G4 w0 F0 s ρ w) h.2))
      · exact Ref.skip
      · exact Ref.exit (fun s ρ w h => h)
    refine Ref.seq (B := G2 w0 F0) ?_ ?_
    · refine Ref.block ?_
      refine Ref.seq (B := G5 w0 F0) ?_ ?_
      · refine Ref.region (fun s ρ w s' h hr => ?_)
        obtain ⟨F, hW, h0, h3, h4⟩ := h
        refine ol_v (e_mv _ rfl) rfl ?_
        obtain ⟨A6, c7, e8, hc9, R10⟩ := id h0
        refine ol_v (e_len (SlT.sl sl_22) e8) rfl ?_
        obtain ⟨x11, hx11, hr⟩ := bind_some' hr
        refine ol_e (f_mks sl_46 hW rfl rfl hx11) rfl rfl ?_
        rintro v12 w13 ⟨kw1, ho14⟩
        have hW15 := hW.trans kw1
        have st1 := kw1.stp hW.ok
        refine ol_v (e_as _ rfl) rfl ?_
        obtain rfl := Option.some.inj hr
        exact ol_nil ⟨F, hW15, (h0.keep st1), (h3.wk kw1 hW.ok), h4, (ho14.base (row := nrow) hW.le)⟩
      refine Ref.seq (B := G5 w0 F0) ?_ ?_
      · refine Ref.region (fun s ρ w s' h hr => ?_)
        obtain ⟨F, hW, h0, h3, h4, h5⟩ := h
        refine ol_v (e_mv _ rfl) rfl ?_
        refine ol_v (e_mv _ h4) rfl ?_
        obtain ⟨x16, hx16, hr⟩ := bind_some' hr
        obtain ⟨g17, o18, c19, hv20, L21⟩ := OwnV.at_ h5 hx16
        refine ol_v (e_ixO sl_46 hv20 hx16 rfl rfl) rfl ?_
        refine ol_eN (f_stO hW h5 hx16 (FldS.whole _) ty_4 (val_bool _) hv20 rfl rfl) rfl ?_
        rintro - w22 ⟨hW23, ho24, hg1, st1⟩
        obtain rfl := Option.some.inj hr
        exact ol_nil ⟨F, hW23, (h0.keep st1), (h3.mut (apart_oo h5 h3 rfl) hg1 st1), h4, ho24⟩
      refine Ref.seq (B := G5 w0 F0) ?_ ?_
      · refine Ref.seq (B := G6 w0 F0) ?_ ?_
        · refine Ref.region (fun s ρ w s' h hr => ?_)
          obtain ⟨F, hW, h0, h3, h4, h5⟩ := h
          refine ol_v (e_as _ rfl) rfl ?_
          obtain rfl := Option.some.inj hr
          exact ol_nil ⟨F, hW, h0, h3, h4, h5, rfl⟩
        refine Ref.block ?_
        refine Ref.loop ?_
        refine Ref.seq (B := G6 w0 F0) ?_ ?_
        · refine Ref.seq (B := G7 w0 F0) ?_ ?_
          · refine Ref.region (fun s ρ w s' h hr => ?_)
            obtain ⟨F, hW, h0, h3, h4, h5, h6⟩ := h
            refine ol_v (e_mv _ h6) rfl ?_
            refine ol_v (e_mv _ h4) rfl ?_
            refine ol_v (e_lss rfl rfl) rfl ?_
            obtain rfl := Option.some.inj hr
            exact ol_nil ⟨F, hW, h0, h3, h4, h5, h6, rfl⟩
          refine Ref.cond (b := fun s => s.t_22) (fun s ρ w ⟨F, hW, h0, h3, h4, h5, h6, h22⟩ => h22) (Ref.pre (A := G6 w0 F0) ?_ (fun s ρ w h => (fun ⟨F, hW, h0, h3, h4, h5, h6, h22⟩ => ⟨F, hW, h0, h3, h4, h5, h6⟩ : G7 w0 F0 s ρ w → G6 w0 F0 s ρ w) h.2)) (Ref.pre (A := G5 w0 F0) ?_ (fun s ρ w h => (fun ⟨F, hW, h0, h3, h4, h5, h6, h22⟩ => ⟨F, hW, h0, h3, h4, h5⟩ : G7 w0 F0 s ρ w → G5 w0 F0 s ρ w) h.2))
          · exact Ref.skip
          · exact Ref.exit (fun s ρ w h => h)
        refine Ref.seq (B := G6 w0 F0) ?_ ?_
        · refine Ref.block ?_
          refine Ref.seq (B := G8 w0 F0) ?_ ?_
          · refine Ref.region (fun s ρ w s' h hr => ?_)
            obtain ⟨F, hW, h0, h3, h4, h5, h6⟩ := h
            refine ol_v (e_as _ rfl) rfl ?_
            obtain rfl := Option.some.inj hr
            exact ol_nil ⟨F, hW, h0, h3, h4, h5, h6, rfl⟩
          refine Ref.block ?_
          refine Ref.loop ?_
          refine Ref.seq (B := G8 w0 F0) ?_ ?_
          · refine Ref.seq (B := G9 w0 F0) ?_ ?_
            · refine Ref.region (fun s ρ w s' h hr => ?_)
              obtain ⟨F, hW, h0, h3, h4, h5, h6, h7⟩ := h
              refine ol_v (e_mv _ h7) rfl ?_
              refine ol_v (e_mv _ rfl) rfl ?_
              refine ol_v (e_mv _ h4) rfl ?_
              obtain ⟨x25, hx25, hr⟩ := bind_some' hr
              obtain ⟨A26, c27, e28, hc29, R30⟩ := id h0
              obtain ⟨b31, o32, hA33, L34⟩ := Row.at_ R30 hx25
              refine ol_v (e_ix (SlT.sl sl_22) (SlT.sz sl_22) hA33 hx25 e28 rfl) rfl ?_
              refine ol_v (e_fa fa_56_0 rfl) rfl ?_
              obtain ⟨v35, hl36, hs37⟩ := LiesV.sl (L34.fld fl_Commit_0).at_
              refine ol_v (e_ld ty_23 hl36 rfl) rfl ?_
              obtain ⟨A38, c39, e40, hc41, R42⟩ := id hs37
              refine ol_v (e_len (SlT.sl sl_23) e40) rfl ?_
              refine ol_v (e_lss rfl rfl) rfl ?_
              obtain rfl := Option.some.inj hr
              exact ol_nil ⟨F, hW, h0, h3, h4, h5, h6, h7, rfl⟩
            refine Ref.cond (b := fun s => s.t_32) (fun s ρ w ⟨F, hW, h0, h3, h4, h5, h6, h7, h32⟩ => h32) (Ref.pre (A := G8 w0 F0) ?_ (fun s ρ w h => (fun ⟨F, hW, h0, h3, h4, h5, h6, h7, h32⟩ => ⟨F, hW, h0, h3, h4, h5, h6, h7⟩ : G9 w0 F0 s ρ w → G8 w0 F0 s ρ w) h.2)) (Ref.pre (A := G6 w0 F0) ?_ (fun s ρ w h => (fun ⟨F, hW, h0, h3, h4, h5, h6, h7, h32⟩ => ⟨F, hW, h0, h3, h4, h5, h6⟩ : G9 w0 F0 s ρ w → G6 w0 F0 s ρ w) h.2))
            · exact Ref.skip
            · exact Ref.exit (fun s ρ w h => h)
          refine Ref.seq (B := G8 w0 F0) ?_ ?_
          · refine Ref.block ?_
            refine Ref.region (fun s ρ w s' h hr => ?_)
            obtain ⟨F, hW, h0, h3, h4, h5, h6, h7⟩ := h
            refine ol_v (e_mv _ rfl) rfl ?_
            refine ol_v (e_mv _ h6) rfl ?_
            refine ol_v (e_mv _ rfl) rfl ?_
            refine ol_v (e_mv _ h6) rfl ?_
            obtain ⟨x43, hx43, hr⟩ := bind_some' hr
            obtain ⟨g44, o45, c46, hv47, L48⟩ := OwnV.at_ h5 hx43
            refine ol_v (e_ixO sl_46 hv47 hx43 rfl rfl) rfl ?_
            refine ol_v (e_ld ty_4 (LiesV.bool L48) rfl) rfl ?_
            obtain ⟨x93, hx94, hr⟩ := bind_some' hr
            refine ol_cutA 16 41 56 (fun ρ' w' => w = w' ∧ ρ' 56 = .bool x93) rfl ?_ ?_
            · by_cases hb49 : x43 = true
              · have hr := hx94
                rw [if_pos hb49] at hr
                refine ol_v (e_mv _ rfl) rfl ?_
                refine ol_not rfl rfl rfl (congrArg Value.bool hb49) rfl ?_
                refine ol_not rfl rfl rfl (congrArg Value.bool hb49) rfl ?_
                refine ol_not rfl rfl rfl (congrArg Value.bool hb49) rfl ?_
                refine ol_not rfl rfl rfl (congrArg Value.bool hb49) rfl ?_
                refine ol_not rfl rfl rfl (congrArg Value.bool hb49) rfl ?_
                refine ol_not rfl rfl rfl (congrArg Value.bool hb49) rfl ?_
                refine ol_not rfl rfl rfl (congrArg Value.bool hb49) rfl ?_
                refine ol_not rfl rfl rfl (congrArg Value.bool hb49) rfl ?_
                refine ol_not rfl rfl rfl (congrArg Value.bool hb49) rfl ?_
                refine ol_not rfl rfl rfl (congrArg Value.bool hb49) rfl ?_
                refine ol_not rfl rfl rfl (congrArg Value.bool hb49) rfl ?_
                refine ol_not rfl rfl rfl (congrArg Value.bool hb49) rfl ?_
                refine ol_not rfl rfl rfl (congrArg Value.bool hb49) rfl ?_
                refine ol_not rfl rfl rfl (congrArg Value.bool hb49) rfl ?_
                refine ol_v (e_pick true _ (congrArg Value.bool hb49) rfl) rfl ?_
                exact ol_nil ⟨⟨rfl, (congrArg Value.bool (Option.some.inj hr))⟩, (((((((((((((((((Agr.refl _ _ _).upd rfl rfl).upd rfl rfl).upd rfl rfl).upd rfl rfl).upd rfl rfl).upd rfl rfl).upd rfl rfl).upd rfl rfl).upd rfl rfl).upd rfl rfl).upd rfl rfl).upd rfl rfl).upd rfl rfl).upd rfl rfl).upd rfl rfl).upd rfl rfl)⟩
              · have hb50 := Bool.eq_false_iff.mpr hb49
                have hr := hx94
                rw [if_neg hb49] at hr
                refine ol_v (e_mv _ rfl) rfl ?_
                refine ol_yes rfl rfl (congrArg Value.bool hb50) ?_
                refine ol_v (e_mv _ rfl) rfl ?_
                refine ol_yes rfl rfl (congrArg Value.bool hb50) ?_
                refine ol_v (e_mv _ rfl) rfl ?_
                refine ol_yes rfl rfl (congrArg Value.bool hb50) ?_
                refine ol_v (e_mv _ h4) rfl ?_
                refine ol_yes rfl rfl (congrArg Value.bool hb50) ?_
                obtain ⟨x51, hx51, hr⟩ := bind_some' hr
                obtain ⟨A52, c53, e54, hc55, R56⟩ := id h0
                obtain ⟨b57, o58, hA59, L60⟩ := Row.at_ R56 hx51
                refine ol_v (e_ix (SlT.sl sl_22) (SlT.sz sl_22) hA59 hx51 e54 rfl) rfl ?_
                refine ol_yes rfl rfl (congrArg Value.bool hb50) ?_
                refine ol_v (e_fa fa_56_0 rfl) rfl ?_
                refine ol_yes rfl rfl (congrArg Value.bool hb50) ?_
                obtain ⟨v61, hl62, hs63⟩ := LiesV.sl (L60.fld fl_Commit_0).at_
                refine ol_v (e_ld ty_23 hl62 rfl) rfl ?_
                refine ol_yes rfl rfl (congrArg Value.bool hb50) ?_
                refine ol_v (e_mv _ h7) rfl ?_
                refine ol_yes rfl rfl (congrArg Value.bool hb50) ?_
                obtain ⟨x64, hx64, hr⟩ := bind_some' hr
                obtain ⟨A65, c66, e67, hc68, R69⟩ := id hs63
                obtain ⟨b70, o71, hA72, L73⟩ := Row.at_ R69 hx64
                refine ol_v (e_ix (SlT.sl sl_23) (SlT.sz sl_23) hA72 hx64 e67 rfl) rfl ?_
                refine ol_yes rfl rfl (congrArg Value.bool hb50) ?_
                refine ol_v (e_ld ty_3 (LiesV.int L73.at_) rfl) rfl ?_
                refine ol_yes rfl rfl (congrArg Value.bool hb50) ?_
                obtain ⟨x74, hx74, hr⟩ := bind_some' hr
                obtain ⟨g75, o76, c77, hv78, L79⟩ := OwnV.at_ h3 hx74
                refine ol_v (e_ixO sl_44 hv78 hx74 rfl rfl) rfl ?_
                refine ol_yes rfl rfl (congrArg Value.bool hb50) ?_
                obtain ⟨v80, hl81, hs82⟩ := LiesV.sl L79
                refine ol_v (e_ld ty_46 hl81 rfl) rfl ?_
                refine ol_yes rfl rfl (congrArg Value.bool hb50) ?_
                refine ol_v (e_mv _ h6) rfl ?_
                refine ol_yes rfl rfl (congrArg Value.bool hb50) ?_
                obtain ⟨x83, hx83, hr⟩ := bind_some' hr
                obtain ⟨A84, c85, e86, hc87, R88⟩ := id hs82
                obtain ⟨b89, o90, hA91, L92⟩ := Row.at_ R88 hx83
                refine ol_v (e_ix (SlT.sl sl_46) (SlT.sz sl_46) hA91 hx83 e86 rfl) rfl ?_
                refine ol_yes rfl rfl (congrArg Value.bool hb50) ?_
                refine ol_v (e_ld ty_4 (LiesV.bool L92.at_) rfl) rfl ?_
                refine ol_v (e_pick false _ (congrArg Value.bool hb50) rfl) rfl ?_
                exact ol_nil ⟨⟨rfl, (congrArg Value.bool (Option.some.inj hr))⟩, (((((((((((((((((Agr.refl _ _ _).upd rfl rfl).upd rfl rfl).upd rfl rfl).upd rfl rfl).upd rfl rfl).upd rfl rfl).upd rfl rfl).upd rfl rfl).upd rfl rfl).upd rfl rfl).upd rfl rfl).upd rfl rfl).upd rfl rfl).upd rfl rfl).upd rfl rfl).upd rfl rfl)⟩
            rintro ρ94 _ ⟨⟨rfl, hp94⟩, hAg94⟩
            obtain ⟨x95, hx95, hr⟩ := bind_some' hr
            obtain ⟨g96, o97, c98, hv99, L100⟩ := OwnV.at_ h5 hx95
            refine ol_v (e_ixO sl_46 hv99 hx95 (hAg94 35 rfl) (hAg94 36 rfl)) rfl ?_
            refine ol_eN (f_stO hW h5 hx95 (FldS.whole _) ty_4 (val_bool _) hv99 rfl hp94) rfl ?_
            rintro - w101 ⟨hW102, ho103, hg1, st1⟩
            obtain rfl := Option.some.inj hr
            exact ol_nil ⟨F, hW102, (SlR.eqv (hAg94 0 rfl) (h0.keep st1)), (OwnV.eqv (hAg94 3 rfl) (h3.mut (apart_oo h5 h3 rfl) hg1 st1)), ((hAg94 4 rfl).trans h4), (OwnV.eqv (hAg94 5 rfl) ho103), ((hAg94 6 rfl).trans h6), ((hAg94 7 rfl).trans h7)⟩
          refine Ref.region (fun s ρ w s' h hr => ?_)
          obtain ⟨F, hW, h0, h3, h4, h5, h6, h7⟩ := h
          refine ol_v (e_mv _ h7) rfl ?_
          refine ol_v (e_add rfl rfl) rfl ?_
          refine ol_v (e_as _ rfl) rfl ?_
          obtain rfl := Option.some.inj hr
          exact ol_nil ⟨F, hW, h0, h3, h4, h5, h6, rfl⟩
        refine Ref.region (fun s ρ w s' h hr => ?_)
        obtain ⟨F, hW, h0, h3, h4, h5, h6⟩ := h
        refine ol_v (e_mv _ h6) rfl ?_
        refine ol_v (e_add rfl rfl) rfl ?_
        refine ol_v (e_as _ rfl) rfl ?_
        obtain rfl := Option.some.inj hr
        exact ol_nil ⟨F, hW, h0, h3, h4, h5, rfl⟩
      refine Ref.region (fun s ρ w s' h hr => ?_)
      obtain ⟨F, hW, h0, h3, h4, h5⟩ := h
      refine ol_v (e_mv _ rfl) rfl ?_
      refine ol_v (e_mv _ rfl) rfl ?_
      obtain ⟨Fz104, hWz105, st1, hF1, hz106⟩ := (h5).frozen hW
      refine ol_e (f_bslF sl_44 hWz105 ([s.row_5] : List (List Bool)) [(ρ 5)] (by exact ⟨_, _, rfl, (val_sl hz106), rfl⟩) rfl (Nat.le_of_ble_eq_true rfl) (lcons (congrArg (Prod.mk 0) rfl) rfl)) rfl rfl ?_
      rintro v107 w108 ⟨Fz110, kw2, ho109⟩
      have hW111 := hWz105.trans kw2
      have st2 := kw2.stp hWz105.ok
      obtain ⟨x112, hx112, hr⟩ := bind_some' hr
      refine ol_e (f_app sl_44 hW111 ((h3.frz (apart_oo h5 h3 rfl) hF1 st1).wk kw2 hWz105.ok) ho109 hx112 rfl rfl) rfl rfl ?_
      rintro v113 w114 ⟨hW115, ho116, hg3, st3, hor117⟩
      refine ol_v (e_as _ rfl) rfl ?_
      obtain rfl := Option.some.inj hr
      exact ol_nil ⟨Fz110, hW115, (h0.keep (st1.trans (st2.trans st3))), ho116, h4⟩
    refine Ref.region (fun s ρ w s' h hr => ?_)
    obtain ⟨F, hW, h0, h3, h4⟩ := h
    refine ol_v (e_mv _ h4) rfl ?_
    refine ol_v (e_add rfl rfl) rfl ?_
    refine ol_v (e_as _ rfl) rfl ?_
    obtain rfl := Option.some.inj hr
    exact ol_nil ⟨F, hW, h0, h3, rfl⟩
  refine Ref.seq (B := G10 w0 F0) ?_ ?_
  · refine Ref.region (fun s ρ w s' h hr => ?_)
    obtain ⟨F, hW, h3⟩ := h
    refine ol_v (e_mv _ rfl) rfl ?_
    refine ol_v (e_as _ rfl) rfl ?_
    obtain rfl := Option.some.inj hr
    exact ol_nil ⟨F, hW, h3⟩
  exact Ref.ret (fun s ρ w h => ⟨s, rfl, h⟩)
def post (w : World) (F : BSet) (r : R) (v : Value) (w' : World) : Prop := ∃ (F' : BSet) (v0' : Value), v = v0' ∧ Wk nrow w F F' w' ∧ OwnV (kSl kBool) 46 (Nw w) F' w' v0' r
theorem calls {w : World} {F : BSet} (hok : ∀ b, F b → b < w.heap.size) {v0 : Value} {a0 : (List Commit)} (h0 : SlR k_Commit F w v0 a0) {r : R} (hf : f a0 = some r) : Calls Try.prog 26 #[v0] w fun e w' => ∃ v, e = .returned v ∧ post w F r v w' := by
  obtain ⟨c, hc, href⟩ := ref w F
  refine calls_of_ref (args := [v0]) _ Try.func26 hc rfl rfl href ?_ (retOf_some hf) ?_
  · exact ⟨F, Wk.refl hok, h0⟩
  · rintro ρ w' a ⟨s, rfl, F', hW, h2⟩ hF
    refine ⟨_, run_results (rs := [.tmp 2]) rfl hF (vs := [ρ 2]) (⟨_, rfl, rfl⟩), ?_⟩
    exact ⟨F', ρ 2, rfl, hW, h2.rebase (fun g hg => (h2.lt hg).1.resolve_right (fun h => h))⟩
end
end ref3_Reach

end Go.Proofs.Ytilodamhgepjoaa
