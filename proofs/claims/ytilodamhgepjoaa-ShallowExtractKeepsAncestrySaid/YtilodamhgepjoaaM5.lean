/- The machine's calls come to these plain functions (written by a program, wip/fx/gen.py). -/
import Derived.Test.YtilodamhgepjoaaP5
import Derived.Test.YtilodamhgepjoaaM4
import Derived.Test.YtilodamhgepjoaaIt
namespace Go.Proofs.Ytilodamhgepjoaa
open Go.Fx Go.RowKit
set_option linter.unusedVariables false

namespace ref3_Reach
section
def G0 (w0 : World) (F0 : BSet) (s : S) (ρ : Env) (w : World) : Prop := ∃ (F : BSet), Wk nrow w0 F0 F w ∧ SlR k_Commit F w (ρ 0) s.l_0
def G1 (w0 : World) (F0 : BSet) (s : S) (ρ : Env) (w : World) : Prop := ∃ (F : BSet), Wk nrow w0 F0 F w ∧ SlR k_Commit F w (ρ 0) s.l_0 ∧ OwnV (kSl kBool) 46 (Bs w0 nrow) F w (ρ 3) s.out_3
def G2 (w0 : World) (F0 : BSet) (s : S) (ρ : Env) (w : World) : Prop := ∃ (F : BSet), Wk nrow w0 F0 F w ∧ SlR k_Commit F w (ρ 0) s.l_0 ∧ OwnV (kSl kBool) 46 (Bs w0 nrow) F w (ρ 3) s.out_3 ∧ ρ 4 = .int .i64 s.i_4
def G3 (w0 : World) (F0 : BSet) (s : S) (ρ : Env) (w : World) : Prop := ∃ (F : BSet), Wk nrow w0 F0 F w ∧ SlR k_Commit F w (ρ 0) s.l_0 ∧ OwnV (kSl kBool) 46 (Bs w0 nrow) F w (ρ 3) s.out_3 ∧ ρ 4 = .int .i64 s.i_4 ∧ ρ 11 = .bool s.t_11
def G4 (w0 : World) (F0 : BSet) (s : S) (ρ : Env) (w : World) : Prop := ∃ (F : BSet), Wk nrow w0 F0 F w ∧ OwnV (kSl kBool) 46 (Bs w0 nrow) F w (ρ 3) s.out_3
def G5 (w0 : World) (F0 : BSet) (s : S) (ρ : Env) (w : World) : Prop := ∃ (F : BSet), Wk nrow w0 F0 F w ∧ SlR k_Commit F w (ρ 0) s.l_0 ∧ OwnV (kSl kBool) 46 (Bs w0 nrow) F w (ρ 3) s.out_3 ∧ ρ 4 = .int .i64 s.i_4 ∧ OwnV kBool 4 (Bs w0 nrow) F w (ρ 5) s.row_5
def G6 (w0 : World) (F0 : BSet) (s : S) (ρ : Env) (w : World) : Prop := ∃ (F : BSet), Wk nrow w0 F0 F w ∧ SlR k_Commit F w (ρ 0) s.l_0 ∧ OwnV (kSl kBool) 46 (Bs w0 nrow) F w (ρ 3) s.out_3 ∧ ρ 4 = .int .i64 s.i_4 ∧ OwnV kBool 4 (Bs w0 nrow) F w (ρ 5) s.row_5 ∧ ρ 6 = .int .i64 s.k_6
def G7 (w0 : World) (F0 : BSet) (s : S) (ρ : Env) (w : World) : Prop := ∃ (F : BSet), Wk nrow w0 F0 F w ∧ SlR k_Commit F w (ρ 0) s.l_0 ∧ OwnV (kSl kBool) 46 (Bs w0 nrow) F w (ρ 3) s.out_3 ∧ ρ 4 = .int .i64 s.i_4 ∧ OwnV kBool 4 (Bs w0 nrow) F w (ρ 5) s.row_5 ∧ ρ 6 = .int .i64 s.k_6 ∧ ρ 22 = .bool s.t_22
def G8 (w0 : World) (F0 : BSet) (s : S) (ρ : Env) (w : World) : Prop := ∃ (F : BSet), Wk nrow w0 F0 F w ∧ SlR k_Commit F w (ρ 0) s.l_0 ∧ OwnV (kSl kBool) 46 (Bs w0 nrow) F w (ρ 3) s.out_3 ∧ ρ 4 = .int .i64 s.i_4 ∧ OwnV kBool 4 (Bs w0 nrow) F w (ρ 5) s.row_5 ∧ ρ 6 = .int .i64 s.k_6 ∧ ρ 7 = .int .i64 s.j_7
def G9 (w0 : World) (F0 : BSet) (s : S) (ρ : Env) (w : World) : Prop := ∃ (F : BSet), Wk nrow w0 F0 F w ∧ SlR k_Commit F w (ρ 0) s.l_0 ∧ OwnV (kSl kBool) 46 (Bs w0 nrow) F w (ρ 3) s.out_3 ∧ ρ 4 = .int .i64 s.i_4 ∧ OwnV kBool 4 (Bs w0 nrow) F w (ρ 5) s.row_5 ∧ ρ 6 = .int .i64 s.k_6 ∧ ρ 7 = .int .i64 s.j_7 ∧ ρ 32 = .bool s.t_32
def G10 (w0 : World) (F0 : BSet) (s : S) (ρ : Env) (w : World) : Prop := ∃ (F : BSet), Wk nrow w0 F0 F w ∧ OwnV (kSl kBool) 46 (Bs w0 nrow) F w (ρ 2) s.t_2
set_option maxHeartbeats 4000000 in
set_option maxRecDepth 20000 in
theorem ref (w0 : World) (F0 : BSet) : ∃ c, Try.f26.body = some c ∧ Ref Try.prog 63 c (G0 w0 F0) body (fun _ _ _ => False) (fun _ _ _ _ => False) (fun r ρ w => ∃ s, retv s = r ∧ G10 w0 F0 s ρ w) := by
  refine ⟨_, rfl, ?_⟩
  unfold body
  refine Ref.seq (B := G0 w0 F0) ?_ ?_
  · refine Ref.region (fun s ρ w s' h hr => ?_)
    obtain ⟨F, hW, h0⟩ := h
    refine ol_v (e_as _ rfl) rfl ?_
    obtain rfl := Option.some.inj hr
    exact ol_nil ⟨F, hW, h0⟩
  refine Ref.seq (B := G1 w0 F0) ?_ ?_
  · refine Ref.region (fun s ρ w s' h hr => ?_)
    obtain ⟨F, hW, h0⟩ := h
    refine ol_v (e_as _ rfl) rfl ?_
    obtain rfl := Option.some.inj hr
    exact ol_nil ⟨F, hW, h0, (OwnV.nil (kSl kBool) 46 (Bs w0 nrow) F w)⟩
  refine Ref.seq (B := G4 w0 F0) ?_ ?_
  · refine Ref.seq (B := G2 w0 F0) ?_ ?_
    · refine Ref.region (fun s ρ w s' h hr => ?_)
      obtain ⟨F, hW, h0, h3⟩ := h
      refine ol_v (e_as _ rfl) rfl ?_
      obtain rfl := Option.some.inj hr
      exact ol_nil ⟨F, hW, h0, h3, rfl⟩
    refine Ref.block ?_
    refine Ref.loop ?_
    refine Ref.seq (B := G2 w0 F0) ?_ ?_
    · refine Ref.seq (B := G3 w0 F0) ?_ ?_
      · refine Ref.region (fun s ρ w s' h hr => ?_)
        obtain ⟨F, hW, h0, h3, h4⟩ := h
        refine ol_v (e_mv _ h4) rfl ?_
        refine ol_v (e_mv _ rfl) rfl ?_
        obtain ⟨A1, c2, e3, hc4, R5⟩ := id h0
        refine ol_v (e_len (SlT.sl sl_22) e3) rfl ?_
        refine ol_v (e_lss rfl rfl) rfl ?_
        obtain rfl := Option.some.inj hr
        exact ol_nil ⟨F, hW, h0, h3, h4, rfl⟩
      refine Ref.cond (b := fun s => s.t_11) (fun s ρ w ⟨F, hW, h0, h3, h4, h11⟩ => h11) (Ref.pre (A := G2 w0 F0) ?_ (fun s ρ w h => (fun ⟨F, hW, h0, h3, h4, h11⟩ => ⟨F, hW, h0, h3, h4⟩ : G3 w0 F0 s ρ w → G2 w0 F0 s ρ w) h.2)) (Ref.pre (A := G4 w0 F0) ?_ (fun s ρ w h => (fun ⟨F, hW, h0, h3, h4, h11⟩ => ⟨F, hW, h3⟩ : G3 w0 F0 s ρ w → G4 w0 F0 s ρ w) h.2))
      · exact Ref.skip
      · exact Ref.exit (fun s ρ w h => h)
    refine Ref.seq (B := G2 w0 F0) ?_ ?_
    · refine Ref.block ?_
      refine Ref.seq (B := G5 w0 F0) ?_ ?_
      · refine Ref.region (fun s ρ w s' h hr => ?_)
        obtain ⟨F, hW, h0, h3, h4⟩ := h
        refine ol_v (e_mv _ rfl) rfl ?_
        obtain ⟨A6, c7, e8, hc9, R10⟩ := id h0
        refine ol_v (e_len (SlT.sl sl_22) e8) rfl ?_
        obtain ⟨x11, hx11, hr⟩ := bind_some' hr
        refine ol_e (f_mks sl_46 hW rfl rfl hx11) rfl rfl ?_
        rintro v12 w13 ⟨kw1, ho14⟩
        have hW15 := hW.trans kw1
        have st1 := kw1.stp hW.ok
        refine ol_v (e_as _ rfl) rfl ?_
        obtain rfl := Option.some.inj hr
        exact ol_nil ⟨F, hW15, (h0.keep st1), (h3.wk kw1 hW.ok), h4, (ho14.base (row := nrow) hW.le)⟩
      refine Ref.seq (B := G5 w0 F0) ?_ ?_
      · refine Ref.region (fun s ρ w s' h hr => ?_)
        obtain ⟨F, hW, h0, h3, h4, h5⟩ := h
        refine ol_v (e_mv _ rfl) rfl ?_
        refine ol_v (e_mv _ h4) rfl ?_
        obtain ⟨x16, hx16, hr⟩ := bind_some' hr
        obtain ⟨g17, o18, c19, hv20, L21⟩ := OwnV.at_ h5 hx16
        refine ol_v (e_ixO sl_46 hv20 hx16 rfl rfl) rfl ?_
        refine ol_eN (f_stO hW h5 hx16 (FldS.whole _) ty_4 (val_bool _) hv20 rfl rfl) rfl ?_
        rintro - w22 ⟨hW23, ho24, hg1, st1⟩
        obtain rfl := Option.some.inj hr
        exact ol_nil ⟨F, hW23, (h0.keep st1), (h3.mut (apart_oo h5 h3 rfl) hg1 st1), h4, ho24⟩
      refine Ref.seq (B := G5 w0 F0) ?_ ?_
      · refine Ref.seq (B := G6 w0 F0) ?_ ?_
        · refine Ref.region (fun s ρ w s' h hr => ?_)
          obtain ⟨F, hW, h0, h3, h4, h5⟩ := h
          refine ol_v (e_as _ rfl) rfl ?_
          obtain rfl := Option.some.inj hr
          exact ol_nil ⟨F, hW, h0, h3, h4, h5, rfl⟩
        refine Ref.block ?_
        refine Ref.loop ?_
        refine Ref.seq (B := G6 w0 F0) ?_ ?_
        · refine Ref.seq (B := G7 w0 F0) ?_ ?_
          · refine Ref.region (fun s ρ w s' h hr => ?_)
            obtain ⟨F, hW, h0, h3, h4, h5, h6⟩ := h
            refine ol_v (e_mv _ h6) rfl ?_
            refine ol_v (e_mv _ h4) rfl ?_
            refine ol_v (e_lss rfl rfl) rfl ?_
            obtain rfl := Option.some.inj hr
            exact ol_nil ⟨F, hW, h0, h3, h4, h5, h6, rfl⟩
          refine Ref.cond (b := fun s => s.t_22) (fun s ρ w ⟨F, hW, h0, h3, h4, h5, h6, h22⟩ => h22) (Ref.pre (A := G6 w0 F0) ?_ (fun s ρ w h => (fun ⟨F, hW, h0, h3, h4, h5, h6, h22⟩ => ⟨F, hW, h0, h3, h4, h5, h6⟩ : G7 w0 F0 s ρ w → G6 w0 F0 s ρ w) h.2)) (Ref.pre (A := G5 w0 F0) ?_ (fun s ρ w h => (fun ⟨F, hW, h0, h3, h4, h5, h6, h22⟩ => ⟨F, hW, h0, h3, h4, h5⟩ : G7 w0 F0 s ρ w → G5 w0 F0 s ρ w) h.2))
          · exact Ref.skip
          · exact Ref.exit (fun s ρ w h => h)
        refine Ref.seq (B := G6 w0 F0) ?_ ?_
        · refine Ref.block ?_
          refine Ref.seq (B := G8 w0 F0) ?_ ?_
          · refine Ref.region (fun s ρ w s' h hr => ?_)
            obtain ⟨F, hW, h0, h3, h4, h5, h6⟩ := h
            refine ol_v (e_as _ rfl) rfl ?_
            obtain rfl := Option.some.inj hr
            exact ol_nil ⟨F, hW, h0, h3, h4, h5, h6, rfl⟩
          refine Ref.block ?_
          refine Ref.loop ?_
          refine Ref.seq (B := G8 w0 F0) ?_ ?_
          · refine Ref.seq (B := G9 w0 F0) ?_ ?_
            · refine Ref.region (fun s ρ w s' h hr => ?_)
              obtain ⟨F, hW, h0, h3, h4, h5, h6, h7⟩ := h
              refine ol_v (e_mv _ h7) rfl ?_
              refine ol_v (e_mv _ rfl) rfl ?_
              refine ol_v (e_mv _ h4) rfl ?_
              obtain ⟨x25, hx25, hr⟩ := bind_some' hr
              obtain ⟨A26, c27, e28, hc29, R30⟩ := id h0
              obtain ⟨b31, o32, hA33, L34⟩ := Row.at_ R30 hx25
              refine ol_v (e_ix (SlT.sl sl_22) (SlT.sz sl_22) hA33 hx25 e28 rfl) rfl ?_
              refine ol_v (e_fa fa_56_0 rfl) rfl ?_
              obtain ⟨v35, hl36, hs37⟩ := LiesV.sl (L34.fld fl_Commit_0).at_
              refine ol_v (e_ld ty_23 hl36 rfl) rfl ?_
              obtain ⟨A38, c39, e40, hc41, R42⟩ := id hs37
              refine ol_v (e_len (SlT.sl sl_23) e40) rfl ?_
              refine ol_v (e_lss rfl rfl) rfl ?_
              obtain rfl := Option.some.inj hr
              exact ol_nil ⟨F, hW, h0, h3, h4, h5, h6, h7, rfl⟩
            refine Ref.cond (b := fun s => s.t_32) (fun s ρ w ⟨F, hW, h0, h3, h4, h5, h6, h7, h32⟩ => h32) (Ref.pre (A := G8 w0 F0) ?_ (fun s ρ w h => (fun ⟨F, hW, h0, h3, h4, h5, h6, h7, h32⟩ => ⟨F, hW, h0, h3, h4, h5, h6, h7⟩ : G9 w0 F0 s ρ w → G8 w0 F0 s ρ w) h.2)) (Ref.pre (A := G6 w0 F0) ?_ (fun s ρ w h => (fun ⟨F, hW, h0, h3, h4, h5, h6, h7, h32⟩ => ⟨F, hW, h0, h3, h4, h5, h6⟩ : G9 w0 F0 s ρ w → G6 w0 F0 s ρ w) h.2))
            · exact Ref.skip
            · exact Ref.exit (fun s ρ w h => h)
          refine Ref.seq (B := G8 w0 F0) ?_ ?_
          · refine Ref.block ?_
            refine Ref.region (fun s ρ w s' h hr => ?_)
            obtain ⟨F, hW, h0, h3, h4, h5, h6, h7⟩ := h
            refine ol_v (e_mv _ rfl) rfl ?_
            refine ol_v (e_mv _ h6) rfl ?_
            refine ol_v (e_mv _ rfl) rfl ?_
            refine ol_v (e_mv _ h6) rfl ?_
            obtain ⟨x43, hx43, hr⟩ := bind_some' hr
            obtain ⟨g44, o45, c46, hv47, L48⟩ := OwnV.at_ h5 hx43
            refine ol_v (e_ixO sl_46 hv47 hx43 rfl rfl) rfl ?_
            refine ol_v (e_ld ty_4 (LiesV.bool L48) rfl) rfl ?_
            obtain ⟨x93, hx94, hr⟩ := bind_some' hr
            refine ol_cutA 16 41 56 (fun ρ' w' => w = w' ∧ ρ' 56 = .bool x93) rfl ?_ ?_
            · by_cases hb49 : x43 = true
              · have hr := hx94
                rw [if_pos hb49] at hr
                refine ol_v (e_mv _ rfl) rfl ?_
                refine ol_not rfl rfl rfl (congrArg Value.bool hb49) rfl ?_
                refine ol_not rfl rfl rfl (congrArg Value.bool hb49) rfl ?_
                refine ol_not rfl rfl rfl (congrArg Value.bool hb49) rfl ?_
                refine ol_not rfl rfl rfl (congrArg Value.bool hb49) rfl ?_
                refine ol_not rfl rfl rfl (congrArg Value.bool hb49) rfl ?_
                refine ol_not rfl rfl rfl (congrArg Value.bool hb49) rfl ?_
                refine ol_not rfl rfl rfl (congrArg Value.bool hb49) rfl ?_
                refine ol_not rfl rfl rfl (congrArg Value.bool hb49) rfl ?_
                refine ol_not rfl rfl rfl (congrArg Value.bool hb49) rfl ?_
                refine ol_not rfl rfl rfl (congrArg Value.bool hb49) rfl ?_
                refine ol_not rfl rfl rfl (congrArg Value.bool hb49) rfl ?_
                refine ol_not rfl rfl rfl (congrArg Value.bool hb49) rfl ?_
                refine ol_not rfl rfl rfl (congrArg Value.bool hb49) rfl ?_
                refine ol_not rfl rfl rfl (congrArg Value.bool hb49) rfl ?_
                refine ol_v (e_pick true _ (congrArg Value.bool hb49) rfl) rfl ?_
                exact ol_nil ⟨⟨rfl, (congrArg Value.bool (Option.some.inj hr))⟩, (((((((((((((((((Agr.refl _ _ _).upd rfl rfl).upd rfl rfl).upd rfl rfl).upd rfl rfl).upd rfl rfl).upd rfl rfl).upd rfl rfl).upd rfl rfl).upd rfl rfl).upd rfl rfl).upd rfl rfl).upd rfl rfl).upd rfl rfl).upd rfl rfl).upd rfl rfl).upd rfl rfl)⟩
              · have hb50 := Bool.eq_false_iff.mpr hb49
                have hr := hx94
                rw [if_neg hb49] at hr
                refine ol_v (e_mv _ rfl) rfl ?_
                refine ol_yes rfl rfl (congrArg Value.bool hb50) ?_
                refine ol_v (e_mv _ rfl) rfl ?_
                refine ol_yes rfl rfl (congrArg Value.bool hb50) ?_
                refine ol_v (e_mv _ rfl) rfl ?_
                refine ol_yes rfl rfl (congrArg Value.bool hb50) ?_
                refine ol_v (e_mv _ h4) rfl ?_
                refine ol_yes rfl rfl (congrArg Value.bool hb50) ?_
                obtain ⟨x51, hx51, hr⟩ := bind_some' hr
                obtain ⟨A52, c53, e54, hc55, R56⟩ := id h0
                obtain ⟨b57, o58, hA59, L60⟩ := Row.at_ R56 hx51
                refine ol_v (e_ix (SlT.sl sl_22) (SlT.sz sl_22) hA59 hx51 e54 rfl) rfl ?_
                refine ol_yes rfl rfl (congrArg Value.bool hb50) ?_
                refine ol_v (e_fa fa_56_0 rfl) rfl ?_
                refine ol_yes rfl rfl (congrArg Value.bool hb50) ?_
                obtain ⟨v61, hl62, hs63⟩ := LiesV.sl (L60.fld fl_Commit_0).at_
                refine ol_v (e_ld ty_23 hl62 rfl) rfl ?_
                refine ol_yes rfl rfl (congrArg Value.bool hb50) ?_
                refine ol_v (e_mv _ h7) rfl ?_
                refine ol_yes rfl rfl (congrArg Value.bool hb50) ?_
                obtain ⟨x64, hx64, hr⟩ := bind_some' hr
                obtain ⟨A65, c66, e67, hc68, R69⟩ := id hs63
                obtain ⟨b70, o71, hA72, L73⟩ := Row.at_ R69 hx64
                refine ol_v (e_ix (SlT.sl sl_23) (SlT.sz sl_23) hA72 hx64 e67 rfl) rfl ?_
                refine ol_yes rfl rfl (congrArg Value.bool hb50) ?_
                refine ol_v (e_ld ty_3 (LiesV.int L73.at_) rfl) rfl ?_
                refine ol_yes rfl rfl (congrArg Value.bool hb50) ?_
                obtain ⟨x74, hx74, hr⟩ := bind_some' hr
                obtain ⟨g75, o76, c77, hv78, L79⟩ := OwnV.at_ h3 hx74
                refine ol_v (e_ixO sl_44 hv78 hx74 rfl rfl) rfl ?_
                refine ol_yes rfl rfl (congrArg Value.bool hb50) ?_
                obtain ⟨v80, hl81, hs82⟩ := LiesV.sl L79
                refine ol_v (e_ld ty_46 hl81 rfl) rfl ?_
                refine ol_yes rfl rfl (congrArg Value.bool hb50) ?_
                refine ol_v (e_mv _ h6) rfl ?_
                refine ol_yes rfl rfl (congrArg Value.bool hb50) ?_
                obtain ⟨x83, hx83, hr⟩ := bind_some' hr
                obtain ⟨A84, c85, e86, hc87, R88⟩ := id hs82
                obtain ⟨b89, o90, hA91, L92⟩ := Row.at_ R88 hx83
                refine ol_v (e_ix (SlT.sl sl_46) (SlT.sz sl_46) hA91 hx83 e86 rfl) rfl ?_
                refine ol_yes rfl rfl (congrArg Value.bool hb50) ?_
                refine ol_v (e_ld ty_4 (LiesV.bool L92.at_) rfl) rfl ?_
                refine ol_v (e_pick false _ (congrArg Value.bool hb50) rfl) rfl ?_
                exact ol_nil ⟨⟨rfl, (congrArg Value.bool (Option.some.inj hr))⟩, (((((((((((((((((Agr.refl _ _ _).upd rfl rfl).upd rfl rfl).upd rfl rfl).upd rfl rfl).upd rfl rfl).upd rfl rfl).upd rfl rfl).upd rfl rfl).upd rfl rfl).upd rfl rfl).upd rfl rfl).upd rfl rfl).upd rfl rfl).upd rfl rfl).upd rfl rfl).upd rfl rfl)⟩
            rintro ρ94 _ ⟨⟨rfl, hp94⟩, hAg94⟩
            obtain ⟨x95, hx95, hr⟩ := bind_some' hr
            obtain ⟨g96, o97, c98, hv99, L100⟩ := OwnV.at_ h5 hx95
            refine ol_v (e_ixO sl_46 hv99 hx95 (hAg94 35 rfl) (hAg94 36 rfl)) rfl ?_
            refine ol_eN (f_stO hW h5 hx95 (FldS.whole _) ty_4 (val_bool _) hv99 rfl hp94) rfl ?_
            rintro - w101 ⟨hW102, ho103, hg1, st1⟩
            obtain rfl := Option.some.inj hr
            exact ol_nil ⟨F, hW102, (SlR.eqv (hAg94 0 rfl) (h0.keep st1)), (OwnV.eqv (hAg94 3 rfl) (h3.mut (apart_oo h5 h3 rfl) hg1 st1)), ((hAg94 4 rfl).trans h4), (OwnV.eqv (hAg94 5 rfl) ho103), ((hAg94 6 rfl).trans h6), ((hAg94 7 rfl).trans h7)⟩
          refine Ref.region (fun s ρ w s' h hr => ?_)
          obtain ⟨F, hW, h0, h3, h4, h5, h6, h7⟩ := h
          refine ol_v (e_mv _ h7) rfl ?_
          refine ol_v (e_add rfl rfl) rfl ?_
          refine ol_v (e_as _ rfl) rfl ?_
          obtain rfl := Option.some.inj hr
          exact ol_nil ⟨F, hW, h0, h3, h4, h5, h6, rfl⟩
        refine Ref.region (fun s ρ w s' h hr => ?_)
        obtain ⟨F, hW, h0, h3, h4, h5, h6⟩ := h
        refine ol_v (e_mv _ h6) rfl ?_
        refine ol_v (e_add rfl rfl) rfl ?_
        refine ol_v (e_as _ rfl) rfl ?_
        obtain rfl := Option.some.inj hr
        exact ol_nil ⟨F, hW, h0, h3, h4, h5, rfl⟩
      refine Ref.region (fun s ρ w s' h hr => ?_)
      obtain ⟨F, hW, h0, h3, h4, h5⟩ := h
      refine ol_v (e_mv _ rfl) rfl ?_
      refine ol_v (e_mv _ rfl) rfl ?_
      obtain ⟨Fz104, hWz105, st1, hF1, hz106⟩ := (h5).frozen hW
      refine ol_e (f_bslF sl_44 hWz105 ([s.row_5] : List (List Bool)) [(ρ 5)] (by exact ⟨_, _, rfl, (val_sl hz106), rfl⟩) rfl (Nat.le_of_ble_eq_true rfl) (lcons (congrArg (Prod.mk 0) rfl) rfl)) rfl rfl ?_
      rintro v107 w108 ⟨Fz110, kw2, ho109⟩
      have hW111 := hWz105.trans kw2
      have st2 := kw2.stp hWz105.ok
      obtain ⟨x112, hx112, hr⟩ := bind_some' hr
      refine ol_e (f_app sl_44 hW111 ((h3.frz (apart_oo h5 h3 rfl) hF1 st1).wk kw2 hWz105.ok) ho109 hx112 rfl rfl) rfl rfl ?_
      rintro v113 w114 ⟨hW115, ho116, hg3, st3, hor117⟩
      refine ol_v (e_as _ rfl) rfl ?_
      obtain rfl := Option.some.inj hr
      exact ol_nil ⟨Fz110, hW115, (h0.keep (st1.trans (st2.trans st3))), ho116, h4⟩
    refine Ref.region (fun s ρ w s' h hr => ?_)
    obtain ⟨F, hW, h0, h3, h4⟩ := h
    refine ol_v (e_mv _ h4) rfl ?_
    refine ol_v (e_add rfl rfl) rfl ?_
    refine ol_v (e_as _ rfl) rfl ?_
    obtain rfl := Option.some.inj hr
    exact ol_nil ⟨F, hW, h0, h3, rfl⟩
  refine Ref.seq (B := G10 w0 F0) ?_ ?_
  · refine Ref.region (fun s ρ w s' h hr => ?_)
    obtain ⟨F, hW, h3⟩ := h
    refine ol_v (e_mv _ rfl) rfl ?_
    refine ol_v (e_as _ rfl) rfl ?_
    obtain rfl := Option.some.inj hr
    exact ol_nil ⟨F, hW, h3⟩
  exact Ref.ret (fun s ρ w h => ⟨s, rfl, h⟩)
def post (w : World) (F : BSet) (r : R) (v : Value) (w' : World) : Prop := ∃ (F' : BSet) (v0' : Value), v = v0' ∧ Wk nrow w F F' w' ∧ OwnV (kSl kBool) 46 (Nw w) F' w' v0' r
theorem calls {w : World} {F : BSet} (hok : ∀ b, F b → b < w.heap.size) {v0 : Value} {a0 : (List Commit)} (h0 : SlR k_Commit F w v0 a0) {r : R} (hf : f a0 = some r) : Calls Try.prog 26 #[v0] w fun e w' => ∃ v, e = .returned v ∧ post w F r v w' := by
  obtain ⟨c, hc, href⟩ := ref w F
  refine calls_of_ref (args := [v0]) _ Try.func26 hc rfl rfl href ?_ (retOf_some hf) ?_
  · exact ⟨F, Wk.refl hok, h0⟩
  · rintro ρ w' a ⟨s, rfl, F', hW, h2⟩ hF
    refine ⟨_, run_results (rs := [.tmp 2]) rfl hF (vs := [ρ 2]) (⟨_, rfl, rfl⟩), ?_⟩
    exact ⟨F', ρ 2, rfl, hW, h2.rebase (fun g hg => (h2.lt hg).1.resolve_right (fun h => h))⟩
end
end ref3_Reach

namespace law4_ShallowExtractKeepsAncestry
section
def G0 (w0 : World) (F0 : BSet) (s : S) (ρ : Env) (w : World) : Prop := ∃ (F : BSet), Wk nrow w0 F0 F w ∧ SlR k_Commit F w (ρ 0) s.t_0 ∧ SlR (kInt .i64) F w (ρ 1) s.t_1
def G1 (w0 : World) (F0 : BSet) (s : S) (ρ : Env) (w : World) : Prop := ∃ (F : BSet), Wk nrow w0 F0 F w ∧ SlR k_Commit F w (ρ 0) s.t_0 ∧ SlR (kInt .i64) F w (ρ 1) s.t_1 ∧ ρ 15 = .bool s.t_15
def G2 (w0 : World) (F0 : BSet) (s : S) (ρ : Env) (w : World) : Prop := ∃ (F : BSet), Wk nrow w0 F0 F w
def G3 (w0 : World) (F0 : BSet) (s : S) (ρ : Env) (w : World) : Prop := ∃ (F : BSet), Wk nrow w0 F0 F w ∧ ρ 4 = .bool s.t_4
def G4 (w0 : World) (F0 : BSet) (s : S) (ρ : Env) (w : World) : Prop := ∃ (F : BSet), Wk nrow w0 F0 F w ∧ ∃ (g6 : Nat), SlR k_Commit F w (ρ 0) s.t_0 ∧ SlR (kInt .i64) F w (ρ 1) s.t_1 ∧ SlR k_Commit F w (ρ 5) s.t_5 ∧ ρ 6 = .pointer (some ⟨g6, 0, none⟩) ∧ Box k_Fault 26 (Bs w0 nrow) F w g6 s.t_6
def G5 (w0 : World) (F0 : BSet) (s : S) (ρ : Env) (w : World) : Prop := ∃ (F : BSet), Wk nrow w0 F0 F w ∧ ∃ (g6 : Nat) (g8 : Nat), SlR k_Commit F w (ρ 0) s.t_0 ∧ SlR (kInt .i64) F w (ρ 1) s.t_1 ∧ SlR k_Commit F w (ρ 5) s.t_5 ∧ ρ 6 = .pointer (some ⟨g6, 0, none⟩) ∧ Box k_Fault 26 (Bs w0 nrow) F w g6 s.t_6 ∧ SlR (kInt .i64) F w (ρ 7) s.t_7 ∧ ρ 8 = .pointer (some ⟨g8, 0, none⟩) ∧ Box k_Fault 26 (Bs w0 nrow) F w g8 s.t_8 ∧ Apart (some g6) (some g8)
def G6 (w0 : World) (F0 : BSet) (s : S) (ρ : Env) (w : World) : Prop := ∃ (F : BSet), Wk nrow w0 F0 F w ∧ ∃ (g6 : Nat) (g8 : Nat), SlR k_Commit F w (ρ 0) s.t_0 ∧ SlR (kInt .i64) F w (ρ 1) s.t_1 ∧ SlR k_Commit F w (ρ 5) s.t_5 ∧ ρ 6 = .pointer (some ⟨g6, 0, none⟩) ∧ Box k_Fault 26 (Bs w0 nrow) F w g6 s.t_6 ∧ SlR (kInt .i64) F w (ρ 7) s.t_7 ∧ ρ 8 = .pointer (some ⟨g8, 0, none⟩) ∧ Box k_Fault 26 (Bs w0 nrow) F w g8 s.t_8 ∧ ρ 42 = .bool s.t_42 ∧ Apart (some g6) (some g8)
def G7 (w0 : World) (F0 : BSet) (s : S) (ρ : Env) (w : World) : Prop := ∃ (F : BSet), Wk nrow w0 F0 F w ∧ ∃ (g6 : Nat) (g8 : Nat), SlR k_Commit F w (ρ 5) s.t_5 ∧ ρ 6 = .pointer (some ⟨g6, 0, none⟩) ∧ Box k_Fault 26 (Bs w0 nrow) F w g6 s.t_6 ∧ ρ 8 = .pointer (some ⟨g8, 0, none⟩) ∧ Box k_Fault 26 (Bs w0 nrow) F w g8 s.t_8 ∧ Apart (some g6) (some g8)
def G8 (w0 : World) (F0 : BSet) (s : S) (ρ : Env) (w : World) : Prop := ∃ (F : BSet), Wk nrow w0 F0 F w ∧ SlR k_Commit F w (ρ 0) s.t_0 ∧ SlR (kInt .i64) F w (ρ 1) s.t_1 ∧ SlR k_Commit F w (ρ 5) s.t_5 ∧ SlR (kInt .i64) F w (ρ 7) s.t_7
def G9 (w0 : World) (F0 : BSet) (s : S) (ρ : Env) (w : World) : Prop := ∃ (F : BSet), Wk nrow w0 F0 F w ∧ SlR k_Commit F w (ρ 0) s.t_0 ∧ SlR (kInt .i64) F w (ρ 1) s.t_1 ∧ SlR k_Commit F w (ρ 5) s.t_5 ∧ SlR (kInt .i64) F w (ρ 7) s.t_7 ∧ ρ 61 = .bool s.t_61
def G10 (w0 : World) (F0 : BSet) (s : S) (ρ : Env) (w : World) : Prop := ∃ (F : BSet), Wk nrow w0 F0 F w ∧ SlR (kInt .i64) F w (ρ 1) s.t_1 ∧ SlR k_Commit F w (ρ 5) s.t_5 ∧ SlR (kInt .i64) F w (ρ 7) s.t_7 ∧ SlR (kSl kBool) F w (ρ 9) s.t_9 ∧ SlR (kSl kBool) F w (ρ 10) s.t_10
def G11 (w0 : World) (F0 : BSet) (s : S) (ρ : Env) (w : World) : Prop := ∃ (F : BSet), Wk nrow w0 F0 F w ∧ SlR (kInt .i64) F w (ρ 1) s.t_1 ∧ SlR k_Commit F w (ρ 5) s.t_5 ∧ SlR (kInt .i64) F w (ρ 7) s.t_7 ∧ SlR (kSl kBool) F w (ρ 9) s.t_9 ∧ SlR (kSl kBool) F w (ρ 10) s.t_10 ∧ ρ 11 = .int .i64 s.t_11
def G12 (w0 : World) (F0 : BSet) (s : S) (ρ : Env) (w : World) : Prop := ∃ (F : BSet), Wk nrow w0 F0 F w ∧ SlR (kInt .i64) F w (ρ 1) s.t_1 ∧ SlR k_Commit F w (ρ 5) s.t_5 ∧ SlR (kInt .i64) F w (ρ 7) s.t_7 ∧ SlR (kSl kBool) F w (ρ 9) s.t_9 ∧ SlR (kSl kBool) F w (ρ 10) s.t_10 ∧ ρ 11 = .int .i64 s.t_11 ∧ ρ 69 = .bool s.t_69
def G13 (w0 : World) (F0 : BSet) (s : S) (ρ : Env) (w : World) : Prop := ∃ (F : BSet), Wk nrow w0 F0 F w ∧ SlR (kInt .i64) F w (ρ 1) s.t_1 ∧ SlR k_Commit F w (ρ 5) s.t_5 ∧ SlR (kInt .i64) F w (ρ 7) s.t_7 ∧ SlR (kSl kBool) F w (ρ 9) s.t_9 ∧ SlR (kSl kBool) F w (ρ 10) s.t_10 ∧ ρ 11 = .int .i64 s.t_11 ∧ ρ 12 = .int .i64 s.t_12
def G14 (w0 : World) (F0 : BSet) (s : S) (ρ : Env) (w : World) : Prop := ∃ (F : BSet), Wk nrow w0 F0 F w ∧ SlR (kInt .i64) F w (ρ 1) s.t_1 ∧ SlR k_Commit F w (ρ 5) s.t_5 ∧ SlR (kInt .i64) F w (ρ 7) s.t_7 ∧ SlR (kSl kBool) F w (ρ 9) s.t_9 ∧ SlR (kSl kBool) F w (ρ 10) s.t_10 ∧ ρ 11 = .int .i64 s.t_11 ∧ ρ 12 = .int .i64 s.t_12 ∧ ρ 75 = .bool s.t_75
def G15 (w0 : World) (F0 : BSet) (s : S) (ρ : Env) (w : World) : Prop := ∃ (F : BSet), Wk nrow w0 F0 F w ∧ SlR (kInt .i64) F w (ρ 1) s.t_1 ∧ SlR k_Commit F w (ρ 5) s.t_5 ∧ SlR (kInt .i64) F w (ρ 7) s.t_7 ∧ SlR (kSl kBool) F w (ρ 9) s.t_9 ∧ SlR (kSl kBool) F w (ρ 10) s.t_10 ∧ ρ 11 = .int .i64 s.t_11 ∧ ρ 12 = .int .i64 s.t_12 ∧ ρ 13 = .bool s.t_13
def G16 (w0 : World) (F0 : BSet) (s : S) (ρ : Env) (w : World) : Prop := ∃ (F : BSet), Wk nrow w0 F0 F w ∧ SlR (kInt .i64) F w (ρ 1) s.t_1 ∧ SlR k_Commit F w (ρ 5) s.t_5 ∧ SlR (kInt .i64) F w (ρ 7) s.t_7 ∧ SlR (kSl kBool) F w (ρ 9) s.t_9 ∧ SlR (kSl kBool) F w (ρ 10) s.t_10 ∧ ρ 11 = .int .i64 s.t_11 ∧ ρ 12 = .int .i64 s.t_12 ∧ ρ 119 = .bool s.t_119
set_option maxHeartbeats 4000000 in
set_option maxRecDepth 20000 in
theorem ref (w0 : World) (F0 : BSet) : ∃ c, Try.f7.body = some c ∧ Ref Try.prog 120 c (G0 w0 F0) body (fun _ _ _ => False) (fun _ _ _ _ => False) (fun r ρ w => ∃ s, retv s = r ∧ G3 w0 F0 s ρ w) := by
  refine ⟨_, rfl, ?_⟩
  unfold body
  refine Ref.seq (B := G0 w0 F0) ?_ ?_
  · refine Ref.region (fun s ρ w s' h hr => ?_)
    obtain ⟨F, hW, h0, h1⟩ := h
    refine ol_v (e_as _ rfl) rfl ?_
    obtain rfl := Option.some.inj hr
    exact ol_nil ⟨F, hW, h0, h1⟩
  refine Ref.seq (B := G0 w0 F0) ?_ ?_
  · refine Ref.seq (B := G1 w0 F0) ?_ ?_
    · refine Ref.region (fun s ρ w s' h hr => ?_)
      obtain ⟨F, hW, h0, h1⟩ := h
      obtain ⟨x1, hx1, hr⟩ := bind_some' hr
      refine ol_e (f_call [] fn_12 rfl (law4_shallowExample.calls hW.ok  hx1)) rfl rfl ?_
      rintro _ w2 ⟨Fz3, rfl, kw1⟩
      have hW5 := hW.trans kw1
      have st1 := kw1.stp hW.ok
      refine ol_v (e_not_ rfl) rfl ?_
      obtain rfl := Option.some.inj hr
      exact ol_nil ⟨Fz3, hW5, (h0.keep st1), (h1.keep st1), rfl⟩
    refine Ref.cond (b := fun s => s.t_15) (fun s ρ w ⟨F, hW, h0, h1, h15⟩ => h15) (Ref.pre (A := G2 w0 F0) ?_ (fun s ρ w h => (fun ⟨F, hW, h0, h1, h15⟩ => ⟨F, hW⟩ : G1 w0 F0 s ρ w → G2 w0 F0 s ρ w) h.2)) (Ref.pre (A := G0 w0 F0) ?_ (fun s ρ w h => (fun ⟨F, hW, h0, h1, h15⟩ => ⟨F, hW, h0, h1⟩ : G1 w0 F0 s ρ w → G0 w0 F0 s ρ w) h.2))
    · refine Ref.seq (B := G3 w0 F0) ?_ ?_
      · refine Ref.region (fun s ρ w s' h hr => ?_)
        obtain ⟨F, hW⟩ := h
        refine ol_v (e_as _ rfl) rfl ?_
        obtain rfl := Option.some.inj hr
        exact ol_nil ⟨F, hW, rfl⟩
      exact Ref.ret (fun s ρ w h => ⟨s, rfl, h⟩)
    · exact Ref.skip
  refine Ref.seq (B := G4 w0 F0) ?_ ?_
  · refine Ref.region (fun s ρ w s' h hr => ?_)
    obtain ⟨F, hW, h0, h1⟩ := h
    refine ol_v (e_mv _ rfl) rfl ?_
    refine ol_v (e_mv _ rfl) rfl ?_
    obtain ⟨x6, hx6, hr⟩ := bind_some' hr
    refine ol_e (f_call [(ρ 0), (ρ 1)] fn_21 (lcons rfl (lcons rfl rfl)) (shallow_Extract.calls hW.ok h0 h1 hx6)) rfl rfl ?_
    rintro _ w7 ⟨Fz8, v9, v11, rfl, kw1, hk10, hk12⟩
    have hW14 := hW.trans kw1
    have st1 := kw1.stp hW.ok
    refine ol_v (e_mv _ rfl) rfl ?_
    refine ol_v (e_ext _ rfl rfl) rfl ?_
    refine ol_v (e_ext _ rfl rfl) rfl ?_
    refine ol_e (f_alloc zer_26 hW14) rfl rfl ?_
    rintro _ w16 ⟨g15, rfl, kw2, ho17⟩
    have hW18 := hW14.trans kw2
    have st2 := kw2.stp hW14.ok
    obtain ⟨Fz19, hWz20, st3, hF3, hz21⟩ := (((hk10.base (row := nrow) hW.le).wk kw2 hW14.ok)).frozen hW18
    refine ol_v (e_as _ rfl) rfl ?_
    refine ol_eN (f_stB hWz20 ((ho17.base (row := nrow) hW14.le).frz (apart_bo (ho17.base (row := nrow) hW14.le) ((hk10.base (row := nrow) hW.le).wk kw2 hW14.ok) rfl).symm hF3 st3) (FldS.whole _) ty_26 (hk12.keep (st2.trans st3)) rfl rfl) rfl ?_
    rintro - w22 ⟨hW23, ho24, hg4, st4⟩
    obtain rfl := Option.some.inj hr
    exact ol_nil ⟨Fz19, hW23, g15, (h0.keep (st1.trans (st2.trans (st3.trans st4)))), (h1.keep (st1.trans (st2.trans (st3.trans st4)))), (hz21.keep st4), rfl, ho24⟩
  refine Ref.seq (B := G5 w0 F0) ?_ ?_
  · refine Ref.region (fun s ρ w s' h hr => ?_)
    obtain ⟨F, hW, g6, h0, h1, h5, p6, h6⟩ := h
    refine ol_v (e_mv _ rfl) rfl ?_
    refine ol_v (e_mv _ rfl) rfl ?_
    obtain ⟨x25, hx25, hr⟩ := bind_some' hr
    refine ol_e (f_call [(ρ 0), (ρ 1)] fn_19 (lcons rfl (lcons rfl rfl)) (shallow_Boundary.calls hW.ok h0 h1 hx25)) rfl rfl ?_
    rintro _ w26 ⟨Fz27, v28, v30, rfl, kw1, hk29, hk31⟩
    have hW33 := hW.trans kw1
    have st1 := kw1.stp hW.ok
    refine ol_v (e_mv _ rfl) rfl ?_
    refine ol_v (e_ext _ rfl rfl) rfl ?_
    refine ol_v (e_ext _ rfl rfl) rfl ?_
    refine ol_e (f_alloc zer_26 hW33) rfl rfl ?_
    rintro _ w35 ⟨g34, rfl, kw2, ho36⟩
    have hW37 := hW33.trans kw2
    have st2 := kw2.stp hW33.ok
    obtain ⟨Fz38, hWz39, st3, hF3, hz40⟩ := (((hk29.base (row := nrow) hW.le).wk kw2 hW33.ok)).frozen hW37
    refine ol_v (e_as _ rfl) rfl ?_
    refine ol_eN (f_stB hWz39 ((ho36.base (row := nrow) hW33.le).frz (apart_bo (ho36.base (row := nrow) hW33.le) ((hk29.base (row := nrow) hW.le).wk kw2 hW33.ok) rfl).symm hF3 st3) (FldS.whole _) ty_26 (hk31.keep (st2.trans st3)) rfl rfl) rfl ?_
    rintro - w41 ⟨hW42, ho43, hg4, st4⟩
    obtain rfl := Option.some.inj hr
    exact ol_nil ⟨Fz38, hW42, g6, g34, (h0.keep (st1.trans (st2.trans (st3.trans st4)))), (h1.keep (st1.trans (st2.trans (st3.trans st4)))), (h5.keep (st1.trans (st2.trans (st3.trans st4)))), p6, ((((h6.wk kw1 hW.ok).wk kw2 hW33.ok).frz (apart_bo ((h6.wk kw1 hW.ok).wk kw2 hW33.ok) ((hk29.base (row := nrow) hW.le).wk kw2 hW33.ok) rfl).symm hF3 st3).mut (Apart.base (fun _ e_ => by cases e_; exact ho36.ge) (h6.wk kw1 hW.ok).ltw) hg4 st4), (hz40.keep st4), rfl, ho43, (Apart.base (fun _ e_ => by cases e_; exact ho36.ge) (h6.wk kw1 hW.ok).ltw).symm⟩
  refine Ref.seq (B := G8 w0 F0) ?_ ?_
  · refine Ref.seq (B := G6 w0 F0) ?_ ?_
    · refine Ref.region (fun s ρ w s' h hr => ?_)
      obtain ⟨F, hW, g6, g8, h0, h1, h5, p6, h6, h7, p8, h8, a6b_8b⟩ := h
      refine ol_v (e_fa fa_26_0 p6) rfl ?_
      refine ol_v (e_ld ty_3 (LiesV.int ((h6).at_.fld fl_Fault_0)) rfl) rfl ?_
      refine ol_v (e_neq rfl rfl) rfl ?_
      refine ol_cutA 5 31 35 (fun ρ' w' => w = w' ∧ ρ' 35 = .bool ((!decide (s.t_6.Code = (0 : Int))) || (!decide (s.t_8.Code = (0 : Int))))) rfl ?_ ?_
      · by_cases hb44 : (!decide (s.t_6.Code = (0 : Int))) = true
        · refine ol_v (e_mv _ rfl) rfl ?_
          refine ol_not rfl rfl rfl (congrArg Value.bool hb44) rfl ?_
          refine ol_not rfl rfl rfl (congrArg Value.bool hb44) rfl ?_
          refine ol_not rfl rfl rfl (congrArg Value.bool hb44) rfl ?_
          refine ol_v (e_pick true _ (congrArg Value.bool hb44) rfl) rfl ?_
          exact ol_nil ⟨⟨rfl, (bv_or_t hb44)⟩, ((((((Agr.refl _ _ _).upd rfl rfl).upd rfl rfl).upd rfl rfl).upd rfl rfl).upd rfl rfl)⟩
        · have hb45 := Bool.eq_false_iff.mpr hb44
          refine ol_v (e_mv _ rfl) rfl ?_
          refine ol_yes rfl rfl (congrArg Value.bool hb45) ?_
          refine ol_v (e_fa fa_26_0 p8) rfl ?_
          refine ol_yes rfl rfl (congrArg Value.bool hb45) ?_
          refine ol_v (e_ld ty_3 (LiesV.int ((h8).at_.fld fl_Fault_0)) rfl) rfl ?_
          refine ol_yes rfl rfl (congrArg Value.bool hb45) ?_
          refine ol_v (e_neq rfl rfl) rfl ?_
          refine ol_v (e_pick false _ (congrArg Value.bool hb45) rfl) rfl ?_
          exact ol_nil ⟨⟨rfl, (bv_or_f hb45)⟩, ((((((Agr.refl _ _ _).upd rfl rfl).upd rfl rfl).upd rfl rfl).upd rfl rfl).upd rfl rfl)⟩
      rintro ρ46 _ ⟨⟨rfl, hp46⟩, hAg46⟩
      obtain ⟨x56, hx57, hr⟩ := bind_some' hr
      refine ol_cutA 7 36 42 (fun ρ' w' => ∃ F', Wk nrow w F F' w' ∧ ρ' 42 = .bool x56) rfl ?_ ?_
      · by_cases hb47 : ((!decide (s.t_6.Code = (0 : Int))) || (!decide (s.t_8.Code = (0 : Int)))) = true
        · have hr := hx57
          rw [if_pos hb47] at hr
          refine ol_v (e_mv _ hp46) rfl ?_
          refine ol_not rfl rfl rfl (congrArg Value.bool hb47) rfl ?_
          refine ol_not rfl rfl rfl (congrArg Value.bool hb47) rfl ?_
          refine ol_not rfl rfl rfl (congrArg Value.bool hb47) rfl ?_
          refine ol_not rfl rfl rfl (congrArg Value.bool hb47) rfl ?_
          refine ol_not rfl rfl rfl (congrArg Value.bool hb47) rfl ?_
          refine ol_v (e_pick true _ (congrArg Value.bool hb47) rfl) rfl ?_
          exact ol_nil ⟨⟨_, Wk.refl hW.ok, (congrArg Value.bool (Option.some.inj hr))⟩, ((((((((Agr.refl _ _ _).upd rfl rfl).upd rfl rfl).upd rfl rfl).upd rfl rfl).upd rfl rfl).upd rfl rfl).upd rfl rfl)⟩
        · have hb48 := Bool.eq_false_iff.mpr hb47
          have hr := hx57
          rw [if_neg hb47] at hr
          refine ol_v (e_mv _ hp46) rfl ?_
          refine ol_yes rfl rfl (congrArg Value.bool hb48) ?_
          refine ol_v (e_mv _ (hAg46 0 rfl)) rfl ?_
          refine ol_yes rfl rfl (congrArg Value.bool hb48) ?_
          refine ol_v (e_mv _ (hAg46 1 rfl)) rfl ?_
          refine ol_yes rfl rfl (congrArg Value.bool hb48) ?_
          obtain ⟨x49, hx49, hr⟩ := bind_some' hr
          refine ol_e (f_call [(ρ 0), (ρ 1)] fn_22 (lcons rfl (lcons rfl rfl)) (ref4_SelectionFault.calls hW.ok h0 h1 hx49)) rfl rfl ?_
          rintro v52 w50 ⟨Fz51, _, rfl, kw1, hk53⟩
          have hW55 := hW.trans kw1
          have st1 := kw1.stp hW.ok
          refine ol_yes rfl rfl (congrArg Value.bool hb48) ?_
          refine ol_v (e_field_int (by kernel_rfl) ty_3 fl_Fault_0 rfl hk53 rfl) rfl ?_
          refine ol_yes rfl rfl (congrArg Value.bool hb48) ?_
          refine ol_v (e_neq rfl rfl) rfl ?_
          refine ol_v (e_pick false _ (congrArg Value.bool hb48) rfl) rfl ?_
          exact ol_nil ⟨⟨_, kw1, (congrArg Value.bool (Option.some.inj hr))⟩, ((((((((Agr.refl _ _ _).upd rfl rfl).upd rfl rfl).upd rfl rfl).upd rfl rfl).upd rfl rfl).upd rfl rfl).upd rfl rfl)⟩
      rintro ρ57 w58 ⟨⟨Fz59, kw1, hp57⟩, hAg57⟩
      have hW60 := hW.trans kw1
      have st1 := kw1.stp hW.ok
      obtain rfl := Option.some.inj hr
      exact ol_nil ⟨Fz59, hW60, g6, g8, (SlR.eqv ((hAg57 0 rfl).trans (hAg46 0 rfl)) (h0.keep st1)), (SlR.eqv ((hAg57 1 rfl).trans (hAg46 1 rfl)) (h1.keep st1)), (SlR.eqv ((hAg57 5 rfl).trans (hAg46 5 rfl)) (h5.keep st1)), ((hAg57 6 rfl).trans ((hAg46 6 rfl).trans p6)), (h6.wk kw1 hW.ok), (SlR.eqv ((hAg57 7 rfl).trans (hAg46 7 rfl)) (h7.keep st1)), ((hAg57 8 rfl).trans ((hAg46 8 rfl).trans p8)), (h8.wk kw1 hW.ok), hp57, a6b_8b⟩
    refine Ref.cond (b := fun s => s.t_42) (fun s ρ w ⟨F, hW, g6, g8, h0, h1, h5, p6, h6, h7, p8, h8, h42, a6b_8b⟩ => h42) (Ref.pre (A := G7 w0 F0) ?_ (fun s ρ w h => (fun ⟨F, hW, g6, g8, h0, h1, h5, p6, h6, h7, p8, h8, h42, a6b_8b⟩ => ⟨F, hW, g6, g8, h5, p6, h6, p8, h8, a6b_8b⟩ : G6 w0 F0 s ρ w → G7 w0 F0 s ρ w) h.2)) (Ref.pre (A := G8 w0 F0) ?_ (fun s ρ w h => (fun ⟨F, hW, g6, g8, h0, h1, h5, p6, h6, h7, p8, h8, h42, a6b_8b⟩ => ⟨F, hW, h0, h1, h5, h7⟩ : G6 w0 F0 s ρ w → G8 w0 F0 s ρ w) h.2))
    · refine Ref.seq (B := G3 w0 F0) ?_ ?_
      · refine Ref.region (fun s ρ w s' h hr => ?_)
        obtain ⟨F, hW, g6, g8, h5, p6, h6, p8, h8, a6b_8b⟩ := h
        obtain ⟨v61, hl62⟩ := LiesAt.v (h6).at_
        refine ol_v (e_ld ty_26 hl62 p6) rfl ?_
        obtain ⟨v63, hl64⟩ := LiesAt.v (h8).at_
        refine ol_v (e_ld ty_26 hl64 p8) rfl ?_
        refine ol_v (e_teql (eq_Fault_26 hl62.val hl64.val) rfl rfl) rfl ?_
        refine ol_cutA 5 46 50 (fun ρ' w' => w = w' ∧ ρ' 50 = .bool ((decide (s.t_6 = s.t_8)) && (decide ((s.t_5.length : Int) = (0 : Int))))) rfl ?_ ?_
        · by_cases hb65 : (decide (s.t_6 = s.t_8)) = true
          · refine ol_v (e_mv _ rfl) rfl ?_
            refine ol_yes rfl rfl (congrArg Value.bool hb65) ?_
            refine ol_v (e_mv _ rfl) rfl ?_
            refine ol_yes rfl rfl (congrArg Value.bool hb65) ?_
            obtain ⟨A67, c68, e69, hc70, R71⟩ := id h5
            refine ol_v (e_len (SlT.sl sl_22) e69) rfl ?_
            refine ol_yes rfl rfl (congrArg Value.bool hb65) ?_
            refine ol_v (e_eql rfl rfl) rfl ?_
            refine ol_v (e_pick true _ (congrArg Value.bool hb65) rfl) rfl ?_
            exact ol_nil ⟨⟨rfl, (bv_and_t hb65)⟩, ((((((Agr.refl _ _ _).upd rfl rfl).upd rfl rfl).upd rfl rfl).upd rfl rfl).upd rfl rfl)⟩
          · have hb66 := Bool.eq_false_iff.mpr hb65
            refine ol_v (e_mv _ rfl) rfl ?_
            refine ol_not rfl rfl rfl (congrArg Value.bool hb66) rfl ?_
            refine ol_not rfl rfl rfl (congrArg Value.bool hb66) rfl ?_
            refine ol_not rfl rfl rfl (congrArg Value.bool hb66) rfl ?_
            refine ol_v (e_pick false _ (congrArg Value.bool hb66) rfl) rfl ?_
            exact ol_nil ⟨⟨rfl, (bv_and_f hb66)⟩, ((((((Agr.refl _ _ _).upd rfl rfl).upd rfl rfl).upd rfl rfl).upd rfl rfl).upd rfl rfl)⟩
        rintro ρ72 _ ⟨⟨rfl, hp72⟩, hAg72⟩
        refine ol_v (e_as _ hp72) rfl ?_
        obtain rfl := Option.some.inj hr
        exact ol_nil ⟨F, hW, rfl⟩
      exact Ref.ret (fun s ρ w h => ⟨s, rfl, h⟩)
    · exact Ref.skip
  refine Ref.seq (B := G8 w0 F0) ?_ ?_
  · refine Ref.seq (B := G9 w0 F0) ?_ ?_
    · refine Ref.region (fun s ρ w s' h hr => ?_)
      obtain ⟨F, hW, h0, h1, h5, h7⟩ := h
      refine ol_v (e_mv _ rfl) rfl ?_
      obtain ⟨A73, c74, e75, hc76, R77⟩ := id h5
      refine ol_v (e_len (SlT.sl sl_22) e75) rfl ?_
      refine ol_v (e_mv _ rfl) rfl ?_
      obtain ⟨A78, c79, e80, hc81, R82⟩ := id h1
      refine ol_v (e_len (SlT.sl sl_23) e80) rfl ?_
      refine ol_v (e_neq rfl rfl) rfl ?_
      obtain ⟨x92, hx93, hr⟩ := bind_some' hr
      refine ol_cutA 6 56 61 (fun ρ' w' => ∃ F', Wk nrow w F F' w' ∧ ρ' 61 = .bool x92) rfl ?_ ?_
      · by_cases hb83 : (!decide ((s.t_5.length : Int) = (s.t_1.length : Int))) = true
        · have hr := hx93
          rw [if_pos hb83] at hr
          refine ol_v (e_mv _ rfl) rfl ?_
          refine ol_not rfl rfl rfl (congrArg Value.bool hb83) rfl ?_
          refine ol_not rfl rfl rfl (congrArg Value.bool hb83) rfl ?_
          refine ol_not rfl rfl rfl (congrArg Value.bool hb83) rfl ?_
          refine ol_not rfl rfl rfl (congrArg Value.bool hb83) rfl ?_
          refine ol_v (e_pick true _ (congrArg Value.bool hb83) rfl) rfl ?_
          exact ol_nil ⟨⟨_, Wk.refl hW.ok, (congrArg Value.bool (Option.some.inj hr))⟩, (((((((Agr.refl _ _ _).upd rfl rfl).upd rfl rfl).upd rfl rfl).upd rfl rfl).upd rfl rfl).upd rfl rfl)⟩
        · have hb84 := Bool.eq_false_iff.mpr hb83
          have hr := hx93
          rw [if_neg hb83] at hr
          refine ol_v (e_mv _ rfl) rfl ?_
          refine ol_yes rfl rfl (congrArg Value.bool hb84) ?_
          refine ol_v (e_mv _ rfl) rfl ?_
          refine ol_yes rfl rfl (congrArg Value.bool hb84) ?_
          obtain ⟨x85, hx85, hr⟩ := bind_some' hr
          refine ol_e (f_call [(ρ 5)] fn_14 (lcons rfl rfl) (ref3_HistoryFault.calls hW.ok h5 hx85)) rfl rfl ?_
          rintro v88 w86 ⟨Fz87, _, rfl, kw1, hk89⟩
          have hW91 := hW.trans kw1
          have st1 := kw1.stp hW.ok
          refine ol_yes rfl rfl (congrArg Value.bool hb84) ?_
          refine ol_v (e_field_int (by kernel_rfl) ty_3 fl_Fault_0 rfl hk89 rfl) rfl ?_
          refine ol_yes rfl rfl (congrArg Value.bool hb84) ?_
          refine ol_v (e_neq rfl rfl) rfl ?_
          refine ol_v (e_pick false _ (congrArg Value.bool hb84) rfl) rfl ?_
          exact ol_nil ⟨⟨_, kw1, (congrArg Value.bool (Option.some.inj hr))⟩, (((((((Agr.refl _ _ _).upd rfl rfl).upd rfl rfl).upd rfl rfl).upd rfl rfl).upd rfl rfl).upd rfl rfl)⟩
      rintro ρ93 w94 ⟨⟨Fz95, kw1, hp93⟩, hAg93⟩
      have hW96 := hW.trans kw1
      have st1 := kw1.stp hW.ok
      obtain rfl := Option.some.inj hr
      exact ol_nil ⟨Fz95, hW96, (SlR.eqv (hAg93 0 rfl) (h0.keep st1)), (SlR.eqv (hAg93 1 rfl) (h1.keep st1)), (SlR.eqv (hAg93 5 rfl) (h5.keep st1)), (SlR.eqv (hAg93 7 rfl) (h7.keep st1)), hp93⟩
    refine Ref.cond (b := fun s => s.t_61) (fun s ρ w ⟨F, hW, h0, h1, h5, h7, h61⟩ => h61) (Ref.pre (A := G2 w0 F0) ?_ (fun s ρ w h => (fun ⟨F, hW, h0, h1, h5, h7, h61⟩ => ⟨F, hW⟩ : G9 w0 F0 s ρ w → G2 w0 F0 s ρ w) h.2)) (Ref.pre (A := G8 w0 F0) ?_ (fun s ρ w h => (fun ⟨F, hW, h0, h1, h5, h7, h61⟩ => ⟨F, hW, h0, h1, h5, h7⟩ : G9 w0 F0 s ρ w → G8 w0 F0 s ρ w) h.2))
    · refine Ref.seq (B := G3 w0 F0) ?_ ?_
      · refine Ref.region (fun s ρ w s' h hr => ?_)
        obtain ⟨F, hW⟩ := h
        refine ol_v (e_as _ rfl) rfl ?_
        obtain rfl := Option.some.inj hr
        exact ol_nil ⟨F, hW, rfl⟩
      exact Ref.ret (fun s ρ w h => ⟨s, rfl, h⟩)
    · exact Ref.skip
  refine Ref.seq (B := G10 w0 F0) ?_ ?_
  · refine Ref.region (fun s ρ w s' h hr => ?_)
    obtain ⟨F, hW, h0, h1, h5, h7⟩ := h
    refine ol_v (e_mv _ rfl) rfl ?_
    obtain ⟨x97, hx97, hr⟩ := bind_some' hr
    refine ol_e (f_call [(ρ 0)] fn_26 (lcons rfl rfl) (ref3_Reach.calls hW.ok h0 hx97)) rfl rfl ?_
    rintro v100 w98 ⟨Fz99, _, rfl, kw1, hk101⟩
    have hW103 := hW.trans kw1
    have st1 := kw1.stp hW.ok
    refine ol_v (e_mv _ rfl) rfl ?_
    obtain ⟨x104, hx104, hr⟩ := bind_some' hr
    refine ol_e (f_call [(ρ 5)] fn_26 (lcons rfl rfl) (ref3_Reach.calls hW103.ok (h5.keep st1) hx104)) rfl rfl ?_
    rintro v107 w105 ⟨Fz106, _, rfl, kw2, hk108⟩
    have hW110 := hW103.trans kw2
    have st2 := kw2.stp hW103.ok
    obtain ⟨Fz111, hWz112, st3, hF3, hz113⟩ := (((hk101.base (row := nrow) hW.le).wk kw2 hW103.ok)).frozen hW110
    refine ol_v (e_as _ rfl) rfl ?_
    obtain ⟨Fz114, hWz115, st4, hF4, hz116⟩ := (((hk108.base (row := nrow) hW103.le).frz (Apart.base (fun g_ hg_ => (hk108.lt hg_).1) (hk101.base (row := nrow) hW.le).ltw).symm hF3 st3)).frozen hWz112
    refine ol_v (e_as _ rfl) rfl ?_
    obtain rfl := Option.some.inj hr
    exact ol_nil ⟨Fz114, hWz115, (h1.keep (st1.trans (st2.trans (st3.trans st4)))), (h5.keep (st1.trans (st2.trans (st3.trans st4)))), (h7.keep (st1.trans (st2.trans (st3.trans st4)))), (hz113.keep st4), hz116⟩
  refine Ref.seq (B := G2 w0 F0) ?_ ?_
  · refine Ref.seq (B := G11 w0 F0) ?_ ?_
    · refine Ref.region (fun s ρ w s' h hr => ?_)
      obtain ⟨F, hW, h1, h5, h7, h9, h10⟩ := h
      refine ol_v (e_as _ rfl) rfl ?_
      obtain rfl := Option.some.inj hr
      exact ol_nil ⟨F, hW, h1, h5, h7, h9, h10, rfl⟩
    refine Ref.block ?_
    refine Ref.loop ?_
    refine Ref.seq (B := G11 w0 F0) ?_ ?_
    · refine Ref.seq (B := G12 w0 F0) ?_ ?_
      · refine Ref.region (fun s ρ w s' h hr => ?_)
        obtain ⟨F, hW, h1, h5, h7, h9, h10, h11⟩ := h
        refine ol_v (e_mv _ h11) rfl ?_
        refine ol_v (e_mv _ rfl) rfl ?_
        obtain ⟨A117, c118, e119, hc120, R121⟩ := id h5
        refine ol_v (e_len (SlT.sl sl_22) e119) rfl ?_
        refine ol_v (e_lss rfl rfl) rfl ?_
        obtain rfl := Option.some.inj hr
        exact ol_nil ⟨F, hW, h1, h5, h7, h9, h10, h11, rfl⟩
      refine Ref.cond (b := fun s => s.t_69) (fun s ρ w ⟨F, hW, h1, h5, h7, h9, h10, h11, h69⟩ => h69) (Ref.pre (A := G11 w0 F0) ?_ (fun s ρ w h => (fun ⟨F, hW, h1, h5, h7, h9, h10, h11, h69⟩ => ⟨F, hW, h1, h5, h7, h9, h10, h11⟩ : G12 w0 F0 s ρ w → G11 w0 F0 s ρ w) h.2)) (Ref.pre (A := G2 w0 F0) ?_ (fun s ρ w h => (fun ⟨F, hW, h1, h5, h7, h9, h10, h11, h69⟩ => ⟨F, hW⟩ : G12 w0 F0 s ρ w → G2 w0 F0 s ρ w) h.2))
      · exact Ref.skip
      · exact Ref.exit (fun s ρ w h => h)
    refine Ref.seq (B := G11 w0 F0) ?_ ?_
    · refine Ref.block ?_
      refine Ref.seq (B := G13 w0 F0) ?_ ?_
      · refine Ref.region (fun s ρ w s' h hr => ?_)
        obtain ⟨F, hW, h1, h5, h7, h9, h10, h11⟩ := h
        refine ol_v (e_as _ rfl) rfl ?_
        obtain rfl := Option.some.inj hr
        exact ol_nil ⟨F, hW, h1, h5, h7, h9, h10, h11, rfl⟩
      refine Ref.block ?_
      refine Ref.loop ?_
      refine Ref.seq (B := G13 w0 F0) ?_ ?_
      · refine Ref.seq (B := G14 w0 F0) ?_ ?_
        · refine Ref.region (fun s ρ w s' h hr => ?_)
          obtain ⟨F, hW, h1, h5, h7, h9, h10, h11, h12⟩ := h
          refine ol_v (e_mv _ h12) rfl ?_
          refine ol_v (e_mv _ rfl) rfl ?_
          obtain ⟨A122, c123, e124, hc125, R126⟩ := id h5
          refine ol_v (e_len (SlT.sl sl_22) e124) rfl ?_
          refine ol_v (e_lss rfl rfl) rfl ?_
          obtain rfl := Option.some.inj hr
          exact ol_nil ⟨F, hW, h1, h5, h7, h9, h10, h11, h12, rfl⟩
        refine Ref.cond (b := fun s => s.t_75) (fun s ρ w ⟨F, hW, h1, h5, h7, h9, h10, h11, h12, h75⟩ => h75) (Ref.pre (A := G13 w0 F0) ?_ (fun s ρ w h => (fun ⟨F, hW, h1, h5, h7, h9, h10, h11, h12, h75⟩ => ⟨F, hW, h1, h5, h7, h9, h10, h11, h12⟩ : G14 w0 F0 s ρ w → G13 w0 F0 s ρ w) h.2)) (Ref.pre (A := G11 w0 F0) ?_ (fun s ρ w h => (fun ⟨F, hW, h1, h5, h7, h9, h10, h11, h12, h75⟩ => ⟨F, hW, h1, h5, h7, h9, h10, h11⟩ : G14 w0 F0 s ρ w → G11 w0 F0 s ρ w) h.2))
        · exact Ref.skip
        · exact Ref.exit (fun s ρ w h => h)
      refine Ref.seq (B := G13 w0 F0) ?_ ?_
      · refine Ref.block ?_
        refine Ref.seq (B := G15 w0 F0) ?_ ?_
        · refine Ref.regionS (by kernel_rfl) (by kernel_rfl) (fun s ρ w ⟨F, hW, h1, h5, h7, h9, h10, h11, h12⟩ => ⟨F, hW.drewS, h1.keep (sd hW), h5.keep (sd hW), h7.keep (sd hW), h9.keep (sd hW), h10.keep (sd hW), h11, h12⟩) (fun s ρ w s' h hr => ?_)
          obtain ⟨F, hW, h1, h5, h7, h9, h10, h11, h12⟩ := h
          refine ol_v (e_mv _ rfl) rfl ?_
          refine ol_v (e_mv _ rfl) rfl ?_
          refine ol_v (e_mv _ h11) rfl ?_
          obtain ⟨x127, hx127, hr⟩ := bind_some' hr
          obtain ⟨A128, c129, e130, hc131, R132⟩ := id h1
          obtain ⟨b133, o134, hA135, L136⟩ := Row.at_ R132 hx127
          refine ol_v (e_ix (SlT.sl sl_23) (SlT.sz sl_23) hA135 hx127 e130 rfl) rfl ?_
          refine ol_v (e_ld ty_3 (LiesV.int L136.at_) rfl) rfl ?_
          obtain ⟨x137, hx137, hr⟩ := bind_some' hr
          obtain ⟨A138, c139, e140, hc141, R142⟩ := id h9
          obtain ⟨b143, o144, hA145, L146⟩ := Row.at_ R142 hx137
          refine ol_v (e_ix (SlT.sl sl_44) (SlT.sz sl_44) hA145 hx137 e140 rfl) rfl ?_
          obtain ⟨v147, hl148, hs149⟩ := LiesV.sl L146.at_
          refine ol_v (e_ld ty_46 hl148 rfl) rfl ?_
          refine ol_v (e_mv _ rfl) rfl ?_
          refine ol_v (e_mv _ h12) rfl ?_
          obtain ⟨x150, hx150, hr⟩ := bind_some' hr
          obtain ⟨A151, c152, e153, hc154, R155⟩ := id h1
          obtain ⟨b156, o157, hA158, L159⟩ := Row.at_ R155 hx150
          refine ol_v (e_ix (SlT.sl sl_23) (SlT.sz sl_23) hA158 hx150 e153 rfl) rfl ?_
          refine ol_v (e_ld ty_3 (LiesV.int L159.at_) rfl) rfl ?_
          obtain ⟨x160, hx160, hr⟩ := bind_some' hr
          obtain ⟨A161, c162, e163, hc164, R165⟩ := id hs149
          obtain ⟨b166, o167, hA168, L169⟩ := Row.at_ R165 hx160
          refine ol_v (e_ix (SlT.sl sl_46) (SlT.sz sl_46) hA168 hx160 e163 rfl) rfl ?_
          refine ol_v (e_ld ty_4 (LiesV.bool L169.at_) rfl) rfl ?_
          refine ol_v (e_as _ rfl) rfl ?_
          obtain rfl := Option.some.inj hr
          exact ol_nil ⟨F, hW, h1, h5, h7, h9, h10, h11, h12, rfl⟩
        refine Ref.seq (B := G16 w0 F0) ?_ ?_
        · refine Ref.region (fun s ρ w s' h hr => ?_)
          obtain ⟨F, hW, h1, h5, h7, h9, h10, h11, h12, h13⟩ := h
          refine ol_v (e_mv _ rfl) rfl ?_
          refine ol_v (e_mv _ h11) rfl ?_
          obtain ⟨x170, hx170, hr⟩ := bind_some' hr
          obtain ⟨A171, c172, e173, hc174, R175⟩ := id h10
          obtain ⟨b176, o177, hA178, L179⟩ := Row.at_ R175 hx170
          refine ol_v (e_ix (SlT.sl sl_44) (SlT.sz sl_44) hA178 hx170 e173 rfl) rfl ?_
          obtain ⟨v180, hl181, hs182⟩ := LiesV.sl L179.at_
          refine ol_v (e_ld ty_46 hl181 rfl) rfl ?_
          refine ol_v (e_mv _ h12) rfl ?_
          obtain ⟨x183, hx183, hr⟩ := bind_some' hr
          obtain ⟨A184, c185, e186, hc187, R188⟩ := id hs182
          obtain ⟨b189, o190, hA191, L192⟩ := Row.at_ R188 hx183
          refine ol_v (e_ix (SlT.sl sl_46) (SlT.sz sl_46) hA191 hx183 e186 rfl) rfl ?_
          refine ol_v (e_ld ty_4 (LiesV.bool L192.at_) rfl) rfl ?_
          refine ol_cutA 4 98 101 (fun ρ' w' => w = w' ∧ ρ' 101 = .bool (x183 && (!s.t_13))) rfl ?_ ?_
          · by_cases hb193 : x183 = true
            · refine ol_v (e_mv _ rfl) rfl ?_
              refine ol_yes rfl rfl (congrArg Value.bool hb193) ?_
              refine ol_v (e_mv _ h13) rfl ?_
              refine ol_yes rfl rfl (congrArg Value.bool hb193) ?_
              refine ol_v (e_not_ rfl) rfl ?_
              refine ol_v (e_pick true _ (congrArg Value.bool hb193) rfl) rfl ?_
              exact ol_nil ⟨⟨rfl, (bv_and_t hb193)⟩, (((((Agr.refl _ _ _).upd rfl rfl).upd rfl rfl).upd rfl rfl).upd rfl rfl)⟩
            · have hb194 := Bool.eq_false_iff.mpr hb193
              refine ol_v (e_mv _ rfl) rfl ?_
              refine ol_not rfl rfl rfl (congrArg Value.bool hb194) rfl ?_
              refine ol_not rfl rfl rfl (congrArg Value.bool hb194) rfl ?_
              refine ol_v (e_pick false _ (congrArg Value.bool hb194) rfl) rfl ?_
              exact ol_nil ⟨⟨rfl, (bv_and_f hb194)⟩, (((((Agr.refl _ _ _).upd rfl rfl).upd rfl rfl).upd rfl rfl).upd rfl rfl)⟩
          rintro ρ195 _ ⟨⟨rfl, hp195⟩, hAg195⟩
          obtain ⟨x233, hx234, hr⟩ := bind_some' hr
          refine ol_cutA 18 102 119 (fun ρ' w' => w = w' ∧ ρ' 119 = .bool x233) rfl ?_ ?_
          · by_cases hb196 : (x183 && (!s.t_13)) = true
            · have hr := hx234
              rw [if_pos hb196] at hr
              refine ol_v (e_mv _ hp195) rfl ?_
              refine ol_not rfl rfl rfl (congrArg Value.bool hb196) rfl ?_
              refine ol_not rfl rfl rfl (congrArg Value.bool hb196) rfl ?_
              refine ol_notU rfl rfl rfl rfl ?_
              refine ol_notU rfl rfl rfl rfl ?_
              refine ol_notU rfl rfl rfl rfl ?_
              refine ol_notU rfl rfl rfl rfl ?_
              refine ol_notU rfl rfl rfl rfl ?_
              refine ol_notU rfl rfl rfl rfl ?_
              refine ol_notU rfl rfl rfl rfl ?_
              refine ol_notU rfl rfl rfl rfl ?_
              refine ol_not rfl rfl rfl (congrArg Value.bool hb196) rfl ?_
              refine ol_not rfl rfl rfl (congrArg Value.bool hb196) rfl ?_
              refine ol_notU rfl rfl rfl rfl ?_
              refine ol_notU rfl rfl rfl rfl ?_
              refine ol_notU rfl rfl rfl rfl ?_
              refine ol_not rfl rfl rfl (congrArg Value.bool hb196) rfl ?_
              refine ol_v (e_pick true _ (congrArg Value.bool hb196) rfl) rfl ?_
              exact ol_nil ⟨⟨rfl, (congrArg Value.bool (Option.some.inj hr))⟩, (((((((((((((((((((Agr.refl _ _ _).upd rfl rfl).upd rfl rfl).upd rfl rfl).upd rfl rfl).upd rfl rfl).upd rfl rfl).upd rfl rfl).upd rfl rfl).upd rfl rfl).upd rfl rfl).upd rfl rfl).upd rfl rfl).upd rfl rfl).upd rfl rfl).upd rfl rfl).upd rfl rfl).upd rfl rfl).upd rfl rfl)⟩
            · have hb197 := Bool.eq_false_iff.mpr hb196
              have hr := hx234
              rw [if_neg hb196] at hr
              refine ol_v (e_mv _ hp195) rfl ?_
              refine ol_yes rfl rfl (congrArg Value.bool hb197) ?_
              refine ol_v (e_mv _ ((hAg195 13 rfl).trans h13)) rfl ?_
              refine ol_yes rfl rfl (congrArg Value.bool hb197) ?_
              obtain ⟨x223, hx224, hr⟩ := bind_some' hr
              refine ol_cutA 10 104 113 (fun ρ' w' => w = w' ∧ ρ' 113 = .bool x223) rfl ?_ ?_
              · by_cases hb198 : s.t_13 = true
                · have hr := hx224
                  rw [if_pos hb198] at hr
                  refine ol_v (e_mv _ rfl) rfl ?_
                  refine ol_yes rfl rfl (congrArg Value.bool hb198) ?_
                  refine ol_v (e_mv _ (hAg195 10 rfl)) rfl ?_
                  refine ol_yes rfl rfl (congrArg Value.bool hb198) ?_
                  refine ol_v (e_mv _ ((hAg195 11 rfl).trans h11)) rfl ?_
                  refine ol_yes rfl rfl (congrArg Value.bool hb198) ?_
                  obtain ⟨x200, hx200, hr⟩ := bind_some' hr
                  obtain ⟨A201, c202, e203, hc204, R205⟩ := id h10
                  obtain ⟨b206, o207, hA208, L209⟩ := Row.at_ R205 hx200
                  refine ol_v (e_ix (SlT.sl sl_44) (SlT.sz sl_44) hA208 hx200 e203 rfl) rfl ?_
                  refine ol_yes rfl rfl (congrArg Value.bool hb198) ?_
                  obtain ⟨v210, hl211, hs212⟩ := LiesV.sl L209.at_
                  refine ol_v (e_ld ty_46 hl211 rfl) rfl ?_
                  refine ol_yes rfl rfl (congrArg Value.bool hb198) ?_
                  refine ol_v (e_mv _ ((hAg195 12 rfl).trans h12)) rfl ?_
                  refine ol_yes rfl rfl (congrArg Value.bool hb198) ?_
                  obtain ⟨x213, hx213, hr⟩ := bind_some' hr
                  obtain ⟨A214, c215, e216, hc217, R218⟩ := id hs212
                  obtain ⟨b219, o220, hA221, L222⟩ := Row.at_ R218 hx213
                  refine ol_v (e_ix (SlT.sl sl_46) (SlT.sz sl_46) hA221 hx213 e216 rfl) rfl ?_
                  refine ol_yes rfl rfl (congrArg Value.bool hb198) ?_
                  refine ol_v (e_ld ty_4 (LiesV.bool L222.at_) rfl) rfl ?_
                  refine ol_yes rfl rfl (congrArg Value.bool hb198) ?_
                  refine ol_v (e_not_ rfl) rfl ?_
                  refine ol_yes rfl rfl (congrArg Value.bool hb197) ?_
                  refine ol_v (e_pick true _ (congrArg Value.bool hb198) rfl) rfl ?_
                  exact ol_nil ⟨⟨rfl, (congrArg Value.bool (Option.some.inj hr))⟩, (((((((((((Agr.refl _ _ _).upd rfl rfl).upd rfl rfl).upd rfl rfl).upd rfl rfl).upd rfl rfl).upd rfl rfl).upd rfl rfl).upd rfl rfl).upd rfl rfl).upd rfl rfl)⟩
                · have hb199 := Bool.eq_false_iff.mpr hb198
                  have hr := hx224
                  rw [if_neg hb198] at hr
                  refine ol_v (e_mv _ rfl) rfl ?_
                  refine ol_not rfl rfl rfl (congrArg Value.bool hb199) rfl ?_
                  refine ol_not rfl rfl rfl (congrArg Value.bool hb199) rfl ?_
                  refine ol_not rfl rfl rfl (congrArg Value.bool hb199) rfl ?_
                  refine ol_not rfl rfl rfl (congrArg Value.bool hb199) rfl ?_
                  refine ol_not rfl rfl rfl (congrArg Value.bool hb199) rfl ?_
                  refine ol_not rfl rfl rfl (congrArg Value.bool hb199) rfl ?_
                  refine ol_not rfl rfl rfl (congrArg Value.bool hb199) rfl ?_
                  refine ol_not rfl rfl rfl (congrArg Value.bool hb199) rfl ?_
                  refine ol_yes rfl rfl (congrArg Value.bool hb197) ?_
                  refine ol_v (e_pick false _ (congrArg Value.bool hb199) rfl) rfl ?_
                  exact ol_nil ⟨⟨rfl, (congrArg Value.bool (Option.some.inj hr))⟩, (((((((((((Agr.refl _ _ _).upd rfl rfl).upd rfl rfl).upd rfl rfl).upd rfl rfl).upd rfl rfl).upd rfl rfl).upd rfl rfl).upd rfl rfl).upd rfl rfl).upd rfl rfl)⟩
              rintro ρ224 _ ⟨⟨rfl, hp224⟩, hAg224⟩
              refine ol_yes rfl rfl ((hAg224 102 rfl).trans (congrArg Value.bool hb197)) ?_
              refine ol_cutA 5 114 118 (fun ρ' w' => w = w' ∧ ρ' 118 = .bool (x223 && (decide ((s.t_7.length : Int) = (0 : Int))))) rfl ?_ ?_
              · by_cases hb225 : x223 = true
                · refine ol_v (e_mv _ hp224) rfl ?_
                  refine ol_yes rfl rfl (congrArg Value.bool hb225) ?_
                  refine ol_v (e_mv _ ((hAg224 7 rfl).trans (hAg195 7 rfl))) rfl ?_
                  refine ol_yes rfl rfl (congrArg Value.bool hb225) ?_
                  obtain ⟨A227, c228, e229, hc230, R231⟩ := id h7
                  refine ol_v (e_len (SlT.sl sl_23) e229) rfl ?_
                  refine ol_yes rfl rfl (congrArg Value.bool hb225) ?_
                  refine ol_v (e_eql rfl rfl) rfl ?_
                  refine ol_yes rfl rfl ((hAg224 102 rfl).trans (congrArg Value.bool hb197)) ?_
                  refine ol_v (e_pick true _ (congrArg Value.bool hb225) rfl) rfl ?_
                  exact ol_nil ⟨⟨rfl, (bv_and_t hb225)⟩, ((((((Agr.refl _ _ _).upd rfl rfl).upd rfl rfl).upd rfl rfl).upd rfl rfl).upd rfl rfl)⟩
                · have hb226 := Bool.eq_false_iff.mpr hb225
                  refine ol_v (e_mv _ hp224) rfl ?_
                  refine ol_not rfl rfl rfl (congrArg Value.bool hb226) rfl ?_
                  refine ol_not rfl rfl rfl (congrArg Value.bool hb226) rfl ?_
                  refine ol_not rfl rfl rfl (congrArg Value.bool hb226) rfl ?_
                  refine ol_yes rfl rfl ((hAg224 102 rfl).trans (congrArg Value.bool hb197)) ?_
                  refine ol_v (e_pick false _ (congrArg Value.bool hb226) rfl) rfl ?_
                  exact ol_nil ⟨⟨rfl, (bv_and_f hb226)⟩, ((((((Agr.refl _ _ _).upd rfl rfl).upd rfl rfl).upd rfl rfl).upd rfl rfl).upd rfl rfl)⟩
              rintro ρ232 _ ⟨⟨rfl, hp232⟩, hAg232⟩
              refine ol_v (e_pick false _ ((hAg232 102 rfl).trans ((hAg224 102 rfl).trans (congrArg Value.bool hb197))) hp232) rfl ?_
              exact ol_nil ⟨⟨rfl, (congrArg Value.bool (Option.some.inj hr))⟩, ((((((Agr.refl _ _ _).upd rfl rfl).upd rfl rfl).into hAg224 rfl rfl).into hAg232 rfl rfl).upd rfl rfl)⟩
          rintro ρ234 _ ⟨⟨rfl, hp234⟩, hAg234⟩
          obtain rfl := Option.some.inj hr
          exact ol_nil ⟨F, hW, (SlR.eqv ((hAg234 1 rfl).trans (hAg195 1 rfl)) h1), (SlR.eqv ((hAg234 5 rfl).trans (hAg195 5 rfl)) h5), (SlR.eqv ((hAg234 7 rfl).trans (hAg195 7 rfl)) h7), (SlR.eqv ((hAg234 9 rfl).trans (hAg195 9 rfl)) h9), (SlR.eqv ((hAg234 10 rfl).trans (hAg195 10 rfl)) h10), ((hAg234 11 rfl).trans ((hAg195 11 rfl).trans h11)), ((hAg234 12 rfl).trans ((hAg195 12 rfl).trans h12)), hp234⟩
        refine Ref.cond (b := fun s => s.t_119) (fun s ρ w ⟨F, hW, h1, h5, h7, h9, h10, h11, h12, h119⟩ => h119) (Ref.pre (A := G2 w0 F0) ?_ (fun s ρ w h => (fun ⟨F, hW, h1, h5, h7, h9, h10, h11, h12, h119⟩ => ⟨F, hW⟩ : G16 w0 F0 s ρ w → G2 w0 F0 s ρ w) h.2)) (Ref.pre (A := G13 w0 F0) ?_ (fun s ρ w h => (fun ⟨F, hW, h1, h5, h7, h9, h10, h11, h12, h119⟩ => ⟨F, hW, h1, h5, h7, h9, h10, h11, h12⟩ : G16 w0 F0 s ρ w → G13 w0 F0 s ρ w) h.2))
        · refine Ref.seq (B := G3 w0 F0) ?_ ?_
          · refine Ref.region (fun s ρ w s' h hr => ?_)
            obtain ⟨F, hW⟩ := h
            refine ol_v (e_as _ rfl) rfl ?_
            obtain rfl := Option.some.inj hr
            exact ol_nil ⟨F, hW, rfl⟩
          exact Ref.ret (fun s ρ w h => ⟨s, rfl, h⟩)
        · exact Ref.skip
      refine Ref.region (fun s ρ w s' h hr => ?_)
      obtain ⟨F, hW, h1, h5, h7, h9, h10, h11, h12⟩ := h
      refine ol_v (e_mv _ h12) rfl ?_
      refine ol_v (e_add rfl rfl) rfl ?_
      refine ol_v (e_as _ rfl) rfl ?_
      obtain rfl := Option.some.inj hr
      exact ol_nil ⟨F, hW, h1, h5, h7, h9, h10, h11, rfl⟩
    refine Ref.region (fun s ρ w s' h hr => ?_)
    obtain ⟨F, hW, h1, h5, h7, h9, h10, h11⟩ := h
    refine ol_v (e_mv _ h11) rfl ?_
    refine ol_v (e_add rfl rfl) rfl ?_
    refine ol_v (e_as _ rfl) rfl ?_
    obtain rfl := Option.some.inj hr
    exact ol_nil ⟨F, hW, h1, h5, h7, h9, h10, rfl⟩
  refine Ref.seq (B := G3 w0 F0) ?_ ?_
  · refine Ref.region (fun s ρ w s' h hr => ?_)
    obtain ⟨F, hW⟩ := h
    refine ol_v (e_as _ rfl) rfl ?_
    obtain rfl := Option.some.inj hr
    exact ol_nil ⟨F, hW, rfl⟩
  exact Ref.ret (fun s ρ w h => ⟨s, rfl, h⟩)
def post (w : World) (F : BSet) (r : R) (v : Value) (w' : World) : Prop := ∃ (F' : BSet), v = .bool r ∧ Wk nrow w F F' w'
theorem calls {w : World} {F : BSet} (hok : ∀ b, F b → b < w.heap.size) {v0 : Value} {a0 : (List Commit)} (h0 : SlR k_Commit F w v0 a0) {v1 : Value} {a1 : (List Int)} (h1 : SlR (kInt .i64) F w v1 a1) {r : R} (hf : f a0 a1 = some r) : Calls Try.prog 7 #[v0, v1] w fun e w' => ∃ v, e = .returned v ∧ post w F r v w' := by
  obtain ⟨c, hc, href⟩ := ref w F
  refine calls_of_ref (args := [v0, v1]) _ Try.func7 hc rfl rfl href ?_ (retOf_some hf) ?_
  · exact ⟨F, Wk.refl hok, h0, h1⟩
  · rintro ρ w' a ⟨s, rfl, F', hW, h4⟩ hF
    refine ⟨_, run_results (rs := [.tmp 4]) rfl hF (vs := [ρ 4]) (⟨_, rfl, rfl⟩), ?_⟩
    have hv : resVal [ρ 4] = .bool s.t_4 := by rw [h4]; rfl
    exact ⟨F', hv, hW⟩
end
end law4_ShallowExtractKeepsAncestry

namespace negotiate_closed
section
def G0 (w0 : World) (F0 : BSet) (s : S) (ρ : Env) (w : World) : Prop := ∃ (F : BSet), Wk nrow w0 F0 F w ∧ SlR k_Commit F w (ρ 0) s.commits_0 ∧ SlR kBool F w (ρ 1) s.in_1
def G1 (w0 : World) (F0 : BSet) (s : S) (ρ : Env) (w : World) : Prop := ∃ (F : BSet), Wk nrow w0 F0 F w ∧ SlR kBool F w (ρ 1) s.in_1 ∧ SlR k_Commit F w (ρ 9) s.t_9 ∧ ρ 10 = .int .i64 s.t_10 ∧ ρ 11 = .int .i64 s.t_11
def G2 (w0 : World) (F0 : BSet) (s : S) (ρ : Env) (w : World) : Prop := ∃ (F : BSet), Wk nrow w0 F0 F w ∧ SlR kBool F w (ρ 1) s.in_1 ∧ SlR k_Commit F w (ρ 9) s.t_9 ∧ ρ 10 = .int .i64 s.t_10 ∧ ρ 11 = .int .i64 s.t_11 ∧ ρ 12 = .bool s.t_12
def G3 (w0 : World) (F0 : BSet) (s : S) (ρ : Env) (w : World) : Prop := ∃ (F : BSet), Wk nrow w0 F0 F w
def G4 (w0 : World) (F0 : BSet) (s : S) (ρ : Env) (w : World) : Prop := ∃ (F : BSet), Wk nrow w0 F0 F w ∧ ∃ (g6 : Nat), SlR kBool F w (ρ 1) s.in_1 ∧ ρ 5 = .int .i64 s.i_5 ∧ ρ 6 = .pointer (some ⟨g6, 0, none⟩) ∧ Box k_Commit 56 (Bs w0 nrow) F w g6 s.c_6 ∧ SlR k_Commit F w (ρ 9) s.t_9 ∧ ρ 10 = .int .i64 s.t_10 ∧ ρ 11 = .int .i64 s.t_11
def G5 (w0 : World) (F0 : BSet) (s : S) (ρ : Env) (w : World) : Prop := ∃ (F : BSet), Wk nrow w0 F0 F w ∧ SlR kBool F w (ρ 1) s.in_1 ∧ ρ 5 = .int .i64 s.i_5 ∧ SlR k_Commit F w (ρ 9) s.t_9 ∧ ρ 10 = .int .i64 s.t_10 ∧ ρ 11 = .int .i64 s.t_11 ∧ SlR (kInt .i64) F w (ρ 17) s.t_17 ∧ ρ 18 = .int .i64 s.t_18 ∧ ρ 19 = .int .i64 s.t_19
def G6 (w0 : World) (F0 : BSet) (s : S) (ρ : Env) (w : World) : Prop := ∃ (F : BSet), Wk nrow w0 F0 F w ∧ SlR kBool F w (ρ 1) s.in_1 ∧ ρ 5 = .int .i64 s.i_5 ∧ SlR k_Commit F w (ρ 9) s.t_9 ∧ ρ 10 = .int .i64 s.t_10 ∧ ρ 11 = .int .i64 s.t_11 ∧ SlR (kInt .i64) F w (ρ 17) s.t_17 ∧ ρ 18 = .int .i64 s.t_18 ∧ ρ 19 = .int .i64 s.t_19 ∧ ρ 20 = .bool s.t_20
def G7 (w0 : World) (F0 : BSet) (s : S) (ρ : Env) (w : World) : Prop := ∃ (F : BSet), Wk nrow w0 F0 F w ∧ SlR kBool F w (ρ 1) s.in_1 ∧ ρ 5 = .int .i64 s.i_5 ∧ ρ 8 = .int .i64 s.p_8 ∧ SlR k_Commit F w (ρ 9) s.t_9 ∧ ρ 10 = .int .i64 s.t_10 ∧ ρ 11 = .int .i64 s.t_11 ∧ SlR (kInt .i64) F w (ρ 17) s.t_17 ∧ ρ 18 = .int .i64 s.t_18 ∧ ρ 19 = .int .i64 s.t_19
def G8 (w0 : World) (F0 : BSet) (s : S) (ρ : Env) (w : World) : Prop := ∃ (F : BSet), Wk nrow w0 F0 F w ∧ SlR kBool F w (ρ 1) s.in_1 ∧ ρ 5 = .int .i64 s.i_5 ∧ SlR k_Commit F w (ρ 9) s.t_9 ∧ ρ 10 = .int .i64 s.t_10 ∧ ρ 11 = .int .i64 s.t_11 ∧ SlR (kInt .i64) F w (ρ 17) s.t_17 ∧ ρ 18 = .int .i64 s.t_18 ∧ ρ 19 = .int .i64 s.t_19 ∧ ρ 33 = .bool s.t_33
def G9 (w0 : World) (F0 : BSet) (s : S) (ρ : Env) (w : World) : Prop := ∃ (F : BSet), Wk nrow w0 F0 F w ∧ ρ 5 = .int .i64 s.i_5
def G10 (w0 : World) (F0 : BSet) (s : S) (ρ : Env) (w : World) : Prop := ∃ (F : BSet), Wk nrow w0 F0 F w ∧ ρ 4 = .int .i64 s.t_4
set_option maxHeartbeats 4000000 in
set_option maxRecDepth 20000 in
theorem ref (w0 : World) (F0 : BSet) : ∃ c, Try.f50.body = some c ∧ Ref Try.prog 37 c (G0 w0 F0) body (fun _ _ _ => False) (fun _ _ _ _ => False) (fun r ρ w => ∃ s, retv s = r ∧ G10 w0 F0 s ρ w) := by
  refine ⟨_, rfl, ?_⟩
  unfold body
  refine Ref.seq (B := G0 w0 F0) ?_ ?_
  · refine Ref.region (fun s ρ w s' h hr => ?_)
    obtain ⟨F, hW, h0, h1⟩ := h
    refine ol_v (e_as _ rfl) rfl ?_
    obtain rfl := Option.some.inj hr
    exact ol_nil ⟨F, hW, h0, h1⟩
  refine Ref.seq (B := G3 w0 F0) ?_ ?_
  · refine Ref.seq (B := G1 w0 F0) ?_ ?_
    · refine Ref.region (fun s ρ w s' h hr => ?_)
      obtain ⟨F, hW, h0, h1⟩ := h
      refine ol_v (e_mv _ rfl) rfl ?_
      obtain ⟨A1, c2, e3, hc4, R5⟩ := id h0
      refine ol_v (e_len (SlT.sl sl_22) e3) rfl ?_
      refine ol_v (e_mv _ rfl) rfl ?_
      obtain rfl := Option.some.inj hr
      exact ol_nil ⟨F, hW, h1, h0, rfl, rfl⟩
    refine Ref.block ?_
    refine Ref.loop ?_
    refine Ref.seq (B := G2 w0 F0) ?_ ?_
    · refine Ref.region (fun s ρ w s' h hr => ?_)
      obtain ⟨F, hW, h1, h9, h10, h11⟩ := h
      refine ol_v (e_lss h11 h10) rfl ?_
      obtain rfl := Option.some.inj hr
      exact ol_nil ⟨F, hW, h1, h9, h10, h11, rfl⟩
    refine Ref.seq (B := G1 w0 F0) ?_ ?_
    · refine Ref.cond (b := fun s => s.t_12) (fun s ρ w ⟨F, hW, h1, h9, h10, h11, h12⟩ => h12) (Ref.pre (A := G1 w0 F0) ?_ (fun s ρ w h => (fun ⟨F, hW, h1, h9, h10, h11, h12⟩ => ⟨F, hW, h1, h9, h10, h11⟩ : G2 w0 F0 s ρ w → G1 w0 F0 s ρ w) h.2)) (Ref.pre (A := G3 w0 F0) ?_ (fun s ρ w h => (fun ⟨F, hW, h1, h9, h10, h11, h12⟩ => ⟨F, hW⟩ : G2 w0 F0 s ρ w → G3 w0 F0 s ρ w) h.2))
      · exact Ref.skip
      · exact Ref.exit (fun s ρ w h => h)
    refine Ref.seq (B := G1 w0 F0) ?_ ?_
    · refine Ref.block ?_
      refine Ref.seq (B := G4 w0 F0) ?_ ?_
      · refine Ref.region (fun s ρ w s' h hr => ?_)
        obtain ⟨F, hW, h1, h9, h10, h11⟩ := h
        refine ol_v (e_mv _ h11) rfl ?_
        obtain ⟨x6, hx6, hr⟩ := bind_some' hr
        obtain ⟨A7, c8, e9, hc10, R11⟩ := id h9
        obtain ⟨b12, o13, hA14, L15⟩ := Row.at_ R11 hx6
        refine ol_v (e_ix (SlT.sl sl_22) (SlT.sz sl_22) hA14 hx6 e9 h11) rfl ?_
        obtain ⟨v16, hl17⟩ := LiesAt.v L15.at_
        refine ol_v (e_ld ty_56 hl17 rfl) rfl ?_
        refine ol_e (f_alloc zer_56 hW) rfl rfl ?_
        rintro _ w19 ⟨g18, rfl, kw1, ho20⟩
        have hW21 := hW.trans kw1
        have st1 := kw1.stp hW.ok
        refine ol_v (e_as _ rfl) rfl ?_
        refine ol_eN (f_stB hW21 (ho20.base (row := nrow) hW.le) (FldS.whole _) ty_56 (hl17.val.keep st1) rfl rfl) rfl ?_
        rintro - w22 ⟨hW23, ho24, hg2, st2⟩
        obtain rfl := Option.some.inj hr
        exact ol_nil ⟨F, hW23, g18, (h1.keep (st1.trans st2)), rfl, rfl, ho24, (h9.keep (st1.trans st2)), h10, h11⟩
      refine Ref.seq (B := G5 w0 F0) ?_ ?_
      · refine Ref.region (fun s ρ w s' h hr => ?_)
        obtain ⟨F, hW, g6, h1, h5, p6, h6, h9, h10, h11⟩ := h
        refine ol_v (e_fa fa_56_0 p6) rfl ?_
        obtain ⟨v25, hl26, hs27⟩ := LiesV.sl ((h6).at_.fld fl_Commit_0)
        refine ol_v (e_ld ty_23 hl26 rfl) rfl ?_
        obtain ⟨A28, c29, e30, hc31, R32⟩ := id hs27
        refine ol_v (e_len (SlT.sl sl_23) e30) rfl ?_
        refine ol_v (e_mv _ rfl) rfl ?_
        obtain rfl := Option.some.inj hr
        exact ol_nil ⟨F, hW, h1, h5, h9, h10, h11, hs27, rfl, rfl⟩
      refine Ref.block ?_
      refine Ref.loop ?_
      refine Ref.seq (B := G6 w0 F0) ?_ ?_
      · refine Ref.region (fun s ρ w s' h hr => ?_)
        obtain ⟨F, hW, h1, h5, h9, h10, h11, h17, h18, h19⟩ := h
        refine ol_v (e_lss h19 h18) rfl ?_
        obtain rfl := Option.some.inj hr
        exact ol_nil ⟨F, hW, h1, h5, h9, h10, h11, h17, h18, h19, rfl⟩
      refine Ref.seq (B := G5 w0 F0) ?_ ?_
      · refine Ref.cond (b := fun s => s.t_20) (fun s ρ w ⟨F, hW, h1, h5, h9, h10, h11, h17, h18, h19, h20⟩ => h20) (Ref.pre (A := G5 w0 F0) ?_ (fun s ρ w h => (fun ⟨F, hW, h1, h5, h9, h10, h11, h17, h18, h19, h20⟩ => ⟨F, hW, h1, h5, h9, h10, h11, h17, h18, h19⟩ : G6 w0 F0 s ρ w → G5 w0 F0 s ρ w) h.2)) (Ref.pre (A := G1 w0 F0) ?_ (fun s ρ w h => (fun ⟨F, hW, h1, h5, h9, h10, h11, h17, h18, h19, h20⟩ => ⟨F, hW, h1, h9, h10, h11⟩ : G6 w0 F0 s ρ w → G1 w0 F0 s ρ w) h.2))
        · exact Ref.skip
        · exact Ref.exit (fun s ρ w h => h)
      refine Ref.seq (B := G5 w0 F0) ?_ ?_
      · refine Ref.block ?_
        refine Ref.seq (B := G7 w0 F0) ?_ ?_
        · refine Ref.region (fun s ρ w s' h hr => ?_)
          obtain ⟨F, hW, h1, h5, h9, h10, h11, h17, h18, h19⟩ := h
          obtain ⟨x33, hx33, hr⟩ := bind_some' hr
          obtain ⟨A34, c35, e36, hc37, R38⟩ := id h17
          obtain ⟨b39, o40, hA41, L42⟩ := Row.at_ R38 hx33
          refine ol_v (e_ix (SlT.sl sl_23) (SlT.sz sl_23) hA41 hx33 e36 h19) rfl ?_
          refine ol_v (e_ld ty_3 (LiesV.int L42.at_) rfl) rfl ?_
          refine ol_v (e_as _ rfl) rfl ?_
          obtain rfl := Option.some.inj hr
          exact ol_nil ⟨F, hW, h1, h5, rfl, h9, h10, h11, h17, h18, h19⟩
        refine Ref.seq (B := G8 w0 F0) ?_ ?_
        · refine Ref.region (fun s ρ w s' h hr => ?_)
          obtain ⟨F, hW, h1, h5, h8, h9, h10, h11, h17, h18, h19⟩ := h
          refine ol_v (e_mv _ rfl) rfl ?_
          refine ol_v (e_mv _ h5) rfl ?_
          obtain ⟨x43, hx43, hr⟩ := bind_some' hr
          obtain ⟨A44, c45, e46, hc47, R48⟩ := id h1
          obtain ⟨b49, o50, hA51, L52⟩ := Row.at_ R48 hx43
          refine ol_v (e_ix (SlT.sl sl_46) (SlT.sz sl_46) hA51 hx43 e46 rfl) rfl ?_
          refine ol_v (e_ld ty_4 (LiesV.bool L52.at_) rfl) rfl ?_
          obtain ⟨x65, hx66, hr⟩ := bind_some' hr
          refine ol_cutA 7 27 33 (fun ρ' w' => w = w' ∧ ρ' 33 = .bool x65) rfl ?_ ?_
          · by_cases hb53 : x43 = true
            · have hr := hx66
              rw [if_pos hb53] at hr
              refine ol_v (e_mv _ rfl) rfl ?_
              refine ol_yes rfl rfl (congrArg Value.bool hb53) ?_
              refine ol_v (e_mv _ rfl) rfl ?_
              refine ol_yes rfl rfl (congrArg Value.bool hb53) ?_
              refine ol_v (e_mv _ h8) rfl ?_
              refine ol_yes rfl rfl (congrArg Value.bool hb53) ?_
              obtain ⟨x55, hx55, hr⟩ := bind_some' hr
              obtain ⟨A56, c57, e58, hc59, R60⟩ := id h1
              obtain ⟨b61, o62, hA63, L64⟩ := Row.at_ R60 hx55
              refine ol_v (e_ix (SlT.sl sl_46) (SlT.sz sl_46) hA63 hx55 e58 rfl) rfl ?_
              refine ol_yes rfl rfl (congrArg Value.bool hb53) ?_
              refine ol_v (e_ld ty_4 (LiesV.bool L64.at_) rfl) rfl ?_
              refine ol_yes rfl rfl (congrArg Value.bool hb53) ?_
              refine ol_v (e_not_ rfl) rfl ?_
              refine ol_v (e_pick true _ (congrArg Value.bool hb53) rfl) rfl ?_
              exact ol_nil ⟨⟨rfl, (congrArg Value.bool (Option.some.inj hr))⟩, ((((((((Agr.refl _ _ _).upd rfl rfl).upd rfl rfl).upd rfl rfl).upd rfl rfl).upd rfl rfl).upd rfl rfl).upd rfl rfl)⟩
            · have hb54 := Bool.eq_false_iff.mpr hb53
              have hr := hx66
              rw [if_neg hb53] at hr
              refine ol_v (e_mv _ rfl) rfl ?_
              refine ol_not rfl rfl rfl (congrArg Value.bool hb54) rfl ?_
              refine ol_not rfl rfl rfl (congrArg Value.bool hb54) rfl ?_
              refine ol_not rfl rfl rfl (congrArg Value.bool hb54) rfl ?_
              refine ol_not rfl rfl rfl (congrArg Value.bool hb54) rfl ?_
              refine ol_not rfl rfl rfl (congrArg Value.bool hb54) rfl ?_
              refine ol_v (e_pick false _ (congrArg Value.bool hb54) rfl) rfl ?_
              exact ol_nil ⟨⟨rfl, (congrArg Value.bool (Option.some.inj hr))⟩, ((((((((Agr.refl _ _ _).upd rfl rfl).upd rfl rfl).upd rfl rfl).upd rfl rfl).upd rfl rfl).upd rfl rfl).upd rfl rfl)⟩
          rintro ρ66 _ ⟨⟨rfl, hp66⟩, hAg66⟩
          obtain rfl := Option.some.inj hr
          exact ol_nil ⟨F, hW, (SlR.eqv (hAg66 1 rfl) h1), ((hAg66 5 rfl).trans h5), (SlR.eqv (hAg66 9 rfl) h9), ((hAg66 10 rfl).trans h10), ((hAg66 11 rfl).trans h11), (SlR.eqv (hAg66 17 rfl) h17), ((hAg66 18 rfl).trans h18), ((hAg66 19 rfl).trans h19), hp66⟩
        refine Ref.cond (b := fun s => s.t_33) (fun s ρ w ⟨F, hW, h1, h5, h9, h10, h11, h17, h18, h19, h33⟩ => h33) (Ref.pre (A := G9 w0 F0) ?_ (fun s ρ w h => (fun ⟨F, hW, h1, h5, h9, h10, h11, h17, h18, h19, h33⟩ => ⟨F, hW, h5⟩ : G8 w0 F0 s ρ w → G9 w0 F0 s ρ w) h.2)) (Ref.pre (A := G5 w0 F0) ?_ (fun s ρ w h => (fun ⟨F, hW, h1, h5, h9, h10, h11, h17, h18, h19, h33⟩ => ⟨F, hW, h1, h5, h9, h10, h11, h17, h18, h19⟩ : G8 w0 F0 s ρ w → G5 w0 F0 s ρ w) h.2))
        · refine Ref.seq (B := G10 w0 F0) ?_ ?_
          · refine Ref.region (fun s ρ w s' h hr => ?_)
            obtain ⟨F, hW, h5⟩ := h
            refine ol_v (e_mv _ h5) rfl ?_
            refine ol_v (e_as _ rfl) rfl ?_
            obtain rfl := Option.some.inj hr
            exact ol_nil ⟨F, hW, rfl⟩
          exact Ref.ret (fun s ρ w h => ⟨s, rfl, h⟩)
        · exact Ref.skip
      refine Ref.region (fun s ρ w s' h hr => ?_)
      obtain ⟨F, hW, h1, h5, h9, h10, h11, h17, h18, h19⟩ := h
      refine ol_v (e_add h19 rfl) rfl ?_
      refine ol_v (e_mv _ rfl) rfl ?_
      obtain rfl := Option.some.inj hr
      exact ol_nil ⟨F, hW, h1, h5, h9, h10, h11, h17, h18, rfl⟩
    refine Ref.region (fun s ρ w s' h hr => ?_)
    obtain ⟨F, hW, h1, h9, h10, h11⟩ := h
    refine ol_v (e_add h11 rfl) rfl ?_
    refine ol_v (e_mv _ rfl) rfl ?_
    obtain rfl := Option.some.inj hr
    exact ol_nil ⟨F, hW, h1, h9, h10, rfl⟩
  refine Ref.seq (B := G10 w0 F0) ?_ ?_
  · refine Ref.region (fun s ρ w s' h hr => ?_)
    obtain ⟨F, hW⟩ := h
    refine ol_v (e_as _ rfl) rfl ?_
    obtain rfl := Option.some.inj hr
    exact ol_nil ⟨F, hW, rfl⟩
  exact Ref.ret (fun s ρ w h => ⟨s, rfl, h⟩)
def post (w : World) (F : BSet) (r : R) (v : Value) (w' : World) : Prop := ∃ (F' : BSet), v = .int .i64 r ∧ Wk nrow w F F' w'
theorem calls {w : World} {F : BSet} (hok : ∀ b, F b → b < w.heap.size) {v0 : Value} {a0 : (List Commit)} (h0 : SlR k_Commit F w v0 a0) {v1 : Value} {a1 : (List Bool)} (h1 : SlR kBool F w v1 a1) {r : R} (hf : f a0 a1 = some r) : Calls Try.prog 50 #[v0, v1] w fun e w' => ∃ v, e = .returned v ∧ post w F r v w' := by
  obtain ⟨c, hc, href⟩ := ref w F
  refine calls_of_ref (args := [v0, v1]) _ Try.func50 hc rfl rfl href ?_ (retOf_some hf) ?_
  · exact ⟨F, Wk.refl hok, h0, h1⟩
  · rintro ρ w' a ⟨s, rfl, F', hW, h4⟩ hF
    refine ⟨_, run_results (rs := [.tmp 4]) rfl hF (vs := [ρ 4]) (⟨_, rfl, rfl⟩), ?_⟩
    have hv : resVal [ρ 4] = .int .i64 s.t_4 := by rw [h4]; rfl
    exact ⟨F', hv, hW⟩
end
end negotiate_closed

namespace negotiate_check
section
def G0 (w0 : World) (F0 : BSet) (s : S) (ρ : Env) (w : World) : Prop := ∃ (F : BSet), Wk nrow w0 F0 F w ∧ SlR k_Commit F w (ρ 0) s.t_0 ∧ SlR kBool F w (ρ 1) s.t_1 ∧ SlR kBool F w (ρ 2) s.t_2 ∧ SlR (kInt .i64) F w (ρ 3) s.t_3
def G1 (w0 : World) (F0 : BSet) (s : S) (ρ : Env) (w : World) : Prop := ∃ (F : BSet), Wk nrow w0 F0 F w ∧ ∃ (g8 : Nat), SlR k_Commit F w (ρ 0) s.t_0 ∧ SlR kBool F w (ρ 1) s.t_1 ∧ SlR kBool F w (ρ 2) s.t_2 ∧ SlR (kInt .i64) F w (ρ 3) s.t_3 ∧ ρ 8 = .pointer (some ⟨g8, 0, none⟩) ∧ Box k_Fault 26 (Bs w0 nrow) F w g8 s.t_8
def G2 (w0 : World) (F0 : BSet) (s : S) (ρ : Env) (w : World) : Prop := ∃ (F : BSet), Wk nrow w0 F0 F w ∧ ∃ (g8 : Nat) (g9 : Nat), SlR k_Commit F w (ρ 0) s.t_0 ∧ SlR kBool F w (ρ 1) s.t_1 ∧ SlR kBool F w (ρ 2) s.t_2 ∧ SlR (kInt .i64) F w (ρ 3) s.t_3 ∧ ρ 8 = .pointer (some ⟨g8, 0, none⟩) ∧ Box k_Fault 26 (Bs w0 nrow) F w g8 s.t_8 ∧ ρ 9 = .pointer (some ⟨g9, 0, none⟩) ∧ Box k_Fault 26 (Bs w0 nrow) F w g9 s.t_9 ∧ Apart (some g8) (some g9)
def G3 (w0 : World) (F0 : BSet) (s : S) (ρ : Env) (w : World) : Prop := ∃ (F : BSet), Wk nrow w0 F0 F w ∧ ∃ (g8 : Nat) (g9 : Nat), SlR k_Commit F w (ρ 0) s.t_0 ∧ SlR kBool F w (ρ 1) s.t_1 ∧ SlR kBool F w (ρ 2) s.t_2 ∧ SlR (kInt .i64) F w (ρ 3) s.t_3 ∧ ρ 8 = .pointer (some ⟨g8, 0, none⟩) ∧ Box k_Fault 26 (Bs w0 nrow) F w g8 s.t_8 ∧ ρ 9 = .pointer (some ⟨g9, 0, none⟩) ∧ Box k_Fault 26 (Bs w0 nrow) F w g9 s.t_9 ∧ ρ 18 = .bool s.t_18 ∧ Apart (some g8) (some g9)
def G4 (w0 : World) (F0 : BSet) (s : S) (ρ : Env) (w : World) : Prop := ∃ (F : BSet), Wk nrow w0 F0 F w ∧ ∃ (g8 : Nat) (g9 : Nat), ρ 8 = .pointer (some ⟨g8, 0, none⟩) ∧ Box k_Fault 26 (Bs w0 nrow) F w g8 s.t_8 ∧ ρ 9 = .pointer (some ⟨g9, 0, none⟩) ∧ Box k_Fault 26 (Bs w0 nrow) F w g9 s.t_9 ∧ Apart (some g8) (some g9)
def G5 (w0 : World) (F0 : BSet) (s : S) (ρ : Env) (w : World) : Prop := ∃ (F : BSet), Wk nrow w0 F0 F w ∧ ∃ (g8 : Nat), ρ 8 = .pointer (some ⟨g8, 0, none⟩) ∧ Box k_Fault 26 (Bs w0 nrow) F w g8 s.t_8
def G6 (w0 : World) (F0 : BSet) (s : S) (ρ : Env) (w : World) : Prop := ∃ (F : BSet), Wk nrow w0 F0 F w ∧ ∃ (g8 : Nat), SlR k_Commit F w (ρ 0) s.t_0 ∧ SlR kBool F w (ρ 1) s.t_1 ∧ SlR kBool F w (ρ 2) s.t_2 ∧ SlR (kInt .i64) F w (ρ 3) s.t_3 ∧ ρ 8 = .pointer (some ⟨g8, 0, none⟩) ∧ Box k_Fault 26 (Bs w0 nrow) F w g8 s.t_8 ∧ ρ 24 = .bool s.t_24
def G7 (w0 : World) (F0 : BSet) (s : S) (ρ : Env) (w : World) : Prop := ∃ (F : BSet), Wk nrow w0 F0 F w ∧ ∃ (g8 : Nat), SlR k_Commit F w (ρ 0) s.t_0 ∧ SlR kBool F w (ρ 1) s.t_1 ∧ SlR kBool F w (ρ 2) s.t_2 ∧ SlR (kInt .i64) F w (ρ 3) s.t_3 ∧ ρ 8 = .pointer (some ⟨g8, 0, none⟩) ∧ Box k_Fault 26 (Bs w0 nrow) F w g8 s.t_8 ∧ ρ 30 = .bool s.t_30
def G8 (w0 : World) (F0 : BSet) (s : S) (ρ : Env) (w : World) : Prop := ∃ (F : BSet), Wk nrow w0 F0 F w ∧ ∃ (g8 : Nat), SlR k_Commit F w (ρ 0) s.t_0 ∧ SlR kBool F w (ρ 1) s.t_1 ∧ SlR kBool F w (ρ 2) s.t_2 ∧ SlR (kInt .i64) F w (ρ 3) s.t_3 ∧ ρ 8 = .pointer (some ⟨g8, 0, none⟩) ∧ Box k_Fault 26 (Bs w0 nrow) F w g8 s.t_8 ∧ ρ 10 = .int .i64 s.t_10
def G9 (w0 : World) (F0 : BSet) (s : S) (ρ : Env) (w : World) : Prop := ∃ (F : BSet), Wk nrow w0 F0 F w ∧ ∃ (g8 : Nat), SlR k_Commit F w (ρ 0) s.t_0 ∧ SlR kBool F w (ρ 1) s.t_1 ∧ SlR kBool F w (ρ 2) s.t_2 ∧ SlR (kInt .i64) F w (ρ 3) s.t_3 ∧ ρ 8 = .pointer (some ⟨g8, 0, none⟩) ∧ Box k_Fault 26 (Bs w0 nrow) F w g8 s.t_8 ∧ ρ 10 = .int .i64 s.t_10 ∧ ρ 36 = .bool s.t_36
def G10 (w0 : World) (F0 : BSet) (s : S) (ρ : Env) (w : World) : Prop := ∃ (F : BSet), Wk nrow w0 F0 F w ∧ ∃ (g8 : Nat), ρ 8 = .pointer (some ⟨g8, 0, none⟩) ∧ Box k_Fault 26 (Bs w0 nrow) F w g8 s.t_8 ∧ ρ 10 = .int .i64 s.t_10
def G11 (w0 : World) (F0 : BSet) (s : S) (ρ : Env) (w : World) : Prop := ∃ (F : BSet), Wk nrow w0 F0 F w ∧ ∃ (g8 : Nat), SlR k_Commit F w (ρ 0) s.t_0 ∧ SlR kBool F w (ρ 1) s.t_1 ∧ SlR (kInt .i64) F w (ρ 3) s.t_3 ∧ ρ 8 = .pointer (some ⟨g8, 0, none⟩) ∧ Box k_Fault 26 (Bs w0 nrow) F w g8 s.t_8 ∧ ρ 11 = .int .i64 s.t_11
def G12 (w0 : World) (F0 : BSet) (s : S) (ρ : Env) (w : World) : Prop := ∃ (F : BSet), Wk nrow w0 F0 F w ∧ ∃ (g8 : Nat), SlR k_Commit F w (ρ 0) s.t_0 ∧ SlR kBool F w (ρ 1) s.t_1 ∧ SlR (kInt .i64) F w (ρ 3) s.t_3 ∧ ρ 8 = .pointer (some ⟨g8, 0, none⟩) ∧ Box k_Fault 26 (Bs w0 nrow) F w g8 s.t_8 ∧ ρ 11 = .int .i64 s.t_11 ∧ ρ 43 = .bool s.t_43
def G13 (w0 : World) (F0 : BSet) (s : S) (ρ : Env) (w : World) : Prop := ∃ (F : BSet), Wk nrow w0 F0 F w ∧ ∃ (g8 : Nat), ρ 8 = .pointer (some ⟨g8, 0, none⟩) ∧ Box k_Fault 26 (Bs w0 nrow) F w g8 s.t_8 ∧ ρ 11 = .int .i64 s.t_11
def G14 (w0 : World) (F0 : BSet) (s : S) (ρ : Env) (w : World) : Prop := ∃ (F : BSet), Wk nrow w0 F0 F w ∧ ∃ (g8 : Nat), SlR k_Commit F w (ρ 0) s.t_0 ∧ SlR kBool F w (ρ 1) s.t_1 ∧ SlR (kInt .i64) F w (ρ 3) s.t_3 ∧ ρ 8 = .pointer (some ⟨g8, 0, none⟩) ∧ Box k_Fault 26 (Bs w0 nrow) F w g8 s.t_8
def G15 (w0 : World) (F0 : BSet) (s : S) (ρ : Env) (w : World) : Prop := ∃ (F : BSet), Wk nrow w0 F0 F w ∧ ∃ (g8 : Nat), SlR k_Commit F w (ρ 0) s.t_0 ∧ SlR kBool F w (ρ 1) s.t_1 ∧ SlR (kInt .i64) F w (ρ 3) s.t_3 ∧ ρ 8 = .pointer (some ⟨g8, 0, none⟩) ∧ Box k_Fault 26 (Bs w0 nrow) F w g8 s.t_8 ∧ ρ 49 = .bool s.t_49
def G16 (w0 : World) (F0 : BSet) (s : S) (ρ : Env) (w : World) : Prop := ∃ (F : BSet), Wk nrow w0 F0 F w ∧ ∃ (g8 : Nat), SlR k_Commit F w (ρ 0) s.t_0 ∧ SlR kBool F w (ρ 1) s.t_1 ∧ ρ 8 = .pointer (some ⟨g8, 0, none⟩) ∧ Box k_Fault 26 (Bs w0 nrow) F w g8 s.t_8 ∧ SlR (kInt .i64) F w (ρ 51) s.t_51 ∧ ρ 52 = .int .i64 s.t_52 ∧ ρ 53 = .int .i64 s.t_53
def G17 (w0 : World) (F0 : BSet) (s : S) (ρ : Env) (w : World) : Prop := ∃ (F : BSet), Wk nrow w0 F0 F w ∧ ∃ (g8 : Nat), SlR k_Commit F w (ρ 0) s.t_0 ∧ SlR kBool F w (ρ 1) s.t_1 ∧ ρ 8 = .pointer (some ⟨g8, 0, none⟩) ∧ Box k_Fault 26 (Bs w0 nrow) F w g8 s.t_8 ∧ SlR (kInt .i64) F w (ρ 51) s.t_51 ∧ ρ 52 = .int .i64 s.t_52 ∧ ρ 53 = .int .i64 s.t_53 ∧ ρ 54 = .bool s.t_54
def G18 (w0 : World) (F0 : BSet) (s : S) (ρ : Env) (w : World) : Prop := ∃ (F : BSet), Wk nrow w0 F0 F w ∧ ∃ (g8 : Nat), SlR k_Commit F w (ρ 0) s.t_0 ∧ SlR kBool F w (ρ 1) s.t_1 ∧ ρ 8 = .pointer (some ⟨g8, 0, none⟩) ∧ Box k_Fault 26 (Bs w0 nrow) F w g8 s.t_8 ∧ ρ 12 = .int .i64 s.t_12 ∧ ρ 13 = .int .i64 s.t_13 ∧ SlR (kInt .i64) F w (ρ 51) s.t_51 ∧ ρ 52 = .int .i64 s.t_52 ∧ ρ 53 = .int .i64 s.t_53
def G19 (w0 : World) (F0 : BSet) (s : S) (ρ : Env) (w : World) : Prop := ∃ (F : BSet), Wk nrow w0 F0 F w ∧ ∃ (g8 : Nat), SlR k_Commit F w (ρ 0) s.t_0 ∧ SlR kBool F w (ρ 1) s.t_1 ∧ ρ 8 = .pointer (some ⟨g8, 0, none⟩) ∧ Box k_Fault 26 (Bs w0 nrow) F w g8 s.t_8 ∧ ρ 12 = .int .i64 s.t_12 ∧ SlR (kInt .i64) F w (ρ 51) s.t_51 ∧ ρ 52 = .int .i64 s.t_52 ∧ ρ 53 = .int .i64 s.t_53 ∧ ρ 72 = .bool s.t_72
def G20 (w0 : World) (F0 : BSet) (s : S) (ρ : Env) (w : World) : Prop := ∃ (F : BSet), Wk nrow w0 F0 F w ∧ ∃ (g8 : Nat), ρ 8 = .pointer (some ⟨g8, 0, none⟩) ∧ Box k_Fault 26 (Bs w0 nrow) F w g8 s.t_8 ∧ ρ 12 = .int .i64 s.t_12
set_option maxHeartbeats 4000000 in
set_option maxRecDepth 20000 in
theorem ref (w0 : World) (F0 : BSet) : ∃ c, Try.f41.body = some c ∧ Ref Try.prog 77 c (G0 w0 F0) body (fun _ _ _ => False) (fun _ _ _ _ => False) (fun r ρ w => ∃ s, retv s = r ∧ G5 w0 F0 s ρ w) := by
  refine ⟨_, rfl, ?_⟩
  unfold body
  refine Ref.seq (B := G1 w0 F0) ?_ ?_
  · refine Ref.region (fun s ρ w s' h hr => ?_)
    obtain ⟨F, hW, h0, h1, h2, h3⟩ := h
    refine ol_e (f_alloc zer_26 hW) rfl rfl ?_
    rintro _ w2 ⟨g1, rfl, kw1, ho3⟩
    have hW4 := hW.trans kw1
    have st1 := kw1.stp hW.ok
    obtain rfl := Option.some.inj hr
    exact ol_nil ⟨F, hW4, g1, (h0.keep st1), (h1.keep st1), (h2.keep st1), (h3.keep st1), rfl, (ho3.base (row := nrow) hW.le)⟩
  refine Ref.seq (B := G1 w0 F0) ?_ ?_
  · refine Ref.seq (B := G2 w0 F0) ?_ ?_
    · refine Ref.region (fun s ρ w s' h hr => ?_)
      obtain ⟨F, hW, g8, h0, h1, h2, h3, p8, h8⟩ := h
      refine ol_v (e_mv _ rfl) rfl ?_
      obtain ⟨x5, hx5, hr⟩ := bind_some' hr
      refine ol_e (f_call [(ρ 0)] fn_35 (lcons rfl rfl) (history_Validate.calls hW.ok h0 hx5)) rfl rfl ?_
      rintro v8 w6 ⟨Fz7, _, rfl, kw1, hk9⟩
      have hW11 := hW.trans kw1
      have st1 := kw1.stp hW.ok
      refine ol_e (f_alloc zer_26 hW11) rfl rfl ?_
      rintro _ w13 ⟨g12, rfl, kw2, ho14⟩
      have hW15 := hW11.trans kw2
      have st2 := kw2.stp hW11.ok
      refine ol_eN (f_stB hW15 (ho14.base (row := nrow) hW11.le) (FldS.whole _) ty_26 (hk9.keep st2) rfl rfl) rfl ?_
      rintro - w16 ⟨hW17, ho18, hg3, st3⟩
      obtain rfl := Option.some.inj hr
      exact ol_nil ⟨Fz7, hW17, g8, g12, (h0.keep (st1.trans (st2.trans st3))), (h1.keep (st1.trans (st2.trans st3))), (h2.keep (st1.trans (st2.trans st3))), (h3.keep (st1.trans (st2.trans st3))), p8, (((h8.wk kw1 hW.ok).wk kw2 hW11.ok).mut (Apart.base (fun _ e_ => by cases e_; exact ho14.ge) (h8.wk kw1 hW.ok).ltw) hg3 st3), rfl, ho18, (Apart.base (fun _ e_ => by cases e_; exact ho14.ge) (h8.wk kw1 hW.ok).ltw).symm⟩
    refine Ref.seq (B := G3 w0 F0) ?_ ?_
    · refine Ref.region (fun s ρ w s' h hr => ?_)
      obtain ⟨F, hW, g8, g9, h0, h1, h2, h3, p8, h8, p9, h9, a8b_9b⟩ := h
      obtain ⟨v19, hl20⟩ := LiesAt.v (h9).at_
      refine ol_v (e_ld ty_26 hl20 p9) rfl ?_
      refine ol_v (e_bld (cells := #[.int .i64 0, .int .i64 0]) bld_26 (vs := []) rfl rfl) rfl ?_
      have hb21 : Val k_Fault F w (.agg #[.int .i64 0, .int .i64 0]) (⟨(0 : Int), (0 : Int)⟩ : Fault) := mk_Fault (val_int _ _) (val_int _ _)
      refine ol_v (e_tneq (eq_Fault_26 hl20.val hb21) rfl rfl) rfl ?_
      obtain rfl := Option.some.inj hr
      exact ol_nil ⟨F, hW, g8, g9, h0, h1, h2, h3, p8, h8, p9, h9, rfl, a8b_9b⟩
    refine Ref.cond (b := fun s => s.t_18) (fun s ρ w ⟨F, hW, g8, g9, h0, h1, h2, h3, p8, h8, p9, h9, h18, a8b_9b⟩ => h18) (Ref.pre (A := G4 w0 F0) ?_ (fun s ρ w h => (fun ⟨F, hW, g8, g9, h0, h1, h2, h3, p8, h8, p9, h9, h18, a8b_9b⟩ => ⟨F, hW, g8, g9, p8, h8, p9, h9, a8b_9b⟩ : G3 w0 F0 s ρ w → G4 w0 F0 s ρ w) h.2)) (Ref.pre (A := G1 w0 F0) ?_ (fun s ρ w h => (fun ⟨F, hW, g8, g9, h0, h1, h2, h3, p8, h8, p9, h9, h18, a8b_9b⟩ => ⟨F, hW, g8, h0, h1, h2, h3, p8, h8⟩ : G3 w0 F0 s ρ w → G1 w0 F0 s ρ w) h.2))
    · refine Ref.seq (B := G5 w0 F0) ?_ ?_
      · refine Ref.region (fun s ρ w s' h hr => ?_)
        obtain ⟨F, hW, g8, g9, p8, h8, p9, h9, a8b_9b⟩ := h
        obtain ⟨v22, hl23⟩ := LiesAt.v (h9).at_
        refine ol_v (e_ld ty_26 hl23 p9) rfl ?_
        refine ol_eN (f_stB hW h8 (FldS.whole _) ty_26 hl23.val p8 rfl) rfl ?_
        rintro - w24 ⟨hW25, ho26, hg1, st1⟩
        obtain rfl := Option.some.inj hr
        exact ol_nil ⟨F, hW25, g8, p8, ho26⟩
      exact Ref.ret (fun s ρ w h => ⟨s, rfl, h⟩)
    · exact Ref.skip
  refine Ref.seq (B := G1 w0 F0) ?_ ?_
  · refine Ref.seq (B := G6 w0 F0) ?_ ?_
    · refine Ref.region (fun s ρ w s' h hr => ?_)
      obtain ⟨F, hW, g8, h0, h1, h2, h3, p8, h8⟩ := h
      refine ol_v (e_mv _ rfl) rfl ?_
      obtain ⟨A27, c28, e29, hc30, R31⟩ := id h1
      refine ol_v (e_len (SlT.sl sl_46) e29) rfl ?_
      refine ol_v (e_mv _ rfl) rfl ?_
      obtain ⟨A32, c33, e34, hc35, R36⟩ := id h0
      refine ol_v (e_len (SlT.sl sl_22) e34) rfl ?_
      refine ol_v (e_neq rfl rfl) rfl ?_
      obtain rfl := Option.some.inj hr
      exact ol_nil ⟨F, hW, g8, h0, h1, h2, h3, p8, h8, rfl⟩
    refine Ref.cond (b := fun s => s.t_24) (fun s ρ w ⟨F, hW, g8, h0, h1, h2, h3, p8, h8, h24⟩ => h24) (Ref.pre (A := G5 w0 F0) ?_ (fun s ρ w h => (fun ⟨F, hW, g8, h0, h1, h2, h3, p8, h8, h24⟩ => ⟨F, hW, g8, p8, h8⟩ : G6 w0 F0 s ρ w → G5 w0 F0 s ρ w) h.2)) (Ref.pre (A := G1 w0 F0) ?_ (fun s ρ w h => (fun ⟨F, hW, g8, h0, h1, h2, h3, p8, h8, h24⟩ => ⟨F, hW, g8, h0, h1, h2, h3, p8, h8⟩ : G6 w0 F0 s ρ w → G1 w0 F0 s ρ w) h.2))
    · refine Ref.seq (B := G5 w0 F0) ?_ ?_
      · refine Ref.region (fun s ρ w s' h hr => ?_)
        obtain ⟨F, hW, g8, p8, h8⟩ := h
        refine ol_v (e_bld (cells := #[.int .i64 (9), .int .i64 (-1)]) bld_26 (vs := [(0, .int .i64 (9)), (1, .int .i64 (-1))]) (lcons (congrArg (Prod.mk 0) rfl) (lcons (congrArg (Prod.mk 1) rfl) rfl)) rfl) rfl ?_
        have hb37 : Val k_Fault F w (.agg #[.int .i64 (9), .int .i64 (-1)]) (⟨(9 : Int), (-1 : Int)⟩ : Fault) := mk_Fault (val_int _ _) (val_int _ _)
        refine ol_eN (f_stB hW h8 (FldS.whole _) ty_26 hb37 p8 rfl) rfl ?_
        rintro - w38 ⟨hW39, ho40, hg1, st1⟩
        obtain rfl := Option.some.inj hr
        exact ol_nil ⟨F, hW39, g8, p8, ho40⟩
      exact Ref.ret (fun s ρ w h => ⟨s, rfl, h⟩)
    · exact Ref.skip
  refine Ref.seq (B := G1 w0 F0) ?_ ?_
  · refine Ref.seq (B := G7 w0 F0) ?_ ?_
    · refine Ref.region (fun s ρ w s' h hr => ?_)
      obtain ⟨F, hW, g8, h0, h1, h2, h3, p8, h8⟩ := h
      refine ol_v (e_mv _ rfl) rfl ?_
      obtain ⟨A41, c42, e43, hc44, R45⟩ := id h2
      refine ol_v (e_len (SlT.sl sl_46) e43) rfl ?_
      refine ol_v (e_mv _ rfl) rfl ?_
      obtain ⟨A46, c47, e48, hc49, R50⟩ := id h0
      refine ol_v (e_len (SlT.sl sl_22) e48) rfl ?_
      refine ol_v (e_neq rfl rfl) rfl ?_
      obtain rfl := Option.some.inj hr
      exact ol_nil ⟨F, hW, g8, h0, h1, h2, h3, p8, h8, rfl⟩
    refine Ref.cond (b := fun s => s.t_30) (fun s ρ w ⟨F, hW, g8, h0, h1, h2, h3, p8, h8, h30⟩ => h30) (Ref.pre (A := G5 w0 F0) ?_ (fun s ρ w h => (fun ⟨F, hW, g8, h0, h1, h2, h3, p8, h8, h30⟩ => ⟨F, hW, g8, p8, h8⟩ : G7 w0 F0 s ρ w → G5 w0 F0 s ρ w) h.2)) (Ref.pre (A := G1 w0 F0) ?_ (fun s ρ w h => (fun ⟨F, hW, g8, h0, h1, h2, h3, p8, h8, h30⟩ => ⟨F, hW, g8, h0, h1, h2, h3, p8, h8⟩ : G7 w0 F0 s ρ w → G1 w0 F0 s ρ w) h.2))
    · refine Ref.seq (B := G5 w0 F0) ?_ ?_
      · refine Ref.region (fun s ρ w s' h hr => ?_)
        obtain ⟨F, hW, g8, p8, h8⟩ := h
        refine ol_v (e_bld (cells := #[.int .i64 (9), .int .i64 (-2)]) bld_26 (vs := [(0, .int .i64 (9)), (1, .int .i64 (-2))]) (lcons (congrArg (Prod.mk 0) rfl) (lcons (congrArg (Prod.mk 1) rfl) rfl)) rfl) rfl ?_
        have hb51 : Val k_Fault F w (.agg #[.int .i64 (9), .int .i64 (-2)]) (⟨(9 : Int), (-2 : Int)⟩ : Fault) := mk_Fault (val_int _ _) (val_int _ _)
        refine ol_eN (f_stB hW h8 (FldS.whole _) ty_26 hb51 p8 rfl) rfl ?_
        rintro - w52 ⟨hW53, ho54, hg1, st1⟩
        obtain rfl := Option.some.inj hr
        exact ol_nil ⟨F, hW53, g8, p8, ho54⟩
      exact Ref.ret (fun s ρ w h => ⟨s, rfl, h⟩)
    · exact Ref.skip
  refine Ref.seq (B := G1 w0 F0) ?_ ?_
  · refine Ref.seq (B := G8 w0 F0) ?_ ?_
    · refine Ref.region (fun s ρ w s' h hr => ?_)
      obtain ⟨F, hW, g8, h0, h1, h2, h3, p8, h8⟩ := h
      refine ol_v (e_mv _ rfl) rfl ?_
      refine ol_v (e_mv _ rfl) rfl ?_
      obtain ⟨x55, hx55, hr⟩ := bind_some' hr
      refine ol_e (f_call [(ρ 0), (ρ 1)] fn_50 (lcons rfl (lcons rfl rfl)) (negotiate_closed.calls hW.ok h0 h1 hx55)) rfl rfl ?_
      rintro _ w56 ⟨Fz57, rfl, kw1⟩
      have hW59 := hW.trans kw1
      have st1 := kw1.stp hW.ok
      refine ol_v (e_as _ rfl) rfl ?_
      obtain rfl := Option.some.inj hr
      exact ol_nil ⟨Fz57, hW59, g8, (h0.keep st1), (h1.keep st1), (h2.keep st1), (h3.keep st1), p8, (h8.wk kw1 hW.ok), rfl⟩
    refine Ref.seq (B := G9 w0 F0) ?_ ?_
    · refine Ref.region (fun s ρ w s' h hr => ?_)
      obtain ⟨F, hW, g8, h0, h1, h2, h3, p8, h8, h10⟩ := h
      refine ol_v (e_mv _ h10) rfl ?_
      refine ol_v (e_geq rfl rfl) rfl ?_
      obtain rfl := Option.some.inj hr
      exact ol_nil ⟨F, hW, g8, h0, h1, h2, h3, p8, h8, h10, rfl⟩
    refine Ref.cond (b := fun s => s.t_36) (fun s ρ w ⟨F, hW, g8, h0, h1, h2, h3, p8, h8, h10, h36⟩ => h36) (Ref.pre (A := G10 w0 F0) ?_ (fun s ρ w h => (fun ⟨F, hW, g8, h0, h1, h2, h3, p8, h8, h10, h36⟩ => ⟨F, hW, g8, p8, h8, h10⟩ : G9 w0 F0 s ρ w → G10 w0 F0 s ρ w) h.2)) (Ref.pre (A := G1 w0 F0) ?_ (fun s ρ w h => (fun ⟨F, hW, g8, h0, h1, h2, h3, p8, h8, h10, h36⟩ => ⟨F, hW, g8, h0, h1, h2, h3, p8, h8⟩ : G9 w0 F0 s ρ w → G1 w0 F0 s ρ w) h.2))
    · refine Ref.seq (B := G5 w0 F0) ?_ ?_
      · refine Ref.region (fun s ρ w s' h hr => ?_)
        obtain ⟨F, hW, g8, p8, h8, h10⟩ := h
        refine ol_v (e_mv _ h10) rfl ?_
        refine ol_v (e_bld (cells := #[.int .i64 (5), .int .i64 s.t_10]) bld_26 (vs := [(0, .int .i64 (5)), (1, .int .i64 s.t_10)]) (lcons (congrArg (Prod.mk 0) rfl) (lcons (congrArg (Prod.mk 1) rfl) rfl)) rfl) rfl ?_
        have hb60 : Val k_Fault F w (.agg #[.int .i64 (5), .int .i64 s.t_10]) (⟨(5 : Int), s.t_10⟩ : Fault) := mk_Fault (val_int _ _) (val_int _ _)
        refine ol_eN (f_stB hW h8 (FldS.whole _) ty_26 hb60 p8 rfl) rfl ?_
        rintro - w61 ⟨hW62, ho63, hg1, st1⟩
        obtain rfl := Option.some.inj hr
        exact ol_nil ⟨F, hW62, g8, p8, ho63⟩
      exact Ref.ret (fun s ρ w h => ⟨s, rfl, h⟩)
    · exact Ref.skip
  refine Ref.seq (B := G14 w0 F0) ?_ ?_
  · refine Ref.seq (B := G11 w0 F0) ?_ ?_
    · refine Ref.region (fun s ρ w s' h hr => ?_)
      obtain ⟨F, hW, g8, h0, h1, h2, h3, p8, h8⟩ := h
      refine ol_v (e_mv _ rfl) rfl ?_
      refine ol_v (e_mv _ rfl) rfl ?_
      obtain ⟨x64, hx64, hr⟩ := bind_some' hr
      refine ol_e (f_call [(ρ 0), (ρ 2)] fn_50 (lcons rfl (lcons rfl rfl)) (negotiate_closed.calls hW.ok h0 h2 hx64)) rfl rfl ?_
      rintro _ w65 ⟨Fz66, rfl, kw1⟩
      have hW68 := hW.trans kw1
      have st1 := kw1.stp hW.ok
      refine ol_v (e_as _ rfl) rfl ?_
      obtain rfl := Option.some.inj hr
      exact ol_nil ⟨Fz66, hW68, g8, (h0.keep st1), (h1.keep st1), (h3.keep st1), p8, (h8.wk kw1 hW.ok), rfl⟩
    refine Ref.seq (B := G12 w0 F0) ?_ ?_
    · refine Ref.region (fun s ρ w s' h hr => ?_)
      obtain ⟨F, hW, g8, h0, h1, h3, p8, h8, h11⟩ := h
      refine ol_v (e_mv _ h11) rfl ?_
      refine ol_v (e_geq rfl rfl) rfl ?_
      obtain rfl := Option.some.inj hr
      exact ol_nil ⟨F, hW, g8, h0, h1, h3, p8, h8, h11, rfl⟩
    refine Ref.cond (b := fun s => s.t_43) (fun s ρ w ⟨F, hW, g8, h0, h1, h3, p8, h8, h11, h43⟩ => h43) (Ref.pre (A := G13 w0 F0) ?_ (fun s ρ w h => (fun ⟨F, hW, g8, h0, h1, h3, p8, h8, h11, h43⟩ => ⟨F, hW, g8, p8, h8, h11⟩ : G12 w0 F0 s ρ w → G13 w0 F0 s ρ w) h.2)) (Ref.pre (A := G14 w0 F0) ?_ (fun s ρ w h => (fun ⟨F, hW, g8, h0, h1, h3, p8, h8, h11, h43⟩ => ⟨F, hW, g8, h0, h1, h3, p8, h8⟩ : G12 w0 F0 s ρ w → G14 w0 F0 s ρ w) h.2))
    · refine Ref.seq (B := G5 w0 F0) ?_ ?_
      · refine Ref.region (fun s ρ w s' h hr => ?_)
        obtain ⟨F, hW, g8, p8, h8, h11⟩ := h
        refine ol_v (e_mv _ h11) rfl ?_
        refine ol_v (e_sub rfl rfl) rfl ?_
        refine ol_v (e_bld (cells := #[.int .i64 (5), .int .i64 (w64 ((-3 : Int) - s.t_11))]) bld_26 (vs := [(0, .int .i64 (5)), (1, .int .i64 (w64 ((-3 : Int) - s.t_11)))]) (lcons (congrArg (Prod.mk 0) rfl) (lcons (congrArg (Prod.mk 1) rfl) rfl)) rfl) rfl ?_
        have hb69 : Val k_Fault F w (.agg #[.int .i64 (5), .int .i64 (w64 ((-3 : Int) - s.t_11))]) (⟨(5 : Int), w64 ((-3 : Int) - s.t_11)⟩ : Fault) := mk_Fault (val_int _ _) (val_int _ _)
        refine ol_eN (f_stB hW h8 (FldS.whole _) ty_26 hb69 p8 rfl) rfl ?_
        rintro - w70 ⟨hW71, ho72, hg1, st1⟩
        obtain rfl := Option.some.inj hr
        exact ol_nil ⟨F, hW71, g8, p8, ho72⟩
      exact Ref.ret (fun s ρ w h => ⟨s, rfl, h⟩)
    · exact Ref.skip
  refine Ref.seq (B := G14 w0 F0) ?_ ?_
  · refine Ref.seq (B := G15 w0 F0) ?_ ?_
    · refine Ref.region (fun s ρ w s' h hr => ?_)
      obtain ⟨F, hW, g8, h0, h1, h3, p8, h8⟩ := h
      refine ol_v (e_mv _ rfl) rfl ?_
      obtain ⟨A73, c74, e75, hc76, R77⟩ := id h3
      refine ol_v (e_len (SlT.sl sl_23) e75) rfl ?_
      refine ol_v (e_gtr rfl rfl) rfl ?_
      obtain rfl := Option.some.inj hr
      exact ol_nil ⟨F, hW, g8, h0, h1, h3, p8, h8, rfl⟩
    refine Ref.cond (b := fun s => s.t_49) (fun s ρ w ⟨F, hW, g8, h0, h1, h3, p8, h8, h49⟩ => h49) (Ref.pre (A := G5 w0 F0) ?_ (fun s ρ w h => (fun ⟨F, hW, g8, h0, h1, h3, p8, h8, h49⟩ => ⟨F, hW, g8, p8, h8⟩ : G15 w0 F0 s ρ w → G5 w0 F0 s ρ w) h.2)) (Ref.pre (A := G14 w0 F0) ?_ (fun s ρ w h => (fun ⟨F, hW, g8, h0, h1, h3, p8, h8, h49⟩ => ⟨F, hW, g8, h0, h1, h3, p8, h8⟩ : G15 w0 F0 s ρ w → G14 w0 F0 s ρ w) h.2))
    · refine Ref.seq (B := G5 w0 F0) ?_ ?_
      · refine Ref.region (fun s ρ w s' h hr => ?_)
        obtain ⟨F, hW, g8, p8, h8⟩ := h
        refine ol_v (e_bld (cells := #[.int .i64 (2), .int .i64 (-1)]) bld_26 (vs := [(0, .int .i64 (2)), (1, .int .i64 (-1))]) (lcons (congrArg (Prod.mk 0) rfl) (lcons (congrArg (Prod.mk 1) rfl) rfl)) rfl) rfl ?_
        have hb78 : Val k_Fault F w (.agg #[.int .i64 (2), .int .i64 (-1)]) (⟨(2 : Int), (-1 : Int)⟩ : Fault) := mk_Fault (val_int _ _) (val_int _ _)
        refine ol_eN (f_stB hW h8 (FldS.whole _) ty_26 hb78 p8 rfl) rfl ?_
        rintro - w79 ⟨hW80, ho81, hg1, st1⟩
        obtain rfl := Option.some.inj hr
        exact ol_nil ⟨F, hW80, g8, p8, ho81⟩
      exact Ref.ret (fun s ρ w h => ⟨s, rfl, h⟩)
    · exact Ref.skip
  refine Ref.seq (B := G5 w0 F0) ?_ ?_
  · refine Ref.seq (B := G16 w0 F0) ?_ ?_
    · refine Ref.region (fun s ρ w s' h hr => ?_)
      obtain ⟨F, hW, g8, h0, h1, h3, p8, h8⟩ := h
      refine ol_v (e_mv _ rfl) rfl ?_
      obtain ⟨A82, c83, e84, hc85, R86⟩ := id h3
      refine ol_v (e_len (SlT.sl sl_23) e84) rfl ?_
      refine ol_v (e_mv _ rfl) rfl ?_
      obtain rfl := Option.some.inj hr
      exact ol_nil ⟨F, hW, g8, h0, h1, p8, h8, h3, rfl, rfl⟩
    refine Ref.block ?_
    refine Ref.loop ?_
    refine Ref.seq (B := G17 w0 F0) ?_ ?_
    · refine Ref.region (fun s ρ w s' h hr => ?_)
      obtain ⟨F, hW, g8, h0, h1, p8, h8, h51, h52, h53⟩ := h
      refine ol_v (e_lss h53 h52) rfl ?_
      obtain rfl := Option.some.inj hr
      exact ol_nil ⟨F, hW, g8, h0, h1, p8, h8, h51, h52, h53, rfl⟩
    refine Ref.seq (B := G16 w0 F0) ?_ ?_
    · refine Ref.cond (b := fun s => s.t_54) (fun s ρ w ⟨F, hW, g8, h0, h1, p8, h8, h51, h52, h53, h54⟩ => h54) (Ref.pre (A := G16 w0 F0) ?_ (fun s ρ w h => (fun ⟨F, hW, g8, h0, h1, p8, h8, h51, h52, h53, h54⟩ => ⟨F, hW, g8, h0, h1, p8, h8, h51, h52, h53⟩ : G17 w0 F0 s ρ w → G16 w0 F0 s ρ w) h.2)) (Ref.pre (A := G5 w0 F0) ?_ (fun s ρ w h => (fun ⟨F, hW, g8, h0, h1, p8, h8, h51, h52, h53, h54⟩ => ⟨F, hW, g8, p8, h8⟩ : G17 w0 F0 s ρ w → G5 w0 F0 s ρ w) h.2))
      · exact Ref.skip
      · exact Ref.exit (fun s ρ w h => h)
    refine Ref.seq (B := G16 w0 F0) ?_ ?_
    · refine Ref.block ?_
      refine Ref.seq (B := G18 w0 F0) ?_ ?_
      · refine Ref.region (fun s ρ w s' h hr => ?_)
        obtain ⟨F, hW, g8, h0, h1, p8, h8, h51, h52, h53⟩ := h
        refine ol_v (e_mv _ h53) rfl ?_
        obtain ⟨x87, hx87, hr⟩ := bind_some' hr
        obtain ⟨A88, c89, e90, hc91, R92⟩ := id h51
        obtain ⟨b93, o94, hA95, L96⟩ := Row.at_ R92 hx87
        refine ol_v (e_ix (SlT.sl sl_23) (SlT.sz sl_23) hA95 hx87 e90 h53) rfl ?_
        refine ol_v (e_ld ty_3 (LiesV.int L96.at_) rfl) rfl ?_
        refine ol_v (e_as _ rfl) rfl ?_
        refine ol_v (e_as _ rfl) rfl ?_
        obtain rfl := Option.some.inj hr
        exact ol_nil ⟨F, hW, g8, h0, h1, p8, h8, rfl, rfl, h51, h52, h53⟩
      refine Ref.seq (B := G19 w0 F0) ?_ ?_
      · refine Ref.region (fun s ρ w s' h hr => ?_)
        obtain ⟨F, hW, g8, h0, h1, p8, h8, h12, h13, h51, h52, h53⟩ := h
        refine ol_v (e_mv _ h13) rfl ?_
        refine ol_v (e_lss rfl rfl) rfl ?_
        refine ol_cutA 6 60 65 (fun ρ' w' => w = w' ∧ ρ' 65 = .bool ((decide (s.t_13 < (0 : Int))) || (decide ((s.t_0.length : Int) ≤ s.t_13)))) rfl ?_ ?_
        · by_cases hb97 : (decide (s.t_13 < (0 : Int))) = true
          · refine ol_v (e_mv _ rfl) rfl ?_
            refine ol_not rfl rfl rfl (congrArg Value.bool hb97) rfl ?_
            refine ol_not rfl rfl rfl (congrArg Value.bool hb97) rfl ?_
            refine ol_not rfl rfl rfl (congrArg Value.bool hb97) rfl ?_
            refine ol_not rfl rfl rfl (congrArg Value.bool hb97) rfl ?_
            refine ol_v (e_pick true _ (congrArg Value.bool hb97) rfl) rfl ?_
            exact ol_nil ⟨⟨rfl, (bv_or_t hb97)⟩, (((((((Agr.refl _ _ _).upd rfl rfl).upd rfl rfl).upd rfl rfl).upd rfl rfl).upd rfl rfl).upd rfl rfl)⟩
          · have hb98 := Bool.eq_false_iff.mpr hb97
            refine ol_v (e_mv _ rfl) rfl ?_
            refine ol_yes rfl rfl (congrArg Value.bool hb98) ?_
            refine ol_v (e_mv _ h13) rfl ?_
            refine ol_yes rfl rfl (congrArg Value.bool hb98) ?_
            refine ol_v (e_mv _ rfl) rfl ?_
            refine ol_yes rfl rfl (congrArg Value.bool hb98) ?_
            obtain ⟨A99, c100, e101, hc102, R103⟩ := id h0
            refine ol_v (e_len (SlT.sl sl_22) e101) rfl ?_
            refine ol_yes rfl rfl (congrArg Value.bool hb98) ?_
            refine ol_v (e_geq rfl rfl) rfl ?_
            refine ol_v (e_pick false _ (congrArg Value.bool hb98) rfl) rfl ?_
            exact ol_nil ⟨⟨rfl, (bv_or_f hb98)⟩, (((((((Agr.refl _ _ _).upd rfl rfl).upd rfl rfl).upd rfl rfl).upd rfl rfl).upd rfl rfl).upd rfl rfl)⟩
        rintro ρ104 _ ⟨⟨rfl, hp104⟩, hAg104⟩
        obtain ⟨x117, hx118, hr⟩ := bind_some' hr
        refine ol_cutA 7 66 72 (fun ρ' w' => w = w' ∧ ρ' 72 = .bool x117) rfl ?_ ?_
        · by_cases hb105 : ((decide (s.t_13 < (0 : Int))) || (decide ((s.t_0.length : Int) ≤ s.t_13))) = true
          · have hr := hx118
            rw [if_pos hb105] at hr
            refine ol_v (e_mv _ hp104) rfl ?_
            refine ol_not rfl rfl rfl (congrArg Value.bool hb105) rfl ?_
            refine ol_not rfl rfl rfl (congrArg Value.bool hb105) rfl ?_
            refine ol_not rfl rfl rfl (congrArg Value.bool hb105) rfl ?_
            refine ol_not rfl rfl rfl (congrArg Value.bool hb105) rfl ?_
            refine ol_not rfl rfl rfl (congrArg Value.bool hb105) rfl ?_
            refine ol_v (e_pick true _ (congrArg Value.bool hb105) rfl) rfl ?_
            exact ol_nil ⟨⟨rfl, (congrArg Value.bool (Option.some.inj hr))⟩, ((((((((Agr.refl _ _ _).upd rfl rfl).upd rfl rfl).upd rfl rfl).upd rfl rfl).upd rfl rfl).upd rfl rfl).upd rfl rfl)⟩
          · have hb106 := Bool.eq_false_iff.mpr hb105
            have hr := hx118
            rw [if_neg hb105] at hr
            refine ol_v (e_mv _ hp104) rfl ?_
            refine ol_yes rfl rfl (congrArg Value.bool hb106) ?_
            refine ol_v (e_mv _ (hAg104 1 rfl)) rfl ?_
            refine ol_yes rfl rfl (congrArg Value.bool hb106) ?_
            refine ol_v (e_mv _ ((hAg104 13 rfl).trans h13)) rfl ?_
            refine ol_yes rfl rfl (congrArg Value.bool hb106) ?_
            obtain ⟨x107, hx107, hr⟩ := bind_some' hr
            obtain ⟨A108, c109, e110, hc111, R112⟩ := id h1
            obtain ⟨b113, o114, hA115, L116⟩ := Row.at_ R112 hx107
            refine ol_v (e_ix (SlT.sl sl_46) (SlT.sz sl_46) hA115 hx107 e110 rfl) rfl ?_
            refine ol_yes rfl rfl (congrArg Value.bool hb106) ?_
            refine ol_v (e_ld ty_4 (LiesV.bool L116.at_) rfl) rfl ?_
            refine ol_yes rfl rfl (congrArg Value.bool hb106) ?_
            refine ol_v (e_not_ rfl) rfl ?_
            refine ol_v (e_pick false _ (congrArg Value.bool hb106) rfl) rfl ?_
            exact ol_nil ⟨⟨rfl, (congrArg Value.bool (Option.some.inj hr))⟩, ((((((((Agr.refl _ _ _).upd rfl rfl).upd rfl rfl).upd rfl rfl).upd rfl rfl).upd rfl rfl).upd rfl rfl).upd rfl rfl)⟩
        rintro ρ118 _ ⟨⟨rfl, hp118⟩, hAg118⟩
        obtain rfl := Option.some.inj hr
        exact ol_nil ⟨F, hW, g8, (SlR.eqv ((hAg118 0 rfl).trans (hAg104 0 rfl)) h0), (SlR.eqv ((hAg118 1 rfl).trans (hAg104 1 rfl)) h1), ((hAg118 8 rfl).trans ((hAg104 8 rfl).trans p8)), h8, ((hAg118 12 rfl).trans ((hAg104 12 rfl).trans h12)), (SlR.eqv ((hAg118 51 rfl).trans (hAg104 51 rfl)) h51), ((hAg118 52 rfl).trans ((hAg104 52 rfl).trans h52)), ((hAg118 53 rfl).trans ((hAg104 53 rfl).trans h53)), hp118⟩
      refine Ref.cond (b := fun s => s.t_72) (fun s ρ w ⟨F, hW, g8, h0, h1, p8, h8, h12, h51, h52, h53, h72⟩ => h72) (Ref.pre (A := G20 w0 F0) ?_ (fun s ρ w h => (fun ⟨F, hW, g8, h0, h1, p8, h8, h12, h51, h52, h53, h72⟩ => ⟨F, hW, g8, p8, h8, h12⟩ : G19 w0 F0 s ρ w → G20 w0 F0 s ρ w) h.2)) (Ref.pre (A := G16 w0 F0) ?_ (fun s ρ w h => (fun ⟨F, hW, g8, h0, h1, p8, h8, h12, h51, h52, h53, h72⟩ => ⟨F, hW, g8, h0, h1, p8, h8, h51, h52, h53⟩ : G19 w0 F0 s ρ w → G16 w0 F0 s ρ w) h.2))
      · refine Ref.seq (B := G5 w0 F0) ?_ ?_
        · refine Ref.region (fun s ρ w s' h hr => ?_)
          obtain ⟨F, hW, g8, p8, h8, h12⟩ := h
          refine ol_v (e_mv _ h12) rfl ?_
          refine ol_v (e_bld (cells := #[.int .i64 (6), .int .i64 s.t_12]) bld_26 (vs := [(0, .int .i64 (6)), (1, .int .i64 s.t_12)]) (lcons (congrArg (Prod.mk 0) rfl) (lcons (congrArg (Prod.mk 1) rfl) rfl)) rfl) rfl ?_
          have hb119 : Val k_Fault F w (.agg #[.int .i64 (6), .int .i64 s.t_12]) (⟨(6 : Int), s.t_12⟩ : Fault) := mk_Fault (val_int _ _) (val_int _ _)
          refine ol_eN (f_stB hW h8 (FldS.whole _) ty_26 hb119 p8 rfl) rfl ?_
          rintro - w120 ⟨hW121, ho122, hg1, st1⟩
          obtain rfl := Option.some.inj hr
          exact ol_nil ⟨F, hW121, g8, p8, ho122⟩
        exact Ref.ret (fun s ρ w h => ⟨s, rfl, h⟩)
      · exact Ref.skip
    refine Ref.region (fun s ρ w s' h hr => ?_)
    obtain ⟨F, hW, g8, h0, h1, p8, h8, h51, h52, h53⟩ := h
    refine ol_v (e_add h53 rfl) rfl ?_
    refine ol_v (e_mv _ rfl) rfl ?_
    obtain rfl := Option.some.inj hr
    exact ol_nil ⟨F, hW, g8, h0, h1, p8, h8, h51, h52, rfl⟩
  refine Ref.seq (B := G5 w0 F0) ?_ ?_
  · refine Ref.region (fun s ρ w s' h hr => ?_)
    obtain ⟨F, hW, g8, p8, h8⟩ := h
    refine ol_v (e_bld (cells := #[.int .i64 0, .int .i64 0]) bld_26 (vs := []) rfl rfl) rfl ?_
    have hb123 : Val k_Fault F w (.agg #[.int .i64 0, .int .i64 0]) (⟨(0 : Int), (0 : Int)⟩ : Fault) := mk_Fault (val_int _ _) (val_int _ _)
    refine ol_eN (f_stB hW h8 (FldS.whole _) ty_26 hb123 p8 rfl) rfl ?_
    rintro - w124 ⟨hW125, ho126, hg1, st1⟩
    obtain rfl := Option.some.inj hr
    exact ol_nil ⟨F, hW125, g8, p8, ho126⟩
  exact Ref.ret (fun s ρ w h => ⟨s, rfl, h⟩)
def post (w : World) (F : BSet) (r : R) (v : Value) (w' : World) : Prop := ∃ (F' : BSet) (v0' : Value), v = v0' ∧ Wk nrow w F F' w' ∧ Val k_Fault F' w' v0' r
theorem calls {w : World} {F : BSet} (hok : ∀ b, F b → b < w.heap.size) {v0 : Value} {a0 : (List Commit)} (h0 : SlR k_Commit F w v0 a0) {v1 : Value} {a1 : (List Bool)} (h1 : SlR kBool F w v1 a1) {v2 : Value} {a2 : (List Bool)} (h2 : SlR kBool F w v2 a2) {v3 : Value} {a3 : (List Int)} (h3 : SlR (kInt .i64) F w v3 a3) {r : R} (hf : f a0 a1 a2 a3 = some r) : Calls Try.prog 41 #[v0, v1, v2, v3] w fun e w' => ∃ v, e = .returned v ∧ post w F r v w' := by
  obtain ⟨c, hc, href⟩ := ref w F
  refine calls_of_ref (args := [v0, v1, v2, v3]) _ Try.func41 hc rfl rfl href ?_ (retOf_some hf) ?_
  · exact ⟨F, Wk.refl hok, h0, h1, h2, h3⟩
  · rintro ρ w' a ⟨s, rfl, F', hW, g8, p8, h8⟩ hF
    obtain ⟨u8, l8, k8⟩ := res_box (P := Try.prog) ty_26 h8
    refine ⟨_, run_results (rs := [.cell 8 26]) rfl hF (vs := [u8]) (⟨_, _, _, rfl, p8, l8, rfl⟩), ?_⟩
    exact ⟨F', u8, rfl, hW, k8⟩
end
end negotiate_check

namespace history_Ancestors
section
def G0 (w0 : World) (F0 : BSet) (s : S) (ρ : Env) (w : World) : Prop := ∃ (F : BSet), Wk nrow w0 F0 F w ∧ SlR k_Commit F w (ρ 0) s.commits_0 ∧ ρ 1 = .int .i64 s.n_1
def G1 (w0 : World) (F0 : BSet) (s : S) (ρ : Env) (w : World) : Prop := ∃ (F : BSet), Wk nrow w0 F0 F w ∧ ∃ (g5 : Nat), SlR k_Commit F w (ρ 0) s.commits_0 ∧ ρ 1 = .int .i64 s.n_1 ∧ ρ 5 = .pointer (some ⟨g5, 0, none⟩) ∧ Box k_Fault 26 (Bs w0 nrow) F w g5 s.t_5
def G2 (w0 : World) (F0 : BSet) (s : S) (ρ : Env) (w : World) : Prop := ∃ (F : BSet), Wk nrow w0 F0 F w ∧ ∃ (g5 : Nat) (g6 : Nat), SlR k_Commit F w (ρ 0) s.commits_0 ∧ ρ 1 = .int .i64 s.n_1 ∧ ρ 5 = .pointer (some ⟨g5, 0, none⟩) ∧ Box k_Fault 26 (Bs w0 nrow) F w g5 s.t_5 ∧ ρ 6 = .pointer (some ⟨g6, 0, none⟩) ∧ Box k_Fault 26 (Bs w0 nrow) F w g6 s.f_6 ∧ Apart (some g5) (some g6)
def G3 (w0 : World) (F0 : BSet) (s : S) (ρ : Env) (w : World) : Prop := ∃ (F : BSet), Wk nrow w0 F0 F w ∧ ∃ (g5 : Nat) (g6 : Nat), SlR k_Commit F w (ρ 0) s.commits_0 ∧ ρ 1 = .int .i64 s.n_1 ∧ ρ 5 = .pointer (some ⟨g5, 0, none⟩) ∧ Box k_Fault 26 (Bs w0 nrow) F w g5 s.t_5 ∧ ρ 6 = .pointer (some ⟨g6, 0, none⟩) ∧ Box k_Fault 26 (Bs w0 nrow) F w g6 s.f_6 ∧ ρ 15 = .bool s.t_15 ∧ Apart (some g5) (some g6)
def G4 (w0 : World) (F0 : BSet) (s : S) (ρ : Env) (w : World) : Prop := ∃ (F : BSet), Wk nrow w0 F0 F w ∧ ∃ (g5 : Nat) (g6 : Nat), ρ 5 = .pointer (some ⟨g5, 0, none⟩) ∧ Box k_Fault 26 (Bs w0 nrow) F w g5 s.t_5 ∧ ρ 6 = .pointer (some ⟨g6, 0, none⟩) ∧ Box k_Fault 26 (Bs w0 nrow) F w g6 s.f_6 ∧ Apart (some g5) (some g6)
def G5 (w0 : World) (F0 : BSet) (s : S) (ρ : Env) (w : World) : Prop := ∃ (F : BSet), Wk nrow w0 F0 F w ∧ ∃ (g5 : Nat), OwnV kBool 4 (Bs w0 nrow) F w (ρ 4) s.t_4 ∧ ρ 5 = .pointer (some ⟨g5, 0, none⟩) ∧ Box k_Fault 26 (Bs w0 nrow) F w g5 s.t_5
def G6 (w0 : World) (F0 : BSet) (s : S) (ρ : Env) (w : World) : Prop := ∃ (F : BSet), Wk nrow w0 F0 F w ∧ ∃ (g5 : Nat), SlR k_Commit F w (ρ 0) s.commits_0 ∧ ρ 1 = .int .i64 s.n_1 ∧ ρ 5 = .pointer (some ⟨g5, 0, none⟩) ∧ Box k_Fault 26 (Bs w0 nrow) F w g5 s.t_5 ∧ ρ 24 = .bool s.t_24
def G7 (w0 : World) (F0 : BSet) (s : S) (ρ : Env) (w : World) : Prop := ∃ (F : BSet), Wk nrow w0 F0 F w ∧ ∃ (g5 : Nat), ρ 5 = .pointer (some ⟨g5, 0, none⟩) ∧ Box k_Fault 26 (Bs w0 nrow) F w g5 s.t_5
def G8 (w0 : World) (F0 : BSet) (s : S) (ρ : Env) (w : World) : Prop := ∃ (F : BSet), Wk nrow w0 F0 F w ∧ ∃ (g5 : Nat), SlR k_Commit F w (ρ 0) s.commits_0 ∧ ρ 1 = .int .i64 s.n_1 ∧ ρ 5 = .pointer (some ⟨g5, 0, none⟩) ∧ Box k_Fault 26 (Bs w0 nrow) F w g5 s.t_5 ∧ OwnV kBool 4 (Bs w0 nrow) F w (ρ 7) s.out_7
def G9 (w0 : World) (F0 : BSet) (s : S) (ρ : Env) (w : World) : Prop := ∃ (F : BSet), Wk nrow w0 F0 F w ∧ ∃ (g5 : Nat), SlR k_Commit F w (ρ 0) s.commits_0 ∧ ρ 5 = .pointer (some ⟨g5, 0, none⟩) ∧ Box k_Fault 26 (Bs w0 nrow) F w g5 s.t_5 ∧ OwnV kBool 4 (Bs w0 nrow) F w (ρ 7) s.out_7 ∧ ρ 8 = .int .i64 s.i_8
def G10 (w0 : World) (F0 : BSet) (s : S) (ρ : Env) (w : World) : Prop := ∃ (F : BSet), Wk nrow w0 F0 F w ∧ ∃ (g5 : Nat), SlR k_Commit F w (ρ 0) s.commits_0 ∧ ρ 5 = .pointer (some ⟨g5, 0, none⟩) ∧ Box k_Fault 26 (Bs w0 nrow) F w g5 s.t_5 ∧ OwnV kBool 4 (Bs w0 nrow) F w (ρ 7) s.out_7 ∧ ρ 8 = .int .i64 s.i_8 ∧ ρ 34 = .bool s.t_34
def G11 (w0 : World) (F0 : BSet) (s : S) (ρ : Env) (w : World) : Prop := ∃ (F : BSet), Wk nrow w0 F0 F w ∧ ∃ (g5 : Nat), ρ 5 = .pointer (some ⟨g5, 0, none⟩) ∧ Box k_Fault 26 (Bs w0 nrow) F w g5 s.t_5 ∧ OwnV kBool 4 (Bs w0 nrow) F w (ρ 7) s.out_7
def G12 (w0 : World) (F0 : BSet) (s : S) (ρ : Env) (w : World) : Prop := ∃ (F : BSet), Wk nrow w0 F0 F w ∧ ∃ (g5 : Nat), SlR k_Commit F w (ρ 0) s.commits_0 ∧ ρ 5 = .pointer (some ⟨g5, 0, none⟩) ∧ Box k_Fault 26 (Bs w0 nrow) F w g5 s.t_5 ∧ OwnV kBool 4 (Bs w0 nrow) F w (ρ 7) s.out_7 ∧ ρ 8 = .int .i64 s.i_8 ∧ ρ 40 = .bool s.t_40
def G13 (w0 : World) (F0 : BSet) (s : S) (ρ : Env) (w : World) : Prop := ∃ (F : BSet), Wk nrow w0 F0 F w ∧ ∃ (g5 : Nat), SlR k_Commit F w (ρ 0) s.commits_0 ∧ ρ 5 = .pointer (some ⟨g5, 0, none⟩) ∧ Box k_Fault 26 (Bs w0 nrow) F w g5 s.t_5 ∧ OwnV kBool 4 (Bs w0 nrow) F w (ρ 7) s.out_7 ∧ ρ 8 = .int .i64 s.i_8 ∧ SlR (kInt .i64) F w (ρ 45) s.t_45 ∧ ρ 46 = .int .i64 s.t_46 ∧ ρ 47 = .int .i64 s.t_47
def G14 (w0 : World) (F0 : BSet) (s : S) (ρ : Env) (w : World) : Prop := ∃ (F : BSet), Wk nrow w0 F0 F w ∧ ∃ (g5 : Nat), SlR k_Commit F w (ρ 0) s.commits_0 ∧ ρ 5 = .pointer (some ⟨g5, 0, none⟩) ∧ Box k_Fault 26 (Bs w0 nrow) F w g5 s.t_5 ∧ OwnV kBool 4 (Bs w0 nrow) F w (ρ 7) s.out_7 ∧ ρ 8 = .int .i64 s.i_8 ∧ SlR (kInt .i64) F w (ρ 45) s.t_45 ∧ ρ 46 = .int .i64 s.t_46 ∧ ρ 47 = .int .i64 s.t_47 ∧ ρ 48 = .bool s.t_48
def G15 (w0 : World) (F0 : BSet) (s : S) (ρ : Env) (w : World) : Prop := ∃ (F : BSet), Wk nrow w0 F0 F w ∧ ∃ (g5 : Nat), SlR k_Commit F w (ρ 0) s.commits_0 ∧ ρ 5 = .pointer (some ⟨g5, 0, none⟩) ∧ Box k_Fault 26 (Bs w0 nrow) F w g5 s.t_5 ∧ OwnV kBool 4 (Bs w0 nrow) F w (ρ 7) s.out_7 ∧ ρ 8 = .int .i64 s.i_8 ∧ ρ 10 = .int .i64 s.p_10 ∧ SlR (kInt .i64) F w (ρ 45) s.t_45 ∧ ρ 46 = .int .i64 s.t_46 ∧ ρ 47 = .int .i64 s.t_47
set_option maxHeartbeats 4000000 in
set_option maxRecDepth 20000 in
theorem ref (w0 : World) (F0 : BSet) : ∃ c, Try.f55.body = some c ∧ Ref Try.prog 57 c (G0 w0 F0) body (fun _ _ _ => False) (fun _ _ _ _ => False) (fun r ρ w => ∃ s, retv s = r ∧ G5 w0 F0 s ρ w) := by
  refine ⟨_, rfl, ?_⟩
  unfold body
  refine Ref.seq (B := G1 w0 F0) ?_ ?_
  · refine Ref.region (fun s ρ w s' h hr => ?_)
    obtain ⟨F, hW, h0, h1⟩ := h
    refine ol_v (e_as _ rfl) rfl ?_
    refine ol_e (f_alloc zer_26 hW) rfl rfl ?_
    rintro _ w2 ⟨g1, rfl, kw1, ho3⟩
    have hW4 := hW.trans kw1
    have st1 := kw1.stp hW.ok
    obtain rfl := Option.some.inj hr
    exact ol_nil ⟨F, hW4, g1, (h0.keep st1), h1, rfl, (ho3.base (row := nrow) hW.le)⟩
  refine Ref.seq (B := G1 w0 F0) ?_ ?_
  · refine Ref.seq (B := G2 w0 F0) ?_ ?_
    · refine Ref.region (fun s ρ w s' h hr => ?_)
      obtain ⟨F, hW, g5, h0, h1, p5, h5⟩ := h
      refine ol_v (e_mv _ rfl) rfl ?_
      obtain ⟨x5, hx5, hr⟩ := bind_some' hr
      refine ol_e (f_call [(ρ 0)] fn_35 (lcons rfl rfl) (history_Validate.calls hW.ok h0 hx5)) rfl rfl ?_
      rintro v8 w6 ⟨Fz7, _, rfl, kw1, hk9⟩
      have hW11 := hW.trans kw1
      have st1 := kw1.stp hW.ok
      refine ol_e (f_alloc zer_26 hW11) rfl rfl ?_
      rintro _ w13 ⟨g12, rfl, kw2, ho14⟩
      have hW15 := hW11.trans kw2
      have st2 := kw2.stp hW11.ok
      refine ol_eN (f_stB hW15 (ho14.base (row := nrow) hW11.le) (FldS.whole _) ty_26 (hk9.keep st2) rfl rfl) rfl ?_
      rintro - w16 ⟨hW17, ho18, hg3, st3⟩
      obtain rfl := Option.some.inj hr
      exact ol_nil ⟨Fz7, hW17, g5, g12, (h0.keep (st1.trans (st2.trans st3))), h1, p5, (((h5.wk kw1 hW.ok).wk kw2 hW11.ok).mut (Apart.base (fun _ e_ => by cases e_; exact ho14.ge) (h5.wk kw1 hW.ok).ltw) hg3 st3), rfl, ho18, (Apart.base (fun _ e_ => by cases e_; exact ho14.ge) (h5.wk kw1 hW.ok).ltw).symm⟩
    refine Ref.seq (B := G3 w0 F0) ?_ ?_
    · refine Ref.region (fun s ρ w s' h hr => ?_)
      obtain ⟨F, hW, g5, g6, h0, h1, p5, h5, p6, h6, a5b_6b⟩ := h
      obtain ⟨v19, hl20⟩ := LiesAt.v (h6).at_
      refine ol_v (e_ld ty_26 hl20 p6) rfl ?_
      refine ol_v (e_bld (cells := #[.int .i64 0, .int .i64 0]) bld_26 (vs := []) rfl rfl) rfl ?_
      have hb21 : Val k_Fault F w (.agg #[.int .i64 0, .int .i64 0]) (⟨(0 : Int), (0 : Int)⟩ : Fault) := mk_Fault (val_int _ _) (val_int _ _)
      refine ol_v (e_tneq (eq_Fault_26 hl20.val hb21) rfl rfl) rfl ?_
      obtain rfl := Option.some.inj hr
      exact ol_nil ⟨F, hW, g5, g6, h0, h1, p5, h5, p6, h6, rfl, a5b_6b⟩
    refine Ref.cond (b := fun s => s.t_15) (fun s ρ w ⟨F, hW, g5, g6, h0, h1, p5, h5, p6, h6, h15, a5b_6b⟩ => h15) (Ref.pre (A := G4 w0 F0) ?_ (fun s ρ w h => (fun ⟨F, hW, g5, g6, h0, h1, p5, h5, p6, h6, h15, a5b_6b⟩ => ⟨F, hW, g5, g6, p5, h5, p6, h6, a5b_6b⟩ : G3 w0 F0 s ρ w → G4 w0 F0 s ρ w) h.2)) (Ref.pre (A := G1 w0 F0) ?_ (fun s ρ w h => (fun ⟨F, hW, g5, g6, h0, h1, p5, h5, p6, h6, h15, a5b_6b⟩ => ⟨F, hW, g5, h0, h1, p5, h5⟩ : G3 w0 F0 s ρ w → G1 w0 F0 s ρ w) h.2))
    · refine Ref.seq (B := G5 w0 F0) ?_ ?_
      · refine Ref.regionD 2 (by kernel_rfl) (by kernel_rfl) (fun s ρ w ⟨F, hW, g5, g6, p5, h5, p6, h6, a5b_6b⟩ => ⟨F, hW.drewS, g5, g6, p5, h5.wk (Wk.drew (row := nrow) hW.ok) hW.ok, p6, h6.wk (Wk.drew (row := nrow) hW.ok) hW.ok, a5b_6b⟩) (fun s ρ w s' h hr => ?_)
        obtain ⟨F, hW, g5, g6, p5, h5, p6, h6, a5b_6b⟩ := h
        obtain ⟨v22, hl23⟩ := LiesAt.v (h6).at_
        refine ol_v (e_ld ty_26 hl23 p6) rfl ?_
        refine ol_v (e_as _ rfl) rfl ?_
        refine ol_eN (f_stB hW h5 (FldS.whole _) ty_26 hl23.val p5 rfl) rfl ?_
        rintro - w24 ⟨hW25, ho26, hg1, st1⟩
        obtain rfl := Option.some.inj hr
        exact ol_nil ⟨F, hW25, g5, ((OwnV.nil kBool 4 (Bs w0 nrow) F w).mut (apart_bo h5 (OwnV.nil kBool 4 (Bs w0 nrow) F w) rfl) hg1 st1), p5, ho26⟩
      exact Ref.ret (fun s ρ w h => ⟨s, rfl, h⟩)
    · exact Ref.skip
  refine Ref.seq (B := G1 w0 F0) ?_ ?_
  · refine Ref.seq (B := G6 w0 F0) ?_ ?_
    · refine Ref.region (fun s ρ w s' h hr => ?_)
      obtain ⟨F, hW, g5, h0, h1, p5, h5⟩ := h
      refine ol_v (e_mv _ h1) rfl ?_
      refine ol_v (e_lss rfl rfl) rfl ?_
      refine ol_cutA 6 19 24 (fun ρ' w' => w = w' ∧ ρ' 24 = .bool ((decide (s.n_1 < (0 : Int))) || (decide ((s.commits_0.length : Int) ≤ s.n_1)))) rfl ?_ ?_
      · by_cases hb27 : (decide (s.n_1 < (0 : Int))) = true
        · refine ol_v (e_mv _ rfl) rfl ?_
          refine ol_not rfl rfl rfl (congrArg Value.bool hb27) rfl ?_
          refine ol_not rfl rfl rfl (congrArg Value.bool hb27) rfl ?_
          refine ol_not rfl rfl rfl (congrArg Value.bool hb27) rfl ?_
          refine ol_not rfl rfl rfl (congrArg Value.bool hb27) rfl ?_
          refine ol_v (e_pick true _ (congrArg Value.bool hb27) rfl) rfl ?_
          exact ol_nil ⟨⟨rfl, (bv_or_t hb27)⟩, (((((((Agr.refl _ _ _).upd rfl rfl).upd rfl rfl).upd rfl rfl).upd rfl rfl).upd rfl rfl).upd rfl rfl)⟩
        · have hb28 := Bool.eq_false_iff.mpr hb27
          refine ol_v (e_mv _ rfl) rfl ?_
          refine ol_yes rfl rfl (congrArg Value.bool hb28) ?_
          refine ol_v (e_mv _ h1) rfl ?_
          refine ol_yes rfl rfl (congrArg Value.bool hb28) ?_
          refine ol_v (e_mv _ rfl) rfl ?_
          refine ol_yes rfl rfl (congrArg Value.bool hb28) ?_
          obtain ⟨A29, c30, e31, hc32, R33⟩ := id h0
          refine ol_v (e_len (SlT.sl sl_22) e31) rfl ?_
          refine ol_yes rfl rfl (congrArg Value.bool hb28) ?_
          refine ol_v (e_geq rfl rfl) rfl ?_
          refine ol_v (e_pick false _ (congrArg Value.bool hb28) rfl) rfl ?_
          exact ol_nil ⟨⟨rfl, (bv_or_f hb28)⟩, (((((((Agr.refl _ _ _).upd rfl rfl).upd rfl rfl).upd rfl rfl).upd rfl rfl).upd rfl rfl).upd rfl rfl)⟩
      rintro ρ34 _ ⟨⟨rfl, hp34⟩, hAg34⟩
      obtain rfl := Option.some.inj hr
      exact ol_nil ⟨F, hW, g5, (SlR.eqv (hAg34 0 rfl) h0), ((hAg34 1 rfl).trans h1), ((hAg34 5 rfl).trans p5), h5, hp34⟩
    refine Ref.cond (b := fun s => s.t_24) (fun s ρ w ⟨F, hW, g5, h0, h1, p5, h5, h24⟩ => h24) (Ref.pre (A := G7 w0 F0) ?_ (fun s ρ w h => (fun ⟨F, hW, g5, h0, h1, p5, h5, h24⟩ => ⟨F, hW, g5, p5, h5⟩ : G6 w0 F0 s ρ w → G7 w0 F0 s ρ w) h.2)) (Ref.pre (A := G1 w0 F0) ?_ (fun s ρ w h => (fun ⟨F, hW, g5, h0, h1, p5, h5, h24⟩ => ⟨F, hW, g5, h0, h1, p5, h5⟩ : G6 w0 F0 s ρ w → G1 w0 F0 s ρ w) h.2))
    · refine Ref.seq (B := G5 w0 F0) ?_ ?_
      · refine Ref.region (fun s ρ w s' h hr => ?_)
        obtain ⟨F, hW, g5, p5, h5⟩ := h
        refine ol_v (e_bld (cells := #[.int .i64 (6), .int .i64 (-1)]) bld_26 (vs := [(0, .int .i64 (6)), (1, .int .i64 (-1))]) (lcons (congrArg (Prod.mk 0) rfl) (lcons (congrArg (Prod.mk 1) rfl) rfl)) rfl) rfl ?_
        have hb35 : Val k_Fault F w (.agg #[.int .i64 (6), .int .i64 (-1)]) (⟨(6 : Int), (-1 : Int)⟩ : Fault) := mk_Fault (val_int _ _) (val_int _ _)
        refine ol_v (e_as _ rfl) rfl ?_
        refine ol_eN (f_stB hW h5 (FldS.whole _) ty_26 hb35 p5 rfl) rfl ?_
        rintro - w36 ⟨hW37, ho38, hg1, st1⟩
        obtain rfl := Option.some.inj hr
        exact ol_nil ⟨F, hW37, g5, ((OwnV.nil kBool 4 (Bs w0 nrow) F w).mut (apart_bo h5 (OwnV.nil kBool 4 (Bs w0 nrow) F w) rfl) hg1 st1), p5, ho38⟩
      exact Ref.ret (fun s ρ w h => ⟨s, rfl, h⟩)
    · exact Ref.skip
  refine Ref.seq (B := G8 w0 F0) ?_ ?_
  · refine Ref.region (fun s ρ w s' h hr => ?_)
    obtain ⟨F, hW, g5, h0, h1, p5, h5⟩ := h
    refine ol_v (e_mv _ rfl) rfl ?_
    obtain ⟨A39, c40, e41, hc42, R43⟩ := id h0
    refine ol_v (e_len (SlT.sl sl_22) e41) rfl ?_
    obtain ⟨x44, hx44, hr⟩ := bind_some' hr
    refine ol_e (f_mks sl_46 hW rfl rfl hx44) rfl rfl ?_
    rintro v45 w46 ⟨kw1, ho47⟩
    have hW48 := hW.trans kw1
    have st1 := kw1.stp hW.ok
    refine ol_v (e_as _ rfl) rfl ?_
    obtain rfl := Option.some.inj hr
    exact ol_nil ⟨F, hW48, g5, (h0.keep st1), h1, p5, (h5.wk kw1 hW.ok), (ho47.base (row := nrow) hW.le)⟩
  refine Ref.seq (B := G8 w0 F0) ?_ ?_
  · refine Ref.region (fun s ρ w s' h hr => ?_)
    obtain ⟨F, hW, g5, h0, h1, p5, h5, h7⟩ := h
    refine ol_v (e_mv _ rfl) rfl ?_
    refine ol_v (e_mv _ h1) rfl ?_
    obtain ⟨x49, hx49, hr⟩ := bind_some' hr
    obtain ⟨g50, o51, c52, hv53, L54⟩ := OwnV.at_ h7 hx49
    refine ol_v (e_ixO sl_46 hv53 hx49 rfl rfl) rfl ?_
    refine ol_eN (f_stO hW h7 hx49 (FldS.whole _) ty_4 (val_bool _) hv53 rfl rfl) rfl ?_
    rintro - w55 ⟨hW56, ho57, hg1, st1⟩
    obtain rfl := Option.some.inj hr
    exact ol_nil ⟨F, hW56, g5, (h0.keep st1), h1, p5, (h5.mut (apart_bo h5 h7 rfl).symm hg1 st1), ho57⟩
  refine Ref.seq (B := G11 w0 F0) ?_ ?_
  · refine Ref.seq (B := G9 w0 F0) ?_ ?_
    · refine Ref.region (fun s ρ w s' h hr => ?_)
      obtain ⟨F, hW, g5, h0, h1, p5, h5, h7⟩ := h
      refine ol_v (e_mv _ h1) rfl ?_
      refine ol_v (e_as _ rfl) rfl ?_
      obtain rfl := Option.some.inj hr
      exact ol_nil ⟨F, hW, g5, h0, p5, h5, h7, rfl⟩
    refine Ref.block ?_
    refine Ref.loop ?_
    refine Ref.seq (B := G9 w0 F0) ?_ ?_
    · refine Ref.seq (B := G10 w0 F0) ?_ ?_
      · refine Ref.region (fun s ρ w s' h hr => ?_)
        obtain ⟨F, hW, g5, h0, p5, h5, h7, h8⟩ := h
        refine ol_v (e_mv _ h8) rfl ?_
        refine ol_v (e_geq rfl rfl) rfl ?_
        obtain rfl := Option.some.inj hr
        exact ol_nil ⟨F, hW, g5, h0, p5, h5, h7, h8, rfl⟩
      refine Ref.cond (b := fun s => s.t_34) (fun s ρ w ⟨F, hW, g5, h0, p5, h5, h7, h8, h34⟩ => h34) (Ref.pre (A := G9 w0 F0) ?_ (fun s ρ w h => (fun ⟨F, hW, g5, h0, p5, h5, h7, h8, h34⟩ => ⟨F, hW, g5, h0, p5, h5, h7, h8⟩ : G10 w0 F0 s ρ w → G9 w0 F0 s ρ w) h.2)) (Ref.pre (A := G11 w0 F0) ?_ (fun s ρ w h => (fun ⟨F, hW, g5, h0, p5, h5, h7, h8, h34⟩ => ⟨F, hW, g5, p5, h5, h7⟩ : G10 w0 F0 s ρ w → G11 w0 F0 s ρ w) h.2))
      · exact Ref.skip
      · exact Ref.exit (fun s ρ w h => h)
    refine Ref.seq (B := G9 w0 F0) ?_ ?_
    · refine Ref.block ?_
      refine Ref.seq (B := G12 w0 F0) ?_ ?_
      · refine Ref.region (fun s ρ w s' h hr => ?_)
        obtain ⟨F, hW, g5, h0, p5, h5, h7, h8⟩ := h
        refine ol_v (e_mv _ rfl) rfl ?_
        refine ol_v (e_mv _ h8) rfl ?_
        obtain ⟨x58, hx58, hr⟩ := bind_some' hr
        obtain ⟨g59, o60, c61, hv62, L63⟩ := OwnV.at_ h7 hx58
        refine ol_v (e_ixO sl_46 hv62 hx58 rfl rfl) rfl ?_
        refine ol_v (e_ld ty_4 (LiesV.bool L63) rfl) rfl ?_
        obtain rfl := Option.some.inj hr
        exact ol_nil ⟨F, hW, g5, h0, p5, h5, h7, h8, rfl⟩
      refine Ref.cond (b := fun s => s.t_40) (fun s ρ w ⟨F, hW, g5, h0, p5, h5, h7, h8, h40⟩ => h40) (Ref.pre (A := G9 w0 F0) ?_ (fun s ρ w h => (fun ⟨F, hW, g5, h0, p5, h5, h7, h8, h40⟩ => ⟨F, hW, g5, h0, p5, h5, h7, h8⟩ : G12 w0 F0 s ρ w → G9 w0 F0 s ρ w) h.2)) (Ref.pre (A := G9 w0 F0) ?_ (fun s ρ w h => (fun ⟨F, hW, g5, h0, p5, h5, h7, h8, h40⟩ => ⟨F, hW, g5, h0, p5, h5, h7, h8⟩ : G12 w0 F0 s ρ w → G9 w0 F0 s ρ w) h.2))
      · refine Ref.seq (B := G13 w0 F0) ?_ ?_
        · refine Ref.region (fun s ρ w s' h hr => ?_)
          obtain ⟨F, hW, g5, h0, p5, h5, h7, h8⟩ := h
          refine ol_v (e_mv _ rfl) rfl ?_
          refine ol_v (e_mv _ h8) rfl ?_
          obtain ⟨x64, hx64, hr⟩ := bind_some' hr
          obtain ⟨A65, c66, e67, hc68, R69⟩ := id h0
          obtain ⟨b70, o71, hA72, L73⟩ := Row.at_ R69 hx64
          refine ol_v (e_ix (SlT.sl sl_22) (SlT.sz sl_22) hA72 hx64 e67 rfl) rfl ?_
          refine ol_v (e_fa fa_56_0 rfl) rfl ?_
          obtain ⟨v74, hl75, hs76⟩ := LiesV.sl (L73.fld fl_Commit_0).at_
          refine ol_v (e_ld ty_23 hl75 rfl) rfl ?_
          obtain ⟨A77, c78, e79, hc80, R81⟩ := id hs76
          refine ol_v (e_len (SlT.sl sl_23) e79) rfl ?_
          refine ol_v (e_mv _ rfl) rfl ?_
          obtain rfl := Option.some.inj hr
          exact ol_nil ⟨F, hW, g5, h0, p5, h5, h7, h8, hs76, rfl, rfl⟩
        refine Ref.block ?_
        refine Ref.loop ?_
        refine Ref.seq (B := G14 w0 F0) ?_ ?_
        · refine Ref.region (fun s ρ w s' h hr => ?_)
          obtain ⟨F, hW, g5, h0, p5, h5, h7, h8, h45, h46, h47⟩ := h
          refine ol_v (e_lss h47 h46) rfl ?_
          obtain rfl := Option.some.inj hr
          exact ol_nil ⟨F, hW, g5, h0, p5, h5, h7, h8, h45, h46, h47, rfl⟩
        refine Ref.seq (B := G13 w0 F0) ?_ ?_
        · refine Ref.cond (b := fun s => s.t_48) (fun s ρ w ⟨F, hW, g5, h0, p5, h5, h7, h8, h45, h46, h47, h48⟩ => h48) (Ref.pre (A := G13 w0 F0) ?_ (fun s ρ w h => (fun ⟨F, hW, g5, h0, p5, h5, h7, h8, h45, h46, h47, h48⟩ => ⟨F, hW, g5, h0, p5, h5, h7, h8, h45, h46, h47⟩ : G14 w0 F0 s ρ w → G13 w0 F0 s ρ w) h.2)) (Ref.pre (A := G9 w0 F0) ?_ (fun s ρ w h => (fun ⟨F, hW, g5, h0, p5, h5, h7, h8, h45, h46, h47, h48⟩ => ⟨F, hW, g5, h0, p5, h5, h7, h8⟩ : G14 w0 F0 s ρ w → G9 w0 F0 s ρ w) h.2))
          · exact Ref.skip
          · exact Ref.exit (fun s ρ w h => h)
        refine Ref.seq (B := G13 w0 F0) ?_ ?_
        · refine Ref.block ?_
          refine Ref.seq (B := G15 w0 F0) ?_ ?_
          · refine Ref.region (fun s ρ w s' h hr => ?_)
            obtain ⟨F, hW, g5, h0, p5, h5, h7, h8, h45, h46, h47⟩ := h
            obtain ⟨x82, hx82, hr⟩ := bind_some' hr
            obtain ⟨A83, c84, e85, hc86, R87⟩ := id h45
            obtain ⟨b88, o89, hA90, L91⟩ := Row.at_ R87 hx82
            refine ol_v (e_ix (SlT.sl sl_23) (SlT.sz sl_23) hA90 hx82 e85 h47) rfl ?_
            refine ol_v (e_ld ty_3 (LiesV.int L91.at_) rfl) rfl ?_
            refine ol_v (e_as _ rfl) rfl ?_
            obtain rfl := Option.some.inj hr
            exact ol_nil ⟨F, hW, g5, h0, p5, h5, h7, h8, rfl, h45, h46, h47⟩
          refine Ref.region (fun s ρ w s' h hr => ?_)
          obtain ⟨F, hW, g5, h0, p5, h5, h7, h8, h10, h45, h46, h47⟩ := h
          refine ol_v (e_mv _ rfl) rfl ?_
          refine ol_v (e_mv _ h10) rfl ?_
          obtain ⟨x92, hx92, hr⟩ := bind_some' hr
          obtain ⟨g93, o94, c95, hv96, L97⟩ := OwnV.at_ h7 hx92
          refine ol_v (e_ixO sl_46 hv96 hx92 rfl rfl) rfl ?_
          refine ol_eN (f_stO hW h7 hx92 (FldS.whole _) ty_4 (val_bool _) hv96 rfl rfl) rfl ?_
          rintro - w98 ⟨hW99, ho100, hg1, st1⟩
          obtain rfl := Option.some.inj hr
          exact ol_nil ⟨F, hW99, g5, (h0.keep st1), p5, (h5.mut (apart_bo h5 h7 rfl).symm hg1 st1), ho100, h8, (h45.keep st1), h46, h47⟩
        refine Ref.region (fun s ρ w s' h hr => ?_)
        obtain ⟨F, hW, g5, h0, p5, h5, h7, h8, h45, h46, h47⟩ := h
        refine ol_v (e_add h47 rfl) rfl ?_
        refine ol_v (e_mv _ rfl) rfl ?_
        obtain rfl := Option.some.inj hr
        exact ol_nil ⟨F, hW, g5, h0, p5, h5, h7, h8, h45, h46, rfl⟩
      · exact Ref.skip
    refine Ref.region (fun s ρ w s' h hr => ?_)
    obtain ⟨F, hW, g5, h0, p5, h5, h7, h8⟩ := h
    refine ol_v (e_mv _ h8) rfl ?_
    refine ol_v (e_sub rfl rfl) rfl ?_
    refine ol_v (e_as _ rfl) rfl ?_
    obtain rfl := Option.some.inj hr
    exact ol_nil ⟨F, hW, g5, h0, p5, h5, h7, rfl⟩
  refine Ref.seq (B := G5 w0 F0) ?_ ?_
  · refine Ref.region (fun s ρ w s' h hr => ?_)
    obtain ⟨F, hW, g5, p5, h5, h7⟩ := h
    refine ol_v (e_mv _ rfl) rfl ?_
    refine ol_v (e_bld (cells := #[.int .i64 0, .int .i64 0]) bld_26 (vs := []) rfl rfl) rfl ?_
    have hb101 : Val k_Fault F w (.agg #[.int .i64 0, .int .i64 0]) (⟨(0 : Int), (0 : Int)⟩ : Fault) := mk_Fault (val_int _ _) (val_int _ _)
    refine ol_v (e_as _ rfl) rfl ?_
    refine ol_eN (f_stB hW h5 (FldS.whole _) ty_26 hb101 p5 rfl) rfl ?_
    rintro - w102 ⟨hW103, ho104, hg1, st1⟩
    obtain rfl := Option.some.inj hr
    exact ol_nil ⟨F, hW103, g5, (h7.mut (apart_bo h5 h7 rfl) hg1 st1), p5, ho104⟩
  exact Ref.ret (fun s ρ w h => ⟨s, rfl, h⟩)
def post (w : World) (F : BSet) (r : R) (v : Value) (w' : World) : Prop := ∃ (F' : BSet) (v0' : Value) (v1' : Value), v = .tuple #[v0', v1'] ∧ Wk nrow w F F' w' ∧ OwnV kBool 4 (Nw w) F' w' v0' r.1 ∧ Val k_Fault F' w' v1' r.2
theorem calls {w : World} {F : BSet} (hok : ∀ b, F b → b < w.heap.size) {v0 : Value} {a0 : (List Commit)} (h0 : SlR k_Commit F w v0 a0) (a1 : Int) {r : R} (hf : f a0 a1 = some r) : Calls Try.prog 55 #[v0, .int .i64 a1] w fun e w' => ∃ v, e = .returned v ∧ post w F r v w' := by
  obtain ⟨c, hc, href⟩ := ref w F
  refine calls_of_ref (args := [v0, .int .i64 a1]) _ Try.func55 hc rfl rfl href ?_ (retOf_some hf) ?_
  · exact ⟨F, Wk.refl hok, h0, rfl⟩
  · rintro ρ w' a ⟨s, rfl, F', hW, g5, h4, p5, h5⟩ hF
    obtain ⟨u5, l5, k5⟩ := res_box (P := Try.prog) ty_26 h5
    refine ⟨_, run_results (rs := [.tmp 4, .cell 5 26]) rfl hF (vs := [ρ 4, u5]) (⟨_, rfl, ⟨_, _, _, rfl, p5, l5, rfl⟩⟩), ?_⟩
    exact ⟨F', ρ 4, u5, rfl, hW, h4.rebase (fun g hg => (h4.lt hg).1.resolve_right (fun h => h)), k5⟩
end
end history_Ancestors

end Go.Proofs.Ytilodamhgepjoaa
