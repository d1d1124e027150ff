/- The machine's calls come to these plain functions (written by a program, wip/fx/gen.py). -/
import Derived.Test.YtoiafcpnhhplnaaPA
import Derived.Test.YtoiafcpnhhplnaaNm
import Derived.Test.YtoiafcpnhhplnaaM1
import Derived.Test.YtoiafcpnhhplnaaM2
import Derived.Test.YtoiafcpnhhplnaaM3
import Derived.Test.YtoiafcpnhhplnaaM4
import Derived.Test.YtoiafcpnhhplnaaM6
import Derived.Test.YtoiafcpnhhplnaaM9
import Derived.Test.YtoiafcpnhhplnaaSl
import Derived.Test.YtoiafcpnhhplnaaIn
import Derived.Test.YtoiafcpnhhplnaaInP
import Derived.Test.YtoiafcpnhhplnaaFx15
namespace Go.Proofs.Ytoiafcpnhhplnaa
open Go.Fx Go.RowKit
set_option linter.unusedVariables false

namespace law4_textsFault
section
abbrev c1 (ρ : Env) (g2 : Nat) (w0 w : World) (F : BSet) (s : S) (X : Prop) : Prop := ρ 2 = .pointer (some ⟨g2, 0, none⟩) ∧ Box k_Fault 29 (Bs w0 nrow) F w g2 s.t_2 ∧ X
def G0 : GT S := fun w0 F0 s ρ w => ∃ F, Wk nrow w0 F0 F w ∧ SlR kStr F w (ρ 0) s.texts_0
def G1 : GT S := fun w0 F0 s ρ w => ∃ F, Wk nrow w0 F0 F w ∧ ∃ g2, SlR kStr F w (ρ 0) s.texts_0 ∧ ρ 2 = .pointer (some ⟨g2, 0, none⟩) ∧ Box k_Fault 29 (Bs w0 nrow) F w g2 s.t_2
def G2 : GT S := fun w0 F0 s ρ w => ∃ F, Wk nrow w0 F0 F w ∧ ∃ g2, SlR kStr F w (ρ 0) s.texts_0 ∧ c1 ρ g2 w0 w F s (ρ 6 = .bool s.t_6)
def G3 : GT S := fun w0 F0 s ρ w => ∃ F, Wk nrow w0 F0 F w ∧ ∃ g2, ρ 2 = .pointer (some ⟨g2, 0, none⟩) ∧ Box k_Fault 29 (Bs w0 nrow) F w g2 s.t_2
def G4 : GT S := fun w0 F0 s ρ w => ∃ F, Wk nrow w0 F0 F w ∧ ∃ g2, SlR kStr F w (ρ 0) s.texts_0 ∧ c1 ρ g2 w0 w F s (ρ 3 = .int .i64 s.i_3)
def G5 : GT S := fun w0 F0 s ρ w => ∃ F, Wk nrow w0 F0 F w ∧ ∃ g2, SlR kStr F w (ρ 0) s.texts_0 ∧ c1 ρ g2 w0 w F s (ρ 3 = .int .i64 s.i_3 ∧ ρ 11 = .bool s.t_11)
def G6 : GT S := fun w0 F0 s ρ w => ∃ F, Wk nrow w0 F0 F w ∧ ∃ g2, SlR kStr F w (ρ 0) s.texts_0 ∧ c1 ρ g2 w0 w F s (ρ 3 = .int .i64 s.i_3 ∧ ρ 19 = .bool s.t_19)
def G7 : GT S := fun w0 F0 s ρ w => ∃ F, Wk nrow w0 F0 F w ∧ ∃ g2, c1 ρ g2 w0 w F s (ρ 3 = .int .i64 s.i_3)
set_option maxHeartbeats 4000000 in
set_option maxRecDepth 20000 in
theorem ref (w0 : World) (F0 : BSet) : ∃ c, Try.f11.body = some c ∧ Ref Try.prog 23 c (G0 w0 F0) body (fun _ _ _ => False) (fun _ _ _ _ => False) (fun r ρ w => ∃ s, retv s = r ∧ G3 w0 F0 s ρ w) := by
  refine ⟨_, rfl, ?_⟩; unfold body; refine Ref.seq (B := G1 w0 F0) ?_ ?_
  · refine Ref.region (fun s ρ w s' h hr => ?_); obtain ⟨F, hW, h0⟩ := h; refine ol_e (f_alloc zer_29 hW) rfl rfl ?_; rintro _ w2 ⟨g1, rfl, kw1, ho3⟩; have hW4 := hW.trans kw1; have st1 := kw1.stp hW.ok; exact ol_fin hr ⟨F, hW4, g1, (h0.keep st1), rfl, (ho3.base (row := nrow) hW.le)⟩
  refine Ref.seq (B := G1 w0 F0) ?_ ?_
  · refine Ref.seq (B := G2 w0 F0) ?_ ?_
    · refine Ref.region (fun s ρ w s' h hr => ?_); obtain ⟨F, hW, g2, h0, p2, h2⟩ := h; refine ol_m rfl ?_; obtain ⟨A5, c6, e7, hc8, R9⟩ := id h0; refine ol_v (e_len (SlT.sl sl_22) e7) rfl ?_; refine ol_v (e_gtr rfl rfl) rfl ?_; exact ol_fin hr ⟨F, hW, g2, h0, p2, h2, rfl⟩
    refine Ref.condP (b := fun s => s.t_6) (L := G3 w0 F0) (K := G1 w0 F0) ?_ ?_ ?_
    · rintro s ρ w ⟨F, hW, g2, h0, p2, h2, h6⟩; exact ⟨h6, ⟨F, hW, g2, p2, h2⟩, F, hW, g2, h0, p2, h2⟩
    · refine Ref.seq (B := G3 w0 F0) ?_ ?_
      · refine Ref.region (fun s ρ w s' h hr => ?_); obtain ⟨F, hW, g2, p2, h2⟩ := h; obtain ⟨x10, hx10, hr⟩ := bind_some' hr; refine ol_e (f_call [.int .i64 (2 : Int), .int .i64 (-1 : Int)] fn_18 (lcons rfl (lcons rfl rfl)) (ref3_Fault.calls hW.ok (2 : Int) (-1 : Int) hx10)) rfl rfl ?_; rintro v13 w11 ⟨Fz12, _, rfl, kw1, hk14⟩; have hW16 := hW.trans kw1; have st1 := kw1.stp hW.ok; refine ol_eN (f_stB hW16 (h2.wk kw1 hW.ok) (FldS.whole _) ty_29 hk14 p2 rfl) rfl ?_; rintro - w17 ⟨hW18, ho19, hg2, st2⟩; exact ol_fin hr ⟨Fz12, hW18, g2, p2, ho19⟩
      exact Ref.ret (fun s ρ w h => ⟨s, rfl, h⟩)
    · exact Ref.skip
  refine Ref.seq (B := G3 w0 F0) ?_ ?_
  · refine Ref.seq (B := G4 w0 F0) ?_ ?_
    · refine Ref.region (fun s ρ w s' h hr => ?_); obtain ⟨F, hW, g2, h0, p2, h2⟩ := h; refine ol_a rfl ?_; exact ol_fin hr ⟨F, hW, g2, h0, p2, h2, rfl⟩
    refine Ref.block ?_; refine Ref.loop ?_; refine Ref.seq (B := G4 w0 F0) ?_ ?_
    · refine Ref.seq (B := G5 w0 F0) ?_ ?_
      · refine Ref.region (fun s ρ w s' h hr => ?_); obtain ⟨F, hW, g2, h0, p2, h2, h3⟩ := h; refine ol_m h3 ?_; refine ol_m rfl ?_; obtain ⟨A20, c21, e22, hc23, R24⟩ := id h0; refine ol_v (e_len (SlT.sl sl_22) e22) rfl ?_; refine ol_v (e_lss rfl rfl) rfl ?_; exact ol_fin hr ⟨F, hW, g2, h0, p2, h2, h3, rfl⟩
      refine Ref.condP (b := fun s => s.t_11) (L := G4 w0 F0) (K := G3 w0 F0) ?_ ?_ ?_
      · rintro s ρ w ⟨F, hW, g2, h0, p2, h2, h3, h11⟩; exact ⟨h11, ⟨F, hW, g2, h0, p2, h2, h3⟩, F, hW, g2, p2, h2⟩
      · exact Ref.skip
      · exact Ref.exit (fun s ρ w h => h)
    refine Ref.seq (B := G4 w0 F0) ?_ ?_
    · refine Ref.block ?_; refine Ref.seq (B := G6 w0 F0) ?_ ?_
      · refine Ref.region (fun s ρ w s' h hr => ?_); obtain ⟨F, hW, g2, h0, p2, h2, h3⟩ := h; refine ol_m rfl ?_; refine ol_m h3 ?_; obtain ⟨x25, hx25, hr⟩ := bind_some' hr; obtain ⟨A26, c27, e28, hc29, R30⟩ := id h0; obtain ⟨b31, o32, hA33, L34⟩ := Row.at_ R30 hx25; refine ol_v (e_ix (SlT.sl sl_22) (SlT.sz sl_22) hA33 hx25 e28 rfl) rfl ?_; refine ol_v (e_ld ty_9 (LiesV.str L34.at_) rfl) rfl ?_; refine ol_v (e_lenS (by kernel_rfl) rfl) rfl ?_; refine ol_v (e_gtr rfl rfl) rfl ?_; exact ol_fin hr ⟨F, hW, g2, h0, p2, h2, h3, rfl⟩
      refine Ref.condP (b := fun s => s.t_19) (L := G7 w0 F0) (K := G4 w0 F0) ?_ ?_ ?_
      · rintro s ρ w ⟨F, hW, g2, h0, p2, h2, h3, h19⟩; exact ⟨h19, ⟨F, hW, g2, p2, h2, h3⟩, F, hW, g2, h0, p2, h2, h3⟩
      · refine Ref.seq (B := G3 w0 F0) ?_ ?_
        · refine Ref.region (fun s ρ w s' h hr => ?_); obtain ⟨F, hW, g2, p2, h2, h3⟩ := h; refine ol_m h3 ?_; obtain ⟨x35, hx35, hr⟩ := bind_some' hr; refine ol_e (f_call [.int .i64 (10 : Int), .int .i64 s.i_3] fn_18 (lcons rfl (lcons rfl rfl)) (ref3_Fault.calls hW.ok (10 : Int) s.i_3 hx35)) rfl rfl ?_; rintro v38 w36 ⟨Fz37, _, rfl, kw1, hk39⟩; have hW41 := hW.trans kw1; have st1 := kw1.stp hW.ok; refine ol_eN (f_stB hW41 (h2.wk kw1 hW.ok) (FldS.whole _) ty_29 hk39 p2 rfl) rfl ?_; rintro - w42 ⟨hW43, ho44, hg2, st2⟩; exact ol_fin hr ⟨Fz37, hW43, g2, p2, ho44⟩
        exact Ref.ret (fun s ρ w h => ⟨s, rfl, h⟩)
      · exact Ref.skip
    refine Ref.region (fun s ρ w s' h hr => ?_); obtain ⟨F, hW, g2, h0, p2, h2, h3⟩ := h; refine ol_m h3 ?_; refine ol_v (e_add rfl rfl) rfl ?_; refine ol_a rfl ?_; exact ol_fin hr ⟨F, hW, g2, h0, p2, h2, rfl⟩
  refine Ref.seq (B := G3 w0 F0) ?_ ?_
  · refine Ref.region (fun s ρ w s' h hr => ?_); obtain ⟨F, hW, g2, p2, h2⟩ := h; refine ol_v (e_bld (cells := #[.int .i64 0, .int .i64 0]) bld_29 (vs := []) rfl rfl) rfl ?_; have hb45 : Val k_Fault F w (.agg #[.int .i64 0, .int .i64 0]) (⟨(0 : Int), (0 : Int)⟩ : Fault) := mk_Fault (val_int _ _) (val_int _ _); refine ol_eN (f_stB hW h2 (FldS.whole _) ty_29 hb45 p2 rfl) rfl ?_; rintro - w46 ⟨hW47, ho48, hg1, st1⟩; exact ol_fin hr ⟨F, hW47, g2, p2, ho48⟩
  exact Ref.ret (fun s ρ w h => ⟨s, rfl, h⟩)
def post (w : World) (F : BSet) (r : R) (v : Value) (w' : World) : Prop := ∃ (F' : BSet) (v0' : Value), v = v0' ∧ Wk nrow w F F' w' ∧ Val k_Fault F' w' v0' r
theorem calls {w : World} {F : BSet} (hok : ∀ b, F b → b < w.heap.size) {v0 : Value} {a0 : (List ByteArray)} (h0 : SlR kStr F w v0 a0) {r : R} (hf : f a0 = some r) : Calls Try.prog 11 #[v0] w fun e w' => ∃ v, e = .returned v ∧ post w F r v w' := by
  obtain ⟨c, hc, href⟩ := ref w F; refine calls_of_ref (args := [v0]) _ Try.func11 hc rfl rfl href ?_ (retOf_some hf) ?_
  · exact ⟨F, Wk.refl hok, h0⟩
  · rintro ρ w' a ⟨s, rfl, F', hW, g2, p2, h2⟩ hF; obtain ⟨u2, l2, k2⟩ := res_box (P := Try.prog) ty_29 h2; refine ⟨_, run_results (rs := [.cell 2 29]) rfl hF (vs := [u2]) (⟨_, _, _, rfl, p2, l2, rfl⟩), ?_⟩; exact ⟨F', u2, rfl, hW, k2⟩
end
end law4_textsFault

namespace ref4_IndexOf
section
abbrev c0 (F : BSet) (w : World) (ρ : Env) (s : S) (X : Prop) : Prop := SlR (kInt .i64) F w (ρ 0) s.numbers_0 ∧ SlR kStr F w (ρ 1) s.texts_1 ∧ X
abbrev c1 (ρ : Env) (g4 : Nat) (w0 w : World) (F : BSet) (s : S) (X : Prop) : Prop := ρ 4 = .pointer (some ⟨g4, 0, none⟩) ∧ Box k_TrigramIndex 27 (Bs w0 nrow) F w g4 s.t_4 ∧ X
abbrev c2 (ρ : Env) (g5 : Nat) (w0 w : World) (F : BSet) (s : S) (v5_1 : Value) (X : Prop) : Prop := ρ 5 = .pointer (some ⟨g5, 0, none⟩) ∧ Box k_TrigramIndex_r 27 (Bs w0 nrow) F w g5 (⟨s.x_5.Texts, v5_1⟩ : TrigramIndex_r) ∧ OwnV k_Posting 55 (Bs w0 nrow) F w v5_1 s.x_5.Postings ∧ X
abbrev e3 (g4 g5 : Nat) : Prop := Apart (some g4) (some g5)
def G0 : GT S := fun w0 F0 s ρ w => ∃ F, Wk nrow w0 F0 F w ∧ SlR (kInt .i64) F w (ρ 0) s.numbers_0 ∧ SlR kStr F w (ρ 1) s.texts_1
def G1 : GT S := fun w0 F0 s ρ w => ∃ F, Wk nrow w0 F0 F w ∧ ∃ g4, c0 F w ρ s (ρ 4 = .pointer (some ⟨g4, 0, none⟩) ∧ Box k_TrigramIndex 27 (Bs w0 nrow) F w g4 s.t_4)
def G2 : GT S := fun w0 F0 s ρ w => ∃ F, Wk nrow w0 F0 F w ∧ ∃ g4 g5 v5_1, c0 F w ρ s (c1 ρ g4 w0 w F s (c2 ρ g5 w0 w F s v5_1 (e3 g4 g5)))
def G3 : GT S := fun w0 F0 s ρ w => ∃ F, Wk nrow w0 F0 F w ∧ ∃ g4 g5 v5_1, c0 F w ρ s (c1 ρ g4 w0 w F s (c2 ρ g5 w0 w F s v5_1 (ρ 6 = .int .i64 s.i_6 ∧ e3 g4 g5)))
def G4 : GT S := fun w0 F0 s ρ w => ∃ F, Wk nrow w0 F0 F w ∧ ∃ g4 g5 v5_1, c0 F w ρ s (c1 ρ g4 w0 w F s (c2 ρ g5 w0 w F s v5_1 (ρ 6 = .int .i64 s.i_6 ∧ ρ 12 = .bool s.t_12 ∧ e3 g4 g5)))
def G5 : GT S := fun w0 F0 s ρ w => ∃ F, Wk nrow w0 F0 F w ∧ ∃ g4 g5 v5_1, c1 ρ g4 w0 w F s (c2 ρ g5 w0 w F s v5_1 (e3 g4 g5))
def G6 : GT S := fun w0 F0 s ρ w => ∃ F, Wk nrow w0 F0 F w ∧ ∃ g4 g5 v5_1, c0 F w ρ s (c1 ρ g4 w0 w F s (c2 ρ g5 w0 w F s v5_1 (ρ 6 = .int .i64 s.i_6 ∧ ρ 7 = .int .i64 s.k_7 ∧ e3 g4 g5)))
def G7 : GT S := fun w0 F0 s ρ w => ∃ F, Wk nrow w0 F0 F w ∧ ∃ g4 g5 v5_1, c0 F w ρ s (c1 ρ g4 w0 w F s (c2 ρ g5 w0 w F s v5_1 (ρ 6 = .int .i64 s.i_6 ∧ ρ 7 = .int .i64 s.k_7 ∧ ρ 30 = .bool s.t_30 ∧ e3 g4 g5)))
def G8 : GT S := fun w0 F0 s ρ w => ∃ F, Wk nrow w0 F0 F w ∧ ∃ g4, ρ 4 = .pointer (some ⟨g4, 0, none⟩) ∧ Box k_TrigramIndex 27 (Bs w0 nrow) F w g4 s.t_4
set_option maxHeartbeats 4000000 in
set_option maxRecDepth 20000 in
theorem ref (w0 : World) (F0 : BSet) : ∃ c, Try.f13.body = some c ∧ Ref Try.prog 50 c (G0 w0 F0) body (fun _ _ _ => False) (fun _ _ _ _ => False) (fun r ρ w => ∃ s, retv s = r ∧ G8 w0 F0 s ρ w) := by
  refine ⟨_, rfl, ?_⟩; unfold body; refine Ref.seq (B := G1 w0 F0) ?_ ?_
  · refine Ref.region (fun s ρ w s' h hr => ?_); obtain ⟨F, hW, h0, h1⟩ := h; refine ol_e (f_alloc zer_27 hW) rfl rfl ?_; rintro _ w2 ⟨g1, rfl, kw1, ho3⟩; have hW4 := hW.trans kw1; have st1 := kw1.stp hW.ok; exact ol_fin hr ⟨F, hW4, g1, (h0.keep st1), (h1.keep st1), rfl, (ho3.base (row := nrow) hW.le)⟩
  refine Ref.seq (B := G2 w0 F0) ?_ ?_
  · refine Ref.region (fun s ρ w s' h hr => ?_); obtain ⟨F, hW, g4, h0, h1, p4, h4⟩ := h; refine ol_v (e_bld (cells := #[.slice none 0 0, (Value.slice none 0 0)]) bld_27 (vs := []) rfl rfl) rfl ?_; have hb5 : Val k_TrigramIndex_r F w (.agg #[.slice none 0 0, (Value.slice none 0 0)]) (⟨[], (Value.slice none 0 0)⟩ : TrigramIndex_r) := mk_TrigramIndex_r (val_sl (SlR.nil _ _ _)) (OwnV.raw (OwnV.nil k_Posting 55 (Bs w0 nrow) F w)); refine ol_e (f_alloc zerT_27 hW) rfl rfl ?_; rintro _ w7 ⟨g6, rfl, kw1, ho8⟩; have hW9 := hW.trans kw1; have st1 := kw1.stp hW.ok; refine ol_eN (f_stB hW9 (ho8.base (row := nrow) hW.le) (FldS.whole _) tyT_27 (hb5.keep st1) rfl rfl) rfl ?_; rintro - w10 ⟨hW11, ho12, hg2, st2⟩; have z1 := (OwnV.nil k_Posting 55 (Bs w0 nrow) F w).wk kw1 hW.ok; exact ol_fin hr ⟨F, hW11, g4, g6, (Value.slice none 0 0), (h0.keep (st1.trans st2)), (h1.keep (st1.trans st2)), p4, ((h4.wk kw1 hW.ok).mut (Apart.base (fun _ e_ => by cases e_; exact ho8.ge) h4.ltw) hg2 st2), rfl, ho12, (z1.mut (apart_bo (ho8.base (row := nrow) hW.le) z1 rfl) hg2 st2), (Apart.base (fun _ e_ => by cases e_; exact ho8.ge) h4.ltw).symm⟩
  refine Ref.seq (B := G5 w0 F0) ?_ ?_
  · refine Ref.seq (B := G3 w0 F0) ?_ ?_
    · refine Ref.region (fun s ρ w s' h hr => ?_); obtain ⟨F, hW, g4, g5, v5_1, h0, h1, p4, h4, p5, b5, h5_1, a4b_5b⟩ := h; refine ol_a rfl ?_; exact ol_fin hr ⟨F, hW, g4, g5, v5_1, h0, h1, p4, h4, p5, b5, h5_1, rfl, a4b_5b⟩
    refine Ref.block ?_; refine Ref.loop ?_; refine Ref.seq (B := G3 w0 F0) ?_ ?_
    · refine Ref.seq (B := G4 w0 F0) ?_ ?_
      · refine Ref.region (fun s ρ w s' h hr => ?_); obtain ⟨F, hW, g4, g5, v5_1, h0, h1, p4, h4, p5, b5, h5_1, h6, a4b_5b⟩ := h; refine ol_m h6 ?_; refine ol_m rfl ?_; obtain ⟨A13, c14, e15, hc16, R17⟩ := id h0; refine ol_v (e_len (SlT.sl sl_24) e15) rfl ?_; refine ol_v (e_lss rfl rfl) rfl ?_; exact ol_fin hr ⟨F, hW, g4, g5, v5_1, h0, h1, p4, h4, p5, b5, h5_1, h6, rfl, a4b_5b⟩
      refine Ref.condP (b := fun s => s.t_12) (L := G3 w0 F0) (K := G5 w0 F0) ?_ ?_ ?_
      · rintro s ρ w ⟨F, hW, g4, g5, v5_1, h0, h1, p4, h4, p5, b5, h5_1, h6, h12, a4b_5b⟩; exact ⟨h12, ⟨F, hW, g4, g5, v5_1, h0, h1, p4, h4, p5, b5, h5_1, h6, a4b_5b⟩, F, hW, g4, g5, v5_1, p4, h4, p5, b5, h5_1, a4b_5b⟩
      · exact Ref.skip
      · exact Ref.exit (fun s ρ w h => h)
    refine Ref.seq (B := G3 w0 F0) ?_ ?_
    · refine Ref.block ?_; refine Ref.seq (B := G3 w0 F0) ?_ ?_
      · refine Ref.regionD 6 (by kernel_rfl) (by kernel_rfl) (fun s ρ w ⟨F, hW, g4, g5, v5_1, h0, h1, p4, h4, p5, b5, h5_1, h6, a4b_5b⟩ => ⟨F, hW.drewS, g4, g5, v5_1, h0.keep (sd hW), h1.keep (sd hW), p4, h4.wk (Wk.drew (row := nrow) hW.ok) hW.ok, p5, b5.wk (Wk.drew (row := nrow) hW.ok) hW.ok, h5_1.wk (Wk.drew (row := nrow) hW.ok) hW.ok, h6, a4b_5b⟩) (fun s ρ w s' h hr => ?_); obtain ⟨F, hW, g4, g5, v5_1, h0, h1, p4, h4, p5, b5, h5_1, h6, a4b_5b⟩ := h; refine ol_v (e_fa fa_27_0 p5) rfl ?_; obtain ⟨v18, hl19, hs20⟩ := LiesV.sl ((b5).at_.fld fl_TrigramIndex_r_0); refine ol_v (e_ld ty_24 hl19 rfl) rfl ?_; refine ol_m rfl ?_; refine ol_m h6 ?_; obtain ⟨x21, hx21, hr⟩ := bind_some' hr; obtain ⟨A22, c23, e24, hc25, R26⟩ := id h0; obtain ⟨b27, o28, hA29, L30⟩ := Row.at_ R26 hx21; refine ol_v (e_ix (SlT.sl sl_24) (SlT.sz sl_24) hA29 hx21 e24 rfl) rfl ?_; refine ol_v (e_ld ty_3 (LiesV.int L30.at_) rfl) rfl ?_; obtain ⟨x31, hx31, hr⟩ := bind_some' hr; refine ol_e (f_call [v18, .int .i64 x21] fn_29 (lcons rfl (lcons rfl rfl)) (ref4_Insert.calls hW.ok hs20 x21 hx31)) rfl rfl ?_; rintro v34 w32 ⟨Fz33, _, rfl, kw1, hk35⟩; have hW37 := hW.trans kw1; have st1 := kw1.stp hW.ok; refine ol_v (e_fa fa_27_0 p5) rfl ?_; refine ol_eN (f_stB hW37 (b5.wk kw1 hW.ok) fs_TrigramIndex_r_0 ty_24 (val_sl hk35) rfl rfl) rfl ?_; rintro - w38 ⟨hW39, ho40, hg2, st2⟩; exact ol_fin hr ⟨Fz33, hW39, g4, g5, v5_1, (h0.keep (st1.trans st2)), (h1.keep (st1.trans st2)), p4, ((h4.wk kw1 hW.ok).mut a4b_5b.symm hg2 st2), p5, ho40, ((h5_1.wk kw1 hW.ok).mut (apart_bo (b5.wk kw1 hW.ok) (h5_1.wk kw1 hW.ok) rfl) hg2 st2), h6, a4b_5b.symm.symm⟩
      refine Ref.seq (B := G6 w0 F0) ?_ ?_
      · refine Ref.region (fun s ρ w s' h hr => ?_); obtain ⟨F, hW, g4, g5, v5_1, h0, h1, p4, h4, p5, b5, h5_1, h6, a4b_5b⟩ := h; refine ol_a rfl ?_; exact ol_fin hr ⟨F, hW, g4, g5, v5_1, h0, h1, p4, h4, p5, b5, h5_1, h6, rfl, a4b_5b⟩
      refine Ref.block ?_; refine Ref.loop ?_; refine Ref.seq (B := G6 w0 F0) ?_ ?_
      · refine Ref.seq (B := G7 w0 F0) ?_ ?_
        · refine Ref.region (fun s ρ w s' h hr => ?_); obtain ⟨F, hW, g4, g5, v5_1, h0, h1, p4, h4, p5, b5, h5_1, h6, h7, a4b_5b⟩ := h; refine ol_m h7 ?_; refine ol_v (e_add rfl rfl) rfl ?_; refine ol_m rfl ?_; refine ol_m h6 ?_; obtain ⟨x41, hx41, hr⟩ := bind_some' hr; obtain ⟨A42, c43, e44, hc45, R46⟩ := id h1; obtain ⟨b47, o48, hA49, L50⟩ := Row.at_ R46 hx41; refine ol_v (e_ix (SlT.sl sl_22) (SlT.sz sl_22) hA49 hx41 e44 rfl) rfl ?_; refine ol_v (e_ld ty_9 (LiesV.str L50.at_) rfl) rfl ?_; refine ol_v (e_lenS (by kernel_rfl) rfl) rfl ?_; refine ol_v (e_leq rfl rfl) rfl ?_; exact ol_fin hr ⟨F, hW, g4, g5, v5_1, h0, h1, p4, h4, p5, b5, h5_1, h6, h7, rfl, a4b_5b⟩
        refine Ref.condP (b := fun s => s.t_30) (L := G6 w0 F0) (K := G3 w0 F0) ?_ ?_ ?_
        · rintro s ρ w ⟨F, hW, g4, g5, v5_1, h0, h1, p4, h4, p5, b5, h5_1, h6, h7, h30, a4b_5b⟩; exact ⟨h30, ⟨F, hW, g4, g5, v5_1, h0, h1, p4, h4, p5, b5, h5_1, h6, h7, a4b_5b⟩, F, hW, g4, g5, v5_1, h0, h1, p4, h4, p5, b5, h5_1, h6, a4b_5b⟩
        · exact Ref.skip
        · exact Ref.exit (fun s ρ w h => h)
      refine Ref.seq (B := G6 w0 F0) ?_ ?_
      · refine Ref.block ?_; refine Ref.regionD 14 (by kernel_rfl) (by kernel_rfl) (fun s ρ w ⟨F, hW, g4, g5, v5_1, h0, h1, p4, h4, p5, b5, h5_1, h6, h7, a4b_5b⟩ => ⟨F, hW.drewS, g4, g5, v5_1, h0.keep (sd hW), h1.keep (sd hW), p4, h4.wk (Wk.drew (row := nrow) hW.ok) hW.ok, p5, b5.wk (Wk.drew (row := nrow) hW.ok) hW.ok, h5_1.wk (Wk.drew (row := nrow) hW.ok) hW.ok, h6, h7, a4b_5b⟩) (fun s ρ w s' h hr => ?_); obtain ⟨F, hW, g4, g5, v5_1, h0, h1, p4, h4, p5, b5, h5_1, h6, h7, a4b_5b⟩ := h; refine ol_v (e_fa fa_27_1 p5) rfl ?_; refine ol_v (e_ld (v := v5_1) tyr_25 (LiesV.raw ((b5).at_.fld fl_TrigramIndex_r_1)) rfl) rfl ?_; refine ol_m rfl ?_; refine ol_m h6 ?_; obtain ⟨x51, hx51, hr⟩ := bind_some' hr; obtain ⟨A52, c53, e54, hc55, R56⟩ := id h1; obtain ⟨b57, o58, hA59, L60⟩ := Row.at_ R56 hx51; refine ol_v (e_ix (SlT.sl sl_22) (SlT.sz sl_22) hA59 hx51 e54 rfl) rfl ?_; refine ol_v (e_ld ty_9 (LiesV.str L60.at_) rfl) rfl ?_; refine ol_m h7 ?_; refine ol_m h7 ?_; refine ol_v (e_add rfl rfl) rfl ?_; obtain ⟨x61, hx61, hr⟩ := bind_some' hr; refine ol_v (e_cutS (by kernel_rfl) rfl rfl rfl hx61) rfl ?_; refine ol_m rfl ?_; refine ol_m h6 ?_; obtain ⟨x62, hx62, hr⟩ := bind_some' hr; obtain ⟨A63, c64, e65, hc66, R67⟩ := id h0; obtain ⟨b68, o69, hA70, L71⟩ := Row.at_ R67 hx62; refine ol_v (e_ix (SlT.sl sl_24) (SlT.sz sl_24) hA70 hx62 e65 rfl) rfl ?_; refine ol_v (e_ld ty_3 (LiesV.int L71.at_) rfl) rfl ?_; obtain ⟨x72, hx72, hr⟩ := bind_some' hr; refine ol_e (f_call [v5_1, .string x61, .int .i64 x62] fn_30 (lcons rfl (lcons rfl (lcons rfl rfl))) (ref4_post.calls hW.ok (OwnV.rebase h5_1 (fun _ _ => trivial)) x61 x62 hx72)) rfl rfl ?_; rintro v75 w73 ⟨Fz74, _, rfl, kw1, hk76⟩; have hB79 := fun g hg => (OwnV.lt h5_1 (g := g) hg).1; have st1 := kw1.stpR hW.ok (fun g hg => (OwnV.lt h5_1 hg).2.1); have hW78 := hW.transR kw1 hB79; refine ol_v (e_fa fa_27_1 p5) rfl ?_; have z2 := b5.wkR (apart_bo b5 h5_1 rfl).symm kw1 st1; refine ol_eN (f_stB (l := kRaw) hW78 z2 fs_TrigramIndex_r_1 tyr_25 (OwnV.raw (hk76.rebase (fun g_ hg_ => (hk76.lt hg_).1.elim (fun h_ => .inl (Nat.le_trans hW.le h_)) (fun h_ => hB79 g_ h_)))) rfl rfl) rfl ?_; rintro - w80 ⟨hW81, ho82, hg2, st2⟩; exact ol_fin hr ⟨Fz74, hW81, g4, g5, v75, (h0.keep (st1.trans st2)), (h1.keep (st1.trans st2)), p4, ((h4.wkR (apart_bo h4 h5_1 rfl).symm kw1 st1).mut a4b_5b.symm hg2 st2), p5, ho82, ((hk76.rebase (fun g_ hg_ => (hk76.lt hg_).1.elim (fun h_ => .inl (Nat.le_trans hW.le h_)) (fun h_ => hB79 g_ h_))).mut (apart_bo z2 (hk76.rebase (fun g_ hg_ => (hk76.lt hg_).1.elim (fun h_ => .inl (Nat.le_trans hW.le h_)) (fun h_ => hB79 g_ h_))) rfl) hg2 st2), h6, h7, a4b_5b.symm.symm⟩
      refine Ref.region (fun s ρ w s' h hr => ?_); obtain ⟨F, hW, g4, g5, v5_1, h0, h1, p4, h4, p5, b5, h5_1, h6, h7, a4b_5b⟩ := h; refine ol_m h7 ?_; refine ol_v (e_add rfl rfl) rfl ?_; refine ol_a rfl ?_; exact ol_fin hr ⟨F, hW, g4, g5, v5_1, h0, h1, p4, h4, p5, b5, h5_1, h6, rfl, a4b_5b⟩
    refine Ref.region (fun s ρ w s' h hr => ?_); obtain ⟨F, hW, g4, g5, v5_1, h0, h1, p4, h4, p5, b5, h5_1, h6, a4b_5b⟩ := h; refine ol_m h6 ?_; refine ol_v (e_add rfl rfl) rfl ?_; refine ol_a rfl ?_; exact ol_fin hr ⟨F, hW, g4, g5, v5_1, h0, h1, p4, h4, p5, b5, h5_1, rfl, a4b_5b⟩
  refine Ref.seq (B := G8 w0 F0) ?_ ?_
  · refine Ref.region (fun s ρ w s' h hr => ?_); obtain ⟨F, hW, g4, g5, v5_1, p4, h4, p5, b5, h5_1, a4b_5b⟩ := h; obtain ⟨v83, hl84⟩ := LiesAt.v (b5).at_; refine ol_v (e_ld tyT_27 hl84 p5) rfl ?_; obtain ⟨Fz85, hWz86, st1, hF1, hz87⟩ := (h5_1).frozen hW; have hb88 : Val k_TrigramIndex Fz85 w v83 (⟨s.x_5.Texts, s.x_5.Postings⟩ : TrigramIndex) := un_TrigramIndex (hl84.val.keep st1) hz87; refine ol_eN (f_stB hWz86 (h4.frz (apart_bo h4 h5_1 rfl).symm hF1 st1) (FldS.whole _) ty_27 hb88 p4 rfl) rfl ?_; rintro - w89 ⟨hW90, ho91, hg2, st2⟩; exact ol_fin hr ⟨Fz85, hW90, g4, p4, ho91⟩
  exact Ref.ret (fun s ρ w h => ⟨s, rfl, h⟩)
def post (w : World) (F : BSet) (r : R) (v : Value) (w' : World) : Prop := ∃ (F' : BSet) (v0' : Value), v = v0' ∧ Wk nrow w F F' w' ∧ Val k_TrigramIndex F' w' v0' r
theorem calls {w : World} {F : BSet} (hok : ∀ b, F b → b < w.heap.size) {v0 : Value} {a0 : (List Int)} (h0 : SlR (kInt .i64) F w v0 a0) {v1 : Value} {a1 : (List ByteArray)} (h1 : SlR kStr F w v1 a1) {r : R} (hf : f a0 a1 = some r) : Calls Try.prog 13 #[v0, v1] w fun e w' => ∃ v, e = .returned v ∧ post w F r v w' := by
  obtain ⟨c, hc, href⟩ := ref w F; refine calls_of_ref (args := [v0, v1]) _ Try.func13 hc rfl rfl href ?_ (retOf_some hf) ?_
  · exact ⟨F, Wk.refl hok, h0, h1⟩
  · rintro ρ w' a ⟨s, rfl, F', hW, g4, p4, h4⟩ hF; obtain ⟨u4, l4, k4⟩ := res_box (P := Try.prog) ty_27 h4; refine ⟨_, run_results (rs := [.cell 4 27]) rfl hF (vs := [u4]) (⟨_, _, _, rfl, p4, l4, rfl⟩), ?_⟩; exact ⟨F', u4, rfl, hW, k4⟩
end
end ref4_IndexOf

namespace law4_numbers
section
def G0 : GT S := fun w0 F0 s ρ w => ∃ F, Wk nrow w0 F0 F w ∧ ρ 0 = .int .i64 s.n_0
def G1 : GT S := fun w0 F0 s ρ w => ∃ F, Wk nrow w0 F0 F w ∧ ρ 0 = .int .i64 s.n_0 ∧ OwnV (kInt .i64) 3 (Bs w0 nrow) F w (ρ 3) s.l_3
def G2 : GT S := fun w0 F0 s ρ w => ∃ F, Wk nrow w0 F0 F w ∧ ρ 0 = .int .i64 s.n_0 ∧ OwnV (kInt .i64) 3 (Bs w0 nrow) F w (ρ 3) s.l_3 ∧ ρ 4 = .int .i64 s.i_4
def G3 : GT S := fun w0 F0 s ρ w => ∃ F, Wk nrow w0 F0 F w ∧ ρ 0 = .int .i64 s.n_0 ∧ OwnV (kInt .i64) 3 (Bs w0 nrow) F w (ρ 3) s.l_3 ∧ ρ 4 = .int .i64 s.i_4 ∧ ρ 7 = .bool s.t_7
def G4 : GT S := fun w0 F0 s ρ w => ∃ F, Wk nrow w0 F0 F w ∧ OwnV (kInt .i64) 3 (Bs w0 nrow) F w (ρ 3) s.l_3
def G5 : GT S := fun w0 F0 s ρ w => ∃ F, Wk nrow w0 F0 F w ∧ OwnV (kInt .i64) 3 (Bs w0 nrow) F w (ρ 2) s.t_2
set_option maxHeartbeats 4000000 in
set_option maxRecDepth 20000 in
theorem ref (w0 : World) (F0 : BSet) : ∃ c, Try.f14.body = some c ∧ Ref Try.prog 15 c (G0 w0 F0) body (fun _ _ _ => False) (fun _ _ _ _ => False) (fun r ρ w => ∃ s, retv s = r ∧ G5 w0 F0 s ρ w) := by
  refine ⟨_, rfl, ?_⟩; unfold body; refine Ref.seq (B := G0 w0 F0) ?_ ?_
  · refine Ref.region (fun s ρ w s' h hr => ?_); obtain ⟨F, hW, h0⟩ := h; refine ol_a rfl ?_; exact ol_fin hr ⟨F, hW, h0⟩
  refine Ref.seq (B := G1 w0 F0) ?_ ?_
  · refine Ref.region (fun s ρ w s' h hr => ?_); obtain ⟨F, hW, h0⟩ := h; refine ol_a rfl ?_; exact ol_fin hr ⟨F, hW, h0, (OwnV.nil (kInt .i64) 3 (Bs w0 nrow) F w)⟩
  refine Ref.seq (B := G4 w0 F0) ?_ ?_
  · refine Ref.seq (B := G2 w0 F0) ?_ ?_
    · refine Ref.region (fun s ρ w s' h hr => ?_); obtain ⟨F, hW, h0, h3⟩ := h; refine ol_a rfl ?_; exact ol_fin hr ⟨F, hW, h0, h3, rfl⟩
    refine Ref.block ?_; refine Ref.loop ?_; refine Ref.seq (B := G2 w0 F0) ?_ ?_
    · refine Ref.seq (B := G3 w0 F0) ?_ ?_
      · refine Ref.region (fun s ρ w s' h hr => ?_); obtain ⟨F, hW, h0, h3, h4⟩ := h; refine ol_m h4 ?_; refine ol_m h0 ?_; refine ol_v (e_lss rfl rfl) rfl ?_; exact ol_fin hr ⟨F, hW, h0, h3, h4, rfl⟩
      refine Ref.condP (b := fun s => s.t_7) (L := G2 w0 F0) (K := G4 w0 F0) ?_ ?_ ?_
      · rintro s ρ w ⟨F, hW, h0, h3, h4, h7⟩; exact ⟨h7, ⟨F, hW, h0, h3, h4⟩, F, hW, h3⟩
      · exact Ref.skip
      · exact Ref.exit (fun s ρ w h => h)
    refine Ref.seq (B := G2 w0 F0) ?_ ?_
    · refine Ref.block ?_; refine Ref.region (fun s ρ w s' h hr => ?_); obtain ⟨F, hW, h0, h3, h4⟩ := h; refine ol_m rfl ?_; refine ol_m h4 ?_; refine ol_e (f_bslF sl_24 hW ([s.i_4] : List Int) [.int .i64 s.i_4] (by exact ⟨_, _, rfl, (val_int _ _), rfl⟩) rfl (Nat.le_of_ble_eq_true rfl) (lcons (congrArg (Prod.mk 0) rfl) rfl)) rfl rfl ?_; rintro v1 w2 ⟨Fz4, kw1, ho3⟩; have hW5 := hW.trans kw1; have st1 := kw1.stp hW.ok; obtain ⟨x6, hx6, hr⟩ := bind_some' hr; refine ol_e (f_app sl_24 hW5 (h3.wk kw1 hW.ok) ho3 hx6 rfl rfl) rfl rfl ?_; rintro v7 w8 ⟨hW9, ho10, hg2, st2, hor11⟩; refine ol_a rfl ?_; exact ol_fin hr ⟨Fz4, hW9, h0, ho10, h4⟩
    refine Ref.region (fun s ρ w s' h hr => ?_); obtain ⟨F, hW, h0, h3, h4⟩ := h; refine ol_m h4 ?_; refine ol_v (e_add rfl rfl) rfl ?_; refine ol_a rfl ?_; exact ol_fin hr ⟨F, hW, h0, h3, rfl⟩
  refine Ref.seq (B := G5 w0 F0) ?_ ?_
  · refine Ref.region (fun s ρ w s' h hr => ?_); obtain ⟨F, hW, h3⟩ := h; refine ol_m rfl ?_; refine ol_a rfl ?_; exact ol_fin hr ⟨F, hW, h3⟩
  exact Ref.ret (fun s ρ w h => ⟨s, rfl, h⟩)
def post (w : World) (F : BSet) (r : R) (v : Value) (w' : World) : Prop := ∃ (F' : BSet) (v0' : Value), v = v0' ∧ Wk nrow w F F' w' ∧ OwnV (kInt .i64) 3 (Nw w) F' w' v0' r
theorem calls {w : World} {F : BSet} (hok : ∀ b, F b → b < w.heap.size) (a0 : Int) {r : R} (hf : f a0 = some r) : Calls Try.prog 14 #[.int .i64 a0] w fun e w' => ∃ v, e = .returned v ∧ post w F r v w' := by
  obtain ⟨c, hc, href⟩ := ref w F; refine calls_of_ref (args := [.int .i64 a0]) _ Try.func14 hc rfl rfl href ?_ (retOf_some hf) ?_
  · exact ⟨F, Wk.refl hok, rfl⟩
  · rintro ρ w' a ⟨s, rfl, F', hW, h2⟩ hF; refine ⟨_, run_results (rs := [.tmp 2]) rfl hF (vs := [ρ 2]) (⟨_, rfl, rfl⟩), ?_⟩; exact ⟨F', ρ 2, rfl, hW, h2.rebase (fun g hg => (h2.lt hg).1.resolve_right (fun h => h))⟩
end
end law4_numbers

namespace law4_TrigramIndexMatchesSpec
section
abbrev c3 (ρ : Env) (g3 g4 : Nat) (w0 w : World) (F : BSet) (s : S) (X : Prop) : Prop := ρ 3 = .pointer (some ⟨g3, 0, none⟩) ∧ Box k_TrigramIndex 27 (Bs w0 nrow) F w g3 s.x_3 ∧ ρ 4 = .pointer (some ⟨g4, 0, none⟩) ∧ Box k_Fault 29 (Bs w0 nrow) F w g4 s.f_4 ∧ X
abbrev c4 (ρ : Env) (g5 : Nat) (w0 w : World) (F : BSet) (s : S) (X : Prop) : Prop := ρ 5 = .pointer (some ⟨g5, 0, none⟩) ∧ Box k_Fault 29 (Bs w0 nrow) F w g5 s.w_5 ∧ X
def G0 : GT S := fun w0 F0 s ρ w => ∃ F, Wk nrow w0 F0 F w ∧ SlR kStr F w (ρ 0) s.texts_0
def G1 : GT S := fun w0 F0 s ρ w => ∃ F, Wk nrow w0 F0 F w ∧ SlR kStr F w (ρ 0) s.texts_0 ∧ ρ 7 = .bool s.t_7
def G2 : GT S := fun w0 F0 s ρ w => ∃ F, Wk nrow w0 F0 F w
def G3 : GT S := fun w0 F0 s ρ w => ∃ F, Wk nrow w0 F0 F w ∧ ρ 2 = .bool s.t_2
def G4 : GT S := fun w0 F0 s ρ w => ∃ F, Wk nrow w0 F0 F w ∧ ∃ g3 g4, SlR kStr F w (ρ 0) s.texts_0 ∧ ρ 3 = .pointer (some ⟨g3, 0, none⟩) ∧ Box k_TrigramIndex 27 (Bs w0 nrow) F w g3 s.x_3 ∧ ρ 4 = .pointer (some ⟨g4, 0, none⟩) ∧ Box k_Fault 29 (Bs w0 nrow) F w g4 s.f_4
def G5 : GT S := fun w0 F0 s ρ w => ∃ F, Wk nrow w0 F0 F w ∧ ∃ g3 g4 g5, SlR kStr F w (ρ 0) s.texts_0 ∧ c3 ρ g3 g4 w0 w F s (c4 ρ g5 w0 w F s (Apart (some g4) (some g5)))
def G6 : GT S := fun w0 F0 s ρ w => ∃ F, Wk nrow w0 F0 F w ∧ ∃ g3 g4 g5, SlR kStr F w (ρ 0) s.texts_0 ∧ c3 ρ g3 g4 w0 w F s (c4 ρ g5 w0 w F s (ρ 17 = .bool s.t_17 ∧ Apart (some g4) (some g5)))
def G7 : GT S := fun w0 F0 s ρ w => ∃ F, Wk nrow w0 F0 F w ∧ ∃ g3 g4 g5, c3 ρ g3 g4 w0 w F s (c4 ρ g5 w0 w F s (Apart (some g4) (some g5)))
set_option maxHeartbeats 4000000 in
set_option maxRecDepth 20000 in
theorem ref (w0 : World) (F0 : BSet) : ∃ c, Try.f3.body = some c ∧ Ref Try.prog 44 c (G0 w0 F0) body (fun _ _ _ => False) (fun _ _ _ _ => False) (fun r ρ w => ∃ s, retv s = r ∧ G3 w0 F0 s ρ w) := by
  refine ⟨_, rfl, ?_⟩; unfold body; refine Ref.seq (B := G0 w0 F0) ?_ ?_
  · refine Ref.region (fun s ρ w s' h hr => ?_); obtain ⟨F, hW, h0⟩ := h; refine ol_a rfl ?_; exact ol_fin hr ⟨F, hW, h0⟩
  refine Ref.seq (B := G0 w0 F0) ?_ ?_
  · refine Ref.seq (B := G1 w0 F0) ?_ ?_
    · refine Ref.region (fun s ρ w s' h hr => ?_); obtain ⟨F, hW, h0⟩ := h; obtain ⟨x1, hx1, hr⟩ := bind_some' hr; refine ol_e (f_call [] fn_9 rfl (law4_trigramExample.calls hW.ok  hx1)) rfl rfl ?_; rintro _ w2 ⟨Fz3, rfl, kw1⟩; have hW5 := hW.trans kw1; have st1 := kw1.stp hW.ok; refine ol_v (e_not_ rfl) rfl ?_; exact ol_fin hr ⟨Fz3, hW5, (h0.keep st1), rfl⟩
    refine Ref.condP (b := fun s => s.t_7) (L := G2 w0 F0) (K := G0 w0 F0) ?_ ?_ ?_
    · rintro s ρ w ⟨F, hW, h0, h7⟩; exact ⟨h7, ⟨F, hW⟩, F, hW, h0⟩
    · refine Ref.seq (B := G3 w0 F0) ?_ ?_
      · refine Ref.region (fun s ρ w s' h hr => ?_); obtain ⟨F, hW⟩ := h; refine ol_a rfl ?_; exact ol_fin hr ⟨F, hW, rfl⟩
      exact Ref.ret (fun s ρ w h => ⟨s, rfl, h⟩)
    · exact Ref.skip
  refine Ref.seq (B := G4 w0 F0) ?_ ?_
  · refine Ref.region (fun s ρ w s' h hr => ?_); obtain ⟨F, hW, h0⟩ := h; refine ol_m rfl ?_; obtain ⟨x6, hx6, hr⟩ := bind_some' hr; refine ol_e (f_call [(ρ 0)] fn_10 (lcons rfl rfl) (trigram_Index.calls hW.ok h0 hx6)) rfl rfl ?_; rintro _ w7 ⟨Fz8, v9, v11, rfl, kw1, hk10, hk12⟩; have hW14 := hW.trans kw1; have st1 := kw1.stp hW.ok; refine ol_m rfl ?_; refine ol_v (e_ext _ rfl rfl) rfl ?_; refine ol_v (e_ext _ rfl rfl) rfl ?_; refine ol_e (f_alloc zer_27 hW14) rfl rfl ?_; rintro _ w16 ⟨g15, rfl, kw2, ho17⟩; have hW18 := hW14.trans kw2; have st2 := kw2.stp hW14.ok; refine ol_e (f_alloc zer_29 hW18) rfl rfl ?_; rintro _ w20 ⟨g19, rfl, kw3, ho21⟩; have hW22 := hW18.trans kw3; have st3 := kw3.stp hW18.ok; refine ol_eN (f_stB hW22 ((ho17.base (row := nrow) hW14.le).wk kw3 hW18.ok) (FldS.whole _) ty_27 (hk10.keep (st2.trans st3)) rfl rfl) rfl ?_; rintro - w23 ⟨hW24, ho25, hg4, st4⟩; refine ol_eN (f_stB hW24 ((ho21.base (row := nrow) hW18.le).mut (apart_bb ((ho17.base (row := nrow) hW14.le).wk kw3 hW18.ok) (ho21.base (row := nrow) hW18.le) rfl) hg4 st4) (FldS.whole _) ty_29 (hk12.keep (st2.trans (st3.trans st4))) rfl rfl) rfl ?_; rintro - w26 ⟨hW27, ho28, hg5, st5⟩; exact ol_fin hr ⟨Fz8, hW27, g15, g19, (h0.keep (st1.trans (st2.trans (st3.trans (st4.trans st5))))), rfl, (ho25.mut (apart_bb ((ho21.base (row := nrow) hW18.le).mut (apart_bb ((ho17.base (row := nrow) hW14.le).wk kw3 hW18.ok) (ho21.base (row := nrow) hW18.le) rfl) hg4 st4) ho25 rfl) hg5 st5), rfl, ho28⟩
  refine Ref.seq (B := G4 w0 F0) ?_ ?_
  · refine Ref.seq (B := G5 w0 F0) ?_ ?_
    · refine Ref.region (fun s ρ w s' h hr => ?_); obtain ⟨F, hW, g3, g4, h0, p3, h3, p4, h4⟩ := h; refine ol_m rfl ?_; obtain ⟨x29, hx29, hr⟩ := bind_some' hr; refine ol_e (f_call [(ρ 0)] fn_11 (lcons rfl rfl) (law4_textsFault.calls hW.ok h0 hx29)) rfl rfl ?_; rintro v32 w30 ⟨Fz31, _, rfl, kw1, hk33⟩; have hW35 := hW.trans kw1; have st1 := kw1.stp hW.ok; refine ol_e (f_alloc zer_29 hW35) rfl rfl ?_; rintro _ w37 ⟨g36, rfl, kw2, ho38⟩; have hW39 := hW35.trans kw2; have st2 := kw2.stp hW35.ok; refine ol_eN (f_stB hW39 (ho38.base (row := nrow) hW35.le) (FldS.whole _) ty_29 (hk33.keep st2) rfl rfl) rfl ?_; rintro - w40 ⟨hW41, ho42, hg3, st3⟩; have z1 := (h3.wk kw1 hW.ok).wk kw2 hW35.ok; have z2 := h4.wk kw1 hW.ok; exact ol_fin hr ⟨Fz31, hW41, g3, g4, g36, (h0.keep (st1.trans (st2.trans st3))), p3, (z1.mut (apart_bb (ho38.base (row := nrow) hW35.le) z1 rfl) hg3 st3), p4, ((z2.wk kw2 hW35.ok).mut (Apart.base (fun _ e_ => by cases e_; exact ho38.ge) z2.ltw) hg3 st3), rfl, ho42, (Apart.base (fun _ e_ => by cases e_; exact ho38.ge) z2.ltw).symm⟩
    refine Ref.seq (B := G6 w0 F0) ?_ ?_
    · refine Ref.region (fun s ρ w s' h hr => ?_); obtain ⟨F, hW, g3, g4, g5, h0, p3, h3, p4, h4, p5, h5, a4b_5b⟩ := h; refine ol_v (e_fa fa_29_0 p5) rfl ?_; refine ol_v (e_ld ty_3 (LiesV.int ((h5).at_.fld fl_Fault_0)) rfl) rfl ?_; refine ol_v (e_neq rfl rfl) rfl ?_; exact ol_fin hr ⟨F, hW, g3, g4, g5, h0, p3, h3, p4, h4, p5, h5, rfl, a4b_5b⟩
    refine Ref.condP (b := fun s => s.t_17) (L := G7 w0 F0) (K := G4 w0 F0) ?_ ?_ ?_
    · rintro s ρ w ⟨F, hW, g3, g4, g5, h0, p3, h3, p4, h4, p5, h5, h17, a4b_5b⟩; exact ⟨h17, ⟨F, hW, g3, g4, g5, p3, h3, p4, h4, p5, h5, a4b_5b⟩, F, hW, g3, g4, h0, p3, h3, p4, h4⟩
    · refine Ref.seq (B := G3 w0 F0) ?_ ?_
      · refine Ref.region (fun s ρ w s' h hr => ?_); obtain ⟨F, hW, g3, g4, g5, p3, h3, p4, h4, p5, h5, a4b_5b⟩ := h; obtain ⟨v43, hl44⟩ := LiesAt.v (h4).at_; refine ol_v (e_ld ty_29 hl44 p4) rfl ?_; obtain ⟨v45, hl46⟩ := LiesAt.v (h5).at_; refine ol_v (e_ld ty_29 hl46 p5) rfl ?_; refine ol_v (e_teql (eq_Fault_29 hl44.val hl46.val) rfl rfl) rfl ?_; obtain ⟨x57, hx58, hr⟩ := bind_some' hr; refine ol_cutA 5 21 25 (fun ρ' w' => ∃ F', Wk nrow w F F' w' ∧ ρ' 25 = .bool x57) rfl ?_ ?_
        · by_cases hb47 : (decide (s.f_4 = s.w_5)) = true
          · have hr := hx58; rw [if_pos hb47] at hr; refine ol_m rfl ?_; refine ol_yes rfl rfl (congrArg Value.bool hb47) ?_; obtain ⟨v49, hl50⟩ := LiesAt.v (h3).at_; refine ol_v (e_ld ty_27 hl50 p3) rfl ?_; refine ol_yes rfl rfl (congrArg Value.bool hb47) ?_; refine ol_v (e_bld (cells := #[.slice none 0 0, (Value.slice none 0 0)]) bld_27 (vs := []) rfl rfl) rfl ?_; have hb51 : Val k_TrigramIndex_r F w (.agg #[.slice none 0 0, (Value.slice none 0 0)]) (⟨[], (Value.slice none 0 0)⟩ : TrigramIndex_r) := mk_TrigramIndex_r (val_sl (SlR.nil _ _ _)) (OwnV.raw (OwnV.nil k_Posting 55 (Bs w0 nrow) F w)); refine ol_yes rfl rfl (congrArg Value.bool hb47) ?_; obtain ⟨x52, hx52, hr⟩ := bind_some' hr; refine ol_e (f_call [v49, .agg #[.slice none 0 0, (Value.slice none 0 0)]] fn_12 (lcons rfl (lcons rfl rfl)) (ref4_Indexes.calls hW.ok hl50.val (un_TrigramIndex hb51 (SlR.nil _ _ _)) hx52)) rfl rfl ?_; rintro _ w53 ⟨Fz54, rfl, kw1⟩; have hW56 := hW.trans kw1; have st1 := kw1.stp hW.ok; refine ol_v (e_pick true _ (congrArg Value.bool hb47) rfl) rfl ?_; exact ol_nil ⟨⟨_, kw1, (congrArg Value.bool (Option.some.inj hr))⟩, (Agr.refl _ _ _).u.u.u.u.u⟩
          · have hb48 := Bool.eq_false_iff.mpr hb47; have hr := hx58; rw [if_neg hb47] at hr; refine ol_m rfl ?_; refine ol_not rfl rfl rfl (congrArg Value.bool hb48) rfl ?_; refine ol_not rfl rfl rfl (congrArg Value.bool hb48) rfl ?_; refine ol_not rfl rfl rfl (congrArg Value.bool hb48) rfl ?_; refine ol_v (e_pick false _ (congrArg Value.bool hb48) rfl) rfl ?_; exact ol_nil ⟨⟨_, Wk.refl hW.ok, (congrArg Value.bool (Option.some.inj hr))⟩, (Agr.refl _ _ _).u.u.u.u.u⟩
        rintro ρ58 w59 ⟨⟨Fz60, kw1, hp58⟩, hAg58⟩; have hW61 := hW.trans kw1; have st1 := kw1.stp hW.ok; refine ol_a hp58 ?_; exact ol_fin hr ⟨Fz60, hW61, rfl⟩
      exact Ref.ret (fun s ρ w h => ⟨s, rfl, h⟩)
    · exact Ref.skip
  refine Ref.seq (B := G3 w0 F0) ?_ ?_
  · refine Ref.regionH (by kernel_rfl) (fun s ρ w ⟨F, hW, g3, g4, h0, p3, h3, p4, h4⟩ => ⟨F, hW.drewS, g3, g4, h0.keep (sd hW), p3, h3.wk (Wk.drew (row := nrow) hW.ok) hW.ok, p4, h4.wk (Wk.drew (row := nrow) hW.ok) hW.ok⟩) (fun s ρ w s' h hr => ?_); obtain ⟨F, hW, g3, g4, h0, p3, h3, p4, h4⟩ := h; refine ⟨fun w' => Stp F w F w' ∧ w'.heap[g3]? = w.heap[g3]? ∧ w'.heap[g4]? = w.heap[g4]?, ?_⟩; refine oh_v 0 rfl (by kernel_rfl) (by kernel_rfl) (by kernel_rfl) ⟨(Stp.refl _ _), rfl, rfl⟩ (fun wv_ SV => e_fa fa_29_0 p4) rfl ?_; refine oh_v 1 rfl (by kernel_rfl) (by kernel_rfl) (by kernel_rfl) ⟨(Stp.refl _ _), rfl, rfl⟩ (fun wv_ SV => e_ld ty_3 ((LiesV.int ((h4).at_.fld fl_Fault_0)).same SV.1 SV.2.2) rfl) rfl ?_; refine oh_v 2 rfl (by kernel_rfl) (by kernel_rfl) (by kernel_rfl) ⟨(Stp.refl _ _), rfl, rfl⟩ (fun wv_ SV => e_eql rfl rfl) rfl ?_; refine oh_v 3 rfl (by kernel_rfl) (by kernel_rfl) (by kernel_rfl) ⟨(Stp.refl _ _), rfl, rfl⟩ (fun wv_ SV => e_mv _ rfl) rfl ?_
    by_cases hb62 : (decide (s.f_4.Code = (0 : Int))) = true
    · replace hr := ite_T hb62 hr
      obtain ⟨v63, hl64⟩ := LiesAt.v (h3).at_; refine oh_vG 4 rfl (by kernel_rfl) (by kernel_rfl) (by kernel_rfl) ⟨(Stp.refl _ _), rfl, rfl⟩ rfl rfl (congrArg Value.bool hb62) (fun wv_ SV => e_ld ty_27 (hl64.same SV.1 SV.2.1) p3) rfl ?_; refine oh_vG 5 rfl (by kernel_rfl) (by kernel_rfl) (by kernel_rfl) ⟨(Stp.refl _ _), rfl, rfl⟩ rfl rfl (congrArg Value.bool hb62) (fun wv_ SV => e_mv _ rfl) rfl ?_; obtain ⟨A65, c66, e67, hc68, R69⟩ := id h0; refine oh_vG 6 rfl (by kernel_rfl) (by kernel_rfl) (by kernel_rfl) ⟨(Stp.refl _ _), rfl, rfl⟩ rfl rfl (congrArg Value.bool hb62) (fun wv_ SV => e_len (SlT.sl sl_22) e67) rfl ?_; refine oh_vG 8 rfl (by kernel_rfl) (by kernel_rfl) (by kernel_rfl) ⟨(Stp.refl _ _), rfl, rfl⟩ rfl rfl (congrArg Value.bool hb62) (fun wv_ SV => e_mv _ rfl) rfl ?_; refine oh_all [7] (by kernel_rfl) rfl ⟨?_, trivial⟩
      · obtain ⟨x70, hx70, hr⟩ := bind_some' hr; refine oh1_eG rfl rfl rfl (congrArg Value.bool hb62) (f_call [.int .i64 (s.texts_0.length : Int)] fn_14 (lcons rfl rfl) (law4_numbers.calls hW.ok (s.texts_0.length : Int) hx70)) rfl ?_; rintro v73 w71 ⟨Fz72, _, rfl, kw1, hk74⟩; have hW76 := hW.trans kw1; have st1 := kw1.stp hW.ok; have hh1_3 : w71.heap[g3]? = w.heap[g3]? := (h3.hpw kw1); have hh1_4 : w71.heap[g4]? = w.heap[g4]? := (h4.hpw kw1); refine ⟨⟨(Stp.back st1), hh1_3, hh1_4⟩, ?_⟩; refine oh_all [9] (by kernel_rfl) rfl ⟨?_, trivial⟩
        · obtain ⟨Fz77, hWz78, st2, hF2, hz79⟩ := ((hk74.base (row := nrow) hW.le)).frozen hW76; obtain ⟨x80, hx80, hr⟩ := bind_some' hr; refine oh1_eG rfl rfl rfl (congrArg Value.bool hb62) (f_call [v73, (ρ 0)] fn_13 (lcons rfl (lcons rfl rfl)) (ref4_IndexOf.calls hWz78.ok hz79 (h0.keep (st1.trans st2)) hx80)) rfl ?_; rintro v83 w81 ⟨Fz82, _, rfl, kw3, hk84⟩; have hW86 := hWz78.trans kw3; have st3 := kw3.stp hWz78.ok; have hh3_3 : w81.heap[g3]? = w.heap[g3]? := ((((h3.wk kw1 hW.ok).frz (apart_bo (h3.wk kw1 hW.ok) (hk74.base (row := nrow) hW.le) rfl).symm hF2 st2).hpw kw3).trans hh1_3); have hh3_4 : w81.heap[g4]? = w.heap[g4]? := ((((h4.wk kw1 hW.ok).frz (apart_bo (h4.wk kw1 hW.ok) (hk74.base (row := nrow) hW.le) rfl).symm hF2 st2).hpw kw3).trans hh1_4); refine ⟨⟨(Stp.back (st1.trans (st2.trans st3))), hh3_3, hh3_4⟩, ?_⟩; refine oh_all [10] (by kernel_rfl) rfl ⟨?_, trivial⟩
          · obtain ⟨x87, hx87, hr⟩ := bind_some' hr; refine oh1_eG rfl rfl rfl (congrArg Value.bool hb62) (f_call [v63, v83] fn_12 (lcons rfl (lcons rfl rfl)) (ref4_Indexes.calls hW86.ok (hl64.val.keep (st1.trans (st2.trans st3))) hk84 hx87)) rfl ?_; rintro _ w88 ⟨Fz89, rfl, kw4⟩; have hW91 := hW86.trans kw4; have st4 := kw4.stp hW86.ok; have hh4_3 : w88.heap[g3]? = w.heap[g3]? := (((((h3.wk kw1 hW.ok).frz (apart_bo (h3.wk kw1 hW.ok) (hk74.base (row := nrow) hW.le) rfl).symm hF2 st2).wk kw3 hWz78.ok).hpw kw4).trans hh3_3); have hh4_4 : w88.heap[g4]? = w.heap[g4]? := (((((h4.wk kw1 hW.ok).frz (apart_bo (h4.wk kw1 hW.ok) (hk74.base (row := nrow) hW.le) rfl).symm hF2 st2).wk kw3 hWz78.ok).hpw kw4).trans hh3_4); refine ⟨⟨(Stp.back (st1.trans (st2.trans (st3.trans st4)))), hh4_3, hh4_4⟩, ?_⟩; refine oh_v 11 rfl (by kernel_rfl) (by kernel_rfl) (by kernel_rfl) ⟨(Stp.back (st1.trans (st2.trans (st3.trans st4)))), hh4_3, hh4_4⟩ (fun wv_ SV => e_pick true _ (congrArg Value.bool hb62) rfl) rfl ?_; refine oh_v 12 rfl (by kernel_rfl) (by kernel_rfl) (by kernel_rfl) ⟨(Stp.back (st1.trans (st2.trans (st3.trans st4)))), hh4_3, hh4_4⟩ (fun wv_ SV => e_mv _ rfl) rfl ?_
            by_cases hb92 : x87 = true
            · replace hr := ite_T hb92 hr
              obtain ⟨v93, hl94⟩ := LiesAt.v (h3).at_; refine oh_vG 13 rfl (by kernel_rfl) (by kernel_rfl) (by kernel_rfl) ⟨(Stp.back (st1.trans (st2.trans (st3.trans st4)))), hh4_3, hh4_4⟩ rfl rfl (congrArg Value.bool hb92) (fun wv_ SV => e_ld ty_27 (hl94.same SV.1 SV.2.1) p3) rfl ?_; refine oh_all [14] (by kernel_rfl) rfl ⟨?_, trivial⟩
              · obtain ⟨x95, hx95, hr⟩ := bind_some' hr; refine oh1_eG rfl rfl rfl (congrArg Value.bool hb92) (f_call [v93] fn_15 (lcons rfl rfl) (trigram_Validate.calls hW91.ok (hl94.val.keep (st1.trans (st2.trans (st3.trans st4)))) hx95)) rfl ?_; rintro v98 w96 ⟨Fz97, _, rfl, kw5, hk99⟩; have hW101 := hW91.trans kw5; have st5 := kw5.stp hW91.ok; have hh5_3 : w96.heap[g3]? = w.heap[g3]? := ((((((h3.wk kw1 hW.ok).frz (apart_bo (h3.wk kw1 hW.ok) (hk74.base (row := nrow) hW.le) rfl).symm hF2 st2).wk kw3 hWz78.ok).wk kw4 hW86.ok).hpw kw5).trans hh4_3); have hh5_4 : w96.heap[g4]? = w.heap[g4]? := ((((((h4.wk kw1 hW.ok).frz (apart_bo (h4.wk kw1 hW.ok) (hk74.base (row := nrow) hW.le) rfl).symm hF2 st2).wk kw3 hWz78.ok).wk kw4 hW86.ok).hpw kw5).trans hh4_4); refine ⟨⟨(Stp.back (st1.trans (st2.trans (st3.trans (st4.trans st5))))), hh5_3, hh5_4⟩, ?_⟩; refine oh_all [15] (by kernel_rfl) rfl ⟨?_, trivial⟩
                · refine oh1_vG rfl rfl rfl (congrArg Value.bool hb92) (e_field_int (by kernel_rfl) ty_3 fl_Fault_0 rfl hk99 rfl) rfl ?_; refine ⟨⟨(Stp.back (st1.trans (st2.trans (st3.trans (st4.trans st5))))), hh5_3, hh5_4⟩, ?_⟩; refine oh_vG 16 rfl (by kernel_rfl) (by kernel_rfl) (by kernel_rfl) ⟨(Stp.back (st1.trans (st2.trans (st3.trans (st4.trans st5))))), hh5_3, hh5_4⟩ rfl rfl (congrArg Value.bool hb92) (fun wv_ SV => e_eql rfl rfl) rfl ?_; refine oh_v 17 rfl (by kernel_rfl) (by kernel_rfl) (by kernel_rfl) ⟨(Stp.back (st1.trans (st2.trans (st3.trans (st4.trans st5))))), hh5_3, hh5_4⟩ (fun wv_ SV => e_pick true _ (congrArg Value.bool hb92) rfl) rfl ?_; refine oh_v 18 rfl (by kernel_rfl) (by kernel_rfl) (by kernel_rfl) ⟨(Stp.back (st1.trans (st2.trans (st3.trans (st4.trans st5))))), hh5_3, hh5_4⟩ (fun wv_ SV => e_as _ rfl) rfl ?_; obtain rfl := Option.some.inj hr; exact oh_done (by kernel_rfl) ⟨Fz97, hW101, rfl⟩
            · have hb102 := Bool.eq_false_iff.mpr hb92
              replace hr := ite_N hb92 hr
              refine oh_not 13 rfl (by kernel_rfl) (by kernel_rfl) (by kernel_rfl) ⟨(Stp.back (st1.trans (st2.trans (st3.trans st4)))), hh4_3, hh4_4⟩ rfl rfl (congrArg Value.bool hb102) rfl rfl ?_; refine oh_not 14 rfl (by kernel_rfl) (by kernel_rfl) (by kernel_rfl) ⟨(Stp.back (st1.trans (st2.trans (st3.trans st4)))), hh4_3, hh4_4⟩ rfl rfl (congrArg Value.bool hb102) rfl rfl ?_; refine oh_not 15 rfl (by kernel_rfl) (by kernel_rfl) (by kernel_rfl) ⟨(Stp.back (st1.trans (st2.trans (st3.trans st4)))), hh4_3, hh4_4⟩ rfl rfl (congrArg Value.bool hb102) rfl rfl ?_; refine oh_not 16 rfl (by kernel_rfl) (by kernel_rfl) (by kernel_rfl) ⟨(Stp.back (st1.trans (st2.trans (st3.trans st4)))), hh4_3, hh4_4⟩ rfl rfl (congrArg Value.bool hb102) rfl rfl ?_; refine oh_v 17 rfl (by kernel_rfl) (by kernel_rfl) (by kernel_rfl) ⟨(Stp.back (st1.trans (st2.trans (st3.trans st4)))), hh4_3, hh4_4⟩ (fun wv_ SV => e_pick false _ (congrArg Value.bool hb102) rfl) rfl ?_; refine oh_v 18 rfl (by kernel_rfl) (by kernel_rfl) (by kernel_rfl) ⟨(Stp.back (st1.trans (st2.trans (st3.trans st4)))), hh4_3, hh4_4⟩ (fun wv_ SV => e_as _ rfl) rfl ?_; obtain rfl := Option.some.inj hr; exact oh_done (by kernel_rfl) ⟨Fz89, hW91, rfl⟩
    · have hb103 := Bool.eq_false_iff.mpr hb62
      replace hr := ite_N hb62 hr
      refine oh_not 4 rfl (by kernel_rfl) (by kernel_rfl) (by kernel_rfl) ⟨(Stp.refl _ _), rfl, rfl⟩ rfl rfl (congrArg Value.bool hb103) rfl rfl ?_; refine oh_not 5 rfl (by kernel_rfl) (by kernel_rfl) (by kernel_rfl) ⟨(Stp.refl _ _), rfl, rfl⟩ rfl rfl (congrArg Value.bool hb103) rfl rfl ?_; refine oh_not 6 rfl (by kernel_rfl) (by kernel_rfl) (by kernel_rfl) ⟨(Stp.refl _ _), rfl, rfl⟩ rfl rfl (congrArg Value.bool hb103) rfl rfl ?_; refine oh_not 7 rfl (by kernel_rfl) (by kernel_rfl) (by kernel_rfl) ⟨(Stp.refl _ _), rfl, rfl⟩ rfl rfl (congrArg Value.bool hb103) rfl rfl ?_; refine oh_not 8 rfl (by kernel_rfl) (by kernel_rfl) (by kernel_rfl) ⟨(Stp.refl _ _), rfl, rfl⟩ rfl rfl (congrArg Value.bool hb103) rfl rfl ?_; refine oh_not 9 rfl (by kernel_rfl) (by kernel_rfl) (by kernel_rfl) ⟨(Stp.refl _ _), rfl, rfl⟩ rfl rfl (congrArg Value.bool hb103) rfl rfl ?_; refine oh_not 10 rfl (by kernel_rfl) (by kernel_rfl) (by kernel_rfl) ⟨(Stp.refl _ _), rfl, rfl⟩ rfl rfl (congrArg Value.bool hb103) rfl rfl ?_; refine oh_v 11 rfl (by kernel_rfl) (by kernel_rfl) (by kernel_rfl) ⟨(Stp.refl _ _), rfl, rfl⟩ (fun wv_ SV => e_pick false _ (congrArg Value.bool hb103) rfl) rfl ?_; refine oh_v 12 rfl (by kernel_rfl) (by kernel_rfl) (by kernel_rfl) ⟨(Stp.refl _ _), rfl, rfl⟩ (fun wv_ SV => e_mv _ rfl) rfl ?_; refine oh_not 13 rfl (by kernel_rfl) (by kernel_rfl) (by kernel_rfl) ⟨(Stp.refl _ _), rfl, rfl⟩ rfl rfl rfl rfl rfl ?_; refine oh_not 14 rfl (by kernel_rfl) (by kernel_rfl) (by kernel_rfl) ⟨(Stp.refl _ _), rfl, rfl⟩ rfl rfl rfl rfl rfl ?_; refine oh_not 15 rfl (by kernel_rfl) (by kernel_rfl) (by kernel_rfl) ⟨(Stp.refl _ _), rfl, rfl⟩ rfl rfl rfl rfl rfl ?_; refine oh_not 16 rfl (by kernel_rfl) (by kernel_rfl) (by kernel_rfl) ⟨(Stp.refl _ _), rfl, rfl⟩ rfl rfl rfl rfl rfl ?_; refine oh_v 17 rfl (by kernel_rfl) (by kernel_rfl) (by kernel_rfl) ⟨(Stp.refl _ _), rfl, rfl⟩ (fun wv_ SV => e_pick false _ rfl rfl) rfl ?_; refine oh_v 18 rfl (by kernel_rfl) (by kernel_rfl) (by kernel_rfl) ⟨(Stp.refl _ _), rfl, rfl⟩ (fun wv_ SV => e_as _ rfl) rfl ?_; obtain rfl := Option.some.inj hr; exact oh_done (by kernel_rfl) ⟨F, hW, rfl⟩
  exact Ref.ret (fun s ρ w h => ⟨s, rfl, h⟩)
def post (w : World) (F : BSet) (r : R) (v : Value) (w' : World) : Prop := ∃ (F' : BSet), v = .bool r ∧ Wk nrow w F F' w'
theorem calls {w : World} {F : BSet} (hok : ∀ b, F b → b < w.heap.size) {v0 : Value} {a0 : (List ByteArray)} (h0 : SlR kStr F w v0 a0) {r : R} (hf : f a0 = some r) : Calls Try.prog 3 #[v0] w fun e w' => ∃ v, e = .returned v ∧ post w F r v w' := by
  obtain ⟨c, hc, href⟩ := ref w F; refine calls_of_ref (args := [v0]) _ Try.func3 hc rfl rfl href ?_ (retOf_some hf) ?_
  · exact ⟨F, Wk.refl hok, h0⟩
  · rintro ρ w' a ⟨s, rfl, F', hW, h2⟩ hF; refine ⟨_, run_results (rs := [.tmp 2]) rfl hF (vs := [ρ 2]) (⟨_, rfl, rfl⟩), ?_⟩; have hv : resVal [ρ 2] = .bool s.t_2 := by rw [h2]; rfl
    exact ⟨F', hv, hW⟩
end
end law4_TrigramIndexMatchesSpec

end Go.Proofs.Ytoiafcpnhhplnaa
