/- The machine's calls come to these plain functions (written by a program, wip/fx/gen.py). -/
import Derived.Test.YtenkbkcddcnmeaaDoorPA
import Derived.Test.YtenkbkcddcnmeaaDoorNm
import Derived.Test.YtenkbkcddcnmeaaDoorM5
import Derived.Test.YtenkbkcddcnmeaaDoorM8
import Derived.Test.YtenkbkcddcnmeaaDoorSl
import Derived.Test.YtenkbkcddcnmeaaDoorIn
import Derived.Test.YtenkbkcddcnmeaaDoorIt
import Derived.Test.YtenkbkcddcnmeaaDoorFx17
namespace Go.Proofs.YtenkbkcddcnmeaaDoor
open Go.Fx Go.RowKit
set_option linter.unusedVariables false

namespace ref3_ObjectDigest
section
abbrev c1 (ρ : Env) (g1 : Nat) (w0 w : World) (F : BSet) (s : S) (X : Prop) : Prop := ρ 1 = .pointer (some ⟨g1, 0, none⟩) ∧ Box k_Object 48 (Bs w0 nrow) F w g1 s.o_1 ∧ X
def G0 : GT S := fun w0 F0 s ρ w => ∃ F, Wk nrow w0 F0 F w ∧ Val k_Object F w (ρ 0) s.o_0
def G1 : GT S := fun w0 F0 s ρ w => ∃ F, Wk nrow w0 F0 F w ∧ ∃ g1, ρ 1 = .pointer (some ⟨g1, 0, none⟩) ∧ Box k_Object 48 (Bs w0 nrow) F w g1 s.o_1
def G2 : GT S := fun w0 F0 s ρ w => ∃ F, Wk nrow w0 F0 F w ∧ ∃ g1, c1 ρ g1 w0 w F s (OwnV kByte 5 (Bs w0 nrow) F w (ρ 3) s.b_3)
def G3 : GT S := fun w0 F0 s ρ w => ∃ F, Wk nrow w0 F0 F w ∧ ∃ g1, c1 ρ g1 w0 w F s (OwnV kByte 5 (Bs w0 nrow) F w (ρ 3) s.b_3 ∧ ρ 4 = .int .i64 s.i_4)
def G4 : GT S := fun w0 F0 s ρ w => ∃ F, Wk nrow w0 F0 F w ∧ ∃ g1, c1 ρ g1 w0 w F s (OwnV kByte 5 (Bs w0 nrow) F w (ρ 3) s.b_3 ∧ ρ 4 = .int .i64 s.i_4 ∧ ρ 17 = .bool s.t_17)
def G5 : GT S := fun w0 F0 s ρ w => ∃ F, Wk nrow w0 F0 F w ∧ ρ 2 = .int .i64 s.t_2
set_option maxHeartbeats 4000000 in
set_option maxRecDepth 20000 in
theorem ref (w0 : World) (F0 : BSet) : ∃ c, Tryd.f38.body = some c ∧ Ref Tryd.prog 33 c (G0 w0 F0) body (fun _ _ _ => False) (fun _ _ _ _ => False) (fun r ρ w => ∃ s, retv s = r ∧ G5 w0 F0 s ρ w) := by
  refine ⟨_, rfl, ?_⟩; unfold body; refine Ref.seq (B := G1 w0 F0) ?_ ?_
  · refine Ref.region (fun s ρ w s' h hr => ?_); obtain ⟨F, hW, h0⟩ := h; refine ol_e (f_box hW rfl h0) rfl rfl ?_; rintro _ w6 ⟨g5, rfl, kw1, ho7⟩; have hW8 := hW.trans kw1; have st1 := kw1.stp hW.ok; refine ol_a rfl ?_; exact ol_fin hr ⟨F, hW8, g5, rfl, (ho7.base (row := nrow) hW.le)⟩
  refine Ref.seq (B := G2 w0 F0) ?_ ?_
  · refine Ref.region (fun s ρ w s' h hr => ?_); obtain ⟨F, hW, g1, p1, h1⟩ := h; refine ol_v (e_fa fa_48_0 p1) rfl ?_; refine ol_v (e_ld ty_3 (LiesV.int ((h1).at_.fld fl_Object_0)) rfl) rfl ?_; refine ol_v (e_convB (by kernel_rfl) (by kernel_rfl) rfl) rfl ?_; refine ol_v (e_fa fa_48_1 p1) rfl ?_; obtain ⟨v9, hl10, hs11⟩ := LiesV.sl ((h1).at_.fld fl_Object_1); refine ol_v (e_ld ty_30 hl10 rfl) rfl ?_; obtain ⟨A12, c13, e14, hc15, R16⟩ := id hs11; refine ol_v (e_len (SlT.sl sl_30) e14) rfl ?_; refine ol_v (e_convB (by kernel_rfl) (by kernel_rfl) rfl) rfl ?_; refine ol_e (f_bsl sl_46 hW ([toByte s.o_1.Kind, toByte (s.o_1.Links.length : Int)] : List UInt8) [.int .u8 ((toByte s.o_1.Kind).toNat : Int), .int .u8 ((toByte (s.o_1.Links.length : Int)).toNat : Int)] (by exact ⟨_, _, rfl, (val_byte _), ⟨_, _, rfl, (val_byte _), rfl⟩⟩) rfl (Nat.le_of_ble_eq_true rfl) (lcons (congrArg (Prod.mk 0) rfl) (lcons (congrArg (Prod.mk 1) rfl) rfl))) rfl rfl ?_; rintro v18 w19 ⟨kw1, ho20⟩; have hW21 := hW.trans kw1; have st1 := kw1.stp hW.ok; refine ol_a rfl ?_; exact ol_fin hr ⟨F, hW21, g1, p1, (h1.wk kw1 hW.ok), (ho20.base (row := nrow) hW.le)⟩
  refine Ref.seq (B := G2 w0 F0) ?_ ?_
  · refine Ref.seq (B := G3 w0 F0) ?_ ?_
    · refine Ref.region (fun s ρ w s' h hr => ?_); obtain ⟨F, hW, g1, p1, h1, h3⟩ := h; refine ol_a rfl ?_; exact ol_fin hr ⟨F, hW, g1, p1, h1, h3, rfl⟩
    refine Ref.block ?_; refine Ref.loop ?_; refine Ref.seq (B := G3 w0 F0) ?_ ?_
    · refine Ref.seq (B := G4 w0 F0) ?_ ?_
      · refine Ref.region (fun s ρ w s' h hr => ?_); obtain ⟨F, hW, g1, p1, h1, h3, h4⟩ := h; refine ol_m h4 ?_; refine ol_v (e_fa fa_48_1 p1) rfl ?_; obtain ⟨v22, hl23, hs24⟩ := LiesV.sl ((h1).at_.fld fl_Object_1); refine ol_v (e_ld ty_30 hl23 rfl) rfl ?_; obtain ⟨A25, c26, e27, hc28, R29⟩ := id hs24; refine ol_v (e_len (SlT.sl sl_30) e27) rfl ?_; refine ol_v (e_lss rfl rfl) rfl ?_; exact ol_fin hr ⟨F, hW, g1, p1, h1, h3, h4, rfl⟩
      refine Ref.condP (b := fun s => s.t_17) (L := G3 w0 F0) (K := G2 w0 F0) ?_ ?_ ?_
      · rintro s ρ w ⟨F, hW, g1, p1, h1, h3, h4, h17⟩; exact ⟨h17, ⟨F, hW, g1, p1, h1, h3, h4⟩, F, hW, g1, p1, h1, h3⟩
      · exact Ref.skip
      · exact Ref.exit (fun s ρ w h => h)
    refine Ref.seq (B := G3 w0 F0) ?_ ?_
    · refine Ref.block ?_; refine Ref.region (fun s ρ w s' h hr => ?_); obtain ⟨F, hW, g1, p1, h1, h3, h4⟩ := h; refine ol_m rfl ?_; refine ol_v (e_fa fa_48_1 p1) rfl ?_; obtain ⟨v30, hl31, hs32⟩ := LiesV.sl ((h1).at_.fld fl_Object_1); refine ol_v (e_ld ty_30 hl31 rfl) rfl ?_; refine ol_m h4 ?_; obtain ⟨x33, hx33, hr⟩ := bind_some' hr; obtain ⟨A34, c35, e36, hc37, R38⟩ := id hs32; obtain ⟨b39, o40, hA41, L42⟩ := Row.at_ R38 hx33; refine ol_v (e_ix (SlT.sl sl_30) (SlT.sz sl_30) hA41 hx33 e36 rfl) rfl ?_; refine ol_v (e_ld ty_3 (LiesV.int L42.at_) rfl) rfl ?_; obtain ⟨x43, hx43, hr⟩ := bind_some' hr; refine ol_e (f_call [.int .i64 x33] fn_55 (lcons rfl rfl) (ref3_Wide.calls hW.ok x33 hx43)) rfl rfl ?_; rintro v46 w44 ⟨Fz45, _, rfl, kw1, hk47⟩; have hW49 := hW.trans kw1; have st1 := kw1.stp hW.ok; obtain ⟨Fz50, hWz51, st2, hF2, hz52⟩ := ((hk47.base (row := nrow) hW.le)).frozen hW49; obtain ⟨x53, hx53, hr⟩ := bind_some' hr; refine ol_e (f_app sl_46 hWz51 ((h3.wk kw1 hW.ok).frz (Apart.base (fun g_ hg_ => (hk47.lt hg_).1) h3.ltw) hF2 st2) hz52 hx53 rfl rfl) rfl rfl ?_; rintro v54 w55 ⟨hW56, ho57, hg3, st3, hor58⟩; refine ol_a rfl ?_; have z1 := h1.wk kw1 hW.ok; exact ol_fin hr ⟨Fz50, hW56, g1, p1, ((z1.frz (apart_bo z1 (hk47.base (row := nrow) hW.le) rfl).symm hF2 st2).mut (apart_bo (z1.frz (apart_bo z1 (hk47.base (row := nrow) hW.le) rfl).symm hF2 st2) ((h3.wk kw1 hW.ok).frz (Apart.base (fun g_ hg_ => (hk47.lt hg_).1) h3.ltw) hF2 st2) rfl).symm hg3 st3), ho57, h4⟩
    refine Ref.region (fun s ρ w s' h hr => ?_); obtain ⟨F, hW, g1, p1, h1, h3, h4⟩ := h; refine ol_m h4 ?_; refine ol_v (e_add rfl rfl) rfl ?_; refine ol_a rfl ?_; exact ol_fin hr ⟨F, hW, g1, p1, h1, h3, rfl⟩
  refine Ref.seq (B := G5 w0 F0) ?_ ?_
  · refine Ref.region (fun s ρ w s' h hr => ?_); obtain ⟨F, hW, g1, p1, h1, h3⟩ := h; refine ol_m rfl ?_; refine ol_v (e_fa fa_48_2 p1) rfl ?_; obtain ⟨v59, hl60, hs61⟩ := LiesV.sl ((h1).at_.fld fl_Object_2); refine ol_v (e_ld ty_46 hl60 rfl) rfl ?_; obtain ⟨x62, hx62, hr⟩ := bind_some' hr; refine ol_e (f_app sl_46 hW h3 hs61 hx62 rfl rfl) rfl rfl ?_; rintro v63 w64 ⟨hW65, ho66, hg1, st1, hor67⟩; obtain ⟨Fl68, okl68, stl68, hFl68, hl68⟩ := OwnV.lent ho66 hW65.ok; obtain ⟨x69, hx69, hr⟩ := bind_some' hr; refine ol_e (f_call [v63] fn_56 (lcons rfl rfl) (ref3_DigestOf.calls okl68 hl68 hx69)) rfl rfl ?_; rintro _ w70 ⟨Fz71, rfl, kw2⟩; have ko73 := kw2; have kw2 := kw2.lend hW65.ok; have hW74 := hW65.trans kw2; have st2 := kw2.stp hW65.ok; refine ol_a rfl ?_; exact ol_fin hr ⟨F, hW74, rfl⟩
  exact Ref.ret (fun s ρ w h => ⟨s, rfl, h⟩)
def post (w : World) (F : BSet) (r : R) (v : Value) (w' : World) : Prop := ∃ (F' : BSet), v = .int .i64 r ∧ Wk nrow w F F' w'
theorem calls {w : World} {F : BSet} (hok : ∀ b, F b → b < w.heap.size) {v0 : Value} {a0 : Object} (h0 : Val k_Object F w v0 a0) {r : R} (hf : f a0 = some r) : Calls Tryd.prog 38 #[v0] w fun e w' => ∃ v, e = .returned v ∧ post w F r v w' := by
  obtain ⟨c, hc, href⟩ := ref w F; refine calls_of_ref (args := [v0]) _ Tryd.func38 hc rfl rfl href ?_ (retOf_some hf) ?_
  · exact ⟨F, Wk.refl hok, h0⟩
  · rintro ρ w' a ⟨s, rfl, F', hW, h2⟩ hF; refine ⟨_, run_results (rs := [.tmp 2]) rfl hF (vs := [ρ 2]) (⟨_, rfl, rfl⟩), ?_⟩; have hv : resVal [ρ 2] = .int .i64 s.t_2 := by rw [h2]; rfl
    exact ⟨F', hv, hW⟩
end
end ref3_ObjectDigest

namespace ref3_StoreFault
section
abbrev c1 (ρ : Env) (g1 : Nat) (w0 w : World) (F : BSet) (s : S) (X : Prop) : Prop := ρ 1 = .pointer (some ⟨g1, 0, none⟩) ∧ Box k_ObjectStore 24 (Bs w0 nrow) F w g1 s.t_1 ∧ X
abbrev c2 (ρ : Env) (g2 : Nat) (w0 w : World) (F : BSet) (s : S) (X : Prop) : Prop := ρ 2 = .pointer (some ⟨g2, 0, none⟩) ∧ Box k_Fault 32 (Bs w0 nrow) F w g2 s.t_2 ∧ X
abbrev c4 (ρ : Env) (s : S) (X : Prop) : Prop := ρ 3 = .int .i64 s.t_3 ∧ X
abbrev c6 (ρ : Env) (g4 : Nat) (w0 w : World) (F : BSet) (s : S) (X : Prop) : Prop := ρ 4 = .pointer (some ⟨g4, 0, none⟩) ∧ Box k_Fault 32 (Bs w0 nrow) F w g4 s.t_4 ∧ X
def G0 : GT S := fun w0 F0 s ρ w => ∃ F, Wk nrow w0 F0 F w ∧ Val k_ObjectStore F w (ρ 0) s.t_0
def G1 : GT S := fun w0 F0 s ρ w => ∃ F, Wk nrow w0 F0 F w ∧ ∃ g1 g2, c1 ρ g1 w0 w F s (ρ 2 = .pointer (some ⟨g2, 0, none⟩) ∧ Box k_Fault 32 (Bs w0 nrow) F w g2 s.t_2)
def G2 : GT S := fun w0 F0 s ρ w => ∃ F, Wk nrow w0 F0 F w ∧ ∃ g1 g2, c1 ρ g1 w0 w F s (c2 ρ g2 w0 w F s (ρ 8 = .bool s.t_8))
def G3 : GT S := fun w0 F0 s ρ w => ∃ F, Wk nrow w0 F0 F w ∧ ∃ g2, ρ 2 = .pointer (some ⟨g2, 0, none⟩) ∧ Box k_Fault 32 (Bs w0 nrow) F w g2 s.t_2
def G4 : GT S := fun w0 F0 s ρ w => ∃ F, Wk nrow w0 F0 F w ∧ ∃ g1 g2, c1 ρ g1 w0 w F s (c2 ρ g2 w0 w F s (ρ 3 = .int .i64 s.t_3))
def G5 : GT S := fun w0 F0 s ρ w => ∃ F, Wk nrow w0 F0 F w ∧ ∃ g1 g2, c1 ρ g1 w0 w F s (c2 ρ g2 w0 w F s (c4 ρ s (ρ 14 = .bool s.t_14)))
def G6 : GT S := fun w0 F0 s ρ w => ∃ F, Wk nrow w0 F0 F w ∧ ∃ g1 g2 g4, c1 ρ g1 w0 w F s (c2 ρ g2 w0 w F s (c4 ρ s (c6 ρ g4 w0 w F s (Apart (some g2) (some g4)))))
def G7 : GT S := fun w0 F0 s ρ w => ∃ F, Wk nrow w0 F0 F w ∧ ∃ g1 g2 g4, c1 ρ g1 w0 w F s (c2 ρ g2 w0 w F s (c4 ρ s (c6 ρ g4 w0 w F s (ρ 26 = .bool s.t_26 ∧ Apart (some g2) (some g4)))))
def G8 : GT S := fun w0 F0 s ρ w => ∃ F, Wk nrow w0 F0 F w ∧ ∃ g2 g4, c2 ρ g2 w0 w F s (c4 ρ s (c6 ρ g4 w0 w F s (Apart (some g2) (some g4))))
def G9 : GT S := fun w0 F0 s ρ w => ∃ F, Wk nrow w0 F0 F w ∧ ∃ g1 g2, c1 ρ g1 w0 w F s (c2 ρ g2 w0 w F s (c4 ρ s (ρ 44 = .bool s.t_44)))
def G10 : GT S := fun w0 F0 s ρ w => ∃ F, Wk nrow w0 F0 F w ∧ ∃ g2, c2 ρ g2 w0 w F s (ρ 3 = .int .i64 s.t_3)
def G11 : GT S := fun w0 F0 s ρ w => ∃ F, Wk nrow w0 F0 F w ∧ ∃ g1 g2, c1 ρ g1 w0 w F s (c2 ρ g2 w0 w F s (c4 ρ s (ρ 64 = .bool s.t_64)))
set_option maxHeartbeats 4000000 in
set_option maxRecDepth 20000 in
theorem ref (w0 : World) (F0 : BSet) : ∃ c, Tryd.f22.body = some c ∧ Ref Tryd.prog 68 c (G0 w0 F0) body (fun _ _ _ => False) (fun _ _ _ _ => False) (fun r ρ w => ∃ s, retv s = r ∧ G3 w0 F0 s ρ w) := by
  refine ⟨_, rfl, ?_⟩; unfold body; refine Ref.seq (B := G1 w0 F0) ?_ ?_
  · refine Ref.region (fun s ρ w s' h hr => ?_); obtain ⟨F, hW, h0⟩ := h; refine ol_e (f_box hW rfl h0) rfl rfl ?_; rintro _ w6 ⟨g5, rfl, kw1, ho7⟩; have hW8 := hW.trans kw1; have st1 := kw1.stp hW.ok; refine ol_e (f_alloc zer_32 hW8) rfl rfl ?_; rintro _ w10 ⟨g9, rfl, kw2, ho11⟩; have hW12 := hW8.trans kw2; have st2 := kw2.stp hW8.ok; exact ol_fin hr ⟨F, hW12, g5, g9, rfl, ((ho7.base (row := nrow) hW.le).wk kw2 hW8.ok), rfl, (ho11.base (row := nrow) hW8.le)⟩
  refine Ref.seq (B := G1 w0 F0) ?_ ?_
  · refine Ref.seq (B := G2 w0 F0) ?_ ?_
    · refine Ref.region (fun s ρ w s' h hr => ?_); obtain ⟨F, hW, g1, g2, p1, h1, p2, h2⟩ := h; refine ol_v (e_fa fa_24_0 p1) rfl ?_; obtain ⟨v13, hl14, hs15⟩ := LiesV.sl ((h1).at_.fld fl_ObjectStore_0); refine ol_v (e_ld ty_22 hl14 rfl) rfl ?_; obtain ⟨A16, c17, e18, hc19, R20⟩ := id hs15; refine ol_v (e_len (SlT.sl sl_22) e18) rfl ?_; refine ol_v (e_gtr rfl rfl) rfl ?_; exact ol_fin hr ⟨F, hW, g1, g2, p1, h1, p2, h2, rfl⟩
    refine Ref.condP (b := fun s => s.t_8) (L := G3 w0 F0) (K := G1 w0 F0) ?_ ?_ ?_
    · rintro s ρ w ⟨F, hW, g1, g2, p1, h1, p2, h2, h8⟩; exact ⟨h8, ⟨F, hW, g2, p2, h2⟩, F, hW, g1, g2, p1, h1, p2, h2⟩
    · refine Ref.seq (B := G3 w0 F0) ?_ ?_
      · refine Ref.region (fun s ρ w s' h hr => ?_); obtain ⟨F, hW, g2, p2, h2⟩ := h; obtain ⟨x21, hx21, hr⟩ := bind_some' hr; refine ol_e (f_call [.int .i64 (2 : Int), .int .i64 (0 : Int)] fn_24 (lcons rfl (lcons rfl rfl)) (ref3_Fault.calls hW.ok (2 : Int) (0 : Int) hx21)) rfl rfl ?_; rintro v24 w22 ⟨Fz23, _, rfl, kw1, hk25⟩; have hW27 := hW.trans kw1; have st1 := kw1.stp hW.ok; refine ol_eN (f_stB hW27 (h2.wk kw1 hW.ok) (FldS.whole _) ty_32 hk25 p2 rfl) rfl ?_; rintro - w28 ⟨hW29, ho30, hg2, st2⟩; exact ol_fin hr ⟨Fz23, hW29, g2, p2, ho30⟩
      exact Ref.ret (fun s ρ w h => ⟨s, rfl, h⟩)
    · exact Ref.skip
  refine Ref.seq (B := G3 w0 F0) ?_ ?_
  · refine Ref.seq (B := G4 w0 F0) ?_ ?_
    · refine Ref.region (fun s ρ w s' h hr => ?_); obtain ⟨F, hW, g1, g2, p1, h1, p2, h2⟩ := h; refine ol_a rfl ?_; exact ol_fin hr ⟨F, hW, g1, g2, p1, h1, p2, h2, rfl⟩
    refine Ref.block ?_; refine Ref.loop ?_; refine Ref.seq (B := G4 w0 F0) ?_ ?_
    · refine Ref.seq (B := G5 w0 F0) ?_ ?_
      · refine Ref.region (fun s ρ w s' h hr => ?_); obtain ⟨F, hW, g1, g2, p1, h1, p2, h2, h3⟩ := h; refine ol_m h3 ?_; refine ol_v (e_fa fa_24_0 p1) rfl ?_; obtain ⟨v31, hl32, hs33⟩ := LiesV.sl ((h1).at_.fld fl_ObjectStore_0); refine ol_v (e_ld ty_22 hl32 rfl) rfl ?_; obtain ⟨A34, c35, e36, hc37, R38⟩ := id hs33; refine ol_v (e_len (SlT.sl sl_22) e36) rfl ?_; refine ol_v (e_lss rfl rfl) rfl ?_; exact ol_fin hr ⟨F, hW, g1, g2, p1, h1, p2, h2, h3, rfl⟩
      refine Ref.condP (b := fun s => s.t_14) (L := G4 w0 F0) (K := G3 w0 F0) ?_ ?_ ?_
      · rintro s ρ w ⟨F, hW, g1, g2, p1, h1, p2, h2, h3, h14⟩; exact ⟨h14, ⟨F, hW, g1, g2, p1, h1, p2, h2, h3⟩, F, hW, g2, p2, h2⟩
      · exact Ref.skip
      · exact Ref.exit (fun s ρ w h => h)
    refine Ref.seq (B := G4 w0 F0) ?_ ?_
    · refine Ref.block ?_; refine Ref.seq (B := G4 w0 F0) ?_ ?_
      · refine Ref.seq (B := G6 w0 F0) ?_ ?_
        · refine Ref.region (fun s ρ w s' h hr => ?_); obtain ⟨F, hW, g1, g2, p1, h1, p2, h2, h3⟩ := h; refine ol_v (e_fa fa_24_0 p1) rfl ?_; obtain ⟨v39, hl40, hs41⟩ := LiesV.sl ((h1).at_.fld fl_ObjectStore_0); refine ol_v (e_ld ty_22 hl40 rfl) rfl ?_; refine ol_m h3 ?_; obtain ⟨x42, hx42, hr⟩ := bind_some' hr; obtain ⟨A43, c44, e45, hc46, R47⟩ := id hs41; obtain ⟨b48, o49, hA50, L51⟩ := Row.at_ R47 hx42; refine ol_v (e_ix (SlT.sl sl_22) (SlT.sz sl_22) hA50 hx42 e45 rfl) rfl ?_; refine ol_v (e_fa fa_50_1 rfl) rfl ?_; obtain ⟨v52, hl53⟩ := LiesAt.v (L51.fld fl_StoredObject_1).at_; refine ol_v (e_ld ty_48 hl53 rfl) rfl ?_; obtain ⟨x54, hx54, hr⟩ := bind_some' hr; refine ol_e (f_call [v52] fn_37 (lcons rfl rfl) (ref3_ObjectFault.calls hW.ok hl53.val hx54)) rfl rfl ?_; rintro v57 w55 ⟨Fz56, _, rfl, kw1, hk58⟩; have hW60 := hW.trans kw1; have st1 := kw1.stp hW.ok; refine ol_e (f_alloc zer_32 hW60) rfl rfl ?_; rintro _ w62 ⟨g61, rfl, kw2, ho63⟩; have hW64 := hW60.trans kw2; have st2 := kw2.stp hW60.ok; refine ol_eN (f_stB hW64 (ho63.base (row := nrow) hW60.le) (FldS.whole _) ty_32 (hk58.keep st2) rfl rfl) rfl ?_; rintro - w65 ⟨hW66, ho67, hg3, st3⟩; have z1 := (h1.wk kw1 hW.ok).wk kw2 hW60.ok; have z2 := h2.wk kw1 hW.ok; exact ol_fin hr ⟨Fz56, hW66, g1, g2, g61, p1, (z1.mut (apart_bb (ho63.base (row := nrow) hW60.le) z1 rfl) hg3 st3), p2, ((z2.wk kw2 hW60.ok).mut (Apart.base (fun _ e_ => by cases e_; exact ho63.ge) z2.ltw) hg3 st3), h3, rfl, ho67, (Apart.base (fun _ e_ => by cases e_; exact ho63.ge) z2.ltw).symm⟩
        refine Ref.seq (B := G7 w0 F0) ?_ ?_
        · refine Ref.region (fun s ρ w s' h hr => ?_); obtain ⟨F, hW, g1, g2, g4, p1, h1, p2, h2, h3, p4, h4, a2b_4b⟩ := h; refine ol_v (e_fa fa_32_0 p4) rfl ?_; refine ol_v (e_ld ty_3 (LiesV.int ((h4).at_.fld fl_Fault_0)) rfl) rfl ?_; refine ol_v (e_neq rfl rfl) rfl ?_; exact ol_fin hr ⟨F, hW, g1, g2, g4, p1, h1, p2, h2, h3, p4, h4, rfl, a2b_4b⟩
        refine Ref.condP (b := fun s => s.t_26) (L := G8 w0 F0) (K := G4 w0 F0) ?_ ?_ ?_
        · rintro s ρ w ⟨F, hW, g1, g2, g4, p1, h1, p2, h2, h3, p4, h4, h26, a2b_4b⟩; exact ⟨h26, ⟨F, hW, g2, g4, p2, h2, h3, p4, h4, a2b_4b⟩, F, hW, g1, g2, p1, h1, p2, h2, h3⟩
        · refine Ref.seq (B := G3 w0 F0) ?_ ?_
          · refine Ref.region (fun s ρ w s' h hr => ?_); obtain ⟨F, hW, g2, g4, p2, h2, h3, p4, h4, a2b_4b⟩ := h; refine ol_v (e_fa fa_32_0 p4) rfl ?_; refine ol_v (e_ld ty_3 (LiesV.int ((h4).at_.fld fl_Fault_0)) rfl) rfl ?_; refine ol_m h3 ?_; obtain ⟨x68, hx68, hr⟩ := bind_some' hr; refine ol_e (f_call [.int .i64 s.t_4.Code, .int .i64 s.t_3] fn_24 (lcons rfl (lcons rfl rfl)) (ref3_Fault.calls hW.ok s.t_4.Code s.t_3 hx68)) rfl rfl ?_; rintro v71 w69 ⟨Fz70, _, rfl, kw1, hk72⟩; have hW74 := hW.trans kw1; have st1 := kw1.stp hW.ok; refine ol_eN (f_stB hW74 (h2.wk kw1 hW.ok) (FldS.whole _) ty_32 hk72 p2 rfl) rfl ?_; rintro - w75 ⟨hW76, ho77, hg2, st2⟩; exact ol_fin hr ⟨Fz70, hW76, g2, p2, ho77⟩
          exact Ref.ret (fun s ρ w h => ⟨s, rfl, h⟩)
        · exact Ref.skip
      refine Ref.seq (B := G4 w0 F0) ?_ ?_
      · refine Ref.seq (B := G9 w0 F0) ?_ ?_
        · refine Ref.regionH (by kernel_rfl) (fun s ρ w ⟨F, hW, g1, g2, p1, h1, p2, h2, h3⟩ => ⟨F, hW.drewS, g1, g2, p1, h1.wk (Wk.drew (row := nrow) hW.ok) hW.ok, p2, h2.wk (Wk.drew (row := nrow) hW.ok) hW.ok, h3⟩) (fun s ρ w s' h hr => ?_); obtain ⟨F, hW, g1, g2, p1, h1, p2, h2, h3⟩ := h; refine ⟨fun w' => Stp F w F w' ∧ w'.heap[g1]? = w.heap[g1]?, ?_⟩; refine oh_v 0 rfl (by kernel_rfl) (by kernel_rfl) (by kernel_rfl) ⟨(Stp.refl _ _), rfl⟩ (fun wv_ SV => e_fa fa_24_0 p1) rfl ?_; obtain ⟨v78, hl79, hs80⟩ := LiesV.sl ((h1).at_.fld fl_ObjectStore_0); refine oh_v 1 rfl (by kernel_rfl) (by kernel_rfl) (by kernel_rfl) ⟨(Stp.refl _ _), rfl⟩ (fun wv_ SV => e_ld ty_22 (hl79.same SV.1 SV.2) rfl) rfl ?_; refine oh_v 2 rfl (by kernel_rfl) (by kernel_rfl) (by kernel_rfl) ⟨(Stp.refl _ _), rfl⟩ (fun wv_ SV => e_mv _ h3) rfl ?_; obtain ⟨x81, hx81, hr⟩ := bind_some' hr; obtain ⟨A82, c83, e84, hc85, R86⟩ := id hs80; obtain ⟨b87, o88, hA89, L90⟩ := Row.at_ R86 hx81; refine oh_v 3 rfl (by kernel_rfl) (by kernel_rfl) (by kernel_rfl) ⟨(Stp.refl _ _), rfl⟩ (fun wv_ SV => e_ix (SlT.sl sl_22) (SlT.sz sl_22) hA89 hx81 e84 rfl) rfl ?_; refine oh_v 4 rfl (by kernel_rfl) (by kernel_rfl) (by kernel_rfl) ⟨(Stp.refl _ _), rfl⟩ (fun wv_ SV => e_fa fa_50_1 rfl) rfl ?_; obtain ⟨v91, hl92⟩ := LiesAt.v (L90.fld fl_StoredObject_1).at_; refine oh_v 5 rfl (by kernel_rfl) (by kernel_rfl) (by kernel_rfl) ⟨(Stp.refl _ _), rfl⟩ (fun wv_ SV => e_ld ty_48 (hl92.same SV.1 (SV.1.keep _ (L90.fld fl_StoredObject_1).1)) rfl) rfl ?_; refine oh_v 7 rfl (by kernel_rfl) (by kernel_rfl) (by kernel_rfl) ⟨(Stp.refl _ _), rfl⟩ (fun wv_ SV => e_fa fa_24_0 p1) rfl ?_; obtain ⟨v93, hl94, hs95⟩ := LiesV.sl ((h1).at_.fld fl_ObjectStore_0); refine oh_v 8 rfl (by kernel_rfl) (by kernel_rfl) (by kernel_rfl) ⟨(Stp.refl _ _), rfl⟩ (fun wv_ SV => e_ld ty_22 (hl94.same SV.1 SV.2) rfl) rfl ?_; refine oh_v 9 rfl (by kernel_rfl) (by kernel_rfl) (by kernel_rfl) ⟨(Stp.refl _ _), rfl⟩ (fun wv_ SV => e_mv _ h3) rfl ?_; obtain ⟨x96, hx96, hr⟩ := bind_some' hr; obtain ⟨A97, c98, e99, hc100, R101⟩ := id hs95; obtain ⟨b102, o103, hA104, L105⟩ := Row.at_ R101 hx96; refine oh_v 10 rfl (by kernel_rfl) (by kernel_rfl) (by kernel_rfl) ⟨(Stp.refl _ _), rfl⟩ (fun wv_ SV => e_ix (SlT.sl sl_22) (SlT.sz sl_22) hA104 hx96 e99 rfl) rfl ?_; refine oh_v 11 rfl (by kernel_rfl) (by kernel_rfl) (by kernel_rfl) ⟨(Stp.refl _ _), rfl⟩ (fun wv_ SV => e_fa fa_50_0 rfl) rfl ?_; refine oh_v 12 rfl (by kernel_rfl) (by kernel_rfl) (by kernel_rfl) ⟨(Stp.refl _ _), rfl⟩ (fun wv_ SV => e_ld ty_3 (LiesV.int ((L105.fld fl_StoredObject_0).keep SV.1).at_) rfl) rfl ?_; refine oh_all [6] (by kernel_rfl) rfl ⟨?_, trivial⟩
          · obtain ⟨x106, hx106, hr⟩ := bind_some' hr; refine oh1_e rfl (f_call [v91] fn_38 (lcons rfl rfl) (ref3_ObjectDigest.calls hW.ok hl92.val hx106)) rfl ?_; rintro _ w107 ⟨Fz108, rfl, kw1⟩; have hW110 := hW.trans kw1; have st1 := kw1.stp hW.ok; have hh1_1 : w107.heap[g1]? = w.heap[g1]? := (h1.hpw kw1); refine ⟨⟨(Stp.back st1), hh1_1⟩, ?_⟩; refine oh_v 13 rfl (by kernel_rfl) (by kernel_rfl) (by kernel_rfl) ⟨(Stp.back st1), hh1_1⟩ (fun wv_ SV => e_neq rfl rfl) rfl ?_; obtain rfl := Option.some.inj hr; exact oh_done (by kernel_rfl) ⟨Fz108, hW110, g1, g2, p1, (h1.wk kw1 hW.ok), p2, (h2.wk kw1 hW.ok), h3, rfl⟩
        refine Ref.condP (b := fun s => s.t_44) (L := G10 w0 F0) (K := G4 w0 F0) ?_ ?_ ?_
        · rintro s ρ w ⟨F, hW, g1, g2, p1, h1, p2, h2, h3, h44⟩; exact ⟨h44, ⟨F, hW, g2, p2, h2, h3⟩, F, hW, g1, g2, p1, h1, p2, h2, h3⟩
        · refine Ref.seq (B := G3 w0 F0) ?_ ?_
          · refine Ref.region (fun s ρ w s' h hr => ?_); obtain ⟨F, hW, g2, p2, h2, h3⟩ := h; refine ol_m h3 ?_; obtain ⟨x111, hx111, hr⟩ := bind_some' hr; refine ol_e (f_call [.int .i64 (18 : Int), .int .i64 s.t_3] fn_24 (lcons rfl (lcons rfl rfl)) (ref3_Fault.calls hW.ok (18 : Int) s.t_3 hx111)) rfl rfl ?_; rintro v114 w112 ⟨Fz113, _, rfl, kw1, hk115⟩; have hW117 := hW.trans kw1; have st1 := kw1.stp hW.ok; refine ol_eN (f_stB hW117 (h2.wk kw1 hW.ok) (FldS.whole _) ty_32 hk115 p2 rfl) rfl ?_; rintro - w118 ⟨hW119, ho120, hg2, st2⟩; exact ol_fin hr ⟨Fz113, hW119, g2, p2, ho120⟩
          exact Ref.ret (fun s ρ w h => ⟨s, rfl, h⟩)
        · exact Ref.skip
      refine Ref.seq (B := G11 w0 F0) ?_ ?_
      · refine Ref.regionS (by kernel_rfl) (by kernel_rfl) (fun s ρ w ⟨F, hW, g1, g2, p1, h1, p2, h2, h3⟩ => ⟨F, hW.drewS, g1, g2, p1, h1.wk (Wk.drew (row := nrow) hW.ok) hW.ok, p2, h2.wk (Wk.drew (row := nrow) hW.ok) hW.ok, h3⟩) (fun s ρ w s' h hr => ?_); obtain ⟨F, hW, g1, g2, p1, h1, p2, h2, h3⟩ := h; refine ol_m h3 ?_; refine ol_v (e_gtr rfl rfl) rfl ?_; obtain ⟨x149, hx150, hr⟩ := bind_some' hr; refine ol_cutA 16 49 64 (fun ρ' w' => w = w' ∧ ρ' 64 = .bool x149) rfl ?_ ?_
        · by_cases hb121 : (decide ((0 : Int) < s.t_3)) = true
          · have hr := hx150; rw [if_pos hb121] at hr; refine ol_m rfl ?_; refine ol_yes rfl rfl (congrArg Value.bool hb121) ?_; refine ol_v (e_fa fa_24_0 p1) rfl ?_; refine ol_yes rfl rfl (congrArg Value.bool hb121) ?_; obtain ⟨v123, hl124, hs125⟩ := LiesV.sl ((h1).at_.fld fl_ObjectStore_0); refine ol_v (e_ld ty_22 hl124 rfl) rfl ?_; refine ol_yes rfl rfl (congrArg Value.bool hb121) ?_; refine ol_m h3 ?_; refine ol_yes rfl rfl (congrArg Value.bool hb121) ?_; obtain ⟨x126, hx126, hr⟩ := bind_some' hr; obtain ⟨A127, c128, e129, hc130, R131⟩ := id hs125; obtain ⟨b132, o133, hA134, L135⟩ := Row.at_ R131 hx126; refine ol_v (e_ix (SlT.sl sl_22) (SlT.sz sl_22) hA134 hx126 e129 rfl) rfl ?_; refine ol_yes rfl rfl (congrArg Value.bool hb121) ?_; refine ol_v (e_fa fa_50_0 rfl) rfl ?_; refine ol_yes rfl rfl (congrArg Value.bool hb121) ?_; refine ol_v (e_ld ty_3 (LiesV.int (L135.fld fl_StoredObject_0).at_) rfl) rfl ?_; refine ol_yes rfl rfl (congrArg Value.bool hb121) ?_; refine ol_v (e_fa fa_24_0 p1) rfl ?_; refine ol_yes rfl rfl (congrArg Value.bool hb121) ?_; obtain ⟨v136, hl137, hs138⟩ := LiesV.sl ((h1).at_.fld fl_ObjectStore_0); refine ol_v (e_ld ty_22 hl137 rfl) rfl ?_; refine ol_yes rfl rfl (congrArg Value.bool hb121) ?_; refine ol_m h3 ?_; refine ol_yes rfl rfl (congrArg Value.bool hb121) ?_; refine ol_v (e_sub rfl rfl) rfl ?_; refine ol_yes rfl rfl (congrArg Value.bool hb121) ?_; obtain ⟨x139, hx139, hr⟩ := bind_some' hr; obtain ⟨A140, c141, e142, hc143, R144⟩ := id hs138; obtain ⟨b145, o146, hA147, L148⟩ := Row.at_ R144 hx139; refine ol_v (e_ix (SlT.sl sl_22) (SlT.sz sl_22) hA147 hx139 e142 rfl) rfl ?_; refine ol_yes rfl rfl (congrArg Value.bool hb121) ?_; refine ol_v (e_fa fa_50_0 rfl) rfl ?_; refine ol_yes rfl rfl (congrArg Value.bool hb121) ?_; refine ol_v (e_ld ty_3 (LiesV.int (L148.fld fl_StoredObject_0).at_) rfl) rfl ?_; refine ol_yes rfl rfl (congrArg Value.bool hb121) ?_; refine ol_v (e_leq rfl rfl) rfl ?_; refine ol_v (e_pick true _ (congrArg Value.bool hb121) rfl) rfl ?_; exact ol_nil ⟨⟨rfl, (congrArg Value.bool (Option.some.inj hr))⟩, (Agr.refl _ _ _).u.u.u.u.u.u.u.u.u.u.u.u.u.u.u.u⟩
          · have hb122 := Bool.eq_false_iff.mpr hb121; have hr := hx150; rw [if_neg hb121] at hr; refine ol_m rfl ?_; refine ol_not rfl rfl rfl (congrArg Value.bool hb122) rfl ?_; refine ol_not rfl rfl rfl (congrArg Value.bool hb122) rfl ?_; refine ol_not rfl rfl rfl (congrArg Value.bool hb122) rfl ?_; refine ol_not rfl rfl rfl (congrArg Value.bool hb122) rfl ?_; refine ol_not rfl rfl rfl (congrArg Value.bool hb122) rfl ?_; refine ol_not rfl rfl rfl (congrArg Value.bool hb122) rfl ?_; refine ol_not rfl rfl rfl (congrArg Value.bool hb122) rfl ?_; refine ol_not rfl rfl rfl (congrArg Value.bool hb122) rfl ?_; refine ol_not rfl rfl rfl (congrArg Value.bool hb122) rfl ?_; refine ol_not rfl rfl rfl (congrArg Value.bool hb122) rfl ?_; refine ol_not rfl rfl rfl (congrArg Value.bool hb122) rfl ?_; refine ol_not rfl rfl rfl (congrArg Value.bool hb122) rfl ?_; refine ol_not rfl rfl rfl (congrArg Value.bool hb122) rfl ?_; refine ol_not rfl rfl rfl (congrArg Value.bool hb122) rfl ?_; refine ol_v (e_pick false _ (congrArg Value.bool hb122) rfl) rfl ?_; exact ol_nil ⟨⟨rfl, (congrArg Value.bool (Option.some.inj hr))⟩, (Agr.refl _ _ _).u.u.u.u.u.u.u.u.u.u.u.u.u.u.u.u⟩
        rintro ρ150 _ ⟨⟨rfl, hp150⟩, hAg150⟩; exact ol_fin hr ⟨F, hW, g1, g2, ((hAg150 1 rfl).trans p1), h1, ((hAg150 2 rfl).trans p2), h2, ((hAg150 3 rfl).trans h3), hp150⟩
      refine Ref.condP (b := fun s => s.t_64) (L := G10 w0 F0) (K := G4 w0 F0) ?_ ?_ ?_
      · rintro s ρ w ⟨F, hW, g1, g2, p1, h1, p2, h2, h3, h64⟩; exact ⟨h64, ⟨F, hW, g2, p2, h2, h3⟩, F, hW, g1, g2, p1, h1, p2, h2, h3⟩
      · refine Ref.seq (B := G3 w0 F0) ?_ ?_
        · refine Ref.region (fun s ρ w s' h hr => ?_); obtain ⟨F, hW, g2, p2, h2, h3⟩ := h; refine ol_m h3 ?_; obtain ⟨x151, hx151, hr⟩ := bind_some' hr; refine ol_e (f_call [.int .i64 (5 : Int), .int .i64 s.t_3] fn_24 (lcons rfl (lcons rfl rfl)) (ref3_Fault.calls hW.ok (5 : Int) s.t_3 hx151)) rfl rfl ?_; rintro v154 w152 ⟨Fz153, _, rfl, kw1, hk155⟩; have hW157 := hW.trans kw1; have st1 := kw1.stp hW.ok; refine ol_eN (f_stB hW157 (h2.wk kw1 hW.ok) (FldS.whole _) ty_32 hk155 p2 rfl) rfl ?_; rintro - w158 ⟨hW159, ho160, hg2, st2⟩; exact ol_fin hr ⟨Fz153, hW159, g2, p2, ho160⟩
        exact Ref.ret (fun s ρ w h => ⟨s, rfl, h⟩)
      · exact Ref.skip
    refine Ref.region (fun s ρ w s' h hr => ?_); obtain ⟨F, hW, g1, g2, p1, h1, p2, h2, h3⟩ := h; refine ol_m h3 ?_; refine ol_v (e_add rfl rfl) rfl ?_; refine ol_a rfl ?_; exact ol_fin hr ⟨F, hW, g1, g2, p1, h1, p2, h2, rfl⟩
  refine Ref.seq (B := G3 w0 F0) ?_ ?_
  · refine Ref.region (fun s ρ w s' h hr => ?_); obtain ⟨F, hW, g2, p2, h2⟩ := h; refine ol_v (e_bld (cells := #[.int .i64 0, .int .i64 0]) bld_32 (vs := []) rfl rfl) rfl ?_; have hb161 : Val k_Fault F w (.agg #[.int .i64 0, .int .i64 0]) (⟨(0 : Int), (0 : Int)⟩ : Fault) := mk_Fault (val_int _ _) (val_int _ _); refine ol_eN (f_stB hW h2 (FldS.whole _) ty_32 hb161 p2 rfl) rfl ?_; rintro - w162 ⟨hW163, ho164, hg1, st1⟩; exact ol_fin hr ⟨F, hW163, g2, p2, ho164⟩
  exact Ref.ret (fun s ρ w h => ⟨s, rfl, h⟩)
def post (w : World) (F : BSet) (r : R) (v : Value) (w' : World) : Prop := ∃ (F' : BSet) (v0' : Value), v = v0' ∧ Wk nrow w F F' w' ∧ Val k_Fault F' w' v0' r
theorem calls {w : World} {F : BSet} (hok : ∀ b, F b → b < w.heap.size) {v0 : Value} {a0 : ObjectStore} (h0 : Val k_ObjectStore F w v0 a0) {r : R} (hf : f a0 = some r) : Calls Tryd.prog 22 #[v0] w fun e w' => ∃ v, e = .returned v ∧ post w F r v w' := by
  obtain ⟨c, hc, href⟩ := ref w F; refine calls_of_ref (args := [v0]) _ Tryd.func22 hc rfl rfl href ?_ (retOf_some hf) ?_
  · exact ⟨F, Wk.refl hok, h0⟩
  · rintro ρ w' a ⟨s, rfl, F', hW, g2, p2, h2⟩ hF; obtain ⟨u2, l2, k2⟩ := res_box (P := Tryd.prog) ty_32 h2; refine ⟨_, run_results (rs := [.cell 2 32]) rfl hF (vs := [u2]) (⟨_, _, _, rfl, p2, l2, rfl⟩), ?_⟩; exact ⟨F', u2, rfl, hW, k2⟩
end
end ref3_StoreFault

namespace ref4_Marked
section
abbrev c1 (F : BSet) (w : World) (ρ : Env) (s : S) (X : Prop) : Prop := SlR (kInt .i64) F w (ρ 1) s.t_1 ∧ X
abbrev c2 (ρ : Env) (g2 : Nat) (w0 w : World) (F : BSet) (s : S) (X : Prop) : Prop := ρ 2 = .pointer (some ⟨g2, 0, none⟩) ∧ Box k_ObjectStore 24 (Bs w0 nrow) F w g2 s.t_2 ∧ X
abbrev c3 (w0 w : World) (F : BSet) (ρ : Env) (s : S) (X : Prop) : Prop := OwnV kBool 4 (Bs w0 nrow) F w (ρ 5) s.t_5 ∧ X
abbrev c4 (ρ : Env) (s : S) (X : Prop) : Prop := ρ 6 = .bool s.t_6 ∧ X
abbrev c6 (ρ : Env) (s : S) (X : Prop) : Prop := ρ 7 = .int .i64 s.t_7 ∧ X
def G0 : GT S := fun w0 F0 s ρ w => ∃ F, Wk nrow w0 F0 F w ∧ Val k_ObjectStore F w (ρ 0) s.t_0 ∧ SlR (kInt .i64) F w (ρ 1) s.t_1
def G1 : GT S := fun w0 F0 s ρ w => ∃ F, Wk nrow w0 F0 F w ∧ ∃ g2, c1 F w ρ s (ρ 2 = .pointer (some ⟨g2, 0, none⟩) ∧ Box k_ObjectStore 24 (Bs w0 nrow) F w g2 s.t_2)
def G2 : GT S := fun w0 F0 s ρ w => ∃ F, Wk nrow w0 F0 F w ∧ ∃ g2, c1 F w ρ s (c2 ρ g2 w0 w F s (OwnV kBool 4 (Bs w0 nrow) F w (ρ 5) s.t_5))
def G3 : GT S := fun w0 F0 s ρ w => ∃ F, Wk nrow w0 F0 F w ∧ ∃ g2, c1 F w ρ s (c2 ρ g2 w0 w F s (c3 w0 w F ρ s (ρ 6 = .bool s.t_6)))
def G4 : GT S := fun w0 F0 s ρ w => ∃ F, Wk nrow w0 F0 F w ∧ ∃ g2, c1 F w ρ s (c2 ρ g2 w0 w F s (c3 w0 w F ρ s (ρ 15 = .bool s.t_15)))
def G5 : GT S := fun w0 F0 s ρ w => ∃ F, Wk nrow w0 F0 F w ∧ OwnV kBool 4 (Bs w0 nrow) F w (ρ 5) s.t_5
def G6 : GT S := fun w0 F0 s ρ w => ∃ F, Wk nrow w0 F0 F w ∧ ∃ g2, c1 F w ρ s (c2 ρ g2 w0 w F s (c3 w0 w F ρ s (c4 ρ s (ρ 7 = .int .i64 s.t_7))))
def G7 : GT S := fun w0 F0 s ρ w => ∃ F, Wk nrow w0 F0 F w ∧ ∃ g2, c1 F w ρ s (c2 ρ g2 w0 w F s (c3 w0 w F ρ s (c4 ρ s (c6 ρ s (ρ 20 = .bool s.t_20)))))
def G8 : GT S := fun w0 F0 s ρ w => ∃ F, Wk nrow w0 F0 F w ∧ ∃ g2, c1 F w ρ s (c2 ρ g2 w0 w F s (c3 w0 w F ρ s (c4 ρ s (c6 ρ s (ρ 8 = .int .i64 s.t_8)))))
def G9 : GT S := fun w0 F0 s ρ w => ∃ F, Wk nrow w0 F0 F w ∧ ∃ g2, c1 F w ρ s (c2 ρ g2 w0 w F s (c3 w0 w F ρ s (c4 ρ s (c6 ρ s (ρ 8 = .int .i64 s.t_8 ∧ ρ 9 = .bool s.t_9)))))
def G10 : GT S := fun w0 F0 s ρ w => ∃ F, Wk nrow w0 F0 F w ∧ ∃ g2, c1 F w ρ s (c2 ρ g2 w0 w F s (c3 w0 w F ρ s (c4 ρ s (c6 ρ s (ρ 8 = .int .i64 s.t_8 ∧ ρ 9 = .bool s.t_9 ∧ ρ 10 = .int .i64 s.t_10)))))
def G11 : GT S := fun w0 F0 s ρ w => ∃ F, Wk nrow w0 F0 F w ∧ ∃ g2, c1 F w ρ s (c2 ρ g2 w0 w F s (c3 w0 w F ρ s (c4 ρ s (c6 ρ s (ρ 8 = .int .i64 s.t_8 ∧ ρ 9 = .bool s.t_9 ∧ ρ 10 = .int .i64 s.t_10 ∧ ρ 36 = .bool s.t_36)))))
def G12 : GT S := fun w0 F0 s ρ w => ∃ F, Wk nrow w0 F0 F w ∧ ∃ g2, c1 F w ρ s (c2 ρ g2 w0 w F s (c3 w0 w F ρ s (c4 ρ s (c6 ρ s (ρ 9 = .bool s.t_9)))))
def G13 : GT S := fun w0 F0 s ρ w => ∃ F, Wk nrow w0 F0 F w ∧ ∃ g2, c1 F w ρ s (c2 ρ g2 w0 w F s (c3 w0 w F ρ s (c4 ρ s (c6 ρ s (ρ 64 = .bool s.t_64)))))
def G14 : GT S := fun w0 F0 s ρ w => ∃ F, Wk nrow w0 F0 F w ∧ ∃ g2, c1 F w ρ s (c2 ρ g2 w0 w F s (c3 w0 w F ρ s (ρ 7 = .int .i64 s.t_7)))
def G15 : GT S := fun w0 F0 s ρ w => ∃ F, Wk nrow w0 F0 F w ∧ OwnV kBool 4 (Bs w0 nrow) F w (ρ 4) s.t_4
set_option maxHeartbeats 4000000 in
set_option maxRecDepth 20000 in
theorem ref (w0 : World) (F0 : BSet) : ∃ c, Tryd.f12.body = some c ∧ Ref Tryd.prog 69 c (G0 w0 F0) body (fun _ _ _ => False) (fun _ _ _ _ => False) (fun r ρ w => ∃ s, retv s = r ∧ G15 w0 F0 s ρ w) := by
  refine ⟨_, rfl, ?_⟩; unfold body; refine Ref.seq (B := G1 w0 F0) ?_ ?_
  · refine Ref.region (fun s ρ w s' h hr => ?_); obtain ⟨F, hW, h0, h1⟩ := h; refine ol_e (f_box hW rfl h0) rfl rfl ?_; rintro _ w4 ⟨g3, rfl, kw1, ho5⟩; have hW6 := hW.trans kw1; have st1 := kw1.stp hW.ok; refine ol_a rfl ?_; exact ol_fin hr ⟨F, hW6, g3, (h1.keep st1), rfl, (ho5.base (row := nrow) hW.le)⟩
  refine Ref.seq (B := G2 w0 F0) ?_ ?_
  · refine Ref.region (fun s ρ w s' h hr => ?_); obtain ⟨F, hW, g2, h1, p2, h2⟩ := h; refine ol_v (e_fa fa_24_0 p2) rfl ?_; obtain ⟨v11, hl12, hs13⟩ := LiesV.sl ((h2).at_.fld fl_ObjectStore_0); refine ol_v (e_ld ty_22 hl12 rfl) rfl ?_; obtain ⟨A14, c15, e16, hc17, R18⟩ := id hs13; refine ol_v (e_len (SlT.sl sl_22) e16) rfl ?_; obtain ⟨x19, hx19, hr⟩ := bind_some' hr; refine ol_e (f_mks sl_36 hW rfl rfl hx19) rfl rfl ?_; rintro v21 w22 ⟨kw1, ho23⟩; have hW24 := hW.trans kw1; have st1 := kw1.stp hW.ok; refine ol_a rfl ?_; exact ol_fin hr ⟨F, hW24, g2, (h1.keep st1), p2, (h2.wk kw1 hW.ok), (ho23.base (row := nrow) hW.le)⟩
  refine Ref.seq (B := G5 w0 F0) ?_ ?_
  · refine Ref.seq (B := G3 w0 F0) ?_ ?_
    · refine Ref.region (fun s ρ w s' h hr => ?_); obtain ⟨F, hW, g2, h1, p2, h2, h5⟩ := h; refine ol_a rfl ?_; exact ol_fin hr ⟨F, hW, g2, h1, p2, h2, h5, rfl⟩
    refine Ref.block ?_; refine Ref.loop ?_; refine Ref.seq (B := G2 w0 F0) ?_ ?_
    · refine Ref.seq (B := G4 w0 F0) ?_ ?_
      · refine Ref.region (fun s ρ w s' h hr => ?_); obtain ⟨F, hW, g2, h1, p2, h2, h5, h6⟩ := h; refine ol_m h6 ?_; exact ol_fin hr ⟨F, hW, g2, h1, p2, h2, h5, rfl⟩
      refine Ref.condP (b := fun s => s.t_15) (L := G2 w0 F0) (K := G5 w0 F0) ?_ ?_ ?_
      · rintro s ρ w ⟨F, hW, g2, h1, p2, h2, h5, h15⟩; exact ⟨h15, ⟨F, hW, g2, h1, p2, h2, h5⟩, F, hW, h5⟩
      · exact Ref.skip
      · exact Ref.exit (fun s ρ w h => h)
    refine Ref.block ?_; refine Ref.seq (B := G3 w0 F0) ?_ ?_
    · refine Ref.region (fun s ρ w s' h hr => ?_); obtain ⟨F, hW, g2, h1, p2, h2, h5⟩ := h; refine ol_a rfl ?_; exact ol_fin hr ⟨F, hW, g2, h1, p2, h2, h5, rfl⟩
    refine Ref.seq (B := G6 w0 F0) ?_ ?_
    · refine Ref.region (fun s ρ w s' h hr => ?_); obtain ⟨F, hW, g2, h1, p2, h2, h5, h6⟩ := h; refine ol_a rfl ?_; exact ol_fin hr ⟨F, hW, g2, h1, p2, h2, h5, h6, rfl⟩
    refine Ref.block ?_; refine Ref.loop ?_; refine Ref.seq (B := G6 w0 F0) ?_ ?_
    · refine Ref.seq (B := G7 w0 F0) ?_ ?_
      · refine Ref.region (fun s ρ w s' h hr => ?_); obtain ⟨F, hW, g2, h1, p2, h2, h5, h6, h7⟩ := h; refine ol_m h7 ?_; refine ol_v (e_fa fa_24_0 p2) rfl ?_; obtain ⟨v25, hl26, hs27⟩ := LiesV.sl ((h2).at_.fld fl_ObjectStore_0); refine ol_v (e_ld ty_22 hl26 rfl) rfl ?_; obtain ⟨A28, c29, e30, hc31, R32⟩ := id hs27; refine ol_v (e_len (SlT.sl sl_22) e30) rfl ?_; refine ol_v (e_lss rfl rfl) rfl ?_; exact ol_fin hr ⟨F, hW, g2, h1, p2, h2, h5, h6, h7, rfl⟩
      refine Ref.condP (b := fun s => s.t_20) (L := G6 w0 F0) (K := G3 w0 F0) ?_ ?_ ?_
      · rintro s ρ w ⟨F, hW, g2, h1, p2, h2, h5, h6, h7, h20⟩; exact ⟨h20, ⟨F, hW, g2, h1, p2, h2, h5, h6, h7⟩, F, hW, g2, h1, p2, h2, h5, h6⟩
      · exact Ref.skip
      · exact Ref.exit (fun s ρ w h => h)
    refine Ref.seq (B := G6 w0 F0) ?_ ?_
    · refine Ref.block ?_; refine Ref.seq (B := G8 w0 F0) ?_ ?_
      · refine Ref.region (fun s ρ w s' h hr => ?_); obtain ⟨F, hW, g2, h1, p2, h2, h5, h6, h7⟩ := h; refine ol_v (e_fa fa_24_0 p2) rfl ?_; obtain ⟨v33, hl34, hs35⟩ := LiesV.sl ((h2).at_.fld fl_ObjectStore_0); refine ol_v (e_ld ty_22 hl34 rfl) rfl ?_; refine ol_m h7 ?_; obtain ⟨x36, hx36, hr⟩ := bind_some' hr; obtain ⟨A37, c38, e39, hc40, R41⟩ := id hs35; obtain ⟨b42, o43, hA44, L45⟩ := Row.at_ R41 hx36; refine ol_v (e_ix (SlT.sl sl_22) (SlT.sz sl_22) hA44 hx36 e39 rfl) rfl ?_; refine ol_v (e_fa fa_50_0 rfl) rfl ?_; refine ol_v (e_ld ty_3 (LiesV.int (L45.fld fl_StoredObject_0).at_) rfl) rfl ?_; refine ol_a rfl ?_; exact ol_fin hr ⟨F, hW, g2, h1, p2, h2, h5, h6, h7, rfl⟩
      refine Ref.seq (B := G9 w0 F0) ?_ ?_
      · refine Ref.region (fun s ρ w s' h hr => ?_); obtain ⟨F, hW, g2, h1, p2, h2, h5, h6, h7, h8⟩ := h; refine ol_m rfl ?_; refine ol_m h8 ?_; obtain ⟨x46, hx46, hr⟩ := bind_some' hr; refine ol_e (f_call [(ρ 1), .int .i64 s.t_8] fn_18 (lcons rfl (lcons rfl rfl)) (ref3_Has.calls hW.ok h1 s.t_8 hx46)) rfl rfl ?_; rintro _ w47 ⟨Fz48, rfl, kw1⟩; have hW50 := hW.trans kw1; have st1 := kw1.stp hW.ok; refine ol_a rfl ?_; exact ol_fin hr ⟨Fz48, hW50, g2, (h1.keep st1), p2, (h2.wk kw1 hW.ok), (h5.wk kw1 hW.ok), h6, h7, h8, rfl⟩
      refine Ref.seq (B := G12 w0 F0) ?_ ?_
      · refine Ref.seq (B := G10 w0 F0) ?_ ?_
        · refine Ref.region (fun s ρ w s' h hr => ?_); obtain ⟨F, hW, g2, h1, p2, h2, h5, h6, h7, h8, h9⟩ := h; refine ol_a rfl ?_; exact ol_fin hr ⟨F, hW, g2, h1, p2, h2, h5, h6, h7, h8, h9, rfl⟩
        refine Ref.block ?_; refine Ref.loop ?_; refine Ref.seq (B := G10 w0 F0) ?_ ?_
        · refine Ref.seq (B := G11 w0 F0) ?_ ?_
          · refine Ref.region (fun s ρ w s' h hr => ?_); obtain ⟨F, hW, g2, h1, p2, h2, h5, h6, h7, h8, h9, h10⟩ := h; refine ol_m h10 ?_; refine ol_v (e_fa fa_24_0 p2) rfl ?_; obtain ⟨v51, hl52, hs53⟩ := LiesV.sl ((h2).at_.fld fl_ObjectStore_0); refine ol_v (e_ld ty_22 hl52 rfl) rfl ?_; obtain ⟨A54, c55, e56, hc57, R58⟩ := id hs53; refine ol_v (e_len (SlT.sl sl_22) e56) rfl ?_; refine ol_v (e_lss rfl rfl) rfl ?_; exact ol_fin hr ⟨F, hW, g2, h1, p2, h2, h5, h6, h7, h8, h9, h10, rfl⟩
          refine Ref.condP (b := fun s => s.t_36) (L := G10 w0 F0) (K := G12 w0 F0) ?_ ?_ ?_
          · rintro s ρ w ⟨F, hW, g2, h1, p2, h2, h5, h6, h7, h8, h9, h10, h36⟩; exact ⟨h36, ⟨F, hW, g2, h1, p2, h2, h5, h6, h7, h8, h9, h10⟩, F, hW, g2, h1, p2, h2, h5, h6, h7, h9⟩
          · exact Ref.skip
          · exact Ref.exit (fun s ρ w h => h)
        refine Ref.seq (B := G10 w0 F0) ?_ ?_
        · refine Ref.block ?_; refine Ref.region (fun s ρ w s' h hr => ?_); obtain ⟨F, hW, g2, h1, p2, h2, h5, h6, h7, h8, h9, h10⟩ := h; refine ol_m h9 ?_; obtain ⟨x95, hx96, hr⟩ := bind_some' hr; refine ol_cutA 17 40 56 (fun ρ' w' => ∃ F', Wk nrow w F F' w' ∧ ρ' 56 = .bool x95) rfl ?_ ?_
          · by_cases hb59 : s.t_9 = true
            · have hr := hx96; rw [if_pos hb59] at hr; refine ol_m rfl ?_; refine ol_not rfl rfl rfl (congrArg Value.bool hb59) rfl ?_; refine ol_not rfl rfl rfl (congrArg Value.bool hb59) rfl ?_; refine ol_not rfl rfl rfl (congrArg Value.bool hb59) rfl ?_; refine ol_not rfl rfl rfl (congrArg Value.bool hb59) rfl ?_; refine ol_not rfl rfl rfl (congrArg Value.bool hb59) rfl ?_; refine ol_notU rfl rfl rfl rfl ?_; refine ol_notU rfl rfl rfl rfl ?_; refine ol_notU rfl rfl rfl rfl ?_; refine ol_notU rfl rfl rfl rfl ?_; refine ol_notU rfl rfl rfl rfl ?_; refine ol_notU rfl rfl rfl rfl ?_; refine ol_notU rfl rfl rfl rfl ?_; refine ol_notU rfl rfl rfl rfl ?_; refine ol_notU rfl rfl rfl rfl ?_; refine ol_not rfl rfl rfl (congrArg Value.bool hb59) rfl ?_; refine ol_v (e_pick true _ (congrArg Value.bool hb59) rfl) rfl ?_; exact ol_nil ⟨⟨_, Wk.refl hW.ok, (congrArg Value.bool (Option.some.inj hr))⟩, (Agr.refl _ _ _).u.u.u.u.u.u.u.u.u.u.u.u.u.u.u.u.u⟩
            · have hb60 := Bool.eq_false_iff.mpr hb59; have hr := hx96; rw [if_neg hb59] at hr; refine ol_m rfl ?_; refine ol_yes rfl rfl (congrArg Value.bool hb60) ?_; refine ol_m rfl ?_; refine ol_yes rfl rfl (congrArg Value.bool hb60) ?_; refine ol_m h10 ?_; refine ol_yes rfl rfl (congrArg Value.bool hb60) ?_; obtain ⟨x61, hx61, hr⟩ := bind_some' hr; obtain ⟨g62, o63, c64, hv65, L66⟩ := OwnV.at_ h5 hx61; refine ol_v (e_ixO sl_36 hv65 hx61 rfl rfl) rfl ?_; refine ol_yes rfl rfl (congrArg Value.bool hb60) ?_; refine ol_v (e_ld ty_4 (LiesV.bool L66) rfl) rfl ?_; refine ol_yes rfl rfl (congrArg Value.bool hb60) ?_; obtain ⟨x90, hx91, hr⟩ := bind_some' hr; refine ol_cutA 11 45 55 (fun ρ' w' => ∃ F', Wk nrow w F F' w' ∧ ρ' 55 = .bool x90) rfl ?_ ?_
              · by_cases hb67 : x61 = true
                · have hr := hx91; rw [if_pos hb67] at hr; refine ol_m rfl ?_; refine ol_yes rfl rfl (congrArg Value.bool hb67) ?_; refine ol_v (e_fa fa_24_0 p2) rfl ?_; refine ol_yes rfl rfl (congrArg Value.bool hb67) ?_; obtain ⟨v69, hl70, hs71⟩ := LiesV.sl ((h2).at_.fld fl_ObjectStore_0); refine ol_v (e_ld ty_22 hl70 rfl) rfl ?_; refine ol_yes rfl rfl (congrArg Value.bool hb67) ?_; refine ol_m h10 ?_; refine ol_yes rfl rfl (congrArg Value.bool hb67) ?_; obtain ⟨x72, hx72, hr⟩ := bind_some' hr; obtain ⟨A73, c74, e75, hc76, R77⟩ := id hs71; obtain ⟨b78, o79, hA80, L81⟩ := Row.at_ R77 hx72; refine ol_v (e_ix (SlT.sl sl_22) (SlT.sz sl_22) hA80 hx72 e75 rfl) rfl ?_; refine ol_yes rfl rfl (congrArg Value.bool hb67) ?_; refine ol_v (e_fa fa_50_1 rfl) rfl ?_; refine ol_yes rfl rfl (congrArg Value.bool hb67) ?_; refine ol_v (e_fa fa_48_1 rfl) rfl ?_; refine ol_yes rfl rfl (congrArg Value.bool hb67) ?_; obtain ⟨v82, hl83, hs84⟩ := LiesV.sl ((L81.fld fl_StoredObject_1).fld fl_Object_1).at_; refine ol_v (e_ld ty_30 hl83 rfl) rfl ?_; refine ol_yes rfl rfl (congrArg Value.bool hb67) ?_; refine ol_m h8 ?_; refine ol_yes rfl rfl (congrArg Value.bool hb67) ?_; obtain ⟨x85, hx85, hr⟩ := bind_some' hr; refine ol_e (f_call [v82, .int .i64 s.t_8] fn_18 (lcons rfl (lcons rfl rfl)) (ref3_Has.calls hW.ok hs84 s.t_8 hx85)) rfl rfl ?_; rintro _ w86 ⟨Fz87, rfl, kw1⟩; have hW89 := hW.trans kw1; have st1 := kw1.stp hW.ok; refine ol_yes rfl rfl (congrArg Value.bool hb60) ?_; refine ol_v (e_pick true _ (congrArg Value.bool hb67) rfl) rfl ?_; exact ol_nil ⟨⟨_, kw1, (congrArg Value.bool (Option.some.inj hr))⟩, (Agr.refl _ _ _).u.u.u.u.u.u.u.u.u.u.u⟩
                · have hb68 := Bool.eq_false_iff.mpr hb67; have hr := hx91; rw [if_neg hb67] at hr; refine ol_m rfl ?_; refine ol_not rfl rfl rfl (congrArg Value.bool hb68) rfl ?_; refine ol_not rfl rfl rfl (congrArg Value.bool hb68) rfl ?_; refine ol_not rfl rfl rfl (congrArg Value.bool hb68) rfl ?_; refine ol_not rfl rfl rfl (congrArg Value.bool hb68) rfl ?_; refine ol_not rfl rfl rfl (congrArg Value.bool hb68) rfl ?_; refine ol_not rfl rfl rfl (congrArg Value.bool hb68) rfl ?_; refine ol_not rfl rfl rfl (congrArg Value.bool hb68) rfl ?_; refine ol_not rfl rfl rfl (congrArg Value.bool hb68) rfl ?_; refine ol_not rfl rfl rfl (congrArg Value.bool hb68) rfl ?_; refine ol_yes rfl rfl (congrArg Value.bool hb60) ?_; refine ol_v (e_pick false _ (congrArg Value.bool hb68) rfl) rfl ?_; exact ol_nil ⟨⟨_, Wk.refl hW.ok, (congrArg Value.bool (Option.some.inj hr))⟩, (Agr.refl _ _ _).u.u.u.u.u.u.u.u.u.u.u⟩
              rintro ρ91 w92 ⟨⟨Fz93, kw1, hp91⟩, hAg91⟩; have hW94 := hW.trans kw1; have st1 := kw1.stp hW.ok; refine ol_v (e_pick false _ ((hAg91 40 rfl).trans (congrArg Value.bool hb60)) hp91) rfl ?_; exact ol_nil ⟨⟨_, kw1, (congrArg Value.bool (Option.some.inj hr))⟩, (((Agr.refl _ _ _).u.u.u.u.u.into hAg91 rfl rfl).upd rfl rfl)⟩
          rintro ρ96 w97 ⟨⟨Fz98, kw1, hp96⟩, hAg96⟩; have hW99 := hW.trans kw1; have st1 := kw1.stp hW.ok; refine ol_a hp96 ?_; exact ol_fin hr ⟨Fz98, hW99, g2, (SlR.eqv (hAg96 1 rfl) (h1.keep st1)), ((hAg96 2 rfl).trans p2), (h2.wk kw1 hW.ok), (OwnV.eqv (hAg96 5 rfl) (h5.wk kw1 hW.ok)), ((hAg96 6 rfl).trans h6), ((hAg96 7 rfl).trans h7), ((hAg96 8 rfl).trans h8), rfl, ((hAg96 10 rfl).trans h10)⟩
        refine Ref.region (fun s ρ w s' h hr => ?_); obtain ⟨F, hW, g2, h1, p2, h2, h5, h6, h7, h8, h9, h10⟩ := h; refine ol_m h10 ?_; refine ol_v (e_add rfl rfl) rfl ?_; refine ol_a rfl ?_; exact ol_fin hr ⟨F, hW, g2, h1, p2, h2, h5, h6, h7, h8, h9, rfl⟩
      refine Ref.seq (B := G13 w0 F0) ?_ ?_
      · refine Ref.region (fun s ρ w s' h hr => ?_); obtain ⟨F, hW, g2, h1, p2, h2, h5, h6, h7, h9⟩ := h; refine ol_m h9 ?_; obtain ⟨x108, hx109, hr⟩ := bind_some' hr; refine ol_cutA 7 58 64 (fun ρ' w' => w = w' ∧ ρ' 64 = .bool x108) rfl ?_ ?_
        · by_cases hb100 : s.t_9 = true
          · have hr := hx109; rw [if_pos hb100] at hr; refine ol_m rfl ?_; refine ol_yes rfl rfl (congrArg Value.bool hb100) ?_; refine ol_m rfl ?_; refine ol_yes rfl rfl (congrArg Value.bool hb100) ?_; refine ol_m h7 ?_; refine ol_yes rfl rfl (congrArg Value.bool hb100) ?_; obtain ⟨x102, hx102, hr⟩ := bind_some' hr; obtain ⟨g103, o104, c105, hv106, L107⟩ := OwnV.at_ h5 hx102; refine ol_v (e_ixO sl_36 hv106 hx102 rfl rfl) rfl ?_; refine ol_yes rfl rfl (congrArg Value.bool hb100) ?_; refine ol_v (e_ld ty_4 (LiesV.bool L107) rfl) rfl ?_; refine ol_yes rfl rfl (congrArg Value.bool hb100) ?_; refine ol_v (e_not_ rfl) rfl ?_; refine ol_v (e_pick true _ (congrArg Value.bool hb100) rfl) rfl ?_; exact ol_nil ⟨⟨rfl, (congrArg Value.bool (Option.some.inj hr))⟩, (Agr.refl _ _ _).u.u.u.u.u.u.u⟩
          · have hb101 := Bool.eq_false_iff.mpr hb100; have hr := hx109; rw [if_neg hb100] at hr; refine ol_m rfl ?_; refine ol_not rfl rfl rfl (congrArg Value.bool hb101) rfl ?_; refine ol_not rfl rfl rfl (congrArg Value.bool hb101) rfl ?_; refine ol_not rfl rfl rfl (congrArg Value.bool hb101) rfl ?_; refine ol_not rfl rfl rfl (congrArg Value.bool hb101) rfl ?_; refine ol_not rfl rfl rfl (congrArg Value.bool hb101) rfl ?_; refine ol_v (e_pick false _ (congrArg Value.bool hb101) rfl) rfl ?_; exact ol_nil ⟨⟨rfl, (congrArg Value.bool (Option.some.inj hr))⟩, (Agr.refl _ _ _).u.u.u.u.u.u.u⟩
        rintro ρ109 _ ⟨⟨rfl, hp109⟩, hAg109⟩; exact ol_fin hr ⟨F, hW, g2, (SlR.eqv (hAg109 1 rfl) h1), ((hAg109 2 rfl).trans p2), h2, (OwnV.eqv (hAg109 5 rfl) h5), ((hAg109 6 rfl).trans h6), ((hAg109 7 rfl).trans h7), hp109⟩
      refine Ref.condP (b := fun s => s.t_64) (L := G14 w0 F0) (K := G6 w0 F0) ?_ ?_ ?_
      · rintro s ρ w ⟨F, hW, g2, h1, p2, h2, h5, h6, h7, h64⟩; exact ⟨h64, ⟨F, hW, g2, h1, p2, h2, h5, h7⟩, F, hW, g2, h1, p2, h2, h5, h6, h7⟩
      · refine Ref.seq (B := G14 w0 F0) ?_ ?_
        · refine Ref.region (fun s ρ w s' h hr => ?_); obtain ⟨F, hW, g2, h1, p2, h2, h5, h7⟩ := h; refine ol_m rfl ?_; refine ol_m h7 ?_; obtain ⟨x110, hx110, hr⟩ := bind_some' hr; obtain ⟨g111, o112, c113, hv114, L115⟩ := OwnV.at_ h5 hx110; refine ol_v (e_ixO sl_36 hv114 hx110 rfl rfl) rfl ?_; refine ol_eN (f_stO hW h5 hx110 (FldS.whole _) ty_4 (val_bool _) hv114 rfl rfl) rfl ?_; rintro - w116 ⟨hW117, ho118, hg1, st1⟩; exact ol_fin hr ⟨F, hW117, g2, (h1.keep st1), p2, (h2.mut (apart_bo h2 h5 rfl).symm hg1 st1), ho118, h7⟩
        refine Ref.region (fun s ρ w s' h hr => ?_); obtain ⟨F, hW, g2, h1, p2, h2, h5, h7⟩ := h; refine ol_a rfl ?_; exact ol_fin hr ⟨F, hW, g2, h1, p2, h2, h5, rfl, h7⟩
      · exact Ref.skip
    refine Ref.region (fun s ρ w s' h hr => ?_); obtain ⟨F, hW, g2, h1, p2, h2, h5, h6, h7⟩ := h; refine ol_m h7 ?_; refine ol_v (e_add rfl rfl) rfl ?_; refine ol_a rfl ?_; exact ol_fin hr ⟨F, hW, g2, h1, p2, h2, h5, h6, rfl⟩
  refine Ref.seq (B := G15 w0 F0) ?_ ?_
  · refine Ref.region (fun s ρ w s' h hr => ?_); obtain ⟨F, hW, h5⟩ := h; refine ol_m rfl ?_; refine ol_a rfl ?_; exact ol_fin hr ⟨F, hW, h5⟩
  exact Ref.ret (fun s ρ w h => ⟨s, rfl, h⟩)
def post (w : World) (F : BSet) (r : R) (v : Value) (w' : World) : Prop := ∃ (F' : BSet) (v0' : Value), v = v0' ∧ Wk nrow w F F' w' ∧ OwnV kBool 4 (Nw w) F' w' v0' r
theorem calls {w : World} {F : BSet} (hok : ∀ b, F b → b < w.heap.size) {v0 : Value} {a0 : ObjectStore} (h0 : Val k_ObjectStore F w v0 a0) {v1 : Value} {a1 : (List Int)} (h1 : SlR (kInt .i64) F w v1 a1) {r : R} (hf : f a0 a1 = some r) : Calls Tryd.prog 12 #[v0, v1] w fun e w' => ∃ v, e = .returned v ∧ post w F r v w' := by
  obtain ⟨c, hc, href⟩ := ref w F; refine calls_of_ref (args := [v0, v1]) _ Tryd.func12 hc rfl rfl href ?_ (retOf_some hf) ?_
  · exact ⟨F, Wk.refl hok, h0, h1⟩
  · rintro ρ w' a ⟨s, rfl, F', hW, h4⟩ hF; refine ⟨_, run_results (rs := [.tmp 4]) rfl hF (vs := [ρ 4]) (⟨_, rfl, rfl⟩), ?_⟩; exact ⟨F', ρ 4, rfl, hW, h4.rebase (fun g hg => (h4.lt hg).1.resolve_right (fun h => h))⟩
end
end ref4_Marked

namespace ref4_Chosen
section
abbrev c1 (F : BSet) (w : World) (ρ : Env) (s : S) (X : Prop) : Prop := SlR kBool F w (ρ 1) s.in_1 ∧ ρ 2 = .bool s.which_2 ∧ X
abbrev c2 (ρ : Env) (g3 : Nat) (w0 w : World) (F : BSet) (s : S) (X : Prop) : Prop := ρ 3 = .pointer (some ⟨g3, 0, none⟩) ∧ Box k_ObjectStore 24 (Bs w0 nrow) F w g3 s.s_3 ∧ X
abbrev c3 (ρ : Env) (g6 : Nat) (w0 w : World) (F : BSet) (s : S) (X : Prop) : Prop := ρ 6 = .pointer (some ⟨g6, 0, none⟩) ∧ Box k_ObjectStore 24 (Bs w0 nrow) F w g6 s.t_6 ∧ X
abbrev c5 (ρ : Env) (g7 : Nat) (w0 w : World) (F : BSet) (v7_0 : Value) (s : S) (X : Prop) : Prop := ρ 7 = .pointer (some ⟨g7, 0, none⟩) ∧ Box k_ObjectStore_r 24 (Bs w0 nrow) F w g7 (⟨v7_0⟩ : ObjectStore_r) ∧ OwnV k_StoredObject 50 (Bs w0 nrow) F w v7_0 s.out_7.Objects ∧ X
abbrev e7 (g6 g7 : Nat) : Prop := Apart (some g6) (some g7)
def G0 : GT S := fun w0 F0 s ρ w => ∃ F, Wk nrow w0 F0 F w ∧ Val k_ObjectStore F w (ρ 0) s.s_0 ∧ SlR kBool F w (ρ 1) s.in_1 ∧ ρ 2 = .bool s.which_2
def G1 : GT S := fun w0 F0 s ρ w => ∃ F, Wk nrow w0 F0 F w ∧ ∃ g3 g6, c1 F w ρ s (c2 ρ g3 w0 w F s (c3 ρ g6 w0 w F s (Apart (some g3) (some g6))))
def G2 : GT S := fun w0 F0 s ρ w => ∃ F, Wk nrow w0 F0 F w ∧ ∃ g3 g6 g7 v7_0, c1 F w ρ s (c2 ρ g3 w0 w F s (c3 ρ g6 w0 w F s (c5 ρ g7 w0 w F v7_0 s (Apart (some g3) (some g6) ∧ Apart (some g3) (some g7) ∧ e7 g6 g7))))
def G3 : GT S := fun w0 F0 s ρ w => ∃ F, Wk nrow w0 F0 F w ∧ ∃ g3 g6 g7 v7_0, c1 F w ρ s (c2 ρ g3 w0 w F s (c3 ρ g6 w0 w F s (c5 ρ g7 w0 w F v7_0 s (ρ 8 = .int .i64 s.i_8 ∧ Apart (some g3) (some g6) ∧ Apart (some g3) (some g7) ∧ e7 g6 g7))))
def G4 : GT S := fun w0 F0 s ρ w => ∃ F, Wk nrow w0 F0 F w ∧ ∃ g3 g6 g7 v7_0, c1 F w ρ s (c2 ρ g3 w0 w F s (c3 ρ g6 w0 w F s (c5 ρ g7 w0 w F v7_0 s (ρ 8 = .int .i64 s.i_8 ∧ ρ 13 = .bool s.t_13 ∧ Apart (some g3) (some g6) ∧ Apart (some g3) (some g7) ∧ e7 g6 g7))))
def G5 : GT S := fun w0 F0 s ρ w => ∃ F, Wk nrow w0 F0 F w ∧ ∃ g6 g7 v7_0, c3 ρ g6 w0 w F s (c5 ρ g7 w0 w F v7_0 s (e7 g6 g7))
def G6 : GT S := fun w0 F0 s ρ w => ∃ F, Wk nrow w0 F0 F w ∧ ∃ g3 g6 g7 v7_0, c1 F w ρ s (c2 ρ g3 w0 w F s (c3 ρ g6 w0 w F s (c5 ρ g7 w0 w F v7_0 s (ρ 8 = .int .i64 s.i_8 ∧ ρ 21 = .bool s.t_21 ∧ Apart (some g3) (some g6) ∧ Apart (some g3) (some g7) ∧ e7 g6 g7))))
def G7 : GT S := fun w0 F0 s ρ w => ∃ F, Wk nrow w0 F0 F w ∧ ∃ g6, ρ 6 = .pointer (some ⟨g6, 0, none⟩) ∧ Box k_ObjectStore 24 (Bs w0 nrow) F w g6 s.t_6
set_option maxHeartbeats 4000000 in
set_option maxRecDepth 20000 in
theorem ref (w0 : World) (F0 : BSet) : ∃ c, Tryd.f15.body = some c ∧ Ref Tryd.prog 33 c (G0 w0 F0) body (fun _ _ _ => False) (fun _ _ _ _ => False) (fun r ρ w => ∃ s, retv s = r ∧ G7 w0 F0 s ρ w) := by
  refine ⟨_, rfl, ?_⟩; unfold body; refine Ref.seq (B := G1 w0 F0) ?_ ?_
  · refine Ref.region (fun s ρ w s' h hr => ?_); obtain ⟨F, hW, h0, h1, h2⟩ := h; refine ol_e (f_box hW rfl h0) rfl rfl ?_; rintro _ w5 ⟨g4, rfl, kw1, ho6⟩; have hW7 := hW.trans kw1; have st1 := kw1.stp hW.ok; refine ol_e (f_alloc zer_24 hW7) rfl rfl ?_; rintro _ w10 ⟨g9, rfl, kw2, ho11⟩; have hW12 := hW7.trans kw2; have st2 := kw2.stp hW7.ok; exact ol_fin hr ⟨F, hW12, g4, g9, (h1.keep (st1.trans st2)), h2, rfl, ((ho6.base (row := nrow) hW.le).wk kw2 hW7.ok), rfl, (ho11.base (row := nrow) hW7.le), (Apart.base (fun _ e_ => by cases e_; exact ho11.ge) (ho6.base (row := nrow) hW.le).ltw).symm⟩
  refine Ref.seq (B := G2 w0 F0) ?_ ?_
  · refine Ref.region (fun s ρ w s' h hr => ?_); obtain ⟨F, hW, g3, g6, h1, h2, p3, h3, p6, h6, a3b_6b⟩ := h; refine ol_v (e_bld (cells := #[(Value.slice none 0 0)]) bld_24 (vs := []) rfl rfl) rfl ?_; have hb13 : Val k_ObjectStore_r F w (.agg #[(Value.slice none 0 0)]) (⟨(Value.slice none 0 0)⟩ : ObjectStore_r) := mk_ObjectStore_r (OwnV.raw (OwnV.nil k_StoredObject 50 (Bs w0 nrow) F w)); refine ol_e (f_alloc zerT_24 hW) rfl rfl ?_; rintro _ w15 ⟨g14, rfl, kw1, ho16⟩; have hW17 := hW.trans kw1; have st1 := kw1.stp hW.ok; refine ol_eN (f_stB hW17 (ho16.base (row := nrow) hW.le) (FldS.whole _) tyT_24 (hb13.keep st1) rfl rfl) rfl ?_; rintro - w18 ⟨hW19, ho20, hg2, st2⟩; have z1 := (OwnV.nil k_StoredObject 50 (Bs w0 nrow) F w).wk kw1 hW.ok; exact ol_fin hr ⟨F, hW19, g3, g6, g14, (Value.slice none 0 0), (h1.keep (st1.trans st2)), h2, p3, ((h3.wk kw1 hW.ok).mut (Apart.base (fun _ e_ => by cases e_; exact ho16.ge) h3.ltw) hg2 st2), p6, ((h6.wk kw1 hW.ok).mut (Apart.base (fun _ e_ => by cases e_; exact ho16.ge) h6.ltw) hg2 st2), rfl, ho20, (z1.mut (apart_bo (ho16.base (row := nrow) hW.le) z1 rfl) hg2 st2), a3b_6b, (Apart.base (fun _ e_ => by cases e_; exact ho16.ge) h3.ltw).symm, (Apart.base (fun _ e_ => by cases e_; exact ho16.ge) h6.ltw).symm⟩
  refine Ref.seq (B := G5 w0 F0) ?_ ?_
  · refine Ref.seq (B := G3 w0 F0) ?_ ?_
    · refine Ref.region (fun s ρ w s' h hr => ?_); obtain ⟨F, hW, g3, g6, g7, v7_0, h1, h2, p3, h3, p6, h6, p7, b7, h7_0, a3b_6b, a3b_7b, a6b_7b⟩ := h; refine ol_a rfl ?_; exact ol_fin hr ⟨F, hW, g3, g6, g7, v7_0, h1, h2, p3, h3, p6, h6, p7, b7, h7_0, rfl, a3b_6b, a3b_7b, a6b_7b⟩
    refine Ref.block ?_; refine Ref.loop ?_; refine Ref.seq (B := G3 w0 F0) ?_ ?_
    · refine Ref.seq (B := G4 w0 F0) ?_ ?_
      · refine Ref.region (fun s ρ w s' h hr => ?_); obtain ⟨F, hW, g3, g6, g7, v7_0, h1, h2, p3, h3, p6, h6, p7, b7, h7_0, h8, a3b_6b, a3b_7b, a6b_7b⟩ := h; refine ol_m h8 ?_; refine ol_m rfl ?_; obtain ⟨A21, c22, e23, hc24, R25⟩ := id h1; refine ol_v (e_len (SlT.sl sl_36) e23) rfl ?_; refine ol_v (e_lss rfl rfl) rfl ?_; exact ol_fin hr ⟨F, hW, g3, g6, g7, v7_0, h1, h2, p3, h3, p6, h6, p7, b7, h7_0, h8, rfl, a3b_6b, a3b_7b, a6b_7b⟩
      refine Ref.condP (b := fun s => s.t_13) (L := G3 w0 F0) (K := G5 w0 F0) ?_ ?_ ?_
      · rintro s ρ w ⟨F, hW, g3, g6, g7, v7_0, h1, h2, p3, h3, p6, h6, p7, b7, h7_0, h8, h13, a3b_6b, a3b_7b, a6b_7b⟩; exact ⟨h13, ⟨F, hW, g3, g6, g7, v7_0, h1, h2, p3, h3, p6, h6, p7, b7, h7_0, h8, a3b_6b, a3b_7b, a6b_7b⟩, F, hW, g6, g7, v7_0, p6, h6, p7, b7, h7_0, a6b_7b⟩
      · exact Ref.skip
      · exact Ref.exit (fun s ρ w h => h)
    refine Ref.seq (B := G3 w0 F0) ?_ ?_
    · refine Ref.block ?_; refine Ref.seq (B := G6 w0 F0) ?_ ?_
      · refine Ref.region (fun s ρ w s' h hr => ?_); obtain ⟨F, hW, g3, g6, g7, v7_0, h1, h2, p3, h3, p6, h6, p7, b7, h7_0, h8, a3b_6b, a3b_7b, a6b_7b⟩ := h; refine ol_m rfl ?_; refine ol_m h8 ?_; obtain ⟨x26, hx26, hr⟩ := bind_some' hr; obtain ⟨A27, c28, e29, hc30, R31⟩ := id h1; obtain ⟨b32, o33, hA34, L35⟩ := Row.at_ R31 hx26; refine ol_v (e_ix (SlT.sl sl_36) (SlT.sz sl_36) hA34 hx26 e29 rfl) rfl ?_; refine ol_v (e_ld ty_4 (LiesV.bool L35.at_) rfl) rfl ?_; refine ol_m h2 ?_; refine ol_v (e_beql (by kernel_rfl) rfl rfl) rfl ?_; exact ol_fin hr ⟨F, hW, g3, g6, g7, v7_0, h1, h2, p3, h3, p6, h6, p7, b7, h7_0, h8, rfl, a3b_6b, a3b_7b, a6b_7b⟩
      refine Ref.condP (b := fun s => s.t_21) (L := G3 w0 F0) (K := G3 w0 F0) ?_ ?_ ?_
      · rintro s ρ w ⟨F, hW, g3, g6, g7, v7_0, h1, h2, p3, h3, p6, h6, p7, b7, h7_0, h8, h21, a3b_6b, a3b_7b, a6b_7b⟩; exact ⟨h21, ⟨F, hW, g3, g6, g7, v7_0, h1, h2, p3, h3, p6, h6, p7, b7, h7_0, h8, a3b_6b, a3b_7b, a6b_7b⟩, F, hW, g3, g6, g7, v7_0, h1, h2, p3, h3, p6, h6, p7, b7, h7_0, h8, a3b_6b, a3b_7b, a6b_7b⟩
      · refine Ref.regionH (by kernel_rfl) (fun s ρ w ⟨F, hW, g3, g6, g7, v7_0, h1, h2, p3, h3, p6, h6, p7, b7, h7_0, h8, a3b_6b, a3b_7b, a6b_7b⟩ => ⟨F, hW.drewS, g3, g6, g7, v7_0, h1.keep (sd hW), h2, p3, h3.wk (Wk.drew (row := nrow) hW.ok) hW.ok, p6, h6.wk (Wk.drew (row := nrow) hW.ok) hW.ok, p7, b7.wk (Wk.drew (row := nrow) hW.ok) hW.ok, h7_0.wk (Wk.drew (row := nrow) hW.ok) hW.ok, h8, a3b_6b, a3b_7b, a6b_7b⟩) (fun s ρ w s' h hr => ?_); obtain ⟨F, hW, g3, g6, g7, v7_0, h1, h2, p3, h3, p6, h6, p7, b7, h7_0, h8, a3b_6b, a3b_7b, a6b_7b⟩ := h; refine ⟨fun w' => Stp F w F w' ∧ w'.heap[g3]? = w.heap[g3]?, ?_⟩; refine oh_v 0 rfl (by kernel_rfl) (by kernel_rfl) (by kernel_rfl) ⟨(Stp.refl _ _), rfl⟩ (fun wv_ SV => e_fa fa_24_0 p7) rfl ?_; refine oh_v 2 rfl (by kernel_rfl) (by kernel_rfl) (by kernel_rfl) ⟨(Stp.refl _ _), rfl⟩ (fun wv_ SV => e_fa fa_24_0 p3) rfl ?_; obtain ⟨v65, hl66, hs67⟩ := LiesV.sl ((h3).at_.fld fl_ObjectStore_0); refine oh_v 3 rfl (by kernel_rfl) (by kernel_rfl) (by kernel_rfl) ⟨(Stp.refl _ _), rfl⟩ (fun wv_ SV => e_ld ty_22 (hl66.same SV.1 SV.2) rfl) rfl ?_; refine oh_v 4 rfl (by kernel_rfl) (by kernel_rfl) (by kernel_rfl) ⟨(Stp.refl _ _), rfl⟩ (fun wv_ SV => e_mv _ h8) rfl ?_; obtain ⟨x68, hx68, hr⟩ := bind_some' hr; obtain ⟨A69, c70, e71, hc72, R73⟩ := id hs67; obtain ⟨b74, o75, hA76, L77⟩ := Row.at_ R73 hx68; refine oh_v 5 rfl (by kernel_rfl) (by kernel_rfl) (by kernel_rfl) ⟨(Stp.refl _ _), rfl⟩ (fun wv_ SV => e_ix (SlT.sl sl_22) (SlT.sz sl_22) hA76 hx68 e71 rfl) rfl ?_; obtain ⟨v78, hl79⟩ := LiesAt.v L77.at_; refine oh_v 6 rfl (by kernel_rfl) (by kernel_rfl) (by kernel_rfl) ⟨(Stp.refl _ _), rfl⟩ (fun wv_ SV => e_ld ty_50 (hl79.same SV.1 (SV.1.keep _ L77.1)) rfl) rfl ?_; refine oh_all [1, 7] (by kernel_rfl) rfl ⟨?_, ?_, trivial⟩
        · refine oh1_v rfl (e_ld (v := v7_0) tyr_22 (LiesV.raw ((b7).at_.fld fl_ObjectStore_r_0)) rfl) rfl ?_; refine ⟨⟨(Stp.refl _ _), rfl⟩, ?_⟩; refine oh_all [7] (by kernel_rfl) rfl ⟨?_, trivial⟩
          · refine oh1_e rfl (f_bslF sl_22 hW ([x68] : List StoredObject) [v78] (by exact ⟨_, _, rfl, hl79.val, rfl⟩) rfl (Nat.le_of_ble_eq_true rfl) (lcons (congrArg (Prod.mk 0) rfl) rfl)) rfl ?_; rintro v80 w81 ⟨Fz83, kw1, ho82⟩; have hW84 := hW.trans kw1; have st1 := kw1.stp hW.ok; have hh1_3 : w81.heap[g3]? = w.heap[g3]? := (h3.hpw kw1); refine ⟨⟨(Stp.back st1), hh1_3⟩, ?_⟩; refine oh_all [8] (by kernel_rfl) rfl ⟨?_, trivial⟩
            · obtain ⟨x85, hx85, hr⟩ := bind_some' hr; refine oh1_e rfl (f_app sl_22 hW84 (h7_0.wk kw1 hW.ok) ho82 hx85 rfl rfl) rfl ?_; rintro v86 w87 ⟨hW88, ho89, hg2, st2, hor90⟩; have hh2_3 : w87.heap[g3]? = w.heap[g3]? := (((h3.wk kw1 hW.ok).hpm (apart_bo (h3.wk kw1 hW.ok) (h7_0.wk kw1 hW.ok) rfl).symm hg2).trans hh1_3); refine ⟨⟨(Stp.back (st1.trans st2)), hh2_3⟩, ?_⟩; refine oh_v 9 rfl (by kernel_rfl) (by kernel_rfl) (by kernel_rfl) ⟨(Stp.back (st1.trans st2)), hh2_3⟩ (fun wv_ SV => e_fa fa_24_0 p7) rfl ?_; refine oh_all [10] (by kernel_rfl) rfl ⟨?_, trivial⟩
              · refine oh1_eN rfl (f_stB (l := kRaw) hW88 ((b7.wk kw1 hW.ok).mut (apart_bo (b7.wk kw1 hW.ok) (h7_0.wk kw1 hW.ok) rfl).symm hg2 st2) fs_ObjectStore_r_0 tyr_22 (OwnV.raw ho89) rfl rfl) ?_; rintro - w91 ⟨hW92, ho93, hg3, st3⟩; have hh3_3 : w91.heap[g3]? = w.heap[g3]? := ((((h3.wk kw1 hW.ok).mut (apart_bo (h3.wk kw1 hW.ok) (h7_0.wk kw1 hW.ok) rfl).symm hg2 st2).hpm a3b_7b.symm hg3).trans hh2_3); refine ⟨⟨(Stp.back (st1.trans (st2.trans st3))), hh3_3⟩, ?_⟩; obtain rfl := Option.some.inj hr; exact oh_done (by kernel_rfl) ⟨Fz83, hW92, g3, g6, g7, v86, (h1.keep (st1.trans (st2.trans st3))), h2, p3, (((h3.wk kw1 hW.ok).mut (apart_bo (h3.wk kw1 hW.ok) (h7_0.wk kw1 hW.ok) rfl).symm hg2 st2).mut a3b_7b.symm hg3 st3), p6, (((h6.wk kw1 hW.ok).mut (apart_bo (h6.wk kw1 hW.ok) (h7_0.wk kw1 hW.ok) rfl).symm hg2 st2).mut a6b_7b.symm hg3 st3), p7, ho93, (ho89.mut (apart_bo ((b7.wk kw1 hW.ok).mut (apart_bo (b7.wk kw1 hW.ok) (h7_0.wk kw1 hW.ok) rfl).symm hg2 st2) ho89 rfl) hg3 st3), h8, a3b_6b, a3b_7b.symm.symm, a6b_7b.symm.symm⟩
        · refine oh1_e rfl (f_bslF sl_22 hW ([x68] : List StoredObject) [v78] (by exact ⟨_, _, rfl, hl79.val, rfl⟩) rfl (Nat.le_of_ble_eq_true rfl) (lcons (congrArg (Prod.mk 0) rfl) rfl)) rfl ?_; rintro v94 w95 ⟨Fz97, kw1, ho96⟩; have hW98 := hW.trans kw1; have st1 := kw1.stp hW.ok; have hh1_3 : w95.heap[g3]? = w.heap[g3]? := (h3.hpw kw1); refine ⟨⟨(Stp.back st1), hh1_3⟩, ?_⟩; refine oh_all [1] (by kernel_rfl) rfl ⟨?_, trivial⟩
          · refine oh1_v rfl (e_ld (v := v7_0) tyr_22 (LiesV.raw (((b7.wk kw1 hW.ok)).at_.fld fl_ObjectStore_r_0)) rfl) rfl ?_; refine ⟨⟨(Stp.back st1), hh1_3⟩, ?_⟩; refine oh_all [8] (by kernel_rfl) rfl ⟨?_, trivial⟩
            · obtain ⟨x85, hx85, hr⟩ := bind_some' hr; refine oh1_e rfl (f_app sl_22 hW98 (h7_0.wk kw1 hW.ok) ho96 hx85 rfl rfl) rfl ?_; rintro v99 w100 ⟨hW101, ho102, hg2, st2, hor103⟩; have hh2_3 : w100.heap[g3]? = w.heap[g3]? := (((h3.wk kw1 hW.ok).hpm (apart_bo (h3.wk kw1 hW.ok) (h7_0.wk kw1 hW.ok) rfl).symm hg2).trans hh1_3); refine ⟨⟨(Stp.back (st1.trans st2)), hh2_3⟩, ?_⟩; refine oh_v 9 rfl (by kernel_rfl) (by kernel_rfl) (by kernel_rfl) ⟨(Stp.back (st1.trans st2)), hh2_3⟩ (fun wv_ SV => e_fa fa_24_0 p7) rfl ?_; refine oh_all [10] (by kernel_rfl) rfl ⟨?_, trivial⟩
              · refine oh1_eN rfl (f_stB (l := kRaw) hW101 ((b7.wk kw1 hW.ok).mut (apart_bo (b7.wk kw1 hW.ok) (h7_0.wk kw1 hW.ok) rfl).symm hg2 st2) fs_ObjectStore_r_0 tyr_22 (OwnV.raw ho102) rfl rfl) ?_; rintro - w104 ⟨hW105, ho106, hg3, st3⟩; have hh3_3 : w104.heap[g3]? = w.heap[g3]? := ((((h3.wk kw1 hW.ok).mut (apart_bo (h3.wk kw1 hW.ok) (h7_0.wk kw1 hW.ok) rfl).symm hg2 st2).hpm a3b_7b.symm hg3).trans hh2_3); refine ⟨⟨(Stp.back (st1.trans (st2.trans st3))), hh3_3⟩, ?_⟩; obtain rfl := Option.some.inj hr; exact oh_done (by kernel_rfl) ⟨Fz97, hW105, g3, g6, g7, v99, (h1.keep (st1.trans (st2.trans st3))), h2, p3, (((h3.wk kw1 hW.ok).mut (apart_bo (h3.wk kw1 hW.ok) (h7_0.wk kw1 hW.ok) rfl).symm hg2 st2).mut a3b_7b.symm hg3 st3), p6, (((h6.wk kw1 hW.ok).mut (apart_bo (h6.wk kw1 hW.ok) (h7_0.wk kw1 hW.ok) rfl).symm hg2 st2).mut a6b_7b.symm hg3 st3), p7, ho106, (ho102.mut (apart_bo ((b7.wk kw1 hW.ok).mut (apart_bo (b7.wk kw1 hW.ok) (h7_0.wk kw1 hW.ok) rfl).symm hg2 st2) ho102 rfl) hg3 st3), h8, a3b_6b, a3b_7b.symm.symm, a6b_7b.symm.symm⟩
      · exact Ref.skip
    refine Ref.region (fun s ρ w s' h hr => ?_); obtain ⟨F, hW, g3, g6, g7, v7_0, h1, h2, p3, h3, p6, h6, p7, b7, h7_0, h8, a3b_6b, a3b_7b, a6b_7b⟩ := h; refine ol_m h8 ?_; refine ol_v (e_add rfl rfl) rfl ?_; refine ol_a rfl ?_; exact ol_fin hr ⟨F, hW, g3, g6, g7, v7_0, h1, h2, p3, h3, p6, h6, p7, b7, h7_0, rfl, a3b_6b, a3b_7b, a6b_7b⟩
  refine Ref.seq (B := G7 w0 F0) ?_ ?_
  · refine Ref.region (fun s ρ w s' h hr => ?_); obtain ⟨F, hW, g6, g7, v7_0, p6, h6, p7, b7, h7_0, a6b_7b⟩ := h; obtain ⟨v107, hl108⟩ := LiesAt.v (b7).at_; refine ol_v (e_ld tyT_24 hl108 p7) rfl ?_; obtain ⟨Fz109, hWz110, st1, hF1, hz111⟩ := (h7_0).frozen hW; have hb112 : Val k_ObjectStore Fz109 w v107 (⟨s.out_7.Objects⟩ : ObjectStore) := un_ObjectStore (hl108.val.keep st1) hz111; refine ol_eN (f_stB hWz110 (h6.frz (apart_bo h6 h7_0 rfl).symm hF1 st1) (FldS.whole _) ty_24 hb112 p6 rfl) rfl ?_; rintro - w113 ⟨hW114, ho115, hg2, st2⟩; exact ol_fin hr ⟨Fz109, hW114, g6, p6, ho115⟩
  exact Ref.ret (fun s ρ w h => ⟨s, rfl, h⟩)
def post (w : World) (F : BSet) (r : R) (v : Value) (w' : World) : Prop := ∃ (F' : BSet) (v0' : Value), v = v0' ∧ Wk nrow w F F' w' ∧ Val k_ObjectStore F' w' v0' r
theorem calls {w : World} {F : BSet} (hok : ∀ b, F b → b < w.heap.size) {v0 : Value} {a0 : ObjectStore} (h0 : Val k_ObjectStore F w v0 a0) {v1 : Value} {a1 : (List Bool)} (h1 : SlR kBool F w v1 a1) (a2 : Bool) {r : R} (hf : f a0 a1 a2 = some r) : Calls Tryd.prog 15 #[v0, v1, .bool a2] w fun e w' => ∃ v, e = .returned v ∧ post w F r v w' := by
  obtain ⟨c, hc, href⟩ := ref w F; refine calls_of_ref (args := [v0, v1, .bool a2]) _ Tryd.func15 hc rfl rfl href ?_ (retOf_some hf) ?_
  · exact ⟨F, Wk.refl hok, h0, h1, rfl⟩
  · rintro ρ w' a ⟨s, rfl, F', hW, g6, p6, h6⟩ hF; obtain ⟨u6, l6, k6⟩ := res_box (P := Tryd.prog) ty_24 h6; refine ⟨_, run_results (rs := [.cell 6 24]) rfl hF (vs := [u6]) (⟨_, _, _, rfl, p6, l6, rfl⟩), ?_⟩; exact ⟨F', u6, rfl, hW, k6⟩
end
end ref4_Chosen

namespace ref4_DigestsOf
section
abbrev c1 (ρ : Env) (g1 : Nat) (w0 w : World) (F : BSet) (s : S) (X : Prop) : Prop := ρ 1 = .pointer (some ⟨g1, 0, none⟩) ∧ Box k_ObjectStore 24 (Bs w0 nrow) F w g1 s.s_1 ∧ X
def G0 : GT S := fun w0 F0 s ρ w => ∃ F, Wk nrow w0 F0 F w ∧ Val k_ObjectStore F w (ρ 0) s.s_0
def G1 : GT S := fun w0 F0 s ρ w => ∃ F, Wk nrow w0 F0 F w ∧ ∃ g1, ρ 1 = .pointer (some ⟨g1, 0, none⟩) ∧ Box k_ObjectStore 24 (Bs w0 nrow) F w g1 s.s_1
def G2 : GT S := fun w0 F0 s ρ w => ∃ F, Wk nrow w0 F0 F w ∧ ∃ g1, c1 ρ g1 w0 w F s (OwnV (kInt .i64) 3 (Bs w0 nrow) F w (ρ 3) s.out_3)
def G3 : GT S := fun w0 F0 s ρ w => ∃ F, Wk nrow w0 F0 F w ∧ ∃ g1, c1 ρ g1 w0 w F s (OwnV (kInt .i64) 3 (Bs w0 nrow) F w (ρ 3) s.out_3 ∧ ρ 4 = .int .i64 s.i_4)
def G4 : GT S := fun w0 F0 s ρ w => ∃ F, Wk nrow w0 F0 F w ∧ ∃ g1, c1 ρ g1 w0 w F s (OwnV (kInt .i64) 3 (Bs w0 nrow) F w (ρ 3) s.out_3 ∧ ρ 4 = .int .i64 s.i_4 ∧ ρ 9 = .bool s.t_9)
def G5 : GT S := fun w0 F0 s ρ w => ∃ F, Wk nrow w0 F0 F w ∧ OwnV (kInt .i64) 3 (Bs w0 nrow) F w (ρ 3) s.out_3
def G6 : GT S := fun w0 F0 s ρ w => ∃ F, Wk nrow w0 F0 F w ∧ OwnV (kInt .i64) 3 (Bs w0 nrow) F w (ρ 2) s.t_2
set_option maxHeartbeats 4000000 in
set_option maxRecDepth 20000 in
theorem ref (w0 : World) (F0 : BSet) : ∃ c, Tryd.f17.body = some c ∧ Ref Tryd.prog 22 c (G0 w0 F0) body (fun _ _ _ => False) (fun _ _ _ _ => False) (fun r ρ w => ∃ s, retv s = r ∧ G6 w0 F0 s ρ w) := by
  refine ⟨_, rfl, ?_⟩; unfold body; refine Ref.seq (B := G1 w0 F0) ?_ ?_
  · refine Ref.region (fun s ρ w s' h hr => ?_); obtain ⟨F, hW, h0⟩ := h; refine ol_e (f_box hW rfl h0) rfl rfl ?_; rintro _ w6 ⟨g5, rfl, kw1, ho7⟩; have hW8 := hW.trans kw1; have st1 := kw1.stp hW.ok; refine ol_a rfl ?_; exact ol_fin hr ⟨F, hW8, g5, rfl, (ho7.base (row := nrow) hW.le)⟩
  refine Ref.seq (B := G2 w0 F0) ?_ ?_
  · refine Ref.region (fun s ρ w s' h hr => ?_); obtain ⟨F, hW, g1, p1, h1⟩ := h; refine ol_a rfl ?_; exact ol_fin hr ⟨F, hW, g1, p1, h1, (OwnV.nil (kInt .i64) 3 (Bs w0 nrow) F w)⟩
  refine Ref.seq (B := G5 w0 F0) ?_ ?_
  · refine Ref.seq (B := G3 w0 F0) ?_ ?_
    · refine Ref.region (fun s ρ w s' h hr => ?_); obtain ⟨F, hW, g1, p1, h1, h3⟩ := h; refine ol_a rfl ?_; exact ol_fin hr ⟨F, hW, g1, p1, h1, h3, rfl⟩
    refine Ref.block ?_; refine Ref.loop ?_; refine Ref.seq (B := G3 w0 F0) ?_ ?_
    · refine Ref.seq (B := G4 w0 F0) ?_ ?_
      · refine Ref.region (fun s ρ w s' h hr => ?_); obtain ⟨F, hW, g1, p1, h1, h3, h4⟩ := h; refine ol_m h4 ?_; refine ol_v (e_fa fa_24_0 p1) rfl ?_; obtain ⟨v10, hl11, hs12⟩ := LiesV.sl ((h1).at_.fld fl_ObjectStore_0); refine ol_v (e_ld ty_22 hl11 rfl) rfl ?_; obtain ⟨A13, c14, e15, hc16, R17⟩ := id hs12; refine ol_v (e_len (SlT.sl sl_22) e15) rfl ?_; refine ol_v (e_lss rfl rfl) rfl ?_; exact ol_fin hr ⟨F, hW, g1, p1, h1, h3, h4, rfl⟩
      refine Ref.condP (b := fun s => s.t_9) (L := G3 w0 F0) (K := G5 w0 F0) ?_ ?_ ?_
      · rintro s ρ w ⟨F, hW, g1, p1, h1, h3, h4, h9⟩; exact ⟨h9, ⟨F, hW, g1, p1, h1, h3, h4⟩, F, hW, h3⟩
      · exact Ref.skip
      · exact Ref.exit (fun s ρ w h => h)
    refine Ref.seq (B := G3 w0 F0) ?_ ?_
    · refine Ref.block ?_; refine Ref.region (fun s ρ w s' h hr => ?_); obtain ⟨F, hW, g1, p1, h1, h3, h4⟩ := h; refine ol_m rfl ?_; refine ol_v (e_fa fa_24_0 p1) rfl ?_; obtain ⟨v18, hl19, hs20⟩ := LiesV.sl ((h1).at_.fld fl_ObjectStore_0); refine ol_v (e_ld ty_22 hl19 rfl) rfl ?_; refine ol_m h4 ?_; obtain ⟨x21, hx21, hr⟩ := bind_some' hr; obtain ⟨A22, c23, e24, hc25, R26⟩ := id hs20; obtain ⟨b27, o28, hA29, L30⟩ := Row.at_ R26 hx21; refine ol_v (e_ix (SlT.sl sl_22) (SlT.sz sl_22) hA29 hx21 e24 rfl) rfl ?_; refine ol_v (e_fa fa_50_0 rfl) rfl ?_; refine ol_v (e_ld ty_3 (LiesV.int (L30.fld fl_StoredObject_0).at_) rfl) rfl ?_; refine ol_e (f_bslF sl_30 hW ([x21.Digest] : List Int) [.int .i64 x21.Digest] (by exact ⟨_, _, rfl, (val_int _ _), rfl⟩) rfl (Nat.le_of_ble_eq_true rfl) (lcons (congrArg (Prod.mk 0) rfl) rfl)) rfl rfl ?_; rintro v31 w32 ⟨Fz34, kw1, ho33⟩; have hW35 := hW.trans kw1; have st1 := kw1.stp hW.ok; obtain ⟨x36, hx36, hr⟩ := bind_some' hr; refine ol_e (f_app sl_30 hW35 (h3.wk kw1 hW.ok) ho33 hx36 rfl rfl) rfl rfl ?_; rintro v37 w38 ⟨hW39, ho40, hg2, st2, hor41⟩; refine ol_a rfl ?_; exact ol_fin hr ⟨Fz34, hW39, g1, p1, ((h1.wk kw1 hW.ok).mut (apart_bo (h1.wk kw1 hW.ok) (h3.wk kw1 hW.ok) rfl).symm hg2 st2), ho40, h4⟩
    refine Ref.region (fun s ρ w s' h hr => ?_); obtain ⟨F, hW, g1, p1, h1, h3, h4⟩ := h; refine ol_m h4 ?_; refine ol_v (e_add rfl rfl) rfl ?_; refine ol_a rfl ?_; exact ol_fin hr ⟨F, hW, g1, p1, h1, h3, rfl⟩
  refine Ref.seq (B := G6 w0 F0) ?_ ?_
  · refine Ref.region (fun s ρ w s' h hr => ?_); obtain ⟨F, hW, h3⟩ := h; refine ol_m rfl ?_; refine ol_a rfl ?_; exact ol_fin hr ⟨F, hW, h3⟩
  exact Ref.ret (fun s ρ w h => ⟨s, rfl, h⟩)
def post (w : World) (F : BSet) (r : R) (v : Value) (w' : World) : Prop := ∃ (F' : BSet) (v0' : Value), v = v0' ∧ Wk nrow w F F' w' ∧ OwnV (kInt .i64) 3 (Nw w) F' w' v0' r
theorem calls {w : World} {F : BSet} (hok : ∀ b, F b → b < w.heap.size) {v0 : Value} {a0 : ObjectStore} (h0 : Val k_ObjectStore F w v0 a0) {r : R} (hf : f a0 = some r) : Calls Tryd.prog 17 #[v0] w fun e w' => ∃ v, e = .returned v ∧ post w F r v w' := by
  obtain ⟨c, hc, href⟩ := ref w F; refine calls_of_ref (args := [v0]) _ Tryd.func17 hc rfl rfl href ?_ (retOf_some hf) ?_
  · exact ⟨F, Wk.refl hok, h0⟩
  · rintro ρ w' a ⟨s, rfl, F', hW, h2⟩ hF; refine ⟨_, run_results (rs := [.tmp 2]) rfl hF (vs := [ρ 2]) (⟨_, rfl, rfl⟩), ?_⟩; exact ⟨F', ρ 2, rfl, hW, h2.rebase (fun g hg => (h2.lt hg).1.resolve_right (fun h => h))⟩
end
end ref4_DigestsOf

end Go.Proofs.YtenkbkcddcnmeaaDoor
