/- The machine's calls come to these plain functions (written by a program, wip/fx/gen.py). -/
import Derived.Test.YtenkbkcddcnmeaaDoorPA
import Derived.Test.YtenkbkcddcnmeaaDoorNm
import Derived.Test.YtenkbkcddcnmeaaDoorM0
import Derived.Test.YtenkbkcddcnmeaaDoorSl
import Derived.Test.YtenkbkcddcnmeaaDoorIn
import Derived.Test.YtenkbkcddcnmeaaDoorIt
import Derived.Test.YtenkbkcddcnmeaaDoorFx17
namespace Go.Proofs.YtenkbkcddcnmeaaDoor
open Go.Fx Go.RowKit
set_option linter.unusedVariables false

namespace gc_Missing
section
abbrev c1 (ρ : Env) (g1 : Nat) (w0 w : World) (F : BSet) (s : S) (X : Prop) : Prop := ρ 1 = .pointer (some ⟨g1, 0, none⟩) ∧ Box k_ObjectStore 24 (Bs w0 nrow) F w g1 s.s_1 ∧ X
abbrev c2 (ρ : Env) (g3 : Nat) (w0 w : World) (F : BSet) (s : S) (X : Prop) : Prop := ρ 3 = .pointer (some ⟨g3, 0, none⟩) ∧ Box k_Fault 32 (Bs w0 nrow) F w g3 s.t_3 ∧ X
abbrev c3 (ρ : Env) (g4 : Nat) (w0 w : World) (F : BSet) (s : S) (X : Prop) : Prop := ρ 4 = .pointer (some ⟨g4, 0, none⟩) ∧ Box k_Fault 32 (Bs w0 nrow) F w g4 s.f_4 ∧ X
abbrev c7 (w0 w : World) (F : BSet) (ρ : Env) (s : S) (X : Prop) : Prop := MapV .i64 (fun x => (.bool x : Value)) (Bs w0 nrow) F w (ρ 5) s.have_5 ∧ X
abbrev c8 (w0 w : World) (F : BSet) (ρ : Env) (s : S) (X : Prop) : Prop := OwnV (kInt .i64) 3 (Bs w0 nrow) F w (ρ 6) s.out_6 ∧ X
abbrev e9 (F : BSet) (w : World) (ρ : Env) (s : S) : Prop := SlR k_StoredObject F w (ρ 21) s.t_21 ∧ ρ 22 = .int .i64 s.t_22 ∧ ρ 23 = .int .i64 s.t_23
abbrev c12 (F : BSet) (w : World) (ρ : Env) (s : S) (X : Prop) : Prop := SlR k_StoredObject F w (ρ 32) s.t_32 ∧ ρ 33 = .int .i64 s.t_33 ∧ ρ 34 = .int .i64 s.t_34 ∧ X
abbrev e12 (F : BSet) (w : World) (ρ : Env) (s : S) : Prop := SlR k_StoredObject F w (ρ 32) s.t_32 ∧ ρ 33 = .int .i64 s.t_33 ∧ ρ 34 = .int .i64 s.t_34
abbrev e15 (F : BSet) (w : World) (ρ : Env) (s : S) : Prop := SlR (kInt .i64) F w (ρ 40) s.t_40 ∧ ρ 41 = .int .i64 s.t_41 ∧ ρ 42 = .int .i64 s.t_42
def G0 : GT S := fun w0 F0 s ρ w => ∃ F, Wk nrow w0 F0 F w ∧ Val k_ObjectStore F w (ρ 0) s.s_0
def G1 : GT S := fun w0 F0 s ρ w => ∃ F, Wk nrow w0 F0 F w ∧ ∃ g1 g3, c1 ρ g1 w0 w F s (ρ 3 = .pointer (some ⟨g3, 0, none⟩) ∧ Box k_Fault 32 (Bs w0 nrow) F w g3 s.t_3)
def G2 : GT S := fun w0 F0 s ρ w => ∃ F, Wk nrow w0 F0 F w ∧ ∃ g1 g3 g4, c1 ρ g1 w0 w F s (c2 ρ g3 w0 w F s (c3 ρ g4 w0 w F s (Apart (some g3) (some g4))))
def G3 : GT S := fun w0 F0 s ρ w => ∃ F, Wk nrow w0 F0 F w ∧ ∃ g1 g3 g4, c1 ρ g1 w0 w F s (c2 ρ g3 w0 w F s (c3 ρ g4 w0 w F s (ρ 17 = .bool s.t_17 ∧ Apart (some g3) (some g4))))
def G4 : GT S := fun w0 F0 s ρ w => ∃ F, Wk nrow w0 F0 F w ∧ ∃ g3 g4, c2 ρ g3 w0 w F s (c3 ρ g4 w0 w F s (Apart (some g3) (some g4)))
def G5 : GT S := fun w0 F0 s ρ w => ∃ F, Wk nrow w0 F0 F w ∧ ∃ g3, OwnV (kInt .i64) 3 (Bs w0 nrow) F w (ρ 2) s.t_2 ∧ ρ 3 = .pointer (some ⟨g3, 0, none⟩) ∧ Box k_Fault 32 (Bs w0 nrow) F w g3 s.t_3
def G6 : GT S := fun w0 F0 s ρ w => ∃ F, Wk nrow w0 F0 F w ∧ ∃ g1 g3, c1 ρ g1 w0 w F s (c2 ρ g3 w0 w F s (c7 w0 w F ρ s (OwnV (kInt .i64) 3 (Bs w0 nrow) F w (ρ 6) s.out_6)))
def G7 : GT S := fun w0 F0 s ρ w => ∃ F, Wk nrow w0 F0 F w ∧ ∃ g1 g3, c1 ρ g1 w0 w F s (c2 ρ g3 w0 w F s (c7 w0 w F ρ s (c8 w0 w F ρ s (e9 F w ρ s))))
def G8 : GT S := fun w0 F0 s ρ w => ∃ F, Wk nrow w0 F0 F w ∧ ∃ g1 g3, c1 ρ g1 w0 w F s (c2 ρ g3 w0 w F s (c7 w0 w F ρ s (c8 w0 w F ρ s (SlR k_StoredObject F w (ρ 21) s.t_21 ∧ ρ 22 = .int .i64 s.t_22 ∧ ρ 23 = .int .i64 s.t_23 ∧ ρ 24 = .bool s.t_24))))
def G9 : GT S := fun w0 F0 s ρ w => ∃ F, Wk nrow w0 F0 F w ∧ ∃ g1 g3 g8, c1 ρ g1 w0 w F s (c2 ρ g3 w0 w F s (c7 w0 w F ρ s (c8 w0 w F ρ s (ρ 8 = .pointer (some ⟨g8, 0, none⟩) ∧ Box k_StoredObject 50 (Bs w0 nrow) F w g8 s.o_8 ∧ e9 F w ρ s))))
def G10 : GT S := fun w0 F0 s ρ w => ∃ F, Wk nrow w0 F0 F w ∧ ∃ g3, c2 ρ g3 w0 w F s (c7 w0 w F ρ s (c8 w0 w F ρ s (e12 F w ρ s)))
def G11 : GT S := fun w0 F0 s ρ w => ∃ F, Wk nrow w0 F0 F w ∧ ∃ g3, c2 ρ g3 w0 w F s (c7 w0 w F ρ s (c8 w0 w F ρ s (c12 F w ρ s (ρ 35 = .bool s.t_35))))
def G12 : GT S := fun w0 F0 s ρ w => ∃ F, Wk nrow w0 F0 F w ∧ ∃ g3, c2 ρ g3 w0 w F s (OwnV (kInt .i64) 3 (Bs w0 nrow) F w (ρ 6) s.out_6)
def G13 : GT S := fun w0 F0 s ρ w => ∃ F, Wk nrow w0 F0 F w ∧ ∃ g3 g10, c2 ρ g3 w0 w F s (c7 w0 w F ρ s (c8 w0 w F ρ s (ρ 10 = .pointer (some ⟨g10, 0, none⟩) ∧ Box k_StoredObject 50 (Bs w0 nrow) F w g10 s.o_10 ∧ e12 F w ρ s)))
def G14 : GT S := fun w0 F0 s ρ w => ∃ F, Wk nrow w0 F0 F w ∧ ∃ g3, c2 ρ g3 w0 w F s (c7 w0 w F ρ s (c8 w0 w F ρ s (c12 F w ρ s (e15 F w ρ s))))
def G15 : GT S := fun w0 F0 s ρ w => ∃ F, Wk nrow w0 F0 F w ∧ ∃ g3, c2 ρ g3 w0 w F s (c7 w0 w F ρ s (c8 w0 w F ρ s (c12 F w ρ s (SlR (kInt .i64) F w (ρ 40) s.t_40 ∧ ρ 41 = .int .i64 s.t_41 ∧ ρ 42 = .int .i64 s.t_42 ∧ ρ 43 = .bool s.t_43))))
def G16 : GT S := fun w0 F0 s ρ w => ∃ F, Wk nrow w0 F0 F w ∧ ∃ g3, c2 ρ g3 w0 w F s (c7 w0 w F ρ s (c8 w0 w F ρ s (ρ 12 = .int .i64 s.d_12 ∧ c12 F w ρ s (e15 F w ρ s))))
def G17 : GT S := fun w0 F0 s ρ w => ∃ F, Wk nrow w0 F0 F w ∧ ∃ g3, c2 ρ g3 w0 w F s (c7 w0 w F ρ s (c8 w0 w F ρ s (ρ 12 = .int .i64 s.d_12 ∧ c12 F w ρ s (SlR (kInt .i64) F w (ρ 40) s.t_40 ∧ ρ 41 = .int .i64 s.t_41 ∧ ρ 42 = .int .i64 s.t_42 ∧ ρ 49 = .bool s.t_49))))
set_option maxHeartbeats 4000000 in
set_option maxRecDepth 20000 in
theorem ref (w0 : World) (F0 : BSet) : ∃ c, Tryd.f21.body = some c ∧ Ref Tryd.prog 61 c (G0 w0 F0) body (fun _ _ _ => False) (fun _ _ _ _ => False) (fun r ρ w => ∃ s, retv s = r ∧ G5 w0 F0 s ρ w) := by
  refine ⟨_, rfl, ?_⟩; unfold body; refine Ref.seq (B := G1 w0 F0) ?_ ?_
  · refine Ref.region (fun s ρ w s' h hr => ?_); obtain ⟨F, hW, h0⟩ := h; refine ol_e (f_box hW rfl h0) rfl rfl ?_; rintro _ w8 ⟨g7, rfl, kw1, ho9⟩; have hW10 := hW.trans kw1; have st1 := kw1.stp hW.ok; refine ol_a rfl ?_; refine ol_e (f_alloc zer_32 hW10) rfl rfl ?_; rintro _ w12 ⟨g11, rfl, kw2, ho13⟩; have hW14 := hW10.trans kw2; have st2 := kw2.stp hW10.ok; exact ol_fin hr ⟨F, hW14, g7, g11, rfl, ((ho9.base (row := nrow) hW.le).wk kw2 hW10.ok), rfl, (ho13.base (row := nrow) hW10.le)⟩
  refine Ref.seq (B := G1 w0 F0) ?_ ?_
  · refine Ref.seq (B := G2 w0 F0) ?_ ?_
    · refine Ref.region (fun s ρ w s' h hr => ?_); obtain ⟨F, hW, g1, g3, p1, h1, p3, h3⟩ := h; obtain ⟨v15, hl16⟩ := LiesAt.v (h1).at_; refine ol_v (e_ld ty_24 hl16 p1) rfl ?_; obtain ⟨x17, hx17, hr⟩ := bind_some' hr; refine ol_e (f_call [v15] fn_28 (lcons rfl rfl) (objects_Validate.calls hW.ok hl16.val hx17)) rfl rfl ?_; rintro v20 w18 ⟨Fz19, _, rfl, kw1, hk21⟩; have hW23 := hW.trans kw1; have st1 := kw1.stp hW.ok; refine ol_e (f_alloc zer_32 hW23) rfl rfl ?_; rintro _ w26 ⟨g25, rfl, kw2, ho27⟩; have hW28 := hW23.trans kw2; have st2 := kw2.stp hW23.ok; refine ol_eN (f_stB hW28 (ho27.base (row := nrow) hW23.le) (FldS.whole _) ty_32 (hk21.keep st2) rfl rfl) rfl ?_; rintro - w29 ⟨hW30, ho31, hg3, st3⟩; have z1 := (h1.wk kw1 hW.ok).wk kw2 hW23.ok; have z2 := h3.wk kw1 hW.ok; exact ol_fin hr ⟨Fz19, hW30, g1, g3, g25, p1, (z1.mut (apart_bb (ho27.base (row := nrow) hW23.le) z1 rfl) hg3 st3), p3, ((z2.wk kw2 hW23.ok).mut (Apart.base (fun _ e_ => by cases e_; exact ho27.ge) z2.ltw) hg3 st3), rfl, ho31, (Apart.base (fun _ e_ => by cases e_; exact ho27.ge) z2.ltw).symm⟩
    refine Ref.seq (B := G3 w0 F0) ?_ ?_
    · refine Ref.region (fun s ρ w s' h hr => ?_); obtain ⟨F, hW, g1, g3, g4, p1, h1, p3, h3, p4, h4, a3b_4b⟩ := h; obtain ⟨v36, hl37⟩ := LiesAt.v (h4).at_; refine ol_v (e_ld ty_32 hl37 p4) rfl ?_; refine ol_v (e_bld (cells := #[.int .i64 0, .int .i64 0]) bld_32 (vs := []) rfl rfl) rfl ?_; have hb38 : Val k_Fault F w (.agg #[.int .i64 0, .int .i64 0]) (⟨(0 : Int), (0 : Int)⟩ : Fault) := mk_Fault (val_int _ _) (val_int _ _); refine ol_v (e_tneq (eq_Fault_32 hl37.val hb38) rfl rfl) rfl ?_; exact ol_fin hr ⟨F, hW, g1, g3, g4, p1, h1, p3, h3, p4, h4, rfl, a3b_4b⟩
    refine Ref.condP (b := fun s => s.t_17) (L := G4 w0 F0) (K := G1 w0 F0) ?_ ?_ ?_
    · rintro s ρ w ⟨F, hW, g1, g3, g4, p1, h1, p3, h3, p4, h4, h17, a3b_4b⟩; exact ⟨h17, ⟨F, hW, g3, g4, p3, h3, p4, h4, a3b_4b⟩, F, hW, g1, g3, p1, h1, p3, h3⟩
    · refine Ref.seq (B := G5 w0 F0) ?_ ?_
      · refine Ref.regionD 2 (by kernel_rfl) (by kernel_rfl) (fun s ρ w ⟨F, hW, g3, g4, p3, h3, p4, h4, a3b_4b⟩ => ⟨F, hW.drewS, g3, g4, p3, h3.wk (Wk.drew (row := nrow) hW.ok) hW.ok, p4, h4.wk (Wk.drew (row := nrow) hW.ok) hW.ok, a3b_4b⟩) (fun s ρ w s' h hr => ?_); obtain ⟨F, hW, g3, g4, p3, h3, p4, h4, a3b_4b⟩ := h; obtain ⟨v39, hl40⟩ := LiesAt.v (h4).at_; refine ol_v (e_ld ty_32 hl40 p4) rfl ?_; refine ol_a rfl ?_; refine ol_eN (f_stB hW h3 (FldS.whole _) ty_32 hl40.val p3 rfl) rfl ?_; rintro - w41 ⟨hW42, ho43, hg1, st1⟩; exact ol_fin hr ⟨F, hW42, g3, ((OwnV.nil (kInt .i64) 3 (Bs w0 nrow) F w).mut (apart_bo h3 (OwnV.nil (kInt .i64) 3 (Bs w0 nrow) F w) rfl) hg1 st1), p3, ho43⟩
      exact Ref.ret (fun s ρ w h => ⟨s, rfl, h⟩)
    · exact Ref.skip
  refine Ref.seq (B := G6 w0 F0) ?_ ?_
  · refine Ref.region (fun s ρ w s' h hr => ?_); obtain ⟨F, hW, g1, g3, p1, h1, p3, h3⟩ := h; refine ol_e (f_mkMap (i := .i64) (enc := (fun x => (.bool x : Value))) hW) rfl rfl ?_; rintro v44 w45 ⟨kw1, ho46⟩; have hW47 := hW.trans kw1; have st1 := kw1.stp hW.ok; refine ol_a rfl ?_; refine ol_a rfl ?_; exact ol_fin hr ⟨F, hW47, g1, g3, p1, (h1.wk kw1 hW.ok), p3, (h3.wk kw1 hW.ok), (ho46.base (row := nrow) hW.le), (OwnV.nil (kInt .i64) 3 (Bs w0 nrow) F w45)⟩
  refine Ref.seq (B := G6 w0 F0) ?_ ?_
  · refine Ref.seq (B := G7 w0 F0) ?_ ?_
    · refine Ref.region (fun s ρ w s' h hr => ?_); obtain ⟨F, hW, g1, g3, p1, h1, p3, h3, h5, h6⟩ := h; refine ol_v (e_fa fa_24_0 p1) rfl ?_; obtain ⟨v48, hl49, hs50⟩ := LiesV.sl ((h1).at_.fld fl_ObjectStore_0); refine ol_v (e_ld ty_22 hl49 rfl) rfl ?_; obtain ⟨A51, c52, e53, hc54, R55⟩ := id hs50; refine ol_v (e_len (SlT.sl sl_22) e53) rfl ?_; refine ol_m rfl ?_; exact ol_fin hr ⟨F, hW, g1, g3, p1, h1, p3, h3, h5, h6, hs50, rfl, rfl⟩
    refine Ref.block ?_; refine Ref.loop ?_; refine Ref.seq (B := G8 w0 F0) ?_ ?_
    · refine Ref.region (fun s ρ w s' h hr => ?_); obtain ⟨F, hW, g1, g3, p1, h1, p3, h3, h5, h6, h21, h22, h23⟩ := h; refine ol_v (e_lss h23 h22) rfl ?_; exact ol_fin hr ⟨F, hW, g1, g3, p1, h1, p3, h3, h5, h6, h21, h22, h23, rfl⟩
    refine Ref.seq (B := G7 w0 F0) ?_ ?_
    · refine Ref.condP (b := fun s => s.t_24) (L := G7 w0 F0) (K := G6 w0 F0) ?_ ?_ ?_
      · rintro s ρ w ⟨F, hW, g1, g3, p1, h1, p3, h3, h5, h6, h21, h22, h23, h24⟩; exact ⟨h24, ⟨F, hW, g1, g3, p1, h1, p3, h3, h5, h6, h21, h22, h23⟩, F, hW, g1, g3, p1, h1, p3, h3, h5, h6⟩
      · exact Ref.skip
      · exact Ref.exit (fun s ρ w h => h)
    refine Ref.seq (B := G7 w0 F0) ?_ ?_
    · refine Ref.block ?_; refine Ref.seq (B := G9 w0 F0) ?_ ?_
      · refine Ref.region (fun s ρ w s' h hr => ?_); obtain ⟨F, hW, g1, g3, p1, h1, p3, h3, h5, h6, h21, h22, h23⟩ := h; obtain ⟨x56, hx56, hr⟩ := bind_some' hr; obtain ⟨A57, c58, e59, hc60, R61⟩ := id h21; obtain ⟨b62, o63, hA64, L65⟩ := Row.at_ R61 hx56; refine ol_v (e_ix (SlT.sl sl_22) (SlT.sz sl_22) hA64 hx56 e59 h23) rfl ?_; obtain ⟨v66, hl67⟩ := LiesAt.v L65.at_; refine ol_v (e_ld ty_50 hl67 rfl) rfl ?_; refine ol_e (f_alloc zer_50 hW) rfl rfl ?_; rintro _ w69 ⟨g68, rfl, kw1, ho70⟩; have hW71 := hW.trans kw1; have st1 := kw1.stp hW.ok; refine ol_eN (f_stB hW71 (ho70.base (row := nrow) hW.le) (FldS.whole _) ty_50 (hl67.val.keep st1) rfl rfl) rfl ?_; rintro - w72 ⟨hW73, ho74, hg2, st2⟩; exact ol_fin hr ⟨F, hW73, g1, g3, g68, p1, ((h1.wk kw1 hW.ok).mut (apart_bb (ho70.base (row := nrow) hW.le) (h1.wk kw1 hW.ok) rfl) hg2 st2), p3, ((h3.wk kw1 hW.ok).mut (apart_bb (ho70.base (row := nrow) hW.le) (h3.wk kw1 hW.ok) rfl) hg2 st2), ((h5.wk kw1 hW.ok).mut (apart_mb (h5.wk kw1 hW.ok) (ho70.base (row := nrow) hW.le)).symm hg2 st2), ((h6.wk kw1 hW.ok).mut (apart_bo (ho70.base (row := nrow) hW.le) (h6.wk kw1 hW.ok) rfl) hg2 st2), rfl, ho74, (h21.keep (st1.trans st2)), h22, h23⟩
      refine Ref.region (fun s ρ w s' h hr => ?_); obtain ⟨F, hW, g1, g3, g8, p1, h1, p3, h3, h5, h6, p8, h8, h21, h22, h23⟩ := h; refine ol_m rfl ?_; refine ol_v (e_fa fa_50_0 p8) rfl ?_; refine ol_v (e_ld ty_3 (LiesV.int ((h8).at_.fld fl_StoredObject_0)) rfl) rfl ?_; refine ol_eN (f_mput (u := true) mp_71 hW h5 rfl rfl rfl) rfl ?_; rintro - w75 ⟨hW76, ho77, hg1, st1⟩; exact ol_fin hr ⟨F, hW76, g1, g3, p1, (h1.mut (apart_mb h5 h1) hg1 st1), p3, (h3.mut (apart_mb h5 h3) hg1 st1), ho77, (h6.mut (apart_mo h5 h6) hg1 st1), (h21.keep st1), h22, h23⟩
    refine Ref.region (fun s ρ w s' h hr => ?_); obtain ⟨F, hW, g1, g3, p1, h1, p3, h3, h5, h6, h21, h22, h23⟩ := h; refine ol_v (e_add h23 rfl) rfl ?_; refine ol_m rfl ?_; exact ol_fin hr ⟨F, hW, g1, g3, p1, h1, p3, h3, h5, h6, h21, h22, rfl⟩
  refine Ref.seq (B := G12 w0 F0) ?_ ?_
  · refine Ref.seq (B := G10 w0 F0) ?_ ?_
    · refine Ref.region (fun s ρ w s' h hr => ?_); obtain ⟨F, hW, g1, g3, p1, h1, p3, h3, h5, h6⟩ := h; refine ol_v (e_fa fa_24_0 p1) rfl ?_; obtain ⟨v78, hl79, hs80⟩ := LiesV.sl ((h1).at_.fld fl_ObjectStore_0); refine ol_v (e_ld ty_22 hl79 rfl) rfl ?_; obtain ⟨A81, c82, e83, hc84, R85⟩ := id hs80; refine ol_v (e_len (SlT.sl sl_22) e83) rfl ?_; refine ol_m rfl ?_; exact ol_fin hr ⟨F, hW, g3, p3, h3, h5, h6, hs80, rfl, rfl⟩
    refine Ref.block ?_; refine Ref.loop ?_; refine Ref.seq (B := G11 w0 F0) ?_ ?_
    · refine Ref.region (fun s ρ w s' h hr => ?_); obtain ⟨F, hW, g3, p3, h3, h5, h6, h32, h33, h34⟩ := h; refine ol_v (e_lss h34 h33) rfl ?_; exact ol_fin hr ⟨F, hW, g3, p3, h3, h5, h6, h32, h33, h34, rfl⟩
    refine Ref.seq (B := G10 w0 F0) ?_ ?_
    · refine Ref.condP (b := fun s => s.t_35) (L := G10 w0 F0) (K := G12 w0 F0) ?_ ?_ ?_
      · rintro s ρ w ⟨F, hW, g3, p3, h3, h5, h6, h32, h33, h34, h35⟩; exact ⟨h35, ⟨F, hW, g3, p3, h3, h5, h6, h32, h33, h34⟩, F, hW, g3, p3, h3, h6⟩
      · exact Ref.skip
      · exact Ref.exit (fun s ρ w h => h)
    refine Ref.seq (B := G10 w0 F0) ?_ ?_
    · refine Ref.block ?_; refine Ref.seq (B := G13 w0 F0) ?_ ?_
      · refine Ref.region (fun s ρ w s' h hr => ?_); obtain ⟨F, hW, g3, p3, h3, h5, h6, h32, h33, h34⟩ := h; obtain ⟨x86, hx86, hr⟩ := bind_some' hr; obtain ⟨A87, c88, e89, hc90, R91⟩ := id h32; obtain ⟨b92, o93, hA94, L95⟩ := Row.at_ R91 hx86; refine ol_v (e_ix (SlT.sl sl_22) (SlT.sz sl_22) hA94 hx86 e89 h34) rfl ?_; obtain ⟨v96, hl97⟩ := LiesAt.v L95.at_; refine ol_v (e_ld ty_50 hl97 rfl) rfl ?_; refine ol_e (f_alloc zer_50 hW) rfl rfl ?_; rintro _ w99 ⟨g98, rfl, kw1, ho100⟩; have hW101 := hW.trans kw1; have st1 := kw1.stp hW.ok; refine ol_eN (f_stB hW101 (ho100.base (row := nrow) hW.le) (FldS.whole _) ty_50 (hl97.val.keep st1) rfl rfl) rfl ?_; rintro - w102 ⟨hW103, ho104, hg2, st2⟩; exact ol_fin hr ⟨F, hW103, g3, g98, p3, ((h3.wk kw1 hW.ok).mut (apart_bb (ho100.base (row := nrow) hW.le) (h3.wk kw1 hW.ok) rfl) hg2 st2), ((h5.wk kw1 hW.ok).mut (apart_mb (h5.wk kw1 hW.ok) (ho100.base (row := nrow) hW.le)).symm hg2 st2), ((h6.wk kw1 hW.ok).mut (apart_bo (ho100.base (row := nrow) hW.le) (h6.wk kw1 hW.ok) rfl) hg2 st2), rfl, ho104, (h32.keep (st1.trans st2)), h33, h34⟩
      refine Ref.seq (B := G14 w0 F0) ?_ ?_
      · refine Ref.region (fun s ρ w s' h hr => ?_); obtain ⟨F, hW, g3, g10, p3, h3, h5, h6, p10, h10, h32, h33, h34⟩ := h; refine ol_v (e_fa fa_50_1 p10) rfl ?_; refine ol_v (e_fa fa_48_1 rfl) rfl ?_; obtain ⟨v105, hl106, hs107⟩ := LiesV.sl (((h10).at_.fld fl_StoredObject_1).fld fl_Object_1); refine ol_v (e_ld ty_30 hl106 rfl) rfl ?_; obtain ⟨A108, c109, e110, hc111, R112⟩ := id hs107; refine ol_v (e_len (SlT.sl sl_30) e110) rfl ?_; refine ol_m rfl ?_; exact ol_fin hr ⟨F, hW, g3, p3, h3, h5, h6, h32, h33, h34, hs107, rfl, rfl⟩
      refine Ref.block ?_; refine Ref.loop ?_; refine Ref.seq (B := G15 w0 F0) ?_ ?_
      · refine Ref.region (fun s ρ w s' h hr => ?_); obtain ⟨F, hW, g3, p3, h3, h5, h6, h32, h33, h34, h40, h41, h42⟩ := h; refine ol_v (e_lss h42 h41) rfl ?_; exact ol_fin hr ⟨F, hW, g3, p3, h3, h5, h6, h32, h33, h34, h40, h41, h42, rfl⟩
      refine Ref.seq (B := G14 w0 F0) ?_ ?_
      · refine Ref.condP (b := fun s => s.t_43) (L := G14 w0 F0) (K := G10 w0 F0) ?_ ?_ ?_
        · rintro s ρ w ⟨F, hW, g3, p3, h3, h5, h6, h32, h33, h34, h40, h41, h42, h43⟩; exact ⟨h43, ⟨F, hW, g3, p3, h3, h5, h6, h32, h33, h34, h40, h41, h42⟩, F, hW, g3, p3, h3, h5, h6, h32, h33, h34⟩
        · exact Ref.skip
        · exact Ref.exit (fun s ρ w h => h)
      refine Ref.seq (B := G14 w0 F0) ?_ ?_
      · refine Ref.block ?_; refine Ref.seq (B := G16 w0 F0) ?_ ?_
        · refine Ref.region (fun s ρ w s' h hr => ?_); obtain ⟨F, hW, g3, p3, h3, h5, h6, h32, h33, h34, h40, h41, h42⟩ := h; obtain ⟨x113, hx113, hr⟩ := bind_some' hr; obtain ⟨A114, c115, e116, hc117, R118⟩ := id h40; obtain ⟨b119, o120, hA121, L122⟩ := Row.at_ R118 hx113; refine ol_v (e_ix (SlT.sl sl_30) (SlT.sz sl_30) hA121 hx113 e116 h42) rfl ?_; refine ol_v (e_ld ty_3 (LiesV.int L122.at_) rfl) rfl ?_; refine ol_a rfl ?_; exact ol_fin hr ⟨F, hW, g3, p3, h3, h5, h6, rfl, h32, h33, h34, h40, h41, h42⟩
        refine Ref.seq (B := G17 w0 F0) ?_ ?_
        · refine Ref.region (fun s ρ w s' h hr => ?_); obtain ⟨F, hW, g3, p3, h3, h5, h6, h12, h32, h33, h34, h40, h41, h42⟩ := h; refine ol_m rfl ?_; refine ol_m h12 ?_; refine ol_v (e_look (z := false) mp_71 h5 rfl rfl) rfl ?_; refine ol_v (e_not_ rfl) rfl ?_; exact ol_fin hr ⟨F, hW, g3, p3, h3, h5, h6, h12, h32, h33, h34, h40, h41, h42, rfl⟩
        refine Ref.condP (b := fun s => s.t_49) (L := G16 w0 F0) (K := G14 w0 F0) ?_ ?_ ?_
        · rintro s ρ w ⟨F, hW, g3, p3, h3, h5, h6, h12, h32, h33, h34, h40, h41, h42, h49⟩; exact ⟨h49, ⟨F, hW, g3, p3, h3, h5, h6, h12, h32, h33, h34, h40, h41, h42⟩, F, hW, g3, p3, h3, h5, h6, h32, h33, h34, h40, h41, h42⟩
        · refine Ref.region (fun s ρ w s' h hr => ?_); obtain ⟨F, hW, g3, p3, h3, h5, h6, h12, h32, h33, h34, h40, h41, h42⟩ := h; refine ol_m rfl ?_; refine ol_m h12 ?_; refine ol_e (f_bslF sl_30 hW ([s.d_12] : List Int) [.int .i64 s.d_12] (by exact ⟨_, _, rfl, (val_int _ _), rfl⟩) rfl (Nat.le_of_ble_eq_true rfl) (lcons (congrArg (Prod.mk 0) rfl) rfl)) rfl rfl ?_; rintro v123 w124 ⟨Fz126, kw1, ho125⟩; have hW127 := hW.trans kw1; have st1 := kw1.stp hW.ok; obtain ⟨x128, hx128, hr⟩ := bind_some' hr; have z3 := h6.wk kw1 hW.ok; refine ol_e (f_app sl_30 hW127 z3 ho125 hx128 rfl rfl) rfl rfl ?_; rintro v129 w130 ⟨hW131, ho132, hg2, st2, hor133⟩; refine ol_a rfl ?_; exact ol_fin hr ⟨Fz126, hW131, g3, p3, ((h3.wk kw1 hW.ok).mut (apart_bo (h3.wk kw1 hW.ok) z3 rfl).symm hg2 st2), ((h5.wk kw1 hW.ok).mut (apart_mo (h5.wk kw1 hW.ok) z3).symm hg2 st2), ho132, (h32.keep (st1.trans st2)), h33, h34, (h40.keep (st1.trans st2)), h41, h42⟩
        · exact Ref.skip
      refine Ref.region (fun s ρ w s' h hr => ?_); obtain ⟨F, hW, g3, p3, h3, h5, h6, h32, h33, h34, h40, h41, h42⟩ := h; refine ol_v (e_add h42 rfl) rfl ?_; refine ol_m rfl ?_; exact ol_fin hr ⟨F, hW, g3, p3, h3, h5, h6, h32, h33, h34, h40, h41, rfl⟩
    refine Ref.region (fun s ρ w s' h hr => ?_); obtain ⟨F, hW, g3, p3, h3, h5, h6, h32, h33, h34⟩ := h; refine ol_v (e_add h34 rfl) rfl ?_; refine ol_m rfl ?_; exact ol_fin hr ⟨F, hW, g3, p3, h3, h5, h6, h32, h33, rfl⟩
  refine Ref.seq (B := G12 w0 F0) ?_ ?_
  · refine Ref.region (fun s ρ w s' h hr => ?_); obtain ⟨F, hW, g3, p3, h3, h6⟩ := h; refine ol_m rfl ?_; obtain ⟨x134, hx134, hr⟩ := bind_some' hr; refine ol_e (f_call [(ρ 6)] fn_35 (lcons rfl rfl) (SortI.calls hW.ok (OwnV.rebase h6 (fun _ _ => trivial)) hx134)) rfl rfl ?_; rintro _ w135 ⟨Fz136, rfl, kw1, hk137⟩; have hB139 := fun g hg => (OwnV.lt h6 (g := g) hg).1; have st1 := kw1.stpR hW.ok (fun g hg => (OwnV.lt h6 hg).2.1); have hW138 := hW.transR kw1 hB139; exact ol_fin hr ⟨Fz136, hW138, g3, p3, (h3.wkR (apart_bo h3 h6 rfl).symm kw1 st1), (hk137.rebase hB139)⟩
  refine Ref.seq (B := G5 w0 F0) ?_ ?_
  · refine Ref.region (fun s ρ w s' h hr => ?_); obtain ⟨F, hW, g3, p3, h3, h6⟩ := h; refine ol_m rfl ?_; obtain ⟨x140, hx140, hr⟩ := bind_some' hr; refine ol_e (f_call [(ρ 6)] fn_36 (lcons rfl rfl) (CompactI.calls hW.ok (OwnV.rebase h6 (fun _ _ => trivial)) hx140)) rfl rfl ?_; rintro v143 w141 ⟨Fz142, _, rfl, kw1, hk144⟩; have hB147 := fun g hg => (OwnV.lt h6 (g := g) hg).1; have st1 := kw1.stpR hW.ok (fun g hg => (OwnV.lt h6 hg).2.1); have hW146 := hW.transR kw1 hB147; refine ol_v (e_bld (cells := #[.int .i64 0, .int .i64 0]) bld_32 (vs := []) rfl rfl) rfl ?_; have hb148 : Val k_Fault Fz142 w141 (.agg #[.int .i64 0, .int .i64 0]) (⟨(0 : Int), (0 : Int)⟩ : Fault) := mk_Fault (val_int _ _) (val_int _ _); refine ol_a rfl ?_; have z4 := h3.wkR (apart_bo h3 h6 rfl).symm kw1 st1; refine ol_eN (f_stB hW146 z4 (FldS.whole _) ty_32 hb148 p3 rfl) rfl ?_; rintro - w149 ⟨hW150, ho151, hg2, st2⟩; exact ol_fin hr ⟨Fz142, hW150, g3, ((hk144.rebase (fun g_ hg_ => (hk144.lt hg_).1.elim (fun h_ => .inl (Nat.le_trans hW.le h_)) (fun h_ => hB147 g_ h_))).mut (apart_bo z4 (hk144.rebase (fun g_ hg_ => (hk144.lt hg_).1.elim (fun h_ => .inl (Nat.le_trans hW.le h_)) (fun h_ => hB147 g_ h_))) rfl) hg2 st2), p3, ho151⟩
  exact Ref.ret (fun s ρ w h => ⟨s, rfl, h⟩)
def post (w : World) (F : BSet) (r : R) (v : Value) (w' : World) : Prop := ∃ (F' : BSet) (v0' : Value) (v1' : Value), v = .tuple #[v0', v1'] ∧ Wk nrow w F F' w' ∧ OwnV (kInt .i64) 3 (Nw w) F' w' v0' r.1 ∧ Val k_Fault F' w' v1' r.2
theorem calls {w : World} {F : BSet} (hok : ∀ b, F b → b < w.heap.size) {v0 : Value} {a0 : ObjectStore} (h0 : Val k_ObjectStore F w v0 a0) {r : R} (hf : f a0 = some r) : Calls Tryd.prog 21 #[v0] w fun e w' => ∃ v, e = .returned v ∧ post w F r v w' := by
  obtain ⟨c, hc, href⟩ := ref w F; refine calls_of_ref (args := [v0]) _ Tryd.func21 hc rfl rfl href ?_ (retOf_some hf) ?_
  · exact ⟨F, Wk.refl hok, h0⟩
  · rintro ρ w' a ⟨s, rfl, F', hW, g3, h2, p3, h3⟩ hF; obtain ⟨u3, l3, k3⟩ := res_box (P := Tryd.prog) ty_32 h3; refine ⟨_, run_results (rs := [.tmp 2, .cell 3 32]) rfl hF (vs := [ρ 2, u3]) (⟨_, rfl, ⟨_, _, _, rfl, p3, l3, rfl⟩⟩), ?_⟩; exact ⟨F', ρ 2, u3, rfl, hW, h2.rebase (fun g hg => (h2.lt hg).1.resolve_right (fun h => h)), k3⟩
end
end gc_Missing

end Go.Proofs.YtenkbkcddcnmeaaDoor
