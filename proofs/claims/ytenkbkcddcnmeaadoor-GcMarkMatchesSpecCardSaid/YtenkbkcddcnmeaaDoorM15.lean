/- The machine's calls come to these plain functions (written by a program, wip/fx/gen.py). -/
import Derived.Test.YtenkbkcddcnmeaaDoorPA
import Derived.Test.YtenkbkcddcnmeaaDoorNm
import Derived.Test.YtenkbkcddcnmeaaDoorM2
import Derived.Test.YtenkbkcddcnmeaaDoorM4
import Derived.Test.YtenkbkcddcnmeaaDoorM5
import Derived.Test.YtenkbkcddcnmeaaDoorM7
import Derived.Test.YtenkbkcddcnmeaaDoorM8
import Derived.Test.YtenkbkcddcnmeaaDoorM9
import Derived.Test.YtenkbkcddcnmeaaDoorM10
import Derived.Test.YtenkbkcddcnmeaaDoorSl
import Derived.Test.YtenkbkcddcnmeaaDoorIn
import Derived.Test.YtenkbkcddcnmeaaDoorIt
import Derived.Test.YtenkbkcddcnmeaaDoorFx17
namespace Go.Proofs.YtenkbkcddcnmeaaDoor
open Go.Fx Go.RowKit
set_option linter.unusedVariables false

namespace ref4_Insert
section
def G0 : GT S := fun w0 F0 s ρ w => ∃ F, Wk nrow w0 F0 F w ∧ SlR (kInt .i64) F w (ρ 0) s.l_0 ∧ ρ 1 = .int .i64 s.n_1
def G1 : GT S := fun w0 F0 s ρ w => ∃ F, Wk nrow w0 F0 F w ∧ SlR (kInt .i64) F w (ρ 0) s.l_0 ∧ ρ 1 = .int .i64 s.n_1 ∧ ρ 8 = .bool s.t_8
def G2 : GT S := fun w0 F0 s ρ w => ∃ F, Wk nrow w0 F0 F w ∧ SlR (kInt .i64) F w (ρ 0) s.l_0
def G3 : GT S := fun w0 F0 s ρ w => ∃ F, Wk nrow w0 F0 F w ∧ SlR (kInt .i64) F w (ρ 4) s.t_4
def G4 : GT S := fun w0 F0 s ρ w => ∃ F, Wk nrow w0 F0 F w ∧ SlR (kInt .i64) F w (ρ 0) s.l_0 ∧ ρ 1 = .int .i64 s.n_1 ∧ ρ 5 = .int .i64 s.at_5
def G5 : GT S := fun w0 F0 s ρ w => ∃ F, Wk nrow w0 F0 F w ∧ SlR (kInt .i64) F w (ρ 0) s.l_0 ∧ ρ 1 = .int .i64 s.n_1 ∧ ρ 5 = .int .i64 s.at_5 ∧ ρ 21 = .bool s.t_21
set_option maxHeartbeats 4000000 in
set_option maxRecDepth 20000 in
theorem ref (w0 : World) (F0 : BSet) : ∃ c, Tryd.f39.body = some c ∧ Ref Tryd.prog 35 c (G0 w0 F0) body (fun _ _ _ => False) (fun _ _ _ _ => False) (fun r ρ w => ∃ s, retv s = r ∧ G3 w0 F0 s ρ w) := by
  refine ⟨_, rfl, ?_⟩; unfold body; refine Ref.seq (B := G0 w0 F0) ?_ ?_
  · refine Ref.region (fun s ρ w s' h hr => ?_); obtain ⟨F, hW, h0, h1⟩ := h; refine ol_a rfl ?_; exact ol_fin hr ⟨F, hW, h0, h1⟩
  refine Ref.seq (B := G0 w0 F0) ?_ ?_
  · refine Ref.seq (B := G1 w0 F0) ?_ ?_
    · refine Ref.region (fun s ρ w s' h hr => ?_); obtain ⟨F, hW, h0, h1⟩ := h; refine ol_m rfl ?_; refine ol_m h1 ?_; obtain ⟨x1, hx1, hr⟩ := bind_some' hr; refine ol_e (f_call [(ρ 0), .int .i64 s.n_1] fn_18 (lcons rfl (lcons rfl rfl)) (ref3_Has.calls hW.ok h0 s.n_1 hx1)) rfl rfl ?_; rintro _ w2 ⟨Fz3, rfl, kw1⟩; have hW5 := hW.trans kw1; have st1 := kw1.stp hW.ok; exact ol_fin hr ⟨Fz3, hW5, (h0.keep st1), h1, rfl⟩
    refine Ref.condP (b := fun s => s.t_8) (L := G2 w0 F0) (K := G0 w0 F0) ?_ ?_ ?_
    · rintro s ρ w ⟨F, hW, h0, h1, h8⟩; exact ⟨h8, ⟨F, hW, h0⟩, F, hW, h0, h1⟩
    · refine Ref.seq (B := G3 w0 F0) ?_ ?_
      · refine Ref.region (fun s ρ w s' h hr => ?_); obtain ⟨F, hW, h0⟩ := h; refine ol_m rfl ?_; refine ol_a rfl ?_; exact ol_fin hr ⟨F, hW, h0⟩
      exact Ref.ret (fun s ρ w h => ⟨s, rfl, h⟩)
    · exact Ref.skip
  refine Ref.seq (B := G4 w0 F0) ?_ ?_
  · refine Ref.region (fun s ρ w s' h hr => ?_); obtain ⟨F, hW, h0, h1⟩ := h; refine ol_a rfl ?_; exact ol_fin hr ⟨F, hW, h0, h1, rfl⟩
  refine Ref.seq (B := G4 w0 F0) ?_ ?_
  · refine Ref.block ?_; refine Ref.loop ?_; refine Ref.seq (B := G4 w0 F0) ?_ ?_
    · refine Ref.seq (B := G5 w0 F0) ?_ ?_
      · refine Ref.region (fun s ρ w s' h hr => ?_); obtain ⟨F, hW, h0, h1, h5⟩ := h; refine ol_m h5 ?_; refine ol_m rfl ?_; obtain ⟨A6, c7, e8, hc9, R10⟩ := id h0; refine ol_v (e_len (SlT.sl sl_30) e8) rfl ?_; refine ol_v (e_lss rfl rfl) rfl ?_; obtain ⟨x23, hx24, hr⟩ := bind_some' hr; refine ol_cutA 8 14 21 (fun ρ' w' => w = w' ∧ ρ' 21 = .bool x23) rfl ?_ ?_
        · by_cases hb11 : (decide (s.at_5 < (s.l_0.length : Int))) = true
          · have hr := hx24; rw [if_pos hb11] at hr; refine ol_m rfl ?_; refine ol_yes rfl rfl (congrArg Value.bool hb11) ?_; refine ol_m rfl ?_; refine ol_yes rfl rfl (congrArg Value.bool hb11) ?_; refine ol_m h5 ?_; refine ol_yes rfl rfl (congrArg Value.bool hb11) ?_; obtain ⟨x13, hx13, hr⟩ := bind_some' hr; obtain ⟨A14, c15, e16, hc17, R18⟩ := id h0; obtain ⟨b19, o20, hA21, L22⟩ := Row.at_ R18 hx13; refine ol_v (e_ix (SlT.sl sl_30) (SlT.sz sl_30) hA21 hx13 e16 rfl) rfl ?_; refine ol_yes rfl rfl (congrArg Value.bool hb11) ?_; refine ol_v (e_ld ty_3 (LiesV.int L22.at_) rfl) rfl ?_; refine ol_yes rfl rfl (congrArg Value.bool hb11) ?_; refine ol_m h1 ?_; refine ol_yes rfl rfl (congrArg Value.bool hb11) ?_; refine ol_v (e_lss rfl rfl) rfl ?_; refine ol_v (e_pick true _ (congrArg Value.bool hb11) rfl) rfl ?_; exact ol_nil ⟨⟨rfl, (congrArg Value.bool (Option.some.inj hr))⟩, (Agr.refl _ _ _).u.u.u.u.u.u.u.u⟩
          · have hb12 := Bool.eq_false_iff.mpr hb11; have hr := hx24; rw [if_neg hb11] at hr; refine ol_m rfl ?_; refine ol_not rfl rfl rfl (congrArg Value.bool hb12) rfl ?_; refine ol_not rfl rfl rfl (congrArg Value.bool hb12) rfl ?_; refine ol_not rfl rfl rfl (congrArg Value.bool hb12) rfl ?_; refine ol_not rfl rfl rfl (congrArg Value.bool hb12) rfl ?_; refine ol_not rfl rfl rfl (congrArg Value.bool hb12) rfl ?_; refine ol_not rfl rfl rfl (congrArg Value.bool hb12) rfl ?_; refine ol_v (e_pick false _ (congrArg Value.bool hb12) rfl) rfl ?_; exact ol_nil ⟨⟨rfl, (congrArg Value.bool (Option.some.inj hr))⟩, (Agr.refl _ _ _).u.u.u.u.u.u.u.u⟩
        rintro ρ24 _ ⟨⟨rfl, hp24⟩, hAg24⟩; exact ol_fin hr ⟨F, hW, (SlR.eqv (hAg24 0 rfl) h0), ((hAg24 1 rfl).trans h1), ((hAg24 5 rfl).trans h5), hp24⟩
      refine Ref.condP (b := fun s => s.t_21) (L := G4 w0 F0) (K := G4 w0 F0) ?_ ?_ ?_
      · rintro s ρ w ⟨F, hW, h0, h1, h5, h21⟩; exact ⟨h21, ⟨F, hW, h0, h1, h5⟩, F, hW, h0, h1, h5⟩
      · exact Ref.skip
      · exact Ref.exit (fun s ρ w h => h)
    refine Ref.block ?_; refine Ref.region (fun s ρ w s' h hr => ?_); obtain ⟨F, hW, h0, h1, h5⟩ := h; refine ol_m h5 ?_; refine ol_v (e_add rfl rfl) rfl ?_; refine ol_a rfl ?_; exact ol_fin hr ⟨F, hW, h0, h1, rfl⟩
  refine Ref.seq (B := G3 w0 F0) ?_ ?_
  · refine Ref.regionH (by kernel_rfl) (fun s ρ w ⟨F, hW, h0, h1, h5⟩ => ⟨F, hW.drewS, h0.keep (sd hW), h1, h5⟩) (fun s ρ w s' h hr => ?_); obtain ⟨F, hW, h0, h1, h5⟩ := h; refine ⟨fun w' => Stp F w F w', ?_⟩; refine oh_v 0 rfl (by kernel_rfl) (by kernel_rfl) (by kernel_rfl) (Stp.refl _ _) (fun wv_ SV => e_mv _ rfl) rfl ?_; refine oh_v 1 rfl (by kernel_rfl) (by kernel_rfl) (by kernel_rfl) (Stp.refl _ _) (fun wv_ SV => e_mv _ h5) rfl ?_; obtain ⟨A25, c26, e27, hc28, R29⟩ := id h0; obtain ⟨x30, hx30, hr⟩ := bind_some' hr; have hs31 := SlR.cutTo R29 hc28 hx30; refine oh_v 2 rfl (by kernel_rfl) (by kernel_rfl) (by kernel_rfl) (Stp.refl _ _) (fun wv_ SV => e_slH (SlT.sl sl_30) (SlT.sz sl_30) hc28 e27 rfl hx30) rfl ?_; refine oh_v 4 rfl (by kernel_rfl) (by kernel_rfl) (by kernel_rfl) (Stp.refl _ _) (fun wv_ SV => e_mv _ h1) rfl ?_; refine oh_v 7 rfl (by kernel_rfl) (by kernel_rfl) (by kernel_rfl) (Stp.refl _ _) (fun wv_ SV => e_mv _ rfl) rfl ?_; refine oh_v 8 rfl (by kernel_rfl) (by kernel_rfl) (by kernel_rfl) (Stp.refl _ _) (fun wv_ SV => e_mv _ h5) rfl ?_; obtain ⟨A32, c33, e34, hc35, R36⟩ := id h0; obtain ⟨x37, hx37, hr⟩ := bind_some' hr; have hs38 := SlR.cutFrom R36 hc35 hx37; refine oh_v 9 rfl (by kernel_rfl) (by kernel_rfl) (by kernel_rfl) (Stp.refl _ _) (fun wv_ SV => e_slL (SlT.sl sl_30) (SlT.sz sl_30) hc35 e34 rfl hx37) rfl ?_; refine oh_all [3, 5] (by kernel_rfl) rfl ⟨?_, ?_, trivial⟩
    · obtain ⟨x39, hx39, hr⟩ := bind_some' hr; refine oh1_e rfl (f_app sl_30 hW (OwnV.nil (kInt .i64) 3 (Bs w0 nrow) F w) hs31 hx39 rfl rfl) rfl ?_; rintro v40 w41 ⟨hW42, ho43, hg1, st1, hor44⟩; refine ⟨(Stp.back st1), ?_⟩; refine oh_all [5] (by kernel_rfl) rfl ⟨?_, trivial⟩
      · refine oh1_e rfl (f_bslF sl_30 hW42 ([s.n_1] : List Int) [.int .i64 s.n_1] (by exact ⟨_, _, rfl, (val_int _ _), rfl⟩) rfl (Nat.le_of_ble_eq_true rfl) (lcons (congrArg (Prod.mk 0) rfl) rfl)) rfl ?_; rintro v45 w46 ⟨Fz48, kw2, ho47⟩; have hW49 := hW42.trans kw2; have st2 := kw2.stp hW42.ok; refine ⟨(Stp.back (st1.trans st2)), ?_⟩; refine oh_all [6] (by kernel_rfl) rfl ⟨?_, trivial⟩
        · obtain ⟨x50, hx50, hr⟩ := bind_some' hr; refine oh1_e rfl (f_app sl_30 hW49 (ho43.wk kw2 hW42.ok) ho47 hx50 rfl rfl) rfl ?_; rintro v51 w52 ⟨hW53, ho54, hg3, st3, hor55⟩; refine ⟨(Stp.back (st1.trans (st2.trans st3))), ?_⟩; refine oh_all [10] (by kernel_rfl) rfl ⟨?_, trivial⟩
          · obtain ⟨x56, hx56, hr⟩ := bind_some' hr; refine oh1_e rfl (f_app sl_30 hW53 ho54 (hs38.keep (st1.trans (st2.trans st3))) hx56 rfl rfl) rfl ?_; rintro v57 w58 ⟨hW59, ho60, hg4, st4, hor61⟩; refine ⟨(Stp.back (st1.trans (st2.trans (st3.trans st4)))), ?_⟩; refine oh_all [11] (by kernel_rfl) rfl ⟨?_, trivial⟩
            · obtain ⟨Fz62, hWz63, st5, hF5, hz64⟩ := (ho60).frozen hW59; refine oh1_v rfl (e_as _ rfl) rfl ?_; refine ⟨(Stp.back (st1.trans (st2.trans (st3.trans (st4.trans st5))))), ?_⟩; obtain rfl := Option.some.inj hr; exact oh_done (by kernel_rfl) ⟨Fz62, hWz63, hz64⟩
    · refine oh1_e rfl (f_bslF sl_30 hW ([s.n_1] : List Int) [.int .i64 s.n_1] (by exact ⟨_, _, rfl, (val_int _ _), rfl⟩) rfl (Nat.le_of_ble_eq_true rfl) (lcons (congrArg (Prod.mk 0) rfl) rfl)) rfl ?_; rintro v65 w66 ⟨Fz68, kw1, ho67⟩; have hW69 := hW.trans kw1; have st1 := kw1.stp hW.ok; refine ⟨(Stp.back st1), ?_⟩; refine oh_all [3] (by kernel_rfl) rfl ⟨?_, trivial⟩
      · obtain ⟨x39, hx39, hr⟩ := bind_some' hr; refine oh1_e rfl (f_app sl_30 hW69 (OwnV.nil (kInt .i64) 3 (Bs w0 nrow) Fz68 w66) (hs31.keep st1) hx39 rfl rfl) rfl ?_; rintro v70 w71 ⟨hW72, ho73, hg2, st2, hor74⟩; refine ⟨(Stp.back (st1.trans st2)), ?_⟩; refine oh_all [6] (by kernel_rfl) rfl ⟨?_, trivial⟩
        · obtain ⟨x50, hx50, hr⟩ := bind_some' hr; refine oh1_e rfl (f_app sl_30 hW72 ho73 (ho67.keep st2) hx50 rfl rfl) rfl ?_; rintro v75 w76 ⟨hW77, ho78, hg3, st3, hor79⟩; refine ⟨(Stp.back (st1.trans (st2.trans st3))), ?_⟩; refine oh_all [10] (by kernel_rfl) rfl ⟨?_, trivial⟩
          · obtain ⟨x56, hx56, hr⟩ := bind_some' hr; refine oh1_e rfl (f_app sl_30 hW77 ho78 (hs38.keep (st1.trans (st2.trans st3))) hx56 rfl rfl) rfl ?_; rintro v80 w81 ⟨hW82, ho83, hg4, st4, hor84⟩; refine ⟨(Stp.back (st1.trans (st2.trans (st3.trans st4)))), ?_⟩; refine oh_all [11] (by kernel_rfl) rfl ⟨?_, trivial⟩
            · obtain ⟨Fz85, hWz86, st5, hF5, hz87⟩ := (ho83).frozen hW82; refine oh1_v rfl (e_as _ rfl) rfl ?_; refine ⟨(Stp.back (st1.trans (st2.trans (st3.trans (st4.trans st5))))), ?_⟩; obtain rfl := Option.some.inj hr; exact oh_done (by kernel_rfl) ⟨Fz85, hWz86, hz87⟩
  exact Ref.ret (fun s ρ w h => ⟨s, rfl, h⟩)
def post (w : World) (F : BSet) (r : R) (v : Value) (w' : World) : Prop := ∃ (F' : BSet) (v0' : Value), v = v0' ∧ Wk nrow w F F' w' ∧ SlR (kInt .i64) F' w' v0' r
theorem calls {w : World} {F : BSet} (hok : ∀ b, F b → b < w.heap.size) {v0 : Value} {a0 : (List Int)} (h0 : SlR (kInt .i64) F w v0 a0) (a1 : Int) {r : R} (hf : f a0 a1 = some r) : Calls Tryd.prog 39 #[v0, .int .i64 a1] w fun e w' => ∃ v, e = .returned v ∧ post w F r v w' := by
  obtain ⟨c, hc, href⟩ := ref w F; refine calls_of_ref (args := [v0, .int .i64 a1]) _ Tryd.func39 hc rfl rfl href ?_ (retOf_some hf) ?_
  · exact ⟨F, Wk.refl hok, h0, rfl⟩
  · rintro ρ w' a ⟨s, rfl, F', hW, h4⟩ hF; refine ⟨_, run_results (rs := [.tmp 4]) rfl hF (vs := [ρ 4]) (⟨_, rfl, rfl⟩), ?_⟩; exact ⟨F', ρ 4, rfl, hW, h4⟩
end
end ref4_Insert

namespace ref4_MissingOf
section
abbrev c1 (ρ : Env) (g1 : Nat) (w0 w : World) (F : BSet) (s : S) (X : Prop) : Prop := ρ 1 = .pointer (some ⟨g1, 0, none⟩) ∧ Box k_ObjectStore 24 (Bs w0 nrow) F w g1 s.s_1 ∧ X
abbrev c2 (F : BSet) (w : World) (ρ : Env) (s : S) (X : Prop) : Prop := SlR (kInt .i64) F w (ρ 3) s.out_3 ∧ X
abbrev c3 (ρ : Env) (s : S) (X : Prop) : Prop := ρ 4 = .int .i64 s.i_4 ∧ X
def G0 : GT S := fun w0 F0 s ρ w => ∃ F, Wk nrow w0 F0 F w ∧ Val k_ObjectStore F w (ρ 0) s.s_0
def G1 : GT S := fun w0 F0 s ρ w => ∃ F, Wk nrow w0 F0 F w ∧ ∃ g1, ρ 1 = .pointer (some ⟨g1, 0, none⟩) ∧ Box k_ObjectStore 24 (Bs w0 nrow) F w g1 s.s_1
def G2 : GT S := fun w0 F0 s ρ w => ∃ F, Wk nrow w0 F0 F w ∧ ∃ g1, c1 ρ g1 w0 w F s (SlR (kInt .i64) F w (ρ 3) s.out_3)
def G3 : GT S := fun w0 F0 s ρ w => ∃ F, Wk nrow w0 F0 F w ∧ ∃ g1, c1 ρ g1 w0 w F s (c2 F w ρ s (ρ 4 = .int .i64 s.i_4))
def G4 : GT S := fun w0 F0 s ρ w => ∃ F, Wk nrow w0 F0 F w ∧ ∃ g1, c1 ρ g1 w0 w F s (c2 F w ρ s (c3 ρ s (ρ 11 = .bool s.t_11)))
def G5 : GT S := fun w0 F0 s ρ w => ∃ F, Wk nrow w0 F0 F w ∧ SlR (kInt .i64) F w (ρ 3) s.out_3
def G6 : GT S := fun w0 F0 s ρ w => ∃ F, Wk nrow w0 F0 F w ∧ ∃ g1, c1 ρ g1 w0 w F s (c2 F w ρ s (c3 ρ s (SlR (kInt .i64) F w (ρ 5) s.l_5)))
def G7 : GT S := fun w0 F0 s ρ w => ∃ F, Wk nrow w0 F0 F w ∧ ∃ g1, c1 ρ g1 w0 w F s (c2 F w ρ s (c3 ρ s (SlR (kInt .i64) F w (ρ 5) s.l_5 ∧ ρ 6 = .int .i64 s.k_6)))
def G8 : GT S := fun w0 F0 s ρ w => ∃ F, Wk nrow w0 F0 F w ∧ ∃ g1, c1 ρ g1 w0 w F s (c2 F w ρ s (c3 ρ s (SlR (kInt .i64) F w (ρ 5) s.l_5 ∧ ρ 6 = .int .i64 s.k_6 ∧ ρ 24 = .bool s.t_24)))
def G9 : GT S := fun w0 F0 s ρ w => ∃ F, Wk nrow w0 F0 F w ∧ ∃ g1, c1 ρ g1 w0 w F s (c2 F w ρ s (c3 ρ s (SlR (kInt .i64) F w (ρ 5) s.l_5 ∧ ρ 6 = .int .i64 s.k_6 ∧ ρ 33 = .bool s.t_33)))
def G10 : GT S := fun w0 F0 s ρ w => ∃ F, Wk nrow w0 F0 F w ∧ SlR (kInt .i64) F w (ρ 2) s.t_2
set_option maxHeartbeats 4000000 in
set_option maxRecDepth 20000 in
theorem ref (w0 : World) (F0 : BSet) : ∃ c, Tryd.f23.body = some c ∧ Ref Tryd.prog 41 c (G0 w0 F0) body (fun _ _ _ => False) (fun _ _ _ _ => False) (fun r ρ w => ∃ s, retv s = r ∧ G10 w0 F0 s ρ w) := by
  refine ⟨_, rfl, ?_⟩; unfold body; refine Ref.seq (B := G1 w0 F0) ?_ ?_
  · refine Ref.region (fun s ρ w s' h hr => ?_); obtain ⟨F, hW, h0⟩ := h; refine ol_e (f_box hW rfl h0) rfl rfl ?_; rintro _ w8 ⟨g7, rfl, kw1, ho9⟩; have hW10 := hW.trans kw1; have st1 := kw1.stp hW.ok; refine ol_a rfl ?_; exact ol_fin hr ⟨F, hW10, g7, rfl, (ho9.base (row := nrow) hW.le)⟩
  refine Ref.seq (B := G2 w0 F0) ?_ ?_
  · refine Ref.region (fun s ρ w s' h hr => ?_); obtain ⟨F, hW, g1, p1, h1⟩ := h; refine ol_a rfl ?_; exact ol_fin hr ⟨F, hW, g1, p1, h1, (SlR.nil (kInt .i64) F w)⟩
  refine Ref.seq (B := G5 w0 F0) ?_ ?_
  · refine Ref.seq (B := G3 w0 F0) ?_ ?_
    · refine Ref.region (fun s ρ w s' h hr => ?_); obtain ⟨F, hW, g1, p1, h1, h3⟩ := h; refine ol_a rfl ?_; exact ol_fin hr ⟨F, hW, g1, p1, h1, h3, rfl⟩
    refine Ref.block ?_; refine Ref.loop ?_; refine Ref.seq (B := G3 w0 F0) ?_ ?_
    · refine Ref.seq (B := G4 w0 F0) ?_ ?_
      · refine Ref.region (fun s ρ w s' h hr => ?_); obtain ⟨F, hW, g1, p1, h1, h3, h4⟩ := h; refine ol_m h4 ?_; refine ol_v (e_fa fa_24_0 p1) rfl ?_; obtain ⟨v12, hl13, hs14⟩ := LiesV.sl ((h1).at_.fld fl_ObjectStore_0); refine ol_v (e_ld ty_22 hl13 rfl) rfl ?_; obtain ⟨A15, c16, e17, hc18, R19⟩ := id hs14; refine ol_v (e_len (SlT.sl sl_22) e17) rfl ?_; refine ol_v (e_lss rfl rfl) rfl ?_; exact ol_fin hr ⟨F, hW, g1, p1, h1, h3, h4, rfl⟩
      refine Ref.condP (b := fun s => s.t_11) (L := G3 w0 F0) (K := G5 w0 F0) ?_ ?_ ?_
      · rintro s ρ w ⟨F, hW, g1, p1, h1, h3, h4, h11⟩; exact ⟨h11, ⟨F, hW, g1, p1, h1, h3, h4⟩, F, hW, h3⟩
      · exact Ref.skip
      · exact Ref.exit (fun s ρ w h => h)
    refine Ref.seq (B := G3 w0 F0) ?_ ?_
    · refine Ref.block ?_; refine Ref.seq (B := G6 w0 F0) ?_ ?_
      · refine Ref.region (fun s ρ w s' h hr => ?_); obtain ⟨F, hW, g1, p1, h1, h3, h4⟩ := h; refine ol_v (e_fa fa_24_0 p1) rfl ?_; obtain ⟨v20, hl21, hs22⟩ := LiesV.sl ((h1).at_.fld fl_ObjectStore_0); refine ol_v (e_ld ty_22 hl21 rfl) rfl ?_; refine ol_m h4 ?_; obtain ⟨x23, hx23, hr⟩ := bind_some' hr; obtain ⟨A24, c25, e26, hc27, R28⟩ := id hs22; obtain ⟨b29, o30, hA31, L32⟩ := Row.at_ R28 hx23; refine ol_v (e_ix (SlT.sl sl_22) (SlT.sz sl_22) hA31 hx23 e26 rfl) rfl ?_; refine ol_v (e_fa fa_50_1 rfl) rfl ?_; refine ol_v (e_fa fa_48_1 rfl) rfl ?_; obtain ⟨v34, hl35, hs36⟩ := LiesV.sl ((L32.fld fl_StoredObject_1).fld fl_Object_1).at_; refine ol_v (e_ld ty_30 hl35 rfl) rfl ?_; refine ol_a rfl ?_; exact ol_fin hr ⟨F, hW, g1, p1, h1, h3, h4, hs36⟩
      refine Ref.seq (B := G7 w0 F0) ?_ ?_
      · refine Ref.region (fun s ρ w s' h hr => ?_); obtain ⟨F, hW, g1, p1, h1, h3, h4, h5⟩ := h; refine ol_a rfl ?_; exact ol_fin hr ⟨F, hW, g1, p1, h1, h3, h4, h5, rfl⟩
      refine Ref.block ?_; refine Ref.loop ?_; refine Ref.seq (B := G7 w0 F0) ?_ ?_
      · refine Ref.seq (B := G8 w0 F0) ?_ ?_
        · refine Ref.region (fun s ρ w s' h hr => ?_); obtain ⟨F, hW, g1, p1, h1, h3, h4, h5, h6⟩ := h; refine ol_m h6 ?_; refine ol_m rfl ?_; obtain ⟨A37, c38, e39, hc40, R41⟩ := id h5; refine ol_v (e_len (SlT.sl sl_30) e39) rfl ?_; refine ol_v (e_lss rfl rfl) rfl ?_; exact ol_fin hr ⟨F, hW, g1, p1, h1, h3, h4, h5, h6, rfl⟩
        refine Ref.condP (b := fun s => s.t_24) (L := G7 w0 F0) (K := G3 w0 F0) ?_ ?_ ?_
        · rintro s ρ w ⟨F, hW, g1, p1, h1, h3, h4, h5, h6, h24⟩; exact ⟨h24, ⟨F, hW, g1, p1, h1, h3, h4, h5, h6⟩, F, hW, g1, p1, h1, h3, h4⟩
        · exact Ref.skip
        · exact Ref.exit (fun s ρ w h => h)
      refine Ref.seq (B := G7 w0 F0) ?_ ?_
      · refine Ref.block ?_; refine Ref.seq (B := G9 w0 F0) ?_ ?_
        · refine Ref.regionD 5 (by kernel_rfl) (by kernel_rfl) (fun s ρ w ⟨F, hW, g1, p1, h1, h3, h4, h5, h6⟩ => ⟨F, hW.drewS, g1, p1, h1.wk (Wk.drew (row := nrow) hW.ok) hW.ok, h3.keep (sd hW), h4, h5.keep (sd hW), h6⟩) (fun s ρ w s' h hr => ?_); obtain ⟨F, hW, g1, p1, h1, h3, h4, h5, h6⟩ := h; obtain ⟨v42, hl43⟩ := LiesAt.v (h1).at_; refine ol_v (e_ld ty_24 hl43 p1) rfl ?_; refine ol_m rfl ?_; refine ol_m h6 ?_; obtain ⟨x44, hx44, hr⟩ := bind_some' hr; obtain ⟨A45, c46, e47, hc48, R49⟩ := id h5; obtain ⟨b50, o51, hA52, L53⟩ := Row.at_ R49 hx44; refine ol_v (e_ix (SlT.sl sl_30) (SlT.sz sl_30) hA52 hx44 e47 rfl) rfl ?_; refine ol_v (e_ld ty_3 (LiesV.int L53.at_) rfl) rfl ?_; obtain ⟨x54, hx54, hr⟩ := bind_some' hr; refine ol_e (f_call [v42, .int .i64 x44] fn_19 (lcons rfl (lcons rfl rfl)) (ref3_At.calls hW.ok hl43.val x44 hx54)) rfl rfl ?_; rintro _ w55 ⟨Fz56, rfl, kw1⟩; have hW58 := hW.trans kw1; have st1 := kw1.stp hW.ok; refine ol_v (e_lss rfl rfl) rfl ?_; exact ol_fin hr ⟨Fz56, hW58, g1, p1, (h1.wk kw1 hW.ok), (h3.keep st1), h4, (h5.keep st1), h6, rfl⟩
        refine Ref.condP (b := fun s => s.t_33) (L := G7 w0 F0) (K := G7 w0 F0) ?_ ?_ ?_
        · rintro s ρ w ⟨F, hW, g1, p1, h1, h3, h4, h5, h6, h33⟩; exact ⟨h33, ⟨F, hW, g1, p1, h1, h3, h4, h5, h6⟩, F, hW, g1, p1, h1, h3, h4, h5, h6⟩
        · refine Ref.region (fun s ρ w s' h hr => ?_); obtain ⟨F, hW, g1, p1, h1, h3, h4, h5, h6⟩ := h; refine ol_m rfl ?_; refine ol_m rfl ?_; refine ol_m h6 ?_; obtain ⟨x59, hx59, hr⟩ := bind_some' hr; obtain ⟨A60, c61, e62, hc63, R64⟩ := id h5; obtain ⟨b65, o66, hA67, L68⟩ := Row.at_ R64 hx59; refine ol_v (e_ix (SlT.sl sl_30) (SlT.sz sl_30) hA67 hx59 e62 rfl) rfl ?_; refine ol_v (e_ld ty_3 (LiesV.int L68.at_) rfl) rfl ?_; obtain ⟨x69, hx69, hr⟩ := bind_some' hr; refine ol_e (f_call [(ρ 3), .int .i64 x59] fn_39 (lcons rfl (lcons rfl rfl)) (ref4_Insert.calls hW.ok h3 x59 hx69)) rfl rfl ?_; rintro v72 w70 ⟨Fz71, _, rfl, kw1, hk73⟩; have hW75 := hW.trans kw1; have st1 := kw1.stp hW.ok; refine ol_a rfl ?_; exact ol_fin hr ⟨Fz71, hW75, g1, p1, (h1.wk kw1 hW.ok), hk73, h4, (h5.keep st1), h6⟩
        · exact Ref.skip
      refine Ref.region (fun s ρ w s' h hr => ?_); obtain ⟨F, hW, g1, p1, h1, h3, h4, h5, h6⟩ := h; refine ol_m h6 ?_; refine ol_v (e_add rfl rfl) rfl ?_; refine ol_a rfl ?_; exact ol_fin hr ⟨F, hW, g1, p1, h1, h3, h4, h5, rfl⟩
    refine Ref.region (fun s ρ w s' h hr => ?_); obtain ⟨F, hW, g1, p1, h1, h3, h4⟩ := h; refine ol_m h4 ?_; refine ol_v (e_add rfl rfl) rfl ?_; refine ol_a rfl ?_; exact ol_fin hr ⟨F, hW, g1, p1, h1, h3, rfl⟩
  refine Ref.seq (B := G10 w0 F0) ?_ ?_
  · refine Ref.region (fun s ρ w s' h hr => ?_); obtain ⟨F, hW, h3⟩ := h; refine ol_m rfl ?_; refine ol_a rfl ?_; exact ol_fin hr ⟨F, hW, h3⟩
  exact Ref.ret (fun s ρ w h => ⟨s, rfl, h⟩)
def post (w : World) (F : BSet) (r : R) (v : Value) (w' : World) : Prop := ∃ (F' : BSet) (v0' : Value), v = v0' ∧ Wk nrow w F F' w' ∧ SlR (kInt .i64) F' w' v0' r
theorem calls {w : World} {F : BSet} (hok : ∀ b, F b → b < w.heap.size) {v0 : Value} {a0 : ObjectStore} (h0 : Val k_ObjectStore F w v0 a0) {r : R} (hf : f a0 = some r) : Calls Tryd.prog 23 #[v0] w fun e w' => ∃ v, e = .returned v ∧ post w F r v w' := by
  obtain ⟨c, hc, href⟩ := ref w F; refine calls_of_ref (args := [v0]) _ Tryd.func23 hc rfl rfl href ?_ (retOf_some hf) ?_
  · exact ⟨F, Wk.refl hok, h0⟩
  · rintro ρ w' a ⟨s, rfl, F', hW, h2⟩ hF; refine ⟨_, run_results (rs := [.tmp 2]) rfl hF (vs := [ρ 2]) (⟨_, rfl, rfl⟩), ?_⟩; exact ⟨F', ρ 2, rfl, hW, h2⟩
end
end ref4_MissingOf

namespace law4_GcMarkMatchesSpec
section
abbrev c2 (F : BSet) (w : World) (ρ : Env) (s : S) (X : Prop) : Prop := SlR (kInt .i64) F w (ρ 1) s.t_1 ∧ X
abbrev c3 (ρ : Env) (g2 : Nat) (w0 w : World) (F : BSet) (s : S) (X : Prop) : Prop := ρ 2 = .pointer (some ⟨g2, 0, none⟩) ∧ Box k_ObjectStore 24 (Bs w0 nrow) F w g2 s.t_2 ∧ X
abbrev c6 (F : BSet) (w w0 : World) (ρ : Env) (s : S) (g6 : Nat) (X : Prop) : Prop := SlR (kInt .i64) F w (ρ 5) s.t_5 ∧ ρ 6 = .pointer (some ⟨g6, 0, none⟩) ∧ Box k_Fault 32 (Bs w0 nrow) F w g6 s.t_6 ∧ X
abbrev e6 (F : BSet) (w w0 : World) (ρ : Env) (s : S) (g6 : Nat) : Prop := SlR (kInt .i64) F w (ρ 5) s.t_5 ∧ ρ 6 = .pointer (some ⟨g6, 0, none⟩) ∧ Box k_Fault 32 (Bs w0 nrow) F w g6 s.t_6
abbrev c7 (F : BSet) (w w0 : World) (ρ : Env) (s : S) (g8 : Nat) (X : Prop) : Prop := SlR (kInt .i64) F w (ρ 7) s.t_7 ∧ ρ 8 = .pointer (some ⟨g8, 0, none⟩) ∧ Box k_Fault 32 (Bs w0 nrow) F w g8 s.t_8 ∧ X
abbrev c9 (ρ : Env) (g9 : Nat) (w0 w : World) (F : BSet) (s : S) (X : Prop) : Prop := ρ 9 = .pointer (some ⟨g9, 0, none⟩) ∧ Box k_Fault 32 (Bs w0 nrow) F w g9 s.t_9 ∧ X
abbrev e10 (g6 g9 g8 : Nat) : Prop := Apart (some g6) (some g9) ∧ Apart (some g8) (some g9)
def G0 : GT S := fun w0 F0 s ρ w => ∃ F, Wk nrow w0 F0 F w ∧ GL 2 F w ∧ Val k_ObjectStore F w (ρ 0) s.t_0 ∧ SlR (kInt .i64) F w (ρ 1) s.t_1
def G1 : GT S := fun w0 F0 s ρ w => ∃ F, Wk nrow w0 F0 F w ∧ ∃ g2, GL 2 F w ∧ c2 F w ρ s (ρ 2 = .pointer (some ⟨g2, 0, none⟩) ∧ Box k_ObjectStore 24 (Bs w0 nrow) F w g2 s.t_2)
def G2 : GT S := fun w0 F0 s ρ w => ∃ F, Wk nrow w0 F0 F w ∧ ∃ g2, GL 2 F w ∧ c2 F w ρ s (c3 ρ g2 w0 w F s (ρ 11 = .bool s.t_11))
def G3 : GT S := fun w0 F0 s ρ w => ∃ F, Wk nrow w0 F0 F w ∧ GL 2 F w
def G4 : GT S := fun w0 F0 s ρ w => ∃ F, Wk nrow w0 F0 F w ∧ GL 2 F w ∧ ρ 4 = .bool s.t_4
def G5 : GT S := fun w0 F0 s ρ w => ∃ F, Wk nrow w0 F0 F w ∧ ∃ g2 g6, GL 2 F w ∧ c2 F w ρ s (c3 ρ g2 w0 w F s (e6 F w w0 ρ s g6))
def G6 : GT S := fun w0 F0 s ρ w => ∃ F, Wk nrow w0 F0 F w ∧ ∃ g2 g6 g8, GL 2 F w ∧ c2 F w ρ s (c3 ρ g2 w0 w F s (c6 F w w0 ρ s g6 (c7 F w w0 ρ s g8 (Apart (some g6) (some g8)))))
def G7 : GT S := fun w0 F0 s ρ w => ∃ F, Wk nrow w0 F0 F w ∧ ∃ g2 g6 g8 g9, GL 2 F w ∧ c2 F w ρ s (c3 ρ g2 w0 w F s (c6 F w w0 ρ s g6 (c7 F w w0 ρ s g8 (c9 ρ g9 w0 w F s (Apart (some g6) (some g8) ∧ e10 g6 g9 g8)))))
def G8 : GT S := fun w0 F0 s ρ w => ∃ F, Wk nrow w0 F0 F w ∧ ∃ g2 g6 g8 g9, GL 2 F w ∧ c2 F w ρ s (c3 ρ g2 w0 w F s (c6 F w w0 ρ s g6 (c7 F w w0 ρ s g8 (c9 ρ g9 w0 w F s (ρ 27 = .bool s.t_27 ∧ Apart (some g6) (some g8) ∧ e10 g6 g9 g8)))))
def G9 : GT S := fun w0 F0 s ρ w => ∃ F, Wk nrow w0 F0 F w ∧ ∃ g6 g8 g9, GL 2 F w ∧ c6 F w w0 ρ s g6 (c7 F w w0 ρ s g8 (c9 ρ g9 w0 w F s (Apart (some g6) (some g8) ∧ e10 g6 g9 g8)))
def G10 : GT S := fun w0 F0 s ρ w => ∃ F, Wk nrow w0 F0 F w ∧ ∃ g2 g6, GL 2 F w ∧ c2 F w ρ s (c3 ρ g2 w0 w F s (c6 F w w0 ρ s g6 (ρ 53 = .bool s.t_53)))
def G11 : GT S := fun w0 F0 s ρ w => ∃ F, Wk nrow w0 F0 F w ∧ ∃ g2 g6, GL 2 F w ∧ c2 F w ρ s (c3 ρ g2 w0 w F s (c6 F w w0 ρ s g6 (ρ 56 = .bool s.t_56)))
def G12 : GT S := fun w0 F0 s ρ w => ∃ F, Wk nrow w0 F0 F w ∧ ∃ g6, GL 2 F w ∧ e6 F w w0 ρ s g6
set_option maxHeartbeats 4000000 in
set_option maxRecDepth 20000 in
theorem ref (w0 : World) (F0 : BSet) : ∃ c, Tryd.f6.body = some c ∧ Ref Tryd.prog 78 c (G0 w0 F0) body (fun _ _ _ => False) (fun _ _ _ _ => False) (fun r ρ w => ∃ s, retv s = r ∧ G4 w0 F0 s ρ w) := by
  refine ⟨_, rfl, ?_⟩; unfold body; refine Ref.seq (B := G1 w0 F0) ?_ ?_
  · refine Ref.region (fun s ρ w s' h hr => ?_); obtain ⟨F, hW, hG, h0, h1⟩ := h; refine ol_e (f_box hW rfl h0) rfl rfl ?_; rintro _ w4 ⟨g3, rfl, kw1, ho5⟩; have hW6 := hW.trans kw1; have st1 := kw1.stp hW.ok; refine ol_a rfl ?_; exact ol_fin hr ⟨F, hW6, g3, (hG.keep st1), (h1.keep st1), rfl, (ho5.base (row := nrow) hW.le)⟩
  refine Ref.seq (B := G1 w0 F0) ?_ ?_
  · refine Ref.seq (B := G2 w0 F0) ?_ ?_
    · refine Ref.region (fun s ρ w s' h hr => ?_); obtain ⟨F, hW, g2, hG, h1, p2, h2⟩ := h; obtain ⟨x7, hx7, hr⟩ := bind_some' hr; refine ol_e (f_call [] fn_9 rfl (law4_gcExample.calls hW.ok hG hx7)) rfl rfl ?_; rintro _ w8 ⟨Fz9, rfl, kw1⟩; have hW11 := hW.trans kw1; have st1 := kw1.stp hW.ok; refine ol_v (e_not_ rfl) rfl ?_; exact ol_fin hr ⟨Fz9, hW11, g2, (hG.keep st1), (h1.keep st1), p2, (h2.wk kw1 hW.ok), rfl⟩
    refine Ref.condP (b := fun s => s.t_11) (L := G3 w0 F0) (K := G1 w0 F0) ?_ ?_ ?_
    · rintro s ρ w ⟨F, hW, g2, hG, h1, p2, h2, h11⟩; exact ⟨h11, ⟨F, hW, hG⟩, F, hW, g2, hG, h1, p2, h2⟩
    · refine Ref.seq (B := G4 w0 F0) ?_ ?_
      · refine Ref.region (fun s ρ w s' h hr => ?_); obtain ⟨F, hW, hG⟩ := h; refine ol_a rfl ?_; exact ol_fin hr ⟨F, hW, hG, rfl⟩
      exact Ref.ret (fun s ρ w h => ⟨s, rfl, h⟩)
    · exact Ref.skip
  refine Ref.seq (B := G5 w0 F0) ?_ ?_
  · refine Ref.region (fun s ρ w s' h hr => ?_); obtain ⟨F, hW, g2, hG, h1, p2, h2⟩ := h; obtain ⟨v12, hl13⟩ := LiesAt.v (h2).at_; refine ol_v (e_ld ty_24 hl13 p2) rfl ?_; refine ol_m rfl ?_; obtain ⟨x14, hx14, hr⟩ := bind_some' hr; refine ol_e (f_call [v12, (ρ 1)] fn_20 (lcons rfl (lcons rfl rfl)) (gc_Mark.calls hW.ok hl13.val h1 hx14)) rfl rfl ?_; rintro _ w15 ⟨Fz16, v17, v19, rfl, kw1, hk18, hk20⟩; have hW22 := hW.trans kw1; have st1 := kw1.stp hW.ok; refine ol_m rfl ?_; refine ol_v (e_ext _ rfl rfl) rfl ?_; refine ol_v (e_ext _ rfl rfl) rfl ?_; refine ol_e (f_alloc zer_32 hW22) rfl rfl ?_; rintro _ w24 ⟨g23, rfl, kw2, ho25⟩; have hW26 := hW22.trans kw2; have st2 := kw2.stp hW22.ok; obtain ⟨Fz27, hWz28, st3, hF3, hz29⟩ := (((hk18.base (row := nrow) hW.le).wk kw2 hW22.ok)).frozen hW26; refine ol_a rfl ?_; refine ol_eN (f_stB hWz28 ((ho25.base (row := nrow) hW22.le).frz (apart_bo (ho25.base (row := nrow) hW22.le) ((hk18.base (row := nrow) hW.le).wk kw2 hW22.ok) rfl).symm hF3 st3) (FldS.whole _) ty_32 (hk20.keep (st2.trans st3)) rfl rfl) rfl ?_; rintro - w30 ⟨hW31, ho32, hg4, st4⟩; have z1 := (h2.wk kw1 hW.ok).wk kw2 hW22.ok; exact ol_fin hr ⟨Fz27, hW31, g2, g23, (hG.keep (st1.trans (st2.trans (st3.trans st4)))), (h1.keep (st1.trans (st2.trans (st3.trans st4)))), p2, ((z1.frz (apart_bo z1 ((hk18.base (row := nrow) hW.le).wk kw2 hW22.ok) rfl).symm hF3 st3).mut (apart_bb ((ho25.base (row := nrow) hW22.le).frz (apart_bo (ho25.base (row := nrow) hW22.le) ((hk18.base (row := nrow) hW.le).wk kw2 hW22.ok) rfl).symm hF3 st3) (z1.frz (apart_bo z1 ((hk18.base (row := nrow) hW.le).wk kw2 hW22.ok) rfl).symm hF3 st3) rfl) hg4 st4), (hz29.keep st4), rfl, ho32⟩
  refine Ref.seq (B := G6 w0 F0) ?_ ?_
  · refine Ref.region (fun s ρ w s' h hr => ?_); obtain ⟨F, hW, g2, g6, hG, h1, p2, h2, h5, p6, h6⟩ := h; obtain ⟨v33, hl34⟩ := LiesAt.v (h2).at_; refine ol_v (e_ld ty_24 hl34 p2) rfl ?_; obtain ⟨x35, hx35, hr⟩ := bind_some' hr; refine ol_e (f_call [v33] fn_21 (lcons rfl rfl) (gc_Missing.calls hW.ok hl34.val hx35)) rfl rfl ?_; rintro _ w36 ⟨Fz37, v38, v40, rfl, kw1, hk39, hk41⟩; have hW43 := hW.trans kw1; have st1 := kw1.stp hW.ok; refine ol_m rfl ?_; refine ol_v (e_ext _ rfl rfl) rfl ?_; refine ol_v (e_ext _ rfl rfl) rfl ?_; refine ol_e (f_alloc zer_32 hW43) rfl rfl ?_; rintro _ w45 ⟨g44, rfl, kw2, ho46⟩; have hW47 := hW43.trans kw2; have st2 := kw2.stp hW43.ok; obtain ⟨Fz48, hWz49, st3, hF3, hz50⟩ := (((hk39.base (row := nrow) hW.le).wk kw2 hW43.ok)).frozen hW47; refine ol_a rfl ?_; refine ol_eN (f_stB hWz49 ((ho46.base (row := nrow) hW43.le).frz (apart_bo (ho46.base (row := nrow) hW43.le) ((hk39.base (row := nrow) hW.le).wk kw2 hW43.ok) rfl).symm hF3 st3) (FldS.whole _) ty_32 (hk41.keep (st2.trans st3)) rfl rfl) rfl ?_; rintro - w51 ⟨hW52, ho53, hg4, st4⟩; have z2 := (h2.wk kw1 hW.ok).wk kw2 hW43.ok; have z3 := h6.wk kw1 hW.ok; exact ol_fin hr ⟨Fz48, hW52, g2, g6, g44, (hG.keep (st1.trans (st2.trans (st3.trans st4)))), (h1.keep (st1.trans (st2.trans (st3.trans st4)))), p2, ((z2.frz (apart_bo z2 ((hk39.base (row := nrow) hW.le).wk kw2 hW43.ok) rfl).symm hF3 st3).mut (apart_bb ((ho46.base (row := nrow) hW43.le).frz (apart_bo (ho46.base (row := nrow) hW43.le) ((hk39.base (row := nrow) hW.le).wk kw2 hW43.ok) rfl).symm hF3 st3) (z2.frz (apart_bo z2 ((hk39.base (row := nrow) hW.le).wk kw2 hW43.ok) rfl).symm hF3 st3) rfl) hg4 st4), (h5.keep (st1.trans (st2.trans (st3.trans st4)))), p6, (((z3.wk kw2 hW43.ok).frz (apart_bo (z3.wk kw2 hW43.ok) ((hk39.base (row := nrow) hW.le).wk kw2 hW43.ok) rfl).symm hF3 st3).mut (Apart.base (fun _ e_ => by cases e_; exact ho46.ge) z3.ltw) hg4 st4), (hz50.keep st4), rfl, ho53, (Apart.base (fun _ e_ => by cases e_; exact ho46.ge) z3.ltw).symm⟩
  refine Ref.seq (B := G7 w0 F0) ?_ ?_
  · refine Ref.region (fun s ρ w s' h hr => ?_); obtain ⟨F, hW, g2, g6, g8, hG, h1, p2, h2, h5, p6, h6, h7, p8, h8, a6b_8b⟩ := h; obtain ⟨v54, hl55⟩ := LiesAt.v (h2).at_; refine ol_v (e_ld ty_24 hl55 p2) rfl ?_; obtain ⟨x56, hx56, hr⟩ := bind_some' hr; refine ol_e (f_call [v54] fn_22 (lcons rfl rfl) (ref3_StoreFault.calls hW.ok hl55.val hx56)) rfl rfl ?_; rintro v59 w57 ⟨Fz58, _, rfl, kw1, hk60⟩; have hW62 := hW.trans kw1; have st1 := kw1.stp hW.ok; refine ol_e (f_alloc zer_32 hW62) rfl rfl ?_; rintro _ w64 ⟨g63, rfl, kw2, ho65⟩; have hW66 := hW62.trans kw2; have st2 := kw2.stp hW62.ok; refine ol_eN (f_stB hW66 (ho65.base (row := nrow) hW62.le) (FldS.whole _) ty_32 (hk60.keep st2) rfl rfl) rfl ?_; rintro - w67 ⟨hW68, ho69, hg3, st3⟩; have z4 := (h2.wk kw1 hW.ok).wk kw2 hW62.ok; have z5 := h6.wk kw1 hW.ok; have z6 := h8.wk kw1 hW.ok; exact ol_fin hr ⟨Fz58, hW68, g2, g6, g8, g63, (hG.keep (st1.trans (st2.trans st3))), (h1.keep (st1.trans (st2.trans st3))), p2, (z4.mut (apart_bb (ho65.base (row := nrow) hW62.le) z4 rfl) hg3 st3), (h5.keep (st1.trans (st2.trans st3))), p6, ((z5.wk kw2 hW62.ok).mut (Apart.base (fun _ e_ => by cases e_; exact ho65.ge) z5.ltw) hg3 st3), (h7.keep (st1.trans (st2.trans st3))), p8, ((z6.wk kw2 hW62.ok).mut (Apart.base (fun _ e_ => by cases e_; exact ho65.ge) z6.ltw) hg3 st3), rfl, ho69, a6b_8b, (Apart.base (fun _ e_ => by cases e_; exact ho65.ge) z5.ltw).symm, (Apart.base (fun _ e_ => by cases e_; exact ho65.ge) z6.ltw).symm⟩
  refine Ref.seq (B := G6 w0 F0) ?_ ?_
  · refine Ref.seq (B := G8 w0 F0) ?_ ?_
    · refine Ref.region (fun s ρ w s' h hr => ?_); obtain ⟨F, hW, g2, g6, g8, g9, hG, h1, p2, h2, h5, p6, h6, h7, p8, h8, p9, h9, a6b_8b, a6b_9b, a8b_9b⟩ := h; refine ol_v (e_fa fa_32_0 p9) rfl ?_; refine ol_v (e_ld ty_3 (LiesV.int ((h9).at_.fld fl_Fault_0)) rfl) rfl ?_; refine ol_v (e_neq rfl rfl) rfl ?_; exact ol_fin hr ⟨F, hW, g2, g6, g8, g9, hG, h1, p2, h2, h5, p6, h6, h7, p8, h8, p9, h9, rfl, a6b_8b, a6b_9b, a8b_9b⟩
    refine Ref.condP (b := fun s => s.t_27) (L := G9 w0 F0) (K := G6 w0 F0) ?_ ?_ ?_
    · rintro s ρ w ⟨F, hW, g2, g6, g8, g9, hG, h1, p2, h2, h5, p6, h6, h7, p8, h8, p9, h9, h27, a6b_8b, a6b_9b, a8b_9b⟩; exact ⟨h27, ⟨F, hW, g6, g8, g9, hG, h5, p6, h6, h7, p8, h8, p9, h9, a6b_8b, a6b_9b, a8b_9b⟩, F, hW, g2, g6, g8, hG, h1, p2, h2, h5, p6, h6, h7, p8, h8, a6b_8b⟩
    · refine Ref.seq (B := G4 w0 F0) ?_ ?_
      · refine Ref.region (fun s ρ w s' h hr => ?_); obtain ⟨F, hW, g6, g8, g9, hG, h5, p6, h6, h7, p8, h8, p9, h9, a6b_8b, a6b_9b, a8b_9b⟩ := h; obtain ⟨v70, hl71⟩ := LiesAt.v (h6).at_; refine ol_v (e_ld ty_32 hl71 p6) rfl ?_; obtain ⟨v72, hl73⟩ := LiesAt.v (h9).at_; refine ol_v (e_ld ty_32 hl73 p9) rfl ?_; refine ol_v (e_teql (eq_Fault_32 hl71.val hl73.val) rfl rfl) rfl ?_; refine ol_cutA 5 31 35 (fun ρ' w' => w = w' ∧ ρ' 35 = .bool ((decide (s.t_6 = s.t_9)) && (decide (s.t_8 = s.t_9)))) rfl ?_ ?_
        · by_cases hb74 : (decide (s.t_6 = s.t_9)) = true
          · refine ol_m rfl ?_; refine ol_yes rfl rfl (congrArg Value.bool hb74) ?_; obtain ⟨v76, hl77⟩ := LiesAt.v (h8).at_; refine ol_v (e_ld ty_32 hl77 p8) rfl ?_; refine ol_yes rfl rfl (congrArg Value.bool hb74) ?_; obtain ⟨v78, hl79⟩ := LiesAt.v (h9).at_; refine ol_v (e_ld ty_32 hl79 p9) rfl ?_; refine ol_yes rfl rfl (congrArg Value.bool hb74) ?_; refine ol_v (e_teql (eq_Fault_32 hl77.val hl79.val) rfl rfl) rfl ?_; refine ol_v (e_pick true _ (congrArg Value.bool hb74) rfl) rfl ?_; exact ol_nil ⟨⟨rfl, (bv_and_t hb74)⟩, (Agr.refl _ _ _).u.u.u.u.u⟩
          · have hb75 := Bool.eq_false_iff.mpr hb74; refine ol_m rfl ?_; refine ol_not rfl rfl rfl (congrArg Value.bool hb75) rfl ?_; refine ol_not rfl rfl rfl (congrArg Value.bool hb75) rfl ?_; refine ol_not rfl rfl rfl (congrArg Value.bool hb75) rfl ?_; refine ol_v (e_pick false _ (congrArg Value.bool hb75) rfl) rfl ?_; exact ol_nil ⟨⟨rfl, (bv_and_f hb75)⟩, (Agr.refl _ _ _).u.u.u.u.u⟩
        rintro ρ80 _ ⟨⟨rfl, hp80⟩, hAg80⟩; refine ol_cutA 8 36 43 (fun ρ' w' => w = w' ∧ ρ' 43 = .bool (((decide (s.t_6 = s.t_9)) && (decide (s.t_8 = s.t_9))) && (decide ((w64 ((s.t_5.length : Int) + (s.t_7.length : Int))) = (0 : Int))))) rfl ?_ ?_
        · by_cases hb81 : ((decide (s.t_6 = s.t_9)) && (decide (s.t_8 = s.t_9))) = true
          · refine ol_m hp80 ?_; refine ol_yes rfl rfl (congrArg Value.bool hb81) ?_; refine ol_v (e_mv _ (hAg80 5 rfl)) rfl ?_; refine ol_yes rfl rfl (congrArg Value.bool hb81) ?_; obtain ⟨A83, c84, e85, hc86, R87⟩ := id h5; refine ol_v (e_len (SlT.sl sl_30) e85) rfl ?_; refine ol_yes rfl rfl (congrArg Value.bool hb81) ?_; refine ol_v (e_mv _ (hAg80 7 rfl)) rfl ?_; refine ol_yes rfl rfl (congrArg Value.bool hb81) ?_; obtain ⟨A88, c89, e90, hc91, R92⟩ := id h7; refine ol_v (e_len (SlT.sl sl_30) e90) rfl ?_; refine ol_yes rfl rfl (congrArg Value.bool hb81) ?_; refine ol_v (e_add rfl rfl) rfl ?_; refine ol_yes rfl rfl (congrArg Value.bool hb81) ?_; refine ol_v (e_eql rfl rfl) rfl ?_; refine ol_v (e_pick true _ (congrArg Value.bool hb81) rfl) rfl ?_; exact ol_nil ⟨⟨rfl, (bv_and_t hb81)⟩, (Agr.refl _ _ _).u.u.u.u.u.u.u.u⟩
          · have hb82 := Bool.eq_false_iff.mpr hb81; refine ol_m hp80 ?_; refine ol_not rfl rfl rfl (congrArg Value.bool hb82) rfl ?_; refine ol_not rfl rfl rfl (congrArg Value.bool hb82) rfl ?_; refine ol_not rfl rfl rfl (congrArg Value.bool hb82) rfl ?_; refine ol_not rfl rfl rfl (congrArg Value.bool hb82) rfl ?_; refine ol_not rfl rfl rfl (congrArg Value.bool hb82) rfl ?_; refine ol_not rfl rfl rfl (congrArg Value.bool hb82) rfl ?_; refine ol_v (e_pick false _ (congrArg Value.bool hb82) rfl) rfl ?_; exact ol_nil ⟨⟨rfl, (bv_and_f hb82)⟩, (Agr.refl _ _ _).u.u.u.u.u.u.u.u⟩
        rintro ρ93 _ ⟨⟨rfl, hp93⟩, hAg93⟩; refine ol_a hp93 ?_; exact ol_fin hr ⟨F, hW, hG, rfl⟩
      exact Ref.ret (fun s ρ w h => ⟨s, rfl, h⟩)
    · exact Ref.skip
  refine Ref.seq (B := G5 w0 F0) ?_ ?_
  · refine Ref.seq (B := G10 w0 F0) ?_ ?_
    · refine Ref.region (fun s ρ w s' h hr => ?_); obtain ⟨F, hW, g2, g6, g8, hG, h1, p2, h2, h5, p6, h6, h7, p8, h8, a6b_8b⟩ := h; refine ol_v (e_fa fa_32_0 p8) rfl ?_; refine ol_v (e_ld ty_3 (LiesV.int ((h8).at_.fld fl_Fault_0)) rfl) rfl ?_; refine ol_v (e_neq rfl rfl) rfl ?_; obtain ⟨x110, hx111, hr⟩ := bind_some' hr; refine ol_cutA 7 47 53 (fun ρ' w' => ∃ F', Wk nrow w F F' w' ∧ ρ' 53 = .bool x110) rfl ?_ ?_
      · by_cases hb94 : (!decide (s.t_8.Code = (0 : Int))) = true
        · have hr := hx111; rw [if_pos hb94] at hr; refine ol_m rfl ?_; refine ol_not rfl rfl rfl (congrArg Value.bool hb94) rfl ?_; refine ol_not rfl rfl rfl (congrArg Value.bool hb94) rfl ?_; refine ol_not rfl rfl rfl (congrArg Value.bool hb94) rfl ?_; refine ol_not rfl rfl rfl (congrArg Value.bool hb94) rfl ?_; refine ol_not rfl rfl rfl (congrArg Value.bool hb94) rfl ?_; refine ol_v (e_pick true _ (congrArg Value.bool hb94) rfl) rfl ?_; exact ol_nil ⟨⟨_, Wk.refl hW.ok, (congrArg Value.bool (Option.some.inj hr))⟩, (Agr.refl _ _ _).u.u.u.u.u.u.u⟩
        · have hb95 := Bool.eq_false_iff.mpr hb94; have hr := hx111; rw [if_neg hb94] at hr; refine ol_m rfl ?_; refine ol_yes rfl rfl (congrArg Value.bool hb95) ?_; refine ol_m rfl ?_; refine ol_yes rfl rfl (congrArg Value.bool hb95) ?_; obtain ⟨v96, hl97⟩ := LiesAt.v (h2).at_; refine ol_v (e_ld ty_24 hl97 p2) rfl ?_; refine ol_yes rfl rfl (congrArg Value.bool hb95) ?_; obtain ⟨x98, hx98, hr⟩ := bind_some' hr; refine ol_e (f_call [v96] fn_23 (lcons rfl rfl) (ref4_MissingOf.calls hW.ok hl97.val hx98)) rfl rfl ?_; rintro v101 w99 ⟨Fz100, _, rfl, kw1, hk102⟩; have hW104 := hW.trans kw1; have st1 := kw1.stp hW.ok; refine ol_yes rfl rfl (congrArg Value.bool hb95) ?_; obtain ⟨x105, hx105, hr⟩ := bind_some' hr; refine ol_e (f_call [(ρ 7), v101] fn_16 (lcons rfl (lcons rfl rfl)) (ref3_Ints.calls hW104.ok (h7.keep st1) hk102 hx105)) rfl rfl ?_; rintro _ w106 ⟨Fz107, rfl, kw2⟩; have hW109 := hW104.trans kw2; have st2 := kw2.stp hW104.ok; refine ol_yes rfl rfl (congrArg Value.bool hb95) ?_; refine ol_v (e_not_ rfl) rfl ?_; refine ol_v (e_pick false _ (congrArg Value.bool hb95) rfl) rfl ?_; exact ol_nil ⟨⟨_, (kw1.trans kw2), (congrArg Value.bool (Option.some.inj hr))⟩, (Agr.refl _ _ _).u.u.u.u.u.u.u⟩
      rintro ρ111 w112 ⟨⟨Fz113, kw1, hp111⟩, hAg111⟩; have hW114 := hW.trans kw1; have st1 := kw1.stp hW.ok; exact ol_fin hr ⟨Fz113, hW114, g2, g6, (hG.keep st1), (SlR.eqv (hAg111 1 rfl) (h1.keep st1)), ((hAg111 2 rfl).trans p2), (h2.wk kw1 hW.ok), (SlR.eqv (hAg111 5 rfl) (h5.keep st1)), ((hAg111 6 rfl).trans p6), (h6.wk kw1 hW.ok), hp111⟩
    refine Ref.condP (b := fun s => s.t_53) (L := G3 w0 F0) (K := G5 w0 F0) ?_ ?_ ?_
    · rintro s ρ w ⟨F, hW, g2, g6, hG, h1, p2, h2, h5, p6, h6, h53⟩; exact ⟨h53, ⟨F, hW, hG⟩, F, hW, g2, g6, hG, h1, p2, h2, h5, p6, h6⟩
    · refine Ref.seq (B := G4 w0 F0) ?_ ?_
      · refine Ref.region (fun s ρ w s' h hr => ?_); obtain ⟨F, hW, hG⟩ := h; refine ol_a rfl ?_; exact ol_fin hr ⟨F, hW, hG, rfl⟩
      exact Ref.ret (fun s ρ w h => ⟨s, rfl, h⟩)
    · exact Ref.skip
  refine Ref.seq (B := G5 w0 F0) ?_ ?_
  · refine Ref.seq (B := G11 w0 F0) ?_ ?_
    · refine Ref.region (fun s ρ w s' h hr => ?_); obtain ⟨F, hW, g2, g6, hG, h1, p2, h2, h5, p6, h6⟩ := h; refine ol_m rfl ?_; obtain ⟨A115, c116, e117, hc118, R119⟩ := id h1; refine ol_v (e_len (SlT.sl sl_30) e117) rfl ?_; refine ol_v (e_gtr rfl rfl) rfl ?_; exact ol_fin hr ⟨F, hW, g2, g6, hG, h1, p2, h2, h5, p6, h6, rfl⟩
    refine Ref.condP (b := fun s => s.t_56) (L := G12 w0 F0) (K := G5 w0 F0) ?_ ?_ ?_
    · rintro s ρ w ⟨F, hW, g2, g6, hG, h1, p2, h2, h5, p6, h6, h56⟩; exact ⟨h56, ⟨F, hW, g6, hG, h5, p6, h6⟩, F, hW, g2, g6, hG, h1, p2, h2, h5, p6, h6⟩
    · refine Ref.seq (B := G4 w0 F0) ?_ ?_
      · refine Ref.regionH (by kernel_rfl) (fun s ρ w ⟨F, hW, g6, hG, h5, p6, h6⟩ => ⟨F, hW.drewS, g6, hG.keep (sd hW), h5.keep (sd hW), p6, h6.wk (Wk.drew (row := nrow) hW.ok) hW.ok⟩) (fun s ρ w s' h hr => ?_); obtain ⟨F, hW, g6, hG, h5, p6, h6⟩ := h; refine ⟨fun w' => Stp F w F w' ∧ w'.heap[g6]? = w.heap[g6]?, ?_⟩; obtain ⟨v120, hl121⟩ := LiesAt.v (h6).at_; refine oh_v 0 rfl (by kernel_rfl) (by kernel_rfl) (by kernel_rfl) ⟨(Stp.refl _ _), rfl⟩ (fun wv_ SV => e_ld ty_32 (hl121.same SV.1 SV.2) p6) rfl ?_; refine oh_all [1] (by kernel_rfl) rfl ⟨?_, trivial⟩
        · obtain ⟨x122, hx122, hr⟩ := bind_some' hr; refine oh1_e rfl (f_call [.int .i64 (2 : Int), .int .i64 (-1 : Int)] fn_24 (lcons rfl (lcons rfl rfl)) (ref3_Fault.calls hW.ok (2 : Int) (-1 : Int) hx122)) rfl ?_; rintro v125 w123 ⟨Fz124, _, rfl, kw1, hk126⟩; have hW128 := hW.trans kw1; have st1 := kw1.stp hW.ok; have hh1_6 : w123.heap[g6]? = w.heap[g6]? := (h6.hpw kw1); refine ⟨⟨(Stp.back st1), hh1_6⟩, ?_⟩; refine oh_seq 2 rfl rfl ⟨(Stp.back st1), hh1_6⟩ (by kernel_rfl) ?_; refine ol_v (e_teql (eq_Fault_32 (hl121.val.keep st1) hk126) rfl rfl) rfl ?_; refine ol_cutA 5 60 64 (fun ρ' w' => w123 = w' ∧ ρ' 64 = .bool ((decide (s.t_6 = x122)) && (decide ((s.t_5.length : Int) = (0 : Int))))) rfl ?_ ?_
          · by_cases hbt1 : (decide (s.t_6 = x122)) = true
            · refine ol_m rfl ?_; refine ol_yes rfl rfl (congrArg Value.bool hbt1) ?_; refine ol_m rfl ?_; refine ol_yes rfl rfl (congrArg Value.bool hbt1) ?_; obtain ⟨At3, ct4, et5, hct6, Rt7⟩ := id (h5.keep st1); refine ol_v (e_len (SlT.sl sl_30) et5) rfl ?_; refine ol_yes rfl rfl (congrArg Value.bool hbt1) ?_; refine ol_v (e_eql rfl rfl) rfl ?_; refine ol_v (e_pick true _ (congrArg Value.bool hbt1) rfl) rfl ?_; exact ol_nil ⟨⟨rfl, (bv_and_t hbt1)⟩, (Agr.refl _ _ _).u.u.u.u.u⟩
            · have hbt2 := Bool.eq_false_iff.mpr hbt1; refine ol_m rfl ?_; refine ol_not rfl rfl rfl (congrArg Value.bool hbt2) rfl ?_; refine ol_not rfl rfl rfl (congrArg Value.bool hbt2) rfl ?_; refine ol_not rfl rfl rfl (congrArg Value.bool hbt2) rfl ?_; refine ol_v (e_pick false _ (congrArg Value.bool hbt2) rfl) rfl ?_; exact ol_nil ⟨⟨rfl, (bv_and_f hbt2)⟩, (Agr.refl _ _ _).u.u.u.u.u⟩
          rintro ρt8 _ ⟨⟨rfl, hpt8⟩, hAgt8⟩; refine ol_a hpt8 ?_; exact ol_fin hr ⟨Fz124, hW128, (hG.keep st1), rfl⟩
      exact Ref.ret (fun s ρ w h => ⟨s, rfl, h⟩)
    · exact Ref.skip
  refine Ref.seq (B := G4 w0 F0) ?_ ?_
  · refine Ref.regionH (by kernel_rfl) (fun s ρ w ⟨F, hW, g2, g6, hG, h1, p2, h2, h5, p6, h6⟩ => ⟨F, hW.drewS, g2, g6, hG.keep (sd hW), h1.keep (sd hW), p2, h2.wk (Wk.drew (row := nrow) hW.ok) hW.ok, h5.keep (sd hW), p6, h6.wk (Wk.drew (row := nrow) hW.ok) hW.ok⟩) (fun s ρ w s' h hr => ?_); obtain ⟨F, hW, g2, g6, hG, h1, p2, h2, h5, p6, h6⟩ := h; refine ⟨fun w' => Stp F w F w' ∧ w'.heap[g2]? = w.heap[g2]? ∧ w'.heap[g6]? = w.heap[g6]?, ?_⟩; refine oh_v 0 rfl (by kernel_rfl) (by kernel_rfl) (by kernel_rfl) ⟨(Stp.refl _ _), rfl, rfl⟩ (fun wv_ SV => e_fa fa_32_0 p6) rfl ?_; refine oh_v 1 rfl (by kernel_rfl) (by kernel_rfl) (by kernel_rfl) ⟨(Stp.refl _ _), rfl, rfl⟩ (fun wv_ SV => e_ld ty_3 ((LiesV.int ((h6).at_.fld fl_Fault_0)).same SV.1 SV.2.2) rfl) rfl ?_; refine oh_v 2 rfl (by kernel_rfl) (by kernel_rfl) (by kernel_rfl) ⟨(Stp.refl _ _), rfl, rfl⟩ (fun wv_ SV => e_eql rfl rfl) rfl ?_; refine oh_v 3 rfl (by kernel_rfl) (by kernel_rfl) (by kernel_rfl) ⟨(Stp.refl _ _), rfl, rfl⟩ (fun wv_ SV => e_mv _ rfl) rfl ?_
    by_cases hb129 : (decide (s.t_6.Code = (0 : Int))) = true
    · replace hr := ite_T hb129 hr
      refine oh_vG 4 rfl (by kernel_rfl) (by kernel_rfl) (by kernel_rfl) ⟨(Stp.refl _ _), rfl, rfl⟩ rfl rfl (congrArg Value.bool hb129) (fun wv_ SV => e_mv _ rfl) rfl ?_; obtain ⟨v130, hl131⟩ := LiesAt.v (h2).at_; refine oh_vG 5 rfl (by kernel_rfl) (by kernel_rfl) (by kernel_rfl) ⟨(Stp.refl _ _), rfl, rfl⟩ rfl rfl (congrArg Value.bool hb129) (fun wv_ SV => e_ld ty_24 (hl131.same SV.1 SV.2.1) p2) rfl ?_; obtain ⟨v132, hl133⟩ := LiesAt.v (h2).at_; refine oh_vG 6 rfl (by kernel_rfl) (by kernel_rfl) (by kernel_rfl) ⟨(Stp.refl _ _), rfl, rfl⟩ rfl rfl (congrArg Value.bool hb129) (fun wv_ SV => e_ld ty_24 (hl133.same SV.1 SV.2.1) p2) rfl ?_; refine oh_vG 7 rfl (by kernel_rfl) (by kernel_rfl) (by kernel_rfl) ⟨(Stp.refl _ _), rfl, rfl⟩ rfl rfl (congrArg Value.bool hb129) (fun wv_ SV => e_mv _ rfl) rfl ?_; refine oh_all [8] (by kernel_rfl) rfl ⟨?_, trivial⟩
      · obtain ⟨x134, hx134, hr⟩ := bind_some' hr; refine oh1_eG rfl rfl rfl (congrArg Value.bool hb129) (f_call [v132, (ρ 1)] fn_12 (lcons rfl (lcons rfl rfl)) (ref4_Marked.calls hW.ok hl133.val h1 hx134)) rfl ?_; rintro v137 w135 ⟨Fz136, _, rfl, kw1, hk138⟩; have hW140 := hW.trans kw1; have st1 := kw1.stp hW.ok; have hh1_2 : w135.heap[g2]? = w.heap[g2]? := (h2.hpw kw1); have hh1_6 : w135.heap[g6]? = w.heap[g6]? := (h6.hpw kw1); refine ⟨⟨(Stp.back st1), hh1_2, hh1_6⟩, ?_⟩; refine oh_all [9] (by kernel_rfl) rfl ⟨?_, trivial⟩
        · obtain ⟨Fz141, hWz142, st2, hF2, hz143⟩ := ((hk138.base (row := nrow) hW.le)).frozen hW140; obtain ⟨x144, hx144, hr⟩ := bind_some' hr; refine oh1_eG rfl rfl rfl (congrArg Value.bool hb129) (f_call [v130, v137, .bool true] fn_15 (lcons rfl (lcons rfl (lcons rfl rfl))) (ref4_Chosen.calls hWz142.ok (hl131.val.keep (st1.trans st2)) hz143 true hx144)) rfl ?_; rintro v147 w145 ⟨Fz146, _, rfl, kw3, hk148⟩; have hW150 := hWz142.trans kw3; have st3 := kw3.stp hWz142.ok; have hh3_2 : w145.heap[g2]? = w.heap[g2]? := ((((h2.wk kw1 hW.ok).frz (apart_bo (h2.wk kw1 hW.ok) (hk138.base (row := nrow) hW.le) rfl).symm hF2 st2).hpw kw3).trans hh1_2); have hh3_6 : w145.heap[g6]? = w.heap[g6]? := ((((h6.wk kw1 hW.ok).frz (apart_bo (h6.wk kw1 hW.ok) (hk138.base (row := nrow) hW.le) rfl).symm hF2 st2).hpw kw3).trans hh1_6); refine ⟨⟨(Stp.back (st1.trans (st2.trans st3))), hh3_2, hh3_6⟩, ?_⟩; refine oh_all [10] (by kernel_rfl) rfl ⟨?_, trivial⟩
          · obtain ⟨x151, hx151, hr⟩ := bind_some' hr; refine oh1_eG rfl rfl rfl (congrArg Value.bool hb129) (f_call [v147] fn_17 (lcons rfl rfl) (ref4_DigestsOf.calls hW150.ok hk148 hx151)) rfl ?_; rintro v154 w152 ⟨Fz153, _, rfl, kw4, hk155⟩; have hW157 := hW150.trans kw4; have st4 := kw4.stp hW150.ok; have hh4_2 : w152.heap[g2]? = w.heap[g2]? := (((((h2.wk kw1 hW.ok).frz (apart_bo (h2.wk kw1 hW.ok) (hk138.base (row := nrow) hW.le) rfl).symm hF2 st2).wk kw3 hWz142.ok).hpw kw4).trans hh3_2); have hh4_6 : w152.heap[g6]? = w.heap[g6]? := (((((h6.wk kw1 hW.ok).frz (apart_bo (h6.wk kw1 hW.ok) (hk138.base (row := nrow) hW.le) rfl).symm hF2 st2).wk kw3 hWz142.ok).hpw kw4).trans hh3_6); refine ⟨⟨(Stp.back (st1.trans (st2.trans (st3.trans st4)))), hh4_2, hh4_6⟩, ?_⟩; refine oh_all [11] (by kernel_rfl) rfl ⟨?_, trivial⟩
            · obtain ⟨Fl158, okl158, stl158, hFl158, hl158⟩ := OwnV.lent (hk155.base (row := nrow) hW150.le) hW157.ok; obtain ⟨x159, hx159, hr⟩ := bind_some' hr; refine oh1_eG rfl rfl rfl (congrArg Value.bool hb129) (f_call [(ρ 5), v154] fn_16 (lcons rfl (lcons rfl rfl)) (ref3_Ints.calls okl158 ((h5.keep (st1.trans (st2.trans (st3.trans st4)))).keep stl158) hl158 hx159)) rfl ?_; rintro _ w160 ⟨Fz161, rfl, kw5⟩; have ko163 := kw5; have kw5 := kw5.lend hW157.ok; have hW164 := hW157.trans kw5; have st5 := kw5.stp hW157.ok; have hh5_2 : w160.heap[g2]? = w.heap[g2]? := ((((((h2.wk kw1 hW.ok).frz (apart_bo (h2.wk kw1 hW.ok) (hk138.base (row := nrow) hW.le) rfl).symm hF2 st2).wk kw3 hWz142.ok).wk kw4 hW150.ok).hpw kw5).trans hh4_2); have hh5_6 : w160.heap[g6]? = w.heap[g6]? := ((((((h6.wk kw1 hW.ok).frz (apart_bo (h6.wk kw1 hW.ok) (hk138.base (row := nrow) hW.le) rfl).symm hF2 st2).wk kw3 hWz142.ok).wk kw4 hW150.ok).hpw kw5).trans hh4_6); refine ⟨⟨(Stp.back (st1.trans (st2.trans (st3.trans (st4.trans st5))))), hh5_2, hh5_6⟩, ?_⟩; refine oh_v 12 rfl (by kernel_rfl) (by kernel_rfl) (by kernel_rfl) ⟨(Stp.back (st1.trans (st2.trans (st3.trans (st4.trans st5))))), hh5_2, hh5_6⟩ (fun wv_ SV => e_pick true _ (congrArg Value.bool hb129) rfl) rfl ?_; refine oh_v 13 rfl (by kernel_rfl) (by kernel_rfl) (by kernel_rfl) ⟨(Stp.back (st1.trans (st2.trans (st3.trans (st4.trans st5))))), hh5_2, hh5_6⟩ (fun wv_ SV => e_as _ rfl) rfl ?_; obtain rfl := Option.some.inj hr; exact oh_done (by kernel_rfl) ⟨Fz153, hW164, (hG.keep (st1.trans (st2.trans (st3.trans (st4.trans st5))))), rfl⟩
    · have hb165 := Bool.eq_false_iff.mpr hb129
      replace hr := ite_N hb129 hr
      refine oh_not 4 rfl (by kernel_rfl) (by kernel_rfl) (by kernel_rfl) ⟨(Stp.refl _ _), rfl, rfl⟩ rfl rfl (congrArg Value.bool hb165) rfl rfl ?_; refine oh_not 5 rfl (by kernel_rfl) (by kernel_rfl) (by kernel_rfl) ⟨(Stp.refl _ _), rfl, rfl⟩ rfl rfl (congrArg Value.bool hb165) rfl rfl ?_; refine oh_not 6 rfl (by kernel_rfl) (by kernel_rfl) (by kernel_rfl) ⟨(Stp.refl _ _), rfl, rfl⟩ rfl rfl (congrArg Value.bool hb165) rfl rfl ?_; refine oh_not 7 rfl (by kernel_rfl) (by kernel_rfl) (by kernel_rfl) ⟨(Stp.refl _ _), rfl, rfl⟩ rfl rfl (congrArg Value.bool hb165) rfl rfl ?_; refine oh_not 8 rfl (by kernel_rfl) (by kernel_rfl) (by kernel_rfl) ⟨(Stp.refl _ _), rfl, rfl⟩ rfl rfl (congrArg Value.bool hb165) rfl rfl ?_; refine oh_not 9 rfl (by kernel_rfl) (by kernel_rfl) (by kernel_rfl) ⟨(Stp.refl _ _), rfl, rfl⟩ rfl rfl (congrArg Value.bool hb165) rfl rfl ?_; refine oh_not 10 rfl (by kernel_rfl) (by kernel_rfl) (by kernel_rfl) ⟨(Stp.refl _ _), rfl, rfl⟩ rfl rfl (congrArg Value.bool hb165) rfl rfl ?_; refine oh_not 11 rfl (by kernel_rfl) (by kernel_rfl) (by kernel_rfl) ⟨(Stp.refl _ _), rfl, rfl⟩ rfl rfl (congrArg Value.bool hb165) rfl rfl ?_; refine oh_v 12 rfl (by kernel_rfl) (by kernel_rfl) (by kernel_rfl) ⟨(Stp.refl _ _), rfl, rfl⟩ (fun wv_ SV => e_pick false _ (congrArg Value.bool hb165) rfl) rfl ?_; refine oh_v 13 rfl (by kernel_rfl) (by kernel_rfl) (by kernel_rfl) ⟨(Stp.refl _ _), rfl, rfl⟩ (fun wv_ SV => e_as _ rfl) rfl ?_; obtain rfl := Option.some.inj hr; exact oh_done (by kernel_rfl) ⟨F, hW, hG, rfl⟩
  exact Ref.ret (fun s ρ w h => ⟨s, rfl, h⟩)
def post (w : World) (F : BSet) (r : R) (v : Value) (w' : World) : Prop := ∃ (F' : BSet), v = .bool r ∧ Wk nrow w F F' w'
theorem calls {w : World} {F : BSet} (hok : ∀ b, F b → b < w.heap.size) (hG : GL 2 F w) {v0 : Value} {a0 : ObjectStore} (h0 : Val k_ObjectStore F w v0 a0) {v1 : Value} {a1 : (List Int)} (h1 : SlR (kInt .i64) F w v1 a1) {r : R} (hf : f a0 a1 = some r) : Calls Tryd.prog 6 #[v0, v1] w fun e w' => ∃ v, e = .returned v ∧ post w F r v w' := by
  obtain ⟨c, hc, href⟩ := ref w F; refine calls_of_ref (args := [v0, v1]) _ Tryd.func6 hc rfl rfl href ?_ (retOf_some hf) ?_
  · exact ⟨F, Wk.refl hok, hG, h0, h1⟩
  · rintro ρ w' a ⟨s, rfl, F', hW, hG, h4⟩ hF; refine ⟨_, run_results (rs := [.tmp 4]) rfl hF (vs := [ρ 4]) (⟨_, rfl, rfl⟩), ?_⟩; have hv : resVal [ρ 4] = .bool s.t_4 := by rw [h4]; rfl
    exact ⟨F', hv, hW⟩
end
end law4_GcMarkMatchesSpec

end Go.Proofs.YtenkbkcddcnmeaaDoor
