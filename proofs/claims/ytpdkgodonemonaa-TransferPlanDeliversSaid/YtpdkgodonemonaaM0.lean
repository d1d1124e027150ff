/- The machine's calls come to these plain functions (written by a program, wip/fx/gen.py). -/
import Derived.Test.YtpdkgodonemonaaPA
import Derived.Test.YtpdkgodonemonaaNm
import Derived.Test.YtpdkgodonemonaaIt
import Derived.Test.YtpdkgodonemonaaSl
namespace Go.Proofs.Ytpdkgodonemonaa
open Go.Fx Go.RowKit
set_option linter.unusedVariables false

namespace transfer_Frames
section
structure Pins where
  g3 : Nat
  g4 : Nat
def G0 (w0 : World) (F0 : BSet) (s : S) (ρ : Env) (w : World) : Prop := ∃ (F : BSet), Wk nrow w0 F0 F w ∧ SlR kByte F w (ρ 0) s.data_0
def G1 (w0 : World) (F0 : BSet) (s : S) (ρ : Env) (w : World) : Prop := ∃ (F : BSet), Wk nrow w0 F0 F w ∧ ∃ (g3 : Nat), SlR kByte F w (ρ 0) s.data_0 ∧ ρ 3 = .pointer (some ⟨g3, 0, none⟩) ∧ Box k_Fault 27 (Bs w0 nrow) F w g3 s.t_3
def G2 (w0 : World) (F0 : BSet) (s : S) (ρ : Env) (w : World) : Prop := ∃ (F : BSet), Wk nrow w0 F0 F w ∧ ∃ (g3 : Nat), SlR kByte F w (ρ 0) s.data_0 ∧ ρ 3 = .pointer (some ⟨g3, 0, none⟩) ∧ Box k_Fault 27 (Bs w0 nrow) F w g3 s.t_3 ∧ ρ 8 = .bool s.t_8
def G3 (w0 : World) (F0 : BSet) (s : S) (ρ : Env) (w : World) : Prop := ∃ (F : BSet), Wk nrow w0 F0 F w ∧ ∃ (g3 : Nat), ρ 3 = .pointer (some ⟨g3, 0, none⟩) ∧ Box k_Fault 27 (Bs w0 nrow) F w g3 s.t_3
def G4 (w0 : World) (F0 : BSet) (s : S) (ρ : Env) (w : World) : Prop := ∃ (F : BSet), Wk nrow w0 F0 F w ∧ ∃ (g3 : Nat), OwnV (kSl kByte) 22 (Bs w0 nrow) F w (ρ 2) s.t_2 ∧ ρ 3 = .pointer (some ⟨g3, 0, none⟩) ∧ Box k_Fault 27 (Bs w0 nrow) F w g3 s.t_3
def G5 (w0 : World) (F0 : BSet) (s : S) (ρ : Env) (w : World) : Prop := ∃ (F : BSet), Wk nrow w0 F0 F w ∧ ∃ (g3 : Nat) (g4 : Nat) (v4 : Value), SlR kByte F w (ρ 0) s.data_0 ∧ ρ 3 = .pointer (some ⟨g3, 0, none⟩) ∧ Box k_Fault 27 (Bs w0 nrow) F w g3 s.t_3 ∧ ρ 4 = .pointer (some ⟨g4, 0, none⟩) ∧ Box kRaw 25 (Bs w0 nrow) F w g4 v4 ∧ OwnV (kSl kByte) 22 (Bs w0 nrow) F w v4 s.out_4
def G6 (w0 : World) (F0 : BSet) (s : S) (ρ : Env) (w : World) : Prop := ∃ (F : BSet), Wk nrow w0 F0 F w ∧ ∃ (g3 : Nat) (g4 : Nat) (v4 : Value), ρ 3 = .pointer (some ⟨g3, 0, none⟩) ∧ Box k_Fault 27 (Bs w0 nrow) F w g3 s.t_3 ∧ ρ 4 = .pointer (some ⟨g4, 0, none⟩) ∧ Box kRaw 25 (Bs w0 nrow) F w g4 v4 ∧ OwnV (kSl kByte) 22 (Bs w0 nrow) F w v4 s.out_4 ∧ ItChunk F w (ρ 11) s.t_11
def K7 (p : Pins) (F B : BSet) (s : S) (ρ : Env) (w : World) : Prop := ∃ (v4 : Value), ρ 3 = .pointer (some ⟨p.g3, 0, none⟩) ∧ Box k_Fault 27 B F w p.g3 s.t_3 ∧ ρ 4 = .pointer (some ⟨p.g4, 0, none⟩) ∧ Box kRaw 25 B F w p.g4 v4 ∧ OwnV (kSl kByte) 22 B F w v4 s.out_4 ∧ SlR kByte F w (ρ 12) s.t_12
def G7 (p : Pins) (rs : BSet) (w0 : World) (F0 : BSet) (s : S) (ρ : Env) (w : World) : Prop := GK rs w0 F0 (fun F B w => K7 p F B s ρ w) w
def K8 (p : Pins) (F B : BSet) (s : S) (ρ : Env) (w : World) : Prop := ∃ (v4 : Value), ρ 3 = .pointer (some ⟨p.g3, 0, none⟩) ∧ Box k_Fault 27 B F w p.g3 s.t_3 ∧ ρ 4 = .pointer (some ⟨p.g4, 0, none⟩) ∧ Box kRaw 25 B F w p.g4 v4 ∧ OwnV (kSl kByte) 22 B F w v4 s.out_4 ∧ SlR kByte F w (ρ 5) s.part_5
def G8 (p : Pins) (rs : BSet) (w0 : World) (F0 : BSet) (s : S) (ρ : Env) (w : World) : Prop := GK rs w0 F0 (fun F B w => K8 p F B s ρ w) w
def K9 (p : Pins) (F B : BSet) (s : S) (ρ : Env) (w : World) : Prop := ∃ (v4 : Value), ρ 3 = .pointer (some ⟨p.g3, 0, none⟩) ∧ Box k_Fault 27 B F w p.g3 s.t_3 ∧ ρ 4 = .pointer (some ⟨p.g4, 0, none⟩) ∧ Box kRaw 25 B F w p.g4 v4 ∧ OwnV (kSl kByte) 22 B F w v4 s.out_4
def G9 (p : Pins) (rs : BSet) (w0 : World) (F0 : BSet) (s : S) (ρ : Env) (w : World) : Prop := GK rs w0 F0 (fun F B w => K9 p F B s ρ w) w
def K10 (F B : BSet) (s : S) (ρ : Env) (w : World) : Prop := ∃ (g3 : Nat) (g4 : Nat) (v4 : Value), ρ 3 = .pointer (some ⟨g3, 0, none⟩) ∧ Box k_Fault 27 B F w g3 s.t_3 ∧ ρ 4 = .pointer (some ⟨g4, 0, none⟩) ∧ Box kRaw 25 B F w g4 v4 ∧ OwnV (kSl kByte) 22 B F w v4 s.out_4
def G10 (rs : BSet) (w0 : World) (F0 : BSet) (s : S) (ρ : Env) (w : World) : Prop := GK rs w0 F0 (fun F B w => K10 F B s ρ w) w
def K11 (F B : BSet) (s : S) (ρ : Env) (w : World) : Prop := ∃ (g3 : Nat), OwnV (kSl kByte) 22 B F w (ρ 2) s.t_2 ∧ ρ 3 = .pointer (some ⟨g3, 0, none⟩) ∧ Box k_Fault 27 B F w g3 s.t_3
def G11 (rs : BSet) (w0 : World) (F0 : BSet) (s : S) (ρ : Env) (w : World) : Prop := GK rs w0 F0 (fun F B w => K11 F B s ρ w) w
def KL (p : Pins) (F B : BSet) (s : S) (w : World) : Prop := ∃ (v4 : Value), Box k_Fault 27 B F w p.g3 s.t_3 ∧ Box kRaw 25 B F w p.g4 v4 ∧ OwnV (kSl kByte) 22 B F w v4 s.out_4
def Pin (p : Pins) (ρ : Env) : Prop := ρ 3 = .pointer (some ⟨p.g3, 0, none⟩) ∧ ρ 4 = .pointer (some ⟨p.g4, 0, none⟩)
theorem cL (p : Pins) (s : S) : Core (fun F B w => KL p F B s w) where
  put := by rintro F B w b o o' ⟨v4, h3, b4, h4⟩ hF hh hc; exact ⟨v4, (h3.putN hF hh hc), (b4.putN hF hh hc), (h4.putN hF hh hc)⟩
  base := by rintro F B B' w ⟨v4, h3, b4, h4⟩ hB; exact ⟨v4, (h3.baseN hB), (b4.baseN hB), (h4.baseN hB)⟩
  wk := by rintro F B w w' ⟨v4, h3, b4, h4⟩ hK ok; exact ⟨v4, (h3.wk hK ok), (b4.wk hK ok), (h4.wk hK ok)⟩
theorem cK7 (p : Pins) (s : S) (ρ : Env) : Core (fun F B w => K7 p F B s ρ w) where
  put := by rintro F B w b o o' ⟨v4, p3, h3, p4, b4, h4, h12⟩ hF hh hc; exact ⟨v4, p3, (h3.putN hF hh hc), p4, (b4.putN hF hh hc), (h4.putN hF hh hc), (h12.keep (Stp.put _ _ _ hF))⟩
  base := by rintro F B B' w ⟨v4, p3, h3, p4, b4, h4, h12⟩ hB; exact ⟨v4, p3, (h3.baseN hB), p4, (b4.baseN hB), (h4.baseN hB), h12⟩
  wk := by rintro F B w w' ⟨v4, p3, h3, p4, b4, h4, h12⟩ hK ok; exact ⟨v4, p3, (h3.wk hK ok), p4, (b4.wk hK ok), (h4.wk hK ok), (h12.keep (hK.stp ok))⟩
theorem cK8 (p : Pins) (s : S) (ρ : Env) : Core (fun F B w => K8 p F B s ρ w) where
  put := by rintro F B w b o o' ⟨v4, p3, h3, p4, b4, h4, h5⟩ hF hh hc; exact ⟨v4, p3, (h3.putN hF hh hc), p4, (b4.putN hF hh hc), (h4.putN hF hh hc), (h5.keep (Stp.put _ _ _ hF))⟩
  base := by rintro F B B' w ⟨v4, p3, h3, p4, b4, h4, h5⟩ hB; exact ⟨v4, p3, (h3.baseN hB), p4, (b4.baseN hB), (h4.baseN hB), h5⟩
  wk := by rintro F B w w' ⟨v4, p3, h3, p4, b4, h4, h5⟩ hK ok; exact ⟨v4, p3, (h3.wk hK ok), p4, (b4.wk hK ok), (h4.wk hK ok), (h5.keep (hK.stp ok))⟩
theorem cK10 (s : S) (ρ : Env) : Core (fun F B w => K10 F B s ρ w) where
  put := by rintro F B w b o o' ⟨g3, g4, v4, p3, h3, p4, b4, h4⟩ hF hh hc; exact ⟨g3, g4, v4, p3, (h3.putN hF hh hc), p4, (b4.putN hF hh hc), (h4.putN hF hh hc)⟩
  base := by rintro F B B' w ⟨g3, g4, v4, p3, h3, p4, b4, h4⟩ hB; exact ⟨g3, g4, v4, p3, (h3.baseN hB), p4, (b4.baseN hB), (h4.baseN hB)⟩
  wk := by rintro F B w w' ⟨g3, g4, v4, p3, h3, p4, b4, h4⟩ hK ok; exact ⟨g3, g4, v4, p3, (h3.wk hK ok), p4, (b4.wk hK ok), (h4.wk hK ok)⟩
theorem cK11 (s : S) (ρ : Env) : Core (fun F B w => K11 F B s ρ w) where
  put := by rintro F B w b o o' ⟨g3, h2, p3, h3⟩ hF hh hc; exact ⟨g3, (h2.putN hF hh hc), p3, (h3.putN hF hh hc)⟩
  base := by rintro F B B' w ⟨g3, h2, p3, h3⟩ hB; exact ⟨g3, (h2.baseN hB), p3, (h3.baseN hB)⟩
  wk := by rintro F B w w' ⟨g3, h2, p3, h3⟩ hK ok; exact ⟨g3, (h2.wk hK ok), p3, (h3.wk hK ok)⟩
set_option maxHeartbeats 4000000 in
set_option maxRecDepth 20000 in
theorem ref (w0 : World) (F0 : BSet) : ∃ c, Try.f9.body = some c ∧ RefT Try.prog 20 c (G0 w0 F0) body (fun r ρ w => ∃ s, retv s = r ∧ G4 w0 F0 s ρ w) := by
  refine ⟨_, rfl, ?_⟩
  unfold body
  refine RefT.seq (B := G1 w0 F0) ?_ ?_
  · refine Ref.region (fun s ρ w s' h hr => ?_)
    obtain ⟨F, hW, h0⟩ := h
    refine ol_v (e_as _ rfl) rfl ?_
    refine ol_e (f_alloc zer_27 hW) rfl rfl ?_
    rintro _ w2 ⟨g1, rfl, kw1, ho3⟩
    have hW4 := hW.trans kw1
    have st1 := kw1.stp hW.ok
    obtain rfl := Option.some.inj hr
    exact ol_nil ⟨F, hW4, g1, (h0.keep st1), rfl, (ho3.base (row := nrow) hW.le)⟩
  refine RefT.seq (B := G1 w0 F0) ?_ ?_
  · refine Ref.seq (B := G2 w0 F0) ?_ ?_
    · refine Ref.region (fun s ρ w s' h hr => ?_)
      obtain ⟨F, hW, g3, h0, p3, h3⟩ := h
      refine ol_v (e_mv _ rfl) rfl ?_
      obtain ⟨A5, c6, e7, hc8, R9⟩ := id h0
      refine ol_v (e_len (SlT.sl sl_22) e7) rfl ?_
      refine ol_v (e_gtr rfl rfl) rfl ?_
      obtain rfl := Option.some.inj hr
      exact ol_nil ⟨F, hW, g3, h0, p3, h3, rfl⟩
    refine Ref.cond (b := fun s => s.t_8) (fun s ρ w ⟨F, hW, g3, h0, p3, h3, h8⟩ => h8) (Ref.pre (A := G3 w0 F0) ?_ (fun s ρ w h => (fun ⟨F, hW, g3, h0, p3, h3, h8⟩ => ⟨F, hW, g3, p3, h3⟩ : G2 w0 F0 s ρ w → G3 w0 F0 s ρ w) h.2)) (Ref.pre (A := G1 w0 F0) ?_ (fun s ρ w h => (fun ⟨F, hW, g3, h0, p3, h3, h8⟩ => ⟨F, hW, g3, h0, p3, h3⟩ : G2 w0 F0 s ρ w → G1 w0 F0 s ρ w) h.2))
    · refine Ref.seq (B := G4 w0 F0) ?_ ?_
      · refine Ref.region (fun s ρ w s' h hr => ?_)
        obtain ⟨F, hW, g3, p3, h3⟩ := h
        refine ol_v (e_bld (cells := #[.int .i64 (2), .int .i64 (-1)]) bld_27 (vs := [(0, .int .i64 (2)), (1, .int .i64 (-1))]) (lcons (congrArg (Prod.mk 0) rfl) (lcons (congrArg (Prod.mk 1) rfl) rfl)) rfl) rfl ?_
        have hb10 : Val k_Fault F w (.agg #[.int .i64 (2), .int .i64 (-1)]) (⟨(2 : Int), (-1 : Int)⟩ : Fault) := mk_Fault (val_int _ _) (val_int _ _)
        refine ol_v (e_as _ rfl) rfl ?_
        refine ol_eN (f_stB hW h3 (FldS.whole _) ty_27 hb10 p3 rfl) rfl ?_
        rintro - w11 ⟨hW12, ho13, hg1, st1⟩
        obtain rfl := Option.some.inj hr
        exact ol_nil ⟨F, hW12, g3, ((OwnV.nil (kSl kByte) 22 (Bs w0 nrow) F w).mut (apart_bo h3 (OwnV.nil (kSl kByte) 22 (Bs w0 nrow) F w) rfl) hg1 st1), p3, ho13⟩
      exact Ref.ret (fun s ρ w h => ⟨s, rfl, h⟩)
    · exact Ref.skip
  refine RefT.seq (B := G5 w0 F0) ?_ ?_
  · refine Ref.region (fun s ρ w s' h hr => ?_)
    obtain ⟨F, hW, g3, h0, p3, h3⟩ := h
    refine ol_e (f_alloc zerr_25 hW) rfl rfl ?_
    rintro _ w15 ⟨g14, rfl, kw1, ho16⟩
    have hW17 := hW.trans kw1
    have st1 := kw1.stp hW.ok
    obtain rfl := Option.some.inj hr
    exact ol_nil ⟨F, hW17, g3, g14, .slice none 0 0, (h0.keep st1), p3, (h3.wk kw1 hW.ok), rfl, (ho16.base (row := nrow) hW.le), ((OwnV.nil (kSl kByte) 22 (Bs w0 nrow) F w).wk kw1 hW.ok)⟩
  refine RefT.seqD (BD := fun D s ρ w => ∃ p F, Wk nrow w0 F0 F w ∧ ¬ F D ∧ w0.heap.size ≤ D ∧ KL p F (Bs w0 nrow) s w ∧ Pin p ρ) ?_ (fun D d' s ρ w a h => RefT.rest (row := nrow) (w0 := w0) (w0F := F0) (KR := K10) (KZ := fun F B r ρ w => ∃ s, retv s = r ∧ K11 F B s ρ w) (Z := fun _ _ _ => False) ?_ (fun _ _ _ h => h) cK10 (fun r ρ => Core.ex (fun s => cK11 s ρ)) (fun r ρ w ⟨F, hW, s, hs, hk⟩ => ⟨s, hs, F, hW, hk⟩) D d' s ρ w a (by obtain ⟨p, F, hW, hD, hl, hK, hP⟩ := h; obtain ⟨v4, h3, b4, h4⟩ := hK; obtain ⟨n3, n4⟩ := hP; exact ⟨F, hW, hD, hl, ⟨p.g3, p.g4, v4, n3, h3, n4, b4, h4⟩⟩))
  · refine RefD.seq (B := G6 w0 F0) ?_ ?_
    · refine Ref.region (fun s ρ w s' h hr => ?_)
      obtain ⟨F, hW, g3, g4, v4, h0, p3, h3, p4, b4, h4⟩ := h
      refine ol_v (e_mv _ rfl) rfl ?_
      obtain ⟨x18, hx18, hr⟩ := bind_some' hr
      refine ol_e (f_call [(ρ 0), .int .i64 (16 : Int)] fn_19 (lcons rfl (lcons rfl rfl)) (Chunk.calls hW.ok h0 (16 : Int) hx18)) rfl rfl ?_
      rintro v21 w19 ⟨Fz20, _, rfl, kw1, hk22⟩
      have hW24 := hW.trans kw1
      have st1 := kw1.stp hW.ok
      obtain rfl := Option.some.inj hr
      exact ol_nil ⟨Fz20, hW24, g3, g4, v4, p3, (h3.wk kw1 hW.ok), p4, (b4.wk kw1 hW.ok), (h4.wk kw1 hW.ok), hk22⟩
    refine RefD.range (row := nrow) (w0 := w0) (F0 := F0) (rel := relChunk) (PT := Pins) (KL := KL) (KA := K7) (KB := K8) (KC := K9) (Pin := Pin) (fun s ρ w h => by obtain ⟨F, hW, g3, g4, v4, p3, h3, p4, b4, h4, h11⟩ := h; obtain ⟨vss, hi, ha⟩ := h11; exact ⟨⟨g3, g4⟩, vss, F, hW, ⟨v4, h3, b4, h4⟩, ⟨p3, p4⟩, hi, ha⟩) relChunk.keep relChunk.len (by rfl) cL (fun {p F B s ρ w vs it} hK hP hR => by obtain ⟨v4, h3, b4, h4⟩ := hK; obtain ⟨n3, n4⟩ := hP; obtain ⟨v_, rfl, hv_⟩ := hR; exact ⟨v4, n3, h3, n4, b4, h4, hv_⟩) cK7 ?_ cK8 ?_ (fun {p F B s ρ w} hK => by obtain ⟨v4, p3, h3, p4, b4, h4⟩ := hK; exact ⟨v4, h3, b4, h4⟩)
    · intro l p rs w0 F0
      refine Ref.regionR (by rfl) (fun s ρ w s' h hr => ?_)
      obtain ⟨F, hW, v4, p3, h3, p4, b4, h4, h12⟩ := h
      refine ol_v (e_as _ rfl) rfl ?_
      obtain rfl := Option.some.inj hr
      exact ol_nil ⟨F, hW, v4, p3, h3, p4, b4, h4, h12⟩
    · intro l p rs w0 F0
      refine Ref.block ?_
      refine Ref.regionHR (by rfl) (by kernel_rfl) (fun s ρ w ⟨F, hW, v4, p3, h3, p4, b4, h4, h5⟩ => ⟨F, hW.drewS, v4, p3, h3.wk (Wk.drew (row := nrow) hW.ok) hW.ok, p4, b4.wk (Wk.drew (row := nrow) hW.ok) hW.ok, h4.wk (Wk.drew (row := nrow) hW.ok) hW.ok, h5.keep (sd hW)⟩) (fun s ρ w s' h hr => ?_)
      obtain ⟨F, hW, v4, p3, h3, p4, b4, h4, h5⟩ := h
      refine ⟨fun w' => Stp F w F w', ?_⟩
      refine oh_v 1 rfl (by kernel_rfl) (by kernel_rfl) (by kernel_rfl) (Stp.refl _ _) (fun wv_ SV => e_mv _ rfl) rfl ?_
      refine oh_all [0, 2] (by kernel_rfl) rfl ⟨?_, ?_, trivial⟩
      · refine oh1_v rfl (e_ld tyr_25 (LiesV.raw (b4).at_) p4) rfl ?_
        refine ⟨(Stp.refl _ _), ?_⟩
        refine oh_all [2] (by kernel_rfl) rfl ⟨?_, trivial⟩
        · obtain ⟨x25, hx25, hr⟩ := bind_some' hr
          refine oh1_e rfl (f_call [(ρ 5)] fn_20 (lcons rfl rfl) (Clone.calls hW.ok h5 hx25)) rfl ?_
          rintro v28 w26 ⟨Fz27, _, rfl, kw1, hk29⟩
          have hW31 := hW.trans kw1
          have st1 := kw1.stp hW.ok
          refine ⟨(Stp.back st1), ?_⟩
          refine oh_all [3] (by kernel_rfl) rfl ⟨?_, trivial⟩
          · obtain ⟨Fz32, hWz33, st2, hF2, hz34⟩ := ((hk29.base (row := rs) hW.le)).frozenN (fun g_ hg_ => Nat.le_trans hW.le (hk29.lt hg_).1) hW31
            refine oh1_e rfl (f_bslF sl_25 hWz33 ([x25] : List (List UInt8)) [v28] (by exact ⟨_, _, rfl, (val_sl hz34), rfl⟩) rfl (Nat.le_of_ble_eq_true rfl) (lcons (congrArg (Prod.mk 0) rfl) rfl)) rfl ?_
            rintro v35 w36 ⟨Fz38, kw3, ho37⟩
            have hW39 := hWz33.trans kw3
            have st3 := kw3.stp hWz33.ok
            refine ⟨(Stp.back (st1.trans (st2.trans st3))), ?_⟩
            refine oh_all [4] (by kernel_rfl) rfl ⟨?_, trivial⟩
            · obtain ⟨x40, hx40, hr⟩ := bind_some' hr
              refine oh1_e rfl (f_app sl_25 hW39 (((h4.wk kw1 hW.ok).frz (apart_oo (hk29.base (row := rs) hW.le) (h4.wk kw1 hW.ok) rfl) hF2 st2).wk kw3 hWz33.ok) ho37 hx40 rfl rfl) rfl ?_
              rintro v41 w42 ⟨hW43, ho44, hg4, st4, hor45⟩
              refine ⟨(Stp.back (st1.trans (st2.trans (st3.trans st4)))), ?_⟩
              refine oh_all [5] (by kernel_rfl) rfl ⟨?_, trivial⟩
              · refine oh1_eN rfl (f_stB (l := kRaw) hW43 ((((b4.wk kw1 hW.ok).frz (apart_bo (b4.wk kw1 hW.ok) (hk29.base (row := rs) hW.le) rfl).symm hF2 st2).wk kw3 hWz33.ok).mut (apart_bo (((b4.wk kw1 hW.ok).frz (apart_bo (b4.wk kw1 hW.ok) (hk29.base (row := rs) hW.le) rfl).symm hF2 st2).wk kw3 hWz33.ok) (((h4.wk kw1 hW.ok).frz (apart_oo (hk29.base (row := rs) hW.le) (h4.wk kw1 hW.ok) rfl) hF2 st2).wk kw3 hWz33.ok) rfl).symm hg4 st4) (FldS.whole _) tyr_25 (OwnV.raw ho44) p4 rfl) ?_
                rintro - w46 ⟨hW47, ho48, hg5, st5⟩
                refine ⟨(Stp.back (st1.trans (st2.trans (st3.trans (st4.trans st5))))), ?_⟩
                obtain rfl := Option.some.inj hr
                exact oh_done (by kernel_rfl) ⟨Fz38, hW47, v41, p3, (((((h3.wk kw1 hW.ok).frz (apart_bo (h3.wk kw1 hW.ok) (hk29.base (row := rs) hW.le) rfl).symm hF2 st2).wk kw3 hWz33.ok).mut (apart_bo (((h3.wk kw1 hW.ok).frz (apart_bo (h3.wk kw1 hW.ok) (hk29.base (row := rs) hW.le) rfl).symm hF2 st2).wk kw3 hWz33.ok) (((h4.wk kw1 hW.ok).frz (apart_oo (hk29.base (row := rs) hW.le) (h4.wk kw1 hW.ok) rfl) hF2 st2).wk kw3 hWz33.ok) rfl).symm hg4 st4).mut (apart_bb ((((b4.wk kw1 hW.ok).frz (apart_bo (b4.wk kw1 hW.ok) (hk29.base (row := rs) hW.le) rfl).symm hF2 st2).wk kw3 hWz33.ok).mut (apart_bo (((b4.wk kw1 hW.ok).frz (apart_bo (b4.wk kw1 hW.ok) (hk29.base (row := rs) hW.le) rfl).symm hF2 st2).wk kw3 hWz33.ok) (((h4.wk kw1 hW.ok).frz (apart_oo (hk29.base (row := rs) hW.le) (h4.wk kw1 hW.ok) rfl) hF2 st2).wk kw3 hWz33.ok) rfl).symm hg4 st4) ((((h3.wk kw1 hW.ok).frz (apart_bo (h3.wk kw1 hW.ok) (hk29.base (row := rs) hW.le) rfl).symm hF2 st2).wk kw3 hWz33.ok).mut (apart_bo (((h3.wk kw1 hW.ok).frz (apart_bo (h3.wk kw1 hW.ok) (hk29.base (row := rs) hW.le) rfl).symm hF2 st2).wk kw3 hWz33.ok) (((h4.wk kw1 hW.ok).frz (apart_oo (hk29.base (row := rs) hW.le) (h4.wk kw1 hW.ok) rfl) hF2 st2).wk kw3 hWz33.ok) rfl).symm hg4 st4) rfl) hg5 st5), p4, ho48, (ho44.mut (apart_bo ((((b4.wk kw1 hW.ok).frz (apart_bo (b4.wk kw1 hW.ok) (hk29.base (row := rs) hW.le) rfl).symm hF2 st2).wk kw3 hWz33.ok).mut (apart_bo (((b4.wk kw1 hW.ok).frz (apart_bo (b4.wk kw1 hW.ok) (hk29.base (row := rs) hW.le) rfl).symm hF2 st2).wk kw3 hWz33.ok) (((h4.wk kw1 hW.ok).frz (apart_oo (hk29.base (row := rs) hW.le) (h4.wk kw1 hW.ok) rfl) hF2 st2).wk kw3 hWz33.ok) rfl).symm hg4 st4) ho44 rfl) hg5 st5)⟩
      · obtain ⟨x25, hx25, hr⟩ := bind_some' hr
        refine oh1_e rfl (f_call [(ρ 5)] fn_20 (lcons rfl rfl) (Clone.calls hW.ok h5 hx25)) rfl ?_
        rintro v51 w49 ⟨Fz50, _, rfl, kw1, hk52⟩
        have hW54 := hW.trans kw1
        have st1 := kw1.stp hW.ok
        refine ⟨(Stp.back st1), ?_⟩
        refine oh_all [0, 3] (by kernel_rfl) rfl ⟨?_, ?_, trivial⟩
        · refine oh1_v rfl (e_ld tyr_25 (LiesV.raw ((b4.wk kw1 hW.ok)).at_) p4) rfl ?_
          refine ⟨(Stp.back st1), ?_⟩
          refine oh_all [3] (by kernel_rfl) rfl ⟨?_, trivial⟩
          · obtain ⟨Fz55, hWz56, st2, hF2, hz57⟩ := ((hk52.base (row := rs) hW.le)).frozenN (fun g_ hg_ => Nat.le_trans hW.le (hk52.lt hg_).1) hW54
            refine oh1_e rfl (f_bslF sl_25 hWz56 ([x25] : List (List UInt8)) [v51] (by exact ⟨_, _, rfl, (val_sl hz57), rfl⟩) rfl (Nat.le_of_ble_eq_true rfl) (lcons (congrArg (Prod.mk 0) rfl) rfl)) rfl ?_
            rintro v58 w59 ⟨Fz61, kw3, ho60⟩
            have hW62 := hWz56.trans kw3
            have st3 := kw3.stp hWz56.ok
            refine ⟨(Stp.back (st1.trans (st2.trans st3))), ?_⟩
            refine oh_all [4] (by kernel_rfl) rfl ⟨?_, trivial⟩
            · obtain ⟨x40, hx40, hr⟩ := bind_some' hr
              refine oh1_e rfl (f_app sl_25 hW62 (((h4.wk kw1 hW.ok).frz (apart_oo (hk52.base (row := rs) hW.le) (h4.wk kw1 hW.ok) rfl) hF2 st2).wk kw3 hWz56.ok) ho60 hx40 rfl rfl) rfl ?_
              rintro v63 w64 ⟨hW65, ho66, hg4, st4, hor67⟩
              refine ⟨(Stp.back (st1.trans (st2.trans (st3.trans st4)))), ?_⟩
              refine oh_all [5] (by kernel_rfl) rfl ⟨?_, trivial⟩
              · refine oh1_eN rfl (f_stB (l := kRaw) hW65 ((((b4.wk kw1 hW.ok).frz (apart_bo (b4.wk kw1 hW.ok) (hk52.base (row := rs) hW.le) rfl).symm hF2 st2).wk kw3 hWz56.ok).mut (apart_bo (((b4.wk kw1 hW.ok).frz (apart_bo (b4.wk kw1 hW.ok) (hk52.base (row := rs) hW.le) rfl).symm hF2 st2).wk kw3 hWz56.ok) (((h4.wk kw1 hW.ok).frz (apart_oo (hk52.base (row := rs) hW.le) (h4.wk kw1 hW.ok) rfl) hF2 st2).wk kw3 hWz56.ok) rfl).symm hg4 st4) (FldS.whole _) tyr_25 (OwnV.raw ho66) p4 rfl) ?_
                rintro - w68 ⟨hW69, ho70, hg5, st5⟩
                refine ⟨(Stp.back (st1.trans (st2.trans (st3.trans (st4.trans st5))))), ?_⟩
                obtain rfl := Option.some.inj hr
                exact oh_done (by kernel_rfl) ⟨Fz61, hW69, v63, p3, (((((h3.wk kw1 hW.ok).frz (apart_bo (h3.wk kw1 hW.ok) (hk52.base (row := rs) hW.le) rfl).symm hF2 st2).wk kw3 hWz56.ok).mut (apart_bo (((h3.wk kw1 hW.ok).frz (apart_bo (h3.wk kw1 hW.ok) (hk52.base (row := rs) hW.le) rfl).symm hF2 st2).wk kw3 hWz56.ok) (((h4.wk kw1 hW.ok).frz (apart_oo (hk52.base (row := rs) hW.le) (h4.wk kw1 hW.ok) rfl) hF2 st2).wk kw3 hWz56.ok) rfl).symm hg4 st4).mut (apart_bb ((((b4.wk kw1 hW.ok).frz (apart_bo (b4.wk kw1 hW.ok) (hk52.base (row := rs) hW.le) rfl).symm hF2 st2).wk kw3 hWz56.ok).mut (apart_bo (((b4.wk kw1 hW.ok).frz (apart_bo (b4.wk kw1 hW.ok) (hk52.base (row := rs) hW.le) rfl).symm hF2 st2).wk kw3 hWz56.ok) (((h4.wk kw1 hW.ok).frz (apart_oo (hk52.base (row := rs) hW.le) (h4.wk kw1 hW.ok) rfl) hF2 st2).wk kw3 hWz56.ok) rfl).symm hg4 st4) ((((h3.wk kw1 hW.ok).frz (apart_bo (h3.wk kw1 hW.ok) (hk52.base (row := rs) hW.le) rfl).symm hF2 st2).wk kw3 hWz56.ok).mut (apart_bo (((h3.wk kw1 hW.ok).frz (apart_bo (h3.wk kw1 hW.ok) (hk52.base (row := rs) hW.le) rfl).symm hF2 st2).wk kw3 hWz56.ok) (((h4.wk kw1 hW.ok).frz (apart_oo (hk52.base (row := rs) hW.le) (h4.wk kw1 hW.ok) rfl) hF2 st2).wk kw3 hWz56.ok) rfl).symm hg4 st4) rfl) hg5 st5), p4, ho70, (ho66.mut (apart_bo ((((b4.wk kw1 hW.ok).frz (apart_bo (b4.wk kw1 hW.ok) (hk52.base (row := rs) hW.le) rfl).symm hF2 st2).wk kw3 hWz56.ok).mut (apart_bo (((b4.wk kw1 hW.ok).frz (apart_bo (b4.wk kw1 hW.ok) (hk52.base (row := rs) hW.le) rfl).symm hF2 st2).wk kw3 hWz56.ok) (((h4.wk kw1 hW.ok).frz (apart_oo (hk52.base (row := rs) hW.le) (h4.wk kw1 hW.ok) rfl) hF2 st2).wk kw3 hWz56.ok) rfl).symm hg4 st4) ho66 rfl) hg5 st5)⟩
        · obtain ⟨Fz71, hWz72, st2, hF2, hz73⟩ := ((hk52.base (row := rs) hW.le)).frozenN (fun g_ hg_ => Nat.le_trans hW.le (hk52.lt hg_).1) hW54
          refine oh1_e rfl (f_bslF sl_25 hWz72 ([x25] : List (List UInt8)) [v51] (by exact ⟨_, _, rfl, (val_sl hz73), rfl⟩) rfl (Nat.le_of_ble_eq_true rfl) (lcons (congrArg (Prod.mk 0) rfl) rfl)) rfl ?_
          rintro v74 w75 ⟨Fz77, kw3, ho76⟩
          have hW78 := hWz72.trans kw3
          have st3 := kw3.stp hWz72.ok
          refine ⟨(Stp.back (st1.trans (st2.trans st3))), ?_⟩
          refine oh_all [0] (by kernel_rfl) rfl ⟨?_, trivial⟩
          · refine oh1_v rfl (e_ld tyr_25 (LiesV.raw ((((b4.wk kw1 hW.ok).frz (apart_bo (b4.wk kw1 hW.ok) (hk52.base (row := rs) hW.le) rfl).symm hF2 st2).wk kw3 hWz72.ok)).at_) p4) rfl ?_
            refine ⟨(Stp.back (st1.trans (st2.trans st3))), ?_⟩
            refine oh_all [4] (by kernel_rfl) rfl ⟨?_, trivial⟩
            · obtain ⟨x40, hx40, hr⟩ := bind_some' hr
              refine oh1_e rfl (f_app sl_25 hW78 (((h4.wk kw1 hW.ok).frz (apart_oo (hk52.base (row := rs) hW.le) (h4.wk kw1 hW.ok) rfl) hF2 st2).wk kw3 hWz72.ok) ho76 hx40 rfl rfl) rfl ?_
              rintro v79 w80 ⟨hW81, ho82, hg4, st4, hor83⟩
              refine ⟨(Stp.back (st1.trans (st2.trans (st3.trans st4)))), ?_⟩
              refine oh_all [5] (by kernel_rfl) rfl ⟨?_, trivial⟩
              · refine oh1_eN rfl (f_stB (l := kRaw) hW81 ((((b4.wk kw1 hW.ok).frz (apart_bo (b4.wk kw1 hW.ok) (hk52.base (row := rs) hW.le) rfl).symm hF2 st2).wk kw3 hWz72.ok).mut (apart_bo (((b4.wk kw1 hW.ok).frz (apart_bo (b4.wk kw1 hW.ok) (hk52.base (row := rs) hW.le) rfl).symm hF2 st2).wk kw3 hWz72.ok) (((h4.wk kw1 hW.ok).frz (apart_oo (hk52.base (row := rs) hW.le) (h4.wk kw1 hW.ok) rfl) hF2 st2).wk kw3 hWz72.ok) rfl).symm hg4 st4) (FldS.whole _) tyr_25 (OwnV.raw ho82) p4 rfl) ?_
                rintro - w84 ⟨hW85, ho86, hg5, st5⟩
                refine ⟨(Stp.back (st1.trans (st2.trans (st3.trans (st4.trans st5))))), ?_⟩
                obtain rfl := Option.some.inj hr
                exact oh_done (by kernel_rfl) ⟨Fz77, hW85, v79, p3, (((((h3.wk kw1 hW.ok).frz (apart_bo (h3.wk kw1 hW.ok) (hk52.base (row := rs) hW.le) rfl).symm hF2 st2).wk kw3 hWz72.ok).mut (apart_bo (((h3.wk kw1 hW.ok).frz (apart_bo (h3.wk kw1 hW.ok) (hk52.base (row := rs) hW.le) rfl).symm hF2 st2).wk kw3 hWz72.ok) (((h4.wk kw1 hW.ok).frz (apart_oo (hk52.base (row := rs) hW.le) (h4.wk kw1 hW.ok) rfl) hF2 st2).wk kw3 hWz72.ok) rfl).symm hg4 st4).mut (apart_bb ((((b4.wk kw1 hW.ok).frz (apart_bo (b4.wk kw1 hW.ok) (hk52.base (row := rs) hW.le) rfl).symm hF2 st2).wk kw3 hWz72.ok).mut (apart_bo (((b4.wk kw1 hW.ok).frz (apart_bo (b4.wk kw1 hW.ok) (hk52.base (row := rs) hW.le) rfl).symm hF2 st2).wk kw3 hWz72.ok) (((h4.wk kw1 hW.ok).frz (apart_oo (hk52.base (row := rs) hW.le) (h4.wk kw1 hW.ok) rfl) hF2 st2).wk kw3 hWz72.ok) rfl).symm hg4 st4) ((((h3.wk kw1 hW.ok).frz (apart_bo (h3.wk kw1 hW.ok) (hk52.base (row := rs) hW.le) rfl).symm hF2 st2).wk kw3 hWz72.ok).mut (apart_bo (((h3.wk kw1 hW.ok).frz (apart_bo (h3.wk kw1 hW.ok) (hk52.base (row := rs) hW.le) rfl).symm hF2 st2).wk kw3 hWz72.ok) (((h4.wk kw1 hW.ok).frz (apart_oo (hk52.base (row := rs) hW.le) (h4.wk kw1 hW.ok) rfl) hF2 st2).wk kw3 hWz72.ok) rfl).symm hg4 st4) rfl) hg5 st5), p4, ho86, (ho82.mut (apart_bo ((((b4.wk kw1 hW.ok).frz (apart_bo (b4.wk kw1 hW.ok) (hk52.base (row := rs) hW.le) rfl).symm hF2 st2).wk kw3 hWz72.ok).mut (apart_bo (((b4.wk kw1 hW.ok).frz (apart_bo (b4.wk kw1 hW.ok) (hk52.base (row := rs) hW.le) rfl).symm hF2 st2).wk kw3 hWz72.ok) (((h4.wk kw1 hW.ok).frz (apart_oo (hk52.base (row := rs) hW.le) (h4.wk kw1 hW.ok) rfl) hF2 st2).wk kw3 hWz72.ok) rfl).symm hg4 st4) ho82 rfl) hg5 st5)⟩
  · intro rs w0 F0
    refine Ref.seq (B := G11 rs w0 F0) ?_ ?_
    · refine Ref.region (fun s ρ w s' h hr => ?_)
      obtain ⟨F, hW, g3, g4, v4, p3, h3, p4, b4, h4⟩ := h
      refine ol_v (e_ld tyr_25 (LiesV.raw (b4).at_) p4) rfl ?_
      refine ol_v (e_bld (cells := #[.int .i64 0, .int .i64 0]) bld_27 (vs := []) rfl rfl) rfl ?_
      have hb87 : Val k_Fault F w (.agg #[.int .i64 0, .int .i64 0]) (⟨(0 : Int), (0 : Int)⟩ : Fault) := mk_Fault (val_int _ _) (val_int _ _)
      refine ol_v (e_as _ rfl) rfl ?_
      refine ol_eN (f_stB hW h3 (FldS.whole _) ty_27 hb87 p3 rfl) rfl ?_
      rintro - w88 ⟨hW89, ho90, hg1, st1⟩
      obtain rfl := Option.some.inj hr
      exact ol_nil ⟨F, hW89, g3, (h4.mut (apart_bo h3 h4 rfl) hg1 st1), p3, ho90⟩
    exact Ref.ret (fun s ρ w ⟨F, hW, h⟩ => ⟨F, hW, s, rfl, h⟩)
def post (w : World) (F : BSet) (r : R) (v : Value) (w' : World) : Prop := ∃ (F' : BSet) (v0' : Value) (v1' : Value), v = .tuple #[v0', v1'] ∧ Wk nrow w F F' w' ∧ OwnV (kSl kByte) 22 (Nw w) F' w' v0' r.1 ∧ Val k_Fault F' w' v1' r.2
theorem calls {w : World} {F : BSet} (hok : ∀ b, F b → b < w.heap.size) {v0 : Value} {a0 : (List UInt8)} (h0 : SlR kByte F w v0 a0) {r : R} (hf : f a0 = some r) : Calls Try.prog 9 #[v0] w fun e w' => ∃ v, e = .returned v ∧ post w F r v w' := by
  obtain ⟨c, hc, href⟩ := ref w F
  refine calls_of_refT (args := [v0]) _ Try.func9 hc rfl rfl href ?_ (retOf_some hf) ?_
  · exact ⟨F, Wk.refl hok, h0⟩
  · rintro ρ w' dl a ⟨s, rfl, F', hW, g3, h2, p3, h3⟩ hF
    obtain ⟨u3, l3, k3⟩ := res_box (P := Try.prog) ty_27 h3
    refine ⟨_, run_results (rs := [.tmp 2, .cell 3 27]) rfl hF (vs := [ρ 2, u3]) (⟨_, rfl, ⟨_, _, _, rfl, p3, l3, rfl⟩⟩), ?_⟩
    exact ⟨F', ρ 2, u3, rfl, hW, h2.rebase (fun g hg => (h2.lt hg).1.resolve_right (fun h => h)), k3⟩
end
end transfer_Frames

namespace transfer_link_do_0
section
def G0 (g0 : Nat) (c0_1 : Value) (c0_2 : Value) (w0 : World) (F0 : BSet) (s : S) (ρ : Env) (w : World) : Prop := ∃ (F : BSet), Wk (rowL [some g0, c0_1.ownBlock, c0_2.ownBlock]) w0 F0 F w ∧ ∃ (v0_1 : Value) (v0_2 : Value), ρ 0 = .pointer (some ⟨g0, 0, none⟩) ∧ Box k_Transfer_link_r 56 (Bs w0 (rowL [some g0, c0_1.ownBlock, c0_2.ownBlock])) F w g0 (⟨s.t_0.frames, v0_1, v0_2, s.t_0.count, s.t_0.acked⟩ : Transfer_link_r) ∧ OwnV (kInt .i64) 3 (Bs w0 (rowL [some g0, c0_1.ownBlock, c0_2.ownBlock])) F w v0_1 s.t_0.sent ∧ OwnV (kInt .i64) 3 (Bs w0 (rowL [some g0, c0_1.ownBlock, c0_2.ownBlock])) F w v0_2 s.t_0.acks ∧ Val k_LinkEvent F w (ρ 1) s.t_1 ∧ Apart v0_1.ownBlock v0_2.ownBlock
def G1 (g0 : Nat) (c0_1 : Value) (c0_2 : Value) (w0 : World) (F0 : BSet) (s : S) (ρ : Env) (w : World) : Prop := ∃ (F : BSet), Wk (rowL [some g0, c0_1.ownBlock, c0_2.ownBlock]) w0 F0 F w ∧ ∃ (v0_1 : Value) (v0_2 : Value) (g3 : Nat), ρ 0 = .pointer (some ⟨g0, 0, none⟩) ∧ Box k_Transfer_link_r 56 (Bs w0 (rowL [some g0, c0_1.ownBlock, c0_2.ownBlock])) F w g0 (⟨s.t_0.frames, v0_1, v0_2, s.t_0.count, s.t_0.acked⟩ : Transfer_link_r) ∧ OwnV (kInt .i64) 3 (Bs w0 (rowL [some g0, c0_1.ownBlock, c0_2.ownBlock])) F w v0_1 s.t_0.sent ∧ OwnV (kInt .i64) 3 (Bs w0 (rowL [some g0, c0_1.ownBlock, c0_2.ownBlock])) F w v0_2 s.t_0.acks ∧ ρ 3 = .pointer (some ⟨g3, 0, none⟩) ∧ Box k_LinkEvent 48 (Bs w0 (rowL [some g0, c0_1.ownBlock, c0_2.ownBlock])) F w g3 s.t_3 ∧ Apart v0_1.ownBlock v0_2.ownBlock
def G2 (g0 : Nat) (c0_1 : Value) (c0_2 : Value) (w0 : World) (F0 : BSet) (s : S) (ρ : Env) (w : World) : Prop := ∃ (F : BSet), Wk (rowL [some g0, c0_1.ownBlock, c0_2.ownBlock]) w0 F0 F w ∧ ∃ (v0_1 : Value) (v0_2 : Value) (g3 : Nat), ρ 0 = .pointer (some ⟨g0, 0, none⟩) ∧ Box k_Transfer_link_r 56 (Bs w0 (rowL [some g0, c0_1.ownBlock, c0_2.ownBlock])) F w g0 (⟨s.t_0.frames, v0_1, v0_2, s.t_0.count, s.t_0.acked⟩ : Transfer_link_r) ∧ OwnV (kInt .i64) 3 (Bs w0 (rowL [some g0, c0_1.ownBlock, c0_2.ownBlock])) F w v0_1 s.t_0.sent ∧ OwnV (kInt .i64) 3 (Bs w0 (rowL [some g0, c0_1.ownBlock, c0_2.ownBlock])) F w v0_2 s.t_0.acks ∧ ρ 3 = .pointer (some ⟨g3, 0, none⟩) ∧ Box k_LinkEvent 48 (Bs w0 (rowL [some g0, c0_1.ownBlock, c0_2.ownBlock])) F w g3 s.t_3 ∧ ρ 5 = .pointer (some ⟨g0, 0 + 1, none⟩) ∧ Apart v0_1.ownBlock v0_2.ownBlock
def G3 (g0 : Nat) (c0_1 : Value) (c0_2 : Value) (w0 : World) (F0 : BSet) (s : S) (ρ : Env) (w : World) : Prop := ∃ (F : BSet), Wk (rowL [some g0, c0_1.ownBlock, c0_2.ownBlock]) w0 F0 F w ∧ ∃ (v0_1 : Value) (v0_2 : Value) (g3 : Nat), ρ 0 = .pointer (some ⟨g0, 0, none⟩) ∧ Box k_Transfer_link_r 56 (Bs w0 (rowL [some g0, c0_1.ownBlock, c0_2.ownBlock])) F w g0 (⟨s.t_0.frames, v0_1, v0_2, s.t_0.count, s.t_0.acked⟩ : Transfer_link_r) ∧ OwnV (kInt .i64) 3 (Bs w0 (rowL [some g0, c0_1.ownBlock, c0_2.ownBlock])) F w v0_1 s.t_0.sent ∧ OwnV (kInt .i64) 3 (Bs w0 (rowL [some g0, c0_1.ownBlock, c0_2.ownBlock])) F w v0_2 s.t_0.acks ∧ ρ 3 = .pointer (some ⟨g3, 0, none⟩) ∧ Box k_LinkEvent 48 (Bs w0 (rowL [some g0, c0_1.ownBlock, c0_2.ownBlock])) F w g3 s.t_3 ∧ ρ 5 = .pointer (some ⟨g0, 0 + 1, none⟩) ∧ ρ 16 = .bool s.t_16 ∧ Apart v0_1.ownBlock v0_2.ownBlock
def G4 (g0 : Nat) (c0_1 : Value) (c0_2 : Value) (w0 : World) (F0 : BSet) (s : S) (ρ : Env) (w : World) : Prop := ∃ (F : BSet), Wk (rowL [some g0, c0_1.ownBlock, c0_2.ownBlock]) w0 F0 F w ∧ ∃ (v0_1 : Value) (v0_2 : Value) (g3 : Nat), ρ 0 = .pointer (some ⟨g0, 0, none⟩) ∧ Box k_Transfer_link_r 56 (Bs w0 (rowL [some g0, c0_1.ownBlock, c0_2.ownBlock])) F w g0 (⟨s.t_0.frames, v0_1, v0_2, s.t_0.count, s.t_0.acked⟩ : Transfer_link_r) ∧ OwnV (kInt .i64) 3 (Bs w0 (rowL [some g0, c0_1.ownBlock, c0_2.ownBlock])) F w v0_1 s.t_0.sent ∧ OwnV (kInt .i64) 3 (Bs w0 (rowL [some g0, c0_1.ownBlock, c0_2.ownBlock])) F w v0_2 s.t_0.acks ∧ ρ 3 = .pointer (some ⟨g3, 0, none⟩) ∧ Box k_LinkEvent 48 (Bs w0 (rowL [some g0, c0_1.ownBlock, c0_2.ownBlock])) F w g3 s.t_3 ∧ ρ 5 = .pointer (some ⟨g0, 0 + 1, none⟩) ∧ ρ 20 = .bool s.t_20 ∧ Apart v0_1.ownBlock v0_2.ownBlock
def G5 (g0 : Nat) (c0_1 : Value) (c0_2 : Value) (w0 : World) (F0 : BSet) (s : S) (ρ : Env) (w : World) : Prop := ∃ (F : BSet), Wk (rowL [some g0, c0_1.ownBlock, c0_2.ownBlock]) w0 F0 F w ∧ ∃ (v0_1 : Value) (v0_2 : Value), ρ 0 = .pointer (some ⟨g0, 0, none⟩) ∧ Box k_Transfer_link_r 56 (Bs w0 (rowL [some g0, c0_1.ownBlock, c0_2.ownBlock])) F w g0 (⟨s.t_0.frames, v0_1, v0_2, s.t_0.count, s.t_0.acked⟩ : Transfer_link_r) ∧ OwnV (kInt .i64) 3 (Bs w0 (rowL [some g0, c0_1.ownBlock, c0_2.ownBlock])) F w v0_1 s.t_0.sent ∧ OwnV (kInt .i64) 3 (Bs w0 (rowL [some g0, c0_1.ownBlock, c0_2.ownBlock])) F w v0_2 s.t_0.acks ∧ Apart v0_1.ownBlock v0_2.ownBlock
def G6 (g0 : Nat) (c0_1 : Value) (c0_2 : Value) (w0 : World) (F0 : BSet) (s : S) (ρ : Env) (w : World) : Prop := ∃ (F : BSet), Wk (rowL [some g0, c0_1.ownBlock, c0_2.ownBlock]) w0 F0 F w ∧ ∃ (v0_1 : Value) (v0_2 : Value), ρ 0 = .pointer (some ⟨g0, 0, none⟩) ∧ Box k_Transfer_link_r 56 (Bs w0 (rowL [some g0, c0_1.ownBlock, c0_2.ownBlock])) F w g0 (⟨s.t_0.frames, v0_1, v0_2, s.t_0.count, s.t_0.acked⟩ : Transfer_link_r) ∧ OwnV (kInt .i64) 3 (Bs w0 (rowL [some g0, c0_1.ownBlock, c0_2.ownBlock])) F w v0_1 s.t_0.sent ∧ OwnV (kInt .i64) 3 (Bs w0 (rowL [some g0, c0_1.ownBlock, c0_2.ownBlock])) F w v0_2 s.t_0.acks ∧ ρ 4 = .int .i64 s.t_4 ∧ Apart v0_1.ownBlock v0_2.ownBlock
def G7 (g0 : Nat) (c0_1 : Value) (c0_2 : Value) (w0 : World) (F0 : BSet) (s : S) (ρ : Env) (w : World) : Prop := ∃ (F : BSet), Wk (rowL [some g0, c0_1.ownBlock, c0_2.ownBlock]) w0 F0 F w ∧ ∃ (v0_1 : Value) (v0_2 : Value) (g3 : Nat), ρ 0 = .pointer (some ⟨g0, 0, none⟩) ∧ Box k_Transfer_link_r 56 (Bs w0 (rowL [some g0, c0_1.ownBlock, c0_2.ownBlock])) F w g0 (⟨s.t_0.frames, v0_1, v0_2, s.t_0.count, s.t_0.acked⟩ : Transfer_link_r) ∧ OwnV (kInt .i64) 3 (Bs w0 (rowL [some g0, c0_1.ownBlock, c0_2.ownBlock])) F w v0_1 s.t_0.sent ∧ OwnV (kInt .i64) 3 (Bs w0 (rowL [some g0, c0_1.ownBlock, c0_2.ownBlock])) F w v0_2 s.t_0.acks ∧ ρ 3 = .pointer (some ⟨g3, 0, none⟩) ∧ Box k_LinkEvent 48 (Bs w0 (rowL [some g0, c0_1.ownBlock, c0_2.ownBlock])) F w g3 s.t_3 ∧ ρ 5 = .pointer (some ⟨g0, 0 + 1, none⟩) ∧ ρ 29 = .bool s.t_29 ∧ Apart v0_1.ownBlock v0_2.ownBlock
def G8 (g0 : Nat) (c0_1 : Value) (c0_2 : Value) (w0 : World) (F0 : BSet) (s : S) (ρ : Env) (w : World) : Prop := ∃ (F : BSet), Wk (rowL [some g0, c0_1.ownBlock, c0_2.ownBlock]) w0 F0 F w ∧ ∃ (v0_1 : Value) (v0_2 : Value) (g3 : Nat), ρ 0 = .pointer (some ⟨g0, 0, none⟩) ∧ Box k_Transfer_link_r 56 (Bs w0 (rowL [some g0, c0_1.ownBlock, c0_2.ownBlock])) F w g0 (⟨s.t_0.frames, v0_1, v0_2, s.t_0.count, s.t_0.acked⟩ : Transfer_link_r) ∧ OwnV (kInt .i64) 3 (Bs w0 (rowL [some g0, c0_1.ownBlock, c0_2.ownBlock])) F w v0_1 s.t_0.sent ∧ OwnV (kInt .i64) 3 (Bs w0 (rowL [some g0, c0_1.ownBlock, c0_2.ownBlock])) F w v0_2 s.t_0.acks ∧ ρ 3 = .pointer (some ⟨g3, 0, none⟩) ∧ Box k_LinkEvent 48 (Bs w0 (rowL [some g0, c0_1.ownBlock, c0_2.ownBlock])) F w g3 s.t_3 ∧ ρ 5 = .pointer (some ⟨g0, 0 + 1, none⟩) ∧ ρ 38 = .bool s.t_38 ∧ Apart v0_1.ownBlock v0_2.ownBlock
def G9 (g0 : Nat) (c0_1 : Value) (c0_2 : Value) (w0 : World) (F0 : BSet) (s : S) (ρ : Env) (w : World) : Prop := ∃ (F : BSet), Wk (rowL [some g0, c0_1.ownBlock, c0_2.ownBlock]) w0 F0 F w ∧ ∃ (v0_1 : Value) (v0_2 : Value) (g3 : Nat), ρ 0 = .pointer (some ⟨g0, 0, none⟩) ∧ Box k_Transfer_link_r 56 (Bs w0 (rowL [some g0, c0_1.ownBlock, c0_2.ownBlock])) F w g0 (⟨s.t_0.frames, v0_1, v0_2, s.t_0.count, s.t_0.acked⟩ : Transfer_link_r) ∧ OwnV (kInt .i64) 3 (Bs w0 (rowL [some g0, c0_1.ownBlock, c0_2.ownBlock])) F w v0_1 s.t_0.sent ∧ OwnV (kInt .i64) 3 (Bs w0 (rowL [some g0, c0_1.ownBlock, c0_2.ownBlock])) F w v0_2 s.t_0.acks ∧ ρ 3 = .pointer (some ⟨g3, 0, none⟩) ∧ Box k_LinkEvent 48 (Bs w0 (rowL [some g0, c0_1.ownBlock, c0_2.ownBlock])) F w g3 s.t_3 ∧ ρ 5 = .pointer (some ⟨g0, 0 + 1, none⟩) ∧ ρ 54 = .bool s.t_54 ∧ Apart v0_1.ownBlock v0_2.ownBlock
def G10 (g0 : Nat) (c0_1 : Value) (c0_2 : Value) (w0 : World) (F0 : BSet) (s : S) (ρ : Env) (w : World) : Prop := ∃ (F : BSet), Wk (rowL [some g0, c0_1.ownBlock, c0_2.ownBlock]) w0 F0 F w ∧ ∃ (v0_1 : Value) (v0_2 : Value) (g3 : Nat), ρ 0 = .pointer (some ⟨g0, 0, none⟩) ∧ Box k_Transfer_link_r 56 (Bs w0 (rowL [some g0, c0_1.ownBlock, c0_2.ownBlock])) F w g0 (⟨s.t_0.frames, v0_1, v0_2, s.t_0.count, s.t_0.acked⟩ : Transfer_link_r) ∧ OwnV (kInt .i64) 3 (Bs w0 (rowL [some g0, c0_1.ownBlock, c0_2.ownBlock])) F w v0_1 s.t_0.sent ∧ OwnV (kInt .i64) 3 (Bs w0 (rowL [some g0, c0_1.ownBlock, c0_2.ownBlock])) F w v0_2 s.t_0.acks ∧ ρ 3 = .pointer (some ⟨g3, 0, none⟩) ∧ Box k_LinkEvent 48 (Bs w0 (rowL [some g0, c0_1.ownBlock, c0_2.ownBlock])) F w g3 s.t_3 ∧ ρ 5 = .pointer (some ⟨g0, 0 + 1, none⟩) ∧ ρ 73 = .int .i64 s.t_73 ∧ Apart v0_1.ownBlock v0_2.ownBlock
def G11 (g0 : Nat) (c0_1 : Value) (c0_2 : Value) (w0 : World) (F0 : BSet) (s : S) (ρ : Env) (w : World) : Prop := ∃ (F : BSet), Wk (rowL [some g0, c0_1.ownBlock, c0_2.ownBlock]) w0 F0 F w ∧ ∃ (v0_1 : Value) (v0_2 : Value) (g3 : Nat), ρ 0 = .pointer (some ⟨g0, 0, none⟩) ∧ Box k_Transfer_link_r 56 (Bs w0 (rowL [some g0, c0_1.ownBlock, c0_2.ownBlock])) F w g0 (⟨s.t_0.frames, v0_1, v0_2, s.t_0.count, s.t_0.acked⟩ : Transfer_link_r) ∧ OwnV (kInt .i64) 3 (Bs w0 (rowL [some g0, c0_1.ownBlock, c0_2.ownBlock])) F w v0_1 s.t_0.sent ∧ OwnV (kInt .i64) 3 (Bs w0 (rowL [some g0, c0_1.ownBlock, c0_2.ownBlock])) F w v0_2 s.t_0.acks ∧ ρ 3 = .pointer (some ⟨g3, 0, none⟩) ∧ Box k_LinkEvent 48 (Bs w0 (rowL [some g0, c0_1.ownBlock, c0_2.ownBlock])) F w g3 s.t_3 ∧ ρ 5 = .pointer (some ⟨g0, 0 + 1, none⟩) ∧ ρ 73 = .int .i64 s.t_73 ∧ ρ 78 = .bool s.t_78 ∧ Apart v0_1.ownBlock v0_2.ownBlock
def G12 (g0 : Nat) (c0_1 : Value) (c0_2 : Value) (w0 : World) (F0 : BSet) (s : S) (ρ : Env) (w : World) : Prop := ∃ (F : BSet), Wk (rowL [some g0, c0_1.ownBlock, c0_2.ownBlock]) w0 F0 F w ∧ ∃ (v0_1 : Value) (v0_2 : Value) (g3 : Nat), ρ 0 = .pointer (some ⟨g0, 0, none⟩) ∧ Box k_Transfer_link_r 56 (Bs w0 (rowL [some g0, c0_1.ownBlock, c0_2.ownBlock])) F w g0 (⟨s.t_0.frames, v0_1, v0_2, s.t_0.count, s.t_0.acked⟩ : Transfer_link_r) ∧ OwnV (kInt .i64) 3 (Bs w0 (rowL [some g0, c0_1.ownBlock, c0_2.ownBlock])) F w v0_1 s.t_0.sent ∧ OwnV (kInt .i64) 3 (Bs w0 (rowL [some g0, c0_1.ownBlock, c0_2.ownBlock])) F w v0_2 s.t_0.acks ∧ ρ 3 = .pointer (some ⟨g3, 0, none⟩) ∧ Box k_LinkEvent 48 (Bs w0 (rowL [some g0, c0_1.ownBlock, c0_2.ownBlock])) F w g3 s.t_3 ∧ ρ 5 = .pointer (some ⟨g0, 0 + 1, none⟩) ∧ ρ 73 = .int .i64 s.t_73 ∧ ρ 93 = .bool s.t_93 ∧ Apart v0_1.ownBlock v0_2.ownBlock
def G13 (g0 : Nat) (c0_1 : Value) (c0_2 : Value) (w0 : World) (F0 : BSet) (s : S) (ρ : Env) (w : World) : Prop := ∃ (F : BSet), Wk (rowL [some g0, c0_1.ownBlock, c0_2.ownBlock]) w0 F0 F w ∧ ∃ (v0_1 : Value) (v0_2 : Value), ρ 0 = .pointer (some ⟨g0, 0, none⟩) ∧ Box k_Transfer_link_r 56 (Bs w0 (rowL [some g0, c0_1.ownBlock, c0_2.ownBlock])) F w g0 (⟨s.t_0.frames, v0_1, v0_2, s.t_0.count, s.t_0.acked⟩ : Transfer_link_r) ∧ OwnV (kInt .i64) 3 (Bs w0 (rowL [some g0, c0_1.ownBlock, c0_2.ownBlock])) F w v0_1 s.t_0.sent ∧ OwnV (kInt .i64) 3 (Bs w0 (rowL [some g0, c0_1.ownBlock, c0_2.ownBlock])) F w v0_2 s.t_0.acks ∧ ρ 103 = .bool s.t_103 ∧ Apart v0_1.ownBlock v0_2.ownBlock
def G14 (g0 : Nat) (c0_1 : Value) (c0_2 : Value) (w0 : World) (F0 : BSet) (s : S) (ρ : Env) (w : World) : Prop := ∃ (F : BSet), Wk (rowL [some g0, c0_1.ownBlock, c0_2.ownBlock]) w0 F0 F w ∧ ∃ (v0_1 : Value) (v0_2 : Value) (g3 : Nat), ρ 0 = .pointer (some ⟨g0, 0, none⟩) ∧ Box k_Transfer_link_r 56 (Bs w0 (rowL [some g0, c0_1.ownBlock, c0_2.ownBlock])) F w g0 (⟨s.t_0.frames, v0_1, v0_2, s.t_0.count, s.t_0.acked⟩ : Transfer_link_r) ∧ OwnV (kInt .i64) 3 (Bs w0 (rowL [some g0, c0_1.ownBlock, c0_2.ownBlock])) F w v0_1 s.t_0.sent ∧ OwnV (kInt .i64) 3 (Bs w0 (rowL [some g0, c0_1.ownBlock, c0_2.ownBlock])) F w v0_2 s.t_0.acks ∧ ρ 3 = .pointer (some ⟨g3, 0, none⟩) ∧ Box k_LinkEvent 48 (Bs w0 (rowL [some g0, c0_1.ownBlock, c0_2.ownBlock])) F w g3 s.t_3 ∧ ρ 5 = .pointer (some ⟨g0, 0 + 1, none⟩) ∧ ρ 73 = .int .i64 s.t_73 ∧ ρ 124 = .bool s.t_124 ∧ Apart v0_1.ownBlock v0_2.ownBlock
def G15 (g0 : Nat) (c0_1 : Value) (c0_2 : Value) (w0 : World) (F0 : BSet) (s : S) (ρ : Env) (w : World) : Prop := ∃ (F : BSet), Wk (rowL [some g0, c0_1.ownBlock, c0_2.ownBlock]) w0 F0 F w ∧ ∃ (v0_1 : Value) (v0_2 : Value) (g3 : Nat), ρ 0 = .pointer (some ⟨g0, 0, none⟩) ∧ Box k_Transfer_link_r 56 (Bs w0 (rowL [some g0, c0_1.ownBlock, c0_2.ownBlock])) F w g0 (⟨s.t_0.frames, v0_1, v0_2, s.t_0.count, s.t_0.acked⟩ : Transfer_link_r) ∧ OwnV (kInt .i64) 3 (Bs w0 (rowL [some g0, c0_1.ownBlock, c0_2.ownBlock])) F w v0_1 s.t_0.sent ∧ OwnV (kInt .i64) 3 (Bs w0 (rowL [some g0, c0_1.ownBlock, c0_2.ownBlock])) F w v0_2 s.t_0.acks ∧ ρ 3 = .pointer (some ⟨g3, 0, none⟩) ∧ Box k_LinkEvent 48 (Bs w0 (rowL [some g0, c0_1.ownBlock, c0_2.ownBlock])) F w g3 s.t_3 ∧ ρ 5 = .pointer (some ⟨g0, 0 + 1, none⟩) ∧ ρ 143 = .bool s.t_143 ∧ Apart v0_1.ownBlock v0_2.ownBlock
set_option maxHeartbeats 4000000 in
set_option maxRecDepth 20000 in
theorem ref (g0 : Nat) (c0_1 : Value) (c0_2 : Value) (w0 : World) (F0 : BSet) : ∃ c, Try.f21.body = some c ∧ Ref Try.prog 157 c (G0 g0 c0_1 c0_2 w0 F0) body (fun _ _ _ => False) (fun _ _ _ _ => False) (fun r ρ w => ∃ s, retv s = r ∧ G6 g0 c0_1 c0_2 w0 F0 s ρ w) := by
  refine ⟨_, rfl, ?_⟩
  unfold body
  refine Ref.seq (B := G1 g0 c0_1 c0_2 w0 F0) ?_ ?_
  · refine Ref.region (fun s ρ w s' h hr => ?_)
    obtain ⟨F, hW, v0_1, v0_2, p0, b0, h0_1, h0_2, h1, a01_02⟩ := h
    refine ol_e (f_box hW rfl h1) rfl rfl ?_
    rintro _ w2 ⟨g1, rfl, kw1, ho3⟩
    have hW4 := hW.trans kw1
    have st1 := kw1.stp hW.ok
    refine ol_v (e_as _ rfl) rfl ?_
    obtain rfl := Option.some.inj hr
    exact ol_nil ⟨F, hW4, v0_1, v0_2, g1, p0, (b0.wk kw1 hW.ok), (h0_1.wk kw1 hW.ok), (h0_2.wk kw1 hW.ok), rfl, (ho3.base (row := (rowL [some g0, c0_1.ownBlock, c0_2.ownBlock])) hW.le), a01_02⟩
  refine Ref.seq (B := G2 g0 c0_1 c0_2 w0 F0) ?_ ?_
  · refine Ref.region (fun s ρ w s' h hr => ?_)
    obtain ⟨F, hW, v0_1, v0_2, g3, p0, b0, h0_1, h0_2, p3, h3, a01_02⟩ := h
    refine ol_v (e_mv _ p0) rfl ?_
    refine ol_v (e_nil_ rfl) rfl ?_
    refine ol_v (e_fa fa_56_1 rfl) rfl ?_
    refine ol_v (e_as _ rfl) rfl ?_
    obtain rfl := Option.some.inj hr
    exact ol_nil ⟨F, hW, v0_1, v0_2, g3, p0, b0, h0_1, h0_2, p3, h3, rfl, a01_02⟩
  refine Ref.seq (B := G2 g0 c0_1 c0_2 w0 F0) ?_ ?_
  · refine Ref.seq (B := G3 g0 c0_1 c0_2 w0 F0) ?_ ?_
    · refine Ref.region (fun s ρ w s' h hr => ?_)
      obtain ⟨F, hW, v0_1, v0_2, g3, p0, b0, h0_1, h0_2, p3, h3, p5, a01_02⟩ := h
      refine ol_v (e_fa fa_48_0 p3) rfl ?_
      refine ol_v (e_ld ty_3 (LiesV.int ((h3).at_.fld fl_LinkEvent_0)) rfl) rfl ?_
      refine ol_v (e_eql rfl rfl) rfl ?_
      refine ol_cutA 5 12 16 (fun ρ' w' => w = w' ∧ ρ' 16 = .bool ((decide (s.t_3.Kind = (5 : Int))) || (decide (s.t_3.Kind = (6 : Int))))) rfl ?_ ?_
      · by_cases hb5 : (decide (s.t_3.Kind = (5 : Int))) = true
        · refine ol_v (e_mv _ rfl) rfl ?_
          refine ol_not rfl rfl rfl (congrArg Value.bool hb5) rfl ?_
          refine ol_not rfl rfl rfl (congrArg Value.bool hb5) rfl ?_
          refine ol_not rfl rfl rfl (congrArg Value.bool hb5) rfl ?_
          refine ol_v (e_pick true _ (congrArg Value.bool hb5) rfl) rfl ?_
          exact ol_nil ⟨⟨rfl, (bv_or_t hb5)⟩, ((((((Agr.refl _ _ _).upd rfl rfl).upd rfl rfl).upd rfl rfl).upd rfl rfl).upd rfl rfl)⟩
        · have hb6 := Bool.eq_false_iff.mpr hb5
          refine ol_v (e_mv _ rfl) rfl ?_
          refine ol_yes rfl rfl (congrArg Value.bool hb6) ?_
          refine ol_v (e_fa fa_48_0 p3) rfl ?_
          refine ol_yes rfl rfl (congrArg Value.bool hb6) ?_
          refine ol_v (e_ld ty_3 (LiesV.int ((h3).at_.fld fl_LinkEvent_0)) rfl) rfl ?_
          refine ol_yes rfl rfl (congrArg Value.bool hb6) ?_
          refine ol_v (e_eql rfl rfl) rfl ?_
          refine ol_v (e_pick false _ (congrArg Value.bool hb6) rfl) rfl ?_
          exact ol_nil ⟨⟨rfl, (bv_or_f hb6)⟩, ((((((Agr.refl _ _ _).upd rfl rfl).upd rfl rfl).upd rfl rfl).upd rfl rfl).upd rfl rfl)⟩
      rintro ρ7 _ ⟨⟨rfl, hp7⟩, hAg7⟩
      obtain rfl := Option.some.inj hr
      exact ol_nil ⟨F, hW, v0_1, v0_2, g3, ((hAg7 0 rfl).trans p0), b0, h0_1, h0_2, ((hAg7 3 rfl).trans p3), h3, ((hAg7 5 rfl).trans p5), hp7, a01_02⟩
    refine Ref.cond (b := fun s => s.t_16) (fun s ρ w ⟨F, hW, v0_1, v0_2, g3, p0, b0, h0_1, h0_2, p3, h3, p5, h16, a01_02⟩ => h16) Ref.noneM (Ref.pre (A := G2 g0 c0_1 c0_2 w0 F0) ?_ (fun s ρ w h => (fun ⟨F, hW, v0_1, v0_2, g3, p0, b0, h0_1, h0_2, p3, h3, p5, h16, a01_02⟩ => ⟨F, hW, v0_1, v0_2, g3, p0, b0, h0_1, h0_2, p3, h3, p5, a01_02⟩ : G3 g0 c0_1 c0_2 w0 F0 s ρ w → G2 g0 c0_1 c0_2 w0 F0 s ρ w) h.2))
    exact Ref.skip
  refine Ref.seq (B := G2 g0 c0_1 c0_2 w0 F0) ?_ ?_
  · refine Ref.block ?_
    refine Ref.seq (B := G4 g0 c0_1 c0_2 w0 F0) ?_ ?_
    · refine Ref.region (fun s ρ w s' h hr => ?_)
      obtain ⟨F, hW, v0_1, v0_2, g3, p0, b0, h0_1, h0_2, p3, h3, p5, a01_02⟩ := h
      refine ol_v (e_fa fa_48_0 p3) rfl ?_
      refine ol_v (e_ld ty_3 (LiesV.int ((h3).at_.fld fl_LinkEvent_0)) rfl) rfl ?_
      refine ol_v (e_lss rfl rfl) rfl ?_
      refine ol_cutA 5 24 28 (fun ρ' w' => w = w' ∧ ρ' 28 = .bool ((decide (s.t_3.Kind < (1 : Int))) || (decide ((6 : Int) < s.t_3.Kind)))) rfl ?_ ?_
      · by_cases hb8 : (decide (s.t_3.Kind < (1 : Int))) = true
        · refine ol_v (e_mv _ rfl) rfl ?_
          refine ol_not rfl rfl rfl (congrArg Value.bool hb8) rfl ?_
          refine ol_not rfl rfl rfl (congrArg Value.bool hb8) rfl ?_
          refine ol_not rfl rfl rfl (congrArg Value.bool hb8) rfl ?_
          refine ol_v (e_pick true _ (congrArg Value.bool hb8) rfl) rfl ?_
          exact ol_nil ⟨⟨rfl, (bv_or_t hb8)⟩, ((((((Agr.refl _ _ _).upd rfl rfl).upd rfl rfl).upd rfl rfl).upd rfl rfl).upd rfl rfl)⟩
        · have hb9 := Bool.eq_false_iff.mpr hb8
          refine ol_v (e_mv _ rfl) rfl ?_
          refine ol_yes rfl rfl (congrArg Value.bool hb9) ?_
          refine ol_v (e_fa fa_48_0 p3) rfl ?_
          refine ol_yes rfl rfl (congrArg Value.bool hb9) ?_
          refine ol_v (e_ld ty_3 (LiesV.int ((h3).at_.fld fl_LinkEvent_0)) rfl) rfl ?_
          refine ol_yes rfl rfl (congrArg Value.bool hb9) ?_
          refine ol_v (e_gtr rfl rfl) rfl ?_
          refine ol_v (e_pick false _ (congrArg Value.bool hb9) rfl) rfl ?_
          exact ol_nil ⟨⟨rfl, (bv_or_f hb9)⟩, ((((((Agr.refl _ _ _).upd rfl rfl).upd rfl rfl).upd rfl rfl).upd rfl rfl).upd rfl rfl)⟩
      rintro ρ10 _ ⟨⟨rfl, hp10⟩, hAg10⟩
      refine ol_v (e_as _ hp10) rfl ?_
      obtain rfl := Option.some.inj hr
      exact ol_nil ⟨F, hW, v0_1, v0_2, g3, ((hAg10 0 rfl).trans p0), b0, h0_1, h0_2, ((hAg10 3 rfl).trans p3), h3, ((hAg10 5 rfl).trans p5), rfl, a01_02⟩
    refine Ref.cond (b := fun s => s.t_20) (fun s ρ w ⟨F, hW, v0_1, v0_2, g3, p0, b0, h0_1, h0_2, p3, h3, p5, h20, a01_02⟩ => h20) (Ref.pre (A := G5 g0 c0_1 c0_2 w0 F0) ?_ (fun s ρ w h => (fun ⟨F, hW, v0_1, v0_2, g3, p0, b0, h0_1, h0_2, p3, h3, p5, h20, a01_02⟩ => ⟨F, hW, v0_1, v0_2, p0, b0, h0_1, h0_2, a01_02⟩ : G4 g0 c0_1 c0_2 w0 F0 s ρ w → G5 g0 c0_1 c0_2 w0 F0 s ρ w) h.2)) (Ref.pre (A := G2 g0 c0_1 c0_2 w0 F0) ?_ (fun s ρ w h => (fun ⟨F, hW, v0_1, v0_2, g3, p0, b0, h0_1, h0_2, p3, h3, p5, h20, a01_02⟩ => ⟨F, hW, v0_1, v0_2, g3, p0, b0, h0_1, h0_2, p3, h3, p5, a01_02⟩ : G4 g0 c0_1 c0_2 w0 F0 s ρ w → G2 g0 c0_1 c0_2 w0 F0 s ρ w) h.2))
    · refine Ref.seq (B := G6 g0 c0_1 c0_2 w0 F0) ?_ ?_
      · refine Ref.region (fun s ρ w s' h hr => ?_)
        obtain ⟨F, hW, v0_1, v0_2, p0, b0, h0_1, h0_2, a01_02⟩ := h
        refine ol_v (e_as _ rfl) rfl ?_
        obtain rfl := Option.some.inj hr
        exact ol_nil ⟨F, hW, v0_1, v0_2, p0, b0, h0_1, h0_2, rfl, a01_02⟩
      exact Ref.ret (fun s ρ w h => ⟨s, rfl, h⟩)
    · refine Ref.seq (B := G7 g0 c0_1 c0_2 w0 F0) ?_ ?_
      · refine Ref.region (fun s ρ w s' h hr => ?_)
        obtain ⟨F, hW, v0_1, v0_2, g3, p0, b0, h0_1, h0_2, p3, h3, p5, a01_02⟩ := h
        refine ol_v (e_fa fa_48_0 p3) rfl ?_
        refine ol_v (e_ld ty_3 (LiesV.int ((h3).at_.fld fl_LinkEvent_0)) rfl) rfl ?_
        refine ol_v (e_eql rfl rfl) rfl ?_
        refine ol_cutA 5 33 37 (fun ρ' w' => w = w' ∧ ρ' 37 = .bool ((decide (s.t_3.Kind = (1 : Int))) && (!decide (s.t_3.N = (0 : Int))))) rfl ?_ ?_
        · by_cases hb11 : (decide (s.t_3.Kind = (1 : Int))) = true
          · refine ol_v (e_mv _ rfl) rfl ?_
            refine ol_yes rfl rfl (congrArg Value.bool hb11) ?_
            refine ol_v (e_fa fa_48_1 p3) rfl ?_
            refine ol_yes rfl rfl (congrArg Value.bool hb11) ?_
            refine ol_v (e_ld ty_3 (LiesV.int ((h3).at_.fld fl_LinkEvent_1)) rfl) rfl ?_
            refine ol_yes rfl rfl (congrArg Value.bool hb11) ?_
            refine ol_v (e_neq rfl rfl) rfl ?_
            refine ol_v (e_pick true _ (congrArg Value.bool hb11) rfl) rfl ?_
            exact ol_nil ⟨⟨rfl, (bv_and_t hb11)⟩, ((((((Agr.refl _ _ _).upd rfl rfl).upd rfl rfl).upd rfl rfl).upd rfl rfl).upd rfl rfl)⟩
          · have hb12 := Bool.eq_false_iff.mpr hb11
            refine ol_v (e_mv _ rfl) rfl ?_
            refine ol_not rfl rfl rfl (congrArg Value.bool hb12) rfl ?_
            refine ol_not rfl rfl rfl (congrArg Value.bool hb12) rfl ?_
            refine ol_not rfl rfl rfl (congrArg Value.bool hb12) rfl ?_
            refine ol_v (e_pick false _ (congrArg Value.bool hb12) rfl) rfl ?_
            exact ol_nil ⟨⟨rfl, (bv_and_f hb12)⟩, ((((((Agr.refl _ _ _).upd rfl rfl).upd rfl rfl).upd rfl rfl).upd rfl rfl).upd rfl rfl)⟩
        rintro ρ13 _ ⟨⟨rfl, hp13⟩, hAg13⟩
        refine ol_v (e_as _ hp13) rfl ?_
        obtain rfl := Option.some.inj hr
        exact ol_nil ⟨F, hW, v0_1, v0_2, g3, ((hAg13 0 rfl).trans p0), b0, h0_1, h0_2, ((hAg13 3 rfl).trans p3), h3, ((hAg13 5 rfl).trans p5), rfl, a01_02⟩
      refine Ref.cond (b := fun s => s.t_29) (fun s ρ w ⟨F, hW, v0_1, v0_2, g3, p0, b0, h0_1, h0_2, p3, h3, p5, h29, a01_02⟩ => h29) (Ref.pre (A := G5 g0 c0_1 c0_2 w0 F0) ?_ (fun s ρ w h => (fun ⟨F, hW, v0_1, v0_2, g3, p0, b0, h0_1, h0_2, p3, h3, p5, h29, a01_02⟩ => ⟨F, hW, v0_1, v0_2, p0, b0, h0_1, h0_2, a01_02⟩ : G7 g0 c0_1 c0_2 w0 F0 s ρ w → G5 g0 c0_1 c0_2 w0 F0 s ρ w) h.2)) (Ref.pre (A := G2 g0 c0_1 c0_2 w0 F0) ?_ (fun s ρ w h => (fun ⟨F, hW, v0_1, v0_2, g3, p0, b0, h0_1, h0_2, p3, h3, p5, h29, a01_02⟩ => ⟨F, hW, v0_1, v0_2, g3, p0, b0, h0_1, h0_2, p3, h3, p5, a01_02⟩ : G7 g0 c0_1 c0_2 w0 F0 s ρ w → G2 g0 c0_1 c0_2 w0 F0 s ρ w) h.2))
      · refine Ref.seq (B := G6 g0 c0_1 c0_2 w0 F0) ?_ ?_
        · refine Ref.region (fun s ρ w s' h hr => ?_)
          obtain ⟨F, hW, v0_1, v0_2, p0, b0, h0_1, h0_2, a01_02⟩ := h
          refine ol_v (e_as _ rfl) rfl ?_
          obtain rfl := Option.some.inj hr
          exact ol_nil ⟨F, hW, v0_1, v0_2, p0, b0, h0_1, h0_2, rfl, a01_02⟩
        exact Ref.ret (fun s ρ w h => ⟨s, rfl, h⟩)
      · refine Ref.seq (B := G8 g0 c0_1 c0_2 w0 F0) ?_ ?_
        · refine Ref.regionS (by kernel_rfl) (by kernel_rfl) (fun s ρ w ⟨F, hW, v0_1, v0_2, g3, p0, b0, h0_1, h0_2, p3, h3, p5, a01_02⟩ => ⟨F, hW.drewS, v0_1, v0_2, g3, p0, b0.wk (Wk.drew (row := nrow) hW.ok) hW.ok, h0_1.wk (Wk.drew (row := nrow) hW.ok) hW.ok, h0_2.wk (Wk.drew (row := nrow) hW.ok) hW.ok, p3, h3.wk (Wk.drew (row := nrow) hW.ok) hW.ok, p5, a01_02⟩) (fun s ρ w s' h hr => ?_)
          obtain ⟨F, hW, v0_1, v0_2, g3, p0, b0, h0_1, h0_2, p3, h3, p5, a01_02⟩ := h
          refine ol_v (e_fa fa_48_0 p3) rfl ?_
          refine ol_v (e_ld ty_3 (LiesV.int ((h3).at_.fld fl_LinkEvent_0)) rfl) rfl ?_
          refine ol_v (e_eql rfl rfl) rfl ?_
          refine ol_cutA 12 42 53 (fun ρ' w' => w = w' ∧ ρ' 53 = .bool ((decide (s.t_3.Kind = (1 : Int))) && (decide (s.t_0.acked = (s.t_0.frames.length : Int))))) rfl ?_ ?_
          · by_cases hb14 : (decide (s.t_3.Kind = (1 : Int))) = true
            · refine ol_v (e_mv _ rfl) rfl ?_
              refine ol_yes rfl rfl (congrArg Value.bool hb14) ?_
              refine ol_v (e_mv _ p0) rfl ?_
              refine ol_yes rfl rfl (congrArg Value.bool hb14) ?_
              refine ol_v (e_nil_ rfl) rfl ?_
              refine ol_yes rfl rfl (congrArg Value.bool hb14) ?_
              refine ol_v (e_fa fa_56_4 rfl) rfl ?_
              refine ol_yes rfl rfl (congrArg Value.bool hb14) ?_
              refine ol_v (e_ld ty_3 (LiesV.int ((b0).at_.fld fl_Transfer_link_r_4)) rfl) rfl ?_
              refine ol_yes rfl rfl (congrArg Value.bool hb14) ?_
              refine ol_v (e_mv _ p0) rfl ?_
              refine ol_yes rfl rfl (congrArg Value.bool hb14) ?_
              refine ol_v (e_nil_ rfl) rfl ?_
              refine ol_yes rfl rfl (congrArg Value.bool hb14) ?_
              refine ol_v (e_fa fa_56_0 rfl) rfl ?_
              refine ol_yes rfl rfl (congrArg Value.bool hb14) ?_
              obtain ⟨v16, hl17, hs18⟩ := LiesV.sl ((b0).at_.fld fl_Transfer_link_r_0)
              refine ol_v (e_ld ty_25 hl17 rfl) rfl ?_
              refine ol_yes rfl rfl (congrArg Value.bool hb14) ?_
              obtain ⟨A19, c20, e21, hc22, R23⟩ := id hs18
              refine ol_v (e_len (SlT.sl sl_25) e21) rfl ?_
              refine ol_yes rfl rfl (congrArg Value.bool hb14) ?_
              refine ol_v (e_eql rfl rfl) rfl ?_
              refine ol_v (e_pick true _ (congrArg Value.bool hb14) rfl) rfl ?_
              exact ol_nil ⟨⟨rfl, (bv_and_t hb14)⟩, (((((((((((((Agr.refl _ _ _).upd rfl rfl).upd rfl rfl).upd rfl rfl).upd rfl rfl).upd rfl rfl).upd rfl rfl).upd rfl rfl).upd rfl rfl).upd rfl rfl).upd rfl rfl).upd rfl rfl).upd rfl rfl)⟩
            · have hb15 := Bool.eq_false_iff.mpr hb14
              refine ol_v (e_mv _ rfl) rfl ?_
              refine ol_not rfl rfl rfl (congrArg Value.bool hb15) rfl ?_
              refine ol_not rfl rfl rfl (congrArg Value.bool hb15) rfl ?_
              refine ol_not rfl rfl rfl (congrArg Value.bool hb15) rfl ?_
              refine ol_not rfl rfl rfl (congrArg Value.bool hb15) rfl ?_
              refine ol_not rfl rfl rfl (congrArg Value.bool hb15) rfl ?_
              refine ol_not rfl rfl rfl (congrArg Value.bool hb15) rfl ?_
              refine ol_not rfl rfl rfl (congrArg Value.bool hb15) rfl ?_
              refine ol_not rfl rfl rfl (congrArg Value.bool hb15) rfl ?_
              refine ol_not rfl rfl rfl (congrArg Value.bool hb15) rfl ?_
              refine ol_not rfl rfl rfl (congrArg Value.bool hb15) rfl ?_
              refine ol_v (e_pick false _ (congrArg Value.bool hb15) rfl) rfl ?_
              exact ol_nil ⟨⟨rfl, (bv_and_f hb15)⟩, (((((((((((((Agr.refl _ _ _).upd rfl rfl).upd rfl rfl).upd rfl rfl).upd rfl rfl).upd rfl rfl).upd rfl rfl).upd rfl rfl).upd rfl rfl).upd rfl rfl).upd rfl rfl).upd rfl rfl).upd rfl rfl)⟩
          rintro ρ24 _ ⟨⟨rfl, hp24⟩, hAg24⟩
          refine ol_v (e_as _ hp24) rfl ?_
          obtain rfl := Option.some.inj hr
          exact ol_nil ⟨F, hW, v0_1, v0_2, g3, ((hAg24 0 rfl).trans p0), b0, h0_1, h0_2, ((hAg24 3 rfl).trans p3), h3, ((hAg24 5 rfl).trans p5), rfl, a01_02⟩
        refine Ref.cond (b := fun s => s.t_38) (fun s ρ w ⟨F, hW, v0_1, v0_2, g3, p0, b0, h0_1, h0_2, p3, h3, p5, h38, a01_02⟩ => h38) (Ref.pre (A := G5 g0 c0_1 c0_2 w0 F0) ?_ (fun s ρ w h => (fun ⟨F, hW, v0_1, v0_2, g3, p0, b0, h0_1, h0_2, p3, h3, p5, h38, a01_02⟩ => ⟨F, hW, v0_1, v0_2, p0, b0, h0_1, h0_2, a01_02⟩ : G8 g0 c0_1 c0_2 w0 F0 s ρ w → G5 g0 c0_1 c0_2 w0 F0 s ρ w) h.2)) (Ref.pre (A := G2 g0 c0_1 c0_2 w0 F0) ?_ (fun s ρ w h => (fun ⟨F, hW, v0_1, v0_2, g3, p0, b0, h0_1, h0_2, p3, h3, p5, h38, a01_02⟩ => ⟨F, hW, v0_1, v0_2, g3, p0, b0, h0_1, h0_2, p3, h3, p5, a01_02⟩ : G8 g0 c0_1 c0_2 w0 F0 s ρ w → G2 g0 c0_1 c0_2 w0 F0 s ρ w) h.2))
        · refine Ref.seq (B := G6 g0 c0_1 c0_2 w0 F0) ?_ ?_
          · refine Ref.region (fun s ρ w s' h hr => ?_)
            obtain ⟨F, hW, v0_1, v0_2, p0, b0, h0_1, h0_2, a01_02⟩ := h
            refine ol_v (e_as _ rfl) rfl ?_
            obtain rfl := Option.some.inj hr
            exact ol_nil ⟨F, hW, v0_1, v0_2, p0, b0, h0_1, h0_2, rfl, a01_02⟩
          exact Ref.ret (fun s ρ w h => ⟨s, rfl, h⟩)
        · refine Ref.seq (B := G9 g0 c0_1 c0_2 w0 F0) ?_ ?_
          · refine Ref.regionS (by kernel_rfl) (by kernel_rfl) (fun s ρ w ⟨F, hW, v0_1, v0_2, g3, p0, b0, h0_1, h0_2, p3, h3, p5, a01_02⟩ => ⟨F, hW.drewS, v0_1, v0_2, g3, p0, b0.wk (Wk.drew (row := nrow) hW.ok) hW.ok, h0_1.wk (Wk.drew (row := nrow) hW.ok) hW.ok, h0_2.wk (Wk.drew (row := nrow) hW.ok) hW.ok, p3, h3.wk (Wk.drew (row := nrow) hW.ok) hW.ok, p5, a01_02⟩) (fun s ρ w s' h hr => ?_)
            obtain ⟨F, hW, v0_1, v0_2, g3, p0, b0, h0_1, h0_2, p3, h3, p5, a01_02⟩ := h
            refine ol_v (e_fa fa_48_0 p3) rfl ?_
            refine ol_v (e_ld ty_3 (LiesV.int ((h3).at_.fld fl_LinkEvent_0)) rfl) rfl ?_
            refine ol_v (e_neq rfl rfl) rfl ?_
            refine ol_cutA 14 58 71 (fun ρ' w' => w = w' ∧ ρ' 71 = .bool ((!decide (s.t_3.Kind = (1 : Int))) && ((decide (s.t_3.N < (0 : Int))) || (decide ((s.t_0.sent.length : Int) ≤ s.t_3.N))))) rfl ?_ ?_
            · by_cases hb25 : (!decide (s.t_3.Kind = (1 : Int))) = true
              · refine ol_v (e_mv _ rfl) rfl ?_
                refine ol_yes rfl rfl (congrArg Value.bool hb25) ?_
                refine ol_v (e_fa fa_48_1 p3) rfl ?_
                refine ol_yes rfl rfl (congrArg Value.bool hb25) ?_
                refine ol_v (e_ld ty_3 (LiesV.int ((h3).at_.fld fl_LinkEvent_1)) rfl) rfl ?_
                refine ol_yes rfl rfl (congrArg Value.bool hb25) ?_
                refine ol_v (e_lss rfl rfl) rfl ?_
                refine ol_yes rfl rfl (congrArg Value.bool hb25) ?_
                refine ol_cutA 9 62 70 (fun ρ' w' => w = w' ∧ ρ' 70 = .bool ((decide (s.t_3.N < (0 : Int))) || (decide ((s.t_0.sent.length : Int) ≤ s.t_3.N)))) rfl ?_ ?_
                · by_cases hb27 : (decide (s.t_3.N < (0 : Int))) = true
                  · refine ol_v (e_mv _ rfl) rfl ?_
                    refine ol_not rfl rfl rfl (congrArg Value.bool hb27) rfl ?_
                    refine ol_not rfl rfl rfl (congrArg Value.bool hb27) rfl ?_
                    refine ol_not rfl rfl rfl (congrArg Value.bool hb27) rfl ?_
                    refine ol_not rfl rfl rfl (congrArg Value.bool hb27) rfl ?_
                    refine ol_not rfl rfl rfl (congrArg Value.bool hb27) rfl ?_
                    refine ol_not rfl rfl rfl (congrArg Value.bool hb27) rfl ?_
                    refine ol_not rfl rfl rfl (congrArg Value.bool hb27) rfl ?_
                    refine ol_yes rfl rfl (congrArg Value.bool hb25) ?_
                    refine ol_v (e_pick true _ (congrArg Value.bool hb27) rfl) rfl ?_
                    exact ol_nil ⟨⟨rfl, (bv_or_t hb27)⟩, ((((((((((Agr.refl _ _ _).upd rfl rfl).upd rfl rfl).upd rfl rfl).upd rfl rfl).upd rfl rfl).upd rfl rfl).upd rfl rfl).upd rfl rfl).upd rfl rfl)⟩
                  · have hb28 := Bool.eq_false_iff.mpr hb27
                    refine ol_v (e_mv _ rfl) rfl ?_
                    refine ol_yes rfl rfl (congrArg Value.bool hb28) ?_
                    refine ol_v (e_fa fa_48_1 p3) rfl ?_
                    refine ol_yes rfl rfl (congrArg Value.bool hb28) ?_
                    refine ol_v (e_ld ty_3 (LiesV.int ((h3).at_.fld fl_LinkEvent_1)) rfl) rfl ?_
                    refine ol_yes rfl rfl (congrArg Value.bool hb28) ?_
                    refine ol_v (e_mv _ p5) rfl ?_
                    refine ol_yes rfl rfl (congrArg Value.bool hb28) ?_
                    refine ol_v (e_nil_ rfl) rfl ?_
                    refine ol_yes rfl rfl (congrArg Value.bool hb28) ?_
                    refine ol_v (e_ld (v := v0_1) tyr_54 (LiesV.raw ((b0).at_.fld fl_Transfer_link_r_1)) rfl) rfl ?_
                    refine ol_yes rfl rfl (congrArg Value.bool hb28) ?_
                    obtain ⟨A29, c30, e31, hc32⟩ := h0_1.shape
                    refine ol_v (e_len (SlT.sl sl_54) e31) rfl ?_
                    refine ol_yes rfl rfl (congrArg Value.bool hb28) ?_
                    refine ol_v (e_geq rfl rfl) rfl ?_
                    refine ol_yes rfl rfl (congrArg Value.bool hb25) ?_
                    refine ol_v (e_pick false _ (congrArg Value.bool hb28) rfl) rfl ?_
                    exact ol_nil ⟨⟨rfl, (bv_or_f hb28)⟩, ((((((((((Agr.refl _ _ _).upd rfl rfl).upd rfl rfl).upd rfl rfl).upd rfl rfl).upd rfl rfl).upd rfl rfl).upd rfl rfl).upd rfl rfl).upd rfl rfl)⟩
                rintro ρ33 _ ⟨⟨rfl, hp33⟩, hAg33⟩
                refine ol_v (e_pick true _ ((hAg33 58 rfl).trans (congrArg Value.bool hb25)) hp33) rfl ?_
                exact ol_nil ⟨⟨rfl, (bv_and_t hb25)⟩, (((((((Agr.refl _ _ _).upd rfl rfl).upd rfl rfl).upd rfl rfl).upd rfl rfl).into hAg33 rfl rfl).upd rfl rfl)⟩
              · have hb26 := Bool.eq_false_iff.mpr hb25
                refine ol_v (e_mv _ rfl) rfl ?_
                refine ol_not rfl rfl rfl (congrArg Value.bool hb26) rfl ?_
                refine ol_not rfl rfl rfl (congrArg Value.bool hb26) rfl ?_
                refine ol_not rfl rfl rfl (congrArg Value.bool hb26) rfl ?_
                refine ol_not rfl rfl rfl (congrArg Value.bool hb26) rfl ?_
                refine ol_notU rfl rfl rfl rfl ?_
                refine ol_notU rfl rfl rfl rfl ?_
                refine ol_notU rfl rfl rfl rfl ?_
                refine ol_notU rfl rfl rfl rfl ?_
                refine ol_notU rfl rfl rfl rfl ?_
                refine ol_notU rfl rfl rfl rfl ?_
                refine ol_notU rfl rfl rfl rfl ?_
                refine ol_not rfl rfl rfl (congrArg Value.bool hb26) rfl ?_
                refine ol_v (e_pick false _ (congrArg Value.bool hb26) rfl) rfl ?_
                exact ol_nil ⟨⟨rfl, (bv_and_f hb26)⟩, (((((((((((((((Agr.refl _ _ _).upd rfl rfl).upd rfl rfl).upd rfl rfl).upd rfl rfl).upd rfl rfl).upd rfl rfl).upd rfl rfl).upd rfl rfl).upd rfl rfl).upd rfl rfl).upd rfl rfl).upd rfl rfl).upd rfl rfl).upd rfl rfl)⟩
            rintro ρ34 _ ⟨⟨rfl, hp34⟩, hAg34⟩
            refine ol_v (e_as _ hp34) rfl ?_
            obtain rfl := Option.some.inj hr
            exact ol_nil ⟨F, hW, v0_1, v0_2, g3, ((hAg34 0 rfl).trans p0), b0, h0_1, h0_2, ((hAg34 3 rfl).trans p3), h3, ((hAg34 5 rfl).trans p5), rfl, a01_02⟩
          refine Ref.cond (b := fun s => s.t_54) (fun s ρ w ⟨F, hW, v0_1, v0_2, g3, p0, b0, h0_1, h0_2, p3, h3, p5, h54, a01_02⟩ => h54) (Ref.pre (A := G5 g0 c0_1 c0_2 w0 F0) ?_ (fun s ρ w h => (fun ⟨F, hW, v0_1, v0_2, g3, p0, b0, h0_1, h0_2, p3, h3, p5, h54, a01_02⟩ => ⟨F, hW, v0_1, v0_2, p0, b0, h0_1, h0_2, a01_02⟩ : G9 g0 c0_1 c0_2 w0 F0 s ρ w → G5 g0 c0_1 c0_2 w0 F0 s ρ w) h.2)) (Ref.pre (A := G2 g0 c0_1 c0_2 w0 F0) ?_ (fun s ρ w h => (fun ⟨F, hW, v0_1, v0_2, g3, p0, b0, h0_1, h0_2, p3, h3, p5, h54, a01_02⟩ => ⟨F, hW, v0_1, v0_2, g3, p0, b0, h0_1, h0_2, p3, h3, p5, a01_02⟩ : G9 g0 c0_1 c0_2 w0 F0 s ρ w → G2 g0 c0_1 c0_2 w0 F0 s ρ w) h.2))
          · refine Ref.seq (B := G6 g0 c0_1 c0_2 w0 F0) ?_ ?_
            · refine Ref.region (fun s ρ w s' h hr => ?_)
              obtain ⟨F, hW, v0_1, v0_2, p0, b0, h0_1, h0_2, a01_02⟩ := h
              refine ol_v (e_as _ rfl) rfl ?_
              obtain rfl := Option.some.inj hr
              exact ol_nil ⟨F, hW, v0_1, v0_2, p0, b0, h0_1, h0_2, rfl, a01_02⟩
            exact Ref.ret (fun s ρ w h => ⟨s, rfl, h⟩)
          · exact Ref.skip
  refine Ref.seq (B := G5 g0 c0_1 c0_2 w0 F0) ?_ ?_
  · refine Ref.seq (B := G10 g0 c0_1 c0_2 w0 F0) ?_ ?_
    · refine Ref.region (fun s ρ w s' h hr => ?_)
      obtain ⟨F, hW, v0_1, v0_2, g3, p0, b0, h0_1, h0_2, p3, h3, p5, a01_02⟩ := h
      refine ol_v (e_fa fa_48_0 p3) rfl ?_
      refine ol_v (e_ld ty_3 (LiesV.int ((h3).at_.fld fl_LinkEvent_0)) rfl) rfl ?_
      obtain rfl := Option.some.inj hr
      exact ol_nil ⟨F, hW, v0_1, v0_2, g3, p0, b0, h0_1, h0_2, p3, h3, p5, rfl, a01_02⟩
    refine Ref.block ?_
    refine Ref.seq (B := G11 g0 c0_1 c0_2 w0 F0) ?_ ?_
    · refine Ref.region (fun s ρ w s' h hr => ?_)
      obtain ⟨F, hW, v0_1, v0_2, g3, p0, b0, h0_1, h0_2, p3, h3, p5, h73, a01_02⟩ := h
      refine ol_v (e_eql h73 rfl) rfl ?_
      refine ol_v (e_as _ rfl) rfl ?_
      obtain rfl := Option.some.inj hr
      exact ol_nil ⟨F, hW, v0_1, v0_2, g3, p0, b0, h0_1, h0_2, p3, h3, p5, h73, rfl, a01_02⟩
    refine Ref.cond (b := fun s => s.t_78) (fun s ρ w ⟨F, hW, v0_1, v0_2, g3, p0, b0, h0_1, h0_2, p3, h3, p5, h73, h78, a01_02⟩ => h78) (Ref.pre (A := G5 g0 c0_1 c0_2 w0 F0) ?_ (fun s ρ w h => (fun ⟨F, hW, v0_1, v0_2, g3, p0, b0, h0_1, h0_2, p3, h3, p5, h73, h78, a01_02⟩ => ⟨F, hW, v0_1, v0_2, p0, b0, h0_1, h0_2, a01_02⟩ : G11 g0 c0_1 c0_2 w0 F0 s ρ w → G5 g0 c0_1 c0_2 w0 F0 s ρ w) h.2)) (Ref.pre (A := G10 g0 c0_1 c0_2 w0 F0) ?_ (fun s ρ w h => (fun ⟨F, hW, v0_1, v0_2, g3, p0, b0, h0_1, h0_2, p3, h3, p5, h73, h78, a01_02⟩ => ⟨F, hW, v0_1, v0_2, g3, p0, b0, h0_1, h0_2, p3, h3, p5, h73, a01_02⟩ : G11 g0 c0_1 c0_2 w0 F0 s ρ w → G10 g0 c0_1 c0_2 w0 F0 s ρ w) h.2))
    · refine Ref.regionH (by kernel_rfl) (fun s ρ w ⟨F, hW, v0_1, v0_2, p0, b0, h0_1, h0_2, a01_02⟩ => ⟨F, hW.drewS, v0_1, v0_2, p0, b0.wk (Wk.drew (row := nrow) hW.ok) hW.ok, h0_1.wk (Wk.drew (row := nrow) hW.ok) hW.ok, h0_2.wk (Wk.drew (row := nrow) hW.ok) hW.ok, a01_02⟩) (fun s ρ w s' h hr => ?_)
      obtain ⟨F, hW, v0_1, v0_2, p0, b0, h0_1, h0_2, a01_02⟩ := h
      refine ⟨fun w' => Stp F w F w', ?_⟩
      refine oh_v 0 rfl (by kernel_rfl) (by kernel_rfl) (by kernel_rfl) (Stp.refl _ _) (fun wv_ SV => e_mv _ p0) rfl ?_
      refine oh_v 1 rfl (by kernel_rfl) (by kernel_rfl) (by kernel_rfl) (Stp.refl _ _) (fun wv_ SV => e_mv _ p0) rfl ?_
      refine oh_v 2 rfl (by kernel_rfl) (by kernel_rfl) (by kernel_rfl) (Stp.refl _ _) (fun wv_ SV => e_nil_ rfl) rfl ?_
      refine oh_v 3 rfl (by kernel_rfl) (by kernel_rfl) (by kernel_rfl) (Stp.refl _ _) (fun wv_ SV => e_fa fa_56_1 rfl) rfl ?_
      refine oh_v 5 rfl (by kernel_rfl) (by kernel_rfl) (by kernel_rfl) (Stp.refl _ _) (fun wv_ SV => e_mv _ p0) rfl ?_
      refine oh_v 6 rfl (by kernel_rfl) (by kernel_rfl) (by kernel_rfl) (Stp.refl _ _) (fun wv_ SV => e_nil_ rfl) rfl ?_
      refine oh_v 7 rfl (by kernel_rfl) (by kernel_rfl) (by kernel_rfl) (Stp.refl _ _) (fun wv_ SV => e_fa fa_56_4 rfl) rfl ?_
      refine oh_all [4, 8] (by kernel_rfl) rfl ⟨?_, ?_, trivial⟩
      · refine oh1_v rfl (e_ld (v := v0_1) tyr_54 (LiesV.raw ((b0).at_.fld fl_Transfer_link_r_1)) rfl) rfl ?_
        refine ⟨(Stp.refl _ _), ?_⟩
        refine oh_all [8] (by kernel_rfl) rfl ⟨?_, trivial⟩
        · refine oh1_v rfl (e_ld ty_3 (LiesV.int ((b0).at_.fld fl_Transfer_link_r_4)) rfl) rfl ?_
          refine ⟨(Stp.refl _ _), ?_⟩
          refine oh_all [9] (by kernel_rfl) rfl ⟨?_, trivial⟩
          · refine oh1_e rfl (f_bslF sl_54 hW ([s.t_0.acked] : List Int) [.int .i64 s.t_0.acked] (by exact ⟨_, _, rfl, (val_int _ _), rfl⟩) rfl (Nat.le_of_ble_eq_true rfl) (lcons (congrArg (Prod.mk 0) rfl) rfl)) rfl ?_
            rintro v35 w36 ⟨Fz38, kw1, ho37⟩
            have hW39 := hW.trans kw1
            have st1 := kw1.stp hW.ok
            refine ⟨(Stp.back st1), ?_⟩
            refine oh_all [10] (by kernel_rfl) rfl ⟨?_, trivial⟩
            · obtain ⟨x40, hx40, hr⟩ := bind_some' hr
              refine oh1_e rfl (f_app sl_54 hW39 (h0_1.wk kw1 hW.ok) ho37 hx40 rfl rfl) rfl ?_
              rintro v41 w42 ⟨hW43, ho44, hg2, st2, hor45⟩
              refine ⟨(Stp.back (st1.trans st2)), ?_⟩
              refine oh_v 11 rfl (by kernel_rfl) (by kernel_rfl) (by kernel_rfl) (Stp.back (st1.trans st2)) (fun wv_ SV => e_nil_ rfl) rfl ?_
              refine oh_v 12 rfl (by kernel_rfl) (by kernel_rfl) (by kernel_rfl) (Stp.back (st1.trans st2)) (fun wv_ SV => e_fa fa_56_1 rfl) rfl ?_
              refine oh_all [13] (by kernel_rfl) rfl ⟨?_, trivial⟩
              · refine oh1_eN rfl (f_stB (l := kRaw) hW43 ((b0.wk kw1 hW.ok).mut (apart_bo (b0.wk kw1 hW.ok) (h0_1.wk kw1 hW.ok) rfl).symm hg2 st2) fs_Transfer_link_r_1 tyr_54 (OwnV.raw ho44) rfl rfl) ?_
                rintro - w46 ⟨hW47, ho48, hg3, st3⟩
                refine ⟨(Stp.back (st1.trans (st2.trans st3))), ?_⟩
                obtain rfl := Option.some.inj hr
                exact oh_done (by kernel_rfl) ⟨Fz38, hW47, v41, v0_2, p0, ho48, (ho44.mut (apart_bo ((b0.wk kw1 hW.ok).mut (apart_bo (b0.wk kw1 hW.ok) (h0_1.wk kw1 hW.ok) rfl).symm hg2 st2) ho44 rfl) hg3 st3), (((h0_2.wk kw1 hW.ok).mut a01_02 hg2 st2).mut (apart_bo ((b0.wk kw1 hW.ok).mut (apart_bo (b0.wk kw1 hW.ok) (h0_1.wk kw1 hW.ok) rfl).symm hg2 st2) ((h0_2.wk kw1 hW.ok).mut a01_02 hg2 st2) rfl) hg3 st3), (Apart.grown a01_02 (h0_2.wk kw1 hW.ok).ltw hor45)⟩
      · refine oh1_v rfl (e_ld ty_3 (LiesV.int ((b0).at_.fld fl_Transfer_link_r_4)) rfl) rfl ?_
        refine ⟨(Stp.refl _ _), ?_⟩
        refine oh_all [4, 9] (by kernel_rfl) rfl ⟨?_, ?_, trivial⟩
        · refine oh1_v rfl (e_ld (v := v0_1) tyr_54 (LiesV.raw ((b0).at_.fld fl_Transfer_link_r_1)) rfl) rfl ?_
          refine ⟨(Stp.refl _ _), ?_⟩
          refine oh_all [9] (by kernel_rfl) rfl ⟨?_, trivial⟩
          · refine oh1_e rfl (f_bslF sl_54 hW ([s.t_0.acked] : List Int) [.int .i64 s.t_0.acked] (by exact ⟨_, _, rfl, (val_int _ _), rfl⟩) rfl (Nat.le_of_ble_eq_true rfl) (lcons (congrArg (Prod.mk 0) rfl) rfl)) rfl ?_
            rintro v49 w50 ⟨Fz52, kw1, ho51⟩
            have hW53 := hW.trans kw1
            have st1 := kw1.stp hW.ok
            refine ⟨(Stp.back st1), ?_⟩
            refine oh_all [10] (by kernel_rfl) rfl ⟨?_, trivial⟩
            · obtain ⟨x40, hx40, hr⟩ := bind_some' hr
              refine oh1_e rfl (f_app sl_54 hW53 (h0_1.wk kw1 hW.ok) ho51 hx40 rfl rfl) rfl ?_
              rintro v54 w55 ⟨hW56, ho57, hg2, st2, hor58⟩
              refine ⟨(Stp.back (st1.trans st2)), ?_⟩
              refine oh_v 11 rfl (by kernel_rfl) (by kernel_rfl) (by kernel_rfl) (Stp.back (st1.trans st2)) (fun wv_ SV => e_nil_ rfl) rfl ?_
              refine oh_v 12 rfl (by kernel_rfl) (by kernel_rfl) (by kernel_rfl) (Stp.back (st1.trans st2)) (fun wv_ SV => e_fa fa_56_1 rfl) rfl ?_
              refine oh_all [13] (by kernel_rfl) rfl ⟨?_, trivial⟩
              · refine oh1_eN rfl (f_stB (l := kRaw) hW56 ((b0.wk kw1 hW.ok).mut (apart_bo (b0.wk kw1 hW.ok) (h0_1.wk kw1 hW.ok) rfl).symm hg2 st2) fs_Transfer_link_r_1 tyr_54 (OwnV.raw ho57) rfl rfl) ?_
                rintro - w59 ⟨hW60, ho61, hg3, st3⟩
                refine ⟨(Stp.back (st1.trans (st2.trans st3))), ?_⟩
                obtain rfl := Option.some.inj hr
                exact oh_done (by kernel_rfl) ⟨Fz52, hW60, v54, v0_2, p0, ho61, (ho57.mut (apart_bo ((b0.wk kw1 hW.ok).mut (apart_bo (b0.wk kw1 hW.ok) (h0_1.wk kw1 hW.ok) rfl).symm hg2 st2) ho57 rfl) hg3 st3), (((h0_2.wk kw1 hW.ok).mut a01_02 hg2 st2).mut (apart_bo ((b0.wk kw1 hW.ok).mut (apart_bo (b0.wk kw1 hW.ok) (h0_1.wk kw1 hW.ok) rfl).symm hg2 st2) ((h0_2.wk kw1 hW.ok).mut a01_02 hg2 st2) rfl) hg3 st3), (Apart.grown a01_02 (h0_2.wk kw1 hW.ok).ltw hor58)⟩
        · refine oh1_e rfl (f_bslF sl_54 hW ([s.t_0.acked] : List Int) [.int .i64 s.t_0.acked] (by exact ⟨_, _, rfl, (val_int _ _), rfl⟩) rfl (Nat.le_of_ble_eq_true rfl) (lcons (congrArg (Prod.mk 0) rfl) rfl)) rfl ?_
          rintro v62 w63 ⟨Fz65, kw1, ho64⟩
          have hW66 := hW.trans kw1
          have st1 := kw1.stp hW.ok
          refine ⟨(Stp.back st1), ?_⟩
          refine oh_all [4] (by kernel_rfl) rfl ⟨?_, trivial⟩
          · refine oh1_v rfl (e_ld (v := v0_1) tyr_54 (LiesV.raw (((b0.wk kw1 hW.ok)).at_.fld fl_Transfer_link_r_1)) rfl) rfl ?_
            refine ⟨(Stp.back st1), ?_⟩
            refine oh_all [10] (by kernel_rfl) rfl ⟨?_, trivial⟩
            · obtain ⟨x40, hx40, hr⟩ := bind_some' hr
              refine oh1_e rfl (f_app sl_54 hW66 (h0_1.wk kw1 hW.ok) ho64 hx40 rfl rfl) rfl ?_
              rintro v67 w68 ⟨hW69, ho70, hg2, st2, hor71⟩
              refine ⟨(Stp.back (st1.trans st2)), ?_⟩
              refine oh_v 11 rfl (by kernel_rfl) (by kernel_rfl) (by kernel_rfl) (Stp.back (st1.trans st2)) (fun wv_ SV => e_nil_ rfl) rfl ?_
              refine oh_v 12 rfl (by kernel_rfl) (by kernel_rfl) (by kernel_rfl) (Stp.back (st1.trans st2)) (fun wv_ SV => e_fa fa_56_1 rfl) rfl ?_
              refine oh_all [13] (by kernel_rfl) rfl ⟨?_, trivial⟩
              · refine oh1_eN rfl (f_stB (l := kRaw) hW69 ((b0.wk kw1 hW.ok).mut (apart_bo (b0.wk kw1 hW.ok) (h0_1.wk kw1 hW.ok) rfl).symm hg2 st2) fs_Transfer_link_r_1 tyr_54 (OwnV.raw ho70) rfl rfl) ?_
                rintro - w72 ⟨hW73, ho74, hg3, st3⟩
                refine ⟨(Stp.back (st1.trans (st2.trans st3))), ?_⟩
                obtain rfl := Option.some.inj hr
                exact oh_done (by kernel_rfl) ⟨Fz65, hW73, v67, v0_2, p0, ho74, (ho70.mut (apart_bo ((b0.wk kw1 hW.ok).mut (apart_bo (b0.wk kw1 hW.ok) (h0_1.wk kw1 hW.ok) rfl).symm hg2 st2) ho70 rfl) hg3 st3), (((h0_2.wk kw1 hW.ok).mut a01_02 hg2 st2).mut (apart_bo ((b0.wk kw1 hW.ok).mut (apart_bo (b0.wk kw1 hW.ok) (h0_1.wk kw1 hW.ok) rfl).symm hg2 st2) ((h0_2.wk kw1 hW.ok).mut a01_02 hg2 st2) rfl) hg3 st3), (Apart.grown a01_02 (h0_2.wk kw1 hW.ok).ltw hor71)⟩
    · refine Ref.seq (B := G12 g0 c0_1 c0_2 w0 F0) ?_ ?_
      · refine Ref.region (fun s ρ w s' h hr => ?_)
        obtain ⟨F, hW, v0_1, v0_2, g3, p0, b0, h0_1, h0_2, p3, h3, p5, h73, a01_02⟩ := h
        refine ol_v (e_eql h73 rfl) rfl ?_
        refine ol_v (e_as _ rfl) rfl ?_
        obtain rfl := Option.some.inj hr
        exact ol_nil ⟨F, hW, v0_1, v0_2, g3, p0, b0, h0_1, h0_2, p3, h3, p5, h73, rfl, a01_02⟩
      refine Ref.cond (b := fun s => s.t_93) (fun s ρ w ⟨F, hW, v0_1, v0_2, g3, p0, b0, h0_1, h0_2, p3, h3, p5, h73, h93, a01_02⟩ => h93) (Ref.pre (A := G2 g0 c0_1 c0_2 w0 F0) ?_ (fun s ρ w h => (fun ⟨F, hW, v0_1, v0_2, g3, p0, b0, h0_1, h0_2, p3, h3, p5, h73, h93, a01_02⟩ => ⟨F, hW, v0_1, v0_2, g3, p0, b0, h0_1, h0_2, p3, h3, p5, a01_02⟩ : G12 g0 c0_1 c0_2 w0 F0 s ρ w → G2 g0 c0_1 c0_2 w0 F0 s ρ w) h.2)) (Ref.pre (A := G10 g0 c0_1 c0_2 w0 F0) ?_ (fun s ρ w h => (fun ⟨F, hW, v0_1, v0_2, g3, p0, b0, h0_1, h0_2, p3, h3, p5, h73, h93, a01_02⟩ => ⟨F, hW, v0_1, v0_2, g3, p0, b0, h0_1, h0_2, p3, h3, p5, h73, a01_02⟩ : G12 g0 c0_1 c0_2 w0 F0 s ρ w → G10 g0 c0_1 c0_2 w0 F0 s ρ w) h.2))
      · refine Ref.seq (B := G5 g0 c0_1 c0_2 w0 F0) ?_ ?_
        · refine Ref.seq (B := G13 g0 c0_1 c0_2 w0 F0) ?_ ?_
          · refine Ref.regionH (by kernel_rfl) (fun s ρ w ⟨F, hW, v0_1, v0_2, g3, p0, b0, h0_1, h0_2, p3, h3, p5, a01_02⟩ => ⟨F, hW.drewS, v0_1, v0_2, g3, p0, b0.wk (Wk.drew (row := nrow) hW.ok) hW.ok, h0_1.wk (Wk.drew (row := nrow) hW.ok) hW.ok, h0_2.wk (Wk.drew (row := nrow) hW.ok) hW.ok, p3, h3.wk (Wk.drew (row := nrow) hW.ok) hW.ok, p5, a01_02⟩) (fun s ρ w s' h hr => ?_)
            obtain ⟨F, hW, v0_1, v0_2, g3, p0, b0, h0_1, h0_2, p3, h3, p5, a01_02⟩ := h
            refine ⟨fun w' => Stp F w F w', ?_⟩
            refine oh_v 0 rfl (by kernel_rfl) (by kernel_rfl) (by kernel_rfl) (Stp.refl _ _) (fun wv_ SV => e_mv _ p5) rfl ?_
            refine oh_v 1 rfl (by kernel_rfl) (by kernel_rfl) (by kernel_rfl) (Stp.refl _ _) (fun wv_ SV => e_fa fa_48_1 p3) rfl ?_
            refine oh_v 4 rfl (by kernel_rfl) (by kernel_rfl) (by kernel_rfl) (Stp.refl _ _) (fun wv_ SV => e_mv _ p0) rfl ?_
            refine oh_v 5 rfl (by kernel_rfl) (by kernel_rfl) (by kernel_rfl) (Stp.refl _ _) (fun wv_ SV => e_nil_ rfl) rfl ?_
            refine oh_v 6 rfl (by kernel_rfl) (by kernel_rfl) (by kernel_rfl) (Stp.refl _ _) (fun wv_ SV => e_fa fa_56_3 rfl) rfl ?_
            refine oh_all [2, 7] (by kernel_rfl) rfl ⟨?_, ?_, trivial⟩
            · refine oh1_v rfl (e_ld ty_3 (LiesV.int ((h3).at_.fld fl_LinkEvent_1)) rfl) rfl ?_
              refine ⟨(Stp.refl _ _), ?_⟩
              refine oh_all [3, 7] (by kernel_rfl) rfl ⟨?_, ?_, trivial⟩
              · obtain ⟨x75, hx75, hr⟩ := bind_some' hr
                refine oh1_e rfl (f_call [.pointer (some ⟨g0, 0 + 1, none⟩), .int .i64 s.t_3.N] fn_25 (lcons rfl (lcons rfl rfl)) (take.calls hW.ok (Box.cellAt (b0) fl_Transfer_link_r_1) (OwnV.rebase h0_1 (fun _ _ => trivial)) (apart_bo b0 h0_1 rfl) s.t_3.N hx75)) rfl ?_
                rintro _ w78 ⟨v76, w77, rfl, kw1, ho79, hst80⟩
                have hB82 := fun g hg => (OwnV.lt h0_1 (g := g) hg).1
                have st1 := kw1.stpR hW.ok (fun g hg => (OwnV.lt h0_1 hg).2.1)
                have hW81 := hW.transR kw1 hB82
                obtain ⟨hW83, ho84, hg2, st2⟩ := Box.stored (l := kRaw) hW81 (b0.wkR (apart_bo b0 h0_1 rfl).symm kw1 st1) fs_Transfer_link_r_1 tyr_54 (OwnV.raw (ho79.rebase (fun g_ hg_ => (ho79.lt hg_).1.elim (fun h_ => .inl (Nat.le_trans hW.le h_)) (fun h_ => hB82 g_ h_)))) hst80
                refine ⟨(Stp.back (st1.trans st2)), ?_⟩
                refine oh_all [7] (by kernel_rfl) rfl ⟨?_, trivial⟩
                · refine oh1_v rfl (e_ld ty_3 (LiesV.int ((ho84).at_.fld fl_Transfer_link_r_3)) rfl) rfl ?_
                  refine ⟨(Stp.back (st1.trans st2)), ?_⟩
                  refine oh_v 8 rfl (by kernel_rfl) (by kernel_rfl) (by kernel_rfl) (Stp.back (st1.trans st2)) (fun wv_ SV => e_eql rfl rfl) rfl ?_
                  obtain rfl := Option.some.inj hr
                  exact oh_done (by kernel_rfl) ⟨F, hW83, v76, v0_2, p0, ho84, ((ho79.rebase (fun g_ hg_ => (ho79.lt hg_).1.elim (fun h_ => .inl (Nat.le_trans hW.le h_)) (fun h_ => hB82 g_ h_))).mut (apart_bo (b0.wkR (apart_bo b0 h0_1 rfl).symm kw1 st1) (ho79.rebase (fun g_ hg_ => (ho79.lt hg_).1.elim (fun h_ => .inl (Nat.le_trans hW.le h_)) (fun h_ => hB82 g_ h_))) rfl) hg2 st2), ((h0_2.wkR a01_02 kw1 st1).mut (apart_bo (b0.wkR (apart_bo b0 h0_1 rfl).symm kw1 st1) (h0_2.wkR a01_02 kw1 st1) rfl) hg2 st2), rfl, (Apart.took (fun g_ hg_ => (ho79.lt hg_).1) a01_02 h0_2.ltw)⟩
              · refine oh1_v rfl (e_ld ty_3 (LiesV.int ((b0).at_.fld fl_Transfer_link_r_3)) rfl) rfl ?_
                refine ⟨(Stp.refl _ _), ?_⟩
                refine oh_all [3] (by kernel_rfl) rfl ⟨?_, trivial⟩
                · obtain ⟨x75, hx75, hr⟩ := bind_some' hr
                  refine oh1_e rfl (f_call [.pointer (some ⟨g0, 0 + 1, none⟩), .int .i64 s.t_3.N] fn_25 (lcons rfl (lcons rfl rfl)) (take.calls hW.ok (Box.cellAt (b0) fl_Transfer_link_r_1) (OwnV.rebase h0_1 (fun _ _ => trivial)) (apart_bo b0 h0_1 rfl) s.t_3.N hx75)) rfl ?_
                  rintro _ w87 ⟨v85, w86, rfl, kw1, ho88, hst89⟩
                  have hB91 := fun g hg => (OwnV.lt h0_1 (g := g) hg).1
                  have st1 := kw1.stpR hW.ok (fun g hg => (OwnV.lt h0_1 hg).2.1)
                  have hW90 := hW.transR kw1 hB91
                  obtain ⟨hW92, ho93, hg2, st2⟩ := Box.stored (l := kRaw) hW90 (b0.wkR (apart_bo b0 h0_1 rfl).symm kw1 st1) fs_Transfer_link_r_1 tyr_54 (OwnV.raw (ho88.rebase (fun g_ hg_ => (ho88.lt hg_).1.elim (fun h_ => .inl (Nat.le_trans hW.le h_)) (fun h_ => hB91 g_ h_)))) hst89
                  refine ⟨(Stp.back (st1.trans st2)), ?_⟩
                  refine oh_v 8 rfl (by kernel_rfl) (by kernel_rfl) (by kernel_rfl) (Stp.back (st1.trans st2)) (fun wv_ SV => e_eql rfl rfl) rfl ?_
                  obtain rfl := Option.some.inj hr
                  exact oh_done (by kernel_rfl) ⟨F, hW92, v85, v0_2, p0, ho93, ((ho88.rebase (fun g_ hg_ => (ho88.lt hg_).1.elim (fun h_ => .inl (Nat.le_trans hW.le h_)) (fun h_ => hB91 g_ h_))).mut (apart_bo (b0.wkR (apart_bo b0 h0_1 rfl).symm kw1 st1) (ho88.rebase (fun g_ hg_ => (ho88.lt hg_).1.elim (fun h_ => .inl (Nat.le_trans hW.le h_)) (fun h_ => hB91 g_ h_))) rfl) hg2 st2), ((h0_2.wkR a01_02 kw1 st1).mut (apart_bo (b0.wkR (apart_bo b0 h0_1 rfl).symm kw1 st1) (h0_2.wkR a01_02 kw1 st1) rfl) hg2 st2), rfl, (Apart.took (fun g_ hg_ => (ho88.lt hg_).1) a01_02 h0_2.ltw)⟩
            · refine oh1_v rfl (e_ld ty_3 (LiesV.int ((b0).at_.fld fl_Transfer_link_r_3)) rfl) rfl ?_
              refine ⟨(Stp.refl _ _), ?_⟩
              refine oh_all [2] (by kernel_rfl) rfl ⟨?_, trivial⟩
              · refine oh1_v rfl (e_ld ty_3 (LiesV.int ((h3).at_.fld fl_LinkEvent_1)) rfl) rfl ?_
                refine ⟨(Stp.refl _ _), ?_⟩
                refine oh_all [3] (by kernel_rfl) rfl ⟨?_, trivial⟩
                · obtain ⟨x75, hx75, hr⟩ := bind_some' hr
                  refine oh1_e rfl (f_call [.pointer (some ⟨g0, 0 + 1, none⟩), .int .i64 s.t_3.N] fn_25 (lcons rfl (lcons rfl rfl)) (take.calls hW.ok (Box.cellAt (b0) fl_Transfer_link_r_1) (OwnV.rebase h0_1 (fun _ _ => trivial)) (apart_bo b0 h0_1 rfl) s.t_3.N hx75)) rfl ?_
                  rintro _ w96 ⟨v94, w95, rfl, kw1, ho97, hst98⟩
                  have hB100 := fun g hg => (OwnV.lt h0_1 (g := g) hg).1
                  have st1 := kw1.stpR hW.ok (fun g hg => (OwnV.lt h0_1 hg).2.1)
                  have hW99 := hW.transR kw1 hB100
                  obtain ⟨hW101, ho102, hg2, st2⟩ := Box.stored (l := kRaw) hW99 (b0.wkR (apart_bo b0 h0_1 rfl).symm kw1 st1) fs_Transfer_link_r_1 tyr_54 (OwnV.raw (ho97.rebase (fun g_ hg_ => (ho97.lt hg_).1.elim (fun h_ => .inl (Nat.le_trans hW.le h_)) (fun h_ => hB100 g_ h_)))) hst98
                  refine ⟨(Stp.back (st1.trans st2)), ?_⟩
                  refine oh_v 8 rfl (by kernel_rfl) (by kernel_rfl) (by kernel_rfl) (Stp.back (st1.trans st2)) (fun wv_ SV => e_eql rfl rfl) rfl ?_
                  obtain rfl := Option.some.inj hr
                  exact oh_done (by kernel_rfl) ⟨F, hW101, v94, v0_2, p0, ho102, ((ho97.rebase (fun g_ hg_ => (ho97.lt hg_).1.elim (fun h_ => .inl (Nat.le_trans hW.le h_)) (fun h_ => hB100 g_ h_))).mut (apart_bo (b0.wkR (apart_bo b0 h0_1 rfl).symm kw1 st1) (ho97.rebase (fun g_ hg_ => (ho97.lt hg_).1.elim (fun h_ => .inl (Nat.le_trans hW.le h_)) (fun h_ => hB100 g_ h_))) rfl) hg2 st2), ((h0_2.wkR a01_02 kw1 st1).mut (apart_bo (b0.wkR (apart_bo b0 h0_1 rfl).symm kw1 st1) (h0_2.wkR a01_02 kw1 st1) rfl) hg2 st2), rfl, (Apart.took (fun g_ hg_ => (ho97.lt hg_).1) a01_02 h0_2.ltw)⟩
          refine Ref.cond (b := fun s => s.t_103) (fun s ρ w ⟨F, hW, v0_1, v0_2, p0, b0, h0_1, h0_2, h103, a01_02⟩ => h103) (Ref.pre (A := G5 g0 c0_1 c0_2 w0 F0) ?_ (fun s ρ w h => (fun ⟨F, hW, v0_1, v0_2, p0, b0, h0_1, h0_2, h103, a01_02⟩ => ⟨F, hW, v0_1, v0_2, p0, b0, h0_1, h0_2, a01_02⟩ : G13 g0 c0_1 c0_2 w0 F0 s ρ w → G5 g0 c0_1 c0_2 w0 F0 s ρ w) h.2)) (Ref.pre (A := G5 g0 c0_1 c0_2 w0 F0) ?_ (fun s ρ w h => (fun ⟨F, hW, v0_1, v0_2, p0, b0, h0_1, h0_2, h103, a01_02⟩ => ⟨F, hW, v0_1, v0_2, p0, b0, h0_1, h0_2, a01_02⟩ : G13 g0 c0_1 c0_2 w0 F0 s ρ w → G5 g0 c0_1 c0_2 w0 F0 s ρ w) h.2))
          · refine Ref.region (fun s ρ w s' h hr => ?_)
            obtain ⟨F, hW, v0_1, v0_2, p0, b0, h0_1, h0_2, a01_02⟩ := h
            refine ol_v (e_mv _ p0) rfl ?_
            refine ol_v (e_nil_ rfl) rfl ?_
            refine ol_v (e_fa fa_56_3 rfl) rfl ?_
            refine ol_v (e_ld ty_3 (LiesV.int ((b0).at_.fld fl_Transfer_link_r_3)) rfl) rfl ?_
            refine ol_v (e_add rfl rfl) rfl ?_
            refine ol_v (e_nil_ rfl) rfl ?_
            refine ol_v (e_fa fa_56_3 rfl) rfl ?_
            refine ol_eN (f_stB hW b0 fs_Transfer_link_r_3 ty_3 (val_int _ _) rfl rfl) rfl ?_
            rintro - w103 ⟨hW104, ho105, hg1, st1⟩
            obtain rfl := Option.some.inj hr
            exact ol_nil ⟨F, hW104, v0_1, v0_2, p0, ho105, (h0_1.mut (apart_bo b0 h0_1 rfl) hg1 st1), (h0_2.mut (apart_bo b0 h0_2 rfl) hg1 st1), a01_02⟩
          · exact Ref.skip
        refine Ref.regionH (by kernel_rfl) (fun s ρ w ⟨F, hW, v0_1, v0_2, p0, b0, h0_1, h0_2, a01_02⟩ => ⟨F, hW.drewS, v0_1, v0_2, p0, b0.wk (Wk.drew (row := nrow) hW.ok) hW.ok, h0_1.wk (Wk.drew (row := nrow) hW.ok) hW.ok, h0_2.wk (Wk.drew (row := nrow) hW.ok) hW.ok, a01_02⟩) (fun s ρ w s' h hr => ?_)
        obtain ⟨F, hW, v0_1, v0_2, p0, b0, h0_1, h0_2, a01_02⟩ := h
        refine ⟨fun w' => Stp F w F w', ?_⟩
        refine oh_v 0 rfl (by kernel_rfl) (by kernel_rfl) (by kernel_rfl) (Stp.refl _ _) (fun wv_ SV => e_mv _ p0) rfl ?_
        refine oh_v 1 rfl (by kernel_rfl) (by kernel_rfl) (by kernel_rfl) (Stp.refl _ _) (fun wv_ SV => e_mv _ p0) rfl ?_
        refine oh_v 2 rfl (by kernel_rfl) (by kernel_rfl) (by kernel_rfl) (Stp.refl _ _) (fun wv_ SV => e_nil_ rfl) rfl ?_
        refine oh_v 3 rfl (by kernel_rfl) (by kernel_rfl) (by kernel_rfl) (Stp.refl _ _) (fun wv_ SV => e_fa fa_56_2 rfl) rfl ?_
        refine oh_v 5 rfl (by kernel_rfl) (by kernel_rfl) (by kernel_rfl) (Stp.refl _ _) (fun wv_ SV => e_mv _ p0) rfl ?_
        refine oh_v 6 rfl (by kernel_rfl) (by kernel_rfl) (by kernel_rfl) (Stp.refl _ _) (fun wv_ SV => e_nil_ rfl) rfl ?_
        refine oh_v 7 rfl (by kernel_rfl) (by kernel_rfl) (by kernel_rfl) (Stp.refl _ _) (fun wv_ SV => e_fa fa_56_3 rfl) rfl ?_
        refine oh_all [4, 8] (by kernel_rfl) rfl ⟨?_, ?_, trivial⟩
        · refine oh1_v rfl (e_ld (v := v0_2) tyr_54 (LiesV.raw ((b0).at_.fld fl_Transfer_link_r_2)) rfl) rfl ?_
          refine ⟨(Stp.refl _ _), ?_⟩
          refine oh_all [8] (by kernel_rfl) rfl ⟨?_, trivial⟩
          · refine oh1_v rfl (e_ld ty_3 (LiesV.int ((b0).at_.fld fl_Transfer_link_r_3)) rfl) rfl ?_
            refine ⟨(Stp.refl _ _), ?_⟩
            refine oh_all [9] (by kernel_rfl) rfl ⟨?_, trivial⟩
            · refine oh1_e rfl (f_bslF sl_54 hW ([s.t_0.count] : List Int) [.int .i64 s.t_0.count] (by exact ⟨_, _, rfl, (val_int _ _), rfl⟩) rfl (Nat.le_of_ble_eq_true rfl) (lcons (congrArg (Prod.mk 0) rfl) rfl)) rfl ?_
              rintro v106 w107 ⟨Fz109, kw1, ho108⟩
              have hW110 := hW.trans kw1
              have st1 := kw1.stp hW.ok
              refine ⟨(Stp.back st1), ?_⟩
              refine oh_all [10] (by kernel_rfl) rfl ⟨?_, trivial⟩
              · obtain ⟨x111, hx111, hr⟩ := bind_some' hr
                refine oh1_e rfl (f_app sl_54 hW110 (h0_2.wk kw1 hW.ok) ho108 hx111 rfl rfl) rfl ?_
                rintro v112 w113 ⟨hW114, ho115, hg2, st2, hor116⟩
                refine ⟨(Stp.back (st1.trans st2)), ?_⟩
                refine oh_v 11 rfl (by kernel_rfl) (by kernel_rfl) (by kernel_rfl) (Stp.back (st1.trans st2)) (fun wv_ SV => e_nil_ rfl) rfl ?_
                refine oh_v 12 rfl (by kernel_rfl) (by kernel_rfl) (by kernel_rfl) (Stp.back (st1.trans st2)) (fun wv_ SV => e_fa fa_56_2 rfl) rfl ?_
                refine oh_all [13] (by kernel_rfl) rfl ⟨?_, trivial⟩
                · refine oh1_eN rfl (f_stB (l := kRaw) hW114 ((b0.wk kw1 hW.ok).mut (apart_bo (b0.wk kw1 hW.ok) (h0_2.wk kw1 hW.ok) rfl).symm hg2 st2) fs_Transfer_link_r_2 tyr_54 (OwnV.raw ho115) rfl rfl) ?_
                  rintro - w117 ⟨hW118, ho119, hg3, st3⟩
                  refine ⟨(Stp.back (st1.trans (st2.trans st3))), ?_⟩
                  obtain rfl := Option.some.inj hr
                  exact oh_done (by kernel_rfl) ⟨Fz109, hW118, v0_1, v112, p0, ho119, (((h0_1.wk kw1 hW.ok).mut a01_02.symm hg2 st2).mut (apart_bo ((b0.wk kw1 hW.ok).mut (apart_bo (b0.wk kw1 hW.ok) (h0_2.wk kw1 hW.ok) rfl).symm hg2 st2) ((h0_1.wk kw1 hW.ok).mut a01_02.symm hg2 st2) rfl) hg3 st3), (ho115.mut (apart_bo ((b0.wk kw1 hW.ok).mut (apart_bo (b0.wk kw1 hW.ok) (h0_2.wk kw1 hW.ok) rfl).symm hg2 st2) ho115 rfl) hg3 st3), (Apart.grown a01_02.symm (h0_1.wk kw1 hW.ok).ltw hor116).symm⟩
        · refine oh1_v rfl (e_ld ty_3 (LiesV.int ((b0).at_.fld fl_Transfer_link_r_3)) rfl) rfl ?_
          refine ⟨(Stp.refl _ _), ?_⟩
          refine oh_all [4, 9] (by kernel_rfl) rfl ⟨?_, ?_, trivial⟩
          · refine oh1_v rfl (e_ld (v := v0_2) tyr_54 (LiesV.raw ((b0).at_.fld fl_Transfer_link_r_2)) rfl) rfl ?_
            refine ⟨(Stp.refl _ _), ?_⟩
            refine oh_all [9] (by kernel_rfl) rfl ⟨?_, trivial⟩
            · refine oh1_e rfl (f_bslF sl_54 hW ([s.t_0.count] : List Int) [.int .i64 s.t_0.count] (by exact ⟨_, _, rfl, (val_int _ _), rfl⟩) rfl (Nat.le_of_ble_eq_true rfl) (lcons (congrArg (Prod.mk 0) rfl) rfl)) rfl ?_
              rintro v120 w121 ⟨Fz123, kw1, ho122⟩
              have hW124 := hW.trans kw1
              have st1 := kw1.stp hW.ok
              refine ⟨(Stp.back st1), ?_⟩
              refine oh_all [10] (by kernel_rfl) rfl ⟨?_, trivial⟩
              · obtain ⟨x111, hx111, hr⟩ := bind_some' hr
                refine oh1_e rfl (f_app sl_54 hW124 (h0_2.wk kw1 hW.ok) ho122 hx111 rfl rfl) rfl ?_
                rintro v125 w126 ⟨hW127, ho128, hg2, st2, hor129⟩
                refine ⟨(Stp.back (st1.trans st2)), ?_⟩
                refine oh_v 11 rfl (by kernel_rfl) (by kernel_rfl) (by kernel_rfl) (Stp.back (st1.trans st2)) (fun wv_ SV => e_nil_ rfl) rfl ?_
                refine oh_v 12 rfl (by kernel_rfl) (by kernel_rfl) (by kernel_rfl) (Stp.back (st1.trans st2)) (fun wv_ SV => e_fa fa_56_2 rfl) rfl ?_
                refine oh_all [13] (by kernel_rfl) rfl ⟨?_, trivial⟩
                · refine oh1_eN rfl (f_stB (l := kRaw) hW127 ((b0.wk kw1 hW.ok).mut (apart_bo (b0.wk kw1 hW.ok) (h0_2.wk kw1 hW.ok) rfl).symm hg2 st2) fs_Transfer_link_r_2 tyr_54 (OwnV.raw ho128) rfl rfl) ?_
                  rintro - w130 ⟨hW131, ho132, hg3, st3⟩
                  refine ⟨(Stp.back (st1.trans (st2.trans st3))), ?_⟩
                  obtain rfl := Option.some.inj hr
                  exact oh_done (by kernel_rfl) ⟨Fz123, hW131, v0_1, v125, p0, ho132, (((h0_1.wk kw1 hW.ok).mut a01_02.symm hg2 st2).mut (apart_bo ((b0.wk kw1 hW.ok).mut (apart_bo (b0.wk kw1 hW.ok) (h0_2.wk kw1 hW.ok) rfl).symm hg2 st2) ((h0_1.wk kw1 hW.ok).mut a01_02.symm hg2 st2) rfl) hg3 st3), (ho128.mut (apart_bo ((b0.wk kw1 hW.ok).mut (apart_bo (b0.wk kw1 hW.ok) (h0_2.wk kw1 hW.ok) rfl).symm hg2 st2) ho128 rfl) hg3 st3), (Apart.grown a01_02.symm (h0_1.wk kw1 hW.ok).ltw hor129).symm⟩
          · refine oh1_e rfl (f_bslF sl_54 hW ([s.t_0.count] : List Int) [.int .i64 s.t_0.count] (by exact ⟨_, _, rfl, (val_int _ _), rfl⟩) rfl (Nat.le_of_ble_eq_true rfl) (lcons (congrArg (Prod.mk 0) rfl) rfl)) rfl ?_
            rintro v133 w134 ⟨Fz136, kw1, ho135⟩
            have hW137 := hW.trans kw1
            have st1 := kw1.stp hW.ok
            refine ⟨(Stp.back st1), ?_⟩
            refine oh_all [4] (by kernel_rfl) rfl ⟨?_, trivial⟩
            · refine oh1_v rfl (e_ld (v := v0_2) tyr_54 (LiesV.raw (((b0.wk kw1 hW.ok)).at_.fld fl_Transfer_link_r_2)) rfl) rfl ?_
              refine ⟨(Stp.back st1), ?_⟩
              refine oh_all [10] (by kernel_rfl) rfl ⟨?_, trivial⟩
              · obtain ⟨x111, hx111, hr⟩ := bind_some' hr
                refine oh1_e rfl (f_app sl_54 hW137 (h0_2.wk kw1 hW.ok) ho135 hx111 rfl rfl) rfl ?_
                rintro v138 w139 ⟨hW140, ho141, hg2, st2, hor142⟩
                refine ⟨(Stp.back (st1.trans st2)), ?_⟩
                refine oh_v 11 rfl (by kernel_rfl) (by kernel_rfl) (by kernel_rfl) (Stp.back (st1.trans st2)) (fun wv_ SV => e_nil_ rfl) rfl ?_
                refine oh_v 12 rfl (by kernel_rfl) (by kernel_rfl) (by kernel_rfl) (Stp.back (st1.trans st2)) (fun wv_ SV => e_fa fa_56_2 rfl) rfl ?_
                refine oh_all [13] (by kernel_rfl) rfl ⟨?_, trivial⟩
                · refine oh1_eN rfl (f_stB (l := kRaw) hW140 ((b0.wk kw1 hW.ok).mut (apart_bo (b0.wk kw1 hW.ok) (h0_2.wk kw1 hW.ok) rfl).symm hg2 st2) fs_Transfer_link_r_2 tyr_54 (OwnV.raw ho141) rfl rfl) ?_
                  rintro - w143 ⟨hW144, ho145, hg3, st3⟩
                  refine ⟨(Stp.back (st1.trans (st2.trans st3))), ?_⟩
                  obtain rfl := Option.some.inj hr
                  exact oh_done (by kernel_rfl) ⟨Fz136, hW144, v0_1, v138, p0, ho145, (((h0_1.wk kw1 hW.ok).mut a01_02.symm hg2 st2).mut (apart_bo ((b0.wk kw1 hW.ok).mut (apart_bo (b0.wk kw1 hW.ok) (h0_2.wk kw1 hW.ok) rfl).symm hg2 st2) ((h0_1.wk kw1 hW.ok).mut a01_02.symm hg2 st2) rfl) hg3 st3), (ho141.mut (apart_bo ((b0.wk kw1 hW.ok).mut (apart_bo (b0.wk kw1 hW.ok) (h0_2.wk kw1 hW.ok) rfl).symm hg2 st2) ho141 rfl) hg3 st3), (Apart.grown a01_02.symm (h0_1.wk kw1 hW.ok).ltw hor142).symm⟩
      · refine Ref.seq (B := G14 g0 c0_1 c0_2 w0 F0) ?_ ?_
        · refine Ref.region (fun s ρ w s' h hr => ?_)
          obtain ⟨F, hW, v0_1, v0_2, g3, p0, b0, h0_1, h0_2, p3, h3, p5, h73, a01_02⟩ := h
          refine ol_v (e_eql h73 rfl) rfl ?_
          refine ol_v (e_as _ rfl) rfl ?_
          obtain rfl := Option.some.inj hr
          exact ol_nil ⟨F, hW, v0_1, v0_2, g3, p0, b0, h0_1, h0_2, p3, h3, p5, h73, rfl, a01_02⟩
        refine Ref.cond (b := fun s => s.t_124) (fun s ρ w ⟨F, hW, v0_1, v0_2, g3, p0, b0, h0_1, h0_2, p3, h3, p5, h73, h124, a01_02⟩ => h124) (Ref.pre (A := G1 g0 c0_1 c0_2 w0 F0) ?_ (fun s ρ w h => (fun ⟨F, hW, v0_1, v0_2, g3, p0, b0, h0_1, h0_2, p3, h3, p5, h73, h124, a01_02⟩ => ⟨F, hW, v0_1, v0_2, g3, p0, b0, h0_1, h0_2, p3, h3, a01_02⟩ : G14 g0 c0_1 c0_2 w0 F0 s ρ w → G1 g0 c0_1 c0_2 w0 F0 s ρ w) h.2)) (Ref.pre (A := G10 g0 c0_1 c0_2 w0 F0) ?_ (fun s ρ w h => (fun ⟨F, hW, v0_1, v0_2, g3, p0, b0, h0_1, h0_2, p3, h3, p5, h73, h124, a01_02⟩ => ⟨F, hW, v0_1, v0_2, g3, p0, b0, h0_1, h0_2, p3, h3, p5, h73, a01_02⟩ : G14 g0 c0_1 c0_2 w0 F0 s ρ w → G10 g0 c0_1 c0_2 w0 F0 s ρ w) h.2))
        · refine Ref.regionH (by kernel_rfl) (fun s ρ w ⟨F, hW, v0_1, v0_2, g3, p0, b0, h0_1, h0_2, p3, h3, a01_02⟩ => ⟨F, hW.drewS, v0_1, v0_2, g3, p0, b0.wk (Wk.drew (row := nrow) hW.ok) hW.ok, h0_1.wk (Wk.drew (row := nrow) hW.ok) hW.ok, h0_2.wk (Wk.drew (row := nrow) hW.ok) hW.ok, p3, h3.wk (Wk.drew (row := nrow) hW.ok) hW.ok, a01_02⟩) (fun s ρ w s' h hr => ?_)
          obtain ⟨F, hW, v0_1, v0_2, g3, p0, b0, h0_1, h0_2, p3, h3, a01_02⟩ := h
          refine ⟨fun w' => Stp F w F w', ?_⟩
          refine oh_v 0 rfl (by kernel_rfl) (by kernel_rfl) (by kernel_rfl) (Stp.refl _ _) (fun wv_ SV => e_mv _ p0) rfl ?_
          refine oh_v 1 rfl (by kernel_rfl) (by kernel_rfl) (by kernel_rfl) (Stp.refl _ _) (fun wv_ SV => e_mv _ p0) rfl ?_
          refine oh_v 2 rfl (by kernel_rfl) (by kernel_rfl) (by kernel_rfl) (Stp.refl _ _) (fun wv_ SV => e_nil_ rfl) rfl ?_
          refine oh_v 3 rfl (by kernel_rfl) (by kernel_rfl) (by kernel_rfl) (Stp.refl _ _) (fun wv_ SV => e_fa fa_56_1 rfl) rfl ?_
          refine oh_v 5 rfl (by kernel_rfl) (by kernel_rfl) (by kernel_rfl) (Stp.refl _ _) (fun wv_ SV => e_mv _ p0) rfl ?_
          refine oh_v 6 rfl (by kernel_rfl) (by kernel_rfl) (by kernel_rfl) (Stp.refl _ _) (fun wv_ SV => e_nil_ rfl) rfl ?_
          refine oh_v 7 rfl (by kernel_rfl) (by kernel_rfl) (by kernel_rfl) (Stp.refl _ _) (fun wv_ SV => e_fa fa_56_1 rfl) rfl ?_
          refine oh_v 9 rfl (by kernel_rfl) (by kernel_rfl) (by kernel_rfl) (Stp.refl _ _) (fun wv_ SV => e_fa fa_48_1 p3) rfl ?_
          refine oh_all [4, 8, 10] (by kernel_rfl) rfl ⟨?_, ?_, ?_, trivial⟩
          · refine oh1_v rfl (e_ld (v := v0_1) tyr_54 (LiesV.raw ((b0).at_.fld fl_Transfer_link_r_1)) rfl) rfl ?_
            refine ⟨(Stp.refl _ _), ?_⟩
            refine oh_all [8, 10] (by kernel_rfl) rfl ⟨?_, ?_, trivial⟩
            · refine oh1_v rfl (e_ld (v := v0_1) tyr_54 (LiesV.raw ((b0).at_.fld fl_Transfer_link_r_1)) rfl) rfl ?_
              refine ⟨(Stp.refl _ _), ?_⟩
              refine oh_all [10] (by kernel_rfl) rfl ⟨?_, trivial⟩
              · refine oh1_v rfl (e_ld ty_3 (LiesV.int ((h3).at_.fld fl_LinkEvent_1)) rfl) rfl ?_
                refine ⟨(Stp.refl _ _), ?_⟩
                obtain ⟨x146, hx146, hr⟩ := bind_some' hr
                obtain ⟨g147, o148, c149, hv150, L151⟩ := OwnV.at_ h0_1 hx146
                refine oh_v 11 rfl (by kernel_rfl) (by kernel_rfl) (by kernel_rfl) (Stp.refl _ _) (fun wv_ SV => e_ixO sl_54 hv150 hx146 rfl rfl) rfl ?_
                refine oh_all [12] (by kernel_rfl) rfl ⟨?_, trivial⟩
                · refine oh1_v rfl (e_ld ty_3 (LiesV.int L151) rfl) rfl ?_
                  refine ⟨(Stp.refl _ _), ?_⟩
                  refine oh_all [13] (by kernel_rfl) rfl ⟨?_, trivial⟩
                  · refine oh1_e rfl (f_bslF sl_54 hW ([x146] : List Int) [.int .i64 x146] (by exact ⟨_, _, rfl, (val_int _ _), rfl⟩) rfl (Nat.le_of_ble_eq_true rfl) (lcons (congrArg (Prod.mk 0) rfl) rfl)) rfl ?_
                    rintro v152 w153 ⟨Fz155, kw1, ho154⟩
                    have hW156 := hW.trans kw1
                    have st1 := kw1.stp hW.ok
                    refine ⟨(Stp.back st1), ?_⟩
                    refine oh_all [14] (by kernel_rfl) rfl ⟨?_, trivial⟩
                    · obtain ⟨x157, hx157, hr⟩ := bind_some' hr
                      refine oh1_e rfl (f_app sl_54 hW156 (h0_1.wk kw1 hW.ok) ho154 hx157 rfl rfl) rfl ?_
                      rintro v158 w159 ⟨hW160, ho161, hg2, st2, hor162⟩
                      refine ⟨(Stp.back (st1.trans st2)), ?_⟩
                      refine oh_v 15 rfl (by kernel_rfl) (by kernel_rfl) (by kernel_rfl) (Stp.back (st1.trans st2)) (fun wv_ SV => e_nil_ rfl) rfl ?_
                      refine oh_v 16 rfl (by kernel_rfl) (by kernel_rfl) (by kernel_rfl) (Stp.back (st1.trans st2)) (fun wv_ SV => e_fa fa_56_1 rfl) rfl ?_
                      refine oh_all [17] (by kernel_rfl) rfl ⟨?_, trivial⟩
                      · refine oh1_eN rfl (f_stB (l := kRaw) hW160 ((b0.wk kw1 hW.ok).mut (apart_bo (b0.wk kw1 hW.ok) (h0_1.wk kw1 hW.ok) rfl).symm hg2 st2) fs_Transfer_link_r_1 tyr_54 (OwnV.raw ho161) rfl rfl) ?_
                        rintro - w163 ⟨hW164, ho165, hg3, st3⟩
                        refine ⟨(Stp.back (st1.trans (st2.trans st3))), ?_⟩
                        obtain rfl := Option.some.inj hr
                        exact oh_done (by kernel_rfl) ⟨Fz155, hW164, v158, v0_2, p0, ho165, (ho161.mut (apart_bo ((b0.wk kw1 hW.ok).mut (apart_bo (b0.wk kw1 hW.ok) (h0_1.wk kw1 hW.ok) rfl).symm hg2 st2) ho161 rfl) hg3 st3), (((h0_2.wk kw1 hW.ok).mut a01_02 hg2 st2).mut (apart_bo ((b0.wk kw1 hW.ok).mut (apart_bo (b0.wk kw1 hW.ok) (h0_1.wk kw1 hW.ok) rfl).symm hg2 st2) ((h0_2.wk kw1 hW.ok).mut a01_02 hg2 st2) rfl) hg3 st3), (Apart.grown a01_02 (h0_2.wk kw1 hW.ok).ltw hor162)⟩
            · refine oh1_v rfl (e_ld ty_3 (LiesV.int ((h3).at_.fld fl_LinkEvent_1)) rfl) rfl ?_
              refine ⟨(Stp.refl _ _), ?_⟩
              refine oh_all [8] (by kernel_rfl) rfl ⟨?_, trivial⟩
              · refine oh1_v rfl (e_ld (v := v0_1) tyr_54 (LiesV.raw ((b0).at_.fld fl_Transfer_link_r_1)) rfl) rfl ?_
                refine ⟨(Stp.refl _ _), ?_⟩
                obtain ⟨x146, hx146, hr⟩ := bind_some' hr
                obtain ⟨g166, o167, c168, hv169, L170⟩ := OwnV.at_ h0_1 hx146
                refine oh_v 11 rfl (by kernel_rfl) (by kernel_rfl) (by kernel_rfl) (Stp.refl _ _) (fun wv_ SV => e_ixO sl_54 hv169 hx146 rfl rfl) rfl ?_
                refine oh_all [12] (by kernel_rfl) rfl ⟨?_, trivial⟩
                · refine oh1_v rfl (e_ld ty_3 (LiesV.int L170) rfl) rfl ?_
                  refine ⟨(Stp.refl _ _), ?_⟩
                  refine oh_all [13] (by kernel_rfl) rfl ⟨?_, trivial⟩
                  · refine oh1_e rfl (f_bslF sl_54 hW ([x146] : List Int) [.int .i64 x146] (by exact ⟨_, _, rfl, (val_int _ _), rfl⟩) rfl (Nat.le_of_ble_eq_true rfl) (lcons (congrArg (Prod.mk 0) rfl) rfl)) rfl ?_
                    rintro v171 w172 ⟨Fz174, kw1, ho173⟩
                    have hW175 := hW.trans kw1
                    have st1 := kw1.stp hW.ok
                    refine ⟨(Stp.back st1), ?_⟩
                    refine oh_all [14] (by kernel_rfl) rfl ⟨?_, trivial⟩
                    · obtain ⟨x157, hx157, hr⟩ := bind_some' hr
                      refine oh1_e rfl (f_app sl_54 hW175 (h0_1.wk kw1 hW.ok) ho173 hx157 rfl rfl) rfl ?_
                      rintro v176 w177 ⟨hW178, ho179, hg2, st2, hor180⟩
                      refine ⟨(Stp.back (st1.trans st2)), ?_⟩
                      refine oh_v 15 rfl (by kernel_rfl) (by kernel_rfl) (by kernel_rfl) (Stp.back (st1.trans st2)) (fun wv_ SV => e_nil_ rfl) rfl ?_
                      refine oh_v 16 rfl (by kernel_rfl) (by kernel_rfl) (by kernel_rfl) (Stp.back (st1.trans st2)) (fun wv_ SV => e_fa fa_56_1 rfl) rfl ?_
                      refine oh_all [17] (by kernel_rfl) rfl ⟨?_, trivial⟩
                      · refine oh1_eN rfl (f_stB (l := kRaw) hW178 ((b0.wk kw1 hW.ok).mut (apart_bo (b0.wk kw1 hW.ok) (h0_1.wk kw1 hW.ok) rfl).symm hg2 st2) fs_Transfer_link_r_1 tyr_54 (OwnV.raw ho179) rfl rfl) ?_
                        rintro - w181 ⟨hW182, ho183, hg3, st3⟩
                        refine ⟨(Stp.back (st1.trans (st2.trans st3))), ?_⟩
                        obtain rfl := Option.some.inj hr
                        exact oh_done (by kernel_rfl) ⟨Fz174, hW182, v176, v0_2, p0, ho183, (ho179.mut (apart_bo ((b0.wk kw1 hW.ok).mut (apart_bo (b0.wk kw1 hW.ok) (h0_1.wk kw1 hW.ok) rfl).symm hg2 st2) ho179 rfl) hg3 st3), (((h0_2.wk kw1 hW.ok).mut a01_02 hg2 st2).mut (apart_bo ((b0.wk kw1 hW.ok).mut (apart_bo (b0.wk kw1 hW.ok) (h0_1.wk kw1 hW.ok) rfl).symm hg2 st2) ((h0_2.wk kw1 hW.ok).mut a01_02 hg2 st2) rfl) hg3 st3), (Apart.grown a01_02 (h0_2.wk kw1 hW.ok).ltw hor180)⟩
          · refine oh1_v rfl (e_ld (v := v0_1) tyr_54 (LiesV.raw ((b0).at_.fld fl_Transfer_link_r_1)) rfl) rfl ?_
            refine ⟨(Stp.refl _ _), ?_⟩
            refine oh_all [4, 10] (by kernel_rfl) rfl ⟨?_, ?_, trivial⟩
            · refine oh1_v rfl (e_ld (v := v0_1) tyr_54 (LiesV.raw ((b0).at_.fld fl_Transfer_link_r_1)) rfl) rfl ?_
              refine ⟨(Stp.refl _ _), ?_⟩
              refine oh_all [10] (by kernel_rfl) rfl ⟨?_, trivial⟩
              · refine oh1_v rfl (e_ld ty_3 (LiesV.int ((h3).at_.fld fl_LinkEvent_1)) rfl) rfl ?_
                refine ⟨(Stp.refl _ _), ?_⟩
                obtain ⟨x146, hx146, hr⟩ := bind_some' hr
                obtain ⟨g184, o185, c186, hv187, L188⟩ := OwnV.at_ h0_1 hx146
                refine oh_v 11 rfl (by kernel_rfl) (by kernel_rfl) (by kernel_rfl) (Stp.refl _ _) (fun wv_ SV => e_ixO sl_54 hv187 hx146 rfl rfl) rfl ?_
                refine oh_all [12] (by kernel_rfl) rfl ⟨?_, trivial⟩
                · refine oh1_v rfl (e_ld ty_3 (LiesV.int L188) rfl) rfl ?_
                  refine ⟨(Stp.refl _ _), ?_⟩
                  refine oh_all [13] (by kernel_rfl) rfl ⟨?_, trivial⟩
                  · refine oh1_e rfl (f_bslF sl_54 hW ([x146] : List Int) [.int .i64 x146] (by exact ⟨_, _, rfl, (val_int _ _), rfl⟩) rfl (Nat.le_of_ble_eq_true rfl) (lcons (congrArg (Prod.mk 0) rfl) rfl)) rfl ?_
                    rintro v189 w190 ⟨Fz192, kw1, ho191⟩
                    have hW193 := hW.trans kw1
                    have st1 := kw1.stp hW.ok
                    refine ⟨(Stp.back st1), ?_⟩
                    refine oh_all [14] (by kernel_rfl) rfl ⟨?_, trivial⟩
                    · obtain ⟨x157, hx157, hr⟩ := bind_some' hr
                      refine oh1_e rfl (f_app sl_54 hW193 (h0_1.wk kw1 hW.ok) ho191 hx157 rfl rfl) rfl ?_
                      rintro v194 w195 ⟨hW196, ho197, hg2, st2, hor198⟩
                      refine ⟨(Stp.back (st1.trans st2)), ?_⟩
                      refine oh_v 15 rfl (by kernel_rfl) (by kernel_rfl) (by kernel_rfl) (Stp.back (st1.trans st2)) (fun wv_ SV => e_nil_ rfl) rfl ?_
                      refine oh_v 16 rfl (by kernel_rfl) (by kernel_rfl) (by kernel_rfl) (Stp.back (st1.trans st2)) (fun wv_ SV => e_fa fa_56_1 rfl) rfl ?_
                      refine oh_all [17] (by kernel_rfl) rfl ⟨?_, trivial⟩
                      · refine oh1_eN rfl (f_stB (l := kRaw) hW196 ((b0.wk kw1 hW.ok).mut (apart_bo (b0.wk kw1 hW.ok) (h0_1.wk kw1 hW.ok) rfl).symm hg2 st2) fs_Transfer_link_r_1 tyr_54 (OwnV.raw ho197) rfl rfl) ?_
                        rintro - w199 ⟨hW200, ho201, hg3, st3⟩
                        refine ⟨(Stp.back (st1.trans (st2.trans st3))), ?_⟩
                        obtain rfl := Option.some.inj hr
                        exact oh_done (by kernel_rfl) ⟨Fz192, hW200, v194, v0_2, p0, ho201, (ho197.mut (apart_bo ((b0.wk kw1 hW.ok).mut (apart_bo (b0.wk kw1 hW.ok) (h0_1.wk kw1 hW.ok) rfl).symm hg2 st2) ho197 rfl) hg3 st3), (((h0_2.wk kw1 hW.ok).mut a01_02 hg2 st2).mut (apart_bo ((b0.wk kw1 hW.ok).mut (apart_bo (b0.wk kw1 hW.ok) (h0_1.wk kw1 hW.ok) rfl).symm hg2 st2) ((h0_2.wk kw1 hW.ok).mut a01_02 hg2 st2) rfl) hg3 st3), (Apart.grown a01_02 (h0_2.wk kw1 hW.ok).ltw hor198)⟩
            · refine oh1_v rfl (e_ld ty_3 (LiesV.int ((h3).at_.fld fl_LinkEvent_1)) rfl) rfl ?_
              refine ⟨(Stp.refl _ _), ?_⟩
              obtain ⟨x146, hx146, hr⟩ := bind_some' hr
              obtain ⟨g202, o203, c204, hv205, L206⟩ := OwnV.at_ h0_1 hx146
              refine oh_v 11 rfl (by kernel_rfl) (by kernel_rfl) (by kernel_rfl) (Stp.refl _ _) (fun wv_ SV => e_ixO sl_54 hv205 hx146 rfl rfl) rfl ?_
              refine oh_all [4, 12] (by kernel_rfl) rfl ⟨?_, ?_, trivial⟩
              · refine oh1_v rfl (e_ld (v := v0_1) tyr_54 (LiesV.raw ((b0).at_.fld fl_Transfer_link_r_1)) rfl) rfl ?_
                refine ⟨(Stp.refl _ _), ?_⟩
                refine oh_all [12] (by kernel_rfl) rfl ⟨?_, trivial⟩
                · refine oh1_v rfl (e_ld ty_3 (LiesV.int L206) rfl) rfl ?_
                  refine ⟨(Stp.refl _ _), ?_⟩
                  refine oh_all [13] (by kernel_rfl) rfl ⟨?_, trivial⟩
                  · refine oh1_e rfl (f_bslF sl_54 hW ([x146] : List Int) [.int .i64 x146] (by exact ⟨_, _, rfl, (val_int _ _), rfl⟩) rfl (Nat.le_of_ble_eq_true rfl) (lcons (congrArg (Prod.mk 0) rfl) rfl)) rfl ?_
                    rintro v207 w208 ⟨Fz210, kw1, ho209⟩
                    have hW211 := hW.trans kw1
                    have st1 := kw1.stp hW.ok
                    refine ⟨(Stp.back st1), ?_⟩
                    refine oh_all [14] (by kernel_rfl) rfl ⟨?_, trivial⟩
                    · obtain ⟨x157, hx157, hr⟩ := bind_some' hr
                      refine oh1_e rfl (f_app sl_54 hW211 (h0_1.wk kw1 hW.ok) ho209 hx157 rfl rfl) rfl ?_
                      rintro v212 w213 ⟨hW214, ho215, hg2, st2, hor216⟩
                      refine ⟨(Stp.back (st1.trans st2)), ?_⟩
                      refine oh_v 15 rfl (by kernel_rfl) (by kernel_rfl) (by kernel_rfl) (Stp.back (st1.trans st2)) (fun wv_ SV => e_nil_ rfl) rfl ?_
                      refine oh_v 16 rfl (by kernel_rfl) (by kernel_rfl) (by kernel_rfl) (Stp.back (st1.trans st2)) (fun wv_ SV => e_fa fa_56_1 rfl) rfl ?_
                      refine oh_all [17] (by kernel_rfl) rfl ⟨?_, trivial⟩
                      · refine oh1_eN rfl (f_stB (l := kRaw) hW214 ((b0.wk kw1 hW.ok).mut (apart_bo (b0.wk kw1 hW.ok) (h0_1.wk kw1 hW.ok) rfl).symm hg2 st2) fs_Transfer_link_r_1 tyr_54 (OwnV.raw ho215) rfl rfl) ?_
                        rintro - w217 ⟨hW218, ho219, hg3, st3⟩
                        refine ⟨(Stp.back (st1.trans (st2.trans st3))), ?_⟩
                        obtain rfl := Option.some.inj hr
                        exact oh_done (by kernel_rfl) ⟨Fz210, hW218, v212, v0_2, p0, ho219, (ho215.mut (apart_bo ((b0.wk kw1 hW.ok).mut (apart_bo (b0.wk kw1 hW.ok) (h0_1.wk kw1 hW.ok) rfl).symm hg2 st2) ho215 rfl) hg3 st3), (((h0_2.wk kw1 hW.ok).mut a01_02 hg2 st2).mut (apart_bo ((b0.wk kw1 hW.ok).mut (apart_bo (b0.wk kw1 hW.ok) (h0_1.wk kw1 hW.ok) rfl).symm hg2 st2) ((h0_2.wk kw1 hW.ok).mut a01_02 hg2 st2) rfl) hg3 st3), (Apart.grown a01_02 (h0_2.wk kw1 hW.ok).ltw hor216)⟩
              · refine oh1_v rfl (e_ld ty_3 (LiesV.int L206) rfl) rfl ?_
                refine ⟨(Stp.refl _ _), ?_⟩
                refine oh_all [4, 13] (by kernel_rfl) rfl ⟨?_, ?_, trivial⟩
                · refine oh1_v rfl (e_ld (v := v0_1) tyr_54 (LiesV.raw ((b0).at_.fld fl_Transfer_link_r_1)) rfl) rfl ?_
                  refine ⟨(Stp.refl _ _), ?_⟩
                  refine oh_all [13] (by kernel_rfl) rfl ⟨?_, trivial⟩
                  · refine oh1_e rfl (f_bslF sl_54 hW ([x146] : List Int) [.int .i64 x146] (by exact ⟨_, _, rfl, (val_int _ _), rfl⟩) rfl (Nat.le_of_ble_eq_true rfl) (lcons (congrArg (Prod.mk 0) rfl) rfl)) rfl ?_
                    rintro v220 w221 ⟨Fz223, kw1, ho222⟩
                    have hW224 := hW.trans kw1
                    have st1 := kw1.stp hW.ok
                    refine ⟨(Stp.back st1), ?_⟩
                    refine oh_all [14] (by kernel_rfl) rfl ⟨?_, trivial⟩
                    · obtain ⟨x157, hx157, hr⟩ := bind_some' hr
                      refine oh1_e rfl (f_app sl_54 hW224 (h0_1.wk kw1 hW.ok) ho222 hx157 rfl rfl) rfl ?_
                      rintro v225 w226 ⟨hW227, ho228, hg2, st2, hor229⟩
                      refine ⟨(Stp.back (st1.trans st2)), ?_⟩
                      refine oh_v 15 rfl (by kernel_rfl) (by kernel_rfl) (by kernel_rfl) (Stp.back (st1.trans st2)) (fun wv_ SV => e_nil_ rfl) rfl ?_
                      refine oh_v 16 rfl (by kernel_rfl) (by kernel_rfl) (by kernel_rfl) (Stp.back (st1.trans st2)) (fun wv_ SV => e_fa fa_56_1 rfl) rfl ?_
                      refine oh_all [17] (by kernel_rfl) rfl ⟨?_, trivial⟩
                      · refine oh1_eN rfl (f_stB (l := kRaw) hW227 ((b0.wk kw1 hW.ok).mut (apart_bo (b0.wk kw1 hW.ok) (h0_1.wk kw1 hW.ok) rfl).symm hg2 st2) fs_Transfer_link_r_1 tyr_54 (OwnV.raw ho228) rfl rfl) ?_
                        rintro - w230 ⟨hW231, ho232, hg3, st3⟩
                        refine ⟨(Stp.back (st1.trans (st2.trans st3))), ?_⟩
                        obtain rfl := Option.some.inj hr
                        exact oh_done (by kernel_rfl) ⟨Fz223, hW231, v225, v0_2, p0, ho232, (ho228.mut (apart_bo ((b0.wk kw1 hW.ok).mut (apart_bo (b0.wk kw1 hW.ok) (h0_1.wk kw1 hW.ok) rfl).symm hg2 st2) ho228 rfl) hg3 st3), (((h0_2.wk kw1 hW.ok).mut a01_02 hg2 st2).mut (apart_bo ((b0.wk kw1 hW.ok).mut (apart_bo (b0.wk kw1 hW.ok) (h0_1.wk kw1 hW.ok) rfl).symm hg2 st2) ((h0_2.wk kw1 hW.ok).mut a01_02 hg2 st2) rfl) hg3 st3), (Apart.grown a01_02 (h0_2.wk kw1 hW.ok).ltw hor229)⟩
                · refine oh1_e rfl (f_bslF sl_54 hW ([x146] : List Int) [.int .i64 x146] (by exact ⟨_, _, rfl, (val_int _ _), rfl⟩) rfl (Nat.le_of_ble_eq_true rfl) (lcons (congrArg (Prod.mk 0) rfl) rfl)) rfl ?_
                  rintro v233 w234 ⟨Fz236, kw1, ho235⟩
                  have hW237 := hW.trans kw1
                  have st1 := kw1.stp hW.ok
                  refine ⟨(Stp.back st1), ?_⟩
                  refine oh_all [4] (by kernel_rfl) rfl ⟨?_, trivial⟩
                  · refine oh1_v rfl (e_ld (v := v0_1) tyr_54 (LiesV.raw (((b0.wk kw1 hW.ok)).at_.fld fl_Transfer_link_r_1)) rfl) rfl ?_
                    refine ⟨(Stp.back st1), ?_⟩
                    refine oh_all [14] (by kernel_rfl) rfl ⟨?_, trivial⟩
                    · obtain ⟨x157, hx157, hr⟩ := bind_some' hr
                      refine oh1_e rfl (f_app sl_54 hW237 (h0_1.wk kw1 hW.ok) ho235 hx157 rfl rfl) rfl ?_
                      rintro v238 w239 ⟨hW240, ho241, hg2, st2, hor242⟩
                      refine ⟨(Stp.back (st1.trans st2)), ?_⟩
                      refine oh_v 15 rfl (by kernel_rfl) (by kernel_rfl) (by kernel_rfl) (Stp.back (st1.trans st2)) (fun wv_ SV => e_nil_ rfl) rfl ?_
                      refine oh_v 16 rfl (by kernel_rfl) (by kernel_rfl) (by kernel_rfl) (Stp.back (st1.trans st2)) (fun wv_ SV => e_fa fa_56_1 rfl) rfl ?_
                      refine oh_all [17] (by kernel_rfl) rfl ⟨?_, trivial⟩
                      · refine oh1_eN rfl (f_stB (l := kRaw) hW240 ((b0.wk kw1 hW.ok).mut (apart_bo (b0.wk kw1 hW.ok) (h0_1.wk kw1 hW.ok) rfl).symm hg2 st2) fs_Transfer_link_r_1 tyr_54 (OwnV.raw ho241) rfl rfl) ?_
                        rintro - w243 ⟨hW244, ho245, hg3, st3⟩
                        refine ⟨(Stp.back (st1.trans (st2.trans st3))), ?_⟩
                        obtain rfl := Option.some.inj hr
                        exact oh_done (by kernel_rfl) ⟨Fz236, hW244, v238, v0_2, p0, ho245, (ho241.mut (apart_bo ((b0.wk kw1 hW.ok).mut (apart_bo (b0.wk kw1 hW.ok) (h0_1.wk kw1 hW.ok) rfl).symm hg2 st2) ho241 rfl) hg3 st3), (((h0_2.wk kw1 hW.ok).mut a01_02 hg2 st2).mut (apart_bo ((b0.wk kw1 hW.ok).mut (apart_bo (b0.wk kw1 hW.ok) (h0_1.wk kw1 hW.ok) rfl).symm hg2 st2) ((h0_2.wk kw1 hW.ok).mut a01_02 hg2 st2) rfl) hg3 st3), (Apart.grown a01_02 (h0_2.wk kw1 hW.ok).ltw hor242)⟩
          · refine oh1_v rfl (e_ld ty_3 (LiesV.int ((h3).at_.fld fl_LinkEvent_1)) rfl) rfl ?_
            refine ⟨(Stp.refl _ _), ?_⟩
            refine oh_all [4, 8] (by kernel_rfl) rfl ⟨?_, ?_, trivial⟩
            · refine oh1_v rfl (e_ld (v := v0_1) tyr_54 (LiesV.raw ((b0).at_.fld fl_Transfer_link_r_1)) rfl) rfl ?_
              refine ⟨(Stp.refl _ _), ?_⟩
              refine oh_all [8] (by kernel_rfl) rfl ⟨?_, trivial⟩
              · refine oh1_v rfl (e_ld (v := v0_1) tyr_54 (LiesV.raw ((b0).at_.fld fl_Transfer_link_r_1)) rfl) rfl ?_
                refine ⟨(Stp.refl _ _), ?_⟩
                obtain ⟨x146, hx146, hr⟩ := bind_some' hr
                obtain ⟨g246, o247, c248, hv249, L250⟩ := OwnV.at_ h0_1 hx146
                refine oh_v 11 rfl (by kernel_rfl) (by kernel_rfl) (by kernel_rfl) (Stp.refl _ _) (fun wv_ SV => e_ixO sl_54 hv249 hx146 rfl rfl) rfl ?_
                refine oh_all [12] (by kernel_rfl) rfl ⟨?_, trivial⟩
                · refine oh1_v rfl (e_ld ty_3 (LiesV.int L250) rfl) rfl ?_
                  refine ⟨(Stp.refl _ _), ?_⟩
                  refine oh_all [13] (by kernel_rfl) rfl ⟨?_, trivial⟩
                  · refine oh1_e rfl (f_bslF sl_54 hW ([x146] : List Int) [.int .i64 x146] (by exact ⟨_, _, rfl, (val_int _ _), rfl⟩) rfl (Nat.le_of_ble_eq_true rfl) (lcons (congrArg (Prod.mk 0) rfl) rfl)) rfl ?_
                    rintro v251 w252 ⟨Fz254, kw1, ho253⟩
                    have hW255 := hW.trans kw1
                    have st1 := kw1.stp hW.ok
                    refine ⟨(Stp.back st1), ?_⟩
                    refine oh_all [14] (by kernel_rfl) rfl ⟨?_, trivial⟩
                    · obtain ⟨x157, hx157, hr⟩ := bind_some' hr
                      refine oh1_e rfl (f_app sl_54 hW255 (h0_1.wk kw1 hW.ok) ho253 hx157 rfl rfl) rfl ?_
                      rintro v256 w257 ⟨hW258, ho259, hg2, st2, hor260⟩
                      refine ⟨(Stp.back (st1.trans st2)), ?_⟩
                      refine oh_v 15 rfl (by kernel_rfl) (by kernel_rfl) (by kernel_rfl) (Stp.back (st1.trans st2)) (fun wv_ SV => e_nil_ rfl) rfl ?_
                      refine oh_v 16 rfl (by kernel_rfl) (by kernel_rfl) (by kernel_rfl) (Stp.back (st1.trans st2)) (fun wv_ SV => e_fa fa_56_1 rfl) rfl ?_
                      refine oh_all [17] (by kernel_rfl) rfl ⟨?_, trivial⟩
                      · refine oh1_eN rfl (f_stB (l := kRaw) hW258 ((b0.wk kw1 hW.ok).mut (apart_bo (b0.wk kw1 hW.ok) (h0_1.wk kw1 hW.ok) rfl).symm hg2 st2) fs_Transfer_link_r_1 tyr_54 (OwnV.raw ho259) rfl rfl) ?_
                        rintro - w261 ⟨hW262, ho263, hg3, st3⟩
                        refine ⟨(Stp.back (st1.trans (st2.trans st3))), ?_⟩
                        obtain rfl := Option.some.inj hr
                        exact oh_done (by kernel_rfl) ⟨Fz254, hW262, v256, v0_2, p0, ho263, (ho259.mut (apart_bo ((b0.wk kw1 hW.ok).mut (apart_bo (b0.wk kw1 hW.ok) (h0_1.wk kw1 hW.ok) rfl).symm hg2 st2) ho259 rfl) hg3 st3), (((h0_2.wk kw1 hW.ok).mut a01_02 hg2 st2).mut (apart_bo ((b0.wk kw1 hW.ok).mut (apart_bo (b0.wk kw1 hW.ok) (h0_1.wk kw1 hW.ok) rfl).symm hg2 st2) ((h0_2.wk kw1 hW.ok).mut a01_02 hg2 st2) rfl) hg3 st3), (Apart.grown a01_02 (h0_2.wk kw1 hW.ok).ltw hor260)⟩
            · refine oh1_v rfl (e_ld (v := v0_1) tyr_54 (LiesV.raw ((b0).at_.fld fl_Transfer_link_r_1)) rfl) rfl ?_
              refine ⟨(Stp.refl _ _), ?_⟩
              obtain ⟨x146, hx146, hr⟩ := bind_some' hr
              obtain ⟨g264, o265, c266, hv267, L268⟩ := OwnV.at_ h0_1 hx146
              refine oh_v 11 rfl (by kernel_rfl) (by kernel_rfl) (by kernel_rfl) (Stp.refl _ _) (fun wv_ SV => e_ixO sl_54 hv267 hx146 rfl rfl) rfl ?_
              refine oh_all [4, 12] (by kernel_rfl) rfl ⟨?_, ?_, trivial⟩
              · refine oh1_v rfl (e_ld (v := v0_1) tyr_54 (LiesV.raw ((b0).at_.fld fl_Transfer_link_r_1)) rfl) rfl ?_
                refine ⟨(Stp.refl _ _), ?_⟩
                refine oh_all [12] (by kernel_rfl) rfl ⟨?_, trivial⟩
                · refine oh1_v rfl (e_ld ty_3 (LiesV.int L268) rfl) rfl ?_
                  refine ⟨(Stp.refl _ _), ?_⟩
                  refine oh_all [13] (by kernel_rfl) rfl ⟨?_, trivial⟩
                  · refine oh1_e rfl (f_bslF sl_54 hW ([x146] : List Int) [.int .i64 x146] (by exact ⟨_, _, rfl, (val_int _ _), rfl⟩) rfl (Nat.le_of_ble_eq_true rfl) (lcons (congrArg (Prod.mk 0) rfl) rfl)) rfl ?_
                    rintro v269 w270 ⟨Fz272, kw1, ho271⟩
                    have hW273 := hW.trans kw1
                    have st1 := kw1.stp hW.ok
                    refine ⟨(Stp.back st1), ?_⟩
                    refine oh_all [14] (by kernel_rfl) rfl ⟨?_, trivial⟩
                    · obtain ⟨x157, hx157, hr⟩ := bind_some' hr
                      refine oh1_e rfl (f_app sl_54 hW273 (h0_1.wk kw1 hW.ok) ho271 hx157 rfl rfl) rfl ?_
                      rintro v274 w275 ⟨hW276, ho277, hg2, st2, hor278⟩
                      refine ⟨(Stp.back (st1.trans st2)), ?_⟩
                      refine oh_v 15 rfl (by kernel_rfl) (by kernel_rfl) (by kernel_rfl) (Stp.back (st1.trans st2)) (fun wv_ SV => e_nil_ rfl) rfl ?_
                      refine oh_v 16 rfl (by kernel_rfl) (by kernel_rfl) (by kernel_rfl) (Stp.back (st1.trans st2)) (fun wv_ SV => e_fa fa_56_1 rfl) rfl ?_
                      refine oh_all [17] (by kernel_rfl) rfl ⟨?_, trivial⟩
                      · refine oh1_eN rfl (f_stB (l := kRaw) hW276 ((b0.wk kw1 hW.ok).mut (apart_bo (b0.wk kw1 hW.ok) (h0_1.wk kw1 hW.ok) rfl).symm hg2 st2) fs_Transfer_link_r_1 tyr_54 (OwnV.raw ho277) rfl rfl) ?_
                        rintro - w279 ⟨hW280, ho281, hg3, st3⟩
                        refine ⟨(Stp.back (st1.trans (st2.trans st3))), ?_⟩
                        obtain rfl := Option.some.inj hr
                        exact oh_done (by kernel_rfl) ⟨Fz272, hW280, v274, v0_2, p0, ho281, (ho277.mut (apart_bo ((b0.wk kw1 hW.ok).mut (apart_bo (b0.wk kw1 hW.ok) (h0_1.wk kw1 hW.ok) rfl).symm hg2 st2) ho277 rfl) hg3 st3), (((h0_2.wk kw1 hW.ok).mut a01_02 hg2 st2).mut (apart_bo ((b0.wk kw1 hW.ok).mut (apart_bo (b0.wk kw1 hW.ok) (h0_1.wk kw1 hW.ok) rfl).symm hg2 st2) ((h0_2.wk kw1 hW.ok).mut a01_02 hg2 st2) rfl) hg3 st3), (Apart.grown a01_02 (h0_2.wk kw1 hW.ok).ltw hor278)⟩
              · refine oh1_v rfl (e_ld ty_3 (LiesV.int L268) rfl) rfl ?_
                refine ⟨(Stp.refl _ _), ?_⟩
                refine oh_all [4, 13] (by kernel_rfl) rfl ⟨?_, ?_, trivial⟩
                · refine oh1_v rfl (e_ld (v := v0_1) tyr_54 (LiesV.raw ((b0).at_.fld fl_Transfer_link_r_1)) rfl) rfl ?_
                  refine ⟨(Stp.refl _ _), ?_⟩
                  refine oh_all [13] (by kernel_rfl) rfl ⟨?_, trivial⟩
                  · refine oh1_e rfl (f_bslF sl_54 hW ([x146] : List Int) [.int .i64 x146] (by exact ⟨_, _, rfl, (val_int _ _), rfl⟩) rfl (Nat.le_of_ble_eq_true rfl) (lcons (congrArg (Prod.mk 0) rfl) rfl)) rfl ?_
                    rintro v282 w283 ⟨Fz285, kw1, ho284⟩
                    have hW286 := hW.trans kw1
                    have st1 := kw1.stp hW.ok
                    refine ⟨(Stp.back st1), ?_⟩
                    refine oh_all [14] (by kernel_rfl) rfl ⟨?_, trivial⟩
                    · obtain ⟨x157, hx157, hr⟩ := bind_some' hr
                      refine oh1_e rfl (f_app sl_54 hW286 (h0_1.wk kw1 hW.ok) ho284 hx157 rfl rfl) rfl ?_
                      rintro v287 w288 ⟨hW289, ho290, hg2, st2, hor291⟩
                      refine ⟨(Stp.back (st1.trans st2)), ?_⟩
                      refine oh_v 15 rfl (by kernel_rfl) (by kernel_rfl) (by kernel_rfl) (Stp.back (st1.trans st2)) (fun wv_ SV => e_nil_ rfl) rfl ?_
                      refine oh_v 16 rfl (by kernel_rfl) (by kernel_rfl) (by kernel_rfl) (Stp.back (st1.trans st2)) (fun wv_ SV => e_fa fa_56_1 rfl) rfl ?_
                      refine oh_all [17] (by kernel_rfl) rfl ⟨?_, trivial⟩
                      · refine oh1_eN rfl (f_stB (l := kRaw) hW289 ((b0.wk kw1 hW.ok).mut (apart_bo (b0.wk kw1 hW.ok) (h0_1.wk kw1 hW.ok) rfl).symm hg2 st2) fs_Transfer_link_r_1 tyr_54 (OwnV.raw ho290) rfl rfl) ?_
                        rintro - w292 ⟨hW293, ho294, hg3, st3⟩
                        refine ⟨(Stp.back (st1.trans (st2.trans st3))), ?_⟩
                        obtain rfl := Option.some.inj hr
                        exact oh_done (by kernel_rfl) ⟨Fz285, hW293, v287, v0_2, p0, ho294, (ho290.mut (apart_bo ((b0.wk kw1 hW.ok).mut (apart_bo (b0.wk kw1 hW.ok) (h0_1.wk kw1 hW.ok) rfl).symm hg2 st2) ho290 rfl) hg3 st3), (((h0_2.wk kw1 hW.ok).mut a01_02 hg2 st2).mut (apart_bo ((b0.wk kw1 hW.ok).mut (apart_bo (b0.wk kw1 hW.ok) (h0_1.wk kw1 hW.ok) rfl).symm hg2 st2) ((h0_2.wk kw1 hW.ok).mut a01_02 hg2 st2) rfl) hg3 st3), (Apart.grown a01_02 (h0_2.wk kw1 hW.ok).ltw hor291)⟩
                · refine oh1_e rfl (f_bslF sl_54 hW ([x146] : List Int) [.int .i64 x146] (by exact ⟨_, _, rfl, (val_int _ _), rfl⟩) rfl (Nat.le_of_ble_eq_true rfl) (lcons (congrArg (Prod.mk 0) rfl) rfl)) rfl ?_
                  rintro v295 w296 ⟨Fz298, kw1, ho297⟩
                  have hW299 := hW.trans kw1
                  have st1 := kw1.stp hW.ok
                  refine ⟨(Stp.back st1), ?_⟩
                  refine oh_all [4] (by kernel_rfl) rfl ⟨?_, trivial⟩
                  · refine oh1_v rfl (e_ld (v := v0_1) tyr_54 (LiesV.raw (((b0.wk kw1 hW.ok)).at_.fld fl_Transfer_link_r_1)) rfl) rfl ?_
                    refine ⟨(Stp.back st1), ?_⟩
                    refine oh_all [14] (by kernel_rfl) rfl ⟨?_, trivial⟩
                    · obtain ⟨x157, hx157, hr⟩ := bind_some' hr
                      refine oh1_e rfl (f_app sl_54 hW299 (h0_1.wk kw1 hW.ok) ho297 hx157 rfl rfl) rfl ?_
                      rintro v300 w301 ⟨hW302, ho303, hg2, st2, hor304⟩
                      refine ⟨(Stp.back (st1.trans st2)), ?_⟩
                      refine oh_v 15 rfl (by kernel_rfl) (by kernel_rfl) (by kernel_rfl) (Stp.back (st1.trans st2)) (fun wv_ SV => e_nil_ rfl) rfl ?_
                      refine oh_v 16 rfl (by kernel_rfl) (by kernel_rfl) (by kernel_rfl) (Stp.back (st1.trans st2)) (fun wv_ SV => e_fa fa_56_1 rfl) rfl ?_
                      refine oh_all [17] (by kernel_rfl) rfl ⟨?_, trivial⟩
                      · refine oh1_eN rfl (f_stB (l := kRaw) hW302 ((b0.wk kw1 hW.ok).mut (apart_bo (b0.wk kw1 hW.ok) (h0_1.wk kw1 hW.ok) rfl).symm hg2 st2) fs_Transfer_link_r_1 tyr_54 (OwnV.raw ho303) rfl rfl) ?_
                        rintro - w305 ⟨hW306, ho307, hg3, st3⟩
                        refine ⟨(Stp.back (st1.trans (st2.trans st3))), ?_⟩
                        obtain rfl := Option.some.inj hr
                        exact oh_done (by kernel_rfl) ⟨Fz298, hW306, v300, v0_2, p0, ho307, (ho303.mut (apart_bo ((b0.wk kw1 hW.ok).mut (apart_bo (b0.wk kw1 hW.ok) (h0_1.wk kw1 hW.ok) rfl).symm hg2 st2) ho303 rfl) hg3 st3), (((h0_2.wk kw1 hW.ok).mut a01_02 hg2 st2).mut (apart_bo ((b0.wk kw1 hW.ok).mut (apart_bo (b0.wk kw1 hW.ok) (h0_1.wk kw1 hW.ok) rfl).symm hg2 st2) ((h0_2.wk kw1 hW.ok).mut a01_02 hg2 st2) rfl) hg3 st3), (Apart.grown a01_02 (h0_2.wk kw1 hW.ok).ltw hor304)⟩
        · refine Ref.seq (B := G15 g0 c0_1 c0_2 w0 F0) ?_ ?_
          · refine Ref.region (fun s ρ w s' h hr => ?_)
            obtain ⟨F, hW, v0_1, v0_2, g3, p0, b0, h0_1, h0_2, p3, h3, p5, h73, a01_02⟩ := h
            refine ol_v (e_eql h73 rfl) rfl ?_
            refine ol_v (e_as _ rfl) rfl ?_
            obtain rfl := Option.some.inj hr
            exact ol_nil ⟨F, hW, v0_1, v0_2, g3, p0, b0, h0_1, h0_2, p3, h3, p5, rfl, a01_02⟩
          refine Ref.cond (b := fun s => s.t_143) (fun s ρ w ⟨F, hW, v0_1, v0_2, g3, p0, b0, h0_1, h0_2, p3, h3, p5, h143, a01_02⟩ => h143) (Ref.pre (A := G2 g0 c0_1 c0_2 w0 F0) ?_ (fun s ρ w h => (fun ⟨F, hW, v0_1, v0_2, g3, p0, b0, h0_1, h0_2, p3, h3, p5, h143, a01_02⟩ => ⟨F, hW, v0_1, v0_2, g3, p0, b0, h0_1, h0_2, p3, h3, p5, a01_02⟩ : G15 g0 c0_1 c0_2 w0 F0 s ρ w → G2 g0 c0_1 c0_2 w0 F0 s ρ w) h.2)) (Ref.pre (A := G2 g0 c0_1 c0_2 w0 F0) ?_ (fun s ρ w h => (fun ⟨F, hW, v0_1, v0_2, g3, p0, b0, h0_1, h0_2, p3, h3, p5, h143, a01_02⟩ => ⟨F, hW, v0_1, v0_2, g3, p0, b0, h0_1, h0_2, p3, h3, p5, a01_02⟩ : G15 g0 c0_1 c0_2 w0 F0 s ρ w → G2 g0 c0_1 c0_2 w0 F0 s ρ w) h.2))
          · refine Ref.regionH (by kernel_rfl) (fun s ρ w ⟨F, hW, v0_1, v0_2, g3, p0, b0, h0_1, h0_2, p3, h3, p5, a01_02⟩ => ⟨F, hW.drewS, v0_1, v0_2, g3, p0, b0.wk (Wk.drew (row := nrow) hW.ok) hW.ok, h0_1.wk (Wk.drew (row := nrow) hW.ok) hW.ok, h0_2.wk (Wk.drew (row := nrow) hW.ok) hW.ok, p3, h3.wk (Wk.drew (row := nrow) hW.ok) hW.ok, p5, a01_02⟩) (fun s ρ w s' h hr => ?_)
            obtain ⟨F, hW, v0_1, v0_2, g3, p0, b0, h0_1, h0_2, p3, h3, p5, a01_02⟩ := h
            refine ⟨fun w' => Stp F w F w', ?_⟩
            refine oh_v 0 rfl (by kernel_rfl) (by kernel_rfl) (by kernel_rfl) (Stp.refl _ _) (fun wv_ SV => e_mv _ p0) rfl ?_
            refine oh_v 1 rfl (by kernel_rfl) (by kernel_rfl) (by kernel_rfl) (Stp.refl _ _) (fun wv_ SV => e_mv _ p0) rfl ?_
            refine oh_v 2 rfl (by kernel_rfl) (by kernel_rfl) (by kernel_rfl) (Stp.refl _ _) (fun wv_ SV => e_nil_ rfl) rfl ?_
            refine oh_v 3 rfl (by kernel_rfl) (by kernel_rfl) (by kernel_rfl) (Stp.refl _ _) (fun wv_ SV => e_fa fa_56_4 rfl) rfl ?_
            refine oh_v 5 rfl (by kernel_rfl) (by kernel_rfl) (by kernel_rfl) (Stp.refl _ _) (fun wv_ SV => e_mv _ p5) rfl ?_
            refine oh_v 6 rfl (by kernel_rfl) (by kernel_rfl) (by kernel_rfl) (Stp.refl _ _) (fun wv_ SV => e_fa fa_48_1 p3) rfl ?_
            refine oh_all [4, 7] (by kernel_rfl) rfl ⟨?_, ?_, trivial⟩
            · refine oh1_v rfl (e_ld ty_3 (LiesV.int ((b0).at_.fld fl_Transfer_link_r_4)) rfl) rfl ?_
              refine ⟨(Stp.refl _ _), ?_⟩
              refine oh_all [7] (by kernel_rfl) rfl ⟨?_, trivial⟩
              · refine oh1_v rfl (e_ld ty_3 (LiesV.int ((h3).at_.fld fl_LinkEvent_1)) rfl) rfl ?_
                refine ⟨(Stp.refl _ _), ?_⟩
                refine oh_all [8] (by kernel_rfl) rfl ⟨?_, trivial⟩
                · obtain ⟨x308, hx308, hr⟩ := bind_some' hr
                  refine oh1_e rfl (f_call [.pointer (some ⟨g0, 0 + 1, none⟩), .int .i64 s.t_3.N] fn_25 (lcons rfl (lcons rfl rfl)) (take.calls hW.ok (Box.cellAt (b0) fl_Transfer_link_r_1) (OwnV.rebase h0_1 (fun _ _ => trivial)) (apart_bo b0 h0_1 rfl) s.t_3.N hx308)) rfl ?_
                  rintro _ w311 ⟨v309, w310, rfl, kw1, ho312, hst313⟩
                  have hB315 := fun g hg => (OwnV.lt h0_1 (g := g) hg).1
                  have st1 := kw1.stpR hW.ok (fun g hg => (OwnV.lt h0_1 hg).2.1)
                  have hW314 := hW.transR kw1 hB315
                  obtain ⟨hW316, ho317, hg2, st2⟩ := Box.stored (l := kRaw) hW314 (b0.wkR (apart_bo b0 h0_1 rfl).symm kw1 st1) fs_Transfer_link_r_1 tyr_54 (OwnV.raw (ho312.rebase (fun g_ hg_ => (ho312.lt hg_).1.elim (fun h_ => .inl (Nat.le_trans hW.le h_)) (fun h_ => hB315 g_ h_)))) hst313
                  refine ⟨(Stp.back (st1.trans st2)), ?_⟩
                  refine oh_v 9 rfl (by kernel_rfl) (by kernel_rfl) (by kernel_rfl) (Stp.back (st1.trans st2)) (fun wv_ SV => e_max rfl rfl) rfl ?_
                  refine oh_v 10 rfl (by kernel_rfl) (by kernel_rfl) (by kernel_rfl) (Stp.back (st1.trans st2)) (fun wv_ SV => e_nil_ rfl) rfl ?_
                  refine oh_v 11 rfl (by kernel_rfl) (by kernel_rfl) (by kernel_rfl) (Stp.back (st1.trans st2)) (fun wv_ SV => e_fa fa_56_4 rfl) rfl ?_
                  refine oh_all [12] (by kernel_rfl) rfl ⟨?_, trivial⟩
                  · refine oh1_eN rfl (f_stB hW316 ho317 fs_Transfer_link_r_4 ty_3 (val_int _ _) rfl rfl) ?_
                    rintro - w318 ⟨hW319, ho320, hg3, st3⟩
                    refine ⟨(Stp.back (st1.trans (st2.trans st3))), ?_⟩
                    obtain rfl := Option.some.inj hr
                    exact oh_done (by kernel_rfl) ⟨F, hW319, v309, v0_2, p0, ho320, (((ho312.rebase (fun g_ hg_ => (ho312.lt hg_).1.elim (fun h_ => .inl (Nat.le_trans hW.le h_)) (fun h_ => hB315 g_ h_))).mut (apart_bo (b0.wkR (apart_bo b0 h0_1 rfl).symm kw1 st1) (ho312.rebase (fun g_ hg_ => (ho312.lt hg_).1.elim (fun h_ => .inl (Nat.le_trans hW.le h_)) (fun h_ => hB315 g_ h_))) rfl) hg2 st2).mut (apart_bo ho317 ((ho312.rebase (fun g_ hg_ => (ho312.lt hg_).1.elim (fun h_ => .inl (Nat.le_trans hW.le h_)) (fun h_ => hB315 g_ h_))).mut (apart_bo (b0.wkR (apart_bo b0 h0_1 rfl).symm kw1 st1) (ho312.rebase (fun g_ hg_ => (ho312.lt hg_).1.elim (fun h_ => .inl (Nat.le_trans hW.le h_)) (fun h_ => hB315 g_ h_))) rfl) hg2 st2) rfl) hg3 st3), (((h0_2.wkR a01_02 kw1 st1).mut (apart_bo (b0.wkR (apart_bo b0 h0_1 rfl).symm kw1 st1) (h0_2.wkR a01_02 kw1 st1) rfl) hg2 st2).mut (apart_bo ho317 ((h0_2.wkR a01_02 kw1 st1).mut (apart_bo (b0.wkR (apart_bo b0 h0_1 rfl).symm kw1 st1) (h0_2.wkR a01_02 kw1 st1) rfl) hg2 st2) rfl) hg3 st3), (Apart.took (fun g_ hg_ => (ho312.lt hg_).1) a01_02 h0_2.ltw)⟩
            · refine oh1_v rfl (e_ld ty_3 (LiesV.int ((h3).at_.fld fl_LinkEvent_1)) rfl) rfl ?_
              refine ⟨(Stp.refl _ _), ?_⟩
              refine oh_all [4, 8] (by kernel_rfl) rfl ⟨?_, ?_, trivial⟩
              · refine oh1_v rfl (e_ld ty_3 (LiesV.int ((b0).at_.fld fl_Transfer_link_r_4)) rfl) rfl ?_
                refine ⟨(Stp.refl _ _), ?_⟩
                refine oh_all [8] (by kernel_rfl) rfl ⟨?_, trivial⟩
                · obtain ⟨x308, hx308, hr⟩ := bind_some' hr
                  refine oh1_e rfl (f_call [.pointer (some ⟨g0, 0 + 1, none⟩), .int .i64 s.t_3.N] fn_25 (lcons rfl (lcons rfl rfl)) (take.calls hW.ok (Box.cellAt (b0) fl_Transfer_link_r_1) (OwnV.rebase h0_1 (fun _ _ => trivial)) (apart_bo b0 h0_1 rfl) s.t_3.N hx308)) rfl ?_
                  rintro _ w323 ⟨v321, w322, rfl, kw1, ho324, hst325⟩
                  have hB327 := fun g hg => (OwnV.lt h0_1 (g := g) hg).1
                  have st1 := kw1.stpR hW.ok (fun g hg => (OwnV.lt h0_1 hg).2.1)
                  have hW326 := hW.transR kw1 hB327
                  obtain ⟨hW328, ho329, hg2, st2⟩ := Box.stored (l := kRaw) hW326 (b0.wkR (apart_bo b0 h0_1 rfl).symm kw1 st1) fs_Transfer_link_r_1 tyr_54 (OwnV.raw (ho324.rebase (fun g_ hg_ => (ho324.lt hg_).1.elim (fun h_ => .inl (Nat.le_trans hW.le h_)) (fun h_ => hB327 g_ h_)))) hst325
                  refine ⟨(Stp.back (st1.trans st2)), ?_⟩
                  refine oh_v 9 rfl (by kernel_rfl) (by kernel_rfl) (by kernel_rfl) (Stp.back (st1.trans st2)) (fun wv_ SV => e_max rfl rfl) rfl ?_
                  refine oh_v 10 rfl (by kernel_rfl) (by kernel_rfl) (by kernel_rfl) (Stp.back (st1.trans st2)) (fun wv_ SV => e_nil_ rfl) rfl ?_
                  refine oh_v 11 rfl (by kernel_rfl) (by kernel_rfl) (by kernel_rfl) (Stp.back (st1.trans st2)) (fun wv_ SV => e_fa fa_56_4 rfl) rfl ?_
                  refine oh_all [12] (by kernel_rfl) rfl ⟨?_, trivial⟩
                  · refine oh1_eN rfl (f_stB hW328 ho329 fs_Transfer_link_r_4 ty_3 (val_int _ _) rfl rfl) ?_
                    rintro - w330 ⟨hW331, ho332, hg3, st3⟩
                    refine ⟨(Stp.back (st1.trans (st2.trans st3))), ?_⟩
                    obtain rfl := Option.some.inj hr
                    exact oh_done (by kernel_rfl) ⟨F, hW331, v321, v0_2, p0, ho332, (((ho324.rebase (fun g_ hg_ => (ho324.lt hg_).1.elim (fun h_ => .inl (Nat.le_trans hW.le h_)) (fun h_ => hB327 g_ h_))).mut (apart_bo (b0.wkR (apart_bo b0 h0_1 rfl).symm kw1 st1) (ho324.rebase (fun g_ hg_ => (ho324.lt hg_).1.elim (fun h_ => .inl (Nat.le_trans hW.le h_)) (fun h_ => hB327 g_ h_))) rfl) hg2 st2).mut (apart_bo ho329 ((ho324.rebase (fun g_ hg_ => (ho324.lt hg_).1.elim (fun h_ => .inl (Nat.le_trans hW.le h_)) (fun h_ => hB327 g_ h_))).mut (apart_bo (b0.wkR (apart_bo b0 h0_1 rfl).symm kw1 st1) (ho324.rebase (fun g_ hg_ => (ho324.lt hg_).1.elim (fun h_ => .inl (Nat.le_trans hW.le h_)) (fun h_ => hB327 g_ h_))) rfl) hg2 st2) rfl) hg3 st3), (((h0_2.wkR a01_02 kw1 st1).mut (apart_bo (b0.wkR (apart_bo b0 h0_1 rfl).symm kw1 st1) (h0_2.wkR a01_02 kw1 st1) rfl) hg2 st2).mut (apart_bo ho329 ((h0_2.wkR a01_02 kw1 st1).mut (apart_bo (b0.wkR (apart_bo b0 h0_1 rfl).symm kw1 st1) (h0_2.wkR a01_02 kw1 st1) rfl) hg2 st2) rfl) hg3 st3), (Apart.took (fun g_ hg_ => (ho324.lt hg_).1) a01_02 h0_2.ltw)⟩
              · obtain ⟨x308, hx308, hr⟩ := bind_some' hr
                refine oh1_e rfl (f_call [.pointer (some ⟨g0, 0 + 1, none⟩), .int .i64 s.t_3.N] fn_25 (lcons rfl (lcons rfl rfl)) (take.calls hW.ok (Box.cellAt (b0) fl_Transfer_link_r_1) (OwnV.rebase h0_1 (fun _ _ => trivial)) (apart_bo b0 h0_1 rfl) s.t_3.N hx308)) rfl ?_
                rintro _ w335 ⟨v333, w334, rfl, kw1, ho336, hst337⟩
                have hB339 := fun g hg => (OwnV.lt h0_1 (g := g) hg).1
                have st1 := kw1.stpR hW.ok (fun g hg => (OwnV.lt h0_1 hg).2.1)
                have hW338 := hW.transR kw1 hB339
                obtain ⟨hW340, ho341, hg2, st2⟩ := Box.stored (l := kRaw) hW338 (b0.wkR (apart_bo b0 h0_1 rfl).symm kw1 st1) fs_Transfer_link_r_1 tyr_54 (OwnV.raw (ho336.rebase (fun g_ hg_ => (ho336.lt hg_).1.elim (fun h_ => .inl (Nat.le_trans hW.le h_)) (fun h_ => hB339 g_ h_)))) hst337
                refine ⟨(Stp.back (st1.trans st2)), ?_⟩
                refine oh_all [4] (by kernel_rfl) rfl ⟨?_, trivial⟩
                · refine oh1_v rfl (e_ld ty_3 (LiesV.int ((ho341).at_.fld fl_Transfer_link_r_4)) rfl) rfl ?_
                  refine ⟨(Stp.back (st1.trans st2)), ?_⟩
                  refine oh_v 9 rfl (by kernel_rfl) (by kernel_rfl) (by kernel_rfl) (Stp.back (st1.trans st2)) (fun wv_ SV => e_max rfl rfl) rfl ?_
                  refine oh_v 10 rfl (by kernel_rfl) (by kernel_rfl) (by kernel_rfl) (Stp.back (st1.trans st2)) (fun wv_ SV => e_nil_ rfl) rfl ?_
                  refine oh_v 11 rfl (by kernel_rfl) (by kernel_rfl) (by kernel_rfl) (Stp.back (st1.trans st2)) (fun wv_ SV => e_fa fa_56_4 rfl) rfl ?_
                  refine oh_all [12] (by kernel_rfl) rfl ⟨?_, trivial⟩
                  · refine oh1_eN rfl (f_stB hW340 ho341 fs_Transfer_link_r_4 ty_3 (val_int _ _) rfl rfl) ?_
                    rintro - w342 ⟨hW343, ho344, hg3, st3⟩
                    refine ⟨(Stp.back (st1.trans (st2.trans st3))), ?_⟩
                    obtain rfl := Option.some.inj hr
                    exact oh_done (by kernel_rfl) ⟨F, hW343, v333, v0_2, p0, ho344, (((ho336.rebase (fun g_ hg_ => (ho336.lt hg_).1.elim (fun h_ => .inl (Nat.le_trans hW.le h_)) (fun h_ => hB339 g_ h_))).mut (apart_bo (b0.wkR (apart_bo b0 h0_1 rfl).symm kw1 st1) (ho336.rebase (fun g_ hg_ => (ho336.lt hg_).1.elim (fun h_ => .inl (Nat.le_trans hW.le h_)) (fun h_ => hB339 g_ h_))) rfl) hg2 st2).mut (apart_bo ho341 ((ho336.rebase (fun g_ hg_ => (ho336.lt hg_).1.elim (fun h_ => .inl (Nat.le_trans hW.le h_)) (fun h_ => hB339 g_ h_))).mut (apart_bo (b0.wkR (apart_bo b0 h0_1 rfl).symm kw1 st1) (ho336.rebase (fun g_ hg_ => (ho336.lt hg_).1.elim (fun h_ => .inl (Nat.le_trans hW.le h_)) (fun h_ => hB339 g_ h_))) rfl) hg2 st2) rfl) hg3 st3), (((h0_2.wkR a01_02 kw1 st1).mut (apart_bo (b0.wkR (apart_bo b0 h0_1 rfl).symm kw1 st1) (h0_2.wkR a01_02 kw1 st1) rfl) hg2 st2).mut (apart_bo ho341 ((h0_2.wkR a01_02 kw1 st1).mut (apart_bo (b0.wkR (apart_bo b0 h0_1 rfl).symm kw1 st1) (h0_2.wkR a01_02 kw1 st1) rfl) hg2 st2) rfl) hg3 st3), (Apart.took (fun g_ hg_ => (ho336.lt hg_).1) a01_02 h0_2.ltw)⟩
          · refine Ref.region (fun s ρ w s' h hr => ?_)
            obtain ⟨F, hW, v0_1, v0_2, g3, p0, b0, h0_1, h0_2, p3, h3, p5, a01_02⟩ := h
            refine ol_v (e_mv _ p5) rfl ?_
            refine ol_v (e_fa fa_48_1 p3) rfl ?_
            refine ol_v (e_ld ty_3 (LiesV.int ((h3).at_.fld fl_LinkEvent_1)) rfl) rfl ?_
            obtain ⟨x345, hx345, hr⟩ := bind_some' hr
            refine ol_e (f_call [.pointer (some ⟨g0, 0 + 1, none⟩), .int .i64 s.t_3.N] fn_25 (lcons rfl (lcons rfl rfl)) (take.calls hW.ok (Box.cellAt (b0) fl_Transfer_link_r_1) (OwnV.rebase h0_1 (fun _ _ => trivial)) (apart_bo b0 h0_1 rfl) s.t_3.N hx345)) rfl rfl ?_
            rintro _ w348 ⟨v346, w347, rfl, kw1, ho349, hst350⟩
            have hB352 := fun g hg => (OwnV.lt h0_1 (g := g) hg).1
            have st1 := kw1.stpR hW.ok (fun g hg => (OwnV.lt h0_1 hg).2.1)
            have hW351 := hW.transR kw1 hB352
            obtain ⟨hW353, ho354, hg2, st2⟩ := Box.stored (l := kRaw) hW351 (b0.wkR (apart_bo b0 h0_1 rfl).symm kw1 st1) fs_Transfer_link_r_1 tyr_54 (OwnV.raw (ho349.rebase (fun g_ hg_ => (ho349.lt hg_).1.elim (fun h_ => .inl (Nat.le_trans hW.le h_)) (fun h_ => hB352 g_ h_)))) hst350
            obtain rfl := Option.some.inj hr
            exact ol_nil ⟨F, hW353, v346, v0_2, p0, ho354, ((ho349.rebase (fun g_ hg_ => (ho349.lt hg_).1.elim (fun h_ => .inl (Nat.le_trans hW.le h_)) (fun h_ => hB352 g_ h_))).mut (apart_bo (b0.wkR (apart_bo b0 h0_1 rfl).symm kw1 st1) (ho349.rebase (fun g_ hg_ => (ho349.lt hg_).1.elim (fun h_ => .inl (Nat.le_trans hW.le h_)) (fun h_ => hB352 g_ h_))) rfl) hg2 st2), ((h0_2.wkR a01_02 kw1 st1).mut (apart_bo (b0.wkR (apart_bo b0 h0_1 rfl).symm kw1 st1) (h0_2.wkR a01_02 kw1 st1) rfl) hg2 st2), (Apart.took (fun g_ hg_ => (ho349.lt hg_).1) a01_02 h0_2.ltw)⟩
  refine Ref.seq (B := G6 g0 c0_1 c0_2 w0 F0) ?_ ?_
  · refine Ref.region (fun s ρ w s' h hr => ?_)
    obtain ⟨F, hW, v0_1, v0_2, p0, b0, h0_1, h0_2, a01_02⟩ := h
    refine ol_v (e_as _ rfl) rfl ?_
    obtain rfl := Option.some.inj hr
    exact ol_nil ⟨F, hW, v0_1, v0_2, p0, b0, h0_1, h0_2, rfl, a01_02⟩
  exact Ref.ret (fun s ρ w h => ⟨s, rfl, h⟩)
def post (g0 : Nat) (c0_1 : Value) (c0_2 : Value) (w : World) (F : BSet) (r : R) (v : Value) (w' : World) : Prop := ∃ (F' : BSet) (d1 : Value) (d2 : Value), v = .int .i64 r.1 ∧ Wk (rowL [some g0, c0_1.ownBlock, c0_2.ownBlock]) w F F' w' ∧ Box k_Transfer_link_r 56 (Bs w (rowL [some g0, c0_1.ownBlock, c0_2.ownBlock])) F' w' g0 (⟨r.2.frames, d1, d2, r.2.count, r.2.acked⟩ : Transfer_link_r) ∧ OwnV (kInt .i64) 3 (Bs w (rowL [some g0, c0_1.ownBlock, c0_2.ownBlock])) F' w' d1 r.2.sent ∧ OwnV (kInt .i64) 3 (Bs w (rowL [some g0, c0_1.ownBlock, c0_2.ownBlock])) F' w' d2 r.2.acks ∧ Apart d1.ownBlock d2.ownBlock
theorem calls {w : World} {F : BSet} (hok : ∀ b, F b → b < w.heap.size) {g0 : Nat} {c0_1 : Value} {c0_2 : Value} {a0 : Transfer_link} (b0 : Box k_Transfer_link_r 56 (fun _ => True) F w g0 (⟨a0.frames, c0_1, c0_2, a0.count, a0.acked⟩ : Transfer_link_r)) (h0_1 : OwnV (kInt .i64) 3 (fun _ => True) F w c0_1 a0.sent) (h0_2 : OwnV (kInt .i64) 3 (fun _ => True) F w c0_2 a0.acks) (a01_02 : Apart c0_1.ownBlock c0_2.ownBlock) {v1 : Value} {a1 : LinkEvent} (h1 : Val k_LinkEvent F w v1 a1) {r : R} (hf : f a0 a1 = some r) : Calls Try.prog 21 #[.pointer (some ⟨g0, 0, none⟩), v1] w fun e w' => ∃ v, e = .returned v ∧ post g0 c0_1 c0_2 w F r v w' := by
  obtain ⟨c, hc, href⟩ := ref g0 c0_1 c0_2 w F
  refine calls_of_ref (args := [.pointer (some ⟨g0, 0, none⟩), v1]) _ Try.func21 hc rfl rfl href ?_ (retOf_some hf) ?_
  · exact ⟨F, Wk.refl hok, c0_1, c0_2, rfl, (b0.rebase (.inr (rowL_mem (by simp) rfl))), (h0_1.rebase (fun g hg => .inr (rowL_mem (by simp) hg))), (h0_2.rebase (fun g hg => .inr (rowL_mem (by simp) hg))), h1, a01_02⟩
  · rintro ρ w' a ⟨s, rfl, F', hW, v0_1, v0_2, p0, b0, h0_1, h0_2, h4, a01_02⟩ hF
    refine ⟨_, run_results (rs := [.tmp 4]) rfl hF (vs := [ρ 4]) (⟨_, rfl, rfl⟩), ?_⟩
    have hv : resVal [ρ 4] = .int .i64 s.t_4 := by rw [h4]; rfl
    exact ⟨F', v0_1, v0_2, hv, hW, b0, h0_1, h0_2, a01_02⟩
end
end transfer_link_do_0

namespace transfer_link_do_1
section
def G0 (g0 : Nat) (c0_1 : Value) (c0_2 : Value) (w0 : World) (F0 : BSet) (s : S) (ρ : Env) (w : World) : Prop := ∃ (F : BSet), Wk (rowL [some g0, c0_1.ownBlock, c0_2.ownBlock]) w0 F0 F w ∧ ∃ (v0_1 : Value) (v0_2 : Value), ρ 0 = .pointer (some ⟨g0, 0, none⟩) ∧ Box k_Transfer_link_r 56 (Bs w0 (rowL [some g0, c0_1.ownBlock, c0_2.ownBlock])) F w g0 (⟨s.t_0.frames, v0_1, v0_2, s.t_0.count, s.t_0.acked⟩ : Transfer_link_r) ∧ OwnV (kInt .i64) 3 (Bs w0 (rowL [some g0, c0_1.ownBlock, c0_2.ownBlock])) F w v0_1 s.t_0.sent ∧ OwnV (kInt .i64) 3 (Bs w0 (rowL [some g0, c0_1.ownBlock, c0_2.ownBlock])) F w v0_2 s.t_0.acks ∧ Val k_LinkEvent F w (ρ 1) s.t_1 ∧ Apart v0_1.ownBlock v0_2.ownBlock
def G1 (g0 : Nat) (c0_1 : Value) (c0_2 : Value) (w0 : World) (F0 : BSet) (s : S) (ρ : Env) (w : World) : Prop := ∃ (F : BSet), Wk (rowL [some g0, c0_1.ownBlock, c0_2.ownBlock]) w0 F0 F w ∧ ∃ (v0_1 : Value) (v0_2 : Value) (g3 : Nat), ρ 0 = .pointer (some ⟨g0, 0, none⟩) ∧ Box k_Transfer_link_r 56 (Bs w0 (rowL [some g0, c0_1.ownBlock, c0_2.ownBlock])) F w g0 (⟨s.t_0.frames, v0_1, v0_2, s.t_0.count, s.t_0.acked⟩ : Transfer_link_r) ∧ OwnV (kInt .i64) 3 (Bs w0 (rowL [some g0, c0_1.ownBlock, c0_2.ownBlock])) F w v0_1 s.t_0.sent ∧ OwnV (kInt .i64) 3 (Bs w0 (rowL [some g0, c0_1.ownBlock, c0_2.ownBlock])) F w v0_2 s.t_0.acks ∧ ρ 3 = .pointer (some ⟨g3, 0, none⟩) ∧ Box k_LinkEvent 48 (Bs w0 (rowL [some g0, c0_1.ownBlock, c0_2.ownBlock])) F w g3 s.t_3 ∧ Apart v0_1.ownBlock v0_2.ownBlock
def G2 (g0 : Nat) (c0_1 : Value) (c0_2 : Value) (w0 : World) (F0 : BSet) (s : S) (ρ : Env) (w : World) : Prop := ∃ (F : BSet), Wk (rowL [some g0, c0_1.ownBlock, c0_2.ownBlock]) w0 F0 F w ∧ ∃ (v0_1 : Value) (v0_2 : Value) (g3 : Nat), ρ 0 = .pointer (some ⟨g0, 0, none⟩) ∧ Box k_Transfer_link_r 56 (Bs w0 (rowL [some g0, c0_1.ownBlock, c0_2.ownBlock])) F w g0 (⟨s.t_0.frames, v0_1, v0_2, s.t_0.count, s.t_0.acked⟩ : Transfer_link_r) ∧ OwnV (kInt .i64) 3 (Bs w0 (rowL [some g0, c0_1.ownBlock, c0_2.ownBlock])) F w v0_1 s.t_0.sent ∧ OwnV (kInt .i64) 3 (Bs w0 (rowL [some g0, c0_1.ownBlock, c0_2.ownBlock])) F w v0_2 s.t_0.acks ∧ ρ 3 = .pointer (some ⟨g3, 0, none⟩) ∧ Box k_LinkEvent 48 (Bs w0 (rowL [some g0, c0_1.ownBlock, c0_2.ownBlock])) F w g3 s.t_3 ∧ ρ 5 = .pointer (some ⟨g0, 0 + 1, none⟩) ∧ Apart v0_1.ownBlock v0_2.ownBlock
def G3 (g0 : Nat) (c0_1 : Value) (c0_2 : Value) (w0 : World) (F0 : BSet) (s : S) (ρ : Env) (w : World) : Prop := ∃ (F : BSet), Wk (rowL [some g0, c0_1.ownBlock, c0_2.ownBlock]) w0 F0 F w ∧ ∃ (v0_1 : Value) (v0_2 : Value) (g3 : Nat), ρ 0 = .pointer (some ⟨g0, 0, none⟩) ∧ Box k_Transfer_link_r 56 (Bs w0 (rowL [some g0, c0_1.ownBlock, c0_2.ownBlock])) F w g0 (⟨s.t_0.frames, v0_1, v0_2, s.t_0.count, s.t_0.acked⟩ : Transfer_link_r) ∧ OwnV (kInt .i64) 3 (Bs w0 (rowL [some g0, c0_1.ownBlock, c0_2.ownBlock])) F w v0_1 s.t_0.sent ∧ OwnV (kInt .i64) 3 (Bs w0 (rowL [some g0, c0_1.ownBlock, c0_2.ownBlock])) F w v0_2 s.t_0.acks ∧ ρ 3 = .pointer (some ⟨g3, 0, none⟩) ∧ Box k_LinkEvent 48 (Bs w0 (rowL [some g0, c0_1.ownBlock, c0_2.ownBlock])) F w g3 s.t_3 ∧ ρ 5 = .pointer (some ⟨g0, 0 + 1, none⟩) ∧ ρ 16 = .bool s.t_16 ∧ Apart v0_1.ownBlock v0_2.ownBlock
def G4 (g0 : Nat) (c0_1 : Value) (c0_2 : Value) (w0 : World) (F0 : BSet) (s : S) (ρ : Env) (w : World) : Prop := ∃ (F : BSet), Wk (rowL [some g0, c0_1.ownBlock, c0_2.ownBlock]) w0 F0 F w ∧ ∃ (v0_1 : Value) (v0_2 : Value) (g3 : Nat), ρ 0 = .pointer (some ⟨g0, 0, none⟩) ∧ Box k_Transfer_link_r 56 (Bs w0 (rowL [some g0, c0_1.ownBlock, c0_2.ownBlock])) F w g0 (⟨s.t_0.frames, v0_1, v0_2, s.t_0.count, s.t_0.acked⟩ : Transfer_link_r) ∧ OwnV (kInt .i64) 3 (Bs w0 (rowL [some g0, c0_1.ownBlock, c0_2.ownBlock])) F w v0_1 s.t_0.sent ∧ OwnV (kInt .i64) 3 (Bs w0 (rowL [some g0, c0_1.ownBlock, c0_2.ownBlock])) F w v0_2 s.t_0.acks ∧ ρ 3 = .pointer (some ⟨g3, 0, none⟩) ∧ Box k_LinkEvent 48 (Bs w0 (rowL [some g0, c0_1.ownBlock, c0_2.ownBlock])) F w g3 s.t_3 ∧ ρ 5 = .pointer (some ⟨g0, 0 + 2, none⟩) ∧ Apart v0_1.ownBlock v0_2.ownBlock
def G5 (g0 : Nat) (c0_1 : Value) (c0_2 : Value) (w0 : World) (F0 : BSet) (s : S) (ρ : Env) (w : World) : Prop := ∃ (F : BSet), Wk (rowL [some g0, c0_1.ownBlock, c0_2.ownBlock]) w0 F0 F w ∧ ∃ (v0_1 : Value) (v0_2 : Value) (g3 : Nat), ρ 0 = .pointer (some ⟨g0, 0, none⟩) ∧ Box k_Transfer_link_r 56 (Bs w0 (rowL [some g0, c0_1.ownBlock, c0_2.ownBlock])) F w g0 (⟨s.t_0.frames, v0_1, v0_2, s.t_0.count, s.t_0.acked⟩ : Transfer_link_r) ∧ OwnV (kInt .i64) 3 (Bs w0 (rowL [some g0, c0_1.ownBlock, c0_2.ownBlock])) F w v0_1 s.t_0.sent ∧ OwnV (kInt .i64) 3 (Bs w0 (rowL [some g0, c0_1.ownBlock, c0_2.ownBlock])) F w v0_2 s.t_0.acks ∧ ρ 3 = .pointer (some ⟨g3, 0, none⟩) ∧ Box k_LinkEvent 48 (Bs w0 (rowL [some g0, c0_1.ownBlock, c0_2.ownBlock])) F w g3 s.t_3 ∧ ρ 5 = .pointer (some ⟨g0, 0 + 2, none⟩) ∧ ρ 20 = .bool s.t_20 ∧ Apart v0_1.ownBlock v0_2.ownBlock
def G6 (g0 : Nat) (c0_1 : Value) (c0_2 : Value) (w0 : World) (F0 : BSet) (s : S) (ρ : Env) (w : World) : Prop := ∃ (F : BSet), Wk (rowL [some g0, c0_1.ownBlock, c0_2.ownBlock]) w0 F0 F w ∧ ∃ (v0_1 : Value) (v0_2 : Value), ρ 0 = .pointer (some ⟨g0, 0, none⟩) ∧ Box k_Transfer_link_r 56 (Bs w0 (rowL [some g0, c0_1.ownBlock, c0_2.ownBlock])) F w g0 (⟨s.t_0.frames, v0_1, v0_2, s.t_0.count, s.t_0.acked⟩ : Transfer_link_r) ∧ OwnV (kInt .i64) 3 (Bs w0 (rowL [some g0, c0_1.ownBlock, c0_2.ownBlock])) F w v0_1 s.t_0.sent ∧ OwnV (kInt .i64) 3 (Bs w0 (rowL [some g0, c0_1.ownBlock, c0_2.ownBlock])) F w v0_2 s.t_0.acks ∧ Apart v0_1.ownBlock v0_2.ownBlock
def G7 (g0 : Nat) (c0_1 : Value) (c0_2 : Value) (w0 : World) (F0 : BSet) (s : S) (ρ : Env) (w : World) : Prop := ∃ (F : BSet), Wk (rowL [some g0, c0_1.ownBlock, c0_2.ownBlock]) w0 F0 F w ∧ ∃ (v0_1 : Value) (v0_2 : Value), ρ 0 = .pointer (some ⟨g0, 0, none⟩) ∧ Box k_Transfer_link_r 56 (Bs w0 (rowL [some g0, c0_1.ownBlock, c0_2.ownBlock])) F w g0 (⟨s.t_0.frames, v0_1, v0_2, s.t_0.count, s.t_0.acked⟩ : Transfer_link_r) ∧ OwnV (kInt .i64) 3 (Bs w0 (rowL [some g0, c0_1.ownBlock, c0_2.ownBlock])) F w v0_1 s.t_0.sent ∧ OwnV (kInt .i64) 3 (Bs w0 (rowL [some g0, c0_1.ownBlock, c0_2.ownBlock])) F w v0_2 s.t_0.acks ∧ ρ 4 = .int .i64 s.t_4 ∧ Apart v0_1.ownBlock v0_2.ownBlock
def G8 (g0 : Nat) (c0_1 : Value) (c0_2 : Value) (w0 : World) (F0 : BSet) (s : S) (ρ : Env) (w : World) : Prop := ∃ (F : BSet), Wk (rowL [some g0, c0_1.ownBlock, c0_2.ownBlock]) w0 F0 F w ∧ ∃ (v0_1 : Value) (v0_2 : Value) (g3 : Nat), ρ 0 = .pointer (some ⟨g0, 0, none⟩) ∧ Box k_Transfer_link_r 56 (Bs w0 (rowL [some g0, c0_1.ownBlock, c0_2.ownBlock])) F w g0 (⟨s.t_0.frames, v0_1, v0_2, s.t_0.count, s.t_0.acked⟩ : Transfer_link_r) ∧ OwnV (kInt .i64) 3 (Bs w0 (rowL [some g0, c0_1.ownBlock, c0_2.ownBlock])) F w v0_1 s.t_0.sent ∧ OwnV (kInt .i64) 3 (Bs w0 (rowL [some g0, c0_1.ownBlock, c0_2.ownBlock])) F w v0_2 s.t_0.acks ∧ ρ 3 = .pointer (some ⟨g3, 0, none⟩) ∧ Box k_LinkEvent 48 (Bs w0 (rowL [some g0, c0_1.ownBlock, c0_2.ownBlock])) F w g3 s.t_3 ∧ ρ 5 = .pointer (some ⟨g0, 0 + 2, none⟩) ∧ ρ 29 = .bool s.t_29 ∧ Apart v0_1.ownBlock v0_2.ownBlock
def G9 (g0 : Nat) (c0_1 : Value) (c0_2 : Value) (w0 : World) (F0 : BSet) (s : S) (ρ : Env) (w : World) : Prop := ∃ (F : BSet), Wk (rowL [some g0, c0_1.ownBlock, c0_2.ownBlock]) w0 F0 F w ∧ ∃ (v0_1 : Value) (v0_2 : Value) (g3 : Nat), ρ 0 = .pointer (some ⟨g0, 0, none⟩) ∧ Box k_Transfer_link_r 56 (Bs w0 (rowL [some g0, c0_1.ownBlock, c0_2.ownBlock])) F w g0 (⟨s.t_0.frames, v0_1, v0_2, s.t_0.count, s.t_0.acked⟩ : Transfer_link_r) ∧ OwnV (kInt .i64) 3 (Bs w0 (rowL [some g0, c0_1.ownBlock, c0_2.ownBlock])) F w v0_1 s.t_0.sent ∧ OwnV (kInt .i64) 3 (Bs w0 (rowL [some g0, c0_1.ownBlock, c0_2.ownBlock])) F w v0_2 s.t_0.acks ∧ ρ 3 = .pointer (some ⟨g3, 0, none⟩) ∧ Box k_LinkEvent 48 (Bs w0 (rowL [some g0, c0_1.ownBlock, c0_2.ownBlock])) F w g3 s.t_3 ∧ ρ 5 = .pointer (some ⟨g0, 0 + 2, none⟩) ∧ ρ 38 = .bool s.t_38 ∧ Apart v0_1.ownBlock v0_2.ownBlock
def G10 (g0 : Nat) (c0_1 : Value) (c0_2 : Value) (w0 : World) (F0 : BSet) (s : S) (ρ : Env) (w : World) : Prop := ∃ (F : BSet), Wk (rowL [some g0, c0_1.ownBlock, c0_2.ownBlock]) w0 F0 F w ∧ ∃ (v0_1 : Value) (v0_2 : Value) (g3 : Nat), ρ 0 = .pointer (some ⟨g0, 0, none⟩) ∧ Box k_Transfer_link_r 56 (Bs w0 (rowL [some g0, c0_1.ownBlock, c0_2.ownBlock])) F w g0 (⟨s.t_0.frames, v0_1, v0_2, s.t_0.count, s.t_0.acked⟩ : Transfer_link_r) ∧ OwnV (kInt .i64) 3 (Bs w0 (rowL [some g0, c0_1.ownBlock, c0_2.ownBlock])) F w v0_1 s.t_0.sent ∧ OwnV (kInt .i64) 3 (Bs w0 (rowL [some g0, c0_1.ownBlock, c0_2.ownBlock])) F w v0_2 s.t_0.acks ∧ ρ 3 = .pointer (some ⟨g3, 0, none⟩) ∧ Box k_LinkEvent 48 (Bs w0 (rowL [some g0, c0_1.ownBlock, c0_2.ownBlock])) F w g3 s.t_3 ∧ ρ 5 = .pointer (some ⟨g0, 0 + 2, none⟩) ∧ ρ 54 = .bool s.t_54 ∧ Apart v0_1.ownBlock v0_2.ownBlock
def G11 (g0 : Nat) (c0_1 : Value) (c0_2 : Value) (w0 : World) (F0 : BSet) (s : S) (ρ : Env) (w : World) : Prop := ∃ (F : BSet), Wk (rowL [some g0, c0_1.ownBlock, c0_2.ownBlock]) w0 F0 F w ∧ ∃ (v0_1 : Value) (v0_2 : Value) (g3 : Nat), ρ 0 = .pointer (some ⟨g0, 0, none⟩) ∧ Box k_Transfer_link_r 56 (Bs w0 (rowL [some g0, c0_1.ownBlock, c0_2.ownBlock])) F w g0 (⟨s.t_0.frames, v0_1, v0_2, s.t_0.count, s.t_0.acked⟩ : Transfer_link_r) ∧ OwnV (kInt .i64) 3 (Bs w0 (rowL [some g0, c0_1.ownBlock, c0_2.ownBlock])) F w v0_1 s.t_0.sent ∧ OwnV (kInt .i64) 3 (Bs w0 (rowL [some g0, c0_1.ownBlock, c0_2.ownBlock])) F w v0_2 s.t_0.acks ∧ ρ 3 = .pointer (some ⟨g3, 0, none⟩) ∧ Box k_LinkEvent 48 (Bs w0 (rowL [some g0, c0_1.ownBlock, c0_2.ownBlock])) F w g3 s.t_3 ∧ ρ 5 = .pointer (some ⟨g0, 0 + 2, none⟩) ∧ ρ 73 = .int .i64 s.t_73 ∧ Apart v0_1.ownBlock v0_2.ownBlock
def G12 (g0 : Nat) (c0_1 : Value) (c0_2 : Value) (w0 : World) (F0 : BSet) (s : S) (ρ : Env) (w : World) : Prop := ∃ (F : BSet), Wk (rowL [some g0, c0_1.ownBlock, c0_2.ownBlock]) w0 F0 F w ∧ ∃ (v0_1 : Value) (v0_2 : Value) (g3 : Nat), ρ 0 = .pointer (some ⟨g0, 0, none⟩) ∧ Box k_Transfer_link_r 56 (Bs w0 (rowL [some g0, c0_1.ownBlock, c0_2.ownBlock])) F w g0 (⟨s.t_0.frames, v0_1, v0_2, s.t_0.count, s.t_0.acked⟩ : Transfer_link_r) ∧ OwnV (kInt .i64) 3 (Bs w0 (rowL [some g0, c0_1.ownBlock, c0_2.ownBlock])) F w v0_1 s.t_0.sent ∧ OwnV (kInt .i64) 3 (Bs w0 (rowL [some g0, c0_1.ownBlock, c0_2.ownBlock])) F w v0_2 s.t_0.acks ∧ ρ 3 = .pointer (some ⟨g3, 0, none⟩) ∧ Box k_LinkEvent 48 (Bs w0 (rowL [some g0, c0_1.ownBlock, c0_2.ownBlock])) F w g3 s.t_3 ∧ ρ 5 = .pointer (some ⟨g0, 0 + 2, none⟩) ∧ ρ 73 = .int .i64 s.t_73 ∧ ρ 78 = .bool s.t_78 ∧ Apart v0_1.ownBlock v0_2.ownBlock
def G13 (g0 : Nat) (c0_1 : Value) (c0_2 : Value) (w0 : World) (F0 : BSet) (s : S) (ρ : Env) (w : World) : Prop := ∃ (F : BSet), Wk (rowL [some g0, c0_1.ownBlock, c0_2.ownBlock]) w0 F0 F w ∧ ∃ (v0_1 : Value) (v0_2 : Value) (g3 : Nat), ρ 0 = .pointer (some ⟨g0, 0, none⟩) ∧ Box k_Transfer_link_r 56 (Bs w0 (rowL [some g0, c0_1.ownBlock, c0_2.ownBlock])) F w g0 (⟨s.t_0.frames, v0_1, v0_2, s.t_0.count, s.t_0.acked⟩ : Transfer_link_r) ∧ OwnV (kInt .i64) 3 (Bs w0 (rowL [some g0, c0_1.ownBlock, c0_2.ownBlock])) F w v0_1 s.t_0.sent ∧ OwnV (kInt .i64) 3 (Bs w0 (rowL [some g0, c0_1.ownBlock, c0_2.ownBlock])) F w v0_2 s.t_0.acks ∧ ρ 3 = .pointer (some ⟨g3, 0, none⟩) ∧ Box k_LinkEvent 48 (Bs w0 (rowL [some g0, c0_1.ownBlock, c0_2.ownBlock])) F w g3 s.t_3 ∧ ρ 5 = .pointer (some ⟨g0, 0 + 2, none⟩) ∧ ρ 73 = .int .i64 s.t_73 ∧ ρ 93 = .bool s.t_93 ∧ Apart v0_1.ownBlock v0_2.ownBlock
def G14 (g0 : Nat) (c0_1 : Value) (c0_2 : Value) (w0 : World) (F0 : BSet) (s : S) (ρ : Env) (w : World) : Prop := ∃ (F : BSet), Wk (rowL [some g0, c0_1.ownBlock, c0_2.ownBlock]) w0 F0 F w ∧ ∃ (v0_1 : Value) (v0_2 : Value), ρ 0 = .pointer (some ⟨g0, 0, none⟩) ∧ Box k_Transfer_link_r 56 (Bs w0 (rowL [some g0, c0_1.ownBlock, c0_2.ownBlock])) F w g0 (⟨s.t_0.frames, v0_1, v0_2, s.t_0.count, s.t_0.acked⟩ : Transfer_link_r) ∧ OwnV (kInt .i64) 3 (Bs w0 (rowL [some g0, c0_1.ownBlock, c0_2.ownBlock])) F w v0_1 s.t_0.sent ∧ OwnV (kInt .i64) 3 (Bs w0 (rowL [some g0, c0_1.ownBlock, c0_2.ownBlock])) F w v0_2 s.t_0.acks ∧ ρ 103 = .bool s.t_103 ∧ Apart v0_1.ownBlock v0_2.ownBlock
def G15 (g0 : Nat) (c0_1 : Value) (c0_2 : Value) (w0 : World) (F0 : BSet) (s : S) (ρ : Env) (w : World) : Prop := ∃ (F : BSet), Wk (rowL [some g0, c0_1.ownBlock, c0_2.ownBlock]) w0 F0 F w ∧ ∃ (v0_1 : Value) (v0_2 : Value) (g3 : Nat), ρ 0 = .pointer (some ⟨g0, 0, none⟩) ∧ Box k_Transfer_link_r 56 (Bs w0 (rowL [some g0, c0_1.ownBlock, c0_2.ownBlock])) F w g0 (⟨s.t_0.frames, v0_1, v0_2, s.t_0.count, s.t_0.acked⟩ : Transfer_link_r) ∧ OwnV (kInt .i64) 3 (Bs w0 (rowL [some g0, c0_1.ownBlock, c0_2.ownBlock])) F w v0_1 s.t_0.sent ∧ OwnV (kInt .i64) 3 (Bs w0 (rowL [some g0, c0_1.ownBlock, c0_2.ownBlock])) F w v0_2 s.t_0.acks ∧ ρ 3 = .pointer (some ⟨g3, 0, none⟩) ∧ Box k_LinkEvent 48 (Bs w0 (rowL [some g0, c0_1.ownBlock, c0_2.ownBlock])) F w g3 s.t_3 ∧ ρ 5 = .pointer (some ⟨g0, 0 + 2, none⟩) ∧ ρ 73 = .int .i64 s.t_73 ∧ ρ 124 = .bool s.t_124 ∧ Apart v0_1.ownBlock v0_2.ownBlock
def G16 (g0 : Nat) (c0_1 : Value) (c0_2 : Value) (w0 : World) (F0 : BSet) (s : S) (ρ : Env) (w : World) : Prop := ∃ (F : BSet), Wk (rowL [some g0, c0_1.ownBlock, c0_2.ownBlock]) w0 F0 F w ∧ ∃ (v0_1 : Value) (v0_2 : Value) (g3 : Nat), ρ 0 = .pointer (some ⟨g0, 0, none⟩) ∧ Box k_Transfer_link_r 56 (Bs w0 (rowL [some g0, c0_1.ownBlock, c0_2.ownBlock])) F w g0 (⟨s.t_0.frames, v0_1, v0_2, s.t_0.count, s.t_0.acked⟩ : Transfer_link_r) ∧ OwnV (kInt .i64) 3 (Bs w0 (rowL [some g0, c0_1.ownBlock, c0_2.ownBlock])) F w v0_1 s.t_0.sent ∧ OwnV (kInt .i64) 3 (Bs w0 (rowL [some g0, c0_1.ownBlock, c0_2.ownBlock])) F w v0_2 s.t_0.acks ∧ ρ 3 = .pointer (some ⟨g3, 0, none⟩) ∧ Box k_LinkEvent 48 (Bs w0 (rowL [some g0, c0_1.ownBlock, c0_2.ownBlock])) F w g3 s.t_3 ∧ ρ 5 = .pointer (some ⟨g0, 0 + 2, none⟩) ∧ ρ 143 = .bool s.t_143 ∧ Apart v0_1.ownBlock v0_2.ownBlock
set_option maxHeartbeats 4000000 in
set_option maxRecDepth 20000 in
theorem ref (g0 : Nat) (c0_1 : Value) (c0_2 : Value) (w0 : World) (F0 : BSet) : ∃ c, Try.f21.body = some c ∧ Ref Try.prog 157 c (G0 g0 c0_1 c0_2 w0 F0) body (fun _ _ _ => False) (fun _ _ _ _ => False) (fun r ρ w => ∃ s, retv s = r ∧ G7 g0 c0_1 c0_2 w0 F0 s ρ w) := by
  refine ⟨_, rfl, ?_⟩
  unfold body
  refine Ref.seq (B := G1 g0 c0_1 c0_2 w0 F0) ?_ ?_
  · refine Ref.region (fun s ρ w s' h hr => ?_)
    obtain ⟨F, hW, v0_1, v0_2, p0, b0, h0_1, h0_2, h1, a01_02⟩ := h
    refine ol_e (f_box hW rfl h1) rfl rfl ?_
    rintro _ w2 ⟨g1, rfl, kw1, ho3⟩
    have hW4 := hW.trans kw1
    have st1 := kw1.stp hW.ok
    refine ol_v (e_as _ rfl) rfl ?_
    obtain rfl := Option.some.inj hr
    exact ol_nil ⟨F, hW4, v0_1, v0_2, g1, p0, (b0.wk kw1 hW.ok), (h0_1.wk kw1 hW.ok), (h0_2.wk kw1 hW.ok), rfl, (ho3.base (row := (rowL [some g0, c0_1.ownBlock, c0_2.ownBlock])) hW.le), a01_02⟩
  refine Ref.seq (B := G2 g0 c0_1 c0_2 w0 F0) ?_ ?_
  · refine Ref.region (fun s ρ w s' h hr => ?_)
    obtain ⟨F, hW, v0_1, v0_2, g3, p0, b0, h0_1, h0_2, p3, h3, a01_02⟩ := h
    refine ol_v (e_mv _ p0) rfl ?_
    refine ol_v (e_nil_ rfl) rfl ?_
    refine ol_v (e_fa fa_56_1 rfl) rfl ?_
    refine ol_v (e_as _ rfl) rfl ?_
    obtain rfl := Option.some.inj hr
    exact ol_nil ⟨F, hW, v0_1, v0_2, g3, p0, b0, h0_1, h0_2, p3, h3, rfl, a01_02⟩
  refine Ref.seq (B := G4 g0 c0_1 c0_2 w0 F0) ?_ ?_
  · refine Ref.seq (B := G3 g0 c0_1 c0_2 w0 F0) ?_ ?_
    · refine Ref.region (fun s ρ w s' h hr => ?_)
      obtain ⟨F, hW, v0_1, v0_2, g3, p0, b0, h0_1, h0_2, p3, h3, p5, a01_02⟩ := h
      refine ol_v (e_fa fa_48_0 p3) rfl ?_
      refine ol_v (e_ld ty_3 (LiesV.int ((h3).at_.fld fl_LinkEvent_0)) rfl) rfl ?_
      refine ol_v (e_eql rfl rfl) rfl ?_
      refine ol_cutA 5 12 16 (fun ρ' w' => w = w' ∧ ρ' 16 = .bool ((decide (s.t_3.Kind = (5 : Int))) || (decide (s.t_3.Kind = (6 : Int))))) rfl ?_ ?_
      · by_cases hb5 : (decide (s.t_3.Kind = (5 : Int))) = true
        · refine ol_v (e_mv _ rfl) rfl ?_
          refine ol_not rfl rfl rfl (congrArg Value.bool hb5) rfl ?_
          refine ol_not rfl rfl rfl (congrArg Value.bool hb5) rfl ?_
          refine ol_not rfl rfl rfl (congrArg Value.bool hb5) rfl ?_
          refine ol_v (e_pick true _ (congrArg Value.bool hb5) rfl) rfl ?_
          exact ol_nil ⟨⟨rfl, (bv_or_t hb5)⟩, ((((((Agr.refl _ _ _).upd rfl rfl).upd rfl rfl).upd rfl rfl).upd rfl rfl).upd rfl rfl)⟩
        · have hb6 := Bool.eq_false_iff.mpr hb5
          refine ol_v (e_mv _ rfl) rfl ?_
          refine ol_yes rfl rfl (congrArg Value.bool hb6) ?_
          refine ol_v (e_fa fa_48_0 p3) rfl ?_
          refine ol_yes rfl rfl (congrArg Value.bool hb6) ?_
          refine ol_v (e_ld ty_3 (LiesV.int ((h3).at_.fld fl_LinkEvent_0)) rfl) rfl ?_
          refine ol_yes rfl rfl (congrArg Value.bool hb6) ?_
          refine ol_v (e_eql rfl rfl) rfl ?_
          refine ol_v (e_pick false _ (congrArg Value.bool hb6) rfl) rfl ?_
          exact ol_nil ⟨⟨rfl, (bv_or_f hb6)⟩, ((((((Agr.refl _ _ _).upd rfl rfl).upd rfl rfl).upd rfl rfl).upd rfl rfl).upd rfl rfl)⟩
      rintro ρ7 _ ⟨⟨rfl, hp7⟩, hAg7⟩
      obtain rfl := Option.some.inj hr
      exact ol_nil ⟨F, hW, v0_1, v0_2, g3, ((hAg7 0 rfl).trans p0), b0, h0_1, h0_2, ((hAg7 3 rfl).trans p3), h3, ((hAg7 5 rfl).trans p5), hp7, a01_02⟩
    refine Ref.cond (b := fun s => s.t_16) (fun s ρ w ⟨F, hW, v0_1, v0_2, g3, p0, b0, h0_1, h0_2, p3, h3, p5, h16, a01_02⟩ => h16) (Ref.pre (A := G1 g0 c0_1 c0_2 w0 F0) ?_ (fun s ρ w h => (fun ⟨F, hW, v0_1, v0_2, g3, p0, b0, h0_1, h0_2, p3, h3, p5, h16, a01_02⟩ => ⟨F, hW, v0_1, v0_2, g3, p0, b0, h0_1, h0_2, p3, h3, a01_02⟩ : G3 g0 c0_1 c0_2 w0 F0 s ρ w → G1 g0 c0_1 c0_2 w0 F0 s ρ w) h.2)) Ref.noneM
    refine Ref.region (fun s ρ w s' h hr => ?_)
    obtain ⟨F, hW, v0_1, v0_2, g3, p0, b0, h0_1, h0_2, p3, h3, a01_02⟩ := h
    refine ol_v (e_mv _ p0) rfl ?_
    refine ol_v (e_nil_ rfl) rfl ?_
    refine ol_v (e_fa fa_56_2 rfl) rfl ?_
    refine ol_v (e_as _ rfl) rfl ?_
    obtain rfl := Option.some.inj hr
    exact ol_nil ⟨F, hW, v0_1, v0_2, g3, p0, b0, h0_1, h0_2, p3, h3, rfl, a01_02⟩
  refine Ref.seq (B := G4 g0 c0_1 c0_2 w0 F0) ?_ ?_
  · refine Ref.block ?_
    refine Ref.seq (B := G5 g0 c0_1 c0_2 w0 F0) ?_ ?_
    · refine Ref.region (fun s ρ w s' h hr => ?_)
      obtain ⟨F, hW, v0_1, v0_2, g3, p0, b0, h0_1, h0_2, p3, h3, p5, a01_02⟩ := h
      refine ol_v (e_fa fa_48_0 p3) rfl ?_
      refine ol_v (e_ld ty_3 (LiesV.int ((h3).at_.fld fl_LinkEvent_0)) rfl) rfl ?_
      refine ol_v (e_lss rfl rfl) rfl ?_
      refine ol_cutA 5 24 28 (fun ρ' w' => w = w' ∧ ρ' 28 = .bool ((decide (s.t_3.Kind < (1 : Int))) || (decide ((6 : Int) < s.t_3.Kind)))) rfl ?_ ?_
      · by_cases hb8 : (decide (s.t_3.Kind < (1 : Int))) = true
        · refine ol_v (e_mv _ rfl) rfl ?_
          refine ol_not rfl rfl rfl (congrArg Value.bool hb8) rfl ?_
          refine ol_not rfl rfl rfl (congrArg Value.bool hb8) rfl ?_
          refine ol_not rfl rfl rfl (congrArg Value.bool hb8) rfl ?_
          refine ol_v (e_pick true _ (congrArg Value.bool hb8) rfl) rfl ?_
          exact ol_nil ⟨⟨rfl, (bv_or_t hb8)⟩, ((((((Agr.refl _ _ _).upd rfl rfl).upd rfl rfl).upd rfl rfl).upd rfl rfl).upd rfl rfl)⟩
        · have hb9 := Bool.eq_false_iff.mpr hb8
          refine ol_v (e_mv _ rfl) rfl ?_
          refine ol_yes rfl rfl (congrArg Value.bool hb9) ?_
          refine ol_v (e_fa fa_48_0 p3) rfl ?_
          refine ol_yes rfl rfl (congrArg Value.bool hb9) ?_
          refine ol_v (e_ld ty_3 (LiesV.int ((h3).at_.fld fl_LinkEvent_0)) rfl) rfl ?_
          refine ol_yes rfl rfl (congrArg Value.bool hb9) ?_
          refine ol_v (e_gtr rfl rfl) rfl ?_
          refine ol_v (e_pick false _ (congrArg Value.bool hb9) rfl) rfl ?_
          exact ol_nil ⟨⟨rfl, (bv_or_f hb9)⟩, ((((((Agr.refl _ _ _).upd rfl rfl).upd rfl rfl).upd rfl rfl).upd rfl rfl).upd rfl rfl)⟩
      rintro ρ10 _ ⟨⟨rfl, hp10⟩, hAg10⟩
      refine ol_v (e_as _ hp10) rfl ?_
      obtain rfl := Option.some.inj hr
      exact ol_nil ⟨F, hW, v0_1, v0_2, g3, ((hAg10 0 rfl).trans p0), b0, h0_1, h0_2, ((hAg10 3 rfl).trans p3), h3, ((hAg10 5 rfl).trans p5), rfl, a01_02⟩
    refine Ref.cond (b := fun s => s.t_20) (fun s ρ w ⟨F, hW, v0_1, v0_2, g3, p0, b0, h0_1, h0_2, p3, h3, p5, h20, a01_02⟩ => h20) (Ref.pre (A := G6 g0 c0_1 c0_2 w0 F0) ?_ (fun s ρ w h => (fun ⟨F, hW, v0_1, v0_2, g3, p0, b0, h0_1, h0_2, p3, h3, p5, h20, a01_02⟩ => ⟨F, hW, v0_1, v0_2, p0, b0, h0_1, h0_2, a01_02⟩ : G5 g0 c0_1 c0_2 w0 F0 s ρ w → G6 g0 c0_1 c0_2 w0 F0 s ρ w) h.2)) (Ref.pre (A := G4 g0 c0_1 c0_2 w0 F0) ?_ (fun s ρ w h => (fun ⟨F, hW, v0_1, v0_2, g3, p0, b0, h0_1, h0_2, p3, h3, p5, h20, a01_02⟩ => ⟨F, hW, v0_1, v0_2, g3, p0, b0, h0_1, h0_2, p3, h3, p5, a01_02⟩ : G5 g0 c0_1 c0_2 w0 F0 s ρ w → G4 g0 c0_1 c0_2 w0 F0 s ρ w) h.2))
    · refine Ref.seq (B := G7 g0 c0_1 c0_2 w0 F0) ?_ ?_
      · refine Ref.region (fun s ρ w s' h hr => ?_)
        obtain ⟨F, hW, v0_1, v0_2, p0, b0, h0_1, h0_2, a01_02⟩ := h
        refine ol_v (e_as _ rfl) rfl ?_
        obtain rfl := Option.some.inj hr
        exact ol_nil ⟨F, hW, v0_1, v0_2, p0, b0, h0_1, h0_2, rfl, a01_02⟩
      exact Ref.ret (fun s ρ w h => ⟨s, rfl, h⟩)
    · refine Ref.seq (B := G8 g0 c0_1 c0_2 w0 F0) ?_ ?_
      · refine Ref.region (fun s ρ w s' h hr => ?_)
        obtain ⟨F, hW, v0_1, v0_2, g3, p0, b0, h0_1, h0_2, p3, h3, p5, a01_02⟩ := h
        refine ol_v (e_fa fa_48_0 p3) rfl ?_
        refine ol_v (e_ld ty_3 (LiesV.int ((h3).at_.fld fl_LinkEvent_0)) rfl) rfl ?_
        refine ol_v (e_eql rfl rfl) rfl ?_
        refine ol_cutA 5 33 37 (fun ρ' w' => w = w' ∧ ρ' 37 = .bool ((decide (s.t_3.Kind = (1 : Int))) && (!decide (s.t_3.N = (0 : Int))))) rfl ?_ ?_
        · by_cases hb11 : (decide (s.t_3.Kind = (1 : Int))) = true
          · refine ol_v (e_mv _ rfl) rfl ?_
            refine ol_yes rfl rfl (congrArg Value.bool hb11) ?_
            refine ol_v (e_fa fa_48_1 p3) rfl ?_
            refine ol_yes rfl rfl (congrArg Value.bool hb11) ?_
            refine ol_v (e_ld ty_3 (LiesV.int ((h3).at_.fld fl_LinkEvent_1)) rfl) rfl ?_
            refine ol_yes rfl rfl (congrArg Value.bool hb11) ?_
            refine ol_v (e_neq rfl rfl) rfl ?_
            refine ol_v (e_pick true _ (congrArg Value.bool hb11) rfl) rfl ?_
            exact ol_nil ⟨⟨rfl, (bv_and_t hb11)⟩, ((((((Agr.refl _ _ _).upd rfl rfl).upd rfl rfl).upd rfl rfl).upd rfl rfl).upd rfl rfl)⟩
          · have hb12 := Bool.eq_false_iff.mpr hb11
            refine ol_v (e_mv _ rfl) rfl ?_
            refine ol_not rfl rfl rfl (congrArg Value.bool hb12) rfl ?_
            refine ol_not rfl rfl rfl (congrArg Value.bool hb12) rfl ?_
            refine ol_not rfl rfl rfl (congrArg Value.bool hb12) rfl ?_
            refine ol_v (e_pick false _ (congrArg Value.bool hb12) rfl) rfl ?_
            exact ol_nil ⟨⟨rfl, (bv_and_f hb12)⟩, ((((((Agr.refl _ _ _).upd rfl rfl).upd rfl rfl).upd rfl rfl).upd rfl rfl).upd rfl rfl)⟩
        rintro ρ13 _ ⟨⟨rfl, hp13⟩, hAg13⟩
        refine ol_v (e_as _ hp13) rfl ?_
        obtain rfl := Option.some.inj hr
        exact ol_nil ⟨F, hW, v0_1, v0_2, g3, ((hAg13 0 rfl).trans p0), b0, h0_1, h0_2, ((hAg13 3 rfl).trans p3), h3, ((hAg13 5 rfl).trans p5), rfl, a01_02⟩
      refine Ref.cond (b := fun s => s.t_29) (fun s ρ w ⟨F, hW, v0_1, v0_2, g3, p0, b0, h0_1, h0_2, p3, h3, p5, h29, a01_02⟩ => h29) (Ref.pre (A := G6 g0 c0_1 c0_2 w0 F0) ?_ (fun s ρ w h => (fun ⟨F, hW, v0_1, v0_2, g3, p0, b0, h0_1, h0_2, p3, h3, p5, h29, a01_02⟩ => ⟨F, hW, v0_1, v0_2, p0, b0, h0_1, h0_2, a01_02⟩ : G8 g0 c0_1 c0_2 w0 F0 s ρ w → G6 g0 c0_1 c0_2 w0 F0 s ρ w) h.2)) (Ref.pre (A := G4 g0 c0_1 c0_2 w0 F0) ?_ (fun s ρ w h => (fun ⟨F, hW, v0_1, v0_2, g3, p0, b0, h0_1, h0_2, p3, h3, p5, h29, a01_02⟩ => ⟨F, hW, v0_1, v0_2, g3, p0, b0, h0_1, h0_2, p3, h3, p5, a01_02⟩ : G8 g0 c0_1 c0_2 w0 F0 s ρ w → G4 g0 c0_1 c0_2 w0 F0 s ρ w) h.2))
      · refine Ref.seq (B := G7 g0 c0_1 c0_2 w0 F0) ?_ ?_
        · refine Ref.region (fun s ρ w s' h hr => ?_)
          obtain ⟨F, hW, v0_1, v0_2, p0, b0, h0_1, h0_2, a01_02⟩ := h
          refine ol_v (e_as _ rfl) rfl ?_
          obtain rfl := Option.some.inj hr
          exact ol_nil ⟨F, hW, v0_1, v0_2, p0, b0, h0_1, h0_2, rfl, a01_02⟩
        exact Ref.ret (fun s ρ w h => ⟨s, rfl, h⟩)
      · refine Ref.seq (B := G9 g0 c0_1 c0_2 w0 F0) ?_ ?_
        · refine Ref.regionS (by kernel_rfl) (by kernel_rfl) (fun s ρ w ⟨F, hW, v0_1, v0_2, g3, p0, b0, h0_1, h0_2, p3, h3, p5, a01_02⟩ => ⟨F, hW.drewS, v0_1, v0_2, g3, p0, b0.wk (Wk.drew (row := nrow) hW.ok) hW.ok, h0_1.wk (Wk.drew (row := nrow) hW.ok) hW.ok, h0_2.wk (Wk.drew (row := nrow) hW.ok) hW.ok, p3, h3.wk (Wk.drew (row := nrow) hW.ok) hW.ok, p5, a01_02⟩) (fun s ρ w s' h hr => ?_)
          obtain ⟨F, hW, v0_1, v0_2, g3, p0, b0, h0_1, h0_2, p3, h3, p5, a01_02⟩ := h
          refine ol_v (e_fa fa_48_0 p3) rfl ?_
          refine ol_v (e_ld ty_3 (LiesV.int ((h3).at_.fld fl_LinkEvent_0)) rfl) rfl ?_
          refine ol_v (e_eql rfl rfl) rfl ?_
          refine ol_cutA 12 42 53 (fun ρ' w' => w = w' ∧ ρ' 53 = .bool ((decide (s.t_3.Kind = (1 : Int))) && (decide (s.t_0.acked = (s.t_0.frames.length : Int))))) rfl ?_ ?_
          · by_cases hb14 : (decide (s.t_3.Kind = (1 : Int))) = true
            · refine ol_v (e_mv _ rfl) rfl ?_
              refine ol_yes rfl rfl (congrArg Value.bool hb14) ?_
              refine ol_v (e_mv _ p0) rfl ?_
              refine ol_yes rfl rfl (congrArg Value.bool hb14) ?_
              refine ol_v (e_nil_ rfl) rfl ?_
              refine ol_yes rfl rfl (congrArg Value.bool hb14) ?_
              refine ol_v (e_fa fa_56_4 rfl) rfl ?_
              refine ol_yes rfl rfl (congrArg Value.bool hb14) ?_
              refine ol_v (e_ld ty_3 (LiesV.int ((b0).at_.fld fl_Transfer_link_r_4)) rfl) rfl ?_
              refine ol_yes rfl rfl (congrArg Value.bool hb14) ?_
              refine ol_v (e_mv _ p0) rfl ?_
              refine ol_yes rfl rfl (congrArg Value.bool hb14) ?_
              refine ol_v (e_nil_ rfl) rfl ?_
              refine ol_yes rfl rfl (congrArg Value.bool hb14) ?_
              refine ol_v (e_fa fa_56_0 rfl) rfl ?_
              refine ol_yes rfl rfl (congrArg Value.bool hb14) ?_
              obtain ⟨v16, hl17, hs18⟩ := LiesV.sl ((b0).at_.fld fl_Transfer_link_r_0)
              refine ol_v (e_ld ty_25 hl17 rfl) rfl ?_
              refine ol_yes rfl rfl (congrArg Value.bool hb14) ?_
              obtain ⟨A19, c20, e21, hc22, R23⟩ := id hs18
              refine ol_v (e_len (SlT.sl sl_25) e21) rfl ?_
              refine ol_yes rfl rfl (congrArg Value.bool hb14) ?_
              refine ol_v (e_eql rfl rfl) rfl ?_
              refine ol_v (e_pick true _ (congrArg Value.bool hb14) rfl) rfl ?_
              exact ol_nil ⟨⟨rfl, (bv_and_t hb14)⟩, (((((((((((((Agr.refl _ _ _).upd rfl rfl).upd rfl rfl).upd rfl rfl).upd rfl rfl).upd rfl rfl).upd rfl rfl).upd rfl rfl).upd rfl rfl).upd rfl rfl).upd rfl rfl).upd rfl rfl).upd rfl rfl)⟩
            · have hb15 := Bool.eq_false_iff.mpr hb14
              refine ol_v (e_mv _ rfl) rfl ?_
              refine ol_not rfl rfl rfl (congrArg Value.bool hb15) rfl ?_
              refine ol_not rfl rfl rfl (congrArg Value.bool hb15) rfl ?_
              refine ol_not rfl rfl rfl (congrArg Value.bool hb15) rfl ?_
              refine ol_not rfl rfl rfl (congrArg Value.bool hb15) rfl ?_
              refine ol_not rfl rfl rfl (congrArg Value.bool hb15) rfl ?_
              refine ol_not rfl rfl rfl (congrArg Value.bool hb15) rfl ?_
              refine ol_not rfl rfl rfl (congrArg Value.bool hb15) rfl ?_
              refine ol_not rfl rfl rfl (congrArg Value.bool hb15) rfl ?_
              refine ol_not rfl rfl rfl (congrArg Value.bool hb15) rfl ?_
              refine ol_not rfl rfl rfl (congrArg Value.bool hb15) rfl ?_
              refine ol_v (e_pick false _ (congrArg Value.bool hb15) rfl) rfl ?_
              exact ol_nil ⟨⟨rfl, (bv_and_f hb15)⟩, (((((((((((((Agr.refl _ _ _).upd rfl rfl).upd rfl rfl).upd rfl rfl).upd rfl rfl).upd rfl rfl).upd rfl rfl).upd rfl rfl).upd rfl rfl).upd rfl rfl).upd rfl rfl).upd rfl rfl).upd rfl rfl)⟩
          rintro ρ24 _ ⟨⟨rfl, hp24⟩, hAg24⟩
          refine ol_v (e_as _ hp24) rfl ?_
          obtain rfl := Option.some.inj hr
          exact ol_nil ⟨F, hW, v0_1, v0_2, g3, ((hAg24 0 rfl).trans p0), b0, h0_1, h0_2, ((hAg24 3 rfl).trans p3), h3, ((hAg24 5 rfl).trans p5), rfl, a01_02⟩
        refine Ref.cond (b := fun s => s.t_38) (fun s ρ w ⟨F, hW, v0_1, v0_2, g3, p0, b0, h0_1, h0_2, p3, h3, p5, h38, a01_02⟩ => h38) (Ref.pre (A := G6 g0 c0_1 c0_2 w0 F0) ?_ (fun s ρ w h => (fun ⟨F, hW, v0_1, v0_2, g3, p0, b0, h0_1, h0_2, p3, h3, p5, h38, a01_02⟩ => ⟨F, hW, v0_1, v0_2, p0, b0, h0_1, h0_2, a01_02⟩ : G9 g0 c0_1 c0_2 w0 F0 s ρ w → G6 g0 c0_1 c0_2 w0 F0 s ρ w) h.2)) (Ref.pre (A := G4 g0 c0_1 c0_2 w0 F0) ?_ (fun s ρ w h => (fun ⟨F, hW, v0_1, v0_2, g3, p0, b0, h0_1, h0_2, p3, h3, p5, h38, a01_02⟩ => ⟨F, hW, v0_1, v0_2, g3, p0, b0, h0_1, h0_2, p3, h3, p5, a01_02⟩ : G9 g0 c0_1 c0_2 w0 F0 s ρ w → G4 g0 c0_1 c0_2 w0 F0 s ρ w) h.2))
        · refine Ref.seq (B := G7 g0 c0_1 c0_2 w0 F0) ?_ ?_
          · refine Ref.region (fun s ρ w s' h hr => ?_)
            obtain ⟨F, hW, v0_1, v0_2, p0, b0, h0_1, h0_2, a01_02⟩ := h
            refine ol_v (e_as _ rfl) rfl ?_
            obtain rfl := Option.some.inj hr
            exact ol_nil ⟨F, hW, v0_1, v0_2, p0, b0, h0_1, h0_2, rfl, a01_02⟩
          exact Ref.ret (fun s ρ w h => ⟨s, rfl, h⟩)
        · refine Ref.seq (B := G10 g0 c0_1 c0_2 w0 F0) ?_ ?_
          · refine Ref.regionS (by kernel_rfl) (by kernel_rfl) (fun s ρ w ⟨F, hW, v0_1, v0_2, g3, p0, b0, h0_1, h0_2, p3, h3, p5, a01_02⟩ => ⟨F, hW.drewS, v0_1, v0_2, g3, p0, b0.wk (Wk.drew (row := nrow) hW.ok) hW.ok, h0_1.wk (Wk.drew (row := nrow) hW.ok) hW.ok, h0_2.wk (Wk.drew (row := nrow) hW.ok) hW.ok, p3, h3.wk (Wk.drew (row := nrow) hW.ok) hW.ok, p5, a01_02⟩) (fun s ρ w s' h hr => ?_)
            obtain ⟨F, hW, v0_1, v0_2, g3, p0, b0, h0_1, h0_2, p3, h3, p5, a01_02⟩ := h
            refine ol_v (e_fa fa_48_0 p3) rfl ?_
            refine ol_v (e_ld ty_3 (LiesV.int ((h3).at_.fld fl_LinkEvent_0)) rfl) rfl ?_
            refine ol_v (e_neq rfl rfl) rfl ?_
            refine ol_cutA 14 58 71 (fun ρ' w' => w = w' ∧ ρ' 71 = .bool ((!decide (s.t_3.Kind = (1 : Int))) && ((decide (s.t_3.N < (0 : Int))) || (decide ((s.t_0.acks.length : Int) ≤ s.t_3.N))))) rfl ?_ ?_
            · by_cases hb25 : (!decide (s.t_3.Kind = (1 : Int))) = true
              · refine ol_v (e_mv _ rfl) rfl ?_
                refine ol_yes rfl rfl (congrArg Value.bool hb25) ?_
                refine ol_v (e_fa fa_48_1 p3) rfl ?_
                refine ol_yes rfl rfl (congrArg Value.bool hb25) ?_
                refine ol_v (e_ld ty_3 (LiesV.int ((h3).at_.fld fl_LinkEvent_1)) rfl) rfl ?_
                refine ol_yes rfl rfl (congrArg Value.bool hb25) ?_
                refine ol_v (e_lss rfl rfl) rfl ?_
                refine ol_yes rfl rfl (congrArg Value.bool hb25) ?_
                refine ol_cutA 9 62 70 (fun ρ' w' => w = w' ∧ ρ' 70 = .bool ((decide (s.t_3.N < (0 : Int))) || (decide ((s.t_0.acks.length : Int) ≤ s.t_3.N)))) rfl ?_ ?_
                · by_cases hb27 : (decide (s.t_3.N < (0 : Int))) = true
                  · refine ol_v (e_mv _ rfl) rfl ?_
                    refine ol_not rfl rfl rfl (congrArg Value.bool hb27) rfl ?_
                    refine ol_not rfl rfl rfl (congrArg Value.bool hb27) rfl ?_
                    refine ol_not rfl rfl rfl (congrArg Value.bool hb27) rfl ?_
                    refine ol_not rfl rfl rfl (congrArg Value.bool hb27) rfl ?_
                    refine ol_not rfl rfl rfl (congrArg Value.bool hb27) rfl ?_
                    refine ol_not rfl rfl rfl (congrArg Value.bool hb27) rfl ?_
                    refine ol_not rfl rfl rfl (congrArg Value.bool hb27) rfl ?_
                    refine ol_yes rfl rfl (congrArg Value.bool hb25) ?_
                    refine ol_v (e_pick true _ (congrArg Value.bool hb27) rfl) rfl ?_
                    exact ol_nil ⟨⟨rfl, (bv_or_t hb27)⟩, ((((((((((Agr.refl _ _ _).upd rfl rfl).upd rfl rfl).upd rfl rfl).upd rfl rfl).upd rfl rfl).upd rfl rfl).upd rfl rfl).upd rfl rfl).upd rfl rfl)⟩
                  · have hb28 := Bool.eq_false_iff.mpr hb27
                    refine ol_v (e_mv _ rfl) rfl ?_
                    refine ol_yes rfl rfl (congrArg Value.bool hb28) ?_
                    refine ol_v (e_fa fa_48_1 p3) rfl ?_
                    refine ol_yes rfl rfl (congrArg Value.bool hb28) ?_
                    refine ol_v (e_ld ty_3 (LiesV.int ((h3).at_.fld fl_LinkEvent_1)) rfl) rfl ?_
                    refine ol_yes rfl rfl (congrArg Value.bool hb28) ?_
                    refine ol_v (e_mv _ p5) rfl ?_
                    refine ol_yes rfl rfl (congrArg Value.bool hb28) ?_
                    refine ol_v (e_nil_ rfl) rfl ?_
                    refine ol_yes rfl rfl (congrArg Value.bool hb28) ?_
                    refine ol_v (e_ld (v := v0_2) tyr_54 (LiesV.raw ((b0).at_.fld fl_Transfer_link_r_2)) rfl) rfl ?_
                    refine ol_yes rfl rfl (congrArg Value.bool hb28) ?_
                    obtain ⟨A29, c30, e31, hc32⟩ := h0_2.shape
                    refine ol_v (e_len (SlT.sl sl_54) e31) rfl ?_
                    refine ol_yes rfl rfl (congrArg Value.bool hb28) ?_
                    refine ol_v (e_geq rfl rfl) rfl ?_
                    refine ol_yes rfl rfl (congrArg Value.bool hb25) ?_
                    refine ol_v (e_pick false _ (congrArg Value.bool hb28) rfl) rfl ?_
                    exact ol_nil ⟨⟨rfl, (bv_or_f hb28)⟩, ((((((((((Agr.refl _ _ _).upd rfl rfl).upd rfl rfl).upd rfl rfl).upd rfl rfl).upd rfl rfl).upd rfl rfl).upd rfl rfl).upd rfl rfl).upd rfl rfl)⟩
                rintro ρ33 _ ⟨⟨rfl, hp33⟩, hAg33⟩
                refine ol_v (e_pick true _ ((hAg33 58 rfl).trans (congrArg Value.bool hb25)) hp33) rfl ?_
                exact ol_nil ⟨⟨rfl, (bv_and_t hb25)⟩, (((((((Agr.refl _ _ _).upd rfl rfl).upd rfl rfl).upd rfl rfl).upd rfl rfl).into hAg33 rfl rfl).upd rfl rfl)⟩
              · have hb26 := Bool.eq_false_iff.mpr hb25
                refine ol_v (e_mv _ rfl) rfl ?_
                refine ol_not rfl rfl rfl (congrArg Value.bool hb26) rfl ?_
                refine ol_not rfl rfl rfl (congrArg Value.bool hb26) rfl ?_
                refine ol_not rfl rfl rfl (congrArg Value.bool hb26) rfl ?_
                refine ol_not rfl rfl rfl (congrArg Value.bool hb26) rfl ?_
                refine ol_notU rfl rfl rfl rfl ?_
                refine ol_notU rfl rfl rfl rfl ?_
                refine ol_notU rfl rfl rfl rfl ?_
                refine ol_notU rfl rfl rfl rfl ?_
                refine ol_notU rfl rfl rfl rfl ?_
                refine ol_notU rfl rfl rfl rfl ?_
                refine ol_notU rfl rfl rfl rfl ?_
                refine ol_not rfl rfl rfl (congrArg Value.bool hb26) rfl ?_
                refine ol_v (e_pick false _ (congrArg Value.bool hb26) rfl) rfl ?_
                exact ol_nil ⟨⟨rfl, (bv_and_f hb26)⟩, (((((((((((((((Agr.refl _ _ _).upd rfl rfl).upd rfl rfl).upd rfl rfl).upd rfl rfl).upd rfl rfl).upd rfl rfl).upd rfl rfl).upd rfl rfl).upd rfl rfl).upd rfl rfl).upd rfl rfl).upd rfl rfl).upd rfl rfl).upd rfl rfl)⟩
            rintro ρ34 _ ⟨⟨rfl, hp34⟩, hAg34⟩
            refine ol_v (e_as _ hp34) rfl ?_
            obtain rfl := Option.some.inj hr
            exact ol_nil ⟨F, hW, v0_1, v0_2, g3, ((hAg34 0 rfl).trans p0), b0, h0_1, h0_2, ((hAg34 3 rfl).trans p3), h3, ((hAg34 5 rfl).trans p5), rfl, a01_02⟩
          refine Ref.cond (b := fun s => s.t_54) (fun s ρ w ⟨F, hW, v0_1, v0_2, g3, p0, b0, h0_1, h0_2, p3, h3, p5, h54, a01_02⟩ => h54) (Ref.pre (A := G6 g0 c0_1 c0_2 w0 F0) ?_ (fun s ρ w h => (fun ⟨F, hW, v0_1, v0_2, g3, p0, b0, h0_1, h0_2, p3, h3, p5, h54, a01_02⟩ => ⟨F, hW, v0_1, v0_2, p0, b0, h0_1, h0_2, a01_02⟩ : G10 g0 c0_1 c0_2 w0 F0 s ρ w → G6 g0 c0_1 c0_2 w0 F0 s ρ w) h.2)) (Ref.pre (A := G4 g0 c0_1 c0_2 w0 F0) ?_ (fun s ρ w h => (fun ⟨F, hW, v0_1, v0_2, g3, p0, b0, h0_1, h0_2, p3, h3, p5, h54, a01_02⟩ => ⟨F, hW, v0_1, v0_2, g3, p0, b0, h0_1, h0_2, p3, h3, p5, a01_02⟩ : G10 g0 c0_1 c0_2 w0 F0 s ρ w → G4 g0 c0_1 c0_2 w0 F0 s ρ w) h.2))
          · refine Ref.seq (B := G7 g0 c0_1 c0_2 w0 F0) ?_ ?_
            · refine Ref.region (fun s ρ w s' h hr => ?_)
              obtain ⟨F, hW, v0_1, v0_2, p0, b0, h0_1, h0_2, a01_02⟩ := h
              refine ol_v (e_as _ rfl) rfl ?_
              obtain rfl := Option.some.inj hr
              exact ol_nil ⟨F, hW, v0_1, v0_2, p0, b0, h0_1, h0_2, rfl, a01_02⟩
            exact Ref.ret (fun s ρ w h => ⟨s, rfl, h⟩)
          · exact Ref.skip
  refine Ref.seq (B := G6 g0 c0_1 c0_2 w0 F0) ?_ ?_
  · refine Ref.seq (B := G11 g0 c0_1 c0_2 w0 F0) ?_ ?_
    · refine Ref.region (fun s ρ w s' h hr => ?_)
      obtain ⟨F, hW, v0_1, v0_2, g3, p0, b0, h0_1, h0_2, p3, h3, p5, a01_02⟩ := h
      refine ol_v (e_fa fa_48_0 p3) rfl ?_
      refine ol_v (e_ld ty_3 (LiesV.int ((h3).at_.fld fl_LinkEvent_0)) rfl) rfl ?_
      obtain rfl := Option.some.inj hr
      exact ol_nil ⟨F, hW, v0_1, v0_2, g3, p0, b0, h0_1, h0_2, p3, h3, p5, rfl, a01_02⟩
    refine Ref.block ?_
    refine Ref.seq (B := G12 g0 c0_1 c0_2 w0 F0) ?_ ?_
    · refine Ref.region (fun s ρ w s' h hr => ?_)
      obtain ⟨F, hW, v0_1, v0_2, g3, p0, b0, h0_1, h0_2, p3, h3, p5, h73, a01_02⟩ := h
      refine ol_v (e_eql h73 rfl) rfl ?_
      refine ol_v (e_as _ rfl) rfl ?_
      obtain rfl := Option.some.inj hr
      exact ol_nil ⟨F, hW, v0_1, v0_2, g3, p0, b0, h0_1, h0_2, p3, h3, p5, h73, rfl, a01_02⟩
    refine Ref.cond (b := fun s => s.t_78) (fun s ρ w ⟨F, hW, v0_1, v0_2, g3, p0, b0, h0_1, h0_2, p3, h3, p5, h73, h78, a01_02⟩ => h78) (Ref.pre (A := G6 g0 c0_1 c0_2 w0 F0) ?_ (fun s ρ w h => (fun ⟨F, hW, v0_1, v0_2, g3, p0, b0, h0_1, h0_2, p3, h3, p5, h73, h78, a01_02⟩ => ⟨F, hW, v0_1, v0_2, p0, b0, h0_1, h0_2, a01_02⟩ : G12 g0 c0_1 c0_2 w0 F0 s ρ w → G6 g0 c0_1 c0_2 w0 F0 s ρ w) h.2)) (Ref.pre (A := G11 g0 c0_1 c0_2 w0 F0) ?_ (fun s ρ w h => (fun ⟨F, hW, v0_1, v0_2, g3, p0, b0, h0_1, h0_2, p3, h3, p5, h73, h78, a01_02⟩ => ⟨F, hW, v0_1, v0_2, g3, p0, b0, h0_1, h0_2, p3, h3, p5, h73, a01_02⟩ : G12 g0 c0_1 c0_2 w0 F0 s ρ w → G11 g0 c0_1 c0_2 w0 F0 s ρ w) h.2))
    · refine Ref.regionH (by kernel_rfl) (fun s ρ w ⟨F, hW, v0_1, v0_2, p0, b0, h0_1, h0_2, a01_02⟩ => ⟨F, hW.drewS, v0_1, v0_2, p0, b0.wk (Wk.drew (row := nrow) hW.ok) hW.ok, h0_1.wk (Wk.drew (row := nrow) hW.ok) hW.ok, h0_2.wk (Wk.drew (row := nrow) hW.ok) hW.ok, a01_02⟩) (fun s ρ w s' h hr => ?_)
      obtain ⟨F, hW, v0_1, v0_2, p0, b0, h0_1, h0_2, a01_02⟩ := h
      refine ⟨fun w' => Stp F w F w', ?_⟩
      refine oh_v 0 rfl (by kernel_rfl) (by kernel_rfl) (by kernel_rfl) (Stp.refl _ _) (fun wv_ SV => e_mv _ p0) rfl ?_
      refine oh_v 1 rfl (by kernel_rfl) (by kernel_rfl) (by kernel_rfl) (Stp.refl _ _) (fun wv_ SV => e_mv _ p0) rfl ?_
      refine oh_v 2 rfl (by kernel_rfl) (by kernel_rfl) (by kernel_rfl) (Stp.refl _ _) (fun wv_ SV => e_nil_ rfl) rfl ?_
      refine oh_v 3 rfl (by kernel_rfl) (by kernel_rfl) (by kernel_rfl) (Stp.refl _ _) (fun wv_ SV => e_fa fa_56_1 rfl) rfl ?_
      refine oh_v 5 rfl (by kernel_rfl) (by kernel_rfl) (by kernel_rfl) (Stp.refl _ _) (fun wv_ SV => e_mv _ p0) rfl ?_
      refine oh_v 6 rfl (by kernel_rfl) (by kernel_rfl) (by kernel_rfl) (Stp.refl _ _) (fun wv_ SV => e_nil_ rfl) rfl ?_
      refine oh_v 7 rfl (by kernel_rfl) (by kernel_rfl) (by kernel_rfl) (Stp.refl _ _) (fun wv_ SV => e_fa fa_56_4 rfl) rfl ?_
      refine oh_all [4, 8] (by kernel_rfl) rfl ⟨?_, ?_, trivial⟩
      · refine oh1_v rfl (e_ld (v := v0_1) tyr_54 (LiesV.raw ((b0).at_.fld fl_Transfer_link_r_1)) rfl) rfl ?_
        refine ⟨(Stp.refl _ _), ?_⟩
        refine oh_all [8] (by kernel_rfl) rfl ⟨?_, trivial⟩
        · refine oh1_v rfl (e_ld ty_3 (LiesV.int ((b0).at_.fld fl_Transfer_link_r_4)) rfl) rfl ?_
          refine ⟨(Stp.refl _ _), ?_⟩
          refine oh_all [9] (by kernel_rfl) rfl ⟨?_, trivial⟩
          · refine oh1_e rfl (f_bslF sl_54 hW ([s.t_0.acked] : List Int) [.int .i64 s.t_0.acked] (by exact ⟨_, _, rfl, (val_int _ _), rfl⟩) rfl (Nat.le_of_ble_eq_true rfl) (lcons (congrArg (Prod.mk 0) rfl) rfl)) rfl ?_
            rintro v35 w36 ⟨Fz38, kw1, ho37⟩
            have hW39 := hW.trans kw1
            have st1 := kw1.stp hW.ok
            refine ⟨(Stp.back st1), ?_⟩
            refine oh_all [10] (by kernel_rfl) rfl ⟨?_, trivial⟩
            · obtain ⟨x40, hx40, hr⟩ := bind_some' hr
              refine oh1_e rfl (f_app sl_54 hW39 (h0_1.wk kw1 hW.ok) ho37 hx40 rfl rfl) rfl ?_
              rintro v41 w42 ⟨hW43, ho44, hg2, st2, hor45⟩
              refine ⟨(Stp.back (st1.trans st2)), ?_⟩
              refine oh_v 11 rfl (by kernel_rfl) (by kernel_rfl) (by kernel_rfl) (Stp.back (st1.trans st2)) (fun wv_ SV => e_nil_ rfl) rfl ?_
              refine oh_v 12 rfl (by kernel_rfl) (by kernel_rfl) (by kernel_rfl) (Stp.back (st1.trans st2)) (fun wv_ SV => e_fa fa_56_1 rfl) rfl ?_
              refine oh_all [13] (by kernel_rfl) rfl ⟨?_, trivial⟩
              · refine oh1_eN rfl (f_stB (l := kRaw) hW43 ((b0.wk kw1 hW.ok).mut (apart_bo (b0.wk kw1 hW.ok) (h0_1.wk kw1 hW.ok) rfl).symm hg2 st2) fs_Transfer_link_r_1 tyr_54 (OwnV.raw ho44) rfl rfl) ?_
                rintro - w46 ⟨hW47, ho48, hg3, st3⟩
                refine ⟨(Stp.back (st1.trans (st2.trans st3))), ?_⟩
                obtain rfl := Option.some.inj hr
                exact oh_done (by kernel_rfl) ⟨Fz38, hW47, v41, v0_2, p0, ho48, (ho44.mut (apart_bo ((b0.wk kw1 hW.ok).mut (apart_bo (b0.wk kw1 hW.ok) (h0_1.wk kw1 hW.ok) rfl).symm hg2 st2) ho44 rfl) hg3 st3), (((h0_2.wk kw1 hW.ok).mut a01_02 hg2 st2).mut (apart_bo ((b0.wk kw1 hW.ok).mut (apart_bo (b0.wk kw1 hW.ok) (h0_1.wk kw1 hW.ok) rfl).symm hg2 st2) ((h0_2.wk kw1 hW.ok).mut a01_02 hg2 st2) rfl) hg3 st3), (Apart.grown a01_02 (h0_2.wk kw1 hW.ok).ltw hor45)⟩
      · refine oh1_v rfl (e_ld ty_3 (LiesV.int ((b0).at_.fld fl_Transfer_link_r_4)) rfl) rfl ?_
        refine ⟨(Stp.refl _ _), ?_⟩
        refine oh_all [4, 9] (by kernel_rfl) rfl ⟨?_, ?_, trivial⟩
        · refine oh1_v rfl (e_ld (v := v0_1) tyr_54 (LiesV.raw ((b0).at_.fld fl_Transfer_link_r_1)) rfl) rfl ?_
          refine ⟨(Stp.refl _ _), ?_⟩
          refine oh_all [9] (by kernel_rfl) rfl ⟨?_, trivial⟩
          · refine oh1_e rfl (f_bslF sl_54 hW ([s.t_0.acked] : List Int) [.int .i64 s.t_0.acked] (by exact ⟨_, _, rfl, (val_int _ _), rfl⟩) rfl (Nat.le_of_ble_eq_true rfl) (lcons (congrArg (Prod.mk 0) rfl) rfl)) rfl ?_
            rintro v49 w50 ⟨Fz52, kw1, ho51⟩
            have hW53 := hW.trans kw1
            have st1 := kw1.stp hW.ok
            refine ⟨(Stp.back st1), ?_⟩
            refine oh_all [10] (by kernel_rfl) rfl ⟨?_, trivial⟩
            · obtain ⟨x40, hx40, hr⟩ := bind_some' hr
              refine oh1_e rfl (f_app sl_54 hW53 (h0_1.wk kw1 hW.ok) ho51 hx40 rfl rfl) rfl ?_
              rintro v54 w55 ⟨hW56, ho57, hg2, st2, hor58⟩
              refine ⟨(Stp.back (st1.trans st2)), ?_⟩
              refine oh_v 11 rfl (by kernel_rfl) (by kernel_rfl) (by kernel_rfl) (Stp.back (st1.trans st2)) (fun wv_ SV => e_nil_ rfl) rfl ?_
              refine oh_v 12 rfl (by kernel_rfl) (by kernel_rfl) (by kernel_rfl) (Stp.back (st1.trans st2)) (fun wv_ SV => e_fa fa_56_1 rfl) rfl ?_
              refine oh_all [13] (by kernel_rfl) rfl ⟨?_, trivial⟩
              · refine oh1_eN rfl (f_stB (l := kRaw) hW56 ((b0.wk kw1 hW.ok).mut (apart_bo (b0.wk kw1 hW.ok) (h0_1.wk kw1 hW.ok) rfl).symm hg2 st2) fs_Transfer_link_r_1 tyr_54 (OwnV.raw ho57) rfl rfl) ?_
                rintro - w59 ⟨hW60, ho61, hg3, st3⟩
                refine ⟨(Stp.back (st1.trans (st2.trans st3))), ?_⟩
                obtain rfl := Option.some.inj hr
                exact oh_done (by kernel_rfl) ⟨Fz52, hW60, v54, v0_2, p0, ho61, (ho57.mut (apart_bo ((b0.wk kw1 hW.ok).mut (apart_bo (b0.wk kw1 hW.ok) (h0_1.wk kw1 hW.ok) rfl).symm hg2 st2) ho57 rfl) hg3 st3), (((h0_2.wk kw1 hW.ok).mut a01_02 hg2 st2).mut (apart_bo ((b0.wk kw1 hW.ok).mut (apart_bo (b0.wk kw1 hW.ok) (h0_1.wk kw1 hW.ok) rfl).symm hg2 st2) ((h0_2.wk kw1 hW.ok).mut a01_02 hg2 st2) rfl) hg3 st3), (Apart.grown a01_02 (h0_2.wk kw1 hW.ok).ltw hor58)⟩
        · refine oh1_e rfl (f_bslF sl_54 hW ([s.t_0.acked] : List Int) [.int .i64 s.t_0.acked] (by exact ⟨_, _, rfl, (val_int _ _), rfl⟩) rfl (Nat.le_of_ble_eq_true rfl) (lcons (congrArg (Prod.mk 0) rfl) rfl)) rfl ?_
          rintro v62 w63 ⟨Fz65, kw1, ho64⟩
          have hW66 := hW.trans kw1
          have st1 := kw1.stp hW.ok
          refine ⟨(Stp.back st1), ?_⟩
          refine oh_all [4] (by kernel_rfl) rfl ⟨?_, trivial⟩
          · refine oh1_v rfl (e_ld (v := v0_1) tyr_54 (LiesV.raw (((b0.wk kw1 hW.ok)).at_.fld fl_Transfer_link_r_1)) rfl) rfl ?_
            refine ⟨(Stp.back st1), ?_⟩
            refine oh_all [10] (by kernel_rfl) rfl ⟨?_, trivial⟩
            · obtain ⟨x40, hx40, hr⟩ := bind_some' hr
              refine oh1_e rfl (f_app sl_54 hW66 (h0_1.wk kw1 hW.ok) ho64 hx40 rfl rfl) rfl ?_
              rintro v67 w68 ⟨hW69, ho70, hg2, st2, hor71⟩
              refine ⟨(Stp.back (st1.trans st2)), ?_⟩
              refine oh_v 11 rfl (by kernel_rfl) (by kernel_rfl) (by kernel_rfl) (Stp.back (st1.trans st2)) (fun wv_ SV => e_nil_ rfl) rfl ?_
              refine oh_v 12 rfl (by kernel_rfl) (by kernel_rfl) (by kernel_rfl) (Stp.back (st1.trans st2)) (fun wv_ SV => e_fa fa_56_1 rfl) rfl ?_
              refine oh_all [13] (by kernel_rfl) rfl ⟨?_, trivial⟩
              · refine oh1_eN rfl (f_stB (l := kRaw) hW69 ((b0.wk kw1 hW.ok).mut (apart_bo (b0.wk kw1 hW.ok) (h0_1.wk kw1 hW.ok) rfl).symm hg2 st2) fs_Transfer_link_r_1 tyr_54 (OwnV.raw ho70) rfl rfl) ?_
                rintro - w72 ⟨hW73, ho74, hg3, st3⟩
                refine ⟨(Stp.back (st1.trans (st2.trans st3))), ?_⟩
                obtain rfl := Option.some.inj hr
                exact oh_done (by kernel_rfl) ⟨Fz65, hW73, v67, v0_2, p0, ho74, (ho70.mut (apart_bo ((b0.wk kw1 hW.ok).mut (apart_bo (b0.wk kw1 hW.ok) (h0_1.wk kw1 hW.ok) rfl).symm hg2 st2) ho70 rfl) hg3 st3), (((h0_2.wk kw1 hW.ok).mut a01_02 hg2 st2).mut (apart_bo ((b0.wk kw1 hW.ok).mut (apart_bo (b0.wk kw1 hW.ok) (h0_1.wk kw1 hW.ok) rfl).symm hg2 st2) ((h0_2.wk kw1 hW.ok).mut a01_02 hg2 st2) rfl) hg3 st3), (Apart.grown a01_02 (h0_2.wk kw1 hW.ok).ltw hor71)⟩
    · refine Ref.seq (B := G13 g0 c0_1 c0_2 w0 F0) ?_ ?_
      · refine Ref.region (fun s ρ w s' h hr => ?_)
        obtain ⟨F, hW, v0_1, v0_2, g3, p0, b0, h0_1, h0_2, p3, h3, p5, h73, a01_02⟩ := h
        refine ol_v (e_eql h73 rfl) rfl ?_
        refine ol_v (e_as _ rfl) rfl ?_
        obtain rfl := Option.some.inj hr
        exact ol_nil ⟨F, hW, v0_1, v0_2, g3, p0, b0, h0_1, h0_2, p3, h3, p5, h73, rfl, a01_02⟩
      refine Ref.cond (b := fun s => s.t_93) (fun s ρ w ⟨F, hW, v0_1, v0_2, g3, p0, b0, h0_1, h0_2, p3, h3, p5, h73, h93, a01_02⟩ => h93) (Ref.pre (A := G4 g0 c0_1 c0_2 w0 F0) ?_ (fun s ρ w h => (fun ⟨F, hW, v0_1, v0_2, g3, p0, b0, h0_1, h0_2, p3, h3, p5, h73, h93, a01_02⟩ => ⟨F, hW, v0_1, v0_2, g3, p0, b0, h0_1, h0_2, p3, h3, p5, a01_02⟩ : G13 g0 c0_1 c0_2 w0 F0 s ρ w → G4 g0 c0_1 c0_2 w0 F0 s ρ w) h.2)) (Ref.pre (A := G11 g0 c0_1 c0_2 w0 F0) ?_ (fun s ρ w h => (fun ⟨F, hW, v0_1, v0_2, g3, p0, b0, h0_1, h0_2, p3, h3, p5, h73, h93, a01_02⟩ => ⟨F, hW, v0_1, v0_2, g3, p0, b0, h0_1, h0_2, p3, h3, p5, h73, a01_02⟩ : G13 g0 c0_1 c0_2 w0 F0 s ρ w → G11 g0 c0_1 c0_2 w0 F0 s ρ w) h.2))
      · refine Ref.seq (B := G6 g0 c0_1 c0_2 w0 F0) ?_ ?_
        · refine Ref.seq (B := G14 g0 c0_1 c0_2 w0 F0) ?_ ?_
          · refine Ref.regionH (by kernel_rfl) (fun s ρ w ⟨F, hW, v0_1, v0_2, g3, p0, b0, h0_1, h0_2, p3, h3, p5, a01_02⟩ => ⟨F, hW.drewS, v0_1, v0_2, g3, p0, b0.wk (Wk.drew (row := nrow) hW.ok) hW.ok, h0_1.wk (Wk.drew (row := nrow) hW.ok) hW.ok, h0_2.wk (Wk.drew (row := nrow) hW.ok) hW.ok, p3, h3.wk (Wk.drew (row := nrow) hW.ok) hW.ok, p5, a01_02⟩) (fun s ρ w s' h hr => ?_)
            obtain ⟨F, hW, v0_1, v0_2, g3, p0, b0, h0_1, h0_2, p3, h3, p5, a01_02⟩ := h
            refine ⟨fun w' => Stp F w F w', ?_⟩
            refine oh_v 0 rfl (by kernel_rfl) (by kernel_rfl) (by kernel_rfl) (Stp.refl _ _) (fun wv_ SV => e_mv _ p5) rfl ?_
            refine oh_v 1 rfl (by kernel_rfl) (by kernel_rfl) (by kernel_rfl) (Stp.refl _ _) (fun wv_ SV => e_fa fa_48_1 p3) rfl ?_
            refine oh_v 4 rfl (by kernel_rfl) (by kernel_rfl) (by kernel_rfl) (Stp.refl _ _) (fun wv_ SV => e_mv _ p0) rfl ?_
            refine oh_v 5 rfl (by kernel_rfl) (by kernel_rfl) (by kernel_rfl) (Stp.refl _ _) (fun wv_ SV => e_nil_ rfl) rfl ?_
            refine oh_v 6 rfl (by kernel_rfl) (by kernel_rfl) (by kernel_rfl) (Stp.refl _ _) (fun wv_ SV => e_fa fa_56_3 rfl) rfl ?_
            refine oh_all [2, 7] (by kernel_rfl) rfl ⟨?_, ?_, trivial⟩
            · refine oh1_v rfl (e_ld ty_3 (LiesV.int ((h3).at_.fld fl_LinkEvent_1)) rfl) rfl ?_
              refine ⟨(Stp.refl _ _), ?_⟩
              refine oh_all [3, 7] (by kernel_rfl) rfl ⟨?_, ?_, trivial⟩
              · obtain ⟨x75, hx75, hr⟩ := bind_some' hr
                refine oh1_e rfl (f_call [.pointer (some ⟨g0, 0 + 2, none⟩), .int .i64 s.t_3.N] fn_25 (lcons rfl (lcons rfl rfl)) (take.calls hW.ok (Box.cellAt (b0) fl_Transfer_link_r_2) (OwnV.rebase h0_2 (fun _ _ => trivial)) (apart_bo b0 h0_2 rfl) s.t_3.N hx75)) rfl ?_
                rintro _ w78 ⟨v76, w77, rfl, kw1, ho79, hst80⟩
                have hB82 := fun g hg => (OwnV.lt h0_2 (g := g) hg).1
                have st1 := kw1.stpR hW.ok (fun g hg => (OwnV.lt h0_2 hg).2.1)
                have hW81 := hW.transR kw1 hB82
                obtain ⟨hW83, ho84, hg2, st2⟩ := Box.stored (l := kRaw) hW81 (b0.wkR (apart_bo b0 h0_2 rfl).symm kw1 st1) fs_Transfer_link_r_2 tyr_54 (OwnV.raw (ho79.rebase (fun g_ hg_ => (ho79.lt hg_).1.elim (fun h_ => .inl (Nat.le_trans hW.le h_)) (fun h_ => hB82 g_ h_)))) hst80
                refine ⟨(Stp.back (st1.trans st2)), ?_⟩
                refine oh_all [7] (by kernel_rfl) rfl ⟨?_, trivial⟩
                · refine oh1_v rfl (e_ld ty_3 (LiesV.int ((ho84).at_.fld fl_Transfer_link_r_3)) rfl) rfl ?_
                  refine ⟨(Stp.back (st1.trans st2)), ?_⟩
                  refine oh_v 8 rfl (by kernel_rfl) (by kernel_rfl) (by kernel_rfl) (Stp.back (st1.trans st2)) (fun wv_ SV => e_eql rfl rfl) rfl ?_
                  obtain rfl := Option.some.inj hr
                  exact oh_done (by kernel_rfl) ⟨F, hW83, v0_1, v76, p0, ho84, ((h0_1.wkR a01_02.symm kw1 st1).mut (apart_bo (b0.wkR (apart_bo b0 h0_2 rfl).symm kw1 st1) (h0_1.wkR a01_02.symm kw1 st1) rfl) hg2 st2), ((ho79.rebase (fun g_ hg_ => (ho79.lt hg_).1.elim (fun h_ => .inl (Nat.le_trans hW.le h_)) (fun h_ => hB82 g_ h_))).mut (apart_bo (b0.wkR (apart_bo b0 h0_2 rfl).symm kw1 st1) (ho79.rebase (fun g_ hg_ => (ho79.lt hg_).1.elim (fun h_ => .inl (Nat.le_trans hW.le h_)) (fun h_ => hB82 g_ h_))) rfl) hg2 st2), rfl, (Apart.took (fun g_ hg_ => (ho79.lt hg_).1) a01_02.symm h0_1.ltw).symm⟩
              · refine oh1_v rfl (e_ld ty_3 (LiesV.int ((b0).at_.fld fl_Transfer_link_r_3)) rfl) rfl ?_
                refine ⟨(Stp.refl _ _), ?_⟩
                refine oh_all [3] (by kernel_rfl) rfl ⟨?_, trivial⟩
                · obtain ⟨x75, hx75, hr⟩ := bind_some' hr
                  refine oh1_e rfl (f_call [.pointer (some ⟨g0, 0 + 2, none⟩), .int .i64 s.t_3.N] fn_25 (lcons rfl (lcons rfl rfl)) (take.calls hW.ok (Box.cellAt (b0) fl_Transfer_link_r_2) (OwnV.rebase h0_2 (fun _ _ => trivial)) (apart_bo b0 h0_2 rfl) s.t_3.N hx75)) rfl ?_
                  rintro _ w87 ⟨v85, w86, rfl, kw1, ho88, hst89⟩
                  have hB91 := fun g hg => (OwnV.lt h0_2 (g := g) hg).1
                  have st1 := kw1.stpR hW.ok (fun g hg => (OwnV.lt h0_2 hg).2.1)
                  have hW90 := hW.transR kw1 hB91
                  obtain ⟨hW92, ho93, hg2, st2⟩ := Box.stored (l := kRaw) hW90 (b0.wkR (apart_bo b0 h0_2 rfl).symm kw1 st1) fs_Transfer_link_r_2 tyr_54 (OwnV.raw (ho88.rebase (fun g_ hg_ => (ho88.lt hg_).1.elim (fun h_ => .inl (Nat.le_trans hW.le h_)) (fun h_ => hB91 g_ h_)))) hst89
                  refine ⟨(Stp.back (st1.trans st2)), ?_⟩
                  refine oh_v 8 rfl (by kernel_rfl) (by kernel_rfl) (by kernel_rfl) (Stp.back (st1.trans st2)) (fun wv_ SV => e_eql rfl rfl) rfl ?_
                  obtain rfl := Option.some.inj hr
                  exact oh_done (by kernel_rfl) ⟨F, hW92, v0_1, v85, p0, ho93, ((h0_1.wkR a01_02.symm kw1 st1).mut (apart_bo (b0.wkR (apart_bo b0 h0_2 rfl).symm kw1 st1) (h0_1.wkR a01_02.symm kw1 st1) rfl) hg2 st2), ((ho88.rebase (fun g_ hg_ => (ho88.lt hg_).1.elim (fun h_ => .inl (Nat.le_trans hW.le h_)) (fun h_ => hB91 g_ h_))).mut (apart_bo (b0.wkR (apart_bo b0 h0_2 rfl).symm kw1 st1) (ho88.rebase (fun g_ hg_ => (ho88.lt hg_).1.elim (fun h_ => .inl (Nat.le_trans hW.le h_)) (fun h_ => hB91 g_ h_))) rfl) hg2 st2), rfl, (Apart.took (fun g_ hg_ => (ho88.lt hg_).1) a01_02.symm h0_1.ltw).symm⟩
            · refine oh1_v rfl (e_ld ty_3 (LiesV.int ((b0).at_.fld fl_Transfer_link_r_3)) rfl) rfl ?_
              refine ⟨(Stp.refl _ _), ?_⟩
              refine oh_all [2] (by kernel_rfl) rfl ⟨?_, trivial⟩
              · refine oh1_v rfl (e_ld ty_3 (LiesV.int ((h3).at_.fld fl_LinkEvent_1)) rfl) rfl ?_
                refine ⟨(Stp.refl _ _), ?_⟩
                refine oh_all [3] (by kernel_rfl) rfl ⟨?_, trivial⟩
                · obtain ⟨x75, hx75, hr⟩ := bind_some' hr
                  refine oh1_e rfl (f_call [.pointer (some ⟨g0, 0 + 2, none⟩), .int .i64 s.t_3.N] fn_25 (lcons rfl (lcons rfl rfl)) (take.calls hW.ok (Box.cellAt (b0) fl_Transfer_link_r_2) (OwnV.rebase h0_2 (fun _ _ => trivial)) (apart_bo b0 h0_2 rfl) s.t_3.N hx75)) rfl ?_
                  rintro _ w96 ⟨v94, w95, rfl, kw1, ho97, hst98⟩
                  have hB100 := fun g hg => (OwnV.lt h0_2 (g := g) hg).1
                  have st1 := kw1.stpR hW.ok (fun g hg => (OwnV.lt h0_2 hg).2.1)
                  have hW99 := hW.transR kw1 hB100
                  obtain ⟨hW101, ho102, hg2, st2⟩ := Box.stored (l := kRaw) hW99 (b0.wkR (apart_bo b0 h0_2 rfl).symm kw1 st1) fs_Transfer_link_r_2 tyr_54 (OwnV.raw (ho97.rebase (fun g_ hg_ => (ho97.lt hg_).1.elim (fun h_ => .inl (Nat.le_trans hW.le h_)) (fun h_ => hB100 g_ h_)))) hst98
                  refine ⟨(Stp.back (st1.trans st2)), ?_⟩
                  refine oh_v 8 rfl (by kernel_rfl) (by kernel_rfl) (by kernel_rfl) (Stp.back (st1.trans st2)) (fun wv_ SV => e_eql rfl rfl) rfl ?_
                  obtain rfl := Option.some.inj hr
                  exact oh_done (by kernel_rfl) ⟨F, hW101, v0_1, v94, p0, ho102, ((h0_1.wkR a01_02.symm kw1 st1).mut (apart_bo (b0.wkR (apart_bo b0 h0_2 rfl).symm kw1 st1) (h0_1.wkR a01_02.symm kw1 st1) rfl) hg2 st2), ((ho97.rebase (fun g_ hg_ => (ho97.lt hg_).1.elim (fun h_ => .inl (Nat.le_trans hW.le h_)) (fun h_ => hB100 g_ h_))).mut (apart_bo (b0.wkR (apart_bo b0 h0_2 rfl).symm kw1 st1) (ho97.rebase (fun g_ hg_ => (ho97.lt hg_).1.elim (fun h_ => .inl (Nat.le_trans hW.le h_)) (fun h_ => hB100 g_ h_))) rfl) hg2 st2), rfl, (Apart.took (fun g_ hg_ => (ho97.lt hg_).1) a01_02.symm h0_1.ltw).symm⟩
          refine Ref.cond (b := fun s => s.t_103) (fun s ρ w ⟨F, hW, v0_1, v0_2, p0, b0, h0_1, h0_2, h103, a01_02⟩ => h103) (Ref.pre (A := G6 g0 c0_1 c0_2 w0 F0) ?_ (fun s ρ w h => (fun ⟨F, hW, v0_1, v0_2, p0, b0, h0_1, h0_2, h103, a01_02⟩ => ⟨F, hW, v0_1, v0_2, p0, b0, h0_1, h0_2, a01_02⟩ : G14 g0 c0_1 c0_2 w0 F0 s ρ w → G6 g0 c0_1 c0_2 w0 F0 s ρ w) h.2)) (Ref.pre (A := G6 g0 c0_1 c0_2 w0 F0) ?_ (fun s ρ w h => (fun ⟨F, hW, v0_1, v0_2, p0, b0, h0_1, h0_2, h103, a01_02⟩ => ⟨F, hW, v0_1, v0_2, p0, b0, h0_1, h0_2, a01_02⟩ : G14 g0 c0_1 c0_2 w0 F0 s ρ w → G6 g0 c0_1 c0_2 w0 F0 s ρ w) h.2))
          · refine Ref.region (fun s ρ w s' h hr => ?_)
            obtain ⟨F, hW, v0_1, v0_2, p0, b0, h0_1, h0_2, a01_02⟩ := h
            refine ol_v (e_mv _ p0) rfl ?_
            refine ol_v (e_nil_ rfl) rfl ?_
            refine ol_v (e_fa fa_56_3 rfl) rfl ?_
            refine ol_v (e_ld ty_3 (LiesV.int ((b0).at_.fld fl_Transfer_link_r_3)) rfl) rfl ?_
            refine ol_v (e_add rfl rfl) rfl ?_
            refine ol_v (e_nil_ rfl) rfl ?_
            refine ol_v (e_fa fa_56_3 rfl) rfl ?_
            refine ol_eN (f_stB hW b0 fs_Transfer_link_r_3 ty_3 (val_int _ _) rfl rfl) rfl ?_
            rintro - w103 ⟨hW104, ho105, hg1, st1⟩
            obtain rfl := Option.some.inj hr
            exact ol_nil ⟨F, hW104, v0_1, v0_2, p0, ho105, (h0_1.mut (apart_bo b0 h0_1 rfl) hg1 st1), (h0_2.mut (apart_bo b0 h0_2 rfl) hg1 st1), a01_02⟩
          · exact Ref.skip
        refine Ref.regionH (by kernel_rfl) (fun s ρ w ⟨F, hW, v0_1, v0_2, p0, b0, h0_1, h0_2, a01_02⟩ => ⟨F, hW.drewS, v0_1, v0_2, p0, b0.wk (Wk.drew (row := nrow) hW.ok) hW.ok, h0_1.wk (Wk.drew (row := nrow) hW.ok) hW.ok, h0_2.wk (Wk.drew (row := nrow) hW.ok) hW.ok, a01_02⟩) (fun s ρ w s' h hr => ?_)
        obtain ⟨F, hW, v0_1, v0_2, p0, b0, h0_1, h0_2, a01_02⟩ := h
        refine ⟨fun w' => Stp F w F w', ?_⟩
        refine oh_v 0 rfl (by kernel_rfl) (by kernel_rfl) (by kernel_rfl) (Stp.refl _ _) (fun wv_ SV => e_mv _ p0) rfl ?_
        refine oh_v 1 rfl (by kernel_rfl) (by kernel_rfl) (by kernel_rfl) (Stp.refl _ _) (fun wv_ SV => e_mv _ p0) rfl ?_
        refine oh_v 2 rfl (by kernel_rfl) (by kernel_rfl) (by kernel_rfl) (Stp.refl _ _) (fun wv_ SV => e_nil_ rfl) rfl ?_
        refine oh_v 3 rfl (by kernel_rfl) (by kernel_rfl) (by kernel_rfl) (Stp.refl _ _) (fun wv_ SV => e_fa fa_56_2 rfl) rfl ?_
        refine oh_v 5 rfl (by kernel_rfl) (by kernel_rfl) (by kernel_rfl) (Stp.refl _ _) (fun wv_ SV => e_mv _ p0) rfl ?_
        refine oh_v 6 rfl (by kernel_rfl) (by kernel_rfl) (by kernel_rfl) (Stp.refl _ _) (fun wv_ SV => e_nil_ rfl) rfl ?_
        refine oh_v 7 rfl (by kernel_rfl) (by kernel_rfl) (by kernel_rfl) (Stp.refl _ _) (fun wv_ SV => e_fa fa_56_3 rfl) rfl ?_
        refine oh_all [4, 8] (by kernel_rfl) rfl ⟨?_, ?_, trivial⟩
        · refine oh1_v rfl (e_ld (v := v0_2) tyr_54 (LiesV.raw ((b0).at_.fld fl_Transfer_link_r_2)) rfl) rfl ?_
          refine ⟨(Stp.refl _ _), ?_⟩
          refine oh_all [8] (by kernel_rfl) rfl ⟨?_, trivial⟩
          · refine oh1_v rfl (e_ld ty_3 (LiesV.int ((b0).at_.fld fl_Transfer_link_r_3)) rfl) rfl ?_
            refine ⟨(Stp.refl _ _), ?_⟩
            refine oh_all [9] (by kernel_rfl) rfl ⟨?_, trivial⟩
            · refine oh1_e rfl (f_bslF sl_54 hW ([s.t_0.count] : List Int) [.int .i64 s.t_0.count] (by exact ⟨_, _, rfl, (val_int _ _), rfl⟩) rfl (Nat.le_of_ble_eq_true rfl) (lcons (congrArg (Prod.mk 0) rfl) rfl)) rfl ?_
              rintro v106 w107 ⟨Fz109, kw1, ho108⟩
              have hW110 := hW.trans kw1
              have st1 := kw1.stp hW.ok
              refine ⟨(Stp.back st1), ?_⟩
              refine oh_all [10] (by kernel_rfl) rfl ⟨?_, trivial⟩
              · obtain ⟨x111, hx111, hr⟩ := bind_some' hr
                refine oh1_e rfl (f_app sl_54 hW110 (h0_2.wk kw1 hW.ok) ho108 hx111 rfl rfl) rfl ?_
                rintro v112 w113 ⟨hW114, ho115, hg2, st2, hor116⟩
                refine ⟨(Stp.back (st1.trans st2)), ?_⟩
                refine oh_v 11 rfl (by kernel_rfl) (by kernel_rfl) (by kernel_rfl) (Stp.back (st1.trans st2)) (fun wv_ SV => e_nil_ rfl) rfl ?_
                refine oh_v 12 rfl (by kernel_rfl) (by kernel_rfl) (by kernel_rfl) (Stp.back (st1.trans st2)) (fun wv_ SV => e_fa fa_56_2 rfl) rfl ?_
                refine oh_all [13] (by kernel_rfl) rfl ⟨?_, trivial⟩
                · refine oh1_eN rfl (f_stB (l := kRaw) hW114 ((b0.wk kw1 hW.ok).mut (apart_bo (b0.wk kw1 hW.ok) (h0_2.wk kw1 hW.ok) rfl).symm hg2 st2) fs_Transfer_link_r_2 tyr_54 (OwnV.raw ho115) rfl rfl) ?_
                  rintro - w117 ⟨hW118, ho119, hg3, st3⟩
                  refine ⟨(Stp.back (st1.trans (st2.trans st3))), ?_⟩
                  obtain rfl := Option.some.inj hr
                  exact oh_done (by kernel_rfl) ⟨Fz109, hW118, v0_1, v112, p0, ho119, (((h0_1.wk kw1 hW.ok).mut a01_02.symm hg2 st2).mut (apart_bo ((b0.wk kw1 hW.ok).mut (apart_bo (b0.wk kw1 hW.ok) (h0_2.wk kw1 hW.ok) rfl).symm hg2 st2) ((h0_1.wk kw1 hW.ok).mut a01_02.symm hg2 st2) rfl) hg3 st3), (ho115.mut (apart_bo ((b0.wk kw1 hW.ok).mut (apart_bo (b0.wk kw1 hW.ok) (h0_2.wk kw1 hW.ok) rfl).symm hg2 st2) ho115 rfl) hg3 st3), (Apart.grown a01_02.symm (h0_1.wk kw1 hW.ok).ltw hor116).symm⟩
        · refine oh1_v rfl (e_ld ty_3 (LiesV.int ((b0).at_.fld fl_Transfer_link_r_3)) rfl) rfl ?_
          refine ⟨(Stp.refl _ _), ?_⟩
          refine oh_all [4, 9] (by kernel_rfl) rfl ⟨?_, ?_, trivial⟩
          · refine oh1_v rfl (e_ld (v := v0_2) tyr_54 (LiesV.raw ((b0).at_.fld fl_Transfer_link_r_2)) rfl) rfl ?_
            refine ⟨(Stp.refl _ _), ?_⟩
            refine oh_all [9] (by kernel_rfl) rfl ⟨?_, trivial⟩
            · refine oh1_e rfl (f_bslF sl_54 hW ([s.t_0.count] : List Int) [.int .i64 s.t_0.count] (by exact ⟨_, _, rfl, (val_int _ _), rfl⟩) rfl (Nat.le_of_ble_eq_true rfl) (lcons (congrArg (Prod.mk 0) rfl) rfl)) rfl ?_
              rintro v120 w121 ⟨Fz123, kw1, ho122⟩
              have hW124 := hW.trans kw1
              have st1 := kw1.stp hW.ok
              refine ⟨(Stp.back st1), ?_⟩
              refine oh_all [10] (by kernel_rfl) rfl ⟨?_, trivial⟩
              · obtain ⟨x111, hx111, hr⟩ := bind_some' hr
                refine oh1_e rfl (f_app sl_54 hW124 (h0_2.wk kw1 hW.ok) ho122 hx111 rfl rfl) rfl ?_
                rintro v125 w126 ⟨hW127, ho128, hg2, st2, hor129⟩
                refine ⟨(Stp.back (st1.trans st2)), ?_⟩
                refine oh_v 11 rfl (by kernel_rfl) (by kernel_rfl) (by kernel_rfl) (Stp.back (st1.trans st2)) (fun wv_ SV => e_nil_ rfl) rfl ?_
                refine oh_v 12 rfl (by kernel_rfl) (by kernel_rfl) (by kernel_rfl) (Stp.back (st1.trans st2)) (fun wv_ SV => e_fa fa_56_2 rfl) rfl ?_
                refine oh_all [13] (by kernel_rfl) rfl ⟨?_, trivial⟩
                · refine oh1_eN rfl (f_stB (l := kRaw) hW127 ((b0.wk kw1 hW.ok).mut (apart_bo (b0.wk kw1 hW.ok) (h0_2.wk kw1 hW.ok) rfl).symm hg2 st2) fs_Transfer_link_r_2 tyr_54 (OwnV.raw ho128) rfl rfl) ?_
                  rintro - w130 ⟨hW131, ho132, hg3, st3⟩
                  refine ⟨(Stp.back (st1.trans (st2.trans st3))), ?_⟩
                  obtain rfl := Option.some.inj hr
                  exact oh_done (by kernel_rfl) ⟨Fz123, hW131, v0_1, v125, p0, ho132, (((h0_1.wk kw1 hW.ok).mut a01_02.symm hg2 st2).mut (apart_bo ((b0.wk kw1 hW.ok).mut (apart_bo (b0.wk kw1 hW.ok) (h0_2.wk kw1 hW.ok) rfl).symm hg2 st2) ((h0_1.wk kw1 hW.ok).mut a01_02.symm hg2 st2) rfl) hg3 st3), (ho128.mut (apart_bo ((b0.wk kw1 hW.ok).mut (apart_bo (b0.wk kw1 hW.ok) (h0_2.wk kw1 hW.ok) rfl).symm hg2 st2) ho128 rfl) hg3 st3), (Apart.grown a01_02.symm (h0_1.wk kw1 hW.ok).ltw hor129).symm⟩
          · refine oh1_e rfl (f_bslF sl_54 hW ([s.t_0.count] : List Int) [.int .i64 s.t_0.count] (by exact ⟨_, _, rfl, (val_int _ _), rfl⟩) rfl (Nat.le_of_ble_eq_true rfl) (lcons (congrArg (Prod.mk 0) rfl) rfl)) rfl ?_
            rintro v133 w134 ⟨Fz136, kw1, ho135⟩
            have hW137 := hW.trans kw1
            have st1 := kw1.stp hW.ok
            refine ⟨(Stp.back st1), ?_⟩
            refine oh_all [4] (by kernel_rfl) rfl ⟨?_, trivial⟩
            · refine oh1_v rfl (e_ld (v := v0_2) tyr_54 (LiesV.raw (((b0.wk kw1 hW.ok)).at_.fld fl_Transfer_link_r_2)) rfl) rfl ?_
              refine ⟨(Stp.back st1), ?_⟩
              refine oh_all [10] (by kernel_rfl) rfl ⟨?_, trivial⟩
              · obtain ⟨x111, hx111, hr⟩ := bind_some' hr
                refine oh1_e rfl (f_app sl_54 hW137 (h0_2.wk kw1 hW.ok) ho135 hx111 rfl rfl) rfl ?_
                rintro v138 w139 ⟨hW140, ho141, hg2, st2, hor142⟩
                refine ⟨(Stp.back (st1.trans st2)), ?_⟩
                refine oh_v 11 rfl (by kernel_rfl) (by kernel_rfl) (by kernel_rfl) (Stp.back (st1.trans st2)) (fun wv_ SV => e_nil_ rfl) rfl ?_
                refine oh_v 12 rfl (by kernel_rfl) (by kernel_rfl) (by kernel_rfl) (Stp.back (st1.trans st2)) (fun wv_ SV => e_fa fa_56_2 rfl) rfl ?_
                refine oh_all [13] (by kernel_rfl) rfl ⟨?_, trivial⟩
                · refine oh1_eN rfl (f_stB (l := kRaw) hW140 ((b0.wk kw1 hW.ok).mut (apart_bo (b0.wk kw1 hW.ok) (h0_2.wk kw1 hW.ok) rfl).symm hg2 st2) fs_Transfer_link_r_2 tyr_54 (OwnV.raw ho141) rfl rfl) ?_
                  rintro - w143 ⟨hW144, ho145, hg3, st3⟩
                  refine ⟨(Stp.back (st1.trans (st2.trans st3))), ?_⟩
                  obtain rfl := Option.some.inj hr
                  exact oh_done (by kernel_rfl) ⟨Fz136, hW144, v0_1, v138, p0, ho145, (((h0_1.wk kw1 hW.ok).mut a01_02.symm hg2 st2).mut (apart_bo ((b0.wk kw1 hW.ok).mut (apart_bo (b0.wk kw1 hW.ok) (h0_2.wk kw1 hW.ok) rfl).symm hg2 st2) ((h0_1.wk kw1 hW.ok).mut a01_02.symm hg2 st2) rfl) hg3 st3), (ho141.mut (apart_bo ((b0.wk kw1 hW.ok).mut (apart_bo (b0.wk kw1 hW.ok) (h0_2.wk kw1 hW.ok) rfl).symm hg2 st2) ho141 rfl) hg3 st3), (Apart.grown a01_02.symm (h0_1.wk kw1 hW.ok).ltw hor142).symm⟩
      · refine Ref.seq (B := G15 g0 c0_1 c0_2 w0 F0) ?_ ?_
        · refine Ref.region (fun s ρ w s' h hr => ?_)
          obtain ⟨F, hW, v0_1, v0_2, g3, p0, b0, h0_1, h0_2, p3, h3, p5, h73, a01_02⟩ := h
          refine ol_v (e_eql h73 rfl) rfl ?_
          refine ol_v (e_as _ rfl) rfl ?_
          obtain rfl := Option.some.inj hr
          exact ol_nil ⟨F, hW, v0_1, v0_2, g3, p0, b0, h0_1, h0_2, p3, h3, p5, h73, rfl, a01_02⟩
        refine Ref.cond (b := fun s => s.t_124) (fun s ρ w ⟨F, hW, v0_1, v0_2, g3, p0, b0, h0_1, h0_2, p3, h3, p5, h73, h124, a01_02⟩ => h124) (Ref.pre (A := G1 g0 c0_1 c0_2 w0 F0) ?_ (fun s ρ w h => (fun ⟨F, hW, v0_1, v0_2, g3, p0, b0, h0_1, h0_2, p3, h3, p5, h73, h124, a01_02⟩ => ⟨F, hW, v0_1, v0_2, g3, p0, b0, h0_1, h0_2, p3, h3, a01_02⟩ : G15 g0 c0_1 c0_2 w0 F0 s ρ w → G1 g0 c0_1 c0_2 w0 F0 s ρ w) h.2)) (Ref.pre (A := G11 g0 c0_1 c0_2 w0 F0) ?_ (fun s ρ w h => (fun ⟨F, hW, v0_1, v0_2, g3, p0, b0, h0_1, h0_2, p3, h3, p5, h73, h124, a01_02⟩ => ⟨F, hW, v0_1, v0_2, g3, p0, b0, h0_1, h0_2, p3, h3, p5, h73, a01_02⟩ : G15 g0 c0_1 c0_2 w0 F0 s ρ w → G11 g0 c0_1 c0_2 w0 F0 s ρ w) h.2))
        · refine Ref.regionH (by kernel_rfl) (fun s ρ w ⟨F, hW, v0_1, v0_2, g3, p0, b0, h0_1, h0_2, p3, h3, a01_02⟩ => ⟨F, hW.drewS, v0_1, v0_2, g3, p0, b0.wk (Wk.drew (row := nrow) hW.ok) hW.ok, h0_1.wk (Wk.drew (row := nrow) hW.ok) hW.ok, h0_2.wk (Wk.drew (row := nrow) hW.ok) hW.ok, p3, h3.wk (Wk.drew (row := nrow) hW.ok) hW.ok, a01_02⟩) (fun s ρ w s' h hr => ?_)
          obtain ⟨F, hW, v0_1, v0_2, g3, p0, b0, h0_1, h0_2, p3, h3, a01_02⟩ := h
          refine ⟨fun w' => Stp F w F w', ?_⟩
          refine oh_v 0 rfl (by kernel_rfl) (by kernel_rfl) (by kernel_rfl) (Stp.refl _ _) (fun wv_ SV => e_mv _ p0) rfl ?_
          refine oh_v 1 rfl (by kernel_rfl) (by kernel_rfl) (by kernel_rfl) (Stp.refl _ _) (fun wv_ SV => e_mv _ p0) rfl ?_
          refine oh_v 2 rfl (by kernel_rfl) (by kernel_rfl) (by kernel_rfl) (Stp.refl _ _) (fun wv_ SV => e_nil_ rfl) rfl ?_
          refine oh_v 3 rfl (by kernel_rfl) (by kernel_rfl) (by kernel_rfl) (Stp.refl _ _) (fun wv_ SV => e_fa fa_56_1 rfl) rfl ?_
          refine oh_v 5 rfl (by kernel_rfl) (by kernel_rfl) (by kernel_rfl) (Stp.refl _ _) (fun wv_ SV => e_mv _ p0) rfl ?_
          refine oh_v 6 rfl (by kernel_rfl) (by kernel_rfl) (by kernel_rfl) (Stp.refl _ _) (fun wv_ SV => e_nil_ rfl) rfl ?_
          refine oh_v 7 rfl (by kernel_rfl) (by kernel_rfl) (by kernel_rfl) (Stp.refl _ _) (fun wv_ SV => e_fa fa_56_1 rfl) rfl ?_
          refine oh_v 9 rfl (by kernel_rfl) (by kernel_rfl) (by kernel_rfl) (Stp.refl _ _) (fun wv_ SV => e_fa fa_48_1 p3) rfl ?_
          refine oh_all [4, 8, 10] (by kernel_rfl) rfl ⟨?_, ?_, ?_, trivial⟩
          · refine oh1_v rfl (e_ld (v := v0_1) tyr_54 (LiesV.raw ((b0).at_.fld fl_Transfer_link_r_1)) rfl) rfl ?_
            refine ⟨(Stp.refl _ _), ?_⟩
            refine oh_all [8, 10] (by kernel_rfl) rfl ⟨?_, ?_, trivial⟩
            · refine oh1_v rfl (e_ld (v := v0_1) tyr_54 (LiesV.raw ((b0).at_.fld fl_Transfer_link_r_1)) rfl) rfl ?_
              refine ⟨(Stp.refl _ _), ?_⟩
              refine oh_all [10] (by kernel_rfl) rfl ⟨?_, trivial⟩
              · refine oh1_v rfl (e_ld ty_3 (LiesV.int ((h3).at_.fld fl_LinkEvent_1)) rfl) rfl ?_
                refine ⟨(Stp.refl _ _), ?_⟩
                obtain ⟨x146, hx146, hr⟩ := bind_some' hr
                obtain ⟨g147, o148, c149, hv150, L151⟩ := OwnV.at_ h0_1 hx146
                refine oh_v 11 rfl (by kernel_rfl) (by kernel_rfl) (by kernel_rfl) (Stp.refl _ _) (fun wv_ SV => e_ixO sl_54 hv150 hx146 rfl rfl) rfl ?_
                refine oh_all [12] (by kernel_rfl) rfl ⟨?_, trivial⟩
                · refine oh1_v rfl (e_ld ty_3 (LiesV.int L151) rfl) rfl ?_
                  refine ⟨(Stp.refl _ _), ?_⟩
                  refine oh_all [13] (by kernel_rfl) rfl ⟨?_, trivial⟩
                  · refine oh1_e rfl (f_bslF sl_54 hW ([x146] : List Int) [.int .i64 x146] (by exact ⟨_, _, rfl, (val_int _ _), rfl⟩) rfl (Nat.le_of_ble_eq_true rfl) (lcons (congrArg (Prod.mk 0) rfl) rfl)) rfl ?_
                    rintro v152 w153 ⟨Fz155, kw1, ho154⟩
                    have hW156 := hW.trans kw1
                    have st1 := kw1.stp hW.ok
                    refine ⟨(Stp.back st1), ?_⟩
                    refine oh_all [14] (by kernel_rfl) rfl ⟨?_, trivial⟩
                    · obtain ⟨x157, hx157, hr⟩ := bind_some' hr
                      refine oh1_e rfl (f_app sl_54 hW156 (h0_1.wk kw1 hW.ok) ho154 hx157 rfl rfl) rfl ?_
                      rintro v158 w159 ⟨hW160, ho161, hg2, st2, hor162⟩
                      refine ⟨(Stp.back (st1.trans st2)), ?_⟩
                      refine oh_v 15 rfl (by kernel_rfl) (by kernel_rfl) (by kernel_rfl) (Stp.back (st1.trans st2)) (fun wv_ SV => e_nil_ rfl) rfl ?_
                      refine oh_v 16 rfl (by kernel_rfl) (by kernel_rfl) (by kernel_rfl) (Stp.back (st1.trans st2)) (fun wv_ SV => e_fa fa_56_1 rfl) rfl ?_
                      refine oh_all [17] (by kernel_rfl) rfl ⟨?_, trivial⟩
                      · refine oh1_eN rfl (f_stB (l := kRaw) hW160 ((b0.wk kw1 hW.ok).mut (apart_bo (b0.wk kw1 hW.ok) (h0_1.wk kw1 hW.ok) rfl).symm hg2 st2) fs_Transfer_link_r_1 tyr_54 (OwnV.raw ho161) rfl rfl) ?_
                        rintro - w163 ⟨hW164, ho165, hg3, st3⟩
                        refine ⟨(Stp.back (st1.trans (st2.trans st3))), ?_⟩
                        obtain rfl := Option.some.inj hr
                        exact oh_done (by kernel_rfl) ⟨Fz155, hW164, v158, v0_2, p0, ho165, (ho161.mut (apart_bo ((b0.wk kw1 hW.ok).mut (apart_bo (b0.wk kw1 hW.ok) (h0_1.wk kw1 hW.ok) rfl).symm hg2 st2) ho161 rfl) hg3 st3), (((h0_2.wk kw1 hW.ok).mut a01_02 hg2 st2).mut (apart_bo ((b0.wk kw1 hW.ok).mut (apart_bo (b0.wk kw1 hW.ok) (h0_1.wk kw1 hW.ok) rfl).symm hg2 st2) ((h0_2.wk kw1 hW.ok).mut a01_02 hg2 st2) rfl) hg3 st3), (Apart.grown a01_02 (h0_2.wk kw1 hW.ok).ltw hor162)⟩
            · refine oh1_v rfl (e_ld ty_3 (LiesV.int ((h3).at_.fld fl_LinkEvent_1)) rfl) rfl ?_
              refine ⟨(Stp.refl _ _), ?_⟩
              refine oh_all [8] (by kernel_rfl) rfl ⟨?_, trivial⟩
              · refine oh1_v rfl (e_ld (v := v0_1) tyr_54 (LiesV.raw ((b0).at_.fld fl_Transfer_link_r_1)) rfl) rfl ?_
                refine ⟨(Stp.refl _ _), ?_⟩
                obtain ⟨x146, hx146, hr⟩ := bind_some' hr
                obtain ⟨g166, o167, c168, hv169, L170⟩ := OwnV.at_ h0_1 hx146
                refine oh_v 11 rfl (by kernel_rfl) (by kernel_rfl) (by kernel_rfl) (Stp.refl _ _) (fun wv_ SV => e_ixO sl_54 hv169 hx146 rfl rfl) rfl ?_
                refine oh_all [12] (by kernel_rfl) rfl ⟨?_, trivial⟩
                · refine oh1_v rfl (e_ld ty_3 (LiesV.int L170) rfl) rfl ?_
                  refine ⟨(Stp.refl _ _), ?_⟩
                  refine oh_all [13] (by kernel_rfl) rfl ⟨?_, trivial⟩
                  · refine oh1_e rfl (f_bslF sl_54 hW ([x146] : List Int) [.int .i64 x146] (by exact ⟨_, _, rfl, (val_int _ _), rfl⟩) rfl (Nat.le_of_ble_eq_true rfl) (lcons (congrArg (Prod.mk 0) rfl) rfl)) rfl ?_
                    rintro v171 w172 ⟨Fz174, kw1, ho173⟩
                    have hW175 := hW.trans kw1
                    have st1 := kw1.stp hW.ok
                    refine ⟨(Stp.back st1), ?_⟩
                    refine oh_all [14] (by kernel_rfl) rfl ⟨?_, trivial⟩
                    · obtain ⟨x157, hx157, hr⟩ := bind_some' hr
                      refine oh1_e rfl (f_app sl_54 hW175 (h0_1.wk kw1 hW.ok) ho173 hx157 rfl rfl) rfl ?_
                      rintro v176 w177 ⟨hW178, ho179, hg2, st2, hor180⟩
                      refine ⟨(Stp.back (st1.trans st2)), ?_⟩
                      refine oh_v 15 rfl (by kernel_rfl) (by kernel_rfl) (by kernel_rfl) (Stp.back (st1.trans st2)) (fun wv_ SV => e_nil_ rfl) rfl ?_
                      refine oh_v 16 rfl (by kernel_rfl) (by kernel_rfl) (by kernel_rfl) (Stp.back (st1.trans st2)) (fun wv_ SV => e_fa fa_56_1 rfl) rfl ?_
                      refine oh_all [17] (by kernel_rfl) rfl ⟨?_, trivial⟩
                      · refine oh1_eN rfl (f_stB (l := kRaw) hW178 ((b0.wk kw1 hW.ok).mut (apart_bo (b0.wk kw1 hW.ok) (h0_1.wk kw1 hW.ok) rfl).symm hg2 st2) fs_Transfer_link_r_1 tyr_54 (OwnV.raw ho179) rfl rfl) ?_
                        rintro - w181 ⟨hW182, ho183, hg3, st3⟩
                        refine ⟨(Stp.back (st1.trans (st2.trans st3))), ?_⟩
                        obtain rfl := Option.some.inj hr
                        exact oh_done (by kernel_rfl) ⟨Fz174, hW182, v176, v0_2, p0, ho183, (ho179.mut (apart_bo ((b0.wk kw1 hW.ok).mut (apart_bo (b0.wk kw1 hW.ok) (h0_1.wk kw1 hW.ok) rfl).symm hg2 st2) ho179 rfl) hg3 st3), (((h0_2.wk kw1 hW.ok).mut a01_02 hg2 st2).mut (apart_bo ((b0.wk kw1 hW.ok).mut (apart_bo (b0.wk kw1 hW.ok) (h0_1.wk kw1 hW.ok) rfl).symm hg2 st2) ((h0_2.wk kw1 hW.ok).mut a01_02 hg2 st2) rfl) hg3 st3), (Apart.grown a01_02 (h0_2.wk kw1 hW.ok).ltw hor180)⟩
          · refine oh1_v rfl (e_ld (v := v0_1) tyr_54 (LiesV.raw ((b0).at_.fld fl_Transfer_link_r_1)) rfl) rfl ?_
            refine ⟨(Stp.refl _ _), ?_⟩
            refine oh_all [4, 10] (by kernel_rfl) rfl ⟨?_, ?_, trivial⟩
            · refine oh1_v rfl (e_ld (v := v0_1) tyr_54 (LiesV.raw ((b0).at_.fld fl_Transfer_link_r_1)) rfl) rfl ?_
              refine ⟨(Stp.refl _ _), ?_⟩
              refine oh_all [10] (by kernel_rfl) rfl ⟨?_, trivial⟩
              · refine oh1_v rfl (e_ld ty_3 (LiesV.int ((h3).at_.fld fl_LinkEvent_1)) rfl) rfl ?_
                refine ⟨(Stp.refl _ _), ?_⟩
                obtain ⟨x146, hx146, hr⟩ := bind_some' hr
                obtain ⟨g184, o185, c186, hv187, L188⟩ := OwnV.at_ h0_1 hx146
                refine oh_v 11 rfl (by kernel_rfl) (by kernel_rfl) (by kernel_rfl) (Stp.refl _ _) (fun wv_ SV => e_ixO sl_54 hv187 hx146 rfl rfl) rfl ?_
                refine oh_all [12] (by kernel_rfl) rfl ⟨?_, trivial⟩
                · refine oh1_v rfl (e_ld ty_3 (LiesV.int L188) rfl) rfl ?_
                  refine ⟨(Stp.refl _ _), ?_⟩
                  refine oh_all [13] (by kernel_rfl) rfl ⟨?_, trivial⟩
                  · refine oh1_e rfl (f_bslF sl_54 hW ([x146] : List Int) [.int .i64 x146] (by exact ⟨_, _, rfl, (val_int _ _), rfl⟩) rfl (Nat.le_of_ble_eq_true rfl) (lcons (congrArg (Prod.mk 0) rfl) rfl)) rfl ?_
                    rintro v189 w190 ⟨Fz192, kw1, ho191⟩
                    have hW193 := hW.trans kw1
                    have st1 := kw1.stp hW.ok
                    refine ⟨(Stp.back st1), ?_⟩
                    refine oh_all [14] (by kernel_rfl) rfl ⟨?_, trivial⟩
                    · obtain ⟨x157, hx157, hr⟩ := bind_some' hr
                      refine oh1_e rfl (f_app sl_54 hW193 (h0_1.wk kw1 hW.ok) ho191 hx157 rfl rfl) rfl ?_
                      rintro v194 w195 ⟨hW196, ho197, hg2, st2, hor198⟩
                      refine ⟨(Stp.back (st1.trans st2)), ?_⟩
                      refine oh_v 15 rfl (by kernel_rfl) (by kernel_rfl) (by kernel_rfl) (Stp.back (st1.trans st2)) (fun wv_ SV => e_nil_ rfl) rfl ?_
                      refine oh_v 16 rfl (by kernel_rfl) (by kernel_rfl) (by kernel_rfl) (Stp.back (st1.trans st2)) (fun wv_ SV => e_fa fa_56_1 rfl) rfl ?_
                      refine oh_all [17] (by kernel_rfl) rfl ⟨?_, trivial⟩
                      · refine oh1_eN rfl (f_stB (l := kRaw) hW196 ((b0.wk kw1 hW.ok).mut (apart_bo (b0.wk kw1 hW.ok) (h0_1.wk kw1 hW.ok) rfl).symm hg2 st2) fs_Transfer_link_r_1 tyr_54 (OwnV.raw ho197) rfl rfl) ?_
                        rintro - w199 ⟨hW200, ho201, hg3, st3⟩
                        refine ⟨(Stp.back (st1.trans (st2.trans st3))), ?_⟩
                        obtain rfl := Option.some.inj hr
                        exact oh_done (by kernel_rfl) ⟨Fz192, hW200, v194, v0_2, p0, ho201, (ho197.mut (apart_bo ((b0.wk kw1 hW.ok).mut (apart_bo (b0.wk kw1 hW.ok) (h0_1.wk kw1 hW.ok) rfl).symm hg2 st2) ho197 rfl) hg3 st3), (((h0_2.wk kw1 hW.ok).mut a01_02 hg2 st2).mut (apart_bo ((b0.wk kw1 hW.ok).mut (apart_bo (b0.wk kw1 hW.ok) (h0_1.wk kw1 hW.ok) rfl).symm hg2 st2) ((h0_2.wk kw1 hW.ok).mut a01_02 hg2 st2) rfl) hg3 st3), (Apart.grown a01_02 (h0_2.wk kw1 hW.ok).ltw hor198)⟩
            · refine oh1_v rfl (e_ld ty_3 (LiesV.int ((h3).at_.fld fl_LinkEvent_1)) rfl) rfl ?_
              refine ⟨(Stp.refl _ _), ?_⟩
              obtain ⟨x146, hx146, hr⟩ := bind_some' hr
              obtain ⟨g202, o203, c204, hv205, L206⟩ := OwnV.at_ h0_1 hx146
              refine oh_v 11 rfl (by kernel_rfl) (by kernel_rfl) (by kernel_rfl) (Stp.refl _ _) (fun wv_ SV => e_ixO sl_54 hv205 hx146 rfl rfl) rfl ?_
              refine oh_all [4, 12] (by kernel_rfl) rfl ⟨?_, ?_, trivial⟩
              · refine oh1_v rfl (e_ld (v := v0_1) tyr_54 (LiesV.raw ((b0).at_.fld fl_Transfer_link_r_1)) rfl) rfl ?_
                refine ⟨(Stp.refl _ _), ?_⟩
                refine oh_all [12] (by kernel_rfl) rfl ⟨?_, trivial⟩
                · refine oh1_v rfl (e_ld ty_3 (LiesV.int L206) rfl) rfl ?_
                  refine ⟨(Stp.refl _ _), ?_⟩
                  refine oh_all [13] (by kernel_rfl) rfl ⟨?_, trivial⟩
                  · refine oh1_e rfl (f_bslF sl_54 hW ([x146] : List Int) [.int .i64 x146] (by exact ⟨_, _, rfl, (val_int _ _), rfl⟩) rfl (Nat.le_of_ble_eq_true rfl) (lcons (congrArg (Prod.mk 0) rfl) rfl)) rfl ?_
                    rintro v207 w208 ⟨Fz210, kw1, ho209⟩
                    have hW211 := hW.trans kw1
                    have st1 := kw1.stp hW.ok
                    refine ⟨(Stp.back st1), ?_⟩
                    refine oh_all [14] (by kernel_rfl) rfl ⟨?_, trivial⟩
                    · obtain ⟨x157, hx157, hr⟩ := bind_some' hr
                      refine oh1_e rfl (f_app sl_54 hW211 (h0_1.wk kw1 hW.ok) ho209 hx157 rfl rfl) rfl ?_
                      rintro v212 w213 ⟨hW214, ho215, hg2, st2, hor216⟩
                      refine ⟨(Stp.back (st1.trans st2)), ?_⟩
                      refine oh_v 15 rfl (by kernel_rfl) (by kernel_rfl) (by kernel_rfl) (Stp.back (st1.trans st2)) (fun wv_ SV => e_nil_ rfl) rfl ?_
                      refine oh_v 16 rfl (by kernel_rfl) (by kernel_rfl) (by kernel_rfl) (Stp.back (st1.trans st2)) (fun wv_ SV => e_fa fa_56_1 rfl) rfl ?_
                      refine oh_all [17] (by kernel_rfl) rfl ⟨?_, trivial⟩
                      · refine oh1_eN rfl (f_stB (l := kRaw) hW214 ((b0.wk kw1 hW.ok).mut (apart_bo (b0.wk kw1 hW.ok) (h0_1.wk kw1 hW.ok) rfl).symm hg2 st2) fs_Transfer_link_r_1 tyr_54 (OwnV.raw ho215) rfl rfl) ?_
                        rintro - w217 ⟨hW218, ho219, hg3, st3⟩
                        refine ⟨(Stp.back (st1.trans (st2.trans st3))), ?_⟩
                        obtain rfl := Option.some.inj hr
                        exact oh_done (by kernel_rfl) ⟨Fz210, hW218, v212, v0_2, p0, ho219, (ho215.mut (apart_bo ((b0.wk kw1 hW.ok).mut (apart_bo (b0.wk kw1 hW.ok) (h0_1.wk kw1 hW.ok) rfl).symm hg2 st2) ho215 rfl) hg3 st3), (((h0_2.wk kw1 hW.ok).mut a01_02 hg2 st2).mut (apart_bo ((b0.wk kw1 hW.ok).mut (apart_bo (b0.wk kw1 hW.ok) (h0_1.wk kw1 hW.ok) rfl).symm hg2 st2) ((h0_2.wk kw1 hW.ok).mut a01_02 hg2 st2) rfl) hg3 st3), (Apart.grown a01_02 (h0_2.wk kw1 hW.ok).ltw hor216)⟩
              · refine oh1_v rfl (e_ld ty_3 (LiesV.int L206) rfl) rfl ?_
                refine ⟨(Stp.refl _ _), ?_⟩
                refine oh_all [4, 13] (by kernel_rfl) rfl ⟨?_, ?_, trivial⟩
                · refine oh1_v rfl (e_ld (v := v0_1) tyr_54 (LiesV.raw ((b0).at_.fld fl_Transfer_link_r_1)) rfl) rfl ?_
                  refine ⟨(Stp.refl _ _), ?_⟩
                  refine oh_all [13] (by kernel_rfl) rfl ⟨?_, trivial⟩
                  · refine oh1_e rfl (f_bslF sl_54 hW ([x146] : List Int) [.int .i64 x146] (by exact ⟨_, _, rfl, (val_int _ _), rfl⟩) rfl (Nat.le_of_ble_eq_true rfl) (lcons (congrArg (Prod.mk 0) rfl) rfl)) rfl ?_
                    rintro v220 w221 ⟨Fz223, kw1, ho222⟩
                    have hW224 := hW.trans kw1
                    have st1 := kw1.stp hW.ok
                    refine ⟨(Stp.back st1), ?_⟩
                    refine oh_all [14] (by kernel_rfl) rfl ⟨?_, trivial⟩
                    · obtain ⟨x157, hx157, hr⟩ := bind_some' hr
                      refine oh1_e rfl (f_app sl_54 hW224 (h0_1.wk kw1 hW.ok) ho222 hx157 rfl rfl) rfl ?_
                      rintro v225 w226 ⟨hW227, ho228, hg2, st2, hor229⟩
                      refine ⟨(Stp.back (st1.trans st2)), ?_⟩
                      refine oh_v 15 rfl (by kernel_rfl) (by kernel_rfl) (by kernel_rfl) (Stp.back (st1.trans st2)) (fun wv_ SV => e_nil_ rfl) rfl ?_
                      refine oh_v 16 rfl (by kernel_rfl) (by kernel_rfl) (by kernel_rfl) (Stp.back (st1.trans st2)) (fun wv_ SV => e_fa fa_56_1 rfl) rfl ?_
                      refine oh_all [17] (by kernel_rfl) rfl ⟨?_, trivial⟩
                      · refine oh1_eN rfl (f_stB (l := kRaw) hW227 ((b0.wk kw1 hW.ok).mut (apart_bo (b0.wk kw1 hW.ok) (h0_1.wk kw1 hW.ok) rfl).symm hg2 st2) fs_Transfer_link_r_1 tyr_54 (OwnV.raw ho228) rfl rfl) ?_
                        rintro - w230 ⟨hW231, ho232, hg3, st3⟩
                        refine ⟨(Stp.back (st1.trans (st2.trans st3))), ?_⟩
                        obtain rfl := Option.some.inj hr
                        exact oh_done (by kernel_rfl) ⟨Fz223, hW231, v225, v0_2, p0, ho232, (ho228.mut (apart_bo ((b0.wk kw1 hW.ok).mut (apart_bo (b0.wk kw1 hW.ok) (h0_1.wk kw1 hW.ok) rfl).symm hg2 st2) ho228 rfl) hg3 st3), (((h0_2.wk kw1 hW.ok).mut a01_02 hg2 st2).mut (apart_bo ((b0.wk kw1 hW.ok).mut (apart_bo (b0.wk kw1 hW.ok) (h0_1.wk kw1 hW.ok) rfl).symm hg2 st2) ((h0_2.wk kw1 hW.ok).mut a01_02 hg2 st2) rfl) hg3 st3), (Apart.grown a01_02 (h0_2.wk kw1 hW.ok).ltw hor229)⟩
                · refine oh1_e rfl (f_bslF sl_54 hW ([x146] : List Int) [.int .i64 x146] (by exact ⟨_, _, rfl, (val_int _ _), rfl⟩) rfl (Nat.le_of_ble_eq_true rfl) (lcons (congrArg (Prod.mk 0) rfl) rfl)) rfl ?_
                  rintro v233 w234 ⟨Fz236, kw1, ho235⟩
                  have hW237 := hW.trans kw1
                  have st1 := kw1.stp hW.ok
                  refine ⟨(Stp.back st1), ?_⟩
                  refine oh_all [4] (by kernel_rfl) rfl ⟨?_, trivial⟩
                  · refine oh1_v rfl (e_ld (v := v0_1) tyr_54 (LiesV.raw (((b0.wk kw1 hW.ok)).at_.fld fl_Transfer_link_r_1)) rfl) rfl ?_
                    refine ⟨(Stp.back st1), ?_⟩
                    refine oh_all [14] (by kernel_rfl) rfl ⟨?_, trivial⟩
                    · obtain ⟨x157, hx157, hr⟩ := bind_some' hr
                      refine oh1_e rfl (f_app sl_54 hW237 (h0_1.wk kw1 hW.ok) ho235 hx157 rfl rfl) rfl ?_
                      rintro v238 w239 ⟨hW240, ho241, hg2, st2, hor242⟩
                      refine ⟨(Stp.back (st1.trans st2)), ?_⟩
                      refine oh_v 15 rfl (by kernel_rfl) (by kernel_rfl) (by kernel_rfl) (Stp.back (st1.trans st2)) (fun wv_ SV => e_nil_ rfl) rfl ?_
                      refine oh_v 16 rfl (by kernel_rfl) (by kernel_rfl) (by kernel_rfl) (Stp.back (st1.trans st2)) (fun wv_ SV => e_fa fa_56_1 rfl) rfl ?_
                      refine oh_all [17] (by kernel_rfl) rfl ⟨?_, trivial⟩
                      · refine oh1_eN rfl (f_stB (l := kRaw) hW240 ((b0.wk kw1 hW.ok).mut (apart_bo (b0.wk kw1 hW.ok) (h0_1.wk kw1 hW.ok) rfl).symm hg2 st2) fs_Transfer_link_r_1 tyr_54 (OwnV.raw ho241) rfl rfl) ?_
                        rintro - w243 ⟨hW244, ho245, hg3, st3⟩
                        refine ⟨(Stp.back (st1.trans (st2.trans st3))), ?_⟩
                        obtain rfl := Option.some.inj hr
                        exact oh_done (by kernel_rfl) ⟨Fz236, hW244, v238, v0_2, p0, ho245, (ho241.mut (apart_bo ((b0.wk kw1 hW.ok).mut (apart_bo (b0.wk kw1 hW.ok) (h0_1.wk kw1 hW.ok) rfl).symm hg2 st2) ho241 rfl) hg3 st3), (((h0_2.wk kw1 hW.ok).mut a01_02 hg2 st2).mut (apart_bo ((b0.wk kw1 hW.ok).mut (apart_bo (b0.wk kw1 hW.ok) (h0_1.wk kw1 hW.ok) rfl).symm hg2 st2) ((h0_2.wk kw1 hW.ok).mut a01_02 hg2 st2) rfl) hg3 st3), (Apart.grown a01_02 (h0_2.wk kw1 hW.ok).ltw hor242)⟩
          · refine oh1_v rfl (e_ld ty_3 (LiesV.int ((h3).at_.fld fl_LinkEvent_1)) rfl) rfl ?_
            refine ⟨(Stp.refl _ _), ?_⟩
            refine oh_all [4, 8] (by kernel_rfl) rfl ⟨?_, ?_, trivial⟩
            · refine oh1_v rfl (e_ld (v := v0_1) tyr_54 (LiesV.raw ((b0).at_.fld fl_Transfer_link_r_1)) rfl) rfl ?_
              refine ⟨(Stp.refl _ _), ?_⟩
              refine oh_all [8] (by kernel_rfl) rfl ⟨?_, trivial⟩
              · refine oh1_v rfl (e_ld (v := v0_1) tyr_54 (LiesV.raw ((b0).at_.fld fl_Transfer_link_r_1)) rfl) rfl ?_
                refine ⟨(Stp.refl _ _), ?_⟩
                obtain ⟨x146, hx146, hr⟩ := bind_some' hr
                obtain ⟨g246, o247, c248, hv249, L250⟩ := OwnV.at_ h0_1 hx146
                refine oh_v 11 rfl (by kernel_rfl) (by kernel_rfl) (by kernel_rfl) (Stp.refl _ _) (fun wv_ SV => e_ixO sl_54 hv249 hx146 rfl rfl) rfl ?_
                refine oh_all [12] (by kernel_rfl) rfl ⟨?_, trivial⟩
                · refine oh1_v rfl (e_ld ty_3 (LiesV.int L250) rfl) rfl ?_
                  refine ⟨(Stp.refl _ _), ?_⟩
                  refine oh_all [13] (by kernel_rfl) rfl ⟨?_, trivial⟩
                  · refine oh1_e rfl (f_bslF sl_54 hW ([x146] : List Int) [.int .i64 x146] (by exact ⟨_, _, rfl, (val_int _ _), rfl⟩) rfl (Nat.le_of_ble_eq_true rfl) (lcons (congrArg (Prod.mk 0) rfl) rfl)) rfl ?_
                    rintro v251 w252 ⟨Fz254, kw1, ho253⟩
                    have hW255 := hW.trans kw1
                    have st1 := kw1.stp hW.ok
                    refine ⟨(Stp.back st1), ?_⟩
                    refine oh_all [14] (by kernel_rfl) rfl ⟨?_, trivial⟩
                    · obtain ⟨x157, hx157, hr⟩ := bind_some' hr
                      refine oh1_e rfl (f_app sl_54 hW255 (h0_1.wk kw1 hW.ok) ho253 hx157 rfl rfl) rfl ?_
                      rintro v256 w257 ⟨hW258, ho259, hg2, st2, hor260⟩
                      refine ⟨(Stp.back (st1.trans st2)), ?_⟩
                      refine oh_v 15 rfl (by kernel_rfl) (by kernel_rfl) (by kernel_rfl) (Stp.back (st1.trans st2)) (fun wv_ SV => e_nil_ rfl) rfl ?_
                      refine oh_v 16 rfl (by kernel_rfl) (by kernel_rfl) (by kernel_rfl) (Stp.back (st1.trans st2)) (fun wv_ SV => e_fa fa_56_1 rfl) rfl ?_
                      refine oh_all [17] (by kernel_rfl) rfl ⟨?_, trivial⟩
                      · refine oh1_eN rfl (f_stB (l := kRaw) hW258 ((b0.wk kw1 hW.ok).mut (apart_bo (b0.wk kw1 hW.ok) (h0_1.wk kw1 hW.ok) rfl).symm hg2 st2) fs_Transfer_link_r_1 tyr_54 (OwnV.raw ho259) rfl rfl) ?_
                        rintro - w261 ⟨hW262, ho263, hg3, st3⟩
                        refine ⟨(Stp.back (st1.trans (st2.trans st3))), ?_⟩
                        obtain rfl := Option.some.inj hr
                        exact oh_done (by kernel_rfl) ⟨Fz254, hW262, v256, v0_2, p0, ho263, (ho259.mut (apart_bo ((b0.wk kw1 hW.ok).mut (apart_bo (b0.wk kw1 hW.ok) (h0_1.wk kw1 hW.ok) rfl).symm hg2 st2) ho259 rfl) hg3 st3), (((h0_2.wk kw1 hW.ok).mut a01_02 hg2 st2).mut (apart_bo ((b0.wk kw1 hW.ok).mut (apart_bo (b0.wk kw1 hW.ok) (h0_1.wk kw1 hW.ok) rfl).symm hg2 st2) ((h0_2.wk kw1 hW.ok).mut a01_02 hg2 st2) rfl) hg3 st3), (Apart.grown a01_02 (h0_2.wk kw1 hW.ok).ltw hor260)⟩
            · refine oh1_v rfl (e_ld (v := v0_1) tyr_54 (LiesV.raw ((b0).at_.fld fl_Transfer_link_r_1)) rfl) rfl ?_
              refine ⟨(Stp.refl _ _), ?_⟩
              obtain ⟨x146, hx146, hr⟩ := bind_some' hr
              obtain ⟨g264, o265, c266, hv267, L268⟩ := OwnV.at_ h0_1 hx146
              refine oh_v 11 rfl (by kernel_rfl) (by kernel_rfl) (by kernel_rfl) (Stp.refl _ _) (fun wv_ SV => e_ixO sl_54 hv267 hx146 rfl rfl) rfl ?_
              refine oh_all [4, 12] (by kernel_rfl) rfl ⟨?_, ?_, trivial⟩
              · refine oh1_v rfl (e_ld (v := v0_1) tyr_54 (LiesV.raw ((b0).at_.fld fl_Transfer_link_r_1)) rfl) rfl ?_
                refine ⟨(Stp.refl _ _), ?_⟩
                refine oh_all [12] (by kernel_rfl) rfl ⟨?_, trivial⟩
                · refine oh1_v rfl (e_ld ty_3 (LiesV.int L268) rfl) rfl ?_
                  refine ⟨(Stp.refl _ _), ?_⟩
                  refine oh_all [13] (by kernel_rfl) rfl ⟨?_, trivial⟩
                  · refine oh1_e rfl (f_bslF sl_54 hW ([x146] : List Int) [.int .i64 x146] (by exact ⟨_, _, rfl, (val_int _ _), rfl⟩) rfl (Nat.le_of_ble_eq_true rfl) (lcons (congrArg (Prod.mk 0) rfl) rfl)) rfl ?_
                    rintro v269 w270 ⟨Fz272, kw1, ho271⟩
                    have hW273 := hW.trans kw1
                    have st1 := kw1.stp hW.ok
                    refine ⟨(Stp.back st1), ?_⟩
                    refine oh_all [14] (by kernel_rfl) rfl ⟨?_, trivial⟩
                    · obtain ⟨x157, hx157, hr⟩ := bind_some' hr
                      refine oh1_e rfl (f_app sl_54 hW273 (h0_1.wk kw1 hW.ok) ho271 hx157 rfl rfl) rfl ?_
                      rintro v274 w275 ⟨hW276, ho277, hg2, st2, hor278⟩
                      refine ⟨(Stp.back (st1.trans st2)), ?_⟩
                      refine oh_v 15 rfl (by kernel_rfl) (by kernel_rfl) (by kernel_rfl) (Stp.back (st1.trans st2)) (fun wv_ SV => e_nil_ rfl) rfl ?_
                      refine oh_v 16 rfl (by kernel_rfl) (by kernel_rfl) (by kernel_rfl) (Stp.back (st1.trans st2)) (fun wv_ SV => e_fa fa_56_1 rfl) rfl ?_
                      refine oh_all [17] (by kernel_rfl) rfl ⟨?_, trivial⟩
                      · refine oh1_eN rfl (f_stB (l := kRaw) hW276 ((b0.wk kw1 hW.ok).mut (apart_bo (b0.wk kw1 hW.ok) (h0_1.wk kw1 hW.ok) rfl).symm hg2 st2) fs_Transfer_link_r_1 tyr_54 (OwnV.raw ho277) rfl rfl) ?_
                        rintro - w279 ⟨hW280, ho281, hg3, st3⟩
                        refine ⟨(Stp.back (st1.trans (st2.trans st3))), ?_⟩
                        obtain rfl := Option.some.inj hr
                        exact oh_done (by kernel_rfl) ⟨Fz272, hW280, v274, v0_2, p0, ho281, (ho277.mut (apart_bo ((b0.wk kw1 hW.ok).mut (apart_bo (b0.wk kw1 hW.ok) (h0_1.wk kw1 hW.ok) rfl).symm hg2 st2) ho277 rfl) hg3 st3), (((h0_2.wk kw1 hW.ok).mut a01_02 hg2 st2).mut (apart_bo ((b0.wk kw1 hW.ok).mut (apart_bo (b0.wk kw1 hW.ok) (h0_1.wk kw1 hW.ok) rfl).symm hg2 st2) ((h0_2.wk kw1 hW.ok).mut a01_02 hg2 st2) rfl) hg3 st3), (Apart.grown a01_02 (h0_2.wk kw1 hW.ok).ltw hor278)⟩
              · refine oh1_v rfl (e_ld ty_3 (LiesV.int L268) rfl) rfl ?_
                refine ⟨(Stp.refl _ _), ?_⟩
                refine oh_all [4, 13] (by kernel_rfl) rfl ⟨?_, ?_, trivial⟩
                · refine oh1_v rfl (e_ld (v := v0_1) tyr_54 (LiesV.raw ((b0).at_.fld fl_Transfer_link_r_1)) rfl) rfl ?_
                  refine ⟨(Stp.refl _ _), ?_⟩
                  refine oh_all [13] (by kernel_rfl) rfl ⟨?_, trivial⟩
                  · refine oh1_e rfl (f_bslF sl_54 hW ([x146] : List Int) [.int .i64 x146] (by exact ⟨_, _, rfl, (val_int _ _), rfl⟩) rfl (Nat.le_of_ble_eq_true rfl) (lcons (congrArg (Prod.mk 0) rfl) rfl)) rfl ?_
                    rintro v282 w283 ⟨Fz285, kw1, ho284⟩
                    have hW286 := hW.trans kw1
                    have st1 := kw1.stp hW.ok
                    refine ⟨(Stp.back st1), ?_⟩
                    refine oh_all [14] (by kernel_rfl) rfl ⟨?_, trivial⟩
                    · obtain ⟨x157, hx157, hr⟩ := bind_some' hr
                      refine oh1_e rfl (f_app sl_54 hW286 (h0_1.wk kw1 hW.ok) ho284 hx157 rfl rfl) rfl ?_
                      rintro v287 w288 ⟨hW289, ho290, hg2, st2, hor291⟩
                      refine ⟨(Stp.back (st1.trans st2)), ?_⟩
                      refine oh_v 15 rfl (by kernel_rfl) (by kernel_rfl) (by kernel_rfl) (Stp.back (st1.trans st2)) (fun wv_ SV => e_nil_ rfl) rfl ?_
                      refine oh_v 16 rfl (by kernel_rfl) (by kernel_rfl) (by kernel_rfl) (Stp.back (st1.trans st2)) (fun wv_ SV => e_fa fa_56_1 rfl) rfl ?_
                      refine oh_all [17] (by kernel_rfl) rfl ⟨?_, trivial⟩
                      · refine oh1_eN rfl (f_stB (l := kRaw) hW289 ((b0.wk kw1 hW.ok).mut (apart_bo (b0.wk kw1 hW.ok) (h0_1.wk kw1 hW.ok) rfl).symm hg2 st2) fs_Transfer_link_r_1 tyr_54 (OwnV.raw ho290) rfl rfl) ?_
                        rintro - w292 ⟨hW293, ho294, hg3, st3⟩
                        refine ⟨(Stp.back (st1.trans (st2.trans st3))), ?_⟩
                        obtain rfl := Option.some.inj hr
                        exact oh_done (by kernel_rfl) ⟨Fz285, hW293, v287, v0_2, p0, ho294, (ho290.mut (apart_bo ((b0.wk kw1 hW.ok).mut (apart_bo (b0.wk kw1 hW.ok) (h0_1.wk kw1 hW.ok) rfl).symm hg2 st2) ho290 rfl) hg3 st3), (((h0_2.wk kw1 hW.ok).mut a01_02 hg2 st2).mut (apart_bo ((b0.wk kw1 hW.ok).mut (apart_bo (b0.wk kw1 hW.ok) (h0_1.wk kw1 hW.ok) rfl).symm hg2 st2) ((h0_2.wk kw1 hW.ok).mut a01_02 hg2 st2) rfl) hg3 st3), (Apart.grown a01_02 (h0_2.wk kw1 hW.ok).ltw hor291)⟩
                · refine oh1_e rfl (f_bslF sl_54 hW ([x146] : List Int) [.int .i64 x146] (by exact ⟨_, _, rfl, (val_int _ _), rfl⟩) rfl (Nat.le_of_ble_eq_true rfl) (lcons (congrArg (Prod.mk 0) rfl) rfl)) rfl ?_
                  rintro v295 w296 ⟨Fz298, kw1, ho297⟩
                  have hW299 := hW.trans kw1
                  have st1 := kw1.stp hW.ok
                  refine ⟨(Stp.back st1), ?_⟩
                  refine oh_all [4] (by kernel_rfl) rfl ⟨?_, trivial⟩
                  · refine oh1_v rfl (e_ld (v := v0_1) tyr_54 (LiesV.raw (((b0.wk kw1 hW.ok)).at_.fld fl_Transfer_link_r_1)) rfl) rfl ?_
                    refine ⟨(Stp.back st1), ?_⟩
                    refine oh_all [14] (by kernel_rfl) rfl ⟨?_, trivial⟩
                    · obtain ⟨x157, hx157, hr⟩ := bind_some' hr
                      refine oh1_e rfl (f_app sl_54 hW299 (h0_1.wk kw1 hW.ok) ho297 hx157 rfl rfl) rfl ?_
                      rintro v300 w301 ⟨hW302, ho303, hg2, st2, hor304⟩
                      refine ⟨(Stp.back (st1.trans st2)), ?_⟩
                      refine oh_v 15 rfl (by kernel_rfl) (by kernel_rfl) (by kernel_rfl) (Stp.back (st1.trans st2)) (fun wv_ SV => e_nil_ rfl) rfl ?_
                      refine oh_v 16 rfl (by kernel_rfl) (by kernel_rfl) (by kernel_rfl) (Stp.back (st1.trans st2)) (fun wv_ SV => e_fa fa_56_1 rfl) rfl ?_
                      refine oh_all [17] (by kernel_rfl) rfl ⟨?_, trivial⟩
                      · refine oh1_eN rfl (f_stB (l := kRaw) hW302 ((b0.wk kw1 hW.ok).mut (apart_bo (b0.wk kw1 hW.ok) (h0_1.wk kw1 hW.ok) rfl).symm hg2 st2) fs_Transfer_link_r_1 tyr_54 (OwnV.raw ho303) rfl rfl) ?_
                        rintro - w305 ⟨hW306, ho307, hg3, st3⟩
                        refine ⟨(Stp.back (st1.trans (st2.trans st3))), ?_⟩
                        obtain rfl := Option.some.inj hr
                        exact oh_done (by kernel_rfl) ⟨Fz298, hW306, v300, v0_2, p0, ho307, (ho303.mut (apart_bo ((b0.wk kw1 hW.ok).mut (apart_bo (b0.wk kw1 hW.ok) (h0_1.wk kw1 hW.ok) rfl).symm hg2 st2) ho303 rfl) hg3 st3), (((h0_2.wk kw1 hW.ok).mut a01_02 hg2 st2).mut (apart_bo ((b0.wk kw1 hW.ok).mut (apart_bo (b0.wk kw1 hW.ok) (h0_1.wk kw1 hW.ok) rfl).symm hg2 st2) ((h0_2.wk kw1 hW.ok).mut a01_02 hg2 st2) rfl) hg3 st3), (Apart.grown a01_02 (h0_2.wk kw1 hW.ok).ltw hor304)⟩
        · refine Ref.seq (B := G16 g0 c0_1 c0_2 w0 F0) ?_ ?_
          · refine Ref.region (fun s ρ w s' h hr => ?_)
            obtain ⟨F, hW, v0_1, v0_2, g3, p0, b0, h0_1, h0_2, p3, h3, p5, h73, a01_02⟩ := h
            refine ol_v (e_eql h73 rfl) rfl ?_
            refine ol_v (e_as _ rfl) rfl ?_
            obtain rfl := Option.some.inj hr
            exact ol_nil ⟨F, hW, v0_1, v0_2, g3, p0, b0, h0_1, h0_2, p3, h3, p5, rfl, a01_02⟩
          refine Ref.cond (b := fun s => s.t_143) (fun s ρ w ⟨F, hW, v0_1, v0_2, g3, p0, b0, h0_1, h0_2, p3, h3, p5, h143, a01_02⟩ => h143) (Ref.pre (A := G4 g0 c0_1 c0_2 w0 F0) ?_ (fun s ρ w h => (fun ⟨F, hW, v0_1, v0_2, g3, p0, b0, h0_1, h0_2, p3, h3, p5, h143, a01_02⟩ => ⟨F, hW, v0_1, v0_2, g3, p0, b0, h0_1, h0_2, p3, h3, p5, a01_02⟩ : G16 g0 c0_1 c0_2 w0 F0 s ρ w → G4 g0 c0_1 c0_2 w0 F0 s ρ w) h.2)) (Ref.pre (A := G4 g0 c0_1 c0_2 w0 F0) ?_ (fun s ρ w h => (fun ⟨F, hW, v0_1, v0_2, g3, p0, b0, h0_1, h0_2, p3, h3, p5, h143, a01_02⟩ => ⟨F, hW, v0_1, v0_2, g3, p0, b0, h0_1, h0_2, p3, h3, p5, a01_02⟩ : G16 g0 c0_1 c0_2 w0 F0 s ρ w → G4 g0 c0_1 c0_2 w0 F0 s ρ w) h.2))
          · refine Ref.regionH (by kernel_rfl) (fun s ρ w ⟨F, hW, v0_1, v0_2, g3, p0, b0, h0_1, h0_2, p3, h3, p5, a01_02⟩ => ⟨F, hW.drewS, v0_1, v0_2, g3, p0, b0.wk (Wk.drew (row := nrow) hW.ok) hW.ok, h0_1.wk (Wk.drew (row := nrow) hW.ok) hW.ok, h0_2.wk (Wk.drew (row := nrow) hW.ok) hW.ok, p3, h3.wk (Wk.drew (row := nrow) hW.ok) hW.ok, p5, a01_02⟩) (fun s ρ w s' h hr => ?_)
            obtain ⟨F, hW, v0_1, v0_2, g3, p0, b0, h0_1, h0_2, p3, h3, p5, a01_02⟩ := h
            refine ⟨fun w' => Stp F w F w', ?_⟩
            refine oh_v 0 rfl (by kernel_rfl) (by kernel_rfl) (by kernel_rfl) (Stp.refl _ _) (fun wv_ SV => e_mv _ p0) rfl ?_
            refine oh_v 1 rfl (by kernel_rfl) (by kernel_rfl) (by kernel_rfl) (Stp.refl _ _) (fun wv_ SV => e_mv _ p0) rfl ?_
            refine oh_v 2 rfl (by kernel_rfl) (by kernel_rfl) (by kernel_rfl) (Stp.refl _ _) (fun wv_ SV => e_nil_ rfl) rfl ?_
            refine oh_v 3 rfl (by kernel_rfl) (by kernel_rfl) (by kernel_rfl) (Stp.refl _ _) (fun wv_ SV => e_fa fa_56_4 rfl) rfl ?_
            refine oh_v 5 rfl (by kernel_rfl) (by kernel_rfl) (by kernel_rfl) (Stp.refl _ _) (fun wv_ SV => e_mv _ p5) rfl ?_
            refine oh_v 6 rfl (by kernel_rfl) (by kernel_rfl) (by kernel_rfl) (Stp.refl _ _) (fun wv_ SV => e_fa fa_48_1 p3) rfl ?_
            refine oh_all [4, 7] (by kernel_rfl) rfl ⟨?_, ?_, trivial⟩
            · refine oh1_v rfl (e_ld ty_3 (LiesV.int ((b0).at_.fld fl_Transfer_link_r_4)) rfl) rfl ?_
              refine ⟨(Stp.refl _ _), ?_⟩
              refine oh_all [7] (by kernel_rfl) rfl ⟨?_, trivial⟩
              · refine oh1_v rfl (e_ld ty_3 (LiesV.int ((h3).at_.fld fl_LinkEvent_1)) rfl) rfl ?_
                refine ⟨(Stp.refl _ _), ?_⟩
                refine oh_all [8] (by kernel_rfl) rfl ⟨?_, trivial⟩
                · obtain ⟨x308, hx308, hr⟩ := bind_some' hr
                  refine oh1_e rfl (f_call [.pointer (some ⟨g0, 0 + 2, none⟩), .int .i64 s.t_3.N] fn_25 (lcons rfl (lcons rfl rfl)) (take.calls hW.ok (Box.cellAt (b0) fl_Transfer_link_r_2) (OwnV.rebase h0_2 (fun _ _ => trivial)) (apart_bo b0 h0_2 rfl) s.t_3.N hx308)) rfl ?_
                  rintro _ w311 ⟨v309, w310, rfl, kw1, ho312, hst313⟩
                  have hB315 := fun g hg => (OwnV.lt h0_2 (g := g) hg).1
                  have st1 := kw1.stpR hW.ok (fun g hg => (OwnV.lt h0_2 hg).2.1)
                  have hW314 := hW.transR kw1 hB315
                  obtain ⟨hW316, ho317, hg2, st2⟩ := Box.stored (l := kRaw) hW314 (b0.wkR (apart_bo b0 h0_2 rfl).symm kw1 st1) fs_Transfer_link_r_2 tyr_54 (OwnV.raw (ho312.rebase (fun g_ hg_ => (ho312.lt hg_).1.elim (fun h_ => .inl (Nat.le_trans hW.le h_)) (fun h_ => hB315 g_ h_)))) hst313
                  refine ⟨(Stp.back (st1.trans st2)), ?_⟩
                  refine oh_v 9 rfl (by kernel_rfl) (by kernel_rfl) (by kernel_rfl) (Stp.back (st1.trans st2)) (fun wv_ SV => e_max rfl rfl) rfl ?_
                  refine oh_v 10 rfl (by kernel_rfl) (by kernel_rfl) (by kernel_rfl) (Stp.back (st1.trans st2)) (fun wv_ SV => e_nil_ rfl) rfl ?_
                  refine oh_v 11 rfl (by kernel_rfl) (by kernel_rfl) (by kernel_rfl) (Stp.back (st1.trans st2)) (fun wv_ SV => e_fa fa_56_4 rfl) rfl ?_
                  refine oh_all [12] (by kernel_rfl) rfl ⟨?_, trivial⟩
                  · refine oh1_eN rfl (f_stB hW316 ho317 fs_Transfer_link_r_4 ty_3 (val_int _ _) rfl rfl) ?_
                    rintro - w318 ⟨hW319, ho320, hg3, st3⟩
                    refine ⟨(Stp.back (st1.trans (st2.trans st3))), ?_⟩
                    obtain rfl := Option.some.inj hr
                    exact oh_done (by kernel_rfl) ⟨F, hW319, v0_1, v309, p0, ho320, (((h0_1.wkR a01_02.symm kw1 st1).mut (apart_bo (b0.wkR (apart_bo b0 h0_2 rfl).symm kw1 st1) (h0_1.wkR a01_02.symm kw1 st1) rfl) hg2 st2).mut (apart_bo ho317 ((h0_1.wkR a01_02.symm kw1 st1).mut (apart_bo (b0.wkR (apart_bo b0 h0_2 rfl).symm kw1 st1) (h0_1.wkR a01_02.symm kw1 st1) rfl) hg2 st2) rfl) hg3 st3), (((ho312.rebase (fun g_ hg_ => (ho312.lt hg_).1.elim (fun h_ => .inl (Nat.le_trans hW.le h_)) (fun h_ => hB315 g_ h_))).mut (apart_bo (b0.wkR (apart_bo b0 h0_2 rfl).symm kw1 st1) (ho312.rebase (fun g_ hg_ => (ho312.lt hg_).1.elim (fun h_ => .inl (Nat.le_trans hW.le h_)) (fun h_ => hB315 g_ h_))) rfl) hg2 st2).mut (apart_bo ho317 ((ho312.rebase (fun g_ hg_ => (ho312.lt hg_).1.elim (fun h_ => .inl (Nat.le_trans hW.le h_)) (fun h_ => hB315 g_ h_))).mut (apart_bo (b0.wkR (apart_bo b0 h0_2 rfl).symm kw1 st1) (ho312.rebase (fun g_ hg_ => (ho312.lt hg_).1.elim (fun h_ => .inl (Nat.le_trans hW.le h_)) (fun h_ => hB315 g_ h_))) rfl) hg2 st2) rfl) hg3 st3), (Apart.took (fun g_ hg_ => (ho312.lt hg_).1) a01_02.symm h0_1.ltw).symm⟩
            · refine oh1_v rfl (e_ld ty_3 (LiesV.int ((h3).at_.fld fl_LinkEvent_1)) rfl) rfl ?_
              refine ⟨(Stp.refl _ _), ?_⟩
              refine oh_all [4, 8] (by kernel_rfl) rfl ⟨?_, ?_, trivial⟩
              · refine oh1_v rfl (e_ld ty_3 (LiesV.int ((b0).at_.fld fl_Transfer_link_r_4)) rfl) rfl ?_
                refine ⟨(Stp.refl _ _), ?_⟩
                refine oh_all [8] (by kernel_rfl) rfl ⟨?_, trivial⟩
                · obtain ⟨x308, hx308, hr⟩ := bind_some' hr
                  refine oh1_e rfl (f_call [.pointer (some ⟨g0, 0 + 2, none⟩), .int .i64 s.t_3.N] fn_25 (lcons rfl (lcons rfl rfl)) (take.calls hW.ok (Box.cellAt (b0) fl_Transfer_link_r_2) (OwnV.rebase h0_2 (fun _ _ => trivial)) (apart_bo b0 h0_2 rfl) s.t_3.N hx308)) rfl ?_
                  rintro _ w323 ⟨v321, w322, rfl, kw1, ho324, hst325⟩
                  have hB327 := fun g hg => (OwnV.lt h0_2 (g := g) hg).1
                  have st1 := kw1.stpR hW.ok (fun g hg => (OwnV.lt h0_2 hg).2.1)
                  have hW326 := hW.transR kw1 hB327
                  obtain ⟨hW328, ho329, hg2, st2⟩ := Box.stored (l := kRaw) hW326 (b0.wkR (apart_bo b0 h0_2 rfl).symm kw1 st1) fs_Transfer_link_r_2 tyr_54 (OwnV.raw (ho324.rebase (fun g_ hg_ => (ho324.lt hg_).1.elim (fun h_ => .inl (Nat.le_trans hW.le h_)) (fun h_ => hB327 g_ h_)))) hst325
                  refine ⟨(Stp.back (st1.trans st2)), ?_⟩
                  refine oh_v 9 rfl (by kernel_rfl) (by kernel_rfl) (by kernel_rfl) (Stp.back (st1.trans st2)) (fun wv_ SV => e_max rfl rfl) rfl ?_
                  refine oh_v 10 rfl (by kernel_rfl) (by kernel_rfl) (by kernel_rfl) (Stp.back (st1.trans st2)) (fun wv_ SV => e_nil_ rfl) rfl ?_
                  refine oh_v 11 rfl (by kernel_rfl) (by kernel_rfl) (by kernel_rfl) (Stp.back (st1.trans st2)) (fun wv_ SV => e_fa fa_56_4 rfl) rfl ?_
                  refine oh_all [12] (by kernel_rfl) rfl ⟨?_, trivial⟩
                  · refine oh1_eN rfl (f_stB hW328 ho329 fs_Transfer_link_r_4 ty_3 (val_int _ _) rfl rfl) ?_
                    rintro - w330 ⟨hW331, ho332, hg3, st3⟩
                    refine ⟨(Stp.back (st1.trans (st2.trans st3))), ?_⟩
                    obtain rfl := Option.some.inj hr
                    exact oh_done (by kernel_rfl) ⟨F, hW331, v0_1, v321, p0, ho332, (((h0_1.wkR a01_02.symm kw1 st1).mut (apart_bo (b0.wkR (apart_bo b0 h0_2 rfl).symm kw1 st1) (h0_1.wkR a01_02.symm kw1 st1) rfl) hg2 st2).mut (apart_bo ho329 ((h0_1.wkR a01_02.symm kw1 st1).mut (apart_bo (b0.wkR (apart_bo b0 h0_2 rfl).symm kw1 st1) (h0_1.wkR a01_02.symm kw1 st1) rfl) hg2 st2) rfl) hg3 st3), (((ho324.rebase (fun g_ hg_ => (ho324.lt hg_).1.elim (fun h_ => .inl (Nat.le_trans hW.le h_)) (fun h_ => hB327 g_ h_))).mut (apart_bo (b0.wkR (apart_bo b0 h0_2 rfl).symm kw1 st1) (ho324.rebase (fun g_ hg_ => (ho324.lt hg_).1.elim (fun h_ => .inl (Nat.le_trans hW.le h_)) (fun h_ => hB327 g_ h_))) rfl) hg2 st2).mut (apart_bo ho329 ((ho324.rebase (fun g_ hg_ => (ho324.lt hg_).1.elim (fun h_ => .inl (Nat.le_trans hW.le h_)) (fun h_ => hB327 g_ h_))).mut (apart_bo (b0.wkR (apart_bo b0 h0_2 rfl).symm kw1 st1) (ho324.rebase (fun g_ hg_ => (ho324.lt hg_).1.elim (fun h_ => .inl (Nat.le_trans hW.le h_)) (fun h_ => hB327 g_ h_))) rfl) hg2 st2) rfl) hg3 st3), (Apart.took (fun g_ hg_ => (ho324.lt hg_).1) a01_02.symm h0_1.ltw).symm⟩
              · obtain ⟨x308, hx308, hr⟩ := bind_some' hr
                refine oh1_e rfl (f_call [.pointer (some ⟨g0, 0 + 2, none⟩), .int .i64 s.t_3.N] fn_25 (lcons rfl (lcons rfl rfl)) (take.calls hW.ok (Box.cellAt (b0) fl_Transfer_link_r_2) (OwnV.rebase h0_2 (fun _ _ => trivial)) (apart_bo b0 h0_2 rfl) s.t_3.N hx308)) rfl ?_
                rintro _ w335 ⟨v333, w334, rfl, kw1, ho336, hst337⟩
                have hB339 := fun g hg => (OwnV.lt h0_2 (g := g) hg).1
                have st1 := kw1.stpR hW.ok (fun g hg => (OwnV.lt h0_2 hg).2.1)
                have hW338 := hW.transR kw1 hB339
                obtain ⟨hW340, ho341, hg2, st2⟩ := Box.stored (l := kRaw) hW338 (b0.wkR (apart_bo b0 h0_2 rfl).symm kw1 st1) fs_Transfer_link_r_2 tyr_54 (OwnV.raw (ho336.rebase (fun g_ hg_ => (ho336.lt hg_).1.elim (fun h_ => .inl (Nat.le_trans hW.le h_)) (fun h_ => hB339 g_ h_)))) hst337
                refine ⟨(Stp.back (st1.trans st2)), ?_⟩
                refine oh_all [4] (by kernel_rfl) rfl ⟨?_, trivial⟩
                · refine oh1_v rfl (e_ld ty_3 (LiesV.int ((ho341).at_.fld fl_Transfer_link_r_4)) rfl) rfl ?_
                  refine ⟨(Stp.back (st1.trans st2)), ?_⟩
                  refine oh_v 9 rfl (by kernel_rfl) (by kernel_rfl) (by kernel_rfl) (Stp.back (st1.trans st2)) (fun wv_ SV => e_max rfl rfl) rfl ?_
                  refine oh_v 10 rfl (by kernel_rfl) (by kernel_rfl) (by kernel_rfl) (Stp.back (st1.trans st2)) (fun wv_ SV => e_nil_ rfl) rfl ?_
                  refine oh_v 11 rfl (by kernel_rfl) (by kernel_rfl) (by kernel_rfl) (Stp.back (st1.trans st2)) (fun wv_ SV => e_fa fa_56_4 rfl) rfl ?_
                  refine oh_all [12] (by kernel_rfl) rfl ⟨?_, trivial⟩
                  · refine oh1_eN rfl (f_stB hW340 ho341 fs_Transfer_link_r_4 ty_3 (val_int _ _) rfl rfl) ?_
                    rintro - w342 ⟨hW343, ho344, hg3, st3⟩
                    refine ⟨(Stp.back (st1.trans (st2.trans st3))), ?_⟩
                    obtain rfl := Option.some.inj hr
                    exact oh_done (by kernel_rfl) ⟨F, hW343, v0_1, v333, p0, ho344, (((h0_1.wkR a01_02.symm kw1 st1).mut (apart_bo (b0.wkR (apart_bo b0 h0_2 rfl).symm kw1 st1) (h0_1.wkR a01_02.symm kw1 st1) rfl) hg2 st2).mut (apart_bo ho341 ((h0_1.wkR a01_02.symm kw1 st1).mut (apart_bo (b0.wkR (apart_bo b0 h0_2 rfl).symm kw1 st1) (h0_1.wkR a01_02.symm kw1 st1) rfl) hg2 st2) rfl) hg3 st3), (((ho336.rebase (fun g_ hg_ => (ho336.lt hg_).1.elim (fun h_ => .inl (Nat.le_trans hW.le h_)) (fun h_ => hB339 g_ h_))).mut (apart_bo (b0.wkR (apart_bo b0 h0_2 rfl).symm kw1 st1) (ho336.rebase (fun g_ hg_ => (ho336.lt hg_).1.elim (fun h_ => .inl (Nat.le_trans hW.le h_)) (fun h_ => hB339 g_ h_))) rfl) hg2 st2).mut (apart_bo ho341 ((ho336.rebase (fun g_ hg_ => (ho336.lt hg_).1.elim (fun h_ => .inl (Nat.le_trans hW.le h_)) (fun h_ => hB339 g_ h_))).mut (apart_bo (b0.wkR (apart_bo b0 h0_2 rfl).symm kw1 st1) (ho336.rebase (fun g_ hg_ => (ho336.lt hg_).1.elim (fun h_ => .inl (Nat.le_trans hW.le h_)) (fun h_ => hB339 g_ h_))) rfl) hg2 st2) rfl) hg3 st3), (Apart.took (fun g_ hg_ => (ho336.lt hg_).1) a01_02.symm h0_1.ltw).symm⟩
          · refine Ref.region (fun s ρ w s' h hr => ?_)
            obtain ⟨F, hW, v0_1, v0_2, g3, p0, b0, h0_1, h0_2, p3, h3, p5, a01_02⟩ := h
            refine ol_v (e_mv _ p5) rfl ?_
            refine ol_v (e_fa fa_48_1 p3) rfl ?_
            refine ol_v (e_ld ty_3 (LiesV.int ((h3).at_.fld fl_LinkEvent_1)) rfl) rfl ?_
            obtain ⟨x345, hx345, hr⟩ := bind_some' hr
            refine ol_e (f_call [.pointer (some ⟨g0, 0 + 2, none⟩), .int .i64 s.t_3.N] fn_25 (lcons rfl (lcons rfl rfl)) (take.calls hW.ok (Box.cellAt (b0) fl_Transfer_link_r_2) (OwnV.rebase h0_2 (fun _ _ => trivial)) (apart_bo b0 h0_2 rfl) s.t_3.N hx345)) rfl rfl ?_
            rintro _ w348 ⟨v346, w347, rfl, kw1, ho349, hst350⟩
            have hB352 := fun g hg => (OwnV.lt h0_2 (g := g) hg).1
            have st1 := kw1.stpR hW.ok (fun g hg => (OwnV.lt h0_2 hg).2.1)
            have hW351 := hW.transR kw1 hB352
            obtain ⟨hW353, ho354, hg2, st2⟩ := Box.stored (l := kRaw) hW351 (b0.wkR (apart_bo b0 h0_2 rfl).symm kw1 st1) fs_Transfer_link_r_2 tyr_54 (OwnV.raw (ho349.rebase (fun g_ hg_ => (ho349.lt hg_).1.elim (fun h_ => .inl (Nat.le_trans hW.le h_)) (fun h_ => hB352 g_ h_)))) hst350
            obtain rfl := Option.some.inj hr
            exact ol_nil ⟨F, hW353, v0_1, v346, p0, ho354, ((h0_1.wkR a01_02.symm kw1 st1).mut (apart_bo (b0.wkR (apart_bo b0 h0_2 rfl).symm kw1 st1) (h0_1.wkR a01_02.symm kw1 st1) rfl) hg2 st2), ((ho349.rebase (fun g_ hg_ => (ho349.lt hg_).1.elim (fun h_ => .inl (Nat.le_trans hW.le h_)) (fun h_ => hB352 g_ h_))).mut (apart_bo (b0.wkR (apart_bo b0 h0_2 rfl).symm kw1 st1) (ho349.rebase (fun g_ hg_ => (ho349.lt hg_).1.elim (fun h_ => .inl (Nat.le_trans hW.le h_)) (fun h_ => hB352 g_ h_))) rfl) hg2 st2), (Apart.took (fun g_ hg_ => (ho349.lt hg_).1) a01_02.symm h0_1.ltw).symm⟩
  refine Ref.seq (B := G7 g0 c0_1 c0_2 w0 F0) ?_ ?_
  · refine Ref.region (fun s ρ w s' h hr => ?_)
    obtain ⟨F, hW, v0_1, v0_2, p0, b0, h0_1, h0_2, a01_02⟩ := h
    refine ol_v (e_as _ rfl) rfl ?_
    obtain rfl := Option.some.inj hr
    exact ol_nil ⟨F, hW, v0_1, v0_2, p0, b0, h0_1, h0_2, rfl, a01_02⟩
  exact Ref.ret (fun s ρ w h => ⟨s, rfl, h⟩)
def post (g0 : Nat) (c0_1 : Value) (c0_2 : Value) (w : World) (F : BSet) (r : R) (v : Value) (w' : World) : Prop := ∃ (F' : BSet) (d1 : Value) (d2 : Value), v = .int .i64 r.1 ∧ Wk (rowL [some g0, c0_1.ownBlock, c0_2.ownBlock]) w F F' w' ∧ Box k_Transfer_link_r 56 (Bs w (rowL [some g0, c0_1.ownBlock, c0_2.ownBlock])) F' w' g0 (⟨r.2.frames, d1, d2, r.2.count, r.2.acked⟩ : Transfer_link_r) ∧ OwnV (kInt .i64) 3 (Bs w (rowL [some g0, c0_1.ownBlock, c0_2.ownBlock])) F' w' d1 r.2.sent ∧ OwnV (kInt .i64) 3 (Bs w (rowL [some g0, c0_1.ownBlock, c0_2.ownBlock])) F' w' d2 r.2.acks ∧ Apart d1.ownBlock d2.ownBlock
theorem calls {w : World} {F : BSet} (hok : ∀ b, F b → b < w.heap.size) {g0 : Nat} {c0_1 : Value} {c0_2 : Value} {a0 : Transfer_link} (b0 : Box k_Transfer_link_r 56 (fun _ => True) F w g0 (⟨a0.frames, c0_1, c0_2, a0.count, a0.acked⟩ : Transfer_link_r)) (h0_1 : OwnV (kInt .i64) 3 (fun _ => True) F w c0_1 a0.sent) (h0_2 : OwnV (kInt .i64) 3 (fun _ => True) F w c0_2 a0.acks) (a01_02 : Apart c0_1.ownBlock c0_2.ownBlock) {v1 : Value} {a1 : LinkEvent} (h1 : Val k_LinkEvent F w v1 a1) {r : R} (hf : f a0 a1 = some r) : Calls Try.prog 21 #[.pointer (some ⟨g0, 0, none⟩), v1] w fun e w' => ∃ v, e = .returned v ∧ post g0 c0_1 c0_2 w F r v w' := by
  obtain ⟨c, hc, href⟩ := ref g0 c0_1 c0_2 w F
  refine calls_of_ref (args := [.pointer (some ⟨g0, 0, none⟩), v1]) _ Try.func21 hc rfl rfl href ?_ (retOf_some hf) ?_
  · exact ⟨F, Wk.refl hok, c0_1, c0_2, rfl, (b0.rebase (.inr (rowL_mem (by simp) rfl))), (h0_1.rebase (fun g hg => .inr (rowL_mem (by simp) hg))), (h0_2.rebase (fun g hg => .inr (rowL_mem (by simp) hg))), h1, a01_02⟩
  · rintro ρ w' a ⟨s, rfl, F', hW, v0_1, v0_2, p0, b0, h0_1, h0_2, h4, a01_02⟩ hF
    refine ⟨_, run_results (rs := [.tmp 4]) rfl hF (vs := [ρ 4]) (⟨_, rfl, rfl⟩), ?_⟩
    have hv : resVal [ρ 4] = .int .i64 s.t_4 := by rw [h4]; rfl
    exact ⟨F', v0_1, v0_2, hv, hW, b0, h0_1, h0_2, a01_02⟩
end
end transfer_link_do_1

namespace transfer_link_do
section
abbrev post (g0 : Nat) (c0_1 : Value) (c0_2 : Value) := transfer_link_do_0.post g0 c0_1 c0_2
theorem calls {w : World} {F : BSet} (hok : ∀ b, F b → b < w.heap.size) {g0 : Nat} {c0_1 : Value} {c0_2 : Value} {a0 : Transfer_link} (b0 : Box k_Transfer_link_r 56 (fun _ => True) F w g0 (⟨a0.frames, c0_1, c0_2, a0.count, a0.acked⟩ : Transfer_link_r)) (h0_1 : OwnV (kInt .i64) 3 (fun _ => True) F w c0_1 a0.sent) (h0_2 : OwnV (kInt .i64) 3 (fun _ => True) F w c0_2 a0.acks) (a01_02 : Apart c0_1.ownBlock c0_2.ownBlock) {v1 : Value} {a1 : LinkEvent} (h1 : Val k_LinkEvent F w v1 a1) {r : R} (hf : f a0 a1 = some r) : Calls Try.prog 21 #[.pointer (some ⟨g0, 0, none⟩), v1] w fun e w' => ∃ v, e = .returned v ∧ post g0 c0_1 c0_2 w F r v w' := by
  unfold f at hf
  split at hf
  · rename_i r0 h0_; cases hf; exact transfer_link_do_0.calls hok b0 h0_1 h0_2 a01_02 h1 h0_
  · exact transfer_link_do_1.calls hok b0 h0_1 h0_2 a01_02 h1 hf
end
end transfer_link_do

end Go.Proofs.Ytpdkgodonemonaa
