/- The machine's calls come to these plain functions (written by a program, wip/fx/gen.py). -/
import Derived.Test.YtilodamhgepjoaaP1
import Derived.Test.YtilodamhgepjoaaM0
import Derived.Test.YtilodamhgepjoaaIt
namespace Go.Proofs.Ytilodamhgepjoaa
open Go.Fx Go.RowKit
set_option linter.unusedVariables false

namespace shallow_reach
section
structure Pins where
  g7 : Nat
  g10 : Nat
def G0 (w0 : World) (F0 : BSet) (s : S) (ρ : Env) (w : World) : Prop := ∃ (F : BSet), Wk nrow w0 F0 F w ∧ SlR k_Commit F w (ρ 0) s.t_0 ∧ SlR (kInt .i64) F w (ρ 1) s.t_1 ∧ ρ 2 = .int .i64 s.t_2
def G1 (w0 : World) (F0 : BSet) (s : S) (ρ : Env) (w : World) : Prop := ∃ (F : BSet), Wk nrow w0 F0 F w ∧ ∃ (g7 : Nat) (v7 : Value), SlR k_Commit F w (ρ 0) s.t_0 ∧ SlR (kInt .i64) F w (ρ 1) s.t_1 ∧ ρ 2 = .int .i64 s.t_2 ∧ ρ 7 = .pointer (some ⟨g7, 0, none⟩) ∧ Box kRaw 23 (Bs w0 nrow) F w g7 v7 ∧ OwnV (kInt .i64) 3 (Bs w0 nrow) F w v7 s.t_7
def G2 (w0 : World) (F0 : BSet) (s : S) (ρ : Env) (w : World) : Prop := ∃ (F : BSet), Wk nrow w0 F0 F w ∧ ∃ (g7 : Nat) (v7 : Value), SlR k_Commit F w (ρ 0) s.t_0 ∧ ρ 2 = .int .i64 s.t_2 ∧ ρ 7 = .pointer (some ⟨g7, 0, none⟩) ∧ Box kRaw 23 (Bs w0 nrow) F w g7 v7 ∧ OwnV (kInt .i64) 3 (Bs w0 nrow) F w v7 s.t_7 ∧ SlR (kInt .i64) F w (ρ 18) s.t_18 ∧ ρ 19 = .int .i64 s.t_19 ∧ ρ 20 = .int .i64 s.t_20
def G3 (w0 : World) (F0 : BSet) (s : S) (ρ : Env) (w : World) : Prop := ∃ (F : BSet), Wk nrow w0 F0 F w ∧ ∃ (g7 : Nat) (v7 : Value), SlR k_Commit F w (ρ 0) s.t_0 ∧ ρ 2 = .int .i64 s.t_2 ∧ ρ 7 = .pointer (some ⟨g7, 0, none⟩) ∧ Box kRaw 23 (Bs w0 nrow) F w g7 v7 ∧ OwnV (kInt .i64) 3 (Bs w0 nrow) F w v7 s.t_7 ∧ SlR (kInt .i64) F w (ρ 18) s.t_18 ∧ ρ 19 = .int .i64 s.t_19 ∧ ρ 20 = .int .i64 s.t_20 ∧ ρ 21 = .bool s.t_21
def G4 (w0 : World) (F0 : BSet) (s : S) (ρ : Env) (w : World) : Prop := ∃ (F : BSet), Wk nrow w0 F0 F w ∧ ∃ (g7 : Nat) (v7 : Value), SlR k_Commit F w (ρ 0) s.t_0 ∧ ρ 7 = .pointer (some ⟨g7, 0, none⟩) ∧ Box kRaw 23 (Bs w0 nrow) F w g7 v7 ∧ OwnV (kInt .i64) 3 (Bs w0 nrow) F w v7 s.t_7
def G5 (w0 : World) (F0 : BSet) (s : S) (ρ : Env) (w : World) : Prop := ∃ (F : BSet), Wk nrow w0 F0 F w ∧ ∃ (g7 : Nat) (v7 : Value), SlR k_Commit F w (ρ 0) s.t_0 ∧ ρ 2 = .int .i64 s.t_2 ∧ ρ 7 = .pointer (some ⟨g7, 0, none⟩) ∧ Box kRaw 23 (Bs w0 nrow) F w g7 v7 ∧ OwnV (kInt .i64) 3 (Bs w0 nrow) F w v7 s.t_7 ∧ ρ 9 = .int .i64 s.t_9 ∧ SlR (kInt .i64) F w (ρ 18) s.t_18 ∧ ρ 19 = .int .i64 s.t_19 ∧ ρ 20 = .int .i64 s.t_20
def G6 (w0 : World) (F0 : BSet) (s : S) (ρ : Env) (w : World) : Prop := ∃ (F : BSet), Wk nrow w0 F0 F w ∧ ∃ (g7 : Nat) (v7 : Value) (g10 : Nat) (v10 : Value), SlR k_Commit F w (ρ 0) s.t_0 ∧ ρ 7 = .pointer (some ⟨g7, 0, none⟩) ∧ Box kRaw 23 (Bs w0 nrow) F w g7 v7 ∧ OwnV (kInt .i64) 3 (Bs w0 nrow) F w v7 s.t_7 ∧ ρ 10 = .pointer (some ⟨g10, 0, none⟩) ∧ Box kRaw 23 (Bs w0 nrow) F w g10 v10 ∧ OwnV (kInt .i64) 3 (Bs w0 nrow) F w v10 s.t_10 ∧ Apart (some g7) (some g10) ∧ Apart v7.ownBlock v10.ownBlock
def G7 (w0 : World) (F0 : BSet) (s : S) (ρ : Env) (w : World) : Prop := ∃ (F : BSet), Wk nrow w0 F0 F w ∧ ∃ (g7 : Nat) (v7 : Value) (g10 : Nat) (v10 : Value), ρ 7 = .pointer (some ⟨g7, 0, none⟩) ∧ Box kRaw 23 (Bs w0 nrow) F w g7 v7 ∧ OwnV (kInt .i64) 3 (Bs w0 nrow) F w v7 s.t_7 ∧ ρ 10 = .pointer (some ⟨g10, 0, none⟩) ∧ Box kRaw 23 (Bs w0 nrow) F w g10 v10 ∧ OwnV (kInt .i64) 3 (Bs w0 nrow) F w v10 s.t_10 ∧ ItBwd F w (ρ 31) s.t_31 ∧ Apart (some g7) (some g10) ∧ Apart v7.ownBlock v10.ownBlock
def K8 (p : Pins) (F B : BSet) (s : S) (ρ : Env) (w : World) : Prop := ∃ (v7 : Value) (v10 : Value), ρ 7 = .pointer (some ⟨p.g7, 0, none⟩) ∧ Box kRaw 23 B F w p.g7 v7 ∧ OwnV (kInt .i64) 3 B F w v7 s.t_7 ∧ ρ 10 = .pointer (some ⟨p.g10, 0, none⟩) ∧ Box kRaw 23 B F w p.g10 v10 ∧ OwnV (kInt .i64) 3 B F w v10 s.t_10 ∧ ρ 32 = .int .i64 s.t_32 ∧ Val k_Commit F w (ρ 33) s.t_33 ∧ Apart (some p.g7) (some p.g10) ∧ Apart v7.ownBlock v10.ownBlock
def G8 (p : Pins) (rs : BSet) (w0 : World) (F0 : BSet) (s : S) (ρ : Env) (w : World) : Prop := GK rs w0 F0 (fun F B w => K8 p F B s ρ w) w
def K9 (p : Pins) (F B : BSet) (s : S) (ρ : Env) (w : World) : Prop := ∃ (v7 : Value) (v10 : Value) (g12 : Nat), ρ 7 = .pointer (some ⟨p.g7, 0, none⟩) ∧ Box kRaw 23 B F w p.g7 v7 ∧ OwnV (kInt .i64) 3 B F w v7 s.t_7 ∧ ρ 10 = .pointer (some ⟨p.g10, 0, none⟩) ∧ Box kRaw 23 B F w p.g10 v10 ∧ OwnV (kInt .i64) 3 B F w v10 s.t_10 ∧ ρ 11 = .int .i64 s.t_11 ∧ ρ 12 = .pointer (some ⟨g12, 0, none⟩) ∧ Box k_Commit 56 B F w g12 s.t_12 ∧ Apart (some p.g7) (some p.g10) ∧ Apart v7.ownBlock v10.ownBlock
def G9 (p : Pins) (rs : BSet) (w0 : World) (F0 : BSet) (s : S) (ρ : Env) (w : World) : Prop := GK rs w0 F0 (fun F B w => K9 p F B s ρ w) w
def K10 (p : Pins) (F B : BSet) (s : S) (ρ : Env) (w : World) : Prop := ∃ (v7 : Value) (v10 : Value), ρ 7 = .pointer (some ⟨p.g7, 0, none⟩) ∧ Box kRaw 23 B F w p.g7 v7 ∧ OwnV (kInt .i64) 3 B F w v7 s.t_7 ∧ ρ 10 = .pointer (some ⟨p.g10, 0, none⟩) ∧ Box kRaw 23 B F w p.g10 v10 ∧ OwnV (kInt .i64) 3 B F w v10 s.t_10 ∧ Apart (some p.g7) (some p.g10) ∧ Apart v7.ownBlock v10.ownBlock
def G10 (p : Pins) (rs : BSet) (w0 : World) (F0 : BSet) (s : S) (ρ : Env) (w : World) : Prop := GK rs w0 F0 (fun F B w => K10 p F B s ρ w) w
def K11 (p : Pins) (F B : BSet) (s : S) (ρ : Env) (w : World) : Prop := ∃ (v7 : Value) (v10 : Value), ρ 7 = .pointer (some ⟨p.g7, 0, none⟩) ∧ Box kRaw 23 B F w p.g7 v7 ∧ OwnV (kInt .i64) 3 B F w v7 s.t_7 ∧ ρ 10 = .pointer (some ⟨p.g10, 0, none⟩) ∧ Box kRaw 23 B F w p.g10 v10 ∧ OwnV (kInt .i64) 3 B F w v10 s.t_10 ∧ ρ 11 = .int .i64 s.t_11 ∧ Val k_Commit F w (ρ 33) s.t_33 ∧ Apart (some p.g7) (some p.g10) ∧ Apart v7.ownBlock v10.ownBlock
def G11 (p : Pins) (rs : BSet) (w0 : World) (F0 : BSet) (s : S) (ρ : Env) (w : World) : Prop := GK rs w0 F0 (fun F B w => K11 p F B s ρ w) w
def K12 (p : Pins) (F B : BSet) (s : S) (ρ : Env) (w : World) : Prop := ∃ (v7 : Value) (v10 : Value) (g12 : Nat), ρ 7 = .pointer (some ⟨p.g7, 0, none⟩) ∧ Box kRaw 23 B F w p.g7 v7 ∧ OwnV (kInt .i64) 3 B F w v7 s.t_7 ∧ ρ 10 = .pointer (some ⟨p.g10, 0, none⟩) ∧ Box kRaw 23 B F w p.g10 v10 ∧ OwnV (kInt .i64) 3 B F w v10 s.t_10 ∧ ρ 11 = .int .i64 s.t_11 ∧ ρ 12 = .pointer (some ⟨g12, 0, none⟩) ∧ Box k_Commit 56 B F w g12 s.t_12 ∧ ρ 38 = .bool s.t_38 ∧ Apart (some p.g7) (some p.g10) ∧ Apart v7.ownBlock v10.ownBlock
def G12 (p : Pins) (rs : BSet) (w0 : World) (F0 : BSet) (s : S) (ρ : Env) (w : World) : Prop := GK rs w0 F0 (fun F B w => K12 p F B s ρ w) w
def K13 (p : Pins) (F B : BSet) (s : S) (ρ : Env) (w : World) : Prop := ∃ (v7 : Value) (v10 : Value), ρ 7 = .pointer (some ⟨p.g7, 0, none⟩) ∧ Box kRaw 23 B F w p.g7 v7 ∧ OwnV (kInt .i64) 3 B F w v7 s.t_7 ∧ ρ 10 = .pointer (some ⟨p.g10, 0, none⟩) ∧ Box kRaw 23 B F w p.g10 v10 ∧ OwnV (kInt .i64) 3 B F w v10 s.t_10 ∧ ρ 11 = .int .i64 s.t_11 ∧ SlR (kInt .i64) F w (ρ 44) s.t_44 ∧ ρ 45 = .int .i64 s.t_45 ∧ ρ 46 = .int .i64 s.t_46 ∧ Apart (some p.g7) (some p.g10) ∧ Apart v7.ownBlock v10.ownBlock
def G13 (p : Pins) (rs : BSet) (w0 : World) (F0 : BSet) (s : S) (ρ : Env) (w : World) : Prop := GK rs w0 F0 (fun F B w => K13 p F B s ρ w) w
def K14 (p : Pins) (F B : BSet) (s : S) (ρ : Env) (w : World) : Prop := ∃ (v7 : Value) (v10 : Value), ρ 7 = .pointer (some ⟨p.g7, 0, none⟩) ∧ Box kRaw 23 B F w p.g7 v7 ∧ OwnV (kInt .i64) 3 B F w v7 s.t_7 ∧ ρ 10 = .pointer (some ⟨p.g10, 0, none⟩) ∧ Box kRaw 23 B F w p.g10 v10 ∧ OwnV (kInt .i64) 3 B F w v10 s.t_10 ∧ ρ 11 = .int .i64 s.t_11 ∧ SlR (kInt .i64) F w (ρ 44) s.t_44 ∧ ρ 45 = .int .i64 s.t_45 ∧ ρ 46 = .int .i64 s.t_46 ∧ ρ 47 = .bool s.t_47 ∧ Apart (some p.g7) (some p.g10) ∧ Apart v7.ownBlock v10.ownBlock
def G14 (p : Pins) (rs : BSet) (w0 : World) (F0 : BSet) (s : S) (ρ : Env) (w : World) : Prop := GK rs w0 F0 (fun F B w => K14 p F B s ρ w) w
def K15 (p : Pins) (F B : BSet) (s : S) (ρ : Env) (w : World) : Prop := ∃ (v7 : Value) (v10 : Value), ρ 7 = .pointer (some ⟨p.g7, 0, none⟩) ∧ Box kRaw 23 B F w p.g7 v7 ∧ OwnV (kInt .i64) 3 B F w v7 s.t_7 ∧ ρ 10 = .pointer (some ⟨p.g10, 0, none⟩) ∧ Box kRaw 23 B F w p.g10 v10 ∧ OwnV (kInt .i64) 3 B F w v10 s.t_10 ∧ ρ 11 = .int .i64 s.t_11 ∧ ρ 14 = .int .i64 s.t_14 ∧ SlR (kInt .i64) F w (ρ 44) s.t_44 ∧ ρ 45 = .int .i64 s.t_45 ∧ ρ 46 = .int .i64 s.t_46 ∧ Apart (some p.g7) (some p.g10) ∧ Apart v7.ownBlock v10.ownBlock
def G15 (p : Pins) (rs : BSet) (w0 : World) (F0 : BSet) (s : S) (ρ : Env) (w : World) : Prop := GK rs w0 F0 (fun F B w => K15 p F B s ρ w) w
def K16 (F B : BSet) (s : S) (ρ : Env) (w : World) : Prop := ∃ (g10 : Nat) (v10 : Value), ρ 10 = .pointer (some ⟨g10, 0, none⟩) ∧ Box kRaw 23 B F w g10 v10 ∧ OwnV (kInt .i64) 3 B F w v10 s.t_10
def G16 (rs : BSet) (w0 : World) (F0 : BSet) (s : S) (ρ : Env) (w : World) : Prop := GK rs w0 F0 (fun F B w => K16 F B s ρ w) w
def K17 (F B : BSet) (s : S) (ρ : Env) (w : World) : Prop := OwnV (kInt .i64) 3 B F w (ρ 6) s.t_6
def G17 (rs : BSet) (w0 : World) (F0 : BSet) (s : S) (ρ : Env) (w : World) : Prop := GK rs w0 F0 (fun F B w => K17 F B s ρ w) w
def G18 (w0 : World) (F0 : BSet) (s : S) (ρ : Env) (w : World) : Prop := ∃ (F : BSet), Wk nrow w0 F0 F w ∧ OwnV (kInt .i64) 3 (Bs w0 nrow) F w (ρ 6) s.t_6
def KL (p : Pins) (F B : BSet) (s : S) (w : World) : Prop := ∃ (v7 : Value) (v10 : Value), Box kRaw 23 B F w p.g7 v7 ∧ OwnV (kInt .i64) 3 B F w v7 s.t_7 ∧ Box kRaw 23 B F w p.g10 v10 ∧ OwnV (kInt .i64) 3 B F w v10 s.t_10 ∧ Apart (some p.g7) (some p.g10) ∧ Apart v7.ownBlock v10.ownBlock
def Pin (p : Pins) (ρ : Env) : Prop := ρ 7 = .pointer (some ⟨p.g7, 0, none⟩) ∧ ρ 10 = .pointer (some ⟨p.g10, 0, none⟩)
theorem cL (p : Pins) (s : S) : Core (fun F B w => KL p F B s w) where
  put := by rintro F B w b o o' ⟨v7, v10, b7, h7, b10, h10, a7b_10b, a7o_10o⟩ hF hh hc; exact ⟨v7, v10, (b7.putN hF hh hc), (h7.putN hF hh hc), (b10.putN hF hh hc), (h10.putN hF hh hc), a7b_10b, a7o_10o⟩
  base := by rintro F B B' w ⟨v7, v10, b7, h7, b10, h10, a7b_10b, a7o_10o⟩ hB; exact ⟨v7, v10, (b7.baseN hB), (h7.baseN hB), (b10.baseN hB), (h10.baseN hB), a7b_10b, a7o_10o⟩
  wk := by rintro F B w w' ⟨v7, v10, b7, h7, b10, h10, a7b_10b, a7o_10o⟩ hK ok; exact ⟨v7, v10, (b7.wk hK ok), (h7.wk hK ok), (b10.wk hK ok), (h10.wk hK ok), a7b_10b, a7o_10o⟩
theorem cK8 (p : Pins) (s : S) (ρ : Env) : Core (fun F B w => K8 p F B s ρ w) where
  put := by rintro F B w b o o' ⟨v7, v10, p7, b7, h7, p10, b10, h10, h32, h33, a7b_10b, a7o_10o⟩ hF hh hc; exact ⟨v7, v10, p7, (b7.putN hF hh hc), (h7.putN hF hh hc), p10, (b10.putN hF hh hc), (h10.putN hF hh hc), h32, (h33.keep (Stp.put _ _ _ hF)), a7b_10b, a7o_10o⟩
  base := by rintro F B B' w ⟨v7, v10, p7, b7, h7, p10, b10, h10, h32, h33, a7b_10b, a7o_10o⟩ hB; exact ⟨v7, v10, p7, (b7.baseN hB), (h7.baseN hB), p10, (b10.baseN hB), (h10.baseN hB), h32, h33, a7b_10b, a7o_10o⟩
  wk := by rintro F B w w' ⟨v7, v10, p7, b7, h7, p10, b10, h10, h32, h33, a7b_10b, a7o_10o⟩ hK ok; exact ⟨v7, v10, p7, (b7.wk hK ok), (h7.wk hK ok), p10, (b10.wk hK ok), (h10.wk hK ok), h32, (h33.keep (hK.stp ok)), a7b_10b, a7o_10o⟩
theorem cK9 (p : Pins) (s : S) (ρ : Env) : Core (fun F B w => K9 p F B s ρ w) where
  put := by rintro F B w b o o' ⟨v7, v10, g12, p7, b7, h7, p10, b10, h10, h11, p12, h12, a7b_10b, a7o_10o⟩ hF hh hc; exact ⟨v7, v10, g12, p7, (b7.putN hF hh hc), (h7.putN hF hh hc), p10, (b10.putN hF hh hc), (h10.putN hF hh hc), h11, p12, (h12.putN hF hh hc), a7b_10b, a7o_10o⟩
  base := by rintro F B B' w ⟨v7, v10, g12, p7, b7, h7, p10, b10, h10, h11, p12, h12, a7b_10b, a7o_10o⟩ hB; exact ⟨v7, v10, g12, p7, (b7.baseN hB), (h7.baseN hB), p10, (b10.baseN hB), (h10.baseN hB), h11, p12, (h12.baseN hB), a7b_10b, a7o_10o⟩
  wk := by rintro F B w w' ⟨v7, v10, g12, p7, b7, h7, p10, b10, h10, h11, p12, h12, a7b_10b, a7o_10o⟩ hK ok; exact ⟨v7, v10, g12, p7, (b7.wk hK ok), (h7.wk hK ok), p10, (b10.wk hK ok), (h10.wk hK ok), h11, p12, (h12.wk hK ok), a7b_10b, a7o_10o⟩
theorem cK16 (s : S) (ρ : Env) : Core (fun F B w => K16 F B s ρ w) where
  put := by rintro F B w b o o' ⟨g10, v10, p10, b10, h10⟩ hF hh hc; exact ⟨g10, v10, p10, (b10.putN hF hh hc), (h10.putN hF hh hc)⟩
  base := by rintro F B B' w ⟨g10, v10, p10, b10, h10⟩ hB; exact ⟨g10, v10, p10, (b10.baseN hB), (h10.baseN hB)⟩
  wk := by rintro F B w w' ⟨g10, v10, p10, b10, h10⟩ hK ok; exact ⟨g10, v10, p10, (b10.wk hK ok), (h10.wk hK ok)⟩
theorem cK17 (s : S) (ρ : Env) : Core (fun F B w => K17 F B s ρ w) where
  put := by rintro F B w b o o' h6 hF hh hc; exact (h6.putN hF hh hc)
  base := by rintro F B B' w h6 hB; exact (h6.baseN hB)
  wk := by rintro F B w w' h6 hK ok; exact (h6.wk hK ok)
set_option maxHeartbeats 4000000 in
set_option maxRecDepth 20000 in
theorem ref (w0 : World) (F0 : BSet) : ∃ c, Try.f36.body = some c ∧ RefT Try.prog 67 c (G0 w0 F0) body (fun r ρ w => ∃ s, retv s = r ∧ G18 w0 F0 s ρ w) := by
  refine ⟨_, rfl, ?_⟩
  unfold body
  refine RefT.seq (B := G0 w0 F0) ?_ ?_
  · refine Ref.region (fun s ρ w s' h hr => ?_)
    obtain ⟨F, hW, h0, h1, h2⟩ := h
    refine ol_v (e_as _ rfl) rfl ?_
    obtain rfl := Option.some.inj hr
    exact ol_nil ⟨F, hW, h0, h1, h2⟩
  refine RefT.seq (B := G1 w0 F0) ?_ ?_
  · refine Ref.region (fun s ρ w s' h hr => ?_)
    obtain ⟨F, hW, h0, h1, h2⟩ := h
    refine ol_v (e_mv _ rfl) rfl ?_
    obtain ⟨A1, c2, e3, hc4, R5⟩ := id h0
    refine ol_v (e_len (SlT.sl sl_22) e3) rfl ?_
    obtain ⟨x6, hx6, hr⟩ := bind_some' hr
    refine ol_e (f_mks sl_23 hW rfl rfl hx6) rfl rfl ?_
    rintro v7 w8 ⟨kw1, ho9⟩
    have hW10 := hW.trans kw1
    have st1 := kw1.stp hW.ok
    refine ol_e (f_alloc zerr_23 hW10) rfl rfl ?_
    rintro _ w12 ⟨g11, rfl, kw2, ho13⟩
    have hW14 := hW10.trans kw2
    have st2 := kw2.stp hW10.ok
    refine ol_eN (f_stB (l := kRaw) hW14 (ho13.base (row := nrow) hW10.le) (FldS.whole _) tyr_23 (OwnV.raw ((ho9.base (row := nrow) hW.le).wk kw2 hW10.ok)) rfl rfl) rfl ?_
    rintro - w15 ⟨hW16, ho17, hg3, st3⟩
    obtain rfl := Option.some.inj hr
    exact ol_nil ⟨F, hW16, g11, v7, (h0.keep (st1.trans (st2.trans st3))), (h1.keep (st1.trans (st2.trans st3))), h2, rfl, ho17, (((ho9.base (row := nrow) hW.le).wk kw2 hW10.ok).mut (apart_bo (ho13.base (row := nrow) hW10.le) ((ho9.base (row := nrow) hW.le).wk kw2 hW10.ok) rfl) hg3 st3)⟩
  refine RefT.seq (B := G4 w0 F0) ?_ ?_
  · refine Ref.seq (B := G2 w0 F0) ?_ ?_
    · refine Ref.region (fun s ρ w s' h hr => ?_)
      obtain ⟨F, hW, g7, v7, h0, h1, h2, p7, b7, h7⟩ := h
      refine ol_v (e_mv _ rfl) rfl ?_
      obtain ⟨A18, c19, e20, hc21, R22⟩ := id h1
      refine ol_v (e_len (SlT.sl sl_23) e20) rfl ?_
      refine ol_v (e_mv _ rfl) rfl ?_
      obtain rfl := Option.some.inj hr
      exact ol_nil ⟨F, hW, g7, v7, h0, h2, p7, b7, h7, h1, rfl, rfl⟩
    refine Ref.block ?_
    refine Ref.loop ?_
    refine Ref.seq (B := G3 w0 F0) ?_ ?_
    · refine Ref.region (fun s ρ w s' h hr => ?_)
      obtain ⟨F, hW, g7, v7, h0, h2, p7, b7, h7, h18, h19, h20⟩ := h
      refine ol_v (e_lss h20 h19) rfl ?_
      obtain rfl := Option.some.inj hr
      exact ol_nil ⟨F, hW, g7, v7, h0, h2, p7, b7, h7, h18, h19, h20, rfl⟩
    refine Ref.seq (B := G2 w0 F0) ?_ ?_
    · refine Ref.cond (b := fun s => s.t_21) (fun s ρ w ⟨F, hW, g7, v7, h0, h2, p7, b7, h7, h18, h19, h20, h21⟩ => h21) (Ref.pre (A := G2 w0 F0) ?_ (fun s ρ w h => (fun ⟨F, hW, g7, v7, h0, h2, p7, b7, h7, h18, h19, h20, h21⟩ => ⟨F, hW, g7, v7, h0, h2, p7, b7, h7, h18, h19, h20⟩ : G3 w0 F0 s ρ w → G2 w0 F0 s ρ w) h.2)) (Ref.pre (A := G4 w0 F0) ?_ (fun s ρ w h => (fun ⟨F, hW, g7, v7, h0, h2, p7, b7, h7, h18, h19, h20, h21⟩ => ⟨F, hW, g7, v7, h0, p7, b7, h7⟩ : G3 w0 F0 s ρ w → G4 w0 F0 s ρ w) h.2))
      · exact Ref.skip
      · exact Ref.exit (fun s ρ w h => h)
    refine Ref.seq (B := G2 w0 F0) ?_ ?_
    · refine Ref.block ?_
      refine Ref.seq (B := G5 w0 F0) ?_ ?_
      · refine Ref.region (fun s ρ w s' h hr => ?_)
        obtain ⟨F, hW, g7, v7, h0, h2, p7, b7, h7, h18, h19, h20⟩ := h
        obtain ⟨x23, hx23, hr⟩ := bind_some' hr
        obtain ⟨A24, c25, e26, hc27, R28⟩ := id h18
        obtain ⟨b29, o30, hA31, L32⟩ := Row.at_ R28 hx23
        refine ol_v (e_ix (SlT.sl sl_23) (SlT.sz sl_23) hA31 hx23 e26 h20) rfl ?_
        refine ol_v (e_ld ty_3 (LiesV.int L32.at_) rfl) rfl ?_
        refine ol_v (e_as _ rfl) rfl ?_
        obtain rfl := Option.some.inj hr
        exact ol_nil ⟨F, hW, g7, v7, h0, h2, p7, b7, h7, rfl, h18, h19, h20⟩
      refine Ref.region (fun s ρ w s' h hr => ?_)
      obtain ⟨F, hW, g7, v7, h0, h2, p7, b7, h7, h9, h18, h19, h20⟩ := h
      refine ol_v (e_ld tyr_23 (LiesV.raw (b7).at_) p7) rfl ?_
      refine ol_v (e_mv _ h9) rfl ?_
      refine ol_v (e_mv _ h2) rfl ?_
      refine ol_v (e_add rfl rfl) rfl ?_
      obtain ⟨x33, hx33, hr⟩ := bind_some' hr
      obtain ⟨g34, o35, c36, hv37, L38⟩ := OwnV.at_ h7 hx33
      refine ol_v (e_ixO sl_23 hv37 hx33 rfl rfl) rfl ?_
      refine ol_eN (f_stO hW h7 hx33 (FldS.whole _) ty_3 (val_int _ _) hv37 rfl rfl) rfl ?_
      rintro - w39 ⟨hW40, ho41, hg1, st1⟩
      obtain rfl := Option.some.inj hr
      exact ol_nil ⟨F, hW40, g7, v7, (h0.keep st1), h2, p7, (b7.mut (apart_bo b7 h7 rfl).symm hg1 st1), ho41, (h18.keep st1), h19, h20⟩
    refine Ref.region (fun s ρ w s' h hr => ?_)
    obtain ⟨F, hW, g7, v7, h0, h2, p7, b7, h7, h18, h19, h20⟩ := h
    refine ol_v (e_add h20 rfl) rfl ?_
    refine ol_v (e_mv _ rfl) rfl ?_
    obtain rfl := Option.some.inj hr
    exact ol_nil ⟨F, hW, g7, v7, h0, h2, p7, b7, h7, h18, h19, rfl⟩
  refine RefT.seq (B := G6 w0 F0) ?_ ?_
  · refine Ref.region (fun s ρ w s' h hr => ?_)
    obtain ⟨F, hW, g7, v7, h0, p7, b7, h7⟩ := h
    refine ol_e (f_alloc zerr_23 hW) rfl rfl ?_
    rintro _ w43 ⟨g42, rfl, kw1, ho44⟩
    have hW45 := hW.trans kw1
    have st1 := kw1.stp hW.ok
    obtain rfl := Option.some.inj hr
    exact ol_nil ⟨F, hW45, g7, v7, g42, .slice none 0 0, (h0.keep st1), p7, (b7.wk kw1 hW.ok), (h7.wk kw1 hW.ok), rfl, (ho44.base (row := nrow) hW.le), ((OwnV.nil (kInt .i64) 3 (Bs w0 nrow) F w).wk kw1 hW.ok), (Apart.base (fun _ e_ => by cases e_; exact ho44.ge) b7.ltw).symm, (Apart.none _).symm⟩
  refine RefT.seqD (BD := fun D s ρ w => ∃ p F, Wk nrow w0 F0 F w ∧ ¬ F D ∧ w0.heap.size ≤ D ∧ KL p F (Bs w0 nrow) s w ∧ Pin p ρ) ?_ (fun D d' s ρ w a h => RefT.rest (row := nrow) (w0 := w0) (w0F := F0) (KR := K16) (KZ := fun F B r ρ w => ∃ s, retv s = r ∧ K17 F B s ρ w) (Z := fun _ _ _ => False) ?_ (fun _ _ _ h => h) cK16 (fun r ρ => Core.ex (fun s => cK17 s ρ)) (fun r ρ w ⟨F, hW, s, hs, hk⟩ => ⟨s, hs, F, hW, hk⟩) D d' s ρ w a (by obtain ⟨p, F, hW, hD, hl, hK, hP⟩ := h; obtain ⟨v7, v10, b7, h7, b10, h10, a7b_10b, a7o_10o⟩ := hK; obtain ⟨n7, n10⟩ := hP; exact ⟨F, hW, hD, hl, ⟨p.g10, v10, n10, b10, h10⟩⟩))
  · refine RefD.seq (B := G7 w0 F0) ?_ ?_
    · refine Ref.region (fun s ρ w s' h hr => ?_)
      obtain ⟨F, hW, g7, v7, g10, v10, h0, p7, b7, h7, p10, b10, h10, a7b_10b, a7o_10o⟩ := h
      refine ol_v (e_mv _ rfl) rfl ?_
      obtain ⟨x46, hx46, hr⟩ := bind_some' hr
      refine ol_e (f_call [(ρ 0)] fn_46 (lcons rfl rfl) (Backward.calls hW.ok h0 hx46)) rfl rfl ?_
      rintro v49 w47 ⟨Fz48, _, rfl, kw1, hk50⟩
      have hW52 := hW.trans kw1
      have st1 := kw1.stp hW.ok
      obtain rfl := Option.some.inj hr
      exact ol_nil ⟨Fz48, hW52, g7, v7, g10, v10, p7, (b7.wk kw1 hW.ok), (h7.wk kw1 hW.ok), p10, (b10.wk kw1 hW.ok), (h10.wk kw1 hW.ok), hk50, a7b_10b, a7o_10o⟩
    refine RefD.range (row := nrow) (w0 := w0) (F0 := F0) (rel := relBwd) (PT := Pins) (KL := KL) (KA := K8) (KB := K9) (KC := K10) (Pin := Pin) (fun s ρ w h => by obtain ⟨F, hW, g7, v7, g10, v10, p7, b7, h7, p10, b10, h10, h31, a7b_10b, a7o_10o⟩ := h; obtain ⟨vss, hi, ha⟩ := h31; exact ⟨⟨g7, g10⟩, vss, F, hW, ⟨v7, v10, b7, h7, b10, h10, a7b_10b, a7o_10o⟩, ⟨p7, p10⟩, hi, ha⟩) relBwd.keep relBwd.len (by rfl) cL (fun {p F B s ρ w vs it} hK hP hR => by obtain ⟨v7, v10, b7, h7, b10, h10, a7b_10b, a7o_10o⟩ := hK; obtain ⟨n7, n10⟩ := hP; obtain ⟨v_, rfl, hv_⟩ := hR; exact ⟨v7, v10, n7, b7, h7, n10, b10, h10, rfl, hv_, a7b_10b, a7o_10o⟩) cK8 ?_ cK9 ?_ (fun {p F B s ρ w} hK => by obtain ⟨v7, v10, p7, b7, h7, p10, b10, h10, a7b_10b, a7o_10o⟩ := hK; exact ⟨v7, v10, b7, h7, b10, h10, a7b_10b, a7o_10o⟩)
    · intro l p rs w0 F0
      refine Ref.seq (B := G11 p rs w0 F0) ?_ ?_
      · refine Ref.regionR (by rfl) (fun s ρ w s' h hr => ?_)
        obtain ⟨F, hW, v7, v10, p7, b7, h7, p10, b10, h10, h32, h33, a7b_10b, a7o_10o⟩ := h
        refine ol_v (e_as _ h32) rfl ?_
        obtain rfl := Option.some.inj hr
        exact ol_nil ⟨F, hW, v7, v10, p7, b7, h7, p10, b10, h10, rfl, h33, a7b_10b, a7o_10o⟩
      refine Ref.regionR (by rfl) (fun s ρ w s' h hr => ?_)
      obtain ⟨F, hW, v7, v10, p7, b7, h7, p10, b10, h10, h11, h33, a7b_10b, a7o_10o⟩ := h
      refine ol_e (f_alloc zer_56 hW) rfl rfl ?_
      rintro _ w54 ⟨g53, rfl, kw1, ho55⟩
      have hW56 := hW.trans kw1
      have st1 := kw1.stp hW.ok
      refine ol_eN (f_stB hW56 (ho55.base (row := rs) hW.le) (FldS.whole _) ty_56 (h33.keep st1) rfl rfl) rfl ?_
      rintro - w57 ⟨hW58, ho59, hg2, st2⟩
      obtain rfl := Option.some.inj hr
      exact ol_nil ⟨F, hW58, v7, v10, g53, p7, ((b7.wk kw1 hW.ok).mut (apart_bb (ho55.base (row := rs) hW.le) (b7.wk kw1 hW.ok) rfl) hg2 st2), ((h7.wk kw1 hW.ok).mut (apart_bo (ho55.base (row := rs) hW.le) (h7.wk kw1 hW.ok) rfl) hg2 st2), p10, ((b10.wk kw1 hW.ok).mut (apart_bb (ho55.base (row := rs) hW.le) (b10.wk kw1 hW.ok) rfl) hg2 st2), ((h10.wk kw1 hW.ok).mut (apart_bo (ho55.base (row := rs) hW.le) (h10.wk kw1 hW.ok) rfl) hg2 st2), h11, rfl, ho59, a7b_10b, a7o_10o⟩
    · intro l p rs w0 F0
      refine Ref.block ?_
      refine Ref.seq (B := G9 p rs w0 F0) ?_ ?_
      · refine Ref.seq (B := G12 p rs w0 F0) ?_ ?_
        · refine Ref.regionR (by rfl) (fun s ρ w s' h hr => ?_)
          obtain ⟨F, hW, v7, v10, g12, p7, b7, h7, p10, b10, h10, h11, p12, h12, a7b_10b, a7o_10o⟩ := h
          refine ol_v (e_ld tyr_23 (LiesV.raw (b7).at_) p7) rfl ?_
          refine ol_v (e_mv _ h11) rfl ?_
          obtain ⟨x60, hx60, hr⟩ := bind_some' hr
          obtain ⟨g61, o62, c63, hv64, L65⟩ := OwnV.at_ h7 hx60
          refine ol_v (e_ixO sl_23 hv64 hx60 rfl rfl) rfl ?_
          refine ol_v (e_ld ty_3 (LiesV.int L65) rfl) rfl ?_
          refine ol_v (e_gtr rfl rfl) rfl ?_
          obtain rfl := Option.some.inj hr
          exact ol_nil ⟨F, hW, v7, v10, g12, p7, b7, h7, p10, b10, h10, h11, p12, h12, rfl, a7b_10b, a7o_10o⟩
        refine Ref.cond (b := fun s => s.t_38) (fun s ρ w ⟨F, hW, v7, v10, g12, p7, b7, h7, p10, b10, h10, h11, p12, h12, h38, a7b_10b, a7o_10o⟩ => h38) (Ref.pre (A := G9 p rs w0 F0) ?_ (fun s ρ w h => (fun ⟨F, hW, v7, v10, g12, p7, b7, h7, p10, b10, h10, h11, p12, h12, h38, a7b_10b, a7o_10o⟩ => ⟨F, hW, v7, v10, g12, p7, b7, h7, p10, b10, h10, h11, p12, h12, a7b_10b, a7o_10o⟩ : G12 p rs w0 F0 s ρ w → G9 p rs w0 F0 s ρ w) h.2)) (Ref.pre (A := G9 p rs w0 F0) ?_ (fun s ρ w h => (fun ⟨F, hW, v7, v10, g12, p7, b7, h7, p10, b10, h10, h11, p12, h12, h38, a7b_10b, a7o_10o⟩ => ⟨F, hW, v7, v10, g12, p7, b7, h7, p10, b10, h10, h11, p12, h12, a7b_10b, a7o_10o⟩ : G12 p rs w0 F0 s ρ w → G9 p rs w0 F0 s ρ w) h.2))
        · refine Ref.regionR (by rfl) (fun s ρ w s' h hr => ?_)
          obtain ⟨F, hW, v7, v10, g12, p7, b7, h7, p10, b10, h10, h11, p12, h12, a7b_10b, a7o_10o⟩ := h
          refine ol_v (e_ld tyr_23 (LiesV.raw (b10).at_) p10) rfl ?_
          refine ol_v (e_mv _ h11) rfl ?_
          refine ol_e (f_bslF sl_23 hW ([s.t_11] : List Int) [.int .i64 s.t_11] (by exact ⟨_, _, rfl, (val_int _ _), rfl⟩) rfl (Nat.le_of_ble_eq_true rfl) (lcons (congrArg (Prod.mk 0) rfl) rfl)) rfl rfl ?_
          rintro v66 w67 ⟨Fz69, kw1, ho68⟩
          have hW70 := hW.trans kw1
          have st1 := kw1.stp hW.ok
          obtain ⟨x71, hx71, hr⟩ := bind_some' hr
          refine ol_e (f_app sl_23 hW70 (h10.wk kw1 hW.ok) ho68 hx71 rfl rfl) rfl rfl ?_
          rintro v72 w73 ⟨hW74, ho75, hg2, st2, hor76⟩
          refine ol_eN (f_stB (l := kRaw) hW74 ((b10.wk kw1 hW.ok).mut (apart_bo (b10.wk kw1 hW.ok) (h10.wk kw1 hW.ok) rfl).symm hg2 st2) (FldS.whole _) tyr_23 (OwnV.raw ho75) p10 rfl) rfl ?_
          rintro - w77 ⟨hW78, ho79, hg3, st3⟩
          obtain rfl := Option.some.inj hr
          exact ol_nil ⟨Fz69, hW78, v7, v72, g12, p7, (((b7.wk kw1 hW.ok).mut (apart_bo (b7.wk kw1 hW.ok) (h10.wk kw1 hW.ok) rfl).symm hg2 st2).mut a7b_10b.symm hg3 st3), (((h7.wk kw1 hW.ok).mut a7o_10o.symm hg2 st2).mut (apart_bo ((b10.wk kw1 hW.ok).mut (apart_bo (b10.wk kw1 hW.ok) (h10.wk kw1 hW.ok) rfl).symm hg2 st2) ((h7.wk kw1 hW.ok).mut a7o_10o.symm hg2 st2) rfl) hg3 st3), p10, ho79, (ho75.mut (apart_bo ((b10.wk kw1 hW.ok).mut (apart_bo (b10.wk kw1 hW.ok) (h10.wk kw1 hW.ok) rfl).symm hg2 st2) ho75 rfl) hg3 st3), h11, p12, (((h12.wk kw1 hW.ok).mut (apart_bo (h12.wk kw1 hW.ok) (h10.wk kw1 hW.ok) rfl).symm hg2 st2).mut (apart_bb ((b10.wk kw1 hW.ok).mut (apart_bo (b10.wk kw1 hW.ok) (h10.wk kw1 hW.ok) rfl).symm hg2 st2) ((h12.wk kw1 hW.ok).mut (apart_bo (h12.wk kw1 hW.ok) (h10.wk kw1 hW.ok) rfl).symm hg2 st2) rfl) hg3 st3), a7b_10b.symm.symm, (Apart.grown a7o_10o.symm (h7.wk kw1 hW.ok).ltw hor76).symm⟩
        · exact Ref.skip
      refine Ref.seq (B := G13 p rs w0 F0) ?_ ?_
      · refine Ref.regionR (by rfl) (fun s ρ w s' h hr => ?_)
        obtain ⟨F, hW, v7, v10, g12, p7, b7, h7, p10, b10, h10, h11, p12, h12, a7b_10b, a7o_10o⟩ := h
        refine ol_v (e_fa fa_56_0 p12) rfl ?_
        obtain ⟨v80, hl81, hs82⟩ := LiesV.sl ((h12).at_.fld fl_Commit_0)
        refine ol_v (e_ld ty_23 hl81 rfl) rfl ?_
        obtain ⟨A83, c84, e85, hc86, R87⟩ := id hs82
        refine ol_v (e_len (SlT.sl sl_23) e85) rfl ?_
        refine ol_v (e_mv _ rfl) rfl ?_
        obtain rfl := Option.some.inj hr
        exact ol_nil ⟨F, hW, v7, v10, p7, b7, h7, p10, b10, h10, h11, hs82, rfl, rfl, a7b_10b, a7o_10o⟩
      refine Ref.block ?_
      refine Ref.loop ?_
      refine Ref.seq (B := G14 p rs w0 F0) ?_ ?_
      · refine Ref.regionR (by rfl) (fun s ρ w s' h hr => ?_)
        obtain ⟨F, hW, v7, v10, p7, b7, h7, p10, b10, h10, h11, h44, h45, h46, a7b_10b, a7o_10o⟩ := h
        refine ol_v (e_lss h46 h45) rfl ?_
        obtain rfl := Option.some.inj hr
        exact ol_nil ⟨F, hW, v7, v10, p7, b7, h7, p10, b10, h10, h11, h44, h45, h46, rfl, a7b_10b, a7o_10o⟩
      refine Ref.seq (B := G13 p rs w0 F0) ?_ ?_
      · refine Ref.cond (b := fun s => s.t_47) (fun s ρ w ⟨F, hW, v7, v10, p7, b7, h7, p10, b10, h10, h11, h44, h45, h46, h47, a7b_10b, a7o_10o⟩ => h47) (Ref.pre (A := G13 p rs w0 F0) ?_ (fun s ρ w h => (fun ⟨F, hW, v7, v10, p7, b7, h7, p10, b10, h10, h11, h44, h45, h46, h47, a7b_10b, a7o_10o⟩ => ⟨F, hW, v7, v10, p7, b7, h7, p10, b10, h10, h11, h44, h45, h46, a7b_10b, a7o_10o⟩ : G14 p rs w0 F0 s ρ w → G13 p rs w0 F0 s ρ w) h.2)) (Ref.pre (A := G10 p rs w0 F0) ?_ (fun s ρ w h => (fun ⟨F, hW, v7, v10, p7, b7, h7, p10, b10, h10, h11, h44, h45, h46, h47, a7b_10b, a7o_10o⟩ => ⟨F, hW, v7, v10, p7, b7, h7, p10, b10, h10, a7b_10b, a7o_10o⟩ : G14 p rs w0 F0 s ρ w → G10 p rs w0 F0 s ρ w) h.2))
        · exact Ref.skip
        · exact Ref.exit (fun s ρ w h => h)
      refine Ref.seq (B := G13 p rs w0 F0) ?_ ?_
      · refine Ref.block ?_
        refine Ref.seq (B := G15 p rs w0 F0) ?_ ?_
        · refine Ref.regionR (by rfl) (fun s ρ w s' h hr => ?_)
          obtain ⟨F, hW, v7, v10, p7, b7, h7, p10, b10, h10, h11, h44, h45, h46, a7b_10b, a7o_10o⟩ := h
          obtain ⟨x88, hx88, hr⟩ := bind_some' hr
          obtain ⟨A89, c90, e91, hc92, R93⟩ := id h44
          obtain ⟨b94, o95, hA96, L97⟩ := Row.at_ R93 hx88
          refine ol_v (e_ix (SlT.sl sl_23) (SlT.sz sl_23) hA96 hx88 e91 h46) rfl ?_
          refine ol_v (e_ld ty_3 (LiesV.int L97.at_) rfl) rfl ?_
          refine ol_v (e_as _ rfl) rfl ?_
          obtain rfl := Option.some.inj hr
          exact ol_nil ⟨F, hW, v7, v10, p7, b7, h7, p10, b10, h10, h11, rfl, h44, h45, h46, a7b_10b, a7o_10o⟩
        refine Ref.regionDR 12 (by rfl) (by kernel_rfl) (by kernel_rfl) (fun s ρ w ⟨F, hW, v7, v10, p7, b7, h7, p10, b10, h10, h11, h14, h44, h45, h46, a7b_10b, a7o_10o⟩ => ⟨F, hW.drewS, v7, v10, p7, b7.wk (Wk.drew (row := nrow) hW.ok) hW.ok, h7.wk (Wk.drew (row := nrow) hW.ok) hW.ok, p10, b10.wk (Wk.drew (row := nrow) hW.ok) hW.ok, h10.wk (Wk.drew (row := nrow) hW.ok) hW.ok, h11, h14, h44.keep (sd hW), h45, h46, a7b_10b, a7o_10o⟩) (fun s ρ w s' h hr => ?_)
        obtain ⟨F, hW, v7, v10, p7, b7, h7, p10, b10, h10, h11, h14, h44, h45, h46, a7b_10b, a7o_10o⟩ := h
        refine ol_v (e_ld tyr_23 (LiesV.raw (b7).at_) p7) rfl ?_
        refine ol_v (e_mv _ h14) rfl ?_
        refine ol_v (e_ld tyr_23 (LiesV.raw (b7).at_) p7) rfl ?_
        refine ol_v (e_mv _ h14) rfl ?_
        obtain ⟨x98, hx98, hr⟩ := bind_some' hr
        obtain ⟨g99, o100, c101, hv102, L103⟩ := OwnV.at_ h7 hx98
        refine ol_v (e_ixO sl_23 hv102 hx98 rfl rfl) rfl ?_
        refine ol_v (e_ld ty_3 (LiesV.int L103) rfl) rfl ?_
        refine ol_v (e_ld tyr_23 (LiesV.raw (b7).at_) p7) rfl ?_
        refine ol_v (e_mv _ h11) rfl ?_
        obtain ⟨x104, hx104, hr⟩ := bind_some' hr
        obtain ⟨g105, o106, c107, hv108, L109⟩ := OwnV.at_ h7 hx104
        refine ol_v (e_ixO sl_23 hv108 hx104 rfl rfl) rfl ?_
        refine ol_v (e_ld ty_3 (LiesV.int L109) rfl) rfl ?_
        refine ol_v (e_sub rfl rfl) rfl ?_
        refine ol_v (e_max rfl rfl) rfl ?_
        obtain ⟨x110, hx110, hr⟩ := bind_some' hr
        obtain ⟨g111, o112, c113, hv114, L115⟩ := OwnV.at_ h7 hx110
        refine ol_v (e_ixO sl_23 hv114 hx110 rfl rfl) rfl ?_
        refine ol_eN (f_stO hW h7 hx110 (FldS.whole _) ty_3 (val_int _ _) hv114 rfl rfl) rfl ?_
        rintro - w116 ⟨hW117, ho118, hg1, st1⟩
        obtain rfl := Option.some.inj hr
        exact ol_nil ⟨F, hW117, v7, v10, p7, (b7.mut (apart_bo b7 h7 rfl).symm hg1 st1), ho118, p10, (b10.mut (apart_bo b10 h7 rfl).symm hg1 st1), (h10.mut a7o_10o hg1 st1), h11, (h44.keep st1), h45, h46, a7b_10b, a7o_10o⟩
      refine Ref.regionR (by rfl) (fun s ρ w s' h hr => ?_)
      obtain ⟨F, hW, v7, v10, p7, b7, h7, p10, b10, h10, h11, h44, h45, h46, a7b_10b, a7o_10o⟩ := h
      refine ol_v (e_add h46 rfl) rfl ?_
      refine ol_v (e_mv _ rfl) rfl ?_
      obtain rfl := Option.some.inj hr
      exact ol_nil ⟨F, hW, v7, v10, p7, b7, h7, p10, b10, h10, h11, h44, h45, rfl, a7b_10b, a7o_10o⟩
  · intro rs w0 F0
    refine Ref.seq (B := G16 rs w0 F0) ?_ ?_
    · refine Ref.region (fun s ρ w s' h hr => ?_)
      obtain ⟨F, hW, g10, v10, p10, b10, h10⟩ := h
      refine ol_v (e_ld tyr_23 (LiesV.raw (b10).at_) p10) rfl ?_
      obtain ⟨x119, hx119, hr⟩ := bind_some' hr
      refine ol_e (f_call [v10] fn_47 (lcons rfl rfl) (slices_Reverse_int_int.calls hW.ok (OwnV.rebase h10 (fun _ _ => trivial)) hx119)) rfl rfl ?_
      rintro _ w120 ⟨Fz121, rfl, kw1, hk122⟩
      have hB124 := fun g hg => (OwnV.lt h10 (g := g) hg).1
      have st1 := kw1.stpR hW.ok (fun g hg => (OwnV.lt h10 hg).2.1)
      have hW123 := hW.transR kw1 hB124
      obtain rfl := Option.some.inj hr
      exact ol_nil ⟨Fz121, hW123, g10, v10, p10, (b10.wkR (apart_bo b10 h10 rfl).symm kw1 st1), (hk122.rebase hB124)⟩
    refine Ref.seq (B := G17 rs w0 F0) ?_ ?_
    · refine Ref.region (fun s ρ w s' h hr => ?_)
      obtain ⟨F, hW, g10, v10, p10, b10, h10⟩ := h
      refine ol_v (e_ld tyr_23 (LiesV.raw (b10).at_) p10) rfl ?_
      refine ol_v (e_as _ rfl) rfl ?_
      obtain rfl := Option.some.inj hr
      exact ol_nil ⟨F, hW, h10⟩
    exact Ref.ret (fun s ρ w ⟨F, hW, h⟩ => ⟨F, hW, s, rfl, h⟩)
def post (w : World) (F : BSet) (r : R) (v : Value) (w' : World) : Prop := ∃ (F' : BSet) (v0' : Value), v = v0' ∧ Wk nrow w F F' w' ∧ OwnV (kInt .i64) 3 (Nw w) F' w' v0' r
theorem calls {w : World} {F : BSet} (hok : ∀ b, F b → b < w.heap.size) {v0 : Value} {a0 : (List Commit)} (h0 : SlR k_Commit F w v0 a0) {v1 : Value} {a1 : (List Int)} (h1 : SlR (kInt .i64) F w v1 a1) (a2 : Int) {r : R} (hf : f a0 a1 a2 = some r) : Calls Try.prog 36 #[v0, v1, .int .i64 a2] w fun e w' => ∃ v, e = .returned v ∧ post w F r v w' := by
  obtain ⟨c, hc, href⟩ := ref w F
  refine calls_of_refT (args := [v0, v1, .int .i64 a2]) _ Try.func36 hc rfl rfl href ?_ (retOf_some hf) ?_
  · exact ⟨F, Wk.refl hok, h0, h1, rfl⟩
  · rintro ρ w' dl a ⟨s, rfl, F', hW, h6⟩ hF
    refine ⟨_, run_results (rs := [.tmp 6]) rfl hF (vs := [ρ 6]) (⟨_, rfl, rfl⟩), ?_⟩
    exact ⟨F', ρ 6, rfl, hW, h6.rebase (fun g hg => (h6.lt hg).1.resolve_right (fun h => h))⟩
end
end shallow_reach

namespace shallow_Cut
section
def G0 (w0 : World) (F0 : BSet) (s : S) (ρ : Env) (w : World) : Prop := ∃ (F : BSet), Wk nrow w0 F0 F w ∧ SlR k_Commit F w (ρ 0) s.commits_0 ∧ SlR (kInt .i64) F w (ρ 1) s.heads_1 ∧ ρ 2 = .int .i64 s.depth_2
def G1 (w0 : World) (F0 : BSet) (s : S) (ρ : Env) (w : World) : Prop := ∃ (F : BSet), Wk nrow w0 F0 F w ∧ ∃ (g7 : Nat), SlR k_Commit F w (ρ 0) s.commits_0 ∧ SlR (kInt .i64) F w (ρ 1) s.heads_1 ∧ ρ 2 = .int .i64 s.depth_2 ∧ ρ 7 = .pointer (some ⟨g7, 0, none⟩) ∧ Box k_Fault 26 (Bs w0 nrow) F w g7 s.t_7
def G2 (w0 : World) (F0 : BSet) (s : S) (ρ : Env) (w : World) : Prop := ∃ (F : BSet), Wk nrow w0 F0 F w ∧ ∃ (g7 : Nat) (g8 : Nat), SlR k_Commit F w (ρ 0) s.commits_0 ∧ SlR (kInt .i64) F w (ρ 1) s.heads_1 ∧ ρ 2 = .int .i64 s.depth_2 ∧ ρ 7 = .pointer (some ⟨g7, 0, none⟩) ∧ Box k_Fault 26 (Bs w0 nrow) F w g7 s.t_7 ∧ ρ 8 = .pointer (some ⟨g8, 0, none⟩) ∧ Box k_Fault 26 (Bs w0 nrow) F w g8 s.f_8 ∧ Apart (some g7) (some g8)
def G3 (w0 : World) (F0 : BSet) (s : S) (ρ : Env) (w : World) : Prop := ∃ (F : BSet), Wk nrow w0 F0 F w ∧ ∃ (g7 : Nat) (g8 : Nat), SlR k_Commit F w (ρ 0) s.commits_0 ∧ SlR (kInt .i64) F w (ρ 1) s.heads_1 ∧ ρ 2 = .int .i64 s.depth_2 ∧ ρ 7 = .pointer (some ⟨g7, 0, none⟩) ∧ Box k_Fault 26 (Bs w0 nrow) F w g7 s.t_7 ∧ ρ 8 = .pointer (some ⟨g8, 0, none⟩) ∧ Box k_Fault 26 (Bs w0 nrow) F w g8 s.f_8 ∧ ρ 15 = .bool s.t_15 ∧ Apart (some g7) (some g8)
def G4 (w0 : World) (F0 : BSet) (s : S) (ρ : Env) (w : World) : Prop := ∃ (F : BSet), Wk nrow w0 F0 F w ∧ ∃ (g7 : Nat) (g8 : Nat), ρ 7 = .pointer (some ⟨g7, 0, none⟩) ∧ Box k_Fault 26 (Bs w0 nrow) F w g7 s.t_7 ∧ ρ 8 = .pointer (some ⟨g8, 0, none⟩) ∧ Box k_Fault 26 (Bs w0 nrow) F w g8 s.f_8 ∧ Apart (some g7) (some g8)
def G5 (w0 : World) (F0 : BSet) (s : S) (ρ : Env) (w : World) : Prop := ∃ (F : BSet), Wk nrow w0 F0 F w ∧ ∃ (g7 : Nat), OwnV (kInt .i64) 3 (Bs w0 nrow) F w (ρ 6) s.t_6 ∧ ρ 7 = .pointer (some ⟨g7, 0, none⟩) ∧ Box k_Fault 26 (Bs w0 nrow) F w g7 s.t_7
def G6 (w0 : World) (F0 : BSet) (s : S) (ρ : Env) (w : World) : Prop := ∃ (F : BSet), Wk nrow w0 F0 F w ∧ ∃ (g7 : Nat), SlR k_Commit F w (ρ 0) s.commits_0 ∧ SlR (kInt .i64) F w (ρ 1) s.heads_1 ∧ ρ 2 = .int .i64 s.depth_2 ∧ ρ 7 = .pointer (some ⟨g7, 0, none⟩) ∧ Box k_Fault 26 (Bs w0 nrow) F w g7 s.t_7 ∧ ρ 19 = .bool s.t_19
def G7 (w0 : World) (F0 : BSet) (s : S) (ρ : Env) (w : World) : Prop := ∃ (F : BSet), Wk nrow w0 F0 F w ∧ ∃ (g7 : Nat), ρ 7 = .pointer (some ⟨g7, 0, none⟩) ∧ Box k_Fault 26 (Bs w0 nrow) F w g7 s.t_7
def G8 (w0 : World) (F0 : BSet) (s : S) (ρ : Env) (w : World) : Prop := ∃ (F : BSet), Wk nrow w0 F0 F w ∧ ∃ (g7 : Nat), SlR k_Commit F w (ρ 0) s.commits_0 ∧ SlR (kInt .i64) F w (ρ 1) s.heads_1 ∧ ρ 2 = .int .i64 s.depth_2 ∧ ρ 7 = .pointer (some ⟨g7, 0, none⟩) ∧ Box k_Fault 26 (Bs w0 nrow) F w g7 s.t_7 ∧ SlR (kInt .i64) F w (ρ 21) s.t_21 ∧ ρ 22 = .int .i64 s.t_22 ∧ ρ 23 = .int .i64 s.t_23
def G9 (w0 : World) (F0 : BSet) (s : S) (ρ : Env) (w : World) : Prop := ∃ (F : BSet), Wk nrow w0 F0 F w ∧ ∃ (g7 : Nat), SlR k_Commit F w (ρ 0) s.commits_0 ∧ SlR (kInt .i64) F w (ρ 1) s.heads_1 ∧ ρ 2 = .int .i64 s.depth_2 ∧ ρ 7 = .pointer (some ⟨g7, 0, none⟩) ∧ Box k_Fault 26 (Bs w0 nrow) F w g7 s.t_7 ∧ SlR (kInt .i64) F w (ρ 21) s.t_21 ∧ ρ 22 = .int .i64 s.t_22 ∧ ρ 23 = .int .i64 s.t_23 ∧ ρ 24 = .bool s.t_24
def G10 (w0 : World) (F0 : BSet) (s : S) (ρ : Env) (w : World) : Prop := ∃ (F : BSet), Wk nrow w0 F0 F w ∧ ∃ (g7 : Nat), SlR k_Commit F w (ρ 0) s.commits_0 ∧ SlR (kInt .i64) F w (ρ 1) s.heads_1 ∧ ρ 2 = .int .i64 s.depth_2 ∧ ρ 7 = .pointer (some ⟨g7, 0, none⟩) ∧ Box k_Fault 26 (Bs w0 nrow) F w g7 s.t_7 ∧ ρ 9 = .int .i64 s.i_9 ∧ ρ 10 = .int .i64 s.n_10 ∧ SlR (kInt .i64) F w (ρ 21) s.t_21 ∧ ρ 22 = .int .i64 s.t_22 ∧ ρ 23 = .int .i64 s.t_23
def G11 (w0 : World) (F0 : BSet) (s : S) (ρ : Env) (w : World) : Prop := ∃ (F : BSet), Wk nrow w0 F0 F w ∧ ∃ (g7 : Nat), SlR k_Commit F w (ρ 0) s.commits_0 ∧ SlR (kInt .i64) F w (ρ 1) s.heads_1 ∧ ρ 2 = .int .i64 s.depth_2 ∧ ρ 7 = .pointer (some ⟨g7, 0, none⟩) ∧ Box k_Fault 26 (Bs w0 nrow) F w g7 s.t_7 ∧ ρ 9 = .int .i64 s.i_9 ∧ SlR (kInt .i64) F w (ρ 21) s.t_21 ∧ ρ 22 = .int .i64 s.t_22 ∧ ρ 23 = .int .i64 s.t_23 ∧ ρ 35 = .bool s.t_35
def G12 (w0 : World) (F0 : BSet) (s : S) (ρ : Env) (w : World) : Prop := ∃ (F : BSet), Wk nrow w0 F0 F w ∧ ∃ (g7 : Nat), ρ 7 = .pointer (some ⟨g7, 0, none⟩) ∧ Box k_Fault 26 (Bs w0 nrow) F w g7 s.t_7 ∧ ρ 9 = .int .i64 s.i_9
def G13 (w0 : World) (F0 : BSet) (s : S) (ρ : Env) (w : World) : Prop := ∃ (F : BSet), Wk nrow w0 F0 F w ∧ ∃ (g7 : Nat), SlR k_Commit F w (ρ 0) s.commits_0 ∧ SlR (kInt .i64) F w (ρ 1) s.heads_1 ∧ ρ 2 = .int .i64 s.depth_2 ∧ ρ 7 = .pointer (some ⟨g7, 0, none⟩) ∧ Box k_Fault 26 (Bs w0 nrow) F w g7 s.t_7 ∧ ρ 44 = .bool s.t_44
set_option maxHeartbeats 4000000 in
set_option maxRecDepth 20000 in
theorem ref (w0 : World) (F0 : BSet) : ∃ c, Try.f13.body = some c ∧ Ref Try.prog 52 c (G0 w0 F0) body (fun _ _ _ => False) (fun _ _ _ _ => False) (fun r ρ w => ∃ s, retv s = r ∧ G5 w0 F0 s ρ w) := by
  refine ⟨_, rfl, ?_⟩
  unfold body
  refine Ref.seq (B := G1 w0 F0) ?_ ?_
  · refine Ref.region (fun s ρ w s' h hr => ?_)
    obtain ⟨F, hW, h0, h1, h2⟩ := h
    refine ol_v (e_as _ rfl) rfl ?_
    refine ol_e (f_alloc zer_26 hW) rfl rfl ?_
    rintro _ w2 ⟨g1, rfl, kw1, ho3⟩
    have hW4 := hW.trans kw1
    have st1 := kw1.stp hW.ok
    obtain rfl := Option.some.inj hr
    exact ol_nil ⟨F, hW4, g1, (h0.keep st1), (h1.keep st1), h2, rfl, (ho3.base (row := nrow) hW.le)⟩
  refine Ref.seq (B := G1 w0 F0) ?_ ?_
  · refine Ref.seq (B := G2 w0 F0) ?_ ?_
    · refine Ref.region (fun s ρ w s' h hr => ?_)
      obtain ⟨F, hW, g7, h0, h1, h2, p7, h7⟩ := h
      refine ol_v (e_mv _ rfl) rfl ?_
      obtain ⟨x5, hx5, hr⟩ := bind_some' hr
      refine ol_e (f_call [(ρ 0)] fn_35 (lcons rfl rfl) (history_Validate.calls hW.ok h0 hx5)) rfl rfl ?_
      rintro v8 w6 ⟨Fz7, _, rfl, kw1, hk9⟩
      have hW11 := hW.trans kw1
      have st1 := kw1.stp hW.ok
      refine ol_e (f_alloc zer_26 hW11) rfl rfl ?_
      rintro _ w13 ⟨g12, rfl, kw2, ho14⟩
      have hW15 := hW11.trans kw2
      have st2 := kw2.stp hW11.ok
      refine ol_eN (f_stB hW15 (ho14.base (row := nrow) hW11.le) (FldS.whole _) ty_26 (hk9.keep st2) rfl rfl) rfl ?_
      rintro - w16 ⟨hW17, ho18, hg3, st3⟩
      obtain rfl := Option.some.inj hr
      exact ol_nil ⟨Fz7, hW17, g7, g12, (h0.keep (st1.trans (st2.trans st3))), (h1.keep (st1.trans (st2.trans st3))), h2, p7, (((h7.wk kw1 hW.ok).wk kw2 hW11.ok).mut (Apart.base (fun _ e_ => by cases e_; exact ho14.ge) (h7.wk kw1 hW.ok).ltw) hg3 st3), rfl, ho18, (Apart.base (fun _ e_ => by cases e_; exact ho14.ge) (h7.wk kw1 hW.ok).ltw).symm⟩
    refine Ref.seq (B := G3 w0 F0) ?_ ?_
    · refine Ref.region (fun s ρ w s' h hr => ?_)
      obtain ⟨F, hW, g7, g8, h0, h1, h2, p7, h7, p8, h8, a7b_8b⟩ := h
      obtain ⟨v19, hl20⟩ := LiesAt.v (h8).at_
      refine ol_v (e_ld ty_26 hl20 p8) rfl ?_
      refine ol_v (e_bld (cells := #[.int .i64 0, .int .i64 0]) bld_26 (vs := []) rfl rfl) rfl ?_
      have hb21 : Val k_Fault F w (.agg #[.int .i64 0, .int .i64 0]) (⟨(0 : Int), (0 : Int)⟩ : Fault) := mk_Fault (val_int _ _) (val_int _ _)
      refine ol_v (e_tneq (eq_Fault_26 hl20.val hb21) rfl rfl) rfl ?_
      obtain rfl := Option.some.inj hr
      exact ol_nil ⟨F, hW, g7, g8, h0, h1, h2, p7, h7, p8, h8, rfl, a7b_8b⟩
    refine Ref.cond (b := fun s => s.t_15) (fun s ρ w ⟨F, hW, g7, g8, h0, h1, h2, p7, h7, p8, h8, h15, a7b_8b⟩ => h15) (Ref.pre (A := G4 w0 F0) ?_ (fun s ρ w h => (fun ⟨F, hW, g7, g8, h0, h1, h2, p7, h7, p8, h8, h15, a7b_8b⟩ => ⟨F, hW, g7, g8, p7, h7, p8, h8, a7b_8b⟩ : G3 w0 F0 s ρ w → G4 w0 F0 s ρ w) h.2)) (Ref.pre (A := G1 w0 F0) ?_ (fun s ρ w h => (fun ⟨F, hW, g7, g8, h0, h1, h2, p7, h7, p8, h8, h15, a7b_8b⟩ => ⟨F, hW, g7, h0, h1, h2, p7, h7⟩ : G3 w0 F0 s ρ w → G1 w0 F0 s ρ w) h.2))
    · refine Ref.seq (B := G5 w0 F0) ?_ ?_
      · refine Ref.regionD 2 (by kernel_rfl) (by kernel_rfl) (fun s ρ w ⟨F, hW, g7, g8, p7, h7, p8, h8, a7b_8b⟩ => ⟨F, hW.drewS, g7, g8, p7, h7.wk (Wk.drew (row := nrow) hW.ok) hW.ok, p8, h8.wk (Wk.drew (row := nrow) hW.ok) hW.ok, a7b_8b⟩) (fun s ρ w s' h hr => ?_)
        obtain ⟨F, hW, g7, g8, p7, h7, p8, h8, a7b_8b⟩ := h
        obtain ⟨v22, hl23⟩ := LiesAt.v (h8).at_
        refine ol_v (e_ld ty_26 hl23 p8) rfl ?_
        refine ol_v (e_as _ rfl) rfl ?_
        refine ol_eN (f_stB hW h7 (FldS.whole _) ty_26 hl23.val p7 rfl) rfl ?_
        rintro - w24 ⟨hW25, ho26, hg1, st1⟩
        obtain rfl := Option.some.inj hr
        exact ol_nil ⟨F, hW25, g7, ((OwnV.nil (kInt .i64) 3 (Bs w0 nrow) F w).mut (apart_bo h7 (OwnV.nil (kInt .i64) 3 (Bs w0 nrow) F w) rfl) hg1 st1), p7, ho26⟩
      exact Ref.ret (fun s ρ w h => ⟨s, rfl, h⟩)
    · exact Ref.skip
  refine Ref.seq (B := G1 w0 F0) ?_ ?_
  · refine Ref.seq (B := G6 w0 F0) ?_ ?_
    · refine Ref.region (fun s ρ w s' h hr => ?_)
      obtain ⟨F, hW, g7, h0, h1, h2, p7, h7⟩ := h
      refine ol_v (e_mv _ rfl) rfl ?_
      obtain ⟨A27, c28, e29, hc30, R31⟩ := id h1
      refine ol_v (e_len (SlT.sl sl_23) e29) rfl ?_
      refine ol_v (e_gtr rfl rfl) rfl ?_
      obtain rfl := Option.some.inj hr
      exact ol_nil ⟨F, hW, g7, h0, h1, h2, p7, h7, rfl⟩
    refine Ref.cond (b := fun s => s.t_19) (fun s ρ w ⟨F, hW, g7, h0, h1, h2, p7, h7, h19⟩ => h19) (Ref.pre (A := G7 w0 F0) ?_ (fun s ρ w h => (fun ⟨F, hW, g7, h0, h1, h2, p7, h7, h19⟩ => ⟨F, hW, g7, p7, h7⟩ : G6 w0 F0 s ρ w → G7 w0 F0 s ρ w) h.2)) (Ref.pre (A := G1 w0 F0) ?_ (fun s ρ w h => (fun ⟨F, hW, g7, h0, h1, h2, p7, h7, h19⟩ => ⟨F, hW, g7, h0, h1, h2, p7, h7⟩ : G6 w0 F0 s ρ w → G1 w0 F0 s ρ w) h.2))
    · refine Ref.seq (B := G5 w0 F0) ?_ ?_
      · refine Ref.region (fun s ρ w s' h hr => ?_)
        obtain ⟨F, hW, g7, p7, h7⟩ := h
        refine ol_v (e_bld (cells := #[.int .i64 (2), .int .i64 (-1)]) bld_26 (vs := [(0, .int .i64 (2)), (1, .int .i64 (-1))]) (lcons (congrArg (Prod.mk 0) rfl) (lcons (congrArg (Prod.mk 1) rfl) rfl)) rfl) rfl ?_
        have hb32 : Val k_Fault F w (.agg #[.int .i64 (2), .int .i64 (-1)]) (⟨(2 : Int), (-1 : Int)⟩ : Fault) := mk_Fault (val_int _ _) (val_int _ _)
        refine ol_v (e_as _ rfl) rfl ?_
        refine ol_eN (f_stB hW h7 (FldS.whole _) ty_26 hb32 p7 rfl) rfl ?_
        rintro - w33 ⟨hW34, ho35, hg1, st1⟩
        obtain rfl := Option.some.inj hr
        exact ol_nil ⟨F, hW34, g7, ((OwnV.nil (kInt .i64) 3 (Bs w0 nrow) F w).mut (apart_bo h7 (OwnV.nil (kInt .i64) 3 (Bs w0 nrow) F w) rfl) hg1 st1), p7, ho35⟩
      exact Ref.ret (fun s ρ w h => ⟨s, rfl, h⟩)
    · exact Ref.skip
  refine Ref.seq (B := G1 w0 F0) ?_ ?_
  · refine Ref.seq (B := G8 w0 F0) ?_ ?_
    · refine Ref.region (fun s ρ w s' h hr => ?_)
      obtain ⟨F, hW, g7, h0, h1, h2, p7, h7⟩ := h
      refine ol_v (e_mv _ rfl) rfl ?_
      obtain ⟨A36, c37, e38, hc39, R40⟩ := id h1
      refine ol_v (e_len (SlT.sl sl_23) e38) rfl ?_
      refine ol_v (e_mv _ rfl) rfl ?_
      obtain rfl := Option.some.inj hr
      exact ol_nil ⟨F, hW, g7, h0, h1, h2, p7, h7, h1, rfl, rfl⟩
    refine Ref.block ?_
    refine Ref.loop ?_
    refine Ref.seq (B := G9 w0 F0) ?_ ?_
    · refine Ref.region (fun s ρ w s' h hr => ?_)
      obtain ⟨F, hW, g7, h0, h1, h2, p7, h7, h21, h22, h23⟩ := h
      refine ol_v (e_lss h23 h22) rfl ?_
      obtain rfl := Option.some.inj hr
      exact ol_nil ⟨F, hW, g7, h0, h1, h2, p7, h7, h21, h22, h23, rfl⟩
    refine Ref.seq (B := G8 w0 F0) ?_ ?_
    · refine Ref.cond (b := fun s => s.t_24) (fun s ρ w ⟨F, hW, g7, h0, h1, h2, p7, h7, h21, h22, h23, h24⟩ => h24) (Ref.pre (A := G8 w0 F0) ?_ (fun s ρ w h => (fun ⟨F, hW, g7, h0, h1, h2, p7, h7, h21, h22, h23, h24⟩ => ⟨F, hW, g7, h0, h1, h2, p7, h7, h21, h22, h23⟩ : G9 w0 F0 s ρ w → G8 w0 F0 s ρ w) h.2)) (Ref.pre (A := G1 w0 F0) ?_ (fun s ρ w h => (fun ⟨F, hW, g7, h0, h1, h2, p7, h7, h21, h22, h23, h24⟩ => ⟨F, hW, g7, h0, h1, h2, p7, h7⟩ : G9 w0 F0 s ρ w → G1 w0 F0 s ρ w) h.2))
      · exact Ref.skip
      · exact Ref.exit (fun s ρ w h => h)
    refine Ref.seq (B := G8 w0 F0) ?_ ?_
    · refine Ref.block ?_
      refine Ref.seq (B := G10 w0 F0) ?_ ?_
      · refine Ref.region (fun s ρ w s' h hr => ?_)
        obtain ⟨F, hW, g7, h0, h1, h2, p7, h7, h21, h22, h23⟩ := h
        refine ol_v (e_mv _ h23) rfl ?_
        obtain ⟨x41, hx41, hr⟩ := bind_some' hr
        obtain ⟨A42, c43, e44, hc45, R46⟩ := id h21
        obtain ⟨b47, o48, hA49, L50⟩ := Row.at_ R46 hx41
        refine ol_v (e_ix (SlT.sl sl_23) (SlT.sz sl_23) hA49 hx41 e44 h23) rfl ?_
        refine ol_v (e_ld ty_3 (LiesV.int L50.at_) rfl) rfl ?_
        refine ol_v (e_as _ rfl) rfl ?_
        refine ol_v (e_as _ rfl) rfl ?_
        obtain rfl := Option.some.inj hr
        exact ol_nil ⟨F, hW, g7, h0, h1, h2, p7, h7, rfl, rfl, h21, h22, h23⟩
      refine Ref.seq (B := G11 w0 F0) ?_ ?_
      · refine Ref.region (fun s ρ w s' h hr => ?_)
        obtain ⟨F, hW, g7, h0, h1, h2, p7, h7, h9, h10, h21, h22, h23⟩ := h
        refine ol_v (e_mv _ h10) rfl ?_
        refine ol_v (e_lss rfl rfl) rfl ?_
        refine ol_cutA 6 30 35 (fun ρ' w' => w = w' ∧ ρ' 35 = .bool ((decide (s.n_10 < (0 : Int))) || (decide ((s.commits_0.length : Int) ≤ s.n_10)))) rfl ?_ ?_
        · by_cases hb51 : (decide (s.n_10 < (0 : Int))) = true
          · refine ol_v (e_mv _ rfl) rfl ?_
            refine ol_not rfl rfl rfl (congrArg Value.bool hb51) rfl ?_
            refine ol_not rfl rfl rfl (congrArg Value.bool hb51) rfl ?_
            refine ol_not rfl rfl rfl (congrArg Value.bool hb51) rfl ?_
            refine ol_not rfl rfl rfl (congrArg Value.bool hb51) rfl ?_
            refine ol_v (e_pick true _ (congrArg Value.bool hb51) rfl) rfl ?_
            exact ol_nil ⟨⟨rfl, (bv_or_t hb51)⟩, (((((((Agr.refl _ _ _).upd rfl rfl).upd rfl rfl).upd rfl rfl).upd rfl rfl).upd rfl rfl).upd rfl rfl)⟩
          · have hb52 := Bool.eq_false_iff.mpr hb51
            refine ol_v (e_mv _ rfl) rfl ?_
            refine ol_yes rfl rfl (congrArg Value.bool hb52) ?_
            refine ol_v (e_mv _ h10) rfl ?_
            refine ol_yes rfl rfl (congrArg Value.bool hb52) ?_
            refine ol_v (e_mv _ rfl) rfl ?_
            refine ol_yes rfl rfl (congrArg Value.bool hb52) ?_
            obtain ⟨A53, c54, e55, hc56, R57⟩ := id h0
            refine ol_v (e_len (SlT.sl sl_22) e55) rfl ?_
            refine ol_yes rfl rfl (congrArg Value.bool hb52) ?_
            refine ol_v (e_geq rfl rfl) rfl ?_
            refine ol_v (e_pick false _ (congrArg Value.bool hb52) rfl) rfl ?_
            exact ol_nil ⟨⟨rfl, (bv_or_f hb52)⟩, (((((((Agr.refl _ _ _).upd rfl rfl).upd rfl rfl).upd rfl rfl).upd rfl rfl).upd rfl rfl).upd rfl rfl)⟩
        rintro ρ58 _ ⟨⟨rfl, hp58⟩, hAg58⟩
        obtain rfl := Option.some.inj hr
        exact ol_nil ⟨F, hW, g7, (SlR.eqv (hAg58 0 rfl) h0), (SlR.eqv (hAg58 1 rfl) h1), ((hAg58 2 rfl).trans h2), ((hAg58 7 rfl).trans p7), h7, ((hAg58 9 rfl).trans h9), (SlR.eqv (hAg58 21 rfl) h21), ((hAg58 22 rfl).trans h22), ((hAg58 23 rfl).trans h23), hp58⟩
      refine Ref.cond (b := fun s => s.t_35) (fun s ρ w ⟨F, hW, g7, h0, h1, h2, p7, h7, h9, h21, h22, h23, h35⟩ => h35) (Ref.pre (A := G12 w0 F0) ?_ (fun s ρ w h => (fun ⟨F, hW, g7, h0, h1, h2, p7, h7, h9, h21, h22, h23, h35⟩ => ⟨F, hW, g7, p7, h7, h9⟩ : G11 w0 F0 s ρ w → G12 w0 F0 s ρ w) h.2)) (Ref.pre (A := G8 w0 F0) ?_ (fun s ρ w h => (fun ⟨F, hW, g7, h0, h1, h2, p7, h7, h9, h21, h22, h23, h35⟩ => ⟨F, hW, g7, h0, h1, h2, p7, h7, h21, h22, h23⟩ : G11 w0 F0 s ρ w → G8 w0 F0 s ρ w) h.2))
      · refine Ref.seq (B := G5 w0 F0) ?_ ?_
        · refine Ref.region (fun s ρ w s' h hr => ?_)
          obtain ⟨F, hW, g7, p7, h7, h9⟩ := h
          refine ol_v (e_mv _ h9) rfl ?_
          refine ol_v (e_bld (cells := #[.int .i64 (6), .int .i64 s.i_9]) bld_26 (vs := [(0, .int .i64 (6)), (1, .int .i64 s.i_9)]) (lcons (congrArg (Prod.mk 0) rfl) (lcons (congrArg (Prod.mk 1) rfl) rfl)) rfl) rfl ?_
          have hb59 : Val k_Fault F w (.agg #[.int .i64 (6), .int .i64 s.i_9]) (⟨(6 : Int), s.i_9⟩ : Fault) := mk_Fault (val_int _ _) (val_int _ _)
          refine ol_v (e_as _ rfl) rfl ?_
          refine ol_eN (f_stB hW h7 (FldS.whole _) ty_26 hb59 p7 rfl) rfl ?_
          rintro - w60 ⟨hW61, ho62, hg1, st1⟩
          obtain rfl := Option.some.inj hr
          exact ol_nil ⟨F, hW61, g7, ((OwnV.nil (kInt .i64) 3 (Bs w0 nrow) F w).mut (apart_bo h7 (OwnV.nil (kInt .i64) 3 (Bs w0 nrow) F w) rfl) hg1 st1), p7, ho62⟩
        exact Ref.ret (fun s ρ w h => ⟨s, rfl, h⟩)
      · exact Ref.skip
    refine Ref.region (fun s ρ w s' h hr => ?_)
    obtain ⟨F, hW, g7, h0, h1, h2, p7, h7, h21, h22, h23⟩ := h
    refine ol_v (e_add h23 rfl) rfl ?_
    refine ol_v (e_mv _ rfl) rfl ?_
    obtain rfl := Option.some.inj hr
    exact ol_nil ⟨F, hW, g7, h0, h1, h2, p7, h7, h21, h22, rfl⟩
  refine Ref.seq (B := G1 w0 F0) ?_ ?_
  · refine Ref.seq (B := G13 w0 F0) ?_ ?_
    · refine Ref.region (fun s ρ w s' h hr => ?_)
      obtain ⟨F, hW, g7, h0, h1, h2, p7, h7⟩ := h
      refine ol_v (e_mv _ h2) rfl ?_
      refine ol_v (e_lss rfl rfl) rfl ?_
      refine ol_cutA 4 41 44 (fun ρ' w' => w = w' ∧ ρ' 44 = .bool ((decide (s.depth_2 < (0 : Int))) || (decide ((60 : Int) < s.depth_2)))) rfl ?_ ?_
      · by_cases hb63 : (decide (s.depth_2 < (0 : Int))) = true
        · refine ol_v (e_mv _ rfl) rfl ?_
          refine ol_not rfl rfl rfl (congrArg Value.bool hb63) rfl ?_
          refine ol_not rfl rfl rfl (congrArg Value.bool hb63) rfl ?_
          refine ol_v (e_pick true _ (congrArg Value.bool hb63) rfl) rfl ?_
          exact ol_nil ⟨⟨rfl, (bv_or_t hb63)⟩, (((((Agr.refl _ _ _).upd rfl rfl).upd rfl rfl).upd rfl rfl).upd rfl rfl)⟩
        · have hb64 := Bool.eq_false_iff.mpr hb63
          refine ol_v (e_mv _ rfl) rfl ?_
          refine ol_yes rfl rfl (congrArg Value.bool hb64) ?_
          refine ol_v (e_mv _ h2) rfl ?_
          refine ol_yes rfl rfl (congrArg Value.bool hb64) ?_
          refine ol_v (e_gtr rfl rfl) rfl ?_
          refine ol_v (e_pick false _ (congrArg Value.bool hb64) rfl) rfl ?_
          exact ol_nil ⟨⟨rfl, (bv_or_f hb64)⟩, (((((Agr.refl _ _ _).upd rfl rfl).upd rfl rfl).upd rfl rfl).upd rfl rfl)⟩
      rintro ρ65 _ ⟨⟨rfl, hp65⟩, hAg65⟩
      obtain rfl := Option.some.inj hr
      exact ol_nil ⟨F, hW, g7, (SlR.eqv (hAg65 0 rfl) h0), (SlR.eqv (hAg65 1 rfl) h1), ((hAg65 2 rfl).trans h2), ((hAg65 7 rfl).trans p7), h7, hp65⟩
    refine Ref.cond (b := fun s => s.t_44) (fun s ρ w ⟨F, hW, g7, h0, h1, h2, p7, h7, h44⟩ => h44) (Ref.pre (A := G7 w0 F0) ?_ (fun s ρ w h => (fun ⟨F, hW, g7, h0, h1, h2, p7, h7, h44⟩ => ⟨F, hW, g7, p7, h7⟩ : G13 w0 F0 s ρ w → G7 w0 F0 s ρ w) h.2)) (Ref.pre (A := G1 w0 F0) ?_ (fun s ρ w h => (fun ⟨F, hW, g7, h0, h1, h2, p7, h7, h44⟩ => ⟨F, hW, g7, h0, h1, h2, p7, h7⟩ : G13 w0 F0 s ρ w → G1 w0 F0 s ρ w) h.2))
    · refine Ref.seq (B := G5 w0 F0) ?_ ?_
      · refine Ref.region (fun s ρ w s' h hr => ?_)
        obtain ⟨F, hW, g7, p7, h7⟩ := h
        refine ol_v (e_bld (cells := #[.int .i64 (3), .int .i64 (-2)]) bld_26 (vs := [(0, .int .i64 (3)), (1, .int .i64 (-2))]) (lcons (congrArg (Prod.mk 0) rfl) (lcons (congrArg (Prod.mk 1) rfl) rfl)) rfl) rfl ?_
        have hb66 : Val k_Fault F w (.agg #[.int .i64 (3), .int .i64 (-2)]) (⟨(3 : Int), (-2 : Int)⟩ : Fault) := mk_Fault (val_int _ _) (val_int _ _)
        refine ol_v (e_as _ rfl) rfl ?_
        refine ol_eN (f_stB hW h7 (FldS.whole _) ty_26 hb66 p7 rfl) rfl ?_
        rintro - w67 ⟨hW68, ho69, hg1, st1⟩
        obtain rfl := Option.some.inj hr
        exact ol_nil ⟨F, hW68, g7, ((OwnV.nil (kInt .i64) 3 (Bs w0 nrow) F w).mut (apart_bo h7 (OwnV.nil (kInt .i64) 3 (Bs w0 nrow) F w) rfl) hg1 st1), p7, ho69⟩
      exact Ref.ret (fun s ρ w h => ⟨s, rfl, h⟩)
    · exact Ref.skip
  refine Ref.seq (B := G5 w0 F0) ?_ ?_
  · refine Ref.region (fun s ρ w s' h hr => ?_)
    obtain ⟨F, hW, g7, h0, h1, h2, p7, h7⟩ := h
    refine ol_v (e_mv _ rfl) rfl ?_
    refine ol_v (e_mv _ rfl) rfl ?_
    refine ol_v (e_mv _ h2) rfl ?_
    refine ol_v (e_sub rfl rfl) rfl ?_
    obtain ⟨x70, hx70, hr⟩ := bind_some' hr
    refine ol_e (f_call [(ρ 0), (ρ 1), .int .i64 (w64 (s.depth_2 - (1 : Int)))] fn_36 (lcons rfl (lcons rfl (lcons rfl rfl))) (shallow_reach.calls hW.ok h0 h1 (w64 (s.depth_2 - (1 : Int))) hx70)) rfl rfl ?_
    rintro v73 w71 ⟨Fz72, _, rfl, kw1, hk74⟩
    have hW76 := hW.trans kw1
    have st1 := kw1.stp hW.ok
    refine ol_v (e_bld (cells := #[.int .i64 0, .int .i64 0]) bld_26 (vs := []) rfl rfl) rfl ?_
    have hb77 : Val k_Fault Fz72 w71 (.agg #[.int .i64 0, .int .i64 0]) (⟨(0 : Int), (0 : Int)⟩ : Fault) := mk_Fault (val_int _ _) (val_int _ _)
    refine ol_v (e_as _ rfl) rfl ?_
    refine ol_eN (f_stB hW76 (h7.wk kw1 hW.ok) (FldS.whole _) ty_26 hb77 p7 rfl) rfl ?_
    rintro - w78 ⟨hW79, ho80, hg2, st2⟩
    obtain rfl := Option.some.inj hr
    exact ol_nil ⟨Fz72, hW79, g7, ((hk74.base (row := nrow) hW.le).mut (apart_bo (h7.wk kw1 hW.ok) (hk74.base (row := nrow) hW.le) rfl) hg2 st2), p7, ho80⟩
  exact Ref.ret (fun s ρ w h => ⟨s, rfl, h⟩)
def post (w : World) (F : BSet) (r : R) (v : Value) (w' : World) : Prop := ∃ (F' : BSet) (v0' : Value) (v1' : Value), v = .tuple #[v0', v1'] ∧ Wk nrow w F F' w' ∧ OwnV (kInt .i64) 3 (Nw w) F' w' v0' r.1 ∧ Val k_Fault F' w' v1' r.2
theorem calls {w : World} {F : BSet} (hok : ∀ b, F b → b < w.heap.size) {v0 : Value} {a0 : (List Commit)} (h0 : SlR k_Commit F w v0 a0) {v1 : Value} {a1 : (List Int)} (h1 : SlR (kInt .i64) F w v1 a1) (a2 : Int) {r : R} (hf : f a0 a1 a2 = some r) : Calls Try.prog 13 #[v0, v1, .int .i64 a2] w fun e w' => ∃ v, e = .returned v ∧ post w F r v w' := by
  obtain ⟨c, hc, href⟩ := ref w F
  refine calls_of_ref (args := [v0, v1, .int .i64 a2]) _ Try.func13 hc rfl rfl href ?_ (retOf_some hf) ?_
  · exact ⟨F, Wk.refl hok, h0, h1, rfl⟩
  · rintro ρ w' a ⟨s, rfl, F', hW, g7, h6, p7, h7⟩ hF
    obtain ⟨u7, l7, k7⟩ := res_box (P := Try.prog) ty_26 h7
    refine ⟨_, run_results (rs := [.tmp 6, .cell 7 26]) rfl hF (vs := [ρ 6, u7]) (⟨_, rfl, ⟨_, _, _, rfl, p7, l7, rfl⟩⟩), ?_⟩
    exact ⟨F', ρ 6, u7, rfl, hW, h6.rebase (fun g hg => (h6.lt hg).1.resolve_right (fun h => h)), k7⟩
end
end shallow_Cut

namespace ref3_Ints
section
def G0 (w0 : World) (F0 : BSet) (s : S) (ρ : Env) (w : World) : Prop := ∃ (F : BSet), Wk nrow w0 F0 F w ∧ SlR (kInt .i64) F w (ρ 0) s.a_0 ∧ SlR (kInt .i64) F w (ρ 1) s.b_1
def G1 (w0 : World) (F0 : BSet) (s : S) (ρ : Env) (w : World) : Prop := ∃ (F : BSet), Wk nrow w0 F0 F w ∧ SlR (kInt .i64) F w (ρ 0) s.a_0 ∧ SlR (kInt .i64) F w (ρ 1) s.b_1 ∧ ρ 10 = .bool s.t_10
def G2 (w0 : World) (F0 : BSet) (s : S) (ρ : Env) (w : World) : Prop := ∃ (F : BSet), Wk nrow w0 F0 F w
def G3 (w0 : World) (F0 : BSet) (s : S) (ρ : Env) (w : World) : Prop := ∃ (F : BSet), Wk nrow w0 F0 F w ∧ ρ 4 = .bool s.t_4
def G4 (w0 : World) (F0 : BSet) (s : S) (ρ : Env) (w : World) : Prop := ∃ (F : BSet), Wk nrow w0 F0 F w ∧ SlR (kInt .i64) F w (ρ 0) s.a_0 ∧ SlR (kInt .i64) F w (ρ 1) s.b_1 ∧ ρ 5 = .int .i64 s.i_5
def G5 (w0 : World) (F0 : BSet) (s : S) (ρ : Env) (w : World) : Prop := ∃ (F : BSet), Wk nrow w0 F0 F w ∧ SlR (kInt .i64) F w (ρ 0) s.a_0 ∧ SlR (kInt .i64) F w (ρ 1) s.b_1 ∧ ρ 5 = .int .i64 s.i_5 ∧ ρ 14 = .bool s.t_14
def G6 (w0 : World) (F0 : BSet) (s : S) (ρ : Env) (w : World) : Prop := ∃ (F : BSet), Wk nrow w0 F0 F w ∧ SlR (kInt .i64) F w (ρ 0) s.a_0 ∧ SlR (kInt .i64) F w (ρ 1) s.b_1 ∧ ρ 5 = .int .i64 s.i_5 ∧ ρ 25 = .bool s.t_25
set_option maxHeartbeats 4000000 in
set_option maxRecDepth 20000 in
theorem ref (w0 : World) (F0 : BSet) : ∃ c, Try.f17.body = some c ∧ Ref Try.prog 26 c (G0 w0 F0) body (fun _ _ _ => False) (fun _ _ _ _ => False) (fun r ρ w => ∃ s, retv s = r ∧ G3 w0 F0 s ρ w) := by
  refine ⟨_, rfl, ?_⟩
  unfold body
  refine Ref.seq (B := G0 w0 F0) ?_ ?_
  · refine Ref.region (fun s ρ w s' h hr => ?_)
    obtain ⟨F, hW, h0, h1⟩ := h
    refine ol_v (e_as _ rfl) rfl ?_
    obtain rfl := Option.some.inj hr
    exact ol_nil ⟨F, hW, h0, h1⟩
  refine Ref.seq (B := G0 w0 F0) ?_ ?_
  · refine Ref.seq (B := G1 w0 F0) ?_ ?_
    · refine Ref.region (fun s ρ w s' h hr => ?_)
      obtain ⟨F, hW, h0, h1⟩ := h
      refine ol_v (e_mv _ rfl) rfl ?_
      obtain ⟨A1, c2, e3, hc4, R5⟩ := id h0
      refine ol_v (e_len (SlT.sl sl_23) e3) rfl ?_
      refine ol_v (e_mv _ rfl) rfl ?_
      obtain ⟨A6, c7, e8, hc9, R10⟩ := id h1
      refine ol_v (e_len (SlT.sl sl_23) e8) rfl ?_
      refine ol_v (e_neq rfl rfl) rfl ?_
      obtain rfl := Option.some.inj hr
      exact ol_nil ⟨F, hW, h0, h1, rfl⟩
    refine Ref.cond (b := fun s => s.t_10) (fun s ρ w ⟨F, hW, h0, h1, h10⟩ => h10) (Ref.pre (A := G2 w0 F0) ?_ (fun s ρ w h => (fun ⟨F, hW, h0, h1, h10⟩ => ⟨F, hW⟩ : G1 w0 F0 s ρ w → G2 w0 F0 s ρ w) h.2)) (Ref.pre (A := G0 w0 F0) ?_ (fun s ρ w h => (fun ⟨F, hW, h0, h1, h10⟩ => ⟨F, hW, h0, h1⟩ : G1 w0 F0 s ρ w → G0 w0 F0 s ρ w) h.2))
    · refine Ref.seq (B := G3 w0 F0) ?_ ?_
      · refine Ref.region (fun s ρ w s' h hr => ?_)
        obtain ⟨F, hW⟩ := h
        refine ol_v (e_as _ rfl) rfl ?_
        obtain rfl := Option.some.inj hr
        exact ol_nil ⟨F, hW, rfl⟩
      exact Ref.ret (fun s ρ w h => ⟨s, rfl, h⟩)
    · exact Ref.skip
  refine Ref.seq (B := G2 w0 F0) ?_ ?_
  · refine Ref.seq (B := G4 w0 F0) ?_ ?_
    · refine Ref.region (fun s ρ w s' h hr => ?_)
      obtain ⟨F, hW, h0, h1⟩ := h
      refine ol_v (e_as _ rfl) rfl ?_
      obtain rfl := Option.some.inj hr
      exact ol_nil ⟨F, hW, h0, h1, rfl⟩
    refine Ref.block ?_
    refine Ref.loop ?_
    refine Ref.seq (B := G4 w0 F0) ?_ ?_
    · refine Ref.seq (B := G5 w0 F0) ?_ ?_
      · refine Ref.region (fun s ρ w s' h hr => ?_)
        obtain ⟨F, hW, h0, h1, h5⟩ := h
        refine ol_v (e_mv _ h5) rfl ?_
        refine ol_v (e_mv _ rfl) rfl ?_
        obtain ⟨A11, c12, e13, hc14, R15⟩ := id h0
        refine ol_v (e_len (SlT.sl sl_23) e13) rfl ?_
        refine ol_v (e_lss rfl rfl) rfl ?_
        obtain rfl := Option.some.inj hr
        exact ol_nil ⟨F, hW, h0, h1, h5, rfl⟩
      refine Ref.cond (b := fun s => s.t_14) (fun s ρ w ⟨F, hW, h0, h1, h5, h14⟩ => h14) (Ref.pre (A := G4 w0 F0) ?_ (fun s ρ w h => (fun ⟨F, hW, h0, h1, h5, h14⟩ => ⟨F, hW, h0, h1, h5⟩ : G5 w0 F0 s ρ w → G4 w0 F0 s ρ w) h.2)) (Ref.pre (A := G2 w0 F0) ?_ (fun s ρ w h => (fun ⟨F, hW, h0, h1, h5, h14⟩ => ⟨F, hW⟩ : G5 w0 F0 s ρ w → G2 w0 F0 s ρ w) h.2))
      · exact Ref.skip
      · exact Ref.exit (fun s ρ w h => h)
    refine Ref.seq (B := G4 w0 F0) ?_ ?_
    · refine Ref.block ?_
      refine Ref.seq (B := G6 w0 F0) ?_ ?_
      · refine Ref.regionS (by kernel_rfl) (by kernel_rfl) (fun s ρ w ⟨F, hW, h0, h1, h5⟩ => ⟨F, hW.drewS, h0.keep (sd hW), h1.keep (sd hW), h5⟩) (fun s ρ w s' h hr => ?_)
        obtain ⟨F, hW, h0, h1, h5⟩ := h
        refine ol_v (e_mv _ rfl) rfl ?_
        refine ol_v (e_mv _ h5) rfl ?_
        obtain ⟨x16, hx16, hr⟩ := bind_some' hr
        obtain ⟨A17, c18, e19, hc20, R21⟩ := id h0
        obtain ⟨b22, o23, hA24, L25⟩ := Row.at_ R21 hx16
        refine ol_v (e_ix (SlT.sl sl_23) (SlT.sz sl_23) hA24 hx16 e19 rfl) rfl ?_
        refine ol_v (e_ld ty_3 (LiesV.int L25.at_) rfl) rfl ?_
        refine ol_v (e_mv _ rfl) rfl ?_
        refine ol_v (e_mv _ h5) rfl ?_
        obtain ⟨x26, hx26, hr⟩ := bind_some' hr
        obtain ⟨A27, c28, e29, hc30, R31⟩ := id h1
        obtain ⟨b32, o33, hA34, L35⟩ := Row.at_ R31 hx26
        refine ol_v (e_ix (SlT.sl sl_23) (SlT.sz sl_23) hA34 hx26 e29 rfl) rfl ?_
        refine ol_v (e_ld ty_3 (LiesV.int L35.at_) rfl) rfl ?_
        refine ol_v (e_neq rfl rfl) rfl ?_
        obtain rfl := Option.some.inj hr
        exact ol_nil ⟨F, hW, h0, h1, h5, rfl⟩
      refine Ref.cond (b := fun s => s.t_25) (fun s ρ w ⟨F, hW, h0, h1, h5, h25⟩ => h25) (Ref.pre (A := G2 w0 F0) ?_ (fun s ρ w h => (fun ⟨F, hW, h0, h1, h5, h25⟩ => ⟨F, hW⟩ : G6 w0 F0 s ρ w → G2 w0 F0 s ρ w) h.2)) (Ref.pre (A := G4 w0 F0) ?_ (fun s ρ w h => (fun ⟨F, hW, h0, h1, h5, h25⟩ => ⟨F, hW, h0, h1, h5⟩ : G6 w0 F0 s ρ w → G4 w0 F0 s ρ w) h.2))
      · refine Ref.seq (B := G3 w0 F0) ?_ ?_
        · refine Ref.region (fun s ρ w s' h hr => ?_)
          obtain ⟨F, hW⟩ := h
          refine ol_v (e_as _ rfl) rfl ?_
          obtain rfl := Option.some.inj hr
          exact ol_nil ⟨F, hW, rfl⟩
        exact Ref.ret (fun s ρ w h => ⟨s, rfl, h⟩)
      · exact Ref.skip
    refine Ref.region (fun s ρ w s' h hr => ?_)
    obtain ⟨F, hW, h0, h1, h5⟩ := h
    refine ol_v (e_mv _ h5) rfl ?_
    refine ol_v (e_add rfl rfl) rfl ?_
    refine ol_v (e_as _ rfl) rfl ?_
    obtain rfl := Option.some.inj hr
    exact ol_nil ⟨F, hW, h0, h1, rfl⟩
  refine Ref.seq (B := G3 w0 F0) ?_ ?_
  · refine Ref.region (fun s ρ w s' h hr => ?_)
    obtain ⟨F, hW⟩ := h
    refine ol_v (e_as _ rfl) rfl ?_
    obtain rfl := Option.some.inj hr
    exact ol_nil ⟨F, hW, rfl⟩
  exact Ref.ret (fun s ρ w h => ⟨s, rfl, h⟩)
def post (w : World) (F : BSet) (r : R) (v : Value) (w' : World) : Prop := ∃ (F' : BSet), v = .bool r ∧ Wk nrow w F F' w'
theorem calls {w : World} {F : BSet} (hok : ∀ b, F b → b < w.heap.size) {v0 : Value} {a0 : (List Int)} (h0 : SlR (kInt .i64) F w v0 a0) {v1 : Value} {a1 : (List Int)} (h1 : SlR (kInt .i64) F w v1 a1) {r : R} (hf : f a0 a1 = some r) : Calls Try.prog 17 #[v0, v1] w fun e w' => ∃ v, e = .returned v ∧ post w F r v w' := by
  obtain ⟨c, hc, href⟩ := ref w F
  refine calls_of_ref (args := [v0, v1]) _ Try.func17 hc rfl rfl href ?_ (retOf_some hf) ?_
  · exact ⟨F, Wk.refl hok, h0, h1⟩
  · rintro ρ w' a ⟨s, rfl, F', hW, h4⟩ hF
    refine ⟨_, run_results (rs := [.tmp 4]) rfl hF (vs := [ρ 4]) (⟨_, rfl, rfl⟩), ?_⟩
    have hv : resVal [ρ 4] = .bool s.t_4 := by rw [h4]; rfl
    exact ⟨F', hv, hW⟩
end
end ref3_Ints

namespace shallow_check
section
def G0 (w0 : World) (F0 : BSet) (s : S) (ρ : Env) (w : World) : Prop := ∃ (F : BSet), Wk nrow w0 F0 F w ∧ SlR k_Commit F w (ρ 0) s.commits_0 ∧ SlR (kInt .i64) F w (ρ 1) s.numbers_1
def G1 (w0 : World) (F0 : BSet) (s : S) (ρ : Env) (w : World) : Prop := ∃ (F : BSet), Wk nrow w0 F0 F w ∧ ∃ (g4 : Nat), SlR k_Commit F w (ρ 0) s.commits_0 ∧ SlR (kInt .i64) F w (ρ 1) s.numbers_1 ∧ ρ 4 = .pointer (some ⟨g4, 0, none⟩) ∧ Box k_Fault 26 (Bs w0 nrow) F w g4 s.t_4
def G2 (w0 : World) (F0 : BSet) (s : S) (ρ : Env) (w : World) : Prop := ∃ (F : BSet), Wk nrow w0 F0 F w ∧ ∃ (g4 : Nat) (g5 : Nat), SlR k_Commit F w (ρ 0) s.commits_0 ∧ SlR (kInt .i64) F w (ρ 1) s.numbers_1 ∧ ρ 4 = .pointer (some ⟨g4, 0, none⟩) ∧ Box k_Fault 26 (Bs w0 nrow) F w g4 s.t_4 ∧ ρ 5 = .pointer (some ⟨g5, 0, none⟩) ∧ Box k_Fault 26 (Bs w0 nrow) F w g5 s.f_5 ∧ Apart (some g4) (some g5)
def G3 (w0 : World) (F0 : BSet) (s : S) (ρ : Env) (w : World) : Prop := ∃ (F : BSet), Wk nrow w0 F0 F w ∧ ∃ (g4 : Nat) (g5 : Nat), SlR k_Commit F w (ρ 0) s.commits_0 ∧ SlR (kInt .i64) F w (ρ 1) s.numbers_1 ∧ ρ 4 = .pointer (some ⟨g4, 0, none⟩) ∧ Box k_Fault 26 (Bs w0 nrow) F w g4 s.t_4 ∧ ρ 5 = .pointer (some ⟨g5, 0, none⟩) ∧ Box k_Fault 26 (Bs w0 nrow) F w g5 s.f_5 ∧ ρ 12 = .bool s.t_12 ∧ Apart (some g4) (some g5)
def G4 (w0 : World) (F0 : BSet) (s : S) (ρ : Env) (w : World) : Prop := ∃ (F : BSet), Wk nrow w0 F0 F w ∧ ∃ (g4 : Nat) (g5 : Nat), ρ 4 = .pointer (some ⟨g4, 0, none⟩) ∧ Box k_Fault 26 (Bs w0 nrow) F w g4 s.t_4 ∧ ρ 5 = .pointer (some ⟨g5, 0, none⟩) ∧ Box k_Fault 26 (Bs w0 nrow) F w g5 s.f_5 ∧ Apart (some g4) (some g5)
def G5 (w0 : World) (F0 : BSet) (s : S) (ρ : Env) (w : World) : Prop := ∃ (F : BSet), Wk nrow w0 F0 F w ∧ ∃ (g4 : Nat), ρ 4 = .pointer (some ⟨g4, 0, none⟩) ∧ Box k_Fault 26 (Bs w0 nrow) F w g4 s.t_4
def G6 (w0 : World) (F0 : BSet) (s : S) (ρ : Env) (w : World) : Prop := ∃ (F : BSet), Wk nrow w0 F0 F w ∧ ∃ (g4 : Nat), SlR k_Commit F w (ρ 0) s.commits_0 ∧ SlR (kInt .i64) F w (ρ 1) s.numbers_1 ∧ ρ 4 = .pointer (some ⟨g4, 0, none⟩) ∧ Box k_Fault 26 (Bs w0 nrow) F w g4 s.t_4 ∧ SlR (kInt .i64) F w (ρ 14) s.t_14 ∧ ρ 15 = .int .i64 s.t_15 ∧ ρ 16 = .int .i64 s.t_16
def G7 (w0 : World) (F0 : BSet) (s : S) (ρ : Env) (w : World) : Prop := ∃ (F : BSet), Wk nrow w0 F0 F w ∧ ∃ (g4 : Nat), SlR k_Commit F w (ρ 0) s.commits_0 ∧ SlR (kInt .i64) F w (ρ 1) s.numbers_1 ∧ ρ 4 = .pointer (some ⟨g4, 0, none⟩) ∧ Box k_Fault 26 (Bs w0 nrow) F w g4 s.t_4 ∧ SlR (kInt .i64) F w (ρ 14) s.t_14 ∧ ρ 15 = .int .i64 s.t_15 ∧ ρ 16 = .int .i64 s.t_16 ∧ ρ 17 = .bool s.t_17
def G8 (w0 : World) (F0 : BSet) (s : S) (ρ : Env) (w : World) : Prop := ∃ (F : BSet), Wk nrow w0 F0 F w ∧ ∃ (g4 : Nat), SlR k_Commit F w (ρ 0) s.commits_0 ∧ SlR (kInt .i64) F w (ρ 1) s.numbers_1 ∧ ρ 4 = .pointer (some ⟨g4, 0, none⟩) ∧ Box k_Fault 26 (Bs w0 nrow) F w g4 s.t_4 ∧ ρ 6 = .int .i64 s.i_6 ∧ ρ 7 = .int .i64 s.n_7 ∧ SlR (kInt .i64) F w (ρ 14) s.t_14 ∧ ρ 15 = .int .i64 s.t_15 ∧ ρ 16 = .int .i64 s.t_16
def G9 (w0 : World) (F0 : BSet) (s : S) (ρ : Env) (w : World) : Prop := ∃ (F : BSet), Wk nrow w0 F0 F w ∧ ∃ (g4 : Nat), SlR k_Commit F w (ρ 0) s.commits_0 ∧ SlR (kInt .i64) F w (ρ 1) s.numbers_1 ∧ ρ 4 = .pointer (some ⟨g4, 0, none⟩) ∧ Box k_Fault 26 (Bs w0 nrow) F w g4 s.t_4 ∧ ρ 6 = .int .i64 s.i_6 ∧ ρ 7 = .int .i64 s.n_7 ∧ SlR (kInt .i64) F w (ρ 14) s.t_14 ∧ ρ 15 = .int .i64 s.t_15 ∧ ρ 16 = .int .i64 s.t_16 ∧ ρ 28 = .bool s.t_28
def G10 (w0 : World) (F0 : BSet) (s : S) (ρ : Env) (w : World) : Prop := ∃ (F : BSet), Wk nrow w0 F0 F w ∧ ∃ (g4 : Nat), ρ 4 = .pointer (some ⟨g4, 0, none⟩) ∧ Box k_Fault 26 (Bs w0 nrow) F w g4 s.t_4 ∧ ρ 6 = .int .i64 s.i_6
def G11 (w0 : World) (F0 : BSet) (s : S) (ρ : Env) (w : World) : Prop := ∃ (F : BSet), Wk nrow w0 F0 F w ∧ ∃ (g4 : Nat), SlR k_Commit F w (ρ 0) s.commits_0 ∧ SlR (kInt .i64) F w (ρ 1) s.numbers_1 ∧ ρ 4 = .pointer (some ⟨g4, 0, none⟩) ∧ Box k_Fault 26 (Bs w0 nrow) F w g4 s.t_4 ∧ ρ 6 = .int .i64 s.i_6 ∧ SlR (kInt .i64) F w (ρ 14) s.t_14 ∧ ρ 15 = .int .i64 s.t_15 ∧ ρ 16 = .int .i64 s.t_16 ∧ ρ 41 = .bool s.t_41
set_option maxHeartbeats 4000000 in
set_option maxRecDepth 20000 in
theorem ref (w0 : World) (F0 : BSet) : ∃ c, Try.f39.body = some c ∧ Ref Try.prog 46 c (G0 w0 F0) body (fun _ _ _ => False) (fun _ _ _ _ => False) (fun r ρ w => ∃ s, retv s = r ∧ G5 w0 F0 s ρ w) := by
  refine ⟨_, rfl, ?_⟩
  unfold body
  refine Ref.seq (B := G1 w0 F0) ?_ ?_
  · refine Ref.region (fun s ρ w s' h hr => ?_)
    obtain ⟨F, hW, h0, h1⟩ := h
    refine ol_e (f_alloc zer_26 hW) rfl rfl ?_
    rintro _ w2 ⟨g1, rfl, kw1, ho3⟩
    have hW4 := hW.trans kw1
    have st1 := kw1.stp hW.ok
    obtain rfl := Option.some.inj hr
    exact ol_nil ⟨F, hW4, g1, (h0.keep st1), (h1.keep st1), rfl, (ho3.base (row := nrow) hW.le)⟩
  refine Ref.seq (B := G1 w0 F0) ?_ ?_
  · refine Ref.seq (B := G2 w0 F0) ?_ ?_
    · refine Ref.region (fun s ρ w s' h hr => ?_)
      obtain ⟨F, hW, g4, h0, h1, p4, h4⟩ := h
      refine ol_v (e_mv _ rfl) rfl ?_
      obtain ⟨x5, hx5, hr⟩ := bind_some' hr
      refine ol_e (f_call [(ρ 0)] fn_35 (lcons rfl rfl) (history_Validate.calls hW.ok h0 hx5)) rfl rfl ?_
      rintro v8 w6 ⟨Fz7, _, rfl, kw1, hk9⟩
      have hW11 := hW.trans kw1
      have st1 := kw1.stp hW.ok
      refine ol_e (f_alloc zer_26 hW11) rfl rfl ?_
      rintro _ w13 ⟨g12, rfl, kw2, ho14⟩
      have hW15 := hW11.trans kw2
      have st2 := kw2.stp hW11.ok
      refine ol_eN (f_stB hW15 (ho14.base (row := nrow) hW11.le) (FldS.whole _) ty_26 (hk9.keep st2) rfl rfl) rfl ?_
      rintro - w16 ⟨hW17, ho18, hg3, st3⟩
      obtain rfl := Option.some.inj hr
      exact ol_nil ⟨Fz7, hW17, g4, g12, (h0.keep (st1.trans (st2.trans st3))), (h1.keep (st1.trans (st2.trans st3))), p4, (((h4.wk kw1 hW.ok).wk kw2 hW11.ok).mut (Apart.base (fun _ e_ => by cases e_; exact ho14.ge) (h4.wk kw1 hW.ok).ltw) hg3 st3), rfl, ho18, (Apart.base (fun _ e_ => by cases e_; exact ho14.ge) (h4.wk kw1 hW.ok).ltw).symm⟩
    refine Ref.seq (B := G3 w0 F0) ?_ ?_
    · refine Ref.region (fun s ρ w s' h hr => ?_)
      obtain ⟨F, hW, g4, g5, h0, h1, p4, h4, p5, h5, a4b_5b⟩ := h
      obtain ⟨v19, hl20⟩ := LiesAt.v (h5).at_
      refine ol_v (e_ld ty_26 hl20 p5) rfl ?_
      refine ol_v (e_bld (cells := #[.int .i64 0, .int .i64 0]) bld_26 (vs := []) rfl rfl) rfl ?_
      have hb21 : Val k_Fault F w (.agg #[.int .i64 0, .int .i64 0]) (⟨(0 : Int), (0 : Int)⟩ : Fault) := mk_Fault (val_int _ _) (val_int _ _)
      refine ol_v (e_tneq (eq_Fault_26 hl20.val hb21) rfl rfl) rfl ?_
      obtain rfl := Option.some.inj hr
      exact ol_nil ⟨F, hW, g4, g5, h0, h1, p4, h4, p5, h5, rfl, a4b_5b⟩
    refine Ref.cond (b := fun s => s.t_12) (fun s ρ w ⟨F, hW, g4, g5, h0, h1, p4, h4, p5, h5, h12, a4b_5b⟩ => h12) (Ref.pre (A := G4 w0 F0) ?_ (fun s ρ w h => (fun ⟨F, hW, g4, g5, h0, h1, p4, h4, p5, h5, h12, a4b_5b⟩ => ⟨F, hW, g4, g5, p4, h4, p5, h5, a4b_5b⟩ : G3 w0 F0 s ρ w → G4 w0 F0 s ρ w) h.2)) (Ref.pre (A := G1 w0 F0) ?_ (fun s ρ w h => (fun ⟨F, hW, g4, g5, h0, h1, p4, h4, p5, h5, h12, a4b_5b⟩ => ⟨F, hW, g4, h0, h1, p4, h4⟩ : G3 w0 F0 s ρ w → G1 w0 F0 s ρ w) h.2))
    · refine Ref.seq (B := G5 w0 F0) ?_ ?_
      · refine Ref.region (fun s ρ w s' h hr => ?_)
        obtain ⟨F, hW, g4, g5, p4, h4, p5, h5, a4b_5b⟩ := h
        obtain ⟨v22, hl23⟩ := LiesAt.v (h5).at_
        refine ol_v (e_ld ty_26 hl23 p5) rfl ?_
        refine ol_eN (f_stB hW h4 (FldS.whole _) ty_26 hl23.val p4 rfl) rfl ?_
        rintro - w24 ⟨hW25, ho26, hg1, st1⟩
        obtain rfl := Option.some.inj hr
        exact ol_nil ⟨F, hW25, g4, p4, ho26⟩
      exact Ref.ret (fun s ρ w h => ⟨s, rfl, h⟩)
    · exact Ref.skip
  refine Ref.seq (B := G5 w0 F0) ?_ ?_
  · refine Ref.seq (B := G6 w0 F0) ?_ ?_
    · refine Ref.region (fun s ρ w s' h hr => ?_)
      obtain ⟨F, hW, g4, h0, h1, p4, h4⟩ := h
      refine ol_v (e_mv _ rfl) rfl ?_
      obtain ⟨A27, c28, e29, hc30, R31⟩ := id h1
      refine ol_v (e_len (SlT.sl sl_23) e29) rfl ?_
      refine ol_v (e_mv _ rfl) rfl ?_
      obtain rfl := Option.some.inj hr
      exact ol_nil ⟨F, hW, g4, h0, h1, p4, h4, h1, rfl, rfl⟩
    refine Ref.block ?_
    refine Ref.loop ?_
    refine Ref.seq (B := G7 w0 F0) ?_ ?_
    · refine Ref.region (fun s ρ w s' h hr => ?_)
      obtain ⟨F, hW, g4, h0, h1, p4, h4, h14, h15, h16⟩ := h
      refine ol_v (e_lss h16 h15) rfl ?_
      obtain rfl := Option.some.inj hr
      exact ol_nil ⟨F, hW, g4, h0, h1, p4, h4, h14, h15, h16, rfl⟩
    refine Ref.seq (B := G6 w0 F0) ?_ ?_
    · refine Ref.cond (b := fun s => s.t_17) (fun s ρ w ⟨F, hW, g4, h0, h1, p4, h4, h14, h15, h16, h17⟩ => h17) (Ref.pre (A := G6 w0 F0) ?_ (fun s ρ w h => (fun ⟨F, hW, g4, h0, h1, p4, h4, h14, h15, h16, h17⟩ => ⟨F, hW, g4, h0, h1, p4, h4, h14, h15, h16⟩ : G7 w0 F0 s ρ w → G6 w0 F0 s ρ w) h.2)) (Ref.pre (A := G5 w0 F0) ?_ (fun s ρ w h => (fun ⟨F, hW, g4, h0, h1, p4, h4, h14, h15, h16, h17⟩ => ⟨F, hW, g4, p4, h4⟩ : G7 w0 F0 s ρ w → G5 w0 F0 s ρ w) h.2))
      · exact Ref.skip
      · exact Ref.exit (fun s ρ w h => h)
    refine Ref.seq (B := G6 w0 F0) ?_ ?_
    · refine Ref.block ?_
      refine Ref.seq (B := G8 w0 F0) ?_ ?_
      · refine Ref.region (fun s ρ w s' h hr => ?_)
        obtain ⟨F, hW, g4, h0, h1, p4, h4, h14, h15, h16⟩ := h
        refine ol_v (e_mv _ h16) rfl ?_
        obtain ⟨x32, hx32, hr⟩ := bind_some' hr
        obtain ⟨A33, c34, e35, hc36, R37⟩ := id h14
        obtain ⟨b38, o39, hA40, L41⟩ := Row.at_ R37 hx32
        refine ol_v (e_ix (SlT.sl sl_23) (SlT.sz sl_23) hA40 hx32 e35 h16) rfl ?_
        refine ol_v (e_ld ty_3 (LiesV.int L41.at_) rfl) rfl ?_
        refine ol_v (e_as _ rfl) rfl ?_
        refine ol_v (e_as _ rfl) rfl ?_
        obtain rfl := Option.some.inj hr
        exact ol_nil ⟨F, hW, g4, h0, h1, p4, h4, rfl, rfl, h14, h15, h16⟩
      refine Ref.seq (B := G8 w0 F0) ?_ ?_
      · refine Ref.seq (B := G9 w0 F0) ?_ ?_
        · refine Ref.region (fun s ρ w s' h hr => ?_)
          obtain ⟨F, hW, g4, h0, h1, p4, h4, h6, h7, h14, h15, h16⟩ := h
          refine ol_v (e_mv _ h7) rfl ?_
          refine ol_v (e_lss rfl rfl) rfl ?_
          refine ol_cutA 6 23 28 (fun ρ' w' => w = w' ∧ ρ' 28 = .bool ((decide (s.n_7 < (0 : Int))) || (decide ((s.commits_0.length : Int) ≤ s.n_7)))) rfl ?_ ?_
          · by_cases hb42 : (decide (s.n_7 < (0 : Int))) = true
            · refine ol_v (e_mv _ rfl) rfl ?_
              refine ol_not rfl rfl rfl (congrArg Value.bool hb42) rfl ?_
              refine ol_not rfl rfl rfl (congrArg Value.bool hb42) rfl ?_
              refine ol_not rfl rfl rfl (congrArg Value.bool hb42) rfl ?_
              refine ol_not rfl rfl rfl (congrArg Value.bool hb42) rfl ?_
              refine ol_v (e_pick true _ (congrArg Value.bool hb42) rfl) rfl ?_
              exact ol_nil ⟨⟨rfl, (bv_or_t hb42)⟩, (((((((Agr.refl _ _ _).upd rfl rfl).upd rfl rfl).upd rfl rfl).upd rfl rfl).upd rfl rfl).upd rfl rfl)⟩
            · have hb43 := Bool.eq_false_iff.mpr hb42
              refine ol_v (e_mv _ rfl) rfl ?_
              refine ol_yes rfl rfl (congrArg Value.bool hb43) ?_
              refine ol_v (e_mv _ h7) rfl ?_
              refine ol_yes rfl rfl (congrArg Value.bool hb43) ?_
              refine ol_v (e_mv _ rfl) rfl ?_
              refine ol_yes rfl rfl (congrArg Value.bool hb43) ?_
              obtain ⟨A44, c45, e46, hc47, R48⟩ := id h0
              refine ol_v (e_len (SlT.sl sl_22) e46) rfl ?_
              refine ol_yes rfl rfl (congrArg Value.bool hb43) ?_
              refine ol_v (e_geq rfl rfl) rfl ?_
              refine ol_v (e_pick false _ (congrArg Value.bool hb43) rfl) rfl ?_
              exact ol_nil ⟨⟨rfl, (bv_or_f hb43)⟩, (((((((Agr.refl _ _ _).upd rfl rfl).upd rfl rfl).upd rfl rfl).upd rfl rfl).upd rfl rfl).upd rfl rfl)⟩
          rintro ρ49 _ ⟨⟨rfl, hp49⟩, hAg49⟩
          obtain rfl := Option.some.inj hr
          exact ol_nil ⟨F, hW, g4, (SlR.eqv (hAg49 0 rfl) h0), (SlR.eqv (hAg49 1 rfl) h1), ((hAg49 4 rfl).trans p4), h4, ((hAg49 6 rfl).trans h6), ((hAg49 7 rfl).trans h7), (SlR.eqv (hAg49 14 rfl) h14), ((hAg49 15 rfl).trans h15), ((hAg49 16 rfl).trans h16), hp49⟩
        refine Ref.cond (b := fun s => s.t_28) (fun s ρ w ⟨F, hW, g4, h0, h1, p4, h4, h6, h7, h14, h15, h16, h28⟩ => h28) (Ref.pre (A := G10 w0 F0) ?_ (fun s ρ w h => (fun ⟨F, hW, g4, h0, h1, p4, h4, h6, h7, h14, h15, h16, h28⟩ => ⟨F, hW, g4, p4, h4, h6⟩ : G9 w0 F0 s ρ w → G10 w0 F0 s ρ w) h.2)) (Ref.pre (A := G8 w0 F0) ?_ (fun s ρ w h => (fun ⟨F, hW, g4, h0, h1, p4, h4, h6, h7, h14, h15, h16, h28⟩ => ⟨F, hW, g4, h0, h1, p4, h4, h6, h7, h14, h15, h16⟩ : G9 w0 F0 s ρ w → G8 w0 F0 s ρ w) h.2))
        · refine Ref.seq (B := G5 w0 F0) ?_ ?_
          · refine Ref.region (fun s ρ w s' h hr => ?_)
            obtain ⟨F, hW, g4, p4, h4, h6⟩ := h
            refine ol_v (e_mv _ h6) rfl ?_
            refine ol_v (e_bld (cells := #[.int .i64 (6), .int .i64 s.i_6]) bld_26 (vs := [(0, .int .i64 (6)), (1, .int .i64 s.i_6)]) (lcons (congrArg (Prod.mk 0) rfl) (lcons (congrArg (Prod.mk 1) rfl) rfl)) rfl) rfl ?_
            have hb50 : Val k_Fault F w (.agg #[.int .i64 (6), .int .i64 s.i_6]) (⟨(6 : Int), s.i_6⟩ : Fault) := mk_Fault (val_int _ _) (val_int _ _)
            refine ol_eN (f_stB hW h4 (FldS.whole _) ty_26 hb50 p4 rfl) rfl ?_
            rintro - w51 ⟨hW52, ho53, hg1, st1⟩
            obtain rfl := Option.some.inj hr
            exact ol_nil ⟨F, hW52, g4, p4, ho53⟩
          exact Ref.ret (fun s ρ w h => ⟨s, rfl, h⟩)
        · exact Ref.skip
      refine Ref.seq (B := G11 w0 F0) ?_ ?_
      · refine Ref.region (fun s ρ w s' h hr => ?_)
        obtain ⟨F, hW, g4, h0, h1, p4, h4, h6, h7, h14, h15, h16⟩ := h
        refine ol_v (e_mv _ h6) rfl ?_
        refine ol_v (e_gtr rfl rfl) rfl ?_
        obtain ⟨x66, hx67, hr⟩ := bind_some' hr
        refine ol_cutA 9 33 41 (fun ρ' w' => w = w' ∧ ρ' 41 = .bool x66) rfl ?_ ?_
        · by_cases hb54 : (decide ((0 : Int) < s.i_6)) = true
          · have hr := hx67
            rw [if_pos hb54] at hr
            refine ol_v (e_mv _ rfl) rfl ?_
            refine ol_yes rfl rfl (congrArg Value.bool hb54) ?_
            refine ol_v (e_mv _ h7) rfl ?_
            refine ol_yes rfl rfl (congrArg Value.bool hb54) ?_
            refine ol_v (e_mv _ rfl) rfl ?_
            refine ol_yes rfl rfl (congrArg Value.bool hb54) ?_
            refine ol_v (e_mv _ h6) rfl ?_
            refine ol_yes rfl rfl (congrArg Value.bool hb54) ?_
            refine ol_v (e_sub rfl rfl) rfl ?_
            refine ol_yes rfl rfl (congrArg Value.bool hb54) ?_
            obtain ⟨x56, hx56, hr⟩ := bind_some' hr
            obtain ⟨A57, c58, e59, hc60, R61⟩ := id h1
            obtain ⟨b62, o63, hA64, L65⟩ := Row.at_ R61 hx56
            refine ol_v (e_ix (SlT.sl sl_23) (SlT.sz sl_23) hA64 hx56 e59 rfl) rfl ?_
            refine ol_yes rfl rfl (congrArg Value.bool hb54) ?_
            refine ol_v (e_ld ty_3 (LiesV.int L65.at_) rfl) rfl ?_
            refine ol_yes rfl rfl (congrArg Value.bool hb54) ?_
            refine ol_v (e_leq rfl rfl) rfl ?_
            refine ol_v (e_pick true _ (congrArg Value.bool hb54) rfl) rfl ?_
            exact ol_nil ⟨⟨rfl, (congrArg Value.bool (Option.some.inj hr))⟩, ((((((((((Agr.refl _ _ _).upd rfl rfl).upd rfl rfl).upd rfl rfl).upd rfl rfl).upd rfl rfl).upd rfl rfl).upd rfl rfl).upd rfl rfl).upd rfl rfl)⟩
          · have hb55 := Bool.eq_false_iff.mpr hb54
            have hr := hx67
            rw [if_neg hb54] at hr
            refine ol_v (e_mv _ rfl) rfl ?_
            refine ol_not rfl rfl rfl (congrArg Value.bool hb55) rfl ?_
            refine ol_not rfl rfl rfl (congrArg Value.bool hb55) rfl ?_
            refine ol_not rfl rfl rfl (congrArg Value.bool hb55) rfl ?_
            refine ol_not rfl rfl rfl (congrArg Value.bool hb55) rfl ?_
            refine ol_not rfl rfl rfl (congrArg Value.bool hb55) rfl ?_
            refine ol_not rfl rfl rfl (congrArg Value.bool hb55) rfl ?_
            refine ol_not rfl rfl rfl (congrArg Value.bool hb55) rfl ?_
            refine ol_v (e_pick false _ (congrArg Value.bool hb55) rfl) rfl ?_
            exact ol_nil ⟨⟨rfl, (congrArg Value.bool (Option.some.inj hr))⟩, ((((((((((Agr.refl _ _ _).upd rfl rfl).upd rfl rfl).upd rfl rfl).upd rfl rfl).upd rfl rfl).upd rfl rfl).upd rfl rfl).upd rfl rfl).upd rfl rfl)⟩
        rintro ρ67 _ ⟨⟨rfl, hp67⟩, hAg67⟩
        obtain rfl := Option.some.inj hr
        exact ol_nil ⟨F, hW, g4, (SlR.eqv (hAg67 0 rfl) h0), (SlR.eqv (hAg67 1 rfl) h1), ((hAg67 4 rfl).trans p4), h4, ((hAg67 6 rfl).trans h6), (SlR.eqv (hAg67 14 rfl) h14), ((hAg67 15 rfl).trans h15), ((hAg67 16 rfl).trans h16), hp67⟩
      refine Ref.cond (b := fun s => s.t_41) (fun s ρ w ⟨F, hW, g4, h0, h1, p4, h4, h6, h14, h15, h16, h41⟩ => h41) (Ref.pre (A := G10 w0 F0) ?_ (fun s ρ w h => (fun ⟨F, hW, g4, h0, h1, p4, h4, h6, h14, h15, h16, h41⟩ => ⟨F, hW, g4, p4, h4, h6⟩ : G11 w0 F0 s ρ w → G10 w0 F0 s ρ w) h.2)) (Ref.pre (A := G6 w0 F0) ?_ (fun s ρ w h => (fun ⟨F, hW, g4, h0, h1, p4, h4, h6, h14, h15, h16, h41⟩ => ⟨F, hW, g4, h0, h1, p4, h4, h14, h15, h16⟩ : G11 w0 F0 s ρ w → G6 w0 F0 s ρ w) h.2))
      · refine Ref.seq (B := G5 w0 F0) ?_ ?_
        · refine Ref.region (fun s ρ w s' h hr => ?_)
          obtain ⟨F, hW, g4, p4, h4, h6⟩ := h
          refine ol_v (e_mv _ h6) rfl ?_
          refine ol_v (e_bld (cells := #[.int .i64 (5), .int .i64 s.i_6]) bld_26 (vs := [(0, .int .i64 (5)), (1, .int .i64 s.i_6)]) (lcons (congrArg (Prod.mk 0) rfl) (lcons (congrArg (Prod.mk 1) rfl) rfl)) rfl) rfl ?_
          have hb68 : Val k_Fault F w (.agg #[.int .i64 (5), .int .i64 s.i_6]) (⟨(5 : Int), s.i_6⟩ : Fault) := mk_Fault (val_int _ _) (val_int _ _)
          refine ol_eN (f_stB hW h4 (FldS.whole _) ty_26 hb68 p4 rfl) rfl ?_
          rintro - w69 ⟨hW70, ho71, hg1, st1⟩
          obtain rfl := Option.some.inj hr
          exact ol_nil ⟨F, hW70, g4, p4, ho71⟩
        exact Ref.ret (fun s ρ w h => ⟨s, rfl, h⟩)
      · exact Ref.skip
    refine Ref.region (fun s ρ w s' h hr => ?_)
    obtain ⟨F, hW, g4, h0, h1, p4, h4, h14, h15, h16⟩ := h
    refine ol_v (e_add h16 rfl) rfl ?_
    refine ol_v (e_mv _ rfl) rfl ?_
    obtain rfl := Option.some.inj hr
    exact ol_nil ⟨F, hW, g4, h0, h1, p4, h4, h14, h15, rfl⟩
  refine Ref.seq (B := G5 w0 F0) ?_ ?_
  · refine Ref.region (fun s ρ w s' h hr => ?_)
    obtain ⟨F, hW, g4, p4, h4⟩ := h
    refine ol_v (e_bld (cells := #[.int .i64 0, .int .i64 0]) bld_26 (vs := []) rfl rfl) rfl ?_
    have hb72 : Val k_Fault F w (.agg #[.int .i64 0, .int .i64 0]) (⟨(0 : Int), (0 : Int)⟩ : Fault) := mk_Fault (val_int _ _) (val_int _ _)
    refine ol_eN (f_stB hW h4 (FldS.whole _) ty_26 hb72 p4 rfl) rfl ?_
    rintro - w73 ⟨hW74, ho75, hg1, st1⟩
    obtain rfl := Option.some.inj hr
    exact ol_nil ⟨F, hW74, g4, p4, ho75⟩
  exact Ref.ret (fun s ρ w h => ⟨s, rfl, h⟩)
def post (w : World) (F : BSet) (r : R) (v : Value) (w' : World) : Prop := ∃ (F' : BSet) (v0' : Value), v = v0' ∧ Wk nrow w F F' w' ∧ Val k_Fault F' w' v0' r
theorem calls {w : World} {F : BSet} (hok : ∀ b, F b → b < w.heap.size) {v0 : Value} {a0 : (List Commit)} (h0 : SlR k_Commit F w v0 a0) {v1 : Value} {a1 : (List Int)} (h1 : SlR (kInt .i64) F w v1 a1) {r : R} (hf : f a0 a1 = some r) : Calls Try.prog 39 #[v0, v1] w fun e w' => ∃ v, e = .returned v ∧ post w F r v w' := by
  obtain ⟨c, hc, href⟩ := ref w F
  refine calls_of_ref (args := [v0, v1]) _ Try.func39 hc rfl rfl href ?_ (retOf_some hf) ?_
  · exact ⟨F, Wk.refl hok, h0, h1⟩
  · rintro ρ w' a ⟨s, rfl, F', hW, g4, p4, h4⟩ hF
    obtain ⟨u4, l4, k4⟩ := res_box (P := Try.prog) ty_26 h4
    refine ⟨_, run_results (rs := [.cell 4 26]) rfl hF (vs := [u4]) (⟨_, _, _, rfl, p4, l4, rfl⟩), ?_⟩
    exact ⟨F', u4, rfl, hW, k4⟩
end
end shallow_check

namespace cmp_isNaN_int
section
def G0 (w0 : World) (F0 : BSet) (s : S) (ρ : Env) (w : World) : Prop := ∃ (F : BSet), Wk nrow w0 F0 F w ∧ ρ 0 = .int .i64 s.x_0
def G1 (w0 : World) (F0 : BSet) (s : S) (ρ : Env) (w : World) : Prop := ∃ (F : BSet), Wk nrow w0 F0 F w ∧ ρ 2 = .bool s.t_2
set_option maxHeartbeats 4000000 in
set_option maxRecDepth 20000 in
theorem ref (w0 : World) (F0 : BSet) : ∃ c, Try.f57.body = some c ∧ Ref Try.prog 6 c (G0 w0 F0) body (fun _ _ _ => False) (fun _ _ _ _ => False) (fun r ρ w => ∃ s, retv s = r ∧ G1 w0 F0 s ρ w) := by
  refine ⟨_, rfl, ?_⟩
  unfold body
  refine Ref.seq (B := G0 w0 F0) ?_ ?_
  · refine Ref.region (fun s ρ w s' h hr => ?_)
    obtain ⟨F, hW, h0⟩ := h
    refine ol_v (e_as _ rfl) rfl ?_
    obtain rfl := Option.some.inj hr
    exact ol_nil ⟨F, hW, h0⟩
  refine Ref.seq (B := G1 w0 F0) ?_ ?_
  · refine Ref.region (fun s ρ w s' h hr => ?_)
    obtain ⟨F, hW, h0⟩ := h
    refine ol_v (e_mv _ h0) rfl ?_
    refine ol_v (e_mv _ h0) rfl ?_
    refine ol_v (e_neq rfl rfl) rfl ?_
    refine ol_v (e_as _ rfl) rfl ?_
    obtain rfl := Option.some.inj hr
    exact ol_nil ⟨F, hW, rfl⟩
  exact Ref.ret (fun s ρ w h => ⟨s, rfl, h⟩)
def post (w : World) (F : BSet) (r : R) (v : Value) (w' : World) : Prop := ∃ (F' : BSet), v = .bool r ∧ Wk nrow w F F' w'
theorem calls {w : World} {F : BSet} (hok : ∀ b, F b → b < w.heap.size) (a0 : Int) {r : R} (hf : f a0 = some r) : Calls Try.prog 57 #[.int .i64 a0] w fun e w' => ∃ v, e = .returned v ∧ post w F r v w' := by
  obtain ⟨c, hc, href⟩ := ref w F
  refine calls_of_ref (args := [.int .i64 a0]) _ Try.func57 hc rfl rfl href ?_ (retOf_some hf) ?_
  · exact ⟨F, Wk.refl hok, rfl⟩
  · rintro ρ w' a ⟨s, rfl, F', hW, h2⟩ hF
    refine ⟨_, run_results (rs := [.tmp 2]) rfl hF (vs := [ρ 2]) (⟨_, rfl, rfl⟩), ?_⟩
    have hv : resVal [ρ 2] = .bool s.t_2 := by rw [h2]; rfl
    exact ⟨F', hv, hW⟩
end
end cmp_isNaN_int

namespace cmp_Less_int
section
def G0 (w0 : World) (F0 : BSet) (s : S) (ρ : Env) (w : World) : Prop := ∃ (F : BSet), Wk nrow w0 F0 F w ∧ ρ 0 = .int .i64 s.x_0 ∧ ρ 1 = .int .i64 s.y_1
def G1 (w0 : World) (F0 : BSet) (s : S) (ρ : Env) (w : World) : Prop := ∃ (F : BSet), Wk nrow w0 F0 F w ∧ ρ 4 = .bool s.t_4
set_option maxHeartbeats 4000000 in
set_option maxRecDepth 20000 in
theorem ref (w0 : World) (F0 : BSet) : ∃ c, Try.f48.body = some c ∧ Ref Try.prog 17 c (G0 w0 F0) body (fun _ _ _ => False) (fun _ _ _ _ => False) (fun r ρ w => ∃ s, retv s = r ∧ G1 w0 F0 s ρ w) := by
  refine ⟨_, rfl, ?_⟩
  unfold body
  refine Ref.seq (B := G0 w0 F0) ?_ ?_
  · refine Ref.region (fun s ρ w s' h hr => ?_)
    obtain ⟨F, hW, h0, h1⟩ := h
    refine ol_v (e_as _ rfl) rfl ?_
    obtain rfl := Option.some.inj hr
    exact ol_nil ⟨F, hW, h0, h1⟩
  refine Ref.seq (B := G1 w0 F0) ?_ ?_
  · refine Ref.region (fun s ρ w s' h hr => ?_)
    obtain ⟨F, hW, h0, h1⟩ := h
    refine ol_v (e_mv _ h0) rfl ?_
    obtain ⟨x1, hx1, hr⟩ := bind_some' hr
    refine ol_e (f_call [.int .i64 s.x_0] fn_57 (lcons rfl rfl) (cmp_isNaN_int.calls hW.ok s.x_0 hx1)) rfl rfl ?_
    rintro _ w2 ⟨Fz3, rfl, kw1⟩
    have hW5 := hW.trans kw1
    have st1 := kw1.stp hW.ok
    obtain ⟨x13, hx14, hr⟩ := bind_some' hr
    refine ol_cutA 5 7 11 (fun ρ' w' => ∃ F', Wk nrow w2 Fz3 F' w' ∧ ρ' 11 = .bool x13) rfl ?_ ?_
    · by_cases hb6 : x1 = true
      · have hr := hx14
        rw [if_pos hb6] at hr
        refine ol_v (e_mv _ rfl) rfl ?_
        refine ol_yes rfl rfl (congrArg Value.bool hb6) ?_
        refine ol_v (e_mv _ h1) rfl ?_
        refine ol_yes rfl rfl (congrArg Value.bool hb6) ?_
        obtain ⟨x8, hx8, hr⟩ := bind_some' hr
        refine ol_e (f_call [.int .i64 s.y_1] fn_57 (lcons rfl rfl) (cmp_isNaN_int.calls hW5.ok s.y_1 hx8)) rfl rfl ?_
        rintro _ w9 ⟨Fz10, rfl, kw2⟩
        have hW12 := hW5.trans kw2
        have st2 := kw2.stp hW5.ok
        refine ol_yes rfl rfl (congrArg Value.bool hb6) ?_
        refine ol_v (e_not_ rfl) rfl ?_
        refine ol_v (e_pick true _ (congrArg Value.bool hb6) rfl) rfl ?_
        exact ol_nil ⟨⟨_, kw2, (congrArg Value.bool (Option.some.inj hr))⟩, ((((((Agr.refl _ _ _).upd rfl rfl).upd rfl rfl).upd rfl rfl).upd rfl rfl).upd rfl rfl)⟩
      · have hb7 := Bool.eq_false_iff.mpr hb6
        have hr := hx14
        rw [if_neg hb6] at hr
        refine ol_v (e_mv _ rfl) rfl ?_
        refine ol_not rfl rfl rfl (congrArg Value.bool hb7) rfl ?_
        refine ol_not rfl rfl rfl (congrArg Value.bool hb7) rfl ?_
        refine ol_not rfl rfl rfl (congrArg Value.bool hb7) rfl ?_
        refine ol_v (e_pick false _ (congrArg Value.bool hb7) rfl) rfl ?_
        exact ol_nil ⟨⟨_, Wk.refl hW5.ok, (congrArg Value.bool (Option.some.inj hr))⟩, ((((((Agr.refl _ _ _).upd rfl rfl).upd rfl rfl).upd rfl rfl).upd rfl rfl).upd rfl rfl)⟩
    rintro ρ14 w15 ⟨⟨Fz16, kw2, hp14⟩, hAg14⟩
    have hW17 := hW5.trans kw2
    have st2 := kw2.stp hW5.ok
    refine ol_cutA 5 12 16 (fun ρ' w' => w15 = w' ∧ ρ' 16 = .bool (x13 || (decide (s.x_0 < s.y_1)))) rfl ?_ ?_
    · by_cases hb18 : x13 = true
      · refine ol_v (e_mv _ hp14) rfl ?_
        refine ol_not rfl rfl rfl (congrArg Value.bool hb18) rfl ?_
        refine ol_not rfl rfl rfl (congrArg Value.bool hb18) rfl ?_
        refine ol_not rfl rfl rfl (congrArg Value.bool hb18) rfl ?_
        refine ol_v (e_pick true _ (congrArg Value.bool hb18) rfl) rfl ?_
        exact ol_nil ⟨⟨rfl, (bv_or_t hb18)⟩, ((((((Agr.refl _ _ _).upd rfl rfl).upd rfl rfl).upd rfl rfl).upd rfl rfl).upd rfl rfl)⟩
      · have hb19 := Bool.eq_false_iff.mpr hb18
        refine ol_v (e_mv _ hp14) rfl ?_
        refine ol_yes rfl rfl (congrArg Value.bool hb19) ?_
        refine ol_v (e_mv _ ((hAg14 0 rfl).trans h0)) rfl ?_
        refine ol_yes rfl rfl (congrArg Value.bool hb19) ?_
        refine ol_v (e_mv _ ((hAg14 1 rfl).trans h1)) rfl ?_
        refine ol_yes rfl rfl (congrArg Value.bool hb19) ?_
        refine ol_v (e_lss rfl rfl) rfl ?_
        refine ol_v (e_pick false _ (congrArg Value.bool hb19) rfl) rfl ?_
        exact ol_nil ⟨⟨rfl, (bv_or_f hb19)⟩, ((((((Agr.refl _ _ _).upd rfl rfl).upd rfl rfl).upd rfl rfl).upd rfl rfl).upd rfl rfl)⟩
    rintro ρ20 _ ⟨⟨rfl, hp20⟩, hAg20⟩
    refine ol_v (e_as _ hp20) rfl ?_
    obtain rfl := Option.some.inj hr
    exact ol_nil ⟨Fz16, hW17, rfl⟩
  exact Ref.ret (fun s ρ w h => ⟨s, rfl, h⟩)
def post (w : World) (F : BSet) (r : R) (v : Value) (w' : World) : Prop := ∃ (F' : BSet), v = .bool r ∧ Wk nrow w F F' w'
theorem calls {w : World} {F : BSet} (hok : ∀ b, F b → b < w.heap.size) (a0 : Int) (a1 : Int) {r : R} (hf : f a0 a1 = some r) : Calls Try.prog 48 #[.int .i64 a0, .int .i64 a1] w fun e w' => ∃ v, e = .returned v ∧ post w F r v w' := by
  obtain ⟨c, hc, href⟩ := ref w F
  refine calls_of_ref (args := [.int .i64 a0, .int .i64 a1]) _ Try.func48 hc rfl rfl href ?_ (retOf_some hf) ?_
  · exact ⟨F, Wk.refl hok, rfl, rfl⟩
  · rintro ρ w' a ⟨s, rfl, F', hW, h4⟩ hF
    refine ⟨_, run_results (rs := [.tmp 4]) rfl hF (vs := [ρ 4]) (⟨_, rfl, rfl⟩), ?_⟩
    have hv : resVal [ρ 4] = .bool s.t_4 := by rw [h4]; rfl
    exact ⟨F', hv, hW⟩
end
end cmp_Less_int

namespace slices_isNaN_int
section
def G0 (w0 : World) (F0 : BSet) (s : S) (ρ : Env) (w : World) : Prop := ∃ (F : BSet), Wk nrow w0 F0 F w ∧ ρ 0 = .int .i64 s.x_0
def G1 (w0 : World) (F0 : BSet) (s : S) (ρ : Env) (w : World) : Prop := ∃ (F : BSet), Wk nrow w0 F0 F w ∧ ρ 2 = .bool s.t_2
set_option maxHeartbeats 4000000 in
set_option maxRecDepth 20000 in
theorem ref (w0 : World) (F0 : BSet) : ∃ c, Try.f49.body = some c ∧ Ref Try.prog 6 c (G0 w0 F0) body (fun _ _ _ => False) (fun _ _ _ _ => False) (fun r ρ w => ∃ s, retv s = r ∧ G1 w0 F0 s ρ w) := by
  refine ⟨_, rfl, ?_⟩
  unfold body
  refine Ref.seq (B := G0 w0 F0) ?_ ?_
  · refine Ref.region (fun s ρ w s' h hr => ?_)
    obtain ⟨F, hW, h0⟩ := h
    refine ol_v (e_as _ rfl) rfl ?_
    obtain rfl := Option.some.inj hr
    exact ol_nil ⟨F, hW, h0⟩
  refine Ref.seq (B := G1 w0 F0) ?_ ?_
  · refine Ref.region (fun s ρ w s' h hr => ?_)
    obtain ⟨F, hW, h0⟩ := h
    refine ol_v (e_mv _ h0) rfl ?_
    refine ol_v (e_mv _ h0) rfl ?_
    refine ol_v (e_neq rfl rfl) rfl ?_
    refine ol_v (e_as _ rfl) rfl ?_
    obtain rfl := Option.some.inj hr
    exact ol_nil ⟨F, hW, rfl⟩
  exact Ref.ret (fun s ρ w h => ⟨s, rfl, h⟩)
def post (w : World) (F : BSet) (r : R) (v : Value) (w' : World) : Prop := ∃ (F' : BSet), v = .bool r ∧ Wk nrow w F F' w'
theorem calls {w : World} {F : BSet} (hok : ∀ b, F b → b < w.heap.size) (a0 : Int) {r : R} (hf : f a0 = some r) : Calls Try.prog 49 #[.int .i64 a0] w fun e w' => ∃ v, e = .returned v ∧ post w F r v w' := by
  obtain ⟨c, hc, href⟩ := ref w F
  refine calls_of_ref (args := [.int .i64 a0]) _ Try.func49 hc rfl rfl href ?_ (retOf_some hf) ?_
  · exact ⟨F, Wk.refl hok, rfl⟩
  · rintro ρ w' a ⟨s, rfl, F', hW, h2⟩ hF
    refine ⟨_, run_results (rs := [.tmp 2]) rfl hF (vs := [ρ 2]) (⟨_, rfl, rfl⟩), ?_⟩
    have hv : resVal [ρ 2] = .bool s.t_2 := by rw [h2]; rfl
    exact ⟨F', hv, hW⟩
end
end slices_isNaN_int

end Go.Proofs.Ytilodamhgepjoaa
