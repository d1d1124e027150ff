/- What the program says of its types and functions, by their numbers. -/
import Derived.Test.YtoiafcpnhhplnaaKd
import Derived.Test.YtoiafcpnhhplnaaProg
namespace Go.Proofs.Ytoiafcpnhhplnaa
open Go.Fx
set_option maxRecDepth 20000
theorem bld_27 : Bld Try.prog 27 [(0, 1), (1, 1)] ((Value.agg #[.slice none 0 0, .slice none 0 0])) := ⟨by kernel_rfl, _, Try.underlying27, by kernel_rfl⟩
theorem bld_29 : Bld Try.prog 29 [(0, 1), (1, 1)] ((Value.agg #[.int .i64 0, .int .i64 0])) := ⟨by kernel_rfl, _, Try.underlying29, by kernel_rfl⟩
theorem bld_55 : Bld Try.prog 55 [(0, 1), (1, 1)] ((Value.agg #[.string ByteArray.empty, .slice none 0 0])) := ⟨by kernel_rfl, _, Try.underlying55, by kernel_rfl⟩
theorem fa_27_0 : FldOk Try.prog 27 0 0 := FldOk.mk (by kernel_rfl)
theorem fa_27_1 : FldOk Try.prog 27 1 1 := FldOk.mk (by kernel_rfl)
theorem fa_29_0 : FldOk Try.prog 29 0 0 := FldOk.mk (by kernel_rfl)
theorem fa_55_0 : FldOk Try.prog 55 0 0 := FldOk.mk (by kernel_rfl)
theorem fa_55_1 : FldOk Try.prog 55 1 1 := FldOk.mk (by kernel_rfl)
theorem fn_10 : FnOk Try.prog 10 := ⟨_, Try.func10, by kernel_rfl, by kernel_rfl⟩
theorem fn_11 : FnOk Try.prog 11 := ⟨_, Try.func11, by kernel_rfl, by kernel_rfl⟩
theorem fn_12 : FnOk Try.prog 12 := ⟨_, Try.func12, by kernel_rfl, by kernel_rfl⟩
theorem fn_13 : FnOk Try.prog 13 := ⟨_, Try.func13, by kernel_rfl, by kernel_rfl⟩
theorem fn_14 : FnOk Try.prog 14 := ⟨_, Try.func14, by kernel_rfl, by kernel_rfl⟩
theorem fn_15 : FnOk Try.prog 15 := ⟨_, Try.func15, by kernel_rfl, by kernel_rfl⟩
theorem fn_16 : FnOk Try.prog 16 := ⟨_, Try.func16, by kernel_rfl, by kernel_rfl⟩
theorem fn_17 : FnOk Try.prog 17 := ⟨_, Try.func17, by kernel_rfl, by kernel_rfl⟩
theorem fn_18 : FnOk Try.prog 18 := ⟨_, Try.func18, by kernel_rfl, by kernel_rfl⟩
theorem fn_19 : FnOk Try.prog 19 := ⟨_, Try.func19, by kernel_rfl, by kernel_rfl⟩
theorem fn_20 : FnOk Try.prog 20 := ⟨_, Try.func20, by kernel_rfl, by kernel_rfl⟩
theorem fn_21 : FnOk Try.prog 21 := ⟨_, Try.func21, by kernel_rfl, by kernel_rfl⟩
theorem fn_22 : FnOk Try.prog 22 := ⟨_, Try.func22, by kernel_rfl, by kernel_rfl⟩
theorem fn_23 : FnOk Try.prog 23 := ⟨_, Try.func23, by kernel_rfl, by kernel_rfl⟩
theorem fn_24 : FnOk Try.prog 24 := ⟨_, Try.func24, by kernel_rfl, by kernel_rfl⟩
theorem fn_25 : FnOk Try.prog 25 := ⟨_, Try.func25, by kernel_rfl, by kernel_rfl⟩
theorem fn_26 : FnOk Try.prog 26 := ⟨_, Try.func26, by kernel_rfl, by kernel_rfl⟩
theorem fn_27 : FnOk Try.prog 27 := ⟨_, Try.func27, by kernel_rfl, by kernel_rfl⟩
theorem fn_28 : FnOk Try.prog 28 := ⟨_, Try.func28, by kernel_rfl, by kernel_rfl⟩
theorem fn_29 : FnOk Try.prog 29 := ⟨_, Try.func29, by kernel_rfl, by kernel_rfl⟩
theorem fn_3 : FnOk Try.prog 3 := ⟨_, Try.func3, by kernel_rfl, by kernel_rfl⟩
theorem fn_30 : FnOk Try.prog 30 := ⟨_, Try.func30, by kernel_rfl, by kernel_rfl⟩
theorem fn_31 : FnOk Try.prog 31 := ⟨_, Try.func31, by kernel_rfl, by kernel_rfl⟩
theorem fn_32 : FnOk Try.prog 32 := ⟨_, Try.func32, by kernel_rfl, by kernel_rfl⟩
theorem fn_33 : FnOk Try.prog 33 := ⟨_, Try.func33, by kernel_rfl, by kernel_rfl⟩
theorem fn_34 : FnOk Try.prog 34 := ⟨_, Try.func34, by kernel_rfl, by kernel_rfl⟩
theorem fn_35 : FnOk Try.prog 35 := ⟨_, Try.func35, by kernel_rfl, by kernel_rfl⟩
theorem fn_36 : FnOk Try.prog 36 := ⟨_, Try.func36, by kernel_rfl, by kernel_rfl⟩
theorem fn_37 : FnOk Try.prog 37 := ⟨_, Try.func37, by kernel_rfl, by kernel_rfl⟩
theorem fn_38 : FnOk Try.prog 38 := ⟨_, Try.func38, by kernel_rfl, by kernel_rfl⟩
theorem fn_39 : FnOk Try.prog 39 := ⟨_, Try.func39, by kernel_rfl, by kernel_rfl⟩
theorem fn_4 : FnOk Try.prog 4 := ⟨_, Try.func4, by kernel_rfl, by kernel_rfl⟩
theorem fn_40 : FnOk Try.prog 40 := ⟨_, Try.func40, by kernel_rfl, by kernel_rfl⟩
theorem fn_41 : FnOk Try.prog 41 := ⟨_, Try.func41, by kernel_rfl, by kernel_rfl⟩
theorem fn_42 : FnOk Try.prog 42 := ⟨_, Try.func42, by kernel_rfl, by kernel_rfl⟩
theorem fn_43 : FnOk Try.prog 43 := ⟨_, Try.func43, by kernel_rfl, by kernel_rfl⟩
theorem fn_44 : FnOk Try.prog 44 := ⟨_, Try.func44, by kernel_rfl, by kernel_rfl⟩
theorem fn_45 : FnOk Try.prog 45 := ⟨_, Try.func45, by kernel_rfl, by kernel_rfl⟩
theorem fn_46 : FnOk Try.prog 46 := ⟨_, Try.func46, by kernel_rfl, by kernel_rfl⟩
theorem fn_47 : FnOk Try.prog 47 := ⟨_, Try.func47, by kernel_rfl, by kernel_rfl⟩
theorem fn_48 : FnOk Try.prog 48 := ⟨_, Try.func48, by kernel_rfl, by kernel_rfl⟩
theorem fn_49 : FnOk Try.prog 49 := ⟨_, Try.func49, by kernel_rfl, by kernel_rfl⟩
theorem fn_5 : FnOk Try.prog 5 := ⟨_, Try.func5, by kernel_rfl, by kernel_rfl⟩
theorem fn_50 : FnOk Try.prog 50 := ⟨_, Try.func50, by kernel_rfl, by kernel_rfl⟩
theorem fn_51 : FnOk Try.prog 51 := ⟨_, Try.func51, by kernel_rfl, by kernel_rfl⟩
theorem fn_52 : FnOk Try.prog 52 := ⟨_, Try.func52, by kernel_rfl, by kernel_rfl⟩
theorem fn_53 : FnOk Try.prog 53 := ⟨_, Try.func53, by kernel_rfl, by kernel_rfl⟩
theorem fn_54 : FnOk Try.prog 54 := ⟨_, Try.func54, by kernel_rfl, by kernel_rfl⟩
theorem fn_6 : FnOk Try.prog 6 := ⟨_, Try.func6, by kernel_rfl, by kernel_rfl⟩
theorem fn_60 : FnOk Try.prog 60 := ⟨_, Try.func60, by kernel_rfl, by kernel_rfl⟩
theorem fn_61 : FnOk Try.prog 61 := ⟨_, Try.func61, by kernel_rfl, by kernel_rfl⟩
theorem fn_7 : FnOk Try.prog 7 := ⟨_, Try.func7, by kernel_rfl, by kernel_rfl⟩
theorem fn_77 : FnOk Try.prog 77 := ⟨_, Try.func77, by kernel_rfl, by kernel_rfl⟩
theorem fn_8 : FnOk Try.prog 8 := ⟨_, Try.func8, by kernel_rfl, by kernel_rfl⟩
theorem fn_9 : FnOk Try.prog 9 := ⟨_, Try.func9, by kernel_rfl, by kernel_rfl⟩
theorem sl_22 : SlT Try.prog 22 9 kStr 16 ByteArray.empty := SlT.mk' (z := (Value.string ByteArray.empty)) Try.underlying22 (by kernel_rfl) (fun F w => rfl) (by decide) (by decide)
theorem sl_24 : SlT Try.prog 24 3 (kInt .i64) 8 (0 : Int) := SlT.mk' (z := (Value.int .i64 0)) Try.underlying24 (by kernel_rfl) (fun F w => rfl) (by decide) (by decide)
theorem sl_25 : SlT Try.prog 25 55 k_Posting 40 (⟨ByteArray.empty, []⟩ : Posting) := SlT.mk' (z := (Value.agg #[.string ByteArray.empty, .slice none 0 0])) Try.underlying25 (by kernel_rfl) (fun F w => ⟨[.string ByteArray.empty], [.slice none 0 0], rfl, rfl, ⟨_, rfl, SlR.nil _ _ _⟩⟩) (by decide) (by decide)
theorem ty_24 : TyOk Try.prog 24 (kSl (kInt .i64)) := ⟨by kernel_rfl, by kernel_rfl⟩
theorem ty_25 : TyOk Try.prog 25 (kSl k_Posting) := ⟨by kernel_rfl, by kernel_rfl⟩
theorem ty_27 : TyOk Try.prog 27 k_TrigramIndex := ⟨by kernel_rfl, by kernel_rfl⟩
theorem ty_29 : TyOk Try.prog 29 k_Fault := ⟨by kernel_rfl, by kernel_rfl⟩
theorem ty_3 : TyOk Try.prog 3 (kInt .i64) := ⟨by kernel_rfl, by kernel_rfl⟩
theorem ty_55 : TyOk Try.prog 55 k_Posting := ⟨by kernel_rfl, by kernel_rfl⟩
theorem ty_9 : TyOk Try.prog 9 kStr := ⟨by kernel_rfl, by kernel_rfl⟩
theorem tyT_27 : TyOk Try.prog 27 k_TrigramIndex_r := ⟨by kernel_rfl, by kernel_rfl⟩
theorem tyr_25 : TyOk Try.prog 25 kRaw := ⟨by kernel_rfl, by kernel_rfl⟩
theorem zer_24 : Zer Try.prog 24 (kSl (kInt .i64)) [] := Zer.mk' (z := (Value.slice none 0 0)) (by kernel_rfl) (fun F w => ⟨_, rfl, SlR.nil _ _ _⟩)
theorem zer_27 : Zer Try.prog 27 k_TrigramIndex (⟨[], []⟩ : TrigramIndex) := Zer.mk' (z := (Value.agg #[.slice none 0 0, .slice none 0 0])) (by kernel_rfl) (fun F w => ⟨[.slice none 0 0], [.slice none 0 0], rfl, ⟨_, rfl, SlR.nil _ _ _⟩, ⟨_, rfl, SlR.nil _ _ _⟩⟩)
theorem zer_29 : Zer Try.prog 29 k_Fault (⟨(0 : Int), (0 : Int)⟩ : Fault) := Zer.mk' (z := (Value.agg #[.int .i64 0, .int .i64 0])) (by kernel_rfl) (fun F w => ⟨[.int .i64 0], [.int .i64 0], rfl, rfl, rfl⟩)
theorem zer_55 : Zer Try.prog 55 k_Posting (⟨ByteArray.empty, []⟩ : Posting) := Zer.mk' (z := (Value.agg #[.string ByteArray.empty, .slice none 0 0])) (by kernel_rfl) (fun F w => ⟨[.string ByteArray.empty], [.slice none 0 0], rfl, rfl, ⟨_, rfl, SlR.nil _ _ _⟩⟩)
theorem zerT_27 : Zer Try.prog 27 k_TrigramIndex_r (⟨[], (Value.slice none 0 0)⟩ : TrigramIndex_r) := Zer.mk' (z := (Value.agg #[.slice none 0 0, .slice none 0 0])) (by kernel_rfl) (fun F w => ⟨[.slice none 0 0], [.slice none 0 0], rfl, ⟨_, rfl, SlR.nil _ _ _⟩, ⟨rfl, rfl⟩⟩)
theorem eq_Fault_29 {F : BSet} {w : World} {v u : Value} {x y : Fault} (hv : Val k_Fault F w v x) (hu : Val k_Fault F w u y) : TEq Try.prog w 29 v u (decide (x = y)) := by
  obtain rfl := op_Fault hv
  obtain rfl := op_Fault hu
  have hb : decide (x = y) = (decide (x.Code = y.Code) && (decide (x.Index = y.Index) && (true))) := by cases x; cases y; simp [Bool.decide_and]
  rw [hb]
  exact TEq.of_fields (P := Try.prog) Try.underlying29 (by kernel_rfl) (by kernel_rfl) (fun d => by
    refine eqf_c (by kernel_rfl) (part_c (by kernel_rfl) rfl) (part_c (by kernel_rfl) rfl) (eqi Try.underlying3) ?_
    refine eqf_c (by kernel_rfl) (part_c (by kernel_rfl) rfl) (part_c (by kernel_rfl) rfl) (eqi Try.underlying3) ?_
    exact eqf_n)
end Go.Proofs.Ytoiafcpnhhplnaa
