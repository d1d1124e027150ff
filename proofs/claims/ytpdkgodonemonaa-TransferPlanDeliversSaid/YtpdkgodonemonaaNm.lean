/- What the program says of its types and functions, by their numbers. -/
import Derived.Test.YtpdkgodonemonaaKd
import Derived.Test.YtpdkgodonemonaaProg
namespace Go.Proofs.Ytpdkgodonemonaa
open Go.Fx
set_option maxRecDepth 20000
theorem bld_27 : Bld Try.prog 27 [(0, 1), (1, 1)] ((Value.agg #[.int .i64 0, .int .i64 0])) := ⟨by kernel_rfl, _, Try.underlying27, by kernel_rfl⟩
theorem bld_48 : Bld Try.prog 48 [(0, 1), (1, 1)] ((Value.agg #[.int .i64 0, .int .i64 0])) := ⟨by kernel_rfl, _, Try.underlying48, by kernel_rfl⟩
theorem bld_56 : Bld Try.prog 56 [(0, 1), (1, 1), (2, 1), (3, 1), (4, 1)] ((Value.agg #[.slice none 0 0, .slice none 0 0, .slice none 0 0, .int .i64 0, .int .i64 0])) := ⟨by kernel_rfl, _, Try.underlying56, by kernel_rfl⟩
theorem fa_27_0 : FldOk Try.prog 27 0 0 := FldOk.mk (by kernel_rfl)
theorem fa_48_0 : FldOk Try.prog 48 0 0 := FldOk.mk (by kernel_rfl)
theorem fa_48_1 : FldOk Try.prog 48 1 1 := FldOk.mk (by kernel_rfl)
theorem fa_56_0 : FldOk Try.prog 56 0 0 := FldOk.mk (by kernel_rfl)
theorem fa_56_1 : FldOk Try.prog 56 1 1 := FldOk.mk (by kernel_rfl)
theorem fa_56_2 : FldOk Try.prog 56 2 2 := FldOk.mk (by kernel_rfl)
theorem fa_56_3 : FldOk Try.prog 56 3 3 := FldOk.mk (by kernel_rfl)
theorem fa_56_4 : FldOk Try.prog 56 4 4 := FldOk.mk (by kernel_rfl)
theorem fn_10 : FnOk Try.prog 10 := ⟨_, Try.func10, by kernel_rfl, by kernel_rfl⟩
theorem fn_11 : FnOk Try.prog 11 := ⟨_, Try.func11, by kernel_rfl, by kernel_rfl⟩
theorem fn_12 : FnOk Try.prog 12 := ⟨_, Try.func12, by kernel_rfl, by kernel_rfl⟩
theorem fn_13 : FnOk Try.prog 13 := ⟨_, Try.func13, by kernel_rfl, by kernel_rfl⟩
theorem fn_14 : FnOk Try.prog 14 := ⟨_, Try.func14, by kernel_rfl, by kernel_rfl⟩
theorem fn_15 : FnOk Try.prog 15 := ⟨_, Try.func15, by kernel_rfl, by kernel_rfl⟩
theorem fn_16 : FnOk Try.prog 16 := ⟨_, Try.func16, by kernel_rfl, by kernel_rfl⟩
theorem fn_17 : FnOk Try.prog 17 := ⟨_, Try.func17, by kernel_rfl, by kernel_rfl⟩
theorem fn_18 : FnOk Try.prog 18 := ⟨_, Try.func18, by kernel_rfl, by kernel_rfl⟩
theorem fn_19 : FnOk Try.prog 19 := ⟨_, Try.func19, by kernel_rfl, by kernel_rfl⟩
theorem fn_20 : FnOk Try.prog 20 := ⟨_, Try.func20, by kernel_rfl, by kernel_rfl⟩
theorem fn_21 : FnOk Try.prog 21 := ⟨_, Try.func21, by kernel_rfl, by kernel_rfl⟩
theorem fn_22 : FnOk Try.prog 22 := ⟨_, Try.func22, by kernel_rfl, by kernel_rfl⟩
theorem fn_23 : FnOk Try.prog 23 := ⟨_, Try.func23, by kernel_rfl, by kernel_rfl⟩
theorem fn_25 : FnOk Try.prog 25 := ⟨_, Try.func25, by kernel_rfl, by kernel_rfl⟩
theorem fn_26 : FnOk Try.prog 26 := ⟨_, Try.func26, by kernel_rfl, by kernel_rfl⟩
theorem fn_27 : FnOk Try.prog 27 := ⟨_, Try.func27, by kernel_rfl, by kernel_rfl⟩
theorem fn_3 : FnOk Try.prog 3 := ⟨_, Try.func3, by kernel_rfl, by kernel_rfl⟩
theorem fn_4 : FnOk Try.prog 4 := ⟨_, Try.func4, by kernel_rfl, by kernel_rfl⟩
theorem fn_5 : FnOk Try.prog 5 := ⟨_, Try.func5, by kernel_rfl, by kernel_rfl⟩
theorem fn_6 : FnOk Try.prog 6 := ⟨_, Try.func6, by kernel_rfl, by kernel_rfl⟩
theorem fn_7 : FnOk Try.prog 7 := ⟨_, Try.func7, by kernel_rfl, by kernel_rfl⟩
theorem fn_8 : FnOk Try.prog 8 := ⟨_, Try.func8, by kernel_rfl, by kernel_rfl⟩
theorem fn_9 : FnOk Try.prog 9 := ⟨_, Try.func9, by kernel_rfl, by kernel_rfl⟩
theorem sl_22 : SlT Try.prog 22 5 kByte 1 (0 : UInt8) := SlT.mk' (z := (Value.int .u8 0)) Try.underlying22 (by kernel_rfl) (fun F w => rfl) (by decide) (by decide)
theorem sl_23 : SlT Try.prog 23 48 k_LinkEvent 16 (⟨(0 : Int), (0 : Int)⟩ : LinkEvent) := SlT.mk' (z := (Value.agg #[.int .i64 0, .int .i64 0])) Try.underlying23 (by kernel_rfl) (fun F w => ⟨[.int .i64 0], [.int .i64 0], rfl, rfl, rfl⟩) (by decide) (by decide)
theorem sl_25 : SlT Try.prog 25 22 (kSl kByte) 24 [] := SlT.mk' (z := (Value.slice none 0 0)) Try.underlying25 (by kernel_rfl) (fun F w => ⟨_, rfl, SlR.nil _ _ _⟩) (by decide) (by decide)
theorem sl_38 : SlT Try.prog 38 4 kBool 1 false := SlT.mk' (z := (Value.bool false)) Try.underlying38 (by kernel_rfl) (fun F w => rfl) (by decide) (by decide)
theorem sl_54 : SlT Try.prog 54 3 (kInt .i64) 8 (0 : Int) := SlT.mk' (z := (Value.int .i64 0)) Try.underlying54 (by kernel_rfl) (fun F w => rfl) (by decide) (by decide)
theorem ty_22 : TyOk Try.prog 22 (kSl kByte) := ⟨by kernel_rfl, by kernel_rfl⟩
theorem ty_25 : TyOk Try.prog 25 (kSl (kSl kByte)) := ⟨by kernel_rfl, by kernel_rfl⟩
theorem ty_27 : TyOk Try.prog 27 k_Fault := ⟨by kernel_rfl, by kernel_rfl⟩
theorem ty_3 : TyOk Try.prog 3 (kInt .i64) := ⟨by kernel_rfl, by kernel_rfl⟩
theorem ty_4 : TyOk Try.prog 4 kBool := ⟨by kernel_rfl, by kernel_rfl⟩
theorem ty_48 : TyOk Try.prog 48 k_LinkEvent := ⟨by kernel_rfl, by kernel_rfl⟩
theorem tyr_25 : TyOk Try.prog 25 kRaw := ⟨by kernel_rfl, by kernel_rfl⟩
theorem tyr_54 : TyOk Try.prog 54 kRaw := ⟨by kernel_rfl, by kernel_rfl⟩
theorem zer_27 : Zer Try.prog 27 k_Fault (⟨(0 : Int), (0 : Int)⟩ : Fault) := Zer.mk' (z := (Value.agg #[.int .i64 0, .int .i64 0])) (by kernel_rfl) (fun F w => ⟨[.int .i64 0], [.int .i64 0], rfl, rfl, rfl⟩)
theorem zer_48 : Zer Try.prog 48 k_LinkEvent (⟨(0 : Int), (0 : Int)⟩ : LinkEvent) := Zer.mk' (z := (Value.agg #[.int .i64 0, .int .i64 0])) (by kernel_rfl) (fun F w => ⟨[.int .i64 0], [.int .i64 0], rfl, rfl, rfl⟩)
theorem zerr_25 : Zer Try.prog 25 kRaw (.slice none 0 0) := Zer.mk' (z := .slice none 0 0) (by kernel_rfl) (fun F w => ⟨rfl, rfl⟩)
theorem eq_Fault_27 {F : BSet} {w : World} {v u : Value} {x y : Fault} (hv : Val k_Fault F w v x) (hu : Val k_Fault F w u y) : TEq Try.prog w 27 v u (decide (x = y)) := by
  obtain rfl := op_Fault hv
  obtain rfl := op_Fault hu
  have hb : decide (x = y) = (decide (x.Code = y.Code) && (decide (x.Index = y.Index) && (true))) := by cases x; cases y; simp [Bool.decide_and]
  rw [hb]
  exact TEq.of_fields (P := Try.prog) Try.underlying27 (by kernel_rfl) (by kernel_rfl) (fun d => by
    refine eqf_c (by kernel_rfl) (part_c (by kernel_rfl) rfl) (part_c (by kernel_rfl) rfl) (eqi Try.underlying3) ?_
    refine eqf_c (by kernel_rfl) (part_c (by kernel_rfl) rfl) (part_c (by kernel_rfl) rfl) (eqi Try.underlying3) ?_
    exact eqf_n)
theorem eq_LinkEvent_48 {F : BSet} {w : World} {v u : Value} {x y : LinkEvent} (hv : Val k_LinkEvent F w v x) (hu : Val k_LinkEvent F w u y) : TEq Try.prog w 48 v u (decide (x = y)) := by
  obtain rfl := op_LinkEvent hv
  obtain rfl := op_LinkEvent hu
  have hb : decide (x = y) = (decide (x.Kind = y.Kind) && (decide (x.N = y.N) && (true))) := by cases x; cases y; simp [Bool.decide_and]
  rw [hb]
  exact TEq.of_fields (P := Try.prog) Try.underlying48 (by kernel_rfl) (by kernel_rfl) (fun d => by
    refine eqf_c (by kernel_rfl) (part_c (by kernel_rfl) rfl) (part_c (by kernel_rfl) rfl) (eqi Try.underlying3) ?_
    refine eqf_c (by kernel_rfl) (part_c (by kernel_rfl) rfl) (part_c (by kernel_rfl) rfl) (eqi Try.underlying3) ?_
    exact eqf_n)
end Go.Proofs.Ytpdkgodonemonaa
