/- What the program says of its types and functions, by their numbers. -/
import Derived.Test.YtenkbkcddcnmeaaDoorKd
import Derived.Test.YtenkbkcddcnmeaaDoorProg
namespace Go.Proofs.YtenkbkcddcnmeaaDoor
open Go.Fx
set_option maxRecDepth 20000
theorem bld_24 : Bld Tryd.prog 24 [(0, 1)] ((Value.agg #[.slice none 0 0])) := ⟨by kernel_rfl, _, Tryd.underlying24, by kernel_rfl⟩
theorem bld_27 : Bld Tryd.prog 27 [(0, 1)] ((Value.agg #[.slice none 0 0])) := ⟨by kernel_rfl, _, Tryd.underlying27, by kernel_rfl⟩
theorem bld_32 : Bld Tryd.prog 32 [(0, 1), (1, 1)] ((Value.agg #[.int .i64 0, .int .i64 0])) := ⟨by kernel_rfl, _, Tryd.underlying32, by kernel_rfl⟩
theorem bld_48 : Bld Tryd.prog 48 [(0, 1), (1, 1), (2, 1)] ((Value.agg #[.int .i64 0, .slice none 0 0, .slice none 0 0])) := ⟨by kernel_rfl, _, Tryd.underlying48, by kernel_rfl⟩
theorem bld_50 : Bld Tryd.prog 50 [(0, 1), (1, 3)] ((Value.agg #[.int .i64 0, .int .i64 0, .slice none 0 0, .slice none 0 0])) := ⟨by kernel_rfl, _, Tryd.underlying50, by kernel_rfl⟩
theorem fa_24_0 : FldOk Tryd.prog 24 0 0 := FldOk.mk (by kernel_rfl)
theorem fa_27_0 : FldOk Tryd.prog 27 0 0 := FldOk.mk (by kernel_rfl)
theorem fa_32_0 : FldOk Tryd.prog 32 0 0 := FldOk.mk (by kernel_rfl)
theorem fa_48_0 : FldOk Tryd.prog 48 0 0 := FldOk.mk (by kernel_rfl)
theorem fa_48_1 : FldOk Tryd.prog 48 1 1 := FldOk.mk (by kernel_rfl)
theorem fa_48_2 : FldOk Tryd.prog 48 2 2 := FldOk.mk (by kernel_rfl)
theorem fa_50_0 : FldOk Tryd.prog 50 0 0 := FldOk.mk (by kernel_rfl)
theorem fa_50_1 : FldOk Tryd.prog 50 1 1 := FldOk.mk (by kernel_rfl)
theorem fa_65_0 : FldOk Tryd.prog 65 0 0 := FldOk.mk (by kernel_rfl)
theorem fa_65_1 : FldOk Tryd.prog 65 1 1 := FldOk.mk (by kernel_rfl)
theorem fa_67_0 : FldOk Tryd.prog 67 0 0 := FldOk.mk (by kernel_rfl)
theorem fa_67_1 : FldOk Tryd.prog 67 1 1 := FldOk.mk (by kernel_rfl)
theorem fn_10 : FnOk Tryd.prog 10 := ⟨_, Tryd.func10, by kernel_rfl, by kernel_rfl⟩
theorem fn_101 : FnOk Tryd.prog 101 := ⟨_, Tryd.func101, by kernel_rfl, by kernel_rfl⟩
theorem fn_103 : FnOk Tryd.prog 103 := ⟨_, Tryd.func103, by kernel_rfl, by kernel_rfl⟩
theorem fn_104 : FnOk Tryd.prog 104 := ⟨_, Tryd.func104, by kernel_rfl, by kernel_rfl⟩
theorem fn_11 : FnOk Tryd.prog 11 := ⟨_, Tryd.func11, by kernel_rfl, by kernel_rfl⟩
theorem fn_110 : FnOk Tryd.prog 110 := ⟨_, Tryd.func110, by kernel_rfl, by kernel_rfl⟩
theorem fn_12 : FnOk Tryd.prog 12 := ⟨_, Tryd.func12, by kernel_rfl, by kernel_rfl⟩
theorem fn_13 : FnOk Tryd.prog 13 := ⟨_, Tryd.func13, by kernel_rfl, by kernel_rfl⟩
theorem fn_14 : FnOk Tryd.prog 14 := ⟨_, Tryd.func14, by kernel_rfl, by kernel_rfl⟩
theorem fn_15 : FnOk Tryd.prog 15 := ⟨_, Tryd.func15, by kernel_rfl, by kernel_rfl⟩
theorem fn_16 : FnOk Tryd.prog 16 := ⟨_, Tryd.func16, by kernel_rfl, by kernel_rfl⟩
theorem fn_17 : FnOk Tryd.prog 17 := ⟨_, Tryd.func17, by kernel_rfl, by kernel_rfl⟩
theorem fn_18 : FnOk Tryd.prog 18 := ⟨_, Tryd.func18, by kernel_rfl, by kernel_rfl⟩
theorem fn_20 : FnOk Tryd.prog 20 := ⟨_, Tryd.func20, by kernel_rfl, by kernel_rfl⟩
theorem fn_22 : FnOk Tryd.prog 22 := ⟨_, Tryd.func22, by kernel_rfl, by kernel_rfl⟩
theorem fn_24 : FnOk Tryd.prog 24 := ⟨_, Tryd.func24, by kernel_rfl, by kernel_rfl⟩
theorem fn_27 : FnOk Tryd.prog 27 := ⟨_, Tryd.func27, by kernel_rfl, by kernel_rfl⟩
theorem fn_28 : FnOk Tryd.prog 28 := ⟨_, Tryd.func28, by kernel_rfl, by kernel_rfl⟩
theorem fn_29 : FnOk Tryd.prog 29 := ⟨_, Tryd.func29, by kernel_rfl, by kernel_rfl⟩
theorem fn_30 : FnOk Tryd.prog 30 := ⟨_, Tryd.func30, by kernel_rfl, by kernel_rfl⟩
theorem fn_31 : FnOk Tryd.prog 31 := ⟨_, Tryd.func31, by kernel_rfl, by kernel_rfl⟩
theorem fn_32 : FnOk Tryd.prog 32 := ⟨_, Tryd.func32, by kernel_rfl, by kernel_rfl⟩
theorem fn_33 : FnOk Tryd.prog 33 := ⟨_, Tryd.func33, by kernel_rfl, by kernel_rfl⟩
theorem fn_34 : FnOk Tryd.prog 34 := ⟨_, Tryd.func34, by kernel_rfl, by kernel_rfl⟩
theorem fn_37 : FnOk Tryd.prog 37 := ⟨_, Tryd.func37, by kernel_rfl, by kernel_rfl⟩
theorem fn_38 : FnOk Tryd.prog 38 := ⟨_, Tryd.func38, by kernel_rfl, by kernel_rfl⟩
theorem fn_40 : FnOk Tryd.prog 40 := ⟨_, Tryd.func40, by kernel_rfl, by kernel_rfl⟩
theorem fn_42 : FnOk Tryd.prog 42 := ⟨_, Tryd.func42, by kernel_rfl, by kernel_rfl⟩
theorem fn_43 : FnOk Tryd.prog 43 := ⟨_, Tryd.func43, by kernel_rfl, by kernel_rfl⟩
theorem fn_44 : FnOk Tryd.prog 44 := ⟨_, Tryd.func44, by kernel_rfl, by kernel_rfl⟩
theorem fn_45 : FnOk Tryd.prog 45 := ⟨_, Tryd.func45, by kernel_rfl, by kernel_rfl⟩
theorem fn_46 : FnOk Tryd.prog 46 := ⟨_, Tryd.func46, by kernel_rfl, by kernel_rfl⟩
theorem fn_47 : FnOk Tryd.prog 47 := ⟨_, Tryd.func47, by kernel_rfl, by kernel_rfl⟩
theorem fn_48 : FnOk Tryd.prog 48 := ⟨_, Tryd.func48, by kernel_rfl, by kernel_rfl⟩
theorem fn_49 : FnOk Tryd.prog 49 := ⟨_, Tryd.func49, by kernel_rfl, by kernel_rfl⟩
theorem fn_50 : FnOk Tryd.prog 50 := ⟨_, Tryd.func50, by kernel_rfl, by kernel_rfl⟩
theorem fn_51 : FnOk Tryd.prog 51 := ⟨_, Tryd.func51, by kernel_rfl, by kernel_rfl⟩
theorem fn_52 : FnOk Tryd.prog 52 := ⟨_, Tryd.func52, by kernel_rfl, by kernel_rfl⟩
theorem fn_55 : FnOk Tryd.prog 55 := ⟨_, Tryd.func55, by kernel_rfl, by kernel_rfl⟩
theorem fn_56 : FnOk Tryd.prog 56 := ⟨_, Tryd.func56, by kernel_rfl, by kernel_rfl⟩
theorem fn_57 : FnOk Tryd.prog 57 := ⟨_, Tryd.func57, by kernel_rfl, by kernel_rfl⟩
theorem fn_58 : FnOk Tryd.prog 58 := ⟨_, Tryd.func58, by kernel_rfl, by kernel_rfl⟩
theorem fn_59 : FnOk Tryd.prog 59 := ⟨_, Tryd.func59, by kernel_rfl, by kernel_rfl⟩
theorem fn_60 : FnOk Tryd.prog 60 := ⟨_, Tryd.func60, by kernel_rfl, by kernel_rfl⟩
theorem fn_62 : FnOk Tryd.prog 62 := ⟨_, Tryd.func62, by kernel_rfl, by kernel_rfl⟩
theorem fn_64 : FnOk Tryd.prog 64 := ⟨_, Tryd.func64, by kernel_rfl, by kernel_rfl⟩
theorem fn_65 : FnOk Tryd.prog 65 := ⟨_, Tryd.func65, by kernel_rfl, by kernel_rfl⟩
theorem fn_66 : FnOk Tryd.prog 66 := ⟨_, Tryd.func66, by kernel_rfl, by kernel_rfl⟩
theorem fn_67 : FnOk Tryd.prog 67 := ⟨_, Tryd.func67, by kernel_rfl, by kernel_rfl⟩
theorem fn_68 : FnOk Tryd.prog 68 := ⟨_, Tryd.func68, by kernel_rfl, by kernel_rfl⟩
theorem fn_69 : FnOk Tryd.prog 69 := ⟨_, Tryd.func69, by kernel_rfl, by kernel_rfl⟩
theorem fn_70 : FnOk Tryd.prog 70 := ⟨_, Tryd.func70, by kernel_rfl, by kernel_rfl⟩
theorem fn_71 : FnOk Tryd.prog 71 := ⟨_, Tryd.func71, by kernel_rfl, by kernel_rfl⟩
theorem fn_83 : FnOk Tryd.prog 83 := ⟨_, Tryd.func83, by kernel_rfl, by kernel_rfl⟩
theorem fn_84 : FnOk Tryd.prog 84 := ⟨_, Tryd.func84, by kernel_rfl, by kernel_rfl⟩
theorem fn_85 : FnOk Tryd.prog 85 := ⟨_, Tryd.func85, by kernel_rfl, by kernel_rfl⟩
theorem fn_86 : FnOk Tryd.prog 86 := ⟨_, Tryd.func86, by kernel_rfl, by kernel_rfl⟩
theorem fn_87 : FnOk Tryd.prog 87 := ⟨_, Tryd.func87, by kernel_rfl, by kernel_rfl⟩
theorem fn_9 : FnOk Tryd.prog 9 := ⟨_, Tryd.func9, by kernel_rfl, by kernel_rfl⟩
theorem fn_90 : FnOk Tryd.prog 90 := ⟨_, Tryd.func90, by kernel_rfl, by kernel_rfl⟩
theorem mp_88 : MpT Tryd.prog 88 .i64 (.int .i64 (0 : Int) : Value) := ⟨3, 3, Tryd.underlying88, Tryd.underlying3, Tryd.zeroValue3⟩
theorem sl_106 : SlT Tryd.prog 106 9 kStr 16 ByteArray.empty := SlT.mk' (z := (Value.string ByteArray.empty)) Tryd.underlying106 (by kernel_rfl) (fun F w => rfl) (by decide) (by decide)
theorem sl_22 : SlT Tryd.prog 22 50 k_StoredObject 64 (⟨(0 : Int), (⟨(0 : Int), [], []⟩ : Object)⟩ : StoredObject) := SlT.mk' (z := (Value.agg #[.int .i64 0, .int .i64 0, .slice none 0 0, .slice none 0 0])) Tryd.underlying22 (by kernel_rfl) (fun F w => ⟨[.int .i64 0], [.int .i64 0, .slice none 0 0, .slice none 0 0], rfl, rfl, ⟨[.int .i64 0], [.slice none 0 0, .slice none 0 0], rfl, rfl, ⟨[.slice none 0 0], [.slice none 0 0], rfl, ⟨_, rfl, SlR.nil _ _ _⟩, ⟨_, rfl, SlR.nil _ _ _⟩⟩⟩⟩) (by decide) (by decide)
theorem sl_25 : SlT Tryd.prog 25 65 k_RefTy 24 (⟨ByteArray.empty, (0 : Int)⟩ : RefTy) := SlT.mk' (z := (Value.agg #[.string ByteArray.empty, .int .i64 0])) Tryd.underlying25 (by kernel_rfl) (fun F w => ⟨[.string ByteArray.empty], [.int .i64 0], rfl, rfl, rfl⟩) (by decide) (by decide)
theorem sl_28 : SlT Tryd.prog 28 67 k_Lease 16 (⟨(0 : Int), (0 : Int)⟩ : Lease) := SlT.mk' (z := (Value.agg #[.int .i64 0, .int .i64 0])) Tryd.underlying28 (by kernel_rfl) (fun F w => ⟨[.int .i64 0], [.int .i64 0], rfl, rfl, rfl⟩) (by decide) (by decide)
theorem sl_30 : SlT Tryd.prog 30 3 (kInt .i64) 8 (0 : Int) := SlT.mk' (z := (Value.int .i64 0)) Tryd.underlying30 (by kernel_rfl) (fun F w => rfl) (by decide) (by decide)
theorem sl_36 : SlT Tryd.prog 36 4 kBool 1 false := SlT.mk' (z := (Value.bool false)) Tryd.underlying36 (by kernel_rfl) (fun F w => rfl) (by decide) (by decide)
theorem sl_46 : SlT Tryd.prog 46 5 kByte 1 (0 : UInt8) := SlT.mk' (z := (Value.int .u8 0)) Tryd.underlying46 (by kernel_rfl) (fun F w => rfl) (by decide) (by decide)
theorem ty_22 : TyOk Tryd.prog 22 (kSl k_StoredObject) := ⟨by kernel_rfl, by kernel_rfl⟩
theorem ty_24 : TyOk Tryd.prog 24 k_ObjectStore := ⟨by kernel_rfl, by kernel_rfl⟩
theorem ty_25 : TyOk Tryd.prog 25 (kSl k_RefTy) := ⟨by kernel_rfl, by kernel_rfl⟩
theorem ty_27 : TyOk Tryd.prog 27 k_RefStore := ⟨by kernel_rfl, by kernel_rfl⟩
theorem ty_3 : TyOk Tryd.prog 3 (kInt .i64) := ⟨by kernel_rfl, by kernel_rfl⟩
theorem ty_30 : TyOk Tryd.prog 30 (kSl (kInt .i64)) := ⟨by kernel_rfl, by kernel_rfl⟩
theorem ty_32 : TyOk Tryd.prog 32 k_Fault := ⟨by kernel_rfl, by kernel_rfl⟩
theorem ty_4 : TyOk Tryd.prog 4 kBool := ⟨by kernel_rfl, by kernel_rfl⟩
theorem ty_46 : TyOk Tryd.prog 46 (kSl kByte) := ⟨by kernel_rfl, by kernel_rfl⟩
theorem ty_48 : TyOk Tryd.prog 48 k_Object := ⟨by kernel_rfl, by kernel_rfl⟩
theorem ty_5 : TyOk Tryd.prog 5 kByte := ⟨by kernel_rfl, by kernel_rfl⟩
theorem ty_50 : TyOk Tryd.prog 50 k_StoredObject := ⟨by kernel_rfl, by kernel_rfl⟩
theorem ty_65 : TyOk Tryd.prog 65 k_RefTy := ⟨by kernel_rfl, by kernel_rfl⟩
theorem ty_67 : TyOk Tryd.prog 67 k_Lease := ⟨by kernel_rfl, by kernel_rfl⟩
theorem ty_9 : TyOk Tryd.prog 9 kStr := ⟨by kernel_rfl, by kernel_rfl⟩
theorem tyT_24 : TyOk Tryd.prog 24 k_ObjectStore_r := ⟨by kernel_rfl, by kernel_rfl⟩
theorem tyr_22 : TyOk Tryd.prog 22 kRaw := ⟨by kernel_rfl, by kernel_rfl⟩
theorem zer_24 : Zer Tryd.prog 24 k_ObjectStore (⟨[]⟩ : ObjectStore) := Zer.mk' (z := (Value.agg #[.slice none 0 0])) (by kernel_rfl) (fun F w => ⟨_, rfl, SlR.nil _ _ _⟩)
theorem zer_32 : Zer Tryd.prog 32 k_Fault (⟨(0 : Int), (0 : Int)⟩ : Fault) := Zer.mk' (z := (Value.agg #[.int .i64 0, .int .i64 0])) (by kernel_rfl) (fun F w => ⟨[.int .i64 0], [.int .i64 0], rfl, rfl, rfl⟩)
theorem zer_4 : Zer Tryd.prog 4 kBool false := Zer.mk' (z := (Value.bool false)) (by kernel_rfl) (fun F w => rfl)
theorem zer_48 : Zer Tryd.prog 48 k_Object (⟨(0 : Int), [], []⟩ : Object) := Zer.mk' (z := (Value.agg #[.int .i64 0, .slice none 0 0, .slice none 0 0])) (by kernel_rfl) (fun F w => ⟨[.int .i64 0], [.slice none 0 0, .slice none 0 0], rfl, rfl, ⟨[.slice none 0 0], [.slice none 0 0], rfl, ⟨_, rfl, SlR.nil _ _ _⟩, ⟨_, rfl, SlR.nil _ _ _⟩⟩⟩)
theorem zer_50 : Zer Tryd.prog 50 k_StoredObject (⟨(0 : Int), (⟨(0 : Int), [], []⟩ : Object)⟩ : StoredObject) := Zer.mk' (z := (Value.agg #[.int .i64 0, .int .i64 0, .slice none 0 0, .slice none 0 0])) (by kernel_rfl) (fun F w => ⟨[.int .i64 0], [.int .i64 0, .slice none 0 0, .slice none 0 0], rfl, rfl, ⟨[.int .i64 0], [.slice none 0 0, .slice none 0 0], rfl, rfl, ⟨[.slice none 0 0], [.slice none 0 0], rfl, ⟨_, rfl, SlR.nil _ _ _⟩, ⟨_, rfl, SlR.nil _ _ _⟩⟩⟩⟩)
theorem zer_65 : Zer Tryd.prog 65 k_RefTy (⟨ByteArray.empty, (0 : Int)⟩ : RefTy) := Zer.mk' (z := (Value.agg #[.string ByteArray.empty, .int .i64 0])) (by kernel_rfl) (fun F w => ⟨[.string ByteArray.empty], [.int .i64 0], rfl, rfl, rfl⟩)
theorem zer_67 : Zer Tryd.prog 67 k_Lease (⟨(0 : Int), (0 : Int)⟩ : Lease) := Zer.mk' (z := (Value.agg #[.int .i64 0, .int .i64 0])) (by kernel_rfl) (fun F w => ⟨[.int .i64 0], [.int .i64 0], rfl, rfl, rfl⟩)
theorem zerT_24 : Zer Tryd.prog 24 k_ObjectStore_r (⟨(Value.slice none 0 0)⟩ : ObjectStore_r) := Zer.mk' (z := (Value.agg #[.slice none 0 0])) (by kernel_rfl) (fun F w => ⟨rfl, rfl⟩)
theorem eq_Fault_32 {F : BSet} {w : World} {v u : Value} {x y : Fault} (hv : Val k_Fault F w v x) (hu : Val k_Fault F w u y) : TEq Tryd.prog w 32 v u (decide (x = y)) := by
  obtain rfl := op_Fault hv
  obtain rfl := op_Fault hu
  have hb : decide (x = y) = (decide (x.Code = y.Code) && (decide (x.Index = y.Index) && (true))) := by cases x; cases y; simp [Bool.decide_and]
  rw [hb]
  exact TEq.of_fields (P := Tryd.prog) Tryd.underlying32 (by kernel_rfl) (by kernel_rfl) (fun d => by
    refine eqf_c (by kernel_rfl) (part_c (by kernel_rfl) rfl) (part_c (by kernel_rfl) rfl) (eqi Tryd.underlying3) ?_
    refine eqf_c (by kernel_rfl) (part_c (by kernel_rfl) rfl) (part_c (by kernel_rfl) rfl) (eqi Tryd.underlying3) ?_
    exact eqf_n)
end Go.Proofs.YtenkbkcddcnmeaaDoor
