/- Their kinds: how values of these structures lie in memory. -/
import Derived.Test.YtenkbkcddcnmeaaDoorTy
namespace Go.Fx
set_option linter.unusedVariables false
def k_Object : Kd Object := kIso (kPair (kInt .i64) (kPair (kSl (kInt .i64)) (kSl kByte))) (fun x => (x.Kind, x.Links, x.Data))
theorem fl_Object_0 : Fld k_Object 0 (kInt .i64) (fun x => x.Kind) := Fld.iso _ (Fld.fst _ _)
theorem fl_Object_1 : Fld k_Object 1 (kSl (kInt .i64)) (fun x => x.Links) := Fld.iso _ (Fld.snd _ (Fld.fst _ _))
theorem fl_Object_2 : Fld k_Object 2 (kSl kByte) (fun x => x.Data) := Fld.iso _ (Fld.snd _ (Fld.snd _ (Fld.whole _)))
theorem mk_Object {F : BSet} {w : World} {v0 : Value} {x0 : Int} (h0 : Val (kInt .i64) F w v0 x0) {v1 : Value} {x1 : (List Int)} (h1 : Val (kSl (kInt .i64)) F w v1 x1) {v2 : Value} {x2 : (List UInt8)} (h2 : Val (kSl kByte) F w v2 x2) : Val k_Object F w (.agg ((v0.cells.toList ++ (v1.cells.toList ++ v2.cells.toList))).toArray) ⟨x0, x1, x2⟩ := ⟨_, (show k_Object.rep F w _ _ from ⟨_, _, rfl, h0.cells, ⟨_, _, rfl, h1.cells, h2.cells⟩⟩), rfl⟩
def k_StoredObject : Kd StoredObject := kIso (kPair (kInt .i64) k_Object) (fun x => (x.Digest, x.Object))
theorem fl_StoredObject_0 : Fld k_StoredObject 0 (kInt .i64) (fun x => x.Digest) := Fld.iso _ (Fld.fst _ _)
theorem fl_StoredObject_1 : Fld k_StoredObject 1 k_Object (fun x => x.Object) := Fld.iso _ (Fld.snd _ (Fld.whole _))
theorem mk_StoredObject {F : BSet} {w : World} {v0 : Value} {x0 : Int} (h0 : Val (kInt .i64) F w v0 x0) {v1 : Value} {x1 : Object} (h1 : Val k_Object F w v1 x1) : Val k_StoredObject F w (.agg ((v0.cells.toList ++ v1.cells.toList)).toArray) ⟨x0, x1⟩ := ⟨_, (show k_StoredObject.rep F w _ _ from ⟨_, _, rfl, h0.cells, h1.cells⟩), rfl⟩
def k_Fault : Kd Fault := kIso (kPair (kInt .i64) (kInt .i64)) (fun x => (x.Code, x.Index))
theorem fl_Fault_0 : Fld k_Fault 0 (kInt .i64) (fun x => x.Code) := Fld.iso _ (Fld.fst _ _)
theorem mk_Fault {F : BSet} {w : World} {v0 : Value} {x0 : Int} (h0 : Val (kInt .i64) F w v0 x0) {v1 : Value} {x1 : Int} (h1 : Val (kInt .i64) F w v1 x1) : Val k_Fault F w (.agg ((v0.cells.toList ++ v1.cells.toList)).toArray) ⟨x0, x1⟩ := ⟨_, (show k_Fault.rep F w _ _ from ⟨_, _, rfl, h0.cells, h1.cells⟩), rfl⟩
theorem plain_Fault : Plain k_Fault := plain_iso _ (plain_pair (plain_int _) (plain_int _))
theorem op_Fault {F : BSet} {w : World} {v : Value} {x : Fault} (h : Val k_Fault F w v x) : v = .agg #[.int .i64 x.Code, .int .i64 x.Index] := by
  obtain ⟨cs, hr, rfl⟩ := h
  obtain ⟨_, _, rfl, rfl, rfl⟩ := hr
  rfl
def k_ObjectStore : Kd ObjectStore := kIso (kSl k_StoredObject) (fun x => x.Objects)
theorem fl_ObjectStore_0 : Fld k_ObjectStore 0 (kSl k_StoredObject) (fun x => x.Objects) := Fld.iso _ (Fld.whole _)
def k_ObjectStore_r : Kd ObjectStore_r := kIso kRaw (fun x => x.Objects)
theorem fl_ObjectStore_r_0 : Fld k_ObjectStore_r 0 kRaw (fun x => x.Objects) := Fld.iso _ (Fld.whole _)
theorem fs_ObjectStore_r_0 : FldS k_ObjectStore_r 0 kRaw (fun x y => { x with Objects := y }) := FldS.iso _ (FldS.whole _) (fun _ _ => rfl)
theorem mk_ObjectStore_r {F : BSet} {w : World} {v0 : Value} {x0 : Value} (h0 : Val kRaw F w v0 x0) : Val k_ObjectStore_r F w (.agg (v0.cells.toList).toArray) ⟨x0⟩ := ⟨_, (show k_ObjectStore_r.rep F w _ _ from h0.cells), rfl⟩
def k_RefTy : Kd RefTy := kIso (kPair kStr (kInt .i64)) (fun x => (x.Name, x.Target))
theorem fl_RefTy_0 : Fld k_RefTy 0 kStr (fun x => x.Name) := Fld.iso _ (Fld.fst _ _)
theorem fl_RefTy_1 : Fld k_RefTy 1 (kInt .i64) (fun x => x.Target) := Fld.iso _ (Fld.snd _ (Fld.whole _))
def k_RefStore : Kd RefStore := kIso (kSl k_RefTy) (fun x => x.Refs)
theorem fl_RefStore_0 : Fld k_RefStore 0 (kSl k_RefTy) (fun x => x.Refs) := Fld.iso _ (Fld.whole _)
theorem mk_RefStore {F : BSet} {w : World} {v0 : Value} {x0 : (List RefTy)} (h0 : Val (kSl k_RefTy) F w v0 x0) : Val k_RefStore F w (.agg (v0.cells.toList).toArray) ⟨x0⟩ := ⟨_, (show k_RefStore.rep F w _ _ from h0.cells), rfl⟩
def k_Lease : Kd Lease := kIso (kPair (kInt .i64) (kInt .i64)) (fun x => (x.Digest, x.Until))
theorem fl_Lease_0 : Fld k_Lease 0 (kInt .i64) (fun x => x.Digest) := Fld.iso _ (Fld.fst _ _)
theorem fl_Lease_1 : Fld k_Lease 1 (kInt .i64) (fun x => x.Until) := Fld.iso _ (Fld.snd _ (Fld.whole _))
theorem opn_Object {F : BSet} {w : World} {v : Value} {x : Object} (h : Val k_Object F w v x) : ∃ c0 c1 : Value, v = .agg #[.int .i64 x.Kind, c0, c1] := by
  obtain ⟨cs, hr, rfl⟩ := h
  obtain ⟨_, _, rfl, rfl, ⟨_, _, rfl, ⟨_, rfl, _⟩, ⟨_, rfl, _⟩⟩⟩ := hr
  exact ⟨_, _, rfl⟩
theorem un_ObjectStore {F : BSet} {w : World} {v : Value} {c0 : Value} {x0 : (List StoredObject)} (h : Val k_ObjectStore_r F w v ⟨c0⟩) (h0 : SlR k_StoredObject F w c0 x0) : Val k_ObjectStore F w v ⟨x0⟩ := by
  obtain ⟨cs, hr, rfl⟩ := h
  obtain ⟨rfl, _⟩ := hr
  exact ⟨_, (show k_ObjectStore.rep F w _ _ from ⟨_, rfl, h0⟩), rfl⟩
end Go.Fx
