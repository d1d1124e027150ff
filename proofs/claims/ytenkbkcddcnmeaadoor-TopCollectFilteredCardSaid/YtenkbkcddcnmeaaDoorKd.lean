/- Their kinds: how values of these structures lie in memory. -/
import Derived.Test.YtenkbkcddcnmeaaDoorTy
namespace Go.Fx
set_option linter.unusedVariables false
def k_Object : Kd Object := kIso (kPair (kInt .i64) (kPair (kSl (kInt .i64)) (kSl kByte))) (fun x => (x.Kind, x.Links, x.Data))
theorem fl_Object_0 : Fld k_Object 0 (kInt .i64) (fun x => x.Kind) := Fld.iso _ (Fld.fst _ _)
theorem fs_Object_0 : FldS k_Object 0 (kInt .i64) (fun x y => { x with Kind := y }) := FldS.iso _ (FldS.fst _ _) (fun _ _ => rfl)
theorem fl_Object_1 : Fld k_Object 1 (kSl (kInt .i64)) (fun x => x.Links) := Fld.iso _ (Fld.snd _ (Fld.fst _ _))
theorem fs_Object_1 : FldS k_Object 1 (kSl (kInt .i64)) (fun x y => { x with Links := y }) := FldS.iso _ (FldS.snd _ (FldS.fst _ _)) (fun _ _ => rfl)
theorem fl_Object_2 : Fld k_Object 2 (kSl kByte) (fun x => x.Data) := Fld.iso _ (Fld.snd _ (Fld.snd _ (Fld.whole _)))
theorem fs_Object_2 : FldS k_Object 2 (kSl kByte) (fun x y => { x with Data := y }) := FldS.iso _ (FldS.snd _ (FldS.snd _ (FldS.whole _))) (fun _ _ => rfl)
theorem mk_Object {F : BSet} {w : World} {v0 : Value} {x0 : Int} (h0 : Val (kInt .i64) F w v0 x0) {v1 : Value} {x1 : (List Int)} (h1 : Val (kSl (kInt .i64)) F w v1 x1) {v2 : Value} {x2 : (List UInt8)} (h2 : Val (kSl kByte) F w v2 x2) : Val k_Object F w (.agg ((v0.cells.toList ++ (v1.cells.toList ++ v2.cells.toList))).toArray) ⟨x0, x1, x2⟩ := ⟨_, (show k_Object.rep F w _ _ from ⟨_, _, rfl, h0.cells, ⟨_, _, rfl, h1.cells, h2.cells⟩⟩), rfl⟩
def k_StoredObject : Kd StoredObject := kIso (kPair (kInt .i64) k_Object) (fun x => (x.Digest, x.Object))
theorem fl_StoredObject_0 : Fld k_StoredObject 0 (kInt .i64) (fun x => x.Digest) := Fld.iso _ (Fld.fst _ _)
theorem fs_StoredObject_0 : FldS k_StoredObject 0 (kInt .i64) (fun x y => { x with Digest := y }) := FldS.iso _ (FldS.fst _ _) (fun _ _ => rfl)
theorem fl_StoredObject_1 : Fld k_StoredObject 1 k_Object (fun x => x.Object) := Fld.iso _ (Fld.snd _ (Fld.whole _))
theorem fs_StoredObject_1 : FldS k_StoredObject 1 k_Object (fun x y => { x with Object := y }) := FldS.iso _ (FldS.snd _ (FldS.whole _)) (fun _ _ => rfl)
theorem mk_StoredObject {F : BSet} {w : World} {v0 : Value} {x0 : Int} (h0 : Val (kInt .i64) F w v0 x0) {v1 : Value} {x1 : Object} (h1 : Val k_Object F w v1 x1) : Val k_StoredObject F w (.agg ((v0.cells.toList ++ v1.cells.toList)).toArray) ⟨x0, x1⟩ := ⟨_, (show k_StoredObject.rep F w _ _ from ⟨_, _, rfl, h0.cells, h1.cells⟩), rfl⟩
def k_Fault : Kd Fault := kIso (kPair (kInt .i64) (kInt .i64)) (fun x => (x.Code, x.Index))
theorem fl_Fault_0 : Fld k_Fault 0 (kInt .i64) (fun x => x.Code) := Fld.iso _ (Fld.fst _ _)
theorem fs_Fault_0 : FldS k_Fault 0 (kInt .i64) (fun x y => { x with Code := y }) := FldS.iso _ (FldS.fst _ _) (fun _ _ => rfl)
theorem fl_Fault_1 : Fld k_Fault 1 (kInt .i64) (fun x => x.Index) := Fld.iso _ (Fld.snd _ (Fld.whole _))
theorem fs_Fault_1 : FldS k_Fault 1 (kInt .i64) (fun x y => { x with Index := y }) := FldS.iso _ (FldS.snd _ (FldS.whole _)) (fun _ _ => rfl)
theorem mk_Fault {F : BSet} {w : World} {v0 : Value} {x0 : Int} (h0 : Val (kInt .i64) F w v0 x0) {v1 : Value} {x1 : Int} (h1 : Val (kInt .i64) F w v1 x1) : Val k_Fault F w (.agg ((v0.cells.toList ++ v1.cells.toList)).toArray) ⟨x0, x1⟩ := ⟨_, (show k_Fault.rep F w _ _ from ⟨_, _, rfl, h0.cells, h1.cells⟩), rfl⟩
theorem plain_Fault : Plain k_Fault := plain_iso _ (plain_pair (plain_int _) (plain_int _))
theorem op_Fault {F : BSet} {w : World} {v : Value} {x : Fault} (h : Val k_Fault F w v x) : v = .agg #[.int .i64 x.Code, .int .i64 x.Index] := by
  obtain ⟨cs, hr, rfl⟩ := h
  obtain ⟨_, _, rfl, rfl, rfl⟩ := hr
  rfl
def k_ObjectStore : Kd ObjectStore := kIso (kSl k_StoredObject) (fun x => x.Objects)
theorem fl_ObjectStore_0 : Fld k_ObjectStore 0 (kSl k_StoredObject) (fun x => x.Objects) := Fld.iso _ (Fld.whole _)
theorem fs_ObjectStore_0 : FldS k_ObjectStore 0 (kSl k_StoredObject) (fun x y => { x with Objects := y }) := FldS.iso _ (FldS.whole _) (fun _ _ => rfl)
theorem mk_ObjectStore {F : BSet} {w : World} {v0 : Value} {x0 : (List StoredObject)} (h0 : Val (kSl k_StoredObject) F w v0 x0) : Val k_ObjectStore F w (.agg (v0.cells.toList).toArray) ⟨x0⟩ := ⟨_, (show k_ObjectStore.rep F w _ _ from h0.cells), rfl⟩
def k_ObjectStore_r : Kd ObjectStore_r := kIso kRaw (fun x => x.Objects)
theorem fl_ObjectStore_r_0 : Fld k_ObjectStore_r 0 kRaw (fun x => x.Objects) := Fld.iso _ (Fld.whole _)
theorem fs_ObjectStore_r_0 : FldS k_ObjectStore_r 0 kRaw (fun x y => { x with Objects := y }) := FldS.iso _ (FldS.whole _) (fun _ _ => rfl)
theorem mk_ObjectStore_r {F : BSet} {w : World} {v0 : Value} {x0 : Value} (h0 : Val kRaw F w v0 x0) : Val k_ObjectStore_r F w (.agg (v0.cells.toList).toArray) ⟨x0⟩ := ⟨_, (show k_ObjectStore_r.rep F w _ _ from h0.cells), rfl⟩
def k_RefTy : Kd RefTy := kIso (kPair kStr (kInt .i64)) (fun x => (x.Name, x.Target))
theorem fl_RefTy_0 : Fld k_RefTy 0 kStr (fun x => x.Name) := Fld.iso _ (Fld.fst _ _)
theorem fs_RefTy_0 : FldS k_RefTy 0 kStr (fun x y => { x with Name := y }) := FldS.iso _ (FldS.fst _ _) (fun _ _ => rfl)
theorem fl_RefTy_1 : Fld k_RefTy 1 (kInt .i64) (fun x => x.Target) := Fld.iso _ (Fld.snd _ (Fld.whole _))
theorem fs_RefTy_1 : FldS k_RefTy 1 (kInt .i64) (fun x y => { x with Target := y }) := FldS.iso _ (FldS.snd _ (FldS.whole _)) (fun _ _ => rfl)
theorem mk_RefTy {F : BSet} {w : World} {v0 : Value} {x0 : ByteArray} (h0 : Val kStr F w v0 x0) {v1 : Value} {x1 : Int} (h1 : Val (kInt .i64) F w v1 x1) : Val k_RefTy F w (.agg ((v0.cells.toList ++ v1.cells.toList)).toArray) ⟨x0, x1⟩ := ⟨_, (show k_RefTy.rep F w _ _ from ⟨_, _, rfl, h0.cells, h1.cells⟩), rfl⟩
theorem plain_RefTy : Plain k_RefTy := plain_iso _ (plain_pair plain_str (plain_int _))
theorem op_RefTy {F : BSet} {w : World} {v : Value} {x : RefTy} (h : Val k_RefTy F w v x) : v = .agg #[.string x.Name, .int .i64 x.Target] := by
  obtain ⟨cs, hr, rfl⟩ := h
  obtain ⟨_, _, rfl, rfl, rfl⟩ := hr
  rfl
def k_RefStore : Kd RefStore := kIso (kSl k_RefTy) (fun x => x.Refs)
theorem fl_RefStore_0 : Fld k_RefStore 0 (kSl k_RefTy) (fun x => x.Refs) := Fld.iso _ (Fld.whole _)
theorem fs_RefStore_0 : FldS k_RefStore 0 (kSl k_RefTy) (fun x y => { x with Refs := y }) := FldS.iso _ (FldS.whole _) (fun _ _ => rfl)
theorem mk_RefStore {F : BSet} {w : World} {v0 : Value} {x0 : (List RefTy)} (h0 : Val (kSl k_RefTy) F w v0 x0) : Val k_RefStore F w (.agg (v0.cells.toList).toArray) ⟨x0⟩ := ⟨_, (show k_RefStore.rep F w _ _ from h0.cells), rfl⟩
def k_Lease : Kd Lease := kIso (kPair (kInt .i64) (kInt .i64)) (fun x => (x.Digest, x.Until))
theorem fl_Lease_0 : Fld k_Lease 0 (kInt .i64) (fun x => x.Digest) := Fld.iso _ (Fld.fst _ _)
theorem fs_Lease_0 : FldS k_Lease 0 (kInt .i64) (fun x y => { x with Digest := y }) := FldS.iso _ (FldS.fst _ _) (fun _ _ => rfl)
theorem fl_Lease_1 : Fld k_Lease 1 (kInt .i64) (fun x => x.Until) := Fld.iso _ (Fld.snd _ (Fld.whole _))
theorem fs_Lease_1 : FldS k_Lease 1 (kInt .i64) (fun x y => { x with Until := y }) := FldS.iso _ (FldS.snd _ (FldS.whole _)) (fun _ _ => rfl)
theorem mk_Lease {F : BSet} {w : World} {v0 : Value} {x0 : Int} (h0 : Val (kInt .i64) F w v0 x0) {v1 : Value} {x1 : Int} (h1 : Val (kInt .i64) F w v1 x1) : Val k_Lease F w (.agg ((v0.cells.toList ++ v1.cells.toList)).toArray) ⟨x0, x1⟩ := ⟨_, (show k_Lease.rep F w _ _ from ⟨_, _, rfl, h0.cells, h1.cells⟩), rfl⟩
theorem plain_Lease : Plain k_Lease := plain_iso _ (plain_pair (plain_int _) (plain_int _))
theorem op_Lease {F : BSet} {w : World} {v : Value} {x : Lease} (h : Val k_Lease F w v x) : v = .agg #[.int .i64 x.Digest, .int .i64 x.Until] := by
  obtain ⟨cs, hr, rfl⟩ := h
  obtain ⟨_, _, rfl, rfl, rfl⟩ := hr
  rfl
theorem opn_Object {F : BSet} {w : World} {v : Value} {x : Object} (h : Val k_Object F w v x) : ∃ c0 c1 : Value, v = .agg #[.int .i64 x.Kind, c0, c1] := by
  obtain ⟨cs, hr, rfl⟩ := h
  obtain ⟨_, _, rfl, rfl, ⟨_, _, rfl, ⟨_, rfl, _⟩, ⟨_, rfl, _⟩⟩⟩ := hr
  exact ⟨_, _, rfl⟩
theorem opn_StoredObject {F : BSet} {w : World} {v : Value} {x : StoredObject} (h : Val k_StoredObject F w v x) : ∃ c0 c1 : Value, v = .agg #[.int .i64 x.Digest, .int .i64 x.Object.Kind, c0, c1] := by
  obtain ⟨cs, hr, rfl⟩ := h
  obtain ⟨_, _, rfl, rfl, ⟨_, _, rfl, rfl, ⟨_, _, rfl, ⟨_, rfl, _⟩, ⟨_, rfl, _⟩⟩⟩⟩ := hr
  exact ⟨_, _, rfl⟩
theorem opn_Fault {F : BSet} {w : World} {v : Value} {x : Fault} (h : Val k_Fault F w v x) : v = .agg #[.int .i64 x.Code, .int .i64 x.Index] := by
  obtain ⟨cs, hr, rfl⟩ := h
  obtain ⟨_, _, rfl, rfl, rfl⟩ := hr
  exact rfl
theorem opn_ObjectStore {F : BSet} {w : World} {v : Value} {x : ObjectStore} (h : Val k_ObjectStore F w v x) : ∃ c0 : Value, v = .agg #[c0] := by
  obtain ⟨cs, hr, rfl⟩ := h
  obtain ⟨_, rfl, _⟩ := hr
  exact ⟨_, rfl⟩
theorem un_ObjectStore {F : BSet} {w : World} {v : Value} {c0 : Value} {x0 : (List StoredObject)} (h : Val k_ObjectStore_r F w v ⟨c0⟩) (h0 : SlR k_StoredObject F w c0 x0) : Val k_ObjectStore F w v ⟨x0⟩ := by
  obtain ⟨cs, hr, rfl⟩ := h
  obtain ⟨rfl, _⟩ := hr
  exact ⟨_, (show k_ObjectStore.rep F w _ _ from ⟨_, rfl, h0⟩), rfl⟩
theorem opn_RefTy {F : BSet} {w : World} {v : Value} {x : RefTy} (h : Val k_RefTy F w v x) : v = .agg #[.string x.Name, .int .i64 x.Target] := by
  obtain ⟨cs, hr, rfl⟩ := h
  obtain ⟨_, _, rfl, rfl, rfl⟩ := hr
  exact rfl
theorem opn_RefStore {F : BSet} {w : World} {v : Value} {x : RefStore} (h : Val k_RefStore F w v x) : ∃ c0 : Value, v = .agg #[c0] := by
  obtain ⟨cs, hr, rfl⟩ := h
  obtain ⟨_, rfl, _⟩ := hr
  exact ⟨_, rfl⟩
theorem opn_Lease {F : BSet} {w : World} {v : Value} {x : Lease} (h : Val k_Lease F w v x) : v = .agg #[.int .i64 x.Digest, .int .i64 x.Until] := by
  obtain ⟨cs, hr, rfl⟩ := h
  obtain ⟨_, _, rfl, rfl, rfl⟩ := hr
  exact rfl
end Go.Fx
