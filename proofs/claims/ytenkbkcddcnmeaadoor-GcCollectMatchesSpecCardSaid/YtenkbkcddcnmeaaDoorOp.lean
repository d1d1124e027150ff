/- The types of what the statements are handed, laid open. -/
import Derived.Test.YtenkbkcddcnmeaaDoorNm
import Derived.Test.YtenkbkcddcnmeaaDoorFx10
namespace Go.Proofs.YtenkbkcddcnmeaaDoor
open Go.Fx Go.RowKit
set_option maxRecDepth 20000
theorem opn_3 : Opn Tryd.prog 3 (kInt .i64) (okI .i64) := opn_int Tryd.underlying3
theorem opn_30 : Opn Tryd.prog 30 (kSl (kInt .i64)) (okL (okI .i64)) := opn_sl Tryd.underlying30 opn_3 (by kernel_rfl) (by kernel_rfl)
theorem opn_5 : Opn Tryd.prog 5 kByte (fun _ => True) := opn_byte Tryd.underlying5
theorem opn_46 : Opn Tryd.prog 46 (kSl kByte) (okL (fun _ => True)) := opn_sl Tryd.underlying46 opn_5 (by kernel_rfl) (by kernel_rfl)
def ok_Object (x : Object) : Prop := (okI .i64) x.Kind ∧ (okL (okI .i64)) x.Links ∧ (okL (fun _ => True)) x.Data
theorem opn_48 : Opn Tryd.prog 48 k_Object ok_Object := by
  refine opn_struct Tryd.underlying48 (fun {w cs} hlen hf => ?_)
  rw [(by kernel_rfl : Tryd.prog.cellsOf 48 = 3)] at hlen
  obtain ⟨x0, h0, o0⟩ := hf 0 _ rfl opn_3
  have h0 : Kd.rep (kInt .i64) (allF w) w x0 ((cs.drop 0).take 1) := by have e_ := (by kernel_rfl : Tryd.prog.cellsOf 3 = 1); have h_ : Kd.rep (kInt .i64) (allF w) w x0 ((cs.drop 0).take (Tryd.prog.cellsOf 3)) := h0; rw [e_] at h_; exact h_
  obtain ⟨x1, h1, o1⟩ := hf 1 _ rfl opn_30
  have h1 : Kd.rep (kSl (kInt .i64)) (allF w) w x1 ((cs.drop 1).take 1) := by have e_ := (by kernel_rfl : Tryd.prog.cellsOf 30 = 1); have h_ : Kd.rep (kSl (kInt .i64)) (allF w) w x1 ((cs.drop 1).take (Tryd.prog.cellsOf 30)) := h1; rw [e_] at h_; exact h_
  obtain ⟨x2, h2, o2⟩ := hf 2 _ rfl opn_46
  have h2 : Kd.rep (kSl kByte) (allF w) w x2 ((cs.drop 2).take 1) := by have e_ := (by kernel_rfl : Tryd.prog.cellsOf 46 = 1); have h_ : Kd.rep (kSl kByte) (allF w) w x2 ((cs.drop 2).take (Tryd.prog.cellsOf 46)) := h2; rw [e_] at h_; exact h_
  have e2 : (cs.drop 2).take 1 = cs.drop 2 := List.take_of_length_le (by simp [hlen])
  rw [e2] at h2
  exact ⟨⟨x0, x1, x2⟩, (rep_pair (show Kd.rep (kInt .i64) (allF w) w x0 (List.take 1 cs) from h0) (rep_pair (show Kd.rep (kSl (kInt .i64)) (allF w) w x1 (List.take 1 (cs.drop 1)) from h1) (by rw [List.drop_drop]; exact h2))), ⟨o0, o1, o2⟩⟩
def ok_StoredObject (x : StoredObject) : Prop := (okI .i64) x.Digest ∧ ok_Object x.Object
theorem opn_50 : Opn Tryd.prog 50 k_StoredObject ok_StoredObject := by
  refine opn_struct Tryd.underlying50 (fun {w cs} hlen hf => ?_)
  rw [(by kernel_rfl : Tryd.prog.cellsOf 50 = 4)] at hlen
  obtain ⟨x0, h0, o0⟩ := hf 0 _ rfl opn_3
  have h0 : Kd.rep (kInt .i64) (allF w) w x0 ((cs.drop 0).take 1) := by have e_ := (by kernel_rfl : Tryd.prog.cellsOf 3 = 1); have h_ : Kd.rep (kInt .i64) (allF w) w x0 ((cs.drop 0).take (Tryd.prog.cellsOf 3)) := h0; rw [e_] at h_; exact h_
  obtain ⟨x1, h1, o1⟩ := hf 1 _ rfl opn_48
  have h1 : Kd.rep k_Object (allF w) w x1 ((cs.drop 1).take 3) := by have e_ := (by kernel_rfl : Tryd.prog.cellsOf 48 = 3); have h_ : Kd.rep k_Object (allF w) w x1 ((cs.drop 1).take (Tryd.prog.cellsOf 48)) := h1; rw [e_] at h_; exact h_
  have e1 : (cs.drop 1).take 3 = cs.drop 1 := List.take_of_length_le (by simp [hlen])
  rw [e1] at h1
  exact ⟨⟨x0, x1⟩, (rep_pair (show Kd.rep (kInt .i64) (allF w) w x0 (List.take 1 cs) from h0) h1), ⟨o0, o1⟩⟩
theorem opn_22 : Opn Tryd.prog 22 (kSl k_StoredObject) (okL ok_StoredObject) := opn_sl Tryd.underlying22 opn_50 (by kernel_rfl) (by kernel_rfl)
def ok_ObjectStore (x : ObjectStore) : Prop := (okL ok_StoredObject) x.Objects
theorem opn_24 : Opn Tryd.prog 24 k_ObjectStore ok_ObjectStore := by
  refine opn_struct Tryd.underlying24 (fun {w cs} hlen hf => ?_)
  rw [(by kernel_rfl : Tryd.prog.cellsOf 24 = 1)] at hlen
  obtain ⟨x0, h0, o0⟩ := hf 0 _ rfl opn_22
  have h0 : Kd.rep (kSl k_StoredObject) (allF w) w x0 ((cs.drop 0).take 1) := by have e_ := (by kernel_rfl : Tryd.prog.cellsOf 22 = 1); have h_ : Kd.rep (kSl k_StoredObject) (allF w) w x0 ((cs.drop 0).take (Tryd.prog.cellsOf 22)) := h0; rw [e_] at h_; exact h_
  have e0 : (cs.drop 0).take 1 = cs := by rw [List.drop_zero]; exact List.take_of_length_le (by simp [hlen])
  rw [e0] at h0
  exact ⟨⟨x0⟩, h0, o0⟩
theorem opn_9 : Opn Tryd.prog 9 kStr okS := opn_str Tryd.underlying9
def ok_RefTy (x : RefTy) : Prop := okS x.Name ∧ (okI .i64) x.Target
theorem opn_65 : Opn Tryd.prog 65 k_RefTy ok_RefTy := by
  refine opn_struct Tryd.underlying65 (fun {w cs} hlen hf => ?_)
  rw [(by kernel_rfl : Tryd.prog.cellsOf 65 = 2)] at hlen
  obtain ⟨x0, h0, o0⟩ := hf 0 _ rfl opn_9
  have h0 : Kd.rep kStr (allF w) w x0 ((cs.drop 0).take 1) := by have e_ := (by kernel_rfl : Tryd.prog.cellsOf 9 = 1); have h_ : Kd.rep kStr (allF w) w x0 ((cs.drop 0).take (Tryd.prog.cellsOf 9)) := h0; rw [e_] at h_; exact h_
  obtain ⟨x1, h1, o1⟩ := hf 1 _ rfl opn_3
  have h1 : Kd.rep (kInt .i64) (allF w) w x1 ((cs.drop 1).take 1) := by have e_ := (by kernel_rfl : Tryd.prog.cellsOf 3 = 1); have h_ : Kd.rep (kInt .i64) (allF w) w x1 ((cs.drop 1).take (Tryd.prog.cellsOf 3)) := h1; rw [e_] at h_; exact h_
  have e1 : (cs.drop 1).take 1 = cs.drop 1 := List.take_of_length_le (by simp [hlen])
  rw [e1] at h1
  exact ⟨⟨x0, x1⟩, (rep_pair (show Kd.rep kStr (allF w) w x0 (List.take 1 cs) from h0) h1), ⟨o0, o1⟩⟩
theorem opn_25 : Opn Tryd.prog 25 (kSl k_RefTy) (okL ok_RefTy) := opn_sl Tryd.underlying25 opn_65 (by kernel_rfl) (by kernel_rfl)
def ok_RefStore (x : RefStore) : Prop := (okL ok_RefTy) x.Refs
theorem opn_27 : Opn Tryd.prog 27 k_RefStore ok_RefStore := by
  refine opn_struct Tryd.underlying27 (fun {w cs} hlen hf => ?_)
  rw [(by kernel_rfl : Tryd.prog.cellsOf 27 = 1)] at hlen
  obtain ⟨x0, h0, o0⟩ := hf 0 _ rfl opn_25
  have h0 : Kd.rep (kSl k_RefTy) (allF w) w x0 ((cs.drop 0).take 1) := by have e_ := (by kernel_rfl : Tryd.prog.cellsOf 25 = 1); have h_ : Kd.rep (kSl k_RefTy) (allF w) w x0 ((cs.drop 0).take (Tryd.prog.cellsOf 25)) := h0; rw [e_] at h_; exact h_
  have e0 : (cs.drop 0).take 1 = cs := by rw [List.drop_zero]; exact List.take_of_length_le (by simp [hlen])
  rw [e0] at h0
  exact ⟨⟨x0⟩, h0, o0⟩
def ok_Lease (x : Lease) : Prop := (okI .i64) x.Digest ∧ (okI .i64) x.Until
theorem opn_67 : Opn Tryd.prog 67 k_Lease ok_Lease := by
  refine opn_struct Tryd.underlying67 (fun {w cs} hlen hf => ?_)
  rw [(by kernel_rfl : Tryd.prog.cellsOf 67 = 2)] at hlen
  obtain ⟨x0, h0, o0⟩ := hf 0 _ rfl opn_3
  have h0 : Kd.rep (kInt .i64) (allF w) w x0 ((cs.drop 0).take 1) := by have e_ := (by kernel_rfl : Tryd.prog.cellsOf 3 = 1); have h_ : Kd.rep (kInt .i64) (allF w) w x0 ((cs.drop 0).take (Tryd.prog.cellsOf 3)) := h0; rw [e_] at h_; exact h_
  obtain ⟨x1, h1, o1⟩ := hf 1 _ rfl opn_3
  have h1 : Kd.rep (kInt .i64) (allF w) w x1 ((cs.drop 1).take 1) := by have e_ := (by kernel_rfl : Tryd.prog.cellsOf 3 = 1); have h_ : Kd.rep (kInt .i64) (allF w) w x1 ((cs.drop 1).take (Tryd.prog.cellsOf 3)) := h1; rw [e_] at h_; exact h_
  have e1 : (cs.drop 1).take 1 = cs.drop 1 := List.take_of_length_le (by simp [hlen])
  rw [e1] at h1
  exact ⟨⟨x0, x1⟩, (rep_pair (show Kd.rep (kInt .i64) (allF w) w x0 (List.take 1 cs) from h0) h1), ⟨o0, o1⟩⟩
theorem opn_28 : Opn Tryd.prog 28 (kSl k_Lease) (okL ok_Lease) := opn_sl Tryd.underlying28 opn_67 (by kernel_rfl) (by kernel_rfl)
end Go.Proofs.YtenkbkcddcnmeaaDoor
