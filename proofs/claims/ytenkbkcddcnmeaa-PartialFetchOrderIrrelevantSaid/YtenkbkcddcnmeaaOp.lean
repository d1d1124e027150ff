/- The types of what the statements are handed, laid open. -/
import Derived.Test.YtenkbkcddcnmeaaNm
import Derived.Test.YtenkbkcddcnmeaaFx10
namespace Go.Proofs.Ytenkbkcddcnmeaa
open Go.Fx Go.RowKit
set_option maxRecDepth 20000
theorem opn_3 : Opn Try.prog 3 (kInt .i64) (okI .i64) := opn_int Try.underlying3
theorem opn_26 : Opn Try.prog 26 (kSl (kInt .i64)) (okL (okI .i64)) := opn_sl Try.underlying26 opn_3 (by kernel_rfl) (by kernel_rfl)
theorem opn_5 : Opn Try.prog 5 kByte (fun _ => True) := opn_byte Try.underlying5
theorem opn_35 : Opn Try.prog 35 (kSl kByte) (okL (fun _ => True)) := opn_sl Try.underlying35 opn_5 (by kernel_rfl) (by kernel_rfl)
def ok_Object (x : Object) : Prop := (okI .i64) x.Kind ∧ (okL (okI .i64)) x.Links ∧ (okL (fun _ => True)) x.Data
theorem opn_37 : Opn Try.prog 37 k_Object ok_Object := by
  refine opn_struct Try.underlying37 (fun {w cs} hlen hf => ?_)
  rw [(by kernel_rfl : Try.prog.cellsOf 37 = 3)] at hlen
  obtain ⟨x0, h0, o0⟩ := hf 0 _ rfl opn_3
  have h0 : Kd.rep (kInt .i64) (allF w) w x0 ((cs.drop 0).take 1) := by have e_ := (by kernel_rfl : Try.prog.cellsOf 3 = 1); have h_ : Kd.rep (kInt .i64) (allF w) w x0 ((cs.drop 0).take (Try.prog.cellsOf 3)) := h0; rw [e_] at h_; exact h_
  obtain ⟨x1, h1, o1⟩ := hf 1 _ rfl opn_26
  have h1 : Kd.rep (kSl (kInt .i64)) (allF w) w x1 ((cs.drop 1).take 1) := by have e_ := (by kernel_rfl : Try.prog.cellsOf 26 = 1); have h_ : Kd.rep (kSl (kInt .i64)) (allF w) w x1 ((cs.drop 1).take (Try.prog.cellsOf 26)) := h1; rw [e_] at h_; exact h_
  obtain ⟨x2, h2, o2⟩ := hf 2 _ rfl opn_35
  have h2 : Kd.rep (kSl kByte) (allF w) w x2 ((cs.drop 2).take 1) := by have e_ := (by kernel_rfl : Try.prog.cellsOf 35 = 1); have h_ : Kd.rep (kSl kByte) (allF w) w x2 ((cs.drop 2).take (Try.prog.cellsOf 35)) := h2; rw [e_] at h_; exact h_
  have e2 : (cs.drop 2).take 1 = cs.drop 2 := List.take_of_length_le (by simp [hlen])
  rw [e2] at h2
  exact ⟨⟨x0, x1, x2⟩, (rep_pair (show Kd.rep (kInt .i64) (allF w) w x0 (List.take 1 cs) from h0) (rep_pair (show Kd.rep (kSl (kInt .i64)) (allF w) w x1 (List.take 1 (cs.drop 1)) from h1) (by rw [List.drop_drop]; exact h2))), ⟨o0, o1, o2⟩⟩
def ok_StoredObject (x : StoredObject) : Prop := (okI .i64) x.Digest ∧ ok_Object x.Object
theorem opn_39 : Opn Try.prog 39 k_StoredObject ok_StoredObject := by
  refine opn_struct Try.underlying39 (fun {w cs} hlen hf => ?_)
  rw [(by kernel_rfl : Try.prog.cellsOf 39 = 4)] at hlen
  obtain ⟨x0, h0, o0⟩ := hf 0 _ rfl opn_3
  have h0 : Kd.rep (kInt .i64) (allF w) w x0 ((cs.drop 0).take 1) := by have e_ := (by kernel_rfl : Try.prog.cellsOf 3 = 1); have h_ : Kd.rep (kInt .i64) (allF w) w x0 ((cs.drop 0).take (Try.prog.cellsOf 3)) := h0; rw [e_] at h_; exact h_
  obtain ⟨x1, h1, o1⟩ := hf 1 _ rfl opn_37
  have h1 : Kd.rep k_Object (allF w) w x1 ((cs.drop 1).take 3) := by have e_ := (by kernel_rfl : Try.prog.cellsOf 37 = 3); have h_ : Kd.rep k_Object (allF w) w x1 ((cs.drop 1).take (Try.prog.cellsOf 37)) := h1; rw [e_] at h_; exact h_
  have e1 : (cs.drop 1).take 3 = cs.drop 1 := List.take_of_length_le (by simp [hlen])
  rw [e1] at h1
  exact ⟨⟨x0, x1⟩, (rep_pair (show Kd.rep (kInt .i64) (allF w) w x0 (List.take 1 cs) from h0) h1), ⟨o0, o1⟩⟩
theorem opn_22 : Opn Try.prog 22 (kSl k_StoredObject) (okL ok_StoredObject) := opn_sl Try.underlying22 opn_39 (by kernel_rfl) (by kernel_rfl)
def ok_ObjectStore (x : ObjectStore) : Prop := (okL ok_StoredObject) x.Objects
theorem opn_24 : Opn Try.prog 24 k_ObjectStore ok_ObjectStore := by
  refine opn_struct Try.underlying24 (fun {w cs} hlen hf => ?_)
  rw [(by kernel_rfl : Try.prog.cellsOf 24 = 1)] at hlen
  obtain ⟨x0, h0, o0⟩ := hf 0 _ rfl opn_22
  have h0 : Kd.rep (kSl k_StoredObject) (allF w) w x0 ((cs.drop 0).take 1) := by have e_ := (by kernel_rfl : Try.prog.cellsOf 22 = 1); have h_ : Kd.rep (kSl k_StoredObject) (allF w) w x0 ((cs.drop 0).take (Try.prog.cellsOf 22)) := h0; rw [e_] at h_; exact h_
  have e0 : (cs.drop 0).take 1 = cs := by rw [List.drop_zero]; exact List.take_of_length_le (by simp [hlen])
  rw [e0] at h0
  exact ⟨⟨x0⟩, h0, o0⟩
end Go.Proofs.Ytenkbkcddcnmeaa
