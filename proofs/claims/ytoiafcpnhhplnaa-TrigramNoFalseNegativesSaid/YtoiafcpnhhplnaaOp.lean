/- The types of what the statements are handed, laid open. -/
import Derived.Test.YtoiafcpnhhplnaaNm
import Derived.Test.YtoiafcpnhhplnaaFx10
namespace Go.Proofs.Ytoiafcpnhhplnaa
open Go.Fx Go.RowKit
set_option maxRecDepth 20000
theorem opn_9 : Opn Try.prog 9 kStr okS := opn_str Try.underlying9
theorem opn_22 : Opn Try.prog 22 (kSl kStr) (okL okS) := opn_sl Try.underlying22 opn_9 (by kernel_rfl) (by kernel_rfl)
theorem opn_3 : Opn Try.prog 3 (kInt .i64) (okI .i64) := opn_int Try.underlying3
theorem opn_24 : Opn Try.prog 24 (kSl (kInt .i64)) (okL (okI .i64)) := opn_sl Try.underlying24 opn_3 (by kernel_rfl) (by kernel_rfl)
def ok_Posting (x : Posting) : Prop := okS x.Gram ∧ (okL (okI .i64)) x.Texts
theorem opn_55 : Opn Try.prog 55 k_Posting ok_Posting := by
  refine opn_struct Try.underlying55 (fun {w cs} hlen hf => ?_)
  rw [(by kernel_rfl : Try.prog.cellsOf 55 = 2)] at hlen
  obtain ⟨x0, h0, o0⟩ := hf 0 _ rfl opn_9
  have h0 : Kd.rep kStr (allF w) w x0 ((cs.drop 0).take 1) := by have e_ := (by kernel_rfl : Try.prog.cellsOf 9 = 1); have h_ : Kd.rep kStr (allF w) w x0 ((cs.drop 0).take (Try.prog.cellsOf 9)) := h0; rw [e_] at h_; exact h_
  obtain ⟨x1, h1, o1⟩ := hf 1 _ rfl opn_24
  have h1 : Kd.rep (kSl (kInt .i64)) (allF w) w x1 ((cs.drop 1).take 1) := by have e_ := (by kernel_rfl : Try.prog.cellsOf 24 = 1); have h_ : Kd.rep (kSl (kInt .i64)) (allF w) w x1 ((cs.drop 1).take (Try.prog.cellsOf 24)) := h1; rw [e_] at h_; exact h_
  have e1 : (cs.drop 1).take 1 = cs.drop 1 := List.take_of_length_le (by simp [hlen])
  rw [e1] at h1
  exact ⟨⟨x0, x1⟩, (rep_pair (show Kd.rep kStr (allF w) w x0 (List.take 1 cs) from h0) h1), ⟨o0, o1⟩⟩
theorem opn_25 : Opn Try.prog 25 (kSl k_Posting) (okL ok_Posting) := opn_sl Try.underlying25 opn_55 (by kernel_rfl) (by kernel_rfl)
def ok_TrigramIndex (x : TrigramIndex) : Prop := (okL (okI .i64)) x.Texts ∧ (okL ok_Posting) x.Postings
theorem opn_27 : Opn Try.prog 27 k_TrigramIndex ok_TrigramIndex := by
  refine opn_struct Try.underlying27 (fun {w cs} hlen hf => ?_)
  rw [(by kernel_rfl : Try.prog.cellsOf 27 = 2)] at hlen
  obtain ⟨x0, h0, o0⟩ := hf 0 _ rfl opn_24
  have h0 : Kd.rep (kSl (kInt .i64)) (allF w) w x0 ((cs.drop 0).take 1) := by have e_ := (by kernel_rfl : Try.prog.cellsOf 24 = 1); have h_ : Kd.rep (kSl (kInt .i64)) (allF w) w x0 ((cs.drop 0).take (Try.prog.cellsOf 24)) := h0; rw [e_] at h_; exact h_
  obtain ⟨x1, h1, o1⟩ := hf 1 _ rfl opn_25
  have h1 : Kd.rep (kSl k_Posting) (allF w) w x1 ((cs.drop 1).take 1) := by have e_ := (by kernel_rfl : Try.prog.cellsOf 25 = 1); have h_ : Kd.rep (kSl k_Posting) (allF w) w x1 ((cs.drop 1).take (Try.prog.cellsOf 25)) := h1; rw [e_] at h_; exact h_
  have e1 : (cs.drop 1).take 1 = cs.drop 1 := List.take_of_length_le (by simp [hlen])
  rw [e1] at h1
  exact ⟨⟨x0, x1⟩, (rep_pair (show Kd.rep (kSl (kInt .i64)) (allF w) w x0 (List.take 1 cs) from h0) h1), ⟨o0, o1⟩⟩
end Go.Proofs.Ytoiafcpnhhplnaa
