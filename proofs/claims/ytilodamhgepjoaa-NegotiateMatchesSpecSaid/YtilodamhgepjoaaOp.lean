/- The types of what the statements are handed, laid open. -/
import Derived.Test.YtilodamhgepjoaaNm
import Derived.Test.YtilodamhgepjoaaFx10
namespace Go.Proofs.Ytilodamhgepjoaa
open Go.Fx Go.RowKit
set_option maxRecDepth 20000
theorem opn_3 : Opn Try.prog 3 (kInt .i64) (okI .i64) := opn_int Try.underlying3
theorem opn_23 : Opn Try.prog 23 (kSl (kInt .i64)) (okL (okI .i64)) := opn_sl Try.underlying23 opn_3 (by kernel_rfl) (by kernel_rfl)
theorem opn_9 : Opn Try.prog 9 kStr okS := opn_str Try.underlying9
def ok_Commit (x : Commit) : Prop := (okL (okI .i64)) x.Parents ∧ (okI .i64) x.Author ∧ (okI .i64) x.Time ∧ (okI .i64) x.Tree ∧ okS x.Message
theorem opn_56 : Opn Try.prog 56 k_Commit ok_Commit := by
  refine opn_struct Try.underlying56 (fun {w cs} hlen hf => ?_)
  rw [(by kernel_rfl : Try.prog.cellsOf 56 = 5)] at hlen
  obtain ⟨x0, h0, o0⟩ := hf 0 _ rfl opn_23
  have h0 : Kd.rep (kSl (kInt .i64)) (allF w) w x0 ((cs.drop 0).take 1) := by have e_ := (by kernel_rfl : Try.prog.cellsOf 23 = 1); have h_ : Kd.rep (kSl (kInt .i64)) (allF w) w x0 ((cs.drop 0).take (Try.prog.cellsOf 23)) := h0; rw [e_] at h_; exact h_
  obtain ⟨x1, h1, o1⟩ := hf 1 _ rfl opn_3
  have h1 : Kd.rep (kInt .i64) (allF w) w x1 ((cs.drop 1).take 1) := by have e_ := (by kernel_rfl : Try.prog.cellsOf 3 = 1); have h_ : Kd.rep (kInt .i64) (allF w) w x1 ((cs.drop 1).take (Try.prog.cellsOf 3)) := h1; rw [e_] at h_; exact h_
  obtain ⟨x2, h2, o2⟩ := hf 2 _ rfl opn_3
  have h2 : Kd.rep (kInt .i64) (allF w) w x2 ((cs.drop 2).take 1) := by have e_ := (by kernel_rfl : Try.prog.cellsOf 3 = 1); have h_ : Kd.rep (kInt .i64) (allF w) w x2 ((cs.drop 2).take (Try.prog.cellsOf 3)) := h2; rw [e_] at h_; exact h_
  obtain ⟨x3, h3, o3⟩ := hf 3 _ rfl opn_3
  have h3 : Kd.rep (kInt .i64) (allF w) w x3 ((cs.drop 3).take 1) := by have e_ := (by kernel_rfl : Try.prog.cellsOf 3 = 1); have h_ : Kd.rep (kInt .i64) (allF w) w x3 ((cs.drop 3).take (Try.prog.cellsOf 3)) := h3; rw [e_] at h_; exact h_
  obtain ⟨x4, h4, o4⟩ := hf 4 _ rfl opn_9
  have h4 : Kd.rep kStr (allF w) w x4 ((cs.drop 4).take 1) := by have e_ := (by kernel_rfl : Try.prog.cellsOf 9 = 1); have h_ : Kd.rep kStr (allF w) w x4 ((cs.drop 4).take (Try.prog.cellsOf 9)) := h4; rw [e_] at h_; exact h_
  have e4 : (cs.drop 4).take 1 = cs.drop 4 := List.take_of_length_le (by simp [hlen])
  rw [e4] at h4
  exact ⟨⟨x0, x1, x2, x3, x4⟩, (rep_pair (show Kd.rep (kSl (kInt .i64)) (allF w) w x0 (List.take 1 cs) from h0) (rep_pair (show Kd.rep (kInt .i64) (allF w) w x1 (List.take 1 (cs.drop 1)) from h1) (by rw [List.drop_drop]; exact (rep_pair (show Kd.rep (kInt .i64) (allF w) w x2 (List.take 1 (cs.drop 2)) from h2) (by rw [List.drop_drop]; exact (rep_pair (show Kd.rep (kInt .i64) (allF w) w x3 (List.take 1 (cs.drop 3)) from h3) (by rw [List.drop_drop]; exact h4))))))), ⟨o0, o1, o2, o3, o4⟩⟩
theorem opn_22 : Opn Try.prog 22 (kSl k_Commit) (okL ok_Commit) := opn_sl Try.underlying22 opn_56 (by kernel_rfl) (by kernel_rfl)
theorem opn_4 : Opn Try.prog 4 kBool (fun _ => True) := opn_bool Try.underlying4
theorem opn_46 : Opn Try.prog 46 (kSl kBool) (okL (fun _ => True)) := opn_sl Try.underlying46 opn_4 (by kernel_rfl) (by kernel_rfl)
end Go.Proofs.Ytilodamhgepjoaa
