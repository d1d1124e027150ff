/- The types of what the statements are handed, laid open. -/
import Derived.Test.YtpdkgodonemonaaNm
import Derived.Test.YtpdkgodonemonaaFx10
namespace Go.Proofs.Ytpdkgodonemonaa
open Go.Fx Go.RowKit
set_option maxRecDepth 20000
theorem opn_5 : Opn Try.prog 5 kByte (fun _ => True) := opn_byte Try.underlying5
theorem opn_22 : Opn Try.prog 22 (kSl kByte) (okL (fun _ => True)) := opn_sl Try.underlying22 opn_5 (by kernel_rfl) (by kernel_rfl)
theorem opn_3 : Opn Try.prog 3 (kInt .i64) (okI .i64) := opn_int Try.underlying3
def ok_LinkEvent (x : LinkEvent) : Prop := (okI .i64) x.Kind ∧ (okI .i64) x.N
theorem opn_48 : Opn Try.prog 48 k_LinkEvent ok_LinkEvent := by
  refine opn_struct Try.underlying48 (fun {w cs} hlen hf => ?_)
  rw [(by kernel_rfl : Try.prog.cellsOf 48 = 2)] at hlen
  obtain ⟨x0, h0, o0⟩ := hf 0 _ rfl opn_3
  have h0 : Kd.rep (kInt .i64) (allF w) w x0 ((cs.drop 0).take 1) := by have e_ := (by kernel_rfl : Try.prog.cellsOf 3 = 1); have h_ : Kd.rep (kInt .i64) (allF w) w x0 ((cs.drop 0).take (Try.prog.cellsOf 3)) := h0; rw [e_] at h_; exact h_
  obtain ⟨x1, h1, o1⟩ := hf 1 _ rfl opn_3
  have h1 : Kd.rep (kInt .i64) (allF w) w x1 ((cs.drop 1).take 1) := by have e_ := (by kernel_rfl : Try.prog.cellsOf 3 = 1); have h_ : Kd.rep (kInt .i64) (allF w) w x1 ((cs.drop 1).take (Try.prog.cellsOf 3)) := h1; rw [e_] at h_; exact h_
  have e1 : (cs.drop 1).take 1 = cs.drop 1 := List.take_of_length_le (by simp [hlen])
  rw [e1] at h1
  exact ⟨⟨x0, x1⟩, (rep_pair (show Kd.rep (kInt .i64) (allF w) w x0 (List.take 1 cs) from h0) h1), ⟨o0, o1⟩⟩
theorem opn_23 : Opn Try.prog 23 (kSl k_LinkEvent) (okL ok_LinkEvent) := opn_sl Try.underlying23 opn_48 (by kernel_rfl) (by kernel_rfl)
theorem opn_4 : Opn Try.prog 4 kBool (fun _ => True) := opn_bool Try.underlying4
theorem opn_38 : Opn Try.prog 38 (kSl kBool) (okL (fun _ => True)) := opn_sl Try.underlying38 opn_4 (by kernel_rfl) (by kernel_rfl)
end Go.Proofs.Ytpdkgodonemonaa
