/- What functions of the program come to, as plain Lean functions (written by a program, wip/fx/gen.py). -/
import Derived.Test.YtilodamhgepjoaaTy
import Derived.Test.YtilodamhgepjoaaIt
namespace Go.Proofs.Ytilodamhgepjoaa
open Go.Fx
set_option linter.unusedVariables false

namespace history_Validate
structure S where
  t_0 : (List Commit)
  t_2 : Fault
  t_3 : Int
  t_4 : Commit
  t_5 : Int
  t_6 : Int
  t_9 : Bool
  t_11 : (List Commit)
  t_12 : Int
  t_13 : Int
  t_14 : Bool
  t_21 : Bool
  t_25 : (List Int)
  t_26 : Int
  t_27 : Int
  t_28 : Bool
  t_38 : Bool
  t_52 : Bool
  t_56 : Bool
  t_83 : Bool
abbrev R := Fault
def retv (s : S) : R := (s.t_2)
noncomputable def r0 (s : S) : Option S := some { s with t_2 := (⟨(0 : Int), (0 : Int)⟩ : Fault) }
noncomputable def r1 (s : S) : Option S := some { s with t_9 := (decide ((60 : Int) < (s.t_0.length : Int))) }
noncomputable def r2 (s : S) : Option S := some { s with t_2 := (⟨(2 : Int), (-1 : Int)⟩ : Fault) }
noncomputable def r3 (s : S) : Option S := some { s with t_11 := s.t_0, t_12 := (s.t_0.length : Int), t_13 := (0 : Int) }
noncomputable def r4 (s : S) : Option S := some { s with t_14 := (decide (s.t_13 < s.t_12)) }
noncomputable def r5 (s : S) : Option S := (idx s.t_11 s.t_13).bind fun x19 => some { s with t_3 := s.t_13, t_4 := x19 }
noncomputable def r6 (s : S) : Option S := some { s with t_21 := (decide ((3 : Int) < (s.t_4.Parents.length : Int))) }
noncomputable def r7 (s : S) : Option S := some { s with t_2 := (⟨(2 : Int), s.t_3⟩ : Fault) }
noncomputable def r8 (s : S) : Option S := some { s with t_25 := s.t_4.Parents, t_26 := (s.t_4.Parents.length : Int), t_27 := (0 : Int) }
noncomputable def r9 (s : S) : Option S := some { s with t_28 := (decide (s.t_27 < s.t_26)) }
noncomputable def r10 (s : S) : Option S := (idx s.t_25 s.t_27).bind fun x58 => some { s with t_5 := s.t_27, t_6 := x58 }
noncomputable def r11 (s : S) : Option S := some { s with t_38 := ((decide (s.t_6 < (0 : Int))) || (decide (s.t_3 ≤ s.t_6))) }
noncomputable def r12 (s : S) : Option S := some { s with t_2 := (⟨(3 : Int), s.t_3⟩ : Fault) }
noncomputable def r13 (s : S) : Option S := ((if (decide ((0 : Int) < s.t_5)) = true then (idx s.t_4.Parents (w64 (s.t_5 - (1 : Int)))).bind fun x80 => some (decide (s.t_6 ≤ x80)) else some false)).bind fun x90 => some { s with t_52 := x90 }
noncomputable def r14 (s : S) : Option S := some { s with t_2 := (⟨(5 : Int), s.t_3⟩ : Fault) }
noncomputable def r15 (s : S) : Option S := some { s with t_27 := w64 (s.t_27 + (1 : Int)) }
noncomputable def r16 (s : S) : Option S := some { s with t_56 := ((decide (s.t_4.Author < (0 : Int))) || (decide ((7 : Int) < s.t_4.Author))) }
noncomputable def r17 (s : S) : Option S := some { s with t_56 := ((decide (s.t_4.Time < (0 : Int))) || (decide ((100000 : Int) < s.t_4.Time))) }
noncomputable def r18 (s : S) : Option S := some { s with t_56 := ((decide (s.t_4.Tree < (0 : Int))) || (decide ((2305843009213693951 : Int) ≤ s.t_4.Tree))) }
noncomputable def r19 (s : S) : Option S := some { s with t_2 := (⟨(3 : Int), s.t_3⟩ : Fault) }
noncomputable def r20 (s : S) : Option S := some { s with t_83 := (decide ((80 : Int) < (s.t_4.Message.size : Int))) }
noncomputable def r21 (s : S) : Option S := some { s with t_2 := (⟨(10 : Int), s.t_3⟩ : Fault) }
noncomputable def r22 (s : S) : Option S := some { s with t_13 := w64 (s.t_13 + (1 : Int)) }
noncomputable def r23 (s : S) : Option S := some { s with t_2 := (⟨(0 : Int), (0 : Int)⟩ : Fault) }
noncomputable def body : S → Option (Ctl S R) := (seqM (regM r0)
  (seqM (seqM (regM r1)
  (condM (fun s => s.t_9) (seqM (regM r2)
  (retM retv))
  skipM))
  (seqM (seqM (regM r3)
  (blockM 0 (iterM (seqM (regM r4)
  (seqM (condM (fun s => s.t_14) skipM
  (extM 0))
  (seqM (blockM 1 (seqM (regM r5)
  (seqM (seqM (regM r6)
  (condM (fun s => s.t_21) (seqM (regM r7)
  (retM retv))
  skipM))
  (seqM (seqM (regM r8)
  (blockM 2 (iterM (seqM (regM r9)
  (seqM (condM (fun s => s.t_28) skipM
  (extM 2))
  (seqM (blockM 3 (seqM (regM r10)
  (seqM (seqM (regM r11)
  (condM (fun s => s.t_38) (seqM (regM r12)
  (retM retv))
  skipM))
  (seqM (regM r13)
  (condM (fun s => s.t_52) (seqM (regM r14)
  (retM retv))
  skipM)))))
  (regM r15)))))))
  (blockM 4 (seqM (seqM (regM r16)
  (condM (fun s => s.t_56) skipM
  (seqM (regM r17)
  (condM (fun s => s.t_56) skipM
  (regM r18)))))
  (condM (fun s => s.t_56) (seqM (regM r19)
  (retM retv))
  (seqM (regM r20)
  (condM (fun s => s.t_83) (seqM (regM r21)
  (retM retv))
  skipM)))))))))
  (regM r22)))))))
  (seqM (regM r23)
  (retM retv)))))
noncomputable def f (a0 : (List Commit)) : Option R := retOf (body { t_0 := a0, t_2 := (⟨(0 : Int), (0 : Int)⟩ : Fault), t_3 := (0 : Int), t_4 := (⟨[], (0 : Int), (0 : Int), (0 : Int), ByteArray.empty⟩ : Commit), t_5 := (0 : Int), t_6 := (0 : Int), t_9 := false, t_11 := [], t_12 := (0 : Int), t_13 := (0 : Int), t_14 := false, t_21 := false, t_25 := [], t_26 := (0 : Int), t_27 := (0 : Int), t_28 := false, t_38 := false, t_52 := false, t_56 := false, t_83 := false })
end history_Validate

namespace slices_Reverse_int_int
structure S where
  s_0 : (List Int)
  i_2 : Int
  j_3 : Int
  t_9 : Bool
abbrev R := (List Int)
def retv (s : S) : R := (s.s_0)
noncomputable def r0 (s : S) : Option S := some { s with i_2 := (0 : Int), j_3 := w64 ((s.s_0.length : Int) - (1 : Int)) }
noncomputable def r1 (s : S) : Option S := some { s with t_9 := (decide (s.i_2 < s.j_3)) }
noncomputable def r3 (s : S) : Option S := (idx s.s_0 s.j_3).bind fun x5 => (idx s.s_0 s.i_2).bind fun x11 => (idx s.s_0 s.i_2).bind fun x17 => (idx (setL s.s_0 s.i_2 x5) s.j_3).bind fun x26 => some { s with s_0 := setL (setL s.s_0 s.i_2 x5) s.j_3 x11 }
noncomputable def r2 (s : S) : Option S := some { s with i_2 := w64 (s.i_2 + (1 : Int)), j_3 := w64 (s.j_3 - (1 : Int)) }
noncomputable def body : S → Option (Ctl S R) := (seqM (regM r0)
  (blockM 0 (iterM (seqM (seqM (regM r1)
  (condM (fun s => s.t_9) skipM
  (extM 0)))
  (seqM (blockM 1 (regM r3))
  (regM r2))))))
noncomputable def f (a0 : (List Int)) : Option R := outOf retv (body { s_0 := a0, i_2 := (0 : Int), j_3 := (0 : Int), t_9 := false })
end slices_Reverse_int_int

end Go.Proofs.Ytilodamhgepjoaa
