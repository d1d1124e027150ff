/- What functions of the program come to, as plain Lean functions (written by a program, wip/fx/gen.py). -/
import Derived.Test.YtilodamhgepjoaaTy
import Derived.Test.YtilodamhgepjoaaIt
namespace Go.Proofs.Ytilodamhgepjoaa
open Go.Fx
set_option linter.unusedVariables false

namespace history_Validate
structure S where
  t_0 : (List Commit)
  t_2 : Fault
  t_3 : Int
  t_4 : Commit
  t_5 : Int
  t_6 : Int
  t_9 : Bool
  t_11 : (List Commit)
  t_12 : Int
  t_13 : Int
  t_14 : Bool
  t_21 : Bool
  t_25 : (List Int)
  t_26 : Int
  t_27 : Int
  t_28 : Bool
  t_38 : Bool
  t_52 : Bool
  t_56 : Bool
  t_83 : Bool
abbrev R := Fault
def retv (s : S) : R := (s.t_2)
noncomputable def r0 (s : S) : Option S := some { s with t_2 := (⟨(0 : Int), (0 : Int)⟩ : Fault) }
noncomputable def r1 (s : S) : Option S := some { s with t_9 := (decide ((60 : Int) < (s.t_0.length : Int))) }
noncomputable def r2 (s : S) : Option S := some { s with t_2 := (⟨(2 : Int), (-1 : Int)⟩ : Fault) }
noncomputable def r3 (s : S) : Option S := some { s with t_11 := s.t_0, t_12 := (s.t_0.length : Int), t_13 := (0 : Int) }
noncomputable def r4 (s : S) : Option S := some { s with t_14 := (decide (s.t_13 < s.t_12)) }
noncomputable def r5 (s : S) : Option S := (idx s.t_11 s.t_13).bind fun x19 => some { s with t_3 := s.t_13, t_4 := x19 }
noncomputable def r6 (s : S) : Option S := some { s with t_21 := (decide ((3 : Int) < (s.t_4.Parents.length : Int))) }
noncomputable def r7 (s : S) : Option S := some { s with t_2 := (⟨(2 : Int), s.t_3⟩ : Fault) }
noncomputable def r8 (s : S) : Option S := some { s with t_25 := s.t_4.Parents, t_26 := (s.t_4.Parents.length : Int), t_27 := (0 : Int) }
noncomputable def r9 (s : S) : Option S := some { s with t_28 := (decide (s.t_27 < s.t_26)) }
noncomputable def r10 (s : S) : Option S := (idx s.t_25 s.t_27).bind fun x58 => some { s with t_5 := s.t_27, t_6 := x58 }
noncomputable def r11 (s : S) : Option S := some { s with t_38 := ((decide (s.t_6 < (0 : Int))) || (decide (s.t_3 ≤ s.t_6))) }
noncomputable def r12 (s : S) : Option S := some { s with t_2 := (⟨(3 : Int), s.t_3⟩ : Fault) }
noncomputable def r13 (s : S) : Option S := ((if (decide ((0 : Int) < s.t_5)) = true then (idx s.t_4.Parents (w64 (s.t_5 - (1 : Int)))).bind fun x80 => some (decide (s.t_6 ≤ x80)) else some false)).bind fun x90 => some { s with t_52 := x90 }
noncomputable def r14 (s : S) : Option S := some { s with t_2 := (⟨(5 : Int), s.t_3⟩ : Fault) }
noncomputable def r15 (s : S) : Option S := some { s with t_27 := w64 (s.t_27 + (1 : Int)) }
noncomputable def r16 (s : S) : Option S := some { s with t_56 := ((decide (s.t_4.Author < (0 : Int))) || (decide ((7 : Int) < s.t_4.Author))) }
noncomputable def r17 (s : S) : Option S := some { s with t_56 := ((decide (s.t_4.Time < (0 : Int))) || (decide ((100000 : Int) < s.t_4.Time))) }
noncomputable def r18 (s : S) : Option S := some { s with t_56 := ((decide (s.t_4.Tree < (0 : Int))) || (decide ((2305843009213693951 : Int) ≤ s.t_4.Tree))) }
noncomputable def r19 (s : S) : Option S := some { s with t_2 := (⟨(3 : Int), s.t_3⟩ : Fault) }
noncomputable def r20 (s : S) : Option S := some { s with t_83 := (decide ((80 : Int) < (s.t_4.Message.size : Int))) }
noncomputable def r21 (s : S) : Option S := some { s with t_2 := (⟨(10 : Int), s.t_3⟩ : Fault) }
noncomputable def r22 (s : S) : Option S := some { s with t_13 := w64 (s.t_13 + (1 : Int)) }
noncomputable def r23 (s : S) : Option S := some { s with t_2 := (⟨(0 : Int), (0 : Int)⟩ : Fault) }
noncomputable def body : S → Option (Ctl S R) := (seqM (regM r0)
  (seqM (seqM (regM r1)
  (condM (fun s => s.t_9) (seqM (regM r2)
  (retM retv))
  skipM))
  (seqM (seqM (regM r3)
  (blockM 0 (iterM (seqM (regM r4)
  (seqM (condM (fun s => s.t_14) skipM
  (extM 0))
  (seqM (blockM 1 (seqM (regM r5)
  (seqM (seqM (regM r6)
  (condM (fun s => s.t_21) (seqM (regM r7)
  (retM retv))
  skipM))
  (seqM (seqM (regM r8)
  (blockM 2 (iterM (seqM (regM r9)
  (seqM (condM (fun s => s.t_28) skipM
  (extM 2))
  (seqM (blockM 3 (seqM (regM r10)
  (seqM (seqM (regM r11)
  (condM (fun s => s.t_38) (seqM (regM r12)
  (retM retv))
  skipM))
  (seqM (regM r13)
  (condM (fun s => s.t_52) (seqM (regM r14)
  (retM retv))
  skipM)))))
  (regM r15)))))))
  (blockM 4 (seqM (seqM (regM r16)
  (condM (fun s => s.t_56) skipM
  (seqM (regM r17)
  (condM (fun s => s.t_56) skipM
  (regM r18)))))
  (condM (fun s => s.t_56) (seqM (regM r19)
  (retM retv))
  (seqM (regM r20)
  (condM (fun s => s.t_83) (seqM (regM r21)
  (retM retv))
  skipM)))))))))
  (regM r22)))))))
  (seqM (regM r23)
  (retM retv)))))
noncomputable def f (a0 : (List Commit)) : Option R := retOf (body { t_0 := a0, t_2 := (⟨(0 : Int), (0 : Int)⟩ : Fault), t_3 := (0 : Int), t_4 := (⟨[], (0 : Int), (0 : Int), (0 : Int), ByteArray.empty⟩ : Commit), t_5 := (0 : Int), t_6 := (0 : Int), t_9 := false, t_11 := [], t_12 := (0 : Int), t_13 := (0 : Int), t_14 := false, t_21 := false, t_25 := [], t_26 := (0 : Int), t_27 := (0 : Int), t_28 := false, t_38 := false, t_52 := false, t_56 := false, t_83 := false })
end history_Validate

namespace ref3_Ints
structure S where
  a_0 : (List Int)
  b_1 : (List Int)
  t_4 : Bool
  i_5 : Int
  t_10 : Bool
  t_14 : Bool
  t_25 : Bool
abbrev R := Bool
def retv (s : S) : R := (s.t_4)
noncomputable def r0 (s : S) : Option S := some { s with t_4 := false }
noncomputable def r1 (s : S) : Option S := some { s with t_10 := (!decide ((s.a_0.length : Int) = (s.b_1.length : Int))) }
noncomputable def r2 (s : S) : Option S := some { s with t_4 := false }
noncomputable def r3 (s : S) : Option S := some { s with i_5 := (0 : Int) }
noncomputable def r4 (s : S) : Option S := some { s with t_14 := (decide (s.i_5 < (s.a_0.length : Int))) }
noncomputable def r6 (s : S) : Option S := (idx s.a_0 s.i_5).bind fun x16 => (idx s.b_1 s.i_5).bind fun x26 => some { s with t_25 := (!decide (x16 = x26)) }
noncomputable def r7 (s : S) : Option S := some { s with t_4 := false }
noncomputable def r5 (s : S) : Option S := some { s with i_5 := w64 (s.i_5 + (1 : Int)) }
noncomputable def r8 (s : S) : Option S := some { s with t_4 := true }
noncomputable def body : S → Option (Ctl S R) := (seqM (regM r0)
  (seqM (seqM (regM r1)
  (condM (fun s => s.t_10) (seqM (regM r2)
  (retM retv))
  skipM))
  (seqM (seqM (regM r3)
  (blockM 0 (iterM (seqM (seqM (regM r4)
  (condM (fun s => s.t_14) skipM
  (extM 0)))
  (seqM (blockM 1 (seqM (regM r6)
  (condM (fun s => s.t_25) (seqM (regM r7)
  (retM retv))
  skipM)))
  (regM r5))))))
  (seqM (regM r8)
  (retM retv)))))
noncomputable def f (a0 : (List Int)) (a1 : (List Int)) : Option R := retOf (body { a_0 := a0, b_1 := a1, t_4 := false, i_5 := (0 : Int), t_10 := false, t_14 := false, t_25 := false })
end ref3_Ints

namespace law4_chain
structure S where
  n_0 : Int
  t_2 : (List Commit)
  l_3 : (List Commit)
  i_4 : Int
  c_5 : Commit
  t_8 : Bool
  t_14 : Bool
abbrev R := (List Commit)
def retv (s : S) : R := (s.t_2)
noncomputable def r0 (s : S) : Option S := some { s with t_2 := [] }
noncomputable def r1 (s : S) : Option S := some { s with l_3 := [] }
noncomputable def r2 (s : S) : Option S := some { s with i_4 := (0 : Int) }
noncomputable def r3 (s : S) : Option S := some { s with t_8 := (decide (s.i_4 < s.n_0)) }
noncomputable def r5 (s : S) : Option S := some { s with c_5 := (⟨[], (0 : Int), s.i_4, (0 : Int), ByteArray.empty⟩ : Commit) }
noncomputable def r6 (s : S) : Option S := some { s with t_14 := (decide ((0 : Int) < s.i_4)) }
noncomputable def r7 (s : S) : Option S := some { s with c_5 := { s.c_5 with Parents := [w64 (s.i_4 - (1 : Int))] } }
noncomputable def r8 (s : S) : Option S := (appL 64 s.l_3 [s.c_5]).bind fun x24 => some { s with l_3 := x24 }
noncomputable def r4 (s : S) : Option S := some { s with i_4 := w64 (s.i_4 + (1 : Int)) }
noncomputable def r9 (s : S) : Option S := some { s with t_2 := s.l_3 }
noncomputable def body : S → Option (Ctl S R) := (seqM (regM r0)
  (seqM (regM r1)
  (seqM (seqM (regM r2)
  (blockM 0 (iterM (seqM (seqM (regM r3)
  (condM (fun s => s.t_8) skipM
  (extM 0)))
  (seqM (blockM 1 (seqM (regM r5)
  (seqM (seqM (regM r6)
  (condM (fun s => s.t_14) (regM r7)
  skipM))
  (regM r8))))
  (regM r4))))))
  (seqM (regM r9)
  (retM retv)))))
noncomputable def f (a0 : Int) : Option R := retOf (body { n_0 := a0, t_2 := [], l_3 := [], i_4 := (0 : Int), c_5 := (⟨[], (0 : Int), (0 : Int), (0 : Int), ByteArray.empty⟩ : Commit), t_8 := false, t_14 := false })
end law4_chain

namespace ref3_In
structure S where
  n_0 : Int
  low_1 : Int
  high_2 : Int
  t_6 : Bool
abbrev R := Bool
def retv (s : S) : R := (s.t_6)
noncomputable def r0 (s : S) : Option S := some { s with t_6 := false }
noncomputable def r1 (s : S) : Option S := some { s with t_6 := ((decide (s.low_1 ≤ s.n_0)) && (decide (s.n_0 ≤ s.high_2))) }
noncomputable def body : S → Option (Ctl S R) := (seqM (regM r0)
  (seqM (regM r1)
  (retM retv)))
noncomputable def f (a0 : Int) (a1 : Int) (a2 : Int) : Option R := retOf (body { n_0 := a0, low_1 := a1, high_2 := a2, t_6 := false })
end ref3_In

namespace ref3_Fault
structure S where
  code_0 : Int
  index_1 : Int
  t_4 : Fault
abbrev R := Fault
def retv (s : S) : R := (s.t_4)
noncomputable def r0 (s : S) : Option S := some { s with t_4 := (⟨(0 : Int), (0 : Int)⟩ : Fault) }
noncomputable def r1 (s : S) : Option S := some { s with t_4 := (⟨s.code_0, s.index_1⟩ : Fault) }
noncomputable def body : S → Option (Ctl S R) := (seqM (regM r0)
  (seqM (regM r1)
  (retM retv)))
noncomputable def f (a0 : Int) (a1 : Int) : Option R := retOf (body { code_0 := a0, index_1 := a1, t_4 := (⟨(0 : Int), (0 : Int)⟩ : Fault) })
end ref3_Fault

namespace ref3_isDigest
structure S where
  d_0 : Int
  t_2 : Bool
abbrev R := Bool
def retv (s : S) : R := (s.t_2)
noncomputable def r0 (s : S) : Option S := some { s with t_2 := false }
noncomputable def r1 (s : S) : Option S := (ref3_In.f s.d_0 (0 : Int) (2305843009213693950 : Int)).bind fun x1 => some { s with t_2 := x1 }
noncomputable def body : S → Option (Ctl S R) := (seqM (regM r0)
  (seqM (regM r1)
  (retM retv)))
noncomputable def f (a0 : Int) : Option R := retOf (body { d_0 := a0, t_2 := false })
end ref3_isDigest

namespace ref3_HistoryFault
structure S where
  t_0 : (List Commit)
  t_2 : Fault
  t_3 : Int
  t_4 : Commit
  t_5 : Int
  t_8 : Bool
  t_13 : Bool
  t_23 : Bool
  t_30 : Bool
  t_41 : Bool
  t_59 : Bool
  t_77 : Bool
  t_83 : Bool
abbrev R := Fault
def retv (s : S) : R := (s.t_2)
noncomputable def r0 (s : S) : Option S := some { s with t_2 := (⟨(0 : Int), (0 : Int)⟩ : Fault) }
noncomputable def r1 (s : S) : Option S := some { s with t_8 := (decide ((60 : Int) < (s.t_0.length : Int))) }
noncomputable def r2 (s : S) : Option S := (ref3_Fault.f (2 : Int) (-1 : Int)).bind fun x10 => some { s with t_2 := x10 }
noncomputable def r3 (s : S) : Option S := some { s with t_3 := (0 : Int) }
noncomputable def r4 (s : S) : Option S := some { s with t_13 := (decide (s.t_3 < (s.t_0.length : Int))) }
noncomputable def r6 (s : S) : Option S := (idx s.t_0 s.t_3).bind fun x25 => some { s with t_4 := x25 }
noncomputable def r7 (s : S) : Option S := some { s with t_23 := (decide ((3 : Int) < (s.t_4.Parents.length : Int))) }
noncomputable def r8 (s : S) : Option S := (ref3_Fault.f (2 : Int) s.t_3).bind fun x52 => some { s with t_2 := x52 }
noncomputable def r9 (s : S) : Option S := some { s with t_5 := (0 : Int) }
noncomputable def r10 (s : S) : Option S := some { s with t_30 := (decide (s.t_5 < (s.t_4.Parents.length : Int))) }
noncomputable def r12 (s : S) : Option S := (idx s.t_4.Parents s.t_5).bind fun x73 => (ref3_In.f x73 (0 : Int) (w64 (s.t_3 - (1 : Int)))).bind fun x83 => some { s with t_41 := (!x83) }
noncomputable def r13 (s : S) : Option S := (ref3_Fault.f (3 : Int) s.t_3).bind fun x88 => some { s with t_2 := x88 }
noncomputable def r14 (s : S) : Option S := ((if (decide ((0 : Int) < s.t_5)) = true then (idx s.t_4.Parents s.t_5).bind fun x103 => (idx s.t_4.Parents (w64 (s.t_5 - (1 : Int)))).bind fun x116 => some (decide (x103 ≤ x116)) else some false)).bind fun x126 => some { s with t_59 := x126 }
noncomputable def r15 (s : S) : Option S := (ref3_Fault.f (5 : Int) s.t_3).bind fun x128 => some { s with t_2 := x128 }
noncomputable def r11 (s : S) : Option S := some { s with t_5 := w64 (s.t_5 + (1 : Int)) }
noncomputable def r16 (s : S) : Option S := (ref3_In.f s.t_4.Author (0 : Int) (7 : Int)).bind fun x138 => ((if (!x138) = true then some true else (ref3_In.f s.t_4.Time (0 : Int) (100000 : Int)).bind fun x145 => some (!x145))).bind fun x150 => ((if x150 = true then some true else (ref3_isDigest.f s.t_4.Tree).bind fun x157 => some (!x157))).bind fun x162 => some { s with t_77 := x162 }
noncomputable def r17 (s : S) : Option S := (ref3_Fault.f (3 : Int) s.t_3).bind fun x167 => some { s with t_2 := x167 }
noncomputable def r18 (s : S) : Option S := some { s with t_83 := (decide ((80 : Int) < (s.t_4.Message.size : Int))) }
noncomputable def r19 (s : S) : Option S := (ref3_Fault.f (10 : Int) s.t_3).bind fun x177 => some { s with t_2 := x177 }
noncomputable def r5 (s : S) : Option S := some { s with t_3 := w64 (s.t_3 + (1 : Int)) }
noncomputable def r20 (s : S) : Option S := some { s with t_2 := (⟨(0 : Int), (0 : Int)⟩ : Fault) }
noncomputable def body : S → Option (Ctl S R) := (seqM (regM r0)
  (seqM (seqM (regM r1)
  (condM (fun s => s.t_8) (seqM (regM r2)
  (retM retv))
  skipM))
  (seqM (seqM (regM r3)
  (blockM 0 (iterM (seqM (seqM (regM r4)
  (condM (fun s => s.t_13) skipM
  (extM 0)))
  (seqM (blockM 1 (seqM (regM r6)
  (seqM (seqM (regM r7)
  (condM (fun s => s.t_23) (seqM (regM r8)
  (retM retv))
  skipM))
  (seqM (seqM (regM r9)
  (blockM 2 (iterM (seqM (seqM (regM r10)
  (condM (fun s => s.t_30) skipM
  (extM 2)))
  (seqM (blockM 3 (seqM (seqM (regM r12)
  (condM (fun s => s.t_41) (seqM (regM r13)
  (retM retv))
  skipM))
  (seqM (regM r14)
  (condM (fun s => s.t_59) (seqM (regM r15)
  (retM retv))
  skipM))))
  (regM r11))))))
  (seqM (seqM (regM r16)
  (condM (fun s => s.t_77) (seqM (regM r17)
  (retM retv))
  skipM))
  (seqM (regM r18)
  (condM (fun s => s.t_83) (seqM (regM r19)
  (retM retv))
  skipM)))))))
  (regM r5))))))
  (seqM (regM r20)
  (retM retv)))))
noncomputable def f (a0 : (List Commit)) : Option R := retOf (body { t_0 := a0, t_2 := (⟨(0 : Int), (0 : Int)⟩ : Fault), t_3 := (0 : Int), t_4 := (⟨[], (0 : Int), (0 : Int), (0 : Int), ByteArray.empty⟩ : Commit), t_5 := (0 : Int), t_8 := false, t_13 := false, t_23 := false, t_30 := false, t_41 := false, t_59 := false, t_77 := false, t_83 := false })
end ref3_HistoryFault

namespace slices_Reverse_int_int
structure S where
  s_0 : (List Int)
  i_2 : Int
  j_3 : Int
  t_9 : Bool
abbrev R := (List Int)
def retv (s : S) : R := (s.s_0)
noncomputable def r0 (s : S) : Option S := some { s with i_2 := (0 : Int), j_3 := w64 ((s.s_0.length : Int) - (1 : Int)) }
noncomputable def r1 (s : S) : Option S := some { s with t_9 := (decide (s.i_2 < s.j_3)) }
noncomputable def r3 (s : S) : Option S := (idx s.s_0 s.j_3).bind fun x5 => (idx s.s_0 s.i_2).bind fun x11 => (idx s.s_0 s.i_2).bind fun x17 => (idx (setL s.s_0 s.i_2 x5) s.j_3).bind fun x26 => some { s with s_0 := setL (setL s.s_0 s.i_2 x5) s.j_3 x11 }
noncomputable def r2 (s : S) : Option S := some { s with i_2 := w64 (s.i_2 + (1 : Int)), j_3 := w64 (s.j_3 - (1 : Int)) }
noncomputable def body : S → Option (Ctl S R) := (seqM (regM r0)
  (blockM 0 (iterM (seqM (seqM (regM r1)
  (condM (fun s => s.t_9) skipM
  (extM 0)))
  (seqM (blockM 1 (regM r3))
  (regM r2))))))
noncomputable def f (a0 : (List Int)) : Option R := outOf retv (body { s_0 := a0, i_2 := (0 : Int), j_3 := (0 : Int), t_9 := false })
end slices_Reverse_int_int

namespace shallow_reach
structure S where
  t_0 : (List Commit)
  t_1 : (List Int)
  t_2 : Int
  t_6 : (List Int)
  t_7 : (List Int)
  t_9 : Int
  t_10 : (List Int)
  t_11 : Int
  t_12 : Commit
  t_14 : Int
  t_18 : (List Int)
  t_19 : Int
  t_20 : Int
  t_21 : Bool
  t_31 : (List (Int × Commit))
  t_32 : Int
  t_33 : Commit
  t_38 : Bool
  t_44 : (List Int)
  t_45 : Int
  t_46 : Int
  t_47 : Bool
abbrev R := (List Int)
def retv (s : S) : R := (s.t_6)
noncomputable def r0 (s : S) : Option S := some { s with t_6 := [] }
noncomputable def r1 (s : S) : Option S := (mkL 8 (0 : Int) (s.t_0.length : Int)).bind fun x6 => some { s with t_7 := x6 }
noncomputable def r2 (s : S) : Option S := some { s with t_18 := s.t_1, t_19 := (s.t_1.length : Int), t_20 := (0 : Int) }
noncomputable def r3 (s : S) : Option S := some { s with t_21 := (decide (s.t_20 < s.t_19)) }
noncomputable def r4 (s : S) : Option S := (idx s.t_18 s.t_20).bind fun x23 => some { s with t_9 := x23 }
noncomputable def r5 (s : S) : Option S := (idx s.t_7 s.t_9).bind fun x33 => some { s with t_7 := setL s.t_7 s.t_9 (w64 (s.t_2 + (1 : Int))) }
noncomputable def r6 (s : S) : Option S := some { s with t_20 := w64 (s.t_20 + (1 : Int)) }
noncomputable def r7 (s : S) : Option S := some { s with t_10 := ([] : (List Int)) }
noncomputable def r8 (s : S) : Option S := (Backward.f s.t_0).bind fun x46 => some { s with t_31 := x46 }
noncomputable def r9 (s : S) : Option S := some { s with t_11 := s.t_32 }
noncomputable def r10 (s : S) : Option S := some { s with t_12 := s.t_33 }
noncomputable def r11 (s : S) : Option S := (idx s.t_7 s.t_11).bind fun x60 => some { s with t_38 := (decide ((0 : Int) < x60)) }
noncomputable def r12 (s : S) : Option S := (appL 8 s.t_10 [s.t_11]).bind fun x71 => some { s with t_10 := x71 }
noncomputable def r13 (s : S) : Option S := some { s with t_44 := s.t_12.Parents, t_45 := (s.t_12.Parents.length : Int), t_46 := (0 : Int) }
noncomputable def r14 (s : S) : Option S := some { s with t_47 := (decide (s.t_46 < s.t_45)) }
noncomputable def r15 (s : S) : Option S := (idx s.t_44 s.t_46).bind fun x88 => some { s with t_14 := x88 }
noncomputable def r16 (s : S) : Option S := (idx s.t_7 s.t_14).bind fun x98 => (idx s.t_7 s.t_11).bind fun x104 => (idx s.t_7 s.t_14).bind fun x110 => some { s with t_7 := setL s.t_7 s.t_14 (max x98 (w64 (x104 - (1 : Int)))) }
noncomputable def r17 (s : S) : Option S := some { s with t_46 := w64 (s.t_46 + (1 : Int)) }
noncomputable def r18 (s : S) : Option S := (slices_Reverse_int_int.f s.t_10).bind fun x119 => some { s with t_10 := x119 }
noncomputable def r19 (s : S) : Option S := some { s with t_6 := s.t_10 }
noncomputable def body : S → Option (Ctl S R) := (seqM (regM r0)
  (seqM (regM r1)
  (seqM (seqM (regM r2)
  (blockM 0 (iterM (seqM (regM r3)
  (seqM (condM (fun s => s.t_21) skipM
  (extM 0))
  (seqM (blockM 1 (seqM (regM r4)
  (regM r5)))
  (regM r6)))))))
  (seqM (regM r7)
  (seqM (seqM (regM r8)
  (blockM 2 (rangeM (fun s => s.t_31) (fun it s => { s with t_32 := it.1, t_33 := it.2 }) (seqM (regM r9)
  (regM r10)) (blockM 3 (seqM (seqM (regM r11)
  (condM (fun s => s.t_38) (regM r12)
  skipM))
  (seqM (regM r13)
  (blockM 4 (iterM (seqM (regM r14)
  (seqM (condM (fun s => s.t_47) skipM
  (extM 4))
  (seqM (blockM 5 (seqM (regM r15)
  (regM r16)))
  (regM r17))))))))))))
  (seqM (regM r18)
  (seqM (regM r19)
  (retM retv))))))))
noncomputable def f (a0 : (List Commit)) (a1 : (List Int)) (a2 : Int) : Option R := retOf (body { t_0 := a0, t_1 := a1, t_2 := a2, t_6 := [], t_7 := [], t_9 := (0 : Int), t_10 := [], t_11 := (0 : Int), t_12 := (⟨[], (0 : Int), (0 : Int), (0 : Int), ByteArray.empty⟩ : Commit), t_14 := (0 : Int), t_18 := [], t_19 := (0 : Int), t_20 := (0 : Int), t_21 := false, t_31 := [], t_32 := (0 : Int), t_33 := (⟨[], (0 : Int), (0 : Int), (0 : Int), ByteArray.empty⟩ : Commit), t_38 := false, t_44 := [], t_45 := (0 : Int), t_46 := (0 : Int), t_47 := false })
end shallow_reach

namespace shallow_Cut
structure S where
  commits_0 : (List Commit)
  heads_1 : (List Int)
  depth_2 : Int
  t_6 : (List Int)
  t_7 : Fault
  f_8 : Fault
  i_9 : Int
  n_10 : Int
  t_15 : Bool
  t_19 : Bool
  t_21 : (List Int)
  t_22 : Int
  t_23 : Int
  t_24 : Bool
  t_35 : Bool
  t_44 : Bool
abbrev R := ((List Int) × Fault)
def retv (s : S) : R := (s.t_6, s.t_7)
noncomputable def r0 (s : S) : Option S := some { s with t_6 := [], t_7 := (⟨(0 : Int), (0 : Int)⟩ : Fault) }
noncomputable def r1 (s : S) : Option S := (history_Validate.f s.commits_0).bind fun x5 => some { s with f_8 := x5 }
noncomputable def r2 (s : S) : Option S := some { s with t_15 := (!decide (s.f_8 = (⟨(0 : Int), (0 : Int)⟩ : Fault))) }
noncomputable def r3 (s : S) : Option S := some { s with t_6 := [], t_7 := s.f_8 }
noncomputable def r4 (s : S) : Option S := some { s with t_19 := (decide ((60 : Int) < (s.heads_1.length : Int))) }
noncomputable def r5 (s : S) : Option S := some { s with t_6 := [], t_7 := (⟨(2 : Int), (-1 : Int)⟩ : Fault) }
noncomputable def r6 (s : S) : Option S := some { s with t_21 := s.heads_1, t_22 := (s.heads_1.length : Int), t_23 := (0 : Int) }
noncomputable def r7 (s : S) : Option S := some { s with t_24 := (decide (s.t_23 < s.t_22)) }
noncomputable def r8 (s : S) : Option S := (idx s.t_21 s.t_23).bind fun x41 => some { s with i_9 := s.t_23, n_10 := x41 }
noncomputable def r9 (s : S) : Option S := some { s with t_35 := ((decide (s.n_10 < (0 : Int))) || (decide ((s.commits_0.length : Int) ≤ s.n_10))) }
noncomputable def r10 (s : S) : Option S := some { s with t_6 := [], t_7 := (⟨(6 : Int), s.i_9⟩ : Fault) }
noncomputable def r11 (s : S) : Option S := some { s with t_23 := w64 (s.t_23 + (1 : Int)) }
noncomputable def r12 (s : S) : Option S := some { s with t_44 := ((decide (s.depth_2 < (0 : Int))) || (decide ((60 : Int) < s.depth_2))) }
noncomputable def r13 (s : S) : Option S := some { s with t_6 := [], t_7 := (⟨(3 : Int), (-2 : Int)⟩ : Fault) }
noncomputable def r14 (s : S) : Option S := (shallow_reach.f s.commits_0 s.heads_1 (w64 (s.depth_2 - (1 : Int)))).bind fun x70 => some { s with t_6 := x70, t_7 := (⟨(0 : Int), (0 : Int)⟩ : Fault) }
noncomputable def body : S → Option (Ctl S R) := (seqM (regM r0)
  (seqM (seqM (regM r1)
  (seqM (regM r2)
  (condM (fun s => s.t_15) (seqM (regM r3)
  (retM retv))
  skipM)))
  (seqM (seqM (regM r4)
  (condM (fun s => s.t_19) (seqM (regM r5)
  (retM retv))
  skipM))
  (seqM (seqM (regM r6)
  (blockM 0 (iterM (seqM (regM r7)
  (seqM (condM (fun s => s.t_24) skipM
  (extM 0))
  (seqM (blockM 1 (seqM (regM r8)
  (seqM (regM r9)
  (condM (fun s => s.t_35) (seqM (regM r10)
  (retM retv))
  skipM))))
  (regM r11)))))))
  (seqM (seqM (regM r12)
  (condM (fun s => s.t_44) (seqM (regM r13)
  (retM retv))
  skipM))
  (seqM (regM r14)
  (retM retv)))))))
noncomputable def f (a0 : (List Commit)) (a1 : (List Int)) (a2 : Int) : Option R := retOf (body { commits_0 := a0, heads_1 := a1, depth_2 := a2, t_6 := [], t_7 := (⟨(0 : Int), (0 : Int)⟩ : Fault), f_8 := (⟨(0 : Int), (0 : Int)⟩ : Fault), i_9 := (0 : Int), n_10 := (0 : Int), t_15 := false, t_19 := false, t_21 := [], t_22 := (0 : Int), t_23 := (0 : Int), t_24 := false, t_35 := false, t_44 := false })
end shallow_Cut

namespace shallow_check
structure S where
  commits_0 : (List Commit)
  numbers_1 : (List Int)
  t_4 : Fault
  f_5 : Fault
  i_6 : Int
  n_7 : Int
  t_12 : Bool
  t_14 : (List Int)
  t_15 : Int
  t_16 : Int
  t_17 : Bool
  t_28 : Bool
  t_41 : Bool
abbrev R := Fault
def retv (s : S) : R := (s.t_4)
noncomputable def r0 (s : S) : Option S := some { s with t_4 := (⟨(0 : Int), (0 : Int)⟩ : Fault) }
noncomputable def r1 (s : S) : Option S := (history_Validate.f s.commits_0).bind fun x5 => some { s with f_5 := x5 }
noncomputable def r2 (s : S) : Option S := some { s with t_12 := (!decide (s.f_5 = (⟨(0 : Int), (0 : Int)⟩ : Fault))) }
noncomputable def r3 (s : S) : Option S := some { s with t_4 := s.f_5 }
noncomputable def r4 (s : S) : Option S := some { s with t_14 := s.numbers_1, t_15 := (s.numbers_1.length : Int), t_16 := (0 : Int) }
noncomputable def r5 (s : S) : Option S := some { s with t_17 := (decide (s.t_16 < s.t_15)) }
noncomputable def r6 (s : S) : Option S := (idx s.t_14 s.t_16).bind fun x32 => some { s with i_6 := s.t_16, n_7 := x32 }
noncomputable def r7 (s : S) : Option S := some { s with t_28 := ((decide (s.n_7 < (0 : Int))) || (decide ((s.commits_0.length : Int) ≤ s.n_7))) }
noncomputable def r8 (s : S) : Option S := some { s with t_4 := (⟨(6 : Int), s.i_6⟩ : Fault) }
noncomputable def r9 (s : S) : Option S := ((if (decide ((0 : Int) < s.i_6)) = true then (idx s.numbers_1 (w64 (s.i_6 - (1 : Int)))).bind fun x56 => some (decide (s.n_7 ≤ x56)) else some false)).bind fun x66 => some { s with t_41 := x66 }
noncomputable def r10 (s : S) : Option S := some { s with t_4 := (⟨(5 : Int), s.i_6⟩ : Fault) }
noncomputable def r11 (s : S) : Option S := some { s with t_16 := w64 (s.t_16 + (1 : Int)) }
noncomputable def r12 (s : S) : Option S := some { s with t_4 := (⟨(0 : Int), (0 : Int)⟩ : Fault) }
noncomputable def body : S → Option (Ctl S R) := (seqM (regM r0)
  (seqM (seqM (regM r1)
  (seqM (regM r2)
  (condM (fun s => s.t_12) (seqM (regM r3)
  (retM retv))
  skipM)))
  (seqM (seqM (regM r4)
  (blockM 0 (iterM (seqM (regM r5)
  (seqM (condM (fun s => s.t_17) skipM
  (extM 0))
  (seqM (blockM 1 (seqM (regM r6)
  (seqM (seqM (regM r7)
  (condM (fun s => s.t_28) (seqM (regM r8)
  (retM retv))
  skipM))
  (seqM (regM r9)
  (condM (fun s => s.t_41) (seqM (regM r10)
  (retM retv))
  skipM)))))
  (regM r11)))))))
  (seqM (regM r12)
  (retM retv)))))
noncomputable def f (a0 : (List Commit)) (a1 : (List Int)) : Option R := retOf (body { commits_0 := a0, numbers_1 := a1, t_4 := (⟨(0 : Int), (0 : Int)⟩ : Fault), f_5 := (⟨(0 : Int), (0 : Int)⟩ : Fault), i_6 := (0 : Int), n_7 := (0 : Int), t_12 := false, t_14 := [], t_15 := (0 : Int), t_16 := (0 : Int), t_17 := false, t_28 := false, t_41 := false })
end shallow_check

namespace cmp_isNaN_int
structure S where
  x_0 : Int
  t_2 : Bool
abbrev R := Bool
def retv (s : S) : R := (s.t_2)
noncomputable def r0 (s : S) : Option S := some { s with t_2 := false }
noncomputable def r1 (s : S) : Option S := some { s with t_2 := (!decide (s.x_0 = s.x_0)) }
noncomputable def body : S → Option (Ctl S R) := (seqM (regM r0)
  (seqM (regM r1)
  (retM retv)))
noncomputable def f (a0 : Int) : Option R := retOf (body { x_0 := a0, t_2 := false })
end cmp_isNaN_int

namespace cmp_Less_int
structure S where
  x_0 : Int
  y_1 : Int
  t_4 : Bool
abbrev R := Bool
def retv (s : S) : R := (s.t_4)
noncomputable def r0 (s : S) : Option S := some { s with t_4 := false }
noncomputable def r1 (s : S) : Option S := (cmp_isNaN_int.f s.x_0).bind fun x1 => ((if x1 = true then (cmp_isNaN_int.f s.y_1).bind fun x8 => some (!x8) else some false)).bind fun x13 => some { s with t_4 := (x13 || (decide (s.x_0 < s.y_1))) }
noncomputable def body : S → Option (Ctl S R) := (seqM (regM r0)
  (seqM (regM r1)
  (retM retv)))
noncomputable def f (a0 : Int) (a1 : Int) : Option R := retOf (body { x_0 := a0, y_1 := a1, t_4 := false })
end cmp_Less_int

namespace slices_isNaN_int
structure S where
  x_0 : Int
  t_2 : Bool
abbrev R := Bool
def retv (s : S) : R := (s.t_2)
noncomputable def r0 (s : S) : Option S := some { s with t_2 := false }
noncomputable def r1 (s : S) : Option S := some { s with t_2 := (!decide (s.x_0 = s.x_0)) }
noncomputable def body : S → Option (Ctl S R) := (seqM (regM r0)
  (seqM (regM r1)
  (retM retv)))
noncomputable def f (a0 : Int) : Option R := retOf (body { x_0 := a0, t_2 := false })
end slices_isNaN_int

namespace slices_BinarySearch_int_int
structure S where
  x_0 : (List Int)
  target_1 : Int
  t_4 : Int
  t_5 : Bool
  n_6 : Int
  i_7 : Int
  j_8 : Int
  h_9 : Int
  t_15 : Bool
  t_27 : Bool
abbrev R := (Int × Bool)
def retv (s : S) : R := (s.t_4, s.t_5)
noncomputable def r0 (s : S) : Option S := some { s with t_4 := (0 : Int), t_5 := false }
noncomputable def r1 (s : S) : Option S := some { s with n_6 := (s.x_0.length : Int) }
noncomputable def r2 (s : S) : Option S := some { s with i_7 := (0 : Int), j_8 := s.n_6 }
noncomputable def r3 (s : S) : Option S := some { s with t_15 := (decide (s.i_7 < s.j_8)) }
noncomputable def r4 (s : S) : Option S := some { s with h_9 := w64 (shrV .u64 (IntKind.u64.wrap (w64 (s.i_7 + s.j_8))) (1 : Int)) }
noncomputable def r5 (s : S) : Option S := (idx s.x_0 s.h_9).bind fun x6 => (cmp_Less_int.f x6 s.target_1).bind fun x16 => some { s with t_27 := x16 }
noncomputable def r6 (s : S) : Option S := some { s with i_7 := w64 (s.h_9 + (1 : Int)) }
noncomputable def r7 (s : S) : Option S := some { s with j_8 := s.h_9 }
noncomputable def r8 (s : S) : Option S := ((if (decide (s.i_7 < s.n_6)) = true then (idx s.x_0 s.i_7).bind fun x23 => ((if (decide (x23 = s.target_1)) = true then some true else (idx s.x_0 s.i_7).bind fun x35 => (slices_isNaN_int.f x35).bind fun x45 => ((if x45 = true then (slices_isNaN_int.f s.target_1).bind fun x52 => some x52 else some false)).bind fun x57 => some x57)).bind fun x62 => some x62 else some false)).bind fun x67 => some { s with t_4 := s.i_7, t_5 := x67 }
noncomputable def body : S → Option (Ctl S R) := (seqM (regM r0)
  (seqM (regM r1)
  (seqM (regM r2)
  (seqM (blockM 0 (iterM (seqM (seqM (regM r3)
  (condM (fun s => s.t_15) skipM
  (extM 0)))
  (blockM 1 (seqM (regM r4)
  (seqM (regM r5)
  (condM (fun s => s.t_27) (regM r6)
  (regM r7))))))))
  (seqM (regM r8)
  (retM retv))))))
noncomputable def f (a0 : (List Int)) (a1 : Int) : Option R := retOf (body { x_0 := a0, target_1 := a1, t_4 := (0 : Int), t_5 := false, n_6 := (0 : Int), i_7 := (0 : Int), j_8 := (0 : Int), h_9 := (0 : Int), t_15 := false, t_27 := false })
end slices_BinarySearch_int_int

namespace shallow_Boundary
structure S where
  commits_0 : (List Commit)
  numbers_1 : (List Int)
  t_4 : (List Int)
  t_5 : Fault
  f_6 : Fault
  out_7 : (List Int)
  n_9 : Int
  p_11 : Int
  there_13 : Bool
  t_19 : Bool
  t_21 : (List Int)
  t_22 : Int
  t_23 : Int
  t_24 : Bool
  t_31 : (List Int)
  t_32 : Int
  t_33 : Int
  t_34 : Bool
  t_44 : Bool
abbrev R := ((List Int) × Fault)
def retv (s : S) : R := (s.t_4, s.t_5)
noncomputable def r0 (s : S) : Option S := some { s with t_4 := [], t_5 := (⟨(0 : Int), (0 : Int)⟩ : Fault) }
noncomputable def r1 (s : S) : Option S := (shallow_check.f s.commits_0 s.numbers_1).bind fun x5 => some { s with f_6 := x5 }
noncomputable def r2 (s : S) : Option S := some { s with t_19 := (!decide (s.f_6 = (⟨(0 : Int), (0 : Int)⟩ : Fault))) }
noncomputable def r3 (s : S) : Option S := some { s with t_4 := [], t_5 := s.f_6 }
noncomputable def r4 (s : S) : Option S := some { s with out_7 := [] }
noncomputable def r5 (s : S) : Option S := some { s with t_21 := s.numbers_1, t_22 := (s.numbers_1.length : Int), t_23 := (0 : Int) }
noncomputable def r6 (s : S) : Option S := some { s with t_24 := (decide (s.t_23 < s.t_22)) }
noncomputable def r7 (s : S) : Option S := (idx s.t_21 s.t_23).bind fun x32 => some { s with n_9 := x32 }
noncomputable def r8 (s : S) : Option S := (idx s.commits_0 s.n_9).bind fun x42 => some { s with t_31 := x42.Parents, t_32 := (x42.Parents.length : Int), t_33 := (0 : Int) }
noncomputable def r9 (s : S) : Option S := some { s with t_34 := (decide (s.t_33 < s.t_32)) }
noncomputable def r10 (s : S) : Option S := (idx s.t_31 s.t_33).bind fun x60 => some { s with p_11 := x60 }
noncomputable def r11 (s : S) : Option S := (slices_BinarySearch_int_int.f s.numbers_1 s.p_11).bind fun x70 => some { s with there_13 := x70.2 }
noncomputable def r12 (s : S) : Option S := some { s with t_44 := (!s.there_13) }
noncomputable def r13 (s : S) : Option S := (appL 8 s.out_7 [s.n_9]).bind fun x80 => some { s with out_7 := x80 }
noncomputable def r14 (s : S) : Option S := some { s with t_33 := w64 (s.t_33 + (1 : Int)) }
noncomputable def r15 (s : S) : Option S := some { s with t_23 := w64 (s.t_23 + (1 : Int)) }
noncomputable def r16 (s : S) : Option S := some { s with t_4 := s.out_7, t_5 := (⟨(0 : Int), (0 : Int)⟩ : Fault) }
noncomputable def body : S → Option (Ctl S R) := (seqM (regM r0)
  (seqM (seqM (regM r1)
  (seqM (regM r2)
  (condM (fun s => s.t_19) (seqM (regM r3)
  (retM retv))
  skipM)))
  (seqM (regM r4)
  (seqM (seqM (regM r5)
  (blockM 0 (iterM (seqM (regM r6)
  (seqM (condM (fun s => s.t_24) skipM
  (extM 0))
  (seqM (blockM 1 (seqM (regM r7)
  (seqM (regM r8)
  (blockM 2 (iterM (seqM (regM r9)
  (seqM (condM (fun s => s.t_34) skipM
  (extM 2))
  (seqM (blockM 3 (seqM (regM r10)
  (seqM (regM r11)
  (seqM (regM r12)
  (condM (fun s => s.t_44) (seqM (regM r13)
  (extM 2))
  skipM)))))
  (regM r14)))))))))
  (regM r15)))))))
  (seqM (regM r16)
  (retM retv))))))
noncomputable def f (a0 : (List Commit)) (a1 : (List Int)) : Option R := retOf (body { commits_0 := a0, numbers_1 := a1, t_4 := [], t_5 := (⟨(0 : Int), (0 : Int)⟩ : Fault), f_6 := (⟨(0 : Int), (0 : Int)⟩ : Fault), out_7 := [], n_9 := (0 : Int), p_11 := (0 : Int), there_13 := false, t_19 := false, t_21 := [], t_22 := (0 : Int), t_23 := (0 : Int), t_24 := false, t_31 := [], t_32 := (0 : Int), t_33 := (0 : Int), t_34 := false, t_44 := false })
end shallow_Boundary

namespace shallow_Deepen
structure S where
  commits_0 : (List Commit)
  numbers_1 : (List Int)
  by_2 : Int
  t_6 : (List Int)
  t_7 : Fault
  f_8 : Fault
  t_14 : Bool
  t_21 : Bool
abbrev R := ((List Int) × Fault)
def retv (s : S) : R := (s.t_6, s.t_7)
noncomputable def r0 (s : S) : Option S := some { s with t_6 := [], t_7 := (⟨(0 : Int), (0 : Int)⟩ : Fault) }
noncomputable def r1 (s : S) : Option S := (shallow_check.f s.commits_0 s.numbers_1).bind fun x5 => some { s with f_8 := x5 }
noncomputable def r2 (s : S) : Option S := some { s with t_14 := (!decide (s.f_8 = (⟨(0 : Int), (0 : Int)⟩ : Fault))) }
noncomputable def r3 (s : S) : Option S := some { s with t_6 := [], t_7 := s.f_8 }
noncomputable def r4 (s : S) : Option S := some { s with t_21 := ((decide (s.by_2 < (0 : Int))) || (decide ((60 : Int) < s.by_2))) }
noncomputable def r5 (s : S) : Option S := some { s with t_6 := [], t_7 := (⟨(3 : Int), (-2 : Int)⟩ : Fault) }
noncomputable def r6 (s : S) : Option S := (shallow_reach.f s.commits_0 s.numbers_1 s.by_2).bind fun x34 => some { s with t_6 := x34, t_7 := (⟨(0 : Int), (0 : Int)⟩ : Fault) }
noncomputable def body : S → Option (Ctl S R) := (seqM (regM r0)
  (seqM (seqM (regM r1)
  (seqM (regM r2)
  (condM (fun s => s.t_14) (seqM (regM r3)
  (retM retv))
  skipM)))
  (seqM (seqM (regM r4)
  (condM (fun s => s.t_21) (seqM (regM r5)
  (retM retv))
  skipM))
  (seqM (regM r6)
  (retM retv)))))
noncomputable def f (a0 : (List Commit)) (a1 : (List Int)) (a2 : Int) : Option R := retOf (body { commits_0 := a0, numbers_1 := a1, by_2 := a2, t_6 := [], t_7 := (⟨(0 : Int), (0 : Int)⟩ : Fault), f_8 := (⟨(0 : Int), (0 : Int)⟩ : Fault), t_14 := false, t_21 := false })
end shallow_Deepen

namespace shallow_Extract
structure S where
  commits_0 : (List Commit)
  numbers_1 : (List Int)
  t_4 : (List Commit)
  t_5 : Fault
  f_6 : Fault
  out_7 : (List Commit)
  n_9 : Int
  c_10 : Commit
  parents_11 : (List Int)
  p_13 : Int
  i_14 : Int
  there_15 : Bool
  t_21 : Bool
  t_23 : (List Int)
  t_24 : Int
  t_25 : Int
  t_26 : Bool
  t_34 : (List Int)
  t_35 : Int
  t_36 : Int
  t_37 : Bool
  t_46 : Bool
abbrev R := ((List Commit) × Fault)
def retv (s : S) : R := (s.t_4, s.t_5)
noncomputable def r0 (s : S) : Option S := some { s with t_4 := [], t_5 := (⟨(0 : Int), (0 : Int)⟩ : Fault) }
noncomputable def r1 (s : S) : Option S := (shallow_check.f s.commits_0 s.numbers_1).bind fun x5 => some { s with f_6 := x5 }
noncomputable def r2 (s : S) : Option S := some { s with t_21 := (!decide (s.f_6 = (⟨(0 : Int), (0 : Int)⟩ : Fault))) }
noncomputable def r3 (s : S) : Option S := some { s with t_4 := [], t_5 := s.f_6 }
noncomputable def r4 (s : S) : Option S := some { s with out_7 := [] }
noncomputable def r5 (s : S) : Option S := some { s with t_23 := s.numbers_1, t_24 := (s.numbers_1.length : Int), t_25 := (0 : Int) }
noncomputable def r6 (s : S) : Option S := some { s with t_26 := (decide (s.t_25 < s.t_24)) }
noncomputable def r7 (s : S) : Option S := (idx s.t_23 s.t_25).bind fun x32 => some { s with n_9 := x32 }
noncomputable def r8 (s : S) : Option S := (idx s.commits_0 s.n_9).bind fun x42 => some { s with c_10 := x42 }
noncomputable def r9 (s : S) : Option S := some { s with parents_11 := [] }
noncomputable def r10 (s : S) : Option S := some { s with t_34 := s.c_10.Parents, t_35 := (s.c_10.Parents.length : Int), t_36 := (0 : Int) }
noncomputable def r11 (s : S) : Option S := some { s with t_37 := (decide (s.t_36 < s.t_35)) }
noncomputable def r12 (s : S) : Option S := (idx s.t_34 s.t_36).bind fun x69 => some { s with p_13 := x69 }
noncomputable def r13 (s : S) : Option S := (slices_BinarySearch_int_int.f s.numbers_1 s.p_13).bind fun x79 => some { s with i_14 := x79.1, there_15 := x79.2 }
noncomputable def r14 (s : S) : Option S := some { s with t_46 := s.there_15 }
noncomputable def r15 (s : S) : Option S := (appL 8 s.parents_11 [s.i_14]).bind fun x89 => some { s with parents_11 := x89 }
noncomputable def r16 (s : S) : Option S := some { s with t_36 := w64 (s.t_36 + (1 : Int)) }
noncomputable def r17 (s : S) : Option S := some { s with c_10 := { s.c_10 with Parents := s.parents_11 } }
noncomputable def r18 (s : S) : Option S := (appL 64 s.out_7 [s.c_10]).bind fun x108 => some { s with out_7 := x108 }
noncomputable def r19 (s : S) : Option S := some { s with t_25 := w64 (s.t_25 + (1 : Int)) }
noncomputable def r20 (s : S) : Option S := some { s with t_4 := s.out_7, t_5 := (⟨(0 : Int), (0 : Int)⟩ : Fault) }
noncomputable def body : S → Option (Ctl S R) := (seqM (regM r0)
  (seqM (seqM (regM r1)
  (seqM (regM r2)
  (condM (fun s => s.t_21) (seqM (regM r3)
  (retM retv))
  skipM)))
  (seqM (regM r4)
  (seqM (seqM (regM r5)
  (blockM 0 (iterM (seqM (regM r6)
  (seqM (condM (fun s => s.t_26) skipM
  (extM 0))
  (seqM (blockM 1 (seqM (regM r7)
  (seqM (regM r8)
  (seqM (regM r9)
  (seqM (seqM (regM r10)
  (blockM 2 (iterM (seqM (regM r11)
  (seqM (condM (fun s => s.t_37) skipM
  (extM 2))
  (seqM (blockM 3 (seqM (regM r12)
  (seqM (regM r13)
  (seqM (regM r14)
  (condM (fun s => s.t_46) (regM r15)
  skipM)))))
  (regM r16)))))))
  (seqM (regM r17)
  (regM r18)))))))
  (regM r19)))))))
  (seqM (regM r20)
  (retM retv))))))
noncomputable def f (a0 : (List Commit)) (a1 : (List Int)) : Option R := retOf (body { commits_0 := a0, numbers_1 := a1, t_4 := [], t_5 := (⟨(0 : Int), (0 : Int)⟩ : Fault), f_6 := (⟨(0 : Int), (0 : Int)⟩ : Fault), out_7 := [], n_9 := (0 : Int), c_10 := (⟨[], (0 : Int), (0 : Int), (0 : Int), ByteArray.empty⟩ : Commit), parents_11 := [], p_13 := (0 : Int), i_14 := (0 : Int), there_15 := false, t_21 := false, t_23 := [], t_24 := (0 : Int), t_25 := (0 : Int), t_26 := false, t_34 := [], t_35 := (0 : Int), t_36 := (0 : Int), t_37 := false, t_46 := false })
end shallow_Extract

namespace law4_shallowExample
structure S where
  t_0 : Bool
  t_1 : (List Int)
  t_2 : Fault
  t_3 : (List Int)
  t_4 : Fault
  t_5 : (List Int)
  t_6 : Fault
  t_7 : (List Commit)
  t_8 : Fault
abbrev R := Bool
def retv (s : S) : R := (s.t_0)
noncomputable def r0 (s : S) : Option S := some { s with t_0 := false }
noncomputable def r1 (s : S) : Option S := (law4_chain.f (3 : Int)).bind fun x1 => (shallow_Cut.f x1 [(2 : Int)] (2 : Int)).bind fun x14 => some { s with t_1 := x14.1, t_2 := x14.2 }
noncomputable def r2 (s : S) : Option S := (law4_chain.f (3 : Int)).bind fun x34 => (shallow_Boundary.f x34 [(1 : Int), (2 : Int)]).bind fun x47 => some { s with t_3 := x47.1, t_4 := x47.2 }
noncomputable def r3 (s : S) : Option S := (law4_chain.f (3 : Int)).bind fun x67 => (shallow_Deepen.f x67 [(1 : Int), (2 : Int)] (1 : Int)).bind fun x80 => some { s with t_5 := x80.1, t_6 := x80.2 }
noncomputable def r4 (s : S) : Option S := (law4_chain.f (3 : Int)).bind fun x100 => (shallow_Extract.f x100 [(1 : Int), (2 : Int)]).bind fun x115 => some { s with t_7 := x115.1, t_8 := x115.2 }
noncomputable def r5 (s : S) : Option S := ((if ((((decide (s.t_2.Code = (0 : Int))) && (decide (s.t_4.Code = (0 : Int)))) && (decide (s.t_6.Code = (0 : Int)))) && (decide (s.t_8.Code = (0 : Int)))) = true then (ref3_Ints.f s.t_1 [(1 : Int), (2 : Int)]).bind fun x150 => some x150 else some false)).bind fun x155 => ((if x155 = true then (ref3_Ints.f s.t_3 [(1 : Int)]).bind fun x167 => some x167 else some false)).bind fun x172 => ((if x172 = true then (ref3_Ints.f s.t_5 [(0 : Int), (1 : Int), (2 : Int)]).bind fun x184 => some x184 else some false)).bind fun x189 => ((if (x189 && (decide ((s.t_7.length : Int) = (2 : Int)))) = true then (idx s.t_7 (0 : Int)).bind fun x204 => some (decide ((x204.Parents.length : Int) = (0 : Int))) else some false)).bind fun x222 => ((if x222 = true then (idx s.t_7 (1 : Int)).bind fun x226 => (ref3_Ints.f x226.Parents [(0 : Int)]).bind fun x244 => some x244 else some false)).bind fun x249 => some { s with t_0 := x249 }
noncomputable def body : S → Option (Ctl S R) := (seqM (regM r0)
  (seqM (regM r1)
  (seqM (regM r2)
  (seqM (regM r3)
  (seqM (regM r4)
  (seqM (regM r5)
  (retM retv)))))))
noncomputable def f  : Option R := retOf (body { t_0 := false, t_1 := [], t_2 := (⟨(0 : Int), (0 : Int)⟩ : Fault), t_3 := [], t_4 := (⟨(0 : Int), (0 : Int)⟩ : Fault), t_5 := [], t_6 := (⟨(0 : Int), (0 : Int)⟩ : Fault), t_7 := [], t_8 := (⟨(0 : Int), (0 : Int)⟩ : Fault) })
end law4_shallowExample

namespace ref3_Has
structure S where
  l_0 : (List Int)
  n_1 : Int
  t_4 : Bool
  i_5 : Int
  t_9 : Bool
  t_17 : Bool
abbrev R := Bool
def retv (s : S) : R := (s.t_4)
noncomputable def r0 (s : S) : Option S := some { s with t_4 := false }
noncomputable def r1 (s : S) : Option S := some { s with i_5 := (0 : Int) }
noncomputable def r2 (s : S) : Option S := some { s with t_9 := (decide (s.i_5 < (s.l_0.length : Int))) }
noncomputable def r4 (s : S) : Option S := (idx s.l_0 s.i_5).bind fun x6 => some { s with t_17 := (decide (x6 = s.n_1)) }
noncomputable def r5 (s : S) : Option S := some { s with t_4 := true }
noncomputable def r3 (s : S) : Option S := some { s with i_5 := w64 (s.i_5 + (1 : Int)) }
noncomputable def r6 (s : S) : Option S := some { s with t_4 := false }
noncomputable def body : S → Option (Ctl S R) := (seqM (regM r0)
  (seqM (seqM (regM r1)
  (blockM 0 (iterM (seqM (seqM (regM r2)
  (condM (fun s => s.t_9) skipM
  (extM 0)))
  (seqM (blockM 1 (seqM (regM r4)
  (condM (fun s => s.t_17) (seqM (regM r5)
  (retM retv))
  skipM)))
  (regM r3))))))
  (seqM (regM r6)
  (retM retv))))
noncomputable def f (a0 : (List Int)) (a1 : Int) : Option R := retOf (body { l_0 := a0, n_1 := a1, t_4 := false, i_5 := (0 : Int), t_9 := false, t_17 := false })
end ref3_Has

namespace negotiate_closed
structure S where
  commits_0 : (List Commit)
  in_1 : (List Bool)
  t_4 : Int
  i_5 : Int
  c_6 : Commit
  p_8 : Int
  t_9 : (List Commit)
  t_10 : Int
  t_11 : Int
  t_12 : Bool
  t_17 : (List Int)
  t_18 : Int
  t_19 : Int
  t_20 : Bool
  t_33 : Bool
abbrev R := Int
def retv (s : S) : R := (s.t_4)
noncomputable def r0 (s : S) : Option S := some { s with t_4 := (0 : Int) }
noncomputable def r1 (s : S) : Option S := some { s with t_9 := s.commits_0, t_10 := (s.commits_0.length : Int), t_11 := (0 : Int) }
noncomputable def r2 (s : S) : Option S := some { s with t_12 := (decide (s.t_11 < s.t_10)) }
noncomputable def r3 (s : S) : Option S := (idx s.t_9 s.t_11).bind fun x6 => some { s with i_5 := s.t_11, c_6 := x6 }
noncomputable def r4 (s : S) : Option S := some { s with t_17 := s.c_6.Parents, t_18 := (s.c_6.Parents.length : Int), t_19 := (0 : Int) }
noncomputable def r5 (s : S) : Option S := some { s with t_20 := (decide (s.t_19 < s.t_18)) }
noncomputable def r6 (s : S) : Option S := (idx s.t_17 s.t_19).bind fun x33 => some { s with p_8 := x33 }
noncomputable def r7 (s : S) : Option S := (idx s.in_1 s.i_5).bind fun x43 => ((if x43 = true then (idx s.in_1 s.p_8).bind fun x55 => some (!x55) else some false)).bind fun x65 => some { s with t_33 := x65 }
noncomputable def r8 (s : S) : Option S := some { s with t_4 := s.i_5 }
noncomputable def r9 (s : S) : Option S := some { s with t_19 := w64 (s.t_19 + (1 : Int)) }
noncomputable def r10 (s : S) : Option S := some { s with t_11 := w64 (s.t_11 + (1 : Int)) }
noncomputable def r11 (s : S) : Option S := some { s with t_4 := (-1 : Int) }
noncomputable def body : S → Option (Ctl S R) := (seqM (regM r0)
  (seqM (seqM (regM r1)
  (blockM 0 (iterM (seqM (regM r2)
  (seqM (condM (fun s => s.t_12) skipM
  (extM 0))
  (seqM (blockM 1 (seqM (regM r3)
  (seqM (regM r4)
  (blockM 2 (iterM (seqM (regM r5)
  (seqM (condM (fun s => s.t_20) skipM
  (extM 2))
  (seqM (blockM 3 (seqM (regM r6)
  (seqM (regM r7)
  (condM (fun s => s.t_33) (seqM (regM r8)
  (retM retv))
  skipM))))
  (regM r9)))))))))
  (regM r10)))))))
  (seqM (regM r11)
  (retM retv))))
noncomputable def f (a0 : (List Commit)) (a1 : (List Bool)) : Option R := retOf (body { commits_0 := a0, in_1 := a1, t_4 := (0 : Int), i_5 := (0 : Int), c_6 := (⟨[], (0 : Int), (0 : Int), (0 : Int), ByteArray.empty⟩ : Commit), p_8 := (0 : Int), t_9 := [], t_10 := (0 : Int), t_11 := (0 : Int), t_12 := false, t_17 := [], t_18 := (0 : Int), t_19 := (0 : Int), t_20 := false, t_33 := false })
end negotiate_closed

namespace negotiate_check
structure S where
  t_0 : (List Commit)
  t_1 : (List Bool)
  t_2 : (List Bool)
  t_3 : (List Int)
  t_8 : Fault
  t_9 : Fault
  t_10 : Int
  t_11 : Int
  t_12 : Int
  t_13 : Int
  t_18 : Bool
  t_24 : Bool
  t_30 : Bool
  t_36 : Bool
  t_43 : Bool
  t_49 : Bool
  t_51 : (List Int)
  t_52 : Int
  t_53 : Int
  t_54 : Bool
  t_72 : Bool
abbrev R := Fault
def retv (s : S) : R := (s.t_8)
noncomputable def r0 (s : S) : Option S := some { s with t_8 := (⟨(0 : Int), (0 : Int)⟩ : Fault) }
noncomputable def r1 (s : S) : Option S := (history_Validate.f s.t_0).bind fun x5 => some { s with t_9 := x5 }
noncomputable def r2 (s : S) : Option S := some { s with t_18 := (!decide (s.t_9 = (⟨(0 : Int), (0 : Int)⟩ : Fault))) }
noncomputable def r3 (s : S) : Option S := some { s with t_8 := s.t_9 }
noncomputable def r4 (s : S) : Option S := some { s with t_24 := (!decide ((s.t_1.length : Int) = (s.t_0.length : Int))) }
noncomputable def r5 (s : S) : Option S := some { s with t_8 := (⟨(9 : Int), (-1 : Int)⟩ : Fault) }
noncomputable def r6 (s : S) : Option S := some { s with t_30 := (!decide ((s.t_2.length : Int) = (s.t_0.length : Int))) }
noncomputable def r7 (s : S) : Option S := some { s with t_8 := (⟨(9 : Int), (-2 : Int)⟩ : Fault) }
noncomputable def r8 (s : S) : Option S := (negotiate_closed.f s.t_0 s.t_1).bind fun x55 => some { s with t_10 := x55 }
noncomputable def r9 (s : S) : Option S := some { s with t_36 := (decide ((0 : Int) ≤ s.t_10)) }
noncomputable def r10 (s : S) : Option S := some { s with t_8 := (⟨(5 : Int), s.t_10⟩ : Fault) }
noncomputable def r11 (s : S) : Option S := (negotiate_closed.f s.t_0 s.t_2).bind fun x64 => some { s with t_11 := x64 }
noncomputable def r12 (s : S) : Option S := some { s with t_43 := (decide ((0 : Int) ≤ s.t_11)) }
noncomputable def r13 (s : S) : Option S := some { s with t_8 := (⟨(5 : Int), w64 ((-3 : Int) - s.t_11)⟩ : Fault) }
noncomputable def r14 (s : S) : Option S := some { s with t_49 := (decide ((60 : Int) < (s.t_3.length : Int))) }
noncomputable def r15 (s : S) : Option S := some { s with t_8 := (⟨(2 : Int), (-1 : Int)⟩ : Fault) }
noncomputable def r16 (s : S) : Option S := some { s with t_51 := s.t_3, t_52 := (s.t_3.length : Int), t_53 := (0 : Int) }
noncomputable def r17 (s : S) : Option S := some { s with t_54 := (decide (s.t_53 < s.t_52)) }
noncomputable def r18 (s : S) : Option S := (idx s.t_51 s.t_53).bind fun x87 => some { s with t_12 := s.t_53, t_13 := x87 }
noncomputable def r19 (s : S) : Option S := ((if ((decide (s.t_13 < (0 : Int))) || (decide ((s.t_0.length : Int) ≤ s.t_13))) = true then some true else (idx s.t_1 s.t_13).bind fun x107 => some (!x107))).bind fun x117 => some { s with t_72 := x117 }
noncomputable def r20 (s : S) : Option S := some { s with t_8 := (⟨(6 : Int), s.t_12⟩ : Fault) }
noncomputable def r21 (s : S) : Option S := some { s with t_53 := w64 (s.t_53 + (1 : Int)) }
noncomputable def r22 (s : S) : Option S := some { s with t_8 := (⟨(0 : Int), (0 : Int)⟩ : Fault) }
noncomputable def body : S → Option (Ctl S R) := (seqM (regM r0)
  (seqM (seqM (regM r1)
  (seqM (regM r2)
  (condM (fun s => s.t_18) (seqM (regM r3)
  (retM retv))
  skipM)))
  (seqM (seqM (regM r4)
  (condM (fun s => s.t_24) (seqM (regM r5)
  (retM retv))
  skipM))
  (seqM (seqM (regM r6)
  (condM (fun s => s.t_30) (seqM (regM r7)
  (retM retv))
  skipM))
  (seqM (seqM (regM r8)
  (seqM (regM r9)
  (condM (fun s => s.t_36) (seqM (regM r10)
  (retM retv))
  skipM)))
  (seqM (seqM (regM r11)
  (seqM (regM r12)
  (condM (fun s => s.t_43) (seqM (regM r13)
  (retM retv))
  skipM)))
  (seqM (seqM (regM r14)
  (condM (fun s => s.t_49) (seqM (regM r15)
  (retM retv))
  skipM))
  (seqM (seqM (regM r16)
  (blockM 0 (iterM (seqM (regM r17)
  (seqM (condM (fun s => s.t_54) skipM
  (extM 0))
  (seqM (blockM 1 (seqM (regM r18)
  (seqM (regM r19)
  (condM (fun s => s.t_72) (seqM (regM r20)
  (retM retv))
  skipM))))
  (regM r21)))))))
  (seqM (regM r22)
  (retM retv))))))))))
noncomputable def f (a0 : (List Commit)) (a1 : (List Bool)) (a2 : (List Bool)) (a3 : (List Int)) : Option R := retOf (body { t_0 := a0, t_1 := a1, t_2 := a2, t_3 := a3, t_8 := (⟨(0 : Int), (0 : Int)⟩ : Fault), t_9 := (⟨(0 : Int), (0 : Int)⟩ : Fault), t_10 := (0 : Int), t_11 := (0 : Int), t_12 := (0 : Int), t_13 := (0 : Int), t_18 := false, t_24 := false, t_30 := false, t_36 := false, t_43 := false, t_49 := false, t_51 := [], t_52 := (0 : Int), t_53 := (0 : Int), t_54 := false, t_72 := false })
end negotiate_check

namespace history_Ancestors
structure S where
  commits_0 : (List Commit)
  n_1 : Int
  t_4 : (List Bool)
  t_5 : Fault
  f_6 : Fault
  out_7 : (List Bool)
  i_8 : Int
  p_10 : Int
  t_15 : Bool
  t_24 : Bool
  t_34 : Bool
  t_40 : Bool
  t_45 : (List Int)
  t_46 : Int
  t_47 : Int
  t_48 : Bool
abbrev R := ((List Bool) × Fault)
def retv (s : S) : R := (s.t_4, s.t_5)
noncomputable def r0 (s : S) : Option S := some { s with t_4 := [], t_5 := (⟨(0 : Int), (0 : Int)⟩ : Fault) }
noncomputable def r1 (s : S) : Option S := (history_Validate.f s.commits_0).bind fun x5 => some { s with f_6 := x5 }
noncomputable def r2 (s : S) : Option S := some { s with t_15 := (!decide (s.f_6 = (⟨(0 : Int), (0 : Int)⟩ : Fault))) }
noncomputable def r3 (s : S) : Option S := some { s with t_4 := [], t_5 := s.f_6 }
noncomputable def r4 (s : S) : Option S := some { s with t_24 := ((decide (s.n_1 < (0 : Int))) || (decide ((s.commits_0.length : Int) ≤ s.n_1))) }
noncomputable def r5 (s : S) : Option S := some { s with t_4 := [], t_5 := (⟨(6 : Int), (-1 : Int)⟩ : Fault) }
noncomputable def r6 (s : S) : Option S := (mkL 1 false (s.commits_0.length : Int)).bind fun x44 => some { s with out_7 := x44 }
noncomputable def r7 (s : S) : Option S := (idx s.out_7 s.n_1).bind fun x49 => some { s with out_7 := setL s.out_7 s.n_1 true }
noncomputable def r8 (s : S) : Option S := some { s with i_8 := s.n_1 }
noncomputable def r9 (s : S) : Option S := some { s with t_34 := (decide ((0 : Int) ≤ s.i_8)) }
noncomputable def r11 (s : S) : Option S := (idx s.out_7 s.i_8).bind fun x58 => some { s with t_40 := x58 }
noncomputable def r12 (s : S) : Option S := (idx s.commits_0 s.i_8).bind fun x64 => some { s with t_45 := x64.Parents, t_46 := (x64.Parents.length : Int), t_47 := (0 : Int) }
noncomputable def r13 (s : S) : Option S := some { s with t_48 := (decide (s.t_47 < s.t_46)) }
noncomputable def r14 (s : S) : Option S := (idx s.t_45 s.t_47).bind fun x82 => some { s with p_10 := x82 }
noncomputable def r15 (s : S) : Option S := (idx s.out_7 s.p_10).bind fun x92 => some { s with out_7 := setL s.out_7 s.p_10 true }
noncomputable def r16 (s : S) : Option S := some { s with t_47 := w64 (s.t_47 + (1 : Int)) }
noncomputable def r10 (s : S) : Option S := some { s with i_8 := w64 (s.i_8 - (1 : Int)) }
noncomputable def r17 (s : S) : Option S := some { s with t_4 := s.out_7, t_5 := (⟨(0 : Int), (0 : Int)⟩ : Fault) }
noncomputable def body : S → Option (Ctl S R) := (seqM (regM r0)
  (seqM (seqM (regM r1)
  (seqM (regM r2)
  (condM (fun s => s.t_15) (seqM (regM r3)
  (retM retv))
  skipM)))
  (seqM (seqM (regM r4)
  (condM (fun s => s.t_24) (seqM (regM r5)
  (retM retv))
  skipM))
  (seqM (regM r6)
  (seqM (regM r7)
  (seqM (seqM (regM r8)
  (blockM 0 (iterM (seqM (seqM (regM r9)
  (condM (fun s => s.t_34) skipM
  (extM 0)))
  (seqM (blockM 1 (seqM (regM r11)
  (condM (fun s => s.t_40) (seqM (regM r12)
  (blockM 2 (iterM (seqM (regM r13)
  (seqM (condM (fun s => s.t_48) skipM
  (extM 2))
  (seqM (blockM 3 (seqM (regM r14)
  (regM r15)))
  (regM r16)))))))
  skipM)))
  (regM r10))))))
  (seqM (regM r17)
  (retM retv))))))))
noncomputable def f (a0 : (List Commit)) (a1 : Int) : Option R := retOf (body { commits_0 := a0, n_1 := a1, t_4 := [], t_5 := (⟨(0 : Int), (0 : Int)⟩ : Fault), f_6 := (⟨(0 : Int), (0 : Int)⟩ : Fault), out_7 := [], i_8 := (0 : Int), p_10 := (0 : Int), t_15 := false, t_24 := false, t_34 := false, t_40 := false, t_45 := [], t_46 := (0 : Int), t_47 := (0 : Int), t_48 := false })
end history_Ancestors

namespace negotiate_mark
structure S where
  commits_0 : (List Commit)
  in_1 : (List Bool)
  n_2 : Int
  before_6 : (List Bool)
  i_8 : Int
  is_9 : Bool
  t_16 : (List Bool)
  t_17 : Int
  t_18 : Int
  t_19 : Bool
abbrev R := (List Bool)
def retv (s : S) : R := (s.in_1)
noncomputable def r0 (s : S) : Option S := (history_Ancestors.f s.commits_0 s.n_2).bind fun x1 => some { s with before_6 := x1.1 }
noncomputable def r1 (s : S) : Option S := some { s with t_16 := s.before_6, t_17 := (s.before_6.length : Int), t_18 := (0 : Int) }
noncomputable def r2 (s : S) : Option S := some { s with t_19 := (decide (s.t_18 < s.t_17)) }
noncomputable def r3 (s : S) : Option S := (idx s.t_16 s.t_18).bind fun x25 => some { s with i_8 := s.t_18, is_9 := x25 }
noncomputable def r4 (s : S) : Option S := (idx s.in_1 s.i_8).bind fun x35 => (idx s.in_1 s.i_8).bind fun x44 => some { s with in_1 := setL s.in_1 s.i_8 (x35 || s.is_9) }
noncomputable def r5 (s : S) : Option S := some { s with t_18 := w64 (s.t_18 + (1 : Int)) }
noncomputable def body : S → Option (Ctl S R) := (seqM (regM r0)
  (seqM (regM r1)
  (blockM 0 (iterM (seqM (regM r2)
  (seqM (condM (fun s => s.t_19) skipM
  (extM 0))
  (seqM (blockM 1 (seqM (regM r3)
  (regM r4)))
  (regM r5))))))))
noncomputable def f (a0 : (List Commit)) (a1 : (List Bool)) (a2 : Int) : Option R := outOf retv (body { commits_0 := a0, in_1 := a1, n_2 := a2, before_6 := [], i_8 := (0 : Int), is_9 := false, t_16 := [], t_17 := (0 : Int), t_18 := (0 : Int), t_19 := false })
end negotiate_mark

namespace negotiate_missing
structure S where
  commits_0 : (List Commit)
  wants_1 : (List Int)
  have_2 : (List Bool)
  t_6 : (List Int)
  in_7 : (List Bool)
  n_9 : Int
  out_10 : (List Int)
  i_11 : Int
  is_12 : Bool
  t_16 : (List Int)
  t_17 : Int
  t_18 : Int
  t_19 : Bool
  t_28 : Int
  t_29 : Int
  t_30 : Bool
  t_41 : Bool
abbrev R := (List Int)
def retv (s : S) : R := (s.t_6)
noncomputable def r0 (s : S) : Option S := some { s with t_6 := [] }
noncomputable def r1 (s : S) : Option S := (mkL 1 false (s.commits_0.length : Int)).bind fun x6 => some { s with in_7 := x6 }
noncomputable def r2 (s : S) : Option S := some { s with t_16 := s.wants_1, t_17 := (s.wants_1.length : Int), t_18 := (0 : Int) }
noncomputable def r3 (s : S) : Option S := some { s with t_19 := (decide (s.t_18 < s.t_17)) }
noncomputable def r4 (s : S) : Option S := (idx s.t_16 s.t_18).bind fun x16 => some { s with n_9 := x16 }
noncomputable def r5 (s : S) : Option S := (negotiate_mark.f s.commits_0 s.in_7 s.n_9).bind fun x26 => some { s with in_7 := x26 }
noncomputable def r6 (s : S) : Option S := some { s with t_18 := w64 (s.t_18 + (1 : Int)) }
noncomputable def r7 (s : S) : Option S := some { s with out_10 := [] }
noncomputable def r8 (s : S) : Option S := some { s with t_28 := (s.in_7.length : Int), t_29 := (0 : Int) }
noncomputable def r9 (s : S) : Option S := some { s with t_30 := (decide (s.t_29 < s.t_28)) }
noncomputable def r10 (s : S) : Option S := (idx s.in_7 s.t_29).bind fun x36 => some { s with i_11 := s.t_29, is_12 := x36 }
noncomputable def r11 (s : S) : Option S := ((if s.is_12 = true then (idx s.have_2 s.i_11).bind fun x44 => some (!x44) else some false)).bind fun x54 => some { s with t_41 := x54 }
noncomputable def r12 (s : S) : Option S := (appL 8 s.out_10 [s.i_11]).bind fun x61 => some { s with out_10 := x61 }
noncomputable def r13 (s : S) : Option S := some { s with t_29 := w64 (s.t_29 + (1 : Int)) }
noncomputable def r14 (s : S) : Option S := some { s with t_6 := s.out_10 }
noncomputable def body : S → Option (Ctl S R) := (seqM (regM r0)
  (seqM (regM r1)
  (seqM (seqM (regM r2)
  (blockM 0 (iterM (seqM (regM r3)
  (seqM (condM (fun s => s.t_19) skipM
  (extM 0))
  (seqM (blockM 1 (seqM (regM r4)
  (regM r5)))
  (regM r6)))))))
  (seqM (regM r7)
  (seqM (seqM (regM r8)
  (blockM 2 (iterM (seqM (regM r9)
  (seqM (condM (fun s => s.t_30) skipM
  (extM 2))
  (seqM (blockM 3 (seqM (regM r10)
  (seqM (regM r11)
  (condM (fun s => s.t_41) (regM r12)
  skipM))))
  (regM r13)))))))
  (seqM (regM r14)
  (retM retv)))))))
noncomputable def f (a0 : (List Commit)) (a1 : (List Int)) (a2 : (List Bool)) : Option R := retOf (body { commits_0 := a0, wants_1 := a1, have_2 := a2, t_6 := [], in_7 := [], n_9 := (0 : Int), out_10 := [], i_11 := (0 : Int), is_12 := false, t_16 := [], t_17 := (0 : Int), t_18 := (0 : Int), t_19 := false, t_28 := (0 : Int), t_29 := (0 : Int), t_30 := false, t_41 := false })
end negotiate_missing

namespace negotiate_Missing
structure S where
  commits_0 : (List Commit)
  sender_1 : (List Bool)
  receiver_2 : (List Bool)
  wants_3 : (List Int)
  t_8 : (List Int)
  t_9 : Fault
  f_10 : Fault
  t_18 : Bool
abbrev R := ((List Int) × Fault)
def retv (s : S) : R := (s.t_8, s.t_9)
noncomputable def r0 (s : S) : Option S := some { s with t_8 := [], t_9 := (⟨(0 : Int), (0 : Int)⟩ : Fault) }
noncomputable def r1 (s : S) : Option S := (negotiate_check.f s.commits_0 s.sender_1 s.receiver_2 s.wants_3).bind fun x5 => some { s with f_10 := x5 }
noncomputable def r2 (s : S) : Option S := some { s with t_18 := (!decide (s.f_10 = (⟨(0 : Int), (0 : Int)⟩ : Fault))) }
noncomputable def r3 (s : S) : Option S := some { s with t_8 := [], t_9 := s.f_10 }
noncomputable def r4 (s : S) : Option S := (negotiate_missing.f s.commits_0 s.wants_3 s.receiver_2).bind fun x27 => some { s with t_8 := x27, t_9 := (⟨(0 : Int), (0 : Int)⟩ : Fault) }
noncomputable def body : S → Option (Ctl S R) := (seqM (regM r0)
  (seqM (seqM (regM r1)
  (seqM (regM r2)
  (condM (fun s => s.t_18) (seqM (regM r3)
  (retM retv))
  skipM)))
  (seqM (regM r4)
  (retM retv))))
noncomputable def f (a0 : (List Commit)) (a1 : (List Bool)) (a2 : (List Bool)) (a3 : (List Int)) : Option R := retOf (body { commits_0 := a0, sender_1 := a1, receiver_2 := a2, wants_3 := a3, t_8 := [], t_9 := (⟨(0 : Int), (0 : Int)⟩ : Fault), f_10 := (⟨(0 : Int), (0 : Int)⟩ : Fault), t_18 := false })
end negotiate_Missing

namespace slices_MaxFunc_int_int
structure S where
  x_0 : (List Int)
  cmp_1 : (Int × Int → Option Int)
  t_4 : Int
  m_5 : Int
  i_6 : Int
  t_9 : Bool
  t_17 : Bool
  t_27 : Bool
abbrev R := Int
def retv (s : S) : R := (s.t_4)
noncomputable def r0 (s : S) : Option S := some { s with t_4 := (0 : Int) }
noncomputable def r1 (s : S) : Option S := some { s with t_9 := (decide ((s.x_0.length : Int) < (1 : Int))) }
noncomputable def r2 (s : S) : Option S := none
noncomputable def r3 (s : S) : Option S := (idx s.x_0 (0 : Int)).bind fun x6 => some { s with m_5 := x6 }
noncomputable def r4 (s : S) : Option S := some { s with i_6 := (1 : Int) }
noncomputable def r5 (s : S) : Option S := some { s with t_17 := (decide (s.i_6 < (s.x_0.length : Int))) }
noncomputable def r7 (s : S) : Option S := (idx s.x_0 s.i_6).bind fun x21 => (s.cmp_1 (x21, s.m_5)).bind fun x31 => some { s with t_27 := (decide ((0 : Int) < x31)) }
noncomputable def r8 (s : S) : Option S := (idx s.x_0 s.i_6).bind fun x34 => some { s with m_5 := x34 }
noncomputable def r6 (s : S) : Option S := some { s with i_6 := w64 (s.i_6 + (1 : Int)) }
noncomputable def r9 (s : S) : Option S := some { s with t_4 := s.m_5 }
noncomputable def body : S → Option (Ctl S R) := (seqM (regM r0)
  (seqM (seqM (regM r1)
  (condM (fun s => s.t_9) (regM r2)
  skipM))
  (seqM (regM r3)
  (seqM (seqM (regM r4)
  (blockM 0 (iterM (seqM (seqM (regM r5)
  (condM (fun s => s.t_17) skipM
  (extM 0)))
  (seqM (blockM 1 (seqM (regM r7)
  (condM (fun s => s.t_27) (regM r8)
  skipM)))
  (regM r6))))))
  (seqM (regM r9)
  (retM retv))))))
noncomputable def f (a0 : (List Int)) (a1 : (Int × Int → Option Int)) : Option R := retOf (body { x_0 := a0, cmp_1 := a1, t_4 := (0 : Int), m_5 := (0 : Int), i_6 := (0 : Int), t_9 := false, t_17 := false, t_27 := false })
end slices_MaxFunc_int_int

namespace history_Order_1
structure S where
  a_0 : Int
  b_1 : Int
  t_2 : (List Commit)
  t_5 : Int
  d_6 : Int
  t_19 : Bool
abbrev R := Int
def retv (s : S) : R := (s.t_5)
noncomputable def r0 (s : S) : Option S := some { s with t_5 := (0 : Int) }
noncomputable def r1 (s : S) : Option S := (idx s.t_2 s.a_0).bind fun x4 => (idx s.t_2 s.b_1).bind fun x17 => some { s with d_6 := w64 (x4.Time - x17.Time) }
noncomputable def r2 (s : S) : Option S := some { s with t_19 := (!decide (s.d_6 = (0 : Int))) }
noncomputable def r3 (s : S) : Option S := some { s with t_5 := s.d_6 }
noncomputable def r4 (s : S) : Option S := some { s with t_5 := w64 (s.a_0 - s.b_1) }
noncomputable def body : S → Option (Ctl S R) := (seqM (regM r0)
  (seqM (seqM (regM r1)
  (seqM (regM r2)
  (condM (fun s => s.t_19) (seqM (regM r3)
  (retM retv))
  skipM)))
  (seqM (regM r4)
  (retM retv))))
noncomputable def f (a0 : Int) (a1 : Int) (a2 : (List Commit)) : Option R := retOf (body { a_0 := a0, b_1 := a1, t_2 := a2, t_5 := (0 : Int), d_6 := (0 : Int), t_19 := false })
end history_Order_1

namespace slices_IndexFunc_int_int
structure S where
  s_0 : (List Int)
  f_1 : (Int → Option Bool)
  t_4 : Int
  i_5 : Int
  t_7 : Int
  t_8 : Int
  t_9 : Bool
  t_16 : Bool
abbrev R := Int
def retv (s : S) : R := (s.t_4)
noncomputable def r0 (s : S) : Option S := some { s with t_4 := (0 : Int) }
noncomputable def r1 (s : S) : Option S := some { s with t_7 := (s.s_0.length : Int), t_8 := (0 : Int) }
noncomputable def r2 (s : S) : Option S := some { s with t_9 := (decide (s.t_8 < s.t_7)) }
noncomputable def r3 (s : S) : Option S := some { s with i_5 := s.t_8 }
noncomputable def r4 (s : S) : Option S := (idx s.s_0 s.i_5).bind fun x6 => (s.f_1 x6).bind fun x16 => some { s with t_16 := x16 }
noncomputable def r5 (s : S) : Option S := some { s with t_4 := s.i_5 }
noncomputable def r6 (s : S) : Option S := some { s with t_8 := w64 (s.t_8 + (1 : Int)) }
noncomputable def r7 (s : S) : Option S := some { s with t_4 := (-1 : Int) }
noncomputable def body : S → Option (Ctl S R) := (seqM (regM r0)
  (seqM (seqM (regM r1)
  (blockM 0 (iterM (seqM (regM r2)
  (seqM (condM (fun s => s.t_9) skipM
  (extM 0))
  (seqM (blockM 1 (seqM (regM r3)
  (seqM (regM r4)
  (condM (fun s => s.t_16) (seqM (regM r5)
  (retM retv))
  skipM))))
  (regM r6)))))))
  (seqM (regM r7)
  (retM retv))))
noncomputable def f (a0 : (List Int)) (a1 : (Int → Option Bool)) : Option R := retOf (body { s_0 := a0, f_1 := a1, t_4 := (0 : Int), i_5 := (0 : Int), t_7 := (0 : Int), t_8 := (0 : Int), t_9 := false, t_16 := false })
end slices_IndexFunc_int_int

namespace slices_DeleteFunc_int_int
structure S where
  s_0 : (List Int)
  del_1 : (Int → Option Bool)
  t_4 : (List Int)
  i_5 : Int
  j_6 : Int
  v_7 : Int
  t_12 : Bool
  t_19 : Bool
  t_29 : Bool
abbrev R := (List Int)
def retv (s : S) : R := (s.t_4)
noncomputable def r0 (s : S) : Option S := some { s with t_4 := [] }
noncomputable def r1 (s : S) : Option S := (slices_IndexFunc_int_int.f s.s_0 s.del_1).bind fun x2 => some { s with i_5 := x2 }
noncomputable def r2 (s : S) : Option S := some { s with t_12 := (decide (s.i_5 = (-1 : Int))) }
noncomputable def r3 (s : S) : Option S := some { s with t_4 := s.s_0 }
noncomputable def r4 (s : S) : Option S := some { s with j_6 := w64 (s.i_5 + (1 : Int)) }
noncomputable def r5 (s : S) : Option S := some { s with t_19 := (decide (s.j_6 < (s.s_0.length : Int))) }
noncomputable def r7 (s : S) : Option S := (idx s.s_0 s.j_6).bind fun x12 => some { s with v_7 := x12 }
noncomputable def r8 (s : S) : Option S := (s.del_1 s.v_7).bind fun x18 => some { s with t_29 := (!x18) }
noncomputable def r9 (s : S) : Option S := (idx s.s_0 s.i_5).bind fun x21 => some { s with s_0 := setL s.s_0 s.i_5 s.v_7 }
noncomputable def r10 (s : S) : Option S := some { s with i_5 := w64 (s.i_5 + (1 : Int)) }
noncomputable def r6 (s : S) : Option S := some { s with j_6 := w64 (s.j_6 + (1 : Int)) }
noncomputable def r11 (s : S) : Option S := (cutFrom s.s_0 s.i_5).bind fun x34 => some { s with s_0 := clearFrom (0 : Int) s.s_0 s.i_5 }
noncomputable def r12 (s : S) : Option S := (cutTo s.s_0 s.i_5).bind fun x43 => some { s with t_4 := x43 }
noncomputable def body : S → Option (Ctl S R) := (seqM (regM r0)
  (seqM (regM r1)
  (seqM (seqM (regM r2)
  (condM (fun s => s.t_12) (seqM (regM r3)
  (retM retv))
  skipM))
  (seqM (seqM (regM r4)
  (blockM 0 (iterM (seqM (seqM (regM r5)
  (condM (fun s => s.t_19) skipM
  (extM 0)))
  (seqM (blockM 1 (seqM (regM r7)
  (seqM (regM r8)
  (condM (fun s => s.t_29) (seqM (regM r9)
  (regM r10))
  skipM))))
  (regM r6))))))
  (seqM (regM r11)
  (seqM (regM r12)
  (retM retv)))))))
noncomputable def f (a0 : (List Int)) (a1 : (Int → Option Bool)) : Option R := retOf (body { s_0 := a0, del_1 := a1, t_4 := [], i_5 := (0 : Int), j_6 := (0 : Int), v_7 := (0 : Int), t_12 := false, t_19 := false, t_29 := false })
end slices_DeleteFunc_int_int

namespace history_Order_2
structure S where
  i_0 : Int
  t_1 : Int
  t_3 : Bool
abbrev R := Bool
def retv (s : S) : R := (s.t_3)
noncomputable def r0 (s : S) : Option S := some { s with t_3 := false }
noncomputable def r1 (s : S) : Option S := some { s with t_3 := (decide (s.i_0 = s.t_1)) }
noncomputable def body : S → Option (Ctl S R) := (seqM (regM r0)
  (seqM (regM r1)
  (retM retv)))
noncomputable def f (a0 : Int) (a1 : Int) : Option R := retOf (body { i_0 := a0, t_1 := a1, t_3 := false })
end history_Order_2

namespace history_Order
structure S where
  t_0 : (List Commit)
  t_1 : (List Commit)
  t_2 : (List Int)
  t_3 : Fault
  t_4 : Fault
  t_5 : (List Int)
  t_7 : Commit
  t_9 : Int
  t_10 : (List Int)
  t_11 : (List Int)
  t_12 : Int
  t_13 : Int
  t_14 : Int
  t_16 : Int
  t_21 : Bool
  t_26 : (List Commit)
  t_27 : Int
  t_28 : Int
  t_29 : Bool
  t_33 : (List Int)
  t_34 : Int
  t_35 : Int
  t_36 : Bool
  t_48 : Int
  t_49 : Int
  t_50 : Bool
  t_55 : Bool
  t_63 : Bool
  t_78 : (List Int)
  t_79 : Int
  t_80 : Int
  t_81 : Bool
  t_94 : Bool
abbrev R := ((List Int) × Fault)
def retv (s : S) : R := (s.t_2, s.t_3)
noncomputable def r0 (s : S) : Option S := some { s with t_1 := s.t_0, t_2 := [], t_3 := (⟨(0 : Int), (0 : Int)⟩ : Fault) }
noncomputable def r1 (s : S) : Option S := (history_Validate.f s.t_1).bind fun x12 => some { s with t_4 := x12 }
noncomputable def r2 (s : S) : Option S := some { s with t_21 := (!decide (s.t_4 = (⟨(0 : Int), (0 : Int)⟩ : Fault))) }
noncomputable def r3 (s : S) : Option S := some { s with t_2 := [], t_3 := s.t_4 }
noncomputable def r4 (s : S) : Option S := (mkL 8 (0 : Int) (s.t_1.length : Int)).bind fun x42 => some { s with t_5 := x42 }
noncomputable def r5 (s : S) : Option S := some { s with t_26 := s.t_1, t_27 := (s.t_1.length : Int), t_28 := (0 : Int) }
noncomputable def r6 (s : S) : Option S := some { s with t_29 := (decide (s.t_28 < s.t_27)) }
noncomputable def r7 (s : S) : Option S := (idx s.t_26 s.t_28).bind fun x55 => some { s with t_7 := x55 }
noncomputable def r8 (s : S) : Option S := some { s with t_33 := s.t_7.Parents, t_34 := (s.t_7.Parents.length : Int), t_35 := (0 : Int) }
noncomputable def r9 (s : S) : Option S := some { s with t_36 := (decide (s.t_35 < s.t_34)) }
noncomputable def r10 (s : S) : Option S := (idx s.t_33 s.t_35).bind fun x82 => some { s with t_9 := x82 }
noncomputable def r11 (s : S) : Option S := (idx s.t_5 s.t_9).bind fun x92 => (idx s.t_5 s.t_9).bind fun x98 => some { s with t_5 := setL s.t_5 s.t_9 (w64 (x92 + (1 : Int))) }
noncomputable def r12 (s : S) : Option S := some { s with t_35 := w64 (s.t_35 + (1 : Int)) }
noncomputable def r13 (s : S) : Option S := some { s with t_28 := w64 (s.t_28 + (1 : Int)) }
noncomputable def r14 (s : S) : Option S := some { s with t_10 := [], t_11 := [] }
noncomputable def r15 (s : S) : Option S := some { s with t_48 := (s.t_5.length : Int), t_49 := (0 : Int) }
noncomputable def r16 (s : S) : Option S := some { s with t_50 := (decide (s.t_49 < s.t_48)) }
noncomputable def r17 (s : S) : Option S := (idx s.t_5 s.t_49).bind fun x111 => some { s with t_12 := s.t_49, t_13 := x111 }
noncomputable def r18 (s : S) : Option S := some { s with t_55 := (decide (s.t_13 = (0 : Int))) }
noncomputable def r19 (s : S) : Option S := (appL 8 s.t_10 [s.t_12]).bind fun x122 => some { s with t_10 := x122 }
noncomputable def r20 (s : S) : Option S := some { s with t_49 := w64 (s.t_49 + (1 : Int)) }
noncomputable def r21 (s : S) : Option S := some { s with t_63 := (decide ((0 : Int) < (s.t_10.length : Int))) }
noncomputable def r22 (s : S) : Option S := (slices_MaxFunc_int_int.f s.t_10 (fun x => history_Order_1.f x.1 x.2 s.t_1)).bind fun x134 => some { s with t_14 := x134 }
noncomputable def r23 (s : S) : Option S := (slices_DeleteFunc_int_int.f s.t_10 (fun x => history_Order_2.f x s.t_14)).bind fun x148 => some { s with t_10 := x148 }
noncomputable def r24 (s : S) : Option S := (appL 8 s.t_11 [s.t_14]).bind fun x162 => some { s with t_11 := x162 }
noncomputable def r25 (s : S) : Option S := (idx s.t_1 s.t_14).bind fun x171 => some { s with t_78 := x171.Parents, t_79 := (x171.Parents.length : Int), t_80 := (0 : Int) }
noncomputable def r26 (s : S) : Option S := some { s with t_81 := (decide (s.t_80 < s.t_79)) }
noncomputable def r27 (s : S) : Option S := (idx s.t_78 s.t_80).bind fun x189 => some { s with t_16 := x189 }
noncomputable def r28 (s : S) : Option S := (idx s.t_5 s.t_16).bind fun x199 => (idx s.t_5 s.t_16).bind fun x205 => some { s with t_5 := setL s.t_5 s.t_16 (w64 (x199 - (1 : Int))) }
noncomputable def r29 (s : S) : Option S := (idx s.t_5 s.t_16).bind fun x214 => some { s with t_94 := (decide (x214 = (0 : Int))) }
noncomputable def r30 (s : S) : Option S := (appL 8 s.t_10 [s.t_16]).bind fun x225 => some { s with t_10 := x225 }
noncomputable def r31 (s : S) : Option S := some { s with t_80 := w64 (s.t_80 + (1 : Int)) }
noncomputable def r32 (s : S) : Option S := some { s with t_2 := s.t_11, t_3 := (⟨(0 : Int), (0 : Int)⟩ : Fault) }
noncomputable def body : S → Option (Ctl S R) := (seqM (regM r0)
  (seqM (seqM (regM r1)
  (seqM (regM r2)
  (condM (fun s => s.t_21) (seqM (regM r3)
  (retM retv))
  skipM)))
  (seqM (regM r4)
  (seqM (seqM (regM r5)
  (blockM 0 (iterM (seqM (regM r6)
  (seqM (condM (fun s => s.t_29) skipM
  (extM 0))
  (seqM (blockM 1 (seqM (regM r7)
  (seqM (regM r8)
  (blockM 2 (iterM (seqM (regM r9)
  (seqM (condM (fun s => s.t_36) skipM
  (extM 2))
  (seqM (blockM 3 (seqM (regM r10)
  (regM r11)))
  (regM r12)))))))))
  (regM r13)))))))
  (seqM (regM r14)
  (seqM (seqM (regM r15)
  (blockM 4 (iterM (seqM (regM r16)
  (seqM (condM (fun s => s.t_50) skipM
  (extM 4))
  (seqM (blockM 5 (seqM (regM r17)
  (seqM (regM r18)
  (condM (fun s => s.t_55) (regM r19)
  skipM))))
  (regM r20)))))))
  (seqM (blockM 6 (iterM (seqM (seqM (regM r21)
  (condM (fun s => s.t_63) skipM
  (extM 6)))
  (blockM 7 (seqM (regM r22)
  (seqM (regM r23)
  (seqM (regM r24)
  (seqM (regM r25)
  (blockM 8 (iterM (seqM (regM r26)
  (seqM (condM (fun s => s.t_81) skipM
  (extM 8))
  (seqM (blockM 9 (seqM (regM r27)
  (seqM (regM r28)
  (seqM (regM r29)
  (condM (fun s => s.t_94) (regM r30)
  skipM)))))
  (regM r31))))))))))))))
  (seqM (regM r32)
  (retM retv)))))))))
noncomputable def f (a0 : (List Commit)) : Option R := retOf (body { t_0 := a0, t_1 := [], t_2 := [], t_3 := (⟨(0 : Int), (0 : Int)⟩ : Fault), t_4 := (⟨(0 : Int), (0 : Int)⟩ : Fault), t_5 := [], t_7 := (⟨[], (0 : Int), (0 : Int), (0 : Int), ByteArray.empty⟩ : Commit), t_9 := (0 : Int), t_10 := [], t_11 := [], t_12 := (0 : Int), t_13 := (0 : Int), t_14 := (0 : Int), t_16 := (0 : Int), t_21 := false, t_26 := [], t_27 := (0 : Int), t_28 := (0 : Int), t_29 := false, t_33 := [], t_34 := (0 : Int), t_35 := (0 : Int), t_36 := false, t_48 := (0 : Int), t_49 := (0 : Int), t_50 := false, t_55 := false, t_63 := false, t_78 := [], t_79 := (0 : Int), t_80 := (0 : Int), t_81 := false, t_94 := false })
end history_Order

namespace negotiate_Run
structure S where
  t_0 : (List Commit)
  t_1 : (List Bool)
  t_2 : (List Bool)
  t_3 : (List Int)
  t_8 : (List (List Int))
  t_9 : (List Int)
  t_10 : Fault
  t_11 : Fault
  t_12 : (List Int)
  t_14 : (List Bool)
  t_15 : (List Bool)
  t_16 : (List (List Int))
  t_17 : Int
  t_18 : (List Int)
  t_20 : Int
  t_22 : Int
  t_30 : Bool
  t_46 : (List Int)
  t_47 : Int
  t_48 : Int
  t_49 : Bool
  t_75 : Bool
  t_83 : Bool
  t_94 : (List Int)
  t_95 : Int
  t_96 : Int
  t_97 : Bool
  t_106 : Bool
abbrev R := ((List (List Int)) × (List Int) × Fault)
def retv (s : S) : R := (s.t_8, s.t_9, s.t_10)
noncomputable def r0 (s : S) : Option S := some { s with t_8 := [], t_9 := [], t_10 := (⟨(0 : Int), (0 : Int)⟩ : Fault) }
noncomputable def r1 (s : S) : Option S := (negotiate_check.f s.t_0 s.t_1 s.t_2 s.t_3).bind fun x5 => some { s with t_11 := x5 }
noncomputable def r2 (s : S) : Option S := some { s with t_30 := (!decide (s.t_11 = (⟨(0 : Int), (0 : Int)⟩ : Fault))) }
noncomputable def r3 (s : S) : Option S := some { s with t_8 := [], t_9 := [], t_10 := s.t_11 }
noncomputable def r4 (s : S) : Option S := (history_Order.f s.t_0).bind fun x27 => some { s with t_12 := x27.1 }
noncomputable def r5 (s : S) : Option S := (mkL 1 false (s.t_0.length : Int)).bind fun x56 => (mkL 1 false (s.t_0.length : Int)).bind fun x61 => some { s with t_14 := x56, t_15 := x61 }
noncomputable def r6 (s : S) : Option S := some { s with t_16 := [] }
noncomputable def r7 (s : S) : Option S := some { s with t_17 := (1 : Int) }
noncomputable def r9 (s : S) : Option S := some { s with t_18 := [] }
noncomputable def r10 (s : S) : Option S := some { s with t_46 := s.t_12, t_47 := (s.t_12.length : Int), t_48 := (0 : Int) }
noncomputable def r11 (s : S) : Option S := some { s with t_49 := (decide (s.t_48 < s.t_47)) }
noncomputable def r12 (s : S) : Option S := (idx s.t_46 s.t_48).bind fun x79 => some { s with t_20 := x79 }
noncomputable def r13 (s : S) : Option S := (idx s.t_2 s.t_20).bind fun x89 => ((if x89 = true then (idx s.t_15 s.t_20).bind fun x101 => some (!x101) else some false)).bind fun x107 => ((if x107 = true then (idx s.t_14 s.t_20).bind fun x111 => some (!x111) else some false)).bind fun x117 => some { s with t_75 := (x117 && (decide ((s.t_18.length : Int) < s.t_17))) }
noncomputable def r14 (s : S) : Option S := (appL 8 s.t_18 [s.t_20]).bind fun x131 => some { s with t_18 := x131 }
noncomputable def r15 (s : S) : Option S := some { s with t_48 := w64 (s.t_48 + (1 : Int)) }
noncomputable def r16 (s : S) : Option S := some { s with t_83 := (decide ((s.t_18.length : Int) = (0 : Int))) }
noncomputable def r17 (s : S) : Option S := (negotiate_missing.f s.t_0 s.t_3 s.t_14).bind fun x142 => some { s with t_8 := s.t_16, t_9 := x142, t_10 := (⟨(0 : Int), (0 : Int)⟩ : Fault) }
noncomputable def r18 (s : S) : Option S := (appL 24 s.t_16 [s.t_18]).bind fun x162 => some { s with t_16 := x162 }
noncomputable def r19 (s : S) : Option S := some { s with t_94 := s.t_18, t_95 := (s.t_18.length : Int), t_96 := (0 : Int) }
noncomputable def r20 (s : S) : Option S := some { s with t_97 := (decide (s.t_96 < s.t_95)) }
noncomputable def r21 (s : S) : Option S := (idx s.t_94 s.t_96).bind fun x173 => some { s with t_22 := x173 }
noncomputable def r22 (s : S) : Option S := (idx s.t_15 s.t_22).bind fun x183 => some { s with t_15 := setL s.t_15 s.t_22 true }
noncomputable def r23 (s : S) : Option S := (idx s.t_1 s.t_22).bind fun x192 => some { s with t_106 := x192 }
noncomputable def r24 (s : S) : Option S := (negotiate_mark.f s.t_0 s.t_14 s.t_22).bind fun x202 => some { s with t_14 := x202 }
noncomputable def r25 (s : S) : Option S := some { s with t_96 := w64 (s.t_96 + (1 : Int)) }
noncomputable def r8 (s : S) : Option S := some { s with t_17 := (min (w64 ((2 : Int) * s.t_17)) (16 : Int)) }
noncomputable def body : S → Option (Ctl S R) := (seqM (regM r0)
  (seqM (seqM (regM r1)
  (seqM (regM r2)
  (condM (fun s => s.t_30) (seqM (regM r3)
  (retM retv))
  skipM)))
  (seqM (regM r4)
  (seqM (regM r5)
  (seqM (regM r6)
  (seqM (regM r7)
  (blockM 0 (iterM (seqM (blockM 1 (seqM (regM r9)
  (seqM (seqM (regM r10)
  (blockM 2 (iterM (seqM (regM r11)
  (seqM (condM (fun s => s.t_49) skipM
  (extM 2))
  (seqM (blockM 3 (seqM (regM r12)
  (seqM (regM r13)
  (condM (fun s => s.t_75) (regM r14)
  skipM))))
  (regM r15)))))))
  (seqM (seqM (regM r16)
  (condM (fun s => s.t_83) (seqM (regM r17)
  (retM retv))
  skipM))
  (seqM (regM r18)
  (seqM (regM r19)
  (blockM 4 (iterM (seqM (regM r20)
  (seqM (condM (fun s => s.t_97) skipM
  (extM 4))
  (seqM (blockM 5 (seqM (regM r21)
  (seqM (regM r22)
  (seqM (regM r23)
  (condM (fun s => s.t_106) (regM r24)
  skipM)))))
  (regM r25))))))))))))
  (regM r8))))))))))
noncomputable def f (a0 : (List Commit)) (a1 : (List Bool)) (a2 : (List Bool)) (a3 : (List Int)) : Option R := retOf (body { t_0 := a0, t_1 := a1, t_2 := a2, t_3 := a3, t_8 := [], t_9 := [], t_10 := (⟨(0 : Int), (0 : Int)⟩ : Fault), t_11 := (⟨(0 : Int), (0 : Int)⟩ : Fault), t_12 := [], t_14 := [], t_15 := [], t_16 := [], t_17 := (0 : Int), t_18 := [], t_20 := (0 : Int), t_22 := (0 : Int), t_30 := false, t_46 := [], t_47 := (0 : Int), t_48 := (0 : Int), t_49 := false, t_75 := false, t_83 := false, t_94 := [], t_95 := (0 : Int), t_96 := (0 : Int), t_97 := false, t_106 := false })
end negotiate_Run

namespace law4_negotiateExample
structure S where
  t_0 : Bool
  all_1 : (List Bool)
  first_2 : (List Bool)
  m_3 : (List Int)
  f_4 : Fault
  r_5 : (List (List Int))
  sent_6 : (List Int)
  g_7 : Fault
abbrev R := Bool
def retv (s : S) : R := (s.t_0)
noncomputable def r0 (s : S) : Option S := some { s with t_0 := false }
noncomputable def r1 (s : S) : Option S := some { s with all_1 := [true, true, true], first_2 := [true, false, false] }
noncomputable def r2 (s : S) : Option S := (law4_chain.f (3 : Int)).bind fun x11 => (negotiate_Missing.f x11 s.all_1 s.first_2 [(2 : Int)]).bind fun x24 => some { s with m_3 := x24.1, f_4 := x24.2 }
noncomputable def r3 (s : S) : Option S := (law4_chain.f (3 : Int)).bind fun x44 => (negotiate_Run.f x44 s.all_1 s.first_2 [(2 : Int)]).bind fun x59 => some { s with r_5 := x59.1, sent_6 := x59.2.1, g_7 := x59.2.2 }
noncomputable def r4 (s : S) : Option S := ((if ((decide (s.f_4.Code = (0 : Int))) && (decide (s.g_7.Code = (0 : Int)))) = true then (ref3_Ints.f s.m_3 [(1 : Int), (2 : Int)]).bind fun x93 => some x93 else some false)).bind fun x98 => ((if x98 = true then (ref3_Ints.f s.sent_6 [(1 : Int), (2 : Int)]).bind fun x110 => some x110 else some false)).bind fun x115 => ((if (x115 && (decide ((s.r_5.length : Int) = (1 : Int)))) = true then (idx s.r_5 (0 : Int)).bind fun x130 => (ref3_Ints.f x130 [(0 : Int)]).bind fun x148 => some x148 else some false)).bind fun x153 => some { s with t_0 := x153 }
noncomputable def body : S → Option (Ctl S R) := (seqM (regM r0)
  (seqM (regM r1)
  (seqM (regM r2)
  (seqM (regM r3)
  (seqM (regM r4)
  (retM retv))))))
noncomputable def f  : Option R := retOf (body { t_0 := false, all_1 := [], first_2 := [], m_3 := [], f_4 := (⟨(0 : Int), (0 : Int)⟩ : Fault), r_5 := [], sent_6 := [], g_7 := (⟨(0 : Int), (0 : Int)⟩ : Fault) })
end law4_negotiateExample

namespace ref3_Reach
structure S where
  l_0 : (List Commit)
  t_2 : (List (List Bool))
  out_3 : (List (List Bool))
  i_4 : Int
  row_5 : (List Bool)
  k_6 : Int
  j_7 : Int
  t_11 : Bool
  t_22 : Bool
  t_32 : Bool
abbrev R := (List (List Bool))
def retv (s : S) : R := (s.t_2)
noncomputable def r0 (s : S) : Option S := some { s with t_2 := [] }
noncomputable def r1 (s : S) : Option S := some { s with out_3 := [] }
noncomputable def r2 (s : S) : Option S := some { s with i_4 := (0 : Int) }
noncomputable def r3 (s : S) : Option S := some { s with t_11 := (decide (s.i_4 < (s.l_0.length : Int))) }
noncomputable def r5 (s : S) : Option S := (mkL 1 false (s.l_0.length : Int)).bind fun x11 => some { s with row_5 := x11 }
noncomputable def r6 (s : S) : Option S := (idx s.row_5 s.i_4).bind fun x16 => some { s with row_5 := setL s.row_5 s.i_4 true }
noncomputable def r7 (s : S) : Option S := some { s with k_6 := (0 : Int) }
noncomputable def r8 (s : S) : Option S := some { s with t_22 := (decide (s.k_6 < s.i_4)) }
noncomputable def r10 (s : S) : Option S := some { s with j_7 := (0 : Int) }
noncomputable def r11 (s : S) : Option S := (idx s.l_0 s.i_4).bind fun x25 => some { s with t_32 := (decide (s.j_7 < (x25.Parents.length : Int))) }
noncomputable def r13 (s : S) : Option S := (idx s.row_5 s.k_6).bind fun x43 => ((if x43 = true then some true else (idx s.l_0 s.i_4).bind fun x51 => (idx x51.Parents s.j_7).bind fun x64 => (idx s.out_3 x64).bind fun x74 => (idx x74 s.k_6).bind fun x83 => some x83)).bind fun x93 => (idx s.row_5 s.k_6).bind fun x95 => some { s with row_5 := setL s.row_5 s.k_6 x93 }
noncomputable def r12 (s : S) : Option S := some { s with j_7 := w64 (s.j_7 + (1 : Int)) }
noncomputable def r9 (s : S) : Option S := some { s with k_6 := w64 (s.k_6 + (1 : Int)) }
noncomputable def r14 (s : S) : Option S := (appL 24 s.out_3 [s.row_5]).bind fun x112 => some { s with out_3 := x112 }
noncomputable def r4 (s : S) : Option S := some { s with i_4 := w64 (s.i_4 + (1 : Int)) }
noncomputable def r15 (s : S) : Option S := some { s with t_2 := s.out_3 }
noncomputable def body : S → Option (Ctl S R) := (seqM (regM r0)
  (seqM (regM r1)
  (seqM (seqM (regM r2)
  (blockM 0 (iterM (seqM (seqM (regM r3)
  (condM (fun s => s.t_11) skipM
  (extM 0)))
  (seqM (blockM 1 (seqM (regM r5)
  (seqM (regM r6)
  (seqM (seqM (regM r7)
  (blockM 2 (iterM (seqM (seqM (regM r8)
  (condM (fun s => s.t_22) skipM
  (extM 2)))
  (seqM (blockM 3 (seqM (regM r10)
  (blockM 4 (iterM (seqM (seqM (regM r11)
  (condM (fun s => s.t_32) skipM
  (extM 4)))
  (seqM (blockM 5 (regM r13))
  (regM r12)))))))
  (regM r9))))))
  (regM r14)))))
  (regM r4))))))
  (seqM (regM r15)
  (retM retv)))))
noncomputable def f (a0 : (List Commit)) : Option R := retOf (body { l_0 := a0, t_2 := [], out_3 := [], i_4 := (0 : Int), row_5 := [], k_6 := (0 : Int), j_7 := (0 : Int), t_11 := false, t_22 := false, t_32 := false })
end ref3_Reach

namespace ref4_NegotiateFault
structure S where
  t_0 : (List Commit)
  t_1 : (List Bool)
  t_2 : (List Bool)
  t_3 : (List Int)
  t_8 : Fault
  t_9 : Fault
  t_10 : Int
  t_11 : Int
  t_12 : Int
  t_13 : Int
  t_14 : Int
  t_19 : Bool
  t_25 : Bool
  t_31 : Bool
  t_36 : Bool
  t_52 : Bool
  t_66 : Bool
  t_72 : Bool
  t_88 : Bool
  t_102 : Bool
  t_108 : Bool
  t_113 : Bool
  t_134 : Bool
abbrev R := Fault
def retv (s : S) : R := (s.t_8)
noncomputable def r0 (s : S) : Option S := some { s with t_8 := (⟨(0 : Int), (0 : Int)⟩ : Fault) }
noncomputable def r1 (s : S) : Option S := (ref3_HistoryFault.f s.t_0).bind fun x5 => some { s with t_9 := x5 }
noncomputable def r2 (s : S) : Option S := some { s with t_19 := (!decide (s.t_9.Code = (0 : Int))) }
noncomputable def r3 (s : S) : Option S := some { s with t_8 := s.t_9 }
noncomputable def r4 (s : S) : Option S := some { s with t_25 := (!decide ((s.t_1.length : Int) = (s.t_0.length : Int))) }
noncomputable def r5 (s : S) : Option S := (ref3_Fault.f (9 : Int) (-1 : Int)).bind fun x34 => some { s with t_8 := x34 }
noncomputable def r6 (s : S) : Option S := some { s with t_31 := (!decide ((s.t_2.length : Int) = (s.t_0.length : Int))) }
noncomputable def r7 (s : S) : Option S := (ref3_Fault.f (9 : Int) (-2 : Int)).bind fun x54 => some { s with t_8 := x54 }
noncomputable def r8 (s : S) : Option S := some { s with t_10 := (0 : Int) }
noncomputable def r9 (s : S) : Option S := some { s with t_36 := (decide (s.t_10 < (s.t_0.length : Int))) }
noncomputable def r11 (s : S) : Option S := some { s with t_11 := (0 : Int) }
noncomputable def r12 (s : S) : Option S := (idx s.t_0 s.t_10).bind fun x69 => ((if (decide (s.t_11 < (x69.Parents.length : Int))) = true then (idx s.t_1 s.t_10).bind fun x89 => some x89 else some false)).bind fun x99 => some { s with t_52 := x99 }
noncomputable def r14 (s : S) : Option S := (idx s.t_0 s.t_10).bind fun x101 => (idx x101.Parents s.t_11).bind fun x114 => (idx s.t_1 x114).bind fun x124 => some { s with t_66 := (!x124) }
noncomputable def r15 (s : S) : Option S := (ref3_Fault.f (5 : Int) s.t_10).bind fun x134 => some { s with t_8 := x134 }
noncomputable def r13 (s : S) : Option S := some { s with t_11 := w64 (s.t_11 + (1 : Int)) }
noncomputable def r10 (s : S) : Option S := some { s with t_10 := w64 (s.t_10 + (1 : Int)) }
noncomputable def r16 (s : S) : Option S := some { s with t_12 := (0 : Int) }
noncomputable def r17 (s : S) : Option S := some { s with t_72 := (decide (s.t_12 < (s.t_0.length : Int))) }
noncomputable def r19 (s : S) : Option S := some { s with t_13 := (0 : Int) }
noncomputable def r20 (s : S) : Option S := (idx s.t_0 s.t_12).bind fun x149 => ((if (decide (s.t_13 < (x149.Parents.length : Int))) = true then (idx s.t_2 s.t_12).bind fun x169 => some x169 else some false)).bind fun x179 => some { s with t_88 := x179 }
noncomputable def r22 (s : S) : Option S := (idx s.t_0 s.t_12).bind fun x181 => (idx x181.Parents s.t_13).bind fun x194 => (idx s.t_2 x194).bind fun x204 => some { s with t_102 := (!x204) }
noncomputable def r23 (s : S) : Option S := (ref3_Fault.f (5 : Int) (w64 ((-3 : Int) - s.t_12))).bind fun x214 => some { s with t_8 := x214 }
noncomputable def r21 (s : S) : Option S := some { s with t_13 := w64 (s.t_13 + (1 : Int)) }
noncomputable def r18 (s : S) : Option S := some { s with t_12 := w64 (s.t_12 + (1 : Int)) }
noncomputable def r24 (s : S) : Option S := some { s with t_108 := (decide ((60 : Int) < (s.t_3.length : Int))) }
noncomputable def r25 (s : S) : Option S := (ref3_Fault.f (2 : Int) (-1 : Int)).bind fun x229 => some { s with t_8 := x229 }
noncomputable def r26 (s : S) : Option S := some { s with t_14 := (0 : Int) }
noncomputable def r27 (s : S) : Option S := some { s with t_113 := (decide (s.t_14 < (s.t_3.length : Int))) }
noncomputable def r29 (s : S) : Option S := (idx s.t_3 s.t_14).bind fun x244 => (ref3_In.f x244 (0 : Int) (w64 ((s.t_0.length : Int) - (1 : Int)))).bind fun x259 => ((if (!x259) = true then some true else (idx s.t_3 s.t_14).bind fun x266 => (idx s.t_1 x266).bind fun x276 => some (!x276))).bind fun x286 => some { s with t_134 := x286 }
noncomputable def r30 (s : S) : Option S := (ref3_Fault.f (6 : Int) s.t_14).bind fun x288 => some { s with t_8 := x288 }
noncomputable def r28 (s : S) : Option S := some { s with t_14 := w64 (s.t_14 + (1 : Int)) }
noncomputable def r31 (s : S) : Option S := some { s with t_8 := (⟨(0 : Int), (0 : Int)⟩ : Fault) }
noncomputable def body : S → Option (Ctl S R) := (seqM (regM r0)
  (seqM (seqM (regM r1)
  (seqM (regM r2)
  (condM (fun s => s.t_19) (seqM (regM r3)
  (retM retv))
  skipM)))
  (seqM (seqM (regM r4)
  (condM (fun s => s.t_25) (seqM (regM r5)
  (retM retv))
  skipM))
  (seqM (seqM (regM r6)
  (condM (fun s => s.t_31) (seqM (regM r7)
  (retM retv))
  skipM))
  (seqM (seqM (regM r8)
  (blockM 0 (iterM (seqM (seqM (regM r9)
  (condM (fun s => s.t_36) skipM
  (extM 0)))
  (seqM (blockM 1 (seqM (regM r11)
  (blockM 2 (iterM (seqM (seqM (regM r12)
  (condM (fun s => s.t_52) skipM
  (extM 2)))
  (seqM (blockM 3 (seqM (regM r14)
  (condM (fun s => s.t_66) (seqM (regM r15)
  (retM retv))
  skipM)))
  (regM r13)))))))
  (regM r10))))))
  (seqM (seqM (regM r16)
  (blockM 4 (iterM (seqM (seqM (regM r17)
  (condM (fun s => s.t_72) skipM
  (extM 4)))
  (seqM (blockM 5 (seqM (regM r19)
  (blockM 6 (iterM (seqM (seqM (regM r20)
  (condM (fun s => s.t_88) skipM
  (extM 6)))
  (seqM (blockM 7 (seqM (regM r22)
  (condM (fun s => s.t_102) (seqM (regM r23)
  (retM retv))
  skipM)))
  (regM r21)))))))
  (regM r18))))))
  (seqM (seqM (regM r24)
  (condM (fun s => s.t_108) (seqM (regM r25)
  (retM retv))
  skipM))
  (seqM (seqM (regM r26)
  (blockM 8 (iterM (seqM (seqM (regM r27)
  (condM (fun s => s.t_113) skipM
  (extM 8)))
  (seqM (blockM 9 (seqM (regM r29)
  (condM (fun s => s.t_134) (seqM (regM r30)
  (retM retv))
  skipM)))
  (regM r28))))))
  (seqM (regM r31)
  (retM retv))))))))))
noncomputable def f (a0 : (List Commit)) (a1 : (List Bool)) (a2 : (List Bool)) (a3 : (List Int)) : Option R := retOf (body { t_0 := a0, t_1 := a1, t_2 := a2, t_3 := a3, t_8 := (⟨(0 : Int), (0 : Int)⟩ : Fault), t_9 := (⟨(0 : Int), (0 : Int)⟩ : Fault), t_10 := (0 : Int), t_11 := (0 : Int), t_12 := (0 : Int), t_13 := (0 : Int), t_14 := (0 : Int), t_19 := false, t_25 := false, t_31 := false, t_36 := false, t_52 := false, t_66 := false, t_72 := false, t_88 := false, t_102 := false, t_108 := false, t_113 := false, t_134 := false })
end ref4_NegotiateFault

namespace ref4_Insert
structure S where
  l_0 : (List Int)
  n_1 : Int
  t_4 : (List Int)
  at_5 : Int
  t_8 : Bool
  t_21 : Bool
abbrev R := (List Int)
def retv (s : S) : R := (s.t_4)
noncomputable def r0 (s : S) : Option S := some { s with t_4 := [] }
noncomputable def r1 (s : S) : Option S := (ref3_Has.f s.l_0 s.n_1).bind fun x1 => some { s with t_8 := x1 }
noncomputable def r2 (s : S) : Option S := some { s with t_4 := s.l_0 }
noncomputable def r3 (s : S) : Option S := some { s with at_5 := (0 : Int) }
noncomputable def r4 (s : S) : Option S := ((if (decide (s.at_5 < (s.l_0.length : Int))) = true then (idx s.l_0 s.at_5).bind fun x13 => some (decide (x13 < s.n_1)) else some false)).bind fun x23 => some { s with t_21 := x23 }
noncomputable def r5 (s : S) : Option S := some { s with at_5 := w64 (s.at_5 + (1 : Int)) }
noncomputable def r6 (s : S) : Option S := (cutTo s.l_0 s.at_5).bind fun x30 => (cutFrom s.l_0 s.at_5).bind fun x37 => (appL 8 ([] : (List Int)) x30).bind fun x39 => (appL 8 x39 [s.n_1]).bind fun x50 => (appL 8 x50 x37).bind fun x56 => some { s with t_4 := x56 }
noncomputable def body : S → Option (Ctl S R) := (seqM (regM r0)
  (seqM (seqM (regM r1)
  (condM (fun s => s.t_8) (seqM (regM r2)
  (retM retv))
  skipM))
  (seqM (regM r3)
  (seqM (blockM 0 (iterM (seqM (seqM (regM r4)
  (condM (fun s => s.t_21) skipM
  (extM 0)))
  (blockM 1 (regM r5)))))
  (seqM (regM r6)
  (retM retv))))))
noncomputable def f (a0 : (List Int)) (a1 : Int) : Option R := retOf (body { l_0 := a0, n_1 := a1, t_4 := [], at_5 := (0 : Int), t_8 := false, t_21 := false })
end ref4_Insert

namespace ref4_Steps
structure S where
  t_0 : (List Commit)
  t_1 : (List Int)
  t_2 : Int
  t_6 : (List Int)
  t_7 : (List Int)
  t_8 : Int
  t_9 : (List Int)
  t_10 : Int
  t_11 : Int
  t_13 : Bool
  t_17 : Bool
  t_27 : Bool
  t_34 : Bool
  t_47 : Bool
  t_67 : Bool
abbrev R := (List Int)
def retv (s : S) : R := (s.t_6)
noncomputable def r0 (s : S) : Option S := some { s with t_6 := [] }
noncomputable def r1 (s : S) : Option S := some { s with t_7 := [] }
noncomputable def r2 (s : S) : Option S := some { s with t_13 := (decide (s.t_2 < (0 : Int))) }
noncomputable def r3 (s : S) : Option S := some { s with t_6 := [] }
noncomputable def r4 (s : S) : Option S := some { s with t_8 := (0 : Int) }
noncomputable def r5 (s : S) : Option S := some { s with t_17 := (decide (s.t_8 < (s.t_1.length : Int))) }
noncomputable def r7 (s : S) : Option S := (idx s.t_1 s.t_8).bind fun x6 => (ref4_Insert.f s.t_7 x6).bind fun x16 => some { s with t_7 := x16 }
noncomputable def r6 (s : S) : Option S := some { s with t_8 := w64 (s.t_8 + (1 : Int)) }
noncomputable def r8 (s : S) : Option S := some { s with t_27 := (decide ((0 : Int) < s.t_2)) }
noncomputable def r10 (s : S) : Option S := some { s with t_9 := s.t_7 }
noncomputable def r11 (s : S) : Option S := some { s with t_10 := (0 : Int) }
noncomputable def r12 (s : S) : Option S := some { s with t_34 := (decide (s.t_10 < (s.t_7.length : Int))) }
noncomputable def r14 (s : S) : Option S := some { s with t_11 := (0 : Int) }
noncomputable def r15 (s : S) : Option S := (idx s.t_7 s.t_10).bind fun x28 => (idx s.t_0 x28).bind fun x38 => some { s with t_47 := (decide (s.t_11 < (x38.Parents.length : Int))) }
noncomputable def r17 (s : S) : Option S := (idx s.t_7 s.t_10).bind fun x56 => (idx s.t_0 x56).bind fun x66 => (idx x66.Parents s.t_11).bind fun x79 => (ref4_Insert.f s.t_9 x79).bind fun x89 => some { s with t_9 := x89 }
noncomputable def r16 (s : S) : Option S := some { s with t_11 := w64 (s.t_11 + (1 : Int)) }
noncomputable def r13 (s : S) : Option S := some { s with t_10 := w64 (s.t_10 + (1 : Int)) }
noncomputable def r18 (s : S) : Option S := some { s with t_67 := (decide ((s.t_9.length : Int) = (s.t_7.length : Int))) }
noncomputable def r19 (s : S) : Option S := some { s with t_6 := s.t_7 }
noncomputable def r20 (s : S) : Option S := some { s with t_7 := s.t_9 }
noncomputable def r9 (s : S) : Option S := some { s with t_2 := w64 (s.t_2 - (1 : Int)) }
noncomputable def r21 (s : S) : Option S := some { s with t_6 := s.t_7 }
noncomputable def body : S → Option (Ctl S R) := (seqM (regM r0)
  (seqM (regM r1)
  (seqM (seqM (regM r2)
  (condM (fun s => s.t_13) (seqM (regM r3)
  (retM retv))
  skipM))
  (seqM (seqM (regM r4)
  (blockM 0 (iterM (seqM (seqM (regM r5)
  (condM (fun s => s.t_17) skipM
  (extM 0)))
  (seqM (blockM 1 (regM r7))
  (regM r6))))))
  (seqM (blockM 2 (iterM (seqM (seqM (regM r8)
  (condM (fun s => s.t_27) skipM
  (extM 2)))
  (seqM (blockM 3 (seqM (regM r10)
  (seqM (seqM (regM r11)
  (blockM 4 (iterM (seqM (seqM (regM r12)
  (condM (fun s => s.t_34) skipM
  (extM 4)))
  (seqM (blockM 5 (seqM (regM r14)
  (blockM 6 (iterM (seqM (seqM (regM r15)
  (condM (fun s => s.t_47) skipM
  (extM 6)))
  (seqM (blockM 7 (regM r17))
  (regM r16)))))))
  (regM r13))))))
  (seqM (seqM (regM r18)
  (condM (fun s => s.t_67) (seqM (regM r19)
  (retM retv))
  skipM))
  (regM r20)))))
  (regM r9)))))
  (seqM (regM r21)
  (retM retv)))))))
noncomputable def f (a0 : (List Commit)) (a1 : (List Int)) (a2 : Int) : Option R := retOf (body { t_0 := a0, t_1 := a1, t_2 := a2, t_6 := [], t_7 := [], t_8 := (0 : Int), t_9 := [], t_10 := (0 : Int), t_11 := (0 : Int), t_13 := false, t_17 := false, t_27 := false, t_34 := false, t_47 := false, t_67 := false })
end ref4_Steps

namespace ref4_SelectionFault
structure S where
  l_0 : (List Commit)
  numbers_1 : (List Int)
  t_4 : Fault
  f_5 : Fault
  i_6 : Int
  t_11 : Bool
  t_16 : Bool
  t_27 : Bool
  t_43 : Bool
abbrev R := Fault
def retv (s : S) : R := (s.t_4)
noncomputable def r0 (s : S) : Option S := some { s with t_4 := (⟨(0 : Int), (0 : Int)⟩ : Fault) }
noncomputable def r1 (s : S) : Option S := (ref3_HistoryFault.f s.l_0).bind fun x5 => some { s with f_5 := x5 }
noncomputable def r2 (s : S) : Option S := some { s with t_11 := (!decide (s.f_5.Code = (0 : Int))) }
noncomputable def r3 (s : S) : Option S := some { s with t_4 := s.f_5 }
noncomputable def r4 (s : S) : Option S := some { s with i_6 := (0 : Int) }
noncomputable def r5 (s : S) : Option S := some { s with t_16 := (decide (s.i_6 < (s.numbers_1.length : Int))) }
noncomputable def r7 (s : S) : Option S := (idx s.numbers_1 s.i_6).bind fun x29 => (ref3_In.f x29 (0 : Int) (w64 ((s.l_0.length : Int) - (1 : Int)))).bind fun x44 => some { s with t_27 := (!x44) }
noncomputable def r8 (s : S) : Option S := (ref3_Fault.f (6 : Int) s.i_6).bind fun x49 => some { s with t_4 := x49 }
noncomputable def r9 (s : S) : Option S := ((if (decide ((0 : Int) < s.i_6)) = true then (idx s.numbers_1 (w64 (s.i_6 - (1 : Int)))).bind fun x61 => (idx s.numbers_1 s.i_6).bind fun x71 => some (decide (x71 ≤ x61)) else some false)).bind fun x81 => some { s with t_43 := x81 }
noncomputable def r10 (s : S) : Option S := (ref3_Fault.f (5 : Int) s.i_6).bind fun x83 => some { s with t_4 := x83 }
noncomputable def r6 (s : S) : Option S := some { s with i_6 := w64 (s.i_6 + (1 : Int)) }
noncomputable def r11 (s : S) : Option S := some { s with t_4 := (⟨(0 : Int), (0 : Int)⟩ : Fault) }
noncomputable def body : S → Option (Ctl S R) := (seqM (regM r0)
  (seqM (seqM (regM r1)
  (seqM (regM r2)
  (condM (fun s => s.t_11) (seqM (regM r3)
  (retM retv))
  skipM)))
  (seqM (seqM (regM r4)
  (blockM 0 (iterM (seqM (seqM (regM r5)
  (condM (fun s => s.t_16) skipM
  (extM 0)))
  (seqM (blockM 1 (seqM (seqM (regM r7)
  (condM (fun s => s.t_27) (seqM (regM r8)
  (retM retv))
  skipM))
  (seqM (regM r9)
  (condM (fun s => s.t_43) (seqM (regM r10)
  (retM retv))
  skipM))))
  (regM r6))))))
  (seqM (regM r11)
  (retM retv)))))
noncomputable def f (a0 : (List Commit)) (a1 : (List Int)) : Option R := retOf (body { l_0 := a0, numbers_1 := a1, t_4 := (⟨(0 : Int), (0 : Int)⟩ : Fault), f_5 := (⟨(0 : Int), (0 : Int)⟩ : Fault), i_6 := (0 : Int), t_11 := false, t_16 := false, t_27 := false, t_43 := false })
end ref4_SelectionFault

namespace law4_ShallowCutMatchesSpec
structure S where
  t_0 : (List Commit)
  t_1 : (List Int)
  t_2 : Int
  t_6 : Bool
  t_7 : (List Int)
  t_8 : Fault
  t_9 : Fault
  t_10 : Int
  t_12 : Bool
  t_29 : Bool
  t_39 : Bool
  t_50 : Bool
  t_60 : Bool
  t_64 : Bool
abbrev R := Bool
def retv (s : S) : R := (s.t_6)
noncomputable def r0 (s : S) : Option S := some { s with t_6 := false }
noncomputable def r1 (s : S) : Option S := (law4_shallowExample.f ).bind fun x1 => some { s with t_12 := (!x1) }
noncomputable def r2 (s : S) : Option S := some { s with t_6 := false }
noncomputable def r3 (s : S) : Option S := (shallow_Cut.f s.t_0 s.t_1 s.t_2).bind fun x6 => some { s with t_7 := x6.1, t_8 := x6.2 }
noncomputable def r4 (s : S) : Option S := (ref3_HistoryFault.f s.t_0).bind fun x25 => some { s with t_9 := x25 }
noncomputable def r5 (s : S) : Option S := some { s with t_29 := ((decide (s.t_9.Code = (0 : Int))) && (decide ((60 : Int) < (s.t_1.length : Int)))) }
noncomputable def r6 (s : S) : Option S := (ref3_Fault.f (2 : Int) (-1 : Int)).bind fun x47 => some { s with t_9 := x47 }
noncomputable def r7 (s : S) : Option S := some { s with t_10 := (0 : Int) }
noncomputable def r8 (s : S) : Option S := some { s with t_39 := ((decide (s.t_10 < (s.t_1.length : Int))) && (decide (s.t_9.Code = (0 : Int)))) }
noncomputable def r10 (s : S) : Option S := (idx s.t_1 s.t_10).bind fun x65 => (ref3_In.f x65 (0 : Int) (w64 ((s.t_0.length : Int) - (1 : Int)))).bind fun x80 => some { s with t_50 := (!x80) }
noncomputable def r11 (s : S) : Option S := (ref3_Fault.f (6 : Int) s.t_10).bind fun x85 => some { s with t_9 := x85 }
noncomputable def r9 (s : S) : Option S := some { s with t_10 := w64 (s.t_10 + (1 : Int)) }
noncomputable def r12 (s : S) : Option S := ((if (decide (s.t_9.Code = (0 : Int))) = true then (ref3_In.f s.t_2 (0 : Int) (60 : Int)).bind fun x97 => some (!x97) else some false)).bind fun x102 => some { s with t_60 := x102 }
noncomputable def r13 (s : S) : Option S := (ref3_Fault.f (3 : Int) (-2 : Int)).bind fun x107 => some { s with t_9 := x107 }
noncomputable def r14 (s : S) : Option S := some { s with t_64 := (!decide (s.t_9.Code = (0 : Int))) }
noncomputable def r15 (s : S) : Option S := some { s with t_6 := ((decide (s.t_8 = s.t_9)) && (decide ((s.t_7.length : Int) = (0 : Int)))) }
noncomputable def r16 (s : S) : Option S := ((if (decide (s.t_8.Code = (0 : Int))) = true then (ref4_Steps.f s.t_0 s.t_1 (w64 (s.t_2 - (1 : Int)))).bind fun x131 => (ref3_Ints.f s.t_7 x131).bind fun x138 => some x138 else some false)).bind fun x143 => some { s with t_6 := x143 }
noncomputable def body : S → Option (Ctl S R) := (seqM (regM r0)
  (seqM (seqM (regM r1)
  (condM (fun s => s.t_12) (seqM (regM r2)
  (retM retv))
  skipM))
  (seqM (regM r3)
  (seqM (regM r4)
  (seqM (seqM (regM r5)
  (condM (fun s => s.t_29) (regM r6)
  skipM))
  (seqM (seqM (regM r7)
  (blockM 0 (iterM (seqM (seqM (regM r8)
  (condM (fun s => s.t_39) skipM
  (extM 0)))
  (seqM (blockM 1 (seqM (regM r10)
  (condM (fun s => s.t_50) (regM r11)
  skipM)))
  (regM r9))))))
  (seqM (seqM (regM r12)
  (condM (fun s => s.t_60) (regM r13)
  skipM))
  (seqM (seqM (regM r14)
  (condM (fun s => s.t_64) (seqM (regM r15)
  (retM retv))
  skipM))
  (seqM (regM r16)
  (retM retv))))))))))
noncomputable def f (a0 : (List Commit)) (a1 : (List Int)) (a2 : Int) : Option R := retOf (body { t_0 := a0, t_1 := a1, t_2 := a2, t_6 := false, t_7 := [], t_8 := (⟨(0 : Int), (0 : Int)⟩ : Fault), t_9 := (⟨(0 : Int), (0 : Int)⟩ : Fault), t_10 := (0 : Int), t_12 := false, t_29 := false, t_39 := false, t_50 := false, t_60 := false, t_64 := false })
end law4_ShallowCutMatchesSpec

namespace ref4_BoundaryOf
structure S where
  l_0 : (List Commit)
  numbers_1 : (List Int)
  t_4 : (List Int)
  out_5 : (List Int)
  i_6 : Int
  cut_7 : Bool
  k_8 : Int
  t_12 : Bool
  t_25 : Bool
  t_45 : Bool
abbrev R := (List Int)
def retv (s : S) : R := (s.t_4)
noncomputable def r0 (s : S) : Option S := some { s with t_4 := [] }
noncomputable def r1 (s : S) : Option S := some { s with out_5 := [] }
noncomputable def r2 (s : S) : Option S := some { s with i_6 := (0 : Int) }
noncomputable def r3 (s : S) : Option S := some { s with t_12 := (decide (s.i_6 < (s.numbers_1.length : Int))) }
noncomputable def r5 (s : S) : Option S := some { s with cut_7 := false }
noncomputable def r6 (s : S) : Option S := some { s with k_8 := (0 : Int) }
noncomputable def r7 (s : S) : Option S := (idx s.numbers_1 s.i_6).bind fun x6 => (idx s.l_0 x6).bind fun x16 => some { s with t_25 := (decide (s.k_8 < (x16.Parents.length : Int))) }
noncomputable def r9 (s : S) : Option S := ((if s.cut_7 = true then some true else (idx s.numbers_1 s.i_6).bind fun x36 => (idx s.l_0 x36).bind fun x46 => (idx x46.Parents s.k_8).bind fun x59 => (ref3_Has.f s.numbers_1 x59).bind fun x69 => some (!x69))).bind fun x74 => some { s with cut_7 := x74 }
noncomputable def r8 (s : S) : Option S := some { s with k_8 := w64 (s.k_8 + (1 : Int)) }
noncomputable def r10 (s : S) : Option S := some { s with t_45 := s.cut_7 }
noncomputable def r11 (s : S) : Option S := (idx s.numbers_1 s.i_6).bind fun x79 => (appL 8 s.out_5 [x79]).bind fun x94 => some { s with out_5 := x94 }
noncomputable def r4 (s : S) : Option S := some { s with i_6 := w64 (s.i_6 + (1 : Int)) }
noncomputable def r12 (s : S) : Option S := some { s with t_4 := s.out_5 }
noncomputable def body : S → Option (Ctl S R) := (seqM (regM r0)
  (seqM (regM r1)
  (seqM (seqM (regM r2)
  (blockM 0 (iterM (seqM (seqM (regM r3)
  (condM (fun s => s.t_12) skipM
  (extM 0)))
  (seqM (blockM 1 (seqM (regM r5)
  (seqM (seqM (regM r6)
  (blockM 2 (iterM (seqM (seqM (regM r7)
  (condM (fun s => s.t_25) skipM
  (extM 2)))
  (seqM (blockM 3 (regM r9))
  (regM r8))))))
  (seqM (regM r10)
  (condM (fun s => s.t_45) (regM r11)
  skipM)))))
  (regM r4))))))
  (seqM (regM r12)
  (retM retv)))))
noncomputable def f (a0 : (List Commit)) (a1 : (List Int)) : Option R := retOf (body { l_0 := a0, numbers_1 := a1, t_4 := [], out_5 := [], i_6 := (0 : Int), cut_7 := false, k_8 := (0 : Int), t_12 := false, t_25 := false, t_45 := false })
end ref4_BoundaryOf

namespace ref3_Commits
structure S where
  a_0 : (List Commit)
  b_1 : (List Commit)
  t_4 : Bool
  i_5 : Int
  x_6 : Commit
  y_7 : Commit
  t_12 : Bool
  t_16 : Bool
  t_60 : Bool
abbrev R := Bool
def retv (s : S) : R := (s.t_4)
noncomputable def r0 (s : S) : Option S := some { s with t_4 := false }
noncomputable def r1 (s : S) : Option S := some { s with t_12 := (!decide ((s.a_0.length : Int) = (s.b_1.length : Int))) }
noncomputable def r2 (s : S) : Option S := some { s with t_4 := false }
noncomputable def r3 (s : S) : Option S := some { s with i_5 := (0 : Int) }
noncomputable def r4 (s : S) : Option S := some { s with t_16 := (decide (s.i_5 < (s.a_0.length : Int))) }
noncomputable def r6 (s : S) : Option S := (idx s.a_0 s.i_5).bind fun x16 => (idx s.b_1 s.i_5).bind fun x28 => some { s with x_6 := x16, y_7 := x28 }
noncomputable def r7 (s : S) : Option S := (ref3_Ints.f s.x_6.Parents s.y_7.Parents).bind fun x74 => some { s with t_60 := (((((!x74) || (!decide (s.x_6.Author = s.y_7.Author))) || (!decide (s.x_6.Time = s.y_7.Time))) || (!decide (s.x_6.Tree = s.y_7.Tree))) || (!decide (s.x_6.Message = s.y_7.Message))) }
noncomputable def r8 (s : S) : Option S := some { s with t_4 := false }
noncomputable def r5 (s : S) : Option S := some { s with i_5 := w64 (s.i_5 + (1 : Int)) }
noncomputable def r9 (s : S) : Option S := some { s with t_4 := true }
noncomputable def body : S → Option (Ctl S R) := (seqM (regM r0)
  (seqM (seqM (regM r1)
  (condM (fun s => s.t_12) (seqM (regM r2)
  (retM retv))
  skipM))
  (seqM (seqM (regM r3)
  (blockM 0 (iterM (seqM (seqM (regM r4)
  (condM (fun s => s.t_16) skipM
  (extM 0)))
  (seqM (blockM 1 (seqM (regM r6)
  (seqM (regM r7)
  (condM (fun s => s.t_60) (seqM (regM r8)
  (retM retv))
  skipM))))
  (regM r5))))))
  (seqM (regM r9)
  (retM retv)))))
noncomputable def f (a0 : (List Commit)) (a1 : (List Commit)) : Option R := retOf (body { a_0 := a0, b_1 := a1, t_4 := false, i_5 := (0 : Int), x_6 := (⟨[], (0 : Int), (0 : Int), (0 : Int), ByteArray.empty⟩ : Commit), y_7 := (⟨[], (0 : Int), (0 : Int), (0 : Int), ByteArray.empty⟩ : Commit), t_12 := false, t_16 := false, t_60 := false })
end ref3_Commits

namespace ref4_ExtractOf
structure S where
  l_0 : (List Commit)
  numbers_1 : (List Int)
  t_4 : (List Commit)
  out_5 : (List Commit)
  i_6 : Int
  c_7 : Commit
  parents_8 : (List Int)
  k_9 : Int
  t_13 : Bool
  t_25 : Bool
  t_34 : Bool
abbrev R := (List Commit)
def retv (s : S) : R := (s.t_4)
noncomputable def r0 (s : S) : Option S := some { s with t_4 := [] }
noncomputable def r1 (s : S) : Option S := some { s with out_5 := [] }
noncomputable def r2 (s : S) : Option S := some { s with i_6 := (0 : Int) }
noncomputable def r3 (s : S) : Option S := some { s with t_13 := (decide (s.i_6 < (s.numbers_1.length : Int))) }
noncomputable def r5 (s : S) : Option S := (idx s.numbers_1 s.i_6).bind fun x6 => (idx s.l_0 x6).bind fun x16 => some { s with c_7 := x16 }
noncomputable def r6 (s : S) : Option S := some { s with parents_8 := [] }
noncomputable def r7 (s : S) : Option S := some { s with k_9 := (0 : Int) }
noncomputable def r8 (s : S) : Option S := some { s with t_25 := (decide (s.k_9 < s.i_6)) }
noncomputable def r10 (s : S) : Option S := (idx s.numbers_1 s.k_9).bind fun x38 => (ref3_Has.f s.c_7.Parents x38).bind fun x48 => some { s with t_34 := x48 }
noncomputable def r11 (s : S) : Option S := (appL 8 s.parents_8 [s.k_9]).bind fun x58 => some { s with parents_8 := x58 }
noncomputable def r9 (s : S) : Option S := some { s with k_9 := w64 (s.k_9 + (1 : Int)) }
noncomputable def r12 (s : S) : Option S := (appL 64 s.out_5 [(⟨s.parents_8, s.c_7.Author, s.c_7.Time, s.c_7.Tree, s.c_7.Message⟩ : Commit)]).bind fun x78 => some { s with out_5 := x78 }
noncomputable def r4 (s : S) : Option S := some { s with i_6 := w64 (s.i_6 + (1 : Int)) }
noncomputable def r13 (s : S) : Option S := some { s with t_4 := s.out_5 }
noncomputable def body : S → Option (Ctl S R) := (seqM (regM r0)
  (seqM (regM r1)
  (seqM (seqM (regM r2)
  (blockM 0 (iterM (seqM (seqM (regM r3)
  (condM (fun s => s.t_13) skipM
  (extM 0)))
  (seqM (blockM 1 (seqM (regM r5)
  (seqM (regM r6)
  (seqM (seqM (regM r7)
  (blockM 2 (iterM (seqM (seqM (regM r8)
  (condM (fun s => s.t_25) skipM
  (extM 2)))
  (seqM (blockM 3 (seqM (regM r10)
  (condM (fun s => s.t_34) (regM r11)
  skipM)))
  (regM r9))))))
  (regM r12)))))
  (regM r4))))))
  (seqM (regM r13)
  (retM retv)))))
noncomputable def f (a0 : (List Commit)) (a1 : (List Int)) : Option R := retOf (body { l_0 := a0, numbers_1 := a1, t_4 := [], out_5 := [], i_6 := (0 : Int), c_7 := (⟨[], (0 : Int), (0 : Int), (0 : Int), ByteArray.empty⟩ : Commit), parents_8 := [], k_9 := (0 : Int), t_13 := false, t_25 := false, t_34 := false })
end ref4_ExtractOf

namespace law4_ShallowSelectionMatchesSpec
structure S where
  t_0 : (List Commit)
  t_1 : (List Int)
  t_2 : Int
  t_6 : Bool
  t_7 : (List Int)
  t_8 : Fault
  t_9 : (List Int)
  t_10 : Fault
  t_11 : (List Commit)
  t_12 : Fault
  t_13 : Fault
  t_15 : Bool
  t_40 : Bool
  t_88 : Bool
  t_91 : Bool
abbrev R := Bool
def retv (s : S) : R := (s.t_6)
noncomputable def r0 (s : S) : Option S := some { s with t_6 := false }
noncomputable def r1 (s : S) : Option S := (law4_shallowExample.f ).bind fun x1 => some { s with t_15 := (!x1) }
noncomputable def r2 (s : S) : Option S := some { s with t_6 := false }
noncomputable def r3 (s : S) : Option S := (shallow_Boundary.f s.t_0 s.t_1).bind fun x6 => some { s with t_7 := x6.1, t_8 := x6.2 }
noncomputable def r4 (s : S) : Option S := (shallow_Deepen.f s.t_0 s.t_1 s.t_2).bind fun x25 => some { s with t_9 := x25.1, t_10 := x25.2 }
noncomputable def r5 (s : S) : Option S := (shallow_Extract.f s.t_0 s.t_1).bind fun x44 => some { s with t_11 := x44.1, t_12 := x44.2 }
noncomputable def r6 (s : S) : Option S := (ref4_SelectionFault.f s.t_0 s.t_1).bind fun x63 => some { s with t_13 := x63 }
noncomputable def r7 (s : S) : Option S := some { s with t_40 := (!decide (s.t_13.Code = (0 : Int))) }
noncomputable def r8 (s : S) : Option S := some { s with t_6 := ((((decide (s.t_8 = s.t_13)) && (decide (s.t_10 = s.t_13))) && (decide (s.t_12 = s.t_13))) && (decide ((w64 (w64 ((s.t_7.length : Int) + (s.t_9.length : Int)) + (s.t_11.length : Int))) = (0 : Int)))) }
noncomputable def r9 (s : S) : Option S := ((if ((!decide (s.t_8.Code = (0 : Int))) || (!decide (s.t_12.Code = (0 : Int)))) = true then some true else (ref4_BoundaryOf.f s.t_0 s.t_1).bind fun x118 => (ref3_Ints.f s.t_7 x118).bind fun x126 => some (!x126))).bind fun x132 => ((if x132 = true then some true else (ref4_ExtractOf.f s.t_0 s.t_1).bind fun x139 => (ref3_Commits.f s.t_11 x139).bind fun x147 => some (!x147))).bind fun x153 => some { s with t_88 := x153 }
noncomputable def r10 (s : S) : Option S := some { s with t_6 := false }
noncomputable def r11 (s : S) : Option S := (ref3_In.f s.t_2 (0 : Int) (60 : Int)).bind fun x158 => some { s with t_91 := (!x158) }
noncomputable def r12 (s : S) : Option S := (ref3_Fault.f (3 : Int) (-2 : Int)).bind fun x165 => some { s with t_6 := ((decide (s.t_10 = x165)) && (decide ((s.t_9.length : Int) = (0 : Int)))) }
noncomputable def r13 (s : S) : Option S := ((if (decide (s.t_10.Code = (0 : Int))) = true then (ref4_Steps.f s.t_0 s.t_1 s.t_2).bind fun x182 => (ref3_Ints.f s.t_9 x182).bind fun x189 => some x189 else some false)).bind fun x194 => some { s with t_6 := x194 }
noncomputable def body : S → Option (Ctl S R) := (seqM (regM r0)
  (seqM (seqM (regM r1)
  (condM (fun s => s.t_15) (seqM (regM r2)
  (retM retv))
  skipM))
  (seqM (regM r3)
  (seqM (regM r4)
  (seqM (regM r5)
  (seqM (regM r6)
  (seqM (seqM (regM r7)
  (condM (fun s => s.t_40) (seqM (regM r8)
  (retM retv))
  skipM))
  (seqM (seqM (regM r9)
  (condM (fun s => s.t_88) (seqM (regM r10)
  (retM retv))
  skipM))
  (seqM (seqM (regM r11)
  (condM (fun s => s.t_91) (seqM (regM r12)
  (retM retv))
  skipM))
  (seqM (regM r13)
  (retM retv)))))))))))
noncomputable def f (a0 : (List Commit)) (a1 : (List Int)) (a2 : Int) : Option R := retOf (body { t_0 := a0, t_1 := a1, t_2 := a2, t_6 := false, t_7 := [], t_8 := (⟨(0 : Int), (0 : Int)⟩ : Fault), t_9 := [], t_10 := (⟨(0 : Int), (0 : Int)⟩ : Fault), t_11 := [], t_12 := (⟨(0 : Int), (0 : Int)⟩ : Fault), t_13 := (⟨(0 : Int), (0 : Int)⟩ : Fault), t_15 := false, t_40 := false, t_88 := false, t_91 := false })
end law4_ShallowSelectionMatchesSpec

namespace law4_ShallowDeepenAdds
structure S where
  t_0 : (List Commit)
  t_1 : (List Int)
  t_2 : Int
  t_3 : Int
  t_8 : Bool
  t_9 : (List Int)
  t_10 : Fault
  t_11 : (List Int)
  t_12 : Fault
  t_13 : (List Int)
  t_14 : Fault
  t_16 : Bool
  t_26 : Bool
  t_36 : Bool
abbrev R := Bool
def retv (s : S) : R := (s.t_8)
noncomputable def r0 (s : S) : Option S := some { s with t_8 := false }
noncomputable def r1 (s : S) : Option S := (law4_shallowExample.f ).bind fun x1 => some { s with t_16 := (!x1) }
noncomputable def r2 (s : S) : Option S := some { s with t_8 := false }
noncomputable def r3 (s : S) : Option S := (ref3_In.f s.t_2 (1 : Int) (60 : Int)).bind fun x6 => ((if (!x6) = true then some true else (ref3_In.f s.t_3 (0 : Int) (w64 ((60 : Int) - s.t_2))).bind fun x13 => some (!x13))).bind fun x18 => some { s with t_26 := x18 }
noncomputable def r4 (s : S) : Option S := some { s with t_8 := true }
noncomputable def r5 (s : S) : Option S := (shallow_Cut.f s.t_0 s.t_1 s.t_2).bind fun x23 => some { s with t_9 := x23.1, t_10 := x23.2 }
noncomputable def r6 (s : S) : Option S := some { s with t_36 := (!decide (s.t_10.Code = (0 : Int))) }
noncomputable def r7 (s : S) : Option S := some { s with t_8 := (decide ((s.t_9.length : Int) = (0 : Int))) }
noncomputable def r8 (s : S) : Option S := (shallow_Deepen.f s.t_0 s.t_9 s.t_3).bind fun x47 => some { s with t_11 := x47.1, t_12 := x47.2 }
noncomputable def r9 (s : S) : Option S := (shallow_Cut.f s.t_0 s.t_1 (w64 (s.t_2 + s.t_3))).bind fun x66 => some { s with t_13 := x66.1, t_14 := x66.2 }
noncomputable def r10 (s : S) : Option S := ((if ((decide (s.t_12.Code = (0 : Int))) && (decide (s.t_14.Code = (0 : Int)))) = true then (ref3_Ints.f s.t_11 s.t_13).bind fun x90 => some x90 else some false)).bind fun x95 => some { s with t_8 := x95 }
noncomputable def body : S → Option (Ctl S R) := (seqM (regM r0)
  (seqM (seqM (regM r1)
  (condM (fun s => s.t_16) (seqM (regM r2)
  (retM retv))
  skipM))
  (seqM (seqM (regM r3)
  (condM (fun s => s.t_26) (seqM (regM r4)
  (retM retv))
  skipM))
  (seqM (regM r5)
  (seqM (seqM (regM r6)
  (condM (fun s => s.t_36) (seqM (regM r7)
  (retM retv))
  skipM))
  (seqM (regM r8)
  (seqM (regM r9)
  (seqM (regM r10)
  (retM retv)))))))))
noncomputable def f (a0 : (List Commit)) (a1 : (List Int)) (a2 : Int) (a3 : Int) : Option R := retOf (body { t_0 := a0, t_1 := a1, t_2 := a2, t_3 := a3, t_8 := false, t_9 := [], t_10 := (⟨(0 : Int), (0 : Int)⟩ : Fault), t_11 := [], t_12 := (⟨(0 : Int), (0 : Int)⟩ : Fault), t_13 := [], t_14 := (⟨(0 : Int), (0 : Int)⟩ : Fault), t_16 := false, t_26 := false, t_36 := false })
end law4_ShallowDeepenAdds

namespace law4_ShallowBoundaryDecides
structure S where
  l_0 : (List Commit)
  numbers_1 : (List Int)
  t_4 : Bool
  b_5 : (List Int)
  f_6 : Fault
  d_7 : (List Int)
  g_8 : Fault
  t_10 : Bool
  t_30 : Bool
abbrev R := Bool
def retv (s : S) : R := (s.t_4)
noncomputable def r0 (s : S) : Option S := some { s with t_4 := false }
noncomputable def r1 (s : S) : Option S := (law4_shallowExample.f ).bind fun x1 => some { s with t_10 := (!x1) }
noncomputable def r2 (s : S) : Option S := some { s with t_4 := false }
noncomputable def r3 (s : S) : Option S := (shallow_Boundary.f s.l_0 s.numbers_1).bind fun x6 => some { s with b_5 := x6.1, f_6 := x6.2 }
noncomputable def r4 (s : S) : Option S := (shallow_Deepen.f s.l_0 s.numbers_1 (1 : Int)).bind fun x25 => some { s with d_7 := x25.1, g_8 := x25.2 }
noncomputable def r5 (s : S) : Option S := some { s with t_30 := ((!decide (s.f_6.Code = (0 : Int))) || (!decide (s.g_8.Code = (0 : Int)))) }
noncomputable def r6 (s : S) : Option S := some { s with t_4 := ((decide (s.f_6 = s.g_8)) && (decide ((w64 ((s.b_5.length : Int) + (s.d_7.length : Int))) = (0 : Int)))) }
noncomputable def r7 (s : S) : Option S := (ref3_Ints.f s.d_7 s.numbers_1).bind fun x69 => some { s with t_4 := (decide ((decide ((s.b_5.length : Int) = (0 : Int))) = x69)) }
noncomputable def body : S → Option (Ctl S R) := (seqM (regM r0)
  (seqM (seqM (regM r1)
  (condM (fun s => s.t_10) (seqM (regM r2)
  (retM retv))
  skipM))
  (seqM (regM r3)
  (seqM (regM r4)
  (seqM (seqM (regM r5)
  (condM (fun s => s.t_30) (seqM (regM r6)
  (retM retv))
  skipM))
  (seqM (regM r7)
  (retM retv)))))))
noncomputable def f (a0 : (List Commit)) (a1 : (List Int)) : Option R := retOf (body { l_0 := a0, numbers_1 := a1, t_4 := false, b_5 := [], f_6 := (⟨(0 : Int), (0 : Int)⟩ : Fault), d_7 := [], g_8 := (⟨(0 : Int), (0 : Int)⟩ : Fault), t_10 := false, t_30 := false })
end law4_ShallowBoundaryDecides

namespace law4_ShallowExtractKeepsAncestry
structure S where
  t_0 : (List Commit)
  t_1 : (List Int)
  t_4 : Bool
  t_5 : (List Commit)
  t_6 : Fault
  t_7 : (List Int)
  t_8 : Fault
  t_9 : (List (List Bool))
  t_10 : (List (List Bool))
  t_11 : Int
  t_12 : Int
  t_13 : Bool
  t_15 : Bool
  t_42 : Bool
  t_61 : Bool
  t_69 : Bool
  t_75 : Bool
  t_119 : Bool
abbrev R := Bool
def retv (s : S) : R := (s.t_4)
noncomputable def r0 (s : S) : Option S := some { s with t_4 := false }
noncomputable def r1 (s : S) : Option S := (law4_shallowExample.f ).bind fun x1 => some { s with t_15 := (!x1) }
noncomputable def r2 (s : S) : Option S := some { s with t_4 := false }
noncomputable def r3 (s : S) : Option S := (shallow_Extract.f s.t_0 s.t_1).bind fun x6 => some { s with t_5 := x6.1, t_6 := x6.2 }
noncomputable def r4 (s : S) : Option S := (shallow_Boundary.f s.t_0 s.t_1).bind fun x25 => some { s with t_7 := x25.1, t_8 := x25.2 }
noncomputable def r5 (s : S) : Option S := ((if ((!decide (s.t_6.Code = (0 : Int))) || (!decide (s.t_8.Code = (0 : Int)))) = true then some true else (ref4_SelectionFault.f s.t_0 s.t_1).bind fun x49 => some (!decide (x49.Code = (0 : Int))))).bind fun x56 => some { s with t_42 := x56 }
noncomputable def r6 (s : S) : Option S := some { s with t_4 := ((decide (s.t_6 = s.t_8)) && (decide ((s.t_5.length : Int) = (0 : Int)))) }
noncomputable def r7 (s : S) : Option S := ((if (!decide ((s.t_5.length : Int) = (s.t_1.length : Int))) = true then some true else (ref3_HistoryFault.f s.t_5).bind fun x85 => some (!decide (x85.Code = (0 : Int))))).bind fun x92 => some { s with t_61 := x92 }
noncomputable def r8 (s : S) : Option S := some { s with t_4 := false }
noncomputable def r9 (s : S) : Option S := (ref3_Reach.f s.t_0).bind fun x97 => (ref3_Reach.f s.t_5).bind fun x104 => some { s with t_9 := x97, t_10 := x104 }
noncomputable def r10 (s : S) : Option S := some { s with t_11 := (0 : Int) }
noncomputable def r11 (s : S) : Option S := some { s with t_69 := (decide (s.t_11 < (s.t_5.length : Int))) }
noncomputable def r13 (s : S) : Option S := some { s with t_12 := (0 : Int) }
noncomputable def r14 (s : S) : Option S := some { s with t_75 := (decide (s.t_12 < (s.t_5.length : Int))) }
noncomputable def r16 (s : S) : Option S := (idx s.t_1 s.t_11).bind fun x127 => (idx s.t_9 x127).bind fun x137 => (idx s.t_1 s.t_12).bind fun x150 => (idx x137 x150).bind fun x160 => some { s with t_13 := x160 }
noncomputable def r17 (s : S) : Option S := (idx s.t_10 s.t_11).bind fun x170 => (idx x170 s.t_12).bind fun x183 => ((if (x183 && (!s.t_13)) = true then some true else ((if s.t_13 = true then (idx s.t_10 s.t_11).bind fun x200 => (idx x200 s.t_12).bind fun x213 => some (!x213) else some false)).bind fun x223 => some (x223 && (decide ((s.t_7.length : Int) = (0 : Int)))))).bind fun x233 => some { s with t_119 := x233 }
noncomputable def r18 (s : S) : Option S := some { s with t_4 := false }
noncomputable def r15 (s : S) : Option S := some { s with t_12 := w64 (s.t_12 + (1 : Int)) }
noncomputable def r12 (s : S) : Option S := some { s with t_11 := w64 (s.t_11 + (1 : Int)) }
noncomputable def r19 (s : S) : Option S := some { s with t_4 := true }
noncomputable def body : S → Option (Ctl S R) := (seqM (regM r0)
  (seqM (seqM (regM r1)
  (condM (fun s => s.t_15) (seqM (regM r2)
  (retM retv))
  skipM))
  (seqM (regM r3)
  (seqM (regM r4)
  (seqM (seqM (regM r5)
  (condM (fun s => s.t_42) (seqM (regM r6)
  (retM retv))
  skipM))
  (seqM (seqM (regM r7)
  (condM (fun s => s.t_61) (seqM (regM r8)
  (retM retv))
  skipM))
  (seqM (regM r9)
  (seqM (seqM (regM r10)
  (blockM 0 (iterM (seqM (seqM (regM r11)
  (condM (fun s => s.t_69) skipM
  (extM 0)))
  (seqM (blockM 1 (seqM (regM r13)
  (blockM 2 (iterM (seqM (seqM (regM r14)
  (condM (fun s => s.t_75) skipM
  (extM 2)))
  (seqM (blockM 3 (seqM (regM r16)
  (seqM (regM r17)
  (condM (fun s => s.t_119) (seqM (regM r18)
  (retM retv))
  skipM))))
  (regM r15)))))))
  (regM r12))))))
  (seqM (regM r19)
  (retM retv))))))))))
noncomputable def f (a0 : (List Commit)) (a1 : (List Int)) : Option R := retOf (body { t_0 := a0, t_1 := a1, t_4 := false, t_5 := [], t_6 := (⟨(0 : Int), (0 : Int)⟩ : Fault), t_7 := [], t_8 := (⟨(0 : Int), (0 : Int)⟩ : Fault), t_9 := [], t_10 := [], t_11 := (0 : Int), t_12 := (0 : Int), t_13 := false, t_15 := false, t_42 := false, t_61 := false, t_69 := false, t_75 := false, t_119 := false })
end law4_ShallowExtractKeepsAncestry

namespace ref3_OrderOf
structure S where
  t_0 : (List Commit)
  t_2 : (List Int)
  t_3 : (List Int)
  t_4 : Int
  t_5 : Int
  t_6 : Bool
  t_7 : Int
  t_12 : Bool
  t_16 : Bool
  t_26 : Bool
  t_41 : Bool
  t_59 : Bool
abbrev R := (List Int)
def retv (s : S) : R := (s.t_2)
noncomputable def r0 (s : S) : Option S := some { s with t_2 := [] }
noncomputable def r1 (s : S) : Option S := some { s with t_3 := [] }
noncomputable def r2 (s : S) : Option S := some { s with t_12 := (decide ((s.t_3.length : Int) < (s.t_0.length : Int))) }
noncomputable def r3 (s : S) : Option S := some { s with t_4 := (-1 : Int) }
noncomputable def r4 (s : S) : Option S := some { s with t_5 := (0 : Int) }
noncomputable def r5 (s : S) : Option S := some { s with t_16 := (decide (s.t_5 < (s.t_0.length : Int))) }
noncomputable def r7 (s : S) : Option S := (ref3_Has.f s.t_3 s.t_5).bind fun x16 => some { s with t_6 := (!x16) }
noncomputable def r8 (s : S) : Option S := some { s with t_7 := (0 : Int) }
noncomputable def r9 (s : S) : Option S := some { s with t_26 := (decide (s.t_7 < (s.t_0.length : Int))) }
noncomputable def r11 (s : S) : Option S := (idx s.t_0 s.t_7).bind fun x27 => (ref3_Has.f x27.Parents s.t_5).bind fun x40 => ((if x40 = true then (ref3_Has.f s.t_3 s.t_7).bind fun x48 => some (!x48) else some false)).bind fun x54 => some { s with t_41 := x54 }
noncomputable def r12 (s : S) : Option S := some { s with t_6 := false }
noncomputable def r10 (s : S) : Option S := some { s with t_7 := w64 (s.t_7 + (1 : Int)) }
noncomputable def r13 (s : S) : Option S := ((if s.t_6 = true then ((if (decide (s.t_4 < (0 : Int))) = true then some true else (idx s.t_0 s.t_5).bind fun x63 => (idx s.t_0 s.t_4).bind fun x73 => some (decide (x73.Time ≤ x63.Time)))).bind fun x83 => some x83 else some false)).bind fun x85 => some { s with t_59 := x85 }
noncomputable def r14 (s : S) : Option S := some { s with t_4 := s.t_5 }
noncomputable def r6 (s : S) : Option S := some { s with t_5 := w64 (s.t_5 + (1 : Int)) }
noncomputable def r15 (s : S) : Option S := (appL 8 s.t_3 [s.t_4]).bind fun x92 => some { s with t_3 := x92 }
noncomputable def r16 (s : S) : Option S := some { s with t_2 := s.t_3 }
noncomputable def body : S → Option (Ctl S R) := (seqM (regM r0)
  (seqM (regM r1)
  (seqM (blockM 0 (iterM (seqM (seqM (regM r2)
  (condM (fun s => s.t_12) skipM
  (extM 0)))
  (blockM 1 (seqM (regM r3)
  (seqM (seqM (regM r4)
  (blockM 2 (iterM (seqM (seqM (regM r5)
  (condM (fun s => s.t_16) skipM
  (extM 2)))
  (seqM (blockM 3 (seqM (regM r7)
  (seqM (seqM (regM r8)
  (blockM 4 (iterM (seqM (seqM (regM r9)
  (condM (fun s => s.t_26) skipM
  (extM 4)))
  (seqM (blockM 5 (seqM (regM r11)
  (condM (fun s => s.t_41) (regM r12)
  skipM)))
  (regM r10))))))
  (seqM (regM r13)
  (condM (fun s => s.t_59) (regM r14)
  skipM)))))
  (regM r6))))))
  (regM r15)))))))
  (seqM (regM r16)
  (retM retv)))))
noncomputable def f (a0 : (List Commit)) : Option R := retOf (body { t_0 := a0, t_2 := [], t_3 := [], t_4 := (0 : Int), t_5 := (0 : Int), t_6 := false, t_7 := (0 : Int), t_12 := false, t_16 := false, t_26 := false, t_41 := false, t_59 := false })
end ref3_OrderOf

namespace ref4_RoundsOf
structure S where
  t_0 : (List Commit)
  t_1 : (List Bool)
  t_2 : (List Bool)
  t_6 : (List (List Int))
  t_7 : (List Int)
  t_8 : (List (List Bool))
  t_9 : (List Int)
  t_10 : (List (List Int))
  t_11 : Int
  t_12 : Int
  t_13 : (List Int)
  t_14 : Int
  t_15 : Int
  t_16 : Bool
  t_17 : Int
  t_25 : Bool
  t_37 : Bool
  t_57 : Bool
  t_78 : Bool
  t_79 : Bool
  t_86 : Bool
abbrev R := (List (List Int))
def retv (s : S) : R := (s.t_6)
noncomputable def r0 (s : S) : Option S := some { s with t_6 := [] }
noncomputable def r1 (s : S) : Option S := (ref3_OrderOf.f s.t_0).bind fun x1 => some { s with t_7 := x1 }
noncomputable def r2 (s : S) : Option S := (ref3_Reach.f s.t_0).bind fun x11 => some { s with t_8 := x11 }
noncomputable def r3 (s : S) : Option S := some { s with t_9 := [] }
noncomputable def r4 (s : S) : Option S := some { s with t_10 := [] }
noncomputable def r5 (s : S) : Option S := some { s with t_11 := (0 : Int) }
noncomputable def r7 (s : S) : Option S := some { s with t_12 := (16 : Int) }
noncomputable def r8 (s : S) : Option S := some { s with t_25 := (decide (s.t_11 < (4 : Int))) }
noncomputable def r9 (s : S) : Option S := if (0 : Int) ≤ s.t_11 then some { s with t_12 := shlV .i64 (1 : Int) s.t_11 } else none
noncomputable def r10 (s : S) : Option S := some { s with t_13 := [] }
noncomputable def r11 (s : S) : Option S := some { s with t_14 := (0 : Int) }
noncomputable def r12 (s : S) : Option S := some { s with t_37 := ((decide (s.t_14 < (s.t_7.length : Int))) && (decide ((s.t_13.length : Int) < s.t_12))) }
noncomputable def r14 (s : S) : Option S := (idx s.t_7 s.t_14).bind fun x34 => some { s with t_15 := x34 }
noncomputable def r15 (s : S) : Option S := (idx s.t_2 s.t_15).bind fun x44 => ((if x44 = true then (ref3_Has.f s.t_9 s.t_15).bind fun x57 => some (!x57) else some false)).bind fun x63 => some { s with t_16 := x63 }
noncomputable def r16 (s : S) : Option S := some { s with t_17 := (0 : Int) }
noncomputable def r17 (s : S) : Option S := some { s with t_57 := (decide (s.t_17 < (s.t_9.length : Int))) }
noncomputable def r19 (s : S) : Option S := (idx s.t_9 s.t_17).bind fun x72 => (idx s.t_1 x72).bind fun x78 => ((if x78 = true then (idx s.t_9 s.t_17).bind fun x90 => (idx s.t_8 x90).bind fun x96 => (idx x96 s.t_15).bind fun x109 => some x109 else some false)).bind fun x119 => some { s with t_78 := x119 }
noncomputable def r20 (s : S) : Option S := some { s with t_16 := false }
noncomputable def r18 (s : S) : Option S := some { s with t_17 := w64 (s.t_17 + (1 : Int)) }
noncomputable def r21 (s : S) : Option S := some { s with t_79 := s.t_16 }
noncomputable def r22 (s : S) : Option S := (appL 8 s.t_13 [s.t_15]).bind fun x126 => some { s with t_13 := x126 }
noncomputable def r13 (s : S) : Option S := some { s with t_14 := w64 (s.t_14 + (1 : Int)) }
noncomputable def r23 (s : S) : Option S := some { s with t_86 := (decide ((s.t_13.length : Int) = (0 : Int))) }
noncomputable def r24 (s : S) : Option S := some { s with t_6 := s.t_10 }
noncomputable def r25 (s : S) : Option S := (appL 24 s.t_10 [s.t_13]).bind fun x144 => some { s with t_10 := x144 }
noncomputable def r26 (s : S) : Option S := (appL 8 s.t_9 s.t_13).bind fun x150 => some { s with t_9 := x150 }
noncomputable def r6 (s : S) : Option S := some { s with t_11 := w64 (s.t_11 + (1 : Int)) }
noncomputable def body : S → Option (Ctl S R) := (seqM (regM r0)
  (seqM (regM r1)
  (seqM (regM r2)
  (seqM (regM r3)
  (seqM (regM r4)
  (seqM (regM r5)
  (blockM 0 (iterM (seqM (blockM 1 (seqM (regM r7)
  (seqM (seqM (regM r8)
  (condM (fun s => s.t_25) (regM r9)
  skipM))
  (seqM (regM r10)
  (seqM (seqM (regM r11)
  (blockM 2 (iterM (seqM (seqM (regM r12)
  (condM (fun s => s.t_37) skipM
  (extM 2)))
  (seqM (blockM 3 (seqM (regM r14)
  (seqM (regM r15)
  (seqM (seqM (regM r16)
  (blockM 4 (iterM (seqM (seqM (regM r17)
  (condM (fun s => s.t_57) skipM
  (extM 4)))
  (seqM (blockM 5 (seqM (regM r19)
  (condM (fun s => s.t_78) (regM r20)
  skipM)))
  (regM r18))))))
  (seqM (regM r21)
  (condM (fun s => s.t_79) (regM r22)
  skipM))))))
  (regM r13))))))
  (seqM (seqM (regM r23)
  (condM (fun s => s.t_86) (seqM (regM r24)
  (retM retv))
  skipM))
  (seqM (regM r25)
  (regM r26))))))))
  (regM r6))))))))))
noncomputable def f (a0 : (List Commit)) (a1 : (List Bool)) (a2 : (List Bool)) : Option R := retOf (body { t_0 := a0, t_1 := a1, t_2 := a2, t_6 := [], t_7 := [], t_8 := [], t_9 := [], t_10 := [], t_11 := (0 : Int), t_12 := (0 : Int), t_13 := [], t_14 := (0 : Int), t_15 := (0 : Int), t_16 := false, t_17 := (0 : Int), t_25 := false, t_37 := false, t_57 := false, t_78 := false, t_79 := false, t_86 := false })
end ref4_RoundsOf

namespace ref4_LacksOf
structure S where
  l_0 : (List Commit)
  wants_1 : (List Int)
  have_2 : (List Bool)
  t_6 : (List Int)
  t_7 : (List (List Bool))
  out_8 : (List Int)
  i_9 : Int
  is_10 : Bool
  k_11 : Int
  t_17 : Bool
  t_23 : Bool
  t_46 : Bool
abbrev R := (List Int)
def retv (s : S) : R := (s.t_6)
noncomputable def r0 (s : S) : Option S := some { s with t_6 := [] }
noncomputable def r1 (s : S) : Option S := (ref3_Reach.f s.l_0).bind fun x1 => some { s with t_7 := x1 }
noncomputable def r2 (s : S) : Option S := some { s with out_8 := [] }
noncomputable def r3 (s : S) : Option S := some { s with i_9 := (0 : Int) }
noncomputable def r4 (s : S) : Option S := some { s with t_17 := (decide (s.i_9 < (s.l_0.length : Int))) }
noncomputable def r6 (s : S) : Option S := some { s with is_10 := false }
noncomputable def r7 (s : S) : Option S := some { s with k_11 := (0 : Int) }
noncomputable def r8 (s : S) : Option S := some { s with t_23 := (decide (s.k_11 < (s.wants_1.length : Int))) }
noncomputable def r10 (s : S) : Option S := ((if s.is_10 = true then some true else (idx s.wants_1 s.k_11).bind fun x23 => (idx s.t_7 x23).bind fun x33 => (idx x33 s.i_9).bind fun x46 => some x46)).bind fun x56 => some { s with is_10 := x56 }
noncomputable def r9 (s : S) : Option S := some { s with k_11 := w64 (s.k_11 + (1 : Int)) }
noncomputable def r11 (s : S) : Option S := ((if s.is_10 = true then (idx s.have_2 s.i_9).bind fun x60 => some (!x60) else some false)).bind fun x70 => some { s with t_46 := x70 }
noncomputable def r12 (s : S) : Option S := (appL 8 s.out_8 [s.i_9]).bind fun x77 => some { s with out_8 := x77 }
noncomputable def r5 (s : S) : Option S := some { s with i_9 := w64 (s.i_9 + (1 : Int)) }
noncomputable def r13 (s : S) : Option S := some { s with t_6 := s.out_8 }
noncomputable def body : S → Option (Ctl S R) := (seqM (regM r0)
  (seqM (regM r1)
  (seqM (regM r2)
  (seqM (seqM (regM r3)
  (blockM 0 (iterM (seqM (seqM (regM r4)
  (condM (fun s => s.t_17) skipM
  (extM 0)))
  (seqM (blockM 1 (seqM (regM r6)
  (seqM (seqM (regM r7)
  (blockM 2 (iterM (seqM (seqM (regM r8)
  (condM (fun s => s.t_23) skipM
  (extM 2)))
  (seqM (blockM 3 (regM r10))
  (regM r9))))))
  (seqM (regM r11)
  (condM (fun s => s.t_46) (regM r12)
  skipM)))))
  (regM r5))))))
  (seqM (regM r13)
  (retM retv))))))
noncomputable def f (a0 : (List Commit)) (a1 : (List Int)) (a2 : (List Bool)) : Option R := retOf (body { l_0 := a0, wants_1 := a1, have_2 := a2, t_6 := [], t_7 := [], out_8 := [], i_9 := (0 : Int), is_10 := false, k_11 := (0 : Int), t_17 := false, t_23 := false, t_46 := false })
end ref4_LacksOf

namespace law4_NegotiateMatchesSpec
structure S where
  t_0 : (List Commit)
  t_1 : (List Bool)
  t_2 : (List Bool)
  t_3 : (List Int)
  t_8 : Bool
  t_9 : (List Int)
  t_10 : Fault
  t_11 : (List (List Int))
  t_12 : (List Int)
  t_13 : Fault
  t_14 : Fault
  t_15 : (List (List Int))
  t_16 : Int
  t_18 : Bool
  t_43 : Bool
  t_96 : Bool
  t_100 : Bool
  t_112 : Bool
abbrev R := Bool
def retv (s : S) : R := (s.t_8)
noncomputable def r0 (s : S) : Option S := some { s with t_8 := false }
noncomputable def r1 (s : S) : Option S := (law4_negotiateExample.f ).bind fun x1 => some { s with t_18 := (!x1) }
noncomputable def r2 (s : S) : Option S := some { s with t_8 := false }
noncomputable def r3 (s : S) : Option S := (negotiate_Missing.f s.t_0 s.t_1 s.t_2 s.t_3).bind fun x6 => some { s with t_9 := x6.1, t_10 := x6.2 }
noncomputable def r4 (s : S) : Option S := (negotiate_Run.f s.t_0 s.t_1 s.t_2 s.t_3).bind fun x25 => some { s with t_11 := x25.1, t_12 := x25.2.1, t_13 := x25.2.2 }
noncomputable def r5 (s : S) : Option S := (ref4_NegotiateFault.f s.t_0 s.t_1 s.t_2 s.t_3).bind fun x49 => some { s with t_14 := x49 }
noncomputable def r6 (s : S) : Option S := some { s with t_43 := (!decide (s.t_14.Code = (0 : Int))) }
noncomputable def r7 (s : S) : Option S := some { s with t_8 := (((decide (s.t_10 = s.t_14)) && (decide (s.t_13 = s.t_14))) && (decide ((w64 (w64 ((s.t_9.length : Int) + (s.t_11.length : Int)) + (s.t_12.length : Int))) = (0 : Int)))) }
noncomputable def r8 (s : S) : Option S := (ref4_RoundsOf.f s.t_0 s.t_1 s.t_2).bind fun x92 => some { s with t_15 := x92 }
noncomputable def r9 (s : S) : Option S := ((if ((!decide (s.t_10.Code = (0 : Int))) || (!decide (s.t_13.Code = (0 : Int)))) = true then some true else (ref4_LacksOf.f s.t_0 s.t_3 s.t_2).bind fun x107 => (ref3_Ints.f s.t_9 x107).bind fun x115 => some (!x115))).bind fun x121 => ((if x121 = true then some true else (ref3_Ints.f s.t_12 s.t_9).bind fun x128 => some (!x128))).bind fun x133 => some { s with t_96 := (x133 || (!decide ((s.t_11.length : Int) = (s.t_15.length : Int)))) }
noncomputable def r10 (s : S) : Option S := some { s with t_8 := false }
noncomputable def r11 (s : S) : Option S := some { s with t_16 := (0 : Int) }
noncomputable def r12 (s : S) : Option S := some { s with t_100 := (decide (s.t_16 < (s.t_11.length : Int))) }
noncomputable def r14 (s : S) : Option S := (idx s.t_11 s.t_16).bind fun x156 => (idx s.t_15 s.t_16).bind fun x169 => (ref3_Ints.f x156 x169).bind fun x182 => some { s with t_112 := (!x182) }
noncomputable def r15 (s : S) : Option S := some { s with t_8 := false }
noncomputable def r13 (s : S) : Option S := some { s with t_16 := w64 (s.t_16 + (1 : Int)) }
noncomputable def r16 (s : S) : Option S := some { s with t_8 := true }
noncomputable def body : S → Option (Ctl S R) := (seqM (regM r0)
  (seqM (seqM (regM r1)
  (condM (fun s => s.t_18) (seqM (regM r2)
  (retM retv))
  skipM))
  (seqM (regM r3)
  (seqM (regM r4)
  (seqM (seqM (regM r5)
  (seqM (regM r6)
  (condM (fun s => s.t_43) (seqM (regM r7)
  (retM retv))
  skipM)))
  (seqM (regM r8)
  (seqM (seqM (regM r9)
  (condM (fun s => s.t_96) (seqM (regM r10)
  (retM retv))
  skipM))
  (seqM (seqM (regM r11)
  (blockM 0 (iterM (seqM (seqM (regM r12)
  (condM (fun s => s.t_100) skipM
  (extM 0)))
  (seqM (blockM 1 (seqM (regM r14)
  (condM (fun s => s.t_112) (seqM (regM r15)
  (retM retv))
  skipM)))
  (regM r13))))))
  (seqM (regM r16)
  (retM retv))))))))))
noncomputable def f (a0 : (List Commit)) (a1 : (List Bool)) (a2 : (List Bool)) (a3 : (List Int)) : Option R := retOf (body { t_0 := a0, t_1 := a1, t_2 := a2, t_3 := a3, t_8 := false, t_9 := [], t_10 := (⟨(0 : Int), (0 : Int)⟩ : Fault), t_11 := [], t_12 := [], t_13 := (⟨(0 : Int), (0 : Int)⟩ : Fault), t_14 := (⟨(0 : Int), (0 : Int)⟩ : Fault), t_15 := [], t_16 := (0 : Int), t_18 := false, t_43 := false, t_96 := false, t_100 := false, t_112 := false })
end law4_NegotiateMatchesSpec

namespace law4_NegotiateSendsMissing
structure S where
  l_0 : (List Commit)
  sender_1 : (List Bool)
  receiver_2 : (List Bool)
  wants_3 : (List Int)
  t_8 : Bool
  m_9 : (List Int)
  f_10 : Fault
  r_11 : (List (List Int))
  sent_12 : (List Int)
  g_13 : Fault
  t_15 : Bool
  t_40 : Bool
abbrev R := Bool
def retv (s : S) : R := (s.t_8)
noncomputable def r0 (s : S) : Option S := some { s with t_8 := false }
noncomputable def r1 (s : S) : Option S := (law4_negotiateExample.f ).bind fun x1 => some { s with t_15 := (!x1) }
noncomputable def r2 (s : S) : Option S := some { s with t_8 := false }
noncomputable def r3 (s : S) : Option S := (negotiate_Missing.f s.l_0 s.sender_1 s.receiver_2 s.wants_3).bind fun x6 => some { s with m_9 := x6.1, f_10 := x6.2 }
noncomputable def r4 (s : S) : Option S := (negotiate_Run.f s.l_0 s.sender_1 s.receiver_2 s.wants_3).bind fun x25 => some { s with r_11 := x25.1, sent_12 := x25.2.1, g_13 := x25.2.2 }
noncomputable def r5 (s : S) : Option S := some { s with t_40 := ((!decide (s.f_10.Code = (0 : Int))) || (!decide (s.g_13.Code = (0 : Int)))) }
noncomputable def r6 (s : S) : Option S := some { s with t_8 := ((decide (s.f_10 = s.g_13)) && (decide ((w64 (w64 ((s.m_9.length : Int) + (s.r_11.length : Int)) + (s.sent_12.length : Int))) = (0 : Int)))) }
noncomputable def r7 (s : S) : Option S := (ref3_Ints.f s.m_9 s.sent_12).bind fun x74 => some { s with t_8 := x74 }
noncomputable def body : S → Option (Ctl S R) := (seqM (regM r0)
  (seqM (seqM (regM r1)
  (condM (fun s => s.t_15) (seqM (regM r2)
  (retM retv))
  skipM))
  (seqM (regM r3)
  (seqM (regM r4)
  (seqM (seqM (regM r5)
  (condM (fun s => s.t_40) (seqM (regM r6)
  (retM retv))
  skipM))
  (seqM (regM r7)
  (retM retv)))))))
noncomputable def f (a0 : (List Commit)) (a1 : (List Bool)) (a2 : (List Bool)) (a3 : (List Int)) : Option R := retOf (body { l_0 := a0, sender_1 := a1, receiver_2 := a2, wants_3 := a3, t_8 := false, m_9 := [], f_10 := (⟨(0 : Int), (0 : Int)⟩ : Fault), r_11 := [], sent_12 := [], g_13 := (⟨(0 : Int), (0 : Int)⟩ : Fault), t_15 := false, t_40 := false })
end law4_NegotiateSendsMissing

namespace law4_NegotiateCompletes
structure S where
  t_0 : (List Commit)
  t_1 : (List Bool)
  t_2 : (List Bool)
  t_3 : (List Int)
  t_8 : Bool
  t_10 : (List Int)
  t_11 : Fault
  t_12 : (List Bool)
  t_13 : Int
  t_14 : Int
  t_15 : Int
  t_16 : Int
  t_18 : Bool
  t_39 : Bool
  t_48 : Bool
  t_78 : Bool
  t_88 : Bool
  t_98 : Bool
  t_102 : Bool
  t_112 : Bool
  t_132 : Bool
abbrev R := Bool
def retv (s : S) : R := (s.t_8)
noncomputable def r0 (s : S) : Option S := some { s with t_8 := false }
noncomputable def r1 (s : S) : Option S := (law4_negotiateExample.f ).bind fun x1 => some { s with t_18 := (!x1) }
noncomputable def r2 (s : S) : Option S := some { s with t_8 := false }
noncomputable def r3 (s : S) : Option S := (negotiate_Run.f s.t_0 s.t_1 s.t_2 s.t_3).bind fun x6 => some { s with t_10 := x6.2.1, t_11 := x6.2.2 }
noncomputable def r4 (s : S) : Option S := ((if (!decide (s.t_11.Code = (0 : Int))) = true then some true else (ref4_NegotiateFault.f s.t_0 s.t_1 s.t_2 s.t_3).bind fun x29 => some (!decide (x29.Code = (0 : Int))))).bind fun x36 => some { s with t_39 := x36 }
noncomputable def r5 (s : S) : Option S := some { s with t_8 := (decide ((s.t_10.length : Int) = (0 : Int))) }
noncomputable def r6 (s : S) : Option S := (appL 1 ([] : (List Bool)) s.t_2).bind fun x46 => some { s with t_12 := x46 }
noncomputable def r7 (s : S) : Option S := some { s with t_13 := (0 : Int) }
noncomputable def r8 (s : S) : Option S := some { s with t_48 := (decide (s.t_13 < (s.t_10.length : Int))) }
noncomputable def r10 (s : S) : Option S := (idx s.t_10 s.t_13).bind fun x57 => (ref3_In.f x57 (0 : Int) (w64 ((s.t_0.length : Int) - (1 : Int)))).bind fun x72 => ((if (!x72) = true then some true else (idx s.t_10 s.t_13).bind fun x79 => (idx s.t_12 x79).bind fun x89 => some x89)).bind fun x95 => ((if x95 = true then some true else (idx s.t_10 s.t_13).bind fun x99 => (idx s.t_1 x99).bind fun x109 => some (!x109))).bind fun x119 => some { s with t_78 := x119 }
noncomputable def r11 (s : S) : Option S := some { s with t_8 := false }
noncomputable def r12 (s : S) : Option S := (idx s.t_10 s.t_13).bind fun x121 => (idx s.t_12 x121).bind fun x131 => some { s with t_12 := setL s.t_12 x121 true }
noncomputable def r9 (s : S) : Option S := some { s with t_13 := w64 (s.t_13 + (1 : Int)) }
noncomputable def r13 (s : S) : Option S := some { s with t_14 := (0 : Int) }
noncomputable def r14 (s : S) : Option S := some { s with t_88 := (decide (s.t_14 < (s.t_3.length : Int))) }
noncomputable def r16 (s : S) : Option S := (idx s.t_3 s.t_14).bind fun x145 => (idx s.t_12 x145).bind fun x155 => some { s with t_98 := (!x155) }
noncomputable def r17 (s : S) : Option S := some { s with t_8 := false }
noncomputable def r15 (s : S) : Option S := some { s with t_14 := w64 (s.t_14 + (1 : Int)) }
noncomputable def r18 (s : S) : Option S := some { s with t_15 := (0 : Int) }
noncomputable def r19 (s : S) : Option S := some { s with t_102 := (decide (s.t_15 < (s.t_0.length : Int))) }
noncomputable def r21 (s : S) : Option S := some { s with t_16 := (0 : Int) }
noncomputable def r22 (s : S) : Option S := (idx s.t_0 s.t_15).bind fun x166 => some { s with t_112 := (decide (s.t_16 < (x166.Parents.length : Int))) }
noncomputable def r24 (s : S) : Option S := (idx s.t_12 s.t_15).bind fun x184 => ((if x184 = true then (idx s.t_0 s.t_15).bind fun x192 => (idx x192.Parents s.t_16).bind fun x205 => (idx s.t_12 x205).bind fun x215 => some (!x215) else some false)).bind fun x221 => some { s with t_132 := x221 }
noncomputable def r25 (s : S) : Option S := some { s with t_8 := false }
noncomputable def r23 (s : S) : Option S := some { s with t_16 := w64 (s.t_16 + (1 : Int)) }
noncomputable def r20 (s : S) : Option S := some { s with t_15 := w64 (s.t_15 + (1 : Int)) }
noncomputable def r26 (s : S) : Option S := some { s with t_8 := true }
noncomputable def body : S → Option (Ctl S R) := (seqM (regM r0)
  (seqM (seqM (regM r1)
  (condM (fun s => s.t_18) (seqM (regM r2)
  (retM retv))
  skipM))
  (seqM (regM r3)
  (seqM (seqM (regM r4)
  (condM (fun s => s.t_39) (seqM (regM r5)
  (retM retv))
  skipM))
  (seqM (regM r6)
  (seqM (seqM (regM r7)
  (blockM 0 (iterM (seqM (seqM (regM r8)
  (condM (fun s => s.t_48) skipM
  (extM 0)))
  (seqM (blockM 1 (seqM (seqM (regM r10)
  (condM (fun s => s.t_78) (seqM (regM r11)
  (retM retv))
  skipM))
  (regM r12)))
  (regM r9))))))
  (seqM (seqM (regM r13)
  (blockM 2 (iterM (seqM (seqM (regM r14)
  (condM (fun s => s.t_88) skipM
  (extM 2)))
  (seqM (blockM 3 (seqM (regM r16)
  (condM (fun s => s.t_98) (seqM (regM r17)
  (retM retv))
  skipM)))
  (regM r15))))))
  (seqM (seqM (regM r18)
  (blockM 4 (iterM (seqM (seqM (regM r19)
  (condM (fun s => s.t_102) skipM
  (extM 4)))
  (seqM (blockM 5 (seqM (regM r21)
  (blockM 6 (iterM (seqM (seqM (regM r22)
  (condM (fun s => s.t_112) skipM
  (extM 6)))
  (seqM (blockM 7 (seqM (regM r24)
  (condM (fun s => s.t_132) (seqM (regM r25)
  (retM retv))
  skipM)))
  (regM r23)))))))
  (regM r20))))))
  (seqM (regM r26)
  (retM retv))))))))))
noncomputable def f (a0 : (List Commit)) (a1 : (List Bool)) (a2 : (List Bool)) (a3 : (List Int)) : Option R := retOf (body { t_0 := a0, t_1 := a1, t_2 := a2, t_3 := a3, t_8 := false, t_10 := [], t_11 := (⟨(0 : Int), (0 : Int)⟩ : Fault), t_12 := [], t_13 := (0 : Int), t_14 := (0 : Int), t_15 := (0 : Int), t_16 := (0 : Int), t_18 := false, t_39 := false, t_48 := false, t_78 := false, t_88 := false, t_98 := false, t_102 := false, t_112 := false, t_132 := false })
end law4_NegotiateCompletes

namespace law4_NegotiateNothingTwice
structure S where
  t_0 : (List Commit)
  t_1 : (List Bool)
  t_2 : (List Bool)
  t_3 : (List Int)
  t_8 : Bool
  t_9 : (List (List Int))
  t_10 : (List Int)
  t_11 : Fault
  t_12 : (List (List Bool))
  t_13 : (List Int)
  t_14 : Int
  t_15 : Int
  t_16 : Int
  t_17 : Int
  t_19 : Bool
  t_40 : Bool
  t_52 : Bool
  t_68 : Bool
  t_75 : Bool
  t_107 : Bool
  t_111 : Bool
  t_140 : Bool
abbrev R := Bool
def retv (s : S) : R := (s.t_8)
noncomputable def r0 (s : S) : Option S := some { s with t_8 := false }
noncomputable def r1 (s : S) : Option S := (law4_negotiateExample.f ).bind fun x1 => some { s with t_19 := (!x1) }
noncomputable def r2 (s : S) : Option S := some { s with t_8 := false }
noncomputable def r3 (s : S) : Option S := (negotiate_Run.f s.t_0 s.t_1 s.t_2 s.t_3).bind fun x6 => some { s with t_9 := x6.1, t_10 := x6.2.1, t_11 := x6.2.2 }
noncomputable def r4 (s : S) : Option S := ((if (!decide (s.t_11.Code = (0 : Int))) = true then some true else (ref4_NegotiateFault.f s.t_0 s.t_1 s.t_2 s.t_3).bind fun x32 => some (!decide (x32.Code = (0 : Int))))).bind fun x39 => some { s with t_40 := x39 }
noncomputable def r5 (s : S) : Option S := some { s with t_8 := (decide ((w64 ((s.t_9.length : Int) + (s.t_10.length : Int))) = (0 : Int))) }
noncomputable def r6 (s : S) : Option S := (ref3_Reach.f s.t_0).bind fun x54 => some { s with t_12 := x54 }
noncomputable def r7 (s : S) : Option S := some { s with t_13 := [] }
noncomputable def r8 (s : S) : Option S := some { s with t_14 := (0 : Int) }
noncomputable def r9 (s : S) : Option S := some { s with t_52 := (decide (s.t_14 < (s.t_9.length : Int))) }
noncomputable def r11 (s : S) : Option S := (idx s.t_9 s.t_14).bind fun x69 => ((if (decide ((x69.length : Int) = (0 : Int))) = true then some true else (idx s.t_9 s.t_14).bind fun x89 => some (decide ((16 : Int) < (x89.length : Int))))).bind fun x107 => some { s with t_68 := x107 }
noncomputable def r12 (s : S) : Option S := some { s with t_8 := false }
noncomputable def r13 (s : S) : Option S := some { s with t_15 := (0 : Int) }
noncomputable def r14 (s : S) : Option S := (idx s.t_9 s.t_14).bind fun x109 => some { s with t_75 := (decide (s.t_15 < (x109.length : Int))) }
noncomputable def r16 (s : S) : Option S := (idx s.t_9 s.t_14).bind fun x127 => (idx x127 s.t_15).bind fun x140 => some { s with t_16 := x140 }
noncomputable def r17 (s : S) : Option S := (ref3_In.f s.t_16 (0 : Int) (w64 ((s.t_0.length : Int) - (1 : Int)))).bind fun x155 => ((if (!x155) = true then some true else (idx s.t_2 s.t_16).bind fun x162 => some (!x162))).bind fun x172 => ((if x172 = true then some true else (idx s.t_9 s.t_14).bind fun x176 => (cutTo x176 s.t_15).bind fun x194 => (ref3_Has.f x194 s.t_16).bind fun x196 => some x196)).bind fun x201 => some { s with t_107 := x201 }
noncomputable def r18 (s : S) : Option S := some { s with t_8 := false }
noncomputable def r19 (s : S) : Option S := some { s with t_17 := (0 : Int) }
noncomputable def r20 (s : S) : Option S := some { s with t_111 := (decide (s.t_17 < (s.t_13.length : Int))) }
noncomputable def r22 (s : S) : Option S := (idx s.t_13 s.t_17).bind fun x210 => ((if (decide (x210 = s.t_16)) = true then some true else (idx s.t_13 s.t_17).bind fun x218 => (idx s.t_1 x218).bind fun x224 => ((if x224 = true then (idx s.t_13 s.t_17).bind fun x236 => (idx s.t_12 x236).bind fun x242 => (idx x242 s.t_16).bind fun x255 => some x255 else some false)).bind fun x265 => some x265)).bind fun x267 => some { s with t_140 := x267 }
noncomputable def r23 (s : S) : Option S := some { s with t_8 := false }
noncomputable def r21 (s : S) : Option S := some { s with t_17 := w64 (s.t_17 + (1 : Int)) }
noncomputable def r15 (s : S) : Option S := some { s with t_15 := w64 (s.t_15 + (1 : Int)) }
noncomputable def r24 (s : S) : Option S := (idx s.t_9 s.t_14).bind fun x269 => (appL 8 s.t_13 x269).bind fun x282 => some { s with t_13 := x282 }
noncomputable def r10 (s : S) : Option S := some { s with t_14 := w64 (s.t_14 + (1 : Int)) }
noncomputable def r25 (s : S) : Option S := some { s with t_8 := true }
noncomputable def body : S → Option (Ctl S R) := (seqM (regM r0)
  (seqM (seqM (regM r1)
  (condM (fun s => s.t_19) (seqM (regM r2)
  (retM retv))
  skipM))
  (seqM (regM r3)
  (seqM (seqM (regM r4)
  (condM (fun s => s.t_40) (seqM (regM r5)
  (retM retv))
  skipM))
  (seqM (regM r6)
  (seqM (regM r7)
  (seqM (seqM (regM r8)
  (blockM 0 (iterM (seqM (seqM (regM r9)
  (condM (fun s => s.t_52) skipM
  (extM 0)))
  (seqM (blockM 1 (seqM (seqM (regM r11)
  (condM (fun s => s.t_68) (seqM (regM r12)
  (retM retv))
  skipM))
  (seqM (seqM (regM r13)
  (blockM 2 (iterM (seqM (seqM (regM r14)
  (condM (fun s => s.t_75) skipM
  (extM 2)))
  (seqM (blockM 3 (seqM (regM r16)
  (seqM (seqM (regM r17)
  (condM (fun s => s.t_107) (seqM (regM r18)
  (retM retv))
  skipM))
  (seqM (regM r19)
  (blockM 4 (iterM (seqM (seqM (regM r20)
  (condM (fun s => s.t_111) skipM
  (extM 4)))
  (seqM (blockM 5 (seqM (regM r22)
  (condM (fun s => s.t_140) (seqM (regM r23)
  (retM retv))
  skipM)))
  (regM r21)))))))))
  (regM r15))))))
  (regM r24))))
  (regM r10))))))
  (seqM (regM r25)
  (retM retv)))))))))
noncomputable def f (a0 : (List Commit)) (a1 : (List Bool)) (a2 : (List Bool)) (a3 : (List Int)) : Option R := retOf (body { t_0 := a0, t_1 := a1, t_2 := a2, t_3 := a3, t_8 := false, t_9 := [], t_10 := [], t_11 := (⟨(0 : Int), (0 : Int)⟩ : Fault), t_12 := [], t_13 := [], t_14 := (0 : Int), t_15 := (0 : Int), t_16 := (0 : Int), t_17 := (0 : Int), t_19 := false, t_40 := false, t_52 := false, t_68 := false, t_75 := false, t_107 := false, t_111 := false, t_140 := false })
end law4_NegotiateNothingTwice

end Go.Proofs.Ytilodamhgepjoaa
