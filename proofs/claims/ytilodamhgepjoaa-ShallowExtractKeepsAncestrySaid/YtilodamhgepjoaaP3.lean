/- What functions of the program come to, as plain Lean functions (written by a program, wip/fx/gen.py). -/
import Derived.Test.YtilodamhgepjoaaP2
import Derived.Test.YtilodamhgepjoaaIt
namespace Go.Proofs.Ytilodamhgepjoaa
open Go.Fx
set_option linter.unusedVariables false

namespace ref3_In
structure S where
  n_0 : Int
  low_1 : Int
  high_2 : Int
  t_6 : Bool
abbrev R := Bool
def retv (s : S) : R := (s.t_6)
noncomputable def r0 (s : S) : Option S := some { s with t_6 := false }
noncomputable def r1 (s : S) : Option S := some { s with t_6 := ((decide (s.low_1 ≤ s.n_0)) && (decide (s.n_0 ≤ s.high_2))) }
noncomputable def body : S → Option (Ctl S R) := (seqM (regM r0)
  (seqM (regM r1)
  (retM retv)))
noncomputable def f (a0 : Int) (a1 : Int) (a2 : Int) : Option R := retOf (body { n_0 := a0, low_1 := a1, high_2 := a2, t_6 := false })
end ref3_In

namespace ref3_isDigest
structure S where
  d_0 : Int
  t_2 : Bool
abbrev R := Bool
def retv (s : S) : R := (s.t_2)
noncomputable def r0 (s : S) : Option S := some { s with t_2 := false }
noncomputable def r1 (s : S) : Option S := (ref3_In.f s.d_0 (0 : Int) (2305843009213693950 : Int)).bind fun x1 => some { s with t_2 := x1 }
noncomputable def body : S → Option (Ctl S R) := (seqM (regM r0)
  (seqM (regM r1)
  (retM retv)))
noncomputable def f (a0 : Int) : Option R := retOf (body { d_0 := a0, t_2 := false })
end ref3_isDigest

namespace ref3_HistoryFault
structure S where
  t_0 : (List Commit)
  t_2 : Fault
  t_3 : Int
  t_4 : Commit
  t_5 : Int
  t_8 : Bool
  t_13 : Bool
  t_23 : Bool
  t_30 : Bool
  t_41 : Bool
  t_59 : Bool
  t_77 : Bool
  t_83 : Bool
abbrev R := Fault
def retv (s : S) : R := (s.t_2)
noncomputable def r0 (s : S) : Option S := some { s with t_2 := (⟨(0 : Int), (0 : Int)⟩ : Fault) }
noncomputable def r1 (s : S) : Option S := some { s with t_8 := (decide ((60 : Int) < (s.t_0.length : Int))) }
noncomputable def r2 (s : S) : Option S := (ref3_Fault.f (2 : Int) (-1 : Int)).bind fun x10 => some { s with t_2 := x10 }
noncomputable def r3 (s : S) : Option S := some { s with t_3 := (0 : Int) }
noncomputable def r4 (s : S) : Option S := some { s with t_13 := (decide (s.t_3 < (s.t_0.length : Int))) }
noncomputable def r6 (s : S) : Option S := (idx s.t_0 s.t_3).bind fun x25 => some { s with t_4 := x25 }
noncomputable def r7 (s : S) : Option S := some { s with t_23 := (decide ((3 : Int) < (s.t_4.Parents.length : Int))) }
noncomputable def r8 (s : S) : Option S := (ref3_Fault.f (2 : Int) s.t_3).bind fun x52 => some { s with t_2 := x52 }
noncomputable def r9 (s : S) : Option S := some { s with t_5 := (0 : Int) }
noncomputable def r10 (s : S) : Option S := some { s with t_30 := (decide (s.t_5 < (s.t_4.Parents.length : Int))) }
noncomputable def r12 (s : S) : Option S := (idx s.t_4.Parents s.t_5).bind fun x73 => (ref3_In.f x73 (0 : Int) (w64 (s.t_3 - (1 : Int)))).bind fun x83 => some { s with t_41 := (!x83) }
noncomputable def r13 (s : S) : Option S := (ref3_Fault.f (3 : Int) s.t_3).bind fun x88 => some { s with t_2 := x88 }
noncomputable def r14 (s : S) : Option S := ((if (decide ((0 : Int) < s.t_5)) = true then (idx s.t_4.Parents s.t_5).bind fun x103 => (idx s.t_4.Parents (w64 (s.t_5 - (1 : Int)))).bind fun x116 => some (decide (x103 ≤ x116)) else some false)).bind fun x126 => some { s with t_59 := x126 }
noncomputable def r15 (s : S) : Option S := (ref3_Fault.f (5 : Int) s.t_3).bind fun x128 => some { s with t_2 := x128 }
noncomputable def r11 (s : S) : Option S := some { s with t_5 := w64 (s.t_5 + (1 : Int)) }
noncomputable def r16 (s : S) : Option S := (ref3_In.f s.t_4.Author (0 : Int) (7 : Int)).bind fun x138 => ((if (!x138) = true then some true else (ref3_In.f s.t_4.Time (0 : Int) (100000 : Int)).bind fun x145 => some (!x145))).bind fun x150 => ((if x150 = true then some true else (ref3_isDigest.f s.t_4.Tree).bind fun x157 => some (!x157))).bind fun x162 => some { s with t_77 := x162 }
noncomputable def r17 (s : S) : Option S := (ref3_Fault.f (3 : Int) s.t_3).bind fun x167 => some { s with t_2 := x167 }
noncomputable def r18 (s : S) : Option S := some { s with t_83 := (decide ((80 : Int) < (s.t_4.Message.size : Int))) }
noncomputable def r19 (s : S) : Option S := (ref3_Fault.f (10 : Int) s.t_3).bind fun x177 => some { s with t_2 := x177 }
noncomputable def r5 (s : S) : Option S := some { s with t_3 := w64 (s.t_3 + (1 : Int)) }
noncomputable def r20 (s : S) : Option S := some { s with t_2 := (⟨(0 : Int), (0 : Int)⟩ : Fault) }
noncomputable def body : S → Option (Ctl S R) := (seqM (regM r0)
  (seqM (seqM (regM r1)
  (condM (fun s => s.t_8) (seqM (regM r2)
  (retM retv))
  skipM))
  (seqM (seqM (regM r3)
  (blockM 0 (iterM (seqM (seqM (regM r4)
  (condM (fun s => s.t_13) skipM
  (extM 0)))
  (seqM (blockM 1 (seqM (regM r6)
  (seqM (seqM (regM r7)
  (condM (fun s => s.t_23) (seqM (regM r8)
  (retM retv))
  skipM))
  (seqM (seqM (regM r9)
  (blockM 2 (iterM (seqM (seqM (regM r10)
  (condM (fun s => s.t_30) skipM
  (extM 2)))
  (seqM (blockM 3 (seqM (seqM (regM r12)
  (condM (fun s => s.t_41) (seqM (regM r13)
  (retM retv))
  skipM))
  (seqM (regM r14)
  (condM (fun s => s.t_59) (seqM (regM r15)
  (retM retv))
  skipM))))
  (regM r11))))))
  (seqM (seqM (regM r16)
  (condM (fun s => s.t_77) (seqM (regM r17)
  (retM retv))
  skipM))
  (seqM (regM r18)
  (condM (fun s => s.t_83) (seqM (regM r19)
  (retM retv))
  skipM)))))))
  (regM r5))))))
  (seqM (regM r20)
  (retM retv)))))
noncomputable def f (a0 : (List Commit)) : Option R := retOf (body { t_0 := a0, t_2 := (⟨(0 : Int), (0 : Int)⟩ : Fault), t_3 := (0 : Int), t_4 := (⟨[], (0 : Int), (0 : Int), (0 : Int), ByteArray.empty⟩ : Commit), t_5 := (0 : Int), t_8 := false, t_13 := false, t_23 := false, t_30 := false, t_41 := false, t_59 := false, t_77 := false, t_83 := false })
end ref3_HistoryFault

namespace ref3_Has
structure S where
  l_0 : (List Int)
  n_1 : Int
  t_4 : Bool
  i_5 : Int
  t_9 : Bool
  t_17 : Bool
abbrev R := Bool
def retv (s : S) : R := (s.t_4)
noncomputable def r0 (s : S) : Option S := some { s with t_4 := false }
noncomputable def r1 (s : S) : Option S := some { s with i_5 := (0 : Int) }
noncomputable def r2 (s : S) : Option S := some { s with t_9 := (decide (s.i_5 < (s.l_0.length : Int))) }
noncomputable def r4 (s : S) : Option S := (idx s.l_0 s.i_5).bind fun x6 => some { s with t_17 := (decide (x6 = s.n_1)) }
noncomputable def r5 (s : S) : Option S := some { s with t_4 := true }
noncomputable def r3 (s : S) : Option S := some { s with i_5 := w64 (s.i_5 + (1 : Int)) }
noncomputable def r6 (s : S) : Option S := some { s with t_4 := false }
noncomputable def body : S → Option (Ctl S R) := (seqM (regM r0)
  (seqM (seqM (regM r1)
  (blockM 0 (iterM (seqM (seqM (regM r2)
  (condM (fun s => s.t_9) skipM
  (extM 0)))
  (seqM (blockM 1 (seqM (regM r4)
  (condM (fun s => s.t_17) (seqM (regM r5)
  (retM retv))
  skipM)))
  (regM r3))))))
  (seqM (regM r6)
  (retM retv))))
noncomputable def f (a0 : (List Int)) (a1 : Int) : Option R := retOf (body { l_0 := a0, n_1 := a1, t_4 := false, i_5 := (0 : Int), t_9 := false, t_17 := false })
end ref3_Has

namespace ref4_Insert
structure S where
  l_0 : (List Int)
  n_1 : Int
  t_4 : (List Int)
  at_5 : Int
  t_8 : Bool
  t_21 : Bool
abbrev R := (List Int)
def retv (s : S) : R := (s.t_4)
noncomputable def r0 (s : S) : Option S := some { s with t_4 := [] }
noncomputable def r1 (s : S) : Option S := (ref3_Has.f s.l_0 s.n_1).bind fun x1 => some { s with t_8 := x1 }
noncomputable def r2 (s : S) : Option S := some { s with t_4 := s.l_0 }
noncomputable def r3 (s : S) : Option S := some { s with at_5 := (0 : Int) }
noncomputable def r4 (s : S) : Option S := ((if (decide (s.at_5 < (s.l_0.length : Int))) = true then (idx s.l_0 s.at_5).bind fun x13 => some (decide (x13 < s.n_1)) else some false)).bind fun x23 => some { s with t_21 := x23 }
noncomputable def r5 (s : S) : Option S := some { s with at_5 := w64 (s.at_5 + (1 : Int)) }
noncomputable def r6 (s : S) : Option S := (cutTo s.l_0 s.at_5).bind fun x30 => (cutFrom s.l_0 s.at_5).bind fun x37 => (appL 8 ([] : (List Int)) x30).bind fun x39 => (appL 8 x39 [s.n_1]).bind fun x50 => (appL 8 x50 x37).bind fun x56 => some { s with t_4 := x56 }
noncomputable def body : S → Option (Ctl S R) := (seqM (regM r0)
  (seqM (seqM (regM r1)
  (condM (fun s => s.t_8) (seqM (regM r2)
  (retM retv))
  skipM))
  (seqM (regM r3)
  (seqM (blockM 0 (iterM (seqM (seqM (regM r4)
  (condM (fun s => s.t_21) skipM
  (extM 0)))
  (blockM 1 (regM r5)))))
  (seqM (regM r6)
  (retM retv))))))
noncomputable def f (a0 : (List Int)) (a1 : Int) : Option R := retOf (body { l_0 := a0, n_1 := a1, t_4 := [], at_5 := (0 : Int), t_8 := false, t_21 := false })
end ref4_Insert

namespace ref4_Steps
structure S where
  t_0 : (List Commit)
  t_1 : (List Int)
  t_2 : Int
  t_6 : (List Int)
  t_7 : (List Int)
  t_8 : Int
  t_9 : (List Int)
  t_10 : Int
  t_11 : Int
  t_13 : Bool
  t_17 : Bool
  t_27 : Bool
  t_34 : Bool
  t_47 : Bool
  t_67 : Bool
abbrev R := (List Int)
def retv (s : S) : R := (s.t_6)
noncomputable def r0 (s : S) : Option S := some { s with t_6 := [] }
noncomputable def r1 (s : S) : Option S := some { s with t_7 := [] }
noncomputable def r2 (s : S) : Option S := some { s with t_13 := (decide (s.t_2 < (0 : Int))) }
noncomputable def r3 (s : S) : Option S := some { s with t_6 := [] }
noncomputable def r4 (s : S) : Option S := some { s with t_8 := (0 : Int) }
noncomputable def r5 (s : S) : Option S := some { s with t_17 := (decide (s.t_8 < (s.t_1.length : Int))) }
noncomputable def r7 (s : S) : Option S := (idx s.t_1 s.t_8).bind fun x6 => (ref4_Insert.f s.t_7 x6).bind fun x16 => some { s with t_7 := x16 }
noncomputable def r6 (s : S) : Option S := some { s with t_8 := w64 (s.t_8 + (1 : Int)) }
noncomputable def r8 (s : S) : Option S := some { s with t_27 := (decide ((0 : Int) < s.t_2)) }
noncomputable def r10 (s : S) : Option S := some { s with t_9 := s.t_7 }
noncomputable def r11 (s : S) : Option S := some { s with t_10 := (0 : Int) }
noncomputable def r12 (s : S) : Option S := some { s with t_34 := (decide (s.t_10 < (s.t_7.length : Int))) }
noncomputable def r14 (s : S) : Option S := some { s with t_11 := (0 : Int) }
noncomputable def r15 (s : S) : Option S := (idx s.t_7 s.t_10).bind fun x28 => (idx s.t_0 x28).bind fun x38 => some { s with t_47 := (decide (s.t_11 < (x38.Parents.length : Int))) }
noncomputable def r17 (s : S) : Option S := (idx s.t_7 s.t_10).bind fun x56 => (idx s.t_0 x56).bind fun x66 => (idx x66.Parents s.t_11).bind fun x79 => (ref4_Insert.f s.t_9 x79).bind fun x89 => some { s with t_9 := x89 }
noncomputable def r16 (s : S) : Option S := some { s with t_11 := w64 (s.t_11 + (1 : Int)) }
noncomputable def r13 (s : S) : Option S := some { s with t_10 := w64 (s.t_10 + (1 : Int)) }
noncomputable def r18 (s : S) : Option S := some { s with t_67 := (decide ((s.t_9.length : Int) = (s.t_7.length : Int))) }
noncomputable def r19 (s : S) : Option S := some { s with t_6 := s.t_7 }
noncomputable def r20 (s : S) : Option S := some { s with t_7 := s.t_9 }
noncomputable def r9 (s : S) : Option S := some { s with t_2 := w64 (s.t_2 - (1 : Int)) }
noncomputable def r21 (s : S) : Option S := some { s with t_6 := s.t_7 }
noncomputable def body : S → Option (Ctl S R) := (seqM (regM r0)
  (seqM (regM r1)
  (seqM (seqM (regM r2)
  (condM (fun s => s.t_13) (seqM (regM r3)
  (retM retv))
  skipM))
  (seqM (seqM (regM r4)
  (blockM 0 (iterM (seqM (seqM (regM r5)
  (condM (fun s => s.t_17) skipM
  (extM 0)))
  (seqM (blockM 1 (regM r7))
  (regM r6))))))
  (seqM (blockM 2 (iterM (seqM (seqM (regM r8)
  (condM (fun s => s.t_27) skipM
  (extM 2)))
  (seqM (blockM 3 (seqM (regM r10)
  (seqM (seqM (regM r11)
  (blockM 4 (iterM (seqM (seqM (regM r12)
  (condM (fun s => s.t_34) skipM
  (extM 4)))
  (seqM (blockM 5 (seqM (regM r14)
  (blockM 6 (iterM (seqM (seqM (regM r15)
  (condM (fun s => s.t_47) skipM
  (extM 6)))
  (seqM (blockM 7 (regM r17))
  (regM r16)))))))
  (regM r13))))))
  (seqM (seqM (regM r18)
  (condM (fun s => s.t_67) (seqM (regM r19)
  (retM retv))
  skipM))
  (regM r20)))))
  (regM r9)))))
  (seqM (regM r21)
  (retM retv)))))))
noncomputable def f (a0 : (List Commit)) (a1 : (List Int)) (a2 : Int) : Option R := retOf (body { t_0 := a0, t_1 := a1, t_2 := a2, t_6 := [], t_7 := [], t_8 := (0 : Int), t_9 := [], t_10 := (0 : Int), t_11 := (0 : Int), t_13 := false, t_17 := false, t_27 := false, t_34 := false, t_47 := false, t_67 := false })
end ref4_Steps

namespace law4_ShallowCutMatchesSpec
structure S where
  t_0 : (List Commit)
  t_1 : (List Int)
  t_2 : Int
  t_6 : Bool
  t_7 : (List Int)
  t_8 : Fault
  t_9 : Fault
  t_10 : Int
  t_12 : Bool
  t_29 : Bool
  t_39 : Bool
  t_50 : Bool
  t_60 : Bool
  t_64 : Bool
abbrev R := Bool
def retv (s : S) : R := (s.t_6)
noncomputable def r0 (s : S) : Option S := some { s with t_6 := false }
noncomputable def r1 (s : S) : Option S := (law4_shallowExample.f ).bind fun x1 => some { s with t_12 := (!x1) }
noncomputable def r2 (s : S) : Option S := some { s with t_6 := false }
noncomputable def r3 (s : S) : Option S := (shallow_Cut.f s.t_0 s.t_1 s.t_2).bind fun x6 => some { s with t_7 := x6.1, t_8 := x6.2 }
noncomputable def r4 (s : S) : Option S := (ref3_HistoryFault.f s.t_0).bind fun x25 => some { s with t_9 := x25 }
noncomputable def r5 (s : S) : Option S := some { s with t_29 := ((decide (s.t_9.Code = (0 : Int))) && (decide ((60 : Int) < (s.t_1.length : Int)))) }
noncomputable def r6 (s : S) : Option S := (ref3_Fault.f (2 : Int) (-1 : Int)).bind fun x47 => some { s with t_9 := x47 }
noncomputable def r7 (s : S) : Option S := some { s with t_10 := (0 : Int) }
noncomputable def r8 (s : S) : Option S := some { s with t_39 := ((decide (s.t_10 < (s.t_1.length : Int))) && (decide (s.t_9.Code = (0 : Int)))) }
noncomputable def r10 (s : S) : Option S := (idx s.t_1 s.t_10).bind fun x65 => (ref3_In.f x65 (0 : Int) (w64 ((s.t_0.length : Int) - (1 : Int)))).bind fun x80 => some { s with t_50 := (!x80) }
noncomputable def r11 (s : S) : Option S := (ref3_Fault.f (6 : Int) s.t_10).bind fun x85 => some { s with t_9 := x85 }
noncomputable def r9 (s : S) : Option S := some { s with t_10 := w64 (s.t_10 + (1 : Int)) }
noncomputable def r12 (s : S) : Option S := ((if (decide (s.t_9.Code = (0 : Int))) = true then (ref3_In.f s.t_2 (0 : Int) (60 : Int)).bind fun x97 => some (!x97) else some false)).bind fun x102 => some { s with t_60 := x102 }
noncomputable def r13 (s : S) : Option S := (ref3_Fault.f (3 : Int) (-2 : Int)).bind fun x107 => some { s with t_9 := x107 }
noncomputable def r14 (s : S) : Option S := some { s with t_64 := (!decide (s.t_9.Code = (0 : Int))) }
noncomputable def r15 (s : S) : Option S := some { s with t_6 := ((decide (s.t_8 = s.t_9)) && (decide ((s.t_7.length : Int) = (0 : Int)))) }
noncomputable def r16 (s : S) : Option S := ((if (decide (s.t_8.Code = (0 : Int))) = true then (ref4_Steps.f s.t_0 s.t_1 (w64 (s.t_2 - (1 : Int)))).bind fun x131 => (ref3_Ints.f s.t_7 x131).bind fun x138 => some x138 else some false)).bind fun x143 => some { s with t_6 := x143 }
noncomputable def body : S → Option (Ctl S R) := (seqM (regM r0)
  (seqM (seqM (regM r1)
  (condM (fun s => s.t_12) (seqM (regM r2)
  (retM retv))
  skipM))
  (seqM (regM r3)
  (seqM (regM r4)
  (seqM (seqM (regM r5)
  (condM (fun s => s.t_29) (regM r6)
  skipM))
  (seqM (seqM (regM r7)
  (blockM 0 (iterM (seqM (seqM (regM r8)
  (condM (fun s => s.t_39) skipM
  (extM 0)))
  (seqM (blockM 1 (seqM (regM r10)
  (condM (fun s => s.t_50) (regM r11)
  skipM)))
  (regM r9))))))
  (seqM (seqM (regM r12)
  (condM (fun s => s.t_60) (regM r13)
  skipM))
  (seqM (seqM (regM r14)
  (condM (fun s => s.t_64) (seqM (regM r15)
  (retM retv))
  skipM))
  (seqM (regM r16)
  (retM retv))))))))))
noncomputable def f (a0 : (List Commit)) (a1 : (List Int)) (a2 : Int) : Option R := retOf (body { t_0 := a0, t_1 := a1, t_2 := a2, t_6 := false, t_7 := [], t_8 := (⟨(0 : Int), (0 : Int)⟩ : Fault), t_9 := (⟨(0 : Int), (0 : Int)⟩ : Fault), t_10 := (0 : Int), t_12 := false, t_29 := false, t_39 := false, t_50 := false, t_60 := false, t_64 := false })
end law4_ShallowCutMatchesSpec

end Go.Proofs.Ytilodamhgepjoaa
