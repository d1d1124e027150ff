/- What functions of the program come to, as plain Lean functions (written by a program, wip/fx/gen.py). -/
import Derived.Test.YtilodamhgepjoaaP3
import Derived.Test.YtilodamhgepjoaaIt
namespace Go.Proofs.Ytilodamhgepjoaa
open Go.Fx
set_option linter.unusedVariables false

namespace ref4_SelectionFault
structure S where
  l_0 : (List Commit)
  numbers_1 : (List Int)
  t_4 : Fault
  f_5 : Fault
  i_6 : Int
  t_11 : Bool
  t_16 : Bool
  t_27 : Bool
  t_43 : Bool
abbrev R := Fault
def retv (s : S) : R := (s.t_4)
noncomputable def r0 (s : S) : Option S := some { s with t_4 := (⟨(0 : Int), (0 : Int)⟩ : Fault) }
noncomputable def r1 (s : S) : Option S := (ref3_HistoryFault.f s.l_0).bind fun x5 => some { s with f_5 := x5 }
noncomputable def r2 (s : S) : Option S := some { s with t_11 := (!decide (s.f_5.Code = (0 : Int))) }
noncomputable def r3 (s : S) : Option S := some { s with t_4 := s.f_5 }
noncomputable def r4 (s : S) : Option S := some { s with i_6 := (0 : Int) }
noncomputable def r5 (s : S) : Option S := some { s with t_16 := (decide (s.i_6 < (s.numbers_1.length : Int))) }
noncomputable def r7 (s : S) : Option S := (idx s.numbers_1 s.i_6).bind fun x29 => (ref3_In.f x29 (0 : Int) (w64 ((s.l_0.length : Int) - (1 : Int)))).bind fun x44 => some { s with t_27 := (!x44) }
noncomputable def r8 (s : S) : Option S := (ref3_Fault.f (6 : Int) s.i_6).bind fun x49 => some { s with t_4 := x49 }
noncomputable def r9 (s : S) : Option S := ((if (decide ((0 : Int) < s.i_6)) = true then (idx s.numbers_1 (w64 (s.i_6 - (1 : Int)))).bind fun x61 => (idx s.numbers_1 s.i_6).bind fun x71 => some (decide (x71 ≤ x61)) else some false)).bind fun x81 => some { s with t_43 := x81 }
noncomputable def r10 (s : S) : Option S := (ref3_Fault.f (5 : Int) s.i_6).bind fun x83 => some { s with t_4 := x83 }
noncomputable def r6 (s : S) : Option S := some { s with i_6 := w64 (s.i_6 + (1 : Int)) }
noncomputable def r11 (s : S) : Option S := some { s with t_4 := (⟨(0 : Int), (0 : Int)⟩ : Fault) }
noncomputable def body : S → Option (Ctl S R) := (seqM (regM r0)
  (seqM (seqM (regM r1)
  (seqM (regM r2)
  (condM (fun s => s.t_11) (seqM (regM r3)
  (retM retv))
  skipM)))
  (seqM (seqM (regM r4)
  (blockM 0 (iterM (seqM (seqM (regM r5)
  (condM (fun s => s.t_16) skipM
  (extM 0)))
  (seqM (blockM 1 (seqM (seqM (regM r7)
  (condM (fun s => s.t_27) (seqM (regM r8)
  (retM retv))
  skipM))
  (seqM (regM r9)
  (condM (fun s => s.t_43) (seqM (regM r10)
  (retM retv))
  skipM))))
  (regM r6))))))
  (seqM (regM r11)
  (retM retv)))))
noncomputable def f (a0 : (List Commit)) (a1 : (List Int)) : Option R := retOf (body { l_0 := a0, numbers_1 := a1, t_4 := (⟨(0 : Int), (0 : Int)⟩ : Fault), f_5 := (⟨(0 : Int), (0 : Int)⟩ : Fault), i_6 := (0 : Int), t_11 := false, t_16 := false, t_27 := false, t_43 := false })
end ref4_SelectionFault

namespace ref4_BoundaryOf
structure S where
  l_0 : (List Commit)
  numbers_1 : (List Int)
  t_4 : (List Int)
  out_5 : (List Int)
  i_6 : Int
  cut_7 : Bool
  k_8 : Int
  t_12 : Bool
  t_25 : Bool
  t_45 : Bool
abbrev R := (List Int)
def retv (s : S) : R := (s.t_4)
noncomputable def r0 (s : S) : Option S := some { s with t_4 := [] }
noncomputable def r1 (s : S) : Option S := some { s with out_5 := [] }
noncomputable def r2 (s : S) : Option S := some { s with i_6 := (0 : Int) }
noncomputable def r3 (s : S) : Option S := some { s with t_12 := (decide (s.i_6 < (s.numbers_1.length : Int))) }
noncomputable def r5 (s : S) : Option S := some { s with cut_7 := false }
noncomputable def r6 (s : S) : Option S := some { s with k_8 := (0 : Int) }
noncomputable def r7 (s : S) : Option S := (idx s.numbers_1 s.i_6).bind fun x6 => (idx s.l_0 x6).bind fun x16 => some { s with t_25 := (decide (s.k_8 < (x16.Parents.length : Int))) }
noncomputable def r9 (s : S) : Option S := ((if s.cut_7 = true then some true else (idx s.numbers_1 s.i_6).bind fun x36 => (idx s.l_0 x36).bind fun x46 => (idx x46.Parents s.k_8).bind fun x59 => (ref3_Has.f s.numbers_1 x59).bind fun x69 => some (!x69))).bind fun x74 => some { s with cut_7 := x74 }
noncomputable def r8 (s : S) : Option S := some { s with k_8 := w64 (s.k_8 + (1 : Int)) }
noncomputable def r10 (s : S) : Option S := some { s with t_45 := s.cut_7 }
noncomputable def r11 (s : S) : Option S := (idx s.numbers_1 s.i_6).bind fun x79 => (appL 8 s.out_5 [x79]).bind fun x94 => some { s with out_5 := x94 }
noncomputable def r4 (s : S) : Option S := some { s with i_6 := w64 (s.i_6 + (1 : Int)) }
noncomputable def r12 (s : S) : Option S := some { s with t_4 := s.out_5 }
noncomputable def body : S → Option (Ctl S R) := (seqM (regM r0)
  (seqM (regM r1)
  (seqM (seqM (regM r2)
  (blockM 0 (iterM (seqM (seqM (regM r3)
  (condM (fun s => s.t_12) skipM
  (extM 0)))
  (seqM (blockM 1 (seqM (regM r5)
  (seqM (seqM (regM r6)
  (blockM 2 (iterM (seqM (seqM (regM r7)
  (condM (fun s => s.t_25) skipM
  (extM 2)))
  (seqM (blockM 3 (regM r9))
  (regM r8))))))
  (seqM (regM r10)
  (condM (fun s => s.t_45) (regM r11)
  skipM)))))
  (regM r4))))))
  (seqM (regM r12)
  (retM retv)))))
noncomputable def f (a0 : (List Commit)) (a1 : (List Int)) : Option R := retOf (body { l_0 := a0, numbers_1 := a1, t_4 := [], out_5 := [], i_6 := (0 : Int), cut_7 := false, k_8 := (0 : Int), t_12 := false, t_25 := false, t_45 := false })
end ref4_BoundaryOf

namespace ref3_Commits
structure S where
  a_0 : (List Commit)
  b_1 : (List Commit)
  t_4 : Bool
  i_5 : Int
  x_6 : Commit
  y_7 : Commit
  t_12 : Bool
  t_16 : Bool
  t_60 : Bool
abbrev R := Bool
def retv (s : S) : R := (s.t_4)
noncomputable def r0 (s : S) : Option S := some { s with t_4 := false }
noncomputable def r1 (s : S) : Option S := some { s with t_12 := (!decide ((s.a_0.length : Int) = (s.b_1.length : Int))) }
noncomputable def r2 (s : S) : Option S := some { s with t_4 := false }
noncomputable def r3 (s : S) : Option S := some { s with i_5 := (0 : Int) }
noncomputable def r4 (s : S) : Option S := some { s with t_16 := (decide (s.i_5 < (s.a_0.length : Int))) }
noncomputable def r6 (s : S) : Option S := (idx s.a_0 s.i_5).bind fun x16 => (idx s.b_1 s.i_5).bind fun x28 => some { s with x_6 := x16, y_7 := x28 }
noncomputable def r7 (s : S) : Option S := (ref3_Ints.f s.x_6.Parents s.y_7.Parents).bind fun x74 => some { s with t_60 := (((((!x74) || (!decide (s.x_6.Author = s.y_7.Author))) || (!decide (s.x_6.Time = s.y_7.Time))) || (!decide (s.x_6.Tree = s.y_7.Tree))) || (!decide (s.x_6.Message = s.y_7.Message))) }
noncomputable def r8 (s : S) : Option S := some { s with t_4 := false }
noncomputable def r5 (s : S) : Option S := some { s with i_5 := w64 (s.i_5 + (1 : Int)) }
noncomputable def r9 (s : S) : Option S := some { s with t_4 := true }
noncomputable def body : S → Option (Ctl S R) := (seqM (regM r0)
  (seqM (seqM (regM r1)
  (condM (fun s => s.t_12) (seqM (regM r2)
  (retM retv))
  skipM))
  (seqM (seqM (regM r3)
  (blockM 0 (iterM (seqM (seqM (regM r4)
  (condM (fun s => s.t_16) skipM
  (extM 0)))
  (seqM (blockM 1 (seqM (regM r6)
  (seqM (regM r7)
  (condM (fun s => s.t_60) (seqM (regM r8)
  (retM retv))
  skipM))))
  (regM r5))))))
  (seqM (regM r9)
  (retM retv)))))
noncomputable def f (a0 : (List Commit)) (a1 : (List Commit)) : Option R := retOf (body { a_0 := a0, b_1 := a1, t_4 := false, i_5 := (0 : Int), x_6 := (⟨[], (0 : Int), (0 : Int), (0 : Int), ByteArray.empty⟩ : Commit), y_7 := (⟨[], (0 : Int), (0 : Int), (0 : Int), ByteArray.empty⟩ : Commit), t_12 := false, t_16 := false, t_60 := false })
end ref3_Commits

namespace ref4_ExtractOf
structure S where
  l_0 : (List Commit)
  numbers_1 : (List Int)
  t_4 : (List Commit)
  out_5 : (List Commit)
  i_6 : Int
  c_7 : Commit
  parents_8 : (List Int)
  k_9 : Int
  t_13 : Bool
  t_25 : Bool
  t_34 : Bool
abbrev R := (List Commit)
def retv (s : S) : R := (s.t_4)
noncomputable def r0 (s : S) : Option S := some { s with t_4 := [] }
noncomputable def r1 (s : S) : Option S := some { s with out_5 := [] }
noncomputable def r2 (s : S) : Option S := some { s with i_6 := (0 : Int) }
noncomputable def r3 (s : S) : Option S := some { s with t_13 := (decide (s.i_6 < (s.numbers_1.length : Int))) }
noncomputable def r5 (s : S) : Option S := (idx s.numbers_1 s.i_6).bind fun x6 => (idx s.l_0 x6).bind fun x16 => some { s with c_7 := x16 }
noncomputable def r6 (s : S) : Option S := some { s with parents_8 := [] }
noncomputable def r7 (s : S) : Option S := some { s with k_9 := (0 : Int) }
noncomputable def r8 (s : S) : Option S := some { s with t_25 := (decide (s.k_9 < s.i_6)) }
noncomputable def r10 (s : S) : Option S := (idx s.numbers_1 s.k_9).bind fun x38 => (ref3_Has.f s.c_7.Parents x38).bind fun x48 => some { s with t_34 := x48 }
noncomputable def r11 (s : S) : Option S := (appL 8 s.parents_8 [s.k_9]).bind fun x58 => some { s with parents_8 := x58 }
noncomputable def r9 (s : S) : Option S := some { s with k_9 := w64 (s.k_9 + (1 : Int)) }
noncomputable def r12 (s : S) : Option S := (appL 64 s.out_5 [(⟨s.parents_8, s.c_7.Author, s.c_7.Time, s.c_7.Tree, s.c_7.Message⟩ : Commit)]).bind fun x78 => some { s with out_5 := x78 }
noncomputable def r4 (s : S) : Option S := some { s with i_6 := w64 (s.i_6 + (1 : Int)) }
noncomputable def r13 (s : S) : Option S := some { s with t_4 := s.out_5 }
noncomputable def body : S → Option (Ctl S R) := (seqM (regM r0)
  (seqM (regM r1)
  (seqM (seqM (regM r2)
  (blockM 0 (iterM (seqM (seqM (regM r3)
  (condM (fun s => s.t_13) skipM
  (extM 0)))
  (seqM (blockM 1 (seqM (regM r5)
  (seqM (regM r6)
  (seqM (seqM (regM r7)
  (blockM 2 (iterM (seqM (seqM (regM r8)
  (condM (fun s => s.t_25) skipM
  (extM 2)))
  (seqM (blockM 3 (seqM (regM r10)
  (condM (fun s => s.t_34) (regM r11)
  skipM)))
  (regM r9))))))
  (regM r12)))))
  (regM r4))))))
  (seqM (regM r13)
  (retM retv)))))
noncomputable def f (a0 : (List Commit)) (a1 : (List Int)) : Option R := retOf (body { l_0 := a0, numbers_1 := a1, t_4 := [], out_5 := [], i_6 := (0 : Int), c_7 := (⟨[], (0 : Int), (0 : Int), (0 : Int), ByteArray.empty⟩ : Commit), parents_8 := [], k_9 := (0 : Int), t_13 := false, t_25 := false, t_34 := false })
end ref4_ExtractOf

namespace law4_ShallowSelectionMatchesSpec
structure S where
  t_0 : (List Commit)
  t_1 : (List Int)
  t_2 : Int
  t_6 : Bool
  t_7 : (List Int)
  t_8 : Fault
  t_9 : (List Int)
  t_10 : Fault
  t_11 : (List Commit)
  t_12 : Fault
  t_13 : Fault
  t_15 : Bool
  t_40 : Bool
  t_88 : Bool
  t_91 : Bool
abbrev R := Bool
def retv (s : S) : R := (s.t_6)
noncomputable def r0 (s : S) : Option S := some { s with t_6 := false }
noncomputable def r1 (s : S) : Option S := (law4_shallowExample.f ).bind fun x1 => some { s with t_15 := (!x1) }
noncomputable def r2 (s : S) : Option S := some { s with t_6 := false }
noncomputable def r3 (s : S) : Option S := (shallow_Boundary.f s.t_0 s.t_1).bind fun x6 => some { s with t_7 := x6.1, t_8 := x6.2 }
noncomputable def r4 (s : S) : Option S := (shallow_Deepen.f s.t_0 s.t_1 s.t_2).bind fun x25 => some { s with t_9 := x25.1, t_10 := x25.2 }
noncomputable def r5 (s : S) : Option S := (shallow_Extract.f s.t_0 s.t_1).bind fun x44 => some { s with t_11 := x44.1, t_12 := x44.2 }
noncomputable def r6 (s : S) : Option S := (ref4_SelectionFault.f s.t_0 s.t_1).bind fun x63 => some { s with t_13 := x63 }
noncomputable def r7 (s : S) : Option S := some { s with t_40 := (!decide (s.t_13.Code = (0 : Int))) }
noncomputable def r8 (s : S) : Option S := some { s with t_6 := ((((decide (s.t_8 = s.t_13)) && (decide (s.t_10 = s.t_13))) && (decide (s.t_12 = s.t_13))) && (decide ((w64 (w64 ((s.t_7.length : Int) + (s.t_9.length : Int)) + (s.t_11.length : Int))) = (0 : Int)))) }
noncomputable def r9 (s : S) : Option S := ((if ((!decide (s.t_8.Code = (0 : Int))) || (!decide (s.t_12.Code = (0 : Int)))) = true then some true else (ref4_BoundaryOf.f s.t_0 s.t_1).bind fun x118 => (ref3_Ints.f s.t_7 x118).bind fun x126 => some (!x126))).bind fun x131 => ((if x131 = true then some true else (ref4_ExtractOf.f s.t_0 s.t_1).bind fun x138 => (ref3_Commits.f s.t_11 x138).bind fun x146 => some (!x146))).bind fun x151 => some { s with t_88 := x151 }
noncomputable def r10 (s : S) : Option S := some { s with t_6 := false }
noncomputable def r11 (s : S) : Option S := (ref3_In.f s.t_2 (0 : Int) (60 : Int)).bind fun x156 => some { s with t_91 := (!x156) }
noncomputable def r12 (s : S) : Option S := (ref3_Fault.f (3 : Int) (-2 : Int)).bind fun x163 => some { s with t_6 := ((decide (s.t_10 = x163)) && (decide ((s.t_9.length : Int) = (0 : Int)))) }
noncomputable def r13 (s : S) : Option S := ((if (decide (s.t_10.Code = (0 : Int))) = true then (ref4_Steps.f s.t_0 s.t_1 s.t_2).bind fun x180 => (ref3_Ints.f s.t_9 x180).bind fun x187 => some x187 else some false)).bind fun x192 => some { s with t_6 := x192 }
noncomputable def body : S → Option (Ctl S R) := (seqM (regM r0)
  (seqM (seqM (regM r1)
  (condM (fun s => s.t_15) (seqM (regM r2)
  (retM retv))
  skipM))
  (seqM (regM r3)
  (seqM (regM r4)
  (seqM (regM r5)
  (seqM (regM r6)
  (seqM (seqM (regM r7)
  (condM (fun s => s.t_40) (seqM (regM r8)
  (retM retv))
  skipM))
  (seqM (seqM (regM r9)
  (condM (fun s => s.t_88) (seqM (regM r10)
  (retM retv))
  skipM))
  (seqM (seqM (regM r11)
  (condM (fun s => s.t_91) (seqM (regM r12)
  (retM retv))
  skipM))
  (seqM (regM r13)
  (retM retv)))))))))))
noncomputable def f (a0 : (List Commit)) (a1 : (List Int)) (a2 : Int) : Option R := retOf (body { t_0 := a0, t_1 := a1, t_2 := a2, t_6 := false, t_7 := [], t_8 := (⟨(0 : Int), (0 : Int)⟩ : Fault), t_9 := [], t_10 := (⟨(0 : Int), (0 : Int)⟩ : Fault), t_11 := [], t_12 := (⟨(0 : Int), (0 : Int)⟩ : Fault), t_13 := (⟨(0 : Int), (0 : Int)⟩ : Fault), t_15 := false, t_40 := false, t_88 := false, t_91 := false })
end law4_ShallowSelectionMatchesSpec

namespace law4_ShallowDeepenAdds
structure S where
  t_0 : (List Commit)
  t_1 : (List Int)
  t_2 : Int
  t_3 : Int
  t_8 : Bool
  t_9 : (List Int)
  t_10 : Fault
  t_11 : (List Int)
  t_12 : Fault
  t_13 : (List Int)
  t_14 : Fault
  t_16 : Bool
  t_26 : Bool
  t_36 : Bool
abbrev R := Bool
def retv (s : S) : R := (s.t_8)
noncomputable def r0 (s : S) : Option S := some { s with t_8 := false }
noncomputable def r1 (s : S) : Option S := (law4_shallowExample.f ).bind fun x1 => some { s with t_16 := (!x1) }
noncomputable def r2 (s : S) : Option S := some { s with t_8 := false }
noncomputable def r3 (s : S) : Option S := (ref3_In.f s.t_2 (1 : Int) (60 : Int)).bind fun x6 => ((if (!x6) = true then some true else (ref3_In.f s.t_3 (0 : Int) (w64 ((60 : Int) - s.t_2))).bind fun x13 => some (!x13))).bind fun x18 => some { s with t_26 := x18 }
noncomputable def r4 (s : S) : Option S := some { s with t_8 := true }
noncomputable def r5 (s : S) : Option S := (shallow_Cut.f s.t_0 s.t_1 s.t_2).bind fun x23 => some { s with t_9 := x23.1, t_10 := x23.2 }
noncomputable def r6 (s : S) : Option S := some { s with t_36 := (!decide (s.t_10.Code = (0 : Int))) }
noncomputable def r7 (s : S) : Option S := some { s with t_8 := (decide ((s.t_9.length : Int) = (0 : Int))) }
noncomputable def r8 (s : S) : Option S := (shallow_Deepen.f s.t_0 s.t_9 s.t_3).bind fun x47 => some { s with t_11 := x47.1, t_12 := x47.2 }
noncomputable def r9 (s : S) : Option S := (shallow_Cut.f s.t_0 s.t_1 (w64 (s.t_2 + s.t_3))).bind fun x66 => some { s with t_13 := x66.1, t_14 := x66.2 }
noncomputable def r10 (s : S) : Option S := ((if ((decide (s.t_12.Code = (0 : Int))) && (decide (s.t_14.Code = (0 : Int)))) = true then (ref3_Ints.f s.t_11 s.t_13).bind fun x90 => some x90 else some false)).bind fun x95 => some { s with t_8 := x95 }
noncomputable def body : S → Option (Ctl S R) := (seqM (regM r0)
  (seqM (seqM (regM r1)
  (condM (fun s => s.t_16) (seqM (regM r2)
  (retM retv))
  skipM))
  (seqM (seqM (regM r3)
  (condM (fun s => s.t_26) (seqM (regM r4)
  (retM retv))
  skipM))
  (seqM (regM r5)
  (seqM (seqM (regM r6)
  (condM (fun s => s.t_36) (seqM (regM r7)
  (retM retv))
  skipM))
  (seqM (regM r8)
  (seqM (regM r9)
  (seqM (regM r10)
  (retM retv)))))))))
noncomputable def f (a0 : (List Commit)) (a1 : (List Int)) (a2 : Int) (a3 : Int) : Option R := retOf (body { t_0 := a0, t_1 := a1, t_2 := a2, t_3 := a3, t_8 := false, t_9 := [], t_10 := (⟨(0 : Int), (0 : Int)⟩ : Fault), t_11 := [], t_12 := (⟨(0 : Int), (0 : Int)⟩ : Fault), t_13 := [], t_14 := (⟨(0 : Int), (0 : Int)⟩ : Fault), t_16 := false, t_26 := false, t_36 := false })
end law4_ShallowDeepenAdds

namespace law4_ShallowBoundaryDecides
structure S where
  l_0 : (List Commit)
  numbers_1 : (List Int)
  t_4 : Bool
  b_5 : (List Int)
  f_6 : Fault
  d_7 : (List Int)
  g_8 : Fault
  t_10 : Bool
  t_30 : Bool
abbrev R := Bool
def retv (s : S) : R := (s.t_4)
noncomputable def r0 (s : S) : Option S := some { s with t_4 := false }
noncomputable def r1 (s : S) : Option S := (law4_shallowExample.f ).bind fun x1 => some { s with t_10 := (!x1) }
noncomputable def r2 (s : S) : Option S := some { s with t_4 := false }
noncomputable def r3 (s : S) : Option S := (shallow_Boundary.f s.l_0 s.numbers_1).bind fun x6 => some { s with b_5 := x6.1, f_6 := x6.2 }
noncomputable def r4 (s : S) : Option S := (shallow_Deepen.f s.l_0 s.numbers_1 (1 : Int)).bind fun x25 => some { s with d_7 := x25.1, g_8 := x25.2 }
noncomputable def r5 (s : S) : Option S := some { s with t_30 := ((!decide (s.f_6.Code = (0 : Int))) || (!decide (s.g_8.Code = (0 : Int)))) }
noncomputable def r6 (s : S) : Option S := some { s with t_4 := ((decide (s.f_6 = s.g_8)) && (decide ((w64 ((s.b_5.length : Int) + (s.d_7.length : Int))) = (0 : Int)))) }
noncomputable def r7 (s : S) : Option S := (ref3_Ints.f s.d_7 s.numbers_1).bind fun x69 => some { s with t_4 := (decide ((decide ((s.b_5.length : Int) = (0 : Int))) = x69)) }
noncomputable def body : S → Option (Ctl S R) := (seqM (regM r0)
  (seqM (seqM (regM r1)
  (condM (fun s => s.t_10) (seqM (regM r2)
  (retM retv))
  skipM))
  (seqM (regM r3)
  (seqM (regM r4)
  (seqM (seqM (regM r5)
  (condM (fun s => s.t_30) (seqM (regM r6)
  (retM retv))
  skipM))
  (seqM (regM r7)
  (retM retv)))))))
noncomputable def f (a0 : (List Commit)) (a1 : (List Int)) : Option R := retOf (body { l_0 := a0, numbers_1 := a1, t_4 := false, b_5 := [], f_6 := (⟨(0 : Int), (0 : Int)⟩ : Fault), d_7 := [], g_8 := (⟨(0 : Int), (0 : Int)⟩ : Fault), t_10 := false, t_30 := false })
end law4_ShallowBoundaryDecides

end Go.Proofs.Ytilodamhgepjoaa
