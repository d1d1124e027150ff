/- What functions of the program come to, as plain Lean functions (written by a program, wip/fx/gen.py). -/
import Derived.Test.YtilodamhgepjoaaP4
import Derived.Test.YtilodamhgepjoaaIt
namespace Go.Proofs.Ytilodamhgepjoaa
open Go.Fx
set_option linter.unusedVariables false

namespace ref3_Reach
structure S where
  l_0 : (List Commit)
  t_2 : (List (List Bool))
  out_3 : (List (List Bool))
  i_4 : Int
  row_5 : (List Bool)
  k_6 : Int
  j_7 : Int
  t_11 : Bool
  t_22 : Bool
  t_32 : Bool
abbrev R := (List (List Bool))
def retv (s : S) : R := (s.t_2)
noncomputable def r0 (s : S) : Option S := some { s with t_2 := [] }
noncomputable def r1 (s : S) : Option S := some { s with out_3 := [] }
noncomputable def r2 (s : S) : Option S := some { s with i_4 := (0 : Int) }
noncomputable def r3 (s : S) : Option S := some { s with t_11 := (decide (s.i_4 < (s.l_0.length : Int))) }
noncomputable def r5 (s : S) : Option S := (mkL 1 false (s.l_0.length : Int)).bind fun x11 => some { s with row_5 := x11 }
noncomputable def r6 (s : S) : Option S := (idx s.row_5 s.i_4).bind fun x16 => some { s with row_5 := setL s.row_5 s.i_4 true }
noncomputable def r7 (s : S) : Option S := some { s with k_6 := (0 : Int) }
noncomputable def r8 (s : S) : Option S := some { s with t_22 := (decide (s.k_6 < s.i_4)) }
noncomputable def r10 (s : S) : Option S := some { s with j_7 := (0 : Int) }
noncomputable def r11 (s : S) : Option S := (idx s.l_0 s.i_4).bind fun x25 => some { s with t_32 := (decide (s.j_7 < (x25.Parents.length : Int))) }
noncomputable def r13 (s : S) : Option S := (idx s.row_5 s.k_6).bind fun x43 => ((if x43 = true then some true else (idx s.l_0 s.i_4).bind fun x51 => (idx x51.Parents s.j_7).bind fun x64 => (idx s.out_3 x64).bind fun x74 => (idx x74 s.k_6).bind fun x83 => some x83)).bind fun x93 => (idx s.row_5 s.k_6).bind fun x95 => some { s with row_5 := setL s.row_5 s.k_6 x93 }
noncomputable def r12 (s : S) : Option S := some { s with j_7 := w64 (s.j_7 + (1 : Int)) }
noncomputable def r9 (s : S) : Option S := some { s with k_6 := w64 (s.k_6 + (1 : Int)) }
noncomputable def r14 (s : S) : Option S := (appL 24 s.out_3 [s.row_5]).bind fun x112 => some { s with out_3 := x112 }
noncomputable def r4 (s : S) : Option S := some { s with i_4 := w64 (s.i_4 + (1 : Int)) }
noncomputable def r15 (s : S) : Option S := some { s with t_2 := s.out_3 }
noncomputable def body : S → Option (Ctl S R) := (seqM (regM r0)
  (seqM (regM r1)
  (seqM (seqM (regM r2)
  (blockM 0 (iterM (seqM (seqM (regM r3)
  (condM (fun s => s.t_11) skipM
  (extM 0)))
  (seqM (blockM 1 (seqM (regM r5)
  (seqM (regM r6)
  (seqM (seqM (regM r7)
  (blockM 2 (iterM (seqM (seqM (regM r8)
  (condM (fun s => s.t_22) skipM
  (extM 2)))
  (seqM (blockM 3 (seqM (regM r10)
  (blockM 4 (iterM (seqM (seqM (regM r11)
  (condM (fun s => s.t_32) skipM
  (extM 4)))
  (seqM (blockM 5 (regM r13))
  (regM r12)))))))
  (regM r9))))))
  (regM r14)))))
  (regM r4))))))
  (seqM (regM r15)
  (retM retv)))))
noncomputable def f (a0 : (List Commit)) : Option R := retOf (body { l_0 := a0, t_2 := [], out_3 := [], i_4 := (0 : Int), row_5 := [], k_6 := (0 : Int), j_7 := (0 : Int), t_11 := false, t_22 := false, t_32 := false })
end ref3_Reach

namespace law4_ShallowExtractKeepsAncestry
structure S where
  t_0 : (List Commit)
  t_1 : (List Int)
  t_4 : Bool
  t_5 : (List Commit)
  t_6 : Fault
  t_7 : (List Int)
  t_8 : Fault
  t_9 : (List (List Bool))
  t_10 : (List (List Bool))
  t_11 : Int
  t_12 : Int
  t_13 : Bool
  t_15 : Bool
  t_42 : Bool
  t_61 : Bool
  t_69 : Bool
  t_75 : Bool
  t_119 : Bool
abbrev R := Bool
def retv (s : S) : R := (s.t_4)
noncomputable def r0 (s : S) : Option S := some { s with t_4 := false }
noncomputable def r1 (s : S) : Option S := (law4_shallowExample.f ).bind fun x1 => some { s with t_15 := (!x1) }
noncomputable def r2 (s : S) : Option S := some { s with t_4 := false }
noncomputable def r3 (s : S) : Option S := (shallow_Extract.f s.t_0 s.t_1).bind fun x6 => some { s with t_5 := x6.1, t_6 := x6.2 }
noncomputable def r4 (s : S) : Option S := (shallow_Boundary.f s.t_0 s.t_1).bind fun x25 => some { s with t_7 := x25.1, t_8 := x25.2 }
noncomputable def r5 (s : S) : Option S := ((if ((!decide (s.t_6.Code = (0 : Int))) || (!decide (s.t_8.Code = (0 : Int)))) = true then some true else (ref4_SelectionFault.f s.t_0 s.t_1).bind fun x49 => some (!decide (x49.Code = (0 : Int))))).bind fun x56 => some { s with t_42 := x56 }
noncomputable def r6 (s : S) : Option S := some { s with t_4 := ((decide (s.t_6 = s.t_8)) && (decide ((s.t_5.length : Int) = (0 : Int)))) }
noncomputable def r7 (s : S) : Option S := ((if (!decide ((s.t_5.length : Int) = (s.t_1.length : Int))) = true then some true else (ref3_HistoryFault.f s.t_5).bind fun x85 => some (!decide (x85.Code = (0 : Int))))).bind fun x92 => some { s with t_61 := x92 }
noncomputable def r8 (s : S) : Option S := some { s with t_4 := false }
noncomputable def r9 (s : S) : Option S := (ref3_Reach.f s.t_0).bind fun x97 => (ref3_Reach.f s.t_5).bind fun x104 => some { s with t_9 := x97, t_10 := x104 }
noncomputable def r10 (s : S) : Option S := some { s with t_11 := (0 : Int) }
noncomputable def r11 (s : S) : Option S := some { s with t_69 := (decide (s.t_11 < (s.t_5.length : Int))) }
noncomputable def r13 (s : S) : Option S := some { s with t_12 := (0 : Int) }
noncomputable def r14 (s : S) : Option S := some { s with t_75 := (decide (s.t_12 < (s.t_5.length : Int))) }
noncomputable def r16 (s : S) : Option S := (idx s.t_1 s.t_11).bind fun x127 => (idx s.t_9 x127).bind fun x137 => (idx s.t_1 s.t_12).bind fun x150 => (idx x137 x150).bind fun x160 => some { s with t_13 := x160 }
noncomputable def r17 (s : S) : Option S := (idx s.t_10 s.t_11).bind fun x170 => (idx x170 s.t_12).bind fun x183 => ((if (x183 && (!s.t_13)) = true then some true else ((if s.t_13 = true then (idx s.t_10 s.t_11).bind fun x200 => (idx x200 s.t_12).bind fun x213 => some (!x213) else some false)).bind fun x223 => some (x223 && (decide ((s.t_7.length : Int) = (0 : Int)))))).bind fun x233 => some { s with t_119 := x233 }
noncomputable def r18 (s : S) : Option S := some { s with t_4 := false }
noncomputable def r15 (s : S) : Option S := some { s with t_12 := w64 (s.t_12 + (1 : Int)) }
noncomputable def r12 (s : S) : Option S := some { s with t_11 := w64 (s.t_11 + (1 : Int)) }
noncomputable def r19 (s : S) : Option S := some { s with t_4 := true }
noncomputable def body : S → Option (Ctl S R) := (seqM (regM r0)
  (seqM (seqM (regM r1)
  (condM (fun s => s.t_15) (seqM (regM r2)
  (retM retv))
  skipM))
  (seqM (regM r3)
  (seqM (regM r4)
  (seqM (seqM (regM r5)
  (condM (fun s => s.t_42) (seqM (regM r6)
  (retM retv))
  skipM))
  (seqM (seqM (regM r7)
  (condM (fun s => s.t_61) (seqM (regM r8)
  (retM retv))
  skipM))
  (seqM (regM r9)
  (seqM (seqM (regM r10)
  (blockM 0 (iterM (seqM (seqM (regM r11)
  (condM (fun s => s.t_69) skipM
  (extM 0)))
  (seqM (blockM 1 (seqM (regM r13)
  (blockM 2 (iterM (seqM (seqM (regM r14)
  (condM (fun s => s.t_75) skipM
  (extM 2)))
  (seqM (blockM 3 (seqM (regM r16)
  (seqM (regM r17)
  (condM (fun s => s.t_119) (seqM (regM r18)
  (retM retv))
  skipM))))
  (regM r15)))))))
  (regM r12))))))
  (seqM (regM r19)
  (retM retv))))))))))
noncomputable def f (a0 : (List Commit)) (a1 : (List Int)) : Option R := retOf (body { t_0 := a0, t_1 := a1, t_4 := false, t_5 := [], t_6 := (⟨(0 : Int), (0 : Int)⟩ : Fault), t_7 := [], t_8 := (⟨(0 : Int), (0 : Int)⟩ : Fault), t_9 := [], t_10 := [], t_11 := (0 : Int), t_12 := (0 : Int), t_13 := false, t_15 := false, t_42 := false, t_61 := false, t_69 := false, t_75 := false, t_119 := false })
end law4_ShallowExtractKeepsAncestry

namespace negotiate_closed
structure S where
  commits_0 : (List Commit)
  in_1 : (List Bool)
  t_4 : Int
  i_5 : Int
  c_6 : Commit
  p_8 : Int
  t_9 : (List Commit)
  t_10 : Int
  t_11 : Int
  t_12 : Bool
  t_17 : (List Int)
  t_18 : Int
  t_19 : Int
  t_20 : Bool
  t_33 : Bool
abbrev R := Int
def retv (s : S) : R := (s.t_4)
noncomputable def r0 (s : S) : Option S := some { s with t_4 := (0 : Int) }
noncomputable def r1 (s : S) : Option S := some { s with t_9 := s.commits_0, t_10 := (s.commits_0.length : Int), t_11 := (0 : Int) }
noncomputable def r2 (s : S) : Option S := some { s with t_12 := (decide (s.t_11 < s.t_10)) }
noncomputable def r3 (s : S) : Option S := (idx s.t_9 s.t_11).bind fun x6 => some { s with i_5 := s.t_11, c_6 := x6 }
noncomputable def r4 (s : S) : Option S := some { s with t_17 := s.c_6.Parents, t_18 := (s.c_6.Parents.length : Int), t_19 := (0 : Int) }
noncomputable def r5 (s : S) : Option S := some { s with t_20 := (decide (s.t_19 < s.t_18)) }
noncomputable def r6 (s : S) : Option S := (idx s.t_17 s.t_19).bind fun x33 => some { s with p_8 := x33 }
noncomputable def r7 (s : S) : Option S := (idx s.in_1 s.i_5).bind fun x43 => ((if x43 = true then (idx s.in_1 s.p_8).bind fun x55 => some (!x55) else some false)).bind fun x65 => some { s with t_33 := x65 }
noncomputable def r8 (s : S) : Option S := some { s with t_4 := s.i_5 }
noncomputable def r9 (s : S) : Option S := some { s with t_19 := w64 (s.t_19 + (1 : Int)) }
noncomputable def r10 (s : S) : Option S := some { s with t_11 := w64 (s.t_11 + (1 : Int)) }
noncomputable def r11 (s : S) : Option S := some { s with t_4 := (-1 : Int) }
noncomputable def body : S → Option (Ctl S R) := (seqM (regM r0)
  (seqM (seqM (regM r1)
  (blockM 0 (iterM (seqM (regM r2)
  (seqM (condM (fun s => s.t_12) skipM
  (extM 0))
  (seqM (blockM 1 (seqM (regM r3)
  (seqM (regM r4)
  (blockM 2 (iterM (seqM (regM r5)
  (seqM (condM (fun s => s.t_20) skipM
  (extM 2))
  (seqM (blockM 3 (seqM (regM r6)
  (seqM (regM r7)
  (condM (fun s => s.t_33) (seqM (regM r8)
  (retM retv))
  skipM))))
  (regM r9)))))))))
  (regM r10)))))))
  (seqM (regM r11)
  (retM retv))))
noncomputable def f (a0 : (List Commit)) (a1 : (List Bool)) : Option R := retOf (body { commits_0 := a0, in_1 := a1, t_4 := (0 : Int), i_5 := (0 : Int), c_6 := (⟨[], (0 : Int), (0 : Int), (0 : Int), ByteArray.empty⟩ : Commit), p_8 := (0 : Int), t_9 := [], t_10 := (0 : Int), t_11 := (0 : Int), t_12 := false, t_17 := [], t_18 := (0 : Int), t_19 := (0 : Int), t_20 := false, t_33 := false })
end negotiate_closed

namespace negotiate_check
structure S where
  t_0 : (List Commit)
  t_1 : (List Bool)
  t_2 : (List Bool)
  t_3 : (List Int)
  t_8 : Fault
  t_9 : Fault
  t_10 : Int
  t_11 : Int
  t_12 : Int
  t_13 : Int
  t_18 : Bool
  t_24 : Bool
  t_30 : Bool
  t_36 : Bool
  t_43 : Bool
  t_49 : Bool
  t_51 : (List Int)
  t_52 : Int
  t_53 : Int
  t_54 : Bool
  t_72 : Bool
abbrev R := Fault
def retv (s : S) : R := (s.t_8)
noncomputable def r0 (s : S) : Option S := some { s with t_8 := (⟨(0 : Int), (0 : Int)⟩ : Fault) }
noncomputable def r1 (s : S) : Option S := (history_Validate.f s.t_0).bind fun x5 => some { s with t_9 := x5 }
noncomputable def r2 (s : S) : Option S := some { s with t_18 := (!decide (s.t_9 = (⟨(0 : Int), (0 : Int)⟩ : Fault))) }
noncomputable def r3 (s : S) : Option S := some { s with t_8 := s.t_9 }
noncomputable def r4 (s : S) : Option S := some { s with t_24 := (!decide ((s.t_1.length : Int) = (s.t_0.length : Int))) }
noncomputable def r5 (s : S) : Option S := some { s with t_8 := (⟨(9 : Int), (-1 : Int)⟩ : Fault) }
noncomputable def r6 (s : S) : Option S := some { s with t_30 := (!decide ((s.t_2.length : Int) = (s.t_0.length : Int))) }
noncomputable def r7 (s : S) : Option S := some { s with t_8 := (⟨(9 : Int), (-2 : Int)⟩ : Fault) }
noncomputable def r8 (s : S) : Option S := (negotiate_closed.f s.t_0 s.t_1).bind fun x55 => some { s with t_10 := x55 }
noncomputable def r9 (s : S) : Option S := some { s with t_36 := (decide ((0 : Int) ≤ s.t_10)) }
noncomputable def r10 (s : S) : Option S := some { s with t_8 := (⟨(5 : Int), s.t_10⟩ : Fault) }
noncomputable def r11 (s : S) : Option S := (negotiate_closed.f s.t_0 s.t_2).bind fun x64 => some { s with t_11 := x64 }
noncomputable def r12 (s : S) : Option S := some { s with t_43 := (decide ((0 : Int) ≤ s.t_11)) }
noncomputable def r13 (s : S) : Option S := some { s with t_8 := (⟨(5 : Int), w64 ((-3 : Int) - s.t_11)⟩ : Fault) }
noncomputable def r14 (s : S) : Option S := some { s with t_49 := (decide ((60 : Int) < (s.t_3.length : Int))) }
noncomputable def r15 (s : S) : Option S := some { s with t_8 := (⟨(2 : Int), (-1 : Int)⟩ : Fault) }
noncomputable def r16 (s : S) : Option S := some { s with t_51 := s.t_3, t_52 := (s.t_3.length : Int), t_53 := (0 : Int) }
noncomputable def r17 (s : S) : Option S := some { s with t_54 := (decide (s.t_53 < s.t_52)) }
noncomputable def r18 (s : S) : Option S := (idx s.t_51 s.t_53).bind fun x87 => some { s with t_12 := s.t_53, t_13 := x87 }
noncomputable def r19 (s : S) : Option S := ((if ((decide (s.t_13 < (0 : Int))) || (decide ((s.t_0.length : Int) ≤ s.t_13))) = true then some true else (idx s.t_1 s.t_13).bind fun x107 => some (!x107))).bind fun x117 => some { s with t_72 := x117 }
noncomputable def r20 (s : S) : Option S := some { s with t_8 := (⟨(6 : Int), s.t_12⟩ : Fault) }
noncomputable def r21 (s : S) : Option S := some { s with t_53 := w64 (s.t_53 + (1 : Int)) }
noncomputable def r22 (s : S) : Option S := some { s with t_8 := (⟨(0 : Int), (0 : Int)⟩ : Fault) }
noncomputable def body : S → Option (Ctl S R) := (seqM (regM r0)
  (seqM (seqM (regM r1)
  (seqM (regM r2)
  (condM (fun s => s.t_18) (seqM (regM r3)
  (retM retv))
  skipM)))
  (seqM (seqM (regM r4)
  (condM (fun s => s.t_24) (seqM (regM r5)
  (retM retv))
  skipM))
  (seqM (seqM (regM r6)
  (condM (fun s => s.t_30) (seqM (regM r7)
  (retM retv))
  skipM))
  (seqM (seqM (regM r8)
  (seqM (regM r9)
  (condM (fun s => s.t_36) (seqM (regM r10)
  (retM retv))
  skipM)))
  (seqM (seqM (regM r11)
  (seqM (regM r12)
  (condM (fun s => s.t_43) (seqM (regM r13)
  (retM retv))
  skipM)))
  (seqM (seqM (regM r14)
  (condM (fun s => s.t_49) (seqM (regM r15)
  (retM retv))
  skipM))
  (seqM (seqM (regM r16)
  (blockM 0 (iterM (seqM (regM r17)
  (seqM (condM (fun s => s.t_54) skipM
  (extM 0))
  (seqM (blockM 1 (seqM (regM r18)
  (seqM (regM r19)
  (condM (fun s => s.t_72) (seqM (regM r20)
  (retM retv))
  skipM))))
  (regM r21)))))))
  (seqM (regM r22)
  (retM retv))))))))))
noncomputable def f (a0 : (List Commit)) (a1 : (List Bool)) (a2 : (List Bool)) (a3 : (List Int)) : Option R := retOf (body { t_0 := a0, t_1 := a1, t_2 := a2, t_3 := a3, t_8 := (⟨(0 : Int), (0 : Int)⟩ : Fault), t_9 := (⟨(0 : Int), (0 : Int)⟩ : Fault), t_10 := (0 : Int), t_11 := (0 : Int), t_12 := (0 : Int), t_13 := (0 : Int), t_18 := false, t_24 := false, t_30 := false, t_36 := false, t_43 := false, t_49 := false, t_51 := [], t_52 := (0 : Int), t_53 := (0 : Int), t_54 := false, t_72 := false })
end negotiate_check

namespace history_Ancestors
structure S where
  commits_0 : (List Commit)
  n_1 : Int
  t_4 : (List Bool)
  t_5 : Fault
  f_6 : Fault
  out_7 : (List Bool)
  i_8 : Int
  p_10 : Int
  t_15 : Bool
  t_24 : Bool
  t_34 : Bool
  t_40 : Bool
  t_45 : (List Int)
  t_46 : Int
  t_47 : Int
  t_48 : Bool
abbrev R := ((List Bool) × Fault)
def retv (s : S) : R := (s.t_4, s.t_5)
noncomputable def r0 (s : S) : Option S := some { s with t_4 := [], t_5 := (⟨(0 : Int), (0 : Int)⟩ : Fault) }
noncomputable def r1 (s : S) : Option S := (history_Validate.f s.commits_0).bind fun x5 => some { s with f_6 := x5 }
noncomputable def r2 (s : S) : Option S := some { s with t_15 := (!decide (s.f_6 = (⟨(0 : Int), (0 : Int)⟩ : Fault))) }
noncomputable def r3 (s : S) : Option S := some { s with t_4 := [], t_5 := s.f_6 }
noncomputable def r4 (s : S) : Option S := some { s with t_24 := ((decide (s.n_1 < (0 : Int))) || (decide ((s.commits_0.length : Int) ≤ s.n_1))) }
noncomputable def r5 (s : S) : Option S := some { s with t_4 := [], t_5 := (⟨(6 : Int), (-1 : Int)⟩ : Fault) }
noncomputable def r6 (s : S) : Option S := (mkL 1 false (s.commits_0.length : Int)).bind fun x44 => some { s with out_7 := x44 }
noncomputable def r7 (s : S) : Option S := (idx s.out_7 s.n_1).bind fun x49 => some { s with out_7 := setL s.out_7 s.n_1 true }
noncomputable def r8 (s : S) : Option S := some { s with i_8 := s.n_1 }
noncomputable def r9 (s : S) : Option S := some { s with t_34 := (decide ((0 : Int) ≤ s.i_8)) }
noncomputable def r11 (s : S) : Option S := (idx s.out_7 s.i_8).bind fun x58 => some { s with t_40 := x58 }
noncomputable def r12 (s : S) : Option S := (idx s.commits_0 s.i_8).bind fun x64 => some { s with t_45 := x64.Parents, t_46 := (x64.Parents.length : Int), t_47 := (0 : Int) }
noncomputable def r13 (s : S) : Option S := some { s with t_48 := (decide (s.t_47 < s.t_46)) }
noncomputable def r14 (s : S) : Option S := (idx s.t_45 s.t_47).bind fun x82 => some { s with p_10 := x82 }
noncomputable def r15 (s : S) : Option S := (idx s.out_7 s.p_10).bind fun x92 => some { s with out_7 := setL s.out_7 s.p_10 true }
noncomputable def r16 (s : S) : Option S := some { s with t_47 := w64 (s.t_47 + (1 : Int)) }
noncomputable def r10 (s : S) : Option S := some { s with i_8 := w64 (s.i_8 - (1 : Int)) }
noncomputable def r17 (s : S) : Option S := some { s with t_4 := s.out_7, t_5 := (⟨(0 : Int), (0 : Int)⟩ : Fault) }
noncomputable def body : S → Option (Ctl S R) := (seqM (regM r0)
  (seqM (seqM (regM r1)
  (seqM (regM r2)
  (condM (fun s => s.t_15) (seqM (regM r3)
  (retM retv))
  skipM)))
  (seqM (seqM (regM r4)
  (condM (fun s => s.t_24) (seqM (regM r5)
  (retM retv))
  skipM))
  (seqM (regM r6)
  (seqM (regM r7)
  (seqM (seqM (regM r8)
  (blockM 0 (iterM (seqM (seqM (regM r9)
  (condM (fun s => s.t_34) skipM
  (extM 0)))
  (seqM (blockM 1 (seqM (regM r11)
  (condM (fun s => s.t_40) (seqM (regM r12)
  (blockM 2 (iterM (seqM (regM r13)
  (seqM (condM (fun s => s.t_48) skipM
  (extM 2))
  (seqM (blockM 3 (seqM (regM r14)
  (regM r15)))
  (regM r16)))))))
  skipM)))
  (regM r10))))))
  (seqM (regM r17)
  (retM retv))))))))
noncomputable def f (a0 : (List Commit)) (a1 : Int) : Option R := retOf (body { commits_0 := a0, n_1 := a1, t_4 := [], t_5 := (⟨(0 : Int), (0 : Int)⟩ : Fault), f_6 := (⟨(0 : Int), (0 : Int)⟩ : Fault), out_7 := [], i_8 := (0 : Int), p_10 := (0 : Int), t_15 := false, t_24 := false, t_34 := false, t_40 := false, t_45 := [], t_46 := (0 : Int), t_47 := (0 : Int), t_48 := false })
end history_Ancestors

end Go.Proofs.Ytilodamhgepjoaa
