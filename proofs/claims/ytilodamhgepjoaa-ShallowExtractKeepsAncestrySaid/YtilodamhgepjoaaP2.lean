/- What functions of the program come to, as plain Lean functions (written by a program, wip/fx/gen.py). -/
import Derived.Test.YtilodamhgepjoaaP1
import Derived.Test.YtilodamhgepjoaaIt
namespace Go.Proofs.Ytilodamhgepjoaa
open Go.Fx
set_option linter.unusedVariables false

namespace slices_BinarySearch_int_int
structure S where
  x_0 : (List Int)
  target_1 : Int
  t_4 : Int
  t_5 : Bool
  n_6 : Int
  i_7 : Int
  j_8 : Int
  h_9 : Int
  t_15 : Bool
  t_27 : Bool
abbrev R := (Int × Bool)
def retv (s : S) : R := (s.t_4, s.t_5)
noncomputable def r0 (s : S) : Option S := some { s with t_4 := (0 : Int), t_5 := false }
noncomputable def r1 (s : S) : Option S := some { s with n_6 := (s.x_0.length : Int) }
noncomputable def r2 (s : S) : Option S := some { s with i_7 := (0 : Int), j_8 := s.n_6 }
noncomputable def r3 (s : S) : Option S := some { s with t_15 := (decide (s.i_7 < s.j_8)) }
noncomputable def r4 (s : S) : Option S := some { s with h_9 := w64 (shrV .u64 (IntKind.u64.wrap (w64 (s.i_7 + s.j_8))) (1 : Int)) }
noncomputable def r5 (s : S) : Option S := (idx s.x_0 s.h_9).bind fun x6 => (cmp_Less_int.f x6 s.target_1).bind fun x16 => some { s with t_27 := x16 }
noncomputable def r6 (s : S) : Option S := some { s with i_7 := w64 (s.h_9 + (1 : Int)) }
noncomputable def r7 (s : S) : Option S := some { s with j_8 := s.h_9 }
noncomputable def r8 (s : S) : Option S := ((if (decide (s.i_7 < s.n_6)) = true then (idx s.x_0 s.i_7).bind fun x23 => ((if (decide (x23 = s.target_1)) = true then some true else (idx s.x_0 s.i_7).bind fun x35 => (slices_isNaN_int.f x35).bind fun x45 => ((if x45 = true then (slices_isNaN_int.f s.target_1).bind fun x52 => some x52 else some false)).bind fun x57 => some x57)).bind fun x62 => some x62 else some false)).bind fun x67 => some { s with t_4 := s.i_7, t_5 := x67 }
noncomputable def body : S → Option (Ctl S R) := (seqM (regM r0)
  (seqM (regM r1)
  (seqM (regM r2)
  (seqM (blockM 0 (iterM (seqM (seqM (regM r3)
  (condM (fun s => s.t_15) skipM
  (extM 0)))
  (blockM 1 (seqM (regM r4)
  (seqM (regM r5)
  (condM (fun s => s.t_27) (regM r6)
  (regM r7))))))))
  (seqM (regM r8)
  (retM retv))))))
noncomputable def f (a0 : (List Int)) (a1 : Int) : Option R := retOf (body { x_0 := a0, target_1 := a1, t_4 := (0 : Int), t_5 := false, n_6 := (0 : Int), i_7 := (0 : Int), j_8 := (0 : Int), h_9 := (0 : Int), t_15 := false, t_27 := false })
end slices_BinarySearch_int_int

namespace shallow_Boundary
structure S where
  commits_0 : (List Commit)
  numbers_1 : (List Int)
  t_4 : (List Int)
  t_5 : Fault
  f_6 : Fault
  out_7 : (List Int)
  n_9 : Int
  p_11 : Int
  there_13 : Bool
  t_19 : Bool
  t_21 : (List Int)
  t_22 : Int
  t_23 : Int
  t_24 : Bool
  t_31 : (List Int)
  t_32 : Int
  t_33 : Int
  t_34 : Bool
  t_44 : Bool
abbrev R := ((List Int) × Fault)
def retv (s : S) : R := (s.t_4, s.t_5)
noncomputable def r0 (s : S) : Option S := some { s with t_4 := [], t_5 := (⟨(0 : Int), (0 : Int)⟩ : Fault) }
noncomputable def r1 (s : S) : Option S := (shallow_check.f s.commits_0 s.numbers_1).bind fun x5 => some { s with f_6 := x5 }
noncomputable def r2 (s : S) : Option S := some { s with t_19 := (!decide (s.f_6 = (⟨(0 : Int), (0 : Int)⟩ : Fault))) }
noncomputable def r3 (s : S) : Option S := some { s with t_4 := [], t_5 := s.f_6 }
noncomputable def r4 (s : S) : Option S := some { s with out_7 := [] }
noncomputable def r5 (s : S) : Option S := some { s with t_21 := s.numbers_1, t_22 := (s.numbers_1.length : Int), t_23 := (0 : Int) }
noncomputable def r6 (s : S) : Option S := some { s with t_24 := (decide (s.t_23 < s.t_22)) }
noncomputable def r7 (s : S) : Option S := (idx s.t_21 s.t_23).bind fun x32 => some { s with n_9 := x32 }
noncomputable def r8 (s : S) : Option S := (idx s.commits_0 s.n_9).bind fun x42 => some { s with t_31 := x42.Parents, t_32 := (x42.Parents.length : Int), t_33 := (0 : Int) }
noncomputable def r9 (s : S) : Option S := some { s with t_34 := (decide (s.t_33 < s.t_32)) }
noncomputable def r10 (s : S) : Option S := (idx s.t_31 s.t_33).bind fun x60 => some { s with p_11 := x60 }
noncomputable def r11 (s : S) : Option S := (slices_BinarySearch_int_int.f s.numbers_1 s.p_11).bind fun x70 => some { s with there_13 := x70.2 }
noncomputable def r12 (s : S) : Option S := some { s with t_44 := (!s.there_13) }
noncomputable def r13 (s : S) : Option S := (appL 8 s.out_7 [s.n_9]).bind fun x80 => some { s with out_7 := x80 }
noncomputable def r14 (s : S) : Option S := some { s with t_33 := w64 (s.t_33 + (1 : Int)) }
noncomputable def r15 (s : S) : Option S := some { s with t_23 := w64 (s.t_23 + (1 : Int)) }
noncomputable def r16 (s : S) : Option S := some { s with t_4 := s.out_7, t_5 := (⟨(0 : Int), (0 : Int)⟩ : Fault) }
noncomputable def body : S → Option (Ctl S R) := (seqM (regM r0)
  (seqM (seqM (regM r1)
  (seqM (regM r2)
  (condM (fun s => s.t_19) (seqM (regM r3)
  (retM retv))
  skipM)))
  (seqM (regM r4)
  (seqM (seqM (regM r5)
  (blockM 0 (iterM (seqM (regM r6)
  (seqM (condM (fun s => s.t_24) skipM
  (extM 0))
  (seqM (blockM 1 (seqM (regM r7)
  (seqM (regM r8)
  (blockM 2 (iterM (seqM (regM r9)
  (seqM (condM (fun s => s.t_34) skipM
  (extM 2))
  (seqM (blockM 3 (seqM (regM r10)
  (seqM (regM r11)
  (seqM (regM r12)
  (condM (fun s => s.t_44) (seqM (regM r13)
  (extM 2))
  skipM)))))
  (regM r14)))))))))
  (regM r15)))))))
  (seqM (regM r16)
  (retM retv))))))
noncomputable def f (a0 : (List Commit)) (a1 : (List Int)) : Option R := retOf (body { commits_0 := a0, numbers_1 := a1, t_4 := [], t_5 := (⟨(0 : Int), (0 : Int)⟩ : Fault), f_6 := (⟨(0 : Int), (0 : Int)⟩ : Fault), out_7 := [], n_9 := (0 : Int), p_11 := (0 : Int), there_13 := false, t_19 := false, t_21 := [], t_22 := (0 : Int), t_23 := (0 : Int), t_24 := false, t_31 := [], t_32 := (0 : Int), t_33 := (0 : Int), t_34 := false, t_44 := false })
end shallow_Boundary

namespace shallow_Deepen
structure S where
  commits_0 : (List Commit)
  numbers_1 : (List Int)
  by_2 : Int
  t_6 : (List Int)
  t_7 : Fault
  f_8 : Fault
  t_14 : Bool
  t_21 : Bool
abbrev R := ((List Int) × Fault)
def retv (s : S) : R := (s.t_6, s.t_7)
noncomputable def r0 (s : S) : Option S := some { s with t_6 := [], t_7 := (⟨(0 : Int), (0 : Int)⟩ : Fault) }
noncomputable def r1 (s : S) : Option S := (shallow_check.f s.commits_0 s.numbers_1).bind fun x5 => some { s with f_8 := x5 }
noncomputable def r2 (s : S) : Option S := some { s with t_14 := (!decide (s.f_8 = (⟨(0 : Int), (0 : Int)⟩ : Fault))) }
noncomputable def r3 (s : S) : Option S := some { s with t_6 := [], t_7 := s.f_8 }
noncomputable def r4 (s : S) : Option S := some { s with t_21 := ((decide (s.by_2 < (0 : Int))) || (decide ((60 : Int) < s.by_2))) }
noncomputable def r5 (s : S) : Option S := some { s with t_6 := [], t_7 := (⟨(3 : Int), (-2 : Int)⟩ : Fault) }
noncomputable def r6 (s : S) : Option S := (shallow_reach.f s.commits_0 s.numbers_1 s.by_2).bind fun x34 => some { s with t_6 := x34, t_7 := (⟨(0 : Int), (0 : Int)⟩ : Fault) }
noncomputable def body : S → Option (Ctl S R) := (seqM (regM r0)
  (seqM (seqM (regM r1)
  (seqM (regM r2)
  (condM (fun s => s.t_14) (seqM (regM r3)
  (retM retv))
  skipM)))
  (seqM (seqM (regM r4)
  (condM (fun s => s.t_21) (seqM (regM r5)
  (retM retv))
  skipM))
  (seqM (regM r6)
  (retM retv)))))
noncomputable def f (a0 : (List Commit)) (a1 : (List Int)) (a2 : Int) : Option R := retOf (body { commits_0 := a0, numbers_1 := a1, by_2 := a2, t_6 := [], t_7 := (⟨(0 : Int), (0 : Int)⟩ : Fault), f_8 := (⟨(0 : Int), (0 : Int)⟩ : Fault), t_14 := false, t_21 := false })
end shallow_Deepen

namespace shallow_Extract
structure S where
  commits_0 : (List Commit)
  numbers_1 : (List Int)
  t_4 : (List Commit)
  t_5 : Fault
  f_6 : Fault
  out_7 : (List Commit)
  n_9 : Int
  c_10 : Commit
  parents_11 : (List Int)
  p_13 : Int
  i_14 : Int
  there_15 : Bool
  t_21 : Bool
  t_23 : (List Int)
  t_24 : Int
  t_25 : Int
  t_26 : Bool
  t_34 : (List Int)
  t_35 : Int
  t_36 : Int
  t_37 : Bool
  t_46 : Bool
abbrev R := ((List Commit) × Fault)
def retv (s : S) : R := (s.t_4, s.t_5)
noncomputable def r0 (s : S) : Option S := some { s with t_4 := [], t_5 := (⟨(0 : Int), (0 : Int)⟩ : Fault) }
noncomputable def r1 (s : S) : Option S := (shallow_check.f s.commits_0 s.numbers_1).bind fun x5 => some { s with f_6 := x5 }
noncomputable def r2 (s : S) : Option S := some { s with t_21 := (!decide (s.f_6 = (⟨(0 : Int), (0 : Int)⟩ : Fault))) }
noncomputable def r3 (s : S) : Option S := some { s with t_4 := [], t_5 := s.f_6 }
noncomputable def r4 (s : S) : Option S := some { s with out_7 := [] }
noncomputable def r5 (s : S) : Option S := some { s with t_23 := s.numbers_1, t_24 := (s.numbers_1.length : Int), t_25 := (0 : Int) }
noncomputable def r6 (s : S) : Option S := some { s with t_26 := (decide (s.t_25 < s.t_24)) }
noncomputable def r7 (s : S) : Option S := (idx s.t_23 s.t_25).bind fun x32 => some { s with n_9 := x32 }
noncomputable def r8 (s : S) : Option S := (idx s.commits_0 s.n_9).bind fun x42 => some { s with c_10 := x42 }
noncomputable def r9 (s : S) : Option S := some { s with parents_11 := [] }
noncomputable def r10 (s : S) : Option S := some { s with t_34 := s.c_10.Parents, t_35 := (s.c_10.Parents.length : Int), t_36 := (0 : Int) }
noncomputable def r11 (s : S) : Option S := some { s with t_37 := (decide (s.t_36 < s.t_35)) }
noncomputable def r12 (s : S) : Option S := (idx s.t_34 s.t_36).bind fun x69 => some { s with p_13 := x69 }
noncomputable def r13 (s : S) : Option S := (slices_BinarySearch_int_int.f s.numbers_1 s.p_13).bind fun x79 => some { s with i_14 := x79.1, there_15 := x79.2 }
noncomputable def r14 (s : S) : Option S := some { s with t_46 := s.there_15 }
noncomputable def r15 (s : S) : Option S := (appL 8 s.parents_11 [s.i_14]).bind fun x89 => some { s with parents_11 := x89 }
noncomputable def r16 (s : S) : Option S := some { s with t_36 := w64 (s.t_36 + (1 : Int)) }
noncomputable def r17 (s : S) : Option S := some { s with c_10 := { s.c_10 with Parents := s.parents_11 } }
noncomputable def r18 (s : S) : Option S := (appL 64 s.out_7 [s.c_10]).bind fun x108 => some { s with out_7 := x108 }
noncomputable def r19 (s : S) : Option S := some { s with t_25 := w64 (s.t_25 + (1 : Int)) }
noncomputable def r20 (s : S) : Option S := some { s with t_4 := s.out_7, t_5 := (⟨(0 : Int), (0 : Int)⟩ : Fault) }
noncomputable def body : S → Option (Ctl S R) := (seqM (regM r0)
  (seqM (seqM (regM r1)
  (seqM (regM r2)
  (condM (fun s => s.t_21) (seqM (regM r3)
  (retM retv))
  skipM)))
  (seqM (regM r4)
  (seqM (seqM (regM r5)
  (blockM 0 (iterM (seqM (regM r6)
  (seqM (condM (fun s => s.t_26) skipM
  (extM 0))
  (seqM (blockM 1 (seqM (regM r7)
  (seqM (regM r8)
  (seqM (regM r9)
  (seqM (seqM (regM r10)
  (blockM 2 (iterM (seqM (regM r11)
  (seqM (condM (fun s => s.t_37) skipM
  (extM 2))
  (seqM (blockM 3 (seqM (regM r12)
  (seqM (regM r13)
  (seqM (regM r14)
  (condM (fun s => s.t_46) (regM r15)
  skipM)))))
  (regM r16)))))))
  (seqM (regM r17)
  (regM r18)))))))
  (regM r19)))))))
  (seqM (regM r20)
  (retM retv))))))
noncomputable def f (a0 : (List Commit)) (a1 : (List Int)) : Option R := retOf (body { commits_0 := a0, numbers_1 := a1, t_4 := [], t_5 := (⟨(0 : Int), (0 : Int)⟩ : Fault), f_6 := (⟨(0 : Int), (0 : Int)⟩ : Fault), out_7 := [], n_9 := (0 : Int), c_10 := (⟨[], (0 : Int), (0 : Int), (0 : Int), ByteArray.empty⟩ : Commit), parents_11 := [], p_13 := (0 : Int), i_14 := (0 : Int), there_15 := false, t_21 := false, t_23 := [], t_24 := (0 : Int), t_25 := (0 : Int), t_26 := false, t_34 := [], t_35 := (0 : Int), t_36 := (0 : Int), t_37 := false, t_46 := false })
end shallow_Extract

namespace law4_chain
structure S where
  n_0 : Int
  t_2 : (List Commit)
  l_3 : (List Commit)
  i_4 : Int
  c_5 : Commit
  t_8 : Bool
  t_14 : Bool
abbrev R := (List Commit)
def retv (s : S) : R := (s.t_2)
noncomputable def r0 (s : S) : Option S := some { s with t_2 := [] }
noncomputable def r1 (s : S) : Option S := some { s with l_3 := [] }
noncomputable def r2 (s : S) : Option S := some { s with i_4 := (0 : Int) }
noncomputable def r3 (s : S) : Option S := some { s with t_8 := (decide (s.i_4 < s.n_0)) }
noncomputable def r5 (s : S) : Option S := some { s with c_5 := (⟨[], (0 : Int), s.i_4, (0 : Int), ByteArray.empty⟩ : Commit) }
noncomputable def r6 (s : S) : Option S := some { s with t_14 := (decide ((0 : Int) < s.i_4)) }
noncomputable def r7 (s : S) : Option S := some { s with c_5 := { s.c_5 with Parents := [w64 (s.i_4 - (1 : Int))] } }
noncomputable def r8 (s : S) : Option S := (appL 64 s.l_3 [s.c_5]).bind fun x24 => some { s with l_3 := x24 }
noncomputable def r4 (s : S) : Option S := some { s with i_4 := w64 (s.i_4 + (1 : Int)) }
noncomputable def r9 (s : S) : Option S := some { s with t_2 := s.l_3 }
noncomputable def body : S → Option (Ctl S R) := (seqM (regM r0)
  (seqM (regM r1)
  (seqM (seqM (regM r2)
  (blockM 0 (iterM (seqM (seqM (regM r3)
  (condM (fun s => s.t_8) skipM
  (extM 0)))
  (seqM (blockM 1 (seqM (regM r5)
  (seqM (seqM (regM r6)
  (condM (fun s => s.t_14) (regM r7)
  skipM))
  (regM r8))))
  (regM r4))))))
  (seqM (regM r9)
  (retM retv)))))
noncomputable def f (a0 : Int) : Option R := retOf (body { n_0 := a0, t_2 := [], l_3 := [], i_4 := (0 : Int), c_5 := (⟨[], (0 : Int), (0 : Int), (0 : Int), ByteArray.empty⟩ : Commit), t_8 := false, t_14 := false })
end law4_chain

namespace law4_shallowExample
structure S where
  t_0 : Bool
  t_1 : (List Int)
  t_2 : Fault
  t_3 : (List Int)
  t_4 : Fault
  t_5 : (List Int)
  t_6 : Fault
  t_7 : (List Commit)
  t_8 : Fault
abbrev R := Bool
def retv (s : S) : R := (s.t_0)
noncomputable def r0 (s : S) : Option S := some { s with t_0 := false }
noncomputable def r1 (s : S) : Option S := (law4_chain.f (3 : Int)).bind fun x1 => (shallow_Cut.f x1 [(2 : Int)] (2 : Int)).bind fun x14 => some { s with t_1 := x14.1, t_2 := x14.2 }
noncomputable def r2 (s : S) : Option S := (law4_chain.f (3 : Int)).bind fun x33 => (shallow_Boundary.f x33 [(1 : Int), (2 : Int)]).bind fun x46 => some { s with t_3 := x46.1, t_4 := x46.2 }
noncomputable def r3 (s : S) : Option S := (law4_chain.f (3 : Int)).bind fun x65 => (shallow_Deepen.f x65 [(1 : Int), (2 : Int)] (1 : Int)).bind fun x78 => some { s with t_5 := x78.1, t_6 := x78.2 }
noncomputable def r4 (s : S) : Option S := (law4_chain.f (3 : Int)).bind fun x97 => (shallow_Extract.f x97 [(1 : Int), (2 : Int)]).bind fun x112 => some { s with t_7 := x112.1, t_8 := x112.2 }
noncomputable def r5 (s : S) : Option S := ((if ((((decide (s.t_2.Code = (0 : Int))) && (decide (s.t_4.Code = (0 : Int)))) && (decide (s.t_6.Code = (0 : Int)))) && (decide (s.t_8.Code = (0 : Int)))) = true then (ref3_Ints.f s.t_1 [(1 : Int), (2 : Int)]).bind fun x147 => some x147 else some false)).bind fun x152 => ((if x152 = true then (ref3_Ints.f s.t_3 [(1 : Int)]).bind fun x164 => some x164 else some false)).bind fun x169 => ((if x169 = true then (ref3_Ints.f s.t_5 [(0 : Int), (1 : Int), (2 : Int)]).bind fun x181 => some x181 else some false)).bind fun x186 => ((if (x186 && (decide ((s.t_7.length : Int) = (2 : Int)))) = true then (idx s.t_7 (0 : Int)).bind fun x201 => some (decide ((x201.Parents.length : Int) = (0 : Int))) else some false)).bind fun x219 => ((if x219 = true then (idx s.t_7 (1 : Int)).bind fun x223 => (ref3_Ints.f x223.Parents [(0 : Int)]).bind fun x241 => some x241 else some false)).bind fun x246 => some { s with t_0 := x246 }
noncomputable def body : S → Option (Ctl S R) := (seqM (regM r0)
  (seqM (regM r1)
  (seqM (regM r2)
  (seqM (regM r3)
  (seqM (regM r4)
  (seqM (regM r5)
  (retM retv)))))))
noncomputable def f  : Option R := retOf (body { t_0 := false, t_1 := [], t_2 := (⟨(0 : Int), (0 : Int)⟩ : Fault), t_3 := [], t_4 := (⟨(0 : Int), (0 : Int)⟩ : Fault), t_5 := [], t_6 := (⟨(0 : Int), (0 : Int)⟩ : Fault), t_7 := [], t_8 := (⟨(0 : Int), (0 : Int)⟩ : Fault) })
end law4_shallowExample

namespace ref3_Fault
structure S where
  code_0 : Int
  index_1 : Int
  t_4 : Fault
abbrev R := Fault
def retv (s : S) : R := (s.t_4)
noncomputable def r0 (s : S) : Option S := some { s with t_4 := (⟨(0 : Int), (0 : Int)⟩ : Fault) }
noncomputable def r1 (s : S) : Option S := some { s with t_4 := (⟨s.code_0, s.index_1⟩ : Fault) }
noncomputable def body : S → Option (Ctl S R) := (seqM (regM r0)
  (seqM (regM r1)
  (retM retv)))
noncomputable def f (a0 : Int) (a1 : Int) : Option R := retOf (body { code_0 := a0, index_1 := a1, t_4 := (⟨(0 : Int), (0 : Int)⟩ : Fault) })
end ref3_Fault

end Go.Proofs.Ytilodamhgepjoaa
