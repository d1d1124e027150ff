/- What functions of the program come to, as plain Lean functions (written by a program, wip/fx/gen.py). -/
import Derived.Test.YtilodamhgepjoaaP0
import Derived.Test.YtilodamhgepjoaaIt
namespace Go.Proofs.Ytilodamhgepjoaa
open Go.Fx
set_option linter.unusedVariables false

namespace shallow_reach
structure S where
  t_0 : (List Commit)
  t_1 : (List Int)
  t_2 : Int
  t_6 : (List Int)
  t_7 : (List Int)
  t_9 : Int
  t_10 : (List Int)
  t_11 : Int
  t_12 : Commit
  t_14 : Int
  t_18 : (List Int)
  t_19 : Int
  t_20 : Int
  t_21 : Bool
  t_31 : (List (Int × Commit))
  t_32 : Int
  t_33 : Commit
  t_38 : Bool
  t_44 : (List Int)
  t_45 : Int
  t_46 : Int
  t_47 : Bool
abbrev R := (List Int)
def retv (s : S) : R := (s.t_6)
noncomputable def r0 (s : S) : Option S := some { s with t_6 := [] }
noncomputable def r1 (s : S) : Option S := (mkL 8 (0 : Int) (s.t_0.length : Int)).bind fun x6 => some { s with t_7 := x6 }
noncomputable def r2 (s : S) : Option S := some { s with t_18 := s.t_1, t_19 := (s.t_1.length : Int), t_20 := (0 : Int) }
noncomputable def r3 (s : S) : Option S := some { s with t_21 := (decide (s.t_20 < s.t_19)) }
noncomputable def r4 (s : S) : Option S := (idx s.t_18 s.t_20).bind fun x23 => some { s with t_9 := x23 }
noncomputable def r5 (s : S) : Option S := (idx s.t_7 s.t_9).bind fun x33 => some { s with t_7 := setL s.t_7 s.t_9 (w64 (s.t_2 + (1 : Int))) }
noncomputable def r6 (s : S) : Option S := some { s with t_20 := w64 (s.t_20 + (1 : Int)) }
noncomputable def r7 (s : S) : Option S := some { s with t_10 := ([] : (List Int)) }
noncomputable def r8 (s : S) : Option S := (Backward.f s.t_0).bind fun x46 => some { s with t_31 := x46 }
noncomputable def r9 (s : S) : Option S := some { s with t_11 := s.t_32 }
noncomputable def r10 (s : S) : Option S := some { s with t_12 := s.t_33 }
noncomputable def r11 (s : S) : Option S := (idx s.t_7 s.t_11).bind fun x60 => some { s with t_38 := (decide ((0 : Int) < x60)) }
noncomputable def r12 (s : S) : Option S := (appL 8 s.t_10 [s.t_11]).bind fun x71 => some { s with t_10 := x71 }
noncomputable def r13 (s : S) : Option S := some { s with t_44 := s.t_12.Parents, t_45 := (s.t_12.Parents.length : Int), t_46 := (0 : Int) }
noncomputable def r14 (s : S) : Option S := some { s with t_47 := (decide (s.t_46 < s.t_45)) }
noncomputable def r15 (s : S) : Option S := (idx s.t_44 s.t_46).bind fun x88 => some { s with t_14 := x88 }
noncomputable def r16 (s : S) : Option S := (idx s.t_7 s.t_14).bind fun x98 => (idx s.t_7 s.t_11).bind fun x104 => (idx s.t_7 s.t_14).bind fun x110 => some { s with t_7 := setL s.t_7 s.t_14 (max x98 (w64 (x104 - (1 : Int)))) }
noncomputable def r17 (s : S) : Option S := some { s with t_46 := w64 (s.t_46 + (1 : Int)) }
noncomputable def r18 (s : S) : Option S := (slices_Reverse_int_int.f s.t_10).bind fun x119 => some { s with t_10 := x119 }
noncomputable def r19 (s : S) : Option S := some { s with t_6 := s.t_10 }
noncomputable def body : S → Option (Ctl S R) := (seqM (regM r0)
  (seqM (regM r1)
  (seqM (seqM (regM r2)
  (blockM 0 (iterM (seqM (regM r3)
  (seqM (condM (fun s => s.t_21) skipM
  (extM 0))
  (seqM (blockM 1 (seqM (regM r4)
  (regM r5)))
  (regM r6)))))))
  (seqM (regM r7)
  (seqM (seqM (regM r8)
  (blockM 2 (rangeM (fun s => s.t_31) (fun it s => { s with t_32 := it.1, t_33 := it.2 }) (seqM (regM r9)
  (regM r10)) (blockM 3 (seqM (seqM (regM r11)
  (condM (fun s => s.t_38) (regM r12)
  skipM))
  (seqM (regM r13)
  (blockM 4 (iterM (seqM (regM r14)
  (seqM (condM (fun s => s.t_47) skipM
  (extM 4))
  (seqM (blockM 5 (seqM (regM r15)
  (regM r16)))
  (regM r17))))))))))))
  (seqM (regM r18)
  (seqM (regM r19)
  (retM retv))))))))
noncomputable def f (a0 : (List Commit)) (a1 : (List Int)) (a2 : Int) : Option R := retOf (body { t_0 := a0, t_1 := a1, t_2 := a2, t_6 := [], t_7 := [], t_9 := (0 : Int), t_10 := [], t_11 := (0 : Int), t_12 := (⟨[], (0 : Int), (0 : Int), (0 : Int), ByteArray.empty⟩ : Commit), t_14 := (0 : Int), t_18 := [], t_19 := (0 : Int), t_20 := (0 : Int), t_21 := false, t_31 := [], t_32 := (0 : Int), t_33 := (⟨[], (0 : Int), (0 : Int), (0 : Int), ByteArray.empty⟩ : Commit), t_38 := false, t_44 := [], t_45 := (0 : Int), t_46 := (0 : Int), t_47 := false })
end shallow_reach

namespace shallow_Cut
structure S where
  commits_0 : (List Commit)
  heads_1 : (List Int)
  depth_2 : Int
  t_6 : (List Int)
  t_7 : Fault
  f_8 : Fault
  i_9 : Int
  n_10 : Int
  t_15 : Bool
  t_19 : Bool
  t_21 : (List Int)
  t_22 : Int
  t_23 : Int
  t_24 : Bool
  t_35 : Bool
  t_44 : Bool
abbrev R := ((List Int) × Fault)
def retv (s : S) : R := (s.t_6, s.t_7)
noncomputable def r0 (s : S) : Option S := some { s with t_6 := [], t_7 := (⟨(0 : Int), (0 : Int)⟩ : Fault) }
noncomputable def r1 (s : S) : Option S := (history_Validate.f s.commits_0).bind fun x5 => some { s with f_8 := x5 }
noncomputable def r2 (s : S) : Option S := some { s with t_15 := (!decide (s.f_8 = (⟨(0 : Int), (0 : Int)⟩ : Fault))) }
noncomputable def r3 (s : S) : Option S := some { s with t_6 := [], t_7 := s.f_8 }
noncomputable def r4 (s : S) : Option S := some { s with t_19 := (decide ((60 : Int) < (s.heads_1.length : Int))) }
noncomputable def r5 (s : S) : Option S := some { s with t_6 := [], t_7 := (⟨(2 : Int), (-1 : Int)⟩ : Fault) }
noncomputable def r6 (s : S) : Option S := some { s with t_21 := s.heads_1, t_22 := (s.heads_1.length : Int), t_23 := (0 : Int) }
noncomputable def r7 (s : S) : Option S := some { s with t_24 := (decide (s.t_23 < s.t_22)) }
noncomputable def r8 (s : S) : Option S := (idx s.t_21 s.t_23).bind fun x41 => some { s with i_9 := s.t_23, n_10 := x41 }
noncomputable def r9 (s : S) : Option S := some { s with t_35 := ((decide (s.n_10 < (0 : Int))) || (decide ((s.commits_0.length : Int) ≤ s.n_10))) }
noncomputable def r10 (s : S) : Option S := some { s with t_6 := [], t_7 := (⟨(6 : Int), s.i_9⟩ : Fault) }
noncomputable def r11 (s : S) : Option S := some { s with t_23 := w64 (s.t_23 + (1 : Int)) }
noncomputable def r12 (s : S) : Option S := some { s with t_44 := ((decide (s.depth_2 < (0 : Int))) || (decide ((60 : Int) < s.depth_2))) }
noncomputable def r13 (s : S) : Option S := some { s with t_6 := [], t_7 := (⟨(3 : Int), (-2 : Int)⟩ : Fault) }
noncomputable def r14 (s : S) : Option S := (shallow_reach.f s.commits_0 s.heads_1 (w64 (s.depth_2 - (1 : Int)))).bind fun x70 => some { s with t_6 := x70, t_7 := (⟨(0 : Int), (0 : Int)⟩ : Fault) }
noncomputable def body : S → Option (Ctl S R) := (seqM (regM r0)
  (seqM (seqM (regM r1)
  (seqM (regM r2)
  (condM (fun s => s.t_15) (seqM (regM r3)
  (retM retv))
  skipM)))
  (seqM (seqM (regM r4)
  (condM (fun s => s.t_19) (seqM (regM r5)
  (retM retv))
  skipM))
  (seqM (seqM (regM r6)
  (blockM 0 (iterM (seqM (regM r7)
  (seqM (condM (fun s => s.t_24) skipM
  (extM 0))
  (seqM (blockM 1 (seqM (regM r8)
  (seqM (regM r9)
  (condM (fun s => s.t_35) (seqM (regM r10)
  (retM retv))
  skipM))))
  (regM r11)))))))
  (seqM (seqM (regM r12)
  (condM (fun s => s.t_44) (seqM (regM r13)
  (retM retv))
  skipM))
  (seqM (regM r14)
  (retM retv)))))))
noncomputable def f (a0 : (List Commit)) (a1 : (List Int)) (a2 : Int) : Option R := retOf (body { commits_0 := a0, heads_1 := a1, depth_2 := a2, t_6 := [], t_7 := (⟨(0 : Int), (0 : Int)⟩ : Fault), f_8 := (⟨(0 : Int), (0 : Int)⟩ : Fault), i_9 := (0 : Int), n_10 := (0 : Int), t_15 := false, t_19 := false, t_21 := [], t_22 := (0 : Int), t_23 := (0 : Int), t_24 := false, t_35 := false, t_44 := false })
end shallow_Cut

namespace ref3_Ints
structure S where
  a_0 : (List Int)
  b_1 : (List Int)
  t_4 : Bool
  i_5 : Int
  t_10 : Bool
  t_14 : Bool
  t_25 : Bool
abbrev R := Bool
def retv (s : S) : R := (s.t_4)
noncomputable def r0 (s : S) : Option S := some { s with t_4 := false }
noncomputable def r1 (s : S) : Option S := some { s with t_10 := (!decide ((s.a_0.length : Int) = (s.b_1.length : Int))) }
noncomputable def r2 (s : S) : Option S := some { s with t_4 := false }
noncomputable def r3 (s : S) : Option S := some { s with i_5 := (0 : Int) }
noncomputable def r4 (s : S) : Option S := some { s with t_14 := (decide (s.i_5 < (s.a_0.length : Int))) }
noncomputable def r6 (s : S) : Option S := (idx s.a_0 s.i_5).bind fun x16 => (idx s.b_1 s.i_5).bind fun x26 => some { s with t_25 := (!decide (x16 = x26)) }
noncomputable def r7 (s : S) : Option S := some { s with t_4 := false }
noncomputable def r5 (s : S) : Option S := some { s with i_5 := w64 (s.i_5 + (1 : Int)) }
noncomputable def r8 (s : S) : Option S := some { s with t_4 := true }
noncomputable def body : S → Option (Ctl S R) := (seqM (regM r0)
  (seqM (seqM (regM r1)
  (condM (fun s => s.t_10) (seqM (regM r2)
  (retM retv))
  skipM))
  (seqM (seqM (regM r3)
  (blockM 0 (iterM (seqM (seqM (regM r4)
  (condM (fun s => s.t_14) skipM
  (extM 0)))
  (seqM (blockM 1 (seqM (regM r6)
  (condM (fun s => s.t_25) (seqM (regM r7)
  (retM retv))
  skipM)))
  (regM r5))))))
  (seqM (regM r8)
  (retM retv)))))
noncomputable def f (a0 : (List Int)) (a1 : (List Int)) : Option R := retOf (body { a_0 := a0, b_1 := a1, t_4 := false, i_5 := (0 : Int), t_10 := false, t_14 := false, t_25 := false })
end ref3_Ints

namespace shallow_check
structure S where
  commits_0 : (List Commit)
  numbers_1 : (List Int)
  t_4 : Fault
  f_5 : Fault
  i_6 : Int
  n_7 : Int
  t_12 : Bool
  t_14 : (List Int)
  t_15 : Int
  t_16 : Int
  t_17 : Bool
  t_28 : Bool
  t_41 : Bool
abbrev R := Fault
def retv (s : S) : R := (s.t_4)
noncomputable def r0 (s : S) : Option S := some { s with t_4 := (⟨(0 : Int), (0 : Int)⟩ : Fault) }
noncomputable def r1 (s : S) : Option S := (history_Validate.f s.commits_0).bind fun x5 => some { s with f_5 := x5 }
noncomputable def r2 (s : S) : Option S := some { s with t_12 := (!decide (s.f_5 = (⟨(0 : Int), (0 : Int)⟩ : Fault))) }
noncomputable def r3 (s : S) : Option S := some { s with t_4 := s.f_5 }
noncomputable def r4 (s : S) : Option S := some { s with t_14 := s.numbers_1, t_15 := (s.numbers_1.length : Int), t_16 := (0 : Int) }
noncomputable def r5 (s : S) : Option S := some { s with t_17 := (decide (s.t_16 < s.t_15)) }
noncomputable def r6 (s : S) : Option S := (idx s.t_14 s.t_16).bind fun x32 => some { s with i_6 := s.t_16, n_7 := x32 }
noncomputable def r7 (s : S) : Option S := some { s with t_28 := ((decide (s.n_7 < (0 : Int))) || (decide ((s.commits_0.length : Int) ≤ s.n_7))) }
noncomputable def r8 (s : S) : Option S := some { s with t_4 := (⟨(6 : Int), s.i_6⟩ : Fault) }
noncomputable def r9 (s : S) : Option S := ((if (decide ((0 : Int) < s.i_6)) = true then (idx s.numbers_1 (w64 (s.i_6 - (1 : Int)))).bind fun x56 => some (decide (s.n_7 ≤ x56)) else some false)).bind fun x66 => some { s with t_41 := x66 }
noncomputable def r10 (s : S) : Option S := some { s with t_4 := (⟨(5 : Int), s.i_6⟩ : Fault) }
noncomputable def r11 (s : S) : Option S := some { s with t_16 := w64 (s.t_16 + (1 : Int)) }
noncomputable def r12 (s : S) : Option S := some { s with t_4 := (⟨(0 : Int), (0 : Int)⟩ : Fault) }
noncomputable def body : S → Option (Ctl S R) := (seqM (regM r0)
  (seqM (seqM (regM r1)
  (seqM (regM r2)
  (condM (fun s => s.t_12) (seqM (regM r3)
  (retM retv))
  skipM)))
  (seqM (seqM (regM r4)
  (blockM 0 (iterM (seqM (regM r5)
  (seqM (condM (fun s => s.t_17) skipM
  (extM 0))
  (seqM (blockM 1 (seqM (regM r6)
  (seqM (seqM (regM r7)
  (condM (fun s => s.t_28) (seqM (regM r8)
  (retM retv))
  skipM))
  (seqM (regM r9)
  (condM (fun s => s.t_41) (seqM (regM r10)
  (retM retv))
  skipM)))))
  (regM r11)))))))
  (seqM (regM r12)
  (retM retv)))))
noncomputable def f (a0 : (List Commit)) (a1 : (List Int)) : Option R := retOf (body { commits_0 := a0, numbers_1 := a1, t_4 := (⟨(0 : Int), (0 : Int)⟩ : Fault), f_5 := (⟨(0 : Int), (0 : Int)⟩ : Fault), i_6 := (0 : Int), n_7 := (0 : Int), t_12 := false, t_14 := [], t_15 := (0 : Int), t_16 := (0 : Int), t_17 := false, t_28 := false, t_41 := false })
end shallow_check

namespace cmp_isNaN_int
structure S where
  x_0 : Int
  t_2 : Bool
abbrev R := Bool
def retv (s : S) : R := (s.t_2)
noncomputable def r0 (s : S) : Option S := some { s with t_2 := false }
noncomputable def r1 (s : S) : Option S := some { s with t_2 := (!decide (s.x_0 = s.x_0)) }
noncomputable def body : S → Option (Ctl S R) := (seqM (regM r0)
  (seqM (regM r1)
  (retM retv)))
noncomputable def f (a0 : Int) : Option R := retOf (body { x_0 := a0, t_2 := false })
end cmp_isNaN_int

namespace cmp_Less_int
structure S where
  x_0 : Int
  y_1 : Int
  t_4 : Bool
abbrev R := Bool
def retv (s : S) : R := (s.t_4)
noncomputable def r0 (s : S) : Option S := some { s with t_4 := false }
noncomputable def r1 (s : S) : Option S := (cmp_isNaN_int.f s.x_0).bind fun x1 => ((if x1 = true then (cmp_isNaN_int.f s.y_1).bind fun x8 => some (!x8) else some false)).bind fun x13 => some { s with t_4 := (x13 || (decide (s.x_0 < s.y_1))) }
noncomputable def body : S → Option (Ctl S R) := (seqM (regM r0)
  (seqM (regM r1)
  (retM retv)))
noncomputable def f (a0 : Int) (a1 : Int) : Option R := retOf (body { x_0 := a0, y_1 := a1, t_4 := false })
end cmp_Less_int

namespace slices_isNaN_int
structure S where
  x_0 : Int
  t_2 : Bool
abbrev R := Bool
def retv (s : S) : R := (s.t_2)
noncomputable def r0 (s : S) : Option S := some { s with t_2 := false }
noncomputable def r1 (s : S) : Option S := some { s with t_2 := (!decide (s.x_0 = s.x_0)) }
noncomputable def body : S → Option (Ctl S R) := (seqM (regM r0)
  (seqM (regM r1)
  (retM retv)))
noncomputable def f (a0 : Int) : Option R := retOf (body { x_0 := a0, t_2 := false })
end slices_isNaN_int

end Go.Proofs.Ytilodamhgepjoaa
