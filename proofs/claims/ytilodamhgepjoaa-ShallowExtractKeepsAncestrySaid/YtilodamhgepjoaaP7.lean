/- What functions of the program come to, as plain Lean functions (written by a program, wip/fx/gen.py). -/
import Derived.Test.YtilodamhgepjoaaP5
import Derived.Test.YtilodamhgepjoaaIt
namespace Go.Proofs.Ytilodamhgepjoaa
open Go.Fx
set_option linter.unusedVariables false

namespace ref4_NegotiateFault
structure S where
  t_0 : (List Commit)
  t_1 : (List Bool)
  t_2 : (List Bool)
  t_3 : (List Int)
  t_8 : Fault
  t_9 : Fault
  t_10 : Int
  t_11 : Int
  t_12 : Int
  t_13 : Int
  t_14 : Int
  t_19 : Bool
  t_25 : Bool
  t_31 : Bool
  t_36 : Bool
  t_52 : Bool
  t_66 : Bool
  t_72 : Bool
  t_88 : Bool
  t_102 : Bool
  t_108 : Bool
  t_113 : Bool
  t_134 : Bool
abbrev R := Fault
def retv (s : S) : R := (s.t_8)
noncomputable def r0 (s : S) : Option S := some { s with t_8 := (⟨(0 : Int), (0 : Int)⟩ : Fault) }
noncomputable def r1 (s : S) : Option S := (ref3_HistoryFault.f s.t_0).bind fun x5 => some { s with t_9 := x5 }
noncomputable def r2 (s : S) : Option S := some { s with t_19 := (!decide (s.t_9.Code = (0 : Int))) }
noncomputable def r3 (s : S) : Option S := some { s with t_8 := s.t_9 }
noncomputable def r4 (s : S) : Option S := some { s with t_25 := (!decide ((s.t_1.length : Int) = (s.t_0.length : Int))) }
noncomputable def r5 (s : S) : Option S := (ref3_Fault.f (9 : Int) (-1 : Int)).bind fun x34 => some { s with t_8 := x34 }
noncomputable def r6 (s : S) : Option S := some { s with t_31 := (!decide ((s.t_2.length : Int) = (s.t_0.length : Int))) }
noncomputable def r7 (s : S) : Option S := (ref3_Fault.f (9 : Int) (-2 : Int)).bind fun x54 => some { s with t_8 := x54 }
noncomputable def r8 (s : S) : Option S := some { s with t_10 := (0 : Int) }
noncomputable def r9 (s : S) : Option S := some { s with t_36 := (decide (s.t_10 < (s.t_0.length : Int))) }
noncomputable def r11 (s : S) : Option S := some { s with t_11 := (0 : Int) }
noncomputable def r12 (s : S) : Option S := (idx s.t_0 s.t_10).bind fun x69 => ((if (decide (s.t_11 < (x69.Parents.length : Int))) = true then (idx s.t_1 s.t_10).bind fun x89 => some x89 else some false)).bind fun x99 => some { s with t_52 := x99 }
noncomputable def r14 (s : S) : Option S := (idx s.t_0 s.t_10).bind fun x101 => (idx x101.Parents s.t_11).bind fun x114 => (idx s.t_1 x114).bind fun x124 => some { s with t_66 := (!x124) }
noncomputable def r15 (s : S) : Option S := (ref3_Fault.f (5 : Int) s.t_10).bind fun x134 => some { s with t_8 := x134 }
noncomputable def r13 (s : S) : Option S := some { s with t_11 := w64 (s.t_11 + (1 : Int)) }
noncomputable def r10 (s : S) : Option S := some { s with t_10 := w64 (s.t_10 + (1 : Int)) }
noncomputable def r16 (s : S) : Option S := some { s with t_12 := (0 : Int) }
noncomputable def r17 (s : S) : Option S := some { s with t_72 := (decide (s.t_12 < (s.t_0.length : Int))) }
noncomputable def r19 (s : S) : Option S := some { s with t_13 := (0 : Int) }
noncomputable def r20 (s : S) : Option S := (idx s.t_0 s.t_12).bind fun x149 => ((if (decide (s.t_13 < (x149.Parents.length : Int))) = true then (idx s.t_2 s.t_12).bind fun x169 => some x169 else some false)).bind fun x179 => some { s with t_88 := x179 }
noncomputable def r22 (s : S) : Option S := (idx s.t_0 s.t_12).bind fun x181 => (idx x181.Parents s.t_13).bind fun x194 => (idx s.t_2 x194).bind fun x204 => some { s with t_102 := (!x204) }
noncomputable def r23 (s : S) : Option S := (ref3_Fault.f (5 : Int) (w64 ((-3 : Int) - s.t_12))).bind fun x214 => some { s with t_8 := x214 }
noncomputable def r21 (s : S) : Option S := some { s with t_13 := w64 (s.t_13 + (1 : Int)) }
noncomputable def r18 (s : S) : Option S := some { s with t_12 := w64 (s.t_12 + (1 : Int)) }
noncomputable def r24 (s : S) : Option S := some { s with t_108 := (decide ((60 : Int) < (s.t_3.length : Int))) }
noncomputable def r25 (s : S) : Option S := (ref3_Fault.f (2 : Int) (-1 : Int)).bind fun x229 => some { s with t_8 := x229 }
noncomputable def r26 (s : S) : Option S := some { s with t_14 := (0 : Int) }
noncomputable def r27 (s : S) : Option S := some { s with t_113 := (decide (s.t_14 < (s.t_3.length : Int))) }
noncomputable def r29 (s : S) : Option S := (idx s.t_3 s.t_14).bind fun x244 => (ref3_In.f x244 (0 : Int) (w64 ((s.t_0.length : Int) - (1 : Int)))).bind fun x259 => ((if (!x259) = true then some true else (idx s.t_3 s.t_14).bind fun x266 => (idx s.t_1 x266).bind fun x276 => some (!x276))).bind fun x286 => some { s with t_134 := x286 }
noncomputable def r30 (s : S) : Option S := (ref3_Fault.f (6 : Int) s.t_14).bind fun x288 => some { s with t_8 := x288 }
noncomputable def r28 (s : S) : Option S := some { s with t_14 := w64 (s.t_14 + (1 : Int)) }
noncomputable def r31 (s : S) : Option S := some { s with t_8 := (⟨(0 : Int), (0 : Int)⟩ : Fault) }
noncomputable def body : S → Option (Ctl S R) := (seqM (regM r0)
  (seqM (seqM (regM r1)
  (seqM (regM r2)
  (condM (fun s => s.t_19) (seqM (regM r3)
  (retM retv))
  skipM)))
  (seqM (seqM (regM r4)
  (condM (fun s => s.t_25) (seqM (regM r5)
  (retM retv))
  skipM))
  (seqM (seqM (regM r6)
  (condM (fun s => s.t_31) (seqM (regM r7)
  (retM retv))
  skipM))
  (seqM (seqM (regM r8)
  (blockM 0 (iterM (seqM (seqM (regM r9)
  (condM (fun s => s.t_36) skipM
  (extM 0)))
  (seqM (blockM 1 (seqM (regM r11)
  (blockM 2 (iterM (seqM (seqM (regM r12)
  (condM (fun s => s.t_52) skipM
  (extM 2)))
  (seqM (blockM 3 (seqM (regM r14)
  (condM (fun s => s.t_66) (seqM (regM r15)
  (retM retv))
  skipM)))
  (regM r13)))))))
  (regM r10))))))
  (seqM (seqM (regM r16)
  (blockM 4 (iterM (seqM (seqM (regM r17)
  (condM (fun s => s.t_72) skipM
  (extM 4)))
  (seqM (blockM 5 (seqM (regM r19)
  (blockM 6 (iterM (seqM (seqM (regM r20)
  (condM (fun s => s.t_88) skipM
  (extM 6)))
  (seqM (blockM 7 (seqM (regM r22)
  (condM (fun s => s.t_102) (seqM (regM r23)
  (retM retv))
  skipM)))
  (regM r21)))))))
  (regM r18))))))
  (seqM (seqM (regM r24)
  (condM (fun s => s.t_108) (seqM (regM r25)
  (retM retv))
  skipM))
  (seqM (seqM (regM r26)
  (blockM 8 (iterM (seqM (seqM (regM r27)
  (condM (fun s => s.t_113) skipM
  (extM 8)))
  (seqM (blockM 9 (seqM (regM r29)
  (condM (fun s => s.t_134) (seqM (regM r30)
  (retM retv))
  skipM)))
  (regM r28))))))
  (seqM (regM r31)
  (retM retv))))))))))
noncomputable def f (a0 : (List Commit)) (a1 : (List Bool)) (a2 : (List Bool)) (a3 : (List Int)) : Option R := retOf (body { t_0 := a0, t_1 := a1, t_2 := a2, t_3 := a3, t_8 := (⟨(0 : Int), (0 : Int)⟩ : Fault), t_9 := (⟨(0 : Int), (0 : Int)⟩ : Fault), t_10 := (0 : Int), t_11 := (0 : Int), t_12 := (0 : Int), t_13 := (0 : Int), t_14 := (0 : Int), t_19 := false, t_25 := false, t_31 := false, t_36 := false, t_52 := false, t_66 := false, t_72 := false, t_88 := false, t_102 := false, t_108 := false, t_113 := false, t_134 := false })
end ref4_NegotiateFault

namespace ref3_OrderOf
structure S where
  t_0 : (List Commit)
  t_2 : (List Int)
  t_3 : (List Int)
  t_4 : Int
  t_5 : Int
  t_6 : Bool
  t_7 : Int
  t_12 : Bool
  t_16 : Bool
  t_26 : Bool
  t_41 : Bool
  t_59 : Bool
abbrev R := (List Int)
def retv (s : S) : R := (s.t_2)
noncomputable def r0 (s : S) : Option S := some { s with t_2 := [] }
noncomputable def r1 (s : S) : Option S := some { s with t_3 := [] }
noncomputable def r2 (s : S) : Option S := some { s with t_12 := (decide ((s.t_3.length : Int) < (s.t_0.length : Int))) }
noncomputable def r3 (s : S) : Option S := some { s with t_4 := (-1 : Int) }
noncomputable def r4 (s : S) : Option S := some { s with t_5 := (0 : Int) }
noncomputable def r5 (s : S) : Option S := some { s with t_16 := (decide (s.t_5 < (s.t_0.length : Int))) }
noncomputable def r7 (s : S) : Option S := (ref3_Has.f s.t_3 s.t_5).bind fun x16 => some { s with t_6 := (!x16) }
noncomputable def r8 (s : S) : Option S := some { s with t_7 := (0 : Int) }
noncomputable def r9 (s : S) : Option S := some { s with t_26 := (decide (s.t_7 < (s.t_0.length : Int))) }
noncomputable def r11 (s : S) : Option S := (idx s.t_0 s.t_7).bind fun x26 => (ref3_Has.f x26.Parents s.t_5).bind fun x39 => ((if x39 = true then (ref3_Has.f s.t_3 s.t_7).bind fun x47 => some (!x47) else some false)).bind fun x52 => some { s with t_41 := x52 }
noncomputable def r12 (s : S) : Option S := some { s with t_6 := false }
noncomputable def r10 (s : S) : Option S := some { s with t_7 := w64 (s.t_7 + (1 : Int)) }
noncomputable def r13 (s : S) : Option S := ((if s.t_6 = true then ((if (decide (s.t_4 < (0 : Int))) = true then some true else (idx s.t_0 s.t_5).bind fun x61 => (idx s.t_0 s.t_4).bind fun x71 => some (decide (x71.Time ≤ x61.Time)))).bind fun x81 => some x81 else some false)).bind fun x83 => some { s with t_59 := x83 }
noncomputable def r14 (s : S) : Option S := some { s with t_4 := s.t_5 }
noncomputable def r6 (s : S) : Option S := some { s with t_5 := w64 (s.t_5 + (1 : Int)) }
noncomputable def r15 (s : S) : Option S := (appL 8 s.t_3 [s.t_4]).bind fun x90 => some { s with t_3 := x90 }
noncomputable def r16 (s : S) : Option S := some { s with t_2 := s.t_3 }
noncomputable def body : S → Option (Ctl S R) := (seqM (regM r0)
  (seqM (regM r1)
  (seqM (blockM 0 (iterM (seqM (seqM (regM r2)
  (condM (fun s => s.t_12) skipM
  (extM 0)))
  (blockM 1 (seqM (regM r3)
  (seqM (seqM (regM r4)
  (blockM 2 (iterM (seqM (seqM (regM r5)
  (condM (fun s => s.t_16) skipM
  (extM 2)))
  (seqM (blockM 3 (seqM (regM r7)
  (seqM (seqM (regM r8)
  (blockM 4 (iterM (seqM (seqM (regM r9)
  (condM (fun s => s.t_26) skipM
  (extM 4)))
  (seqM (blockM 5 (seqM (regM r11)
  (condM (fun s => s.t_41) (regM r12)
  skipM)))
  (regM r10))))))
  (seqM (regM r13)
  (condM (fun s => s.t_59) (regM r14)
  skipM)))))
  (regM r6))))))
  (regM r15)))))))
  (seqM (regM r16)
  (retM retv)))))
noncomputable def f (a0 : (List Commit)) : Option R := retOf (body { t_0 := a0, t_2 := [], t_3 := [], t_4 := (0 : Int), t_5 := (0 : Int), t_6 := false, t_7 := (0 : Int), t_12 := false, t_16 := false, t_26 := false, t_41 := false, t_59 := false })
end ref3_OrderOf

namespace ref4_RoundsOf
structure S where
  t_0 : (List Commit)
  t_1 : (List Bool)
  t_2 : (List Bool)
  t_6 : (List (List Int))
  t_7 : (List Int)
  t_8 : (List (List Bool))
  t_9 : (List Int)
  t_10 : (List (List Int))
  t_11 : Int
  t_12 : Int
  t_13 : (List Int)
  t_14 : Int
  t_15 : Int
  t_16 : Bool
  t_17 : Int
  t_25 : Bool
  t_37 : Bool
  t_57 : Bool
  t_78 : Bool
  t_79 : Bool
  t_86 : Bool
abbrev R := (List (List Int))
def retv (s : S) : R := (s.t_6)
noncomputable def r0 (s : S) : Option S := some { s with t_6 := [] }
noncomputable def r1 (s : S) : Option S := (ref3_OrderOf.f s.t_0).bind fun x1 => some { s with t_7 := x1 }
noncomputable def r2 (s : S) : Option S := (ref3_Reach.f s.t_0).bind fun x11 => some { s with t_8 := x11 }
noncomputable def r3 (s : S) : Option S := some { s with t_9 := [] }
noncomputable def r4 (s : S) : Option S := some { s with t_10 := [] }
noncomputable def r5 (s : S) : Option S := some { s with t_11 := (0 : Int) }
noncomputable def r7 (s : S) : Option S := some { s with t_12 := (16 : Int) }
noncomputable def r8 (s : S) : Option S := some { s with t_25 := (decide (s.t_11 < (4 : Int))) }
noncomputable def r9 (s : S) : Option S := if (0 : Int) ≤ s.t_11 then some { s with t_12 := shlV .i64 (1 : Int) s.t_11 } else none
noncomputable def r10 (s : S) : Option S := some { s with t_13 := [] }
noncomputable def r11 (s : S) : Option S := some { s with t_14 := (0 : Int) }
noncomputable def r12 (s : S) : Option S := some { s with t_37 := ((decide (s.t_14 < (s.t_7.length : Int))) && (decide ((s.t_13.length : Int) < s.t_12))) }
noncomputable def r14 (s : S) : Option S := (idx s.t_7 s.t_14).bind fun x34 => some { s with t_15 := x34 }
noncomputable def r15 (s : S) : Option S := (idx s.t_2 s.t_15).bind fun x44 => ((if x44 = true then (ref3_Has.f s.t_9 s.t_15).bind fun x57 => some (!x57) else some false)).bind fun x62 => some { s with t_16 := x62 }
noncomputable def r16 (s : S) : Option S := some { s with t_17 := (0 : Int) }
noncomputable def r17 (s : S) : Option S := some { s with t_57 := (decide (s.t_17 < (s.t_9.length : Int))) }
noncomputable def r19 (s : S) : Option S := (idx s.t_9 s.t_17).bind fun x71 => (idx s.t_1 x71).bind fun x77 => ((if x77 = true then (idx s.t_9 s.t_17).bind fun x89 => (idx s.t_8 x89).bind fun x95 => (idx x95 s.t_15).bind fun x108 => some x108 else some false)).bind fun x118 => some { s with t_78 := x118 }
noncomputable def r20 (s : S) : Option S := some { s with t_16 := false }
noncomputable def r18 (s : S) : Option S := some { s with t_17 := w64 (s.t_17 + (1 : Int)) }
noncomputable def r21 (s : S) : Option S := some { s with t_79 := s.t_16 }
noncomputable def r22 (s : S) : Option S := (appL 8 s.t_13 [s.t_15]).bind fun x125 => some { s with t_13 := x125 }
noncomputable def r13 (s : S) : Option S := some { s with t_14 := w64 (s.t_14 + (1 : Int)) }
noncomputable def r23 (s : S) : Option S := some { s with t_86 := (decide ((s.t_13.length : Int) = (0 : Int))) }
noncomputable def r24 (s : S) : Option S := some { s with t_6 := s.t_10 }
noncomputable def r25 (s : S) : Option S := (appL 24 s.t_10 [s.t_13]).bind fun x143 => some { s with t_10 := x143 }
noncomputable def r26 (s : S) : Option S := (appL 8 s.t_9 s.t_13).bind fun x149 => some { s with t_9 := x149 }
noncomputable def r6 (s : S) : Option S := some { s with t_11 := w64 (s.t_11 + (1 : Int)) }
noncomputable def body : S → Option (Ctl S R) := (seqM (regM r0)
  (seqM (regM r1)
  (seqM (regM r2)
  (seqM (regM r3)
  (seqM (regM r4)
  (seqM (regM r5)
  (blockM 0 (iterM (seqM (blockM 1 (seqM (regM r7)
  (seqM (seqM (regM r8)
  (condM (fun s => s.t_25) (regM r9)
  skipM))
  (seqM (regM r10)
  (seqM (seqM (regM r11)
  (blockM 2 (iterM (seqM (seqM (regM r12)
  (condM (fun s => s.t_37) skipM
  (extM 2)))
  (seqM (blockM 3 (seqM (regM r14)
  (seqM (regM r15)
  (seqM (seqM (regM r16)
  (blockM 4 (iterM (seqM (seqM (regM r17)
  (condM (fun s => s.t_57) skipM
  (extM 4)))
  (seqM (blockM 5 (seqM (regM r19)
  (condM (fun s => s.t_78) (regM r20)
  skipM)))
  (regM r18))))))
  (seqM (regM r21)
  (condM (fun s => s.t_79) (regM r22)
  skipM))))))
  (regM r13))))))
  (seqM (seqM (regM r23)
  (condM (fun s => s.t_86) (seqM (regM r24)
  (retM retv))
  skipM))
  (seqM (regM r25)
  (regM r26))))))))
  (regM r6))))))))))
noncomputable def f (a0 : (List Commit)) (a1 : (List Bool)) (a2 : (List Bool)) : Option R := retOf (body { t_0 := a0, t_1 := a1, t_2 := a2, t_6 := [], t_7 := [], t_8 := [], t_9 := [], t_10 := [], t_11 := (0 : Int), t_12 := (0 : Int), t_13 := [], t_14 := (0 : Int), t_15 := (0 : Int), t_16 := false, t_17 := (0 : Int), t_25 := false, t_37 := false, t_57 := false, t_78 := false, t_79 := false, t_86 := false })
end ref4_RoundsOf

namespace ref4_LacksOf
structure S where
  l_0 : (List Commit)
  wants_1 : (List Int)
  have_2 : (List Bool)
  t_6 : (List Int)
  t_7 : (List (List Bool))
  out_8 : (List Int)
  i_9 : Int
  is_10 : Bool
  k_11 : Int
  t_17 : Bool
  t_23 : Bool
  t_46 : Bool
abbrev R := (List Int)
def retv (s : S) : R := (s.t_6)
noncomputable def r0 (s : S) : Option S := some { s with t_6 := [] }
noncomputable def r1 (s : S) : Option S := (ref3_Reach.f s.l_0).bind fun x1 => some { s with t_7 := x1 }
noncomputable def r2 (s : S) : Option S := some { s with out_8 := [] }
noncomputable def r3 (s : S) : Option S := some { s with i_9 := (0 : Int) }
noncomputable def r4 (s : S) : Option S := some { s with t_17 := (decide (s.i_9 < (s.l_0.length : Int))) }
noncomputable def r6 (s : S) : Option S := some { s with is_10 := false }
noncomputable def r7 (s : S) : Option S := some { s with k_11 := (0 : Int) }
noncomputable def r8 (s : S) : Option S := some { s with t_23 := (decide (s.k_11 < (s.wants_1.length : Int))) }
noncomputable def r10 (s : S) : Option S := ((if s.is_10 = true then some true else (idx s.wants_1 s.k_11).bind fun x23 => (idx s.t_7 x23).bind fun x33 => (idx x33 s.i_9).bind fun x46 => some x46)).bind fun x56 => some { s with is_10 := x56 }
noncomputable def r9 (s : S) : Option S := some { s with k_11 := w64 (s.k_11 + (1 : Int)) }
noncomputable def r11 (s : S) : Option S := ((if s.is_10 = true then (idx s.have_2 s.i_9).bind fun x60 => some (!x60) else some false)).bind fun x70 => some { s with t_46 := x70 }
noncomputable def r12 (s : S) : Option S := (appL 8 s.out_8 [s.i_9]).bind fun x77 => some { s with out_8 := x77 }
noncomputable def r5 (s : S) : Option S := some { s with i_9 := w64 (s.i_9 + (1 : Int)) }
noncomputable def r13 (s : S) : Option S := some { s with t_6 := s.out_8 }
noncomputable def body : S → Option (Ctl S R) := (seqM (regM r0)
  (seqM (regM r1)
  (seqM (regM r2)
  (seqM (seqM (regM r3)
  (blockM 0 (iterM (seqM (seqM (regM r4)
  (condM (fun s => s.t_17) skipM
  (extM 0)))
  (seqM (blockM 1 (seqM (regM r6)
  (seqM (seqM (regM r7)
  (blockM 2 (iterM (seqM (seqM (regM r8)
  (condM (fun s => s.t_23) skipM
  (extM 2)))
  (seqM (blockM 3 (regM r10))
  (regM r9))))))
  (seqM (regM r11)
  (condM (fun s => s.t_46) (regM r12)
  skipM)))))
  (regM r5))))))
  (seqM (regM r13)
  (retM retv))))))
noncomputable def f (a0 : (List Commit)) (a1 : (List Int)) (a2 : (List Bool)) : Option R := retOf (body { l_0 := a0, wants_1 := a1, have_2 := a2, t_6 := [], t_7 := [], out_8 := [], i_9 := (0 : Int), is_10 := false, k_11 := (0 : Int), t_17 := false, t_23 := false, t_46 := false })
end ref4_LacksOf

end Go.Proofs.Ytilodamhgepjoaa
