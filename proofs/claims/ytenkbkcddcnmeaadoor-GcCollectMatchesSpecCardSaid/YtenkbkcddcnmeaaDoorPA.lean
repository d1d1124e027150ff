/- What functions of the program come to, as plain Lean functions (written by a program, wip/fx/gen.py). -/
import Derived.Test.YtenkbkcddcnmeaaDoorTy
import Derived.Test.YtenkbkcddcnmeaaDoorSl
import Derived.Test.YtenkbkcddcnmeaaDoorIn
import Derived.Test.YtenkbkcddcnmeaaDoorIt
import Derived.Test.YtenkbkcddcnmeaaDoorFx17
namespace Go.Proofs.YtenkbkcddcnmeaaDoor
open Go.Fx
set_option linter.unusedVariables false

namespace bits_Div64
structure S where
  t_0 : Int
  t_1 : Int
  t_2 : Int
  t_6 : Int
  t_7 : Int
  t_8 : Int
  t_9 : Int
  t_10 : Int
  t_11 : Int
  t_12 : Int
  t_13 : Int
  t_14 : Int
  t_15 : Int
  t_16 : Int
  t_17 : Int
  t_18 : Int
  t_20 : Bool
  t_24 : Bool
  t_27 : Bool
  t_78 : Bool
  t_85 : Bool
  t_113 : Bool
  t_120 : Bool
abbrev R := (Int × Int)
def retv (s : S) : R := (s.t_6, s.t_7)
noncomputable def r0 (s : S) : Option S := some { s with t_6 := (0 : Int), t_7 := (0 : Int) }
noncomputable def r1 (s : S) : Option S := some { s with t_20 := (decide (s.t_2 = (0 : Int))) }
noncomputable def r2 (s : S) : Option S := none
noncomputable def r3 (s : S) : Option S := some { s with t_24 := (decide (s.t_2 ≤ s.t_0)) }
noncomputable def r4 (s : S) : Option S := none
noncomputable def r5 (s : S) : Option S := some { s with t_27 := (decide (s.t_0 = (0 : Int))) }
noncomputable def r6 (s : S) : Option S := if s.t_2 ≠ (0 : Int) then if s.t_2 ≠ (0 : Int) then some { s with t_6 := IntKind.u64.wrap (Int.tdiv s.t_1 s.t_2), t_7 := Int.tmod s.t_1 s.t_2 } else none else none
noncomputable def r7 (s : S) : Option S := (Lead.f s.t_2).bind fun x3 => some { s with t_8 := IntKind.u64.wrap (x3) }
noncomputable def r8 (s : S) : Option S := if (0 : Int) ≤ s.t_8 then some { s with t_2 := shlV .u64 s.t_2 s.t_8 } else none
noncomputable def r9 (s : S) : Option S := some { s with t_9 := shrV .u64 s.t_2 (32 : Int) }
noncomputable def r10 (s : S) : Option S := some { s with t_10 := andV .u64 s.t_2 (4294967295 : Int) }
noncomputable def r11 (s : S) : Option S := if (0 : Int) ≤ s.t_8 then if (0 : Int) ≤ IntKind.u64.wrap ((64 : Int) - s.t_8) then some { s with t_11 := orV .u64 (shlV .u64 s.t_0 s.t_8) (shrV .u64 s.t_1 (IntKind.u64.wrap ((64 : Int) - s.t_8))) } else none else none
noncomputable def r12 (s : S) : Option S := if (0 : Int) ≤ s.t_8 then some { s with t_12 := shlV .u64 s.t_1 s.t_8 } else none
noncomputable def r13 (s : S) : Option S := some { s with t_13 := shrV .u64 s.t_12 (32 : Int) }
noncomputable def r14 (s : S) : Option S := some { s with t_14 := andV .u64 s.t_12 (4294967295 : Int) }
noncomputable def r15 (s : S) : Option S := if s.t_9 ≠ (0 : Int) then some { s with t_15 := IntKind.u64.wrap (Int.tdiv s.t_11 s.t_9) } else none
noncomputable def r16 (s : S) : Option S := some { s with t_16 := IntKind.u64.wrap (s.t_11 - IntKind.u64.wrap (s.t_15 * s.t_9)) }
noncomputable def r17 (s : S) : Option S := some { s with t_78 := ((decide ((4294967296 : Int) ≤ s.t_15)) || (decide ((IntKind.u64.wrap (IntKind.u64.wrap ((4294967296 : Int) * s.t_16) + s.t_13)) < (IntKind.u64.wrap (s.t_15 * s.t_10))))) }
noncomputable def r18 (s : S) : Option S := some { s with t_15 := IntKind.u64.wrap (s.t_15 - (1 : Int)) }
noncomputable def r19 (s : S) : Option S := some { s with t_16 := IntKind.u64.wrap (s.t_16 + s.t_9) }
noncomputable def r20 (s : S) : Option S := some { s with t_85 := (decide ((4294967296 : Int) ≤ s.t_16)) }
noncomputable def r21 (s : S) : Option S := some { s with t_17 := IntKind.u64.wrap (IntKind.u64.wrap (IntKind.u64.wrap (s.t_11 * (4294967296 : Int)) + s.t_13) - IntKind.u64.wrap (s.t_15 * s.t_2)) }
noncomputable def r22 (s : S) : Option S := if s.t_9 ≠ (0 : Int) then some { s with t_18 := IntKind.u64.wrap (Int.tdiv s.t_17 s.t_9) } else none
noncomputable def r23 (s : S) : Option S := some { s with t_16 := IntKind.u64.wrap (s.t_17 - IntKind.u64.wrap (s.t_18 * s.t_9)) }
noncomputable def r24 (s : S) : Option S := some { s with t_113 := ((decide ((4294967296 : Int) ≤ s.t_18)) || (decide ((IntKind.u64.wrap (IntKind.u64.wrap ((4294967296 : Int) * s.t_16) + s.t_14)) < (IntKind.u64.wrap (s.t_18 * s.t_10))))) }
noncomputable def r25 (s : S) : Option S := some { s with t_18 := IntKind.u64.wrap (s.t_18 - (1 : Int)) }
noncomputable def r26 (s : S) : Option S := some { s with t_16 := IntKind.u64.wrap (s.t_16 + s.t_9) }
noncomputable def r27 (s : S) : Option S := some { s with t_120 := (decide ((4294967296 : Int) ≤ s.t_16)) }
noncomputable def r28 (s : S) : Option S := if (0 : Int) ≤ s.t_8 then some { s with t_6 := IntKind.u64.wrap (IntKind.u64.wrap (s.t_15 * (4294967296 : Int)) + s.t_18), t_7 := shrV .u64 (IntKind.u64.wrap (IntKind.u64.wrap (IntKind.u64.wrap (s.t_17 * (4294967296 : Int)) + s.t_14) - IntKind.u64.wrap (s.t_18 * s.t_2))) s.t_8 } else none
noncomputable def body : S → Option (Ctl S R) := (seqM (regM r0)
  (seqM (seqM (regM r1)
  (condM (fun s => s.t_20) (regM r2)
  skipM))
  (seqM (seqM (regM r3)
  (condM (fun s => s.t_24) (regM r4)
  skipM))
  (seqM (seqM (regM r5)
  (condM (fun s => s.t_27) (seqM (regM r6)
  (retM retv))
  skipM))
  (seqM (regM r7)
  (seqM (regM r8)
  (seqM (regM r9)
  (seqM (regM r10)
  (seqM (regM r11)
  (seqM (regM r12)
  (seqM (regM r13)
  (seqM (regM r14)
  (seqM (regM r15)
  (seqM (regM r16)
  (seqM (blockM 0 (iterM (seqM (seqM (regM r17)
  (condM (fun s => s.t_78) skipM
  (extM 0)))
  (blockM 1 (seqM (regM r18)
  (seqM (regM r19)
  (seqM (regM r20)
  (condM (fun s => s.t_85) (extM 0)
  skipM))))))))
  (seqM (regM r21)
  (seqM (regM r22)
  (seqM (regM r23)
  (seqM (blockM 2 (iterM (seqM (seqM (regM r24)
  (condM (fun s => s.t_113) skipM
  (extM 2)))
  (blockM 3 (seqM (regM r25)
  (seqM (regM r26)
  (seqM (regM r27)
  (condM (fun s => s.t_120) (extM 2)
  skipM))))))))
  (seqM (regM r28)
  (retM retv)))))))))))))))))))))
noncomputable def f (a0 : Int) (a1 : Int) (a2 : Int) : Option R := retOf (body { t_0 := a0, t_1 := a1, t_2 := a2, t_6 := (0 : Int), t_7 := (0 : Int), t_8 := (0 : Int), t_9 := (0 : Int), t_10 := (0 : Int), t_11 := (0 : Int), t_12 := (0 : Int), t_13 := (0 : Int), t_14 := (0 : Int), t_15 := (0 : Int), t_16 := (0 : Int), t_17 := (0 : Int), t_18 := (0 : Int), t_20 := false, t_24 := false, t_27 := false, t_78 := false, t_85 := false, t_113 := false, t_120 := false })
end bits_Div64

namespace digest_mul
structure S where
  a_0 : Int
  b_1 : Int
  t_4 : Int
  hi_5 : Int
  lo_6 : Int
  rem_8 : Int
abbrev R := Int
def retv (s : S) : R := (s.t_4)
noncomputable def r0 (s : S) : Option S := some { s with t_4 := (0 : Int) }
noncomputable def r1 (s : S) : Option S := (Mul64.f s.a_0 s.b_1).bind fun x1 => some { s with hi_5 := x1.1, lo_6 := x1.2 }
noncomputable def r2 (s : S) : Option S := (bits_Div64.f (Int.tmod s.hi_5 (2305843009213693951 : Int)) s.lo_6 (2305843009213693951 : Int)).bind fun x6 => some { s with rem_8 := x6.2 }
noncomputable def r3 (s : S) : Option S := some { s with t_4 := s.rem_8 }
noncomputable def body : S → Option (Ctl S R) := (seqM (regM r0)
  (seqM (regM r1)
  (seqM (regM r2)
  (seqM (regM r3)
  (retM retv)))))
noncomputable def f (a0 : Int) (a1 : Int) : Option R := retOf (body { a_0 := a0, b_1 := a1, t_4 := (0 : Int), hi_5 := (0 : Int), lo_6 := (0 : Int), rem_8 := (0 : Int) })
end digest_mul

namespace digest_Of
structure S where
  data_0 : (List UInt8)
  t_2 : Int
  t_3 : Fault
  h_4 : Int
  b_6 : UInt8
  t_9 : Bool
  t_11 : (List UInt8)
  t_12 : Int
  t_13 : Int
  t_14 : Bool
abbrev R := (Int × Fault)
def retv (s : S) : R := (s.t_2, s.t_3)
noncomputable def r0 (s : S) : Option S := some { s with t_2 := (0 : Int), t_3 := (⟨(0 : Int), (0 : Int)⟩ : Fault) }
noncomputable def r1 (s : S) : Option S := some { s with t_9 := (decide ((4096 : Int) < (s.data_0.length : Int))) }
noncomputable def r2 (s : S) : Option S := some { s with t_2 := (0 : Int), t_3 := (⟨(2 : Int), (0 : Int)⟩ : Fault) }
noncomputable def r3 (s : S) : Option S := some { s with h_4 := (1 : Int) }
noncomputable def r4 (s : S) : Option S := some { s with t_11 := s.data_0, t_12 := (s.data_0.length : Int), t_13 := (0 : Int) }
noncomputable def r5 (s : S) : Option S := some { s with t_14 := (decide (s.t_13 < s.t_12)) }
noncomputable def r6 (s : S) : Option S := (idx s.t_11 s.t_13).bind fun x19 => some { s with b_6 := x19 }
noncomputable def r7 (s : S) : Option S := (digest_mul.f s.h_4 (257 : Int)).bind fun x29 => some { s with h_4 := Int.tmod (IntKind.u64.wrap (IntKind.u64.wrap (x29 + IntKind.u64.wrap ((s.b_6.toNat : Int))) + (1 : Int))) (2305843009213693951 : Int) }
noncomputable def r8 (s : S) : Option S := some { s with t_13 := w64 (s.t_13 + (1 : Int)) }
noncomputable def r9 (s : S) : Option S := some { s with t_2 := w64 (s.h_4), t_3 := (⟨(0 : Int), (0 : Int)⟩ : Fault) }
noncomputable def body : S → Option (Ctl S R) := (seqM (regM r0)
  (seqM (seqM (regM r1)
  (condM (fun s => s.t_9) (seqM (regM r2)
  (retM retv))
  skipM))
  (seqM (regM r3)
  (seqM (seqM (regM r4)
  (blockM 0 (iterM (seqM (regM r5)
  (seqM (condM (fun s => s.t_14) skipM
  (extM 0))
  (seqM (blockM 1 (seqM (regM r6)
  (regM r7)))
  (regM r8)))))))
  (seqM (regM r9)
  (retM retv))))))
noncomputable def f (a0 : (List UInt8)) : Option R := retOf (body { data_0 := a0, t_2 := (0 : Int), t_3 := (⟨(0 : Int), (0 : Int)⟩ : Fault), h_4 := (0 : Int), b_6 := (0 : UInt8), t_9 := false, t_11 := [], t_12 := (0 : Int), t_13 := (0 : Int), t_14 := false })
end digest_Of

namespace objects_check
structure S where
  o_0 : Object
  o_1 : Object
  t_2 : Fault
  i_3 : Int
  d_4 : Int
  t_5 : Bool
  t_15 : Bool
  t_21 : Bool
  t_27 : Bool
  t_39 : (List Int)
  t_40 : Int
  t_41 : Int
  t_42 : Bool
  t_51 : Bool
abbrev R := Fault
def retv (s : S) : R := (s.t_2)
noncomputable def r0 (s : S) : Option S := some { s with o_1 := s.o_0, t_2 := (⟨(0 : Int), (0 : Int)⟩ : Fault) }
noncomputable def r1 (s : S) : Option S := some { s with t_5 := ((decide (s.o_1.Kind < (1 : Int))) || (decide ((3 : Int) < s.o_1.Kind))) }
noncomputable def r2 (s : S) : Option S := some { s with t_2 := (⟨(4 : Int), (0 : Int)⟩ : Fault) }
noncomputable def r3 (s : S) : Option S := some { s with t_15 := (decide ((30 : Int) < (s.o_1.Links.length : Int))) }
noncomputable def r4 (s : S) : Option S := some { s with t_2 := (⟨(2 : Int), (0 : Int)⟩ : Fault) }
noncomputable def r5 (s : S) : Option S := some { s with t_21 := (decide ((1000 : Int) < (s.o_1.Data.length : Int))) }
noncomputable def r6 (s : S) : Option S := some { s with t_2 := (⟨(10 : Int), (0 : Int)⟩ : Fault) }
noncomputable def r7 (s : S) : Option S := some { s with t_27 := ((decide (s.o_1.Kind = (1 : Int))) && (decide ((0 : Int) < (s.o_1.Links.length : Int)))) }
noncomputable def r8 (s : S) : Option S := some { s with t_2 := (⟨(5 : Int), (0 : Int)⟩ : Fault) }
noncomputable def r9 (s : S) : Option S := some { s with t_39 := s.o_1.Links, t_40 := (s.o_1.Links.length : Int), t_41 := (0 : Int) }
noncomputable def r10 (s : S) : Option S := some { s with t_42 := (decide (s.t_41 < s.t_40)) }
noncomputable def r11 (s : S) : Option S := (idx s.t_39 s.t_41).bind fun x69 => some { s with i_3 := s.t_41, d_4 := x69 }
noncomputable def r12 (s : S) : Option S := some { s with t_51 := ((decide (s.d_4 < (0 : Int))) || (decide ((2305843009213693951 : Int) ≤ s.d_4))) }
noncomputable def r13 (s : S) : Option S := some { s with t_2 := (⟨(3 : Int), s.i_3⟩ : Fault) }
noncomputable def r14 (s : S) : Option S := some { s with t_41 := w64 (s.t_41 + (1 : Int)) }
noncomputable def r15 (s : S) : Option S := some { s with t_2 := (⟨(0 : Int), (0 : Int)⟩ : Fault) }
noncomputable def body : S → Option (Ctl S R) := (seqM (regM r0)
  (seqM (blockM 0 (seqM (regM r1)
  (condM (fun s => s.t_5) (seqM (regM r2)
  (retM retv))
  (seqM (regM r3)
  (condM (fun s => s.t_15) (seqM (regM r4)
  (retM retv))
  (seqM (regM r5)
  (condM (fun s => s.t_21) (seqM (regM r6)
  (retM retv))
  (seqM (regM r7)
  (condM (fun s => s.t_27) (seqM (regM r8)
  (retM retv))
  skipM)))))))))
  (seqM (seqM (regM r9)
  (blockM 1 (iterM (seqM (regM r10)
  (seqM (condM (fun s => s.t_42) skipM
  (extM 1))
  (seqM (blockM 2 (seqM (regM r11)
  (seqM (regM r12)
  (condM (fun s => s.t_51) (seqM (regM r13)
  (retM retv))
  skipM))))
  (regM r14)))))))
  (seqM (regM r15)
  (retM retv)))))
noncomputable def f (a0 : Object) : Option R := retOf (body { o_0 := a0, o_1 := (⟨(0 : Int), [], []⟩ : Object), t_2 := (⟨(0 : Int), (0 : Int)⟩ : Fault), i_3 := (0 : Int), d_4 := (0 : Int), t_5 := false, t_15 := false, t_21 := false, t_27 := false, t_39 := [], t_40 := (0 : Int), t_41 := (0 : Int), t_42 := false, t_51 := false })
end objects_check

namespace objects_Digest
structure S where
  o_0 : Object
  o_1 : Object
  t_2 : Int
  t_3 : Fault
  f_4 : Fault
  b_5 : (List UInt8)
  d_7 : Int
  s_8 : Int
  t_13 : Bool
  t_24 : (List Int)
  t_25 : Int
  t_26 : Int
  t_27 : Bool
  t_31 : Bool
abbrev R := (Int × Fault)
def retv (s : S) : R := (s.t_2, s.t_3)
noncomputable def r0 (s : S) : Option S := some { s with o_1 := s.o_0, t_2 := (0 : Int), t_3 := (⟨(0 : Int), (0 : Int)⟩ : Fault) }
noncomputable def r1 (s : S) : Option S := (objects_check.f s.o_1).bind fun x16 => some { s with f_4 := x16 }
noncomputable def r2 (s : S) : Option S := some { s with t_13 := (!decide (s.f_4 = (⟨(0 : Int), (0 : Int)⟩ : Fault))) }
noncomputable def r3 (s : S) : Option S := some { s with t_2 := (0 : Int), t_3 := s.f_4 }
noncomputable def r4 (s : S) : Option S := some { s with b_5 := [toByte s.o_1.Kind, toByte (s.o_1.Links.length : Int)] }
noncomputable def r5 (s : S) : Option S := some { s with t_24 := s.o_1.Links, t_25 := (s.o_1.Links.length : Int), t_26 := (0 : Int) }
noncomputable def r6 (s : S) : Option S := some { s with t_27 := (decide (s.t_26 < s.t_25)) }
noncomputable def r7 (s : S) : Option S := (idx s.t_24 s.t_26).bind fun x58 => some { s with d_7 := x58 }
noncomputable def r8 (s : S) : Option S := some { s with s_8 := (56 : Int) }
noncomputable def r9 (s : S) : Option S := some { s with t_31 := (decide ((0 : Int) ≤ s.s_8)) }
noncomputable def r11 (s : S) : Option S := if (0 : Int) ≤ s.s_8 then (appL 1 s.b_5 [toByte (shrV .i64 s.d_7 s.s_8)]).bind fun x74 => some { s with b_5 := x74 } else none
noncomputable def r10 (s : S) : Option S := some { s with s_8 := w64 (s.s_8 - (8 : Int)) }
noncomputable def r12 (s : S) : Option S := some { s with t_26 := w64 (s.t_26 + (1 : Int)) }
noncomputable def r13 (s : S) : Option S := (appL 1 s.b_5 s.o_1.Data).bind fun x83 => (digest_Of.f x83).bind fun x90 => some { s with t_2 := x90.1, t_3 := x90.2 }
noncomputable def body : S → Option (Ctl S R) := (seqM (regM r0)
  (seqM (seqM (regM r1)
  (seqM (regM r2)
  (condM (fun s => s.t_13) (seqM (regM r3)
  (retM retv))
  skipM)))
  (seqM (regM r4)
  (seqM (seqM (regM r5)
  (blockM 0 (iterM (seqM (regM r6)
  (seqM (condM (fun s => s.t_27) skipM
  (extM 0))
  (seqM (blockM 1 (seqM (regM r7)
  (seqM (regM r8)
  (blockM 2 (iterM (seqM (seqM (regM r9)
  (condM (fun s => s.t_31) skipM
  (extM 2)))
  (seqM (blockM 3 (regM r11))
  (regM r10))))))))
  (regM r12)))))))
  (seqM (regM r13)
  (retM retv))))))
noncomputable def f (a0 : Object) : Option R := retOf (body { o_0 := a0, o_1 := (⟨(0 : Int), [], []⟩ : Object), t_2 := (0 : Int), t_3 := (⟨(0 : Int), (0 : Int)⟩ : Fault), f_4 := (⟨(0 : Int), (0 : Int)⟩ : Fault), b_5 := [], d_7 := (0 : Int), s_8 := (0 : Int), t_13 := false, t_24 := [], t_25 := (0 : Int), t_26 := (0 : Int), t_27 := false, t_31 := false })
end objects_Digest

namespace objects_Validate
structure S where
  s_0 : ObjectStore
  s_1 : ObjectStore
  t_2 : Fault
  i_3 : Int
  o_4 : StoredObject
  d_5 : Int
  f_6 : Fault
  t_10 : Bool
  t_13 : (List StoredObject)
  t_14 : Int
  t_15 : Int
  t_16 : Bool
  t_26 : Bool
  t_34 : Bool
  t_41 : Bool
abbrev R := Fault
def retv (s : S) : R := (s.t_2)
noncomputable def r0 (s : S) : Option S := some { s with s_1 := s.s_0, t_2 := (⟨(0 : Int), (0 : Int)⟩ : Fault) }
noncomputable def r1 (s : S) : Option S := some { s with t_10 := (decide ((40 : Int) < (s.s_1.Objects.length : Int))) }
noncomputable def r2 (s : S) : Option S := some { s with t_2 := (⟨(2 : Int), (0 : Int)⟩ : Fault) }
noncomputable def r3 (s : S) : Option S := some { s with t_13 := s.s_1.Objects, t_14 := (s.s_1.Objects.length : Int), t_15 := (0 : Int) }
noncomputable def r4 (s : S) : Option S := some { s with t_16 := (decide (s.t_15 < s.t_14)) }
noncomputable def r5 (s : S) : Option S := (idx s.t_13 s.t_15).bind fun x37 => some { s with i_3 := s.t_15, o_4 := x37 }
noncomputable def r6 (s : S) : Option S := (objects_Digest.f s.o_4.Object).bind fun x58 => some { s with d_5 := x58.1, f_6 := x58.2 }
noncomputable def r7 (s : S) : Option S := some { s with t_26 := (!decide (s.f_6 = (⟨(0 : Int), (0 : Int)⟩ : Fault))) }
noncomputable def r8 (s : S) : Option S := some { s with t_2 := (⟨s.f_6.Code, s.i_3⟩ : Fault) }
noncomputable def r9 (s : S) : Option S := some { s with t_34 := (!decide (s.d_5 = s.o_4.Digest)) }
noncomputable def r10 (s : S) : Option S := some { s with t_2 := (⟨(18 : Int), s.i_3⟩ : Fault) }
noncomputable def r11 (s : S) : Option S := ((if (decide ((0 : Int) < s.i_3)) = true then (idx s.s_1.Objects (w64 (s.i_3 - (1 : Int)))).bind fun x88 => some (decide (s.d_5 ≤ x88.Digest)) else some false)).bind fun x98 => some { s with t_41 := x98 }
noncomputable def r12 (s : S) : Option S := some { s with t_2 := (⟨(5 : Int), s.i_3⟩ : Fault) }
noncomputable def r13 (s : S) : Option S := some { s with t_15 := w64 (s.t_15 + (1 : Int)) }
noncomputable def r14 (s : S) : Option S := some { s with t_2 := (⟨(0 : Int), (0 : Int)⟩ : Fault) }
noncomputable def body : S → Option (Ctl S R) := (seqM (regM r0)
  (seqM (seqM (regM r1)
  (condM (fun s => s.t_10) (seqM (regM r2)
  (retM retv))
  skipM))
  (seqM (seqM (regM r3)
  (blockM 0 (iterM (seqM (regM r4)
  (seqM (condM (fun s => s.t_16) skipM
  (extM 0))
  (seqM (blockM 1 (seqM (regM r5)
  (seqM (regM r6)
  (blockM 2 (seqM (regM r7)
  (condM (fun s => s.t_26) (seqM (regM r8)
  (retM retv))
  (seqM (regM r9)
  (condM (fun s => s.t_34) (seqM (regM r10)
  (retM retv))
  (seqM (regM r11)
  (condM (fun s => s.t_41) (seqM (regM r12)
  (retM retv))
  skipM))))))))))
  (regM r13)))))))
  (seqM (regM r14)
  (retM retv)))))
noncomputable def f (a0 : ObjectStore) : Option R := retOf (body { s_0 := a0, s_1 := (⟨[]⟩ : ObjectStore), t_2 := (⟨(0 : Int), (0 : Int)⟩ : Fault), i_3 := (0 : Int), o_4 := (⟨(0 : Int), (⟨(0 : Int), [], []⟩ : Object)⟩ : StoredObject), d_5 := (0 : Int), f_6 := (⟨(0 : Int), (0 : Int)⟩ : Fault), t_10 := false, t_13 := [], t_14 := (0 : Int), t_15 := (0 : Int), t_16 := false, t_26 := false, t_34 := false, t_41 := false })
end objects_Validate

namespace refs_good
structure S where
  name_0 : ByteArray
  t_2 : Bool
  part_3 : ByteArray
  c_5 : UInt8
  t_8 : Bool
  t_10 : (List ByteArray)
  t_11 : ByteArray
  t_26 : Bool
  t_28 : (List UInt8)
  t_29 : Int
  t_30 : Int
  t_31 : Bool
  t_59 : Bool
abbrev R := Bool
def retv (s : S) : R := (s.t_2)
noncomputable def r0 (s : S) : Option S := some { s with t_2 := false }
noncomputable def r1 (s : S) : Option S := some { s with t_8 := (decide ((60 : Int) < (s.name_0.size : Int))) }
noncomputable def r2 (s : S) : Option S := some { s with t_2 := false }
noncomputable def r3 (s : S) : Option S := (SplitSeq.f s.name_0 (⟨#[47]⟩ : ByteArray)).bind fun x8 => some { s with t_10 := x8 }
noncomputable def r4 (s : S) : Option S := some { s with part_3 := s.t_11 }
noncomputable def r5 (s : S) : Option S := ((if (decide (s.part_3 = (⟨#[]⟩ : ByteArray))) = true then some true else (idxB s.part_3 (0 : Int)).bind fun b18 => some (decide ((b18.toNat : Int) = (46 : Int))))).bind fun x19 => ((if x19 = true then some true else (HasSuffixS.f s.part_3 (⟨#[46, 108, 111, 99, 107]⟩ : ByteArray)).bind fun x23 => some x23)).bind fun x28 => ((if x28 = true then some true else (ContainsS.f s.part_3 (⟨#[46, 46]⟩ : ByteArray)).bind fun x38 => some x38)).bind fun x43 => some { s with t_26 := x43 }
noncomputable def r6 (s : S) : Option S := some { s with t_2 := false }
noncomputable def r7 (s : S) : Option S := some { s with t_28 := bytesOf s.part_3, t_29 := ((bytesOf s.part_3).length : Int), t_30 := (0 : Int) }
noncomputable def r8 (s : S) : Option S := some { s with t_31 := (decide (s.t_30 < s.t_29)) }
noncomputable def r9 (s : S) : Option S := (idx s.t_28 s.t_30).bind fun x61 => some { s with c_5 := x61 }
noncomputable def r10 (s : S) : Option S := some { s with t_59 := ((((((decide ((s.c_5.toNat : Int) < (97 : Int))) || (decide ((122 : Int) < (s.c_5.toNat : Int)))) && ((decide ((s.c_5.toNat : Int) < (48 : Int))) || (decide ((57 : Int) < (s.c_5.toNat : Int))))) && (!decide ((s.c_5.toNat : Int) = (45 : Int)))) && (!decide ((s.c_5.toNat : Int) = (95 : Int)))) && (!decide ((s.c_5.toNat : Int) = (46 : Int)))) }
noncomputable def r11 (s : S) : Option S := some { s with t_2 := false }
noncomputable def r12 (s : S) : Option S := some { s with t_30 := w64 (s.t_30 + (1 : Int)) }
noncomputable def r13 (s : S) : Option S := some { s with t_2 := true }
noncomputable def body : S → Option (Ctl S R) := (seqM (regM r0)
  (seqM (seqM (regM r1)
  (condM (fun s => s.t_8) (seqM (regM r2)
  (retM retv))
  skipM))
  (seqM (seqM (regM r3)
  (blockM 0 (rangeM (fun s => s.t_10) (fun it s => { s with t_11 := it }) (regM r4) (blockM 1 (seqM (seqM (regM r5)
  (condM (fun s => s.t_26) (seqM (regM r6)
  (retM retv))
  skipM))
  (seqM (regM r7)
  (blockM 2 (iterM (seqM (regM r8)
  (seqM (condM (fun s => s.t_31) skipM
  (extM 2))
  (seqM (blockM 3 (seqM (regM r9)
  (seqM (regM r10)
  (condM (fun s => s.t_59) (seqM (regM r11)
  (retM retv))
  skipM))))
  (regM r12))))))))))))
  (seqM (regM r13)
  (retM retv)))))
noncomputable def f (a0 : ByteArray) : Option R := retOf (body { name_0 := a0, t_2 := false, part_3 := ByteArray.empty, c_5 := (0 : UInt8), t_8 := false, t_10 := [], t_11 := ByteArray.empty, t_26 := false, t_28 := [], t_29 := (0 : Int), t_30 := (0 : Int), t_31 := false, t_59 := false })
end refs_good

namespace refs_target
structure S where
  d_0 : Int
  t_2 : Bool
abbrev R := Bool
def retv (s : S) : R := (s.t_2)
noncomputable def r0 (s : S) : Option S := some { s with t_2 := false }
noncomputable def r1 (s : S) : Option S := some { s with t_2 := ((decide ((0 : Int) ≤ s.d_0)) && (decide (s.d_0 < (2305843009213693951 : Int)))) }
noncomputable def body : S → Option (Ctl S R) := (seqM (regM r0)
  (seqM (regM r1)
  (retM retv)))
noncomputable def f (a0 : Int) : Option R := retOf (body { d_0 := a0, t_2 := false })
end refs_target

namespace slices_IndexFunc_api_Ref_api_Ref
structure S where
  s_0 : (List RefTy)
  f_1 : (RefTy → Option Bool)
  t_4 : Int
  i_5 : Int
  t_7 : Int
  t_8 : Int
  t_9 : Bool
  t_16 : Bool
abbrev R := Int
def retv (s : S) : R := (s.t_4)
noncomputable def r0 (s : S) : Option S := some { s with t_4 := (0 : Int) }
noncomputable def r1 (s : S) : Option S := some { s with t_7 := (s.s_0.length : Int), t_8 := (0 : Int) }
noncomputable def r2 (s : S) : Option S := some { s with t_9 := (decide (s.t_8 < s.t_7)) }
noncomputable def r3 (s : S) : Option S := some { s with i_5 := s.t_8 }
noncomputable def r4 (s : S) : Option S := (idx s.s_0 s.i_5).bind fun x6 => (s.f_1 x6).bind fun x19 => some { s with t_16 := x19 }
noncomputable def r5 (s : S) : Option S := some { s with t_4 := s.i_5 }
noncomputable def r6 (s : S) : Option S := some { s with t_8 := w64 (s.t_8 + (1 : Int)) }
noncomputable def r7 (s : S) : Option S := some { s with t_4 := (-1 : Int) }
noncomputable def body : S → Option (Ctl S R) := (seqM (regM r0)
  (seqM (seqM (regM r1)
  (blockM 0 (iterM (seqM (regM r2)
  (seqM (condM (fun s => s.t_9) skipM
  (extM 0))
  (seqM (blockM 1 (seqM (regM r3)
  (seqM (regM r4)
  (condM (fun s => s.t_16) (seqM (regM r5)
  (retM retv))
  skipM))))
  (regM r6)))))))
  (seqM (regM r7)
  (retM retv))))
noncomputable def f (a0 : (List RefTy)) (a1 : (RefTy → Option Bool)) : Option R := retOf (body { s_0 := a0, f_1 := a1, t_4 := (0 : Int), i_5 := (0 : Int), t_7 := (0 : Int), t_8 := (0 : Int), t_9 := false, t_16 := false })
end slices_IndexFunc_api_Ref_api_Ref

namespace slices_ContainsFunc_api_Ref_api_Ref
structure S where
  s_0 : (List RefTy)
  f_1 : (RefTy → Option Bool)
  t_4 : Bool
abbrev R := Bool
def retv (s : S) : R := (s.t_4)
noncomputable def r0 (s : S) : Option S := some { s with t_4 := false }
noncomputable def r1 (s : S) : Option S := (slices_IndexFunc_api_Ref_api_Ref.f s.s_0 s.f_1).bind fun x1 => some { s with t_4 := (decide ((0 : Int) ≤ x1)) }
noncomputable def body : S → Option (Ctl S R) := (seqM (regM r0)
  (seqM (regM r1)
  (retM retv)))
noncomputable def f (a0 : (List RefTy)) (a1 : (RefTy → Option Bool)) : Option R := retOf (body { s_0 := a0, f_1 := a1, t_4 := false })
end slices_ContainsFunc_api_Ref_api_Ref

namespace refs_within
structure S where
  a_0 : ByteArray
  b_1 : ByteArray
  t_4 : Bool
abbrev R := Bool
def retv (s : S) : R := (s.t_4)
noncomputable def r0 (s : S) : Option S := some { s with t_4 := false }
noncomputable def r1 (s : S) : Option S := (catS s.a_0 (⟨#[47]⟩ : ByteArray)).bind fun x1 => (HasPrefixS.f s.b_1 x1).bind fun x2 => ((if x2 = true then some true else (catS s.b_1 (⟨#[47]⟩ : ByteArray)).bind fun x9 => (HasPrefixS.f s.a_0 x9).bind fun x10 => some x10)).bind fun x15 => some { s with t_4 := x15 }
noncomputable def body : S → Option (Ctl S R) := (seqM (regM r0)
  (seqM (regM r1)
  (retM retv)))
noncomputable def f (a0 : ByteArray) (a1 : ByteArray) : Option R := retOf (body { a_0 := a0, b_1 := a1, t_4 := false })
end refs_within

namespace refs_Validate_1
structure S where
  o_0 : RefTy
  t_1 : RefTy
  o_2 : RefTy
  t_3 : Bool
abbrev R := Bool
def retv (s : S) : R := (s.t_3)
noncomputable def r0 (s : S) : Option S := some { s with o_2 := s.o_0, t_3 := false }
noncomputable def r1 (s : S) : Option S := (refs_within.f s.o_2.Name s.t_1.Name).bind fun x8 => some { s with t_3 := x8 }
noncomputable def body : S → Option (Ctl S R) := (seqM (regM r0)
  (seqM (regM r1)
  (retM retv)))
noncomputable def f (a0 : RefTy) (a1 : RefTy) : Option R := retOf (body { o_0 := a0, t_1 := a1, o_2 := (⟨ByteArray.empty, (0 : Int)⟩ : RefTy), t_3 := false })
end refs_Validate_1

namespace refs_Validate
structure S where
  s_0 : RefStore
  s_1 : RefStore
  t_2 : Fault
  i_3 : Int
  r_4 : RefTy
  t_8 : Bool
  t_11 : (List RefTy)
  t_12 : Int
  t_13 : Int
  t_14 : Bool
  t_18 : Bool
  t_25 : Bool
  t_32 : Bool
  t_49 : Bool
abbrev R := Fault
def retv (s : S) : R := (s.t_2)
noncomputable def r0 (s : S) : Option S := some { s with s_1 := s.s_0, t_2 := (⟨(0 : Int), (0 : Int)⟩ : Fault) }
noncomputable def r1 (s : S) : Option S := some { s with t_8 := (decide ((30 : Int) < (s.s_1.Refs.length : Int))) }
noncomputable def r2 (s : S) : Option S := some { s with t_2 := (⟨(2 : Int), (-1 : Int)⟩ : Fault) }
noncomputable def r3 (s : S) : Option S := some { s with t_11 := s.s_1.Refs, t_12 := (s.s_1.Refs.length : Int), t_13 := (0 : Int) }
noncomputable def r4 (s : S) : Option S := some { s with t_14 := (decide (s.t_13 < s.t_12)) }
noncomputable def r5 (s : S) : Option S := (idx s.t_11 s.t_13).bind fun x35 => some { s with i_3 := s.t_13, r_4 := x35 }
noncomputable def r6 (s : S) : Option S := (refs_good.f s.r_4.Name).bind fun x54 => some { s with t_18 := (!x54) }
noncomputable def r7 (s : S) : Option S := some { s with t_2 := (⟨(12 : Int), s.i_3⟩ : Fault) }
noncomputable def r8 (s : S) : Option S := (refs_target.f s.r_4.Target).bind fun x63 => some { s with t_25 := (!x63) }
noncomputable def r9 (s : S) : Option S := some { s with t_2 := (⟨(3 : Int), s.i_3⟩ : Fault) }
noncomputable def r10 (s : S) : Option S := ((if (decide ((0 : Int) < s.i_3)) = true then (idx s.s_1.Refs (w64 (s.i_3 - (1 : Int)))).bind fun x77 => some (!sLess x77.Name s.r_4.Name) else some false)).bind fun x87 => some { s with t_32 := x87 }
noncomputable def r11 (s : S) : Option S := some { s with t_2 := (⟨(5 : Int), s.i_3⟩ : Fault) }
noncomputable def r12 (s : S) : Option S := (cutTo s.s_1.Refs s.i_3).bind fun x101 => (slices_ContainsFunc_api_Ref_api_Ref.f x101 (fun x => refs_Validate_1.f x s.r_4)).bind fun x104 => some { s with t_49 := x104 }
noncomputable def r13 (s : S) : Option S := some { s with t_2 := (⟨(19 : Int), s.i_3⟩ : Fault) }
noncomputable def r14 (s : S) : Option S := some { s with t_13 := w64 (s.t_13 + (1 : Int)) }
noncomputable def r15 (s : S) : Option S := some { s with t_2 := (⟨(0 : Int), (0 : Int)⟩ : Fault) }
noncomputable def body : S → Option (Ctl S R) := (seqM (regM r0)
  (seqM (seqM (regM r1)
  (condM (fun s => s.t_8) (seqM (regM r2)
  (retM retv))
  skipM))
  (seqM (seqM (regM r3)
  (blockM 0 (iterM (seqM (regM r4)
  (seqM (condM (fun s => s.t_14) skipM
  (extM 0))
  (seqM (blockM 1 (seqM (regM r5)
  (blockM 2 (seqM (regM r6)
  (condM (fun s => s.t_18) (seqM (regM r7)
  (retM retv))
  (seqM (regM r8)
  (condM (fun s => s.t_25) (seqM (regM r9)
  (retM retv))
  (seqM (regM r10)
  (condM (fun s => s.t_32) (seqM (regM r11)
  (retM retv))
  (seqM (regM r12)
  (condM (fun s => s.t_49) (seqM (regM r13)
  (retM retv))
  skipM)))))))))))
  (regM r14)))))))
  (seqM (regM r15)
  (retM retv)))))
noncomputable def f (a0 : RefStore) : Option R := retOf (body { s_0 := a0, s_1 := (⟨[]⟩ : RefStore), t_2 := (⟨(0 : Int), (0 : Int)⟩ : Fault), i_3 := (0 : Int), r_4 := (⟨ByteArray.empty, (0 : Int)⟩ : RefTy), t_8 := false, t_11 := [], t_12 := (0 : Int), t_13 := (0 : Int), t_14 := false, t_18 := false, t_25 := false, t_32 := false, t_49 := false })
end refs_Validate

namespace gc_mark
structure S where
  t_0 : ObjectStore
  t_1 : (List Int)
  t_2 : ObjectStore
  t_4 : (List Bool)
  t_5 : (List (Int × Int))
  t_6 : Int
  t_7 : StoredObject
  t_8 : (List Bool)
  t_9 : (List Int)
  t_10 : Int
  t_11 : Bool
  t_14 : (List StoredObject)
  t_15 : Int
  t_16 : Int
  t_17 : Bool
  t_34 : Bool
  t_52 : Bool
abbrev R := (List Bool)
def retv (s : S) : R := (s.t_4)
noncomputable def r0 (s : S) : Option S := some { s with t_2 := s.t_0, t_4 := [] }
noncomputable def r1 (s : S) : Option S := some { s with t_5 := [] }
noncomputable def r2 (s : S) : Option S := some { s with t_14 := s.t_2.Objects, t_15 := (s.t_2.Objects.length : Int), t_16 := (0 : Int) }
noncomputable def r3 (s : S) : Option S := some { s with t_17 := (decide (s.t_16 < s.t_15)) }
noncomputable def r4 (s : S) : Option S := (idx s.t_14 s.t_16).bind fun x26 => some { s with t_6 := s.t_16, t_7 := x26 }
noncomputable def r5 (s : S) : Option S := some { s with t_5 := mput s.t_5 s.t_7.Digest s.t_6 }
noncomputable def r6 (s : S) : Option S := some { s with t_16 := w64 (s.t_16 + (1 : Int)) }
noncomputable def r7 (s : S) : Option S := (mkL 1 false (s.t_2.Objects.length : Int)).bind fun x56 => some { s with t_8 := x56 }
noncomputable def r8 (s : S) : Option S := (CloneI.f s.t_1).bind fun x61 => some { s with t_9 := x61 }
noncomputable def r9 (s : S) : Option S := some { s with t_34 := (decide ((0 : Int) < (s.t_9.length : Int))) }
noncomputable def r10 (s : S) : Option S := (idx s.t_9 (0 : Int)).bind fun x72 => some { s with t_10 := ((mget s.t_5 x72).getD (0 : Int)), t_11 := (mget s.t_5 x72).isSome }
noncomputable def r11 (s : S) : Option S := (cutFrom s.t_9 (1 : Int)).bind fun x82 => some { s with t_9 := x82 }
noncomputable def r12 (s : S) : Option S := ((if s.t_11 = true then (idx s.t_8 s.t_10).bind fun x87 => some (!x87) else some false)).bind fun x93 => some { s with t_52 := x93 }
noncomputable def r13 (s : S) : Option S := (idx s.t_8 s.t_10).bind fun x95 => some { s with t_8 := setL s.t_8 s.t_10 true }
noncomputable def r14 (s : S) : Option S := (idx s.t_2.Objects s.t_10).bind fun x107 => (appL 8 s.t_9 x107.Object.Links).bind fun x120 => some { s with t_9 := x120 }
noncomputable def r15 (s : S) : Option S := some { s with t_4 := s.t_8 }
noncomputable def body : S → Option (Ctl S R) := (seqM (regM r0)
  (seqM (regM r1)
  (seqM (seqM (regM r2)
  (blockM 0 (iterM (seqM (regM r3)
  (seqM (condM (fun s => s.t_17) skipM
  (extM 0))
  (seqM (blockM 1 (seqM (regM r4)
  (regM r5)))
  (regM r6)))))))
  (seqM (regM r7)
  (seqM (seqM (regM r8)
  (blockM 2 (iterM (seqM (seqM (regM r9)
  (condM (fun s => s.t_34) skipM
  (extM 2)))
  (blockM 3 (seqM (regM r10)
  (seqM (regM r11)
  (seqM (regM r12)
  (condM (fun s => s.t_52) (seqM (regM r13)
  (regM r14))
  skipM)))))))))
  (seqM (regM r15)
  (retM retv)))))))
noncomputable def f (a0 : ObjectStore) (a1 : (List Int)) : Option R := retOf (body { t_0 := a0, t_1 := a1, t_2 := (⟨[]⟩ : ObjectStore), t_4 := [], t_5 := [], t_6 := (0 : Int), t_7 := (⟨(0 : Int), (⟨(0 : Int), [], []⟩ : Object)⟩ : StoredObject), t_8 := [], t_9 := [], t_10 := (0 : Int), t_11 := false, t_14 := [], t_15 := (0 : Int), t_16 := (0 : Int), t_17 := false, t_34 := false, t_52 := false })
end gc_mark

namespace objects_Clone
structure S where
  o_0 : Object
  o_1 : Object
  t_2 : Object
abbrev R := Object
def retv (s : S) : R := (s.t_2)
noncomputable def r0 (s : S) : Option S := some { s with o_1 := s.o_0, t_2 := (⟨(0 : Int), [], []⟩ : Object) }
noncomputable def r1 (s : S) : Option S := (CloneI.f s.o_1.Links).bind fun x17 => (CloneB.f s.o_1.Data).bind fun x24 => some { s with t_2 := (⟨s.o_1.Kind, x17, x24⟩ : Object) }
noncomputable def body : S → Option (Ctl S R) := (seqM (regM r0)
  (seqM (regM r1)
  (retM retv)))
noncomputable def f (a0 : Object) : Option R := retOf (body { o_0 := a0, o_1 := (⟨(0 : Int), [], []⟩ : Object), t_2 := (⟨(0 : Int), [], []⟩ : Object) })
end objects_Clone

namespace gc_Collect
structure S where
  t_0 : ObjectStore
  t_1 : RefStore
  t_2 : (List Lease)
  t_3 : Int
  t_4 : ObjectStore
  t_5 : RefStore
  t_8 : ObjectStore
  t_9 : (List Int)
  t_10 : Fault
  t_11 : Fault
  t_12 : Fault
  t_13 : (List Int)
  t_15 : RefTy
  t_16 : Int
  t_17 : Lease
  t_18 : ObjectStore
  t_19 : (List Int)
  t_20 : Int
  t_21 : Bool
  t_22 : StoredObject
  t_27 : Bool
  t_34 : Bool
  t_41 : Bool
  t_45 : (List RefTy)
  t_46 : Int
  t_47 : Int
  t_48 : Bool
  t_57 : (List Lease)
  t_58 : Int
  t_59 : Int
  t_60 : Bool
  t_81 : Bool
  t_89 : Bool
  t_101 : Bool
  t_107 : (List Bool)
  t_108 : Int
  t_109 : Int
  t_110 : Bool
  t_119 : Bool
abbrev R := (ObjectStore × (List Int) × Fault)
def retv (s : S) : R := (s.t_8, s.t_9, s.t_10)
noncomputable def r0 (s : S) : Option S := some { s with t_4 := s.t_0, t_5 := s.t_1, t_8 := (⟨[]⟩ : ObjectStore), t_9 := [], t_10 := (⟨(0 : Int), (0 : Int)⟩ : Fault) }
noncomputable def r1 (s : S) : Option S := (objects_Validate.f s.t_4).bind fun x34 => some { s with t_11 := x34 }
noncomputable def r2 (s : S) : Option S := some { s with t_27 := (!decide (s.t_11 = (⟨(0 : Int), (0 : Int)⟩ : Fault))) }
noncomputable def r3 (s : S) : Option S := some { s with t_8 := (⟨[]⟩ : ObjectStore), t_9 := [], t_10 := s.t_11 }
noncomputable def r4 (s : S) : Option S := (refs_Validate.f s.t_5).bind fun x64 => some { s with t_12 := x64 }
noncomputable def r5 (s : S) : Option S := some { s with t_34 := (!decide (s.t_12 = (⟨(0 : Int), (0 : Int)⟩ : Fault))) }
noncomputable def r6 (s : S) : Option S := some { s with t_8 := (⟨[]⟩ : ObjectStore), t_9 := [], t_10 := (⟨s.t_12.Code, (-1 : Int)⟩ : Fault) }
noncomputable def r7 (s : S) : Option S := some { s with t_41 := (decide ((20 : Int) < (s.t_2.length : Int))) }
noncomputable def r8 (s : S) : Option S := some { s with t_8 := (⟨[]⟩ : ObjectStore), t_9 := [], t_10 := (⟨(2 : Int), (-2 : Int)⟩ : Fault) }
noncomputable def r9 (s : S) : Option S := some { s with t_13 := [] }
noncomputable def r10 (s : S) : Option S := some { s with t_45 := s.t_5.Refs, t_46 := (s.t_5.Refs.length : Int), t_47 := (0 : Int) }
noncomputable def r11 (s : S) : Option S := some { s with t_48 := (decide (s.t_47 < s.t_46)) }
noncomputable def r12 (s : S) : Option S := (idx s.t_45 s.t_47).bind fun x112 => some { s with t_15 := x112 }
noncomputable def r13 (s : S) : Option S := (appL 8 s.t_13 [s.t_15.Target]).bind fun x136 => some { s with t_13 := x136 }
noncomputable def r14 (s : S) : Option S := some { s with t_47 := w64 (s.t_47 + (1 : Int)) }
noncomputable def r15 (s : S) : Option S := some { s with t_57 := s.t_2, t_58 := (s.t_2.length : Int), t_59 := (0 : Int) }
noncomputable def r16 (s : S) : Option S := some { s with t_60 := (decide (s.t_59 < s.t_58)) }
noncomputable def r17 (s : S) : Option S := (idx s.t_57 s.t_59).bind fun x147 => some { s with t_16 := s.t_59, t_17 := x147 }
noncomputable def r18 (s : S) : Option S := some { s with t_81 := ((((decide (s.t_17.Digest < (0 : Int))) || (decide ((2305843009213693951 : Int) ≤ s.t_17.Digest))) || (decide (s.t_17.Until < (0 : Int)))) || (decide ((100000 : Int) < s.t_17.Until))) }
noncomputable def r19 (s : S) : Option S := some { s with t_8 := (⟨[]⟩ : ObjectStore), t_9 := [], t_10 := (⟨(3 : Int), w64 ((-3 : Int) - s.t_16)⟩ : Fault) }
noncomputable def r20 (s : S) : Option S := some { s with t_89 := (decide (s.t_3 < s.t_17.Until)) }
noncomputable def r21 (s : S) : Option S := (appL 8 s.t_13 [s.t_17.Digest]).bind fun x189 => some { s with t_13 := x189 }
noncomputable def r22 (s : S) : Option S := some { s with t_59 := w64 (s.t_59 + (1 : Int)) }
noncomputable def r23 (s : S) : Option S := some { s with t_101 := ((decide (s.t_3 < (0 : Int))) || (decide ((100000 : Int) < s.t_3))) }
noncomputable def r24 (s : S) : Option S := some { s with t_8 := (⟨[]⟩ : ObjectStore), t_9 := [], t_10 := (⟨(3 : Int), (-2 : Int)⟩ : Fault) }
noncomputable def r25 (s : S) : Option S := some { s with t_18 := (⟨[]⟩ : ObjectStore), t_19 := [] }
noncomputable def r26 (s : S) : Option S := (gc_mark.f s.t_4 s.t_13).bind fun x218 => some { s with t_107 := x218, t_108 := (x218.length : Int), t_109 := (0 : Int) }
noncomputable def r27 (s : S) : Option S := some { s with t_110 := (decide (s.t_109 < s.t_108)) }
noncomputable def r28 (s : S) : Option S := (idx s.t_107 s.t_109).bind fun x234 => some { s with t_20 := s.t_109, t_21 := x234 }
noncomputable def r29 (s : S) : Option S := (idx s.t_4.Objects s.t_20).bind fun x247 => some { s with t_22 := x247 }
noncomputable def r30 (s : S) : Option S := some { s with t_119 := s.t_21 }
noncomputable def r31 (s : S) : Option S := (objects_Clone.f s.t_22.Object).bind fun x295 => (appL 64 s.t_18.Objects [(⟨s.t_22.Digest, x295⟩ : StoredObject)]).bind fun x311 => some { s with t_18 := { s.t_18 with Objects := x311 } }
noncomputable def r32 (s : S) : Option S := (appL 8 s.t_19 [s.t_22.Digest]).bind fun x378 => some { s with t_19 := x378 }
noncomputable def r33 (s : S) : Option S := some { s with t_109 := w64 (s.t_109 + (1 : Int)) }
noncomputable def r34 (s : S) : Option S := some { s with t_8 := (⟨s.t_18.Objects⟩ : ObjectStore), t_9 := s.t_19, t_10 := (⟨(0 : Int), (0 : Int)⟩ : Fault), t_18 := s.t_18 }
noncomputable def body : S → Option (Ctl S R) := (seqM (regM r0)
  (seqM (seqM (regM r1)
  (seqM (regM r2)
  (condM (fun s => s.t_27) (seqM (regM r3)
  (retM retv))
  skipM)))
  (seqM (seqM (regM r4)
  (seqM (regM r5)
  (condM (fun s => s.t_34) (seqM (regM r6)
  (retM retv))
  skipM)))
  (seqM (seqM (regM r7)
  (condM (fun s => s.t_41) (seqM (regM r8)
  (retM retv))
  skipM))
  (seqM (regM r9)
  (seqM (seqM (regM r10)
  (blockM 0 (iterM (seqM (regM r11)
  (seqM (condM (fun s => s.t_48) skipM
  (extM 0))
  (seqM (blockM 1 (seqM (regM r12)
  (regM r13)))
  (regM r14)))))))
  (seqM (seqM (regM r15)
  (blockM 2 (iterM (seqM (regM r16)
  (seqM (condM (fun s => s.t_60) skipM
  (extM 2))
  (seqM (blockM 3 (seqM (regM r17)
  (seqM (seqM (regM r18)
  (condM (fun s => s.t_81) (seqM (regM r19)
  (retM retv))
  skipM))
  (seqM (regM r20)
  (condM (fun s => s.t_89) (regM r21)
  skipM)))))
  (regM r22)))))))
  (seqM (seqM (regM r23)
  (condM (fun s => s.t_101) (seqM (regM r24)
  (retM retv))
  skipM))
  (seqM (regM r25)
  (seqM (seqM (regM r26)
  (blockM 4 (iterM (seqM (regM r27)
  (seqM (condM (fun s => s.t_110) skipM
  (extM 4))
  (seqM (blockM 5 (seqM (regM r28)
  (seqM (regM r29)
  (seqM (regM r30)
  (condM (fun s => s.t_119) (regM r31)
  (regM r32))))))
  (regM r33)))))))
  (seqM (regM r34)
  (retM retv))))))))))))
noncomputable def f (a0 : ObjectStore) (a1 : RefStore) (a2 : (List Lease)) (a3 : Int) : Option R := retOf (body { t_0 := a0, t_1 := a1, t_2 := a2, t_3 := a3, t_4 := (⟨[]⟩ : ObjectStore), t_5 := (⟨[]⟩ : RefStore), t_8 := (⟨[]⟩ : ObjectStore), t_9 := [], t_10 := (⟨(0 : Int), (0 : Int)⟩ : Fault), t_11 := (⟨(0 : Int), (0 : Int)⟩ : Fault), t_12 := (⟨(0 : Int), (0 : Int)⟩ : Fault), t_13 := [], t_15 := (⟨ByteArray.empty, (0 : Int)⟩ : RefTy), t_16 := (0 : Int), t_17 := (⟨(0 : Int), (0 : Int)⟩ : Lease), t_18 := (⟨[]⟩ : ObjectStore), t_19 := [], t_20 := (0 : Int), t_21 := false, t_22 := (⟨(0 : Int), (⟨(0 : Int), [], []⟩ : Object)⟩ : StoredObject), t_27 := false, t_34 := false, t_41 := false, t_45 := [], t_46 := (0 : Int), t_47 := (0 : Int), t_48 := false, t_57 := [], t_58 := (0 : Int), t_59 := (0 : Int), t_60 := false, t_81 := false, t_89 := false, t_101 := false, t_107 := [], t_108 := (0 : Int), t_109 := (0 : Int), t_110 := false, t_119 := false })
end gc_Collect

namespace ref3_Ints
structure S where
  a_0 : (List Int)
  b_1 : (List Int)
  t_4 : Bool
  i_5 : Int
  t_10 : Bool
  t_14 : Bool
  t_25 : Bool
abbrev R := Bool
def retv (s : S) : R := (s.t_4)
noncomputable def r0 (s : S) : Option S := some { s with t_4 := false }
noncomputable def r1 (s : S) : Option S := some { s with t_10 := (!decide ((s.a_0.length : Int) = (s.b_1.length : Int))) }
noncomputable def r2 (s : S) : Option S := some { s with t_4 := false }
noncomputable def r3 (s : S) : Option S := some { s with i_5 := (0 : Int) }
noncomputable def r4 (s : S) : Option S := some { s with t_14 := (decide (s.i_5 < (s.a_0.length : Int))) }
noncomputable def r6 (s : S) : Option S := (idx s.a_0 s.i_5).bind fun x16 => (idx s.b_1 s.i_5).bind fun x26 => some { s with t_25 := (!decide (x16 = x26)) }
noncomputable def r7 (s : S) : Option S := some { s with t_4 := false }
noncomputable def r5 (s : S) : Option S := some { s with i_5 := w64 (s.i_5 + (1 : Int)) }
noncomputable def r8 (s : S) : Option S := some { s with t_4 := true }
noncomputable def body : S → Option (Ctl S R) := (seqM (regM r0)
  (seqM (seqM (regM r1)
  (condM (fun s => s.t_10) (seqM (regM r2)
  (retM retv))
  skipM))
  (seqM (seqM (regM r3)
  (blockM 0 (iterM (seqM (seqM (regM r4)
  (condM (fun s => s.t_14) skipM
  (extM 0)))
  (seqM (blockM 1 (seqM (regM r6)
  (condM (fun s => s.t_25) (seqM (regM r7)
  (retM retv))
  skipM)))
  (regM r5))))))
  (seqM (regM r8)
  (retM retv)))))
noncomputable def f (a0 : (List Int)) (a1 : (List Int)) : Option R := retOf (body { a_0 := a0, b_1 := a1, t_4 := false, i_5 := (0 : Int), t_10 := false, t_14 := false, t_25 := false })
end ref3_Ints

namespace objects_copied
structure S where
  s_0 : ObjectStore
  s_1 : ObjectStore
  t_2 : ObjectStore
  out_3 : ObjectStore
  o_5 : StoredObject
  t_8 : (List StoredObject)
  t_9 : Int
  t_10 : Int
  t_11 : Bool
abbrev R := ObjectStore
def retv (s : S) : R := (s.t_2)
noncomputable def r0 (s : S) : Option S := some { s with s_1 := s.s_0, t_2 := (⟨([] : (List StoredObject))⟩ : ObjectStore) }
noncomputable def r1 (s : S) : Option S := some { s with out_3 := (⟨[]⟩ : ObjectStore) }
noncomputable def r2 (s : S) : Option S := some { s with t_8 := s.s_1.Objects, t_9 := (s.s_1.Objects.length : Int), t_10 := (0 : Int) }
noncomputable def r3 (s : S) : Option S := some { s with t_11 := (decide (s.t_10 < s.t_9)) }
noncomputable def r4 (s : S) : Option S := (idx s.t_8 s.t_10).bind fun x32 => some { s with o_5 := x32 }
noncomputable def r5 (s : S) : Option S := (objects_Clone.f s.o_5.Object).bind fun x80 => (appL 64 s.out_3.Objects [(⟨s.o_5.Digest, x80⟩ : StoredObject)]).bind fun x96 => some { s with out_3 := { s.out_3 with Objects := x96 } }
noncomputable def r6 (s : S) : Option S := some { s with t_10 := w64 (s.t_10 + (1 : Int)) }
noncomputable def r7 (s : S) : Option S := some { s with t_2 := (⟨s.out_3.Objects⟩ : ObjectStore) }
noncomputable def body : S → Option (Ctl S R) := (seqM (regM r0)
  (seqM (regM r1)
  (seqM (seqM (regM r2)
  (blockM 0 (iterM (seqM (regM r3)
  (seqM (condM (fun s => s.t_11) skipM
  (extM 0))
  (seqM (blockM 1 (seqM (regM r4)
  (regM r5)))
  (regM r6)))))))
  (seqM (regM r7)
  (retM retv)))))
noncomputable def f (a0 : ObjectStore) : Option R := retOf (body { s_0 := a0, s_1 := (⟨[]⟩ : ObjectStore), t_2 := (⟨[]⟩ : ObjectStore), out_3 := (⟨[]⟩ : ObjectStore), o_5 := (⟨(0 : Int), (⟨(0 : Int), [], []⟩ : Object)⟩ : StoredObject), t_8 := [], t_9 := (0 : Int), t_10 := (0 : Int), t_11 := false })
end objects_copied

namespace slices_BinarySearchFunc_api_StoredObject_api_StoredObject_int
structure S where
  x_0 : (List StoredObject)
  target_1 : Int
  cmp_2 : (StoredObject × Int → Option Int)
  t_6 : Int
  t_7 : Bool
  n_8 : Int
  i_9 : Int
  j_10 : Int
  h_11 : Int
  t_17 : Bool
  t_31 : Bool
abbrev R := (Int × Bool)
def retv (s : S) : R := (s.t_6, s.t_7)
noncomputable def r0 (s : S) : Option S := some { s with t_6 := (0 : Int), t_7 := false }
noncomputable def r1 (s : S) : Option S := some { s with n_8 := (s.x_0.length : Int) }
noncomputable def r2 (s : S) : Option S := some { s with i_9 := (0 : Int), j_10 := s.n_8 }
noncomputable def r3 (s : S) : Option S := some { s with t_17 := (decide (s.i_9 < s.j_10)) }
noncomputable def r4 (s : S) : Option S := some { s with h_11 := w64 (shrV .u64 (IntKind.u64.wrap (w64 (s.i_9 + s.j_10))) (1 : Int)) }
noncomputable def r5 (s : S) : Option S := (idx s.x_0 s.h_11).bind fun x6 => (s.cmp_2 (x6, s.target_1)).bind fun x18 => some { s with t_31 := (decide (x18 < (0 : Int))) }
noncomputable def r6 (s : S) : Option S := some { s with i_9 := w64 (s.h_11 + (1 : Int)) }
noncomputable def r7 (s : S) : Option S := some { s with j_10 := s.h_11 }
noncomputable def r8 (s : S) : Option S := ((if (decide (s.i_9 < s.n_8)) = true then (idx s.x_0 s.i_9).bind fun x23 => (s.cmp_2 (x23, s.target_1)).bind fun x35 => some (decide (x35 = (0 : Int))) else some false)).bind fun x38 => some { s with t_6 := s.i_9, t_7 := x38 }
noncomputable def body : S → Option (Ctl S R) := (seqM (regM r0)
  (seqM (regM r1)
  (seqM (regM r2)
  (seqM (blockM 0 (iterM (seqM (seqM (regM r3)
  (condM (fun s => s.t_17) skipM
  (extM 0)))
  (blockM 1 (seqM (regM r4)
  (seqM (regM r5)
  (condM (fun s => s.t_31) (regM r6)
  (regM r7))))))))
  (seqM (regM r8)
  (retM retv))))))
noncomputable def f (a0 : (List StoredObject)) (a1 : Int) (a2 : (StoredObject × Int → Option Int)) : Option R := retOf (body { x_0 := a0, target_1 := a1, cmp_2 := a2, t_6 := (0 : Int), t_7 := false, n_8 := (0 : Int), i_9 := (0 : Int), j_10 := (0 : Int), h_11 := (0 : Int), t_17 := false, t_31 := false })
end slices_BinarySearchFunc_api_StoredObject_api_StoredObject_int

namespace objects_find_1
structure S where
  o_0 : StoredObject
  d_1 : Int
  o_2 : StoredObject
  t_4 : Int
abbrev R := Int
def retv (s : S) : R := (s.t_4)
noncomputable def r0 (s : S) : Option S := some { s with o_2 := s.o_0, t_4 := (0 : Int) }
noncomputable def r1 (s : S) : Option S := some { s with t_4 := w64 (s.o_2.Digest - s.d_1) }
noncomputable def body : S → Option (Ctl S R) := (seqM (regM r0)
  (seqM (regM r1)
  (retM retv)))
noncomputable def f (a0 : StoredObject) (a1 : Int) : Option R := retOf (body { o_0 := a0, d_1 := a1, o_2 := (⟨(0 : Int), (⟨(0 : Int), [], []⟩ : Object)⟩ : StoredObject), t_4 := (0 : Int) })
end objects_find_1

namespace objects_find
structure S where
  s_0 : ObjectStore
  d_1 : Int
  s_2 : ObjectStore
  t_4 : Int
  t_5 : Bool
abbrev R := (Int × Bool)
def retv (s : S) : R := (s.t_4, s.t_5)
noncomputable def r0 (s : S) : Option S := some { s with s_2 := s.s_0, t_4 := (0 : Int), t_5 := false }
noncomputable def r1 (s : S) : Option S := (slices_BinarySearchFunc_api_StoredObject_api_StoredObject_int.f s.s_2.Objects s.d_1 (fun x => objects_find_1.f x.1 x.2)).bind fun x10 => some { s with t_4 := x10.1, t_5 := x10.2 }
noncomputable def body : S → Option (Ctl S R) := (seqM (regM r0)
  (seqM (regM r1)
  (retM retv)))
noncomputable def f (a0 : ObjectStore) (a1 : Int) : Option R := retOf (body { s_0 := a0, d_1 := a1, s_2 := (⟨[]⟩ : ObjectStore), t_4 := (0 : Int), t_5 := false })
end objects_find

namespace slices_Equal_int_int
structure S where
  s1_0 : (List Int)
  s2_1 : (List Int)
  t_4 : Bool
  i_5 : Int
  t_10 : Bool
  t_12 : Int
  t_13 : Int
  t_14 : Bool
  t_24 : Bool
abbrev R := Bool
def retv (s : S) : R := (s.t_4)
noncomputable def r0 (s : S) : Option S := some { s with t_4 := false }
noncomputable def r1 (s : S) : Option S := some { s with t_10 := (!decide ((s.s1_0.length : Int) = (s.s2_1.length : Int))) }
noncomputable def r2 (s : S) : Option S := some { s with t_4 := false }
noncomputable def r3 (s : S) : Option S := some { s with t_12 := (s.s1_0.length : Int), t_13 := (0 : Int) }
noncomputable def r4 (s : S) : Option S := some { s with t_14 := (decide (s.t_13 < s.t_12)) }
noncomputable def r5 (s : S) : Option S := some { s with i_5 := s.t_13 }
noncomputable def r6 (s : S) : Option S := (idx s.s1_0 s.i_5).bind fun x16 => (idx s.s2_1 s.i_5).bind fun x26 => some { s with t_24 := (!decide (x16 = x26)) }
noncomputable def r7 (s : S) : Option S := some { s with t_4 := false }
noncomputable def r8 (s : S) : Option S := some { s with t_13 := w64 (s.t_13 + (1 : Int)) }
noncomputable def r9 (s : S) : Option S := some { s with t_4 := true }
noncomputable def body : S → Option (Ctl S R) := (seqM (regM r0)
  (seqM (seqM (regM r1)
  (condM (fun s => s.t_10) (seqM (regM r2)
  (retM retv))
  skipM))
  (seqM (seqM (regM r3)
  (blockM 0 (iterM (seqM (regM r4)
  (seqM (condM (fun s => s.t_14) skipM
  (extM 0))
  (seqM (blockM 1 (seqM (regM r5)
  (seqM (regM r6)
  (condM (fun s => s.t_24) (seqM (regM r7)
  (retM retv))
  skipM))))
  (regM r8)))))))
  (seqM (regM r9)
  (retM retv)))))
noncomputable def f (a0 : (List Int)) (a1 : (List Int)) : Option R := retOf (body { s1_0 := a0, s2_1 := a1, t_4 := false, i_5 := (0 : Int), t_10 := false, t_12 := (0 : Int), t_13 := (0 : Int), t_14 := false, t_24 := false })
end slices_Equal_int_int

namespace bytes_Equal
structure S where
  a_0 : (List UInt8)
  b_1 : (List UInt8)
  t_4 : Bool
abbrev R := Bool
def retv (s : S) : R := (s.t_4)
noncomputable def r0 (s : S) : Option S := some { s with t_4 := false }
noncomputable def r1 (s : S) : Option S := some { s with t_4 := (decide ((strOf s.a_0) = (strOf s.b_1))) }
noncomputable def body : S → Option (Ctl S R) := (seqM (regM r0)
  (seqM (regM r1)
  (retM retv)))
noncomputable def f (a0 : (List UInt8)) (a1 : (List UInt8)) : Option R := retOf (body { a_0 := a0, b_1 := a1, t_4 := false })
end bytes_Equal

namespace objects_Same
structure S where
  a_0 : Object
  b_1 : Object
  a_2 : Object
  b_3 : Object
  t_4 : Bool
abbrev R := Bool
def retv (s : S) : R := (s.t_4)
noncomputable def r0 (s : S) : Option S := some { s with a_2 := s.a_0, b_3 := s.b_1, t_4 := false }
noncomputable def r1 (s : S) : Option S := ((if (decide (s.a_2.Kind = s.b_3.Kind)) = true then (slices_Equal_int_int.f s.a_2.Links s.b_3.Links).bind fun x21 => some x21 else some false)).bind fun x26 => ((if x26 = true then (bytes_Equal.f s.a_2.Data s.b_3.Data).bind fun x39 => some x39 else some false)).bind fun x44 => some { s with t_4 := x44 }
noncomputable def body : S → Option (Ctl S R) := (seqM (regM r0)
  (seqM (regM r1)
  (retM retv)))
noncomputable def f (a0 : Object) (a1 : Object) : Option R := retOf (body { a_0 := a0, b_1 := a1, a_2 := (⟨(0 : Int), [], []⟩ : Object), b_3 := (⟨(0 : Int), [], []⟩ : Object), t_4 := false })
end objects_Same

namespace objects_Put
structure S where
  t_0 : ObjectStore
  t_1 : Object
  t_2 : ObjectStore
  t_3 : Object
  t_4 : ObjectStore
  t_5 : Int
  t_6 : Fault
  t_7 : Fault
  t_8 : Int
  t_9 : Fault
  t_10 : ObjectStore
  t_11 : Int
  t_12 : Bool
  t_17 : Bool
  t_27 : Bool
  t_40 : Bool
  t_55 : Bool
  t_60 : Bool
abbrev R := (ObjectStore × Int × Fault)
def retv (s : S) : R := (s.t_4, s.t_5, s.t_6)
noncomputable def r0 (s : S) : Option S := some { s with t_2 := s.t_0, t_3 := s.t_1, t_4 := (⟨[]⟩ : ObjectStore), t_5 := (0 : Int), t_6 := (⟨(0 : Int), (0 : Int)⟩ : Fault) }
noncomputable def r1 (s : S) : Option S := (objects_Validate.f s.t_2).bind fun x32 => some { s with t_7 := x32 }
noncomputable def r2 (s : S) : Option S := some { s with t_17 := (!decide (s.t_7 = (⟨(0 : Int), (0 : Int)⟩ : Fault))) }
noncomputable def r3 (s : S) : Option S := some { s with t_4 := (⟨[]⟩ : ObjectStore), t_5 := (0 : Int), t_6 := s.t_7 }
noncomputable def r4 (s : S) : Option S := (objects_Digest.f s.t_3).bind fun x61 => some { s with t_8 := x61.1, t_9 := x61.2 }
noncomputable def r5 (s : S) : Option S := some { s with t_27 := (!decide (s.t_9 = (⟨(0 : Int), (0 : Int)⟩ : Fault))) }
noncomputable def r6 (s : S) : Option S := some { s with t_4 := (⟨[]⟩ : ObjectStore), t_5 := (0 : Int), t_6 := (⟨s.t_9.Code, (-1 : Int)⟩ : Fault) }
noncomputable def r7 (s : S) : Option S := (objects_copied.f s.t_2).bind fun x89 => some { s with t_10 := (⟨x89.Objects⟩ : ObjectStore) }
noncomputable def r8 (s : S) : Option S := (objects_find.f s.t_2 s.t_8).bind fun x107 => some { s with t_11 := x107.1, t_12 := x107.2 }
noncomputable def r9 (s : S) : Option S := ((if s.t_12 = true then (idx s.t_2.Objects s.t_11).bind fun x117 => (objects_Same.f x117.Object s.t_3).bind fun x131 => some (!x131) else some false)).bind fun x136 => some { s with t_40 := x136 }
noncomputable def r10 (s : S) : Option S := some { s with t_4 := (⟨[]⟩ : ObjectStore), t_5 := (0 : Int), t_6 := (⟨(19 : Int), (-1 : Int)⟩ : Fault) }
noncomputable def r11 (s : S) : Option S := some { s with t_55 := s.t_12 }
noncomputable def r12 (s : S) : Option S := some { s with t_4 := (⟨s.t_10.Objects⟩ : ObjectStore), t_5 := s.t_8, t_6 := (⟨(0 : Int), (0 : Int)⟩ : Fault), t_10 := s.t_10 }
noncomputable def r13 (s : S) : Option S := some { s with t_60 := (decide ((s.t_2.Objects.length : Int) = (40 : Int))) }
noncomputable def r14 (s : S) : Option S := some { s with t_4 := (⟨[]⟩ : ObjectStore), t_5 := (0 : Int), t_6 := (⟨(14 : Int), (-1 : Int)⟩ : Fault) }
noncomputable def r15 (s : S) : Option S := (objects_Clone.f s.t_3).bind fun x211 => (Insert.f s.t_10.Objects s.t_11 [(⟨s.t_8, x211⟩ : StoredObject)]).bind fun x227 => some { s with t_10 := { s.t_10 with Objects := x227 } }
noncomputable def r16 (s : S) : Option S := some { s with t_4 := (⟨s.t_10.Objects⟩ : ObjectStore), t_5 := s.t_8, t_6 := (⟨(0 : Int), (0 : Int)⟩ : Fault), t_10 := s.t_10 }
noncomputable def body : S → Option (Ctl S R) := (seqM (regM r0)
  (seqM (seqM (regM r1)
  (seqM (regM r2)
  (condM (fun s => s.t_17) (seqM (regM r3)
  (retM retv))
  skipM)))
  (seqM (regM r4)
  (seqM (seqM (regM r5)
  (condM (fun s => s.t_27) (seqM (regM r6)
  (retM retv))
  skipM))
  (seqM (regM r7)
  (seqM (regM r8)
  (seqM (blockM 0 (seqM (regM r9)
  (condM (fun s => s.t_40) (seqM (regM r10)
  (retM retv))
  (seqM (regM r11)
  (condM (fun s => s.t_55) (seqM (regM r12)
  (retM retv))
  (seqM (regM r13)
  (condM (fun s => s.t_60) (seqM (regM r14)
  (retM retv))
  skipM)))))))
  (seqM (regM r15)
  (seqM (regM r16)
  (retM retv))))))))))
noncomputable def f (a0 : ObjectStore) (a1 : Object) : Option R := retOf (body { t_0 := a0, t_1 := a1, t_2 := (⟨[]⟩ : ObjectStore), t_3 := (⟨(0 : Int), [], []⟩ : Object), t_4 := (⟨[]⟩ : ObjectStore), t_5 := (0 : Int), t_6 := (⟨(0 : Int), (0 : Int)⟩ : Fault), t_7 := (⟨(0 : Int), (0 : Int)⟩ : Fault), t_8 := (0 : Int), t_9 := (⟨(0 : Int), (0 : Int)⟩ : Fault), t_10 := (⟨[]⟩ : ObjectStore), t_11 := (0 : Int), t_12 := false, t_17 := false, t_27 := false, t_40 := false, t_55 := false, t_60 := false })
end objects_Put

namespace gc_Mark
structure S where
  s_0 : ObjectStore
  roots_1 : (List Int)
  s_2 : ObjectStore
  t_4 : (List Int)
  t_5 : Fault
  f_6 : Fault
  out_7 : (List Int)
  i_8 : Int
  is_9 : Bool
  t_14 : Bool
  t_18 : Bool
  t_22 : (List Bool)
  t_23 : Int
  t_24 : Int
  t_25 : Bool
  t_29 : Bool
abbrev R := ((List Int) × Fault)
def retv (s : S) : R := (s.t_4, s.t_5)
noncomputable def r0 (s : S) : Option S := some { s with s_2 := s.s_0, t_4 := [], t_5 := (⟨(0 : Int), (0 : Int)⟩ : Fault) }
noncomputable def r1 (s : S) : Option S := (objects_Validate.f s.s_2).bind fun x17 => some { s with f_6 := x17 }
noncomputable def r2 (s : S) : Option S := some { s with t_14 := (!decide (s.f_6 = (⟨(0 : Int), (0 : Int)⟩ : Fault))) }
noncomputable def r3 (s : S) : Option S := some { s with t_4 := [], t_5 := s.f_6 }
noncomputable def r4 (s : S) : Option S := some { s with t_18 := (decide ((50 : Int) < (s.roots_1.length : Int))) }
noncomputable def r5 (s : S) : Option S := some { s with t_4 := [], t_5 := (⟨(2 : Int), (-1 : Int)⟩ : Fault) }
noncomputable def r6 (s : S) : Option S := some { s with out_7 := [] }
noncomputable def r7 (s : S) : Option S := (gc_mark.f s.s_2 s.roots_1).bind fun x52 => some { s with t_22 := x52, t_23 := (x52.length : Int), t_24 := (0 : Int) }
noncomputable def r8 (s : S) : Option S := some { s with t_25 := (decide (s.t_24 < s.t_23)) }
noncomputable def r9 (s : S) : Option S := (idx s.t_22 s.t_24).bind fun x67 => some { s with i_8 := s.t_24, is_9 := x67 }
noncomputable def r10 (s : S) : Option S := some { s with t_29 := s.is_9 }
noncomputable def r11 (s : S) : Option S := (idx s.s_2.Objects s.i_8).bind fun x80 => (appL 8 s.out_7 [x80.Digest]).bind fun x95 => some { s with out_7 := x95 }
noncomputable def r12 (s : S) : Option S := some { s with t_24 := w64 (s.t_24 + (1 : Int)) }
noncomputable def r13 (s : S) : Option S := some { s with t_4 := s.out_7, t_5 := (⟨(0 : Int), (0 : Int)⟩ : Fault) }
noncomputable def body : S → Option (Ctl S R) := (seqM (regM r0)
  (seqM (seqM (regM r1)
  (seqM (regM r2)
  (condM (fun s => s.t_14) (seqM (regM r3)
  (retM retv))
  skipM)))
  (seqM (seqM (regM r4)
  (condM (fun s => s.t_18) (seqM (regM r5)
  (retM retv))
  skipM))
  (seqM (regM r6)
  (seqM (seqM (regM r7)
  (blockM 0 (iterM (seqM (regM r8)
  (seqM (condM (fun s => s.t_25) skipM
  (extM 0))
  (seqM (blockM 1 (seqM (regM r9)
  (seqM (regM r10)
  (condM (fun s => s.t_29) (regM r11)
  skipM))))
  (regM r12)))))))
  (seqM (regM r13)
  (retM retv)))))))
noncomputable def f (a0 : ObjectStore) (a1 : (List Int)) : Option R := retOf (body { s_0 := a0, roots_1 := a1, s_2 := (⟨[]⟩ : ObjectStore), t_4 := [], t_5 := (⟨(0 : Int), (0 : Int)⟩ : Fault), f_6 := (⟨(0 : Int), (0 : Int)⟩ : Fault), out_7 := [], i_8 := (0 : Int), is_9 := false, t_14 := false, t_18 := false, t_22 := [], t_23 := (0 : Int), t_24 := (0 : Int), t_25 := false, t_29 := false })
end gc_Mark

namespace law4_small
structure S where
  t_0 : ObjectStore
  t_1 : Int
  t_2 : Int
  t_3 : Bool
  s_4 : ObjectStore
  a_5 : Int
  f_6 : Fault
  b_7 : Int
  g_8 : Fault
abbrev R := (ObjectStore × Int × Int × Bool)
def retv (s : S) : R := (s.t_0, s.t_1, s.t_2, s.t_3)
noncomputable def r0 (s : S) : Option S := some { s with t_0 := (⟨[]⟩ : ObjectStore), t_1 := (0 : Int), t_2 := (0 : Int), t_3 := false }
noncomputable def r1 (s : S) : Option S := (objects_Put.f (⟨[]⟩ : ObjectStore) (⟨(1 : Int), [], [(7 : UInt8)]⟩ : Object)).bind fun x26 => some { s with s_4 := x26.1, a_5 := x26.2.1, f_6 := x26.2.2 }
noncomputable def r2 (s : S) : Option S := (objects_Put.f s.s_4 (⟨(2 : Int), [s.a_5], []⟩ : Object)).bind fun x62 => some { s with s_4 := x62.1, b_7 := x62.2.1, g_8 := x62.2.2 }
noncomputable def r3 (s : S) : Option S := if (decide (s.f_6.Code = (0 : Int))) = true then if (decide (s.g_8.Code = (0 : Int))) = true then if (!decide (s.a_5 = s.b_7)) = true then some { s with t_0 := s.s_4, t_1 := s.a_5, t_2 := s.b_7, t_3 := (decide ((s.s_4.Objects.length : Int) = (2 : Int))) } else some { s with t_0 := s.s_4, t_1 := s.a_5, t_2 := s.b_7, t_3 := false } else some { s with t_0 := s.s_4, t_1 := s.a_5, t_2 := s.b_7, t_3 := false } else some { s with t_0 := s.s_4, t_1 := s.a_5, t_2 := s.b_7, t_3 := false }
noncomputable def body : S → Option (Ctl S R) := (seqM (regM r0)
  (seqM (regM r1)
  (seqM (regM r2)
  (seqM (regM r3)
  (retM retv)))))
noncomputable def f  : Option R := retOf (body { t_0 := (⟨[]⟩ : ObjectStore), t_1 := (0 : Int), t_2 := (0 : Int), t_3 := false, s_4 := (⟨[]⟩ : ObjectStore), a_5 := (0 : Int), f_6 := (⟨(0 : Int), (0 : Int)⟩ : Fault), b_7 := (0 : Int), g_8 := (⟨(0 : Int), (0 : Int)⟩ : Fault) })
end law4_small

namespace law4_gcExample
structure S where
  t_0 : Bool
  t_1 : ObjectStore
  t_2 : Int
  t_3 : Int
  t_4 : Bool
  t_5 : (List Int)
  t_6 : Fault
  t_7 : (List Int)
  t_8 : Fault
  t_9 : ObjectStore
  t_10 : (List Int)
  t_11 : Fault
abbrev R := Bool
def retv (s : S) : R := (s.t_0)
noncomputable def r0 (s : S) : Option S := some { s with t_0 := false }
noncomputable def r1 (s : S) : Option S := (law4_small.f ).bind fun x1 => some { s with t_1 := x1.1, t_2 := x1.2.1, t_3 := x1.2.2.1, t_4 := x1.2.2.2 }
noncomputable def r2 (s : S) : Option S := (gc_Mark.f s.t_1 [s.t_3]).bind fun x30 => some { s with t_5 := x30.1, t_6 := x30.2 }
noncomputable def r3 (s : S) : Option S := (gc_Mark.f s.t_1 [s.t_2]).bind fun x56 => some { s with t_7 := x56.1, t_8 := x56.2 }
noncomputable def r4 (s : S) : Option S := (gc_Collect.f s.t_1 (⟨[]⟩ : RefStore) [] (0 : Int)).bind fun x78 => some { s with t_9 := x78.1, t_10 := x78.2.1, t_11 := x78.2.2 }
noncomputable def r5 (s : S) : Option S := ((if ((((s.t_4 && (decide (s.t_6.Code = (0 : Int)))) && (decide (s.t_8.Code = (0 : Int)))) && (decide (s.t_11.Code = (0 : Int)))) && (decide ((s.t_5.length : Int) = (2 : Int)))) = true then (ref3_Ints.f s.t_7 [s.t_2]).bind fun x130 => some x130 else some false)).bind fun x135 => some { s with t_0 := ((x135 && (decide ((s.t_9.Objects.length : Int) = (0 : Int)))) && (decide ((s.t_10.length : Int) = (2 : Int)))) }
noncomputable def body : S → Option (Ctl S R) := (seqM (regM r0)
  (seqM (regM r1)
  (seqM (regM r2)
  (seqM (regM r3)
  (seqM (regM r4)
  (seqM (regM r5)
  (retM retv)))))))
noncomputable def f  : Option R := retOf (body { t_0 := false, t_1 := (⟨[]⟩ : ObjectStore), t_2 := (0 : Int), t_3 := (0 : Int), t_4 := false, t_5 := [], t_6 := (⟨(0 : Int), (0 : Int)⟩ : Fault), t_7 := [], t_8 := (⟨(0 : Int), (0 : Int)⟩ : Fault), t_9 := (⟨[]⟩ : ObjectStore), t_10 := [], t_11 := (⟨(0 : Int), (0 : Int)⟩ : Fault) })
end law4_gcExample

namespace ref3_Has
structure S where
  l_0 : (List Int)
  n_1 : Int
  t_4 : Bool
  i_5 : Int
  t_9 : Bool
  t_17 : Bool
abbrev R := Bool
def retv (s : S) : R := (s.t_4)
noncomputable def r0 (s : S) : Option S := some { s with t_4 := false }
noncomputable def r1 (s : S) : Option S := some { s with i_5 := (0 : Int) }
noncomputable def r2 (s : S) : Option S := some { s with t_9 := (decide (s.i_5 < (s.l_0.length : Int))) }
noncomputable def r4 (s : S) : Option S := (idx s.l_0 s.i_5).bind fun x6 => some { s with t_17 := (decide (x6 = s.n_1)) }
noncomputable def r5 (s : S) : Option S := some { s with t_4 := true }
noncomputable def r3 (s : S) : Option S := some { s with i_5 := w64 (s.i_5 + (1 : Int)) }
noncomputable def r6 (s : S) : Option S := some { s with t_4 := false }
noncomputable def body : S → Option (Ctl S R) := (seqM (regM r0)
  (seqM (seqM (regM r1)
  (blockM 0 (iterM (seqM (seqM (regM r2)
  (condM (fun s => s.t_9) skipM
  (extM 0)))
  (seqM (blockM 1 (seqM (regM r4)
  (condM (fun s => s.t_17) (seqM (regM r5)
  (retM retv))
  skipM)))
  (regM r3))))))
  (seqM (regM r6)
  (retM retv))))
noncomputable def f (a0 : (List Int)) (a1 : Int) : Option R := retOf (body { l_0 := a0, n_1 := a1, t_4 := false, i_5 := (0 : Int), t_9 := false, t_17 := false })
end ref3_Has

namespace ref3_Objects
structure S where
  a_0 : Object
  b_1 : Object
  a_2 : Object
  b_3 : Object
  t_4 : Bool
abbrev R := Bool
def retv (s : S) : R := (s.t_4)
noncomputable def r0 (s : S) : Option S := some { s with a_2 := s.a_0, b_3 := s.b_1, t_4 := false }
noncomputable def r1 (s : S) : Option S := ((if (decide (s.a_2.Kind = s.b_3.Kind)) = true then (ref3_Ints.f s.a_2.Links s.b_3.Links).bind fun x21 => some x21 else some false)).bind fun x26 => some { s with t_4 := (x26 && (decide ((strOf s.a_2.Data) = (strOf s.b_3.Data)))) }
noncomputable def body : S → Option (Ctl S R) := (seqM (regM r0)
  (seqM (regM r1)
  (retM retv)))
noncomputable def f (a0 : Object) (a1 : Object) : Option R := retOf (body { a_0 := a0, b_1 := a1, a_2 := (⟨(0 : Int), [], []⟩ : Object), b_3 := (⟨(0 : Int), [], []⟩ : Object), t_4 := false })
end ref3_Objects

namespace ref3_Stores
structure S where
  a_0 : ObjectStore
  b_1 : ObjectStore
  a_2 : ObjectStore
  b_3 : ObjectStore
  t_4 : Bool
  i_5 : Int
  t_12 : Bool
  t_17 : Bool
  t_48 : Bool
abbrev R := Bool
def retv (s : S) : R := (s.t_4)
noncomputable def r0 (s : S) : Option S := some { s with a_2 := s.a_0, b_3 := s.b_1, t_4 := false }
noncomputable def r1 (s : S) : Option S := some { s with t_12 := (!decide ((s.a_2.Objects.length : Int) = (s.b_3.Objects.length : Int))) }
noncomputable def r2 (s : S) : Option S := some { s with t_4 := false }
noncomputable def r3 (s : S) : Option S := some { s with i_5 := (0 : Int) }
noncomputable def r4 (s : S) : Option S := some { s with t_17 := (decide (s.i_5 < (s.a_2.Objects.length : Int))) }
noncomputable def r6 (s : S) : Option S := (idx s.a_2.Objects s.i_5).bind fun x41 => (idx s.b_3.Objects s.i_5).bind fun x54 => ((if (!decide (x41.Digest = x54.Digest)) = true then some true else (idx s.a_2.Objects s.i_5).bind fun x69 => (idx s.b_3.Objects s.i_5).bind fun x84 => (ref3_Objects.f x69.Object x84.Object).bind fun x96 => some (!x96))).bind fun x101 => some { s with t_48 := x101 }
noncomputable def r7 (s : S) : Option S := some { s with t_4 := false }
noncomputable def r5 (s : S) : Option S := some { s with i_5 := w64 (s.i_5 + (1 : Int)) }
noncomputable def r8 (s : S) : Option S := some { s with t_4 := true }
noncomputable def body : S → Option (Ctl S R) := (seqM (regM r0)
  (seqM (seqM (regM r1)
  (condM (fun s => s.t_12) (seqM (regM r2)
  (retM retv))
  skipM))
  (seqM (seqM (regM r3)
  (blockM 0 (iterM (seqM (seqM (regM r4)
  (condM (fun s => s.t_17) skipM
  (extM 0)))
  (seqM (blockM 1 (seqM (regM r6)
  (condM (fun s => s.t_48) (seqM (regM r7)
  (retM retv))
  skipM)))
  (regM r5))))))
  (seqM (regM r8)
  (retM retv)))))
noncomputable def f (a0 : ObjectStore) (a1 : ObjectStore) : Option R := retOf (body { a_0 := a0, b_1 := a1, a_2 := (⟨[]⟩ : ObjectStore), b_3 := (⟨[]⟩ : ObjectStore), t_4 := false, i_5 := (0 : Int), t_12 := false, t_17 := false, t_48 := false })
end ref3_Stores

namespace ref3_Fault
structure S where
  code_0 : Int
  index_1 : Int
  t_4 : Fault
abbrev R := Fault
def retv (s : S) : R := (s.t_4)
noncomputable def r0 (s : S) : Option S := some { s with t_4 := (⟨(0 : Int), (0 : Int)⟩ : Fault) }
noncomputable def r1 (s : S) : Option S := some { s with t_4 := (⟨s.code_0, s.index_1⟩ : Fault) }
noncomputable def body : S → Option (Ctl S R) := (seqM (regM r0)
  (seqM (regM r1)
  (retM retv)))
noncomputable def f (a0 : Int) (a1 : Int) : Option R := retOf (body { code_0 := a0, index_1 := a1, t_4 := (⟨(0 : Int), (0 : Int)⟩ : Fault) })
end ref3_Fault

namespace ref3_In
structure S where
  n_0 : Int
  low_1 : Int
  high_2 : Int
  t_6 : Bool
abbrev R := Bool
def retv (s : S) : R := (s.t_6)
noncomputable def r0 (s : S) : Option S := some { s with t_6 := false }
noncomputable def r1 (s : S) : Option S := some { s with t_6 := ((decide (s.low_1 ≤ s.n_0)) && (decide (s.n_0 ≤ s.high_2))) }
noncomputable def body : S → Option (Ctl S R) := (seqM (regM r0)
  (seqM (regM r1)
  (retM retv)))
noncomputable def f (a0 : Int) (a1 : Int) (a2 : Int) : Option R := retOf (body { n_0 := a0, low_1 := a1, high_2 := a2, t_6 := false })
end ref3_In

namespace ref3_ObjectFault
structure S where
  o_0 : Object
  o_1 : Object
  t_2 : Fault
  i_3 : Int
  t_7 : Bool
  t_12 : Bool
  t_17 : Bool
  t_27 : Bool
  t_33 : Bool
  t_42 : Bool
abbrev R := Fault
def retv (s : S) : R := (s.t_2)
noncomputable def r0 (s : S) : Option S := some { s with o_1 := s.o_0, t_2 := (⟨(0 : Int), (0 : Int)⟩ : Fault) }
noncomputable def r1 (s : S) : Option S := (ref3_In.f s.o_1.Kind (1 : Int) (3 : Int)).bind fun x12 => some { s with t_7 := (!x12) }
noncomputable def r2 (s : S) : Option S := (ref3_Fault.f (4 : Int) (0 : Int)).bind fun x17 => some { s with t_2 := x17 }
noncomputable def r3 (s : S) : Option S := some { s with t_12 := (decide ((30 : Int) < (s.o_1.Links.length : Int))) }
noncomputable def r4 (s : S) : Option S := (ref3_Fault.f (2 : Int) (0 : Int)).bind fun x36 => some { s with t_2 := x36 }
noncomputable def r5 (s : S) : Option S := some { s with t_17 := (decide ((1000 : Int) < (s.o_1.Data.length : Int))) }
noncomputable def r6 (s : S) : Option S := (ref3_Fault.f (10 : Int) (0 : Int)).bind fun x54 => some { s with t_2 := x54 }
noncomputable def r7 (s : S) : Option S := some { s with t_27 := ((decide (s.o_1.Kind = (1 : Int))) && (!decide ((s.o_1.Links.length : Int) = (0 : Int)))) }
noncomputable def r8 (s : S) : Option S := (ref3_Fault.f (5 : Int) (0 : Int)).bind fun x75 => some { s with t_2 := x75 }
noncomputable def r9 (s : S) : Option S := some { s with i_3 := (0 : Int) }
noncomputable def r10 (s : S) : Option S := some { s with t_33 := (decide (s.i_3 < (s.o_1.Links.length : Int))) }
noncomputable def r12 (s : S) : Option S := (idx s.o_1.Links s.i_3).bind fun x96 => (ref3_In.f x96 (0 : Int) (2305843009213693950 : Int)).bind fun x106 => some { s with t_42 := (!x106) }
noncomputable def r13 (s : S) : Option S := (ref3_Fault.f (3 : Int) s.i_3).bind fun x111 => some { s with t_2 := x111 }
noncomputable def r11 (s : S) : Option S := some { s with i_3 := w64 (s.i_3 + (1 : Int)) }
noncomputable def r14 (s : S) : Option S := some { s with t_2 := (⟨(0 : Int), (0 : Int)⟩ : Fault) }
noncomputable def body : S → Option (Ctl S R) := (seqM (regM r0)
  (seqM (seqM (regM r1)
  (condM (fun s => s.t_7) (seqM (regM r2)
  (retM retv))
  skipM))
  (seqM (seqM (regM r3)
  (condM (fun s => s.t_12) (seqM (regM r4)
  (retM retv))
  skipM))
  (seqM (seqM (regM r5)
  (condM (fun s => s.t_17) (seqM (regM r6)
  (retM retv))
  skipM))
  (seqM (seqM (regM r7)
  (condM (fun s => s.t_27) (seqM (regM r8)
  (retM retv))
  skipM))
  (seqM (seqM (regM r9)
  (blockM 0 (iterM (seqM (seqM (regM r10)
  (condM (fun s => s.t_33) skipM
  (extM 0)))
  (seqM (blockM 1 (seqM (regM r12)
  (condM (fun s => s.t_42) (seqM (regM r13)
  (retM retv))
  skipM)))
  (regM r11))))))
  (seqM (regM r14)
  (retM retv))))))))
noncomputable def f (a0 : Object) : Option R := retOf (body { o_0 := a0, o_1 := (⟨(0 : Int), [], []⟩ : Object), t_2 := (⟨(0 : Int), (0 : Int)⟩ : Fault), i_3 := (0 : Int), t_7 := false, t_12 := false, t_17 := false, t_27 := false, t_33 := false, t_42 := false })
end ref3_ObjectFault

namespace ref3_Wide
structure S where
  n_0 : Int
  t_2 : (List UInt8)
  out_3 : (List UInt8)
  i_4 : Int
  t_7 : Bool
abbrev R := (List UInt8)
def retv (s : S) : R := (s.t_2)
noncomputable def r0 (s : S) : Option S := some { s with t_2 := [] }
noncomputable def r1 (s : S) : Option S := (mkL 1 (0 : UInt8) (8 : Int)).bind fun x1 => some { s with out_3 := x1 }
noncomputable def r2 (s : S) : Option S := some { s with i_4 := (7 : Int) }
noncomputable def r3 (s : S) : Option S := some { s with t_7 := (decide ((0 : Int) ≤ s.i_4)) }
noncomputable def r5 (s : S) : Option S := (idx s.out_3 s.i_4).bind fun x9 => some { s with out_3 := setL s.out_3 s.i_4 (toByte (Int.tmod s.n_0 (256 : Int))) }
noncomputable def r6 (s : S) : Option S := some { s with n_0 := w64 (Int.tdiv s.n_0 (256 : Int)) }
noncomputable def r4 (s : S) : Option S := some { s with i_4 := w64 (s.i_4 - (1 : Int)) }
noncomputable def r7 (s : S) : Option S := some { s with t_2 := s.out_3 }
noncomputable def body : S → Option (Ctl S R) := (seqM (regM r0)
  (seqM (regM r1)
  (seqM (seqM (regM r2)
  (blockM 0 (iterM (seqM (seqM (regM r3)
  (condM (fun s => s.t_7) skipM
  (extM 0)))
  (seqM (blockM 1 (seqM (regM r5)
  (regM r6)))
  (regM r4))))))
  (seqM (regM r7)
  (retM retv)))))
noncomputable def f (a0 : Int) : Option R := retOf (body { n_0 := a0, t_2 := [], out_3 := [], i_4 := (0 : Int), t_7 := false })
end ref3_Wide

namespace ref3_double
structure S where
  n_0 : Int
  t_2 : Int
  t_7 : Bool
abbrev R := Int
def retv (s : S) : R := (s.t_2)
noncomputable def r0 (s : S) : Option S := some { s with t_2 := (0 : Int) }
noncomputable def r1 (s : S) : Option S := some { s with n_0 := w64 (s.n_0 + s.n_0) }
noncomputable def r2 (s : S) : Option S := some { s with t_7 := (decide ((2305843009213693951 : Int) ≤ s.n_0)) }
noncomputable def r3 (s : S) : Option S := some { s with n_0 := w64 (s.n_0 - (2305843009213693951 : Int)) }
noncomputable def r4 (s : S) : Option S := some { s with t_2 := s.n_0 }
noncomputable def body : S → Option (Ctl S R) := (seqM (regM r0)
  (seqM (regM r1)
  (seqM (seqM (regM r2)
  (condM (fun s => s.t_7) (regM r3)
  skipM))
  (seqM (regM r4)
  (retM retv)))))
noncomputable def f (a0 : Int) : Option R := retOf (body { n_0 := a0, t_2 := (0 : Int), t_7 := false })
end ref3_double

namespace ref3_times
structure S where
  n_0 : Int
  k_1 : Int
  t_4 : Int
  out_5 : Int
  t_7 : Bool
  t_10 : Bool
abbrev R := Int
def retv (s : S) : R := (s.t_4)
noncomputable def r0 (s : S) : Option S := some { s with t_4 := (0 : Int) }
noncomputable def r1 (s : S) : Option S := some { s with out_5 := (0 : Int) }
noncomputable def r2 (s : S) : Option S := some { s with t_7 := (decide ((0 : Int) < s.k_1)) }
noncomputable def r3 (s : S) : Option S := some { s with t_10 := (decide ((Int.tmod s.k_1 (2 : Int)) = (1 : Int))) }
noncomputable def r4 (s : S) : Option S := some { s with out_5 := Int.tmod (w64 (s.out_5 + s.n_0)) (2305843009213693951 : Int) }
noncomputable def r5 (s : S) : Option S := (ref3_double.f s.n_0).bind fun x1 => some { s with n_0 := x1 }
noncomputable def r6 (s : S) : Option S := some { s with k_1 := w64 (Int.tdiv s.k_1 (2 : Int)) }
noncomputable def r7 (s : S) : Option S := some { s with t_4 := s.out_5 }
noncomputable def body : S → Option (Ctl S R) := (seqM (regM r0)
  (seqM (regM r1)
  (seqM (blockM 0 (iterM (seqM (seqM (regM r2)
  (condM (fun s => s.t_7) skipM
  (extM 0)))
  (blockM 1 (seqM (seqM (regM r3)
  (condM (fun s => s.t_10) (regM r4)
  skipM))
  (seqM (regM r5)
  (regM r6)))))))
  (seqM (regM r7)
  (retM retv)))))
noncomputable def f (a0 : Int) (a1 : Int) : Option R := retOf (body { n_0 := a0, k_1 := a1, t_4 := (0 : Int), out_5 := (0 : Int), t_7 := false, t_10 := false })
end ref3_times

namespace ref3_DigestOf
structure S where
  b_0 : (List UInt8)
  t_2 : Int
  h_3 : Int
  i_4 : Int
  t_8 : Bool
abbrev R := Int
def retv (s : S) : R := (s.t_2)
noncomputable def r0 (s : S) : Option S := some { s with t_2 := (0 : Int) }
noncomputable def r1 (s : S) : Option S := some { s with h_3 := (1 : Int) }
noncomputable def r2 (s : S) : Option S := some { s with i_4 := (0 : Int) }
noncomputable def r3 (s : S) : Option S := some { s with t_8 := (decide (s.i_4 < (s.b_0.length : Int))) }
noncomputable def r5 (s : S) : Option S := (idx s.b_0 s.i_4).bind fun x6 => (ref3_times.f s.h_3 (257 : Int)).bind fun x16 => some { s with h_3 := Int.tmod (w64 (w64 (x16 + w64 ((x6.toNat : Int))) + (1 : Int))) (2305843009213693951 : Int) }
noncomputable def r4 (s : S) : Option S := some { s with i_4 := w64 (s.i_4 + (1 : Int)) }
noncomputable def r6 (s : S) : Option S := some { s with t_2 := s.h_3 }
noncomputable def body : S → Option (Ctl S R) := (seqM (regM r0)
  (seqM (regM r1)
  (seqM (seqM (regM r2)
  (blockM 0 (iterM (seqM (seqM (regM r3)
  (condM (fun s => s.t_8) skipM
  (extM 0)))
  (seqM (blockM 1 (regM r5))
  (regM r4))))))
  (seqM (regM r6)
  (retM retv)))))
noncomputable def f (a0 : (List UInt8)) : Option R := retOf (body { b_0 := a0, t_2 := (0 : Int), h_3 := (0 : Int), i_4 := (0 : Int), t_8 := false })
end ref3_DigestOf

namespace ref3_ObjectDigest
structure S where
  o_0 : Object
  o_1 : Object
  t_2 : Int
  b_3 : (List UInt8)
  i_4 : Int
  t_17 : Bool
abbrev R := Int
def retv (s : S) : R := (s.t_2)
noncomputable def r0 (s : S) : Option S := some { s with o_1 := s.o_0, t_2 := (0 : Int) }
noncomputable def r1 (s : S) : Option S := some { s with b_3 := [toByte s.o_1.Kind, toByte (s.o_1.Links.length : Int)] }
noncomputable def r2 (s : S) : Option S := some { s with i_4 := (0 : Int) }
noncomputable def r3 (s : S) : Option S := some { s with t_17 := (decide (s.i_4 < (s.o_1.Links.length : Int))) }
noncomputable def r5 (s : S) : Option S := (idx s.o_1.Links s.i_4).bind fun x33 => (ref3_Wide.f x33).bind fun x43 => (appL 1 s.b_3 x43).bind fun x53 => some { s with b_3 := x53 }
noncomputable def r4 (s : S) : Option S := some { s with i_4 := w64 (s.i_4 + (1 : Int)) }
noncomputable def r6 (s : S) : Option S := (appL 1 s.b_3 s.o_1.Data).bind fun x62 => (ref3_DigestOf.f x62).bind fun x69 => some { s with t_2 := x69 }
noncomputable def body : S → Option (Ctl S R) := (seqM (regM r0)
  (seqM (regM r1)
  (seqM (seqM (regM r2)
  (blockM 0 (iterM (seqM (seqM (regM r3)
  (condM (fun s => s.t_17) skipM
  (extM 0)))
  (seqM (blockM 1 (regM r5))
  (regM r4))))))
  (seqM (regM r6)
  (retM retv)))))
noncomputable def f (a0 : Object) : Option R := retOf (body { o_0 := a0, o_1 := (⟨(0 : Int), [], []⟩ : Object), t_2 := (0 : Int), b_3 := [], i_4 := (0 : Int), t_17 := false })
end ref3_ObjectDigest

namespace ref3_StoreFault
structure S where
  t_0 : ObjectStore
  t_1 : ObjectStore
  t_2 : Fault
  t_3 : Int
  t_4 : Fault
  t_8 : Bool
  t_14 : Bool
  t_26 : Bool
  t_44 : Bool
  t_64 : Bool
abbrev R := Fault
def retv (s : S) : R := (s.t_2)
noncomputable def r0 (s : S) : Option S := some { s with t_1 := s.t_0, t_2 := (⟨(0 : Int), (0 : Int)⟩ : Fault) }
noncomputable def r1 (s : S) : Option S := some { s with t_8 := (decide ((40 : Int) < (s.t_1.Objects.length : Int))) }
noncomputable def r2 (s : S) : Option S := (ref3_Fault.f (2 : Int) (0 : Int)).bind fun x21 => some { s with t_2 := x21 }
noncomputable def r3 (s : S) : Option S := some { s with t_3 := (0 : Int) }
noncomputable def r4 (s : S) : Option S := some { s with t_14 := (decide (s.t_3 < (s.t_1.Objects.length : Int))) }
noncomputable def r6 (s : S) : Option S := (idx s.t_1.Objects s.t_3).bind fun x42 => (ref3_ObjectFault.f x42.Object).bind fun x54 => some { s with t_4 := x54 }
noncomputable def r7 (s : S) : Option S := some { s with t_26 := (!decide (s.t_4.Code = (0 : Int))) }
noncomputable def r8 (s : S) : Option S := (ref3_Fault.f s.t_4.Code s.t_3).bind fun x68 => some { s with t_2 := x68 }
noncomputable def r9 (s : S) : Option S := (idx s.t_1.Objects s.t_3).bind fun x81 => (idx s.t_1.Objects s.t_3).bind fun x96 => (ref3_ObjectDigest.f x81.Object).bind fun x106 => some { s with t_44 := (!decide (x106 = x96.Digest)) }
noncomputable def r10 (s : S) : Option S := (ref3_Fault.f (18 : Int) s.t_3).bind fun x111 => some { s with t_2 := x111 }
noncomputable def r11 (s : S) : Option S := ((if (decide ((0 : Int) < s.t_3)) = true then (idx s.t_1.Objects s.t_3).bind fun x126 => (idx s.t_1.Objects (w64 (s.t_3 - (1 : Int)))).bind fun x139 => some (decide (x126.Digest ≤ x139.Digest)) else some false)).bind fun x149 => some { s with t_64 := x149 }
noncomputable def r12 (s : S) : Option S := (ref3_Fault.f (5 : Int) s.t_3).bind fun x151 => some { s with t_2 := x151 }
noncomputable def r5 (s : S) : Option S := some { s with t_3 := w64 (s.t_3 + (1 : Int)) }
noncomputable def r13 (s : S) : Option S := some { s with t_2 := (⟨(0 : Int), (0 : Int)⟩ : Fault) }
noncomputable def body : S → Option (Ctl S R) := (seqM (regM r0)
  (seqM (seqM (regM r1)
  (condM (fun s => s.t_8) (seqM (regM r2)
  (retM retv))
  skipM))
  (seqM (seqM (regM r3)
  (blockM 0 (iterM (seqM (seqM (regM r4)
  (condM (fun s => s.t_14) skipM
  (extM 0)))
  (seqM (blockM 1 (seqM (seqM (regM r6)
  (seqM (regM r7)
  (condM (fun s => s.t_26) (seqM (regM r8)
  (retM retv))
  skipM)))
  (seqM (seqM (regM r9)
  (condM (fun s => s.t_44) (seqM (regM r10)
  (retM retv))
  skipM))
  (seqM (regM r11)
  (condM (fun s => s.t_64) (seqM (regM r12)
  (retM retv))
  skipM)))))
  (regM r5))))))
  (seqM (regM r13)
  (retM retv)))))
noncomputable def f (a0 : ObjectStore) : Option R := retOf (body { t_0 := a0, t_1 := (⟨[]⟩ : ObjectStore), t_2 := (⟨(0 : Int), (0 : Int)⟩ : Fault), t_3 := (0 : Int), t_4 := (⟨(0 : Int), (0 : Int)⟩ : Fault), t_8 := false, t_14 := false, t_26 := false, t_44 := false, t_64 := false })
end ref3_StoreFault

namespace ref4_Marked
structure S where
  t_0 : ObjectStore
  t_1 : (List Int)
  t_2 : ObjectStore
  t_4 : (List Bool)
  t_5 : (List Bool)
  t_6 : Bool
  t_7 : Int
  t_8 : Int
  t_9 : Bool
  t_10 : Int
  t_15 : Bool
  t_20 : Bool
  t_36 : Bool
  t_64 : Bool
abbrev R := (List Bool)
def retv (s : S) : R := (s.t_4)
noncomputable def r0 (s : S) : Option S := some { s with t_2 := s.t_0, t_4 := [] }
noncomputable def r1 (s : S) : Option S := (mkL 1 false (s.t_2.Objects.length : Int)).bind fun x19 => some { s with t_5 := x19 }
noncomputable def r2 (s : S) : Option S := some { s with t_6 := true }
noncomputable def r3 (s : S) : Option S := some { s with t_15 := s.t_6 }
noncomputable def r4 (s : S) : Option S := some { s with t_6 := false }
noncomputable def r5 (s : S) : Option S := some { s with t_7 := (0 : Int) }
noncomputable def r6 (s : S) : Option S := some { s with t_20 := (decide (s.t_7 < (s.t_2.Objects.length : Int))) }
noncomputable def r8 (s : S) : Option S := (idx s.t_2.Objects s.t_7).bind fun x36 => some { s with t_8 := x36.Digest }
noncomputable def r9 (s : S) : Option S := (ref3_Has.f s.t_1 s.t_8).bind fun x46 => some { s with t_9 := x46 }
noncomputable def r10 (s : S) : Option S := some { s with t_10 := (0 : Int) }
noncomputable def r11 (s : S) : Option S := some { s with t_36 := (decide (s.t_10 < (s.t_2.Objects.length : Int))) }
noncomputable def r13 (s : S) : Option S := ((if s.t_9 = true then some true else (idx s.t_5 s.t_10).bind fun x61 => ((if x61 = true then (idx s.t_2.Objects s.t_10).bind fun x72 => (ref3_Has.f x72.Object.Links s.t_8).bind fun x85 => some x85 else some false)).bind fun x90 => some x90)).bind fun x95 => some { s with t_9 := x95 }
noncomputable def r12 (s : S) : Option S := some { s with t_10 := w64 (s.t_10 + (1 : Int)) }
noncomputable def r14 (s : S) : Option S := ((if s.t_9 = true then (idx s.t_5 s.t_7).bind fun x102 => some (!x102) else some false)).bind fun x108 => some { s with t_64 := x108 }
noncomputable def r15 (s : S) : Option S := (idx s.t_5 s.t_7).bind fun x110 => some { s with t_5 := setL s.t_5 s.t_7 true }
noncomputable def r16 (s : S) : Option S := some { s with t_6 := true }
noncomputable def r7 (s : S) : Option S := some { s with t_7 := w64 (s.t_7 + (1 : Int)) }
noncomputable def r17 (s : S) : Option S := some { s with t_4 := s.t_5 }
noncomputable def body : S → Option (Ctl S R) := (seqM (regM r0)
  (seqM (regM r1)
  (seqM (seqM (regM r2)
  (blockM 0 (iterM (seqM (seqM (regM r3)
  (condM (fun s => s.t_15) skipM
  (extM 0)))
  (blockM 1 (seqM (regM r4)
  (seqM (regM r5)
  (blockM 2 (iterM (seqM (seqM (regM r6)
  (condM (fun s => s.t_20) skipM
  (extM 2)))
  (seqM (blockM 3 (seqM (regM r8)
  (seqM (regM r9)
  (seqM (seqM (regM r10)
  (blockM 4 (iterM (seqM (seqM (regM r11)
  (condM (fun s => s.t_36) skipM
  (extM 4)))
  (seqM (blockM 5 (regM r13))
  (regM r12))))))
  (seqM (regM r14)
  (condM (fun s => s.t_64) (seqM (regM r15)
  (regM r16))
  skipM))))))
  (regM r7))))))))))))
  (seqM (regM r17)
  (retM retv)))))
noncomputable def f (a0 : ObjectStore) (a1 : (List Int)) : Option R := retOf (body { t_0 := a0, t_1 := a1, t_2 := (⟨[]⟩ : ObjectStore), t_4 := [], t_5 := [], t_6 := false, t_7 := (0 : Int), t_8 := (0 : Int), t_9 := false, t_10 := (0 : Int), t_15 := false, t_20 := false, t_36 := false, t_64 := false })
end ref4_Marked

namespace ref4_Chosen
structure S where
  s_0 : ObjectStore
  in_1 : (List Bool)
  which_2 : Bool
  s_3 : ObjectStore
  t_6 : ObjectStore
  out_7 : ObjectStore
  i_8 : Int
  t_13 : Bool
  t_21 : Bool
abbrev R := ObjectStore
def retv (s : S) : R := (s.t_6)
noncomputable def r0 (s : S) : Option S := some { s with s_3 := s.s_0, t_6 := (⟨[]⟩ : ObjectStore) }
noncomputable def r1 (s : S) : Option S := some { s with out_7 := (⟨[]⟩ : ObjectStore) }
noncomputable def r2 (s : S) : Option S := some { s with i_8 := (0 : Int) }
noncomputable def r3 (s : S) : Option S := some { s with t_13 := (decide (s.i_8 < (s.in_1.length : Int))) }
noncomputable def r5 (s : S) : Option S := (idx s.in_1 s.i_8).bind fun x26 => some { s with t_21 := (decide (x26 = s.which_2)) }
noncomputable def r6 (s : S) : Option S := (idx s.s_3.Objects s.i_8).bind fun x68 => (appL 64 s.out_7.Objects [x68]).bind fun x85 => some { s with out_7 := { s.out_7 with Objects := x85 } }
noncomputable def r4 (s : S) : Option S := some { s with i_8 := w64 (s.i_8 + (1 : Int)) }
noncomputable def r7 (s : S) : Option S := some { s with t_6 := (⟨s.out_7.Objects⟩ : ObjectStore), out_7 := s.out_7 }
noncomputable def body : S → Option (Ctl S R) := (seqM (regM r0)
  (seqM (regM r1)
  (seqM (seqM (regM r2)
  (blockM 0 (iterM (seqM (seqM (regM r3)
  (condM (fun s => s.t_13) skipM
  (extM 0)))
  (seqM (blockM 1 (seqM (regM r5)
  (condM (fun s => s.t_21) (regM r6)
  skipM)))
  (regM r4))))))
  (seqM (regM r7)
  (retM retv)))))
noncomputable def f (a0 : ObjectStore) (a1 : (List Bool)) (a2 : Bool) : Option R := retOf (body { s_0 := a0, in_1 := a1, which_2 := a2, s_3 := (⟨[]⟩ : ObjectStore), t_6 := (⟨[]⟩ : ObjectStore), out_7 := (⟨[]⟩ : ObjectStore), i_8 := (0 : Int), t_13 := false, t_21 := false })
end ref4_Chosen

namespace ref4_DigestsOf
structure S where
  s_0 : ObjectStore
  s_1 : ObjectStore
  t_2 : (List Int)
  out_3 : (List Int)
  i_4 : Int
  t_9 : Bool
abbrev R := (List Int)
def retv (s : S) : R := (s.t_2)
noncomputable def r0 (s : S) : Option S := some { s with s_1 := s.s_0, t_2 := [] }
noncomputable def r1 (s : S) : Option S := some { s with out_3 := [] }
noncomputable def r2 (s : S) : Option S := some { s with i_4 := (0 : Int) }
noncomputable def r3 (s : S) : Option S := some { s with t_9 := (decide (s.i_4 < (s.s_1.Objects.length : Int))) }
noncomputable def r5 (s : S) : Option S := (idx s.s_1.Objects s.i_4).bind fun x21 => (appL 8 s.out_3 [x21.Digest]).bind fun x36 => some { s with out_3 := x36 }
noncomputable def r4 (s : S) : Option S := some { s with i_4 := w64 (s.i_4 + (1 : Int)) }
noncomputable def r6 (s : S) : Option S := some { s with t_2 := s.out_3 }
noncomputable def body : S → Option (Ctl S R) := (seqM (regM r0)
  (seqM (regM r1)
  (seqM (seqM (regM r2)
  (blockM 0 (iterM (seqM (seqM (regM r3)
  (condM (fun s => s.t_9) skipM
  (extM 0)))
  (seqM (blockM 1 (regM r5))
  (regM r4))))))
  (seqM (regM r6)
  (retM retv)))))
noncomputable def f (a0 : ObjectStore) : Option R := retOf (body { s_0 := a0, s_1 := (⟨[]⟩ : ObjectStore), t_2 := [], out_3 := [], i_4 := (0 : Int), t_9 := false })
end ref4_DigestsOf

namespace ref3_components
structure S where
  name_0 : ByteArray
  t_2 : (List ByteArray)
  out_3 : (List ByteArray)
  now_4 : ByteArray
  i_5 : Int
  t_9 : Bool
  t_15 : Bool
abbrev R := (List ByteArray)
def retv (s : S) : R := (s.t_2)
noncomputable def r0 (s : S) : Option S := some { s with t_2 := [] }
noncomputable def r1 (s : S) : Option S := some { s with out_3 := [] }
noncomputable def r2 (s : S) : Option S := some { s with now_4 := (⟨#[]⟩ : ByteArray) }
noncomputable def r3 (s : S) : Option S := some { s with i_5 := (0 : Int) }
noncomputable def r4 (s : S) : Option S := some { s with t_9 := (decide (s.i_5 < (s.name_0.size : Int))) }
noncomputable def r6 (s : S) : Option S := (idxB s.name_0 s.i_5).bind fun b1 => some { s with t_15 := (decide ((b1.toNat : Int) = (47 : Int))) }
noncomputable def r7 (s : S) : Option S := (appL 16 s.out_3 [s.now_4]).bind fun x11 => some { s with out_3 := x11 }
noncomputable def r8 (s : S) : Option S := some { s with now_4 := (⟨#[]⟩ : ByteArray) }
noncomputable def r9 (s : S) : Option S := (cutS s.name_0 s.i_5 (w64 (s.i_5 + (1 : Int)))).bind fun x17 => (catS s.now_4 x17).bind fun x18 => some { s with now_4 := x18 }
noncomputable def r5 (s : S) : Option S := some { s with i_5 := w64 (s.i_5 + (1 : Int)) }
noncomputable def r10 (s : S) : Option S := (appL 16 s.out_3 [s.now_4]).bind fun x24 => some { s with t_2 := x24 }
noncomputable def body : S → Option (Ctl S R) := (seqM (regM r0)
  (seqM (regM r1)
  (seqM (regM r2)
  (seqM (seqM (regM r3)
  (blockM 0 (iterM (seqM (seqM (regM r4)
  (condM (fun s => s.t_9) skipM
  (extM 0)))
  (seqM (blockM 1 (seqM (regM r6)
  (condM (fun s => s.t_15) (seqM (regM r7)
  (regM r8))
  (regM r9))))
  (regM r5))))))
  (seqM (regM r10)
  (retM retv))))))
noncomputable def f (a0 : ByteArray) : Option R := retOf (body { name_0 := a0, t_2 := [], out_3 := [], now_4 := ByteArray.empty, i_5 := (0 : Int), t_9 := false, t_15 := false })
end ref3_components

namespace ref3_RefName
structure S where
  t_0 : ByteArray
  t_2 : Bool
  t_3 : (List ByteArray)
  t_4 : Int
  t_5 : ByteArray
  t_6 : Int
  t_7 : UInt8
  t_10 : Bool
  t_16 : Bool
  t_42 : Bool
  t_46 : Bool
  t_93 : Bool
abbrev R := Bool
def retv (s : S) : R := (s.t_2)
noncomputable def r0 (s : S) : Option S := some { s with t_2 := false }
noncomputable def r1 (s : S) : Option S := some { s with t_10 := (decide ((60 : Int) < (s.t_0.size : Int))) }
noncomputable def r2 (s : S) : Option S := some { s with t_2 := false }
noncomputable def r3 (s : S) : Option S := (ref3_components.f s.t_0).bind fun x1 => some { s with t_3 := x1 }
noncomputable def r4 (s : S) : Option S := some { s with t_4 := (0 : Int) }
noncomputable def r5 (s : S) : Option S := some { s with t_16 := (decide (s.t_4 < (s.t_3.length : Int))) }
noncomputable def r7 (s : S) : Option S := (idx s.t_3 s.t_4).bind fun x20 => some { s with t_5 := x20 }
noncomputable def r8 (s : S) : Option S := ((if (decide (s.t_5 = (⟨#[]⟩ : ByteArray))) = true then some true else (idxB s.t_5 (0 : Int)).bind fun b32 => some (decide ((b32.toNat : Int) = (46 : Int))))).bind fun x33 => ((if x33 = true then some true else ((if (decide ((5 : Int) ≤ (s.t_5.size : Int))) = true then (cutS s.t_5 (w64 ((s.t_5.size : Int) - (5 : Int))) (s.t_5.size : Int)).bind fun x39 => some (decide (x39 = (⟨#[46, 108, 111, 99, 107]⟩ : ByteArray))) else some false)).bind fun x40 => some x40)).bind fun x42 => some { s with t_42 := x42 }
noncomputable def r9 (s : S) : Option S := some { s with t_2 := false }
noncomputable def r10 (s : S) : Option S := some { s with t_6 := (0 : Int) }
noncomputable def r11 (s : S) : Option S := some { s with t_46 := (decide (s.t_6 < (s.t_5.size : Int))) }
noncomputable def r13 (s : S) : Option S := (idxB s.t_5 s.t_6).bind fun b44 => some { s with t_7 := b44 }
noncomputable def r14 (s : S) : Option S := ((if (!((((((decide ((97 : Int) ≤ (s.t_7.toNat : Int))) && (decide ((s.t_7.toNat : Int) ≤ (122 : Int)))) || ((decide ((48 : Int) ≤ (s.t_7.toNat : Int))) && (decide ((s.t_7.toNat : Int) ≤ (57 : Int))))) || (decide ((s.t_7.toNat : Int) = (45 : Int)))) || (decide ((s.t_7.toNat : Int) = (95 : Int)))) || (decide ((s.t_7.toNat : Int) = (46 : Int))))) = true then some true else ((if ((decide ((0 : Int) < s.t_6)) && (decide ((s.t_7.toNat : Int) = (46 : Int)))) = true then (idxB s.t_5 (w64 (s.t_6 - (1 : Int)))).bind fun b70 => some (decide ((b70.toNat : Int) = (46 : Int))) else some false)).bind fun x71 => some x71)).bind fun x73 => some { s with t_93 := x73 }
noncomputable def r15 (s : S) : Option S := some { s with t_2 := false }
noncomputable def r12 (s : S) : Option S := some { s with t_6 := w64 (s.t_6 + (1 : Int)) }
noncomputable def r6 (s : S) : Option S := some { s with t_4 := w64 (s.t_4 + (1 : Int)) }
noncomputable def r16 (s : S) : Option S := some { s with t_2 := true }
noncomputable def body : S → Option (Ctl S R) := (seqM (regM r0)
  (seqM (seqM (regM r1)
  (condM (fun s => s.t_10) (seqM (regM r2)
  (retM retv))
  skipM))
  (seqM (regM r3)
  (seqM (seqM (regM r4)
  (blockM 0 (iterM (seqM (seqM (regM r5)
  (condM (fun s => s.t_16) skipM
  (extM 0)))
  (seqM (blockM 1 (seqM (regM r7)
  (seqM (seqM (regM r8)
  (condM (fun s => s.t_42) (seqM (regM r9)
  (retM retv))
  skipM))
  (seqM (regM r10)
  (blockM 2 (iterM (seqM (seqM (regM r11)
  (condM (fun s => s.t_46) skipM
  (extM 2)))
  (seqM (blockM 3 (seqM (regM r13)
  (seqM (regM r14)
  (condM (fun s => s.t_93) (seqM (regM r15)
  (retM retv))
  skipM))))
  (regM r12)))))))))
  (regM r6))))))
  (seqM (regM r16)
  (retM retv))))))
noncomputable def f (a0 : ByteArray) : Option R := retOf (body { t_0 := a0, t_2 := false, t_3 := [], t_4 := (0 : Int), t_5 := ByteArray.empty, t_6 := (0 : Int), t_7 := (0 : UInt8), t_10 := false, t_16 := false, t_42 := false, t_46 := false, t_93 := false })
end ref3_RefName

namespace ref3_isDigest
structure S where
  d_0 : Int
  t_2 : Bool
abbrev R := Bool
def retv (s : S) : R := (s.t_2)
noncomputable def r0 (s : S) : Option S := some { s with t_2 := false }
noncomputable def r1 (s : S) : Option S := (ref3_In.f s.d_0 (0 : Int) (2305843009213693950 : Int)).bind fun x1 => some { s with t_2 := x1 }
noncomputable def body : S → Option (Ctl S R) := (seqM (regM r0)
  (seqM (regM r1)
  (retM retv)))
noncomputable def f (a0 : Int) : Option R := retOf (body { d_0 := a0, t_2 := false })
end ref3_isDigest

namespace ref3_Strings
structure S where
  a_0 : (List ByteArray)
  b_1 : (List ByteArray)
  t_4 : Bool
  i_5 : Int
  t_10 : Bool
  t_14 : Bool
  t_25 : Bool
abbrev R := Bool
def retv (s : S) : R := (s.t_4)
noncomputable def r0 (s : S) : Option S := some { s with t_4 := false }
noncomputable def r1 (s : S) : Option S := some { s with t_10 := (!decide ((s.a_0.length : Int) = (s.b_1.length : Int))) }
noncomputable def r2 (s : S) : Option S := some { s with t_4 := false }
noncomputable def r3 (s : S) : Option S := some { s with i_5 := (0 : Int) }
noncomputable def r4 (s : S) : Option S := some { s with t_14 := (decide (s.i_5 < (s.a_0.length : Int))) }
noncomputable def r6 (s : S) : Option S := (idx s.a_0 s.i_5).bind fun x16 => (idx s.b_1 s.i_5).bind fun x26 => some { s with t_25 := (!decide (x16 = x26)) }
noncomputable def r7 (s : S) : Option S := some { s with t_4 := false }
noncomputable def r5 (s : S) : Option S := some { s with i_5 := w64 (s.i_5 + (1 : Int)) }
noncomputable def r8 (s : S) : Option S := some { s with t_4 := true }
noncomputable def body : S → Option (Ctl S R) := (seqM (regM r0)
  (seqM (seqM (regM r1)
  (condM (fun s => s.t_10) (seqM (regM r2)
  (retM retv))
  skipM))
  (seqM (seqM (regM r3)
  (blockM 0 (iterM (seqM (seqM (regM r4)
  (condM (fun s => s.t_14) skipM
  (extM 0)))
  (seqM (blockM 1 (seqM (regM r6)
  (condM (fun s => s.t_25) (seqM (regM r7)
  (retM retv))
  skipM)))
  (regM r5))))))
  (seqM (regM r8)
  (retM retv)))))
noncomputable def f (a0 : (List ByteArray)) (a1 : (List ByteArray)) : Option R := retOf (body { a_0 := a0, b_1 := a1, t_4 := false, i_5 := (0 : Int), t_10 := false, t_14 := false, t_25 := false })
end ref3_Strings

namespace ref3_RefConflict
structure S where
  a_0 : ByteArray
  b_1 : ByteArray
  t_4 : Bool
  x_5 : (List ByteArray)
  y_6 : (List ByteArray)
  n_7 : Int
  t_16 : Bool
abbrev R := Bool
def retv (s : S) : R := (s.t_4)
noncomputable def r0 (s : S) : Option S := some { s with t_4 := false }
noncomputable def r1 (s : S) : Option S := (ref3_components.f s.a_0).bind fun x1 => (ref3_components.f s.b_1).bind fun x12 => some { s with x_5 := x1, y_6 := x12 }
noncomputable def r2 (s : S) : Option S := some { s with t_16 := (decide ((s.x_5.length : Int) = (s.y_6.length : Int))) }
noncomputable def r3 (s : S) : Option S := some { s with t_4 := false }
noncomputable def r4 (s : S) : Option S := some { s with n_7 := (min (s.x_5.length : Int) (s.y_6.length : Int)) }
noncomputable def r5 (s : S) : Option S := (cutTo s.x_5 s.n_7).bind fun x50 => (cutTo s.y_6 s.n_7).bind fun x57 => (ref3_Strings.f x50 x57).bind fun x59 => some { s with t_4 := x59 }
noncomputable def body : S → Option (Ctl S R) := (seqM (regM r0)
  (seqM (regM r1)
  (seqM (seqM (regM r2)
  (condM (fun s => s.t_16) (seqM (regM r3)
  (retM retv))
  skipM))
  (seqM (regM r4)
  (seqM (regM r5)
  (retM retv))))))
noncomputable def f (a0 : ByteArray) (a1 : ByteArray) : Option R := retOf (body { a_0 := a0, b_1 := a1, t_4 := false, x_5 := [], y_6 := [], n_7 := (0 : Int), t_16 := false })
end ref3_RefConflict

namespace ref3_RefsFault
structure S where
  t_0 : RefStore
  t_1 : RefStore
  t_2 : Fault
  t_3 : Int
  t_4 : Int
  t_8 : Bool
  t_14 : Bool
  t_24 : Bool
  t_34 : Bool
  t_54 : Bool
  t_59 : Bool
  t_74 : Bool
abbrev R := Fault
def retv (s : S) : R := (s.t_2)
noncomputable def r0 (s : S) : Option S := some { s with t_1 := s.t_0, t_2 := (⟨(0 : Int), (0 : Int)⟩ : Fault) }
noncomputable def r1 (s : S) : Option S := some { s with t_8 := (decide ((30 : Int) < (s.t_1.Refs.length : Int))) }
noncomputable def r2 (s : S) : Option S := (ref3_Fault.f (2 : Int) (-1 : Int)).bind fun x21 => some { s with t_2 := x21 }
noncomputable def r3 (s : S) : Option S := some { s with t_3 := (0 : Int) }
noncomputable def r4 (s : S) : Option S := some { s with t_14 := (decide (s.t_3 < (s.t_1.Refs.length : Int))) }
noncomputable def r6 (s : S) : Option S := (idx s.t_1.Refs s.t_3).bind fun x43 => (ref3_RefName.f x43.Name).bind fun x53 => some { s with t_24 := (!x53) }
noncomputable def r7 (s : S) : Option S := (ref3_Fault.f (12 : Int) s.t_3).bind fun x58 => some { s with t_2 := x58 }
noncomputable def r8 (s : S) : Option S := (idx s.t_1.Refs s.t_3).bind fun x71 => (ref3_isDigest.f x71.Target).bind fun x81 => some { s with t_34 := (!x81) }
noncomputable def r9 (s : S) : Option S := (ref3_Fault.f (3 : Int) s.t_3).bind fun x86 => some { s with t_2 := x86 }
noncomputable def r10 (s : S) : Option S := ((if (decide ((0 : Int) < s.t_3)) = true then (idx s.t_1.Refs s.t_3).bind fun x101 => (idx s.t_1.Refs (w64 (s.t_3 - (1 : Int)))).bind fun x114 => some (sLess x101.Name x114.Name || decide (x101.Name = x114.Name)) else some false)).bind fun x124 => some { s with t_54 := x124 }
noncomputable def r11 (s : S) : Option S := (ref3_Fault.f (5 : Int) s.t_3).bind fun x126 => some { s with t_2 := x126 }
noncomputable def r12 (s : S) : Option S := some { s with t_4 := (0 : Int) }
noncomputable def r13 (s : S) : Option S := some { s with t_59 := (decide (s.t_4 < s.t_3)) }
noncomputable def r15 (s : S) : Option S := (idx s.t_1.Refs s.t_4).bind fun x139 => (idx s.t_1.Refs s.t_3).bind fun x152 => (ref3_RefConflict.f x139.Name x152.Name).bind fun x162 => some { s with t_74 := x162 }
noncomputable def r16 (s : S) : Option S := (ref3_Fault.f (19 : Int) s.t_3).bind fun x167 => some { s with t_2 := x167 }
noncomputable def r14 (s : S) : Option S := some { s with t_4 := w64 (s.t_4 + (1 : Int)) }
noncomputable def r5 (s : S) : Option S := some { s with t_3 := w64 (s.t_3 + (1 : Int)) }
noncomputable def r17 (s : S) : Option S := some { s with t_2 := (⟨(0 : Int), (0 : Int)⟩ : Fault) }
noncomputable def body : S → Option (Ctl S R) := (seqM (regM r0)
  (seqM (seqM (regM r1)
  (condM (fun s => s.t_8) (seqM (regM r2)
  (retM retv))
  skipM))
  (seqM (seqM (regM r3)
  (blockM 0 (iterM (seqM (seqM (regM r4)
  (condM (fun s => s.t_14) skipM
  (extM 0)))
  (seqM (blockM 1 (seqM (seqM (regM r6)
  (condM (fun s => s.t_24) (seqM (regM r7)
  (retM retv))
  skipM))
  (seqM (seqM (regM r8)
  (condM (fun s => s.t_34) (seqM (regM r9)
  (retM retv))
  skipM))
  (seqM (seqM (regM r10)
  (condM (fun s => s.t_54) (seqM (regM r11)
  (retM retv))
  skipM))
  (seqM (regM r12)
  (blockM 2 (iterM (seqM (seqM (regM r13)
  (condM (fun s => s.t_59) skipM
  (extM 2)))
  (seqM (blockM 3 (seqM (regM r15)
  (condM (fun s => s.t_74) (seqM (regM r16)
  (retM retv))
  skipM)))
  (regM r14))))))))))
  (regM r5))))))
  (seqM (regM r17)
  (retM retv)))))
noncomputable def f (a0 : RefStore) : Option R := retOf (body { t_0 := a0, t_1 := (⟨[]⟩ : RefStore), t_2 := (⟨(0 : Int), (0 : Int)⟩ : Fault), t_3 := (0 : Int), t_4 := (0 : Int), t_8 := false, t_14 := false, t_24 := false, t_34 := false, t_54 := false, t_59 := false, t_74 := false })
end ref3_RefsFault

namespace ref4_CollectFault
structure S where
  s_0 : ObjectStore
  r_1 : RefStore
  leases_2 : (List Lease)
  time_3 : Int
  s_4 : ObjectStore
  r_5 : RefStore
  t_8 : Fault
  f_9 : Fault
  f_10 : Fault
  i_11 : Int
  t_16 : Bool
  t_22 : Bool
  t_28 : Bool
  t_33 : Bool
  t_51 : Bool
  t_57 : Bool
abbrev R := Fault
def retv (s : S) : R := (s.t_8)
noncomputable def r0 (s : S) : Option S := some { s with s_4 := s.s_0, r_5 := s.r_1, t_8 := (⟨(0 : Int), (0 : Int)⟩ : Fault) }
noncomputable def r1 (s : S) : Option S := (ref3_StoreFault.f s.s_4).bind fun x23 => some { s with f_9 := x23 }
noncomputable def r2 (s : S) : Option S := some { s with t_16 := (!decide (s.f_9.Code = (0 : Int))) }
noncomputable def r3 (s : S) : Option S := some { s with t_8 := s.f_9 }
noncomputable def r4 (s : S) : Option S := (ref3_RefsFault.f s.r_5).bind fun x44 => some { s with f_10 := x44 }
noncomputable def r5 (s : S) : Option S := some { s with t_22 := (!decide (s.f_10.Code = (0 : Int))) }
noncomputable def r6 (s : S) : Option S := (ref3_Fault.f s.f_10.Code (-1 : Int)).bind fun x59 => some { s with t_8 := x59 }
noncomputable def r7 (s : S) : Option S := some { s with t_28 := (decide ((20 : Int) < (s.leases_2.length : Int))) }
noncomputable def r8 (s : S) : Option S := (ref3_Fault.f (2 : Int) (-2 : Int)).bind fun x74 => some { s with t_8 := x74 }
noncomputable def r9 (s : S) : Option S := some { s with i_11 := (0 : Int) }
noncomputable def r10 (s : S) : Option S := some { s with t_33 := (decide (s.i_11 < (s.leases_2.length : Int))) }
noncomputable def r12 (s : S) : Option S := (idx s.leases_2 s.i_11).bind fun x89 => (ref3_In.f x89.Digest (0 : Int) (2305843009213693950 : Int)).bind fun x99 => ((if (!x99) = true then some true else (idx s.leases_2 s.i_11).bind fun x106 => (ref3_In.f x106.Until (0 : Int) (100000 : Int)).bind fun x116 => some (!x116))).bind fun x121 => some { s with t_51 := x121 }
noncomputable def r13 (s : S) : Option S := (ref3_Fault.f (3 : Int) (w64 ((-3 : Int) - s.i_11))).bind fun x126 => some { s with t_8 := x126 }
noncomputable def r11 (s : S) : Option S := some { s with i_11 := w64 (s.i_11 + (1 : Int)) }
noncomputable def r14 (s : S) : Option S := (ref3_In.f s.time_3 (0 : Int) (100000 : Int)).bind fun x136 => some { s with t_57 := (!x136) }
noncomputable def r15 (s : S) : Option S := (ref3_Fault.f (3 : Int) (-2 : Int)).bind fun x141 => some { s with t_8 := x141 }
noncomputable def r16 (s : S) : Option S := some { s with t_8 := (⟨(0 : Int), (0 : Int)⟩ : Fault) }
noncomputable def body : S → Option (Ctl S R) := (seqM (regM r0)
  (seqM (seqM (regM r1)
  (seqM (regM r2)
  (condM (fun s => s.t_16) (seqM (regM r3)
  (retM retv))
  skipM)))
  (seqM (seqM (regM r4)
  (seqM (regM r5)
  (condM (fun s => s.t_22) (seqM (regM r6)
  (retM retv))
  skipM)))
  (seqM (seqM (regM r7)
  (condM (fun s => s.t_28) (seqM (regM r8)
  (retM retv))
  skipM))
  (seqM (seqM (regM r9)
  (blockM 0 (iterM (seqM (seqM (regM r10)
  (condM (fun s => s.t_33) skipM
  (extM 0)))
  (seqM (blockM 1 (seqM (regM r12)
  (condM (fun s => s.t_51) (seqM (regM r13)
  (retM retv))
  skipM)))
  (regM r11))))))
  (seqM (seqM (regM r14)
  (condM (fun s => s.t_57) (seqM (regM r15)
  (retM retv))
  skipM))
  (seqM (regM r16)
  (retM retv))))))))
noncomputable def f (a0 : ObjectStore) (a1 : RefStore) (a2 : (List Lease)) (a3 : Int) : Option R := retOf (body { s_0 := a0, r_1 := a1, leases_2 := a2, time_3 := a3, s_4 := (⟨[]⟩ : ObjectStore), r_5 := (⟨[]⟩ : RefStore), t_8 := (⟨(0 : Int), (0 : Int)⟩ : Fault), f_9 := (⟨(0 : Int), (0 : Int)⟩ : Fault), f_10 := (⟨(0 : Int), (0 : Int)⟩ : Fault), i_11 := (0 : Int), t_16 := false, t_22 := false, t_28 := false, t_33 := false, t_51 := false, t_57 := false })
end ref4_CollectFault

namespace ref4_HeldBy
structure S where
  r_0 : RefStore
  leases_1 : (List Lease)
  time_2 : Int
  r_3 : RefStore
  t_6 : (List Int)
  out_7 : (List Int)
  i_8 : Int
  i_9 : Int
  t_14 : Bool
  t_29 : Bool
  t_38 : Bool
abbrev R := (List Int)
def retv (s : S) : R := (s.t_6)
noncomputable def r0 (s : S) : Option S := some { s with r_3 := s.r_0, t_6 := [] }
noncomputable def r1 (s : S) : Option S := some { s with out_7 := [] }
noncomputable def r2 (s : S) : Option S := some { s with i_8 := (0 : Int) }
noncomputable def r3 (s : S) : Option S := some { s with t_14 := (decide (s.i_8 < (s.r_3.Refs.length : Int))) }
noncomputable def r5 (s : S) : Option S := (idx s.r_3.Refs s.i_8).bind fun x21 => (appL 8 s.out_7 [x21.Target]).bind fun x36 => some { s with out_7 := x36 }
noncomputable def r4 (s : S) : Option S := some { s with i_8 := w64 (s.i_8 + (1 : Int)) }
noncomputable def r6 (s : S) : Option S := some { s with i_9 := (0 : Int) }
noncomputable def r7 (s : S) : Option S := some { s with t_29 := (decide (s.i_9 < (s.leases_1.length : Int))) }
noncomputable def r9 (s : S) : Option S := (idx s.leases_1 s.i_9).bind fun x47 => some { s with t_38 := (decide (s.time_2 < x47.Until)) }
noncomputable def r10 (s : S) : Option S := (idx s.leases_1 s.i_9).bind fun x57 => (appL 8 s.out_7 [x57.Digest]).bind fun x72 => some { s with out_7 := x72 }
noncomputable def r8 (s : S) : Option S := some { s with i_9 := w64 (s.i_9 + (1 : Int)) }
noncomputable def r11 (s : S) : Option S := some { s with t_6 := s.out_7 }
noncomputable def body : S → Option (Ctl S R) := (seqM (regM r0)
  (seqM (regM r1)
  (seqM (seqM (regM r2)
  (blockM 0 (iterM (seqM (seqM (regM r3)
  (condM (fun s => s.t_14) skipM
  (extM 0)))
  (seqM (blockM 1 (regM r5))
  (regM r4))))))
  (seqM (seqM (regM r6)
  (blockM 2 (iterM (seqM (seqM (regM r7)
  (condM (fun s => s.t_29) skipM
  (extM 2)))
  (seqM (blockM 3 (seqM (regM r9)
  (condM (fun s => s.t_38) (regM r10)
  skipM)))
  (regM r8))))))
  (seqM (regM r11)
  (retM retv))))))
noncomputable def f (a0 : RefStore) (a1 : (List Lease)) (a2 : Int) : Option R := retOf (body { r_0 := a0, leases_1 := a1, time_2 := a2, r_3 := (⟨[]⟩ : RefStore), t_6 := [], out_7 := [], i_8 := (0 : Int), i_9 := (0 : Int), t_14 := false, t_29 := false, t_38 := false })
end ref4_HeldBy

namespace law4_GcCollectMatchesSpec
structure S where
  t_0 : ObjectStore
  t_1 : RefStore
  t_2 : (List Lease)
  t_3 : Int
  t_4 : ObjectStore
  t_5 : RefStore
  t_8 : Bool
  t_9 : ObjectStore
  t_10 : (List Int)
  t_11 : Fault
  t_12 : Fault
  t_13 : (List Bool)
  t_15 : Bool
  t_32 : Bool
abbrev R := Bool
def retv (s : S) : R := (s.t_8)
noncomputable def r0 (s : S) : Option S := some { s with t_4 := s.t_0, t_5 := s.t_1, t_8 := false }
noncomputable def r1 (s : S) : Option S := (law4_gcExample.f ).bind fun x18 => some { s with t_15 := (!x18) }
noncomputable def r2 (s : S) : Option S := some { s with t_8 := false }
noncomputable def r3 (s : S) : Option S := (gc_Collect.f s.t_4 s.t_5 s.t_2 s.t_3).bind fun x27 => some { s with t_9 := x27.1, t_10 := x27.2.1, t_11 := x27.2.2 }
noncomputable def r4 (s : S) : Option S := (ref4_CollectFault.f s.t_4 s.t_5 s.t_2 s.t_3).bind fun x60 => some { s with t_12 := x60 }
noncomputable def r5 (s : S) : Option S := some { s with t_32 := (!decide (s.t_12.Code = (0 : Int))) }
noncomputable def r6 (s : S) : Option S := some { s with t_8 := ((decide (s.t_11 = s.t_12)) && (decide ((w64 ((s.t_9.Objects.length : Int) + (s.t_10.length : Int))) = (0 : Int)))) }
noncomputable def r7 (s : S) : Option S := (ref4_HeldBy.f s.t_5 s.t_2 s.t_3).bind fun x98 => (ref4_Marked.f s.t_4 x98).bind fun x106 => some { s with t_13 := x106 }
noncomputable def r8 (s : S) : Option S := if (decide (s.t_11.Code = (0 : Int))) = true then (ref4_Chosen.f s.t_4 s.t_13 true).bind fun x122 => (ref3_Stores.f s.t_9 x122).bind fun x129 => if x129 = true then (ref4_Chosen.f s.t_4 s.t_13 false).bind fun x137 => (ref4_DigestsOf.f x137).bind fun x144 => (ref3_Ints.f s.t_10 x144).bind fun x152 => some { s with t_8 := x152 } else some { s with t_8 := false } else some { s with t_8 := false }
noncomputable def body : S → Option (Ctl S R) := (seqM (regM r0)
  (seqM (seqM (regM r1)
  (condM (fun s => s.t_15) (seqM (regM r2)
  (retM retv))
  skipM))
  (seqM (regM r3)
  (seqM (seqM (regM r4)
  (seqM (regM r5)
  (condM (fun s => s.t_32) (seqM (regM r6)
  (retM retv))
  skipM)))
  (seqM (regM r7)
  (seqM (regM r8)
  (retM retv)))))))
noncomputable def f (a0 : ObjectStore) (a1 : RefStore) (a2 : (List Lease)) (a3 : Int) : Option R := retOf (body { t_0 := a0, t_1 := a1, t_2 := a2, t_3 := a3, t_4 := (⟨[]⟩ : ObjectStore), t_5 := (⟨[]⟩ : RefStore), t_8 := false, t_9 := (⟨[]⟩ : ObjectStore), t_10 := [], t_11 := (⟨(0 : Int), (0 : Int)⟩ : Fault), t_12 := (⟨(0 : Int), (0 : Int)⟩ : Fault), t_13 := [], t_15 := false, t_32 := false })
end law4_GcCollectMatchesSpec

end Go.Proofs.YtenkbkcddcnmeaaDoor
