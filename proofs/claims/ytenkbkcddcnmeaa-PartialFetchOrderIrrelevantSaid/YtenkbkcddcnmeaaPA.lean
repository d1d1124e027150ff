/- What functions of the program come to, as plain Lean functions (written by a program, wip/fx/gen.py). -/
import Derived.Test.YtenkbkcddcnmeaaTy
import Derived.Test.YtenkbkcddcnmeaaSl
import Derived.Test.YtenkbkcddcnmeaaIn
namespace Go.Proofs.Ytenkbkcddcnmeaa
open Go.Fx
set_option linter.unusedVariables false

namespace objects_check
structure S where
  o_0 : Object
  o_1 : Object
  t_2 : Fault
  i_3 : Int
  d_4 : Int
  t_5 : Bool
  t_15 : Bool
  t_21 : Bool
  t_27 : Bool
  t_39 : (List Int)
  t_40 : Int
  t_41 : Int
  t_42 : Bool
  t_51 : Bool
abbrev R := Fault
def retv (s : S) : R := (s.t_2)
noncomputable def r0 (s : S) : Option S := some { s with o_1 := s.o_0, t_2 := (⟨(0 : Int), (0 : Int)⟩ : Fault) }
noncomputable def r1 (s : S) : Option S := some { s with t_5 := ((decide (s.o_1.Kind < (1 : Int))) || (decide ((3 : Int) < s.o_1.Kind))) }
noncomputable def r2 (s : S) : Option S := some { s with t_2 := (⟨(4 : Int), (0 : Int)⟩ : Fault) }
noncomputable def r3 (s : S) : Option S := some { s with t_15 := (decide ((30 : Int) < (s.o_1.Links.length : Int))) }
noncomputable def r4 (s : S) : Option S := some { s with t_2 := (⟨(2 : Int), (0 : Int)⟩ : Fault) }
noncomputable def r5 (s : S) : Option S := some { s with t_21 := (decide ((1000 : Int) < (s.o_1.Data.length : Int))) }
noncomputable def r6 (s : S) : Option S := some { s with t_2 := (⟨(10 : Int), (0 : Int)⟩ : Fault) }
noncomputable def r7 (s : S) : Option S := some { s with t_27 := ((decide (s.o_1.Kind = (1 : Int))) && (decide ((0 : Int) < (s.o_1.Links.length : Int)))) }
noncomputable def r8 (s : S) : Option S := some { s with t_2 := (⟨(5 : Int), (0 : Int)⟩ : Fault) }
noncomputable def r9 (s : S) : Option S := some { s with t_39 := s.o_1.Links, t_40 := (s.o_1.Links.length : Int), t_41 := (0 : Int) }
noncomputable def r10 (s : S) : Option S := some { s with t_42 := (decide (s.t_41 < s.t_40)) }
noncomputable def r11 (s : S) : Option S := (idx s.t_39 s.t_41).bind fun x63 => some { s with i_3 := s.t_41, d_4 := x63 }
noncomputable def r12 (s : S) : Option S := some { s with t_51 := ((decide (s.d_4 < (0 : Int))) || (decide ((2305843009213693951 : Int) ≤ s.d_4))) }
noncomputable def r13 (s : S) : Option S := some { s with t_2 := (⟨(3 : Int), s.i_3⟩ : Fault) }
noncomputable def r14 (s : S) : Option S := some { s with t_41 := w64 (s.t_41 + (1 : Int)) }
noncomputable def r15 (s : S) : Option S := some { s with t_2 := (⟨(0 : Int), (0 : Int)⟩ : Fault) }
noncomputable def body : S → Option (Ctl S R) := (seqM (regM r0)
  (seqM (blockM 0 (seqM (regM r1)
  (condM (fun s => s.t_5) (seqM (regM r2)
  (retM retv))
  (seqM (regM r3)
  (condM (fun s => s.t_15) (seqM (regM r4)
  (retM retv))
  (seqM (regM r5)
  (condM (fun s => s.t_21) (seqM (regM r6)
  (retM retv))
  (seqM (regM r7)
  (condM (fun s => s.t_27) (seqM (regM r8)
  (retM retv))
  skipM)))))))))
  (seqM (seqM (regM r9)
  (blockM 1 (iterM (seqM (regM r10)
  (seqM (condM (fun s => s.t_42) skipM
  (extM 1))
  (seqM (blockM 2 (seqM (regM r11)
  (seqM (regM r12)
  (condM (fun s => s.t_51) (seqM (regM r13)
  (retM retv))
  skipM))))
  (regM r14)))))))
  (seqM (regM r15)
  (retM retv)))))
noncomputable def f (a0 : Object) : Option R := retOf (body { o_0 := a0, o_1 := (⟨(0 : Int), [], []⟩ : Object), t_2 := (⟨(0 : Int), (0 : Int)⟩ : Fault), i_3 := (0 : Int), d_4 := (0 : Int), t_5 := false, t_15 := false, t_21 := false, t_27 := false, t_39 := [], t_40 := (0 : Int), t_41 := (0 : Int), t_42 := false, t_51 := false })
end objects_check

namespace bits_Div64
structure S where
  t_0 : Int
  t_1 : Int
  t_2 : Int
  t_6 : Int
  t_7 : Int
  t_8 : Int
  t_9 : Int
  t_10 : Int
  t_11 : Int
  t_12 : Int
  t_13 : Int
  t_14 : Int
  t_15 : Int
  t_16 : Int
  t_17 : Int
  t_18 : Int
  t_20 : Bool
  t_24 : Bool
  t_27 : Bool
  t_78 : Bool
  t_85 : Bool
  t_113 : Bool
  t_120 : Bool
abbrev R := (Int × Int)
def retv (s : S) : R := (s.t_6, s.t_7)
noncomputable def r0 (s : S) : Option S := some { s with t_6 := (0 : Int), t_7 := (0 : Int) }
noncomputable def r1 (s : S) : Option S := some { s with t_20 := (decide (s.t_2 = (0 : Int))) }
noncomputable def r2 (s : S) : Option S := none
noncomputable def r3 (s : S) : Option S := some { s with t_24 := (decide (s.t_2 ≤ s.t_0)) }
noncomputable def r4 (s : S) : Option S := none
noncomputable def r5 (s : S) : Option S := some { s with t_27 := (decide (s.t_0 = (0 : Int))) }
noncomputable def r6 (s : S) : Option S := if s.t_2 ≠ (0 : Int) then if s.t_2 ≠ (0 : Int) then some { s with t_6 := IntKind.u64.wrap (Int.tdiv s.t_1 s.t_2), t_7 := Int.tmod s.t_1 s.t_2 } else none else none
noncomputable def r7 (s : S) : Option S := (Lead.f s.t_2).bind fun x3 => some { s with t_8 := IntKind.u64.wrap (x3) }
noncomputable def r8 (s : S) : Option S := if (0 : Int) ≤ s.t_8 then some { s with t_2 := shlV .u64 s.t_2 s.t_8 } else none
noncomputable def r9 (s : S) : Option S := some { s with t_9 := shrV .u64 s.t_2 (32 : Int) }
noncomputable def r10 (s : S) : Option S := some { s with t_10 := andV .u64 s.t_2 (4294967295 : Int) }
noncomputable def r11 (s : S) : Option S := if (0 : Int) ≤ s.t_8 then if (0 : Int) ≤ IntKind.u64.wrap ((64 : Int) - s.t_8) then some { s with t_11 := orV .u64 (shlV .u64 s.t_0 s.t_8) (shrV .u64 s.t_1 (IntKind.u64.wrap ((64 : Int) - s.t_8))) } else none else none
noncomputable def r12 (s : S) : Option S := if (0 : Int) ≤ s.t_8 then some { s with t_12 := shlV .u64 s.t_1 s.t_8 } else none
noncomputable def r13 (s : S) : Option S := some { s with t_13 := shrV .u64 s.t_12 (32 : Int) }
noncomputable def r14 (s : S) : Option S := some { s with t_14 := andV .u64 s.t_12 (4294967295 : Int) }
noncomputable def r15 (s : S) : Option S := if s.t_9 ≠ (0 : Int) then some { s with t_15 := IntKind.u64.wrap (Int.tdiv s.t_11 s.t_9) } else none
noncomputable def r16 (s : S) : Option S := some { s with t_16 := IntKind.u64.wrap (s.t_11 - IntKind.u64.wrap (s.t_15 * s.t_9)) }
noncomputable def r17 (s : S) : Option S := some { s with t_78 := ((decide ((4294967296 : Int) ≤ s.t_15)) || (decide ((IntKind.u64.wrap (IntKind.u64.wrap ((4294967296 : Int) * s.t_16) + s.t_13)) < (IntKind.u64.wrap (s.t_15 * s.t_10))))) }
noncomputable def r18 (s : S) : Option S := some { s with t_15 := IntKind.u64.wrap (s.t_15 - (1 : Int)) }
noncomputable def r19 (s : S) : Option S := some { s with t_16 := IntKind.u64.wrap (s.t_16 + s.t_9) }
noncomputable def r20 (s : S) : Option S := some { s with t_85 := (decide ((4294967296 : Int) ≤ s.t_16)) }
noncomputable def r21 (s : S) : Option S := some { s with t_17 := IntKind.u64.wrap (IntKind.u64.wrap (IntKind.u64.wrap (s.t_11 * (4294967296 : Int)) + s.t_13) - IntKind.u64.wrap (s.t_15 * s.t_2)) }
noncomputable def r22 (s : S) : Option S := if s.t_9 ≠ (0 : Int) then some { s with t_18 := IntKind.u64.wrap (Int.tdiv s.t_17 s.t_9) } else none
noncomputable def r23 (s : S) : Option S := some { s with t_16 := IntKind.u64.wrap (s.t_17 - IntKind.u64.wrap (s.t_18 * s.t_9)) }
noncomputable def r24 (s : S) : Option S := some { s with t_113 := ((decide ((4294967296 : Int) ≤ s.t_18)) || (decide ((IntKind.u64.wrap (IntKind.u64.wrap ((4294967296 : Int) * s.t_16) + s.t_14)) < (IntKind.u64.wrap (s.t_18 * s.t_10))))) }
noncomputable def r25 (s : S) : Option S := some { s with t_18 := IntKind.u64.wrap (s.t_18 - (1 : Int)) }
noncomputable def r26 (s : S) : Option S := some { s with t_16 := IntKind.u64.wrap (s.t_16 + s.t_9) }
noncomputable def r27 (s : S) : Option S := some { s with t_120 := (decide ((4294967296 : Int) ≤ s.t_16)) }
noncomputable def r28 (s : S) : Option S := if (0 : Int) ≤ s.t_8 then some { s with t_6 := IntKind.u64.wrap (IntKind.u64.wrap (s.t_15 * (4294967296 : Int)) + s.t_18), t_7 := shrV .u64 (IntKind.u64.wrap (IntKind.u64.wrap (IntKind.u64.wrap (s.t_17 * (4294967296 : Int)) + s.t_14) - IntKind.u64.wrap (s.t_18 * s.t_2))) s.t_8 } else none
noncomputable def body : S → Option (Ctl S R) := (seqM (regM r0)
  (seqM (seqM (regM r1)
  (condM (fun s => s.t_20) (regM r2)
  skipM))
  (seqM (seqM (regM r3)
  (condM (fun s => s.t_24) (regM r4)
  skipM))
  (seqM (seqM (regM r5)
  (condM (fun s => s.t_27) (seqM (regM r6)
  (retM retv))
  skipM))
  (seqM (regM r7)
  (seqM (regM r8)
  (seqM (regM r9)
  (seqM (regM r10)
  (seqM (regM r11)
  (seqM (regM r12)
  (seqM (regM r13)
  (seqM (regM r14)
  (seqM (regM r15)
  (seqM (regM r16)
  (seqM (blockM 0 (iterM (seqM (seqM (regM r17)
  (condM (fun s => s.t_78) skipM
  (extM 0)))
  (blockM 1 (seqM (regM r18)
  (seqM (regM r19)
  (seqM (regM r20)
  (condM (fun s => s.t_85) (extM 0)
  skipM))))))))
  (seqM (regM r21)
  (seqM (regM r22)
  (seqM (regM r23)
  (seqM (blockM 2 (iterM (seqM (seqM (regM r24)
  (condM (fun s => s.t_113) skipM
  (extM 2)))
  (blockM 3 (seqM (regM r25)
  (seqM (regM r26)
  (seqM (regM r27)
  (condM (fun s => s.t_120) (extM 2)
  skipM))))))))
  (seqM (regM r28)
  (retM retv)))))))))))))))))))))
noncomputable def f (a0 : Int) (a1 : Int) (a2 : Int) : Option R := retOf (body { t_0 := a0, t_1 := a1, t_2 := a2, t_6 := (0 : Int), t_7 := (0 : Int), t_8 := (0 : Int), t_9 := (0 : Int), t_10 := (0 : Int), t_11 := (0 : Int), t_12 := (0 : Int), t_13 := (0 : Int), t_14 := (0 : Int), t_15 := (0 : Int), t_16 := (0 : Int), t_17 := (0 : Int), t_18 := (0 : Int), t_20 := false, t_24 := false, t_27 := false, t_78 := false, t_85 := false, t_113 := false, t_120 := false })
end bits_Div64

namespace digest_mul
structure S where
  a_0 : Int
  b_1 : Int
  t_4 : Int
  hi_5 : Int
  lo_6 : Int
  rem_8 : Int
abbrev R := Int
def retv (s : S) : R := (s.t_4)
noncomputable def r0 (s : S) : Option S := some { s with t_4 := (0 : Int) }
noncomputable def r1 (s : S) : Option S := (Mul64.f s.a_0 s.b_1).bind fun x1 => some { s with hi_5 := x1.1, lo_6 := x1.2 }
noncomputable def r2 (s : S) : Option S := (bits_Div64.f (Int.tmod s.hi_5 (2305843009213693951 : Int)) s.lo_6 (2305843009213693951 : Int)).bind fun x6 => some { s with rem_8 := x6.2 }
noncomputable def r3 (s : S) : Option S := some { s with t_4 := s.rem_8 }
noncomputable def body : S → Option (Ctl S R) := (seqM (regM r0)
  (seqM (regM r1)
  (seqM (regM r2)
  (seqM (regM r3)
  (retM retv)))))
noncomputable def f (a0 : Int) (a1 : Int) : Option R := retOf (body { a_0 := a0, b_1 := a1, t_4 := (0 : Int), hi_5 := (0 : Int), lo_6 := (0 : Int), rem_8 := (0 : Int) })
end digest_mul

namespace digest_Of
structure S where
  data_0 : (List UInt8)
  t_2 : Int
  t_3 : Fault
  h_4 : Int
  b_6 : UInt8
  t_9 : Bool
  t_11 : (List UInt8)
  t_12 : Int
  t_13 : Int
  t_14 : Bool
abbrev R := (Int × Fault)
def retv (s : S) : R := (s.t_2, s.t_3)
noncomputable def r0 (s : S) : Option S := some { s with t_2 := (0 : Int), t_3 := (⟨(0 : Int), (0 : Int)⟩ : Fault) }
noncomputable def r1 (s : S) : Option S := some { s with t_9 := (decide ((4096 : Int) < (s.data_0.length : Int))) }
noncomputable def r2 (s : S) : Option S := some { s with t_2 := (0 : Int), t_3 := (⟨(2 : Int), (0 : Int)⟩ : Fault) }
noncomputable def r3 (s : S) : Option S := some { s with h_4 := (1 : Int) }
noncomputable def r4 (s : S) : Option S := some { s with t_11 := s.data_0, t_12 := (s.data_0.length : Int), t_13 := (0 : Int) }
noncomputable def r5 (s : S) : Option S := some { s with t_14 := (decide (s.t_13 < s.t_12)) }
noncomputable def r6 (s : S) : Option S := (idx s.t_11 s.t_13).bind fun x19 => some { s with b_6 := x19 }
noncomputable def r7 (s : S) : Option S := (digest_mul.f s.h_4 (257 : Int)).bind fun x29 => some { s with h_4 := Int.tmod (IntKind.u64.wrap (IntKind.u64.wrap (x29 + IntKind.u64.wrap ((s.b_6.toNat : Int))) + (1 : Int))) (2305843009213693951 : Int) }
noncomputable def r8 (s : S) : Option S := some { s with t_13 := w64 (s.t_13 + (1 : Int)) }
noncomputable def r9 (s : S) : Option S := some { s with t_2 := w64 (s.h_4), t_3 := (⟨(0 : Int), (0 : Int)⟩ : Fault) }
noncomputable def body : S → Option (Ctl S R) := (seqM (regM r0)
  (seqM (seqM (regM r1)
  (condM (fun s => s.t_9) (seqM (regM r2)
  (retM retv))
  skipM))
  (seqM (regM r3)
  (seqM (seqM (regM r4)
  (blockM 0 (iterM (seqM (regM r5)
  (seqM (condM (fun s => s.t_14) skipM
  (extM 0))
  (seqM (blockM 1 (seqM (regM r6)
  (regM r7)))
  (regM r8)))))))
  (seqM (regM r9)
  (retM retv))))))
noncomputable def f (a0 : (List UInt8)) : Option R := retOf (body { data_0 := a0, t_2 := (0 : Int), t_3 := (⟨(0 : Int), (0 : Int)⟩ : Fault), h_4 := (0 : Int), b_6 := (0 : UInt8), t_9 := false, t_11 := [], t_12 := (0 : Int), t_13 := (0 : Int), t_14 := false })
end digest_Of

namespace objects_Digest
structure S where
  o_0 : Object
  o_1 : Object
  t_2 : Int
  t_3 : Fault
  f_4 : Fault
  b_5 : (List UInt8)
  d_7 : Int
  s_8 : Int
  t_13 : Bool
  t_24 : (List Int)
  t_25 : Int
  t_26 : Int
  t_27 : Bool
  t_31 : Bool
abbrev R := (Int × Fault)
def retv (s : S) : R := (s.t_2, s.t_3)
noncomputable def r0 (s : S) : Option S := some { s with o_1 := s.o_0, t_2 := (0 : Int), t_3 := (⟨(0 : Int), (0 : Int)⟩ : Fault) }
noncomputable def r1 (s : S) : Option S := (objects_check.f s.o_1).bind fun x11 => some { s with f_4 := x11 }
noncomputable def r2 (s : S) : Option S := some { s with t_13 := (!decide (s.f_4 = (⟨(0 : Int), (0 : Int)⟩ : Fault))) }
noncomputable def r3 (s : S) : Option S := some { s with t_2 := (0 : Int), t_3 := s.f_4 }
noncomputable def r4 (s : S) : Option S := some { s with b_5 := [toByte s.o_1.Kind, toByte (s.o_1.Links.length : Int)] }
noncomputable def r5 (s : S) : Option S := some { s with t_24 := s.o_1.Links, t_25 := (s.o_1.Links.length : Int), t_26 := (0 : Int) }
noncomputable def r6 (s : S) : Option S := some { s with t_27 := (decide (s.t_26 < s.t_25)) }
noncomputable def r7 (s : S) : Option S := (idx s.t_24 s.t_26).bind fun x53 => some { s with d_7 := x53 }
noncomputable def r8 (s : S) : Option S := some { s with s_8 := (56 : Int) }
noncomputable def r9 (s : S) : Option S := some { s with t_31 := (decide ((0 : Int) ≤ s.s_8)) }
noncomputable def r11 (s : S) : Option S := if (0 : Int) ≤ s.s_8 then (appL 1 s.b_5 [toByte (shrV .i64 s.d_7 s.s_8)]).bind fun x69 => some { s with b_5 := x69 } else none
noncomputable def r10 (s : S) : Option S := some { s with s_8 := w64 (s.s_8 - (8 : Int)) }
noncomputable def r12 (s : S) : Option S := some { s with t_26 := w64 (s.t_26 + (1 : Int)) }
noncomputable def r13 (s : S) : Option S := (appL 1 s.b_5 s.o_1.Data).bind fun x78 => (digest_Of.f x78).bind fun x85 => some { s with t_2 := x85.1, t_3 := x85.2 }
noncomputable def body : S → Option (Ctl S R) := (seqM (regM r0)
  (seqM (seqM (regM r1)
  (seqM (regM r2)
  (condM (fun s => s.t_13) (seqM (regM r3)
  (retM retv))
  skipM)))
  (seqM (regM r4)
  (seqM (seqM (regM r5)
  (blockM 0 (iterM (seqM (regM r6)
  (seqM (condM (fun s => s.t_27) skipM
  (extM 0))
  (seqM (blockM 1 (seqM (regM r7)
  (seqM (regM r8)
  (blockM 2 (iterM (seqM (seqM (regM r9)
  (condM (fun s => s.t_31) skipM
  (extM 2)))
  (seqM (blockM 3 (regM r11))
  (regM r10))))))))
  (regM r12)))))))
  (seqM (regM r13)
  (retM retv))))))
noncomputable def f (a0 : Object) : Option R := retOf (body { o_0 := a0, o_1 := (⟨(0 : Int), [], []⟩ : Object), t_2 := (0 : Int), t_3 := (⟨(0 : Int), (0 : Int)⟩ : Fault), f_4 := (⟨(0 : Int), (0 : Int)⟩ : Fault), b_5 := [], d_7 := (0 : Int), s_8 := (0 : Int), t_13 := false, t_24 := [], t_25 := (0 : Int), t_26 := (0 : Int), t_27 := false, t_31 := false })
end objects_Digest

namespace objects_Validate
structure S where
  s_0 : ObjectStore
  s_1 : ObjectStore
  t_2 : Fault
  i_3 : Int
  o_4 : StoredObject
  d_5 : Int
  f_6 : Fault
  t_10 : Bool
  t_13 : (List StoredObject)
  t_14 : Int
  t_15 : Int
  t_16 : Bool
  t_26 : Bool
  t_34 : Bool
  t_41 : Bool
abbrev R := Fault
def retv (s : S) : R := (s.t_2)
noncomputable def r0 (s : S) : Option S := some { s with s_1 := s.s_0, t_2 := (⟨(0 : Int), (0 : Int)⟩ : Fault) }
noncomputable def r1 (s : S) : Option S := some { s with t_10 := (decide ((40 : Int) < (s.s_1.Objects.length : Int))) }
noncomputable def r2 (s : S) : Option S := some { s with t_2 := (⟨(2 : Int), (0 : Int)⟩ : Fault) }
noncomputable def r3 (s : S) : Option S := some { s with t_13 := s.s_1.Objects, t_14 := (s.s_1.Objects.length : Int), t_15 := (0 : Int) }
noncomputable def r4 (s : S) : Option S := some { s with t_16 := (decide (s.t_15 < s.t_14)) }
noncomputable def r5 (s : S) : Option S := (idx s.t_13 s.t_15).bind fun x29 => some { s with i_3 := s.t_15, o_4 := x29 }
noncomputable def r6 (s : S) : Option S := (objects_Digest.f s.o_4.Object).bind fun x50 => some { s with d_5 := x50.1, f_6 := x50.2 }
noncomputable def r7 (s : S) : Option S := some { s with t_26 := (!decide (s.f_6 = (⟨(0 : Int), (0 : Int)⟩ : Fault))) }
noncomputable def r8 (s : S) : Option S := some { s with t_2 := (⟨s.f_6.Code, s.i_3⟩ : Fault) }
noncomputable def r9 (s : S) : Option S := some { s with t_34 := (!decide (s.d_5 = s.o_4.Digest)) }
noncomputable def r10 (s : S) : Option S := some { s with t_2 := (⟨(18 : Int), s.i_3⟩ : Fault) }
noncomputable def r11 (s : S) : Option S := ((if (decide ((0 : Int) < s.i_3)) = true then (idx s.s_1.Objects (w64 (s.i_3 - (1 : Int)))).bind fun x80 => some (decide (s.d_5 ≤ x80.Digest)) else some false)).bind fun x90 => some { s with t_41 := x90 }
noncomputable def r12 (s : S) : Option S := some { s with t_2 := (⟨(5 : Int), s.i_3⟩ : Fault) }
noncomputable def r13 (s : S) : Option S := some { s with t_15 := w64 (s.t_15 + (1 : Int)) }
noncomputable def r14 (s : S) : Option S := some { s with t_2 := (⟨(0 : Int), (0 : Int)⟩ : Fault) }
noncomputable def body : S → Option (Ctl S R) := (seqM (regM r0)
  (seqM (seqM (regM r1)
  (condM (fun s => s.t_10) (seqM (regM r2)
  (retM retv))
  skipM))
  (seqM (seqM (regM r3)
  (blockM 0 (iterM (seqM (regM r4)
  (seqM (condM (fun s => s.t_16) skipM
  (extM 0))
  (seqM (blockM 1 (seqM (regM r5)
  (seqM (regM r6)
  (blockM 2 (seqM (regM r7)
  (condM (fun s => s.t_26) (seqM (regM r8)
  (retM retv))
  (seqM (regM r9)
  (condM (fun s => s.t_34) (seqM (regM r10)
  (retM retv))
  (seqM (regM r11)
  (condM (fun s => s.t_41) (seqM (regM r12)
  (retM retv))
  skipM))))))))))
  (regM r13)))))))
  (seqM (regM r14)
  (retM retv)))))
noncomputable def f (a0 : ObjectStore) : Option R := retOf (body { s_0 := a0, s_1 := (⟨[]⟩ : ObjectStore), t_2 := (⟨(0 : Int), (0 : Int)⟩ : Fault), i_3 := (0 : Int), o_4 := (⟨(0 : Int), (⟨(0 : Int), [], []⟩ : Object)⟩ : StoredObject), d_5 := (0 : Int), f_6 := (⟨(0 : Int), (0 : Int)⟩ : Fault), t_10 := false, t_13 := [], t_14 := (0 : Int), t_15 := (0 : Int), t_16 := false, t_26 := false, t_34 := false, t_41 := false })
end objects_Validate

namespace objects_Clone
structure S where
  o_0 : Object
  o_1 : Object
  t_2 : Object
abbrev R := Object
def retv (s : S) : R := (s.t_2)
noncomputable def r0 (s : S) : Option S := some { s with o_1 := s.o_0, t_2 := (⟨(0 : Int), [], []⟩ : Object) }
noncomputable def r1 (s : S) : Option S := (CloneI.f s.o_1.Links).bind fun x15 => (CloneB.f s.o_1.Data).bind fun x22 => some { s with t_2 := (⟨s.o_1.Kind, x15, x22⟩ : Object) }
noncomputable def body : S → Option (Ctl S R) := (seqM (regM r0)
  (seqM (regM r1)
  (retM retv)))
noncomputable def f (a0 : Object) : Option R := retOf (body { o_0 := a0, o_1 := (⟨(0 : Int), [], []⟩ : Object), t_2 := (⟨(0 : Int), [], []⟩ : Object) })
end objects_Clone

namespace partial_Filter
structure S where
  t_0 : ObjectStore
  t_1 : Int
  t_2 : ObjectStore
  t_4 : ObjectStore
  t_5 : (List Int)
  t_6 : Fault
  t_7 : Fault
  t_8 : ObjectStore
  t_9 : (List Int)
  t_11 : StoredObject
  t_16 : Bool
  t_24 : Bool
  t_29 : (List StoredObject)
  t_30 : Int
  t_31 : Int
  t_32 : Bool
  t_46 : Bool
abbrev R := (ObjectStore × (List Int) × Fault)
def retv (s : S) : R := (s.t_4, s.t_5, s.t_6)
noncomputable def r0 (s : S) : Option S := some { s with t_2 := s.t_0, t_4 := (⟨[]⟩ : ObjectStore), t_5 := [], t_6 := (⟨(0 : Int), (0 : Int)⟩ : Fault) }
noncomputable def r1 (s : S) : Option S := (objects_Validate.f s.t_2).bind fun x15 => some { s with t_7 := x15 }
noncomputable def r2 (s : S) : Option S := some { s with t_16 := (!decide (s.t_7 = (⟨(0 : Int), (0 : Int)⟩ : Fault))) }
noncomputable def r3 (s : S) : Option S := some { s with t_4 := (⟨[]⟩ : ObjectStore), t_5 := [], t_6 := s.t_7 }
noncomputable def r4 (s : S) : Option S := some { s with t_24 := ((decide (s.t_1 < (0 : Int))) || (decide ((1000 : Int) < s.t_1))) }
noncomputable def r5 (s : S) : Option S := some { s with t_4 := (⟨[]⟩ : ObjectStore), t_5 := [], t_6 := (⟨(3 : Int), (-1 : Int)⟩ : Fault) }
noncomputable def r6 (s : S) : Option S := some { s with t_8 := (⟨[]⟩ : ObjectStore), t_9 := [] }
noncomputable def r7 (s : S) : Option S := some { s with t_29 := s.t_2.Objects, t_30 := (s.t_2.Objects.length : Int), t_31 := (0 : Int) }
noncomputable def r8 (s : S) : Option S := some { s with t_32 := (decide (s.t_31 < s.t_30)) }
noncomputable def r9 (s : S) : Option S := (idx s.t_29 s.t_31).bind fun x70 => some { s with t_11 := x70 }
noncomputable def r10 (s : S) : Option S := some { s with t_46 := ((decide (s.t_11.Object.Kind = (1 : Int))) && (decide (s.t_1 < (s.t_11.Object.Data.length : Int)))) }
noncomputable def r11 (s : S) : Option S := (appL 8 s.t_9 [s.t_11.Digest]).bind fun x105 => some { s with t_9 := x105 }
noncomputable def r12 (s : S) : Option S := (objects_Clone.f s.t_11.Object).bind fun x140 => (appL 64 s.t_8.Objects [(⟨s.t_11.Digest, x140⟩ : StoredObject)]).bind fun x156 => some { s with t_8 := { s.t_8 with Objects := x156 } }
noncomputable def r13 (s : S) : Option S := some { s with t_31 := w64 (s.t_31 + (1 : Int)) }
noncomputable def r14 (s : S) : Option S := some { s with t_4 := (⟨s.t_8.Objects⟩ : ObjectStore), t_5 := s.t_9, t_6 := (⟨(0 : Int), (0 : Int)⟩ : Fault), t_8 := s.t_8 }
noncomputable def body : S → Option (Ctl S R) := (seqM (regM r0)
  (seqM (seqM (regM r1)
  (seqM (regM r2)
  (condM (fun s => s.t_16) (seqM (regM r3)
  (retM retv))
  skipM)))
  (seqM (seqM (regM r4)
  (condM (fun s => s.t_24) (seqM (regM r5)
  (retM retv))
  skipM))
  (seqM (regM r6)
  (seqM (seqM (regM r7)
  (blockM 0 (iterM (seqM (regM r8)
  (seqM (condM (fun s => s.t_32) skipM
  (extM 0))
  (seqM (blockM 1 (seqM (regM r9)
  (seqM (seqM (regM r10)
  (condM (fun s => s.t_46) (seqM (regM r11)
  (extM 1))
  skipM))
  (regM r12))))
  (regM r13)))))))
  (seqM (regM r14)
  (retM retv)))))))
noncomputable def f (a0 : ObjectStore) (a1 : Int) : Option R := retOf (body { t_0 := a0, t_1 := a1, t_2 := (⟨[]⟩ : ObjectStore), t_4 := (⟨[]⟩ : ObjectStore), t_5 := [], t_6 := (⟨(0 : Int), (0 : Int)⟩ : Fault), t_7 := (⟨(0 : Int), (0 : Int)⟩ : Fault), t_8 := (⟨[]⟩ : ObjectStore), t_9 := [], t_11 := (⟨(0 : Int), (⟨(0 : Int), [], []⟩ : Object)⟩ : StoredObject), t_16 := false, t_24 := false, t_29 := [], t_30 := (0 : Int), t_31 := (0 : Int), t_32 := false, t_46 := false })
end partial_Filter

namespace ref3_Ints
structure S where
  a_0 : (List Int)
  b_1 : (List Int)
  t_4 : Bool
  i_5 : Int
  t_10 : Bool
  t_14 : Bool
  t_25 : Bool
abbrev R := Bool
def retv (s : S) : R := (s.t_4)
noncomputable def r0 (s : S) : Option S := some { s with t_4 := false }
noncomputable def r1 (s : S) : Option S := some { s with t_10 := (!decide ((s.a_0.length : Int) = (s.b_1.length : Int))) }
noncomputable def r2 (s : S) : Option S := some { s with t_4 := false }
noncomputable def r3 (s : S) : Option S := some { s with i_5 := (0 : Int) }
noncomputable def r4 (s : S) : Option S := some { s with t_14 := (decide (s.i_5 < (s.a_0.length : Int))) }
noncomputable def r6 (s : S) : Option S := (idx s.a_0 s.i_5).bind fun x16 => (idx s.b_1 s.i_5).bind fun x26 => some { s with t_25 := (!decide (x16 = x26)) }
noncomputable def r7 (s : S) : Option S := some { s with t_4 := false }
noncomputable def r5 (s : S) : Option S := some { s with i_5 := w64 (s.i_5 + (1 : Int)) }
noncomputable def r8 (s : S) : Option S := some { s with t_4 := true }
noncomputable def body : S → Option (Ctl S R) := (seqM (regM r0)
  (seqM (seqM (regM r1)
  (condM (fun s => s.t_10) (seqM (regM r2)
  (retM retv))
  skipM))
  (seqM (seqM (regM r3)
  (blockM 0 (iterM (seqM (seqM (regM r4)
  (condM (fun s => s.t_14) skipM
  (extM 0)))
  (seqM (blockM 1 (seqM (regM r6)
  (condM (fun s => s.t_25) (seqM (regM r7)
  (retM retv))
  skipM)))
  (regM r5))))))
  (seqM (regM r8)
  (retM retv)))))
noncomputable def f (a0 : (List Int)) (a1 : (List Int)) : Option R := retOf (body { a_0 := a0, b_1 := a1, t_4 := false, i_5 := (0 : Int), t_10 := false, t_14 := false, t_25 := false })
end ref3_Ints

namespace ref3_Objects
structure S where
  a_0 : Object
  b_1 : Object
  a_2 : Object
  b_3 : Object
  t_4 : Bool
abbrev R := Bool
def retv (s : S) : R := (s.t_4)
noncomputable def r0 (s : S) : Option S := some { s with a_2 := s.a_0, b_3 := s.b_1, t_4 := false }
noncomputable def r1 (s : S) : Option S := ((if (decide (s.a_2.Kind = s.b_3.Kind)) = true then (ref3_Ints.f s.a_2.Links s.b_3.Links).bind fun x17 => some x17 else some false)).bind fun x22 => some { s with t_4 := (x22 && (decide ((strOf s.a_2.Data) = (strOf s.b_3.Data)))) }
noncomputable def body : S → Option (Ctl S R) := (seqM (regM r0)
  (seqM (regM r1)
  (retM retv)))
noncomputable def f (a0 : Object) (a1 : Object) : Option R := retOf (body { a_0 := a0, b_1 := a1, a_2 := (⟨(0 : Int), [], []⟩ : Object), b_3 := (⟨(0 : Int), [], []⟩ : Object), t_4 := false })
end ref3_Objects

namespace ref3_Stores
structure S where
  a_0 : ObjectStore
  b_1 : ObjectStore
  a_2 : ObjectStore
  b_3 : ObjectStore
  t_4 : Bool
  i_5 : Int
  t_12 : Bool
  t_17 : Bool
  t_48 : Bool
abbrev R := Bool
def retv (s : S) : R := (s.t_4)
noncomputable def r0 (s : S) : Option S := some { s with a_2 := s.a_0, b_3 := s.b_1, t_4 := false }
noncomputable def r1 (s : S) : Option S := some { s with t_12 := (!decide ((s.a_2.Objects.length : Int) = (s.b_3.Objects.length : Int))) }
noncomputable def r2 (s : S) : Option S := some { s with t_4 := false }
noncomputable def r3 (s : S) : Option S := some { s with i_5 := (0 : Int) }
noncomputable def r4 (s : S) : Option S := some { s with t_17 := (decide (s.i_5 < (s.a_2.Objects.length : Int))) }
noncomputable def r6 (s : S) : Option S := (idx s.a_2.Objects s.i_5).bind fun x36 => (idx s.b_3.Objects s.i_5).bind fun x49 => ((if (!decide (x36.Digest = x49.Digest)) = true then some true else (idx s.a_2.Objects s.i_5).bind fun x64 => (idx s.b_3.Objects s.i_5).bind fun x79 => (ref3_Objects.f x64.Object x79.Object).bind fun x91 => some (!x91))).bind fun x96 => some { s with t_48 := x96 }
noncomputable def r7 (s : S) : Option S := some { s with t_4 := false }
noncomputable def r5 (s : S) : Option S := some { s with i_5 := w64 (s.i_5 + (1 : Int)) }
noncomputable def r8 (s : S) : Option S := some { s with t_4 := true }
noncomputable def body : S → Option (Ctl S R) := (seqM (regM r0)
  (seqM (seqM (regM r1)
  (condM (fun s => s.t_12) (seqM (regM r2)
  (retM retv))
  skipM))
  (seqM (seqM (regM r3)
  (blockM 0 (iterM (seqM (seqM (regM r4)
  (condM (fun s => s.t_17) skipM
  (extM 0)))
  (seqM (blockM 1 (seqM (regM r6)
  (condM (fun s => s.t_48) (seqM (regM r7)
  (retM retv))
  skipM)))
  (regM r5))))))
  (seqM (regM r8)
  (retM retv)))))
noncomputable def f (a0 : ObjectStore) (a1 : ObjectStore) : Option R := retOf (body { a_0 := a0, b_1 := a1, a_2 := (⟨[]⟩ : ObjectStore), b_3 := (⟨[]⟩ : ObjectStore), t_4 := false, i_5 := (0 : Int), t_12 := false, t_17 := false, t_48 := false })
end ref3_Stores

namespace slices_BinarySearchFunc_api_StoredObject_api_StoredObject_int
structure S where
  x_0 : (List StoredObject)
  target_1 : Int
  cmp_2 : (StoredObject × Int → Option Int)
  t_6 : Int
  t_7 : Bool
  n_8 : Int
  i_9 : Int
  j_10 : Int
  h_11 : Int
  t_17 : Bool
  t_31 : Bool
abbrev R := (Int × Bool)
def retv (s : S) : R := (s.t_6, s.t_7)
noncomputable def r0 (s : S) : Option S := some { s with t_6 := (0 : Int), t_7 := false }
noncomputable def r1 (s : S) : Option S := some { s with n_8 := (s.x_0.length : Int) }
noncomputable def r2 (s : S) : Option S := some { s with i_9 := (0 : Int), j_10 := s.n_8 }
noncomputable def r3 (s : S) : Option S := some { s with t_17 := (decide (s.i_9 < s.j_10)) }
noncomputable def r4 (s : S) : Option S := some { s with h_11 := w64 (shrV .u64 (IntKind.u64.wrap (w64 (s.i_9 + s.j_10))) (1 : Int)) }
noncomputable def r5 (s : S) : Option S := (idx s.x_0 s.h_11).bind fun x6 => (s.cmp_2 (x6, s.target_1)).bind fun x18 => some { s with t_31 := (decide (x18 < (0 : Int))) }
noncomputable def r6 (s : S) : Option S := some { s with i_9 := w64 (s.h_11 + (1 : Int)) }
noncomputable def r7 (s : S) : Option S := some { s with j_10 := s.h_11 }
noncomputable def r8 (s : S) : Option S := ((if (decide (s.i_9 < s.n_8)) = true then (idx s.x_0 s.i_9).bind fun x23 => (s.cmp_2 (x23, s.target_1)).bind fun x35 => some (decide (x35 = (0 : Int))) else some false)).bind fun x38 => some { s with t_6 := s.i_9, t_7 := x38 }
noncomputable def body : S → Option (Ctl S R) := (seqM (regM r0)
  (seqM (regM r1)
  (seqM (regM r2)
  (seqM (blockM 0 (iterM (seqM (seqM (regM r3)
  (condM (fun s => s.t_17) skipM
  (extM 0)))
  (blockM 1 (seqM (regM r4)
  (seqM (regM r5)
  (condM (fun s => s.t_31) (regM r6)
  (regM r7))))))))
  (seqM (regM r8)
  (retM retv))))))
noncomputable def f (a0 : (List StoredObject)) (a1 : Int) (a2 : (StoredObject × Int → Option Int)) : Option R := retOf (body { x_0 := a0, target_1 := a1, cmp_2 := a2, t_6 := (0 : Int), t_7 := false, n_8 := (0 : Int), i_9 := (0 : Int), j_10 := (0 : Int), h_11 := (0 : Int), t_17 := false, t_31 := false })
end slices_BinarySearchFunc_api_StoredObject_api_StoredObject_int

namespace objects_find_1
structure S where
  o_0 : StoredObject
  d_1 : Int
  o_2 : StoredObject
  t_4 : Int
abbrev R := Int
def retv (s : S) : R := (s.t_4)
noncomputable def r0 (s : S) : Option S := some { s with o_2 := s.o_0, t_4 := (0 : Int) }
noncomputable def r1 (s : S) : Option S := some { s with t_4 := w64 (s.o_2.Digest - s.d_1) }
noncomputable def body : S → Option (Ctl S R) := (seqM (regM r0)
  (seqM (regM r1)
  (retM retv)))
noncomputable def f (a0 : StoredObject) (a1 : Int) : Option R := retOf (body { o_0 := a0, d_1 := a1, o_2 := (⟨(0 : Int), (⟨(0 : Int), [], []⟩ : Object)⟩ : StoredObject), t_4 := (0 : Int) })
end objects_find_1

namespace objects_find
structure S where
  s_0 : ObjectStore
  d_1 : Int
  s_2 : ObjectStore
  t_4 : Int
  t_5 : Bool
abbrev R := (Int × Bool)
def retv (s : S) : R := (s.t_4, s.t_5)
noncomputable def r0 (s : S) : Option S := some { s with s_2 := s.s_0, t_4 := (0 : Int), t_5 := false }
noncomputable def r1 (s : S) : Option S := (slices_BinarySearchFunc_api_StoredObject_api_StoredObject_int.f s.s_2.Objects s.d_1 (fun x => objects_find_1.f x.1 x.2)).bind fun x8 => some { s with t_4 := x8.1, t_5 := x8.2 }
noncomputable def body : S → Option (Ctl S R) := (seqM (regM r0)
  (seqM (regM r1)
  (retM retv)))
noncomputable def f (a0 : ObjectStore) (a1 : Int) : Option R := retOf (body { s_0 := a0, d_1 := a1, s_2 := (⟨[]⟩ : ObjectStore), t_4 := (0 : Int), t_5 := false })
end objects_find

namespace objects_Has
structure S where
  s_0 : ObjectStore
  d_1 : Int
  s_2 : ObjectStore
  t_4 : Bool
  t_5 : Fault
  f_6 : Fault
  there_8 : Bool
  t_13 : Bool
abbrev R := (Bool × Fault)
def retv (s : S) : R := (s.t_4, s.t_5)
noncomputable def r0 (s : S) : Option S := some { s with s_2 := s.s_0, t_4 := false, t_5 := (⟨(0 : Int), (0 : Int)⟩ : Fault) }
noncomputable def r1 (s : S) : Option S := (objects_Validate.f s.s_2).bind fun x11 => some { s with f_6 := x11 }
noncomputable def r2 (s : S) : Option S := some { s with t_13 := (!decide (s.f_6 = (⟨(0 : Int), (0 : Int)⟩ : Fault))) }
noncomputable def r3 (s : S) : Option S := some { s with t_4 := false, t_5 := s.f_6 }
noncomputable def r4 (s : S) : Option S := (objects_find.f s.s_2 s.d_1).bind fun x35 => some { s with there_8 := x35.2 }
noncomputable def r5 (s : S) : Option S := some { s with t_4 := s.there_8, t_5 := (⟨(0 : Int), (0 : Int)⟩ : Fault) }
noncomputable def body : S → Option (Ctl S R) := (seqM (regM r0)
  (seqM (seqM (regM r1)
  (seqM (regM r2)
  (condM (fun s => s.t_13) (seqM (regM r3)
  (retM retv))
  skipM)))
  (seqM (regM r4)
  (seqM (regM r5)
  (retM retv)))))
noncomputable def f (a0 : ObjectStore) (a1 : Int) : Option R := retOf (body { s_0 := a0, d_1 := a1, s_2 := (⟨[]⟩ : ObjectStore), t_4 := false, t_5 := (⟨(0 : Int), (0 : Int)⟩ : Fault), f_6 := (⟨(0 : Int), (0 : Int)⟩ : Fault), there_8 := false, t_13 := false })
end objects_Has

namespace partial_check
structure S where
  t_0 : ObjectStore
  t_1 : (List Int)
  t_2 : ObjectStore
  t_4 : Fault
  t_5 : Fault
  t_6 : Int
  t_7 : Int
  t_8 : Bool
  t_14 : Bool
  t_18 : Bool
  t_20 : (List Int)
  t_21 : Int
  t_22 : Int
  t_23 : Bool
  t_33 : Bool
  t_43 : Bool
  t_58 : Bool
abbrev R := Fault
def retv (s : S) : R := (s.t_4)
noncomputable def r0 (s : S) : Option S := some { s with t_2 := s.t_0, t_4 := (⟨(0 : Int), (0 : Int)⟩ : Fault) }
noncomputable def r1 (s : S) : Option S := (objects_Validate.f s.t_2).bind fun x11 => some { s with t_5 := x11 }
noncomputable def r2 (s : S) : Option S := some { s with t_14 := (!decide (s.t_5 = (⟨(0 : Int), (0 : Int)⟩ : Fault))) }
noncomputable def r3 (s : S) : Option S := some { s with t_4 := s.t_5 }
noncomputable def r4 (s : S) : Option S := some { s with t_18 := (decide ((40 : Int) < (s.t_1.length : Int))) }
noncomputable def r5 (s : S) : Option S := some { s with t_4 := (⟨(2 : Int), (-2 : Int)⟩ : Fault) }
noncomputable def r6 (s : S) : Option S := some { s with t_20 := s.t_1, t_21 := (s.t_1.length : Int), t_22 := (0 : Int) }
noncomputable def r7 (s : S) : Option S := some { s with t_23 := (decide (s.t_22 < s.t_21)) }
noncomputable def r8 (s : S) : Option S := (idx s.t_20 s.t_22).bind fun x47 => some { s with t_6 := s.t_22, t_7 := x47 }
noncomputable def r9 (s : S) : Option S := (objects_Has.f s.t_2 s.t_7).bind fun x59 => some { s with t_8 := x59.1 }
noncomputable def r10 (s : S) : Option S := some { s with t_33 := ((decide (s.t_7 < (0 : Int))) || (decide ((2305843009213693951 : Int) ≤ s.t_7))) }
noncomputable def r11 (s : S) : Option S := some { s with t_4 := (⟨(3 : Int), w64 ((-3 : Int) - s.t_6)⟩ : Fault) }
noncomputable def r12 (s : S) : Option S := ((if (decide ((0 : Int) < s.t_6)) = true then (idx s.t_1 (w64 (s.t_6 - (1 : Int)))).bind fun x82 => some (decide (s.t_7 ≤ x82)) else some false)).bind fun x92 => some { s with t_43 := x92 }
noncomputable def r13 (s : S) : Option S := some { s with t_4 := (⟨(5 : Int), w64 ((-3 : Int) - s.t_6)⟩ : Fault) }
noncomputable def r14 (s : S) : Option S := some { s with t_58 := s.t_8 }
noncomputable def r15 (s : S) : Option S := some { s with t_4 := (⟨(7 : Int), w64 ((-3 : Int) - s.t_6)⟩ : Fault) }
noncomputable def r16 (s : S) : Option S := some { s with t_22 := w64 (s.t_22 + (1 : Int)) }
noncomputable def r17 (s : S) : Option S := some { s with t_4 := (⟨(0 : Int), (0 : Int)⟩ : Fault) }
noncomputable def body : S → Option (Ctl S R) := (seqM (regM r0)
  (seqM (seqM (regM r1)
  (seqM (regM r2)
  (condM (fun s => s.t_14) (seqM (regM r3)
  (retM retv))
  skipM)))
  (seqM (seqM (regM r4)
  (condM (fun s => s.t_18) (seqM (regM r5)
  (retM retv))
  skipM))
  (seqM (seqM (regM r6)
  (blockM 0 (iterM (seqM (regM r7)
  (seqM (condM (fun s => s.t_23) skipM
  (extM 0))
  (seqM (blockM 1 (seqM (regM r8)
  (seqM (regM r9)
  (blockM 2 (seqM (regM r10)
  (condM (fun s => s.t_33) (seqM (regM r11)
  (retM retv))
  (seqM (regM r12)
  (condM (fun s => s.t_43) (seqM (regM r13)
  (retM retv))
  (seqM (regM r14)
  (condM (fun s => s.t_58) (seqM (regM r15)
  (retM retv))
  skipM))))))))))
  (regM r16)))))))
  (seqM (regM r17)
  (retM retv))))))
noncomputable def f (a0 : ObjectStore) (a1 : (List Int)) : Option R := retOf (body { t_0 := a0, t_1 := a1, t_2 := (⟨[]⟩ : ObjectStore), t_4 := (⟨(0 : Int), (0 : Int)⟩ : Fault), t_5 := (⟨(0 : Int), (0 : Int)⟩ : Fault), t_6 := (0 : Int), t_7 := (0 : Int), t_8 := false, t_14 := false, t_18 := false, t_20 := [], t_21 := (0 : Int), t_22 := (0 : Int), t_23 := false, t_33 := false, t_43 := false, t_58 := false })
end partial_check

namespace cmp_isNaN_int
structure S where
  x_0 : Int
  t_2 : Bool
abbrev R := Bool
def retv (s : S) : R := (s.t_2)
noncomputable def r0 (s : S) : Option S := some { s with t_2 := false }
noncomputable def r1 (s : S) : Option S := some { s with t_2 := (!decide (s.x_0 = s.x_0)) }
noncomputable def body : S → Option (Ctl S R) := (seqM (regM r0)
  (seqM (regM r1)
  (retM retv)))
noncomputable def f (a0 : Int) : Option R := retOf (body { x_0 := a0, t_2 := false })
end cmp_isNaN_int

namespace cmp_Less_int
structure S where
  x_0 : Int
  y_1 : Int
  t_4 : Bool
abbrev R := Bool
def retv (s : S) : R := (s.t_4)
noncomputable def r0 (s : S) : Option S := some { s with t_4 := false }
noncomputable def r1 (s : S) : Option S := (cmp_isNaN_int.f s.x_0).bind fun x1 => ((if x1 = true then (cmp_isNaN_int.f s.y_1).bind fun x8 => some (!x8) else some false)).bind fun x13 => some { s with t_4 := (x13 || (decide (s.x_0 < s.y_1))) }
noncomputable def body : S → Option (Ctl S R) := (seqM (regM r0)
  (seqM (regM r1)
  (retM retv)))
noncomputable def f (a0 : Int) (a1 : Int) : Option R := retOf (body { x_0 := a0, y_1 := a1, t_4 := false })
end cmp_Less_int

namespace slices_isNaN_int
structure S where
  x_0 : Int
  t_2 : Bool
abbrev R := Bool
def retv (s : S) : R := (s.t_2)
noncomputable def r0 (s : S) : Option S := some { s with t_2 := false }
noncomputable def r1 (s : S) : Option S := some { s with t_2 := (!decide (s.x_0 = s.x_0)) }
noncomputable def body : S → Option (Ctl S R) := (seqM (regM r0)
  (seqM (regM r1)
  (retM retv)))
noncomputable def f (a0 : Int) : Option R := retOf (body { x_0 := a0, t_2 := false })
end slices_isNaN_int

namespace slices_BinarySearch_int_int
structure S where
  x_0 : (List Int)
  target_1 : Int
  t_4 : Int
  t_5 : Bool
  n_6 : Int
  i_7 : Int
  j_8 : Int
  h_9 : Int
  t_15 : Bool
  t_27 : Bool
abbrev R := (Int × Bool)
def retv (s : S) : R := (s.t_4, s.t_5)
noncomputable def r0 (s : S) : Option S := some { s with t_4 := (0 : Int), t_5 := false }
noncomputable def r1 (s : S) : Option S := some { s with n_6 := (s.x_0.length : Int) }
noncomputable def r2 (s : S) : Option S := some { s with i_7 := (0 : Int), j_8 := s.n_6 }
noncomputable def r3 (s : S) : Option S := some { s with t_15 := (decide (s.i_7 < s.j_8)) }
noncomputable def r4 (s : S) : Option S := some { s with h_9 := w64 (shrV .u64 (IntKind.u64.wrap (w64 (s.i_7 + s.j_8))) (1 : Int)) }
noncomputable def r5 (s : S) : Option S := (idx s.x_0 s.h_9).bind fun x6 => (cmp_Less_int.f x6 s.target_1).bind fun x16 => some { s with t_27 := x16 }
noncomputable def r6 (s : S) : Option S := some { s with i_7 := w64 (s.h_9 + (1 : Int)) }
noncomputable def r7 (s : S) : Option S := some { s with j_8 := s.h_9 }
noncomputable def r8 (s : S) : Option S := ((if (decide (s.i_7 < s.n_6)) = true then (idx s.x_0 s.i_7).bind fun x23 => ((if (decide (x23 = s.target_1)) = true then some true else (idx s.x_0 s.i_7).bind fun x35 => (slices_isNaN_int.f x35).bind fun x45 => ((if x45 = true then (slices_isNaN_int.f s.target_1).bind fun x52 => some x52 else some false)).bind fun x57 => some x57)).bind fun x62 => some x62 else some false)).bind fun x67 => some { s with t_4 := s.i_7, t_5 := x67 }
noncomputable def body : S → Option (Ctl S R) := (seqM (regM r0)
  (seqM (regM r1)
  (seqM (regM r2)
  (seqM (blockM 0 (iterM (seqM (seqM (regM r3)
  (condM (fun s => s.t_15) skipM
  (extM 0)))
  (blockM 1 (seqM (regM r4)
  (seqM (regM r5)
  (condM (fun s => s.t_27) (regM r6)
  (regM r7))))))))
  (seqM (regM r8)
  (retM retv))))))
noncomputable def f (a0 : (List Int)) (a1 : Int) : Option R := retOf (body { x_0 := a0, target_1 := a1, t_4 := (0 : Int), t_5 := false, n_6 := (0 : Int), i_7 := (0 : Int), j_8 := (0 : Int), h_9 := (0 : Int), t_15 := false, t_27 := false })
end slices_BinarySearch_int_int

namespace objects_Get
structure S where
  s_0 : ObjectStore
  d_1 : Int
  s_2 : ObjectStore
  t_4 : Object
  t_5 : Fault
  f_6 : Fault
  at_7 : Int
  there_8 : Bool
  t_13 : Bool
  t_23 : Bool
abbrev R := (Object × Fault)
def retv (s : S) : R := (s.t_4, s.t_5)
noncomputable def r0 (s : S) : Option S := some { s with s_2 := s.s_0, t_4 := (⟨(0 : Int), [], []⟩ : Object), t_5 := (⟨(0 : Int), (0 : Int)⟩ : Fault) }
noncomputable def r1 (s : S) : Option S := (objects_Validate.f s.s_2).bind fun x15 => some { s with f_6 := x15 }
noncomputable def r2 (s : S) : Option S := some { s with t_13 := (!decide (s.f_6 = (⟨(0 : Int), (0 : Int)⟩ : Fault))) }
noncomputable def r3 (s : S) : Option S := some { s with t_4 := (⟨(0 : Int), [], []⟩ : Object), t_5 := s.f_6 }
noncomputable def r4 (s : S) : Option S := (objects_find.f s.s_2 s.d_1).bind fun x43 => some { s with at_7 := x43.1, there_8 := x43.2 }
noncomputable def r5 (s : S) : Option S := some { s with t_23 := (!s.there_8) }
noncomputable def r6 (s : S) : Option S := some { s with t_4 := (⟨(0 : Int), [], []⟩ : Object), t_5 := (⟨(6 : Int), (-1 : Int)⟩ : Fault) }
noncomputable def r7 (s : S) : Option S := (idx s.s_2.Objects s.at_7).bind fun x59 => (objects_Clone.f x59.Object).bind fun x71 => some { s with t_4 := x71, t_5 := (⟨(0 : Int), (0 : Int)⟩ : Fault) }
noncomputable def body : S → Option (Ctl S R) := (seqM (regM r0)
  (seqM (seqM (regM r1)
  (seqM (regM r2)
  (condM (fun s => s.t_13) (seqM (regM r3)
  (retM retv))
  skipM)))
  (seqM (regM r4)
  (seqM (seqM (regM r5)
  (condM (fun s => s.t_23) (seqM (regM r6)
  (retM retv))
  skipM))
  (seqM (regM r7)
  (retM retv))))))
noncomputable def f (a0 : ObjectStore) (a1 : Int) : Option R := retOf (body { s_0 := a0, d_1 := a1, s_2 := (⟨[]⟩ : ObjectStore), t_4 := (⟨(0 : Int), [], []⟩ : Object), t_5 := (⟨(0 : Int), (0 : Int)⟩ : Fault), f_6 := (⟨(0 : Int), (0 : Int)⟩ : Fault), at_7 := (0 : Int), there_8 := false, t_13 := false, t_23 := false })
end objects_Get

namespace partial_Needed
structure S where
  t_0 : ObjectStore
  t_1 : (List Int)
  t_2 : (List Int)
  t_3 : ObjectStore
  t_6 : (List Int)
  t_7 : Fault
  t_8 : Fault
  t_9 : (List (Int × Bool))
  t_10 : (List Int)
  t_11 : (List Int)
  t_12 : Int
  t_14 : Bool
  t_15 : Object
  t_16 : Fault
  t_22 : Bool
  t_26 : Bool
  t_33 : Bool
  t_41 : Bool
  t_50 : Bool
  t_63 : Bool
abbrev R := ((List Int) × Fault)
def retv (s : S) : R := (s.t_6, s.t_7)
noncomputable def r0 (s : S) : Option S := some { s with t_3 := s.t_0, t_6 := [], t_7 := (⟨(0 : Int), (0 : Int)⟩ : Fault) }
noncomputable def r1 (s : S) : Option S := (partial_check.f s.t_3 s.t_1).bind fun x11 => some { s with t_8 := x11 }
noncomputable def r2 (s : S) : Option S := some { s with t_22 := (!decide (s.t_8 = (⟨(0 : Int), (0 : Int)⟩ : Fault))) }
noncomputable def r3 (s : S) : Option S := some { s with t_6 := [], t_7 := s.t_8 }
noncomputable def r4 (s : S) : Option S := some { s with t_26 := (decide ((40 : Int) < (s.t_2.length : Int))) }
noncomputable def r5 (s : S) : Option S := some { s with t_6 := [], t_7 := (⟨(2 : Int), (-1 : Int)⟩ : Fault) }
noncomputable def r6 (s : S) : Option S := some { s with t_9 := [], t_10 := [] }
noncomputable def r7 (s : S) : Option S := (CloneI.f s.t_2).bind fun x46 => some { s with t_11 := x46 }
noncomputable def r8 (s : S) : Option S := some { s with t_33 := (decide ((0 : Int) < (s.t_11.length : Int))) }
noncomputable def r10 (s : S) : Option S := (idx s.t_11 (0 : Int)).bind fun x57 => some { s with t_12 := x57 }
noncomputable def r11 (s : S) : Option S := some { s with t_41 := ((mget s.t_9 s.t_12).getD false) }
noncomputable def r12 (s : S) : Option S := some { s with t_9 := mput s.t_9 s.t_12 true }
noncomputable def r13 (s : S) : Option S := (slices_BinarySearch_int_int.f s.t_1 s.t_12).bind fun x66 => some { s with t_14 := x66.2 }
noncomputable def r14 (s : S) : Option S := some { s with t_50 := s.t_14 }
noncomputable def r15 (s : S) : Option S := (appL 8 s.t_10 [s.t_12]).bind fun x76 => some { s with t_10 := x76 }
noncomputable def r16 (s : S) : Option S := (objects_Get.f s.t_3 s.t_12).bind fun x84 => some { s with t_15 := x84.1, t_16 := x84.2 }
noncomputable def r17 (s : S) : Option S := some { s with t_63 := (!decide (s.t_16 = (⟨(0 : Int), (0 : Int)⟩ : Fault))) }
noncomputable def r18 (s : S) : Option S := some { s with t_6 := [], t_7 := (⟨(6 : Int), (-1 : Int)⟩ : Fault) }
noncomputable def r19 (s : S) : Option S := (appL 8 s.t_11 s.t_15.Links).bind fun x117 => some { s with t_11 := x117 }
noncomputable def r9 (s : S) : Option S := (cutFrom s.t_11 (1 : Int)).bind fun x127 => some { s with t_11 := x127 }
noncomputable def r20 (s : S) : Option S := (SortI.f s.t_10).bind fun x130 => some { s with t_10 := x130 }
noncomputable def r21 (s : S) : Option S := some { s with t_6 := s.t_10, t_7 := (⟨(0 : Int), (0 : Int)⟩ : Fault) }
noncomputable def body : S → Option (Ctl S R) := (seqM (regM r0)
  (seqM (seqM (regM r1)
  (seqM (regM r2)
  (condM (fun s => s.t_22) (seqM (regM r3)
  (retM retv))
  skipM)))
  (seqM (seqM (regM r4)
  (condM (fun s => s.t_26) (seqM (regM r5)
  (retM retv))
  skipM))
  (seqM (regM r6)
  (seqM (seqM (regM r7)
  (blockM 0 (iterM (seqM (seqM (regM r8)
  (condM (fun s => s.t_33) skipM
  (extM 0)))
  (seqM (blockM 1 (seqM (regM r10)
  (seqM (seqM (regM r11)
  (condM (fun s => s.t_41) (extM 1)
  skipM))
  (seqM (regM r12)
  (seqM (seqM (regM r13)
  (seqM (regM r14)
  (condM (fun s => s.t_50) (seqM (regM r15)
  (extM 1))
  skipM)))
  (seqM (regM r16)
  (seqM (seqM (regM r17)
  (condM (fun s => s.t_63) (seqM (regM r18)
  (retM retv))
  skipM))
  (regM r19))))))))
  (regM r9))))))
  (seqM (regM r20)
  (seqM (regM r21)
  (retM retv))))))))
noncomputable def f (a0 : ObjectStore) (a1 : (List Int)) (a2 : (List Int)) : Option R := retOf (body { t_0 := a0, t_1 := a1, t_2 := a2, t_3 := (⟨[]⟩ : ObjectStore), t_6 := [], t_7 := (⟨(0 : Int), (0 : Int)⟩ : Fault), t_8 := (⟨(0 : Int), (0 : Int)⟩ : Fault), t_9 := [], t_10 := [], t_11 := [], t_12 := (0 : Int), t_14 := false, t_15 := (⟨(0 : Int), [], []⟩ : Object), t_16 := (⟨(0 : Int), (0 : Int)⟩ : Fault), t_22 := false, t_26 := false, t_33 := false, t_41 := false, t_50 := false, t_63 := false })
end partial_Needed

namespace objects_copied
structure S where
  s_0 : ObjectStore
  s_1 : ObjectStore
  t_2 : ObjectStore
  out_3 : ObjectStore
  o_5 : StoredObject
  t_8 : (List StoredObject)
  t_9 : Int
  t_10 : Int
  t_11 : Bool
abbrev R := ObjectStore
def retv (s : S) : R := (s.t_2)
noncomputable def r0 (s : S) : Option S := some { s with s_1 := s.s_0, t_2 := (⟨([] : (List StoredObject))⟩ : ObjectStore) }
noncomputable def r1 (s : S) : Option S := some { s with out_3 := (⟨[]⟩ : ObjectStore) }
noncomputable def r2 (s : S) : Option S := some { s with t_8 := s.s_1.Objects, t_9 := (s.s_1.Objects.length : Int), t_10 := (0 : Int) }
noncomputable def r3 (s : S) : Option S := some { s with t_11 := (decide (s.t_10 < s.t_9)) }
noncomputable def r4 (s : S) : Option S := (idx s.t_8 s.t_10).bind fun x25 => some { s with o_5 := x25 }
noncomputable def r5 (s : S) : Option S := (objects_Clone.f s.o_5.Object).bind fun x73 => (appL 64 s.out_3.Objects [(⟨s.o_5.Digest, x73⟩ : StoredObject)]).bind fun x89 => some { s with out_3 := { s.out_3 with Objects := x89 } }
noncomputable def r6 (s : S) : Option S := some { s with t_10 := w64 (s.t_10 + (1 : Int)) }
noncomputable def r7 (s : S) : Option S := some { s with t_2 := (⟨s.out_3.Objects⟩ : ObjectStore) }
noncomputable def body : S → Option (Ctl S R) := (seqM (regM r0)
  (seqM (regM r1)
  (seqM (seqM (regM r2)
  (blockM 0 (iterM (seqM (regM r3)
  (seqM (condM (fun s => s.t_11) skipM
  (extM 0))
  (seqM (blockM 1 (seqM (regM r4)
  (regM r5)))
  (regM r6)))))))
  (seqM (regM r7)
  (retM retv)))))
noncomputable def f (a0 : ObjectStore) : Option R := retOf (body { s_0 := a0, s_1 := (⟨[]⟩ : ObjectStore), t_2 := (⟨[]⟩ : ObjectStore), out_3 := (⟨[]⟩ : ObjectStore), o_5 := (⟨(0 : Int), (⟨(0 : Int), [], []⟩ : Object)⟩ : StoredObject), t_8 := [], t_9 := (0 : Int), t_10 := (0 : Int), t_11 := false })
end objects_copied

namespace slices_Equal_int_int
structure S where
  s1_0 : (List Int)
  s2_1 : (List Int)
  t_4 : Bool
  i_5 : Int
  t_10 : Bool
  t_12 : Int
  t_13 : Int
  t_14 : Bool
  t_24 : Bool
abbrev R := Bool
def retv (s : S) : R := (s.t_4)
noncomputable def r0 (s : S) : Option S := some { s with t_4 := false }
noncomputable def r1 (s : S) : Option S := some { s with t_10 := (!decide ((s.s1_0.length : Int) = (s.s2_1.length : Int))) }
noncomputable def r2 (s : S) : Option S := some { s with t_4 := false }
noncomputable def r3 (s : S) : Option S := some { s with t_12 := (s.s1_0.length : Int), t_13 := (0 : Int) }
noncomputable def r4 (s : S) : Option S := some { s with t_14 := (decide (s.t_13 < s.t_12)) }
noncomputable def r5 (s : S) : Option S := some { s with i_5 := s.t_13 }
noncomputable def r6 (s : S) : Option S := (idx s.s1_0 s.i_5).bind fun x16 => (idx s.s2_1 s.i_5).bind fun x26 => some { s with t_24 := (!decide (x16 = x26)) }
noncomputable def r7 (s : S) : Option S := some { s with t_4 := false }
noncomputable def r8 (s : S) : Option S := some { s with t_13 := w64 (s.t_13 + (1 : Int)) }
noncomputable def r9 (s : S) : Option S := some { s with t_4 := true }
noncomputable def body : S → Option (Ctl S R) := (seqM (regM r0)
  (seqM (seqM (regM r1)
  (condM (fun s => s.t_10) (seqM (regM r2)
  (retM retv))
  skipM))
  (seqM (seqM (regM r3)
  (blockM 0 (iterM (seqM (regM r4)
  (seqM (condM (fun s => s.t_14) skipM
  (extM 0))
  (seqM (blockM 1 (seqM (regM r5)
  (seqM (regM r6)
  (condM (fun s => s.t_24) (seqM (regM r7)
  (retM retv))
  skipM))))
  (regM r8)))))))
  (seqM (regM r9)
  (retM retv)))))
noncomputable def f (a0 : (List Int)) (a1 : (List Int)) : Option R := retOf (body { s1_0 := a0, s2_1 := a1, t_4 := false, i_5 := (0 : Int), t_10 := false, t_12 := (0 : Int), t_13 := (0 : Int), t_14 := false, t_24 := false })
end slices_Equal_int_int

namespace bytes_Equal
structure S where
  a_0 : (List UInt8)
  b_1 : (List UInt8)
  t_4 : Bool
abbrev R := Bool
def retv (s : S) : R := (s.t_4)
noncomputable def r0 (s : S) : Option S := some { s with t_4 := false }
noncomputable def r1 (s : S) : Option S := some { s with t_4 := (decide ((strOf s.a_0) = (strOf s.b_1))) }
noncomputable def body : S → Option (Ctl S R) := (seqM (regM r0)
  (seqM (regM r1)
  (retM retv)))
noncomputable def f (a0 : (List UInt8)) (a1 : (List UInt8)) : Option R := retOf (body { a_0 := a0, b_1 := a1, t_4 := false })
end bytes_Equal

namespace objects_Same
structure S where
  a_0 : Object
  b_1 : Object
  a_2 : Object
  b_3 : Object
  t_4 : Bool
abbrev R := Bool
def retv (s : S) : R := (s.t_4)
noncomputable def r0 (s : S) : Option S := some { s with a_2 := s.a_0, b_3 := s.b_1, t_4 := false }
noncomputable def r1 (s : S) : Option S := ((if (decide (s.a_2.Kind = s.b_3.Kind)) = true then (slices_Equal_int_int.f s.a_2.Links s.b_3.Links).bind fun x17 => some x17 else some false)).bind fun x22 => ((if x22 = true then (bytes_Equal.f s.a_2.Data s.b_3.Data).bind fun x35 => some x35 else some false)).bind fun x40 => some { s with t_4 := x40 }
noncomputable def body : S → Option (Ctl S R) := (seqM (regM r0)
  (seqM (regM r1)
  (retM retv)))
noncomputable def f (a0 : Object) (a1 : Object) : Option R := retOf (body { a_0 := a0, b_1 := a1, a_2 := (⟨(0 : Int), [], []⟩ : Object), b_3 := (⟨(0 : Int), [], []⟩ : Object), t_4 := false })
end objects_Same

namespace objects_Merge
structure S where
  t_0 : ObjectStore
  t_1 : ObjectStore
  t_2 : ObjectStore
  t_3 : ObjectStore
  t_4 : ObjectStore
  t_5 : Fault
  t_7 : ObjectStore
  t_8 : Fault
  t_9 : ObjectStore
  t_10 : Int
  t_11 : StoredObject
  t_12 : Int
  t_13 : Bool
  t_16 : (List ObjectStore)
  t_17 : Int
  t_18 : Int
  t_19 : Bool
  t_26 : Bool
  t_34 : (List StoredObject)
  t_35 : Int
  t_36 : Int
  t_37 : Bool
  t_48 : Bool
  t_65 : Bool
  t_79 : Bool
abbrev R := (ObjectStore × Fault)
def retv (s : S) : R := (s.t_4, s.t_5)
noncomputable def r0 (s : S) : Option S := some { s with t_2 := s.t_0, t_3 := s.t_1, t_4 := (⟨[]⟩ : ObjectStore), t_5 := (⟨(0 : Int), (0 : Int)⟩ : Fault) }
noncomputable def r1 (s : S) : Option S := some { s with t_16 := [s.t_2, s.t_3], t_17 := ([s.t_2, s.t_3].length : Int), t_18 := (0 : Int) }
noncomputable def r2 (s : S) : Option S := some { s with t_19 := (decide (s.t_18 < s.t_17)) }
noncomputable def r3 (s : S) : Option S := (idx s.t_16 s.t_18).bind fun x31 => some { s with t_7 := x31 }
noncomputable def r4 (s : S) : Option S := (objects_Validate.f s.t_7).bind fun x52 => some { s with t_8 := x52 }
noncomputable def r5 (s : S) : Option S := some { s with t_26 := (!decide (s.t_8 = (⟨(0 : Int), (0 : Int)⟩ : Fault))) }
noncomputable def r6 (s : S) : Option S := some { s with t_4 := (⟨[]⟩ : ObjectStore), t_5 := s.t_8 }
noncomputable def r7 (s : S) : Option S := some { s with t_18 := w64 (s.t_18 + (1 : Int)) }
noncomputable def r8 (s : S) : Option S := (objects_copied.f s.t_2).bind fun x81 => some { s with t_9 := (⟨x81.Objects⟩ : ObjectStore) }
noncomputable def r9 (s : S) : Option S := (objects_copied.f s.t_3).bind fun x99 => some { s with t_34 := (⟨x99.Objects⟩ : ObjectStore).Objects, t_35 := (((⟨x99.Objects⟩ : ObjectStore).Objects).length : Int), t_36 := (0 : Int) }
noncomputable def r10 (s : S) : Option S := some { s with t_37 := (decide (s.t_36 < s.t_35)) }
noncomputable def r11 (s : S) : Option S := (idx s.t_34 s.t_36).bind fun x120 => some { s with t_10 := s.t_36, t_11 := x120 }
noncomputable def r12 (s : S) : Option S := (objects_find.f (⟨s.t_9.Objects⟩ : ObjectStore) s.t_11.Digest).bind fun x142 => some { s with t_12 := x142.1, t_13 := x142.2 }
noncomputable def r13 (s : S) : Option S := ((if s.t_13 = true then (idx s.t_9.Objects s.t_12).bind fun x150 => (objects_Same.f x150.Object s.t_11.Object).bind fun x160 => some (!x160) else some false)).bind fun x165 => some { s with t_48 := x165 }
noncomputable def r14 (s : S) : Option S := some { s with t_4 := (⟨[]⟩ : ObjectStore), t_5 := (⟨(19 : Int), s.t_10⟩ : Fault) }
noncomputable def r15 (s : S) : Option S := some { s with t_65 := (!s.t_13) }
noncomputable def r16 (s : S) : Option S := (Insert.f s.t_9.Objects s.t_12 [s.t_11]).bind fun x186 => some { s with t_9 := { s.t_9 with Objects := x186 } }
noncomputable def r17 (s : S) : Option S := some { s with t_36 := w64 (s.t_36 + (1 : Int)) }
noncomputable def r18 (s : S) : Option S := some { s with t_79 := (decide ((40 : Int) < (s.t_9.Objects.length : Int))) }
noncomputable def r19 (s : S) : Option S := some { s with t_4 := (⟨[]⟩ : ObjectStore), t_5 := (⟨(14 : Int), (-1 : Int)⟩ : Fault) }
noncomputable def r20 (s : S) : Option S := some { s with t_4 := (⟨s.t_9.Objects⟩ : ObjectStore), t_5 := (⟨(0 : Int), (0 : Int)⟩ : Fault), t_9 := s.t_9 }
noncomputable def body : S → Option (Ctl S R) := (seqM (regM r0)
  (seqM (seqM (regM r1)
  (blockM 0 (iterM (seqM (regM r2)
  (seqM (condM (fun s => s.t_19) skipM
  (extM 0))
  (seqM (blockM 1 (seqM (regM r3)
  (seqM (regM r4)
  (seqM (regM r5)
  (condM (fun s => s.t_26) (seqM (regM r6)
  (retM retv))
  skipM)))))
  (regM r7)))))))
  (seqM (regM r8)
  (seqM (seqM (regM r9)
  (blockM 2 (iterM (seqM (regM r10)
  (seqM (condM (fun s => s.t_37) skipM
  (extM 2))
  (seqM (blockM 3 (seqM (regM r11)
  (seqM (regM r12)
  (blockM 4 (seqM (regM r13)
  (condM (fun s => s.t_48) (seqM (regM r14)
  (retM retv))
  (seqM (regM r15)
  (condM (fun s => s.t_65) (regM r16)
  skipM))))))))
  (regM r17)))))))
  (seqM (seqM (regM r18)
  (condM (fun s => s.t_79) (seqM (regM r19)
  (retM retv))
  skipM))
  (seqM (regM r20)
  (retM retv)))))))
noncomputable def f (a0 : ObjectStore) (a1 : ObjectStore) : Option R := retOf (body { t_0 := a0, t_1 := a1, t_2 := (⟨[]⟩ : ObjectStore), t_3 := (⟨[]⟩ : ObjectStore), t_4 := (⟨[]⟩ : ObjectStore), t_5 := (⟨(0 : Int), (0 : Int)⟩ : Fault), t_7 := (⟨[]⟩ : ObjectStore), t_8 := (⟨(0 : Int), (0 : Int)⟩ : Fault), t_9 := (⟨[]⟩ : ObjectStore), t_10 := (0 : Int), t_11 := (⟨(0 : Int), (⟨(0 : Int), [], []⟩ : Object)⟩ : StoredObject), t_12 := (0 : Int), t_13 := false, t_16 := [], t_17 := (0 : Int), t_18 := (0 : Int), t_19 := false, t_26 := false, t_34 := [], t_35 := (0 : Int), t_36 := (0 : Int), t_37 := false, t_48 := false, t_65 := false, t_79 := false })
end objects_Merge

namespace objects_Put
structure S where
  t_0 : ObjectStore
  t_1 : Object
  t_2 : ObjectStore
  t_3 : Object
  t_4 : ObjectStore
  t_5 : Int
  t_6 : Fault
  t_7 : Fault
  t_8 : Int
  t_9 : Fault
  t_10 : ObjectStore
  t_11 : Int
  t_12 : Bool
  t_17 : Bool
  t_27 : Bool
  t_40 : Bool
  t_55 : Bool
  t_60 : Bool
abbrev R := (ObjectStore × Int × Fault)
def retv (s : S) : R := (s.t_4, s.t_5, s.t_6)
noncomputable def r0 (s : S) : Option S := some { s with t_2 := s.t_0, t_3 := s.t_1, t_4 := (⟨[]⟩ : ObjectStore), t_5 := (0 : Int), t_6 := (⟨(0 : Int), (0 : Int)⟩ : Fault) }
noncomputable def r1 (s : S) : Option S := (objects_Validate.f s.t_2).bind fun x19 => some { s with t_7 := x19 }
noncomputable def r2 (s : S) : Option S := some { s with t_17 := (!decide (s.t_7 = (⟨(0 : Int), (0 : Int)⟩ : Fault))) }
noncomputable def r3 (s : S) : Option S := some { s with t_4 := (⟨[]⟩ : ObjectStore), t_5 := (0 : Int), t_6 := s.t_7 }
noncomputable def r4 (s : S) : Option S := (objects_Digest.f s.t_3).bind fun x48 => some { s with t_8 := x48.1, t_9 := x48.2 }
noncomputable def r5 (s : S) : Option S := some { s with t_27 := (!decide (s.t_9 = (⟨(0 : Int), (0 : Int)⟩ : Fault))) }
noncomputable def r6 (s : S) : Option S := some { s with t_4 := (⟨[]⟩ : ObjectStore), t_5 := (0 : Int), t_6 := (⟨s.t_9.Code, (-1 : Int)⟩ : Fault) }
noncomputable def r7 (s : S) : Option S := (objects_copied.f s.t_2).bind fun x76 => some { s with t_10 := (⟨x76.Objects⟩ : ObjectStore) }
noncomputable def r8 (s : S) : Option S := (objects_find.f s.t_2 s.t_8).bind fun x94 => some { s with t_11 := x94.1, t_12 := x94.2 }
noncomputable def r9 (s : S) : Option S := ((if s.t_12 = true then (idx s.t_2.Objects s.t_11).bind fun x104 => (objects_Same.f x104.Object s.t_3).bind fun x118 => some (!x118) else some false)).bind fun x123 => some { s with t_40 := x123 }
noncomputable def r10 (s : S) : Option S := some { s with t_4 := (⟨[]⟩ : ObjectStore), t_5 := (0 : Int), t_6 := (⟨(19 : Int), (-1 : Int)⟩ : Fault) }
noncomputable def r11 (s : S) : Option S := some { s with t_55 := s.t_12 }
noncomputable def r12 (s : S) : Option S := some { s with t_4 := (⟨s.t_10.Objects⟩ : ObjectStore), t_5 := s.t_8, t_6 := (⟨(0 : Int), (0 : Int)⟩ : Fault), t_10 := s.t_10 }
noncomputable def r13 (s : S) : Option S := some { s with t_60 := (decide ((s.t_2.Objects.length : Int) = (40 : Int))) }
noncomputable def r14 (s : S) : Option S := some { s with t_4 := (⟨[]⟩ : ObjectStore), t_5 := (0 : Int), t_6 := (⟨(14 : Int), (-1 : Int)⟩ : Fault) }
noncomputable def r15 (s : S) : Option S := (objects_Clone.f s.t_3).bind fun x198 => (Insert.f s.t_10.Objects s.t_11 [(⟨s.t_8, x198⟩ : StoredObject)]).bind fun x214 => some { s with t_10 := { s.t_10 with Objects := x214 } }
noncomputable def r16 (s : S) : Option S := some { s with t_4 := (⟨s.t_10.Objects⟩ : ObjectStore), t_5 := s.t_8, t_6 := (⟨(0 : Int), (0 : Int)⟩ : Fault), t_10 := s.t_10 }
noncomputable def body : S → Option (Ctl S R) := (seqM (regM r0)
  (seqM (seqM (regM r1)
  (seqM (regM r2)
  (condM (fun s => s.t_17) (seqM (regM r3)
  (retM retv))
  skipM)))
  (seqM (regM r4)
  (seqM (seqM (regM r5)
  (condM (fun s => s.t_27) (seqM (regM r6)
  (retM retv))
  skipM))
  (seqM (regM r7)
  (seqM (regM r8)
  (seqM (blockM 0 (seqM (regM r9)
  (condM (fun s => s.t_40) (seqM (regM r10)
  (retM retv))
  (seqM (regM r11)
  (condM (fun s => s.t_55) (seqM (regM r12)
  (retM retv))
  (seqM (regM r13)
  (condM (fun s => s.t_60) (seqM (regM r14)
  (retM retv))
  skipM)))))))
  (seqM (regM r15)
  (seqM (regM r16)
  (retM retv))))))))))
noncomputable def f (a0 : ObjectStore) (a1 : Object) : Option R := retOf (body { t_0 := a0, t_1 := a1, t_2 := (⟨[]⟩ : ObjectStore), t_3 := (⟨(0 : Int), [], []⟩ : Object), t_4 := (⟨[]⟩ : ObjectStore), t_5 := (0 : Int), t_6 := (⟨(0 : Int), (0 : Int)⟩ : Fault), t_7 := (⟨(0 : Int), (0 : Int)⟩ : Fault), t_8 := (0 : Int), t_9 := (⟨(0 : Int), (0 : Int)⟩ : Fault), t_10 := (⟨[]⟩ : ObjectStore), t_11 := (0 : Int), t_12 := false, t_17 := false, t_27 := false, t_40 := false, t_55 := false, t_60 := false })
end objects_Put

namespace partial_Fetch
structure S where
  t_0 : ObjectStore
  t_1 : (List Int)
  t_2 : ObjectStore
  t_3 : (List Int)
  t_4 : ObjectStore
  t_6 : ObjectStore
  t_8 : ObjectStore
  t_9 : (List Int)
  t_10 : Fault
  t_11 : Fault
  t_12 : Fault
  t_13 : (List Int)
  t_14 : ObjectStore
  t_16 : Int
  t_17 : Int
  t_18 : Int
  t_19 : Bool
  t_20 : Object
  t_21 : Fault
  t_27 : Bool
  t_34 : Bool
  t_41 : Bool
  t_52 : (List Int)
  t_53 : Int
  t_54 : Int
  t_55 : Bool
  t_66 : Bool
  t_78 : Bool
  t_91 : Bool
abbrev R := (ObjectStore × (List Int) × Fault)
def retv (s : S) : R := (s.t_8, s.t_9, s.t_10)
noncomputable def r0 (s : S) : Option S := some { s with t_4 := s.t_0, t_6 := s.t_2, t_8 := (⟨[]⟩ : ObjectStore), t_9 := [], t_10 := (⟨(0 : Int), (0 : Int)⟩ : Fault) }
noncomputable def r1 (s : S) : Option S := (partial_check.f s.t_4 s.t_1).bind fun x19 => some { s with t_11 := x19 }
noncomputable def r2 (s : S) : Option S := some { s with t_27 := (!decide (s.t_11 = (⟨(0 : Int), (0 : Int)⟩ : Fault))) }
noncomputable def r3 (s : S) : Option S := some { s with t_8 := (⟨[]⟩ : ObjectStore), t_9 := [], t_10 := s.t_11 }
noncomputable def r4 (s : S) : Option S := (objects_Validate.f s.t_6).bind fun x48 => some { s with t_12 := x48 }
noncomputable def r5 (s : S) : Option S := some { s with t_34 := (!decide (s.t_12 = (⟨(0 : Int), (0 : Int)⟩ : Fault))) }
noncomputable def r6 (s : S) : Option S := some { s with t_8 := (⟨[]⟩ : ObjectStore), t_9 := [], t_10 := (⟨s.t_12.Code, (-1 : Int)⟩ : Fault) }
noncomputable def r7 (s : S) : Option S := some { s with t_41 := (decide ((40 : Int) < (s.t_3.length : Int))) }
noncomputable def r8 (s : S) : Option S := some { s with t_8 := (⟨[]⟩ : ObjectStore), t_9 := [], t_10 := (⟨(2 : Int), (-1 : Int)⟩ : Fault) }
noncomputable def r9 (s : S) : Option S := (CloneI.f s.t_1).bind fun x88 => some { s with t_13 := x88 }
noncomputable def r10 (s : S) : Option S := (objects_Merge.f s.t_4 (⟨[]⟩ : ObjectStore)).bind fun x99 => some { s with t_14 := x99.1 }
noncomputable def r11 (s : S) : Option S := some { s with t_52 := s.t_3, t_53 := (s.t_3.length : Int), t_54 := (0 : Int) }
noncomputable def r12 (s : S) : Option S := some { s with t_55 := (decide (s.t_54 < s.t_53)) }
noncomputable def r13 (s : S) : Option S := (idx s.t_52 s.t_54).bind fun x127 => some { s with t_16 := s.t_54, t_17 := x127 }
noncomputable def r14 (s : S) : Option S := (slices_BinarySearch_int_int.f s.t_13 s.t_17).bind fun x138 => some { s with t_18 := x138.1, t_19 := x138.2 }
noncomputable def r15 (s : S) : Option S := some { s with t_66 := (!s.t_19) }
noncomputable def r16 (s : S) : Option S := some { s with t_8 := (⟨[]⟩ : ObjectStore), t_9 := [], t_10 := (⟨(6 : Int), s.t_16⟩ : Fault) }
noncomputable def r17 (s : S) : Option S := (objects_Get.f s.t_6 s.t_17).bind fun x155 => some { s with t_20 := x155.1, t_21 := x155.2 }
noncomputable def r18 (s : S) : Option S := some { s with t_78 := (!decide (s.t_21 = (⟨(0 : Int), (0 : Int)⟩ : Fault))) }
noncomputable def r19 (s : S) : Option S := some { s with t_8 := (⟨[]⟩ : ObjectStore), t_9 := [], t_10 := (⟨(17 : Int), s.t_16⟩ : Fault) }
noncomputable def r20 (s : S) : Option S := (objects_Put.f s.t_14 s.t_20).bind fun x194 => some { s with t_14 := x194.1, t_21 := x194.2.2 }
noncomputable def r21 (s : S) : Option S := some { s with t_91 := (!decide (s.t_21 = (⟨(0 : Int), (0 : Int)⟩ : Fault))) }
noncomputable def r22 (s : S) : Option S := some { s with t_8 := (⟨[]⟩ : ObjectStore), t_9 := [], t_10 := (⟨s.t_21.Code, s.t_16⟩ : Fault) }
noncomputable def r23 (s : S) : Option S := (Delete.f s.t_13 s.t_18 (w64 (s.t_18 + (1 : Int)))).bind fun x221 => some { s with t_13 := x221 }
noncomputable def r24 (s : S) : Option S := some { s with t_54 := w64 (s.t_54 + (1 : Int)) }
noncomputable def r25 (s : S) : Option S := some { s with t_8 := s.t_14, t_9 := s.t_13, t_10 := (⟨(0 : Int), (0 : Int)⟩ : Fault) }
noncomputable def body : S → Option (Ctl S R) := (seqM (regM r0)
  (seqM (seqM (regM r1)
  (seqM (regM r2)
  (condM (fun s => s.t_27) (seqM (regM r3)
  (retM retv))
  skipM)))
  (seqM (seqM (regM r4)
  (seqM (regM r5)
  (condM (fun s => s.t_34) (seqM (regM r6)
  (retM retv))
  skipM)))
  (seqM (seqM (regM r7)
  (condM (fun s => s.t_41) (seqM (regM r8)
  (retM retv))
  skipM))
  (seqM (regM r9)
  (seqM (regM r10)
  (seqM (seqM (regM r11)
  (blockM 0 (iterM (seqM (regM r12)
  (seqM (condM (fun s => s.t_55) skipM
  (extM 0))
  (seqM (blockM 1 (seqM (regM r13)
  (seqM (regM r14)
  (seqM (seqM (regM r15)
  (condM (fun s => s.t_66) (seqM (regM r16)
  (retM retv))
  skipM))
  (seqM (regM r17)
  (seqM (seqM (regM r18)
  (condM (fun s => s.t_78) (seqM (regM r19)
  (retM retv))
  skipM))
  (seqM (seqM (regM r20)
  (seqM (regM r21)
  (condM (fun s => s.t_91) (seqM (regM r22)
  (retM retv))
  skipM)))
  (regM r23))))))))
  (regM r24)))))))
  (seqM (regM r25)
  (retM retv)))))))))
noncomputable def f (a0 : ObjectStore) (a1 : (List Int)) (a2 : ObjectStore) (a3 : (List Int)) : Option R := retOf (body { t_0 := a0, t_1 := a1, t_2 := a2, t_3 := a3, t_4 := (⟨[]⟩ : ObjectStore), t_6 := (⟨[]⟩ : ObjectStore), t_8 := (⟨[]⟩ : ObjectStore), t_9 := [], t_10 := (⟨(0 : Int), (0 : Int)⟩ : Fault), t_11 := (⟨(0 : Int), (0 : Int)⟩ : Fault), t_12 := (⟨(0 : Int), (0 : Int)⟩ : Fault), t_13 := [], t_14 := (⟨[]⟩ : ObjectStore), t_16 := (0 : Int), t_17 := (0 : Int), t_18 := (0 : Int), t_19 := false, t_20 := (⟨(0 : Int), [], []⟩ : Object), t_21 := (⟨(0 : Int), (0 : Int)⟩ : Fault), t_27 := false, t_34 := false, t_41 := false, t_52 := [], t_53 := (0 : Int), t_54 := (0 : Int), t_55 := false, t_66 := false, t_78 := false, t_91 := false })
end partial_Fetch

namespace law4_small
structure S where
  t_0 : ObjectStore
  t_1 : Int
  t_2 : Int
  t_3 : Bool
  s_4 : ObjectStore
  a_5 : Int
  f_6 : Fault
  b_7 : Int
  g_8 : Fault
abbrev R := (ObjectStore × Int × Int × Bool)
def retv (s : S) : R := (s.t_0, s.t_1, s.t_2, s.t_3)
noncomputable def r0 (s : S) : Option S := some { s with t_0 := (⟨[]⟩ : ObjectStore), t_1 := (0 : Int), t_2 := (0 : Int), t_3 := false }
noncomputable def r1 (s : S) : Option S := (objects_Put.f (⟨[]⟩ : ObjectStore) (⟨(1 : Int), [], [(7 : UInt8)]⟩ : Object)).bind fun x18 => some { s with s_4 := x18.1, a_5 := x18.2.1, f_6 := x18.2.2 }
noncomputable def r2 (s : S) : Option S := (objects_Put.f s.s_4 (⟨(2 : Int), [s.a_5], []⟩ : Object)).bind fun x54 => some { s with s_4 := x54.1, b_7 := x54.2.1, g_8 := x54.2.2 }
noncomputable def r3 (s : S) : Option S := if (decide (s.f_6.Code = (0 : Int))) = true then if (decide (s.g_8.Code = (0 : Int))) = true then if (!decide (s.a_5 = s.b_7)) = true then some { s with t_0 := s.s_4, t_1 := s.a_5, t_2 := s.b_7, t_3 := (decide ((s.s_4.Objects.length : Int) = (2 : Int))) } else some { s with t_0 := s.s_4, t_1 := s.a_5, t_2 := s.b_7, t_3 := false } else some { s with t_0 := s.s_4, t_1 := s.a_5, t_2 := s.b_7, t_3 := false } else some { s with t_0 := s.s_4, t_1 := s.a_5, t_2 := s.b_7, t_3 := false }
noncomputable def body : S → Option (Ctl S R) := (seqM (regM r0)
  (seqM (regM r1)
  (seqM (regM r2)
  (seqM (regM r3)
  (retM retv)))))
noncomputable def f  : Option R := retOf (body { t_0 := (⟨[]⟩ : ObjectStore), t_1 := (0 : Int), t_2 := (0 : Int), t_3 := false, s_4 := (⟨[]⟩ : ObjectStore), a_5 := (0 : Int), f_6 := (⟨(0 : Int), (0 : Int)⟩ : Fault), b_7 := (0 : Int), g_8 := (⟨(0 : Int), (0 : Int)⟩ : Fault) })
end law4_small

namespace law4_partialExample
structure S where
  t_0 : Bool
  t_1 : ObjectStore
  t_2 : Int
  t_3 : Int
  t_4 : Bool
  t_5 : ObjectStore
  t_6 : (List Int)
  t_7 : Fault
  t_8 : (List Int)
  t_9 : Fault
  t_10 : ObjectStore
  t_11 : (List Int)
  t_12 : Fault
abbrev R := Bool
def retv (s : S) : R := (s.t_0)
noncomputable def r0 (s : S) : Option S := some { s with t_0 := false }
noncomputable def r1 (s : S) : Option S := (law4_small.f ).bind fun x1 => some { s with t_1 := x1.1, t_2 := x1.2.1, t_3 := x1.2.2.1, t_4 := x1.2.2.2 }
noncomputable def r2 (s : S) : Option S := (partial_Filter.f s.t_1 (0 : Int)).bind fun x17 => some { s with t_5 := x17.1, t_6 := x17.2.1, t_7 := x17.2.2 }
noncomputable def r3 (s : S) : Option S := (partial_Needed.f s.t_5 s.t_6 [s.t_3]).bind fun x52 => some { s with t_8 := x52.1, t_9 := x52.2 }
noncomputable def r4 (s : S) : Option S := (partial_Fetch.f s.t_5 s.t_6 s.t_1 [s.t_2]).bind fun x80 => some { s with t_10 := x80.1, t_11 := x80.2.1, t_12 := x80.2.2 }
noncomputable def r5 (s : S) : Option S := ((if ((((s.t_4 && (decide (s.t_7.Code = (0 : Int)))) && (decide (s.t_9.Code = (0 : Int)))) && (decide (s.t_12.Code = (0 : Int)))) && (decide ((s.t_5.Objects.length : Int) = (1 : Int)))) = true then (ref3_Ints.f s.t_6 [s.t_2]).bind fun x135 => some x135 else some false)).bind fun x140 => ((if x140 = true then (ref3_Ints.f s.t_8 [s.t_2]).bind fun x152 => some x152 else some false)).bind fun x157 => ((if (x157 && (decide ((s.t_11.length : Int) = (0 : Int)))) = true then (ref3_Stores.f s.t_10 s.t_1).bind fun x176 => some x176 else some false)).bind fun x181 => some { s with t_0 := x181 }
noncomputable def body : S → Option (Ctl S R) := (seqM (regM r0)
  (seqM (regM r1)
  (seqM (regM r2)
  (seqM (regM r3)
  (seqM (regM r4)
  (seqM (regM r5)
  (retM retv)))))))
noncomputable def f  : Option R := retOf (body { t_0 := false, t_1 := (⟨[]⟩ : ObjectStore), t_2 := (0 : Int), t_3 := (0 : Int), t_4 := false, t_5 := (⟨[]⟩ : ObjectStore), t_6 := [], t_7 := (⟨(0 : Int), (0 : Int)⟩ : Fault), t_8 := [], t_9 := (⟨(0 : Int), (0 : Int)⟩ : Fault), t_10 := (⟨[]⟩ : ObjectStore), t_11 := [], t_12 := (⟨(0 : Int), (0 : Int)⟩ : Fault) })
end law4_partialExample

namespace ref3_Fault
structure S where
  code_0 : Int
  index_1 : Int
  t_4 : Fault
abbrev R := Fault
def retv (s : S) : R := (s.t_4)
noncomputable def r0 (s : S) : Option S := some { s with t_4 := (⟨(0 : Int), (0 : Int)⟩ : Fault) }
noncomputable def r1 (s : S) : Option S := some { s with t_4 := (⟨s.code_0, s.index_1⟩ : Fault) }
noncomputable def body : S → Option (Ctl S R) := (seqM (regM r0)
  (seqM (regM r1)
  (retM retv)))
noncomputable def f (a0 : Int) (a1 : Int) : Option R := retOf (body { code_0 := a0, index_1 := a1, t_4 := (⟨(0 : Int), (0 : Int)⟩ : Fault) })
end ref3_Fault

namespace ref3_In
structure S where
  n_0 : Int
  low_1 : Int
  high_2 : Int
  t_6 : Bool
abbrev R := Bool
def retv (s : S) : R := (s.t_6)
noncomputable def r0 (s : S) : Option S := some { s with t_6 := false }
noncomputable def r1 (s : S) : Option S := some { s with t_6 := ((decide (s.low_1 ≤ s.n_0)) && (decide (s.n_0 ≤ s.high_2))) }
noncomputable def body : S → Option (Ctl S R) := (seqM (regM r0)
  (seqM (regM r1)
  (retM retv)))
noncomputable def f (a0 : Int) (a1 : Int) (a2 : Int) : Option R := retOf (body { n_0 := a0, low_1 := a1, high_2 := a2, t_6 := false })
end ref3_In

namespace ref3_ObjectFault
structure S where
  o_0 : Object
  o_1 : Object
  t_2 : Fault
  i_3 : Int
  t_7 : Bool
  t_12 : Bool
  t_17 : Bool
  t_27 : Bool
  t_33 : Bool
  t_42 : Bool
abbrev R := Fault
def retv (s : S) : R := (s.t_2)
noncomputable def r0 (s : S) : Option S := some { s with o_1 := s.o_0, t_2 := (⟨(0 : Int), (0 : Int)⟩ : Fault) }
noncomputable def r1 (s : S) : Option S := (ref3_In.f s.o_1.Kind (1 : Int) (3 : Int)).bind fun x9 => some { s with t_7 := (!x9) }
noncomputable def r2 (s : S) : Option S := (ref3_Fault.f (4 : Int) (0 : Int)).bind fun x14 => some { s with t_2 := x14 }
noncomputable def r3 (s : S) : Option S := some { s with t_12 := (decide ((30 : Int) < (s.o_1.Links.length : Int))) }
noncomputable def r4 (s : S) : Option S := (ref3_Fault.f (2 : Int) (0 : Int)).bind fun x32 => some { s with t_2 := x32 }
noncomputable def r5 (s : S) : Option S := some { s with t_17 := (decide ((1000 : Int) < (s.o_1.Data.length : Int))) }
noncomputable def r6 (s : S) : Option S := (ref3_Fault.f (10 : Int) (0 : Int)).bind fun x50 => some { s with t_2 := x50 }
noncomputable def r7 (s : S) : Option S := some { s with t_27 := ((decide (s.o_1.Kind = (1 : Int))) && (!decide ((s.o_1.Links.length : Int) = (0 : Int)))) }
noncomputable def r8 (s : S) : Option S := (ref3_Fault.f (5 : Int) (0 : Int)).bind fun x71 => some { s with t_2 := x71 }
noncomputable def r9 (s : S) : Option S := some { s with i_3 := (0 : Int) }
noncomputable def r10 (s : S) : Option S := some { s with t_33 := (decide (s.i_3 < (s.o_1.Links.length : Int))) }
noncomputable def r12 (s : S) : Option S := (idx s.o_1.Links s.i_3).bind fun x92 => (ref3_In.f x92 (0 : Int) (2305843009213693950 : Int)).bind fun x102 => some { s with t_42 := (!x102) }
noncomputable def r13 (s : S) : Option S := (ref3_Fault.f (3 : Int) s.i_3).bind fun x107 => some { s with t_2 := x107 }
noncomputable def r11 (s : S) : Option S := some { s with i_3 := w64 (s.i_3 + (1 : Int)) }
noncomputable def r14 (s : S) : Option S := some { s with t_2 := (⟨(0 : Int), (0 : Int)⟩ : Fault) }
noncomputable def body : S → Option (Ctl S R) := (seqM (regM r0)
  (seqM (seqM (regM r1)
  (condM (fun s => s.t_7) (seqM (regM r2)
  (retM retv))
  skipM))
  (seqM (seqM (regM r3)
  (condM (fun s => s.t_12) (seqM (regM r4)
  (retM retv))
  skipM))
  (seqM (seqM (regM r5)
  (condM (fun s => s.t_17) (seqM (regM r6)
  (retM retv))
  skipM))
  (seqM (seqM (regM r7)
  (condM (fun s => s.t_27) (seqM (regM r8)
  (retM retv))
  skipM))
  (seqM (seqM (regM r9)
  (blockM 0 (iterM (seqM (seqM (regM r10)
  (condM (fun s => s.t_33) skipM
  (extM 0)))
  (seqM (blockM 1 (seqM (regM r12)
  (condM (fun s => s.t_42) (seqM (regM r13)
  (retM retv))
  skipM)))
  (regM r11))))))
  (seqM (regM r14)
  (retM retv))))))))
noncomputable def f (a0 : Object) : Option R := retOf (body { o_0 := a0, o_1 := (⟨(0 : Int), [], []⟩ : Object), t_2 := (⟨(0 : Int), (0 : Int)⟩ : Fault), i_3 := (0 : Int), t_7 := false, t_12 := false, t_17 := false, t_27 := false, t_33 := false, t_42 := false })
end ref3_ObjectFault

namespace ref3_Wide
structure S where
  n_0 : Int
  t_2 : (List UInt8)
  out_3 : (List UInt8)
  i_4 : Int
  t_7 : Bool
abbrev R := (List UInt8)
def retv (s : S) : R := (s.t_2)
noncomputable def r0 (s : S) : Option S := some { s with t_2 := [] }
noncomputable def r1 (s : S) : Option S := (mkL 1 (0 : UInt8) (8 : Int)).bind fun x1 => some { s with out_3 := x1 }
noncomputable def r2 (s : S) : Option S := some { s with i_4 := (7 : Int) }
noncomputable def r3 (s : S) : Option S := some { s with t_7 := (decide ((0 : Int) ≤ s.i_4)) }
noncomputable def r5 (s : S) : Option S := (idx s.out_3 s.i_4).bind fun x6 => some { s with out_3 := setL s.out_3 s.i_4 (toByte (Int.tmod s.n_0 (256 : Int))) }
noncomputable def r6 (s : S) : Option S := some { s with n_0 := w64 (Int.tdiv s.n_0 (256 : Int)) }
noncomputable def r4 (s : S) : Option S := some { s with i_4 := w64 (s.i_4 - (1 : Int)) }
noncomputable def r7 (s : S) : Option S := some { s with t_2 := s.out_3 }
noncomputable def body : S → Option (Ctl S R) := (seqM (regM r0)
  (seqM (regM r1)
  (seqM (seqM (regM r2)
  (blockM 0 (iterM (seqM (seqM (regM r3)
  (condM (fun s => s.t_7) skipM
  (extM 0)))
  (seqM (blockM 1 (seqM (regM r5)
  (regM r6)))
  (regM r4))))))
  (seqM (regM r7)
  (retM retv)))))
noncomputable def f (a0 : Int) : Option R := retOf (body { n_0 := a0, t_2 := [], out_3 := [], i_4 := (0 : Int), t_7 := false })
end ref3_Wide

namespace ref3_double
structure S where
  n_0 : Int
  t_2 : Int
  t_7 : Bool
abbrev R := Int
def retv (s : S) : R := (s.t_2)
noncomputable def r0 (s : S) : Option S := some { s with t_2 := (0 : Int) }
noncomputable def r1 (s : S) : Option S := some { s with n_0 := w64 (s.n_0 + s.n_0) }
noncomputable def r2 (s : S) : Option S := some { s with t_7 := (decide ((2305843009213693951 : Int) ≤ s.n_0)) }
noncomputable def r3 (s : S) : Option S := some { s with n_0 := w64 (s.n_0 - (2305843009213693951 : Int)) }
noncomputable def r4 (s : S) : Option S := some { s with t_2 := s.n_0 }
noncomputable def body : S → Option (Ctl S R) := (seqM (regM r0)
  (seqM (regM r1)
  (seqM (seqM (regM r2)
  (condM (fun s => s.t_7) (regM r3)
  skipM))
  (seqM (regM r4)
  (retM retv)))))
noncomputable def f (a0 : Int) : Option R := retOf (body { n_0 := a0, t_2 := (0 : Int), t_7 := false })
end ref3_double

namespace ref3_times
structure S where
  n_0 : Int
  k_1 : Int
  t_4 : Int
  out_5 : Int
  t_7 : Bool
  t_10 : Bool
abbrev R := Int
def retv (s : S) : R := (s.t_4)
noncomputable def r0 (s : S) : Option S := some { s with t_4 := (0 : Int) }
noncomputable def r1 (s : S) : Option S := some { s with out_5 := (0 : Int) }
noncomputable def r2 (s : S) : Option S := some { s with t_7 := (decide ((0 : Int) < s.k_1)) }
noncomputable def r3 (s : S) : Option S := some { s with t_10 := (decide ((Int.tmod s.k_1 (2 : Int)) = (1 : Int))) }
noncomputable def r4 (s : S) : Option S := some { s with out_5 := Int.tmod (w64 (s.out_5 + s.n_0)) (2305843009213693951 : Int) }
noncomputable def r5 (s : S) : Option S := (ref3_double.f s.n_0).bind fun x1 => some { s with n_0 := x1 }
noncomputable def r6 (s : S) : Option S := some { s with k_1 := w64 (Int.tdiv s.k_1 (2 : Int)) }
noncomputable def r7 (s : S) : Option S := some { s with t_4 := s.out_5 }
noncomputable def body : S → Option (Ctl S R) := (seqM (regM r0)
  (seqM (regM r1)
  (seqM (blockM 0 (iterM (seqM (seqM (regM r2)
  (condM (fun s => s.t_7) skipM
  (extM 0)))
  (blockM 1 (seqM (seqM (regM r3)
  (condM (fun s => s.t_10) (regM r4)
  skipM))
  (seqM (regM r5)
  (regM r6)))))))
  (seqM (regM r7)
  (retM retv)))))
noncomputable def f (a0 : Int) (a1 : Int) : Option R := retOf (body { n_0 := a0, k_1 := a1, t_4 := (0 : Int), out_5 := (0 : Int), t_7 := false, t_10 := false })
end ref3_times

namespace ref3_DigestOf
structure S where
  b_0 : (List UInt8)
  t_2 : Int
  h_3 : Int
  i_4 : Int
  t_8 : Bool
abbrev R := Int
def retv (s : S) : R := (s.t_2)
noncomputable def r0 (s : S) : Option S := some { s with t_2 := (0 : Int) }
noncomputable def r1 (s : S) : Option S := some { s with h_3 := (1 : Int) }
noncomputable def r2 (s : S) : Option S := some { s with i_4 := (0 : Int) }
noncomputable def r3 (s : S) : Option S := some { s with t_8 := (decide (s.i_4 < (s.b_0.length : Int))) }
noncomputable def r5 (s : S) : Option S := (idx s.b_0 s.i_4).bind fun x6 => (ref3_times.f s.h_3 (257 : Int)).bind fun x16 => some { s with h_3 := Int.tmod (w64 (w64 (x16 + w64 ((x6.toNat : Int))) + (1 : Int))) (2305843009213693951 : Int) }
noncomputable def r4 (s : S) : Option S := some { s with i_4 := w64 (s.i_4 + (1 : Int)) }
noncomputable def r6 (s : S) : Option S := some { s with t_2 := s.h_3 }
noncomputable def body : S → Option (Ctl S R) := (seqM (regM r0)
  (seqM (regM r1)
  (seqM (seqM (regM r2)
  (blockM 0 (iterM (seqM (seqM (regM r3)
  (condM (fun s => s.t_8) skipM
  (extM 0)))
  (seqM (blockM 1 (regM r5))
  (regM r4))))))
  (seqM (regM r6)
  (retM retv)))))
noncomputable def f (a0 : (List UInt8)) : Option R := retOf (body { b_0 := a0, t_2 := (0 : Int), h_3 := (0 : Int), i_4 := (0 : Int), t_8 := false })
end ref3_DigestOf

namespace ref3_ObjectDigest
structure S where
  o_0 : Object
  o_1 : Object
  t_2 : Int
  b_3 : (List UInt8)
  i_4 : Int
  t_17 : Bool
abbrev R := Int
def retv (s : S) : R := (s.t_2)
noncomputable def r0 (s : S) : Option S := some { s with o_1 := s.o_0, t_2 := (0 : Int) }
noncomputable def r1 (s : S) : Option S := some { s with b_3 := [toByte s.o_1.Kind, toByte (s.o_1.Links.length : Int)] }
noncomputable def r2 (s : S) : Option S := some { s with i_4 := (0 : Int) }
noncomputable def r3 (s : S) : Option S := some { s with t_17 := (decide (s.i_4 < (s.o_1.Links.length : Int))) }
noncomputable def r5 (s : S) : Option S := (idx s.o_1.Links s.i_4).bind fun x28 => (ref3_Wide.f x28).bind fun x38 => (appL 1 s.b_3 x38).bind fun x48 => some { s with b_3 := x48 }
noncomputable def r4 (s : S) : Option S := some { s with i_4 := w64 (s.i_4 + (1 : Int)) }
noncomputable def r6 (s : S) : Option S := (appL 1 s.b_3 s.o_1.Data).bind fun x57 => (ref3_DigestOf.f x57).bind fun x64 => some { s with t_2 := x64 }
noncomputable def body : S → Option (Ctl S R) := (seqM (regM r0)
  (seqM (regM r1)
  (seqM (seqM (regM r2)
  (blockM 0 (iterM (seqM (seqM (regM r3)
  (condM (fun s => s.t_17) skipM
  (extM 0)))
  (seqM (blockM 1 (regM r5))
  (regM r4))))))
  (seqM (regM r6)
  (retM retv)))))
noncomputable def f (a0 : Object) : Option R := retOf (body { o_0 := a0, o_1 := (⟨(0 : Int), [], []⟩ : Object), t_2 := (0 : Int), b_3 := [], i_4 := (0 : Int), t_17 := false })
end ref3_ObjectDigest

namespace ref3_StoreFault
structure S where
  t_0 : ObjectStore
  t_1 : ObjectStore
  t_2 : Fault
  t_3 : Int
  t_4 : Fault
  t_8 : Bool
  t_14 : Bool
  t_26 : Bool
  t_44 : Bool
  t_64 : Bool
abbrev R := Fault
def retv (s : S) : R := (s.t_2)
noncomputable def r0 (s : S) : Option S := some { s with t_1 := s.t_0, t_2 := (⟨(0 : Int), (0 : Int)⟩ : Fault) }
noncomputable def r1 (s : S) : Option S := some { s with t_8 := (decide ((40 : Int) < (s.t_1.Objects.length : Int))) }
noncomputable def r2 (s : S) : Option S := (ref3_Fault.f (2 : Int) (0 : Int)).bind fun x17 => some { s with t_2 := x17 }
noncomputable def r3 (s : S) : Option S := some { s with t_3 := (0 : Int) }
noncomputable def r4 (s : S) : Option S := some { s with t_14 := (decide (s.t_3 < (s.t_1.Objects.length : Int))) }
noncomputable def r6 (s : S) : Option S := (idx s.t_1.Objects s.t_3).bind fun x38 => (ref3_ObjectFault.f x38.Object).bind fun x50 => some { s with t_4 := x50 }
noncomputable def r7 (s : S) : Option S := some { s with t_26 := (!decide (s.t_4.Code = (0 : Int))) }
noncomputable def r8 (s : S) : Option S := (ref3_Fault.f s.t_4.Code s.t_3).bind fun x64 => some { s with t_2 := x64 }
noncomputable def r9 (s : S) : Option S := (idx s.t_1.Objects s.t_3).bind fun x77 => (idx s.t_1.Objects s.t_3).bind fun x92 => (ref3_ObjectDigest.f x77.Object).bind fun x102 => some { s with t_44 := (!decide (x102 = x92.Digest)) }
noncomputable def r10 (s : S) : Option S := (ref3_Fault.f (18 : Int) s.t_3).bind fun x107 => some { s with t_2 := x107 }
noncomputable def r11 (s : S) : Option S := ((if (decide ((0 : Int) < s.t_3)) = true then (idx s.t_1.Objects s.t_3).bind fun x122 => (idx s.t_1.Objects (w64 (s.t_3 - (1 : Int)))).bind fun x135 => some (decide (x122.Digest ≤ x135.Digest)) else some false)).bind fun x145 => some { s with t_64 := x145 }
noncomputable def r12 (s : S) : Option S := (ref3_Fault.f (5 : Int) s.t_3).bind fun x147 => some { s with t_2 := x147 }
noncomputable def r5 (s : S) : Option S := some { s with t_3 := w64 (s.t_3 + (1 : Int)) }
noncomputable def r13 (s : S) : Option S := some { s with t_2 := (⟨(0 : Int), (0 : Int)⟩ : Fault) }
noncomputable def body : S → Option (Ctl S R) := (seqM (regM r0)
  (seqM (seqM (regM r1)
  (condM (fun s => s.t_8) (seqM (regM r2)
  (retM retv))
  skipM))
  (seqM (seqM (regM r3)
  (blockM 0 (iterM (seqM (seqM (regM r4)
  (condM (fun s => s.t_14) skipM
  (extM 0)))
  (seqM (blockM 1 (seqM (seqM (regM r6)
  (seqM (regM r7)
  (condM (fun s => s.t_26) (seqM (regM r8)
  (retM retv))
  skipM)))
  (seqM (seqM (regM r9)
  (condM (fun s => s.t_44) (seqM (regM r10)
  (retM retv))
  skipM))
  (seqM (regM r11)
  (condM (fun s => s.t_64) (seqM (regM r12)
  (retM retv))
  skipM)))))
  (regM r5))))))
  (seqM (regM r13)
  (retM retv)))))
noncomputable def f (a0 : ObjectStore) : Option R := retOf (body { t_0 := a0, t_1 := (⟨[]⟩ : ObjectStore), t_2 := (⟨(0 : Int), (0 : Int)⟩ : Fault), t_3 := (0 : Int), t_4 := (⟨(0 : Int), (0 : Int)⟩ : Fault), t_8 := false, t_14 := false, t_26 := false, t_44 := false, t_64 := false })
end ref3_StoreFault

namespace ref3_Has
structure S where
  l_0 : (List Int)
  n_1 : Int
  t_4 : Bool
  i_5 : Int
  t_9 : Bool
  t_17 : Bool
abbrev R := Bool
def retv (s : S) : R := (s.t_4)
noncomputable def r0 (s : S) : Option S := some { s with t_4 := false }
noncomputable def r1 (s : S) : Option S := some { s with i_5 := (0 : Int) }
noncomputable def r2 (s : S) : Option S := some { s with t_9 := (decide (s.i_5 < (s.l_0.length : Int))) }
noncomputable def r4 (s : S) : Option S := (idx s.l_0 s.i_5).bind fun x6 => some { s with t_17 := (decide (x6 = s.n_1)) }
noncomputable def r5 (s : S) : Option S := some { s with t_4 := true }
noncomputable def r3 (s : S) : Option S := some { s with i_5 := w64 (s.i_5 + (1 : Int)) }
noncomputable def r6 (s : S) : Option S := some { s with t_4 := false }
noncomputable def body : S → Option (Ctl S R) := (seqM (regM r0)
  (seqM (seqM (regM r1)
  (blockM 0 (iterM (seqM (seqM (regM r2)
  (condM (fun s => s.t_9) skipM
  (extM 0)))
  (seqM (blockM 1 (seqM (regM r4)
  (condM (fun s => s.t_17) (seqM (regM r5)
  (retM retv))
  skipM)))
  (regM r3))))))
  (seqM (regM r6)
  (retM retv))))
noncomputable def f (a0 : (List Int)) (a1 : Int) : Option R := retOf (body { l_0 := a0, n_1 := a1, t_4 := false, i_5 := (0 : Int), t_9 := false, t_17 := false })
end ref3_Has

namespace ref3_At
structure S where
  s_0 : ObjectStore
  d_1 : Int
  s_2 : ObjectStore
  t_4 : Int
  i_5 : Int
  t_10 : Bool
  t_20 : Bool
abbrev R := Int
def retv (s : S) : R := (s.t_4)
noncomputable def r0 (s : S) : Option S := some { s with s_2 := s.s_0, t_4 := (0 : Int) }
noncomputable def r1 (s : S) : Option S := some { s with i_5 := (0 : Int) }
noncomputable def r2 (s : S) : Option S := some { s with t_10 := (decide (s.i_5 < (s.s_2.Objects.length : Int))) }
noncomputable def r4 (s : S) : Option S := (idx s.s_2.Objects s.i_5).bind fun x16 => some { s with t_20 := (decide (x16.Digest = s.d_1)) }
noncomputable def r5 (s : S) : Option S := some { s with t_4 := s.i_5 }
noncomputable def r3 (s : S) : Option S := some { s with i_5 := w64 (s.i_5 + (1 : Int)) }
noncomputable def r6 (s : S) : Option S := some { s with t_4 := (-1 : Int) }
noncomputable def body : S → Option (Ctl S R) := (seqM (regM r0)
  (seqM (seqM (regM r1)
  (blockM 0 (iterM (seqM (seqM (regM r2)
  (condM (fun s => s.t_10) skipM
  (extM 0)))
  (seqM (blockM 1 (seqM (regM r4)
  (condM (fun s => s.t_20) (seqM (regM r5)
  (retM retv))
  skipM)))
  (regM r3))))))
  (seqM (regM r6)
  (retM retv))))
noncomputable def f (a0 : ObjectStore) (a1 : Int) : Option R := retOf (body { s_0 := a0, d_1 := a1, s_2 := (⟨[]⟩ : ObjectStore), t_4 := (0 : Int), i_5 := (0 : Int), t_10 := false, t_20 := false })
end ref3_At

namespace ref4_PromiseFault
structure S where
  s_0 : ObjectStore
  promised_1 : (List Int)
  s_2 : ObjectStore
  t_4 : Fault
  f_5 : Fault
  i_6 : Int
  t_11 : Bool
  t_15 : Bool
  t_20 : Bool
  t_28 : Bool
  t_45 : Bool
  t_55 : Bool
abbrev R := Fault
def retv (s : S) : R := (s.t_4)
noncomputable def r0 (s : S) : Option S := some { s with s_2 := s.s_0, t_4 := (⟨(0 : Int), (0 : Int)⟩ : Fault) }
noncomputable def r1 (s : S) : Option S := (ref3_StoreFault.f s.s_2).bind fun x11 => some { s with f_5 := x11 }
noncomputable def r2 (s : S) : Option S := some { s with t_11 := (!decide (s.f_5.Code = (0 : Int))) }
noncomputable def r3 (s : S) : Option S := some { s with t_4 := s.f_5 }
noncomputable def r4 (s : S) : Option S := some { s with t_15 := (decide ((40 : Int) < (s.promised_1.length : Int))) }
noncomputable def r5 (s : S) : Option S := (ref3_Fault.f (2 : Int) (-2 : Int)).bind fun x35 => some { s with t_4 := x35 }
noncomputable def r6 (s : S) : Option S := some { s with i_6 := (0 : Int) }
noncomputable def r7 (s : S) : Option S := some { s with t_20 := (decide (s.i_6 < (s.promised_1.length : Int))) }
noncomputable def r9 (s : S) : Option S := (idx s.promised_1 s.i_6).bind fun x50 => (ref3_In.f x50 (0 : Int) (2305843009213693950 : Int)).bind fun x60 => some { s with t_28 := (!x60) }
noncomputable def r10 (s : S) : Option S := (ref3_Fault.f (3 : Int) (w64 ((-3 : Int) - s.i_6))).bind fun x65 => some { s with t_4 := x65 }
noncomputable def r11 (s : S) : Option S := ((if (decide ((0 : Int) < s.i_6)) = true then (idx s.promised_1 (w64 (s.i_6 - (1 : Int)))).bind fun x77 => (idx s.promised_1 s.i_6).bind fun x87 => some (decide (x87 ≤ x77)) else some false)).bind fun x97 => some { s with t_45 := x97 }
noncomputable def r12 (s : S) : Option S := (ref3_Fault.f (5 : Int) (w64 ((-3 : Int) - s.i_6))).bind fun x99 => some { s with t_4 := x99 }
noncomputable def r13 (s : S) : Option S := (idx s.promised_1 s.i_6).bind fun x111 => (ref3_At.f s.s_2 x111).bind fun x121 => some { s with t_55 := (decide ((0 : Int) ≤ x121)) }
noncomputable def r14 (s : S) : Option S := (ref3_Fault.f (7 : Int) (w64 ((-3 : Int) - s.i_6))).bind fun x126 => some { s with t_4 := x126 }
noncomputable def r8 (s : S) : Option S := some { s with i_6 := w64 (s.i_6 + (1 : Int)) }
noncomputable def r15 (s : S) : Option S := some { s with t_4 := (⟨(0 : Int), (0 : Int)⟩ : Fault) }
noncomputable def body : S → Option (Ctl S R) := (seqM (regM r0)
  (seqM (seqM (regM r1)
  (seqM (regM r2)
  (condM (fun s => s.t_11) (seqM (regM r3)
  (retM retv))
  skipM)))
  (seqM (seqM (regM r4)
  (condM (fun s => s.t_15) (seqM (regM r5)
  (retM retv))
  skipM))
  (seqM (seqM (regM r6)
  (blockM 0 (iterM (seqM (seqM (regM r7)
  (condM (fun s => s.t_20) skipM
  (extM 0)))
  (seqM (blockM 1 (seqM (seqM (regM r9)
  (condM (fun s => s.t_28) (seqM (regM r10)
  (retM retv))
  skipM))
  (seqM (seqM (regM r11)
  (condM (fun s => s.t_45) (seqM (regM r12)
  (retM retv))
  skipM))
  (seqM (regM r13)
  (condM (fun s => s.t_55) (seqM (regM r14)
  (retM retv))
  skipM)))))
  (regM r8))))))
  (seqM (regM r15)
  (retM retv))))))
noncomputable def f (a0 : ObjectStore) (a1 : (List Int)) : Option R := retOf (body { s_0 := a0, promised_1 := a1, s_2 := (⟨[]⟩ : ObjectStore), t_4 := (⟨(0 : Int), (0 : Int)⟩ : Fault), f_5 := (⟨(0 : Int), (0 : Int)⟩ : Fault), i_6 := (0 : Int), t_11 := false, t_15 := false, t_20 := false, t_28 := false, t_45 := false, t_55 := false })
end ref4_PromiseFault

namespace ref4_Chosen
structure S where
  s_0 : ObjectStore
  in_1 : (List Bool)
  which_2 : Bool
  s_3 : ObjectStore
  t_6 : ObjectStore
  out_7 : ObjectStore
  i_8 : Int
  t_13 : Bool
  t_21 : Bool
abbrev R := ObjectStore
def retv (s : S) : R := (s.t_6)
noncomputable def r0 (s : S) : Option S := some { s with s_3 := s.s_0, t_6 := (⟨[]⟩ : ObjectStore) }
noncomputable def r1 (s : S) : Option S := some { s with out_7 := (⟨[]⟩ : ObjectStore) }
noncomputable def r2 (s : S) : Option S := some { s with i_8 := (0 : Int) }
noncomputable def r3 (s : S) : Option S := some { s with t_13 := (decide (s.i_8 < (s.in_1.length : Int))) }
noncomputable def r5 (s : S) : Option S := (idx s.in_1 s.i_8).bind fun x22 => some { s with t_21 := (decide (x22 = s.which_2)) }
noncomputable def r6 (s : S) : Option S := (idx s.s_3.Objects s.i_8).bind fun x64 => (appL 64 s.out_7.Objects [x64]).bind fun x81 => some { s with out_7 := { s.out_7 with Objects := x81 } }
noncomputable def r4 (s : S) : Option S := some { s with i_8 := w64 (s.i_8 + (1 : Int)) }
noncomputable def r7 (s : S) : Option S := some { s with t_6 := (⟨s.out_7.Objects⟩ : ObjectStore), out_7 := s.out_7 }
noncomputable def body : S → Option (Ctl S R) := (seqM (regM r0)
  (seqM (regM r1)
  (seqM (seqM (regM r2)
  (blockM 0 (iterM (seqM (seqM (regM r3)
  (condM (fun s => s.t_13) skipM
  (extM 0)))
  (seqM (blockM 1 (seqM (regM r5)
  (condM (fun s => s.t_21) (regM r6)
  skipM)))
  (regM r4))))))
  (seqM (regM r7)
  (retM retv)))))
noncomputable def f (a0 : ObjectStore) (a1 : (List Bool)) (a2 : Bool) : Option R := retOf (body { s_0 := a0, in_1 := a1, which_2 := a2, s_3 := (⟨[]⟩ : ObjectStore), t_6 := (⟨[]⟩ : ObjectStore), out_7 := (⟨[]⟩ : ObjectStore), i_8 := (0 : Int), t_13 := false, t_21 := false })
end ref4_Chosen

namespace ref4_DigestsOf
structure S where
  s_0 : ObjectStore
  s_1 : ObjectStore
  t_2 : (List Int)
  out_3 : (List Int)
  i_4 : Int
  t_9 : Bool
abbrev R := (List Int)
def retv (s : S) : R := (s.t_2)
noncomputable def r0 (s : S) : Option S := some { s with s_1 := s.s_0, t_2 := [] }
noncomputable def r1 (s : S) : Option S := some { s with out_3 := [] }
noncomputable def r2 (s : S) : Option S := some { s with i_4 := (0 : Int) }
noncomputable def r3 (s : S) : Option S := some { s with t_9 := (decide (s.i_4 < (s.s_1.Objects.length : Int))) }
noncomputable def r5 (s : S) : Option S := (idx s.s_1.Objects s.i_4).bind fun x16 => (appL 8 s.out_3 [x16.Digest]).bind fun x31 => some { s with out_3 := x31 }
noncomputable def r4 (s : S) : Option S := some { s with i_4 := w64 (s.i_4 + (1 : Int)) }
noncomputable def r6 (s : S) : Option S := some { s with t_2 := s.out_3 }
noncomputable def body : S → Option (Ctl S R) := (seqM (regM r0)
  (seqM (regM r1)
  (seqM (seqM (regM r2)
  (blockM 0 (iterM (seqM (seqM (regM r3)
  (condM (fun s => s.t_9) skipM
  (extM 0)))
  (seqM (blockM 1 (regM r5))
  (regM r4))))))
  (seqM (regM r6)
  (retM retv)))))
noncomputable def f (a0 : ObjectStore) : Option R := retOf (body { s_0 := a0, s_1 := (⟨[]⟩ : ObjectStore), t_2 := [], out_3 := [], i_4 := (0 : Int), t_9 := false })
end ref4_DigestsOf

namespace law4_PartialFilterMatchesSpec
structure S where
  t_0 : ObjectStore
  t_1 : Int
  t_2 : ObjectStore
  t_4 : Bool
  t_5 : ObjectStore
  t_6 : (List Int)
  t_7 : Fault
  t_8 : Fault
  t_9 : (List Bool)
  t_10 : Int
  t_12 : Bool
  t_29 : Bool
  t_33 : Bool
  t_53 : Bool
abbrev R := Bool
def retv (s : S) : R := (s.t_4)
noncomputable def r0 (s : S) : Option S := some { s with t_2 := s.t_0, t_4 := false }
noncomputable def r1 (s : S) : Option S := (law4_partialExample.f ).bind fun x5 => some { s with t_12 := (!x5) }
noncomputable def r2 (s : S) : Option S := some { s with t_4 := false }
noncomputable def r3 (s : S) : Option S := (partial_Filter.f s.t_2 s.t_1).bind fun x12 => some { s with t_5 := x12.1, t_6 := x12.2.1, t_7 := x12.2.2 }
noncomputable def r4 (s : S) : Option S := (ref3_StoreFault.f s.t_2).bind fun x42 => some { s with t_8 := x42 }
noncomputable def r5 (s : S) : Option S := ((if (decide (s.t_8.Code = (0 : Int))) = true then (ref3_In.f s.t_1 (0 : Int) (1000 : Int)).bind fun x58 => some (!x58) else some false)).bind fun x63 => some { s with t_29 := x63 }
noncomputable def r6 (s : S) : Option S := (ref3_Fault.f (3 : Int) (-1 : Int)).bind fun x68 => some { s with t_8 := x68 }
noncomputable def r7 (s : S) : Option S := some { s with t_33 := (!decide (s.t_8.Code = (0 : Int))) }
noncomputable def r8 (s : S) : Option S := some { s with t_4 := ((decide (s.t_7 = s.t_8)) && (decide ((w64 ((s.t_5.Objects.length : Int) + (s.t_6.length : Int))) = (0 : Int)))) }
noncomputable def r9 (s : S) : Option S := (mkL 1 false (s.t_2.Objects.length : Int)).bind fun x106 => some { s with t_9 := x106 }
noncomputable def r10 (s : S) : Option S := some { s with t_10 := (0 : Int) }
noncomputable def r11 (s : S) : Option S := some { s with t_53 := (decide (s.t_10 < (s.t_9.length : Int))) }
noncomputable def r13 (s : S) : Option S := (idx s.t_2.Objects s.t_10).bind fun x118 => ((if (!decide (x118.Object.Kind = (1 : Int))) = true then some true else (idx s.t_2.Objects s.t_10).bind fun x133 => some (decide ((x133.Object.Data.length : Int) ≤ s.t_1)))).bind fun x151 => (idx s.t_9 s.t_10).bind fun x153 => some { s with t_9 := setL s.t_9 s.t_10 x151 }
noncomputable def r12 (s : S) : Option S := some { s with t_10 := w64 (s.t_10 + (1 : Int)) }
noncomputable def r14 (s : S) : Option S := if (decide (s.t_7.Code = (0 : Int))) = true then (ref4_Chosen.f s.t_2 s.t_9 true).bind fun x170 => (ref3_Stores.f s.t_5 x170).bind fun x177 => if x177 = true then (ref4_Chosen.f s.t_2 s.t_9 false).bind fun x185 => (ref4_DigestsOf.f x185).bind fun x192 => (ref3_Ints.f s.t_6 x192).bind fun x200 => some { s with t_4 := x200 } else some { s with t_4 := false } else some { s with t_4 := false }
noncomputable def body : S → Option (Ctl S R) := (seqM (regM r0)
  (seqM (seqM (regM r1)
  (condM (fun s => s.t_12) (seqM (regM r2)
  (retM retv))
  skipM))
  (seqM (regM r3)
  (seqM (regM r4)
  (seqM (seqM (regM r5)
  (condM (fun s => s.t_29) (regM r6)
  skipM))
  (seqM (seqM (regM r7)
  (condM (fun s => s.t_33) (seqM (regM r8)
  (retM retv))
  skipM))
  (seqM (regM r9)
  (seqM (seqM (regM r10)
  (blockM 0 (iterM (seqM (seqM (regM r11)
  (condM (fun s => s.t_53) skipM
  (extM 0)))
  (seqM (blockM 1 (regM r13))
  (regM r12))))))
  (seqM (regM r14)
  (retM retv))))))))))
noncomputable def f (a0 : ObjectStore) (a1 : Int) : Option R := retOf (body { t_0 := a0, t_1 := a1, t_2 := (⟨[]⟩ : ObjectStore), t_4 := false, t_5 := (⟨[]⟩ : ObjectStore), t_6 := [], t_7 := (⟨(0 : Int), (0 : Int)⟩ : Fault), t_8 := (⟨(0 : Int), (0 : Int)⟩ : Fault), t_9 := [], t_10 := (0 : Int), t_12 := false, t_29 := false, t_33 := false, t_53 := false })
end law4_PartialFilterMatchesSpec

namespace ref4_Marked
structure S where
  t_0 : ObjectStore
  t_1 : (List Int)
  t_2 : ObjectStore
  t_4 : (List Bool)
  t_5 : (List Bool)
  t_6 : Bool
  t_7 : Int
  t_8 : Int
  t_9 : Bool
  t_10 : Int
  t_15 : Bool
  t_20 : Bool
  t_36 : Bool
  t_64 : Bool
abbrev R := (List Bool)
def retv (s : S) : R := (s.t_4)
noncomputable def r0 (s : S) : Option S := some { s with t_2 := s.t_0, t_4 := [] }
noncomputable def r1 (s : S) : Option S := (mkL 1 false (s.t_2.Objects.length : Int)).bind fun x13 => some { s with t_5 := x13 }
noncomputable def r2 (s : S) : Option S := some { s with t_6 := true }
noncomputable def r3 (s : S) : Option S := some { s with t_15 := s.t_6 }
noncomputable def r4 (s : S) : Option S := some { s with t_6 := false }
noncomputable def r5 (s : S) : Option S := some { s with t_7 := (0 : Int) }
noncomputable def r6 (s : S) : Option S := some { s with t_20 := (decide (s.t_7 < (s.t_2.Objects.length : Int))) }
noncomputable def r8 (s : S) : Option S := (idx s.t_2.Objects s.t_7).bind fun x29 => some { s with t_8 := x29.Digest }
noncomputable def r9 (s : S) : Option S := (ref3_Has.f s.t_1 s.t_8).bind fun x39 => some { s with t_9 := x39 }
noncomputable def r10 (s : S) : Option S := some { s with t_10 := (0 : Int) }
noncomputable def r11 (s : S) : Option S := some { s with t_36 := (decide (s.t_10 < (s.t_2.Objects.length : Int))) }
noncomputable def r13 (s : S) : Option S := ((if s.t_9 = true then some true else (idx s.t_5 s.t_10).bind fun x54 => ((if x54 = true then (idx s.t_2.Objects s.t_10).bind fun x65 => (ref3_Has.f x65.Object.Links s.t_8).bind fun x78 => some x78 else some false)).bind fun x83 => some x83)).bind fun x88 => some { s with t_9 := x88 }
noncomputable def r12 (s : S) : Option S := some { s with t_10 := w64 (s.t_10 + (1 : Int)) }
noncomputable def r14 (s : S) : Option S := ((if s.t_9 = true then (idx s.t_5 s.t_7).bind fun x95 => some (!x95) else some false)).bind fun x101 => some { s with t_64 := x101 }
noncomputable def r15 (s : S) : Option S := (idx s.t_5 s.t_7).bind fun x103 => some { s with t_5 := setL s.t_5 s.t_7 true }
noncomputable def r16 (s : S) : Option S := some { s with t_6 := true }
noncomputable def r7 (s : S) : Option S := some { s with t_7 := w64 (s.t_7 + (1 : Int)) }
noncomputable def r17 (s : S) : Option S := some { s with t_4 := s.t_5 }
noncomputable def body : S → Option (Ctl S R) := (seqM (regM r0)
  (seqM (regM r1)
  (seqM (seqM (regM r2)
  (blockM 0 (iterM (seqM (seqM (regM r3)
  (condM (fun s => s.t_15) skipM
  (extM 0)))
  (blockM 1 (seqM (regM r4)
  (seqM (regM r5)
  (blockM 2 (iterM (seqM (seqM (regM r6)
  (condM (fun s => s.t_20) skipM
  (extM 2)))
  (seqM (blockM 3 (seqM (regM r8)
  (seqM (regM r9)
  (seqM (seqM (regM r10)
  (blockM 4 (iterM (seqM (seqM (regM r11)
  (condM (fun s => s.t_36) skipM
  (extM 4)))
  (seqM (blockM 5 (regM r13))
  (regM r12))))))
  (seqM (regM r14)
  (condM (fun s => s.t_64) (seqM (regM r15)
  (regM r16))
  skipM))))))
  (regM r7))))))))))))
  (seqM (regM r17)
  (retM retv)))))
noncomputable def f (a0 : ObjectStore) (a1 : (List Int)) : Option R := retOf (body { t_0 := a0, t_1 := a1, t_2 := (⟨[]⟩ : ObjectStore), t_4 := [], t_5 := [], t_6 := false, t_7 := (0 : Int), t_8 := (0 : Int), t_9 := false, t_10 := (0 : Int), t_15 := false, t_20 := false, t_36 := false, t_64 := false })
end ref4_Marked

namespace ref4_Insert
structure S where
  l_0 : (List Int)
  n_1 : Int
  t_4 : (List Int)
  at_5 : Int
  t_8 : Bool
  t_21 : Bool
abbrev R := (List Int)
def retv (s : S) : R := (s.t_4)
noncomputable def r0 (s : S) : Option S := some { s with t_4 := [] }
noncomputable def r1 (s : S) : Option S := (ref3_Has.f s.l_0 s.n_1).bind fun x1 => some { s with t_8 := x1 }
noncomputable def r2 (s : S) : Option S := some { s with t_4 := s.l_0 }
noncomputable def r3 (s : S) : Option S := some { s with at_5 := (0 : Int) }
noncomputable def r4 (s : S) : Option S := ((if (decide (s.at_5 < (s.l_0.length : Int))) = true then (idx s.l_0 s.at_5).bind fun x13 => some (decide (x13 < s.n_1)) else some false)).bind fun x23 => some { s with t_21 := x23 }
noncomputable def r5 (s : S) : Option S := some { s with at_5 := w64 (s.at_5 + (1 : Int)) }
noncomputable def r6 (s : S) : Option S := (cutTo s.l_0 s.at_5).bind fun x30 => (cutFrom s.l_0 s.at_5).bind fun x37 => (appL 8 ([] : (List Int)) x30).bind fun x39 => (appL 8 x39 [s.n_1]).bind fun x50 => (appL 8 x50 x37).bind fun x56 => some { s with t_4 := x56 }
noncomputable def body : S → Option (Ctl S R) := (seqM (regM r0)
  (seqM (seqM (regM r1)
  (condM (fun s => s.t_8) (seqM (regM r2)
  (retM retv))
  skipM))
  (seqM (regM r3)
  (seqM (blockM 0 (iterM (seqM (seqM (regM r4)
  (condM (fun s => s.t_21) skipM
  (extM 0)))
  (blockM 1 (regM r5)))))
  (seqM (regM r6)
  (retM retv))))))
noncomputable def f (a0 : (List Int)) (a1 : Int) : Option R := retOf (body { l_0 := a0, n_1 := a1, t_4 := [], at_5 := (0 : Int), t_8 := false, t_21 := false })
end ref4_Insert

namespace ref4_NeededOf
structure S where
  t_0 : ObjectStore
  t_1 : (List Int)
  t_2 : (List Int)
  t_3 : ObjectStore
  t_6 : (List Int)
  t_7 : Bool
  t_8 : (List Bool)
  t_9 : (List Int)
  t_10 : Bool
  t_11 : Int
  t_12 : (List Int)
  t_13 : Int
  t_21 : Bool
  t_26 : Bool
  t_47 : Bool
  t_55 : Bool
  t_68 : Bool
abbrev R := ((List Int) × Bool)
def retv (s : S) : R := (s.t_6, s.t_7)
noncomputable def r0 (s : S) : Option S := some { s with t_3 := s.t_0, t_6 := [], t_7 := false }
noncomputable def r1 (s : S) : Option S := (ref4_Marked.f s.t_3 s.t_2).bind fun x7 => some { s with t_8 := x7 }
noncomputable def r2 (s : S) : Option S := some { s with t_9 := [] }
noncomputable def r3 (s : S) : Option S := some { s with t_10 := true }
noncomputable def r4 (s : S) : Option S := some { s with t_11 := (-1 : Int) }
noncomputable def r5 (s : S) : Option S := some { s with t_21 := (decide (s.t_11 < (s.t_3.Objects.length : Int))) }
noncomputable def r7 (s : S) : Option S := some { s with t_12 := s.t_2 }
noncomputable def r8 (s : S) : Option S := some { s with t_26 := (decide ((0 : Int) ≤ s.t_11)) }
noncomputable def r9 (s : S) : Option S := (idx s.t_3.Objects s.t_11).bind fun x28 => some { s with t_12 := x28.Object.Links }
noncomputable def r10 (s : S) : Option S := some { s with t_13 := (0 : Int) }
noncomputable def r11 (s : S) : Option S := ((if (decide (s.t_13 < (s.t_12.length : Int))) = true then ((if (decide (s.t_11 < (0 : Int))) = true then some true else (idx s.t_8 s.t_11).bind fun x50 => some x50)).bind fun x60 => some x60 else some false)).bind fun x62 => some { s with t_47 := x62 }
noncomputable def r13 (s : S) : Option S := (idx s.t_12 s.t_13).bind fun x64 => (ref3_Has.f s.t_1 x64).bind fun x74 => some { s with t_55 := x74 }
noncomputable def r14 (s : S) : Option S := (idx s.t_12 s.t_13).bind fun x79 => (ref4_Insert.f s.t_9 x79).bind fun x89 => some { s with t_9 := x89 }
noncomputable def r15 (s : S) : Option S := (idx s.t_12 s.t_13).bind fun x98 => (ref3_At.f s.t_3 x98).bind fun x108 => some { s with t_68 := (decide (x108 < (0 : Int))) }
noncomputable def r16 (s : S) : Option S := some { s with t_10 := false }
noncomputable def r12 (s : S) : Option S := some { s with t_13 := w64 (s.t_13 + (1 : Int)) }
noncomputable def r6 (s : S) : Option S := some { s with t_11 := w64 (s.t_11 + (1 : Int)) }
noncomputable def r17 (s : S) : Option S := some { s with t_6 := s.t_9, t_7 := s.t_10 }
noncomputable def body : S → Option (Ctl S R) := (seqM (regM r0)
  (seqM (regM r1)
  (seqM (regM r2)
  (seqM (regM r3)
  (seqM (seqM (regM r4)
  (blockM 0 (iterM (seqM (seqM (regM r5)
  (condM (fun s => s.t_21) skipM
  (extM 0)))
  (seqM (blockM 1 (seqM (regM r7)
  (seqM (seqM (regM r8)
  (condM (fun s => s.t_26) (regM r9)
  skipM))
  (seqM (regM r10)
  (blockM 2 (iterM (seqM (seqM (regM r11)
  (condM (fun s => s.t_47) skipM
  (extM 2)))
  (seqM (blockM 3 (seqM (regM r13)
  (condM (fun s => s.t_55) (regM r14)
  (seqM (regM r15)
  (condM (fun s => s.t_68) (regM r16)
  skipM)))))
  (regM r12)))))))))
  (regM r6))))))
  (seqM (regM r17)
  (retM retv)))))))
noncomputable def f (a0 : ObjectStore) (a1 : (List Int)) (a2 : (List Int)) : Option R := retOf (body { t_0 := a0, t_1 := a1, t_2 := a2, t_3 := (⟨[]⟩ : ObjectStore), t_6 := [], t_7 := false, t_8 := [], t_9 := [], t_10 := false, t_11 := (0 : Int), t_12 := [], t_13 := (0 : Int), t_21 := false, t_26 := false, t_47 := false, t_55 := false, t_68 := false })
end ref4_NeededOf

namespace law4_PartialNeededMatchesSpec
structure S where
  t_0 : ObjectStore
  t_1 : (List Int)
  t_2 : (List Int)
  t_3 : ObjectStore
  t_6 : Bool
  t_7 : (List Int)
  t_8 : Fault
  t_9 : Fault
  t_10 : (List Int)
  t_11 : Bool
  t_13 : Bool
  t_31 : Bool
  t_35 : Bool
  t_44 : Bool
  t_48 : Bool
abbrev R := Bool
def retv (s : S) : R := (s.t_6)
noncomputable def r0 (s : S) : Option S := some { s with t_3 := s.t_0, t_6 := false }
noncomputable def r1 (s : S) : Option S := (law4_partialExample.f ).bind fun x5 => some { s with t_13 := (!x5) }
noncomputable def r2 (s : S) : Option S := some { s with t_6 := false }
noncomputable def r3 (s : S) : Option S := (partial_Needed.f s.t_3 s.t_1 s.t_2).bind fun x12 => some { s with t_7 := x12.1, t_8 := x12.2 }
noncomputable def r4 (s : S) : Option S := (ref4_PromiseFault.f s.t_3 s.t_1).bind fun x33 => some { s with t_9 := x33 }
noncomputable def r5 (s : S) : Option S := some { s with t_31 := ((decide (s.t_9.Code = (0 : Int))) && (decide ((40 : Int) < (s.t_2.length : Int)))) }
noncomputable def r6 (s : S) : Option S := (ref3_Fault.f (2 : Int) (-1 : Int)).bind fun x55 => some { s with t_9 := x55 }
noncomputable def r7 (s : S) : Option S := some { s with t_10 := [] }
noncomputable def r8 (s : S) : Option S := some { s with t_35 := (decide (s.t_9.Code = (0 : Int))) }
noncomputable def r9 (s : S) : Option S := some { s with t_11 := true }
noncomputable def r10 (s : S) : Option S := (ref4_NeededOf.f s.t_3 s.t_1 s.t_2).bind fun x67 => some { s with t_10 := x67.1, t_11 := x67.2 }
noncomputable def r11 (s : S) : Option S := some { s with t_44 := (!s.t_11) }
noncomputable def r12 (s : S) : Option S := (ref3_Fault.f (6 : Int) (-1 : Int)).bind fun x74 => some { s with t_9 := x74 }
noncomputable def r13 (s : S) : Option S := some { s with t_48 := (!decide (s.t_9.Code = (0 : Int))) }
noncomputable def r14 (s : S) : Option S := some { s with t_6 := ((decide (s.t_8 = s.t_9)) && (decide ((s.t_7.length : Int) = (0 : Int)))) }
noncomputable def r15 (s : S) : Option S := ((if (decide (s.t_8.Code = (0 : Int))) = true then (ref3_Ints.f s.t_7 s.t_10).bind fun x98 => some x98 else some false)).bind fun x103 => some { s with t_6 := x103 }
noncomputable def body : S → Option (Ctl S R) := (seqM (regM r0)
  (seqM (seqM (regM r1)
  (condM (fun s => s.t_13) (seqM (regM r2)
  (retM retv))
  skipM))
  (seqM (regM r3)
  (seqM (regM r4)
  (seqM (seqM (regM r5)
  (condM (fun s => s.t_31) (regM r6)
  skipM))
  (seqM (regM r7)
  (seqM (seqM (regM r8)
  (condM (fun s => s.t_35) (seqM (regM r9)
  (seqM (regM r10)
  (seqM (regM r11)
  (condM (fun s => s.t_44) (regM r12)
  skipM))))
  skipM))
  (seqM (seqM (regM r13)
  (condM (fun s => s.t_48) (seqM (regM r14)
  (retM retv))
  skipM))
  (seqM (regM r15)
  (retM retv))))))))))
noncomputable def f (a0 : ObjectStore) (a1 : (List Int)) (a2 : (List Int)) : Option R := retOf (body { t_0 := a0, t_1 := a1, t_2 := a2, t_3 := (⟨[]⟩ : ObjectStore), t_6 := false, t_7 := [], t_8 := (⟨(0 : Int), (0 : Int)⟩ : Fault), t_9 := (⟨(0 : Int), (0 : Int)⟩ : Fault), t_10 := [], t_11 := false, t_13 := false, t_31 := false, t_35 := false, t_44 := false, t_48 := false })
end law4_PartialNeededMatchesSpec

namespace ref3_PutObject
structure S where
  t_0 : ObjectStore
  t_1 : Object
  t_2 : ObjectStore
  t_3 : Object
  t_4 : ObjectStore
  t_5 : Int
  t_6 : Int
  t_7 : Int
  t_8 : Int
  t_9 : ObjectStore
  t_10 : Bool
  t_11 : Int
  t_18 : Bool
  t_27 : Bool
  t_34 : Bool
  t_41 : Bool
  t_55 : Bool
  t_75 : Bool
abbrev R := (ObjectStore × Int × Int)
def retv (s : S) : R := (s.t_4, s.t_5, s.t_6)
noncomputable def r0 (s : S) : Option S := some { s with t_2 := s.t_0, t_3 := s.t_1, t_4 := (⟨[]⟩ : ObjectStore), t_5 := (0 : Int), t_6 := (0 : Int) }
noncomputable def r1 (s : S) : Option S := (ref3_ObjectDigest.f s.t_3).bind fun x15 => some { s with t_7 := x15 }
noncomputable def r2 (s : S) : Option S := (ref3_At.f s.t_2 s.t_7).bind fun x22 => some { s with t_8 := x22 }
noncomputable def r3 (s : S) : Option S := some { s with t_18 := (decide ((0 : Int) ≤ s.t_8)) }
noncomputable def r4 (s : S) : Option S := (idx s.t_2.Objects s.t_8).bind fun x30 => (ref3_Objects.f x30.Object s.t_3).bind fun x44 => some { s with t_27 := (!x44) }
noncomputable def r5 (s : S) : Option S := some { s with t_4 := (⟨[]⟩ : ObjectStore), t_5 := (0 : Int), t_6 := (19 : Int) }
noncomputable def r6 (s : S) : Option S := some { s with t_4 := s.t_2, t_5 := s.t_7, t_6 := (0 : Int) }
noncomputable def r7 (s : S) : Option S := some { s with t_34 := (decide ((40 : Int) ≤ (s.t_2.Objects.length : Int))) }
noncomputable def r8 (s : S) : Option S := some { s with t_4 := (⟨[]⟩ : ObjectStore), t_5 := (0 : Int), t_6 := (14 : Int) }
noncomputable def r9 (s : S) : Option S := some { s with t_9 := (⟨[]⟩ : ObjectStore) }
noncomputable def r10 (s : S) : Option S := some { s with t_10 := false }
noncomputable def r11 (s : S) : Option S := some { s with t_11 := (0 : Int) }
noncomputable def r12 (s : S) : Option S := some { s with t_41 := (decide (s.t_11 < (s.t_2.Objects.length : Int))) }
noncomputable def r14 (s : S) : Option S := ((if (!s.t_10) = true then (idx s.t_2.Objects s.t_11).bind fun x93 => some (decide (s.t_7 < x93.Digest)) else some false)).bind fun x103 => some { s with t_55 := x103 }
noncomputable def r15 (s : S) : Option S := (appL 64 s.t_9.Objects [(⟨s.t_7, s.t_3⟩ : StoredObject)]).bind fun x116 => some { s with t_9 := { s.t_9 with Objects := x116 } }
noncomputable def r16 (s : S) : Option S := some { s with t_10 := true }
noncomputable def r17 (s : S) : Option S := (idx s.t_2.Objects s.t_11).bind fun x157 => (appL 64 s.t_9.Objects [x157]).bind fun x174 => some { s with t_9 := { s.t_9 with Objects := x174 } }
noncomputable def r13 (s : S) : Option S := some { s with t_11 := w64 (s.t_11 + (1 : Int)) }
noncomputable def r18 (s : S) : Option S := some { s with t_75 := (!s.t_10) }
noncomputable def r19 (s : S) : Option S := (appL 64 s.t_9.Objects [(⟨s.t_7, s.t_3⟩ : StoredObject)]).bind fun x207 => some { s with t_9 := { s.t_9 with Objects := x207 } }
noncomputable def r20 (s : S) : Option S := some { s with t_4 := (⟨s.t_9.Objects⟩ : ObjectStore), t_5 := s.t_7, t_6 := (0 : Int), t_9 := s.t_9 }
noncomputable def body : S → Option (Ctl S R) := (seqM (regM r0)
  (seqM (regM r1)
  (seqM (seqM (regM r2)
  (seqM (regM r3)
  (condM (fun s => s.t_18) (seqM (seqM (regM r4)
  (condM (fun s => s.t_27) (seqM (regM r5)
  (retM retv))
  skipM))
  (seqM (regM r6)
  (retM retv)))
  skipM)))
  (seqM (seqM (regM r7)
  (condM (fun s => s.t_34) (seqM (regM r8)
  (retM retv))
  skipM))
  (seqM (regM r9)
  (seqM (regM r10)
  (seqM (seqM (regM r11)
  (blockM 0 (iterM (seqM (seqM (regM r12)
  (condM (fun s => s.t_41) skipM
  (extM 0)))
  (seqM (blockM 1 (seqM (seqM (regM r14)
  (condM (fun s => s.t_55) (seqM (regM r15)
  (regM r16))
  skipM))
  (regM r17)))
  (regM r13))))))
  (seqM (seqM (regM r18)
  (condM (fun s => s.t_75) (regM r19)
  skipM))
  (seqM (regM r20)
  (retM retv))))))))))
noncomputable def f (a0 : ObjectStore) (a1 : Object) : Option R := retOf (body { t_0 := a0, t_1 := a1, t_2 := (⟨[]⟩ : ObjectStore), t_3 := (⟨(0 : Int), [], []⟩ : Object), t_4 := (⟨[]⟩ : ObjectStore), t_5 := (0 : Int), t_6 := (0 : Int), t_7 := (0 : Int), t_8 := (0 : Int), t_9 := (⟨[]⟩ : ObjectStore), t_10 := false, t_11 := (0 : Int), t_18 := false, t_27 := false, t_34 := false, t_41 := false, t_55 := false, t_75 := false })
end ref3_PutObject

namespace ref4_FetchOf
structure S where
  t_0 : ObjectStore
  t_1 : (List Int)
  t_2 : ObjectStore
  t_3 : (List Int)
  t_4 : ObjectStore
  t_6 : ObjectStore
  t_8 : ObjectStore
  t_9 : (List Int)
  t_10 : Fault
  t_11 : Int
  t_12 : Int
  t_13 : ObjectStore
  t_15 : Int
  t_16 : (List Int)
  t_17 : Int
  t_21 : Bool
  t_40 : Bool
  t_51 : Bool
  t_68 : Bool
  t_77 : Bool
  t_86 : Bool
abbrev R := (ObjectStore × (List Int) × Fault)
def retv (s : S) : R := (s.t_8, s.t_9, s.t_10)
noncomputable def r0 (s : S) : Option S := some { s with t_4 := s.t_0, t_6 := s.t_2, t_8 := (⟨[]⟩ : ObjectStore), t_9 := [], t_10 := (⟨(0 : Int), (0 : Int)⟩ : Fault) }
noncomputable def r1 (s : S) : Option S := some { s with t_11 := (0 : Int) }
noncomputable def r2 (s : S) : Option S := some { s with t_21 := (decide (s.t_11 < (s.t_3.length : Int))) }
noncomputable def r4 (s : S) : Option S := (idx s.t_3 s.t_11).bind fun x22 => (ref3_Has.f s.t_1 x22).bind fun x32 => if (!x32) = true then some { s with t_40 := true } else (cutTo s.t_3 s.t_11).bind fun x44 => (idx s.t_3 s.t_11).bind fun x46 => (ref3_Has.f x44 x46).bind fun x56 => some { s with t_40 := x56 }
noncomputable def r5 (s : S) : Option S := (ref3_Fault.f (6 : Int) s.t_11).bind fun x62 => some { s with t_8 := (⟨[]⟩ : ObjectStore), t_9 := [], t_10 := x62 }
noncomputable def r6 (s : S) : Option S := (idx s.t_3 s.t_11).bind fun x78 => (ref3_At.f s.t_6 x78).bind fun x88 => some { s with t_12 := x88 }
noncomputable def r7 (s : S) : Option S := some { s with t_51 := (decide (s.t_12 < (0 : Int))) }
noncomputable def r8 (s : S) : Option S := (ref3_Fault.f (17 : Int) s.t_11).bind fun x94 => some { s with t_8 := (⟨[]⟩ : ObjectStore), t_9 := [], t_10 := x94 }
noncomputable def r9 (s : S) : Option S := (idx s.t_6.Objects s.t_12).bind fun x113 => (ref3_PutObject.f s.t_4 x113.Object).bind fun x125 => some { s with t_13 := x125.1, t_15 := x125.2.2 }
noncomputable def r10 (s : S) : Option S := some { s with t_68 := (!decide (s.t_15 = (0 : Int))) }
noncomputable def r11 (s : S) : Option S := (ref3_Fault.f s.t_15 s.t_11).bind fun x153 => some { s with t_8 := (⟨[]⟩ : ObjectStore), t_9 := [], t_10 := x153 }
noncomputable def r12 (s : S) : Option S := some { s with t_4 := s.t_13 }
noncomputable def r3 (s : S) : Option S := some { s with t_11 := w64 (s.t_11 + (1 : Int)) }
noncomputable def r13 (s : S) : Option S := some { s with t_16 := [] }
noncomputable def r14 (s : S) : Option S := some { s with t_17 := (0 : Int) }
noncomputable def r15 (s : S) : Option S := some { s with t_77 := (decide (s.t_17 < (s.t_1.length : Int))) }
noncomputable def r17 (s : S) : Option S := (idx s.t_1 s.t_17).bind fun x177 => (ref3_Has.f s.t_3 x177).bind fun x187 => some { s with t_86 := (!x187) }
noncomputable def r18 (s : S) : Option S := (idx s.t_1 s.t_17).bind fun x192 => (appL 8 s.t_16 [x192]).bind fun x207 => some { s with t_16 := x207 }
noncomputable def r16 (s : S) : Option S := some { s with t_17 := w64 (s.t_17 + (1 : Int)) }
noncomputable def r19 (s : S) : Option S := some { s with t_8 := s.t_4, t_9 := s.t_16, t_10 := (⟨(0 : Int), (0 : Int)⟩ : Fault) }
noncomputable def body : S → Option (Ctl S R) := (seqM (regM r0)
  (seqM (seqM (regM r1)
  (blockM 0 (iterM (seqM (seqM (regM r2)
  (condM (fun s => s.t_21) skipM
  (extM 0)))
  (seqM (blockM 1 (seqM (seqM (regM r4)
  (condM (fun s => s.t_40) (seqM (regM r5)
  (retM retv))
  skipM))
  (seqM (regM r6)
  (seqM (seqM (regM r7)
  (condM (fun s => s.t_51) (seqM (regM r8)
  (retM retv))
  skipM))
  (seqM (regM r9)
  (seqM (seqM (regM r10)
  (condM (fun s => s.t_68) (seqM (regM r11)
  (retM retv))
  skipM))
  (regM r12)))))))
  (regM r3))))))
  (seqM (regM r13)
  (seqM (seqM (regM r14)
  (blockM 2 (iterM (seqM (seqM (regM r15)
  (condM (fun s => s.t_77) skipM
  (extM 2)))
  (seqM (blockM 3 (seqM (regM r17)
  (condM (fun s => s.t_86) (regM r18)
  skipM)))
  (regM r16))))))
  (seqM (regM r19)
  (retM retv))))))
noncomputable def f (a0 : ObjectStore) (a1 : (List Int)) (a2 : ObjectStore) (a3 : (List Int)) : Option R := retOf (body { t_0 := a0, t_1 := a1, t_2 := a2, t_3 := a3, t_4 := (⟨[]⟩ : ObjectStore), t_6 := (⟨[]⟩ : ObjectStore), t_8 := (⟨[]⟩ : ObjectStore), t_9 := [], t_10 := (⟨(0 : Int), (0 : Int)⟩ : Fault), t_11 := (0 : Int), t_12 := (0 : Int), t_13 := (⟨[]⟩ : ObjectStore), t_15 := (0 : Int), t_16 := [], t_17 := (0 : Int), t_21 := false, t_40 := false, t_51 := false, t_68 := false, t_77 := false, t_86 := false })
end ref4_FetchOf

namespace law4_PartialFetchMatchesSpec
structure S where
  t_0 : ObjectStore
  t_1 : (List Int)
  t_2 : ObjectStore
  t_3 : (List Int)
  t_4 : ObjectStore
  t_6 : ObjectStore
  t_8 : Bool
  t_9 : ObjectStore
  t_10 : (List Int)
  t_11 : Fault
  t_12 : Fault
  t_13 : ObjectStore
  t_14 : (List Int)
  t_16 : Bool
  t_37 : Bool
  t_49 : Bool
  t_54 : Bool
  t_66 : Bool
abbrev R := Bool
def retv (s : S) : R := (s.t_8)
noncomputable def r0 (s : S) : Option S := some { s with t_4 := s.t_0, t_6 := s.t_2, t_8 := false }
noncomputable def r1 (s : S) : Option S := (law4_partialExample.f ).bind fun x9 => some { s with t_16 := (!x9) }
noncomputable def r2 (s : S) : Option S := some { s with t_8 := false }
noncomputable def r3 (s : S) : Option S := (partial_Fetch.f s.t_4 s.t_1 s.t_6 s.t_3).bind fun x18 => some { s with t_9 := x18.1, t_10 := x18.2.1, t_11 := x18.2.2 }
noncomputable def r4 (s : S) : Option S := (ref4_PromiseFault.f s.t_4 s.t_1).bind fun x48 => some { s with t_12 := x48 }
noncomputable def r5 (s : S) : Option S := ((if (decide (s.t_12.Code = (0 : Int))) = true then (ref3_StoreFault.f s.t_6).bind fun x66 => some (!decide (x66.Code = (0 : Int))) else some false)).bind fun x73 => some { s with t_37 := x73 }
noncomputable def r6 (s : S) : Option S := (ref3_StoreFault.f s.t_6).bind fun x80 => (ref3_Fault.f x80.Code (-1 : Int)).bind fun x87 => some { s with t_12 := x87 }
noncomputable def r7 (s : S) : Option S := some { s with t_49 := ((decide (s.t_12.Code = (0 : Int))) && (decide ((40 : Int) < (s.t_3.length : Int)))) }
noncomputable def r8 (s : S) : Option S := (ref3_Fault.f (2 : Int) (-1 : Int)).bind fun x105 => some { s with t_12 := x105 }
noncomputable def r9 (s : S) : Option S := some { s with t_13 := (⟨[]⟩ : ObjectStore) }
noncomputable def r10 (s : S) : Option S := some { s with t_14 := [] }
noncomputable def r11 (s : S) : Option S := some { s with t_54 := (decide (s.t_12.Code = (0 : Int))) }
noncomputable def r12 (s : S) : Option S := (ref4_FetchOf.f s.t_4 s.t_1 s.t_6 s.t_3).bind fun x128 => some { s with t_12 := x128.2.2, t_13 := x128.1, t_14 := x128.2.1 }
noncomputable def r13 (s : S) : Option S := some { s with t_66 := (!decide (s.t_12.Code = (0 : Int))) }
noncomputable def r14 (s : S) : Option S := some { s with t_8 := ((decide (s.t_11 = s.t_12)) && (decide ((w64 ((s.t_9.Objects.length : Int) + (s.t_10.length : Int))) = (0 : Int)))) }
noncomputable def r15 (s : S) : Option S := ((if (decide (s.t_11.Code = (0 : Int))) = true then (ref3_Stores.f s.t_9 s.t_13).bind fun x174 => some x174 else some false)).bind fun x179 => ((if x179 = true then (ref3_Ints.f s.t_10 s.t_14).bind fun x186 => some x186 else some false)).bind fun x191 => some { s with t_8 := x191 }
noncomputable def body : S → Option (Ctl S R) := (seqM (regM r0)
  (seqM (seqM (regM r1)
  (condM (fun s => s.t_16) (seqM (regM r2)
  (retM retv))
  skipM))
  (seqM (regM r3)
  (seqM (regM r4)
  (seqM (seqM (regM r5)
  (condM (fun s => s.t_37) (regM r6)
  skipM))
  (seqM (seqM (regM r7)
  (condM (fun s => s.t_49) (regM r8)
  skipM))
  (seqM (regM r9)
  (seqM (regM r10)
  (seqM (seqM (regM r11)
  (condM (fun s => s.t_54) (regM r12)
  skipM))
  (seqM (seqM (regM r13)
  (condM (fun s => s.t_66) (seqM (regM r14)
  (retM retv))
  skipM))
  (seqM (regM r15)
  (retM retv))))))))))))
noncomputable def f (a0 : ObjectStore) (a1 : (List Int)) (a2 : ObjectStore) (a3 : (List Int)) : Option R := retOf (body { t_0 := a0, t_1 := a1, t_2 := a2, t_3 := a3, t_4 := (⟨[]⟩ : ObjectStore), t_6 := (⟨[]⟩ : ObjectStore), t_8 := false, t_9 := (⟨[]⟩ : ObjectStore), t_10 := [], t_11 := (⟨(0 : Int), (0 : Int)⟩ : Fault), t_12 := (⟨(0 : Int), (0 : Int)⟩ : Fault), t_13 := (⟨[]⟩ : ObjectStore), t_14 := [], t_16 := false, t_37 := false, t_49 := false, t_54 := false, t_66 := false })
end law4_PartialFetchMatchesSpec

namespace law4_PartialFetchRestores
structure S where
  s_0 : ObjectStore
  limit_1 : Int
  s_2 : ObjectStore
  t_4 : Bool
  t_5 : ObjectStore
  p_6 : (List Int)
  f_7 : Fault
  u_8 : ObjectStore
  left_9 : (List Int)
  g_10 : Fault
  t_12 : Bool
  t_22 : Bool
abbrev R := Bool
def retv (s : S) : R := (s.t_4)
noncomputable def r0 (s : S) : Option S := some { s with s_2 := s.s_0, t_4 := false }
noncomputable def r1 (s : S) : Option S := (law4_partialExample.f ).bind fun x5 => some { s with t_12 := (!x5) }
noncomputable def r2 (s : S) : Option S := some { s with t_4 := false }
noncomputable def r3 (s : S) : Option S := (partial_Filter.f s.s_2 s.limit_1).bind fun x12 => some { s with t_5 := x12.1, p_6 := x12.2.1, f_7 := x12.2.2 }
noncomputable def r4 (s : S) : Option S := some { s with t_22 := (!decide (s.f_7.Code = (0 : Int))) }
noncomputable def r5 (s : S) : Option S := some { s with t_4 := (decide ((w64 ((s.t_5.Objects.length : Int) + (s.p_6.length : Int))) = (0 : Int))) }
noncomputable def r6 (s : S) : Option S := (partial_Fetch.f s.t_5 s.p_6 s.s_2 s.p_6).bind fun x57 => some { s with u_8 := x57.1, left_9 := x57.2.1, g_10 := x57.2.2 }
noncomputable def r7 (s : S) : Option S := ((if ((decide (s.g_10.Code = (0 : Int))) && (decide ((s.left_9.length : Int) = (0 : Int)))) = true then (ref3_Stores.f s.u_8 s.s_2).bind fun x99 => some x99 else some false)).bind fun x104 => some { s with t_4 := x104 }
noncomputable def body : S → Option (Ctl S R) := (seqM (regM r0)
  (seqM (seqM (regM r1)
  (condM (fun s => s.t_12) (seqM (regM r2)
  (retM retv))
  skipM))
  (seqM (regM r3)
  (seqM (seqM (regM r4)
  (condM (fun s => s.t_22) (seqM (regM r5)
  (retM retv))
  skipM))
  (seqM (regM r6)
  (seqM (regM r7)
  (retM retv)))))))
noncomputable def f (a0 : ObjectStore) (a1 : Int) : Option R := retOf (body { s_0 := a0, limit_1 := a1, s_2 := (⟨[]⟩ : ObjectStore), t_4 := false, t_5 := (⟨[]⟩ : ObjectStore), p_6 := [], f_7 := (⟨(0 : Int), (0 : Int)⟩ : Fault), u_8 := (⟨[]⟩ : ObjectStore), left_9 := [], g_10 := (⟨(0 : Int), (0 : Int)⟩ : Fault), t_12 := false, t_22 := false })
end law4_PartialFetchRestores

namespace law4_PartialFetchOrderIrrelevant
structure S where
  t_0 : ObjectStore
  t_1 : Int
  t_2 : (List Int)
  t_3 : ObjectStore
  t_6 : Bool
  t_7 : ObjectStore
  t_8 : (List Int)
  t_9 : Fault
  t_10 : (List Int)
  t_11 : Int
  t_12 : ObjectStore
  t_13 : (List Int)
  t_14 : Fault
  t_15 : ObjectStore
  t_16 : (List Int)
  t_17 : Fault
  t_19 : Bool
  t_29 : Bool
  t_41 : Bool
abbrev R := Bool
def retv (s : S) : R := (s.t_6)
noncomputable def r0 (s : S) : Option S := some { s with t_3 := s.t_0, t_6 := false }
noncomputable def r1 (s : S) : Option S := (law4_partialExample.f ).bind fun x5 => some { s with t_19 := (!x5) }
noncomputable def r2 (s : S) : Option S := some { s with t_6 := false }
noncomputable def r3 (s : S) : Option S := (partial_Filter.f s.t_3 s.t_1).bind fun x12 => some { s with t_7 := x12.1, t_8 := x12.2.1, t_9 := x12.2.2 }
noncomputable def r4 (s : S) : Option S := some { s with t_29 := (!decide (s.t_9.Code = (0 : Int))) }
noncomputable def r5 (s : S) : Option S := some { s with t_6 := (decide ((w64 ((s.t_7.Objects.length : Int) + (s.t_8.length : Int))) = (0 : Int))) }
noncomputable def r6 (s : S) : Option S := some { s with t_10 := [] }
noncomputable def r7 (s : S) : Option S := some { s with t_11 := w64 ((s.t_2.length : Int) - (1 : Int)) }
noncomputable def r8 (s : S) : Option S := some { s with t_41 := (decide ((0 : Int) ≤ s.t_11)) }
noncomputable def r10 (s : S) : Option S := (idx s.t_2 s.t_11).bind fun x58 => (appL 8 s.t_10 [x58]).bind fun x73 => some { s with t_10 := x73 }
noncomputable def r9 (s : S) : Option S := some { s with t_11 := w64 (s.t_11 - (1 : Int)) }
noncomputable def r11 (s : S) : Option S := (partial_Fetch.f s.t_7 s.t_8 s.t_3 s.t_2).bind fun x83 => some { s with t_12 := x83.1, t_13 := x83.2.1, t_14 := x83.2.2 }
noncomputable def r12 (s : S) : Option S := (partial_Fetch.f s.t_7 s.t_8 s.t_3 s.t_10).bind fun x118 => some { s with t_15 := x118.1, t_16 := x118.2.1, t_17 := x118.2.2 }
noncomputable def r13 (s : S) : Option S := ((if (decide ((decide (s.t_14.Code = (0 : Int))) = (decide (s.t_17.Code = (0 : Int))))) = true then (ref3_Stores.f s.t_12 s.t_15).bind fun x152 => some x152 else some false)).bind fun x157 => ((if x157 = true then (ref3_Ints.f s.t_13 s.t_16).bind fun x164 => some x164 else some false)).bind fun x169 => some { s with t_6 := x169 }
noncomputable def body : S → Option (Ctl S R) := (seqM (regM r0)
  (seqM (seqM (regM r1)
  (condM (fun s => s.t_19) (seqM (regM r2)
  (retM retv))
  skipM))
  (seqM (regM r3)
  (seqM (seqM (regM r4)
  (condM (fun s => s.t_29) (seqM (regM r5)
  (retM retv))
  skipM))
  (seqM (regM r6)
  (seqM (seqM (regM r7)
  (blockM 0 (iterM (seqM (seqM (regM r8)
  (condM (fun s => s.t_41) skipM
  (extM 0)))
  (seqM (blockM 1 (regM r10))
  (regM r9))))))
  (seqM (regM r11)
  (seqM (regM r12)
  (seqM (regM r13)
  (retM retv))))))))))
noncomputable def f (a0 : ObjectStore) (a1 : Int) (a2 : (List Int)) : Option R := retOf (body { t_0 := a0, t_1 := a1, t_2 := a2, t_3 := (⟨[]⟩ : ObjectStore), t_6 := false, t_7 := (⟨[]⟩ : ObjectStore), t_8 := [], t_9 := (⟨(0 : Int), (0 : Int)⟩ : Fault), t_10 := [], t_11 := (0 : Int), t_12 := (⟨[]⟩ : ObjectStore), t_13 := [], t_14 := (⟨(0 : Int), (0 : Int)⟩ : Fault), t_15 := (⟨[]⟩ : ObjectStore), t_16 := [], t_17 := (⟨(0 : Int), (0 : Int)⟩ : Fault), t_19 := false, t_29 := false, t_41 := false })
end law4_PartialFetchOrderIrrelevant

namespace gc_mark
structure S where
  t_0 : ObjectStore
  t_1 : (List Int)
  t_2 : ObjectStore
  t_4 : (List Bool)
  t_5 : (List (Int × Int))
  t_6 : Int
  t_7 : StoredObject
  t_8 : (List Bool)
  t_9 : (List Int)
  t_10 : Int
  t_11 : Bool
  t_14 : (List StoredObject)
  t_15 : Int
  t_16 : Int
  t_17 : Bool
  t_34 : Bool
  t_52 : Bool
abbrev R := (List Bool)
def retv (s : S) : R := (s.t_4)
noncomputable def r0 (s : S) : Option S := some { s with t_2 := s.t_0, t_4 := [] }
noncomputable def r1 (s : S) : Option S := some { s with t_5 := [] }
noncomputable def r2 (s : S) : Option S := some { s with t_14 := s.t_2.Objects, t_15 := (s.t_2.Objects.length : Int), t_16 := (0 : Int) }
noncomputable def r3 (s : S) : Option S := some { s with t_17 := (decide (s.t_16 < s.t_15)) }
noncomputable def r4 (s : S) : Option S := (idx s.t_14 s.t_16).bind fun x17 => some { s with t_6 := s.t_16, t_7 := x17 }
noncomputable def r5 (s : S) : Option S := some { s with t_5 := mput s.t_5 s.t_7.Digest s.t_6 }
noncomputable def r6 (s : S) : Option S := some { s with t_16 := w64 (s.t_16 + (1 : Int)) }
noncomputable def r7 (s : S) : Option S := (mkL 1 false (s.t_2.Objects.length : Int)).bind fun x47 => some { s with t_8 := x47 }
noncomputable def r8 (s : S) : Option S := (CloneI.f s.t_1).bind fun x52 => some { s with t_9 := x52 }
noncomputable def r9 (s : S) : Option S := some { s with t_34 := (decide ((0 : Int) < (s.t_9.length : Int))) }
noncomputable def r10 (s : S) : Option S := (idx s.t_9 (0 : Int)).bind fun x63 => some { s with t_10 := ((mget s.t_5 x63).getD (0 : Int)), t_11 := (mget s.t_5 x63).isSome }
noncomputable def r11 (s : S) : Option S := (cutFrom s.t_9 (1 : Int)).bind fun x73 => some { s with t_9 := x73 }
noncomputable def r12 (s : S) : Option S := ((if s.t_11 = true then (idx s.t_8 s.t_10).bind fun x78 => some (!x78) else some false)).bind fun x84 => some { s with t_52 := x84 }
noncomputable def r13 (s : S) : Option S := (idx s.t_8 s.t_10).bind fun x86 => some { s with t_8 := setL s.t_8 s.t_10 true }
noncomputable def r14 (s : S) : Option S := (idx s.t_2.Objects s.t_10).bind fun x98 => (appL 8 s.t_9 x98.Object.Links).bind fun x111 => some { s with t_9 := x111 }
noncomputable def r15 (s : S) : Option S := some { s with t_4 := s.t_8 }
noncomputable def body : S → Option (Ctl S R) := (seqM (regM r0)
  (seqM (regM r1)
  (seqM (seqM (regM r2)
  (blockM 0 (iterM (seqM (regM r3)
  (seqM (condM (fun s => s.t_17) skipM
  (extM 0))
  (seqM (blockM 1 (seqM (regM r4)
  (regM r5)))
  (regM r6)))))))
  (seqM (regM r7)
  (seqM (seqM (regM r8)
  (blockM 2 (iterM (seqM (seqM (regM r9)
  (condM (fun s => s.t_34) skipM
  (extM 2)))
  (blockM 3 (seqM (regM r10)
  (seqM (regM r11)
  (seqM (regM r12)
  (condM (fun s => s.t_52) (seqM (regM r13)
  (regM r14))
  skipM)))))))))
  (seqM (regM r15)
  (retM retv)))))))
noncomputable def f (a0 : ObjectStore) (a1 : (List Int)) : Option R := retOf (body { t_0 := a0, t_1 := a1, t_2 := (⟨[]⟩ : ObjectStore), t_4 := [], t_5 := [], t_6 := (0 : Int), t_7 := (⟨(0 : Int), (⟨(0 : Int), [], []⟩ : Object)⟩ : StoredObject), t_8 := [], t_9 := [], t_10 := (0 : Int), t_11 := false, t_14 := [], t_15 := (0 : Int), t_16 := (0 : Int), t_17 := false, t_34 := false, t_52 := false })
end gc_mark

namespace gc_Mark
structure S where
  s_0 : ObjectStore
  roots_1 : (List Int)
  s_2 : ObjectStore
  t_4 : (List Int)
  t_5 : Fault
  f_6 : Fault
  out_7 : (List Int)
  i_8 : Int
  is_9 : Bool
  t_14 : Bool
  t_18 : Bool
  t_22 : (List Bool)
  t_23 : Int
  t_24 : Int
  t_25 : Bool
  t_29 : Bool
abbrev R := ((List Int) × Fault)
def retv (s : S) : R := (s.t_4, s.t_5)
noncomputable def r0 (s : S) : Option S := some { s with s_2 := s.s_0, t_4 := [], t_5 := (⟨(0 : Int), (0 : Int)⟩ : Fault) }
noncomputable def r1 (s : S) : Option S := (objects_Validate.f s.s_2).bind fun x11 => some { s with f_6 := x11 }
noncomputable def r2 (s : S) : Option S := some { s with t_14 := (!decide (s.f_6 = (⟨(0 : Int), (0 : Int)⟩ : Fault))) }
noncomputable def r3 (s : S) : Option S := some { s with t_4 := [], t_5 := s.f_6 }
noncomputable def r4 (s : S) : Option S := some { s with t_18 := (decide ((50 : Int) < (s.roots_1.length : Int))) }
noncomputable def r5 (s : S) : Option S := some { s with t_4 := [], t_5 := (⟨(2 : Int), (-1 : Int)⟩ : Fault) }
noncomputable def r6 (s : S) : Option S := some { s with out_7 := [] }
noncomputable def r7 (s : S) : Option S := (gc_mark.f s.s_2 s.roots_1).bind fun x44 => some { s with t_22 := x44, t_23 := (x44.length : Int), t_24 := (0 : Int) }
noncomputable def r8 (s : S) : Option S := some { s with t_25 := (decide (s.t_24 < s.t_23)) }
noncomputable def r9 (s : S) : Option S := (idx s.t_22 s.t_24).bind fun x59 => some { s with i_8 := s.t_24, is_9 := x59 }
noncomputable def r10 (s : S) : Option S := some { s with t_29 := s.is_9 }
noncomputable def r11 (s : S) : Option S := (idx s.s_2.Objects s.i_8).bind fun x72 => (appL 8 s.out_7 [x72.Digest]).bind fun x87 => some { s with out_7 := x87 }
noncomputable def r12 (s : S) : Option S := some { s with t_24 := w64 (s.t_24 + (1 : Int)) }
noncomputable def r13 (s : S) : Option S := some { s with t_4 := s.out_7, t_5 := (⟨(0 : Int), (0 : Int)⟩ : Fault) }
noncomputable def body : S → Option (Ctl S R) := (seqM (regM r0)
  (seqM (seqM (regM r1)
  (seqM (regM r2)
  (condM (fun s => s.t_14) (seqM (regM r3)
  (retM retv))
  skipM)))
  (seqM (seqM (regM r4)
  (condM (fun s => s.t_18) (seqM (regM r5)
  (retM retv))
  skipM))
  (seqM (regM r6)
  (seqM (seqM (regM r7)
  (blockM 0 (iterM (seqM (regM r8)
  (seqM (condM (fun s => s.t_25) skipM
  (extM 0))
  (seqM (blockM 1 (seqM (regM r9)
  (seqM (regM r10)
  (condM (fun s => s.t_29) (regM r11)
  skipM))))
  (regM r12)))))))
  (seqM (regM r13)
  (retM retv)))))))
noncomputable def f (a0 : ObjectStore) (a1 : (List Int)) : Option R := retOf (body { s_0 := a0, roots_1 := a1, s_2 := (⟨[]⟩ : ObjectStore), t_4 := [], t_5 := (⟨(0 : Int), (0 : Int)⟩ : Fault), f_6 := (⟨(0 : Int), (0 : Int)⟩ : Fault), out_7 := [], i_8 := (0 : Int), is_9 := false, t_14 := false, t_18 := false, t_22 := [], t_23 := (0 : Int), t_24 := (0 : Int), t_25 := false, t_29 := false })
end gc_Mark

namespace law4_PartialNeededIsReachable
structure S where
  t_0 : ObjectStore
  t_1 : Int
  t_2 : (List Int)
  t_3 : ObjectStore
  t_6 : Bool
  t_7 : ObjectStore
  t_8 : (List Int)
  t_9 : Fault
  t_10 : (List Int)
  t_11 : Fault
  t_12 : (List Int)
  t_13 : Fault
  t_14 : (List Int)
  t_15 : Int
  t_17 : Bool
  t_32 : Bool
  t_65 : Bool
  t_77 : Bool
  t_85 : Bool
abbrev R := Bool
def retv (s : S) : R := (s.t_6)
noncomputable def r0 (s : S) : Option S := some { s with t_3 := s.t_0, t_6 := false }
noncomputable def r1 (s : S) : Option S := (law4_partialExample.f ).bind fun x5 => some { s with t_17 := (!x5) }
noncomputable def r2 (s : S) : Option S := some { s with t_6 := false }
noncomputable def r3 (s : S) : Option S := (partial_Filter.f s.t_3 s.t_1).bind fun x12 => some { s with t_7 := x12.1, t_8 := x12.2.1, t_9 := x12.2.2 }
noncomputable def r4 (s : S) : Option S := some { s with t_32 := ((!decide (s.t_9.Code = (0 : Int))) || (decide ((40 : Int) < (s.t_2.length : Int)))) }
noncomputable def r5 (s : S) : Option S := some { s with t_6 := ((decide (s.t_9.Code = (0 : Int))) || (decide ((w64 ((s.t_7.Objects.length : Int) + (s.t_8.length : Int))) = (0 : Int)))) }
noncomputable def r6 (s : S) : Option S := (partial_Needed.f s.t_7 s.t_8 s.t_2).bind fun x66 => some { s with t_10 := x66.1, t_11 := x66.2 }
noncomputable def r7 (s : S) : Option S := (gc_Mark.f s.t_3 s.t_2).bind fun x87 => some { s with t_12 := x87.1, t_13 := x87.2 }
noncomputable def r8 (s : S) : Option S := some { s with t_65 := ((!decide (s.t_11.Code = (0 : Int))) || (!decide (s.t_13.Code = (0 : Int)))) }
noncomputable def r9 (s : S) : Option S := some { s with t_6 := ((decide (s.t_13.Code = (0 : Int))) && (decide ((s.t_10.length : Int) = (0 : Int)))) }
noncomputable def r10 (s : S) : Option S := some { s with t_14 := [] }
noncomputable def r11 (s : S) : Option S := some { s with t_15 := (0 : Int) }
noncomputable def r12 (s : S) : Option S := some { s with t_77 := (decide (s.t_15 < (s.t_12.length : Int))) }
noncomputable def r14 (s : S) : Option S := (idx s.t_12 s.t_15).bind fun x122 => (ref3_Has.f s.t_8 x122).bind fun x132 => some { s with t_85 := x132 }
noncomputable def r15 (s : S) : Option S := (idx s.t_12 s.t_15).bind fun x137 => (appL 8 s.t_14 [x137]).bind fun x152 => some { s with t_14 := x152 }
noncomputable def r13 (s : S) : Option S := some { s with t_15 := w64 (s.t_15 + (1 : Int)) }
noncomputable def r16 (s : S) : Option S := (ref3_Ints.f s.t_10 s.t_14).bind fun x159 => some { s with t_6 := x159 }
noncomputable def body : S → Option (Ctl S R) := (seqM (regM r0)
  (seqM (seqM (regM r1)
  (condM (fun s => s.t_17) (seqM (regM r2)
  (retM retv))
  skipM))
  (seqM (regM r3)
  (seqM (seqM (regM r4)
  (condM (fun s => s.t_32) (seqM (regM r5)
  (retM retv))
  skipM))
  (seqM (regM r6)
  (seqM (regM r7)
  (seqM (seqM (regM r8)
  (condM (fun s => s.t_65) (seqM (regM r9)
  (retM retv))
  skipM))
  (seqM (regM r10)
  (seqM (seqM (regM r11)
  (blockM 0 (iterM (seqM (seqM (regM r12)
  (condM (fun s => s.t_77) skipM
  (extM 0)))
  (seqM (blockM 1 (seqM (regM r14)
  (condM (fun s => s.t_85) (regM r15)
  skipM)))
  (regM r13))))))
  (seqM (regM r16)
  (retM retv)))))))))))
noncomputable def f (a0 : ObjectStore) (a1 : Int) (a2 : (List Int)) : Option R := retOf (body { t_0 := a0, t_1 := a1, t_2 := a2, t_3 := (⟨[]⟩ : ObjectStore), t_6 := false, t_7 := (⟨[]⟩ : ObjectStore), t_8 := [], t_9 := (⟨(0 : Int), (0 : Int)⟩ : Fault), t_10 := [], t_11 := (⟨(0 : Int), (0 : Int)⟩ : Fault), t_12 := [], t_13 := (⟨(0 : Int), (0 : Int)⟩ : Fault), t_14 := [], t_15 := (0 : Int), t_17 := false, t_32 := false, t_65 := false, t_77 := false, t_85 := false })
end law4_PartialNeededIsReachable

end Go.Proofs.Ytenkbkcddcnmeaa
