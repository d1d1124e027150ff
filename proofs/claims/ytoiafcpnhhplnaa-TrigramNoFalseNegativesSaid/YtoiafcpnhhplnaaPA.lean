/- What functions of the program come to, as plain Lean functions (written by a program, wip/fx/gen.py). -/
import Derived.Test.YtoiafcpnhhplnaaTy
import Derived.Test.YtoiafcpnhhplnaaSl
import Derived.Test.YtoiafcpnhhplnaaIn
import Derived.Test.YtoiafcpnhhplnaaInP
import Derived.Test.YtoiafcpnhhplnaaFx15
namespace Go.Proofs.Ytoiafcpnhhplnaa
open Go.Fx
set_option linter.unusedVariables false

namespace trigram_grams
structure S where
  text_0 : ByteArray
  t_2 : (List ByteArray)
  out_3 : (List ByteArray)
  i_4 : Int
  t_8 : Int
  t_9 : Int
  t_10 : Bool
abbrev R := (List ByteArray)
def retv (s : S) : R := (s.t_2)
noncomputable def r0 (s : S) : Option S := some { s with t_2 := [] }
noncomputable def r1 (s : S) : Option S := some { s with out_3 := [] }
noncomputable def r2 (s : S) : Option S := some { s with t_8 := (max (0 : Int) (w64 ((s.text_0.size : Int) - (2 : Int)))), t_9 := (0 : Int) }
noncomputable def r3 (s : S) : Option S := some { s with t_10 := (decide (s.t_9 < s.t_8)) }
noncomputable def r4 (s : S) : Option S := some { s with i_4 := s.t_9 }
noncomputable def r5 (s : S) : Option S := (cutS s.text_0 s.i_4 (w64 (s.i_4 + (3 : Int)))).bind fun x1 => (appL 16 s.out_3 [x1]).bind fun x7 => some { s with out_3 := x7 }
noncomputable def r6 (s : S) : Option S := some { s with t_9 := w64 (s.t_9 + (1 : Int)) }
noncomputable def r7 (s : S) : Option S := (SortS.f s.out_3).bind fun x13 => some { s with out_3 := x13 }
noncomputable def r8 (s : S) : Option S := (CompactS.f s.out_3).bind fun x19 => some { s with t_2 := x19 }
noncomputable def body : S → Option (Ctl S R) := (seqM (regM r0)
  (seqM (regM r1)
  (seqM (seqM (regM r2)
  (blockM 0 (iterM (seqM (regM r3)
  (seqM (condM (fun s => s.t_10) skipM
  (extM 0))
  (seqM (blockM 1 (seqM (regM r4)
  (regM r5)))
  (regM r6)))))))
  (seqM (regM r7)
  (seqM (regM r8)
  (retM retv))))))
noncomputable def f (a0 : ByteArray) : Option R := retOf (body { text_0 := a0, t_2 := [], out_3 := [], i_4 := (0 : Int), t_8 := (0 : Int), t_9 := (0 : Int), t_10 := false })
end trigram_grams

namespace slices_BinarySearchFunc_api_Posting_api_Posting_string
structure S where
  x_0 : (List Posting)
  target_1 : ByteArray
  cmp_2 : (Posting × ByteArray → Option Int)
  t_6 : Int
  t_7 : Bool
  n_8 : Int
  i_9 : Int
  j_10 : Int
  h_11 : Int
  t_17 : Bool
  t_31 : Bool
abbrev R := (Int × Bool)
def retv (s : S) : R := (s.t_6, s.t_7)
noncomputable def r0 (s : S) : Option S := some { s with t_6 := (0 : Int), t_7 := false }
noncomputable def r1 (s : S) : Option S := some { s with n_8 := (s.x_0.length : Int) }
noncomputable def r2 (s : S) : Option S := some { s with i_9 := (0 : Int), j_10 := s.n_8 }
noncomputable def r3 (s : S) : Option S := some { s with t_17 := (decide (s.i_9 < s.j_10)) }
noncomputable def r4 (s : S) : Option S := some { s with h_11 := w64 (shrV .u64 (IntKind.u64.wrap (w64 (s.i_9 + s.j_10))) (1 : Int)) }
noncomputable def r5 (s : S) : Option S := (idx s.x_0 s.h_11).bind fun x6 => (s.cmp_2 (x6, s.target_1)).bind fun x18 => some { s with t_31 := (decide (x18 < (0 : Int))) }
noncomputable def r6 (s : S) : Option S := some { s with i_9 := w64 (s.h_11 + (1 : Int)) }
noncomputable def r7 (s : S) : Option S := some { s with j_10 := s.h_11 }
noncomputable def r8 (s : S) : Option S := ((if (decide (s.i_9 < s.n_8)) = true then (idx s.x_0 s.i_9).bind fun x23 => (s.cmp_2 (x23, s.target_1)).bind fun x35 => some (decide (x35 = (0 : Int))) else some false)).bind fun x38 => some { s with t_6 := s.i_9, t_7 := x38 }
noncomputable def body : S → Option (Ctl S R) := (seqM (regM r0)
  (seqM (regM r1)
  (seqM (regM r2)
  (seqM (blockM 0 (iterM (seqM (seqM (regM r3)
  (condM (fun s => s.t_17) skipM
  (extM 0)))
  (blockM 1 (seqM (regM r4)
  (seqM (regM r5)
  (condM (fun s => s.t_31) (regM r6)
  (regM r7))))))))
  (seqM (regM r8)
  (retM retv))))))
noncomputable def f (a0 : (List Posting)) (a1 : ByteArray) (a2 : (Posting × ByteArray → Option Int)) : Option R := retOf (body { x_0 := a0, target_1 := a1, cmp_2 := a2, t_6 := (0 : Int), t_7 := false, n_8 := (0 : Int), i_9 := (0 : Int), j_10 := (0 : Int), h_11 := (0 : Int), t_17 := false, t_31 := false })
end slices_BinarySearchFunc_api_Posting_api_Posting_string

namespace trigram_find_1
structure S where
  p_0 : Posting
  g_1 : ByteArray
  p_2 : Posting
  t_4 : Int
abbrev R := Int
def retv (s : S) : R := (s.t_4)
noncomputable def r0 (s : S) : Option S := some { s with p_2 := s.p_0, t_4 := (0 : Int) }
noncomputable def r1 (s : S) : Option S := (CompareS.f s.p_2.Gram s.g_1).bind fun x5 => some { s with t_4 := x5 }
noncomputable def body : S → Option (Ctl S R) := (seqM (regM r0)
  (seqM (regM r1)
  (retM retv)))
noncomputable def f (a0 : Posting) (a1 : ByteArray) : Option R := retOf (body { p_0 := a0, g_1 := a1, p_2 := (⟨ByteArray.empty, []⟩ : Posting), t_4 := (0 : Int) })
end trigram_find_1

namespace trigram_find
structure S where
  x_0 : TrigramIndex
  gram_1 : ByteArray
  x_2 : TrigramIndex
  t_4 : Int
  t_5 : Bool
abbrev R := (Int × Bool)
def retv (s : S) : R := (s.t_4, s.t_5)
noncomputable def r0 (s : S) : Option S := some { s with x_2 := s.x_0, t_4 := (0 : Int), t_5 := false }
noncomputable def r1 (s : S) : Option S := (slices_BinarySearchFunc_api_Posting_api_Posting_string.f s.x_2.Postings s.gram_1 (fun x => trigram_find_1.f x.1 x.2)).bind fun x8 => some { s with t_4 := x8.1, t_5 := x8.2 }
noncomputable def body : S → Option (Ctl S R) := (seqM (regM r0)
  (seqM (regM r1)
  (retM retv)))
noncomputable def f (a0 : TrigramIndex) (a1 : ByteArray) : Option R := retOf (body { x_0 := a0, gram_1 := a1, x_2 := (⟨[], []⟩ : TrigramIndex), t_4 := (0 : Int), t_5 := false })
end trigram_find

namespace cmp_isNaN_int
structure S where
  x_0 : Int
  t_2 : Bool
abbrev R := Bool
def retv (s : S) : R := (s.t_2)
noncomputable def r0 (s : S) : Option S := some { s with t_2 := false }
noncomputable def r1 (s : S) : Option S := some { s with t_2 := (!decide (s.x_0 = s.x_0)) }
noncomputable def body : S → Option (Ctl S R) := (seqM (regM r0)
  (seqM (regM r1)
  (retM retv)))
noncomputable def f (a0 : Int) : Option R := retOf (body { x_0 := a0, t_2 := false })
end cmp_isNaN_int

namespace cmp_Less_int
structure S where
  x_0 : Int
  y_1 : Int
  t_4 : Bool
abbrev R := Bool
def retv (s : S) : R := (s.t_4)
noncomputable def r0 (s : S) : Option S := some { s with t_4 := false }
noncomputable def r1 (s : S) : Option S := (cmp_isNaN_int.f s.x_0).bind fun x1 => ((if x1 = true then (cmp_isNaN_int.f s.y_1).bind fun x8 => some (!x8) else some false)).bind fun x13 => some { s with t_4 := (x13 || (decide (s.x_0 < s.y_1))) }
noncomputable def body : S → Option (Ctl S R) := (seqM (regM r0)
  (seqM (regM r1)
  (retM retv)))
noncomputable def f (a0 : Int) (a1 : Int) : Option R := retOf (body { x_0 := a0, y_1 := a1, t_4 := false })
end cmp_Less_int

namespace slices_isNaN_int
structure S where
  x_0 : Int
  t_2 : Bool
abbrev R := Bool
def retv (s : S) : R := (s.t_2)
noncomputable def r0 (s : S) : Option S := some { s with t_2 := false }
noncomputable def r1 (s : S) : Option S := some { s with t_2 := (!decide (s.x_0 = s.x_0)) }
noncomputable def body : S → Option (Ctl S R) := (seqM (regM r0)
  (seqM (regM r1)
  (retM retv)))
noncomputable def f (a0 : Int) : Option R := retOf (body { x_0 := a0, t_2 := false })
end slices_isNaN_int

namespace slices_BinarySearch_int_int
structure S where
  x_0 : (List Int)
  target_1 : Int
  t_4 : Int
  t_5 : Bool
  n_6 : Int
  i_7 : Int
  j_8 : Int
  h_9 : Int
  t_15 : Bool
  t_27 : Bool
abbrev R := (Int × Bool)
def retv (s : S) : R := (s.t_4, s.t_5)
noncomputable def r0 (s : S) : Option S := some { s with t_4 := (0 : Int), t_5 := false }
noncomputable def r1 (s : S) : Option S := some { s with n_6 := (s.x_0.length : Int) }
noncomputable def r2 (s : S) : Option S := some { s with i_7 := (0 : Int), j_8 := s.n_6 }
noncomputable def r3 (s : S) : Option S := some { s with t_15 := (decide (s.i_7 < s.j_8)) }
noncomputable def r4 (s : S) : Option S := some { s with h_9 := w64 (shrV .u64 (IntKind.u64.wrap (w64 (s.i_7 + s.j_8))) (1 : Int)) }
noncomputable def r5 (s : S) : Option S := (idx s.x_0 s.h_9).bind fun x6 => (cmp_Less_int.f x6 s.target_1).bind fun x16 => some { s with t_27 := x16 }
noncomputable def r6 (s : S) : Option S := some { s with i_7 := w64 (s.h_9 + (1 : Int)) }
noncomputable def r7 (s : S) : Option S := some { s with j_8 := s.h_9 }
noncomputable def r8 (s : S) : Option S := ((if (decide (s.i_7 < s.n_6)) = true then (idx s.x_0 s.i_7).bind fun x23 => ((if (decide (x23 = s.target_1)) = true then some true else (idx s.x_0 s.i_7).bind fun x35 => (slices_isNaN_int.f x35).bind fun x45 => ((if x45 = true then (slices_isNaN_int.f s.target_1).bind fun x52 => some x52 else some false)).bind fun x57 => some x57)).bind fun x62 => some x62 else some false)).bind fun x67 => some { s with t_4 := s.i_7, t_5 := x67 }
noncomputable def body : S → Option (Ctl S R) := (seqM (regM r0)
  (seqM (regM r1)
  (seqM (regM r2)
  (seqM (blockM 0 (iterM (seqM (seqM (regM r3)
  (condM (fun s => s.t_15) skipM
  (extM 0)))
  (blockM 1 (seqM (regM r4)
  (seqM (regM r5)
  (condM (fun s => s.t_27) (regM r6)
  (regM r7))))))))
  (seqM (regM r8)
  (retM retv))))))
noncomputable def f (a0 : (List Int)) (a1 : Int) : Option R := retOf (body { x_0 := a0, target_1 := a1, t_4 := (0 : Int), t_5 := false, n_6 := (0 : Int), i_7 := (0 : Int), j_8 := (0 : Int), h_9 := (0 : Int), t_15 := false, t_27 := false })
end slices_BinarySearch_int_int

namespace trigram_with
structure S where
  l_0 : (List Int)
  n_1 : Int
  t_4 : (List Int)
  at_5 : Int
  there_6 : Bool
  t_13 : Bool
abbrev R := (List Int)
def retv (s : S) : R := (s.t_4)
noncomputable def r0 (s : S) : Option S := some { s with t_4 := [] }
noncomputable def r1 (s : S) : Option S := (slices_BinarySearch_int_int.f s.l_0 s.n_1).bind fun x1 => some { s with at_5 := x1.1, there_6 := x1.2 }
noncomputable def r2 (s : S) : Option S := some { s with t_13 := s.there_6 }
noncomputable def r3 (s : S) : Option S := (CloneI.f s.l_0).bind fun x6 => some { s with t_4 := x6 }
noncomputable def r4 (s : S) : Option S := (CloneI.f s.l_0).bind fun x13 => (Insert.f x13 s.at_5 [s.n_1]).bind fun x25 => some { s with t_4 := x25 }
noncomputable def body : S → Option (Ctl S R) := (seqM (regM r0)
  (seqM (regM r1)
  (seqM (seqM (regM r2)
  (condM (fun s => s.t_13) (seqM (regM r3)
  (retM retv))
  skipM))
  (seqM (regM r4)
  (retM retv)))))
noncomputable def f (a0 : (List Int)) (a1 : Int) : Option R := retOf (body { l_0 := a0, n_1 := a1, t_4 := [], at_5 := (0 : Int), there_6 := false, t_13 := false })
end trigram_with

namespace trigram_add
structure S where
  t_0 : TrigramIndex
  t_1 : Int
  t_2 : ByteArray
  t_3 : TrigramIndex
  t_6 : TrigramIndex
  t_7 : TrigramIndex
  t_9 : Posting
  t_11 : ByteArray
  t_12 : Int
  t_13 : Bool
  t_20 : (List Posting)
  t_21 : Int
  t_22 : Int
  t_23 : Bool
  t_39 : (List ByteArray)
  t_40 : Int
  t_41 : Int
  t_42 : Bool
  t_52 : Bool
abbrev R := TrigramIndex
def retv (s : S) : R := (s.t_6)
noncomputable def r0 (s : S) : Option S := some { s with t_3 := s.t_0, t_6 := (⟨[], []⟩ : TrigramIndex) }
noncomputable def r1 (s : S) : Option S := (trigram_with.f s.t_3.Texts s.t_1).bind fun x12 => some { s with t_7 := (⟨x12, []⟩ : TrigramIndex) }
noncomputable def r2 (s : S) : Option S := some { s with t_20 := s.t_3.Postings, t_21 := (s.t_3.Postings.length : Int), t_22 := (0 : Int) }
noncomputable def r3 (s : S) : Option S := some { s with t_23 := (decide (s.t_22 < s.t_21)) }
noncomputable def r4 (s : S) : Option S := (idx s.t_20 s.t_22).bind fun x43 => some { s with t_9 := x43 }
noncomputable def r5 (s : S) : Option S := (CloneI.f s.t_9.Texts).bind fun x98 => (appL 40 s.t_7.Postings [(⟨s.t_9.Gram, x98⟩ : Posting)]).bind fun x119 => some { s with t_7 := { s.t_7 with Postings := x119 } }
noncomputable def r6 (s : S) : Option S := some { s with t_22 := w64 (s.t_22 + (1 : Int)) }
noncomputable def r7 (s : S) : Option S := (trigram_grams.f s.t_2).bind fun x191 => some { s with t_39 := x191, t_40 := (x191.length : Int), t_41 := (0 : Int) }
noncomputable def r8 (s : S) : Option S := some { s with t_42 := (decide (s.t_41 < s.t_40)) }
noncomputable def r9 (s : S) : Option S := (idx s.t_39 s.t_41).bind fun x206 => some { s with t_11 := x206 }
noncomputable def r10 (s : S) : Option S := (trigram_find.f (⟨s.t_7.Texts, s.t_7.Postings⟩ : TrigramIndex) s.t_11).bind fun x219 => some { s with t_12 := x219.1, t_13 := x219.2 }
noncomputable def r11 (s : S) : Option S := some { s with t_52 := (!s.t_13) }
noncomputable def r12 (s : S) : Option S := (InsertP.f s.t_7.Postings s.t_12 [(⟨s.t_11, []⟩ : Posting)]).bind fun x231 => some { s with t_7 := { s.t_7 with Postings := x231 } }
noncomputable def r13 (s : S) : Option S := (idx s.t_7.Postings s.t_12).bind fun x242 => (trigram_with.f x242.Texts s.t_1).bind fun x251 => (idx s.t_7.Postings s.t_12).bind fun x258 => some { s with t_7 := { s.t_7 with Postings := setL s.t_7.Postings s.t_12 ({ x258 with Texts := x251 }) } }
noncomputable def r14 (s : S) : Option S := some { s with t_41 := w64 (s.t_41 + (1 : Int)) }
noncomputable def r15 (s : S) : Option S := some { s with t_6 := (⟨s.t_7.Texts, s.t_7.Postings⟩ : TrigramIndex), t_7 := s.t_7 }
noncomputable def body : S → Option (Ctl S R) := (seqM (regM r0)
  (seqM (regM r1)
  (seqM (seqM (regM r2)
  (blockM 0 (iterM (seqM (regM r3)
  (seqM (condM (fun s => s.t_23) skipM
  (extM 0))
  (seqM (blockM 1 (seqM (regM r4)
  (regM r5)))
  (regM r6)))))))
  (seqM (seqM (regM r7)
  (blockM 2 (iterM (seqM (regM r8)
  (seqM (condM (fun s => s.t_42) skipM
  (extM 2))
  (seqM (blockM 3 (seqM (regM r9)
  (seqM (regM r10)
  (seqM (seqM (regM r11)
  (condM (fun s => s.t_52) (regM r12)
  skipM))
  (regM r13)))))
  (regM r14)))))))
  (seqM (regM r15)
  (retM retv))))))
noncomputable def f (a0 : TrigramIndex) (a1 : Int) (a2 : ByteArray) : Option R := retOf (body { t_0 := a0, t_1 := a1, t_2 := a2, t_3 := (⟨[], []⟩ : TrigramIndex), t_6 := (⟨[], []⟩ : TrigramIndex), t_7 := (⟨[], []⟩ : TrigramIndex), t_9 := (⟨ByteArray.empty, []⟩ : Posting), t_11 := ByteArray.empty, t_12 := (0 : Int), t_13 := false, t_20 := [], t_21 := (0 : Int), t_22 := (0 : Int), t_23 := false, t_39 := [], t_40 := (0 : Int), t_41 := (0 : Int), t_42 := false, t_52 := false })
end trigram_add

namespace trigram_Index
structure S where
  texts_0 : (List ByteArray)
  t_2 : TrigramIndex
  t_3 : Fault
  i_4 : Int
  t_5 : ByteArray
  out_6 : TrigramIndex
  i_7 : Int
  t_8 : ByteArray
  t_11 : Bool
  t_14 : (List ByteArray)
  t_15 : Int
  t_16 : Int
  t_17 : Bool
  t_23 : Bool
  t_29 : (List ByteArray)
  t_30 : Int
  t_31 : Int
  t_32 : Bool
abbrev R := (TrigramIndex × Fault)
def retv (s : S) : R := (s.t_2, s.t_3)
noncomputable def r0 (s : S) : Option S := some { s with t_2 := (⟨[], []⟩ : TrigramIndex), t_3 := (⟨(0 : Int), (0 : Int)⟩ : Fault) }
noncomputable def r1 (s : S) : Option S := some { s with t_11 := (decide ((20 : Int) < (s.texts_0.length : Int))) }
noncomputable def r2 (s : S) : Option S := some { s with t_2 := (⟨[], []⟩ : TrigramIndex), t_3 := (⟨(2 : Int), (-1 : Int)⟩ : Fault) }
noncomputable def r3 (s : S) : Option S := some { s with t_14 := s.texts_0, t_15 := (s.texts_0.length : Int), t_16 := (0 : Int) }
noncomputable def r4 (s : S) : Option S := some { s with t_17 := (decide (s.t_16 < s.t_15)) }
noncomputable def r5 (s : S) : Option S := (idx s.t_14 s.t_16).bind fun x28 => some { s with i_4 := s.t_16, t_5 := x28 }
noncomputable def r6 (s : S) : Option S := some { s with t_23 := (decide ((400 : Int) < (s.t_5.size : Int))) }
noncomputable def r7 (s : S) : Option S := some { s with t_2 := (⟨[], []⟩ : TrigramIndex), t_3 := (⟨(10 : Int), s.i_4⟩ : Fault) }
noncomputable def r8 (s : S) : Option S := some { s with t_16 := w64 (s.t_16 + (1 : Int)) }
noncomputable def r9 (s : S) : Option S := some { s with out_6 := (⟨[], []⟩ : TrigramIndex) }
noncomputable def r10 (s : S) : Option S := some { s with t_29 := s.texts_0, t_30 := (s.texts_0.length : Int), t_31 := (0 : Int) }
noncomputable def r11 (s : S) : Option S := some { s with t_32 := (decide (s.t_31 < s.t_30)) }
noncomputable def r12 (s : S) : Option S := (idx s.t_29 s.t_31).bind fun x61 => some { s with i_7 := s.t_31, t_8 := x61 }
noncomputable def r13 (s : S) : Option S := (trigram_add.f s.out_6 s.i_7 s.t_8).bind fun x73 => some { s with out_6 := x73 }
noncomputable def r14 (s : S) : Option S := some { s with t_31 := w64 (s.t_31 + (1 : Int)) }
noncomputable def r15 (s : S) : Option S := some { s with t_2 := s.out_6, t_3 := (⟨(0 : Int), (0 : Int)⟩ : Fault) }
noncomputable def body : S → Option (Ctl S R) := (seqM (regM r0)
  (seqM (seqM (regM r1)
  (condM (fun s => s.t_11) (seqM (regM r2)
  (retM retv))
  skipM))
  (seqM (seqM (regM r3)
  (blockM 0 (iterM (seqM (regM r4)
  (seqM (condM (fun s => s.t_17) skipM
  (extM 0))
  (seqM (blockM 1 (seqM (regM r5)
  (seqM (regM r6)
  (condM (fun s => s.t_23) (seqM (regM r7)
  (retM retv))
  skipM))))
  (regM r8)))))))
  (seqM (regM r9)
  (seqM (seqM (regM r10)
  (blockM 2 (iterM (seqM (regM r11)
  (seqM (condM (fun s => s.t_32) skipM
  (extM 2))
  (seqM (blockM 3 (seqM (regM r12)
  (regM r13)))
  (regM r14)))))))
  (seqM (regM r15)
  (retM retv)))))))
noncomputable def f (a0 : (List ByteArray)) : Option R := retOf (body { texts_0 := a0, t_2 := (⟨[], []⟩ : TrigramIndex), t_3 := (⟨(0 : Int), (0 : Int)⟩ : Fault), i_4 := (0 : Int), t_5 := ByteArray.empty, out_6 := (⟨[], []⟩ : TrigramIndex), i_7 := (0 : Int), t_8 := ByteArray.empty, t_11 := false, t_14 := [], t_15 := (0 : Int), t_16 := (0 : Int), t_17 := false, t_23 := false, t_29 := [], t_30 := (0 : Int), t_31 := (0 : Int), t_32 := false })
end trigram_Index

namespace trigram_increasing
structure S where
  l_0 : (List Int)
  t_2 : Bool
  i_3 : Int
  t_7 : Bool
  t_19 : Bool
abbrev R := Bool
def retv (s : S) : R := (s.t_2)
noncomputable def r0 (s : S) : Option S := some { s with t_2 := false }
noncomputable def r1 (s : S) : Option S := some { s with i_3 := (1 : Int) }
noncomputable def r2 (s : S) : Option S := some { s with t_7 := (decide (s.i_3 < (s.l_0.length : Int))) }
noncomputable def r4 (s : S) : Option S := (idx s.l_0 (w64 (s.i_3 - (1 : Int)))).bind fun x6 => (idx s.l_0 s.i_3).bind fun x16 => some { s with t_19 := (decide (x16 ≤ x6)) }
noncomputable def r5 (s : S) : Option S := some { s with t_2 := false }
noncomputable def r3 (s : S) : Option S := some { s with i_3 := w64 (s.i_3 + (1 : Int)) }
noncomputable def r6 (s : S) : Option S := some { s with t_2 := true }
noncomputable def body : S → Option (Ctl S R) := (seqM (regM r0)
  (seqM (seqM (regM r1)
  (blockM 0 (iterM (seqM (seqM (regM r2)
  (condM (fun s => s.t_7) skipM
  (extM 0)))
  (seqM (blockM 1 (seqM (regM r4)
  (condM (fun s => s.t_19) (seqM (regM r5)
  (retM retv))
  skipM)))
  (regM r3))))))
  (seqM (regM r6)
  (retM retv))))
noncomputable def f (a0 : (List Int)) : Option R := retOf (body { l_0 := a0, t_2 := false, i_3 := (0 : Int), t_7 := false, t_19 := false })
end trigram_increasing

namespace slices_IndexFunc_int_int
structure S where
  s_0 : (List Int)
  f_1 : (Int → Option Bool)
  t_4 : Int
  i_5 : Int
  t_7 : Int
  t_8 : Int
  t_9 : Bool
  t_16 : Bool
abbrev R := Int
def retv (s : S) : R := (s.t_4)
noncomputable def r0 (s : S) : Option S := some { s with t_4 := (0 : Int) }
noncomputable def r1 (s : S) : Option S := some { s with t_7 := (s.s_0.length : Int), t_8 := (0 : Int) }
noncomputable def r2 (s : S) : Option S := some { s with t_9 := (decide (s.t_8 < s.t_7)) }
noncomputable def r3 (s : S) : Option S := some { s with i_5 := s.t_8 }
noncomputable def r4 (s : S) : Option S := (idx s.s_0 s.i_5).bind fun x6 => (s.f_1 x6).bind fun x16 => some { s with t_16 := x16 }
noncomputable def r5 (s : S) : Option S := some { s with t_4 := s.i_5 }
noncomputable def r6 (s : S) : Option S := some { s with t_8 := w64 (s.t_8 + (1 : Int)) }
noncomputable def r7 (s : S) : Option S := some { s with t_4 := (-1 : Int) }
noncomputable def body : S → Option (Ctl S R) := (seqM (regM r0)
  (seqM (seqM (regM r1)
  (blockM 0 (iterM (seqM (regM r2)
  (seqM (condM (fun s => s.t_9) skipM
  (extM 0))
  (seqM (blockM 1 (seqM (regM r3)
  (seqM (regM r4)
  (condM (fun s => s.t_16) (seqM (regM r5)
  (retM retv))
  skipM))))
  (regM r6)))))))
  (seqM (regM r7)
  (retM retv))))
noncomputable def f (a0 : (List Int)) (a1 : (Int → Option Bool)) : Option R := retOf (body { s_0 := a0, f_1 := a1, t_4 := (0 : Int), i_5 := (0 : Int), t_7 := (0 : Int), t_8 := (0 : Int), t_9 := false, t_16 := false })
end slices_IndexFunc_int_int

namespace slices_ContainsFunc_int_int
structure S where
  s_0 : (List Int)
  f_1 : (Int → Option Bool)
  t_4 : Bool
abbrev R := Bool
def retv (s : S) : R := (s.t_4)
noncomputable def r0 (s : S) : Option S := some { s with t_4 := false }
noncomputable def r1 (s : S) : Option S := (slices_IndexFunc_int_int.f s.s_0 s.f_1).bind fun x1 => some { s with t_4 := (decide ((0 : Int) ≤ x1)) }
noncomputable def body : S → Option (Ctl S R) := (seqM (regM r0)
  (seqM (regM r1)
  (retM retv)))
noncomputable def f (a0 : (List Int)) (a1 : (Int → Option Bool)) : Option R := retOf (body { s_0 := a0, f_1 := a1, t_4 := false })
end slices_ContainsFunc_int_int

namespace slices_Index_int_int
structure S where
  s_0 : (List Int)
  v_1 : Int
  t_4 : Int
  i_5 : Int
  t_7 : Int
  t_8 : Int
  t_9 : Bool
  t_16 : Bool
abbrev R := Int
def retv (s : S) : R := (s.t_4)
noncomputable def r0 (s : S) : Option S := some { s with t_4 := (0 : Int) }
noncomputable def r1 (s : S) : Option S := some { s with t_7 := (s.s_0.length : Int), t_8 := (0 : Int) }
noncomputable def r2 (s : S) : Option S := some { s with t_9 := (decide (s.t_8 < s.t_7)) }
noncomputable def r3 (s : S) : Option S := some { s with i_5 := s.t_8 }
noncomputable def r4 (s : S) : Option S := (idx s.s_0 s.i_5).bind fun x6 => some { s with t_16 := (decide (s.v_1 = x6)) }
noncomputable def r5 (s : S) : Option S := some { s with t_4 := s.i_5 }
noncomputable def r6 (s : S) : Option S := some { s with t_8 := w64 (s.t_8 + (1 : Int)) }
noncomputable def r7 (s : S) : Option S := some { s with t_4 := (-1 : Int) }
noncomputable def body : S → Option (Ctl S R) := (seqM (regM r0)
  (seqM (seqM (regM r1)
  (blockM 0 (iterM (seqM (regM r2)
  (seqM (condM (fun s => s.t_9) skipM
  (extM 0))
  (seqM (blockM 1 (seqM (regM r3)
  (seqM (regM r4)
  (condM (fun s => s.t_16) (seqM (regM r5)
  (retM retv))
  skipM))))
  (regM r6)))))))
  (seqM (regM r7)
  (retM retv))))
noncomputable def f (a0 : (List Int)) (a1 : Int) : Option R := retOf (body { s_0 := a0, v_1 := a1, t_4 := (0 : Int), i_5 := (0 : Int), t_7 := (0 : Int), t_8 := (0 : Int), t_9 := false, t_16 := false })
end slices_Index_int_int

namespace slices_Contains_int_int
structure S where
  s_0 : (List Int)
  v_1 : Int
  t_4 : Bool
abbrev R := Bool
def retv (s : S) : R := (s.t_4)
noncomputable def r0 (s : S) : Option S := some { s with t_4 := false }
noncomputable def r1 (s : S) : Option S := (slices_Index_int_int.f s.s_0 s.v_1).bind fun x1 => some { s with t_4 := (decide ((0 : Int) ≤ x1)) }
noncomputable def body : S → Option (Ctl S R) := (seqM (regM r0)
  (seqM (regM r1)
  (retM retv)))
noncomputable def f (a0 : (List Int)) (a1 : Int) : Option R := retOf (body { s_0 := a0, v_1 := a1, t_4 := false })
end slices_Contains_int_int

namespace trigram_Validate_1
structure S where
  n_0 : Int
  t_1 : TrigramIndex
  t_3 : Bool
abbrev R := Bool
def retv (s : S) : R := (s.t_3)
noncomputable def r0 (s : S) : Option S := some { s with t_3 := false }
noncomputable def r1 (s : S) : Option S := (slices_Contains_int_int.f s.t_1.Texts s.n_0).bind fun x4 => some { s with t_3 := (!x4) }
noncomputable def body : S → Option (Ctl S R) := (seqM (regM r0)
  (seqM (regM r1)
  (retM retv)))
noncomputable def f (a0 : Int) (a1 : TrigramIndex) : Option R := retOf (body { n_0 := a0, t_1 := a1, t_3 := false })
end trigram_Validate_1

namespace trigram_Validate
structure S where
  t_0 : TrigramIndex
  t_1 : TrigramIndex
  t_2 : Fault
  t_3 : Int
  t_4 : Int
  t_5 : Int
  t_6 : Posting
  t_10 : Bool
  t_13 : (List Int)
  t_14 : Int
  t_15 : Int
  t_16 : Bool
  t_20 : Bool
  t_30 : Bool
  t_48 : (List Posting)
  t_49 : Int
  t_50 : Int
  t_51 : Bool
  t_55 : Bool
  t_62 : Bool
  t_87 : Bool
abbrev R := Fault
def retv (s : S) : R := (s.t_2)
noncomputable def r0 (s : S) : Option S := some { s with t_1 := s.t_0, t_2 := (⟨(0 : Int), (0 : Int)⟩ : Fault) }
noncomputable def r1 (s : S) : Option S := some { s with t_10 := (decide ((20 : Int) < (s.t_1.Texts.length : Int))) }
noncomputable def r2 (s : S) : Option S := some { s with t_2 := (⟨(2 : Int), (-1 : Int)⟩ : Fault) }
noncomputable def r3 (s : S) : Option S := some { s with t_13 := s.t_1.Texts, t_14 := (s.t_1.Texts.length : Int), t_15 := (0 : Int) }
noncomputable def r4 (s : S) : Option S := some { s with t_16 := (decide (s.t_15 < s.t_14)) }
noncomputable def r5 (s : S) : Option S := (idx s.t_13 s.t_15).bind fun x29 => some { s with t_3 := s.t_15, t_4 := x29 }
noncomputable def r6 (s : S) : Option S := some { s with t_20 := ((decide (s.t_4 < (0 : Int))) || (decide ((20 : Int) ≤ s.t_4))) }
noncomputable def r7 (s : S) : Option S := some { s with t_2 := (⟨(3 : Int), w64 ((-2 : Int) - s.t_3)⟩ : Fault) }
noncomputable def r8 (s : S) : Option S := ((if (decide ((0 : Int) < s.t_3)) = true then (idx s.t_1.Texts (w64 (s.t_3 - (1 : Int)))).bind fun x51 => some (decide (s.t_4 ≤ x51)) else some false)).bind fun x61 => some { s with t_30 := x61 }
noncomputable def r9 (s : S) : Option S := some { s with t_2 := (⟨(5 : Int), w64 ((-2 : Int) - s.t_3)⟩ : Fault) }
noncomputable def r10 (s : S) : Option S := some { s with t_15 := w64 (s.t_15 + (1 : Int)) }
noncomputable def r11 (s : S) : Option S := some { s with t_48 := s.t_1.Postings, t_49 := (s.t_1.Postings.length : Int), t_50 := (0 : Int) }
noncomputable def r12 (s : S) : Option S := some { s with t_51 := (decide (s.t_50 < s.t_49)) }
noncomputable def r13 (s : S) : Option S := (idx s.t_48 s.t_50).bind fun x75 => some { s with t_5 := s.t_50, t_6 := x75 }
noncomputable def r14 (s : S) : Option S := some { s with t_55 := (!decide ((s.t_6.Gram.size : Int) = (3 : Int))) }
noncomputable def r15 (s : S) : Option S := some { s with t_2 := (⟨(9 : Int), s.t_5⟩ : Fault) }
noncomputable def r16 (s : S) : Option S := ((if (decide ((0 : Int) < s.t_5)) = true then (idx s.t_1.Postings (w64 (s.t_5 - (1 : Int)))).bind fun x103 => some (sLess s.t_6.Gram x103.Gram || decide (s.t_6.Gram = x103.Gram)) else some false)).bind fun x113 => some { s with t_62 := x113 }
noncomputable def r17 (s : S) : Option S := some { s with t_62 := (decide ((s.t_6.Texts.length : Int) = (0 : Int))) }
noncomputable def r18 (s : S) : Option S := (trigram_increasing.f s.t_6.Texts).bind fun x126 => some { s with t_62 := (!x126) }
noncomputable def r19 (s : S) : Option S := some { s with t_2 := (⟨(5 : Int), s.t_5⟩ : Fault) }
noncomputable def r20 (s : S) : Option S := (slices_ContainsFunc_int_int.f s.t_6.Texts (fun x => trigram_Validate_1.f x s.t_1)).bind fun x139 => some { s with t_87 := x139 }
noncomputable def r21 (s : S) : Option S := some { s with t_2 := (⟨(6 : Int), s.t_5⟩ : Fault) }
noncomputable def r22 (s : S) : Option S := some { s with t_50 := w64 (s.t_50 + (1 : Int)) }
noncomputable def r23 (s : S) : Option S := some { s with t_2 := (⟨(0 : Int), (0 : Int)⟩ : Fault) }
noncomputable def body : S → Option (Ctl S R) := (seqM (regM r0)
  (seqM (seqM (regM r1)
  (condM (fun s => s.t_10) (seqM (regM r2)
  (retM retv))
  skipM))
  (seqM (seqM (regM r3)
  (blockM 0 (iterM (seqM (regM r4)
  (seqM (condM (fun s => s.t_16) skipM
  (extM 0))
  (seqM (blockM 1 (seqM (regM r5)
  (blockM 2 (seqM (regM r6)
  (condM (fun s => s.t_20) (seqM (regM r7)
  (retM retv))
  (seqM (regM r8)
  (condM (fun s => s.t_30) (seqM (regM r9)
  (retM retv))
  skipM)))))))
  (regM r10)))))))
  (seqM (seqM (regM r11)
  (blockM 3 (iterM (seqM (regM r12)
  (seqM (condM (fun s => s.t_51) skipM
  (extM 3))
  (seqM (blockM 4 (seqM (regM r13)
  (blockM 5 (seqM (regM r14)
  (condM (fun s => s.t_55) (seqM (regM r15)
  (retM retv))
  (seqM (seqM (regM r16)
  (condM (fun s => s.t_62) skipM
  (seqM (regM r17)
  (condM (fun s => s.t_62) skipM
  (regM r18)))))
  (condM (fun s => s.t_62) (seqM (regM r19)
  (retM retv))
  (seqM (regM r20)
  (condM (fun s => s.t_87) (seqM (regM r21)
  (retM retv))
  skipM)))))))))
  (regM r22)))))))
  (seqM (regM r23)
  (retM retv))))))
noncomputable def f (a0 : TrigramIndex) : Option R := retOf (body { t_0 := a0, t_1 := (⟨[], []⟩ : TrigramIndex), t_2 := (⟨(0 : Int), (0 : Int)⟩ : Fault), t_3 := (0 : Int), t_4 := (0 : Int), t_5 := (0 : Int), t_6 := (⟨ByteArray.empty, []⟩ : Posting), t_10 := false, t_13 := [], t_14 := (0 : Int), t_15 := (0 : Int), t_16 := false, t_20 := false, t_30 := false, t_48 := [], t_49 := (0 : Int), t_50 := (0 : Int), t_51 := false, t_55 := false, t_62 := false, t_87 := false })
end trigram_Validate

namespace slices_DeleteFunc_int_int
structure S where
  s_0 : (List Int)
  del_1 : (Int → Option Bool)
  t_4 : (List Int)
  i_5 : Int
  j_6 : Int
  v_7 : Int
  t_12 : Bool
  t_19 : Bool
  t_29 : Bool
abbrev R := (List Int)
def retv (s : S) : R := (s.t_4)
noncomputable def r0 (s : S) : Option S := some { s with t_4 := [] }
noncomputable def r1 (s : S) : Option S := (slices_IndexFunc_int_int.f s.s_0 s.del_1).bind fun x2 => some { s with i_5 := x2 }
noncomputable def r2 (s : S) : Option S := some { s with t_12 := (decide (s.i_5 = (-1 : Int))) }
noncomputable def r3 (s : S) : Option S := some { s with t_4 := s.s_0 }
noncomputable def r4 (s : S) : Option S := some { s with j_6 := w64 (s.i_5 + (1 : Int)) }
noncomputable def r5 (s : S) : Option S := some { s with t_19 := (decide (s.j_6 < (s.s_0.length : Int))) }
noncomputable def r7 (s : S) : Option S := (idx s.s_0 s.j_6).bind fun x12 => some { s with v_7 := x12 }
noncomputable def r8 (s : S) : Option S := (s.del_1 s.v_7).bind fun x18 => some { s with t_29 := (!x18) }
noncomputable def r9 (s : S) : Option S := (idx s.s_0 s.i_5).bind fun x21 => some { s with s_0 := setL s.s_0 s.i_5 s.v_7 }
noncomputable def r10 (s : S) : Option S := some { s with i_5 := w64 (s.i_5 + (1 : Int)) }
noncomputable def r6 (s : S) : Option S := some { s with j_6 := w64 (s.j_6 + (1 : Int)) }
noncomputable def r11 (s : S) : Option S := (cutFrom s.s_0 s.i_5).bind fun x34 => some { s with s_0 := clearFrom (0 : Int) s.s_0 s.i_5 }
noncomputable def r12 (s : S) : Option S := (cutTo s.s_0 s.i_5).bind fun x43 => some { s with t_4 := x43 }
noncomputable def body : S → Option (Ctl S R) := (seqM (regM r0)
  (seqM (regM r1)
  (seqM (seqM (regM r2)
  (condM (fun s => s.t_12) (seqM (regM r3)
  (retM retv))
  skipM))
  (seqM (seqM (regM r4)
  (blockM 0 (iterM (seqM (seqM (regM r5)
  (condM (fun s => s.t_19) skipM
  (extM 0)))
  (seqM (blockM 1 (seqM (regM r7)
  (seqM (regM r8)
  (condM (fun s => s.t_29) (seqM (regM r9)
  (regM r10))
  skipM))))
  (regM r6))))))
  (seqM (regM r11)
  (seqM (regM r12)
  (retM retv)))))))
noncomputable def f (a0 : (List Int)) (a1 : (Int → Option Bool)) : Option R := retOf (body { s_0 := a0, del_1 := a1, t_4 := [], i_5 := (0 : Int), j_6 := (0 : Int), v_7 := (0 : Int), t_12 := false, t_19 := false, t_29 := false })
end slices_DeleteFunc_int_int

namespace trigram_Candidates_1
structure S where
  n_0 : Int
  t_1 : (List Int)
  t_3 : Bool
abbrev R := Bool
def retv (s : S) : R := (s.t_3)
noncomputable def r0 (s : S) : Option S := some { s with t_3 := false }
noncomputable def r1 (s : S) : Option S := (slices_Contains_int_int.f s.t_1 s.n_0).bind fun x4 => some { s with t_3 := (!x4) }
noncomputable def body : S → Option (Ctl S R) := (seqM (regM r0)
  (seqM (regM r1)
  (retM retv)))
noncomputable def f (a0 : Int) (a1 : (List Int)) : Option R := retOf (body { n_0 := a0, t_1 := a1, t_3 := false })
end trigram_Candidates_1

namespace trigram_Candidates
structure S where
  x_0 : TrigramIndex
  part_1 : ByteArray
  x_2 : TrigramIndex
  t_4 : (List Int)
  t_5 : Fault
  f_6 : Fault
  out_7 : (List Int)
  g_9 : ByteArray
  in_10 : (List Int)
  at_11 : Int
  there_12 : Bool
  t_17 : Bool
  t_21 : Bool
  t_27 : (List ByteArray)
  t_28 : Int
  t_29 : Int
  t_30 : Bool
  t_39 : Bool
abbrev R := ((List Int) × Fault)
def retv (s : S) : R := (s.t_4, s.t_5)
noncomputable def r0 (s : S) : Option S := some { s with x_2 := s.x_0, t_4 := [], t_5 := (⟨(0 : Int), (0 : Int)⟩ : Fault) }
noncomputable def r1 (s : S) : Option S := (trigram_Validate.f s.x_2).bind fun x11 => some { s with f_6 := x11 }
noncomputable def r2 (s : S) : Option S := some { s with t_17 := (!decide (s.f_6 = (⟨(0 : Int), (0 : Int)⟩ : Fault))) }
noncomputable def r3 (s : S) : Option S := some { s with t_4 := [], t_5 := s.f_6 }
noncomputable def r4 (s : S) : Option S := some { s with t_21 := (decide ((400 : Int) < (s.part_1.size : Int))) }
noncomputable def r5 (s : S) : Option S := some { s with t_4 := [], t_5 := (⟨(10 : Int), (-1 : Int)⟩ : Fault) }
noncomputable def r6 (s : S) : Option S := (CloneI.f s.x_2.Texts).bind fun x40 => some { s with out_7 := x40 }
noncomputable def r7 (s : S) : Option S := (trigram_grams.f s.part_1).bind fun x47 => some { s with t_27 := x47, t_28 := (x47.length : Int), t_29 := (0 : Int) }
noncomputable def r8 (s : S) : Option S := some { s with t_30 := (decide (s.t_29 < s.t_28)) }
noncomputable def r9 (s : S) : Option S := (idx s.t_27 s.t_29).bind fun x62 => some { s with g_9 := x62 }
noncomputable def r10 (s : S) : Option S := some { s with in_10 := [] }
noncomputable def r11 (s : S) : Option S := (trigram_find.f s.x_2 s.g_9).bind fun x78 => some { s with at_11 := x78.1, there_12 := x78.2 }
noncomputable def r12 (s : S) : Option S := some { s with t_39 := s.there_12 }
noncomputable def r13 (s : S) : Option S := (idx s.x_2.Postings s.at_11).bind fun x86 => some { s with in_10 := x86.Texts }
noncomputable def r14 (s : S) : Option S := (slices_DeleteFunc_int_int.f s.out_7 (fun x => trigram_Candidates_1.f x s.in_10)).bind fun x103 => some { s with out_7 := x103 }
noncomputable def r15 (s : S) : Option S := some { s with t_29 := w64 (s.t_29 + (1 : Int)) }
noncomputable def r16 (s : S) : Option S := some { s with t_4 := s.out_7, t_5 := (⟨(0 : Int), (0 : Int)⟩ : Fault) }
noncomputable def body : S → Option (Ctl S R) := (seqM (regM r0)
  (seqM (seqM (regM r1)
  (seqM (regM r2)
  (condM (fun s => s.t_17) (seqM (regM r3)
  (retM retv))
  skipM)))
  (seqM (seqM (regM r4)
  (condM (fun s => s.t_21) (seqM (regM r5)
  (retM retv))
  skipM))
  (seqM (regM r6)
  (seqM (seqM (regM r7)
  (blockM 0 (iterM (seqM (regM r8)
  (seqM (condM (fun s => s.t_30) skipM
  (extM 0))
  (seqM (blockM 1 (seqM (regM r9)
  (seqM (regM r10)
  (seqM (seqM (regM r11)
  (seqM (regM r12)
  (condM (fun s => s.t_39) (regM r13)
  skipM)))
  (regM r14)))))
  (regM r15)))))))
  (seqM (regM r16)
  (retM retv)))))))
noncomputable def f (a0 : TrigramIndex) (a1 : ByteArray) : Option R := retOf (body { x_0 := a0, part_1 := a1, x_2 := (⟨[], []⟩ : TrigramIndex), t_4 := [], t_5 := (⟨(0 : Int), (0 : Int)⟩ : Fault), f_6 := (⟨(0 : Int), (0 : Int)⟩ : Fault), out_7 := [], g_9 := ByteArray.empty, in_10 := [], at_11 := (0 : Int), there_12 := false, t_17 := false, t_21 := false, t_27 := [], t_28 := (0 : Int), t_29 := (0 : Int), t_30 := false, t_39 := false })
end trigram_Candidates

namespace ref3_Ints
structure S where
  a_0 : (List Int)
  b_1 : (List Int)
  t_4 : Bool
  i_5 : Int
  t_10 : Bool
  t_14 : Bool
  t_25 : Bool
abbrev R := Bool
def retv (s : S) : R := (s.t_4)
noncomputable def r0 (s : S) : Option S := some { s with t_4 := false }
noncomputable def r1 (s : S) : Option S := some { s with t_10 := (!decide ((s.a_0.length : Int) = (s.b_1.length : Int))) }
noncomputable def r2 (s : S) : Option S := some { s with t_4 := false }
noncomputable def r3 (s : S) : Option S := some { s with i_5 := (0 : Int) }
noncomputable def r4 (s : S) : Option S := some { s with t_14 := (decide (s.i_5 < (s.a_0.length : Int))) }
noncomputable def r6 (s : S) : Option S := (idx s.a_0 s.i_5).bind fun x16 => (idx s.b_1 s.i_5).bind fun x26 => some { s with t_25 := (!decide (x16 = x26)) }
noncomputable def r7 (s : S) : Option S := some { s with t_4 := false }
noncomputable def r5 (s : S) : Option S := some { s with i_5 := w64 (s.i_5 + (1 : Int)) }
noncomputable def r8 (s : S) : Option S := some { s with t_4 := true }
noncomputable def body : S → Option (Ctl S R) := (seqM (regM r0)
  (seqM (seqM (regM r1)
  (condM (fun s => s.t_10) (seqM (regM r2)
  (retM retv))
  skipM))
  (seqM (seqM (regM r3)
  (blockM 0 (iterM (seqM (seqM (regM r4)
  (condM (fun s => s.t_14) skipM
  (extM 0)))
  (seqM (blockM 1 (seqM (regM r6)
  (condM (fun s => s.t_25) (seqM (regM r7)
  (retM retv))
  skipM)))
  (regM r5))))))
  (seqM (regM r8)
  (retM retv)))))
noncomputable def f (a0 : (List Int)) (a1 : (List Int)) : Option R := retOf (body { a_0 := a0, b_1 := a1, t_4 := false, i_5 := (0 : Int), t_10 := false, t_14 := false, t_25 := false })
end ref3_Ints

namespace law4_trigramExample
structure S where
  t_0 : Bool
  x_1 : TrigramIndex
  f_2 : Fault
  a_3 : (List Int)
  g_4 : Fault
  b_5 : (List Int)
  h_6 : Fault
abbrev R := Bool
def retv (s : S) : R := (s.t_0)
noncomputable def r0 (s : S) : Option S := some { s with t_0 := false }
noncomputable def r1 (s : S) : Option S := (trigram_Index.f [(⟨#[97, 98, 99, 100]⟩ : ByteArray), (⟨#[98, 99, 100]⟩ : ByteArray)]).bind fun x6 => some { s with x_1 := x6.1, f_2 := x6.2 }
noncomputable def r2 (s : S) : Option S := (trigram_Candidates.f s.x_1 (⟨#[98, 99, 100]⟩ : ByteArray)).bind fun x31 => some { s with a_3 := x31.1, g_4 := x31.2 }
noncomputable def r3 (s : S) : Option S := (trigram_Candidates.f s.x_1 (⟨#[97, 98, 99, 100]⟩ : ByteArray)).bind fun x52 => some { s with b_5 := x52.1, h_6 := x52.2 }
noncomputable def r4 (s : S) : Option S := ((if ((((decide (s.f_2.Code = (0 : Int))) && (decide (s.g_4.Code = (0 : Int)))) && (decide (s.h_6.Code = (0 : Int)))) && (decide ((s.x_1.Postings.length : Int) = (2 : Int)))) = true then (idx s.x_1.Postings (0 : Int)).bind fun x93 => some (decide (x93.Gram = (⟨#[97, 98, 99]⟩ : ByteArray))) else some false)).bind fun x103 => ((if x103 = true then (ref3_Ints.f s.a_3 [(0 : Int), (1 : Int)]).bind fun x112 => some x112 else some false)).bind fun x117 => ((if x117 = true then (ref3_Ints.f s.b_5 [(0 : Int)]).bind fun x129 => some x129 else some false)).bind fun x134 => some { s with t_0 := x134 }
noncomputable def body : S → Option (Ctl S R) := (seqM (regM r0)
  (seqM (regM r1)
  (seqM (regM r2)
  (seqM (regM r3)
  (seqM (regM r4)
  (retM retv))))))
noncomputable def f  : Option R := retOf (body { t_0 := false, x_1 := (⟨[], []⟩ : TrigramIndex), f_2 := (⟨(0 : Int), (0 : Int)⟩ : Fault), a_3 := [], g_4 := (⟨(0 : Int), (0 : Int)⟩ : Fault), b_5 := [], h_6 := (⟨(0 : Int), (0 : Int)⟩ : Fault) })
end law4_trigramExample

namespace ref4_Indexes
structure S where
  a_0 : TrigramIndex
  b_1 : TrigramIndex
  a_2 : TrigramIndex
  b_3 : TrigramIndex
  t_4 : Bool
  i_5 : Int
  t_20 : Bool
  t_25 : Bool
  t_56 : Bool
abbrev R := Bool
def retv (s : S) : R := (s.t_4)
noncomputable def r0 (s : S) : Option S := some { s with a_2 := s.a_0, b_3 := s.b_1, t_4 := false }
noncomputable def r1 (s : S) : Option S := (ref3_Ints.f s.a_2.Texts s.b_3.Texts).bind fun x15 => some { s with t_20 := ((!x15) || (!decide ((s.a_2.Postings.length : Int) = (s.b_3.Postings.length : Int)))) }
noncomputable def r2 (s : S) : Option S := some { s with t_4 := false }
noncomputable def r3 (s : S) : Option S := some { s with i_5 := (0 : Int) }
noncomputable def r4 (s : S) : Option S := some { s with t_25 := (decide (s.i_5 < (s.a_2.Postings.length : Int))) }
noncomputable def r6 (s : S) : Option S := (idx s.a_2.Postings s.i_5).bind fun x50 => (idx s.b_3.Postings s.i_5).bind fun x63 => ((if (!decide (x50.Gram = x63.Gram)) = true then some true else (idx s.a_2.Postings s.i_5).bind fun x78 => (idx s.b_3.Postings s.i_5).bind fun x94 => (ref3_Ints.f x78.Texts x94.Texts).bind fun x107 => some (!x107))).bind fun x112 => some { s with t_56 := x112 }
noncomputable def r7 (s : S) : Option S := some { s with t_4 := false }
noncomputable def r5 (s : S) : Option S := some { s with i_5 := w64 (s.i_5 + (1 : Int)) }
noncomputable def r8 (s : S) : Option S := some { s with t_4 := true }
noncomputable def body : S → Option (Ctl S R) := (seqM (regM r0)
  (seqM (seqM (regM r1)
  (condM (fun s => s.t_20) (seqM (regM r2)
  (retM retv))
  skipM))
  (seqM (seqM (regM r3)
  (blockM 0 (iterM (seqM (seqM (regM r4)
  (condM (fun s => s.t_25) skipM
  (extM 0)))
  (seqM (blockM 1 (seqM (regM r6)
  (condM (fun s => s.t_56) (seqM (regM r7)
  (retM retv))
  skipM)))
  (regM r5))))))
  (seqM (regM r8)
  (retM retv)))))
noncomputable def f (a0 : TrigramIndex) (a1 : TrigramIndex) : Option R := retOf (body { a_0 := a0, b_1 := a1, a_2 := (⟨[], []⟩ : TrigramIndex), b_3 := (⟨[], []⟩ : TrigramIndex), t_4 := false, i_5 := (0 : Int), t_20 := false, t_25 := false, t_56 := false })
end ref4_Indexes

namespace ref3_Has
structure S where
  l_0 : (List Int)
  n_1 : Int
  t_4 : Bool
  i_5 : Int
  t_9 : Bool
  t_17 : Bool
abbrev R := Bool
def retv (s : S) : R := (s.t_4)
noncomputable def r0 (s : S) : Option S := some { s with t_4 := false }
noncomputable def r1 (s : S) : Option S := some { s with i_5 := (0 : Int) }
noncomputable def r2 (s : S) : Option S := some { s with t_9 := (decide (s.i_5 < (s.l_0.length : Int))) }
noncomputable def r4 (s : S) : Option S := (idx s.l_0 s.i_5).bind fun x6 => some { s with t_17 := (decide (x6 = s.n_1)) }
noncomputable def r5 (s : S) : Option S := some { s with t_4 := true }
noncomputable def r3 (s : S) : Option S := some { s with i_5 := w64 (s.i_5 + (1 : Int)) }
noncomputable def r6 (s : S) : Option S := some { s with t_4 := false }
noncomputable def body : S → Option (Ctl S R) := (seqM (regM r0)
  (seqM (seqM (regM r1)
  (blockM 0 (iterM (seqM (seqM (regM r2)
  (condM (fun s => s.t_9) skipM
  (extM 0)))
  (seqM (blockM 1 (seqM (regM r4)
  (condM (fun s => s.t_17) (seqM (regM r5)
  (retM retv))
  skipM)))
  (regM r3))))))
  (seqM (regM r6)
  (retM retv))))
noncomputable def f (a0 : (List Int)) (a1 : Int) : Option R := retOf (body { l_0 := a0, n_1 := a1, t_4 := false, i_5 := (0 : Int), t_9 := false, t_17 := false })
end ref3_Has

namespace ref3_Fault
structure S where
  code_0 : Int
  index_1 : Int
  t_4 : Fault
abbrev R := Fault
def retv (s : S) : R := (s.t_4)
noncomputable def r0 (s : S) : Option S := some { s with t_4 := (⟨(0 : Int), (0 : Int)⟩ : Fault) }
noncomputable def r1 (s : S) : Option S := some { s with t_4 := (⟨s.code_0, s.index_1⟩ : Fault) }
noncomputable def body : S → Option (Ctl S R) := (seqM (regM r0)
  (seqM (regM r1)
  (retM retv)))
noncomputable def f (a0 : Int) (a1 : Int) : Option R := retOf (body { code_0 := a0, index_1 := a1, t_4 := (⟨(0 : Int), (0 : Int)⟩ : Fault) })
end ref3_Fault

namespace ref3_In
structure S where
  n_0 : Int
  low_1 : Int
  high_2 : Int
  t_6 : Bool
abbrev R := Bool
def retv (s : S) : R := (s.t_6)
noncomputable def r0 (s : S) : Option S := some { s with t_6 := false }
noncomputable def r1 (s : S) : Option S := some { s with t_6 := ((decide (s.low_1 ≤ s.n_0)) && (decide (s.n_0 ≤ s.high_2))) }
noncomputable def body : S → Option (Ctl S R) := (seqM (regM r0)
  (seqM (regM r1)
  (retM retv)))
noncomputable def f (a0 : Int) (a1 : Int) (a2 : Int) : Option R := retOf (body { n_0 := a0, low_1 := a1, high_2 := a2, t_6 := false })
end ref3_In

namespace trigram_Add
structure S where
  x_0 : TrigramIndex
  n_1 : Int
  text_2 : ByteArray
  x_3 : TrigramIndex
  t_6 : TrigramIndex
  t_7 : Fault
  f_8 : Fault
  t_13 : Bool
  t_16 : Bool
  t_25 : Bool
  t_32 : Bool
abbrev R := (TrigramIndex × Fault)
def retv (s : S) : R := (s.t_6, s.t_7)
noncomputable def r0 (s : S) : Option S := some { s with x_3 := s.x_0, t_6 := (⟨[], []⟩ : TrigramIndex), t_7 := (⟨(0 : Int), (0 : Int)⟩ : Fault) }
noncomputable def r1 (s : S) : Option S := (trigram_Validate.f s.x_3).bind fun x15 => some { s with f_8 := x15 }
noncomputable def r2 (s : S) : Option S := some { s with t_13 := (!decide (s.f_8 = (⟨(0 : Int), (0 : Int)⟩ : Fault))) }
noncomputable def r3 (s : S) : Option S := some { s with t_6 := (⟨[], []⟩ : TrigramIndex), t_7 := s.f_8 }
noncomputable def r4 (s : S) : Option S := some { s with t_16 := ((decide (s.n_1 < (0 : Int))) || (decide ((20 : Int) ≤ s.n_1))) }
noncomputable def r5 (s : S) : Option S := some { s with t_6 := (⟨[], []⟩ : TrigramIndex), t_7 := (⟨(3 : Int), (-1 : Int)⟩ : Fault) }
noncomputable def r6 (s : S) : Option S := (slices_Contains_int_int.f s.x_3.Texts s.n_1).bind fun x57 => some { s with t_25 := x57 }
noncomputable def r7 (s : S) : Option S := some { s with t_6 := (⟨[], []⟩ : TrigramIndex), t_7 := (⟨(7 : Int), (-1 : Int)⟩ : Fault) }
noncomputable def r8 (s : S) : Option S := some { s with t_32 := (decide ((400 : Int) < (s.text_2.size : Int))) }
noncomputable def r9 (s : S) : Option S := some { s with t_6 := (⟨[], []⟩ : TrigramIndex), t_7 := (⟨(10 : Int), (-1 : Int)⟩ : Fault) }
noncomputable def r10 (s : S) : Option S := (trigram_add.f s.x_3 s.n_1 s.text_2).bind fun x82 => some { s with t_6 := x82, t_7 := (⟨(0 : Int), (0 : Int)⟩ : Fault) }
noncomputable def body : S → Option (Ctl S R) := (seqM (regM r0)
  (seqM (seqM (regM r1)
  (seqM (regM r2)
  (condM (fun s => s.t_13) (seqM (regM r3)
  (retM retv))
  skipM)))
  (seqM (blockM 0 (seqM (regM r4)
  (condM (fun s => s.t_16) (seqM (regM r5)
  (retM retv))
  (seqM (regM r6)
  (condM (fun s => s.t_25) (seqM (regM r7)
  (retM retv))
  (seqM (regM r8)
  (condM (fun s => s.t_32) (seqM (regM r9)
  (retM retv))
  skipM)))))))
  (seqM (regM r10)
  (retM retv)))))
noncomputable def f (a0 : TrigramIndex) (a1 : Int) (a2 : ByteArray) : Option R := retOf (body { x_0 := a0, n_1 := a1, text_2 := a2, x_3 := (⟨[], []⟩ : TrigramIndex), t_6 := (⟨[], []⟩ : TrigramIndex), t_7 := (⟨(0 : Int), (0 : Int)⟩ : Fault), f_8 := (⟨(0 : Int), (0 : Int)⟩ : Fault), t_13 := false, t_16 := false, t_25 := false, t_32 := false })
end trigram_Add

namespace ref4_Insert
structure S where
  l_0 : (List Int)
  n_1 : Int
  t_4 : (List Int)
  at_5 : Int
  t_8 : Bool
  t_21 : Bool
abbrev R := (List Int)
def retv (s : S) : R := (s.t_4)
noncomputable def r0 (s : S) : Option S := some { s with t_4 := [] }
noncomputable def r1 (s : S) : Option S := (ref3_Has.f s.l_0 s.n_1).bind fun x1 => some { s with t_8 := x1 }
noncomputable def r2 (s : S) : Option S := some { s with t_4 := s.l_0 }
noncomputable def r3 (s : S) : Option S := some { s with at_5 := (0 : Int) }
noncomputable def r4 (s : S) : Option S := ((if (decide (s.at_5 < (s.l_0.length : Int))) = true then (idx s.l_0 s.at_5).bind fun x13 => some (decide (x13 < s.n_1)) else some false)).bind fun x23 => some { s with t_21 := x23 }
noncomputable def r5 (s : S) : Option S := some { s with at_5 := w64 (s.at_5 + (1 : Int)) }
noncomputable def r6 (s : S) : Option S := (cutTo s.l_0 s.at_5).bind fun x30 => (cutFrom s.l_0 s.at_5).bind fun x37 => (appL 8 ([] : (List Int)) x30).bind fun x39 => (appL 8 x39 [s.n_1]).bind fun x50 => (appL 8 x50 x37).bind fun x56 => some { s with t_4 := x56 }
noncomputable def body : S → Option (Ctl S R) := (seqM (regM r0)
  (seqM (seqM (regM r1)
  (condM (fun s => s.t_8) (seqM (regM r2)
  (retM retv))
  skipM))
  (seqM (regM r3)
  (seqM (blockM 0 (iterM (seqM (seqM (regM r4)
  (condM (fun s => s.t_21) skipM
  (extM 0)))
  (blockM 1 (regM r5)))))
  (seqM (regM r6)
  (retM retv))))))
noncomputable def f (a0 : (List Int)) (a1 : Int) : Option R := retOf (body { l_0 := a0, n_1 := a1, t_4 := [], at_5 := (0 : Int), t_8 := false, t_21 := false })
end ref4_Insert

namespace ref4_post
structure S where
  l_0 : (List Posting)
  gram_1 : ByteArray
  n_2 : Int
  t_6 : (List Posting)
  at_7 : Int
  more_8 : Posting
  t_21 : Bool
  t_36 : Bool
abbrev R := (List Posting)
def retv (s : S) : R := (s.t_6)
noncomputable def r0 (s : S) : Option S := some { s with t_6 := [] }
noncomputable def r1 (s : S) : Option S := some { s with at_7 := (0 : Int) }
noncomputable def r2 (s : S) : Option S := ((if (decide (s.at_7 < (s.l_0.length : Int))) = true then (idx s.l_0 s.at_7).bind fun x7 => some (sLess x7.Gram s.gram_1) else some false)).bind fun x13 => some { s with t_21 := x13 }
noncomputable def r3 (s : S) : Option S := some { s with at_7 := w64 (s.at_7 + (1 : Int)) }
noncomputable def r4 (s : S) : Option S := ((if (decide (s.at_7 < (s.l_0.length : Int))) = true then (idx s.l_0 s.at_7).bind fun x21 => some (decide (x21.Gram = s.gram_1)) else some false)).bind fun x27 => some { s with t_36 := x27 }
noncomputable def r5 (s : S) : Option S := (idx s.l_0 s.at_7).bind fun x29 => (ref4_Insert.f x29.Texts s.n_2).bind fun x38 => (idx s.l_0 s.at_7).bind fun x45 => some { s with l_0 := setL s.l_0 s.at_7 ({ x45 with Texts := x38 }) }
noncomputable def r6 (s : S) : Option S := some { s with t_6 := s.l_0 }
noncomputable def r7 (s : S) : Option S := some { s with more_8 := (⟨s.gram_1, [s.n_2]⟩ : Posting) }
noncomputable def r8 (s : S) : Option S := (cutTo s.l_0 s.at_7).bind fun x76 => (cutFrom s.l_0 s.at_7).bind fun x83 => (appL 40 ([] : (List Posting)) x76).bind fun x84 => (appL 40 x84 [s.more_8]).bind fun x95 => (appL 40 x95 x83).bind fun x101 => some { s with t_6 := x101 }
noncomputable def body : S → Option (Ctl S R) := (seqM (regM r0)
  (seqM (regM r1)
  (seqM (blockM 0 (iterM (seqM (seqM (regM r2)
  (condM (fun s => s.t_21) skipM
  (extM 0)))
  (blockM 1 (regM r3)))))
  (seqM (seqM (regM r4)
  (condM (fun s => s.t_36) (seqM (regM r5)
  (seqM (regM r6)
  (retM retv)))
  skipM))
  (seqM (regM r7)
  (seqM (regM r8)
  (retM retv)))))))
noncomputable def f (a0 : (List Posting)) (a1 : ByteArray) (a2 : Int) : Option R := retOf (body { l_0 := a0, gram_1 := a1, n_2 := a2, t_6 := [], at_7 := (0 : Int), more_8 := (⟨ByteArray.empty, []⟩ : Posting), t_21 := false, t_36 := false })
end ref4_post

namespace ref4_Increasing
structure S where
  l_0 : (List Int)
  t_2 : Bool
  i_3 : Int
  t_7 : Bool
  t_19 : Bool
abbrev R := Bool
def retv (s : S) : R := (s.t_2)
noncomputable def r0 (s : S) : Option S := some { s with t_2 := false }
noncomputable def r1 (s : S) : Option S := some { s with i_3 := (1 : Int) }
noncomputable def r2 (s : S) : Option S := some { s with t_7 := (decide (s.i_3 < (s.l_0.length : Int))) }
noncomputable def r4 (s : S) : Option S := (idx s.l_0 s.i_3).bind fun x6 => (idx s.l_0 (w64 (s.i_3 - (1 : Int)))).bind fun x16 => some { s with t_19 := (decide (x6 ≤ x16)) }
noncomputable def r5 (s : S) : Option S := some { s with t_2 := false }
noncomputable def r3 (s : S) : Option S := some { s with i_3 := w64 (s.i_3 + (1 : Int)) }
noncomputable def r6 (s : S) : Option S := some { s with t_2 := true }
noncomputable def body : S → Option (Ctl S R) := (seqM (regM r0)
  (seqM (seqM (regM r1)
  (blockM 0 (iterM (seqM (seqM (regM r2)
  (condM (fun s => s.t_7) skipM
  (extM 0)))
  (seqM (blockM 1 (seqM (regM r4)
  (condM (fun s => s.t_19) (seqM (regM r5)
  (retM retv))
  skipM)))
  (regM r3))))))
  (seqM (regM r6)
  (retM retv))))
noncomputable def f (a0 : (List Int)) : Option R := retOf (body { l_0 := a0, t_2 := false, i_3 := (0 : Int), t_7 := false, t_19 := false })
end ref4_Increasing

namespace ref4_IndexFault
structure S where
  t_0 : TrigramIndex
  t_1 : TrigramIndex
  t_2 : Fault
  t_3 : Int
  t_4 : Int
  t_5 : Posting
  t_6 : Int
  t_10 : Bool
  t_16 : Bool
  t_25 : Bool
  t_44 : Bool
  t_52 : Bool
  t_63 : Bool
  t_91 : Bool
  t_98 : Bool
  t_109 : Bool
abbrev R := Fault
def retv (s : S) : R := (s.t_2)
noncomputable def r0 (s : S) : Option S := some { s with t_1 := s.t_0, t_2 := (⟨(0 : Int), (0 : Int)⟩ : Fault) }
noncomputable def r1 (s : S) : Option S := some { s with t_10 := (decide ((20 : Int) < (s.t_1.Texts.length : Int))) }
noncomputable def r2 (s : S) : Option S := (ref3_Fault.f (2 : Int) (-1 : Int)).bind fun x17 => some { s with t_2 := x17 }
noncomputable def r3 (s : S) : Option S := some { s with t_3 := (0 : Int) }
noncomputable def r4 (s : S) : Option S := some { s with t_16 := (decide (s.t_3 < (s.t_1.Texts.length : Int))) }
noncomputable def r6 (s : S) : Option S := (idx s.t_1.Texts s.t_3).bind fun x38 => (ref3_In.f x38 (0 : Int) (19 : Int)).bind fun x48 => some { s with t_25 := (!x48) }
noncomputable def r7 (s : S) : Option S := (ref3_Fault.f (3 : Int) (w64 ((-2 : Int) - s.t_3))).bind fun x53 => some { s with t_2 := x53 }
noncomputable def r8 (s : S) : Option S := ((if (decide ((0 : Int) < s.t_3)) = true then (idx s.t_1.Texts (w64 (s.t_3 - (1 : Int)))).bind fun x68 => (idx s.t_1.Texts s.t_3).bind fun x81 => some (decide (x81 ≤ x68)) else some false)).bind fun x91 => some { s with t_44 := x91 }
noncomputable def r9 (s : S) : Option S := (ref3_Fault.f (5 : Int) (w64 ((-2 : Int) - s.t_3))).bind fun x93 => some { s with t_2 := x93 }
noncomputable def r5 (s : S) : Option S := some { s with t_3 := w64 (s.t_3 + (1 : Int)) }
noncomputable def r10 (s : S) : Option S := some { s with t_4 := (0 : Int) }
noncomputable def r11 (s : S) : Option S := some { s with t_52 := (decide (s.t_4 < (s.t_1.Postings.length : Int))) }
noncomputable def r13 (s : S) : Option S := (idx s.t_1.Postings s.t_4).bind fun x114 => some { s with t_5 := x114 }
noncomputable def r14 (s : S) : Option S := some { s with t_63 := (!decide ((s.t_5.Gram.size : Int) = (3 : Int))) }
noncomputable def r15 (s : S) : Option S := (ref3_Fault.f (9 : Int) s.t_4).bind fun x133 => some { s with t_2 := x133 }
noncomputable def r16 (s : S) : Option S := ((if (decide ((0 : Int) < s.t_4)) = true then (idx s.t_1.Postings (w64 (s.t_4 - (1 : Int)))).bind fun x148 => some (!sLess x148.Gram s.t_5.Gram) else some false)).bind fun x158 => ((if (x158 || (decide ((s.t_5.Texts.length : Int) < (1 : Int)))) = true then some true else (ref4_Increasing.f s.t_5.Texts).bind fun x176 => some (!x176))).bind fun x181 => some { s with t_91 := x181 }
noncomputable def r17 (s : S) : Option S := (ref3_Fault.f (5 : Int) s.t_4).bind fun x186 => some { s with t_2 := x186 }
noncomputable def r18 (s : S) : Option S := some { s with t_6 := (0 : Int) }
noncomputable def r19 (s : S) : Option S := some { s with t_98 := (decide (s.t_6 < (s.t_5.Texts.length : Int))) }
noncomputable def r21 (s : S) : Option S := (idx s.t_5.Texts s.t_6).bind fun x210 => (ref3_Has.f s.t_1.Texts x210).bind fun x220 => some { s with t_109 := (!x220) }
noncomputable def r22 (s : S) : Option S := (ref3_Fault.f (6 : Int) s.t_4).bind fun x225 => some { s with t_2 := x225 }
noncomputable def r20 (s : S) : Option S := some { s with t_6 := w64 (s.t_6 + (1 : Int)) }
noncomputable def r12 (s : S) : Option S := some { s with t_4 := w64 (s.t_4 + (1 : Int)) }
noncomputable def r23 (s : S) : Option S := some { s with t_2 := (⟨(0 : Int), (0 : Int)⟩ : Fault) }
noncomputable def body : S → Option (Ctl S R) := (seqM (regM r0)
  (seqM (seqM (regM r1)
  (condM (fun s => s.t_10) (seqM (regM r2)
  (retM retv))
  skipM))
  (seqM (seqM (regM r3)
  (blockM 0 (iterM (seqM (seqM (regM r4)
  (condM (fun s => s.t_16) skipM
  (extM 0)))
  (seqM (blockM 1 (seqM (seqM (regM r6)
  (condM (fun s => s.t_25) (seqM (regM r7)
  (retM retv))
  skipM))
  (seqM (regM r8)
  (condM (fun s => s.t_44) (seqM (regM r9)
  (retM retv))
  skipM))))
  (regM r5))))))
  (seqM (seqM (regM r10)
  (blockM 2 (iterM (seqM (seqM (regM r11)
  (condM (fun s => s.t_52) skipM
  (extM 2)))
  (seqM (blockM 3 (seqM (regM r13)
  (seqM (seqM (regM r14)
  (condM (fun s => s.t_63) (seqM (regM r15)
  (retM retv))
  skipM))
  (seqM (seqM (regM r16)
  (condM (fun s => s.t_91) (seqM (regM r17)
  (retM retv))
  skipM))
  (seqM (regM r18)
  (blockM 4 (iterM (seqM (seqM (regM r19)
  (condM (fun s => s.t_98) skipM
  (extM 4)))
  (seqM (blockM 5 (seqM (regM r21)
  (condM (fun s => s.t_109) (seqM (regM r22)
  (retM retv))
  skipM)))
  (regM r20))))))))))
  (regM r12))))))
  (seqM (regM r23)
  (retM retv))))))
noncomputable def f (a0 : TrigramIndex) : Option R := retOf (body { t_0 := a0, t_1 := (⟨[], []⟩ : TrigramIndex), t_2 := (⟨(0 : Int), (0 : Int)⟩ : Fault), t_3 := (0 : Int), t_4 := (0 : Int), t_5 := (⟨ByteArray.empty, []⟩ : Posting), t_6 := (0 : Int), t_10 := false, t_16 := false, t_25 := false, t_44 := false, t_52 := false, t_63 := false, t_91 := false, t_98 := false, t_109 := false })
end ref4_IndexFault

namespace trigram_Remove_1_1
structure S where
  k_0 : Int
  t_1 : Int
  t_3 : Bool
abbrev R := Bool
def retv (s : S) : R := (s.t_3)
noncomputable def r0 (s : S) : Option S := some { s with t_3 := false }
noncomputable def r1 (s : S) : Option S := some { s with t_3 := (decide (s.k_0 = s.t_1)) }
noncomputable def body : S → Option (Ctl S R) := (seqM (regM r0)
  (seqM (regM r1)
  (retM retv)))
noncomputable def f (a0 : Int) (a1 : Int) : Option R := retOf (body { k_0 := a0, t_1 := a1, t_3 := false })
end trigram_Remove_1_1

namespace trigram_Remove_1
structure S where
  l_0 : (List Int)
  t_1 : Int
  t_3 : (List Int)
abbrev R := (List Int)
def retv (s : S) : R := (s.t_3)
noncomputable def r0 (s : S) : Option S := some { s with t_3 := [] }
noncomputable def r1 (s : S) : Option S := (CloneI.f s.l_0).bind fun x1 => (slices_DeleteFunc_int_int.f x1 (fun x => trigram_Remove_1_1.f x s.t_1)).bind fun x8 => some { s with t_3 := x8 }
noncomputable def body : S → Option (Ctl S R) := (seqM (regM r0)
  (seqM (regM r1)
  (retM retv)))
noncomputable def f (a0 : (List Int)) (a1 : Int) : Option R := retOf (body { l_0 := a0, t_1 := a1, t_3 := [] })
end trigram_Remove_1

namespace trigram_Remove
structure S where
  x_0 : TrigramIndex
  n_1 : Int
  x_2 : TrigramIndex
  n_3 : Int
  t_4 : TrigramIndex
  t_5 : Fault
  f_6 : Fault
  out_8 : TrigramIndex
  p_10 : Posting
  l_11 : (List Int)
  t_16 : Bool
  t_23 : Bool
  t_33 : (List Posting)
  t_34 : Int
  t_35 : Int
  t_36 : Bool
  t_45 : Bool
abbrev R := (TrigramIndex × Fault)
def retv (s : S) : R := (s.t_4, s.t_5)
noncomputable def r0 (s : S) : Option S := some { s with x_2 := s.x_0, n_3 := s.n_1, t_4 := (⟨[], []⟩ : TrigramIndex), t_5 := (⟨(0 : Int), (0 : Int)⟩ : Fault) }
noncomputable def r1 (s : S) : Option S := (trigram_Validate.f s.x_2).bind fun x19 => some { s with f_6 := x19 }
noncomputable def r2 (s : S) : Option S := some { s with t_16 := (!decide (s.f_6 = (⟨(0 : Int), (0 : Int)⟩ : Fault))) }
noncomputable def r3 (s : S) : Option S := some { s with t_4 := (⟨[], []⟩ : TrigramIndex), t_5 := s.f_6 }
noncomputable def r4 (s : S) : Option S := (slices_Contains_int_int.f s.x_2.Texts s.n_3).bind fun x49 => some { s with t_23 := (!x49) }
noncomputable def r5 (s : S) : Option S := some { s with t_4 := (⟨[], []⟩ : TrigramIndex), t_5 := (⟨(6 : Int), (-1 : Int)⟩ : Fault) }
noncomputable def r6 (s : S) : Option S := some s
noncomputable def r7 (s : S) : Option S := (trigram_Remove_1.f s.x_2.Texts s.n_3).bind fun x67 => some { s with out_8 := (⟨x67, []⟩ : TrigramIndex) }
noncomputable def r8 (s : S) : Option S := some { s with t_33 := s.x_2.Postings, t_34 := (s.x_2.Postings.length : Int), t_35 := (0 : Int) }
noncomputable def r9 (s : S) : Option S := some { s with t_36 := (decide (s.t_35 < s.t_34)) }
noncomputable def r10 (s : S) : Option S := (idx s.t_33 s.t_35).bind fun x99 => some { s with p_10 := x99 }
noncomputable def r11 (s : S) : Option S := (trigram_Remove_1.f s.p_10.Texts s.n_3).bind fun x122 => some { s with l_11 := x122 }
noncomputable def r12 (s : S) : Option S := some { s with t_45 := (decide ((0 : Int) < (s.l_11.length : Int))) }
noncomputable def r13 (s : S) : Option S := (appL 40 s.out_8.Postings [(⟨s.p_10.Gram, s.l_11⟩ : Posting)]).bind fun x149 => some { s with out_8 := { s.out_8 with Postings := x149 } }
noncomputable def r14 (s : S) : Option S := some { s with t_35 := w64 (s.t_35 + (1 : Int)) }
noncomputable def r15 (s : S) : Option S := some { s with t_4 := (⟨s.out_8.Texts, s.out_8.Postings⟩ : TrigramIndex), t_5 := (⟨(0 : Int), (0 : Int)⟩ : Fault), out_8 := s.out_8 }
noncomputable def body : S → Option (Ctl S R) := (seqM (regM r0)
  (seqM (seqM (regM r1)
  (seqM (regM r2)
  (condM (fun s => s.t_16) (seqM (regM r3)
  (retM retv))
  skipM)))
  (seqM (seqM (regM r4)
  (condM (fun s => s.t_23) (seqM (regM r5)
  (retM retv))
  skipM))
  (seqM (regM r6)
  (seqM (regM r7)
  (seqM (seqM (regM r8)
  (blockM 0 (iterM (seqM (regM r9)
  (seqM (condM (fun s => s.t_36) skipM
  (extM 0))
  (seqM (blockM 1 (seqM (regM r10)
  (seqM (regM r11)
  (seqM (regM r12)
  (condM (fun s => s.t_45) (regM r13)
  skipM)))))
  (regM r14)))))))
  (seqM (regM r15)
  (retM retv))))))))
noncomputable def f (a0 : TrigramIndex) (a1 : Int) : Option R := retOf (body { x_0 := a0, n_1 := a1, x_2 := (⟨[], []⟩ : TrigramIndex), n_3 := (0 : Int), t_4 := (⟨[], []⟩ : TrigramIndex), t_5 := (⟨(0 : Int), (0 : Int)⟩ : Fault), f_6 := (⟨(0 : Int), (0 : Int)⟩ : Fault), out_8 := (⟨[], []⟩ : TrigramIndex), p_10 := (⟨ByteArray.empty, []⟩ : Posting), l_11 := [], t_16 := false, t_23 := false, t_33 := [], t_34 := (0 : Int), t_35 := (0 : Int), t_36 := false, t_45 := false })
end trigram_Remove

namespace law4_textsFault
structure S where
  texts_0 : (List ByteArray)
  t_2 : Fault
  i_3 : Int
  t_6 : Bool
  t_11 : Bool
  t_19 : Bool
abbrev R := Fault
def retv (s : S) : R := (s.t_2)
noncomputable def r0 (s : S) : Option S := some { s with t_2 := (⟨(0 : Int), (0 : Int)⟩ : Fault) }
noncomputable def r1 (s : S) : Option S := some { s with t_6 := (decide ((20 : Int) < (s.texts_0.length : Int))) }
noncomputable def r2 (s : S) : Option S := (ref3_Fault.f (2 : Int) (-1 : Int)).bind fun x10 => some { s with t_2 := x10 }
noncomputable def r3 (s : S) : Option S := some { s with i_3 := (0 : Int) }
noncomputable def r4 (s : S) : Option S := some { s with t_11 := (decide (s.i_3 < (s.texts_0.length : Int))) }
noncomputable def r6 (s : S) : Option S := (idx s.texts_0 s.i_3).bind fun x25 => some { s with t_19 := (decide ((400 : Int) < (x25.size : Int))) }
noncomputable def r7 (s : S) : Option S := (ref3_Fault.f (10 : Int) s.i_3).bind fun x35 => some { s with t_2 := x35 }
noncomputable def r5 (s : S) : Option S := some { s with i_3 := w64 (s.i_3 + (1 : Int)) }
noncomputable def r8 (s : S) : Option S := some { s with t_2 := (⟨(0 : Int), (0 : Int)⟩ : Fault) }
noncomputable def body : S → Option (Ctl S R) := (seqM (regM r0)
  (seqM (seqM (regM r1)
  (condM (fun s => s.t_6) (seqM (regM r2)
  (retM retv))
  skipM))
  (seqM (seqM (regM r3)
  (blockM 0 (iterM (seqM (seqM (regM r4)
  (condM (fun s => s.t_11) skipM
  (extM 0)))
  (seqM (blockM 1 (seqM (regM r6)
  (condM (fun s => s.t_19) (seqM (regM r7)
  (retM retv))
  skipM)))
  (regM r5))))))
  (seqM (regM r8)
  (retM retv)))))
noncomputable def f (a0 : (List ByteArray)) : Option R := retOf (body { texts_0 := a0, t_2 := (⟨(0 : Int), (0 : Int)⟩ : Fault), i_3 := (0 : Int), t_6 := false, t_11 := false, t_19 := false })
end law4_textsFault

namespace ref4_IndexOf
structure S where
  numbers_0 : (List Int)
  texts_1 : (List ByteArray)
  t_4 : TrigramIndex
  x_5 : TrigramIndex
  i_6 : Int
  k_7 : Int
  t_12 : Bool
  t_30 : Bool
abbrev R := TrigramIndex
def retv (s : S) : R := (s.t_4)
noncomputable def r0 (s : S) : Option S := some { s with t_4 := (⟨[], []⟩ : TrigramIndex) }
noncomputable def r1 (s : S) : Option S := some { s with x_5 := (⟨[], []⟩ : TrigramIndex) }
noncomputable def r2 (s : S) : Option S := some { s with i_6 := (0 : Int) }
noncomputable def r3 (s : S) : Option S := some { s with t_12 := (decide (s.i_6 < (s.numbers_0.length : Int))) }
noncomputable def r5 (s : S) : Option S := (idx s.numbers_0 s.i_6).bind fun x21 => (ref4_Insert.f s.x_5.Texts x21).bind fun x31 => some { s with x_5 := { s.x_5 with Texts := x31 } }
noncomputable def r6 (s : S) : Option S := some { s with k_7 := (0 : Int) }
noncomputable def r7 (s : S) : Option S := (idx s.texts_1 s.i_6).bind fun x41 => some { s with t_30 := (decide ((w64 (s.k_7 + (3 : Int))) ≤ (x41.size : Int))) }
noncomputable def r9 (s : S) : Option S := (idx s.texts_1 s.i_6).bind fun x51 => (cutS x51 s.k_7 (w64 (s.k_7 + (3 : Int)))).bind fun x61 => (idx s.numbers_0 s.i_6).bind fun x62 => (ref4_post.f s.x_5.Postings x61 x62).bind fun x72 => some { s with x_5 := { s.x_5 with Postings := x72 } }
noncomputable def r8 (s : S) : Option S := some { s with k_7 := w64 (s.k_7 + (1 : Int)) }
noncomputable def r4 (s : S) : Option S := some { s with i_6 := w64 (s.i_6 + (1 : Int)) }
noncomputable def r10 (s : S) : Option S := some { s with t_4 := (⟨s.x_5.Texts, s.x_5.Postings⟩ : TrigramIndex), x_5 := s.x_5 }
noncomputable def body : S → Option (Ctl S R) := (seqM (regM r0)
  (seqM (regM r1)
  (seqM (seqM (regM r2)
  (blockM 0 (iterM (seqM (seqM (regM r3)
  (condM (fun s => s.t_12) skipM
  (extM 0)))
  (seqM (blockM 1 (seqM (regM r5)
  (seqM (regM r6)
  (blockM 2 (iterM (seqM (seqM (regM r7)
  (condM (fun s => s.t_30) skipM
  (extM 2)))
  (seqM (blockM 3 (regM r9))
  (regM r8))))))))
  (regM r4))))))
  (seqM (regM r10)
  (retM retv)))))
noncomputable def f (a0 : (List Int)) (a1 : (List ByteArray)) : Option R := retOf (body { numbers_0 := a0, texts_1 := a1, t_4 := (⟨[], []⟩ : TrigramIndex), x_5 := (⟨[], []⟩ : TrigramIndex), i_6 := (0 : Int), k_7 := (0 : Int), t_12 := false, t_30 := false })
end ref4_IndexOf

namespace law4_numbers
structure S where
  n_0 : Int
  t_2 : (List Int)
  l_3 : (List Int)
  i_4 : Int
  t_7 : Bool
abbrev R := (List Int)
def retv (s : S) : R := (s.t_2)
noncomputable def r0 (s : S) : Option S := some { s with t_2 := [] }
noncomputable def r1 (s : S) : Option S := some { s with l_3 := [] }
noncomputable def r2 (s : S) : Option S := some { s with i_4 := (0 : Int) }
noncomputable def r3 (s : S) : Option S := some { s with t_7 := (decide (s.i_4 < s.n_0)) }
noncomputable def r5 (s : S) : Option S := (appL 8 s.l_3 [s.i_4]).bind fun x6 => some { s with l_3 := x6 }
noncomputable def r4 (s : S) : Option S := some { s with i_4 := w64 (s.i_4 + (1 : Int)) }
noncomputable def r6 (s : S) : Option S := some { s with t_2 := s.l_3 }
noncomputable def body : S → Option (Ctl S R) := (seqM (regM r0)
  (seqM (regM r1)
  (seqM (seqM (regM r2)
  (blockM 0 (iterM (seqM (seqM (regM r3)
  (condM (fun s => s.t_7) skipM
  (extM 0)))
  (seqM (blockM 1 (regM r5))
  (regM r4))))))
  (seqM (regM r6)
  (retM retv)))))
noncomputable def f (a0 : Int) : Option R := retOf (body { n_0 := a0, t_2 := [], l_3 := [], i_4 := (0 : Int), t_7 := false })
end law4_numbers

namespace law4_TrigramIndexMatchesSpec
structure S where
  texts_0 : (List ByteArray)
  t_2 : Bool
  x_3 : TrigramIndex
  f_4 : Fault
  w_5 : Fault
  t_7 : Bool
  t_17 : Bool
abbrev R := Bool
def retv (s : S) : R := (s.t_2)
noncomputable def r0 (s : S) : Option S := some { s with t_2 := false }
noncomputable def r1 (s : S) : Option S := (law4_trigramExample.f ).bind fun x1 => some { s with t_7 := (!x1) }
noncomputable def r2 (s : S) : Option S := some { s with t_2 := false }
noncomputable def r3 (s : S) : Option S := (trigram_Index.f s.texts_0).bind fun x6 => some { s with x_3 := x6.1, f_4 := x6.2 }
noncomputable def r4 (s : S) : Option S := (law4_textsFault.f s.texts_0).bind fun x29 => some { s with w_5 := x29 }
noncomputable def r5 (s : S) : Option S := some { s with t_17 := (!decide (s.w_5.Code = (0 : Int))) }
noncomputable def r6 (s : S) : Option S := ((if (decide (s.f_4 = s.w_5)) = true then (ref4_Indexes.f s.x_3 (⟨[], []⟩ : TrigramIndex)).bind fun x52 => some x52 else some false)).bind fun x57 => some { s with t_2 := x57 }
noncomputable def r7 (s : S) : Option S := if (decide (s.f_4.Code = (0 : Int))) = true then (law4_numbers.f (s.texts_0.length : Int)).bind fun x70 => (ref4_IndexOf.f x70 s.texts_0).bind fun x80 => (ref4_Indexes.f s.x_3 x80).bind fun x87 => if x87 = true then (trigram_Validate.f s.x_3).bind fun x95 => some { s with t_2 := (decide (x95.Code = (0 : Int))) } else some { s with t_2 := false } else some { s with t_2 := false }
noncomputable def body : S → Option (Ctl S R) := (seqM (regM r0)
  (seqM (seqM (regM r1)
  (condM (fun s => s.t_7) (seqM (regM r2)
  (retM retv))
  skipM))
  (seqM (regM r3)
  (seqM (seqM (regM r4)
  (seqM (regM r5)
  (condM (fun s => s.t_17) (seqM (regM r6)
  (retM retv))
  skipM)))
  (seqM (regM r7)
  (retM retv))))))
noncomputable def f (a0 : (List ByteArray)) : Option R := retOf (body { texts_0 := a0, t_2 := false, x_3 := (⟨[], []⟩ : TrigramIndex), f_4 := (⟨(0 : Int), (0 : Int)⟩ : Fault), w_5 := (⟨(0 : Int), (0 : Int)⟩ : Fault), t_7 := false, t_17 := false })
end law4_TrigramIndexMatchesSpec

namespace ref4_CandidatesFor
structure S where
  t_0 : TrigramIndex
  t_1 : ByteArray
  t_2 : TrigramIndex
  t_4 : (List Int)
  t_5 : (List Int)
  t_6 : Int
  t_7 : Bool
  t_8 : Int
  t_9 : Bool
  t_10 : Int
  t_15 : Bool
  t_22 : Bool
  t_29 : Bool
  t_65 : Bool
abbrev R := (List Int)
def retv (s : S) : R := (s.t_4)
noncomputable def r0 (s : S) : Option S := some { s with t_2 := s.t_0, t_4 := [] }
noncomputable def r1 (s : S) : Option S := some { s with t_5 := [] }
noncomputable def r2 (s : S) : Option S := some { s with t_6 := (0 : Int) }
noncomputable def r3 (s : S) : Option S := some { s with t_15 := (decide (s.t_6 < (s.t_2.Texts.length : Int))) }
noncomputable def r5 (s : S) : Option S := some { s with t_7 := true }
noncomputable def r6 (s : S) : Option S := some { s with t_8 := (0 : Int) }
noncomputable def r7 (s : S) : Option S := some { s with t_22 := (decide ((w64 (s.t_8 + (3 : Int))) ≤ (s.t_1.size : Int))) }
noncomputable def r9 (s : S) : Option S := some { s with t_9 := false }
noncomputable def r10 (s : S) : Option S := some { s with t_10 := (0 : Int) }
noncomputable def r11 (s : S) : Option S := some { s with t_29 := (decide (s.t_10 < (s.t_2.Postings.length : Int))) }
noncomputable def r13 (s : S) : Option S := ((if s.t_9 = true then some true else (idx s.t_2.Postings s.t_10).bind fun x26 => (cutS s.t_1 s.t_8 (w64 (s.t_8 + (3 : Int)))).bind fun x36 => ((if (decide (x26.Gram = x36)) = true then (idx s.t_2.Postings s.t_10).bind fun x42 => (idx s.t_2.Texts s.t_6).bind fun x58 => (ref3_Has.f x42.Texts x58).bind fun x68 => some x68 else some false)).bind fun x73 => some x73)).bind fun x78 => some { s with t_9 := x78 }
noncomputable def r12 (s : S) : Option S := some { s with t_10 := w64 (s.t_10 + (1 : Int)) }
noncomputable def r14 (s : S) : Option S := some { s with t_7 := (s.t_7 && s.t_9) }
noncomputable def r8 (s : S) : Option S := some { s with t_8 := w64 (s.t_8 + (1 : Int)) }
noncomputable def r15 (s : S) : Option S := some { s with t_65 := s.t_7 }
noncomputable def r16 (s : S) : Option S := (idx s.t_2.Texts s.t_6).bind fun x89 => (appL 8 s.t_5 [x89]).bind fun x104 => some { s with t_5 := x104 }
noncomputable def r4 (s : S) : Option S := some { s with t_6 := w64 (s.t_6 + (1 : Int)) }
noncomputable def r17 (s : S) : Option S := some { s with t_4 := s.t_5 }
noncomputable def body : S → Option (Ctl S R) := (seqM (regM r0)
  (seqM (regM r1)
  (seqM (seqM (regM r2)
  (blockM 0 (iterM (seqM (seqM (regM r3)
  (condM (fun s => s.t_15) skipM
  (extM 0)))
  (seqM (blockM 1 (seqM (regM r5)
  (seqM (seqM (regM r6)
  (blockM 2 (iterM (seqM (seqM (regM r7)
  (condM (fun s => s.t_22) skipM
  (extM 2)))
  (seqM (blockM 3 (seqM (regM r9)
  (seqM (seqM (regM r10)
  (blockM 4 (iterM (seqM (seqM (regM r11)
  (condM (fun s => s.t_29) skipM
  (extM 4)))
  (seqM (blockM 5 (regM r13))
  (regM r12))))))
  (regM r14))))
  (regM r8))))))
  (seqM (regM r15)
  (condM (fun s => s.t_65) (regM r16)
  skipM)))))
  (regM r4))))))
  (seqM (regM r17)
  (retM retv)))))
noncomputable def f (a0 : TrigramIndex) (a1 : ByteArray) : Option R := retOf (body { t_0 := a0, t_1 := a1, t_2 := (⟨[], []⟩ : TrigramIndex), t_4 := [], t_5 := [], t_6 := (0 : Int), t_7 := false, t_8 := (0 : Int), t_9 := false, t_10 := (0 : Int), t_15 := false, t_22 := false, t_29 := false, t_65 := false })
end ref4_CandidatesFor

namespace law4_TrigramCandidatesMatchesSpec
structure S where
  x_0 : TrigramIndex
  part_1 : ByteArray
  x_2 : TrigramIndex
  t_4 : Bool
  l_5 : (List Int)
  f_6 : Fault
  w_7 : Fault
  t_9 : Bool
  t_25 : Bool
  t_29 : Bool
abbrev R := Bool
def retv (s : S) : R := (s.t_4)
noncomputable def r0 (s : S) : Option S := some { s with x_2 := s.x_0, t_4 := false }
noncomputable def r1 (s : S) : Option S := (law4_trigramExample.f ).bind fun x5 => some { s with t_9 := (!x5) }
noncomputable def r2 (s : S) : Option S := some { s with t_4 := false }
noncomputable def r3 (s : S) : Option S := (trigram_Candidates.f s.x_2 s.part_1).bind fun x12 => some { s with l_5 := x12.1, f_6 := x12.2 }
noncomputable def r4 (s : S) : Option S := (ref4_IndexFault.f s.x_2).bind fun x33 => some { s with w_7 := x33 }
noncomputable def r5 (s : S) : Option S := some { s with t_25 := ((decide (s.w_7.Code = (0 : Int))) && (decide ((400 : Int) < (s.part_1.size : Int)))) }
noncomputable def r6 (s : S) : Option S := (ref3_Fault.f (10 : Int) (-1 : Int)).bind fun x50 => some { s with w_7 := x50 }
noncomputable def r7 (s : S) : Option S := some { s with t_29 := (!decide (s.w_7.Code = (0 : Int))) }
noncomputable def r8 (s : S) : Option S := some { s with t_4 := ((decide (s.f_6 = s.w_7)) && (decide ((s.l_5.length : Int) = (0 : Int)))) }
noncomputable def r9 (s : S) : Option S := ((if (decide (s.f_6.Code = (0 : Int))) = true then (ref4_CandidatesFor.f s.x_2 s.part_1).bind fun x76 => (ref3_Ints.f s.l_5 x76).bind fun x84 => some x84 else some false)).bind fun x90 => some { s with t_4 := x90 }
noncomputable def body : S → Option (Ctl S R) := (seqM (regM r0)
  (seqM (seqM (regM r1)
  (condM (fun s => s.t_9) (seqM (regM r2)
  (retM retv))
  skipM))
  (seqM (regM r3)
  (seqM (regM r4)
  (seqM (seqM (regM r5)
  (condM (fun s => s.t_25) (regM r6)
  skipM))
  (seqM (seqM (regM r7)
  (condM (fun s => s.t_29) (seqM (regM r8)
  (retM retv))
  skipM))
  (seqM (regM r9)
  (retM retv))))))))
noncomputable def f (a0 : TrigramIndex) (a1 : ByteArray) : Option R := retOf (body { x_0 := a0, part_1 := a1, x_2 := (⟨[], []⟩ : TrigramIndex), t_4 := false, l_5 := [], f_6 := (⟨(0 : Int), (0 : Int)⟩ : Fault), w_7 := (⟨(0 : Int), (0 : Int)⟩ : Fault), t_9 := false, t_25 := false, t_29 := false })
end law4_TrigramCandidatesMatchesSpec

namespace ref4_Contains
structure S where
  text_0 : ByteArray
  part_1 : ByteArray
  t_4 : Bool
  i_5 : Int
  t_12 : Bool
  t_23 : Bool
abbrev R := Bool
def retv (s : S) : R := (s.t_4)
noncomputable def r0 (s : S) : Option S := some { s with t_4 := false }
noncomputable def r1 (s : S) : Option S := some { s with i_5 := (0 : Int) }
noncomputable def r2 (s : S) : Option S := some { s with t_12 := (decide ((w64 (s.i_5 + (s.part_1.size : Int))) ≤ (s.text_0.size : Int))) }
noncomputable def r4 (s : S) : Option S := (cutS s.text_0 s.i_5 (w64 (s.i_5 + (s.part_1.size : Int)))).bind fun x1 => some { s with t_23 := (decide (x1 = s.part_1)) }
noncomputable def r5 (s : S) : Option S := some { s with t_4 := true }
noncomputable def r3 (s : S) : Option S := some { s with i_5 := w64 (s.i_5 + (1 : Int)) }
noncomputable def r6 (s : S) : Option S := some { s with t_4 := false }
noncomputable def body : S → Option (Ctl S R) := (seqM (regM r0)
  (seqM (seqM (regM r1)
  (blockM 0 (iterM (seqM (seqM (regM r2)
  (condM (fun s => s.t_12) skipM
  (extM 0)))
  (seqM (blockM 1 (seqM (regM r4)
  (condM (fun s => s.t_23) (seqM (regM r5)
  (retM retv))
  skipM)))
  (regM r3))))))
  (seqM (regM r6)
  (retM retv))))
noncomputable def f (a0 : ByteArray) (a1 : ByteArray) : Option R := retOf (body { text_0 := a0, part_1 := a1, t_4 := false, i_5 := (0 : Int), t_12 := false, t_23 := false })
end ref4_Contains

namespace law4_TrigramNoFalseNegatives
structure S where
  texts_0 : (List ByteArray)
  part_1 : ByteArray
  t_4 : Bool
  x_5 : TrigramIndex
  f_6 : Fault
  l_7 : (List Int)
  g_8 : Fault
  i_9 : Int
  t_11 : Bool
  t_30 : Bool
  t_42 : Bool
  t_56 : Bool
abbrev R := Bool
def retv (s : S) : R := (s.t_4)
noncomputable def r0 (s : S) : Option S := some { s with t_4 := false }
noncomputable def r1 (s : S) : Option S := (law4_trigramExample.f ).bind fun x1 => some { s with t_11 := (!x1) }
noncomputable def r2 (s : S) : Option S := some { s with t_4 := false }
noncomputable def r3 (s : S) : Option S := (trigram_Index.f s.texts_0).bind fun x6 => some { s with x_5 := x6.1, f_6 := x6.2 }
noncomputable def r4 (s : S) : Option S := (trigram_Candidates.f s.x_5 s.part_1).bind fun x31 => some { s with l_7 := x31.1, g_8 := x31.2 }
noncomputable def r5 (s : S) : Option S := some { s with t_30 := ((!decide (s.f_6.Code = (0 : Int))) || (!decide (s.g_8.Code = (0 : Int)))) }
noncomputable def r6 (s : S) : Option S := ((if (decide (s.f_6.Code = (0 : Int))) = true then some true else (ref4_Indexes.f s.x_5 (⟨[], []⟩ : TrigramIndex)).bind fun x58 => some x58)).bind fun x63 => some { s with t_4 := x63 }
noncomputable def r7 (s : S) : Option S := some { s with i_9 := (0 : Int) }
noncomputable def r8 (s : S) : Option S := some { s with t_42 := (decide (s.i_9 < (s.texts_0.length : Int))) }
noncomputable def r10 (s : S) : Option S := (idx s.texts_0 s.i_9).bind fun x73 => (ref4_Contains.f x73 s.part_1).bind fun x83 => ((if x83 = true then (ref3_Has.f s.l_7 s.i_9).bind fun x90 => some (!x90) else some false)).bind fun x95 => some { s with t_56 := x95 }
noncomputable def r11 (s : S) : Option S := some { s with t_4 := false }
noncomputable def r9 (s : S) : Option S := some { s with i_9 := w64 (s.i_9 + (1 : Int)) }
noncomputable def r12 (s : S) : Option S := some { s with t_4 := true }
noncomputable def body : S → Option (Ctl S R) := (seqM (regM r0)
  (seqM (seqM (regM r1)
  (condM (fun s => s.t_11) (seqM (regM r2)
  (retM retv))
  skipM))
  (seqM (regM r3)
  (seqM (regM r4)
  (seqM (seqM (regM r5)
  (condM (fun s => s.t_30) (seqM (regM r6)
  (retM retv))
  skipM))
  (seqM (seqM (regM r7)
  (blockM 0 (iterM (seqM (seqM (regM r8)
  (condM (fun s => s.t_42) skipM
  (extM 0)))
  (seqM (blockM 1 (seqM (regM r10)
  (condM (fun s => s.t_56) (seqM (regM r11)
  (retM retv))
  skipM)))
  (regM r9))))))
  (seqM (regM r12)
  (retM retv))))))))
noncomputable def f (a0 : (List ByteArray)) (a1 : ByteArray) : Option R := retOf (body { texts_0 := a0, part_1 := a1, t_4 := false, x_5 := (⟨[], []⟩ : TrigramIndex), f_6 := (⟨(0 : Int), (0 : Int)⟩ : Fault), l_7 := [], g_8 := (⟨(0 : Int), (0 : Int)⟩ : Fault), i_9 := (0 : Int), t_11 := false, t_30 := false, t_42 := false, t_56 := false })
end law4_TrigramNoFalseNegatives

namespace law4_TrigramIncremental
structure S where
  t_0 : (List ByteArray)
  t_1 : Int
  t_4 : Bool
  t_5 : TrigramIndex
  t_6 : Fault
  t_7 : TrigramIndex
  t_8 : Int
  t_9 : Int
  t_10 : TrigramIndex
  t_11 : Fault
  t_13 : Bool
  t_29 : Bool
  t_42 : Bool
  t_66 : Bool
abbrev R := Bool
def retv (s : S) : R := (s.t_4)
noncomputable def r0 (s : S) : Option S := some { s with t_4 := false }
noncomputable def r1 (s : S) : Option S := (law4_trigramExample.f ).bind fun x1 => some { s with t_13 := (!x1) }
noncomputable def r2 (s : S) : Option S := some { s with t_4 := false }
noncomputable def r3 (s : S) : Option S := (trigram_Index.f s.t_0).bind fun x6 => some { s with t_5 := x6.1, t_6 := x6.2 }
noncomputable def r4 (s : S) : Option S := ((if (!decide (s.t_6.Code = (0 : Int))) = true then some true else (ref3_In.f s.t_1 (0 : Int) (w64 ((s.t_0.length : Int) - (1 : Int)))).bind fun x36 => some (!x36))).bind fun x41 => some { s with t_29 := x41 }
noncomputable def r5 (s : S) : Option S := ((if (decide (s.t_6.Code = (0 : Int))) = true then some true else (ref4_Indexes.f s.t_5 (⟨[], []⟩ : TrigramIndex)).bind fun x51 => some x51)).bind fun x56 => some { s with t_4 := x56 }
noncomputable def r6 (s : S) : Option S := some { s with t_7 := (⟨[], []⟩ : TrigramIndex) }
noncomputable def r7 (s : S) : Option S := some { s with t_8 := (0 : Int) }
noncomputable def r8 (s : S) : Option S := some { s with t_42 := (decide (s.t_8 < (s.t_0.length : Int))) }
noncomputable def r10 (s : S) : Option S := if (s.t_0.length : Int) ≠ (0 : Int) then some { s with t_9 := Int.tmod (w64 (w64 (s.t_1 + (s.t_0.length : Int)) - s.t_8)) (s.t_0.length : Int) } else none
noncomputable def r11 (s : S) : Option S := (idx s.t_0 s.t_9).bind fun x88 => (trigram_Add.f s.t_7 s.t_9 x88).bind fun x98 => some { s with t_10 := x98.1, t_11 := x98.2 }
noncomputable def r12 (s : S) : Option S := some { s with t_66 := (!decide (s.t_11.Code = (0 : Int))) }
noncomputable def r13 (s : S) : Option S := some { s with t_4 := false }
noncomputable def r14 (s : S) : Option S := some { s with t_7 := s.t_10 }
noncomputable def r9 (s : S) : Option S := some { s with t_8 := w64 (s.t_8 + (1 : Int)) }
noncomputable def r15 (s : S) : Option S := (ref4_Indexes.f s.t_7 s.t_5).bind fun x224 => some { s with t_4 := x224 }
noncomputable def body : S → Option (Ctl S R) := (seqM (regM r0)
  (seqM (seqM (regM r1)
  (condM (fun s => s.t_13) (seqM (regM r2)
  (retM retv))
  skipM))
  (seqM (regM r3)
  (seqM (seqM (regM r4)
  (condM (fun s => s.t_29) (seqM (regM r5)
  (retM retv))
  skipM))
  (seqM (regM r6)
  (seqM (seqM (regM r7)
  (blockM 0 (iterM (seqM (seqM (regM r8)
  (condM (fun s => s.t_42) skipM
  (extM 0)))
  (seqM (blockM 1 (seqM (regM r10)
  (seqM (regM r11)
  (seqM (seqM (regM r12)
  (condM (fun s => s.t_66) (seqM (regM r13)
  (retM retv))
  skipM))
  (regM r14)))))
  (regM r9))))))
  (seqM (regM r15)
  (retM retv))))))))
noncomputable def f (a0 : (List ByteArray)) (a1 : Int) : Option R := retOf (body { t_0 := a0, t_1 := a1, t_4 := false, t_5 := (⟨[], []⟩ : TrigramIndex), t_6 := (⟨(0 : Int), (0 : Int)⟩ : Fault), t_7 := (⟨[], []⟩ : TrigramIndex), t_8 := (0 : Int), t_9 := (0 : Int), t_10 := (⟨[], []⟩ : TrigramIndex), t_11 := (⟨(0 : Int), (0 : Int)⟩ : Fault), t_13 := false, t_29 := false, t_42 := false, t_66 := false })
end law4_TrigramIncremental

namespace ref4_less
structure S where
  l_0 : (List Int)
  n_1 : Int
  t_4 : (List Int)
  out_5 : (List Int)
  i_6 : Int
  t_10 : Bool
  t_18 : Bool
abbrev R := (List Int)
def retv (s : S) : R := (s.t_4)
noncomputable def r0 (s : S) : Option S := some { s with t_4 := [] }
noncomputable def r1 (s : S) : Option S := some { s with out_5 := [] }
noncomputable def r2 (s : S) : Option S := some { s with i_6 := (0 : Int) }
noncomputable def r3 (s : S) : Option S := some { s with t_10 := (decide (s.i_6 < (s.l_0.length : Int))) }
noncomputable def r5 (s : S) : Option S := (idx s.l_0 s.i_6).bind fun x6 => some { s with t_18 := (!decide (x6 = s.n_1)) }
noncomputable def r6 (s : S) : Option S := (idx s.l_0 s.i_6).bind fun x16 => (appL 8 s.out_5 [x16]).bind fun x31 => some { s with out_5 := x31 }
noncomputable def r4 (s : S) : Option S := some { s with i_6 := w64 (s.i_6 + (1 : Int)) }
noncomputable def r7 (s : S) : Option S := some { s with t_4 := s.out_5 }
noncomputable def body : S → Option (Ctl S R) := (seqM (regM r0)
  (seqM (regM r1)
  (seqM (seqM (regM r2)
  (blockM 0 (iterM (seqM (seqM (regM r3)
  (condM (fun s => s.t_10) skipM
  (extM 0)))
  (seqM (blockM 1 (seqM (regM r5)
  (condM (fun s => s.t_18) (regM r6)
  skipM)))
  (regM r4))))))
  (seqM (regM r7)
  (retM retv)))))
noncomputable def f (a0 : (List Int)) (a1 : Int) : Option R := retOf (body { l_0 := a0, n_1 := a1, t_4 := [], out_5 := [], i_6 := (0 : Int), t_10 := false, t_18 := false })
end ref4_less

namespace ref4_RemoveText
structure S where
  x_0 : TrigramIndex
  n_1 : Int
  x_2 : TrigramIndex
  t_4 : TrigramIndex
  out_5 : TrigramIndex
  i_6 : Int
  l_7 : (List Int)
  t_17 : Bool
  t_30 : Bool
abbrev R := TrigramIndex
def retv (s : S) : R := (s.t_4)
noncomputable def r0 (s : S) : Option S := some { s with x_2 := s.x_0, t_4 := (⟨[], []⟩ : TrigramIndex) }
noncomputable def r1 (s : S) : Option S := (ref4_less.f s.x_2.Texts s.n_1).bind fun x12 => some { s with out_5 := (⟨x12, []⟩ : TrigramIndex) }
noncomputable def r2 (s : S) : Option S := some { s with i_6 := (0 : Int) }
noncomputable def r3 (s : S) : Option S := some { s with t_17 := (decide (s.i_6 < (s.x_2.Postings.length : Int))) }
noncomputable def r5 (s : S) : Option S := (idx s.x_2.Postings s.i_6).bind fun x46 => (ref4_less.f x46.Texts s.n_1).bind fun x59 => some { s with l_7 := x59 }
noncomputable def r6 (s : S) : Option S := some { s with t_30 := (decide ((0 : Int) < (s.l_7.length : Int))) }
noncomputable def r7 (s : S) : Option S := (idx s.x_2.Postings s.i_6).bind fun x110 => (appL 40 s.out_5.Postings [(⟨x110.Gram, s.l_7⟩ : Posting)]).bind fun x131 => some { s with out_5 := { s.out_5 with Postings := x131 } }
noncomputable def r4 (s : S) : Option S := some { s with i_6 := w64 (s.i_6 + (1 : Int)) }
noncomputable def r8 (s : S) : Option S := some { s with t_4 := (⟨s.out_5.Texts, s.out_5.Postings⟩ : TrigramIndex), out_5 := s.out_5 }
noncomputable def body : S → Option (Ctl S R) := (seqM (regM r0)
  (seqM (regM r1)
  (seqM (seqM (regM r2)
  (blockM 0 (iterM (seqM (seqM (regM r3)
  (condM (fun s => s.t_17) skipM
  (extM 0)))
  (seqM (blockM 1 (seqM (regM r5)
  (seqM (regM r6)
  (condM (fun s => s.t_30) (regM r7)
  skipM))))
  (regM r4))))))
  (seqM (regM r8)
  (retM retv)))))
noncomputable def f (a0 : TrigramIndex) (a1 : Int) : Option R := retOf (body { x_0 := a0, n_1 := a1, x_2 := (⟨[], []⟩ : TrigramIndex), t_4 := (⟨[], []⟩ : TrigramIndex), out_5 := (⟨[], []⟩ : TrigramIndex), i_6 := (0 : Int), l_7 := [], t_17 := false, t_30 := false })
end ref4_RemoveText

namespace ref4_AddText
structure S where
  x_0 : TrigramIndex
  n_1 : Int
  text_2 : ByteArray
  x_3 : TrigramIndex
  t_6 : TrigramIndex
  out_7 : TrigramIndex
  i_8 : Int
  k_9 : Int
  t_19 : Bool
  t_45 : Bool
abbrev R := TrigramIndex
def retv (s : S) : R := (s.t_6)
noncomputable def r0 (s : S) : Option S := some { s with x_3 := s.x_0, t_6 := (⟨[], []⟩ : TrigramIndex) }
noncomputable def r1 (s : S) : Option S := (ref4_Insert.f s.x_3.Texts s.n_1).bind fun x12 => some { s with out_7 := (⟨x12, []⟩ : TrigramIndex) }
noncomputable def r2 (s : S) : Option S := some { s with i_8 := (0 : Int) }
noncomputable def r3 (s : S) : Option S := some { s with t_19 := (decide (s.i_8 < (s.x_3.Postings.length : Int))) }
noncomputable def r5 (s : S) : Option S := (idx s.x_3.Postings s.i_8).bind fun x101 => (idx s.x_3.Postings s.i_8).bind fun x114 => (appL 8 ([] : (List Int)) x114.Texts).bind fun x127 => (appL 40 s.out_7.Postings [(⟨x101.Gram, x127⟩ : Posting)]).bind fun x147 => some { s with out_7 := { s.out_7 with Postings := x147 } }
noncomputable def r4 (s : S) : Option S := some { s with i_8 := w64 (s.i_8 + (1 : Int)) }
noncomputable def r6 (s : S) : Option S := some { s with k_9 := (0 : Int) }
noncomputable def r7 (s : S) : Option S := some { s with t_45 := (decide ((w64 (s.k_9 + (3 : Int))) ≤ (s.text_2.size : Int))) }
noncomputable def r9 (s : S) : Option S := (cutS s.text_2 s.k_9 (w64 (s.k_9 + (3 : Int)))).bind fun x218 => (ref4_post.f s.out_7.Postings x218 s.n_1).bind fun x219 => some { s with out_7 := { s.out_7 with Postings := x219 } }
noncomputable def r8 (s : S) : Option S := some { s with k_9 := w64 (s.k_9 + (1 : Int)) }
noncomputable def r10 (s : S) : Option S := some { s with t_6 := (⟨s.out_7.Texts, s.out_7.Postings⟩ : TrigramIndex), out_7 := s.out_7 }
noncomputable def body : S → Option (Ctl S R) := (seqM (regM r0)
  (seqM (regM r1)
  (seqM (seqM (regM r2)
  (blockM 0 (iterM (seqM (seqM (regM r3)
  (condM (fun s => s.t_19) skipM
  (extM 0)))
  (seqM (blockM 1 (regM r5))
  (regM r4))))))
  (seqM (seqM (regM r6)
  (blockM 2 (iterM (seqM (seqM (regM r7)
  (condM (fun s => s.t_45) skipM
  (extM 2)))
  (seqM (blockM 3 (regM r9))
  (regM r8))))))
  (seqM (regM r10)
  (retM retv))))))
noncomputable def f (a0 : TrigramIndex) (a1 : Int) (a2 : ByteArray) : Option R := retOf (body { x_0 := a0, n_1 := a1, text_2 := a2, x_3 := (⟨[], []⟩ : TrigramIndex), t_6 := (⟨[], []⟩ : TrigramIndex), out_7 := (⟨[], []⟩ : TrigramIndex), i_8 := (0 : Int), k_9 := (0 : Int), t_19 := false, t_45 := false })
end ref4_AddText

namespace law4_TrigramAddMatchesSpec
structure S where
  t_0 : TrigramIndex
  t_1 : Int
  t_2 : ByteArray
  t_3 : TrigramIndex
  t_6 : Bool
  t_7 : TrigramIndex
  t_8 : Fault
  t_9 : TrigramIndex
  t_10 : Fault
  t_11 : Fault
  t_12 : TrigramIndex
  t_14 : Bool
  t_34 : Bool
  t_37 : Bool
  t_59 : Bool
  t_88 : Bool
  t_91 : Bool
  t_95 : Bool
  t_99 : Bool
abbrev R := Bool
def retv (s : S) : R := (s.t_6)
noncomputable def r0 (s : S) : Option S := some { s with t_3 := s.t_0, t_6 := false }
noncomputable def r1 (s : S) : Option S := (law4_trigramExample.f ).bind fun x5 => some { s with t_14 := (!x5) }
noncomputable def r2 (s : S) : Option S := some { s with t_6 := false }
noncomputable def r3 (s : S) : Option S := (trigram_Add.f s.t_3 s.t_1 s.t_2).bind fun x12 => some { s with t_7 := x12.1, t_8 := x12.2 }
noncomputable def r4 (s : S) : Option S := (trigram_Remove.f s.t_3 s.t_1).bind fun x37 => some { s with t_9 := x37.1, t_10 := x37.2 }
noncomputable def r5 (s : S) : Option S := (ref4_IndexFault.f s.t_3).bind fun x62 => some { s with t_11 := x62 }
noncomputable def r6 (s : S) : Option S := some { s with t_12 := (⟨[], []⟩ : TrigramIndex) }
noncomputable def r7 (s : S) : Option S := (trigram_Validate.f s.t_3).bind fun x89 => some { s with t_34 := (!decide (x89 = s.t_11)) }
noncomputable def r8 (s : S) : Option S := some { s with t_6 := false }
noncomputable def r9 (s : S) : Option S := some { s with t_37 := (!decide (s.t_11.Code = (0 : Int))) }
noncomputable def r10 (s : S) : Option S := ((if ((decide (s.t_8 = s.t_11)) && (decide (s.t_10 = s.t_11))) = true then (ref4_Indexes.f s.t_7 s.t_12).bind fun x113 => some x113 else some false)).bind fun x118 => ((if x118 = true then (ref4_Indexes.f s.t_9 s.t_12).bind fun x129 => some x129 else some false)).bind fun x134 => some { s with t_6 := x134 }
noncomputable def r11 (s : S) : Option S := (ref3_Has.f s.t_3.Texts s.t_1).bind fun x142 => some { s with t_59 := x142 }
noncomputable def r12 (s : S) : Option S := (ref3_Fault.f (7 : Int) (-1 : Int)).bind fun x149 => if (decide (s.t_8 = x149)) = true then (ref4_Indexes.f s.t_7 s.t_12).bind fun x161 => if x161 = true then if (decide (s.t_10.Code = (0 : Int))) = true then (ref4_RemoveText.f s.t_3 s.t_1).bind fun x172 => (ref4_Indexes.f s.t_9 x172).bind fun x179 => some { s with t_6 := x179 } else some { s with t_6 := false } else some { s with t_6 := false } else some { s with t_6 := false }
noncomputable def r13 (s : S) : Option S := (ref3_Fault.f (6 : Int) (-1 : Int)).bind fun x189 => if (!decide (s.t_10 = x189)) = true then some { s with t_88 := true } else (ref4_Indexes.f s.t_9 s.t_12).bind fun x202 => some { s with t_88 := (!x202) }
noncomputable def r14 (s : S) : Option S := some { s with t_6 := false }
noncomputable def r15 (s : S) : Option S := (ref3_In.f s.t_1 (0 : Int) (19 : Int)).bind fun x207 => some { s with t_91 := (!x207) }
noncomputable def r16 (s : S) : Option S := (ref3_Fault.f (3 : Int) (-1 : Int)).bind fun x212 => some { s with t_11 := x212 }
noncomputable def r17 (s : S) : Option S := some { s with t_95 := (decide ((400 : Int) < (s.t_2.size : Int))) }
noncomputable def r18 (s : S) : Option S := (ref3_Fault.f (10 : Int) (-1 : Int)).bind fun x222 => some { s with t_11 := x222 }
noncomputable def r19 (s : S) : Option S := some { s with t_99 := (!decide (s.t_11.Code = (0 : Int))) }
noncomputable def r20 (s : S) : Option S := ((if (decide (s.t_8 = s.t_11)) = true then (ref4_Indexes.f s.t_7 s.t_12).bind fun x242 => some x242 else some false)).bind fun x247 => some { s with t_6 := x247 }
noncomputable def r21 (s : S) : Option S := if (decide (s.t_8.Code = (0 : Int))) = true then (ref4_AddText.f s.t_3 s.t_1 s.t_2).bind fun x257 => (ref4_Indexes.f s.t_7 x257).bind fun x264 => some { s with t_6 := x264 } else some { s with t_6 := false }
noncomputable def body : S → Option (Ctl S R) := (seqM (regM r0)
  (seqM (seqM (regM r1)
  (condM (fun s => s.t_14) (seqM (regM r2)
  (retM retv))
  skipM))
  (seqM (regM r3)
  (seqM (regM r4)
  (seqM (regM r5)
  (seqM (regM r6)
  (seqM (seqM (regM r7)
  (condM (fun s => s.t_34) (seqM (regM r8)
  (retM retv))
  skipM))
  (seqM (seqM (regM r9)
  (condM (fun s => s.t_37) (seqM (regM r10)
  (retM retv))
  skipM))
  (seqM (seqM (regM r11)
  (condM (fun s => s.t_59) (seqM (regM r12)
  (retM retv))
  skipM))
  (seqM (seqM (regM r13)
  (condM (fun s => s.t_88) (seqM (regM r14)
  (retM retv))
  skipM))
  (seqM (seqM (regM r15)
  (condM (fun s => s.t_91) (regM r16)
  (seqM (regM r17)
  (condM (fun s => s.t_95) (regM r18)
  skipM))))
  (seqM (seqM (regM r19)
  (condM (fun s => s.t_99) (seqM (regM r20)
  (retM retv))
  skipM))
  (seqM (regM r21)
  (retM retv))))))))))))))
noncomputable def f (a0 : TrigramIndex) (a1 : Int) (a2 : ByteArray) : Option R := retOf (body { t_0 := a0, t_1 := a1, t_2 := a2, t_3 := (⟨[], []⟩ : TrigramIndex), t_6 := false, t_7 := (⟨[], []⟩ : TrigramIndex), t_8 := (⟨(0 : Int), (0 : Int)⟩ : Fault), t_9 := (⟨[], []⟩ : TrigramIndex), t_10 := (⟨(0 : Int), (0 : Int)⟩ : Fault), t_11 := (⟨(0 : Int), (0 : Int)⟩ : Fault), t_12 := (⟨[], []⟩ : TrigramIndex), t_14 := false, t_34 := false, t_37 := false, t_59 := false, t_88 := false, t_91 := false, t_95 := false, t_99 := false })
end law4_TrigramAddMatchesSpec

namespace law4_TrigramAddRemove
structure S where
  x_0 : TrigramIndex
  n_1 : Int
  text_2 : ByteArray
  x_3 : TrigramIndex
  t_6 : Bool
  y_7 : TrigramIndex
  f_8 : Fault
  z_9 : TrigramIndex
  g_10 : Fault
  t_12 : Bool
  t_22 : Bool
abbrev R := Bool
def retv (s : S) : R := (s.t_6)
noncomputable def r0 (s : S) : Option S := some { s with x_3 := s.x_0, t_6 := false }
noncomputable def r1 (s : S) : Option S := (law4_trigramExample.f ).bind fun x5 => some { s with t_12 := (!x5) }
noncomputable def r2 (s : S) : Option S := some { s with t_6 := false }
noncomputable def r3 (s : S) : Option S := (trigram_Add.f s.x_3 s.n_1 s.text_2).bind fun x12 => some { s with y_7 := x12.1, f_8 := x12.2 }
noncomputable def r4 (s : S) : Option S := some { s with t_22 := (!decide (s.f_8.Code = (0 : Int))) }
noncomputable def r5 (s : S) : Option S := (ref4_Indexes.f s.y_7 (⟨[], []⟩ : TrigramIndex)).bind fun x38 => some { s with t_6 := x38 }
noncomputable def r6 (s : S) : Option S := (trigram_Remove.f s.y_7 s.n_1).bind fun x45 => some { s with z_9 := x45.1, g_10 := x45.2 }
noncomputable def r7 (s : S) : Option S := ((if (decide (s.g_10.Code = (0 : Int))) = true then (ref4_Indexes.f s.x_3 s.z_9).bind fun x74 => some x74 else some false)).bind fun x79 => some { s with t_6 := x79 }
noncomputable def body : S → Option (Ctl S R) := (seqM (regM r0)
  (seqM (seqM (regM r1)
  (condM (fun s => s.t_12) (seqM (regM r2)
  (retM retv))
  skipM))
  (seqM (regM r3)
  (seqM (seqM (regM r4)
  (condM (fun s => s.t_22) (seqM (regM r5)
  (retM retv))
  skipM))
  (seqM (regM r6)
  (seqM (regM r7)
  (retM retv)))))))
noncomputable def f (a0 : TrigramIndex) (a1 : Int) (a2 : ByteArray) : Option R := retOf (body { x_0 := a0, n_1 := a1, text_2 := a2, x_3 := (⟨[], []⟩ : TrigramIndex), t_6 := false, y_7 := (⟨[], []⟩ : TrigramIndex), f_8 := (⟨(0 : Int), (0 : Int)⟩ : Fault), z_9 := (⟨[], []⟩ : TrigramIndex), g_10 := (⟨(0 : Int), (0 : Int)⟩ : Fault), t_12 := false, t_22 := false })
end law4_TrigramAddRemove

end Go.Proofs.Ytoiafcpnhhplnaa
