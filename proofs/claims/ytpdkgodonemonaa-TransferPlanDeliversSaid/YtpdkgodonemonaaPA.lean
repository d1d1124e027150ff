/- What functions of the program come to, as plain Lean functions (written by a program, wip/fx/gen.py). -/
import Derived.Test.YtpdkgodonemonaaTy
import Derived.Test.YtpdkgodonemonaaIt
import Derived.Test.YtpdkgodonemonaaSl
namespace Go.Proofs.Ytpdkgodonemonaa
open Go.Fx
set_option linter.unusedVariables false

namespace transfer_Frames
structure S where
  data_0 : (List UInt8)
  t_2 : (List (List UInt8))
  t_3 : Fault
  out_4 : (List (List UInt8))
  part_5 : (List UInt8)
  t_8 : Bool
  t_11 : (List (List UInt8))
  t_12 : (List UInt8)
abbrev R := ((List (List UInt8)) × Fault)
def retv (s : S) : R := (s.t_2, s.t_3)
noncomputable def r0 (s : S) : Option S := some { s with t_2 := [], t_3 := (⟨(0 : Int), (0 : Int)⟩ : Fault) }
noncomputable def r1 (s : S) : Option S := some { s with t_8 := (decide ((4096 : Int) < (s.data_0.length : Int))) }
noncomputable def r2 (s : S) : Option S := some { s with t_2 := [], t_3 := (⟨(2 : Int), (-1 : Int)⟩ : Fault) }
noncomputable def r3 (s : S) : Option S := some { s with out_4 := ([] : (List (List UInt8))) }
noncomputable def r4 (s : S) : Option S := (Chunk.f s.data_0 (16 : Int)).bind fun x18 => some { s with t_11 := x18 }
noncomputable def r5 (s : S) : Option S := some { s with part_5 := s.t_12 }
noncomputable def r6 (s : S) : Option S := (Clone.f s.part_5).bind fun x25 => (appL 24 s.out_4 [x25]).bind fun x40 => some { s with out_4 := x40 }
noncomputable def r7 (s : S) : Option S := some { s with t_2 := s.out_4, t_3 := (⟨(0 : Int), (0 : Int)⟩ : Fault) }
noncomputable def body : S → Option (Ctl S R) := (seqM (regM r0)
  (seqM (seqM (regM r1)
  (condM (fun s => s.t_8) (seqM (regM r2)
  (retM retv))
  skipM))
  (seqM (regM r3)
  (seqM (seqM (regM r4)
  (blockM 0 (rangeM (fun s => s.t_11) (fun it s => { s with t_12 := it }) (regM r5) (blockM 1 (regM r6)))))
  (seqM (regM r7)
  (retM retv))))))
noncomputable def f (a0 : (List UInt8)) : Option R := retOf (body { data_0 := a0, t_2 := [], t_3 := (⟨(0 : Int), (0 : Int)⟩ : Fault), out_4 := [], part_5 := [], t_8 := false, t_11 := [], t_12 := [] })
end transfer_Frames

namespace transfer_link_do_0
structure S where
  t_0 : Transfer_link
  t_1 : LinkEvent
  t_3 : LinkEvent
  t_4 : Int
  t_16 : Bool
  t_20 : Bool
  t_29 : Bool
  t_38 : Bool
  t_54 : Bool
  t_73 : Int
  t_78 : Bool
  t_93 : Bool
  t_103 : Bool
  t_124 : Bool
  t_143 : Bool
abbrev R := (Int × Transfer_link)
def retv (s : S) : R := (s.t_4, s.t_0)
noncomputable def r0 (s : S) : Option S := some { s with t_3 := s.t_1, t_4 := (0 : Int) }
noncomputable def r1 (s : S) : Option S := some s
noncomputable def r2 (s : S) : Option S := some { s with t_16 := ((decide (s.t_3.Kind = (5 : Int))) || (decide (s.t_3.Kind = (6 : Int)))) }
noncomputable def r4 (s : S) : Option S := some { s with t_20 := ((decide (s.t_3.Kind < (1 : Int))) || (decide ((6 : Int) < s.t_3.Kind))) }
noncomputable def r5 (s : S) : Option S := some { s with t_4 := (4 : Int) }
noncomputable def r6 (s : S) : Option S := some { s with t_29 := ((decide (s.t_3.Kind = (1 : Int))) && (!decide (s.t_3.N = (0 : Int)))) }
noncomputable def r7 (s : S) : Option S := some { s with t_4 := (5 : Int) }
noncomputable def r8 (s : S) : Option S := some { s with t_38 := ((decide (s.t_3.Kind = (1 : Int))) && (decide (s.t_0.acked = (s.t_0.frames.length : Int)))) }
noncomputable def r9 (s : S) : Option S := some { s with t_4 := (11 : Int) }
noncomputable def r10 (s : S) : Option S := some { s with t_54 := ((!decide (s.t_3.Kind = (1 : Int))) && ((decide (s.t_3.N < (0 : Int))) || (decide ((s.t_0.sent.length : Int) ≤ s.t_3.N)))) }
noncomputable def r11 (s : S) : Option S := some { s with t_4 := (6 : Int) }
noncomputable def r12 (s : S) : Option S := some { s with t_73 := s.t_3.Kind }
noncomputable def r14 (s : S) : Option S := some { s with t_78 := (decide (s.t_73 = (1 : Int))) }
noncomputable def r15 (s : S) : Option S := (appL 8 s.t_0.sent [s.t_0.acked]).bind fun x40 => some { s with t_0 := { s.t_0 with sent := x40 } }
noncomputable def r16 (s : S) : Option S := some { s with t_93 := (decide (s.t_73 = (2 : Int))) }
noncomputable def r17 (s : S) : Option S := (take.f s.t_0.sent s.t_3.N).bind fun x75 => some { s with t_0 := { s.t_0 with sent := x75.2 }, t_103 := (decide (x75.1 = s.t_0.count)) }
noncomputable def r18 (s : S) : Option S := some { s with t_0 := { s.t_0 with count := w64 (s.t_0.count + (1 : Int)) } }
noncomputable def r19 (s : S) : Option S := (appL 8 s.t_0.acks [s.t_0.count]).bind fun x111 => some { s with t_0 := { s.t_0 with acks := x111 } }
noncomputable def r20 (s : S) : Option S := some { s with t_124 := (decide (s.t_73 = (4 : Int))) }
noncomputable def r21 (s : S) : Option S := (idx s.t_0.sent s.t_3.N).bind fun x146 => (appL 8 s.t_0.sent [x146]).bind fun x157 => some { s with t_0 := { s.t_0 with sent := x157 } }
noncomputable def r22 (s : S) : Option S := some { s with t_143 := (decide (s.t_73 = (5 : Int))) }
noncomputable def r23 (s : S) : Option S := (take.f s.t_0.sent s.t_3.N).bind fun x308 => some { s with t_0 := { s.t_0 with sent := x308.2, acked := (max s.t_0.acked x308.1) } }
noncomputable def r13 (s : S) : Option S := (take.f s.t_0.sent s.t_3.N).bind fun x345 => some { s with t_0 := { s.t_0 with sent := x345.2 } }
noncomputable def r24 (s : S) : Option S := some { s with t_4 := (0 : Int) }
noncomputable def body : S → Option (Ctl S R) := (seqM (regM r0)
  (seqM (regM r1)
  (seqM (seqM (regM r2)
  (condM (fun s => s.t_16) noneM skipM))
  (seqM (blockM 0 (seqM (regM r4)
  (condM (fun s => s.t_20) (seqM (regM r5)
  (retM retv))
  (seqM (regM r6)
  (condM (fun s => s.t_29) (seqM (regM r7)
  (retM retv))
  (seqM (regM r8)
  (condM (fun s => s.t_38) (seqM (regM r9)
  (retM retv))
  (seqM (regM r10)
  (condM (fun s => s.t_54) (seqM (regM r11)
  (retM retv))
  skipM)))))))))
  (seqM (seqM (regM r12)
  (blockM 1 (seqM (regM r14)
  (condM (fun s => s.t_78) (regM r15)
  (seqM (regM r16)
  (condM (fun s => s.t_93) (seqM (seqM (regM r17)
  (condM (fun s => s.t_103) (regM r18)
  skipM))
  (regM r19))
  (seqM (regM r20)
  (condM (fun s => s.t_124) (regM r21)
  (seqM (regM r22)
  (condM (fun s => s.t_143) (regM r23)
  (regM r13)))))))))))
  (seqM (regM r24)
  (retM retv)))))))
noncomputable def f (a0 : Transfer_link) (a1 : LinkEvent) : Option R := retOf (body { t_0 := a0, t_1 := a1, t_3 := (⟨(0 : Int), (0 : Int)⟩ : LinkEvent), t_4 := (0 : Int), t_16 := false, t_20 := false, t_29 := false, t_38 := false, t_54 := false, t_73 := (0 : Int), t_78 := false, t_93 := false, t_103 := false, t_124 := false, t_143 := false })
end transfer_link_do_0

namespace transfer_link_do_1
structure S where
  t_0 : Transfer_link
  t_1 : LinkEvent
  t_3 : LinkEvent
  t_4 : Int
  t_16 : Bool
  t_20 : Bool
  t_29 : Bool
  t_38 : Bool
  t_54 : Bool
  t_73 : Int
  t_78 : Bool
  t_93 : Bool
  t_103 : Bool
  t_124 : Bool
  t_143 : Bool
abbrev R := (Int × Transfer_link)
def retv (s : S) : R := (s.t_4, s.t_0)
noncomputable def r0 (s : S) : Option S := some { s with t_3 := s.t_1, t_4 := (0 : Int) }
noncomputable def r1 (s : S) : Option S := some s
noncomputable def r2 (s : S) : Option S := some { s with t_16 := ((decide (s.t_3.Kind = (5 : Int))) || (decide (s.t_3.Kind = (6 : Int)))) }
noncomputable def r3 (s : S) : Option S := some s
noncomputable def r4 (s : S) : Option S := some { s with t_20 := ((decide (s.t_3.Kind < (1 : Int))) || (decide ((6 : Int) < s.t_3.Kind))) }
noncomputable def r5 (s : S) : Option S := some { s with t_4 := (4 : Int) }
noncomputable def r6 (s : S) : Option S := some { s with t_29 := ((decide (s.t_3.Kind = (1 : Int))) && (!decide (s.t_3.N = (0 : Int)))) }
noncomputable def r7 (s : S) : Option S := some { s with t_4 := (5 : Int) }
noncomputable def r8 (s : S) : Option S := some { s with t_38 := ((decide (s.t_3.Kind = (1 : Int))) && (decide (s.t_0.acked = (s.t_0.frames.length : Int)))) }
noncomputable def r9 (s : S) : Option S := some { s with t_4 := (11 : Int) }
noncomputable def r10 (s : S) : Option S := some { s with t_54 := ((!decide (s.t_3.Kind = (1 : Int))) && ((decide (s.t_3.N < (0 : Int))) || (decide ((s.t_0.acks.length : Int) ≤ s.t_3.N)))) }
noncomputable def r11 (s : S) : Option S := some { s with t_4 := (6 : Int) }
noncomputable def r12 (s : S) : Option S := some { s with t_73 := s.t_3.Kind }
noncomputable def r14 (s : S) : Option S := some { s with t_78 := (decide (s.t_73 = (1 : Int))) }
noncomputable def r15 (s : S) : Option S := (appL 8 s.t_0.sent [s.t_0.acked]).bind fun x40 => some { s with t_0 := { s.t_0 with sent := x40 } }
noncomputable def r16 (s : S) : Option S := some { s with t_93 := (decide (s.t_73 = (2 : Int))) }
noncomputable def r17 (s : S) : Option S := (take.f s.t_0.acks s.t_3.N).bind fun x75 => some { s with t_0 := { s.t_0 with acks := x75.2 }, t_103 := (decide (x75.1 = s.t_0.count)) }
noncomputable def r18 (s : S) : Option S := some { s with t_0 := { s.t_0 with count := w64 (s.t_0.count + (1 : Int)) } }
noncomputable def r19 (s : S) : Option S := (appL 8 s.t_0.acks [s.t_0.count]).bind fun x111 => some { s with t_0 := { s.t_0 with acks := x111 } }
noncomputable def r20 (s : S) : Option S := some { s with t_124 := (decide (s.t_73 = (4 : Int))) }
noncomputable def r21 (s : S) : Option S := (idx s.t_0.sent s.t_3.N).bind fun x146 => (appL 8 s.t_0.sent [x146]).bind fun x157 => some { s with t_0 := { s.t_0 with sent := x157 } }
noncomputable def r22 (s : S) : Option S := some { s with t_143 := (decide (s.t_73 = (5 : Int))) }
noncomputable def r23 (s : S) : Option S := (take.f s.t_0.acks s.t_3.N).bind fun x308 => some { s with t_0 := { s.t_0 with acks := x308.2, acked := (max s.t_0.acked x308.1) } }
noncomputable def r13 (s : S) : Option S := (take.f s.t_0.acks s.t_3.N).bind fun x345 => some { s with t_0 := { s.t_0 with acks := x345.2 } }
noncomputable def r24 (s : S) : Option S := some { s with t_4 := (0 : Int) }
noncomputable def body : S → Option (Ctl S R) := (seqM (regM r0)
  (seqM (regM r1)
  (seqM (seqM (regM r2)
  (condM (fun s => s.t_16) (regM r3) noneM))
  (seqM (blockM 0 (seqM (regM r4)
  (condM (fun s => s.t_20) (seqM (regM r5)
  (retM retv))
  (seqM (regM r6)
  (condM (fun s => s.t_29) (seqM (regM r7)
  (retM retv))
  (seqM (regM r8)
  (condM (fun s => s.t_38) (seqM (regM r9)
  (retM retv))
  (seqM (regM r10)
  (condM (fun s => s.t_54) (seqM (regM r11)
  (retM retv))
  skipM)))))))))
  (seqM (seqM (regM r12)
  (blockM 1 (seqM (regM r14)
  (condM (fun s => s.t_78) (regM r15)
  (seqM (regM r16)
  (condM (fun s => s.t_93) (seqM (seqM (regM r17)
  (condM (fun s => s.t_103) (regM r18)
  skipM))
  (regM r19))
  (seqM (regM r20)
  (condM (fun s => s.t_124) (regM r21)
  (seqM (regM r22)
  (condM (fun s => s.t_143) (regM r23)
  (regM r13)))))))))))
  (seqM (regM r24)
  (retM retv)))))))
noncomputable def f (a0 : Transfer_link) (a1 : LinkEvent) : Option R := retOf (body { t_0 := a0, t_1 := a1, t_3 := (⟨(0 : Int), (0 : Int)⟩ : LinkEvent), t_4 := (0 : Int), t_16 := false, t_20 := false, t_29 := false, t_38 := false, t_54 := false, t_73 := (0 : Int), t_78 := false, t_93 := false, t_103 := false, t_124 := false, t_143 := false })
end transfer_link_do_1

namespace transfer_link_do
abbrev R := transfer_link_do_0.R
noncomputable def f (a0 : Transfer_link) (a1 : LinkEvent) : Option R := match transfer_link_do_0.f a0 a1 with | some r => some r | none => transfer_link_do_1.f a0 a1
end transfer_link_do

namespace slices_Concat_byte_byte
structure S where
  slices_0 : (List (List UInt8))
  t_2 : (List UInt8)
  size_3 : Int
  s_5 : (List UInt8)
  newslice_6 : (List UInt8)
  s_8 : (List UInt8)
  t_9 : (List (List UInt8))
  t_10 : Int
  t_11 : Int
  t_12 : Bool
  t_20 : Bool
  t_25 : (List (List UInt8))
  t_26 : Int
  t_27 : Int
  t_28 : Bool
abbrev R := (List UInt8)
def retv (s : S) : R := (s.t_2)
noncomputable def r0 (s : S) : Option S := some { s with t_2 := [] }
noncomputable def r1 (s : S) : Option S := some { s with size_3 := (0 : Int) }
noncomputable def r2 (s : S) : Option S := some { s with t_9 := s.slices_0, t_10 := (s.slices_0.length : Int), t_11 := (0 : Int) }
noncomputable def r3 (s : S) : Option S := some { s with t_12 := (decide (s.t_11 < s.t_10)) }
noncomputable def r4 (s : S) : Option S := (idx s.t_9 s.t_11).bind fun x6 => some { s with s_5 := x6 }
noncomputable def r5 (s : S) : Option S := some { s with size_3 := w64 (s.size_3 + (s.s_5.length : Int)) }
noncomputable def r6 (s : S) : Option S := some { s with t_20 := (decide (s.size_3 < (0 : Int))) }
noncomputable def r7 (s : S) : Option S := none
noncomputable def r8 (s : S) : Option S := some { s with t_11 := w64 (s.t_11 + (1 : Int)) }
noncomputable def r9 (s : S) : Option S := (Grow.f [] s.size_3).bind fun x24 => some { s with newslice_6 := x24 }
noncomputable def r10 (s : S) : Option S := some { s with t_25 := s.slices_0, t_26 := (s.slices_0.length : Int), t_27 := (0 : Int) }
noncomputable def r11 (s : S) : Option S := some { s with t_28 := (decide (s.t_27 < s.t_26)) }
noncomputable def r12 (s : S) : Option S := (idx s.t_25 s.t_27).bind fun x36 => some { s with s_8 := x36 }
noncomputable def r13 (s : S) : Option S := (appL 1 s.newslice_6 s.s_8).bind fun x49 => some { s with newslice_6 := x49 }
noncomputable def r14 (s : S) : Option S := some { s with t_27 := w64 (s.t_27 + (1 : Int)) }
noncomputable def r15 (s : S) : Option S := some { s with t_2 := s.newslice_6 }
noncomputable def body : S → Option (Ctl S R) := (seqM (regM r0)
  (seqM (regM r1)
  (seqM (seqM (regM r2)
  (blockM 0 (iterM (seqM (regM r3)
  (seqM (condM (fun s => s.t_12) skipM
  (extM 0))
  (seqM (blockM 1 (seqM (regM r4)
  (seqM (regM r5)
  (seqM (regM r6)
  (condM (fun s => s.t_20) (regM r7)
  skipM)))))
  (regM r8)))))))
  (seqM (regM r9)
  (seqM (seqM (regM r10)
  (blockM 2 (iterM (seqM (regM r11)
  (seqM (condM (fun s => s.t_28) skipM
  (extM 2))
  (seqM (blockM 3 (seqM (regM r12)
  (regM r13)))
  (regM r14)))))))
  (seqM (regM r15)
  (retM retv)))))))
noncomputable def f (a0 : (List (List UInt8))) : Option R := retOf (body { slices_0 := a0, t_2 := [], size_3 := (0 : Int), s_5 := [], newslice_6 := [], s_8 := [], t_9 := [], t_10 := (0 : Int), t_11 := (0 : Int), t_12 := false, t_20 := false, t_25 := [], t_26 := (0 : Int), t_27 := (0 : Int), t_28 := false })
end slices_Concat_byte_byte

namespace transfer_Run
structure S where
  data_0 : (List UInt8)
  events_1 : (List LinkEvent)
  received_4 : (List UInt8)
  acked_5 : Int
  f_6 : Fault
  frames_7 : (List (List UInt8))
  k_8 : Transfer_link
  i_9 : Int
  e_10 : LinkEvent
  code_11 : Int
  t_19 : Bool
  t_23 : Bool
  t_28 : (List LinkEvent)
  t_29 : Int
  t_30 : Int
  t_31 : Bool
  t_39 : Bool
abbrev R := ((List UInt8) × Int × Fault)
def retv (s : S) : R := (s.received_4, s.acked_5, s.f_6)
noncomputable def r0 (s : S) : Option S := some { s with received_4 := [], acked_5 := (0 : Int), f_6 := (⟨(0 : Int), (0 : Int)⟩ : Fault) }
noncomputable def r1 (s : S) : Option S := (transfer_Frames.f s.data_0).bind fun x5 => some { s with f_6 := x5.2, frames_7 := x5.1 }
noncomputable def r2 (s : S) : Option S := some { s with t_19 := (!decide (s.f_6 = (⟨(0 : Int), (0 : Int)⟩ : Fault))) }
noncomputable def r3 (s : S) : Option S := some { s with received_4 := [], acked_5 := (0 : Int), f_6 := s.f_6 }
noncomputable def r4 (s : S) : Option S := some { s with t_23 := (decide ((200 : Int) < (s.events_1.length : Int))) }
noncomputable def r5 (s : S) : Option S := some { s with received_4 := [], acked_5 := (0 : Int), f_6 := (⟨(2 : Int), (-2 : Int)⟩ : Fault) }
noncomputable def r6 (s : S) : Option S := some { s with k_8 := (⟨s.frames_7, [], [], (0 : Int), (0 : Int)⟩ : Transfer_link) }
noncomputable def r7 (s : S) : Option S := some { s with t_28 := s.events_1, t_29 := (s.events_1.length : Int), t_30 := (0 : Int) }
noncomputable def r8 (s : S) : Option S := some { s with t_31 := (decide (s.t_30 < s.t_29)) }
noncomputable def r9 (s : S) : Option S := (idx s.t_28 s.t_30).bind fun x52 => some { s with i_9 := s.t_30, e_10 := x52 }
noncomputable def r10 (s : S) : Option S := (transfer_link_do.f s.k_8 s.e_10).bind fun x73 => some { s with k_8 := x73.2, code_11 := x73.1 }
noncomputable def r11 (s : S) : Option S := some { s with t_39 := (!decide (s.code_11 = (0 : Int))) }
noncomputable def r12 (s : S) : Option S := some { s with received_4 := [], acked_5 := (0 : Int), f_6 := (⟨s.code_11, s.i_9⟩ : Fault) }
noncomputable def r13 (s : S) : Option S := some { s with t_30 := w64 (s.t_30 + (1 : Int)) }
noncomputable def r14 (s : S) : Option S := (cutTo s.frames_7 s.k_8.count).bind fun x94 => (slices_Concat_byte_byte.f x94).bind fun x96 => some { s with received_4 := x96, acked_5 := s.k_8.acked, f_6 := (⟨(0 : Int), (0 : Int)⟩ : Fault) }
noncomputable def body : S → Option (Ctl S R) := (seqM (regM r0)
  (seqM (regM r1)
  (seqM (seqM (regM r2)
  (condM (fun s => s.t_19) (seqM (regM r3)
  (retM retv))
  skipM))
  (seqM (seqM (regM r4)
  (condM (fun s => s.t_23) (seqM (regM r5)
  (retM retv))
  skipM))
  (seqM (regM r6)
  (seqM (seqM (regM r7)
  (blockM 0 (iterM (seqM (regM r8)
  (seqM (condM (fun s => s.t_31) skipM
  (extM 0))
  (seqM (blockM 1 (seqM (regM r9)
  (seqM (regM r10)
  (seqM (regM r11)
  (condM (fun s => s.t_39) (seqM (regM r12)
  (retM retv))
  skipM)))))
  (regM r13)))))))
  (seqM (regM r14)
  (retM retv))))))))
noncomputable def f (a0 : (List UInt8)) (a1 : (List LinkEvent)) : Option R := retOf (body { data_0 := a0, events_1 := a1, received_4 := [], acked_5 := (0 : Int), f_6 := (⟨(0 : Int), (0 : Int)⟩ : Fault), frames_7 := [], k_8 := (⟨[], [], [], (0 : Int), (0 : Int)⟩ : Transfer_link), i_9 := (0 : Int), e_10 := (⟨(0 : Int), (0 : Int)⟩ : LinkEvent), code_11 := (0 : Int), t_19 := false, t_23 := false, t_28 := [], t_29 := (0 : Int), t_30 := (0 : Int), t_31 := false, t_39 := false })
end transfer_Run

namespace transfer_Plan
structure S where
  t_0 : (List UInt8)
  t_1 : (List Bool)
  t_4 : (List LinkEvent)
  t_5 : Bool
  t_6 : Fault
  t_7 : (List (List UInt8))
  t_8 : Fault
  t_9 : (List LinkEvent)
  t_10 : Int
  t_11 : Int
  t_12 : Bool
  t_13 : (List LinkEvent)
  t_21 : Bool
  t_25 : Bool
  t_30 : Bool
  t_47 : Bool
  t_58 : Bool
abbrev R := ((List LinkEvent) × Bool × Fault)
def retv (s : S) : R := (s.t_4, s.t_5, s.t_6)
noncomputable def r0 (s : S) : Option S := some { s with t_4 := [], t_5 := false, t_6 := (⟨(0 : Int), (0 : Int)⟩ : Fault) }
noncomputable def r1 (s : S) : Option S := (transfer_Frames.f s.t_0).bind fun x5 => some { s with t_7 := x5.1, t_8 := x5.2 }
noncomputable def r2 (s : S) : Option S := some { s with t_21 := (!decide (s.t_8 = (⟨(0 : Int), (0 : Int)⟩ : Fault))) }
noncomputable def r3 (s : S) : Option S := some { s with t_4 := [], t_5 := false, t_6 := s.t_8 }
noncomputable def r4 (s : S) : Option S := some { s with t_25 := (decide ((100 : Int) < (s.t_1.length : Int))) }
noncomputable def r5 (s : S) : Option S := some { s with t_4 := [], t_5 := false, t_6 := (⟨(2 : Int), (-2 : Int)⟩ : Fault) }
noncomputable def r6 (s : S) : Option S := some { s with t_9 := [] }
noncomputable def r7 (s : S) : Option S := some { s with t_10 := (0 : Int) }
noncomputable def r8 (s : S) : Option S := some { s with t_11 := (0 : Int) }
noncomputable def r9 (s : S) : Option S := some { s with t_30 := (decide (s.t_10 < (s.t_7.length : Int))) }
noncomputable def r11 (s : S) : Option S := ((if (decide (s.t_11 < (s.t_1.length : Int))) = true then (idx s.t_1 s.t_11).bind fun x53 => some x53 else some false)).bind fun x63 => some { s with t_12 := x63 }
noncomputable def r12 (s : S) : Option S := some { s with t_13 := [(⟨(1 : Int), (0 : Int)⟩ : LinkEvent), (⟨(2 : Int), (0 : Int)⟩ : LinkEvent), (⟨(5 : Int), (0 : Int)⟩ : LinkEvent)] }
noncomputable def r13 (s : S) : Option S := some { s with t_47 := s.t_12 }
noncomputable def r14 (s : S) : Option S := some { s with t_13 := [(⟨(1 : Int), (0 : Int)⟩ : LinkEvent), (⟨(3 : Int), (0 : Int)⟩ : LinkEvent)] }
noncomputable def r15 (s : S) : Option S := some { s with t_10 := w64 (s.t_10 + (1 : Int)) }
noncomputable def r16 (s : S) : Option S := some { s with t_58 := (decide ((200 : Int) < (w64 ((s.t_9.length : Int) + (s.t_13.length : Int))))) }
noncomputable def r17 (s : S) : Option S := some { s with t_4 := s.t_9, t_5 := false, t_6 := (⟨(0 : Int), (0 : Int)⟩ : Fault) }
noncomputable def r18 (s : S) : Option S := (appL 16 s.t_9 s.t_13).bind fun x93 => some { s with t_9 := x93 }
noncomputable def r10 (s : S) : Option S := some { s with t_11 := w64 (s.t_11 + (1 : Int)) }
noncomputable def r19 (s : S) : Option S := some { s with t_4 := s.t_9, t_5 := true, t_6 := (⟨(0 : Int), (0 : Int)⟩ : Fault) }
noncomputable def body : S → Option (Ctl S R) := (seqM (regM r0)
  (seqM (regM r1)
  (seqM (seqM (regM r2)
  (condM (fun s => s.t_21) (seqM (regM r3)
  (retM retv))
  skipM))
  (seqM (seqM (regM r4)
  (condM (fun s => s.t_25) (seqM (regM r5)
  (retM retv))
  skipM))
  (seqM (regM r6)
  (seqM (regM r7)
  (seqM (seqM (regM r8)
  (blockM 0 (iterM (seqM (seqM (regM r9)
  (condM (fun s => s.t_30) skipM
  (extM 0)))
  (seqM (blockM 1 (seqM (regM r11)
  (seqM (regM r12)
  (seqM (seqM (regM r13)
  (condM (fun s => s.t_47) (regM r14)
  (regM r15)))
  (seqM (seqM (regM r16)
  (condM (fun s => s.t_58) (seqM (regM r17)
  (retM retv))
  skipM))
  (regM r18))))))
  (regM r10))))))
  (seqM (regM r19)
  (retM retv)))))))))
noncomputable def f (a0 : (List UInt8)) (a1 : (List Bool)) : Option R := retOf (body { t_0 := a0, t_1 := a1, t_4 := [], t_5 := false, t_6 := (⟨(0 : Int), (0 : Int)⟩ : Fault), t_7 := [], t_8 := (⟨(0 : Int), (0 : Int)⟩ : Fault), t_9 := [], t_10 := (0 : Int), t_11 := (0 : Int), t_12 := false, t_13 := [], t_21 := false, t_25 := false, t_30 := false, t_47 := false, t_58 := false })
end transfer_Plan

namespace law4_transferExample
structure S where
  t_0 : Bool
  b_1 : (List UInt8)
  n_2 : Int
  f_3 : Fault
  l_4 : (List LinkEvent)
  done_5 : Bool
  g_6 : Fault
abbrev R := Bool
def retv (s : S) : R := (s.t_0)
noncomputable def r0 (s : S) : Option S := some { s with t_0 := false }
noncomputable def r1 (s : S) : Option S := (transfer_Run.f [(7 : UInt8)] [(⟨(1 : Int), (0 : Int)⟩ : LinkEvent), (⟨(4 : Int), (0 : Int)⟩ : LinkEvent), (⟨(2 : Int), (0 : Int)⟩ : LinkEvent), (⟨(2 : Int), (0 : Int)⟩ : LinkEvent)]).bind fun x15 => some { s with b_1 := x15.1, n_2 := x15.2.1, f_3 := x15.2.2 }
noncomputable def r2 (s : S) : Option S := (transfer_Plan.f [(7 : UInt8)] [true]).bind fun x44 => some { s with l_4 := x44.1, done_5 := x44.2.1, g_6 := x44.2.2 }
noncomputable def r3 (s : S) : Option S := some { s with t_0 := ((((((decide (s.f_3.Code = (0 : Int))) && (decide (s.g_6.Code = (0 : Int)))) && (decide ((strOf s.b_1) = (⟨#[7]⟩ : ByteArray)))) && (decide (s.n_2 = (0 : Int)))) && s.done_5) && (decide ((s.l_4.length : Int) = (5 : Int)))) }
noncomputable def body : S → Option (Ctl S R) := (seqM (regM r0)
  (seqM (regM r1)
  (seqM (regM r2)
  (seqM (regM r3)
  (retM retv)))))
noncomputable def f  : Option R := retOf (body { t_0 := false, b_1 := [], n_2 := (0 : Int), f_3 := (⟨(0 : Int), (0 : Int)⟩ : Fault), l_4 := [], done_5 := false, g_6 := (⟨(0 : Int), (0 : Int)⟩ : Fault) })
end law4_transferExample

namespace ref4_FrameCount
structure S where
  data_0 : (List UInt8)
  t_2 : Int
abbrev R := Int
def retv (s : S) : R := (s.t_2)
noncomputable def r0 (s : S) : Option S := some { s with t_2 := (0 : Int) }
noncomputable def r1 (s : S) : Option S := some { s with t_2 := w64 (Int.tdiv (w64 (w64 ((s.data_0.length : Int) + (16 : Int)) - (1 : Int))) (16 : Int)) }
noncomputable def body : S → Option (Ctl S R) := (seqM (regM r0)
  (seqM (regM r1)
  (retM retv)))
noncomputable def f (a0 : (List UInt8)) : Option R := retOf (body { data_0 := a0, t_2 := (0 : Int) })
end ref4_FrameCount

namespace ref3_Fault
structure S where
  code_0 : Int
  index_1 : Int
  t_4 : Fault
abbrev R := Fault
def retv (s : S) : R := (s.t_4)
noncomputable def r0 (s : S) : Option S := some { s with t_4 := (⟨(0 : Int), (0 : Int)⟩ : Fault) }
noncomputable def r1 (s : S) : Option S := some { s with t_4 := (⟨s.code_0, s.index_1⟩ : Fault) }
noncomputable def body : S → Option (Ctl S R) := (seqM (regM r0)
  (seqM (regM r1)
  (retM retv)))
noncomputable def f (a0 : Int) (a1 : Int) : Option R := retOf (body { code_0 := a0, index_1 := a1, t_4 := (⟨(0 : Int), (0 : Int)⟩ : Fault) })
end ref3_Fault

namespace ref3_In
structure S where
  n_0 : Int
  low_1 : Int
  high_2 : Int
  t_6 : Bool
abbrev R := Bool
def retv (s : S) : R := (s.t_6)
noncomputable def r0 (s : S) : Option S := some { s with t_6 := false }
noncomputable def r1 (s : S) : Option S := some { s with t_6 := ((decide (s.low_1 ≤ s.n_0)) && (decide (s.n_0 ≤ s.high_2))) }
noncomputable def body : S → Option (Ctl S R) := (seqM (regM r0)
  (seqM (regM r1)
  (retM retv)))
noncomputable def f (a0 : Int) (a1 : Int) (a2 : Int) : Option R := retOf (body { n_0 := a0, low_1 := a1, high_2 := a2, t_6 := false })
end ref3_In

namespace ref4_FrameOf
structure S where
  data_0 : (List UInt8)
  n_1 : Int
  t_4 : (List UInt8)
abbrev R := (List UInt8)
def retv (s : S) : R := (s.t_4)
noncomputable def r0 (s : S) : Option S := some { s with t_4 := [] }
noncomputable def r1 (s : S) : Option S := (cutL s.data_0 (w64 ((16 : Int) * s.n_1)) (min (s.data_0.length : Int) (w64 (w64 ((16 : Int) * s.n_1) + (16 : Int))))).bind fun x11 => some { s with t_4 := x11 }
noncomputable def body : S → Option (Ctl S R) := (seqM (regM r0)
  (seqM (regM r1)
  (retM retv)))
noncomputable def f (a0 : (List UInt8)) (a1 : Int) : Option R := retOf (body { data_0 := a0, n_1 := a1, t_4 := [] })
end ref4_FrameOf

namespace ref4_without
structure S where
  l_0 : (List Int)
  n_1 : Int
  t_4 : (List Int)
abbrev R := (List Int)
def retv (s : S) : R := (s.t_4)
noncomputable def r0 (s : S) : Option S := some { s with t_4 := [] }
noncomputable def r1 (s : S) : Option S := (cutTo s.l_0 s.n_1).bind fun x6 => (cutFrom s.l_0 (w64 (s.n_1 + (1 : Int)))).bind fun x13 => (appL 8 ([] : (List Int)) x6).bind fun x15 => (appL 8 x15 x13).bind fun x21 => some { s with t_4 := x21 }
noncomputable def body : S → Option (Ctl S R) := (seqM (regM r0)
  (seqM (regM r1)
  (retM retv)))
noncomputable def f (a0 : (List Int)) (a1 : Int) : Option R := retOf (body { l_0 := a0, n_1 := a1, t_4 := [] })
end ref4_without

namespace ref4_TransferOf
structure S where
  t_0 : Int
  t_1 : (List LinkEvent)
  t_4 : Int
  t_5 : Int
  t_6 : Fault
  t_7 : (List Int)
  t_8 : (List Int)
  t_9 : Int
  t_10 : Int
  t_11 : Int
  t_12 : Int
  t_13 : Int
  t_17 : Bool
  t_32 : Bool
  t_40 : Bool
  t_49 : Bool
  t_73 : Bool
  t_76 : Int
  t_77 : Bool
  t_83 : Bool
  t_90 : Bool
  t_100 : Bool
  t_105 : Bool
  t_114 : Bool
  t_121 : Bool
  t_129 : Bool
abbrev R := (Int × Int × Fault)
def retv (s : S) : R := (s.t_4, s.t_5, s.t_6)
noncomputable def r0 (s : S) : Option S := some { s with t_4 := (0 : Int), t_5 := (0 : Int), t_6 := (⟨(0 : Int), (0 : Int)⟩ : Fault) }
noncomputable def r1 (s : S) : Option S := some { s with t_7 := [], t_8 := [] }
noncomputable def r2 (s : S) : Option S := some { s with t_9 := (0 : Int), t_10 := (0 : Int) }
noncomputable def r3 (s : S) : Option S := some { s with t_11 := (0 : Int) }
noncomputable def r4 (s : S) : Option S := some { s with t_17 := (decide (s.t_11 < (s.t_1.length : Int))) }
noncomputable def r6 (s : S) : Option S := (idx s.t_1 s.t_11).bind fun x10 => some { s with t_12 := x10.N }
noncomputable def r7 (s : S) : Option S := (idx s.t_1 s.t_11).bind fun x20 => some { s with t_13 := x20.Kind }
noncomputable def r8 (s : S) : Option S := (ref3_In.f s.t_13 (1 : Int) (6 : Int)).bind fun x30 => some { s with t_32 := (!x30) }
noncomputable def r9 (s : S) : Option S := (ref3_Fault.f (4 : Int) s.t_11).bind fun x35 => some { s with t_4 := (0 : Int), t_5 := (0 : Int), t_6 := x35 }
noncomputable def r10 (s : S) : Option S := some { s with t_40 := ((decide (s.t_13 = (1 : Int))) && (!decide (s.t_12 = (0 : Int)))) }
noncomputable def r11 (s : S) : Option S := (ref3_Fault.f (5 : Int) s.t_11).bind fun x48 => some { s with t_4 := (0 : Int), t_5 := (0 : Int), t_6 := x48 }
noncomputable def r12 (s : S) : Option S := some { s with t_49 := ((decide (s.t_13 = (1 : Int))) && (decide (s.t_0 ≤ s.t_10))) }
noncomputable def r13 (s : S) : Option S := (ref3_Fault.f (11 : Int) s.t_11).bind fun x61 => some { s with t_4 := (0 : Int), t_5 := (0 : Int), t_6 := x61 }
noncomputable def r14 (s : S) : Option S := (ref3_In.f s.t_13 (2 : Int) (4 : Int)).bind fun x71 => ((if x71 = true then (ref3_In.f s.t_12 (0 : Int) (w64 ((s.t_7.length : Int) - (1 : Int)))).bind fun x82 => some (!x82) else some false)).bind fun x87 => ((if x87 = true then some true else ((if (decide ((5 : Int) ≤ s.t_13)) = true then (ref3_In.f s.t_12 (0 : Int) (w64 ((s.t_8.length : Int) - (1 : Int)))).bind fun x100 => some (!x100) else some false)).bind fun x105 => some x105)).bind fun x110 => some { s with t_73 := x110 }
noncomputable def r15 (s : S) : Option S := (ref3_Fault.f (6 : Int) s.t_11).bind fun x115 => some { s with t_4 := (0 : Int), t_5 := (0 : Int), t_6 := x115 }
noncomputable def r16 (s : S) : Option S := some { s with t_76 := s.t_13 }
noncomputable def r17 (s : S) : Option S := some { s with t_77 := (decide (s.t_76 = (1 : Int))) }
noncomputable def r18 (s : S) : Option S := (appL 8 s.t_7 [s.t_10]).bind fun x130 => some { s with t_7 := x130 }
noncomputable def r19 (s : S) : Option S := some { s with t_83 := (decide (s.t_76 = (2 : Int))) }
noncomputable def r20 (s : S) : Option S := (idx s.t_7 s.t_12).bind fun x136 => some { s with t_90 := (decide (x136 = s.t_9)) }
noncomputable def r21 (s : S) : Option S := some { s with t_9 := w64 (s.t_9 + (1 : Int)) }
noncomputable def r22 (s : S) : Option S := (appL 8 s.t_8 [s.t_9]).bind fun x147 => some { s with t_8 := x147 }
noncomputable def r23 (s : S) : Option S := (ref4_without.f s.t_7 s.t_12).bind fun x154 => some { s with t_7 := x154 }
noncomputable def r24 (s : S) : Option S := some { s with t_100 := (decide (s.t_76 = (3 : Int))) }
noncomputable def r25 (s : S) : Option S := (ref4_without.f s.t_7 s.t_12).bind fun x163 => some { s with t_7 := x163 }
noncomputable def r26 (s : S) : Option S := some { s with t_105 := (decide (s.t_76 = (4 : Int))) }
noncomputable def r27 (s : S) : Option S := (idx s.t_7 s.t_12).bind fun x171 => (appL 8 s.t_7 [x171]).bind fun x182 => some { s with t_7 := x182 }
noncomputable def r28 (s : S) : Option S := some { s with t_114 := (decide (s.t_76 = (5 : Int))) }
noncomputable def r29 (s : S) : Option S := (idx s.t_8 s.t_12).bind fun x188 => some { s with t_121 := (decide (s.t_10 < x188)) }
noncomputable def r30 (s : S) : Option S := (idx s.t_8 s.t_12).bind fun x194 => some { s with t_10 := x194 }
noncomputable def r31 (s : S) : Option S := (ref4_without.f s.t_8 s.t_12).bind fun x201 => some { s with t_8 := x201 }
noncomputable def r32 (s : S) : Option S := some { s with t_129 := (decide (s.t_76 = (6 : Int))) }
noncomputable def r33 (s : S) : Option S := (ref4_without.f s.t_8 s.t_12).bind fun x210 => some { s with t_8 := x210 }
noncomputable def r5 (s : S) : Option S := some { s with t_11 := w64 (s.t_11 + (1 : Int)) }
noncomputable def r34 (s : S) : Option S := some { s with t_4 := s.t_9, t_5 := s.t_10, t_6 := (⟨(0 : Int), (0 : Int)⟩ : Fault) }
noncomputable def body : S → Option (Ctl S R) := (seqM (regM r0)
  (seqM (regM r1)
  (seqM (regM r2)
  (seqM (seqM (regM r3)
  (blockM 0 (iterM (seqM (seqM (regM r4)
  (condM (fun s => s.t_17) skipM
  (extM 0)))
  (seqM (blockM 1 (seqM (regM r6)
  (seqM (regM r7)
  (seqM (seqM (regM r8)
  (condM (fun s => s.t_32) (seqM (regM r9)
  (retM retv))
  skipM))
  (seqM (seqM (regM r10)
  (condM (fun s => s.t_40) (seqM (regM r11)
  (retM retv))
  skipM))
  (seqM (seqM (regM r12)
  (condM (fun s => s.t_49) (seqM (regM r13)
  (retM retv))
  skipM))
  (seqM (seqM (regM r14)
  (condM (fun s => s.t_73) (seqM (regM r15)
  (retM retv))
  skipM))
  (seqM (regM r16)
  (blockM 2 (seqM (regM r17)
  (condM (fun s => s.t_77) (regM r18)
  (seqM (regM r19)
  (condM (fun s => s.t_83) (seqM (seqM (regM r20)
  (condM (fun s => s.t_90) (regM r21)
  skipM))
  (seqM (regM r22)
  (regM r23)))
  (seqM (regM r24)
  (condM (fun s => s.t_100) (regM r25)
  (seqM (regM r26)
  (condM (fun s => s.t_105) (regM r27)
  (seqM (regM r28)
  (condM (fun s => s.t_114) (seqM (seqM (regM r29)
  (condM (fun s => s.t_121) (regM r30)
  skipM))
  (regM r31))
  (seqM (regM r32)
  (condM (fun s => s.t_129) (regM r33)
  skipM)))))))))))))))))))))
  (regM r5))))))
  (seqM (regM r34)
  (retM retv))))))
noncomputable def f (a0 : Int) (a1 : (List LinkEvent)) : Option R := retOf (body { t_0 := a0, t_1 := a1, t_4 := (0 : Int), t_5 := (0 : Int), t_6 := (⟨(0 : Int), (0 : Int)⟩ : Fault), t_7 := [], t_8 := [], t_9 := (0 : Int), t_10 := (0 : Int), t_11 := (0 : Int), t_12 := (0 : Int), t_13 := (0 : Int), t_17 := false, t_32 := false, t_40 := false, t_49 := false, t_73 := false, t_76 := (0 : Int), t_77 := false, t_83 := false, t_90 := false, t_100 := false, t_105 := false, t_114 := false, t_121 := false, t_129 := false })
end ref4_TransferOf

namespace law4_TransferRunMatchesSpec
structure S where
  t_0 : (List UInt8)
  t_1 : (List LinkEvent)
  t_4 : Bool
  t_5 : (List (List UInt8))
  t_6 : Fault
  t_7 : (List UInt8)
  t_8 : Int
  t_9 : Fault
  t_10 : Fault
  t_11 : Int
  t_12 : Fault
  t_13 : Int
  t_14 : Int
  t_16 : Bool
  t_31 : Bool
  t_60 : Bool
  t_64 : Bool
  t_76 : Bool
  t_80 : Bool
  t_92 : Bool
abbrev R := Bool
def retv (s : S) : R := (s.t_4)
noncomputable def r0 (s : S) : Option S := some { s with t_4 := false }
noncomputable def r1 (s : S) : Option S := (law4_transferExample.f ).bind fun x1 => some { s with t_16 := (!x1) }
noncomputable def r2 (s : S) : Option S := some { s with t_4 := false }
noncomputable def r3 (s : S) : Option S := (transfer_Frames.f s.t_0).bind fun x6 => some { s with t_5 := x6.1, t_6 := x6.2 }
noncomputable def r4 (s : S) : Option S := (transfer_Run.f s.t_0 s.t_1).bind fun x25 => some { s with t_7 := x25.1, t_8 := x25.2.1, t_9 := x25.2.2 }
noncomputable def r5 (s : S) : Option S := some { s with t_31 := (decide ((4096 : Int) < (s.t_0.length : Int))) }
noncomputable def r6 (s : S) : Option S := (ref3_Fault.f (2 : Int) (-1 : Int)).bind fun x49 => some { s with t_10 := x49 }
noncomputable def r7 (s : S) : Option S := some { s with t_4 := (((decide (s.t_6 = s.t_10)) && (decide (s.t_9 = s.t_10))) && (decide ((w64 (w64 ((s.t_5.length : Int) + (s.t_7.length : Int)) + s.t_8)) = (0 : Int)))) }
noncomputable def r8 (s : S) : Option S := ((if (!decide (s.t_6.Code = (0 : Int))) = true then some true else (ref4_FrameCount.f s.t_0).bind fun x94 => some (!decide ((s.t_5.length : Int) = x94)))).bind fun x99 => some { s with t_60 := x99 }
noncomputable def r9 (s : S) : Option S := some { s with t_4 := false }
noncomputable def r10 (s : S) : Option S := some { s with t_11 := (0 : Int) }
noncomputable def r11 (s : S) : Option S := some { s with t_64 := (decide (s.t_11 < (s.t_5.length : Int))) }
noncomputable def r13 (s : S) : Option S := (idx s.t_5 s.t_11).bind fun x109 => (ref4_FrameOf.f s.t_0 s.t_11).bind fun x122 => some { s with t_76 := (!decide ((strOf x109) = (strOf x122))) }
noncomputable def r14 (s : S) : Option S := some { s with t_4 := false }
noncomputable def r12 (s : S) : Option S := some { s with t_11 := w64 (s.t_11 + (1 : Int)) }
noncomputable def r15 (s : S) : Option S := some { s with t_12 := (⟨(0 : Int), (0 : Int)⟩ : Fault) }
noncomputable def r16 (s : S) : Option S := some { s with t_13 := (0 : Int), t_14 := (0 : Int) }
noncomputable def r17 (s : S) : Option S := some { s with t_80 := (decide ((200 : Int) < (s.t_1.length : Int))) }
noncomputable def r18 (s : S) : Option S := (ref3_Fault.f (2 : Int) (-2 : Int)).bind fun x148 => some { s with t_12 := x148 }
noncomputable def r19 (s : S) : Option S := (ref4_TransferOf.f (s.t_5.length : Int) s.t_1).bind fun x163 => some { s with t_12 := x163.2.2, t_13 := x163.1, t_14 := x163.2.1 }
noncomputable def r20 (s : S) : Option S := some { s with t_92 := (!decide (s.t_12.Code = (0 : Int))) }
noncomputable def r21 (s : S) : Option S := some { s with t_4 := ((decide (s.t_9 = s.t_12)) && (decide ((w64 ((s.t_7.length : Int) + s.t_8)) = (0 : Int)))) }
noncomputable def r22 (s : S) : Option S := ((if ((decide (s.t_9.Code = (0 : Int))) && (decide (s.t_8 = s.t_14))) = true then (cutTo s.t_0 (min (s.t_0.length : Int) (w64 ((16 : Int) * s.t_13)))).bind fun x200 => some (decide ((strOf s.t_7) = (strOf x200))) else some false)).bind fun x202 => some { s with t_4 := x202 }
noncomputable def body : S → Option (Ctl S R) := (seqM (regM r0)
  (seqM (seqM (regM r1)
  (condM (fun s => s.t_16) (seqM (regM r2)
  (retM retv))
  skipM))
  (seqM (regM r3)
  (seqM (regM r4)
  (seqM (seqM (regM r5)
  (condM (fun s => s.t_31) (seqM (regM r6)
  (seqM (regM r7)
  (retM retv)))
  skipM))
  (seqM (seqM (regM r8)
  (condM (fun s => s.t_60) (seqM (regM r9)
  (retM retv))
  skipM))
  (seqM (seqM (regM r10)
  (blockM 0 (iterM (seqM (seqM (regM r11)
  (condM (fun s => s.t_64) skipM
  (extM 0)))
  (seqM (blockM 1 (seqM (regM r13)
  (condM (fun s => s.t_76) (seqM (regM r14)
  (retM retv))
  skipM)))
  (regM r12))))))
  (seqM (regM r15)
  (seqM (regM r16)
  (seqM (seqM (regM r17)
  (condM (fun s => s.t_80) (regM r18)
  (regM r19)))
  (seqM (seqM (regM r20)
  (condM (fun s => s.t_92) (seqM (regM r21)
  (retM retv))
  skipM))
  (seqM (regM r22)
  (retM retv)))))))))))))
noncomputable def f (a0 : (List UInt8)) (a1 : (List LinkEvent)) : Option R := retOf (body { t_0 := a0, t_1 := a1, t_4 := false, t_5 := [], t_6 := (⟨(0 : Int), (0 : Int)⟩ : Fault), t_7 := [], t_8 := (0 : Int), t_9 := (⟨(0 : Int), (0 : Int)⟩ : Fault), t_10 := (⟨(0 : Int), (0 : Int)⟩ : Fault), t_11 := (0 : Int), t_12 := (⟨(0 : Int), (0 : Int)⟩ : Fault), t_13 := (0 : Int), t_14 := (0 : Int), t_16 := false, t_31 := false, t_60 := false, t_64 := false, t_76 := false, t_80 := false, t_92 := false })
end law4_TransferRunMatchesSpec

namespace ref4_PlanOf
structure S where
  frames_0 : Int
  lost_1 : (List Bool)
  t_4 : (List LinkEvent)
  t_5 : Bool
  out_6 : (List LinkEvent)
  try_7 : Int
  sent_8 : Int
  t_11 : Bool
  t_23 : Bool
  t_26 : Bool
  t_35 : Bool
abbrev R := ((List LinkEvent) × Bool)
def retv (s : S) : R := (s.t_4, s.t_5)
noncomputable def r0 (s : S) : Option S := some { s with t_4 := [], t_5 := false }
noncomputable def r1 (s : S) : Option S := some { s with out_6 := [] }
noncomputable def r2 (s : S) : Option S := some { s with try_7 := (0 : Int) }
noncomputable def r3 (s : S) : Option S := some { s with sent_8 := (0 : Int) }
noncomputable def r4 (s : S) : Option S := some { s with t_11 := (decide (s.sent_8 < s.frames_0)) }
noncomputable def r6 (s : S) : Option S := ((if (decide (s.try_7 < (s.lost_1.length : Int))) = true then (idx s.lost_1 s.try_7).bind fun x8 => some x8 else some false)).bind fun x18 => some { s with t_23 := x18 }
noncomputable def r7 (s : S) : Option S := some { s with t_26 := (decide ((198 : Int) < (s.out_6.length : Int))) }
noncomputable def r8 (s : S) : Option S := some { s with t_4 := s.out_6, t_5 := false }
noncomputable def r9 (s : S) : Option S := (appL 16 s.out_6 [(⟨(1 : Int), (0 : Int)⟩ : LinkEvent), (⟨(3 : Int), (0 : Int)⟩ : LinkEvent)]).bind fun x31 => some { s with out_6 := x31 }
noncomputable def r10 (s : S) : Option S := some { s with t_35 := (decide ((197 : Int) < (s.out_6.length : Int))) }
noncomputable def r11 (s : S) : Option S := some { s with t_4 := s.out_6, t_5 := false }
noncomputable def r12 (s : S) : Option S := (appL 16 s.out_6 [(⟨(1 : Int), (0 : Int)⟩ : LinkEvent), (⟨(2 : Int), (0 : Int)⟩ : LinkEvent), (⟨(5 : Int), (0 : Int)⟩ : LinkEvent)]).bind fun x49 => some { s with out_6 := x49 }
noncomputable def r13 (s : S) : Option S := some { s with sent_8 := w64 (s.sent_8 + (1 : Int)) }
noncomputable def r5 (s : S) : Option S := some { s with try_7 := w64 (s.try_7 + (1 : Int)) }
noncomputable def r14 (s : S) : Option S := some { s with t_4 := s.out_6, t_5 := true }
noncomputable def body : S → Option (Ctl S R) := (seqM (regM r0)
  (seqM (regM r1)
  (seqM (regM r2)
  (seqM (seqM (regM r3)
  (blockM 0 (iterM (seqM (seqM (regM r4)
  (condM (fun s => s.t_11) skipM
  (extM 0)))
  (seqM (blockM 1 (seqM (seqM (regM r6)
  (condM (fun s => s.t_23) (seqM (seqM (regM r7)
  (condM (fun s => s.t_26) (seqM (regM r8)
  (retM retv))
  skipM))
  (seqM (regM r9)
  (extM 1)))
  skipM))
  (seqM (seqM (regM r10)
  (condM (fun s => s.t_35) (seqM (regM r11)
  (retM retv))
  skipM))
  (seqM (regM r12)
  (regM r13)))))
  (regM r5))))))
  (seqM (regM r14)
  (retM retv))))))
noncomputable def f (a0 : Int) (a1 : (List Bool)) : Option R := retOf (body { frames_0 := a0, lost_1 := a1, t_4 := [], t_5 := false, out_6 := [], try_7 := (0 : Int), sent_8 := (0 : Int), t_11 := false, t_23 := false, t_26 := false, t_35 := false })
end ref4_PlanOf

namespace ref4_Events
structure S where
  a_0 : (List LinkEvent)
  b_1 : (List LinkEvent)
  t_4 : Bool
  i_5 : Int
  t_10 : Bool
  t_14 : Bool
  t_25 : Bool
abbrev R := Bool
def retv (s : S) : R := (s.t_4)
noncomputable def r0 (s : S) : Option S := some { s with t_4 := false }
noncomputable def r1 (s : S) : Option S := some { s with t_10 := (!decide ((s.a_0.length : Int) = (s.b_1.length : Int))) }
noncomputable def r2 (s : S) : Option S := some { s with t_4 := false }
noncomputable def r3 (s : S) : Option S := some { s with i_5 := (0 : Int) }
noncomputable def r4 (s : S) : Option S := some { s with t_14 := (decide (s.i_5 < (s.a_0.length : Int))) }
noncomputable def r6 (s : S) : Option S := (idx s.a_0 s.i_5).bind fun x16 => (idx s.b_1 s.i_5).bind fun x28 => some { s with t_25 := (!decide (x16 = x28)) }
noncomputable def r7 (s : S) : Option S := some { s with t_4 := false }
noncomputable def r5 (s : S) : Option S := some { s with i_5 := w64 (s.i_5 + (1 : Int)) }
noncomputable def r8 (s : S) : Option S := some { s with t_4 := true }
noncomputable def body : S → Option (Ctl S R) := (seqM (regM r0)
  (seqM (seqM (regM r1)
  (condM (fun s => s.t_10) (seqM (regM r2)
  (retM retv))
  skipM))
  (seqM (seqM (regM r3)
  (blockM 0 (iterM (seqM (seqM (regM r4)
  (condM (fun s => s.t_14) skipM
  (extM 0)))
  (seqM (blockM 1 (seqM (regM r6)
  (condM (fun s => s.t_25) (seqM (regM r7)
  (retM retv))
  skipM)))
  (regM r5))))))
  (seqM (regM r8)
  (retM retv)))))
noncomputable def f (a0 : (List LinkEvent)) (a1 : (List LinkEvent)) : Option R := retOf (body { a_0 := a0, b_1 := a1, t_4 := false, i_5 := (0 : Int), t_10 := false, t_14 := false, t_25 := false })
end ref4_Events

namespace law4_TransferPlanMatchesSpec
structure S where
  data_0 : (List UInt8)
  lost_1 : (List Bool)
  t_4 : Bool
  l_5 : (List LinkEvent)
  done_6 : Bool
  f_7 : Fault
  w_8 : Fault
  m_9 : (List LinkEvent)
  all_10 : Bool
  t_12 : Bool
  t_23 : Bool
  t_27 : Bool
  t_31 : Bool
abbrev R := Bool
def retv (s : S) : R := (s.t_4)
noncomputable def r0 (s : S) : Option S := some { s with t_4 := false }
noncomputable def r1 (s : S) : Option S := (law4_transferExample.f ).bind fun x1 => some { s with t_12 := (!x1) }
noncomputable def r2 (s : S) : Option S := some { s with t_4 := false }
noncomputable def r3 (s : S) : Option S := (transfer_Plan.f s.data_0 s.lost_1).bind fun x6 => some { s with l_5 := x6.1, done_6 := x6.2.1, f_7 := x6.2.2 }
noncomputable def r4 (s : S) : Option S := some { s with w_8 := (⟨(0 : Int), (0 : Int)⟩ : Fault) }
noncomputable def r5 (s : S) : Option S := some { s with t_23 := (decide ((4096 : Int) < (s.data_0.length : Int))) }
noncomputable def r6 (s : S) : Option S := (ref3_Fault.f (2 : Int) (-1 : Int)).bind fun x38 => some { s with w_8 := x38 }
noncomputable def r7 (s : S) : Option S := some { s with t_27 := (decide ((100 : Int) < (s.lost_1.length : Int))) }
noncomputable def r8 (s : S) : Option S := (ref3_Fault.f (2 : Int) (-2 : Int)).bind fun x53 => some { s with w_8 := x53 }
noncomputable def r9 (s : S) : Option S := some { s with t_31 := (!decide (s.w_8.Code = (0 : Int))) }
noncomputable def r10 (s : S) : Option S := some { s with t_4 := (((decide (s.f_7 = s.w_8)) && (decide ((s.l_5.length : Int) = (0 : Int)))) && (!s.done_6)) }
noncomputable def r11 (s : S) : Option S := (ref4_FrameCount.f s.data_0).bind fun x78 => (ref4_PlanOf.f x78 s.lost_1).bind fun x83 => some { s with m_9 := x83.1, all_10 := x83.2 }
noncomputable def r12 (s : S) : Option S := ((if ((decide (s.f_7.Code = (0 : Int))) && (decide (s.done_6 = s.all_10))) = true then (ref4_Events.f s.l_5 s.m_9).bind fun x98 => some x98 else some false)).bind fun x103 => some { s with t_4 := x103 }
noncomputable def body : S → Option (Ctl S R) := (seqM (regM r0)
  (seqM (seqM (regM r1)
  (condM (fun s => s.t_12) (seqM (regM r2)
  (retM retv))
  skipM))
  (seqM (regM r3)
  (seqM (regM r4)
  (seqM (seqM (regM r5)
  (condM (fun s => s.t_23) (regM r6)
  (seqM (regM r7)
  (condM (fun s => s.t_27) (regM r8)
  skipM))))
  (seqM (seqM (regM r9)
  (condM (fun s => s.t_31) (seqM (regM r10)
  (retM retv))
  skipM))
  (seqM (regM r11)
  (seqM (regM r12)
  (retM retv)))))))))
noncomputable def f (a0 : (List UInt8)) (a1 : (List Bool)) : Option R := retOf (body { data_0 := a0, lost_1 := a1, t_4 := false, l_5 := [], done_6 := false, f_7 := (⟨(0 : Int), (0 : Int)⟩ : Fault), w_8 := (⟨(0 : Int), (0 : Int)⟩ : Fault), m_9 := [], all_10 := false, t_12 := false, t_23 := false, t_27 := false, t_31 := false })
end law4_TransferPlanMatchesSpec

namespace law4_TransferPrefix
structure S where
  data_0 : (List UInt8)
  events_1 : (List LinkEvent)
  t_4 : Bool
  b_5 : (List UInt8)
  n_6 : Int
  f_7 : Fault
  t_9 : Bool
  t_19 : Bool
  t_49 : Bool
abbrev R := Bool
def retv (s : S) : R := (s.t_4)
noncomputable def r0 (s : S) : Option S := some { s with t_4 := false }
noncomputable def r1 (s : S) : Option S := (law4_transferExample.f ).bind fun x1 => some { s with t_9 := (!x1) }
noncomputable def r2 (s : S) : Option S := some { s with t_4 := false }
noncomputable def r3 (s : S) : Option S := (transfer_Run.f s.data_0 s.events_1).bind fun x6 => some { s with b_5 := x6.1, n_6 := x6.2.1, f_7 := x6.2.2 }
noncomputable def r4 (s : S) : Option S := some { s with t_19 := (!decide (s.f_7.Code = (0 : Int))) }
noncomputable def r5 (s : S) : Option S := some { s with t_4 := (decide ((w64 ((s.b_5.length : Int) + s.n_6)) = (0 : Int))) }
noncomputable def r6 (s : S) : Option S := ((if (decide ((s.data_0.length : Int) < (s.b_5.length : Int))) = true then some true else (cutTo s.data_0 (s.b_5.length : Int)).bind fun x52 => some (!decide ((strOf s.b_5) = (strOf x52))))).bind fun x54 => some { s with t_49 := ((x54 || (decide (s.n_6 < (0 : Int)))) || (decide ((s.data_0.length : Int) < s.n_6))) }
noncomputable def r7 (s : S) : Option S := some { s with t_4 := false }
noncomputable def r8 (s : S) : Option S := some { s with t_4 := (decide ((min (s.data_0.length : Int) (w64 ((16 : Int) * s.n_6))) ≤ (s.b_5.length : Int))) }
noncomputable def body : S → Option (Ctl S R) := (seqM (regM r0)
  (seqM (seqM (regM r1)
  (condM (fun s => s.t_9) (seqM (regM r2)
  (retM retv))
  skipM))
  (seqM (regM r3)
  (seqM (seqM (regM r4)
  (condM (fun s => s.t_19) (seqM (regM r5)
  (retM retv))
  skipM))
  (seqM (seqM (regM r6)
  (condM (fun s => s.t_49) (seqM (regM r7)
  (retM retv))
  skipM))
  (seqM (regM r8)
  (retM retv)))))))
noncomputable def f (a0 : (List UInt8)) (a1 : (List LinkEvent)) : Option R := retOf (body { data_0 := a0, events_1 := a1, t_4 := false, b_5 := [], n_6 := (0 : Int), f_7 := (⟨(0 : Int), (0 : Int)⟩ : Fault), t_9 := false, t_19 := false, t_49 := false })
end law4_TransferPrefix

namespace law4_TransferGrows
structure S where
  t_0 : (List UInt8)
  t_1 : (List LinkEvent)
  t_2 : Int
  t_6 : Bool
  t_7 : (List UInt8)
  t_8 : Int
  t_9 : Fault
  t_10 : (List UInt8)
  t_11 : Int
  t_12 : Fault
  t_14 : Bool
  t_31 : Bool
abbrev R := Bool
def retv (s : S) : R := (s.t_6)
noncomputable def r0 (s : S) : Option S := some { s with t_6 := false }
noncomputable def r1 (s : S) : Option S := (law4_transferExample.f ).bind fun x1 => some { s with t_14 := (!x1) }
noncomputable def r2 (s : S) : Option S := some { s with t_6 := false }
noncomputable def r3 (s : S) : Option S := (transfer_Run.f s.t_0 s.t_1).bind fun x6 => some { s with t_7 := x6.1, t_8 := x6.2.1, t_9 := x6.2.2 }
noncomputable def r4 (s : S) : Option S := ((if (!decide (s.t_9.Code = (0 : Int))) = true then some true else (ref3_In.f s.t_2 (0 : Int) (s.t_1.length : Int)).bind fun x32 => some (!x32))).bind fun x37 => some { s with t_31 := x37 }
noncomputable def r5 (s : S) : Option S := some { s with t_6 := ((decide (s.t_9.Code = (0 : Int))) || (decide ((w64 ((s.t_7.length : Int) + s.t_8)) = (0 : Int)))) }
noncomputable def r6 (s : S) : Option S := (cutTo s.t_1 s.t_2).bind fun x55 => (transfer_Run.f s.t_0 x55).bind fun x57 => some { s with t_10 := x57.1, t_11 := x57.2.1, t_12 := x57.2.2 }
noncomputable def r7 (s : S) : Option S := ((if (((decide (s.t_12.Code = (0 : Int))) && (decide (s.t_11 ≤ s.t_8))) && (decide ((s.t_10.length : Int) ≤ (s.t_7.length : Int)))) = true then (cutTo s.t_7 (s.t_10.length : Int)).bind fun x104 => some (decide ((strOf s.t_10) = (strOf x104))) else some false)).bind fun x106 => some { s with t_6 := x106 }
noncomputable def body : S → Option (Ctl S R) := (seqM (regM r0)
  (seqM (seqM (regM r1)
  (condM (fun s => s.t_14) (seqM (regM r2)
  (retM retv))
  skipM))
  (seqM (regM r3)
  (seqM (seqM (regM r4)
  (condM (fun s => s.t_31) (seqM (regM r5)
  (retM retv))
  skipM))
  (seqM (regM r6)
  (seqM (regM r7)
  (retM retv)))))))
noncomputable def f (a0 : (List UInt8)) (a1 : (List LinkEvent)) (a2 : Int) : Option R := retOf (body { t_0 := a0, t_1 := a1, t_2 := a2, t_6 := false, t_7 := [], t_8 := (0 : Int), t_9 := (⟨(0 : Int), (0 : Int)⟩ : Fault), t_10 := [], t_11 := (0 : Int), t_12 := (⟨(0 : Int), (0 : Int)⟩ : Fault), t_14 := false, t_31 := false })
end law4_TransferGrows

namespace law4_TransferPlanDelivers
structure S where
  t_0 : (List UInt8)
  t_1 : (List Bool)
  t_4 : Bool
  t_5 : (List LinkEvent)
  t_6 : Bool
  t_7 : Fault
  t_8 : (List UInt8)
  t_9 : Int
  t_10 : Fault
  t_12 : Bool
  t_22 : Bool
  t_56 : Bool
abbrev R := Bool
def retv (s : S) : R := (s.t_4)
noncomputable def r0 (s : S) : Option S := some { s with t_4 := false }
noncomputable def r1 (s : S) : Option S := (law4_transferExample.f ).bind fun x1 => some { s with t_12 := (!x1) }
noncomputable def r2 (s : S) : Option S := some { s with t_4 := false }
noncomputable def r3 (s : S) : Option S := (transfer_Plan.f s.t_0 s.t_1).bind fun x6 => some { s with t_5 := x6.1, t_6 := x6.2.1, t_7 := x6.2.2 }
noncomputable def r4 (s : S) : Option S := some { s with t_22 := (!decide (s.t_7.Code = (0 : Int))) }
noncomputable def r5 (s : S) : Option S := some { s with t_4 := ((decide ((s.t_5.length : Int) = (0 : Int))) && (!s.t_6)) }
noncomputable def r6 (s : S) : Option S := (transfer_Run.f s.t_0 s.t_5).bind fun x33 => some { s with t_8 := x33.1, t_9 := x33.2.1, t_10 := x33.2.2 }
noncomputable def r7 (s : S) : Option S := ((if ((!decide (s.t_10.Code = (0 : Int))) || (decide ((s.t_0.length : Int) < (s.t_8.length : Int)))) = true then some true else (cutTo s.t_0 (s.t_8.length : Int)).bind fun x77 => some (!decide ((strOf s.t_8) = (strOf x77))))).bind fun x79 => some { s with t_56 := x79 }
noncomputable def r8 (s : S) : Option S := some { s with t_4 := false }
noncomputable def r9 (s : S) : Option S := ((if (!s.t_6) = true then some true else ((if (decide ((s.t_8.length : Int) = (s.t_0.length : Int))) = true then (ref4_FrameCount.f s.t_0).bind fun x95 => some (decide (s.t_9 = x95)) else some false)).bind fun x100 => some x100)).bind fun x105 => some { s with t_4 := x105 }
noncomputable def body : S → Option (Ctl S R) := (seqM (regM r0)
  (seqM (seqM (regM r1)
  (condM (fun s => s.t_12) (seqM (regM r2)
  (retM retv))
  skipM))
  (seqM (regM r3)
  (seqM (seqM (regM r4)
  (condM (fun s => s.t_22) (seqM (regM r5)
  (retM retv))
  skipM))
  (seqM (regM r6)
  (seqM (seqM (regM r7)
  (condM (fun s => s.t_56) (seqM (regM r8)
  (retM retv))
  skipM))
  (seqM (regM r9)
  (retM retv))))))))
noncomputable def f (a0 : (List UInt8)) (a1 : (List Bool)) : Option R := retOf (body { t_0 := a0, t_1 := a1, t_4 := false, t_5 := [], t_6 := false, t_7 := (⟨(0 : Int), (0 : Int)⟩ : Fault), t_8 := [], t_9 := (0 : Int), t_10 := (⟨(0 : Int), (0 : Int)⟩ : Fault), t_12 := false, t_22 := false, t_56 := false })
end law4_TransferPlanDelivers

end Go.Proofs.Ytpdkgodonemonaa
