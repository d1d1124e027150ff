/- Their kinds: how values of these structures lie in memory. -/
import Derived.Test.YtpdkgodonemonaaTy
namespace Go.Fx
set_option linter.unusedVariables false
def k_Fault : Kd Fault := kIso (kPair (kInt .i64) (kInt .i64)) (fun x => (x.Code, x.Index))
theorem fl_Fault_0 : Fld k_Fault 0 (kInt .i64) (fun x => x.Code) := Fld.iso _ (Fld.fst _ _)
theorem fs_Fault_0 : FldS k_Fault 0 (kInt .i64) (fun x y => { x with Code := y }) := FldS.iso _ (FldS.fst _ _) (fun _ _ => rfl)
theorem fl_Fault_1 : Fld k_Fault 1 (kInt .i64) (fun x => x.Index) := Fld.iso _ (Fld.snd _ (Fld.whole _))
theorem fs_Fault_1 : FldS k_Fault 1 (kInt .i64) (fun x y => { x with Index := y }) := FldS.iso _ (FldS.snd _ (FldS.whole _)) (fun _ _ => rfl)
theorem mk_Fault {F : BSet} {w : World} {v0 : Value} {x0 : Int} (h0 : Val (kInt .i64) F w v0 x0) {v1 : Value} {x1 : Int} (h1 : Val (kInt .i64) F w v1 x1) : Val k_Fault F w (.agg ((v0.cells.toList ++ v1.cells.toList)).toArray) ⟨x0, x1⟩ := ⟨_, (show k_Fault.rep F w _ _ from ⟨_, _, rfl, h0.cells, h1.cells⟩), rfl⟩
theorem plain_Fault : Plain k_Fault := plain_iso _ (plain_pair (plain_int _) (plain_int _))
theorem op_Fault {F : BSet} {w : World} {v : Value} {x : Fault} (h : Val k_Fault F w v x) : v = .agg #[.int .i64 x.Code, .int .i64 x.Index] := by
  obtain ⟨cs, hr, rfl⟩ := h
  obtain ⟨_, _, rfl, rfl, rfl⟩ := hr
  rfl
def k_Transfer_link : Kd Transfer_link := kIso (kPair (kSl (kSl kByte)) (kPair (kSl (kInt .i64)) (kPair (kSl (kInt .i64)) (kPair (kInt .i64) (kInt .i64))))) (fun x => (x.frames, x.sent, x.acks, x.count, x.acked))
theorem fl_Transfer_link_0 : Fld k_Transfer_link 0 (kSl (kSl kByte)) (fun x => x.frames) := Fld.iso _ (Fld.fst _ _)
theorem fs_Transfer_link_0 : FldS k_Transfer_link 0 (kSl (kSl kByte)) (fun x y => { x with frames := y }) := FldS.iso _ (FldS.fst _ _) (fun _ _ => rfl)
theorem fl_Transfer_link_1 : Fld k_Transfer_link 1 (kSl (kInt .i64)) (fun x => x.sent) := Fld.iso _ (Fld.snd _ (Fld.fst _ _))
theorem fs_Transfer_link_1 : FldS k_Transfer_link 1 (kSl (kInt .i64)) (fun x y => { x with sent := y }) := FldS.iso _ (FldS.snd _ (FldS.fst _ _)) (fun _ _ => rfl)
theorem fl_Transfer_link_2 : Fld k_Transfer_link 2 (kSl (kInt .i64)) (fun x => x.acks) := Fld.iso _ (Fld.snd _ (Fld.snd _ (Fld.fst _ _)))
theorem fs_Transfer_link_2 : FldS k_Transfer_link 2 (kSl (kInt .i64)) (fun x y => { x with acks := y }) := FldS.iso _ (FldS.snd _ (FldS.snd _ (FldS.fst _ _))) (fun _ _ => rfl)
theorem fl_Transfer_link_3 : Fld k_Transfer_link 3 (kInt .i64) (fun x => x.count) := Fld.iso _ (Fld.snd _ (Fld.snd _ (Fld.snd _ (Fld.fst _ _))))
theorem fs_Transfer_link_3 : FldS k_Transfer_link 3 (kInt .i64) (fun x y => { x with count := y }) := FldS.iso _ (FldS.snd _ (FldS.snd _ (FldS.snd _ (FldS.fst _ _)))) (fun _ _ => rfl)
theorem fl_Transfer_link_4 : Fld k_Transfer_link 4 (kInt .i64) (fun x => x.acked) := Fld.iso _ (Fld.snd _ (Fld.snd _ (Fld.snd _ (Fld.snd _ (Fld.whole _)))))
theorem fs_Transfer_link_4 : FldS k_Transfer_link 4 (kInt .i64) (fun x y => { x with acked := y }) := FldS.iso _ (FldS.snd _ (FldS.snd _ (FldS.snd _ (FldS.snd _ (FldS.whole _))))) (fun _ _ => rfl)
theorem mk_Transfer_link {F : BSet} {w : World} {v0 : Value} {x0 : (List (List UInt8))} (h0 : Val (kSl (kSl kByte)) F w v0 x0) {v1 : Value} {x1 : (List Int)} (h1 : Val (kSl (kInt .i64)) F w v1 x1) {v2 : Value} {x2 : (List Int)} (h2 : Val (kSl (kInt .i64)) F w v2 x2) {v3 : Value} {x3 : Int} (h3 : Val (kInt .i64) F w v3 x3) {v4 : Value} {x4 : Int} (h4 : Val (kInt .i64) F w v4 x4) : Val k_Transfer_link F w (.agg ((v0.cells.toList ++ (v1.cells.toList ++ (v2.cells.toList ++ (v3.cells.toList ++ v4.cells.toList))))).toArray) ⟨x0, x1, x2, x3, x4⟩ := ⟨_, (show k_Transfer_link.rep F w _ _ from ⟨_, _, rfl, h0.cells, ⟨_, _, rfl, h1.cells, ⟨_, _, rfl, h2.cells, ⟨_, _, rfl, h3.cells, h4.cells⟩⟩⟩⟩), rfl⟩
def k_Transfer_link_r : Kd Transfer_link_r := kIso (kPair (kSl (kSl kByte)) (kPair kRaw (kPair kRaw (kPair (kInt .i64) (kInt .i64))))) (fun x => (x.frames, x.sent, x.acks, x.count, x.acked))
theorem fl_Transfer_link_r_0 : Fld k_Transfer_link_r 0 (kSl (kSl kByte)) (fun x => x.frames) := Fld.iso _ (Fld.fst _ _)
theorem fs_Transfer_link_r_0 : FldS k_Transfer_link_r 0 (kSl (kSl kByte)) (fun x y => { x with frames := y }) := FldS.iso _ (FldS.fst _ _) (fun _ _ => rfl)
theorem fl_Transfer_link_r_1 : Fld k_Transfer_link_r 1 kRaw (fun x => x.sent) := Fld.iso _ (Fld.snd _ (Fld.fst _ _))
theorem fs_Transfer_link_r_1 : FldS k_Transfer_link_r 1 kRaw (fun x y => { x with sent := y }) := FldS.iso _ (FldS.snd _ (FldS.fst _ _)) (fun _ _ => rfl)
theorem fl_Transfer_link_r_2 : Fld k_Transfer_link_r 2 kRaw (fun x => x.acks) := Fld.iso _ (Fld.snd _ (Fld.snd _ (Fld.fst _ _)))
theorem fs_Transfer_link_r_2 : FldS k_Transfer_link_r 2 kRaw (fun x y => { x with acks := y }) := FldS.iso _ (FldS.snd _ (FldS.snd _ (FldS.fst _ _))) (fun _ _ => rfl)
theorem fl_Transfer_link_r_3 : Fld k_Transfer_link_r 3 (kInt .i64) (fun x => x.count) := Fld.iso _ (Fld.snd _ (Fld.snd _ (Fld.snd _ (Fld.fst _ _))))
theorem fs_Transfer_link_r_3 : FldS k_Transfer_link_r 3 (kInt .i64) (fun x y => { x with count := y }) := FldS.iso _ (FldS.snd _ (FldS.snd _ (FldS.snd _ (FldS.fst _ _)))) (fun _ _ => rfl)
theorem fl_Transfer_link_r_4 : Fld k_Transfer_link_r 4 (kInt .i64) (fun x => x.acked) := Fld.iso _ (Fld.snd _ (Fld.snd _ (Fld.snd _ (Fld.snd _ (Fld.whole _)))))
theorem fs_Transfer_link_r_4 : FldS k_Transfer_link_r 4 (kInt .i64) (fun x y => { x with acked := y }) := FldS.iso _ (FldS.snd _ (FldS.snd _ (FldS.snd _ (FldS.snd _ (FldS.whole _))))) (fun _ _ => rfl)
theorem mk_Transfer_link_r {F : BSet} {w : World} {v0 : Value} {x0 : (List (List UInt8))} (h0 : Val (kSl (kSl kByte)) F w v0 x0) {v1 : Value} {x1 : Value} (h1 : Val kRaw F w v1 x1) {v2 : Value} {x2 : Value} (h2 : Val kRaw F w v2 x2) {v3 : Value} {x3 : Int} (h3 : Val (kInt .i64) F w v3 x3) {v4 : Value} {x4 : Int} (h4 : Val (kInt .i64) F w v4 x4) : Val k_Transfer_link_r F w (.agg ((v0.cells.toList ++ (v1.cells.toList ++ (v2.cells.toList ++ (v3.cells.toList ++ v4.cells.toList))))).toArray) ⟨x0, x1, x2, x3, x4⟩ := ⟨_, (show k_Transfer_link_r.rep F w _ _ from ⟨_, _, rfl, h0.cells, ⟨_, _, rfl, h1.cells, ⟨_, _, rfl, h2.cells, ⟨_, _, rfl, h3.cells, h4.cells⟩⟩⟩⟩), rfl⟩
def k_LinkEvent : Kd LinkEvent := kIso (kPair (kInt .i64) (kInt .i64)) (fun x => (x.Kind, x.N))
theorem fl_LinkEvent_0 : Fld k_LinkEvent 0 (kInt .i64) (fun x => x.Kind) := Fld.iso _ (Fld.fst _ _)
theorem fs_LinkEvent_0 : FldS k_LinkEvent 0 (kInt .i64) (fun x y => { x with Kind := y }) := FldS.iso _ (FldS.fst _ _) (fun _ _ => rfl)
theorem fl_LinkEvent_1 : Fld k_LinkEvent 1 (kInt .i64) (fun x => x.N) := Fld.iso _ (Fld.snd _ (Fld.whole _))
theorem fs_LinkEvent_1 : FldS k_LinkEvent 1 (kInt .i64) (fun x y => { x with N := y }) := FldS.iso _ (FldS.snd _ (FldS.whole _)) (fun _ _ => rfl)
theorem mk_LinkEvent {F : BSet} {w : World} {v0 : Value} {x0 : Int} (h0 : Val (kInt .i64) F w v0 x0) {v1 : Value} {x1 : Int} (h1 : Val (kInt .i64) F w v1 x1) : Val k_LinkEvent F w (.agg ((v0.cells.toList ++ v1.cells.toList)).toArray) ⟨x0, x1⟩ := ⟨_, (show k_LinkEvent.rep F w _ _ from ⟨_, _, rfl, h0.cells, h1.cells⟩), rfl⟩
theorem plain_LinkEvent : Plain k_LinkEvent := plain_iso _ (plain_pair (plain_int _) (plain_int _))
theorem op_LinkEvent {F : BSet} {w : World} {v : Value} {x : LinkEvent} (h : Val k_LinkEvent F w v x) : v = .agg #[.int .i64 x.Kind, .int .i64 x.N] := by
  obtain ⟨cs, hr, rfl⟩ := h
  obtain ⟨_, _, rfl, rfl, rfl⟩ := hr
  rfl
end Go.Fx
