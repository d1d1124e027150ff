/- Their kinds: how values of these structures lie in memory. -/
import Derived.Test.YtilodamhgepjoaaTy
namespace Go.Fx
set_option linter.unusedVariables false
def k_Commit : Kd Commit := kIso (kPair (kSl (kInt .i64)) (kPair (kInt .i64) (kPair (kInt .i64) (kPair (kInt .i64) kStr)))) (fun x => (x.Parents, x.Author, x.Time, x.Tree, x.Message))
theorem fl_Commit_0 : Fld k_Commit 0 (kSl (kInt .i64)) (fun x => x.Parents) := Fld.iso _ (Fld.fst _ _)
theorem fs_Commit_0 : FldS k_Commit 0 (kSl (kInt .i64)) (fun x y => { x with Parents := y }) := FldS.iso _ (FldS.fst _ _) (fun _ _ => rfl)
theorem fl_Commit_1 : Fld k_Commit 1 (kInt .i64) (fun x => x.Author) := Fld.iso _ (Fld.snd _ (Fld.fst _ _))
theorem fs_Commit_1 : FldS k_Commit 1 (kInt .i64) (fun x y => { x with Author := y }) := FldS.iso _ (FldS.snd _ (FldS.fst _ _)) (fun _ _ => rfl)
theorem fl_Commit_2 : Fld k_Commit 2 (kInt .i64) (fun x => x.Time) := Fld.iso _ (Fld.snd _ (Fld.snd _ (Fld.fst _ _)))
theorem fs_Commit_2 : FldS k_Commit 2 (kInt .i64) (fun x y => { x with Time := y }) := FldS.iso _ (FldS.snd _ (FldS.snd _ (FldS.fst _ _))) (fun _ _ => rfl)
theorem fl_Commit_3 : Fld k_Commit 3 (kInt .i64) (fun x => x.Tree) := Fld.iso _ (Fld.snd _ (Fld.snd _ (Fld.snd _ (Fld.fst _ _))))
theorem fs_Commit_3 : FldS k_Commit 3 (kInt .i64) (fun x y => { x with Tree := y }) := FldS.iso _ (FldS.snd _ (FldS.snd _ (FldS.snd _ (FldS.fst _ _)))) (fun _ _ => rfl)
theorem fl_Commit_4 : Fld k_Commit 4 kStr (fun x => x.Message) := Fld.iso _ (Fld.snd _ (Fld.snd _ (Fld.snd _ (Fld.snd _ (Fld.whole _)))))
theorem fs_Commit_4 : FldS k_Commit 4 kStr (fun x y => { x with Message := y }) := FldS.iso _ (FldS.snd _ (FldS.snd _ (FldS.snd _ (FldS.snd _ (FldS.whole _))))) (fun _ _ => rfl)
theorem mk_Commit {F : BSet} {w : World} {v0 : Value} {x0 : (List Int)} (h0 : Val (kSl (kInt .i64)) F w v0 x0) {v1 : Value} {x1 : Int} (h1 : Val (kInt .i64) F w v1 x1) {v2 : Value} {x2 : Int} (h2 : Val (kInt .i64) F w v2 x2) {v3 : Value} {x3 : Int} (h3 : Val (kInt .i64) F w v3 x3) {v4 : Value} {x4 : ByteArray} (h4 : Val kStr F w v4 x4) : Val k_Commit F w (.agg ((v0.cells.toList ++ (v1.cells.toList ++ (v2.cells.toList ++ (v3.cells.toList ++ v4.cells.toList))))).toArray) ⟨x0, x1, x2, x3, x4⟩ := ⟨_, (show k_Commit.rep F w _ _ from ⟨_, _, rfl, h0.cells, ⟨_, _, rfl, h1.cells, ⟨_, _, rfl, h2.cells, ⟨_, _, rfl, h3.cells, h4.cells⟩⟩⟩⟩), rfl⟩
def k_Fault : Kd Fault := kIso (kPair (kInt .i64) (kInt .i64)) (fun x => (x.Code, x.Index))
theorem fl_Fault_0 : Fld k_Fault 0 (kInt .i64) (fun x => x.Code) := Fld.iso _ (Fld.fst _ _)
theorem fs_Fault_0 : FldS k_Fault 0 (kInt .i64) (fun x y => { x with Code := y }) := FldS.iso _ (FldS.fst _ _) (fun _ _ => rfl)
theorem fl_Fault_1 : Fld k_Fault 1 (kInt .i64) (fun x => x.Index) := Fld.iso _ (Fld.snd _ (Fld.whole _))
theorem fs_Fault_1 : FldS k_Fault 1 (kInt .i64) (fun x y => { x with Index := y }) := FldS.iso _ (FldS.snd _ (FldS.whole _)) (fun _ _ => rfl)
theorem mk_Fault {F : BSet} {w : World} {v0 : Value} {x0 : Int} (h0 : Val (kInt .i64) F w v0 x0) {v1 : Value} {x1 : Int} (h1 : Val (kInt .i64) F w v1 x1) : Val k_Fault F w (.agg ((v0.cells.toList ++ v1.cells.toList)).toArray) ⟨x0, x1⟩ := ⟨_, (show k_Fault.rep F w _ _ from ⟨_, _, rfl, h0.cells, h1.cells⟩), rfl⟩
theorem plain_Fault : Plain k_Fault := plain_iso _ (plain_pair (plain_int _) (plain_int _))
theorem op_Fault {F : BSet} {w : World} {v : Value} {x : Fault} (h : Val k_Fault F w v x) : v = .agg #[.int .i64 x.Code, .int .i64 x.Index] := by
  obtain ⟨cs, hr, rfl⟩ := h
  obtain ⟨_, _, rfl, rfl, rfl⟩ := hr
  rfl
end Go.Fx
