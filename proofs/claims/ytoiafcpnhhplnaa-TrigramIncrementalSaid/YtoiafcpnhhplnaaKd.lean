/- Their kinds: how values of these structures lie in memory. -/
import Derived.Test.YtoiafcpnhhplnaaTy
namespace Go.Fx
set_option linter.unusedVariables false
def k_Posting : Kd Posting := kIso (kPair kStr (kSl (kInt .i64))) (fun x => (x.Gram, x.Texts))
theorem fl_Posting_0 : Fld k_Posting 0 kStr (fun x => x.Gram) := Fld.iso _ (Fld.fst _ _)
theorem fs_Posting_0 : FldS k_Posting 0 kStr (fun x y => { x with Gram := y }) := FldS.iso _ (FldS.fst _ _) (fun _ _ => rfl)
theorem fl_Posting_1 : Fld k_Posting 1 (kSl (kInt .i64)) (fun x => x.Texts) := Fld.iso _ (Fld.snd _ (Fld.whole _))
theorem fs_Posting_1 : FldS k_Posting 1 (kSl (kInt .i64)) (fun x y => { x with Texts := y }) := FldS.iso _ (FldS.snd _ (FldS.whole _)) (fun _ _ => rfl)
theorem mk_Posting {F : BSet} {w : World} {v0 : Value} {x0 : ByteArray} (h0 : Val kStr F w v0 x0) {v1 : Value} {x1 : (List Int)} (h1 : Val (kSl (kInt .i64)) F w v1 x1) : Val k_Posting F w (.agg ((v0.cells.toList ++ v1.cells.toList)).toArray) ⟨x0, x1⟩ := ⟨_, (show k_Posting.rep F w _ _ from ⟨_, _, rfl, h0.cells, h1.cells⟩), rfl⟩
def k_TrigramIndex : Kd TrigramIndex := kIso (kPair (kSl (kInt .i64)) (kSl k_Posting)) (fun x => (x.Texts, x.Postings))
theorem fl_TrigramIndex_0 : Fld k_TrigramIndex 0 (kSl (kInt .i64)) (fun x => x.Texts) := Fld.iso _ (Fld.fst _ _)
theorem fs_TrigramIndex_0 : FldS k_TrigramIndex 0 (kSl (kInt .i64)) (fun x y => { x with Texts := y }) := FldS.iso _ (FldS.fst _ _) (fun _ _ => rfl)
theorem fl_TrigramIndex_1 : Fld k_TrigramIndex 1 (kSl k_Posting) (fun x => x.Postings) := Fld.iso _ (Fld.snd _ (Fld.whole _))
theorem fs_TrigramIndex_1 : FldS k_TrigramIndex 1 (kSl k_Posting) (fun x y => { x with Postings := y }) := FldS.iso _ (FldS.snd _ (FldS.whole _)) (fun _ _ => rfl)
theorem mk_TrigramIndex {F : BSet} {w : World} {v0 : Value} {x0 : (List Int)} (h0 : Val (kSl (kInt .i64)) F w v0 x0) {v1 : Value} {x1 : (List Posting)} (h1 : Val (kSl k_Posting) F w v1 x1) : Val k_TrigramIndex F w (.agg ((v0.cells.toList ++ v1.cells.toList)).toArray) ⟨x0, x1⟩ := ⟨_, (show k_TrigramIndex.rep F w _ _ from ⟨_, _, rfl, h0.cells, h1.cells⟩), rfl⟩
def k_TrigramIndex_r : Kd TrigramIndex_r := kIso (kPair (kSl (kInt .i64)) kRaw) (fun x => (x.Texts, x.Postings))
theorem fl_TrigramIndex_r_0 : Fld k_TrigramIndex_r 0 (kSl (kInt .i64)) (fun x => x.Texts) := Fld.iso _ (Fld.fst _ _)
theorem fs_TrigramIndex_r_0 : FldS k_TrigramIndex_r 0 (kSl (kInt .i64)) (fun x y => { x with Texts := y }) := FldS.iso _ (FldS.fst _ _) (fun _ _ => rfl)
theorem fl_TrigramIndex_r_1 : Fld k_TrigramIndex_r 1 kRaw (fun x => x.Postings) := Fld.iso _ (Fld.snd _ (Fld.whole _))
theorem fs_TrigramIndex_r_1 : FldS k_TrigramIndex_r 1 kRaw (fun x y => { x with Postings := y }) := FldS.iso _ (FldS.snd _ (FldS.whole _)) (fun _ _ => rfl)
theorem mk_TrigramIndex_r {F : BSet} {w : World} {v0 : Value} {x0 : (List Int)} (h0 : Val (kSl (kInt .i64)) F w v0 x0) {v1 : Value} {x1 : Value} (h1 : Val kRaw F w v1 x1) : Val k_TrigramIndex_r F w (.agg ((v0.cells.toList ++ v1.cells.toList)).toArray) ⟨x0, x1⟩ := ⟨_, (show k_TrigramIndex_r.rep F w _ _ from ⟨_, _, rfl, h0.cells, h1.cells⟩), rfl⟩
def k_Fault : Kd Fault := kIso (kPair (kInt .i64) (kInt .i64)) (fun x => (x.Code, x.Index))
theorem fl_Fault_0 : Fld k_Fault 0 (kInt .i64) (fun x => x.Code) := Fld.iso _ (Fld.fst _ _)
theorem fs_Fault_0 : FldS k_Fault 0 (kInt .i64) (fun x y => { x with Code := y }) := FldS.iso _ (FldS.fst _ _) (fun _ _ => rfl)
theorem fl_Fault_1 : Fld k_Fault 1 (kInt .i64) (fun x => x.Index) := Fld.iso _ (Fld.snd _ (Fld.whole _))
theorem fs_Fault_1 : FldS k_Fault 1 (kInt .i64) (fun x y => { x with Index := y }) := FldS.iso _ (FldS.snd _ (FldS.whole _)) (fun _ _ => rfl)
theorem mk_Fault {F : BSet} {w : World} {v0 : Value} {x0 : Int} (h0 : Val (kInt .i64) F w v0 x0) {v1 : Value} {x1 : Int} (h1 : Val (kInt .i64) F w v1 x1) : Val k_Fault F w (.agg ((v0.cells.toList ++ v1.cells.toList)).toArray) ⟨x0, x1⟩ := ⟨_, (show k_Fault.rep F w _ _ from ⟨_, _, rfl, h0.cells, h1.cells⟩), rfl⟩
theorem plain_Fault : Plain k_Fault := plain_iso _ (plain_pair (plain_int _) (plain_int _))
theorem op_Fault {F : BSet} {w : World} {v : Value} {x : Fault} (h : Val k_Fault F w v x) : v = .agg #[.int .i64 x.Code, .int .i64 x.Index] := by
  obtain ⟨cs, hr, rfl⟩ := h
  obtain ⟨_, _, rfl, rfl, rfl⟩ := hr
  rfl
theorem opn_Posting {F : BSet} {w : World} {v : Value} {x : Posting} (h : Val k_Posting F w v x) : ∃ c0 : Value, v = .agg #[.string x.Gram, c0] := by
  obtain ⟨cs, hr, rfl⟩ := h
  obtain ⟨_, _, rfl, rfl, ⟨_, rfl, _⟩⟩ := hr
  exact ⟨_, rfl⟩
theorem opn_TrigramIndex {F : BSet} {w : World} {v : Value} {x : TrigramIndex} (h : Val k_TrigramIndex F w v x) : ∃ c0 c1 : Value, v = .agg #[c0, c1] := by
  obtain ⟨cs, hr, rfl⟩ := h
  obtain ⟨_, _, rfl, ⟨_, rfl, _⟩, ⟨_, rfl, _⟩⟩ := hr
  exact ⟨_, _, rfl⟩
theorem un_TrigramIndex {F : BSet} {w : World} {v : Value} {x0 : (List Int)} {c1 : Value} {x1 : (List Posting)} (h : Val k_TrigramIndex_r F w v ⟨x0, c1⟩) (h1 : SlR k_Posting F w c1 x1) : Val k_TrigramIndex F w v ⟨x0, x1⟩ := by
  obtain ⟨cs, hr, rfl⟩ := h
  obtain ⟨_, _, rfl, r0, ⟨rfl, _⟩⟩ := hr
  exact ⟨_, (show k_TrigramIndex.rep F w _ _ from ⟨_, _, rfl, r0, ⟨_, rfl, h1⟩⟩), rfl⟩
theorem opn_Fault {F : BSet} {w : World} {v : Value} {x : Fault} (h : Val k_Fault F w v x) : v = .agg #[.int .i64 x.Code, .int .i64 x.Index] := by
  obtain ⟨cs, hr, rfl⟩ := h
  obtain ⟨_, _, rfl, rfl, rfl⟩ := hr
  exact rfl
end Go.Fx
