/- The iterator strings.SplitSeq at a separator of one byte. -/
import Derived.Test.YtenkbkcddcnmeaaDoorSl
import Derived.Test.YtenkbkcddcnmeaaDoorFx17
namespace Go.Fx
open Go.RowKit
section
variable {P : Program} {d : Nat} {ops : Array Oper}
theorem in_yieldS {rd : Option Nat} {n : Nat} {rest : List Oper} {ρ : Env} {w : World} {dl : List Deferred} {a : Act} {Q : Exit → Act → World → Prop} {y l dst : Nat} {xs : List Operand} {tys : Array TypeId} {ty : TypeId} {pos : String} {after : Array Edge} {vs : List Value} {R : Ending → World → Prop}
    (hF : Fr dl n a ρ) (hy : ρ y = .func (.yield l) #[] #[]) (hx : xs.map (ev ρ) = vs) (hY : YieldAt Fence.wide 0 P l vs.toArray w R) (hb : ∀ e W', R e W' → ∃ b, e = .returned (.bool b))
    (k : ∀ b W', R (.returned (.bool b)) W' → wpListIn (wd rd) d P ops Q rest (a.put (some dst) (.bool b)) W') :
    wpListIn (wd rd) d P ops Q ({ dst := some dst, op := .call { callee := .value (.tmp y), args := xs.toArray, argTypes := tys }, type := ty, pos := pos, after := after, guard := none } :: rest) a w := by
  simp only [wpListIn]
  rw [if_pos (by rfl)]
  refine ⟨fun _ _ => trivial, ?_⟩
  obtain ⟨fn, tmps, assign, body, hr, hR⟩ := hY
  have hs : ({ dst := some dst, op := .call { callee := .value (.tmp y), args := xs.toArray, argTypes := tys }, type := ty, pos := pos, after := after, guard := none } : Oper).semAt (wd rd).round a.eval = execOp a.eval { dst := some dst, op := .call { callee := .value (.tmp y), args := xs.toArray, argTypes := tys }, type := ty, pos := pos, after := after, guard := none } := by
    cases rd with
    | none => simp only [Oper.semAt_none]
    | some r => exact Oper.semAt_some r _ _ (fun c e => by cases e)
  rw [hs, hF.eval]
  have hrun : (execOp (ev ρ) { dst := some dst, op := .call { callee := .value (.tmp y), args := xs.toArray, argTypes := tys }, type := ty, pos := pos, after := after, guard := none }).run P w = .ok (.round l fn tmps assign body) w := by
    have h0 : xs.toArray.map (ev ρ) = vs.toArray := by simp [hx]
    simp only [execOp, resolve, ev, hy, h0]
    simp [invoke, go_sem, hr]
  rw [hrun]
  refine ⟨fun e => by simp [Fence.wide] at e, ?_⟩
  refine RoundIn.mono (show RoundIn (wd rd) (d - 1) P l fn tmps assign body w _ from ⟨trivial, fun c cs _ => hR.2 c cs (room_wide _)⟩) ?_
  intro e w2 hj
  obtain ⟨b, rfl⟩ := hb e w2 hj
  exact k b w2 hj
end
end Go.Fx
namespace Go.Proofs.YtenkbkcddcnmeaaDoor
open Go.Fx Go.RowKit
set_option linter.unusedVariables false
set_option linter.unusedSimpArgs false
set_option maxRecDepth 20000
def relStr (F : BSet) (w : World) (vs : List Value) (it : ByteArray) : Prop := vs = [.string it]
theorem relStr.keep {F F' : BSet} {w w' : World} {vs : List Value} {it : ByteArray} (h : relStr F w vs it) (_ : Stp F w F' w') : relStr F' w' vs it := h
theorem relStr.len {F : BSet} {w : World} {vs : List Value} {it : ByteArray} (h : relStr F w vs it) : vs.length = [11].length := by rw [h]; rfl
def SplitIt (B F : BSet) (w : World) (v : Value) (parts : List ByteArray) : Prop := ∃ g s0 vss, Box kStr 9 B F w g s0 ∧ IterS Tryd.prog F w g v vss ∧ All2 (relStr F w) vss parts
theorem SplitIt.base {w0 w1 : World} {row : BSet} {F : BSet} {w : World} {v : Value} {parts : List ByteArray} (h : SplitIt (Nw w1) F w v parts) (hB : w0.heap.size ≤ w1.heap.size) : SplitIt (Bs w0 row) F w v parts := by
  obtain ⟨g, s0, vss, h1, h2, h3⟩ := h
  exact ⟨g, s0, vss, h1.base hB, h2, h3⟩
/-- The parts between the separators. -/
def partsL (c : UInt8) : List UInt8 → List (List UInt8)
  | [] => [[]]
  | b :: l => if b = c then [] :: partsL c l else match partsL c l with | [] => [[b]] | p :: ps => (b :: p) :: ps
theorem partsL_ne (c : UInt8) : ∀ l, partsL c l ≠ []
  | [] => by simp [partsL]
  | b :: l => by
    unfold partsL
    split
    · simp
    · split <;> simp
theorem partsL_eq (c : UInt8) (l : List UInt8) : partsL c (c :: l) = [] :: partsL c l := by rw [partsL, if_pos rfl]
theorem partsL_ner {c b : UInt8} (h : b ≠ c) (l : List UInt8) : partsL c (b :: l) = match partsL c l with | [] => [[b]] | p :: ps => (b :: p) :: ps := by rw [partsL, if_neg h]
theorem partsL_idx (c : UInt8) : ∀ l, (Lib.indexByte l c = -1 ∧ partsL c l = [l]) ∨ (∃ i : Nat, Lib.indexByte l c = i ∧ i < l.length ∧ partsL c l = l.take i :: partsL c (l.drop (i + 1)))
  | [] => .inl ⟨rfl, rfl⟩
  | b :: l => by
    by_cases h : b = c
    · subst h
      exact .inr ⟨0, by unfold Lib.indexByte; rw [if_pos (by simp)]; rfl, by simp, by rw [partsL_eq]; simp⟩
    · rw [partsL_ner h]
      unfold Lib.indexByte
      rw [if_neg (by simpa using h)]
      rcases partsL_idx c l with ⟨h1, h2⟩ | ⟨i, h1, h2, h3⟩
      · exact .inl ⟨by rw [h1]; rfl, by rw [h2]⟩
      · refine .inr ⟨i + 1, ?_, by simpa using h2, ?_⟩
        · rw [h1, if_neg (by simp)]; try omega
        · rw [h3]; simp
theorem strOf_bytesOf (s : ByteArray) : strOf (bytesOf s) = s := by simp [strOf, bytesOf]
theorem bytesOf_extract (t : ByteArray) (i j : Nat) : bytesOf (t.extract i j) = ((bytesOf t).drop i).take (j - i) := by
  unfold bytesOf
  rw [ByteArray.data_extract, Array.toList_extract]
theorem bytesOf_len (s : ByteArray) : (bytesOf s).length = s.size := Array.length_toList
theorem fnI_93 : FnOk Tryd.prog 93 := ⟨_, Tryd.func93, by kernel_rfl, by kernel_rfl⟩
theorem fnI_105 : FnOk Tryd.prog 105 := ⟨_, Tryd.func105, by kernel_rfl, by kernel_rfl⟩
theorem fnI_91 : FnOk Tryd.prog 91 := ⟨_, Tryd.func91, by kernel_rfl, by kernel_rfl⟩
theorem tyI_9 : TyOk Tryd.prog 9 kStr := ⟨by kernel_rfl, by kernel_rfl⟩
theorem tyI_3 : TyOk Tryd.prog 3 (kInt .i64) := ⟨by kernel_rfl, by kernel_rfl⟩
abbrev SAt (W : World) (g : Nat) (s : ByteArray) : Prop := W.heap[g]? = some (.cells #[.string s] 9 (0, 0))
theorem SAt.box {W : World} {g : Nat} {s : ByteArray} {F : BSet} {B : BSet} (h : SAt W g s) (hB : B g) (hF : ¬ F g) : Box kStr 9 B F W g s := ⟨[.string s], h, rfl, hB, hF⟩
def strM (W : World) (g : Nat) : Nat := match W.heap[g]? with | some (.cells c _ _) => (match c[0]? with | some (Value.string s) => s.size | _ => 0) | _ => 0
theorem SAt.m {W : World} {g : Nat} {s : ByteArray} (h : SAt W g s) : strM W g = s.size := by
  unfold strM
  rw [show W.heap[g]? = _ from h]
  rfl
set_option maxHeartbeats 1600000 in
theorem split_item {w : World} {F : BSet} (hok : ∀ b, F b → b < w.heap.size) {gp gs gq : Nat} {s0 : ByteArray} (hs0 : s0.size ≤ 100000) (hp : Lies kStr F w gp 0 ⟨#[47]⟩) (hq : Lies (kInt .i64) F w gq 0 0) (hs : SAt w gs s0) (hFs : ¬ F gs) :
    IterS Tryd.prog F w gs (.func (.func 105) #[] #[.pointer (some ⟨gp, 0, none⟩), .pointer (some ⟨gs, 0, none⟩), .pointer (some ⟨gq, 0, none⟩)]) ((partsL 47 (bytesOf s0)).map fun p => [.string (strOf p)]) := by
  refine ⟨105, _, rfl, fun args w => ?_, ⟨_, hs, rfl⟩, hFs, ?_⟩
  · obtain ⟨fn, hfn, hname, hbody⟩ := fnI_105.ok
    rw [callFunc, Sem.run_bind, run_program, Result.andThen_ok]
    simp only [hfn, hname, hbody, Bool.false_eq_true, if_false]
    rfl
  intro W hW hWg l J Jx hJ hD hDx hO hY h0
  refine callsIn_of_wp (F := Fence.wide) (n := 0) Tryd.func105 rfl trivial ?_
  have hF := Fr.start (#[Value.func (.yield l) #[] #[]] ++ #[.pointer (some ⟨gp, 0, none⟩), .pointer (some ⟨gs, 0, none⟩), .pointer (some ⟨gq, 0, none⟩)]) 52 (by simp)
  have rok : ∀ W1, Stp F w F W1 → ∀ b, F b → b < W1.heap.size := fun W1 s b hb => by
    have h1 := s.keep b hb
    have h2 := hok b hb
    have h3 : W1.heap[b]? ≠ none := by rw [h1, Array.getElem?_eq_getElem h2]; simp
    exact Classical.byContradiction fun h => h3 (Array.getElem?_eq_none (by omega))
  refine wpIn_seq (wpIn_seq ?_)
  refine wp_reg (rd := none) (fun ρ w' => ρ 0 = .func (.yield l) #[] #[] ∧ ρ 1 = .pointer (some ⟨gp, 0, none⟩) ∧ ρ 2 = .pointer (some ⟨gs, 0, none⟩) ∧ ρ 3 = .pointer (some ⟨gq, 0, none⟩) ∧ ρ 11 = .bool false ∧ w' = W) (by rfl) ?_ hF (by rintro ⟨a, w, ⟨u, hu⟩, _⟩; cases hu) ?_
  · refine ol_v (e_ld tyI_9 (LiesV.str (hp.keep hW).at_) rfl) rfl ?_
    refine ol_v (e_lenS (by kernel_rfl) rfl) rfl ?_
    refine ol_v (e_eql rfl rfl) rfl ?_
    exact ol_nil ⟨rfl, rfl, rfl, rfl, rfl, rfl⟩
  rintro ρ0 w0 a0 ⟨hy0, hp0, hs0', hq0, hb0, rfl⟩ hF0
  refine wpIn_cond_false (by rw [hF0.eval]; exact hb0) (wpIn_skip ?_)
  refine wpIn_seq (wpIn_block ?_)
  refine wpIn_loop (fun a W1 => ∃ (ρ : Env) (k : Nat) (s : ByteArray), Fr [] 52 a ρ ∧ ρ 0 = .func (.yield l) #[] #[] ∧ ρ 1 = .pointer (some ⟨gp, 0, none⟩) ∧ ρ 2 = .pointer (some ⟨gs, 0, none⟩) ∧ ρ 3 = .pointer (some ⟨gq, 0, none⟩) ∧ J k W1 ∧ SAt W1 gs s ∧ s.size ≤ 100000 ∧ (partsL 47 (bytesOf s0)).drop k = partsL 47 (bytesOf s))
    (fun _ W1 => strM W1 gs) ⟨ρ0, 0, s0, hF0, hy0, hp0, hs0', hq0, h0, hWg.trans hs, hs0, rfl⟩ ?_
  rintro a W1 ⟨ρ, k, s, hFr, hy, hp1, hs1, hq1, hJk, hS, hsz, hdr⟩
  have st := hJ k W1 hJk
  have ok1 := rok W1 st
  have hbx : Box kStr 9 (Bs W1 (ob (some gs))) F W1 gs s := hS.box (.inr rfl) hFs
  have hlen := bytesOf_len s
  refine wpIn_block ?_
  refine wpIn_seq ?_
  obtain ⟨i, hi⟩ : ∃ i, Lib.indexByte (bytesOf s) 47 = i := ⟨_, rfl⟩
  refine wp_reg (rd := none) (fun ρ' w' => ρ' 0 = .func (.yield l) #[] #[] ∧ ρ' 1 = .pointer (some ⟨gp, 0, none⟩) ∧ ρ' 2 = .pointer (some ⟨gs, 0, none⟩) ∧ ρ' 3 = .pointer (some ⟨gq, 0, none⟩) ∧ ρ' 7 = .int .i64 i ∧ w' = W1) (by rfl) ?_ hFr (by rintro ⟨a, w, ⟨u, hu⟩, _⟩; cases hu) ?_
  · refine ol_v (e_ld tyI_9 (LiesV.str hbx.at_) hs1) rfl ?_
    refine ol_v (e_ld tyI_9 (LiesV.str (hp.keep st).at_) hp1) rfl ?_
    refine ol_e (f_call [.string s, .string ⟨#[47]⟩] fnI_93 rfl ((show Calls Tryd.prog 93 _ W1 _ from Any.strings_Index_one Tryd.layIdx s 47 W1).mono (R' := fun e w' => ∃ v, e = .returned v ∧ (v = .int .i64 i ∧ w' = W1)) (by rintro e w' ⟨rfl, rfl⟩; exact ⟨_, rfl, by rw [← hi]; rfl, rfl⟩))) rfl rfl ?_
    rintro v w' ⟨rfl, rfl⟩
    refine ol_v (e_as _ rfl) rfl ?_
    exact ol_nil ⟨hy, hp1, hs1, hq1, rfl, rfl⟩
  rintro ρ1 w1 a1 ⟨hy1, hp1, hs1, hq1, hi1, rfl⟩ hF1
  refine wpIn_seq (wpIn_seq ?_)
  refine wp_reg (rd := none) (fun ρ' w' => ρ' 0 = .func (.yield l) #[] #[] ∧ ρ' 1 = .pointer (some ⟨gp, 0, none⟩) ∧ ρ' 2 = .pointer (some ⟨gs, 0, none⟩) ∧ ρ' 3 = .pointer (some ⟨gq, 0, none⟩) ∧ ρ' 7 = .int .i64 i ∧ ρ' 33 = .bool (decide (i < 0)) ∧ w' = w1) (by rfl) ?_ hF1 (by rintro ⟨a, w, ⟨u, hu⟩, _⟩; cases hu) ?_
  · refine ol_v (e_mv _ hi1) rfl ?_
    refine ol_v (e_lss rfl rfl) rfl ?_
    exact ol_nil ⟨hy1, hp1, hs1, hq1, hi1, rfl, rfl⟩
  rintro ρ2 w2 a2 ⟨hy2, hp2, hs2, hq2, hi2, hb2, rfl⟩ hF2
  rcases partsL_idx 47 (bytesOf s) with ⟨e1, e2⟩ | ⟨m, e1, e2, e3⟩
  · -- the last part
    obtain rfl : i = -1 := hi.symm.trans e1
    refine wpIn_cond_true (by rw [hF2.eval]; exact hb2) (wpIn_exit ?_)
    simp only [Exit.then, Exit.inBlock, if_true]
    have hnk : (partsL 47 (bytesOf s0))[k]? = some (bytesOf s) := by
      have : ((partsL 47 (bytesOf s0)).drop k)[0]? = some (bytesOf s) := by rw [hdr, e2]; rfl
      simpa using this
    have hkl : (partsL 47 (bytesOf s0)).length = k + 1 := by
      have h1 := congrArg List.length hdr
      rw [e2, List.length_drop, List.length_singleton] at h1
      omega
    have hnk' : ((partsL 47 (bytesOf s0)).map fun p => [Value.string (strOf p)])[k]? = some [.string s] := by rw [List.getElem?_map, hnk]; simp [strOf_bytesOf]
    refine wpIn_region_lit (l := [_, _, _]) ?_
    refine ol_part (rd := none) (l1 := [_, _]) (l2 := [_]) (fun ρ' w' => ρ' 49 = .func (.yield l) #[] #[] ∧ ρ' 50 = .string s ∧ w' = w2) (by rfl) ?_ hF2 (by rintro ⟨a, w, ⟨u, hu⟩, _⟩; cases hu) ?_
    · refine ol_v (e_mv _ hy2) rfl ?_
      refine ol_v (e_ld tyI_9 (LiesV.str hbx.at_) hs2) rfl ?_
      exact ol_nil ⟨rfl, rfl, rfl⟩
    rintro ρ3 w3 a3 ⟨hyy, hss, rfl⟩ hF3
    refine in_yieldS (vs := [.string s]) hF3 hyy (by simp [ev, hss]) (hY k _ w3 hnk' hJk) (by rintro e W' (⟨rfl, _⟩ | ⟨rfl, _⟩) <;> exact ⟨_, rfl⟩) ?_
    intro b W2 hR
    refine wpListIn_nil ?_
    have hF4 := hF3.put 51 (.bool b) rfl
    refine ⟨hF4.defers, _, (by simp [results, Tryd.f105] : (results Tryd.f105 _).run Tryd.prog W2 = .ok (.tuple #[]) W2), ⟨_, rfl⟩, ?_⟩
    rw [List.length_map, hkl]
    rcases hR with ⟨_, h, _⟩ | ⟨_, h⟩
    · exact .inl h
    · exact .inr h
  · -- one more
    obtain rfl : i = (m : Int) := hi.symm.trans e1
    have hd : decide ((m : Int) < 0) = false := by rw [decide_eq_false_iff_not]; omega
    rw [hd] at hb2
    refine wpIn_cond_false (by rw [hF2.eval]; exact hb2) (wpIn_skip ?_)
    have hnk : (partsL 47 (bytesOf s0))[k]? = some ((bytesOf s).take m) := by
      have : ((partsL 47 (bytesOf s0)).drop k)[0]? = some ((bytesOf s).take m) := by rw [hdr, e3]; rfl
      simpa using this
    have hdr2 : (partsL 47 (bytesOf s0)).drop (k + 1) = partsL 47 ((bytesOf s).drop (m + 1)) := by
      rw [← List.drop_drop, hdr, e3]; rfl
    have hms : m < s.size := by omega
    have hx1 : bytesOf (s.extract 0 m) = (bytesOf s).take m := by rw [bytesOf_extract, List.drop_zero, Nat.sub_zero]
    have hx2 : bytesOf (s.extract (m + 1) s.size) = (bytesOf s).drop (m + 1) := by
      rw [bytesOf_extract, List.take_of_length_le (by rw [List.length_drop]; omega)]
    have hc1 : cutS s 0 (w64 ((m : Int) + 0)) = some (s.extract 0 m) := by
      rw [w64_id (by omega) (by omega)]
      unfold cutS; rw [if_pos ⟨by omega, by omega, by omega⟩]
      simp
    have hc2 : cutS s (w64 ((m : Int) + ((⟨#[47]⟩ : ByteArray).size : Int))) (s.size : Int) = some (s.extract (m + 1) s.size) := by
      rw [show ((⟨#[47]⟩ : ByteArray).size : Int) = 1 from rfl, w64_id (by omega) (by omega)]
      unfold cutS; rw [if_pos ⟨by omega, by omega, by omega⟩]
      rfl
    have hnk' : ((partsL 47 (bytesOf s0)).map fun p => [Value.string (strOf p)])[k]? = some [.string (s.extract 0 m)] := by
      rw [List.getElem?_map, hnk, ← hx1]; simp [strOf_bytesOf]
    refine wpIn_seq ?_
    refine wp_reg (rd := none) (fun ρ' w' => ρ' 0 = .func (.yield l) #[] #[] ∧ ρ' 1 = .pointer (some ⟨gp, 0, none⟩) ∧ ρ' 2 = .pointer (some ⟨gs, 0, none⟩) ∧ ρ' 3 = .pointer (some ⟨gq, 0, none⟩) ∧ ρ' 7 = .int .i64 (m : Int) ∧ ρ' 8 = .string (s.extract 0 m) ∧ w' = w2) (by rfl) ?_ hF2 (by rintro ⟨a, w, ⟨u, hu⟩, _⟩; cases hu) ?_
    · refine ol_v (e_ld tyI_9 (LiesV.str hbx.at_) hs2) rfl ?_
      refine ol_v (e_mv _ hi2) rfl ?_
      refine ol_v (e_ld tyI_3 (LiesV.int (hq.keep st).at_) hq2) rfl ?_
      refine ol_v (e_add rfl rfl) rfl ?_
      refine ol_v (e_cutSH (by kernel_rfl) rfl rfl hc1) rfl ?_
      refine ol_v (e_as _ rfl) rfl ?_
      exact ol_nil ⟨hy2, hp2, hs2, hq2, hi2, rfl, rfl⟩
    rintro ρ3 w3 a3 ⟨hy3, hp3, hs3, hq3, hi3, h83, rfl⟩ hF3
    refine wpIn_seq (wpIn_seq ?_)
    refine wpIn_region_lit (l := [_, _, _, _]) ?_
    refine ol_part (rd := none) (l1 := [_, _]) (l2 := [_, _]) (fun ρ' w' => ρ' 0 = .func (.yield l) #[] #[] ∧ ρ' 1 = .pointer (some ⟨gp, 0, none⟩) ∧ ρ' 2 = .pointer (some ⟨gs, 0, none⟩) ∧ ρ' 3 = .pointer (some ⟨gq, 0, none⟩) ∧ ρ' 7 = .int .i64 (m : Int) ∧ ρ' 39 = .func (.yield l) #[] #[] ∧ ρ' 40 = .string (s.extract 0 m) ∧ w' = w3) (by rfl) ?_ hF3 (by rintro ⟨a, w, ⟨u, hu⟩, _⟩; cases hu) ?_
    · refine ol_v (e_mv _ hy3) rfl ?_
      refine ol_v (e_mv _ h83) rfl ?_
      exact ol_nil ⟨hy3, hp3, hs3, hq3, hi3, rfl, rfl, rfl⟩
    rintro ρ4 w4 a4 ⟨hy4, hp4, hs4, hq4, hi4, hyy, hss, rfl⟩ hF4
    refine in_yieldS (vs := [.string (s.extract 0 m)]) hF4 hyy (by simp [ev, hss]) (hY k _ w4 hnk' hJk) (by rintro e W' (⟨rfl, _⟩ | ⟨rfl, _⟩) <;> exact ⟨_, rfl⟩) ?_
    intro b W2 hR
    have hF5 := hF4.put 41 (.bool b) rfl
    refine ol_part (rd := none) (l1 := [_]) (l2 := []) (fun ρ' w' => ρ' 0 = .func (.yield l) #[] #[] ∧ ρ' 1 = .pointer (some ⟨gp, 0, none⟩) ∧ ρ' 2 = .pointer (some ⟨gs, 0, none⟩) ∧ ρ' 3 = .pointer (some ⟨gq, 0, none⟩) ∧ ρ' 7 = .int .i64 (m : Int) ∧ ρ' 42 = .bool (!b) ∧ w' = W2) (by rfl) ?_ hF5 (by rintro ⟨a, w, ⟨u, hu⟩, _⟩; cases hu) ?_
    · refine ol_v (e_not_ rfl) rfl ?_
      exact ol_nil ⟨hy4, hp4, hs4, hq4, hi4, rfl, rfl⟩
    rintro ρ6 w6 a6 ⟨hy6, hp6, hs6, hq6, hi6, hb6, rfl⟩ hF6
    refine wpListIn_nil ?_
    rcases hR with ⟨hbt, hJ2, hg2⟩ | ⟨hbf, hJx2⟩
    · obtain rfl : b = true := by simpa using hbt
      refine wpIn_cond_false (by rw [hF6.eval]; exact hb6) (wpIn_skip ?_)
      have st2 := hJ _ _ hJ2
      have ok2 := rok w6 st2
      have hS2 : SAt w6 gs s := hg2.trans hS
      have hbx2 : Box kStr 9 (Bs w6 (ob (some gs))) F w6 gs s := hS2.box (.inr rfl) hFs
      refine wp_reg (rd := none) (fun ρ' w' => ρ' 0 = .func (.yield l) #[] #[] ∧ ρ' 1 = .pointer (some ⟨gp, 0, none⟩) ∧ ρ' 2 = .pointer (some ⟨gs, 0, none⟩) ∧ ρ' 3 = .pointer (some ⟨gq, 0, none⟩) ∧ w6.grownBy w' (some gs) ∧ Box kStr 9 (Bs w6 (ob (some gs))) F w' gs (s.extract (m + 1) s.size)) (by rfl) ?_ hF6 (by rintro ⟨a, w, ⟨u, hu⟩, _⟩; cases hu) ?_
      · refine ol_v (e_ld tyI_9 (LiesV.str hbx2.at_) hs6) rfl ?_
        refine ol_v (e_mv _ hi6) rfl ?_
        refine ol_v (e_ld tyI_9 (LiesV.str (hp.keep st2).at_) hp6) rfl ?_
        refine ol_v (e_lenS (by kernel_rfl) rfl) rfl ?_
        refine ol_v (e_add rfl rfl) rfl ?_
        refine ol_v (e_cutSL (by kernel_rfl) rfl rfl hc2) rfl ?_
        refine ol_eN (f_stB (Wk.refl (row := ob (some gs)) ok2) hbx2 (FldS.whole _) tyI_9 (val_str _) hs6 rfl) rfl ?_
        rintro - w' ⟨_, hbx3, hgr, _⟩
        exact ol_nil ⟨hy6, hp6, hs6, hq6, hgr, hbx3⟩
      rintro ρ7 w7 a7 ⟨hy7, hp7, hs7, hq7, hgr, hbx3⟩ hF7
      obtain ⟨cs, hh, hrep, _, _⟩ := hbx3
      obtain rfl : cs = [.string (s.extract (m + 1) s.size)] := hrep
      have hS3 : SAt w7 gs (s.extract (m + 1) s.size) := hh
      have hsz3 : (s.extract (m + 1) s.size).size < s.size := by
        rw [← bytesOf_len, hx2, List.length_drop]; omega
      refine ⟨⟨ρ7, k + 1, _, hF7, hy7, hp7, hs7, hq7, hO _ _ _ hJ2 hgr ⟨_, hS3, rfl⟩, hS3, by omega, by rw [hdr2, hx2]⟩, ?_⟩
      rw [hS3.m, hS.m]
      exact hsz3
    · obtain rfl : b = false := by simpa using hbf
      refine wpIn_cond_true (by rw [hF6.eval]; exact hb6) (wpIn_ret ?_)
      simp only [Exit.then, Exit.inBlock]
      exact ⟨hF6.defers, _, (by simp [results, Tryd.f105] : (results Tryd.f105 _).run Tryd.prog w6 = .ok (.tuple #[]) w6), ⟨_, rfl⟩, .inr hJx2⟩
namespace SplitSeq
def f (s sep : ByteArray) : Option (List ByteArray) := if s.size ≤ 100000 ∧ sep = ⟨#[47]⟩ then some ((partsL 47 (bytesOf s)).map strOf) else none
def post (w : World) (F : BSet) (r : List ByteArray) (v : Value) (w' : World) : Prop := ∃ (F' : BSet) (v0' : Value), v = v0' ∧ Wk nrow w F F' w' ∧ SplitIt (Nw w) F' w' v0' r
theorem fn65 : FnOk Tryd.prog 65 := ⟨_, Tryd.func65, by kernel_rfl, by kernel_rfl⟩
abbrev mid (w : World) (F : BSet) (s sep : ByteArray) (v : Value) (w1 : World) : Prop := ∃ gp gs gq, v = .func (.func 105) #[] #[.pointer (some ⟨gp, 0, none⟩), .pointer (some ⟨gs, 0, none⟩), .pointer (some ⟨gq, 0, none⟩)] ∧ Wk nrow w F F w1 ∧ Box kStr 9 (Nw w) F w1 gp sep ∧ Box kStr 9 (Nw w) F w1 gs s ∧ Box (kInt .i64) 3 (Nw w) F w1 gq 0 ∧ gs < gp ∧ gp < gq
theorem calls91 {w : World} {F : BSet} (hok : ∀ b, F b → b < w.heap.size) (s sep : ByteArray) : Calls Tryd.prog 91 #[.string s, .string sep, .int .i64 0] w fun e w' => ∃ v, e = .returned v ∧ mid w F s sep v w' := by
  obtain ⟨c, hc, href⟩ : ∃ c, Tryd.f91.body = some c ∧ Ref Tryd.prog 8 c (fun (_ : Unit) ρ w1 => ρ 0 = .string s ∧ ρ 1 = .string sep ∧ ρ 2 = .int .i64 0 ∧ w1 = w) (seqM (regM fun s => some s) (seqM (regM fun s => some s) (retM fun _ => ()))) (fun _ _ _ => False) (fun _ _ _ _ => False)
      (fun (_ : Unit) ρ w1 => mid w F s sep (ρ 6) w1) := by
    refine ⟨_, rfl, ?_⟩
    refine Ref.seq (B := fun _ ρ w1 => ∃ gp gs gq, ρ 4 = .pointer (some ⟨gp, 0, none⟩) ∧ ρ 3 = .pointer (some ⟨gs, 0, none⟩) ∧ ρ 5 = .pointer (some ⟨gq, 0, none⟩) ∧ Wk nrow w F F w1 ∧ Box kStr 9 (Nw w) F w1 gp sep ∧ Box kStr 9 (Nw w) F w1 gs s ∧ Box (kInt .i64) 3 (Nw w) F w1 gq 0 ∧ gs < gp ∧ gp < gq) ?_ (Ref.seq (B := fun _ ρ w1 => mid w F s sep (ρ 6) w1) ?_ (Ref.ret (fun s ρ w h => h)))
    · refine Ref.region (fun s ρ w1 s' h hr => ?_)
      obtain ⟨hs, hp, hq, rfl⟩ := h
      refine ol_e (f_box (k := kStr) (Wk.refl (row := nrow) hok) hs (val_str _)) rfl rfl ?_
      rintro _ w2 ⟨gs, rfl, hW2, hB2⟩
      refine ol_e (f_box (k := kStr) hW2 hp (val_str _)) rfl rfl ?_
      rintro _ w3 ⟨gp, rfl, hW3, hB3⟩
      refine ol_e (f_box (k := kInt .i64) (hW2.trans hW3) hq (val_int .i64 _)) rfl rfl ?_
      rintro _ w4 ⟨gq, rfl, hW4, hB4⟩
      refine ol_v (e_as _ rfl) rfl ?_
      have h23 : gs < gp := Nat.lt_of_lt_of_le hB2.lt hB3.ge
      have h34 : gp < gq := Nat.lt_of_lt_of_le hB3.lt hB4.ge
      exact ol_nil ⟨gp, gs, gq, rfl, rfl, rfl, (hW2.trans hW3).trans hW4, (hB3.wk hW4 hW3.ok).rebase (Nat.le_trans hW2.le hB3.ge), (hB2.wk hW3 hW2.ok).wk hW4 hW3.ok, hB4.rebase (Nat.le_trans (hW2.trans hW3).le hB4.ge), h23, h34⟩
    · refine Ref.region (fun s ρ w1 s' h hr => ?_)
      obtain ⟨gp, gs, gq, h4, h3, h5, hrest⟩ := h
      refine ol_v (e_mkf (us := []) (vs := [.pointer (some ⟨gp, 0, none⟩), .pointer (some ⟨gs, 0, none⟩), .pointer (some ⟨gq, 0, none⟩)]) rfl (by simp [ev, h3, h4, h5])) rfl ?_
      refine ol_v (e_as _ rfl) rfl ?_
      exact ol_nil ⟨gp, gs, gq, rfl, hrest⟩
  refine calls_of_ref (args := [.string s, .string sep, .int .i64 0]) () Tryd.func91 hc rfl rfl href ⟨rfl, rfl, rfl, rfl⟩ rfl ?_
  rintro ρ w' a h hF
  exact ⟨_, run_results (rs := [.tmp 6]) rfl hF (vs := [ρ 6]) ⟨_, rfl, rfl⟩, h⟩
theorem all2_strs (F : BSet) (w : World) : ∀ ps : List (List UInt8), All2 (relStr F w) (ps.map fun p => [.string (strOf p)]) (ps.map strOf)
  | [] => trivial
  | _ :: ps => ⟨rfl, all2_strs F w ps⟩
theorem calls {w : World} {F : BSet} (hok : ∀ b, F b → b < w.heap.size) (a0 a1 : ByteArray) {r : List ByteArray} (hf : f a0 a1 = some r) : Calls Tryd.prog 65 #[.string a0, .string a1] w fun e w' => ∃ v, e = .returned v ∧ post w F r v w' := by
  obtain ⟨⟨hn, rfl⟩, rfl⟩ : (a0.size ≤ 100000 ∧ a1 = ⟨#[47]⟩) ∧ (partsL 47 (bytesOf a0)).map strOf = r := by
    unfold f at hf
    split at hf
    · exact ⟨by assumption, Option.some.inj hf⟩
    · cases hf
  obtain ⟨c, hc, href⟩ : ∃ c, Tryd.f65.body = some c ∧ Ref Tryd.prog 8 c (fun (_ : Unit) ρ w1 => ρ 0 = .string a0 ∧ ρ 1 = .string ⟨#[47]⟩ ∧ w1 = w) (seqM (regM fun s => some s) (seqM (regM fun s => some s) (retM fun _ => ()))) (fun _ _ _ => False) (fun _ _ _ _ => False)
      (fun (_ : Unit) ρ w1 => mid w F a0 ⟨#[47]⟩ (ρ 4) w1) := by
    refine ⟨_, rfl, ?_⟩
    refine Ref.seq (B := fun _ ρ w1 => ρ 0 = .string a0 ∧ ρ 1 = .string ⟨#[47]⟩ ∧ w1 = w) ?_ (Ref.seq (B := fun _ ρ w1 => mid w F a0 ⟨#[47]⟩ (ρ 4) w1) ?_ (Ref.ret (fun s ρ w h => h)))
    · refine Ref.region (fun s ρ w1 s' h hr => ?_)
      refine ol_v (e_as _ rfl) rfl ?_
      exact ol_nil h
    · refine Ref.region (fun s ρ w1 s' h hr => ?_)
      obtain ⟨h0, h1, rfl⟩ := h
      refine ol_v (e_mv _ h0) rfl ?_
      refine ol_v (e_mv _ h1) rfl ?_
      refine ol_e (f_call [.string a0, .string ⟨#[47]⟩, .int .i64 0] fnI_91 rfl (calls91 hok a0 ⟨#[47]⟩)) rfl rfl ?_
      rintro v w2 h
      refine ol_v (e_as _ rfl) rfl ?_
      exact ol_nil h
  refine calls_of_ref (args := [.string a0, .string ⟨#[47]⟩]) () Tryd.func65 hc rfl rfl href ⟨rfl, rfl, rfl⟩ rfl ?_
  rintro ρ w' a ⟨gp, gs, gq, hρ, hW, hBp, hBs, hBq, h1, h2⟩ hF
  let F1 := fadd (fadd F gp) gq
  have hs : Stp F w' F1 w' := (Stp.fadd _ _ _).trans (Stp.fadd _ _ _)
  have hok1 : ∀ b, F1 b → b < w'.heap.size := by
    intro b hb
    rcases hb with (hb | rfl) | rfl
    · exact hW.ok b hb
    · exact hBp.lt
    · exact hBq.lt
  have hFs : ¬ F1 gs := by
    intro hb
    rcases hb with (hb | hb) | hb
    · exact hBs.nF hb
    · omega
    · omega
  have hS : SAt w' gs a0 := by obtain ⟨cs, hh, hrep, _, _⟩ := hBs; obtain rfl : cs = [.string a0] := hrep; exact hh
  have hI := split_item hok1 hn ⟨.inl (.inr rfl), LiesAt.same hBp.at_ hs rfl⟩ ⟨.inr rfl, LiesAt.same hBq.at_ hs rfl⟩ hS hFs
  refine ⟨_, run_results (rs := [.tmp 4]) rfl hF (vs := [ρ 4]) ⟨_, rfl, rfl⟩, F1, ρ 4, rfl, ?_, ?_⟩
  · refine ⟨hW.os, hW.tape, hW.output, hW.le, hW.block, hok1, fun b hb => .inl (.inl hb), fun b hb hF => ?_⟩
    rcases hF with (hF | rfl) | rfl
    · exact hF
    · exact absurd (show w.heap.size ≤ b from hBp.ge) (by omega)
    · exact absurd (show w.heap.size ≤ b from hBq.ge) (by omega)
  · rw [hρ]
    exact ⟨gs, a0, _, ⟨[.string a0], hS, rfl, hBs.ge, hFs⟩, hI, all2_strs _ _ _⟩
end SplitSeq
end Go.Proofs.YtenkbkcddcnmeaaDoor
