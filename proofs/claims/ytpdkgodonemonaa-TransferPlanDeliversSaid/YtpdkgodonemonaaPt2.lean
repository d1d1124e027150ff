/- A transfer's event, as the program performs it. -/
import Derived.Test.YtpdkgodonemonaaPt1
namespace Go.Proofs.Ytpdkgodonemonaa
open Go.Fx
set_option linter.unusedVariables false
set_option linter.unusedSimpArgs false

def lway (L : Transfer_link) (e : LinkEvent) : List Int := if e.Kind = 5 ∨ e.Kind = 6 then L.acks else L.sent
/-- What an event is answered with. -/
def lcode (L : Transfer_link) (e : LinkEvent) : Int :=
  if e.Kind < 1 ∨ 6 < e.Kind then 4 else if e.Kind = 1 ∧ ¬ e.N = 0 then 5 else if e.Kind = 1 ∧ L.acked = (L.frames.length : Int) then 11
  else if ¬ e.Kind = 1 ∧ (e.N < 0 ∨ ((lway L e).length : Int) ≤ e.N) then 6 else 0
def cntUp (L : Transfer_link) (n : Nat) : Int := if L.sent.getD n 0 = L.count then L.count + 1 else L.count
/-- What it leads to. -/
def lnext (L : Transfer_link) (e : LinkEvent) : Transfer_link :=
  if e.Kind = 1 then { L with sent := L.sent ++ [L.acked] }
  else if e.Kind = 2 then { L with sent := L.sent.eraseIdx e.N.toNat, acks := L.acks ++ [cntUp L e.N.toNat], count := cntUp L e.N.toNat }
  else if e.Kind = 4 then { L with sent := L.sent ++ [L.sent.getD e.N.toNat 0] }
  else if e.Kind = 5 then { L with acks := L.acks.eraseIdx e.N.toNat, acked := max L.acked (L.acks.getD e.N.toNat 0) }
  else if e.Kind = 6 then { L with acks := L.acks.eraseIdx e.N.toNat }
  else { L with sent := L.sent.eraseIdx e.N.toNat }

theorem take_eq {xs : List Int} {n : Int} (h0 : 0 ≤ n) (h1 : n < xs.length) (hb : xs.length ≤ 1000) : take.f xs n = some (xs.getD n.toNat 0, xs.eraseIdx n.toNat) := by
  obtain ⟨i, rfl⟩ : ∃ i : Nat, n = i := ⟨n.toNat, by omega⟩
  have hi : i < xs.length := by omega
  have e : w64 ((i : Int) + 1) = ((i + 1 : Nat) : Int) := w64_succ (by omega)
  unfold take.f Delete.f
  rw [idx_nat' hi, Option.bind_some, e, if_pos ⟨by omega, by omega, by omega⟩, Option.bind_some]
  simp only [Int.toNat_natCast]
  rw [List.eraseIdx_eq_take_drop_succ, List.getD_eq_getElem?_getD, List.getElem?_eq_getElem hi]
  rfl
theorem app1 {xs : List Int} {x : Int} (hb : xs.length ≤ 1000) : appL 8 xs [x] = some (xs ++ [x]) := appL_of (by simp only [List.length_cons, List.length_nil]; omega)
theorem idx_getD {xs : List Int} {n : Int} (h0 : 0 ≤ n) (h1 : n < xs.length) : idx xs n = some (xs.getD n.toNat 0) := by
  obtain ⟨i, rfl⟩ : ∃ i : Nat, n = i := ⟨n.toNat, by omega⟩
  rw [idx_nat' (by omega), Int.toNat_natCast, List.getD_eq_getElem?_getD, List.getElem?_eq_getElem (by omega)]
  rfl

/-- How large a transfer's lists may be. -/
structure LB (L : Transfer_link) : Prop where
  sent : L.sent.length ≤ 1000
  acks : L.acks.length ≤ 1000
  lo : 0 ≤ L.count
  hi : L.count ≤ 100000

def lres (L : Transfer_link) (e : LinkEvent) : Int × Transfer_link := if lcode L e = 0 then (0, lnext L e) else (lcode L e, L)

theorem do0_eq (L : Transfer_link) (e : LinkEvent) (h5 : ¬ e.Kind = 5) (h6 : ¬ e.Kind = 6) (hb : LB L) : transfer_link_do_0.f L e = some (lres L e) := by
  have hw : lway L e = L.sent := by unfold lway; rw [if_neg (by omega)]
  have b1 := hb.sent
  have b2 := hb.acks
  have b3 := hb.lo
  have b4 := hb.hi
  refine retOf_of ?_
  unfold transfer_link_do_0.body
  simp only [W_none, W_seq, W_block, W_reg, W_cond, W_skip, W_ext, W_ret, opt_some, opt_bind, opt_ite, thenQ_nrm, thenQ_ext, thenQ_ret, blkQ_nrm, blkQ_ext, blkQ_ret, if_true, true_and, and_true, decide_eq_true_eq, decide_eq_false_iff_not, Bool.or_eq_true, Bool.and_eq_true, Bool.or_eq_false_iff, Bool.and_eq_false_iff, Bool.true_eq_false, not_or, Classical.not_not, Bool.not_eq_true', Bool.not_eq_false', Int.not_lt, Int.not_le, Bool.false_eq_true, false_implies, true_implies, and_self, not_true_eq_false, not_false_eq_true, transfer_link_do_0.retv, transfer_link_do_0.r0, transfer_link_do_0.r1, transfer_link_do_0.r2, transfer_link_do_0.r4, transfer_link_do_0.r5, transfer_link_do_0.r6, transfer_link_do_0.r7, transfer_link_do_0.r8, transfer_link_do_0.r9, transfer_link_do_0.r10, transfer_link_do_0.r11, transfer_link_do_0.r12, transfer_link_do_0.r14, transfer_link_do_0.r15, transfer_link_do_0.r16, transfer_link_do_0.r17, transfer_link_do_0.r18, transfer_link_do_0.r19, transfer_link_do_0.r20, transfer_link_do_0.r21, transfer_link_do_0.r22, transfer_link_do_0.r23, transfer_link_do_0.r13, transfer_link_do_0.r24]
  refine ⟨fun h => by omega, fun _ => ⟨fun h => ?_, fun c1 => ⟨fun h => ?_, fun c2 => ⟨fun h => ?_, fun c3 => ⟨fun h => ?_, fun c4 => ?_⟩⟩⟩⟩⟩
  · have : lcode L e = 4 := by unfold lcode; rw [if_pos (by omega)]
    simp [lres, this]
  · have : lcode L e = 5 := by unfold lcode; rw [if_neg (by omega), if_pos (by omega)]
    simp [lres, this]
  · have : lcode L e = 11 := by unfold lcode; rw [if_neg (by omega), if_neg (by omega), if_pos (by omega)]
    simp [lres, this]
  · have : lcode L e = 6 := by unfold lcode; rw [hw, if_neg (by omega), if_neg (by omega), if_neg (by omega), if_pos (by omega)]
    simp [lres, this]
  · have h0 : lcode L e = 0 := by unfold lcode; rw [hw, if_neg (by omega), if_neg (by omega), if_neg (by omega), if_neg (by omega)]
    have hr : lres L e = (0, lnext L e) := by unfold lres; rw [if_pos h0]
    rw [hr]
    refine ⟨fun h1 => ?_, fun h1 => ⟨fun h2 => ?_, fun h2 => ⟨fun h4 => ?_, fun h4 => ⟨fun h => by omega, fun _ => ?_⟩⟩⟩⟩
    · rw [app1 b1, opt_some]
      simp [lnext, h1]
    · refine opt_of (take_eq (by omega) (by omega) b1) ⟨fun hx => ?_, fun hx => ?_⟩
      · have hc : cntUp L e.N.toNat = L.count + 1 := if_pos hx
        rw [app1 b2, opt_some, w64_id (by omega) (by omega)]
        simp [lnext, h1, h2, hc]
      · have hc : cntUp L e.N.toNat = L.count := if_neg hx
        rw [app1 b2, opt_some]
        simp [lnext, h1, h2, hc]
    · refine opt_of (idx_getD (by omega) (by omega)) ?_
      rw [app1 b1, opt_some]
      simp [lnext, h1, h2, h4]
    · refine opt_of (take_eq (by omega) (by omega) b1) ?_
      simp [lnext, h1, h2, h4, h5, h6]
theorem do0_none (L : Transfer_link) (e : LinkEvent) (h : e.Kind = 5 ∨ e.Kind = 6) : transfer_link_do_0.f L e = none := by
  have h' : (decide (e.Kind = 5) || decide (e.Kind = 6)) = true := by rcases h with h | h <;> simp [h]
  simp [transfer_link_do_0.f, retOf, transfer_link_do_0.body, seqM, regM, condM, noneM, transfer_link_do_0.retv, transfer_link_do_0.r0, transfer_link_do_0.r1, transfer_link_do_0.r2, transfer_link_do_0.r4, transfer_link_do_0.r5, transfer_link_do_0.r6, transfer_link_do_0.r7, transfer_link_do_0.r8, transfer_link_do_0.r9, transfer_link_do_0.r10, transfer_link_do_0.r11, transfer_link_do_0.r12, transfer_link_do_0.r14, transfer_link_do_0.r15, transfer_link_do_0.r16, transfer_link_do_0.r17, transfer_link_do_0.r18, transfer_link_do_0.r19, transfer_link_do_0.r20, transfer_link_do_0.r21, transfer_link_do_0.r22, transfer_link_do_0.r23, transfer_link_do_0.r13, transfer_link_do_0.r24, h']
theorem do1_eq (L : Transfer_link) (e : LinkEvent) (h5 : e.Kind = 5 ∨ e.Kind = 6) (hb : LB L) : transfer_link_do_1.f L e = some (lres L e) := by
  have hw : lway L e = L.acks := by unfold lway; rw [if_pos h5]
  have b1 := hb.sent
  have b2 := hb.acks
  refine retOf_of ?_
  unfold transfer_link_do_1.body
  simp only [W_none, W_seq, W_block, W_reg, W_cond, W_skip, W_ext, W_ret, opt_some, opt_bind, opt_ite, thenQ_nrm, thenQ_ext, thenQ_ret, blkQ_nrm, blkQ_ext, blkQ_ret, if_true, true_and, and_true, decide_eq_true_eq, decide_eq_false_iff_not, Bool.or_eq_true, Bool.and_eq_true, Bool.or_eq_false_iff, Bool.and_eq_false_iff, Bool.true_eq_false, not_or, Classical.not_not, Bool.not_eq_true', Bool.not_eq_false', Int.not_lt, Int.not_le, Bool.false_eq_true, false_implies, true_implies, and_self, not_true_eq_false, not_false_eq_true, transfer_link_do_1.retv, transfer_link_do_1.r0, transfer_link_do_1.r1, transfer_link_do_1.r2, transfer_link_do_1.r3, transfer_link_do_1.r4, transfer_link_do_1.r5, transfer_link_do_1.r6, transfer_link_do_1.r7, transfer_link_do_1.r8, transfer_link_do_1.r9, transfer_link_do_1.r10, transfer_link_do_1.r11, transfer_link_do_1.r12, transfer_link_do_1.r14, transfer_link_do_1.r15, transfer_link_do_1.r16, transfer_link_do_1.r17, transfer_link_do_1.r18, transfer_link_do_1.r19, transfer_link_do_1.r20, transfer_link_do_1.r21, transfer_link_do_1.r22, transfer_link_do_1.r23, transfer_link_do_1.r13, transfer_link_do_1.r24]
  refine ⟨fun _ => ⟨fun h => by omega, fun c1 => ⟨fun h => by omega, fun c2 => ⟨fun h => by omega, fun c3 => ⟨fun h => ?_, fun c4 => ?_⟩⟩⟩⟩, fun h => by omega⟩
  · have : lcode L e = 6 := by unfold lcode; rw [hw, if_neg (by omega), if_neg (by omega), if_neg (by omega), if_pos (by omega)]
    simp [lres, this]
  · have h0 : lcode L e = 0 := by unfold lcode; rw [hw, if_neg (by omega), if_neg (by omega), if_neg (by omega), if_neg (by omega)]
    have hr : lres L e = (0, lnext L e) := by unfold lres; rw [if_pos h0]
    rw [hr]
    refine ⟨fun h1 => by omega, fun h1 => ⟨fun h2 => by omega, fun h2 => ⟨fun h4 => by omega, fun h4 => ⟨fun h => ?_, fun h => ?_⟩⟩⟩⟩
    · refine opt_of (take_eq (by omega) (by omega) b2) ?_
      simp [lnext, h1, h2, h4, h]
    · refine opt_of (take_eq (by omega) (by omega) b2) ?_
      have h6 : e.Kind = 6 := by omega
      simp [lnext, h6]
theorem do_eq (L : Transfer_link) (e : LinkEvent) (hb : LB L) : transfer_link_do.f L e = some (lres L e) := by
  unfold transfer_link_do.f
  by_cases h : e.Kind = 5 ∨ e.Kind = 6
  · rw [do0_none L e h, do1_eq L e h hb]
  · rw [do0_eq L e (fun h' => h (.inl h')) (fun h' => h (.inr h')) hb]
end Go.Proofs.Ytpdkgodonemonaa
