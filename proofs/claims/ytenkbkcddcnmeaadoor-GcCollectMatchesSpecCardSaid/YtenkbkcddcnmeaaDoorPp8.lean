/- Names within names; the faults of a set of references. -/
import Derived.Test.YtenkbkcddcnmeaaDoorPp7
import Derived.Sort.Walk0
namespace Go.Proofs.YtenkbkcddcnmeaaDoor
open Go.Fx
set_option linter.unusedVariables false
set_option linter.unusedSimpArgs false
set_option maxRecDepth 20000
def joinP : List (List UInt8) → List UInt8
  | [] => []
  | [p] => p
  | p :: q :: ps => p ++ 47 :: joinP (q :: ps)
theorem joinP_cons {p : List UInt8} {ps : List (List UInt8)} (h : ps ≠ []) : joinP (p :: ps) = p ++ 47 :: joinP ps := by
  cases ps with
  | nil => exact absurd rfl h
  | cons q qs => rfl
theorem joinP_parts : ∀ l : List UInt8, joinP (partsL 47 l) = l
  | [] => rfl
  | b :: l => by
    have ih := joinP_parts l
    by_cases hb : b = 47
    · subst hb
      rw [partsL_eq, joinP_cons (partsL_ne 47 l), ih]; rfl
    · rw [partsL_ner hb]
      cases hp : partsL 47 l with
      | nil => exact absurd hp (partsL_ne 47 l)
      | cons q qs =>
        rw [hp] at ih
        cases qs with
        | nil => rw [← ih]; rfl
        | cons r rs => rw [← ih]; rfl
theorem joinP_app {xs ys : List (List UInt8)} (hx : xs ≠ []) (hy : ys ≠ []) : joinP (xs ++ ys) = joinP xs ++ 47 :: joinP ys := by
  induction xs with
  | nil => exact absurd rfl hx
  | cons p ps ih =>
    cases ps with
    | nil => exact joinP_cons hy
    | cons q qs =>
      rw [List.cons_append, joinP_cons (by simp), ih (by simp), joinP_cons (p := p) (ps := q :: qs) (by simp), List.append_assoc]
      rfl
theorem parts_app (r : List UInt8) : ∀ a : List UInt8, partsL 47 (a ++ 47 :: r) = partsL 47 a ++ partsL 47 r
  | [] => by rw [List.nil_append, partsL_eq]; rfl
  | b :: a => by
    have ih := parts_app r a
    by_cases hb : b = 47
    · subst hb
      rw [List.cons_append, partsL_eq, partsL_eq, ih]; rfl
    · rw [List.cons_append, partsL_ner hb, partsL_ner hb, ih]
      cases hp : partsL 47 a with
      | nil => exact absurd hp (partsL_ne 47 a)
      | cons q qs => rfl
/-- One name is a directory of the other one. -/
theorem prefix_iff {a b : List UInt8} : Lib.hasPrefix b (a ++ [47]) = true ↔ (partsL 47 a).length < (partsL 47 b).length ∧ (partsL 47 b).take (partsL 47 a).length = partsL 47 a := by
  unfold Lib.hasPrefix
  rw [List.isPrefixOf_iff_prefix]
  constructor
  · rintro ⟨r, rfl⟩
    rw [List.append_assoc, List.singleton_append, parts_app, List.length_append, List.take_left']
    · have := List.length_pos_iff.2 (partsL_ne 47 r)
      exact ⟨by omega, rfl⟩
    · rfl
  · rintro ⟨h1, h2⟩
    have h3 := List.take_append_drop (partsL 47 a).length (partsL 47 b)
    rw [h2] at h3
    have hne : (partsL 47 b).drop (partsL 47 a).length ≠ [] := by
      rw [Ne, List.drop_eq_nil_iff]; omega
    have h4 := congrArg joinP h3
    rw [joinP_parts, joinP_app (partsL_ne 47 a) hne, joinP_parts] at h4
    exact ⟨joinP ((partsL 47 b).drop (partsL 47 a).length), by rw [List.append_assoc, List.singleton_append]; exact h4⟩
def withinP (a b : ByteArray) : Bool := Lib.hasPrefix (bytesOf b) (bytesOf a ++ [47]) || Lib.hasPrefix (bytesOf a) (bytesOf b ++ [47])
theorem within_eq {a b : ByteArray} (ha : a.size ≤ 60) (hb : b.size ≤ 60) : refs_within.f a b = some (withinP a b) := by
  have h1 : ∀ {x : ByteArray}, x.size ≤ 60 → catS x ⟨#[47]⟩ = some (x ++ ⟨#[47]⟩) := by
    intro x hx
    unfold catS
    rw [if_pos (by rw [show (⟨#[47]⟩ : ByteArray).size = 1 from rfl]; omega)]
  have h2 : ∀ x y : ByteArray, HasPrefixS.f x (y ++ ⟨#[47]⟩) = some (Lib.hasPrefix (bytesOf x) (bytesOf y ++ [47])) := by
    intro x y
    unfold HasPrefixS.f
    rw [bytesOf_app]; rfl
  refine retOf_of ?_
  unfold refs_within.body
  simp only [WL, refs_within.retv, refs_within.r0, refs_within.r1, h1 ha, h1 hb, h2]
  unfold withinP
  cases Lib.hasPrefix (bytesOf b) (bytesOf a ++ [47]) <;> simp
theorem Strings_eq {a b : List ByteArray} (ha : a.length ≤ 100000) : ref3_Strings.f a b = some (decide (a = b)) := by
  refine retOf_of ?_
  unfold ref3_Strings.body
  simp only [WL, ref3_Strings.retv, ref3_Strings.r0, ref3_Strings.r1, ref3_Strings.r2, ref3_Strings.r3, ref3_Strings.r4, ref3_Strings.r6, ref3_Strings.r7, ref3_Strings.r5, ref3_Strings.r8]
  refine ⟨fun hne => ?_, fun hle => ?_⟩
  · rw [decide_eq_false (fun h => hne (by rw [h]))]
  have hle : a.length = b.length := by omega
  refine W_iter (fun s => s.a_0 = a ∧ s.b_1 = b ∧ ∃ i : Nat, s.i_5 = i ∧ i ≤ a.length ∧ a.take i = b.take i) (fun s => a.length - s.i_5.toNat) ⟨rfl, rfl, 0, rfl, by omega, by simp⟩ ?_
  rintro s ⟨e0, e1, i, e5, hi, hI⟩
  simp only [WL, ref3_Strings.retv, ref3_Strings.r0, ref3_Strings.r1, ref3_Strings.r2, ref3_Strings.r3, ref3_Strings.r4, ref3_Strings.r6, ref3_Strings.r7, ref3_Strings.r5, ref3_Strings.r8, e0, e1, e5]
  refine ⟨fun hlt => ?_, fun hge => ?_⟩
  · have hlt : i < a.length := by omega
    have hlt2 : i < b.length := by omega
    refine opt_of (idx_nat' hlt) (opt_of (idx_nat' hlt2) ⟨fun hne => ?_, fun he => ?_⟩)
    · rw [decide_eq_false (fun h => hne (by simp only [h]))]
    · rw [w64_succ (by omega)]
      exact ⟨⟨i + 1, rfl, by omega, by rw [List.take_succ_eq_append_getElem hlt, List.take_succ_eq_append_getElem hlt2, hI, he]⟩, by omega⟩
  · have hie : i = a.length := by omega
    rw [hie, List.take_length, hle, List.take_length] at hI
    rw [decide_eq_true hI]
theorem scut {α : Type} {xs : List α} {n : Nat} (h : n ≤ xs.length) : cutTo xs (n : Int) = some (xs.take n) := by
  unfold cutTo
  rw [if_pos ⟨by omega, by omega⟩, Int.toNat_natCast]
theorem strs_take {a b : List (List UInt8)} {n : Nat} : (a.map strOf).take n = (b.map strOf).take n ↔ a.take n = b.take n := by
  rw [← List.map_take, ← List.map_take]
  constructor
  · intro h
    have := congrArg (List.map bytesOf) h
    rw [List.map_map, List.map_map] at this
    have e : bytesOf ∘ strOf = id := by funext x; exact bytesOf_strOf x
    rw [e, List.map_id, List.map_id] at this
    exact this
  · intro h; rw [h]
theorem Conflict_eq {a b : ByteArray} (ha : a.size ≤ 60) (hb : b.size ≤ 60) : ref3_RefConflict.f a b = some (withinP a b) := by
  have la := parts_le (bytesOf a)
  have lb := parts_le (bytesOf b)
  have sa := bytesOf_len a
  have sb := bytesOf_len b
  refine retOf_of ?_
  unfold ref3_RefConflict.body
  simp only [WL, ref3_RefConflict.retv, ref3_RefConflict.r0, ref3_RefConflict.r1, ref3_RefConflict.r2, ref3_RefConflict.r3, ref3_RefConflict.r4, ref3_RefConflict.r5]
  refine opt_of (components_eq ha) (opt_of (components_eq hb) ?_)
  simp only [List.length_map]
  have p1 := prefix_iff (a := bytesOf a) (b := bytesOf b)
  have p2 := prefix_iff (a := bytesOf b) (b := bytesOf a)
  refine ⟨fun he => ?_, fun hne => ?_⟩
  · have : withinP a b = false := by
      unfold withinP
      rw [Bool.or_eq_false_iff, Bool.eq_false_iff, Bool.eq_false_iff, Ne, Ne, p1, p2]
      constructor <;> omega
    rw [this]
  · have hmin : min ((partsL 47 (bytesOf a)).length : Int) ((partsL 47 (bytesOf b)).length : Int) = ((min (partsL 47 (bytesOf a)).length (partsL 47 (bytesOf b)).length : Nat) : Int) := by omega
    rw [hmin]
    refine opt_of (scut (by rw [List.length_map]; omega)) (opt_of (scut (by rw [List.length_map]; omega)) (opt_of (Strings_eq (by rw [List.length_take, List.length_map]; omega)) ?_))
    congr 1
    rw [Bool.eq_iff_iff, decide_eq_true_eq, strs_take]
    unfold withinP
    rw [Bool.or_eq_true, p1, p2]
    by_cases hlt : (partsL 47 (bytesOf a)).length < (partsL 47 (bytesOf b)).length
    · rw [Nat.min_eq_left (by omega), List.take_length]
      constructor
      · intro h; exact .inl ⟨hlt, h.symm⟩
      · rintro (h | h)
        · exact h.2.symm
        · omega
    · rw [Nat.min_eq_right (by omega), List.take_length]
      constructor
      · intro h; exact .inr ⟨by omega, h⟩
      · rintro (h | h)
        · omega
        · exact h.2
theorem l_tri : ∀ a b : List UInt8, a < b ∨ a = b ∨ b < a
  | [], [] => .inr (.inl rfl)
  | [], _ :: _ => .inl (List.nil_lt_cons _ _)
  | _ :: _, [] => .inr (.inr (List.nil_lt_cons _ _))
  | x :: xs, y :: ys => by
    rw [List.cons_lt_cons_iff, List.cons_lt_cons_iff]
    rcases Nat.lt_trichotomy x.toNat y.toNat with h | h | h
    · exact .inl (.inl (UInt8.lt_iff_toNat_lt.2 h))
    · have e : x = y := UInt8.toNat_inj.1 h
      subst e
      rcases l_tri xs ys with h | rfl | h
      · exact .inl (.inr ⟨rfl, h⟩)
      · exact .inr (.inl rfl)
      · exact .inr (.inr (.inr ⟨rfl, h⟩))
    · exact .inr (.inr (.inl (UInt8.lt_iff_toNat_lt.2 h)))
theorem sless_iff {a b : ByteArray} : sLess a b = false ↔ sLess b a = true ∨ b = a := by
  unfold sLess
  rw [Go.Proofs.bytesLess_eq, Go.Proofs.bytesLess_eq, decide_eq_false_iff_not, decide_eq_true_eq]
  have ha : a.toList = bytesOf a := by rw [ByteArray.toList_eq]; rfl
  have hb : b.toList = bytesOf b := by rw [ByteArray.toList_eq]; rfl
  rw [ha, hb]
  constructor
  · intro h
    rcases l_tri (bytesOf a) (bytesOf b) with h1 | h1 | h1
    · exact absurd h1 h
    · exact .inr (bytesOf_inj h1.symm)
    · exact .inl h1
  · rintro (h | rfl)
    · exact fun h2 => List.lt_irrefl _ (List.lt_trans h h2)
    · exact List.lt_irrefl _
end Go.Proofs.YtenkbkcddcnmeaaDoor
