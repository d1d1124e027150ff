/- Names: the parts of a name, which names are good, which stand within another one. -/
import Derived.Test.YtenkbkcddcnmeaaDoorPp2
namespace Go.Proofs.YtenkbkcddcnmeaaDoor
open Go.Fx
set_option linter.unusedVariables false
set_option linter.unusedSimpArgs false
set_option maxRecDepth 20000
theorem bytesOf_strOf (p : List UInt8) : bytesOf (strOf p) = p := by simp [bytesOf, strOf]
theorem bytesOf_app (a b : ByteArray) : bytesOf (a ++ b) = bytesOf a ++ bytesOf b := by
  unfold bytesOf
  rw [ByteArray.data_append, Array.toList_append]
theorem bytesOf_inj {a b : ByteArray} (h : bytesOf a = bytesOf b) : a = b := by
  rw [← strOf_bytesOf a, ← strOf_bytesOf b, h]
theorem idxB_eq {s : ByteArray} {i : Nat} (h : i < (bytesOf s).length) : idxB s (i : Int) = some (bytesOf s)[i] := by
  unfold idxB
  rw [if_pos (by omega), Int.toNat_natCast]
  have h' : i < s.size := by rw [← bytesOf_len]; exact h
  rw [getElem?_pos s i h']
  rfl
theorem isE_iff {s : ByteArray} : s = ⟨#[]⟩ ↔ bytesOf s = [] := by
  constructor
  · rintro rfl; rfl
  · intro h; exact bytesOf_inj h
def addP (x : List UInt8) : List (List UInt8) → List (List UInt8)
  | [] => []
  | p :: ps => (x ++ p) :: ps
theorem addP_nil {ls : List (List UInt8)} : addP [] ls = ls := by cases ls <;> rfl
theorem partsL_cons_ne {b : UInt8} (h : b ≠ 47) (x l : List UInt8) : addP x (partsL 47 (b :: l)) = addP (x ++ [b]) (partsL 47 l) := by
  rw [partsL_ner h]
  cases hp : partsL 47 l with
  | nil => exact absurd hp (partsL_ne 47 l)
  | cons p ps => simp [addP]
theorem components_eq {name : ByteArray} (hs : name.size ≤ 60) : ref3_components.f name = some ((partsL 47 (bytesOf name)).map strOf) := by
  have hlen := bytesOf_len name
  refine retOf_of ?_
  unfold ref3_components.body
  simp only [WL, ref3_components.retv, ref3_components.r0, ref3_components.r1, ref3_components.r2, ref3_components.r3, ref3_components.r4, ref3_components.r6, ref3_components.r7, ref3_components.r8, ref3_components.r9, ref3_components.r5, ref3_components.r10]
  refine W_iter (fun s => s.name_0 = name ∧ ∃ i : Nat, s.i_5 = i ∧ i ≤ name.size ∧ s.out_3.length ≤ i ∧ s.now_4.size ≤ i ∧ s.out_3.map bytesOf ++ addP (bytesOf s.now_4) (partsL 47 ((bytesOf name).drop i)) = partsL 47 (bytesOf name)) (fun s => name.size - s.i_5.toNat) ⟨rfl, 0, rfl, Nat.zero_le _, Nat.le_refl _, Nat.le_refl _, by rw [List.drop_zero]; exact addP_nil⟩ ?_
  rintro s ⟨e0, i, e5, hi, ho, hn, hI⟩
  generalize h3 : s.out_3 = out at ho hI
  generalize h4 : s.now_4 = now at hn hI
  simp only [WL, ref3_components.retv, ref3_components.r0, ref3_components.r1, ref3_components.r2, ref3_components.r3, ref3_components.r4, ref3_components.r6, ref3_components.r7, ref3_components.r8, ref3_components.r9, ref3_components.r5, ref3_components.r10, e0, e5, h3, h4]
  refine ⟨fun hlt => ?_, fun hge => ?_⟩
  · have hlt : i < (bytesOf name).length := by omega
    rw [List.drop_eq_getElem_cons hlt] at hI
    refine opt_of (idxB_eq hlt) ⟨fun hb => ?_, fun hb => ?_⟩
    · have hb' : (bytesOf name)[i] = 47 := by
        rw [← UInt8.toNat_inj]
        have : ((bytesOf name)[i].toNat : Int) = 47 := hb
        have e : (47 : UInt8).toNat = 47 := rfl
        omega
      rw [hb', partsL_eq] at hI
      refine opt_of (appL_of (by simp only [List.length_cons, List.length_nil]; omega)) ?_
      rw [w64_succ (by omega)]
      refine ⟨⟨i + 1, rfl, by omega, by rw [List.length_append, List.length_singleton]; omega, Nat.zero_le _, ?_⟩, by omega⟩
      rw [← hI, List.map_append, List.append_assoc]
      show _ ++ ([bytesOf now] ++ addP (bytesOf ⟨#[]⟩) _) = _ ++ ((bytesOf now ++ []) :: _)
      rw [show bytesOf ⟨#[]⟩ = [] from rfl, addP_nil, List.append_nil]
      rfl
    · have hb' : (bytesOf name)[i] ≠ 47 := by
        intro e
        exact hb (by rw [e]; rfl)
      rw [partsL_cons_ne hb'] at hI
      have hc : cutS name (i : Int) (w64 ((i : Int) + 1)) = some (name.extract i (i + 1)) := by
        rw [w64_succ (by omega)]
        unfold cutS
        rw [if_pos ⟨by omega, by omega, by omega⟩]
        simp
      have hx : bytesOf (name.extract i (i + 1)) = [(bytesOf name)[i]] := by
        rw [bytesOf_extract, List.drop_eq_getElem_cons hlt, Nat.add_sub_cancel_left]; rfl
      have hxs : (name.extract i (i + 1)).size = 1 := by rw [← bytesOf_len, hx]; rfl
      have hcat : catS now (name.extract i (i + 1)) = some (now ++ name.extract i (i + 1)) := by
        unfold catS
        rw [if_pos (by omega)]
      refine opt_of hc (opt_of hcat ?_)
      rw [w64_succ (by omega)]
      refine ⟨⟨i + 1, rfl, by omega, by omega, ?_, ?_⟩, by omega⟩
      · rw [ByteArray.size_append]; omega
      · rw [bytesOf_app, hx]; exact hI
  · have : i = (bytesOf name).length := by omega
    subst this
    rw [List.drop_length] at hI
    refine opt_of (appL_of (by simp only [List.length_cons, List.length_nil]; omega)) ?_
    rw [← hI]
    show Ctl.ret (out ++ [now]) = Ctl.ret ((out.map bytesOf ++ [bytesOf now ++ []]).map strOf)
    rw [List.append_nil, List.map_append, List.map_map]
    have e : strOf ∘ bytesOf = id := by funext x; exact strOf_bytesOf x
    rw [e, List.map_id]
    simp [strOf_bytesOf]
/-- The byte is not of those that a name may have. -/
def badC (c : UInt8) : Prop := ¬ (((97 : Int) ≤ (c.toNat : Int) ∧ (c.toNat : Int) ≤ 122) ∨ ((48 : Int) ≤ (c.toNat : Int) ∧ (c.toNat : Int) ≤ 57) ∨ (c.toNat : Int) = 45 ∨ (c.toNat : Int) = 95 ∨ (c.toNat : Int) = 46)
def dots (p : List UInt8) : Prop := ∃ k : Nat, p[k]? = some 46 ∧ p[k + 1]? = some 46
theorem pre2 (l : List UInt8) : [46, 46].isPrefixOf l = true ↔ l[0]? = some 46 ∧ l[1]? = some 46 := by
  match l with
  | [] => simp [List.isPrefixOf]
  | [a] => simp [List.isPrefixOf]
  | a :: b :: t =>
    simp [List.isPrefixOf]
    constructor
    · rintro ⟨rfl, rfl⟩; exact ⟨rfl, rfl⟩
    · rintro ⟨rfl, rfl⟩; exact ⟨rfl, rfl⟩
theorem contains_dots (p : List UInt8) : Lib.contains p [46, 46] = true ↔ dots p := by
  have hocc : ∀ i, Lib.occAt p [46, 46] i = true ↔ p[i]? = some 46 ∧ p[i + 1]? = some 46 := by
    intro i
    unfold Lib.occAt
    rw [pre2, List.getElem?_drop, List.getElem?_drop]
    rfl
  unfold Lib.contains
  rw [decide_eq_true_eq]
  rcases Lib.index_spec p [46, 46] with ⟨h1, h2⟩ | ⟨i, h1, _, h3, _⟩
  · rw [h1]
    refine ⟨fun h => absurd h (by decide), ?_⟩
    rintro ⟨k, hk⟩
    have hlt : k < p.length := by
      have := hk.1
      exact (List.getElem?_eq_some_iff.1 this).1
    have := h2 k (by omega)
    rw [(hocc k).2 hk] at this
    cases this
  · rw [h1]
    exact ⟨fun _ => ⟨i, (hocc i).1 h3⟩, fun _ => by omega⟩
def lockB : List UInt8 := [46, 108, 111, 99, 107]
/-- No part of a name. -/
def badP (p : List UInt8) : Prop := p = [] ∨ p.head? = some 46 ∨ Lib.hasSuffix p lockB = true ∨ dots p ∨ ∃ c ∈ p, badC c
open Classical in
noncomputable def goodP (name : ByteArray) : Bool := decide (name.size ≤ 60 ∧ ∀ p ∈ partsL 47 (bytesOf name), ¬ badP p)
open Classical in
theorem goodP_size {name : ByteArray} (h : goodP name = true) : name.size ≤ 60 := (of_decide_eq_true h).1
open Classical in
theorem goodP_bad {name : ByteArray} {p : List UInt8} (hp : p ∈ partsL 47 (bytesOf name)) (hb : badP p) : goodP name = false := decide_eq_false fun h => h.2 p hp hb
theorem part_len : ∀ {l p : List UInt8}, p ∈ partsL 47 l → p.length ≤ l.length
  | [], p, h => by
    have : p = [] := by simpa [partsL] using h
    rw [this]; exact Nat.le_refl _
  | b :: l, p, h => by
    rw [List.length_cons]
    by_cases hb : b = 47
    · subst hb
      rw [partsL_eq] at h
      rcases List.mem_cons.1 h with rfl | h
      · exact Nat.zero_le _
      · have := part_len h; omega
    · rw [partsL_ner hb] at h
      cases hp : partsL 47 l with
      | nil => exact absurd hp (partsL_ne 47 l)
      | cons q qs =>
        rw [hp] at h
        rcases List.mem_cons.1 h with rfl | h
        · have := part_len (l := l) (p := q) (by rw [hp]; exact List.mem_cons_self)
          rw [List.length_cons]; omega
        · have := part_len (l := l) (p := p) (by rw [hp]; exact List.mem_cons_of_mem _ h)
          omega
theorem parts_le : ∀ l : List UInt8, (partsL 47 l).length ≤ l.length + 1
  | [] => Nat.le_refl _
  | b :: l => by
    have ih := parts_le l
    rw [List.length_cons]
    by_cases hb : b = 47
    · subst hb
      rw [partsL_eq, List.length_cons]; omega
    · rw [partsL_ner hb]
      cases hp : partsL 47 l with
      | nil => exact absurd hp (partsL_ne 47 l)
      | cons q qs => rw [hp] at ih; rw [List.length_cons] at ih ⊢; omega
theorem sfx_iff {p : List UInt8} : Lib.hasSuffix p lockB = true ↔ 5 ≤ p.length ∧ p.drop (p.length - 5) = lockB := by
  unfold Lib.hasSuffix
  rw [List.isSuffixOf_iff_suffix, List.suffix_iff_eq_drop]
  show lockB = p.drop (p.length - 5) ↔ _
  constructor
  · intro h
    have := congrArg List.length h
    rw [List.length_drop] at this
    have e : lockB.length = 5 := rfl
    exact ⟨by omega, h.symm⟩
  · rintro ⟨_, h⟩; exact h.symm
end Go.Proofs.YtenkbkcddcnmeaaDoor
