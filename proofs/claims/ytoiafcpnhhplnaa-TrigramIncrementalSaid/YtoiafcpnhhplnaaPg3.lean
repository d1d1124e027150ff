/- Trigrams: their order, the trigrams of a text. -/
import Derived.Test.YtoiafcpnhhplnaaPg2
namespace Go.Proofs.Ytoiafcpnhhplnaa
open Go.Fx
set_option linter.unusedVariables false
set_option linter.unusedSimpArgs false
set_option maxRecDepth 20000

theorem bl_len (s : ByteArray) : (bl s).length = s.size := Array.length_toList
theorem bl_inj {s t : ByteArray} (h : bl s = bl t) : s = t := by rw [← ofL_bl s, ← ofL_bl t, h]
theorem g3 {s : ByteArray} (h : s.size = 3) : ∃ a b c, bl s = [a, b, c] := by
  rw [← bl_len] at h
  match hb : bl s, h with
  | [a, b, c], _ => exact ⟨a, b, c, rfl⟩
def gl : List UInt8 → Nat
  | [a, b, c] => a.toNat * 65536 + b.toNat * 256 + c.toNat
  | _ => 0
theorem gl3 (a b c : UInt8) : gl [a, b, c] = a.toNat * 65536 + b.toNat * 256 + c.toNat := rfl
/-- A trigram as a number: in the strings' order. -/
def gv (s : ByteArray) : Nat := gl (bl s)
theorem gv_lt (s : ByteArray) : gv s < 16777216 := by
  unfold gv gl
  split
  · rename_i a b c _
    have := a.toNat_lt; have := b.toNat_lt; have := c.toNat_lt
    omega
  · omega
theorem gl_inj {a b c d e f : UInt8} (h : gl [a, b, c] = gl [d, e, f]) : a = d ∧ b = e ∧ c = f := by
  rw [gl3, gl3] at h
  have := a.toNat_lt; have := b.toNat_lt; have := c.toNat_lt; have := d.toNat_lt; have := e.toNat_lt; have := f.toNat_lt
  refine ⟨UInt8.toNat_inj.1 ?_, UInt8.toNat_inj.1 ?_, UInt8.toNat_inj.1 ?_⟩ <;> omega
theorem gv_inj {s t : ByteArray} (hs : s.size = 3) (ht : t.size = 3) (h : gv s = gv t) : s = t := by
  obtain ⟨a, b, c, e1⟩ := g3 hs
  obtain ⟨d, e, f, e2⟩ := g3 ht
  unfold gv at h
  rw [e1, e2] at h
  obtain ⟨rfl, rfl, rfl⟩ := gl_inj h
  exact bl_inj (e1.trans e2.symm)
theorem u8lt {a b : UInt8} : a < b ↔ a.toNat < b.toNat := UInt8.lt_iff_toNat_lt
theorem cmp3 (a b c d e f : UInt8) : (Lib.compareBytes [a, b, c] [d, e, f] < 0 ↔ gl [a, b, c] < gl [d, e, f]) ∧ (Lib.compareBytes [a, b, c] [d, e, f] = 0 ↔ gl [a, b, c] = gl [d, e, f]) := by
  have := a.toNat_lt; have := b.toNat_lt; have := c.toNat_lt; have := d.toNat_lt; have := e.toNat_lt; have := f.toNat_lt
  rw [gl3, gl3]
  simp only [Lib.compareBytes, u8lt]
  by_cases h1 : a.toNat < d.toNat
  · rw [if_pos h1]; constructor <;> constructor <;> intro <;> omega
  · rw [if_neg h1]
    by_cases h2 : d.toNat < a.toNat
    · rw [if_pos h2]; constructor <;> constructor <;> intro <;> omega
    · rw [if_neg h2]
      by_cases h3 : b.toNat < e.toNat
      · rw [if_pos h3]; constructor <;> constructor <;> intro <;> omega
      · rw [if_neg h3]
        by_cases h4 : e.toNat < b.toNat
        · rw [if_pos h4]; constructor <;> constructor <;> intro <;> omega
        · rw [if_neg h4]
          by_cases h5 : c.toNat < f.toNat
          · rw [if_pos h5]; constructor <;> constructor <;> intro <;> omega
          · rw [if_neg h5]
            by_cases h6 : f.toNat < c.toNat
            · rw [if_pos h6]; constructor <;> constructor <;> intro <;> omega
            · rw [if_neg h6]; constructor <;> constructor <;> intro <;> omega
theorem less3 (a b c d e f : UInt8) : Op.bytesLess [a, b, c] [d, e, f] = decide (gl [a, b, c] < gl [d, e, f]) := by
  have := a.toNat_lt; have := b.toNat_lt; have := c.toNat_lt; have := d.toNat_lt; have := e.toNat_lt; have := f.toNat_lt
  rw [gl3, gl3]
  simp only [Op.bytesLess, Bool.and_false, Bool.or_false]
  rw [Bool.eq_iff_iff]
  simp only [Bool.or_eq_true, Bool.and_eq_true, decide_eq_true_eq, beq_iff_eq, u8lt, ← UInt8.toNat_inj]
  omega
theorem toL (s : ByteArray) : s.toList = bl s := by
  rw [ByteArray.toList_eq]; rfl
theorem sLess_eq {s t : ByteArray} (hs : s.size = 3) (ht : t.size = 3) : sLess s t = decide (gv s < gv t) := by
  obtain ⟨a, b, c, e1⟩ := g3 hs
  obtain ⟨d, e, f, e2⟩ := g3 ht
  unfold sLess gv
  rw [toL, toL, e1, e2, less3]
theorem Compare_ex {s t : ByteArray} (hs : s.size = 3) (ht : t.size = 3) : ∃ r, CompareS.f s t = some r ∧ (r < 0 ↔ gv s < gv t) ∧ (r = 0 ↔ s = t) := by
  obtain ⟨a, b, c, e1⟩ := g3 hs
  obtain ⟨d, e, f, e2⟩ := g3 ht
  refine ⟨_, rfl, ?_, ?_⟩
  · unfold gv; rw [e1, e2]; exact (cmp3 _ _ _ _ _ _).1
  · rw [e1, e2, (cmp3 _ _ _ _ _ _).2]
    constructor
    · intro h
      exact gv_inj hs ht (by unfold gv; rw [e1, e2]; exact h)
    · rintro rfl
      rw [← e1, e2]
/-- The trigrams of a text. -/
def tri (t : ByteArray) : List ByteArray := (List.range (t.size - 2)).map fun i => t.extract i (i + 3)
theorem ext_size {t : ByteArray} {i j : Nat} (h : j ≤ t.size) (hij : i ≤ j) : (t.extract i j).size = j - i := by
  rw [ByteArray.size_extract]; omega
theorem tri_size {t g : ByteArray} (h : g ∈ tri t) : g.size = 3 := by
  unfold tri at h
  obtain ⟨i, hi, rfl⟩ := List.mem_map.1 h
  rw [List.mem_range] at hi
  rw [ext_size (by omega) (by omega)]; omega
theorem tri_len (t : ByteArray) : (tri t).length = t.size - 2 := by simp [tri]
theorem cut3 {t : ByteArray} {i : Nat} (h : i + 3 ≤ t.size) (hs : t.size ≤ 1000) : cutS t (i : Int) (w64 ((i : Int) + 3)) = some (t.extract i (i + 3)) := by
  rw [w64_id (by omega) (by omega)]
  unfold cutS
  rw [if_pos ⟨by omega, by omega, by omega⟩]
  rfl
theorem compact_mem {zs : List (List UInt8)} {x : List UInt8} : x ∈ Lib.compact zs ↔ x ∈ zs := by
  unfold Lib.compact Lib.compactUpTo
  simp only [List.mem_map, List.mem_filter, List.mem_range]
  constructor
  · rintro ⟨j, ⟨hj, _⟩, rfl⟩
    have : zs.toArray[j]! = zs[j] := by simp [hj]
    rw [this]; exact List.getElem_mem hj
  · intro hx
    obtain ⟨j, hj, rfl⟩ := List.getElem_of_mem hx
    induction j with
    | zero => exact ⟨0, ⟨hj, by simp [Lib.keeps]⟩, by simp [hj]⟩
    | succ j ih =>
      cases hk : Lib.keeps zs.toArray (j + 1) with
      | true => exact ⟨j + 1, ⟨hj, hk⟩, by simp [hj]⟩
      | false =>
        have e : zs[j + 1] = zs[j]'(by omega) := by
          unfold Lib.keeps at hk
          rw [decide_eq_false_iff_not] at hk
          have h2 : ¬ ¬ (zs.toArray[j + 1]! = zs.toArray[j + 1 - 1]!) := fun h => hk (.inr h)
          have h3 := Classical.not_not.1 h2
          simpa [hj, show j < zs.length by omega] using h3
        obtain ⟨i, h1, h2⟩ := ih (by omega) (List.getElem_mem _)
        exact ⟨i, h1, by rw [e]; exact h2⟩
theorem ofL_mem {s : ByteArray} {l : List (List UInt8)} : s ∈ l.map ofL ↔ bl s ∈ l := by
  rw [List.mem_map]
  constructor
  · rintro ⟨x, hx, rfl⟩; rw [bl_ofL]; exact hx
  · intro h; exact ⟨_, h, ofL_bl s⟩
theorem grams_ex {t : ByteArray} (ht : t.size ≤ 1000) : ∃ gs, trigram_grams.f t = some gs ∧ gs.length ≤ 1000 ∧ ∀ g, g ∈ gs ↔ g ∈ tri t := by
  refine retOf_ex ?_
  unfold trigram_grams.body
  have hm : max (0 : Int) (w64 ((t.size : Int) - 2)) = ((t.size - 2 : Nat) : Int) := by rw [w64_id (by omega) (by omega)]; omega
  simp only [WL, trigram_grams.retv, trigram_grams.r0, trigram_grams.r1, trigram_grams.r2, trigram_grams.r3, trigram_grams.r4, trigram_grams.r5, trigram_grams.r6, trigram_grams.r7, trigram_grams.r8, hm]
  refine W_iter (fun s => s.text_0 = t ∧ s.t_8 = ((t.size - 2 : Nat) : Int) ∧ ∃ i : Nat, s.t_9 = i ∧ i ≤ t.size - 2 ∧ s.out_3 = (tri t).take i) (fun s => t.size - 2 - s.t_9.toNat) ⟨rfl, rfl, 0, rfl, by omega, rfl⟩ ?_
  rintro s ⟨e0, e8, i, e9, hi, e3⟩
  simp only [WL, trigram_grams.retv, trigram_grams.r0, trigram_grams.r1, trigram_grams.r2, trigram_grams.r3, trigram_grams.r4, trigram_grams.r5, trigram_grams.r6, trigram_grams.r7, trigram_grams.r8, e0, e8, e9, e3]
  refine ⟨fun hlt => ?_, fun hge => ?_⟩
  · have hlt : i < t.size - 2 := by omega
    have hi' : i < (tri t).length := by rw [tri_len]; exact hlt
    have ha : appL 16 ((tri t).take i) [t.extract i (i + 3)] = some ((tri t).take i ++ [t.extract i (i + 3)]) := appL_of (by rw [List.length_take, tri_len]; simp; omega)
    rw [w64_succ (by omega)]
    refine opt_of (cut3 (by omega) ht) (opt_of ha ⟨⟨i + 1, rfl, by omega, ?_⟩, by omega⟩)
    rw [List.take_succ_eq_append_getElem hi']
    congr 2
    simp [tri]
  · have : i = (tri t).length := by rw [tri_len]; omega
    rw [this, List.take_length]
    have hl : (tri t).length ≤ 1000 := by rw [tri_len]; omega
    have hS : SortS.f (tri t) = some ((((tri t).map bl).mergeSort fun x y => decide (x ≤ y)).map ofL) := if_pos (by omega)
    have hlS : ((((tri t).map bl).mergeSort fun x y => decide (x ≤ y)).map ofL).length = (tri t).length := by rw [List.length_map, List.length_mergeSort, List.length_map]
    refine opt_of hS (opt_of (if_pos (by rw [hlS]; omega)) ?_)
    refine ⟨_, rfl, ?_, fun g => ?_⟩
    · rw [List.length_map]
      refine Nat.le_trans (compact_len _) ?_
      rw [List.length_map, hlS]; exact hl
    · rw [ofL_mem, compact_mem, List.map_map]
      have : (bl ∘ ofL) = id := by funext x; exact bl_ofL x
      rw [this, List.map_id, List.mem_mergeSort, List.mem_map]
      exact ⟨fun ⟨x, hx, e⟩ => bl_inj e ▸ hx, fun h => ⟨g, h, rfl⟩⟩
end Go.Proofs.Ytoiafcpnhhplnaa
