/- The iterator slices.Backward over commits. -/
import Derived.Test.YtilodamhgepjoaaNm
import Derived.Test.YtilodamhgepjoaaFx9
namespace Go.Proofs.Ytilodamhgepjoaa
open Go.Fx Go.RowKit
set_option linter.unusedVariables false

/-- The pairs of number and element, the last first. -/
def bwd {α : Type} (xs : List α) : List (Int × α) := (xs.zipIdx.map fun p => ((p.2 : Int), p.1)).reverse
def relBwd (F : BSet) (w : World) (vs : List Value) (it : Int × Commit) : Prop := ∃ v, vs = [.int .i64 it.1, v] ∧ Val k_Commit F w v it.2

theorem row_vals {α : Type} {k : Kd α} {F : BSet} {w : World} {A : Option Addr} {xs : List α} (h : Row k F w A xs) :
    ∃ (f : Nat → Value) (b o : Nat), ∀ i x, xs[i]? = some x → A = some ⟨b, o, none⟩ ∧ F b ∧ LiesV k F w b (o + i * k.sz) (f i) x := by
  rcases h with rfl | ⟨b, o, rfl, h⟩
  · exact ⟨fun _ => undef, 0, 0, fun i x hx => by simp at hx⟩
  · have h1 : ∀ i, ∃ u, ∀ x, xs[i]? = some x → LiesV k F w b (o + i * k.sz) u x := by
      intro i
      cases hx : xs[i]? with
      | none => exact ⟨undef, fun x e => by cases e⟩
      | some x =>
        obtain ⟨u, hu⟩ := (h i x hx).at_.v
        exact ⟨u, fun y e => by cases e; exact hu⟩
    obtain ⟨f, hf⟩ := Classical.axiomOfChoice h1
    exact ⟨f, b, o, fun i x hx => ⟨rfl, (h i x hx).1, hf i x hx⟩⟩

theorem fn_56 : FnOk Try.prog 56 := ⟨_, Try.func56, by kernel_rfl, by kernel_rfl⟩
theorem ty_22r : TyOk Try.prog 22 kRaw := ⟨by kernel_rfl, by kernel_rfl⟩

def bitems (n : Nat) (f : Nat → Value) : List (List Value) := ((List.range n).map fun (i : Nat) => [Value.int .i64 (i : Int), f i]).reverse
theorem bitems_len (n : Nat) (f : Nat → Value) : (bitems n f).length = n := by unfold bitems; rw [List.length_reverse, List.length_map, List.length_range]
theorem bitems_get {n : Nat} {f : Nat → Value} {j : Nat} (hj : j < n) : (bitems n f)[j]? = some [.int .i64 ((n - 1 - j : Nat) : Int), f (n - 1 - j)] := by
  unfold bitems
  rw [List.getElem?_reverse (by simpa using hj), List.getElem?_map, List.length_map, List.length_range, List.getElem?_range (by omega)]
  rfl

theorem all2_append {α β : Type} {r : α → β → Prop} : ∀ {us : List α} {bs : List β} {cs : List α} {ds : List β}, All2 r us bs → All2 r cs ds → All2 r (us ++ cs) (bs ++ ds)
  | [], [], _, _, _, h => h
  | a :: us, b :: bs, _, _, h, h' => ⟨h.1, all2_append h.2 h'⟩
theorem all2_reverse {α β : Type} {r : α → β → Prop} : ∀ {us : List α} {bs : List β}, All2 r us bs → All2 r us.reverse bs.reverse
  | [], [], _ => trivial
  | a :: us, b :: bs, h => by
    rw [List.reverse_cons, List.reverse_cons]
    exact all2_append (all2_reverse h.2) ⟨h.1, trivial⟩
theorem all2_of_get {α β : Type} {r : α → β → Prop} : ∀ {us : List α} {bs : List β}, us.length = bs.length → (∀ (i : Nat) (a : α) (b : β), us[i]? = some a → bs[i]? = some b → r a b) → All2 r us bs
  | [], [], _, _ => trivial
  | a :: us, b :: bs, hl, h => ⟨h 0 a b rfl rfl, all2_of_get (by simpa using hl) fun i x y hx hy => h (i + 1) x y (by simpa using hx) (by simpa using hy)⟩

theorem all2_bwd {F : BSet} {w : World} {xs : List Commit} {f : Nat → Value} (h : ∀ i x, xs[i]? = some x → Val k_Commit F w (f i) x) : All2 (relBwd F w) (bitems xs.length f) (bwd xs) := by
  refine all2_reverse (all2_of_get (by simp) fun i a b ha hb => ?_)
  rw [List.getElem?_map] at ha hb
  rw [List.getElem?_zipIdx] at hb
  cases hx : xs[i]? with
  | none => rw [hx] at hb; simp at hb
  | some x =>
    have hi : i < xs.length := (List.getElem?_eq_some_iff.1 hx).1
    rw [hx] at hb
    rw [List.getElem?_range hi] at ha
    simp at ha hb
    subst ha; subst hb
    exact ⟨f i, rfl, h i x hx⟩

theorem backward_item (w : World) (F : BSet) {v : Value} {xs : List Commit} (hx : SlR k_Commit F w v xs) (hn : xs.length ≤ 4611686018427387904) {g : Nat} (hg : F g) (hb : LiesV kRaw F w g 0 v v) :
    ∃ vss, IterOK Try.prog F w (.func (.func 56) #[] #[.pointer (some ⟨g, 0, none⟩)]) vss ∧ All2 (relBwd F w) vss (bwd xs) := by
  obtain ⟨A, c, rfl, hc, hR⟩ := hx
  obtain ⟨f, b, o, hf⟩ := row_vals hR
  refine ⟨bitems xs.length f, ⟨56, _, rfl, fun args w => ?_, ?_⟩, all2_bwd fun i x hx => (hf i x hx).2.2.val⟩
  · obtain ⟨fn, hfn, hname, hbody⟩ := fn_56.ok
    rw [callFunc, Sem.run_bind, run_program, Result.andThen_ok]
    simp only [hfn, hname, hbody, Bool.false_eq_true, if_false]
    rfl
  intro W hW l J hJ hY h0
  have hld : ∀ W1, Stp F w F W1 → LiesV kRaw F W1 g 0 (.slice A xs.length c) (.slice A xs.length c) := fun W1 s => hb.same s (s.keep g hg)
  refine callsIn_of_wp (F := Fence.wide) (n := 0) Try.func56 rfl trivial ?_
  obtain ⟨n, hnn⟩ : ∃ n, n = xs.length := ⟨_, rfl⟩
  have hF := Fr.start (#[Value.func (.yield l) #[] #[]] ++ #[Value.pointer (some ⟨g, 0, none⟩)]) 19 (by simp)
  refine wpIn_seq ?_
  refine wp_reg (rd := none) (fun ρ w' => ρ 0 = .func (.yield l) #[] #[] ∧ ρ 1 = .pointer (some ⟨g, 0, none⟩) ∧ ρ 3 = .int .i64 ((n : Int) - 1) ∧ w' = W) (by rfl) ?_ hF (by rintro ⟨a, w, ⟨u, hu⟩, _⟩; cases hu) ?_
  · refine ol_v (e_ld (k := kRaw) ty_22r (hld W hW) rfl) rfl ?_
    refine ol_v (e_len (SlT.sl sl_22) rfl) rfl ?_
    refine ol_v (e_sub rfl rfl) rfl ?_
    refine ol_v (e_as _ rfl) rfl ?_
    refine ol_nil ⟨rfl, rfl, ?_, rfl⟩
    show Value.int _ (w64 _) = _
    rw [w64_id (by omega) (by omega), hnn]
  rintro ρ0 w0 a0 ⟨h0y, h0p, h0i, rfl⟩ hF0
  refine wpIn_block ?_
  refine wpIn_loop (fun a W1 => ∃ (ρ : Env) (j : Nat), Fr [] 19 a ρ ∧ ρ 0 = .func (.yield l) #[] #[] ∧ ρ 1 = .pointer (some ⟨g, 0, none⟩) ∧ ρ 3 = .int .i64 ((n : Int) - 1 - j) ∧ j ≤ n ∧ J j W1)
    (fun a _ => match a.tmps.getD 3 undef with | .int _ i => (i + 1).toNat | _ => 0) ⟨ρ0, 0, hF0, h0y, h0p, by simpa using h0i, by omega, h0⟩ ?_
  rintro a W1 ⟨ρ, j, hFr, hy, hp, hi, hj, hJj⟩
  have hs := hJ j W1 hJj
  refine wpIn_seq (wpIn_seq ?_)
  refine wp_reg (rd := none) (fun ρ' w' => ρ' 0 = .func (.yield l) #[] #[] ∧ ρ' 1 = .pointer (some ⟨g, 0, none⟩) ∧ ρ' 3 = .int .i64 ((n : Int) - 1 - j) ∧ ρ' 8 = .bool (decide (0 ≤ (n : Int) - 1 - j)) ∧ w' = W1) (by rfl) ?_ hFr (by rintro ⟨a, w, ⟨u, hu⟩, _⟩; cases hu) ?_
  · refine ol_v (e_mv _ hi) rfl ?_
    refine ol_v (e_geq rfl rfl) rfl ?_
    exact ol_nil ⟨hy, hp, hi, rfl, rfl⟩
  rintro ρ1 w1 a1 ⟨hy1, hp1, hi1, hb1, rfl⟩ hF1
  by_cases hjn : j = n
  · have hd : decide (0 ≤ (n : Int) - 1 - j) = false := by rw [decide_eq_false_iff_not]; omega
    rw [hd] at hb1
    refine wpIn_cond_false (by rw [hF1.eval]; exact hb1) (wpIn_exit ?_)
    simp only [Exit.then, Exit.inBlock, if_true]
    refine ⟨hF1.defers, _, (by simp [results, Try.f56] : (results Try.f56 a1.tmps).run Try.prog w1 = .ok (.tuple #[]) w1), ⟨_, rfl⟩, ?_⟩
    rw [bitems_len, ← hnn, ← hjn]; exact hJj
  have hd : decide (0 ≤ (n : Int) - 1 - j) = true := by rw [decide_eq_true_iff]; omega
  rw [hd] at hb1
  refine wpIn_cond_true (by rw [hF1.eval]; exact hb1) (wpIn_skip ?_)
  obtain ⟨x, hx⟩ : ∃ x, xs[n - 1 - j]? = some x := ⟨_, List.getElem?_eq_getElem (by omega)⟩
  obtain ⟨rfl, hFb, hlv⟩ := hf _ _ hx
  have hcast : (n : Int) - 1 - j = ((n - 1 - j : Nat) : Int) := by omega
  refine wpIn_seq (wpIn_block (wpIn_seq ?_))
  refine wpIn_region_lit (l := [_, _, _, _, _, _, _, _]) ?_
  refine ol_part (rd := none) (l1 := [_, _, _, _, _, _]) (l2 := [_, _]) (fun ρ' w' => ρ' 0 = .func (.yield l) #[] #[] ∧ ρ' 1 = .pointer (some ⟨g, 0, none⟩) ∧ ρ' 3 = .int .i64 ((n : Int) - 1 - j) ∧ ρ' 11 = .func (.yield l) #[] #[] ∧ ρ' 12 = .int .i64 ((n - 1 - j : Nat) : Int) ∧ ρ' 16 = f (n - 1 - j) ∧ w' = w1) (by rfl) ?_ hF1 (by rintro ⟨a, w, ⟨u, hu⟩, _⟩; cases hu) ?_
  · refine ol_v (e_mv _ hy1) rfl ?_
    refine ol_v (e_mv _ (hi1.trans (congrArg _ hcast))) rfl ?_
    refine ol_v (e_ld (k := kRaw) ty_22r (hld _ hs) hp1) rfl ?_
    refine ol_v (e_mv _ (hi1.trans (congrArg _ hcast))) rfl ?_
    refine ol_v (e_ix (SlT.sl sl_22) (SlT.sz sl_22) rfl (by rw [idx_nat]; exact hx) rfl rfl) rfl ?_
    refine ol_v (e_ld ty_56 (hlv.same hs (hs.keep b hFb)) rfl) rfl ?_
    exact ol_nil ⟨hy1, hp1, hi1, rfl, rfl, rfl, rfl⟩
  rintro ρ2 w2 a2 ⟨hy2, hp2, hi2, hyy, hii, hvv, rfl⟩ hF2
  refine in_yield (vs := [.int .i64 ((n - 1 - j : Nat) : Int), f (n - 1 - j)]) hF2 hyy (by simp [ev, hii, hvv]) (hY j _ w2 (by rw [← hnn]; exact bitems_get (by omega)) hJj) ?_
  intro W2 hJ2
  have hF3 := hF2.put 17 (.bool true) rfl
  refine ol_part (rd := none) (l1 := [_]) (l2 := []) (fun ρ' w' => ρ' 0 = .func (.yield l) #[] #[] ∧ ρ' 1 = .pointer (some ⟨g, 0, none⟩) ∧ ρ' 3 = .int .i64 ((n : Int) - 1 - j) ∧ ρ' 18 = .bool false ∧ w' = W2) (by rfl) ?_ hF3 (by rintro ⟨a, w, ⟨u, hu⟩, _⟩; cases hu) ?_
  · refine ol_v (e_not_ rfl) rfl ?_
    exact ol_nil ⟨hy2, hp2, hi2, rfl, rfl⟩
  rintro ρ4 w4 a4 ⟨hy4, hp4, hi4, hb4, rfl⟩ hF4
  refine wpListIn_nil ?_
  refine wpIn_cond_false (by rw [hF4.eval]; exact hb4) (wpIn_skip ?_)
  refine wp_reg (rd := none) (fun ρ' w' => ρ' 0 = .func (.yield l) #[] #[] ∧ ρ' 1 = .pointer (some ⟨g, 0, none⟩) ∧ ρ' 3 = .int .i64 ((n : Int) - 1 - (j + 1 : Nat)) ∧ w' = w4) (by rfl) ?_ hF4 (by rintro ⟨a, w, ⟨u, hu⟩, _⟩; cases hu) ?_
  · refine ol_v (e_mv _ hi4) rfl ?_
    refine ol_v (e_sub rfl rfl) rfl ?_
    refine ol_v (e_as _ rfl) rfl ?_
    refine ol_nil ⟨hy4, hp4, ?_, rfl⟩
    show Value.int _ (w64 _) = _
    rw [w64_id (by omega) (by omega)]
    congr 1; omega
  rintro ρ5 w5 a5 ⟨hy5, hp5, hi5, rfl⟩ hF5
  refine ⟨⟨ρ5, j + 1, hF5, hy5, hp5, hi5, by omega, hJ2⟩, ?_⟩
  rw [hF5.get, hFr.get, hi5, hi]
  simp only
  omega

/-- The iterator's value reads as these pairs. -/
def ItBwd (F : BSet) (w : World) (v : Value) (its : List (Int × Commit)) : Prop := ∃ vss, IterOK Try.prog F w v vss ∧ All2 (relBwd F w) vss its
theorem relBwd.keep {F F' : BSet} {w w' : World} {vs : List Value} {it : Int × Commit} (h : relBwd F w vs it) (s : Stp F w F' w') : relBwd F' w' vs it := let ⟨v, e, hv⟩ := h; ⟨v, e, hv.keep s⟩
theorem relBwd.len {F : BSet} {w : World} {vs : List Value} {it : Int × Commit} (h : relBwd F w vs it) : vs.length = 2 := by obtain ⟨v, rfl, _⟩ := h; rfl
theorem all2_mono {α β : Type} {r q : α → β → Prop} (h : ∀ a b, r a b → q a b) : ∀ {us : List α} {bs : List β}, All2 r us bs → All2 q us bs
  | [], [], _ => trivial
  | a :: us, b :: bs, hr => ⟨h a b hr.1, all2_mono h hr.2⟩
theorem ItBwd.keep {F F' : BSet} {w w' : World} {v : Value} {its : List (Int × Commit)} (h : ItBwd F w v its) (s : Stp F w F' w') : ItBwd F' w' v its :=
  let ⟨vss, h1, h2⟩ := h; ⟨vss, h1.keep s, all2_mono (fun _ _ h => h.keep s) h2⟩

namespace Backward
def f (xs : List Commit) : Option (List (Int × Commit)) := if xs.length ≤ 4611686018427387904 then some (bwd xs) else none
def post (w : World) (F : BSet) (r : List (Int × Commit)) (v : Value) (w' : World) : Prop := ∃ (F' : BSet) (v0' : Value), v = v0' ∧ Wk nrow w F F' w' ∧ ItBwd F' w' v0' r
theorem calls {w : World} {F : BSet} (hok : ∀ b, F b → b < w.heap.size) {v0 : Value} {a0 : List Commit} (h0 : SlR k_Commit F w v0 a0) {r : List (Int × Commit)} (hf : f a0 = some r) : Calls Try.prog 46 #[v0] w fun e w' => ∃ v, e = .returned v ∧ post w F r v w' := by
  obtain ⟨hn, rfl⟩ : a0.length ≤ 4611686018427387904 ∧ bwd a0 = r := by
    unfold f at hf
    split at hf
    · exact ⟨by assumption, Option.some.inj hf⟩
    · cases hf
  have h1 : v0.oneCell' = true := by obtain ⟨A, c, rfl, _⟩ := h0; rfl
  obtain ⟨c, hc, href⟩ : ∃ c, Try.f46.body = some c ∧ Ref Try.prog 4 c (fun (_ : Unit) ρ w1 => ρ 0 = v0 ∧ w1 = w) (seqM (regM fun s => some s) (seqM (regM fun s => some s) (retM fun _ => ()))) (fun _ _ _ => False) (fun _ _ _ _ => False)
      (fun (_ : Unit) ρ w1 => ∃ g, ρ 2 = .func (.func 56) #[] #[.pointer (some ⟨g, 0, none⟩)] ∧ Wk nrow w F F w1 ∧ Box kRaw 22 (Nw w) F w1 g v0) := by
    refine ⟨_, rfl, ?_⟩
    refine Ref.seq (B := fun _ ρ w1 => ∃ g, ρ 1 = .pointer (some ⟨g, 0, none⟩) ∧ Wk nrow w F F w1 ∧ Box kRaw 22 (Nw w) F w1 g v0) ?_ (Ref.seq (B := fun _ ρ w1 => ∃ g, ρ 2 = .func (.func 56) #[] #[.pointer (some ⟨g, 0, none⟩)] ∧ Wk nrow w F F w1 ∧ Box kRaw 22 (Nw w) F w1 g v0) ?_ (Ref.ret (fun s ρ w h => h)))
    · refine Ref.region (fun s ρ w1 s' h hr => ?_)
      obtain ⟨hρ, rfl⟩ := h
      refine ol_e (f_box (k := kRaw) (u := v0) (Wk.refl (row := nrow) hok) hρ ⟨[v0], ⟨rfl, h1⟩, rfl⟩) rfl rfl ?_
      rintro _ w2 ⟨g, rfl, hW2, hB⟩
      refine ol_v (e_as _ rfl) rfl ?_
      exact ol_nil ⟨g, rfl, hW2, hB⟩
    · refine Ref.region (fun s ρ w1 s' h hr => ?_)
      obtain ⟨g, hp, hW, hB⟩ := h
      refine ol_v (v := .func (.func 56) #[] #[.pointer (some ⟨g, 0, none⟩)]) (fun _ _ _ _ _ => by simp [execOp, ev, hp, Instr.makeFunc]) rfl ?_
      refine ol_v (e_as _ rfl) rfl ?_
      exact ol_nil ⟨g, rfl, hW, hB⟩
  refine calls_of_ref (args := [v0]) () Try.func46 hc rfl rfl href ⟨rfl, rfl⟩ rfl ?_
  rintro ρ w' a ⟨g, hρ, hW, hB⟩ hF
  have hlt := hB.lt
  have hld : LiesV kRaw F w' g 0 v0 v0 := LiesV.raw hB.at_
  have hs : Stp F w (fadd F g) w' := (hW.stp hok).trans (Stp.fadd _ _ _)
  obtain ⟨vss, hI, hA⟩ := backward_item w' (fadd F g) (h0.keep hs) hn (.inr rfl) (hld.same (Stp.fadd _ _ _) rfl)
  refine ⟨_, run_results (rs := [.tmp 2]) rfl hF (vs := [ρ 2]) ⟨_, rfl, rfl⟩, fadd F g, ρ 2, rfl, ?_, ?_⟩
  · refine ⟨hW.os, hW.tape, hW.output, hW.le, hW.block, fun b hb => ?_, fun b hb => .inl hb, fun b hb hF => ?_⟩
    · rcases hb with hb | rfl
      · exact hW.ok b hb
      · exact hlt
    · rcases hF with hF | rfl
      · exact hF
      · exact absurd (show w.heap.size ≤ b from hB.ge) (by omega)
  · rw [hρ]; exact ⟨vss, hI, hA⟩
end Backward
end Go.Proofs.Ytilodamhgepjoaa
