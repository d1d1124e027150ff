/- The machine's calls come to these plain functions (written by a program, wip/fx/gen.py). -/
import Derived.Test.YtoiafcpnhhplnaaPA
import Derived.Test.YtoiafcpnhhplnaaNm
import Derived.Test.YtoiafcpnhhplnaaSl
import Derived.Test.YtoiafcpnhhplnaaIn
import Derived.Test.YtoiafcpnhhplnaaInP
import Derived.Test.YtoiafcpnhhplnaaFx15
namespace Go.Proofs.Ytoiafcpnhhplnaa
open Go.Fx Go.RowKit
set_option linter.unusedVariables false

namespace trigram_grams
section
def G0 : GT S := fun w0 F0 s ρ w => ∃ F, Wk nrow w0 F0 F w ∧ ρ 0 = .string s.text_0
def G1 : GT S := fun w0 F0 s ρ w => ∃ F, Wk nrow w0 F0 F w ∧ ρ 0 = .string s.text_0 ∧ OwnV kStr 9 (Bs w0 nrow) F w (ρ 3) s.out_3
def G2 : GT S := fun w0 F0 s ρ w => ∃ F, Wk nrow w0 F0 F w ∧ ρ 0 = .string s.text_0 ∧ OwnV kStr 9 (Bs w0 nrow) F w (ρ 3) s.out_3 ∧ ρ 8 = .int .i64 s.t_8 ∧ ρ 9 = .int .i64 s.t_9
def G3 : GT S := fun w0 F0 s ρ w => ∃ F, Wk nrow w0 F0 F w ∧ ρ 0 = .string s.text_0 ∧ OwnV kStr 9 (Bs w0 nrow) F w (ρ 3) s.out_3 ∧ ρ 8 = .int .i64 s.t_8 ∧ ρ 9 = .int .i64 s.t_9 ∧ ρ 10 = .bool s.t_10
def G4 : GT S := fun w0 F0 s ρ w => ∃ F, Wk nrow w0 F0 F w ∧ OwnV kStr 9 (Bs w0 nrow) F w (ρ 3) s.out_3
def G5 : GT S := fun w0 F0 s ρ w => ∃ F, Wk nrow w0 F0 F w ∧ ρ 0 = .string s.text_0 ∧ OwnV kStr 9 (Bs w0 nrow) F w (ρ 3) s.out_3 ∧ ρ 4 = .int .i64 s.i_4 ∧ ρ 8 = .int .i64 s.t_8 ∧ ρ 9 = .int .i64 s.t_9
def G6 : GT S := fun w0 F0 s ρ w => ∃ F, Wk nrow w0 F0 F w ∧ OwnV kStr 9 (Bs w0 nrow) F w (ρ 2) s.t_2
set_option maxHeartbeats 4000000 in
set_option maxRecDepth 20000 in
theorem ref (w0 : World) (F0 : BSet) : ∃ c, Try.f36.body = some c ∧ Ref Try.prog 25 c (G0 w0 F0) body (fun _ _ _ => False) (fun _ _ _ _ => False) (fun r ρ w => ∃ s, retv s = r ∧ G6 w0 F0 s ρ w) := by
  refine ⟨_, rfl, ?_⟩; unfold body; refine Ref.seq (B := G0 w0 F0) ?_ ?_
  · refine Ref.region (fun s ρ w s' h hr => ?_); obtain ⟨F, hW, h0⟩ := h; refine ol_a rfl ?_; exact ol_fin hr ⟨F, hW, h0⟩
  refine Ref.seq (B := G1 w0 F0) ?_ ?_
  · refine Ref.region (fun s ρ w s' h hr => ?_); obtain ⟨F, hW, h0⟩ := h; refine ol_a rfl ?_; exact ol_fin hr ⟨F, hW, h0, (OwnV.nil kStr 9 (Bs w0 nrow) F w)⟩
  refine Ref.seq (B := G4 w0 F0) ?_ ?_
  · refine Ref.seq (B := G2 w0 F0) ?_ ?_
    · refine Ref.region (fun s ρ w s' h hr => ?_); obtain ⟨F, hW, h0, h3⟩ := h; refine ol_m h0 ?_; refine ol_v (e_lenS (by kernel_rfl) rfl) rfl ?_; refine ol_v (e_sub rfl rfl) rfl ?_; refine ol_v (e_max rfl rfl) rfl ?_; refine ol_m rfl ?_; exact ol_fin hr ⟨F, hW, h0, h3, rfl, rfl⟩
    refine Ref.block ?_; refine Ref.loop ?_; refine Ref.seq (B := G3 w0 F0) ?_ ?_
    · refine Ref.region (fun s ρ w s' h hr => ?_); obtain ⟨F, hW, h0, h3, h8, h9⟩ := h; refine ol_v (e_lss h9 h8) rfl ?_; exact ol_fin hr ⟨F, hW, h0, h3, h8, h9, rfl⟩
    refine Ref.seq (B := G2 w0 F0) ?_ ?_
    · refine Ref.condP (b := fun s => s.t_10) (L := G2 w0 F0) (K := G4 w0 F0) ?_ ?_ ?_
      · rintro s ρ w ⟨F, hW, h0, h3, h8, h9, h10⟩; exact ⟨h10, ⟨F, hW, h0, h3, h8, h9⟩, F, hW, h3⟩
      · exact Ref.skip
      · exact Ref.exit (fun s ρ w h => h)
    refine Ref.seq (B := G2 w0 F0) ?_ ?_
    · refine Ref.block ?_; refine Ref.seq (B := G5 w0 F0) ?_ ?_
      · refine Ref.region (fun s ρ w s' h hr => ?_); obtain ⟨F, hW, h0, h3, h8, h9⟩ := h; refine ol_m h9 ?_; refine ol_a rfl ?_; exact ol_fin hr ⟨F, hW, h0, h3, rfl, h8, h9⟩
      refine Ref.region (fun s ρ w s' h hr => ?_); obtain ⟨F, hW, h0, h3, h4, h8, h9⟩ := h; refine ol_m rfl ?_; refine ol_m h0 ?_; refine ol_m h4 ?_; refine ol_m h4 ?_; refine ol_v (e_add rfl rfl) rfl ?_; obtain ⟨x1, hx1, hr⟩ := bind_some' hr; refine ol_v (e_cutS (by kernel_rfl) rfl rfl rfl hx1) rfl ?_; refine ol_e (f_bslF sl_22 hW ([x1] : List ByteArray) [.string x1] (by exact ⟨_, _, rfl, (val_str _), rfl⟩) rfl (Nat.le_of_ble_eq_true rfl) (lcons (congrArg (Prod.mk 0) rfl) rfl)) rfl rfl ?_; rintro v2 w3 ⟨Fz5, kw1, ho4⟩; have hW6 := hW.trans kw1; have st1 := kw1.stp hW.ok; obtain ⟨x7, hx7, hr⟩ := bind_some' hr; refine ol_e (f_app sl_22 hW6 (h3.wk kw1 hW.ok) ho4 hx7 rfl rfl) rfl rfl ?_; rintro v8 w9 ⟨hW10, ho11, hg2, st2, hor12⟩; refine ol_a rfl ?_; exact ol_fin hr ⟨Fz5, hW10, h0, ho11, h8, h9⟩
    refine Ref.region (fun s ρ w s' h hr => ?_); obtain ⟨F, hW, h0, h3, h8, h9⟩ := h; refine ol_v (e_add h9 rfl) rfl ?_; refine ol_m rfl ?_; exact ol_fin hr ⟨F, hW, h0, h3, h8, rfl⟩
  refine Ref.seq (B := G4 w0 F0) ?_ ?_
  · refine Ref.region (fun s ρ w s' h hr => ?_); obtain ⟨F, hW, h3⟩ := h; refine ol_m rfl ?_; obtain ⟨x13, hx13, hr⟩ := bind_some' hr; refine ol_e (f_call [(ρ 3)] fn_48 (lcons rfl rfl) (SortS.calls hW.ok (OwnV.rebase h3 (fun _ _ => trivial)) hx13)) rfl rfl ?_; rintro _ w14 ⟨Fz15, rfl, kw1, hk16⟩; have hB18 := fun g hg => (OwnV.lt h3 (g := g) hg).1; have st1 := kw1.stpR hW.ok (fun g hg => (OwnV.lt h3 hg).2.1); have hW17 := hW.transR kw1 hB18; exact ol_fin hr ⟨Fz15, hW17, (hk16.rebase hB18)⟩
  refine Ref.seq (B := G6 w0 F0) ?_ ?_
  · refine Ref.region (fun s ρ w s' h hr => ?_); obtain ⟨F, hW, h3⟩ := h; refine ol_m rfl ?_; obtain ⟨x19, hx19, hr⟩ := bind_some' hr; refine ol_e (f_call [(ρ 3)] fn_49 (lcons rfl rfl) (CompactS.calls hW.ok (OwnV.rebase h3 (fun _ _ => trivial)) hx19)) rfl rfl ?_; rintro v22 w20 ⟨Fz21, _, rfl, kw1, hk23⟩; have hB26 := fun g hg => (OwnV.lt h3 (g := g) hg).1; have st1 := kw1.stpR hW.ok (fun g hg => (OwnV.lt h3 hg).2.1); have hW25 := hW.transR kw1 hB26; refine ol_a rfl ?_; exact ol_fin hr ⟨Fz21, hW25, (hk23.rebase (fun g_ hg_ => (hk23.lt hg_).1.elim (fun h_ => .inl (Nat.le_trans hW.le h_)) (fun h_ => hB26 g_ h_)))⟩
  exact Ref.ret (fun s ρ w h => ⟨s, rfl, h⟩)
def post (w : World) (F : BSet) (r : R) (v : Value) (w' : World) : Prop := ∃ (F' : BSet) (v0' : Value), v = v0' ∧ Wk nrow w F F' w' ∧ OwnV kStr 9 (Nw w) F' w' v0' r
theorem calls {w : World} {F : BSet} (hok : ∀ b, F b → b < w.heap.size) (a0 : ByteArray) {r : R} (hf : f a0 = some r) : Calls Try.prog 36 #[.string a0] w fun e w' => ∃ v, e = .returned v ∧ post w F r v w' := by
  obtain ⟨c, hc, href⟩ := ref w F; refine calls_of_ref (args := [.string a0]) _ Try.func36 hc rfl rfl href ?_ (retOf_some hf) ?_
  · exact ⟨F, Wk.refl hok, rfl⟩
  · rintro ρ w' a ⟨s, rfl, F', hW, h2⟩ hF; refine ⟨_, run_results (rs := [.tmp 2]) rfl hF (vs := [ρ 2]) (⟨_, rfl, rfl⟩), ?_⟩; exact ⟨F', ρ 2, rfl, hW, h2.rebase (fun g hg => (h2.lt hg).1.resolve_right (fun h => h))⟩
end
end trigram_grams

namespace slices_BinarySearchFunc_api_Posting_api_Posting_string
section
abbrev c0 (F : BSet) (w : World) (ρ : Env) (s : S) (X : Prop) : Prop := SlR k_Posting F w (ρ 0) s.x_0 ∧ ρ 1 = .string s.target_1 ∧ Val (kFn Try.prog (ra2 k_Posting kStr) (fun r => (.int .i64 r : Value))) F w (ρ 2) s.cmp_2 ∧ X
abbrev c1 (ρ : Env) (s : S) (X : Prop) : Prop := ρ 8 = .int .i64 s.n_8 ∧ X
abbrev c2 (ρ : Env) (s : S) (X : Prop) : Prop := ρ 9 = .int .i64 s.i_9 ∧ X
def G0 : GT S := fun w0 F0 s ρ w => ∃ F, Wk nrow w0 F0 F w ∧ SlR k_Posting F w (ρ 0) s.x_0 ∧ ρ 1 = .string s.target_1 ∧ Val (kFn Try.prog (ra2 k_Posting kStr) (fun r => (.int .i64 r : Value))) F w (ρ 2) s.cmp_2
def G1 : GT S := fun w0 F0 s ρ w => ∃ F, Wk nrow w0 F0 F w ∧ c0 F w ρ s (ρ 8 = .int .i64 s.n_8)
def G2 : GT S := fun w0 F0 s ρ w => ∃ F, Wk nrow w0 F0 F w ∧ c0 F w ρ s (c1 ρ s (c2 ρ s (ρ 10 = .int .i64 s.j_10)))
def G3 : GT S := fun w0 F0 s ρ w => ∃ F, Wk nrow w0 F0 F w ∧ c0 F w ρ s (c1 ρ s (c2 ρ s (ρ 10 = .int .i64 s.j_10 ∧ ρ 17 = .bool s.t_17)))
def G4 : GT S := fun w0 F0 s ρ w => ∃ F, Wk nrow w0 F0 F w ∧ c0 F w ρ s (c1 ρ s (ρ 9 = .int .i64 s.i_9))
def G5 : GT S := fun w0 F0 s ρ w => ∃ F, Wk nrow w0 F0 F w ∧ c0 F w ρ s (c1 ρ s (c2 ρ s (ρ 10 = .int .i64 s.j_10 ∧ ρ 11 = .int .i64 s.h_11)))
def G6 : GT S := fun w0 F0 s ρ w => ∃ F, Wk nrow w0 F0 F w ∧ c0 F w ρ s (c1 ρ s (c2 ρ s (ρ 10 = .int .i64 s.j_10 ∧ ρ 11 = .int .i64 s.h_11 ∧ ρ 31 = .bool s.t_31)))
def G7 : GT S := fun w0 F0 s ρ w => ∃ F, Wk nrow w0 F0 F w ∧ c0 F w ρ s (c1 ρ s (ρ 10 = .int .i64 s.j_10 ∧ ρ 11 = .int .i64 s.h_11))
def G8 : GT S := fun w0 F0 s ρ w => ∃ F, Wk nrow w0 F0 F w ∧ c0 F w ρ s (c1 ρ s (c2 ρ s (ρ 11 = .int .i64 s.h_11)))
def G9 : GT S := fun w0 F0 s ρ w => ∃ F, Wk nrow w0 F0 F w ∧ ρ 6 = .int .i64 s.t_6 ∧ ρ 7 = .bool s.t_7
set_option maxHeartbeats 4000000 in
set_option maxRecDepth 20000 in
theorem ref (w0 : World) (F0 : BSet) : ∃ c, Try.f50.body = some c ∧ Ref Try.prog 49 c (G0 w0 F0) body (fun _ _ _ => False) (fun _ _ _ _ => False) (fun r ρ w => ∃ s, retv s = r ∧ G9 w0 F0 s ρ w) := by
  refine ⟨_, rfl, ?_⟩; unfold body; refine Ref.seq (B := G0 w0 F0) ?_ ?_
  · refine Ref.region (fun s ρ w s' h hr => ?_); obtain ⟨F, hW, h0, h1, h2⟩ := h; refine ol_a rfl ?_; refine ol_a rfl ?_; exact ol_fin hr ⟨F, hW, h0, h1, h2⟩
  refine Ref.seq (B := G1 w0 F0) ?_ ?_
  · refine Ref.region (fun s ρ w s' h hr => ?_); obtain ⟨F, hW, h0, h1, h2⟩ := h; refine ol_m rfl ?_; obtain ⟨A1, c2, e3, hc4, R5⟩ := id h0; refine ol_v (e_len (SlT.sl sl_25) e3) rfl ?_; refine ol_a rfl ?_; exact ol_fin hr ⟨F, hW, h0, h1, h2, rfl⟩
  refine Ref.seq (B := G2 w0 F0) ?_ ?_
  · refine Ref.region (fun s ρ w s' h hr => ?_); obtain ⟨F, hW, h0, h1, h2, h8⟩ := h; refine ol_m h8 ?_; refine ol_a rfl ?_; refine ol_a rfl ?_; exact ol_fin hr ⟨F, hW, h0, h1, h2, h8, rfl, rfl⟩
  refine Ref.seq (B := G4 w0 F0) ?_ ?_
  · refine Ref.block ?_; refine Ref.loop ?_; refine Ref.seq (B := G2 w0 F0) ?_ ?_
    · refine Ref.seq (B := G3 w0 F0) ?_ ?_
      · refine Ref.region (fun s ρ w s' h hr => ?_); obtain ⟨F, hW, h0, h1, h2, h8, h9, h10⟩ := h; refine ol_m h9 ?_; refine ol_m h10 ?_; refine ol_v (e_lss rfl rfl) rfl ?_; exact ol_fin hr ⟨F, hW, h0, h1, h2, h8, h9, h10, rfl⟩
      refine Ref.condP (b := fun s => s.t_17) (L := G2 w0 F0) (K := G4 w0 F0) ?_ ?_ ?_
      · rintro s ρ w ⟨F, hW, h0, h1, h2, h8, h9, h10, h17⟩; exact ⟨h17, ⟨F, hW, h0, h1, h2, h8, h9, h10⟩, F, hW, h0, h1, h2, h8, h9⟩
      · exact Ref.skip
      · exact Ref.exit (fun s ρ w h => h)
    refine Ref.block ?_; refine Ref.seq (B := G5 w0 F0) ?_ ?_
    · refine Ref.region (fun s ρ w s' h hr => ?_); obtain ⟨F, hW, h0, h1, h2, h8, h9, h10⟩ := h; refine ol_m h9 ?_; refine ol_m h10 ?_; refine ol_v (e_add rfl rfl) rfl ?_; refine ol_v (e_conv (k := .u64) (by kernel_rfl) (by kernel_rfl) rfl) rfl ?_; refine ol_v (e_shrV rfl rfl (by decide)) rfl ?_; refine ol_v (e_conv (k := .i64) (by kernel_rfl) (by kernel_rfl) rfl) rfl ?_; refine ol_a rfl ?_; exact ol_fin hr ⟨F, hW, h0, h1, h2, h8, h9, h10, rfl⟩
    refine Ref.seq (B := G6 w0 F0) ?_ ?_
    · refine Ref.region (fun s ρ w s' h hr => ?_); obtain ⟨F, hW, h0, h1, h2, h8, h9, h10, h11⟩ := h; refine ol_m rfl ?_; refine ol_m rfl ?_; refine ol_m h11 ?_; obtain ⟨x6, hx6, hr⟩ := bind_some' hr; obtain ⟨A7, c8, e9, hc10, R11⟩ := id h0; obtain ⟨b12, o13, hA14, L15⟩ := Row.at_ R11 hx6; refine ol_v (e_ix (SlT.sl sl_25) (SlT.sz sl_25) hA14 hx6 e9 rfl) rfl ?_; obtain ⟨v16, hl17⟩ := LiesAt.v L15.at_; refine ol_v (e_ld ty_55 hl17 rfl) rfl ?_; refine ol_m h1 ?_; obtain ⟨x18, hx18, hr⟩ := bind_some' hr; refine ol_e (f_callV [v16, .string s.target_1] h2 hW.ok rfl (lcons rfl (lcons rfl rfl)) ⟨_, _, rfl, hl17.val, (val_str _)⟩ hx18) rfl rfl ?_; rintro _ w19 ⟨rfl, kw1⟩; have hW20 := hW.trans kw1; have st1 := kw1.stp hW.ok; refine ol_v (e_lss rfl rfl) rfl ?_; exact ol_fin hr ⟨F, hW20, (h0.keep st1), h1, (h2.keep st1), h8, h9, h10, h11, rfl⟩
    refine Ref.condP (b := fun s => s.t_31) (L := G7 w0 F0) (K := G8 w0 F0) ?_ ?_ ?_
    · rintro s ρ w ⟨F, hW, h0, h1, h2, h8, h9, h10, h11, h31⟩; exact ⟨h31, ⟨F, hW, h0, h1, h2, h8, h10, h11⟩, F, hW, h0, h1, h2, h8, h9, h11⟩
    · refine Ref.region (fun s ρ w s' h hr => ?_); obtain ⟨F, hW, h0, h1, h2, h8, h10, h11⟩ := h; refine ol_m h11 ?_; refine ol_v (e_add rfl rfl) rfl ?_; refine ol_a rfl ?_; exact ol_fin hr ⟨F, hW, h0, h1, h2, h8, rfl, h10⟩
    · refine Ref.region (fun s ρ w s' h hr => ?_); obtain ⟨F, hW, h0, h1, h2, h8, h9, h11⟩ := h; refine ol_m h11 ?_; refine ol_a rfl ?_; exact ol_fin hr ⟨F, hW, h0, h1, h2, h8, h9, rfl⟩
  refine Ref.seq (B := G9 w0 F0) ?_ ?_
  · refine Ref.region (fun s ρ w s' h hr => ?_); obtain ⟨F, hW, h0, h1, h2, h8, h9⟩ := h; refine ol_m h9 ?_; refine ol_m h9 ?_; refine ol_m h8 ?_; refine ol_v (e_lss rfl rfl) rfl ?_; obtain ⟨x38, hx39, hr⟩ := bind_some' hr; refine ol_cutA 10 39 48 (fun ρ' w' => ∃ F', Wk nrow w F F' w' ∧ ρ' 48 = .bool x38) rfl ?_ ?_
    · by_cases hb21 : (decide (s.i_9 < s.n_8)) = true
      · have hr := hx39; rw [if_pos hb21] at hr; refine ol_m rfl ?_; refine ol_yes rfl rfl (congrArg Value.bool hb21) ?_; refine ol_m rfl ?_; refine ol_yes rfl rfl (congrArg Value.bool hb21) ?_; refine ol_m rfl ?_; refine ol_yes rfl rfl (congrArg Value.bool hb21) ?_; refine ol_m h9 ?_; refine ol_yes rfl rfl (congrArg Value.bool hb21) ?_; obtain ⟨x23, hx23, hr⟩ := bind_some' hr; obtain ⟨A24, c25, e26, hc27, R28⟩ := id h0; obtain ⟨b29, o30, hA31, L32⟩ := Row.at_ R28 hx23; refine ol_v (e_ix (SlT.sl sl_25) (SlT.sz sl_25) hA31 hx23 e26 rfl) rfl ?_; refine ol_yes rfl rfl (congrArg Value.bool hb21) ?_; obtain ⟨v33, hl34⟩ := LiesAt.v L32.at_; refine ol_v (e_ld ty_55 hl34 rfl) rfl ?_; refine ol_yes rfl rfl (congrArg Value.bool hb21) ?_; refine ol_m h1 ?_; refine ol_yes rfl rfl (congrArg Value.bool hb21) ?_; obtain ⟨x35, hx35, hr⟩ := bind_some' hr; refine ol_e (f_callV [v33, .string s.target_1] h2 hW.ok rfl (lcons rfl (lcons rfl rfl)) ⟨_, _, rfl, hl34.val, (val_str _)⟩ hx35) rfl rfl ?_; rintro _ w36 ⟨rfl, kw1⟩; have hW37 := hW.trans kw1; have st1 := kw1.stp hW.ok; refine ol_yes rfl rfl (congrArg Value.bool hb21) ?_; refine ol_v (e_eql rfl rfl) rfl ?_; refine ol_v (e_pick true _ (congrArg Value.bool hb21) rfl) rfl ?_; exact ol_nil ⟨⟨_, kw1, (congrArg Value.bool (Option.some.inj hr))⟩, (Agr.refl _ _ _).u.u.u.u.u.u.u.u.u.u⟩
      · have hb22 := Bool.eq_false_iff.mpr hb21; have hr := hx39; rw [if_neg hb21] at hr; refine ol_m rfl ?_; refine ol_not rfl rfl rfl (congrArg Value.bool hb22) rfl ?_; refine ol_not rfl rfl rfl (congrArg Value.bool hb22) rfl ?_; refine ol_not rfl rfl rfl (congrArg Value.bool hb22) rfl ?_; refine ol_not rfl rfl rfl (congrArg Value.bool hb22) rfl ?_; refine ol_not rfl rfl rfl (congrArg Value.bool hb22) rfl ?_; refine ol_not rfl rfl rfl (congrArg Value.bool hb22) rfl ?_; refine ol_not rfl rfl rfl (congrArg Value.bool hb22) rfl ?_; refine ol_not rfl rfl rfl (congrArg Value.bool hb22) rfl ?_; refine ol_v (e_pick false _ (congrArg Value.bool hb22) rfl) rfl ?_; exact ol_nil ⟨⟨_, Wk.refl hW.ok, (congrArg Value.bool (Option.some.inj hr))⟩, (Agr.refl _ _ _).u.u.u.u.u.u.u.u.u.u⟩
    rintro ρ39 w40 ⟨⟨Fz41, kw1, hp39⟩, hAg39⟩; have hW42 := hW.trans kw1; have st1 := kw1.stp hW.ok; refine ol_v (e_as _ (hAg39 35 rfl)) rfl ?_; refine ol_a hp39 ?_; exact ol_fin hr ⟨Fz41, hW42, rfl, rfl⟩
  exact Ref.ret (fun s ρ w h => ⟨s, rfl, h⟩)
def post (w : World) (F : BSet) (r : R) (v : Value) (w' : World) : Prop := ∃ (F' : BSet), v = .tuple #[.int .i64 r.1, .bool r.2] ∧ Wk nrow w F F' w'
theorem calls {w : World} {F : BSet} (hok : ∀ b, F b → b < w.heap.size) {v0 : Value} {a0 : (List Posting)} (h0 : SlR k_Posting F w v0 a0) (a1 : ByteArray) {v2 : Value} {a2 : (Posting × ByteArray → Option Int)} (h2 : Val (kFn Try.prog (ra2 k_Posting kStr) (fun r => (.int .i64 r : Value))) F w v2 a2) {r : R} (hf : f a0 a1 a2 = some r) : Calls Try.prog 50 #[v0, .string a1, v2] w fun e w' => ∃ v, e = .returned v ∧ post w F r v w' := by
  obtain ⟨c, hc, href⟩ := ref w F; refine calls_of_ref (args := [v0, .string a1, v2]) _ Try.func50 hc rfl rfl href ?_ (retOf_some hf) ?_
  · exact ⟨F, Wk.refl hok, h0, rfl, h2⟩
  · rintro ρ w' a ⟨s, rfl, F', hW, h6, h7⟩ hF; refine ⟨_, run_results (rs := [.tmp 6, .tmp 7]) rfl hF (vs := [ρ 6, ρ 7]) (⟨_, rfl, ⟨_, rfl, rfl⟩⟩), ?_⟩; have hv : resVal [ρ 6, ρ 7] = .tuple #[.int .i64 s.t_6, .bool s.t_7] := by rw [h6, h7]; rfl
    exact ⟨F', hv, hW⟩
end
end slices_BinarySearchFunc_api_Posting_api_Posting_string

namespace trigram_find_1
section
def G0 : GT S := fun w0 F0 s ρ w => ∃ F, Wk nrow w0 F0 F w ∧ Val k_Posting F w (ρ 0) s.p_0 ∧ ρ 1 = .string s.g_1
def G1 : GT S := fun w0 F0 s ρ w => ∃ F, Wk nrow w0 F0 F w ∧ ∃ g2, ρ 1 = .string s.g_1 ∧ ρ 2 = .pointer (some ⟨g2, 0, none⟩) ∧ Box k_Posting 55 (Bs w0 nrow) F w g2 s.p_2
def G2 : GT S := fun w0 F0 s ρ w => ∃ F, Wk nrow w0 F0 F w ∧ ρ 4 = .int .i64 s.t_4
set_option maxHeartbeats 4000000 in
set_option maxRecDepth 20000 in
theorem ref (w0 : World) (F0 : BSet) : ∃ c, Try.f51.body = some c ∧ Ref Try.prog 9 c (G0 w0 F0) body (fun _ _ _ => False) (fun _ _ _ _ => False) (fun r ρ w => ∃ s, retv s = r ∧ G2 w0 F0 s ρ w) := by
  refine ⟨_, rfl, ?_⟩; unfold body; refine Ref.seq (B := G1 w0 F0) ?_ ?_
  · refine Ref.region (fun s ρ w s' h hr => ?_); obtain ⟨F, hW, h0, h1⟩ := h; refine ol_e (f_box hW rfl h0) rfl rfl ?_; rintro _ w2 ⟨g1, rfl, kw1, ho3⟩; have hW4 := hW.trans kw1; have st1 := kw1.stp hW.ok; refine ol_a rfl ?_; exact ol_fin hr ⟨F, hW4, g1, h1, rfl, (ho3.base (row := nrow) hW.le)⟩
  refine Ref.seq (B := G2 w0 F0) ?_ ?_
  · refine Ref.region (fun s ρ w s' h hr => ?_); obtain ⟨F, hW, g2, h1, p2, h2⟩ := h; refine ol_v (e_fa fa_55_0 p2) rfl ?_; refine ol_v (e_ld ty_9 (LiesV.str ((h2).at_.fld fl_Posting_0)) rfl) rfl ?_; refine ol_m h1 ?_; obtain ⟨x5, hx5, hr⟩ := bind_some' hr; refine ol_e (f_call [.string s.p_2.Gram, .string s.g_1] fn_52 (lcons rfl (lcons rfl rfl)) (CompareS.calls hW.ok s.p_2.Gram s.g_1 hx5)) rfl rfl ?_; rintro _ w6 ⟨Fz7, rfl, kw1⟩; have hW9 := hW.trans kw1; have st1 := kw1.stp hW.ok; refine ol_a rfl ?_; exact ol_fin hr ⟨Fz7, hW9, rfl⟩
  exact Ref.ret (fun s ρ w h => ⟨s, rfl, h⟩)
def post (w : World) (F : BSet) (r : R) (v : Value) (w' : World) : Prop := ∃ (F' : BSet), v = .int .i64 r ∧ Wk nrow w F F' w'
theorem calls {w : World} {F : BSet} (hok : ∀ b, F b → b < w.heap.size) {v0 : Value} {a0 : Posting} (h0 : Val k_Posting F w v0 a0) (a1 : ByteArray) {r : R} (hf : f a0 a1 = some r) : Calls Try.prog 51 #[v0, .string a1] w fun e w' => ∃ v, e = .returned v ∧ post w F r v w' := by
  obtain ⟨c, hc, href⟩ := ref w F; refine calls_of_ref (args := [v0, .string a1]) _ Try.func51 hc rfl rfl href ?_ (retOf_some hf) ?_
  · exact ⟨F, Wk.refl hok, h0, rfl⟩
  · rintro ρ w' a ⟨s, rfl, F', hW, h4⟩ hF; refine ⟨_, run_results (rs := [.tmp 4]) rfl hF (vs := [ρ 4]) (⟨_, rfl, rfl⟩), ?_⟩; have hv : resVal [ρ 4] = .int .i64 s.t_4 := by rw [h4]; rfl
    exact ⟨F', hv, hW⟩
theorem fnv {w : World} {F : BSet}  : FnV Try.prog (ra2 k_Posting kStr) (fun r => (.int .i64 r : Value)) F w (.func (.func 51) #[] #[]) (fun x => f x.1 x.2) := by
  refine ⟨51, _, rfl, fn_51, fun F' W st ok vs x r hra hg => ?_⟩; obtain ⟨v0, v1, rfl, k0, k1⟩ := hra; obtain rfl := eqv_str k1; have e_ : ([v0, .string x.2] : List Value).toArray ++ (#[] : Array Value) = #[v0, .string x.2] := by simp
  rw [e_]; refine (calls ok k0 x.2 hg).mono ?_; rintro e W' ⟨v, rfl, F'', rfl, hk⟩; exact ⟨_, rfl, rfl, F'', hk⟩
end
end trigram_find_1

namespace trigram_find
section
def G0 : GT S := fun w0 F0 s ρ w => ∃ F, Wk nrow w0 F0 F w ∧ Val k_TrigramIndex F w (ρ 0) s.x_0 ∧ ρ 1 = .string s.gram_1
def G1 : GT S := fun w0 F0 s ρ w => ∃ F, Wk nrow w0 F0 F w ∧ ∃ g2, ρ 1 = .string s.gram_1 ∧ ρ 2 = .pointer (some ⟨g2, 0, none⟩) ∧ Box k_TrigramIndex 27 (Bs w0 nrow) F w g2 s.x_2
def G2 : GT S := fun w0 F0 s ρ w => ∃ F, Wk nrow w0 F0 F w ∧ ρ 4 = .int .i64 s.t_4 ∧ ρ 5 = .bool s.t_5
set_option maxHeartbeats 4000000 in
set_option maxRecDepth 20000 in
theorem ref (w0 : World) (F0 : BSet) : ∃ c, Try.f37.body = some c ∧ Ref Try.prog 12 c (G0 w0 F0) body (fun _ _ _ => False) (fun _ _ _ _ => False) (fun r ρ w => ∃ s, retv s = r ∧ G2 w0 F0 s ρ w) := by
  refine ⟨_, rfl, ?_⟩; unfold body; refine Ref.seq (B := G1 w0 F0) ?_ ?_
  · refine Ref.region (fun s ρ w s' h hr => ?_); obtain ⟨F, hW, h0, h1⟩ := h; refine ol_e (f_box hW rfl h0) rfl rfl ?_; rintro _ w2 ⟨g1, rfl, kw1, ho3⟩; have hW4 := hW.trans kw1; have st1 := kw1.stp hW.ok; refine ol_a rfl ?_; refine ol_a rfl ?_; exact ol_fin hr ⟨F, hW4, g1, h1, rfl, (ho3.base (row := nrow) hW.le)⟩
  refine Ref.seq (B := G2 w0 F0) ?_ ?_
  · refine Ref.region (fun s ρ w s' h hr => ?_); obtain ⟨F, hW, g2, h1, p2, h2⟩ := h; refine ol_v (e_fa fa_27_1 p2) rfl ?_; obtain ⟨v5, hl6, hs7⟩ := LiesV.sl ((h2).at_.fld fl_TrigramIndex_1); refine ol_v (e_ld ty_25 hl6 rfl) rfl ?_; refine ol_m h1 ?_; obtain ⟨x8, hx8, hr⟩ := bind_some' hr; refine ol_e (f_call [v5, .string s.gram_1, .func (.func 51) #[] #[]] fn_50 (lcons rfl (lcons rfl (lcons rfl rfl))) (slices_BinarySearchFunc_api_Posting_api_Posting_string.calls hW.ok hs7 s.gram_1 (val_fn trigram_find_1.fnv) hx8)) rfl rfl ?_; rintro _ w9 ⟨Fz10, rfl, kw1⟩; have hW12 := hW.trans kw1; have st1 := kw1.stp hW.ok; refine ol_v (e_ext _ rfl rfl) rfl ?_; refine ol_v (e_ext _ rfl rfl) rfl ?_; refine ol_a rfl ?_; refine ol_a rfl ?_; exact ol_fin hr ⟨Fz10, hW12, rfl, rfl⟩
  exact Ref.ret (fun s ρ w h => ⟨s, rfl, h⟩)
def post (w : World) (F : BSet) (r : R) (v : Value) (w' : World) : Prop := ∃ (F' : BSet), v = .tuple #[.int .i64 r.1, .bool r.2] ∧ Wk nrow w F F' w'
theorem calls {w : World} {F : BSet} (hok : ∀ b, F b → b < w.heap.size) {v0 : Value} {a0 : TrigramIndex} (h0 : Val k_TrigramIndex F w v0 a0) (a1 : ByteArray) {r : R} (hf : f a0 a1 = some r) : Calls Try.prog 37 #[v0, .string a1] w fun e w' => ∃ v, e = .returned v ∧ post w F r v w' := by
  obtain ⟨c, hc, href⟩ := ref w F; refine calls_of_ref (args := [v0, .string a1]) _ Try.func37 hc rfl rfl href ?_ (retOf_some hf) ?_
  · exact ⟨F, Wk.refl hok, h0, rfl⟩
  · rintro ρ w' a ⟨s, rfl, F', hW, h4, h5⟩ hF; refine ⟨_, run_results (rs := [.tmp 4, .tmp 5]) rfl hF (vs := [ρ 4, ρ 5]) (⟨_, rfl, ⟨_, rfl, rfl⟩⟩), ?_⟩; have hv : resVal [ρ 4, ρ 5] = .tuple #[.int .i64 s.t_4, .bool s.t_5] := by rw [h4, h5]; rfl
    exact ⟨F', hv, hW⟩
end
end trigram_find

namespace cmp_isNaN_int
section
def G0 : GT S := fun w0 F0 s ρ w => ∃ F, Wk nrow w0 F0 F w ∧ ρ 0 = .int .i64 s.x_0
def G1 : GT S := fun w0 F0 s ρ w => ∃ F, Wk nrow w0 F0 F w ∧ ρ 2 = .bool s.t_2
set_option maxHeartbeats 4000000 in
set_option maxRecDepth 20000 in
theorem ref (w0 : World) (F0 : BSet) : ∃ c, Try.f77.body = some c ∧ Ref Try.prog 6 c (G0 w0 F0) body (fun _ _ _ => False) (fun _ _ _ _ => False) (fun r ρ w => ∃ s, retv s = r ∧ G1 w0 F0 s ρ w) := by
  refine ⟨_, rfl, ?_⟩; unfold body; refine Ref.seq (B := G0 w0 F0) ?_ ?_
  · refine Ref.region (fun s ρ w s' h hr => ?_); obtain ⟨F, hW, h0⟩ := h; refine ol_a rfl ?_; exact ol_fin hr ⟨F, hW, h0⟩
  refine Ref.seq (B := G1 w0 F0) ?_ ?_
  · refine Ref.region (fun s ρ w s' h hr => ?_); obtain ⟨F, hW, h0⟩ := h; refine ol_m h0 ?_; refine ol_m h0 ?_; refine ol_v (e_neq rfl rfl) rfl ?_; refine ol_a rfl ?_; exact ol_fin hr ⟨F, hW, rfl⟩
  exact Ref.ret (fun s ρ w h => ⟨s, rfl, h⟩)
def post (w : World) (F : BSet) (r : R) (v : Value) (w' : World) : Prop := ∃ (F' : BSet), v = .bool r ∧ Wk nrow w F F' w'
theorem calls {w : World} {F : BSet} (hok : ∀ b, F b → b < w.heap.size) (a0 : Int) {r : R} (hf : f a0 = some r) : Calls Try.prog 77 #[.int .i64 a0] w fun e w' => ∃ v, e = .returned v ∧ post w F r v w' := by
  obtain ⟨c, hc, href⟩ := ref w F; refine calls_of_ref (args := [.int .i64 a0]) _ Try.func77 hc rfl rfl href ?_ (retOf_some hf) ?_
  · exact ⟨F, Wk.refl hok, rfl⟩
  · rintro ρ w' a ⟨s, rfl, F', hW, h2⟩ hF; refine ⟨_, run_results (rs := [.tmp 2]) rfl hF (vs := [ρ 2]) (⟨_, rfl, rfl⟩), ?_⟩; have hv : resVal [ρ 2] = .bool s.t_2 := by rw [h2]; rfl
    exact ⟨F', hv, hW⟩
end
end cmp_isNaN_int

namespace cmp_Less_int
section
def G0 : GT S := fun w0 F0 s ρ w => ∃ F, Wk nrow w0 F0 F w ∧ ρ 0 = .int .i64 s.x_0 ∧ ρ 1 = .int .i64 s.y_1
def G1 : GT S := fun w0 F0 s ρ w => ∃ F, Wk nrow w0 F0 F w ∧ ρ 4 = .bool s.t_4
set_option maxHeartbeats 4000000 in
set_option maxRecDepth 20000 in
theorem ref (w0 : World) (F0 : BSet) : ∃ c, Try.f60.body = some c ∧ Ref Try.prog 17 c (G0 w0 F0) body (fun _ _ _ => False) (fun _ _ _ _ => False) (fun r ρ w => ∃ s, retv s = r ∧ G1 w0 F0 s ρ w) := by
  refine ⟨_, rfl, ?_⟩; unfold body; refine Ref.seq (B := G0 w0 F0) ?_ ?_
  · refine Ref.region (fun s ρ w s' h hr => ?_); obtain ⟨F, hW, h0, h1⟩ := h; refine ol_a rfl ?_; exact ol_fin hr ⟨F, hW, h0, h1⟩
  refine Ref.seq (B := G1 w0 F0) ?_ ?_
  · refine Ref.region (fun s ρ w s' h hr => ?_); obtain ⟨F, hW, h0, h1⟩ := h; refine ol_m h0 ?_; obtain ⟨x1, hx1, hr⟩ := bind_some' hr; refine ol_e (f_call [.int .i64 s.x_0] fn_77 (lcons rfl rfl) (cmp_isNaN_int.calls hW.ok s.x_0 hx1)) rfl rfl ?_; rintro _ w2 ⟨Fz3, rfl, kw1⟩; have hW5 := hW.trans kw1; have st1 := kw1.stp hW.ok; obtain ⟨x13, hx14, hr⟩ := bind_some' hr; refine ol_cutA 5 7 11 (fun ρ' w' => ∃ F', Wk nrow w2 Fz3 F' w' ∧ ρ' 11 = .bool x13) rfl ?_ ?_
    · by_cases hb6 : x1 = true
      · have hr := hx14; rw [if_pos hb6] at hr; refine ol_m rfl ?_; refine ol_yes rfl rfl (congrArg Value.bool hb6) ?_; refine ol_m h1 ?_; refine ol_yes rfl rfl (congrArg Value.bool hb6) ?_; obtain ⟨x8, hx8, hr⟩ := bind_some' hr; refine ol_e (f_call [.int .i64 s.y_1] fn_77 (lcons rfl rfl) (cmp_isNaN_int.calls hW5.ok s.y_1 hx8)) rfl rfl ?_; rintro _ w9 ⟨Fz10, rfl, kw2⟩; have hW12 := hW5.trans kw2; have st2 := kw2.stp hW5.ok; refine ol_yes rfl rfl (congrArg Value.bool hb6) ?_; refine ol_v (e_not_ rfl) rfl ?_; refine ol_v (e_pick true _ (congrArg Value.bool hb6) rfl) rfl ?_; exact ol_nil ⟨⟨_, kw2, (congrArg Value.bool (Option.some.inj hr))⟩, (Agr.refl _ _ _).u.u.u.u.u⟩
      · have hb7 := Bool.eq_false_iff.mpr hb6; have hr := hx14; rw [if_neg hb6] at hr; refine ol_m rfl ?_; refine ol_not rfl rfl rfl (congrArg Value.bool hb7) rfl ?_; refine ol_not rfl rfl rfl (congrArg Value.bool hb7) rfl ?_; refine ol_not rfl rfl rfl (congrArg Value.bool hb7) rfl ?_; refine ol_v (e_pick false _ (congrArg Value.bool hb7) rfl) rfl ?_; exact ol_nil ⟨⟨_, Wk.refl hW5.ok, (congrArg Value.bool (Option.some.inj hr))⟩, (Agr.refl _ _ _).u.u.u.u.u⟩
    rintro ρ14 w15 ⟨⟨Fz16, kw2, hp14⟩, hAg14⟩; have hW17 := hW5.trans kw2; have st2 := kw2.stp hW5.ok; refine ol_cutA 5 12 16 (fun ρ' w' => w15 = w' ∧ ρ' 16 = .bool (x13 || (decide (s.x_0 < s.y_1)))) rfl ?_ ?_
    · by_cases hb18 : x13 = true
      · refine ol_m hp14 ?_; refine ol_not rfl rfl rfl (congrArg Value.bool hb18) rfl ?_; refine ol_not rfl rfl rfl (congrArg Value.bool hb18) rfl ?_; refine ol_not rfl rfl rfl (congrArg Value.bool hb18) rfl ?_; refine ol_v (e_pick true _ (congrArg Value.bool hb18) rfl) rfl ?_; exact ol_nil ⟨⟨rfl, (bv_or_t hb18)⟩, (Agr.refl _ _ _).u.u.u.u.u⟩
      · have hb19 := Bool.eq_false_iff.mpr hb18; refine ol_m hp14 ?_; refine ol_yes rfl rfl (congrArg Value.bool hb19) ?_; refine ol_v (e_mv _ ((hAg14 0 rfl).trans h0)) rfl ?_; refine ol_yes rfl rfl (congrArg Value.bool hb19) ?_; refine ol_v (e_mv _ ((hAg14 1 rfl).trans h1)) rfl ?_; refine ol_yes rfl rfl (congrArg Value.bool hb19) ?_; refine ol_v (e_lss rfl rfl) rfl ?_; refine ol_v (e_pick false _ (congrArg Value.bool hb19) rfl) rfl ?_; exact ol_nil ⟨⟨rfl, (bv_or_f hb19)⟩, (Agr.refl _ _ _).u.u.u.u.u⟩
    rintro ρ20 _ ⟨⟨rfl, hp20⟩, hAg20⟩; refine ol_a hp20 ?_; exact ol_fin hr ⟨Fz16, hW17, rfl⟩
  exact Ref.ret (fun s ρ w h => ⟨s, rfl, h⟩)
def post (w : World) (F : BSet) (r : R) (v : Value) (w' : World) : Prop := ∃ (F' : BSet), v = .bool r ∧ Wk nrow w F F' w'
theorem calls {w : World} {F : BSet} (hok : ∀ b, F b → b < w.heap.size) (a0 : Int) (a1 : Int) {r : R} (hf : f a0 a1 = some r) : Calls Try.prog 60 #[.int .i64 a0, .int .i64 a1] w fun e w' => ∃ v, e = .returned v ∧ post w F r v w' := by
  obtain ⟨c, hc, href⟩ := ref w F; refine calls_of_ref (args := [.int .i64 a0, .int .i64 a1]) _ Try.func60 hc rfl rfl href ?_ (retOf_some hf) ?_
  · exact ⟨F, Wk.refl hok, rfl, rfl⟩
  · rintro ρ w' a ⟨s, rfl, F', hW, h4⟩ hF; refine ⟨_, run_results (rs := [.tmp 4]) rfl hF (vs := [ρ 4]) (⟨_, rfl, rfl⟩), ?_⟩; have hv : resVal [ρ 4] = .bool s.t_4 := by rw [h4]; rfl
    exact ⟨F', hv, hW⟩
end
end cmp_Less_int

namespace slices_isNaN_int
section
def G0 : GT S := fun w0 F0 s ρ w => ∃ F, Wk nrow w0 F0 F w ∧ ρ 0 = .int .i64 s.x_0
def G1 : GT S := fun w0 F0 s ρ w => ∃ F, Wk nrow w0 F0 F w ∧ ρ 2 = .bool s.t_2
set_option maxHeartbeats 4000000 in
set_option maxRecDepth 20000 in
theorem ref (w0 : World) (F0 : BSet) : ∃ c, Try.f61.body = some c ∧ Ref Try.prog 6 c (G0 w0 F0) body (fun _ _ _ => False) (fun _ _ _ _ => False) (fun r ρ w => ∃ s, retv s = r ∧ G1 w0 F0 s ρ w) := by
  refine ⟨_, rfl, ?_⟩; unfold body; refine Ref.seq (B := G0 w0 F0) ?_ ?_
  · refine Ref.region (fun s ρ w s' h hr => ?_); obtain ⟨F, hW, h0⟩ := h; refine ol_a rfl ?_; exact ol_fin hr ⟨F, hW, h0⟩
  refine Ref.seq (B := G1 w0 F0) ?_ ?_
  · refine Ref.region (fun s ρ w s' h hr => ?_); obtain ⟨F, hW, h0⟩ := h; refine ol_m h0 ?_; refine ol_m h0 ?_; refine ol_v (e_neq rfl rfl) rfl ?_; refine ol_a rfl ?_; exact ol_fin hr ⟨F, hW, rfl⟩
  exact Ref.ret (fun s ρ w h => ⟨s, rfl, h⟩)
def post (w : World) (F : BSet) (r : R) (v : Value) (w' : World) : Prop := ∃ (F' : BSet), v = .bool r ∧ Wk nrow w F F' w'
theorem calls {w : World} {F : BSet} (hok : ∀ b, F b → b < w.heap.size) (a0 : Int) {r : R} (hf : f a0 = some r) : Calls Try.prog 61 #[.int .i64 a0] w fun e w' => ∃ v, e = .returned v ∧ post w F r v w' := by
  obtain ⟨c, hc, href⟩ := ref w F; refine calls_of_ref (args := [.int .i64 a0]) _ Try.func61 hc rfl rfl href ?_ (retOf_some hf) ?_
  · exact ⟨F, Wk.refl hok, rfl⟩
  · rintro ρ w' a ⟨s, rfl, F', hW, h2⟩ hF; refine ⟨_, run_results (rs := [.tmp 2]) rfl hF (vs := [ρ 2]) (⟨_, rfl, rfl⟩), ?_⟩; have hv : resVal [ρ 2] = .bool s.t_2 := by rw [h2]; rfl
    exact ⟨F', hv, hW⟩
end
end slices_isNaN_int

end Go.Proofs.Ytoiafcpnhhplnaa
