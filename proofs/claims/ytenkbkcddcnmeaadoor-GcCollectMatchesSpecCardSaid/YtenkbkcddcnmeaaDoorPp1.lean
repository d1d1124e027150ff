/- Plain laws of stores (out of another seat's texts, by wip/fx/trim.py). -/
import Derived.Test.YtenkbkcddcnmeaaDoorPA
import Derived.Test.YtenkbkcddcnmeaaDoorFx11
import Derived.Test.YtenkbkcddcnmeaaDoorFx10
namespace Go.Proofs.YtenkbkcddcnmeaaDoor
open Go.Fx
set_option linter.unusedVariables false
set_option linter.unusedSimpArgs false

theorem idx_nat' {α : Type} {xs : List α} {i : Nat} (h : i < xs.length) : idx xs (i : Int) = some (xs[i]'h) := idx_of_lt h
theorem w64_succ {i : Nat} (h : i < 9223372036854775807) : w64 ((i : Int) + 1) = ((i + 1 : Nat) : Int) := by
  rw [w64_id (by omega) (by omega)]; omega
theorem u64_id {n : Int} (h0 : 0 ≤ n) (h1 : n ≤ 18446744073709551615) : IntKind.u64.wrap n = n := by rw [IntKind.wrap_u64]; omega
theorem Fault_eq (a b : Int) : ref3_Fault.f a b = some ⟨a, b⟩ := rfl
theorem In_eq (n lo hi : Int) : ref3_In.f n lo hi = some (decide (lo ≤ n ∧ n ≤ hi)) := by
  show some (decide (lo ≤ n) && decide (n ≤ hi)) = _
  rw [Bool.decide_and]
theorem shl3 (n : Int) (h0 : 0 ≤ n) : shlV .u64 n 3 = (n * 8) % 18446744073709551616 := by
  have e : (2 : Int) ^ (min (3 : Int).toNat IntKind.u64.bits) = 8 := by decide
  unfold shlV; rw [e, IntKind.wrap_u64]
theorem shr32 (n : Int) : shrV .u64 n 32 = n / 4294967296 := by
  have e : (2 : Int) ^ (min (32 : Int).toNat IntKind.u64.bits) = 4294967296 := by decide
  unfold shrV; rw [e, Int.fdiv_eq_ediv_of_nonneg _ (by decide)]
theorem shr61 (n : Int) : shrV .u64 n 61 = n / 2305843009213693952 := by
  have e : (2 : Int) ^ (min (61 : Int).toNat IntKind.u64.bits) = 2305843009213693952 := by decide
  unfold shrV; rw [e, Int.fdiv_eq_ediv_of_nonneg _ (by decide)]
theorem shr3 (n : Int) : shrV .u64 n 3 = n / 8 := by
  have e : (2 : Int) ^ (min (3 : Int).toNat IntKind.u64.bits) = 8 := by decide
  unfold shrV; rw [e, Int.fdiv_eq_ediv_of_nonneg _ (by decide)]
theorem bv_toNat (n : Nat) (h : n < 18446744073709551616) : (BitVec.ofInt IntKind.u64.bits (n : Int)).toNat = n := by
  show (BitVec.ofInt 64 (n : Int)).toNat = n
  simp [BitVec.toNat_ofInt]
  omega
theorem and32 (n : Int) (h0 : 0 ≤ n) (h1 : n < 18446744073709551616) : andV .u64 n 4294967295 = n % 4294967296 := by
  obtain ⟨a, rfl⟩ : ∃ a : Nat, n = a := ⟨n.toNat, by omega⟩
  unfold andV
  rw [BitVec.toNat_and, bv_toNat a (by omega), show (4294967295 : Int) = ((4294967295 : Nat) : Int) from rfl, bv_toNat 4294967295 (by omega)]
  rw [show a &&& 4294967295 = a % 4294967296 from Nat.and_two_pow_sub_one_eq_mod a 32, IntKind.wrap_u64]
  omega
theorem or8 (x y : Int) (hx : 0 ≤ x) (hx1 : x ≤ 1000) (hy : 0 ≤ y) (hy1 : y < 8) : orV .u64 (x * 8) y = x * 8 + y := by
  obtain ⟨a, rfl⟩ : ∃ a : Nat, x = a := ⟨x.toNat, by omega⟩
  obtain ⟨b, rfl⟩ : ∃ b : Nat, y = b := ⟨y.toNat, by omega⟩
  unfold orV
  rw [show ((a : Int) * 8) = ((a * 8 : Nat) : Int) by omega, BitVec.toNat_or, bv_toNat _ (by omega), bv_toNat b (by omega)]
  rw [show a * 8 ||| b = a * 8 + b by rw [show a * 8 = 2 ^ 3 * a by omega]; exact (Nat.two_pow_add_eq_or_of_lt (i := 3) (by omega) a).symm, IntKind.wrap_u64]
  omega
theorem Lead_eq : Lead.f 2305843009213693951 = some 3 := by
  unfold Lead.f
  rw [if_pos (by decide)]
  have : Go.Lib.bitLen (2305843009213693951 : Int).toNat = 61 := by decide
  rw [this]; rfl
def DI (u21 u0 Nn : Int) (s : bits_Div64.S) : Prop := s.t_8 = 3 ∧ s.t_2 = 18446744073709551608 ∧ s.t_9 = 4294967295 ∧ s.t_10 = 4294967288 ∧ s.t_14 = u0 ∧ s.t_15 = 0 ∧ s.t_17 = u21 ∧ 0 ≤ s.t_18 ∧ s.t_18 ≤ 2000 ∧ 0 ≤ s.t_16 ∧ s.t_16 < 4294967296 ∧ s.t_18 * 4294967295 + s.t_16 = u21 ∧ Nn < (s.t_18 + 1) * 18446744073709551608
theorem Div64_end {u21 u0 Nn K q : Int} (hK : Nn = 8 * K) (hNn : Nn = u21 * 4294967296 + u0) (b21 : 0 ≤ u21 ∧ u21 ≤ 4299262263296) (b0 : 0 ≤ u0 ∧ u0 < 4294967296) (q0 : 0 ≤ q) (q1 : q ≤ 2000) (h1 : q * 18446744073709551608 ≤ Nn) (h2 : Nn < (q + 1) * 18446744073709551608) :
    IntKind.u64.wrap (IntKind.u64.wrap (0 * 4294967296) + q) = Nn / 18446744073709551608 ∧ shrV .u64 (IntKind.u64.wrap (IntKind.u64.wrap (IntKind.u64.wrap (u21 * 4294967296) + u0) - IntKind.u64.wrap (q * 18446744073709551608))) 3 = K % 2305843009213693951 := by
  have e1 : Nn / 18446744073709551608 = q := by omega
  have e2 : K % 2305843009213693951 = K - q * 2305843009213693951 := by omega
  rw [e1, e2, Int.zero_mul, u64_id (n := 0) (by omega) (by omega), Int.zero_add, u64_id (n := q) (by omega) (by omega), shr3]
  refine ⟨rfl, ?_⟩
  have e3 : IntKind.u64.wrap (IntKind.u64.wrap (IntKind.u64.wrap (u21 * 4294967296) + u0) - IntKind.u64.wrap (q * 18446744073709551608)) = Nn - q * 18446744073709551608 := by
    simp only [IntKind.wrap_u64]
    omega
  rw [e3]
  omega
theorem Div64_tail {u21 u0 Nn K : Int} {s : bits_Div64.S} (hK : Nn = 8 * K) (hNn : Nn = u21 * 4294967296 + u0) (b21 : 0 ≤ u21 ∧ u21 ≤ 4299262263296) (b0 : 0 ≤ u0 ∧ u0 < 4294967296) (hI : DI u21 u0 Nn s) :
    W (iterM (seqM (seqM (regM bits_Div64.r24) (condM (fun s => s.t_113) skipM (extM 2))) (blockM 3 (seqM (regM bits_Div64.r25) (seqM (regM bits_Div64.r26) (seqM (regM bits_Div64.r27) (condM (fun s => s.t_120) (extM 2) skipM)))))))
      (blkQ 2 (thenQ (seqM (regM bits_Div64.r28) (retM bits_Div64.retv)) fun o => o = Ctl.ret (Nn / 18446744073709551608, K % 2305843009213693951))) s := by
  refine W_iter (DI u21 u0 Nn) (fun s => s.t_18.toNat) hI ?_
  rintro s ⟨e8, e2, e9, e10, e14, e15, e17, f1, f2, f3, f4, f5, f6⟩
  have d6 : IntKind.u64.wrap (IntKind.u64.wrap (4294967296 * s.t_16) + u0) = 4294967296 * s.t_16 + u0 := by rw [u64_id (n := 4294967296 * s.t_16) (by omega) (by omega), u64_id (by omega) (by omega)]
  have d7 : IntKind.u64.wrap (s.t_18 * 4294967288) = s.t_18 * 4294967288 := u64_id (by omega) (by omega)
  simp only [WL, bits_Div64.retv, bits_Div64.r0, bits_Div64.r1, bits_Div64.r2, bits_Div64.r3, bits_Div64.r4, bits_Div64.r5, bits_Div64.r6, bits_Div64.r7, bits_Div64.r8, bits_Div64.r9, bits_Div64.r10, bits_Div64.r11, bits_Div64.r12, bits_Div64.r13, bits_Div64.r14, bits_Div64.r15, bits_Div64.r16, bits_Div64.r17, bits_Div64.r18, bits_Div64.r19, bits_Div64.r20, bits_Div64.r21, bits_Div64.r22, bits_Div64.r23, bits_Div64.r24, bits_Div64.r25, bits_Div64.r26, bits_Div64.r27, bits_Div64.r28, e8, e2, e9, e10, e14, e15, e17, d6, d7]
  refine ⟨fun hc => ?_, fun hc => ⟨fun _ => ?_, fun h => absurd h (by decide)⟩⟩
  · have g1 : IntKind.u64.wrap (s.t_18 - 1) = s.t_18 - 1 := u64_id (by omega) (by omega)
    have g2 : IntKind.u64.wrap (s.t_16 + 4294967295) = s.t_16 + 4294967295 := u64_id (by omega) (by omega)
    rw [g1, g2]
    refine ⟨fun hb => ?_, fun hb => ?_⟩
    · rw [if_neg (by decide)]
      obtain ⟨k1, k2⟩ := Div64_end hK hNn b21 b0 (q := s.t_18 - 1) (by omega) (by omega) (by omega) (by omega)
      refine ⟨fun _ => by rw [k1, k2], fun h => absurd h (by decide)⟩
    · refine ⟨⟨rfl, rfl, rfl, rfl, rfl, rfl, rfl, ?_, ?_, ?_, ?_, ?_, ?_⟩, by omega⟩
      · show 0 ≤ s.t_18 - 1; omega
      · show s.t_18 - 1 ≤ 2000; omega
      · show 0 ≤ s.t_16 + 4294967295; omega
      · show s.t_16 + 4294967295 < 4294967296; omega
      · show (s.t_18 - 1) * 4294967295 + (s.t_16 + 4294967295) = u21; omega
      · show Nn < (s.t_18 - 1 + 1) * 18446744073709551608; omega
  · obtain ⟨k1, k2⟩ := Div64_end hK hNn b21 b0 (q := s.t_18) (by omega) (by omega) (by omega) (by omega)
    rw [k1, k2]
/-- What is left of a division by 2^61-1, where the upper half is small. -/
theorem Div64_eq {hi lo : Int} (h0 : 0 ≤ hi) (h1 : hi ≤ 100) (l0 : 0 ≤ lo) (l1 : lo < 18446744073709551616) : ∃ q, bits_Div64.f hi lo 2305843009213693951 = some (q, (hi * 18446744073709551616 + lo) % 2305843009213693951) := by
  by_cases hz : hi = 0
  · subst hz
    refine ⟨IntKind.u64.wrap (Int.tdiv lo 2305843009213693951), retOf_of ?_⟩
    unfold bits_Div64.body
    simp only [WL, bits_Div64.retv, bits_Div64.r0, bits_Div64.r1, bits_Div64.r2, bits_Div64.r3, bits_Div64.r4, bits_Div64.r5, bits_Div64.r6, bits_Div64.r7, bits_Div64.r8, bits_Div64.r9, bits_Div64.r10, bits_Div64.r11, bits_Div64.r12, bits_Div64.r13, bits_Div64.r14, bits_Div64.r15, bits_Div64.r16, bits_Div64.r17, bits_Div64.r18, bits_Div64.r19, bits_Div64.r20, bits_Div64.r21, bits_Div64.r22, bits_Div64.r23, bits_Div64.r24, bits_Div64.r25, bits_Div64.r26, bits_Div64.r27, bits_Div64.r28]
    refine ⟨fun h => by omega, fun _ => ⟨fun h => by omega, fun _ => ?_⟩⟩
    refine ⟨fun _ => ⟨fun _ => ?_, fun h => absurd h (by decide)⟩, fun h => absurd h (by decide)⟩
    rw [Int.tmod_eq_emod_of_nonneg l0, Int.zero_mul, Int.zero_add]
  · have c0 : IntKind.u64.wrap 3 = 3 := by decide
    have c1 : shlV .u64 2305843009213693951 3 = 18446744073709551608 := by rw [shl3 _ (by decide)]; decide
    have c2 : shrV .u64 18446744073709551608 32 = 4294967295 := by rw [shr32]; decide
    have c3 : andV .u64 18446744073709551608 4294967295 = 4294967288 := by rw [and32 _ (by decide) (by decide)]; decide
    have c4 : IntKind.u64.wrap (64 - 3) = 61 := by decide
    obtain ⟨u32, hu32⟩ : ∃ u, u = hi * 8 + lo / 2305843009213693952 := ⟨_, rfl⟩
    obtain ⟨u10, hu10⟩ : ∃ u, u = lo * 8 % 18446744073709551616 := ⟨_, rfl⟩
    have b32 : 0 ≤ u32 ∧ u32 ≤ 1000 := by omega
    have b10 : 0 ≤ u10 ∧ u10 < 18446744073709551616 := by omega
    have c5 : orV .u64 (shlV .u64 hi 3) (shrV .u64 lo 61) = u32 := by
      rw [shl3 _ h0, shr61, Int.emod_eq_of_lt (by omega) (by omega), or8 _ _ h0 (by omega) (by omega) (by omega), hu32]
    have c6 : shlV .u64 lo 3 = u10 := by rw [shl3 _ l0, hu10]
    obtain ⟨u1, hu1⟩ : ∃ u, u = u10 / 4294967296 := ⟨_, rfl⟩
    obtain ⟨u0, hu0⟩ : ∃ u, u = u10 % 4294967296 := ⟨_, rfl⟩
    have c7 : shrV .u64 u10 32 = u1 := by rw [shr32, hu1]
    have c8 : andV .u64 u10 4294967295 = u0 := by rw [and32 _ b10.1 b10.2, hu0]
    have c9 : IntKind.u64.wrap (Int.tdiv u32 4294967295) = 0 := by rw [Int.tdiv_eq_ediv_of_nonneg b32.1, u64_id (by omega) (by omega)]; omega
    have c10 : IntKind.u64.wrap (u32 - IntKind.u64.wrap (0 * 4294967295)) = u32 := by rw [Int.zero_mul, u64_id (n := 0) (by omega) (by omega), u64_id (by omega) (by omega)]; omega
    obtain ⟨u21, hu21⟩ : ∃ u, u = u32 * 4294967296 + u1 := ⟨_, rfl⟩
    have b1 : 0 ≤ u1 ∧ u1 < 4294967296 := by omega
    have b0 : 0 ≤ u0 ∧ u0 < 4294967296 := by omega
    have b21 : 0 ≤ u21 ∧ u21 ≤ 4299262263296 := by omega
    obtain ⟨Nn, hNn⟩ : ∃ u, u = u21 * 4294967296 + u0 := ⟨_, rfl⟩
    have hN8 : Nn = 8 * (hi * 18446744073709551616 + lo) := by omega
    have d1 : IntKind.u64.wrap (IntKind.u64.wrap (4294967296 * u32) + u1) = u21 := by rw [u64_id (n := 4294967296 * u32) (by omega) (by omega), u64_id (by omega) (by omega)]; omega
    have d2 : IntKind.u64.wrap (0 * 4294967288) = 0 := by decide
    have d3 : IntKind.u64.wrap (IntKind.u64.wrap (IntKind.u64.wrap (u32 * 4294967296) + u1) - IntKind.u64.wrap (0 * 18446744073709551608)) = u21 := by rw [Int.zero_mul, u64_id (n := 0) (by omega) (by omega), u64_id (n := u32 * 4294967296) (by omega) (by omega), u64_id (n := u32 * 4294967296 + u1) (by omega) (by omega), u64_id (by omega) (by omega)]; omega
    obtain ⟨q, hq⟩ : ∃ q, q = u21 / 4294967295 := ⟨_, rfl⟩
    obtain ⟨r, hr⟩ : ∃ r, r = u21 - q * 4294967295 := ⟨_, rfl⟩
    have d4 : IntKind.u64.wrap (Int.tdiv u21 4294967295) = q := by rw [Int.tdiv_eq_ediv_of_nonneg b21.1, u64_id (by omega) (by omega), hq]
    have d5 : IntKind.u64.wrap (u21 - IntKind.u64.wrap (q * 4294967295)) = r := by rw [u64_id (n := q * 4294967295) (by omega) (by omega), u64_id (by omega) (by omega), hr]
    refine ⟨Nn / 18446744073709551608, retOf_of ?_⟩
    unfold bits_Div64.body
    simp only [WL, bits_Div64.retv, bits_Div64.r0, bits_Div64.r1, bits_Div64.r2, bits_Div64.r3, bits_Div64.r4, bits_Div64.r5, bits_Div64.r6, bits_Div64.r7, bits_Div64.r8, bits_Div64.r9, bits_Div64.r10, bits_Div64.r11, bits_Div64.r12, bits_Div64.r13, bits_Div64.r14, bits_Div64.r15, bits_Div64.r16, bits_Div64.r17, bits_Div64.r18, bits_Div64.r19, bits_Div64.r20, bits_Div64.r21, bits_Div64.r22, bits_Div64.r23, bits_Div64.r24, bits_Div64.r25, bits_Div64.r26, bits_Div64.r27, bits_Div64.r28, Lead_eq, c0, c1, c2, c3, c4, c5, c6, c7, c8, c9, c10]
    refine ⟨fun h => by omega, fun _ => ⟨fun h => by omega, fun _ => ?_⟩⟩
    refine ⟨fun h => absurd h hz, fun _ => ?_⟩
    refine ⟨fun _ => ⟨fun _ => ⟨fun _ => ⟨fun _ => ⟨fun _ => ?_, fun h => absurd h (by decide)⟩, fun h => absurd h (by decide)⟩, fun h => absurd h (by decide)⟩, fun h => absurd h (by decide)⟩, fun h => absurd h (by decide)⟩
    refine W_iter (fun s => s.t_8 = 3 ∧ s.t_2 = 18446744073709551608 ∧ s.t_9 = 4294967295 ∧ s.t_10 = 4294967288 ∧ s.t_11 = u32 ∧ s.t_13 = u1 ∧ s.t_14 = u0 ∧ s.t_15 = 0 ∧ s.t_16 = u32) (fun _ => 0) ⟨rfl, rfl, rfl, rfl, rfl, rfl, rfl, rfl, rfl⟩ ?_
    rintro s ⟨e8, e2, e9, e10, e11, e13, e14, e15, e16⟩
    simp only [WL, bits_Div64.retv, bits_Div64.r0, bits_Div64.r1, bits_Div64.r2, bits_Div64.r3, bits_Div64.r4, bits_Div64.r5, bits_Div64.r6, bits_Div64.r7, bits_Div64.r8, bits_Div64.r9, bits_Div64.r10, bits_Div64.r11, bits_Div64.r12, bits_Div64.r13, bits_Div64.r14, bits_Div64.r15, bits_Div64.r16, bits_Div64.r17, bits_Div64.r18, bits_Div64.r19, bits_Div64.r20, bits_Div64.r21, bits_Div64.r22, bits_Div64.r23, bits_Div64.r24, bits_Div64.r25, bits_Div64.r26, bits_Div64.r27, bits_Div64.r28, e8, e2, e9, e10, e11, e13, e14, e15, e16, d1, d2, d3, d4, d5]
    refine ⟨fun h => by omega, fun _ => ⟨fun _ => ?_, fun h => absurd h (by decide)⟩⟩
    exact Div64_tail hN8 hNn b21 b0 ⟨rfl, rfl, rfl, rfl, rfl, rfl, rfl, by show 0 ≤ q; omega, by show q ≤ 2000; omega, by show 0 ≤ r; omega, by show r < 4294967296; omega, by show q * 4294967295 + r = u21; omega, by show Nn < (q + 1) * 18446744073709551608; omega⟩
theorem mul_eq {h : Int} (h0 : 0 ≤ h) (h1 : h < 2305843009213693951) : digest_mul.f h 257 = some (h * 257 % 2305843009213693951) := by
  have hM : Mul64.f h 257 = some (h * 257 / 18446744073709551616, h * 257 % 18446744073709551616) := by unfold Mul64.f; rw [if_pos ⟨h0, by omega, by omega, by omega⟩]
  obtain ⟨q, hD⟩ := Div64_eq (hi := h * 257 / 18446744073709551616) (lo := h * 257 % 18446744073709551616) (by omega) (by omega) (by omega) (by omega)
  have e1 : Int.tmod (h * 257 / 18446744073709551616) 2305843009213693951 = h * 257 / 18446744073709551616 := by rw [Int.tmod_eq_emod_of_nonneg (by omega)]; omega
  have e2 : h * 257 / 18446744073709551616 * 18446744073709551616 + h * 257 % 18446744073709551616 = h * 257 := by omega
  rw [e2] at hD
  refine retOf_of ?_
  unfold digest_mul.body
  simp only [WL, digest_mul.retv, digest_mul.r0, digest_mul.r1, digest_mul.r2, digest_mul.r3, hM, e1, hD]
theorem double_eq {n : Int} (h0 : 0 ≤ n) (h1 : n < 2305843009213693951) : ref3_double.f n = some (2 * n % 2305843009213693951) := by
  refine retOf_of ?_
  unfold ref3_double.body
  have e1 : w64 (n + n) = n + n := w64_id (by omega) (by omega)
  simp only [WL, ref3_double.retv, ref3_double.r0, ref3_double.r1, ref3_double.r2, ref3_double.r3, ref3_double.r4, e1]
  refine ⟨fun h => ?_, fun h => ?_⟩
  · have : 2 * n % 2305843009213693951 = n + n - 2305843009213693951 := by omega
    rw [this, w64_id (by omega) (by omega)]
  · have : 2 * n % 2305843009213693951 = n + n := by omega
    rw [this]
theorem times_eq {n k : Int} (h0 : 0 ≤ n) (h1 : n < 2305843009213693951) (k0 : 0 ≤ k) (k1 : k ≤ 1000000) : ref3_times.f n k = some (n * k % 2305843009213693951) := by
  refine retOf_of ?_
  unfold ref3_times.body
  simp only [WL, ref3_times.retv, ref3_times.r0, ref3_times.r1, ref3_times.r2, ref3_times.r3, ref3_times.r4, ref3_times.r5, ref3_times.r6, ref3_times.r7]
  refine W_iter (fun s => 0 ≤ s.n_0 ∧ s.n_0 < 2305843009213693951 ∧ 0 ≤ s.out_5 ∧ s.out_5 < 2305843009213693951 ∧ 0 ≤ s.k_1 ∧ s.k_1 ≤ 1000000 ∧ (s.out_5 + s.n_0 * s.k_1) % 2305843009213693951 = n * k % 2305843009213693951) (fun s => s.k_1.toNat) ⟨h0, h1, Int.le_refl _, by show (0 : Int) < 2305843009213693951; decide, k0, k1, by simp⟩ ?_
  rintro s ⟨a0, a1, b0, b1, c0, c1, hm⟩
  have e1 : w64 (s.out_5 + s.n_0) = s.out_5 + s.n_0 := w64_id (by omega) (by omega)
  have e2 : w64 (Int.tdiv s.k_1 2) = s.k_1 / 2 := by rw [Int.tdiv_eq_ediv_of_nonneg c0, w64_id (by omega) (by omega)]
  have e3 : Int.tmod s.k_1 2 = s.k_1 % 2 := Int.tmod_eq_emod_of_nonneg c0
  have e4 : Int.tmod (s.out_5 + s.n_0) 2305843009213693951 = (s.out_5 + s.n_0) % 2305843009213693951 := Int.tmod_eq_emod_of_nonneg (by omega)
  have hdbl := double_eq a0 a1
  have hn' : 0 ≤ 2 * s.n_0 % 2305843009213693951 ∧ 2 * s.n_0 % 2305843009213693951 < 2305843009213693951 := by omega
  have key : ∀ out : Int, (2 * s.n_0 % 2305843009213693951) * (s.k_1 / 2) % 2305843009213693951 = 2 * s.n_0 * (s.k_1 / 2) % 2305843009213693951 := fun _ => by rw [Int.mul_emod, Int.emod_emod_of_dvd _ (Int.dvd_refl _), ← Int.mul_emod]
  simp only [WL, ref3_times.retv, ref3_times.r0, ref3_times.r1, ref3_times.r2, ref3_times.r3, ref3_times.r4, ref3_times.r5, ref3_times.r6, ref3_times.r7, e1, e2, e3, e4, hdbl]
  refine ⟨fun hk => ⟨fun ho => ?_, fun ho => ?_⟩, fun hk => ?_⟩
  · refine ⟨⟨hn'.1, hn'.2, by omega, by omega, by omega, by omega, ?_⟩, by omega⟩
    rw [← hm, Int.add_emod, key 0, Int.emod_emod_of_dvd _ (Int.dvd_refl _), ← Int.add_emod]
    congr 1
    have : s.k_1 = 2 * (s.k_1 / 2) + 1 := by omega
    conv => rhs; rw [this, Int.mul_add, Int.mul_one]
    rw [Int.mul_comm 2 s.n_0, Int.mul_assoc]
    omega
  · refine ⟨⟨hn'.1, hn'.2, b0, b1, by omega, by omega, ?_⟩, by omega⟩
    rw [← hm, Int.add_emod, key 0, ← Int.add_emod]
    congr 1
    have : s.k_1 = 2 * (s.k_1 / 2) := by omega
    conv => rhs; rw [this]
    rw [Int.mul_comm 2 s.n_0, Int.mul_assoc]
  · have : s.k_1 = 0 := by omega
    rw [this, Int.mul_zero, Int.add_zero, Int.emod_eq_of_lt b0 b1] at hm
    rw [← hm]
/-- A digest. -/
def dig1 (h : Int) (b : UInt8) : Int := (h * 257 % 2305843009213693951 + (b.toNat : Int) + 1) % 2305843009213693951
def dig (data : List UInt8) : Int := data.foldl dig1 1
theorem dig1_lt (h : Int) (b : UInt8) : 0 ≤ dig1 h b ∧ dig1 h b < 2305843009213693951 := by unfold dig1; omega
theorem digAux_lt : ∀ (data : List UInt8) (h : Int), 0 ≤ h → h < 2305843009213693951 → 0 ≤ data.foldl dig1 h ∧ data.foldl dig1 h < 2305843009213693951
  | [], h, h0, h1 => ⟨h0, h1⟩
  | b :: data, h, _, _ => digAux_lt data _ (dig1_lt h b).1 (dig1_lt h b).2
theorem dig_lt (data : List UInt8) : 0 ≤ dig data ∧ dig data < 2305843009213693951 := digAux_lt data 1 (by decide) (by decide)
theorem foldl_take_succ {data : List UInt8} {i : Nat} (h : i < data.length) : (data.take (i + 1)).foldl dig1 1 = dig1 ((data.take i).foldl dig1 1) data[i] := by
  rw [List.take_succ_eq_append_getElem h, List.foldl_append]; rfl
theorem Of_eq {data : List UInt8} (hl : data.length ≤ 4096) : digest_Of.f data = some (dig data, ⟨0, 0⟩) := by
  refine retOf_of ?_
  unfold digest_Of.body
  simp only [WL, digest_Of.retv, digest_Of.r0, digest_Of.r1, digest_Of.r2, digest_Of.r3, digest_Of.r4, digest_Of.r5, digest_Of.r6, digest_Of.r7, digest_Of.r8, digest_Of.r9]
  refine ⟨fun h => by omega, fun _ => ?_⟩
  refine W_iter (fun s => s.t_11 = data ∧ s.t_12 = (data.length : Int) ∧ ∃ i : Nat, s.t_13 = i ∧ i ≤ data.length ∧ s.h_4 = (data.take i).foldl dig1 1) (fun s => data.length - s.t_13.toNat) ⟨rfl, rfl, 0, rfl, by omega, rfl⟩ ?_
  rintro s ⟨e11, e12, i, e13, hi, e4⟩
  have hb := digAux_lt (data.take i) 1 (by decide) (by decide)
  have hmul := mul_eq hb.1 hb.2
  simp only [WL, digest_Of.retv, digest_Of.r0, digest_Of.r1, digest_Of.r2, digest_Of.r3, digest_Of.r4, digest_Of.r5, digest_Of.r6, digest_Of.r7, digest_Of.r8, digest_Of.r9, e11, e12, e13, e4, hmul]
  refine ⟨fun hlt => ?_, fun hge => ?_⟩
  · have hlt : i < data.length := by omega
    refine opt_of (idx_nat' hlt) ?_
    rw [w64_succ (by omega)]
    refine ⟨⟨i + 1, rfl, by omega, ?_⟩, by omega⟩
    rw [foldl_take_succ hlt]
    have hbl := UInt8.toNat_lt data[i]
    unfold dig1
    rw [u64_id (n := ((data[i]).toNat : Int)) (by omega) (by omega), u64_id (n := _ + ((data[i]).toNat : Int)) (by omega) (by omega), u64_id (by omega) (by omega), Int.tmod_eq_emod_of_nonneg (by omega)]
  · have : i = data.length := by omega
    subst this
    rw [List.take_length]
    have hd := dig_lt data
    show Ctl.ret (w64 (dig data), _) = _
    rw [w64_id (by omega) (by omega)]
theorem DigestOf_eq {data : List UInt8} (hl : data.length ≤ 1000000) : ref3_DigestOf.f data = some (dig data) := by
  refine retOf_of ?_
  unfold ref3_DigestOf.body
  simp only [WL, ref3_DigestOf.retv, ref3_DigestOf.r0, ref3_DigestOf.r1, ref3_DigestOf.r2, ref3_DigestOf.r3, ref3_DigestOf.r5, ref3_DigestOf.r4, ref3_DigestOf.r6]
  refine W_iter (fun s => s.b_0 = data ∧ ∃ i : Nat, s.i_4 = i ∧ i ≤ data.length ∧ s.h_3 = (data.take i).foldl dig1 1) (fun s => data.length - s.i_4.toNat) ⟨rfl, 0, rfl, by omega, rfl⟩ ?_
  rintro s ⟨e0, i, e4, hi, e3⟩
  have hb := digAux_lt (data.take i) 1 (by decide) (by decide)
  have htm := times_eq hb.1 hb.2 (k := 257) (by decide) (by decide)
  simp only [WL, ref3_DigestOf.retv, ref3_DigestOf.r0, ref3_DigestOf.r1, ref3_DigestOf.r2, ref3_DigestOf.r3, ref3_DigestOf.r5, ref3_DigestOf.r4, ref3_DigestOf.r6, e0, e4, e3, htm]
  refine ⟨fun hlt => ?_, fun hge => ?_⟩
  · have hlt : i < data.length := by omega
    refine opt_of (idx_nat' hlt) ?_
    rw [w64_succ (by omega)]
    refine ⟨⟨i + 1, rfl, by omega, ?_⟩, by omega⟩
    rw [foldl_take_succ hlt]
    have hbl := UInt8.toNat_lt data[i]
    unfold dig1
    rw [w64_id (n := ((data[i]).toNat : Int)) (by omega) (by omega), w64_id (n := _ + ((data[i]).toNat : Int)) (by omega) (by omega), w64_id (by omega) (by omega), Int.tmod_eq_emod_of_nonneg (by omega)]
  · have : i = data.length := by omega
    subst this
    rw [List.take_length]; rfl
open Go.Fx
set_option linter.unusedVariables false
set_option linter.unusedSimpArgs false
set_option maxRecDepth 20000

def lfault : List Int → Nat → Fault
  | [], _ => ⟨0, 0⟩
  | d :: l, i => if d < 0 ∨ 2305843009213693951 ≤ d then ⟨3, i⟩ else lfault l (i + 1)
theorem lfault_cons (d : Int) (l : List Int) (i : Nat) : lfault (d :: l) i = if d < 0 ∨ 2305843009213693951 ≤ d then ⟨3, i⟩ else lfault l (i + 1) := rfl
/-- What is wrong with an object. -/
def oFault (o : Object) : Fault :=
  if o.Kind < 1 ∨ 3 < o.Kind then ⟨4, 0⟩ else if 30 < o.Links.length then ⟨2, 0⟩ else if 1000 < o.Data.length then ⟨10, 0⟩ else if o.Kind = 1 ∧ 0 < o.Links.length then ⟨5, 0⟩ else lfault o.Links 0
theorem lfault_ok : ∀ (l : List Int) (i : Nat), (lfault l i).Code = 0 → lfault l i = ⟨0, 0⟩ ∧ ∀ d ∈ l, 0 ≤ d ∧ d < 2305843009213693951
  | [], _, _ => ⟨rfl, by simp⟩
  | d :: l, i, h => by
    unfold lfault at h ⊢
    split at h
    · cases h
    · rename_i hc
      obtain ⟨h1, h2⟩ := lfault_ok l (i + 1) h
      rw [if_neg hc]
      refine ⟨h1, fun x hx => ?_⟩
      rcases List.mem_cons.1 hx with rfl | hx
      · omega
      · exact h2 x hx
structure OkO (o : Object) : Prop where
  eq : oFault o = ⟨0, 0⟩
  k0 : 1 ≤ o.Kind
  k1 : o.Kind ≤ 3
  ll : o.Links.length ≤ 30
  dl : o.Data.length ≤ 1000
  bl : ¬ (o.Kind = 1 ∧ 0 < o.Links.length)
  lk : ∀ d ∈ o.Links, 0 ≤ d ∧ d < 2305843009213693951
theorem okO {o : Object} (h : (oFault o).Code = 0) : OkO o := by
  have h' := h
  unfold oFault at h'
  split at h'
  · cases h'
  split at h'
  · cases h'
  split at h'
  · cases h'
  split at h'
  · cases h'
  rename_i c1 c2 c3 c4
  obtain ⟨h1, h2⟩ := lfault_ok _ _ h'
  exact ⟨by unfold oFault; rw [if_neg c1, if_neg c2, if_neg c3, if_neg c4]; exact h1, by omega, by omega, by omega, by omega, c4, h2⟩
theorem oFault_eq0 {o : Object} : oFault o = ⟨0, 0⟩ ↔ (oFault o).Code = 0 := ⟨fun h => by rw [h], fun h => (okO h).eq⟩
theorem check_eq (o : Object) : objects_check.f o = some (oFault o) := by
  refine retOf_of ?_
  unfold objects_check.body
  simp only [WL, objects_check.retv, objects_check.r0, objects_check.r1, objects_check.r2, objects_check.r3, objects_check.r4, objects_check.r5, objects_check.r6, objects_check.r7, objects_check.r8, objects_check.r9, objects_check.r10, objects_check.r11, objects_check.r12, objects_check.r13, objects_check.r14, objects_check.r15]
  refine ⟨fun h => ?_, fun c1 => ⟨fun h => ?_, fun c2 => ⟨fun h => ?_, fun c3 => ⟨fun h => ?_, fun c4 => ?_⟩⟩⟩⟩
  · unfold oFault; rw [if_pos (by omega)]
  · unfold oFault; rw [if_neg (by omega), if_pos (by omega)]
  · unfold oFault; rw [if_neg (by omega), if_neg (by omega), if_pos (by omega)]
  · unfold oFault; rw [if_neg (by omega), if_neg (by omega), if_neg (by omega), if_pos (by omega)]
  · have hf : oFault o = lfault o.Links 0 := by unfold oFault; rw [if_neg (by omega), if_neg (by omega), if_neg (by omega), if_neg (by omega)]
    rw [hf]
    refine W_iter (fun s => s.t_39 = o.Links ∧ s.t_40 = (o.Links.length : Int) ∧ ∃ i : Nat, s.t_41 = i ∧ i ≤ o.Links.length ∧ lfault o.Links 0 = lfault (o.Links.drop i) i) (fun s => o.Links.length - s.t_41.toNat) ⟨rfl, rfl, 0, rfl, by omega, rfl⟩ ?_
    rintro s ⟨e39, e40, i, e41, hi, hI⟩
    simp only [WL, objects_check.retv, objects_check.r0, objects_check.r1, objects_check.r2, objects_check.r3, objects_check.r4, objects_check.r5, objects_check.r6, objects_check.r7, objects_check.r8, objects_check.r9, objects_check.r10, objects_check.r11, objects_check.r12, objects_check.r13, objects_check.r14, objects_check.r15, e39, e40, e41]
    refine ⟨fun hlt => ?_, fun hge => ?_⟩
    · have hlt : i < o.Links.length := by omega
      refine opt_of (idx_nat' hlt) ?_
      rw [List.drop_eq_getElem_cons hlt, lfault_cons] at hI
      refine ⟨fun hb => ?_, fun hb => ?_⟩
      · rw [if_pos (by omega)] at hI
        rw [hI]
      · rw [if_neg (by omega)] at hI
        rw [w64_succ (by omega)]
        exact ⟨⟨i + 1, rfl, by omega, hI⟩, by omega⟩
    · have : i = o.Links.length := by omega
      subst this
      rw [List.drop_length] at hI
      rw [hI]; rfl
theorem ObjectFault_eq (o : Object) : ref3_ObjectFault.f o = some (oFault o) := by
  refine retOf_of ?_
  unfold ref3_ObjectFault.body
  simp only [WL, ref3_ObjectFault.retv, ref3_ObjectFault.r0, ref3_ObjectFault.r1, ref3_ObjectFault.r2, ref3_ObjectFault.r3, ref3_ObjectFault.r4, ref3_ObjectFault.r5, ref3_ObjectFault.r6, ref3_ObjectFault.r7, ref3_ObjectFault.r8, ref3_ObjectFault.r9, ref3_ObjectFault.r10, ref3_ObjectFault.r12, ref3_ObjectFault.r13, ref3_ObjectFault.r11, ref3_ObjectFault.r14, In_eq, Fault_eq]
  refine ⟨fun h => ?_, fun c1 => ⟨fun h => ?_, fun c2 => ⟨fun h => ?_, fun c3 => ⟨fun h => ?_, fun c4 => ?_⟩⟩⟩⟩
  · unfold oFault; rw [if_pos (by omega)]
  · unfold oFault; rw [if_neg (by omega), if_pos (by omega)]
  · unfold oFault; rw [if_neg (by omega), if_neg (by omega), if_pos (by omega)]
  · unfold oFault; rw [if_neg (by omega), if_neg (by omega), if_neg (by omega), if_pos (by omega)]
  · have hf : oFault o = lfault o.Links 0 := by unfold oFault; rw [if_neg (by omega), if_neg (by omega), if_neg (by omega), if_neg (by omega)]
    rw [hf]
    refine W_iter (fun s => s.o_1 = o ∧ ∃ i : Nat, s.i_3 = i ∧ i ≤ o.Links.length ∧ lfault o.Links 0 = lfault (o.Links.drop i) i) (fun s => o.Links.length - s.i_3.toNat) ⟨rfl, 0, rfl, by omega, rfl⟩ ?_
    rintro s ⟨e1, i, e3, hi, hI⟩
    simp only [WL, ref3_ObjectFault.retv, ref3_ObjectFault.r0, ref3_ObjectFault.r1, ref3_ObjectFault.r2, ref3_ObjectFault.r3, ref3_ObjectFault.r4, ref3_ObjectFault.r5, ref3_ObjectFault.r6, ref3_ObjectFault.r7, ref3_ObjectFault.r8, ref3_ObjectFault.r9, ref3_ObjectFault.r10, ref3_ObjectFault.r12, ref3_ObjectFault.r13, ref3_ObjectFault.r11, ref3_ObjectFault.r14, e1, e3, In_eq, Fault_eq]
    refine ⟨fun hlt => ?_, fun hge => ?_⟩
    · have hlt : i < o.Links.length := by omega
      refine opt_of (idx_nat' hlt) ?_
      rw [List.drop_eq_getElem_cons hlt, lfault_cons] at hI
      refine ⟨fun hb => ?_, fun hb => ?_⟩
      · rw [if_pos (by omega)] at hI
        rw [hI]
      · rw [if_neg (by omega)] at hI
        rw [w64_succ (by omega)]
        exact ⟨⟨i + 1, rfl, by omega, hI⟩, by omega⟩
    · have : i = o.Links.length := by omega
      subst this
      rw [List.drop_length] at hI
      rw [hI]; rfl
/-- A number as eight bytes. -/
def wide (d : Int) : List UInt8 := (List.range 8).map fun j => toByte (d / 2 ^ (56 - 8 * j))
theorem wide_len (d : Int) : (wide d).length = 8 := by simp [wide]
theorem wide_get (d : Int) {j : Nat} (h : j < 8) : (wide d)[j]? = some (toByte (d / 2 ^ (56 - 8 * j))) := by
  unfold wide
  rw [List.getElem?_map, List.getElem?_range h]; rfl
def objBytes (o : Object) : List UInt8 := [toByte o.Kind, toByte (o.Links.length : Int)] ++ o.Links.flatMap wide ++ o.Data
theorem flat_len : ∀ l : List Int, (l.flatMap wide).length = 8 * l.length
  | [] => rfl
  | d :: l => by rw [List.flatMap_cons, List.length_append, wide_len, flat_len l, List.length_cons]; omega
theorem objBytes_len (o : Object) : (objBytes o).length = 2 + 8 * o.Links.length + o.Data.length := by
  unfold objBytes; rw [List.length_append, List.length_append, flat_len]; rfl
theorem toByte_mod (n : Int) : toByte (n % 256) = toByte n := by unfold toByte; rw [Int.emod_emod_of_dvd _ (Int.dvd_refl _)]
theorem app8 {xs ys : List UInt8} (h : xs.length + ys.length ≤ 100000) : appL 1 xs ys = some (xs ++ ys) := appL_of (by omega)
theorem flat_take {l : List Int} {i : Nat} (h : i < l.length) : (l.take (i + 1)).flatMap wide = (l.take i).flatMap wide ++ wide l[i] := by
  rw [List.take_succ_eq_append_getElem h, List.flatMap_append]; simp
theorem Digest_eq {o : Object} (h : OkO o) : objects_Digest.f o = some (dig (objBytes o), ⟨0, 0⟩) := by
  have hl := objBytes_len o
  have h1 := h.ll
  have h2 := h.dl
  refine retOf_of ?_
  unfold objects_Digest.body
  simp only [WL, objects_Digest.retv, objects_Digest.r0, objects_Digest.r1, objects_Digest.r2, objects_Digest.r3, objects_Digest.r4, objects_Digest.r5, objects_Digest.r6, objects_Digest.r7, objects_Digest.r8, objects_Digest.r9, objects_Digest.r11, objects_Digest.r10, objects_Digest.r12, objects_Digest.r13, check_eq, h.eq]
  refine W_iter (fun s => s.o_1 = o ∧ s.t_24 = o.Links ∧ s.t_25 = (o.Links.length : Int) ∧ ∃ i : Nat, s.t_26 = i ∧ i ≤ o.Links.length ∧ s.b_5 = [toByte o.Kind, toByte (o.Links.length : Int)] ++ (o.Links.take i).flatMap wide) (fun s => o.Links.length - s.t_26.toNat) ⟨rfl, rfl, rfl, 0, rfl, by omega, by simp⟩ ?_
  rintro s ⟨e1, e24, e25, i, e26, hi, e5⟩
  simp only [WL, objects_Digest.retv, objects_Digest.r0, objects_Digest.r1, objects_Digest.r2, objects_Digest.r3, objects_Digest.r4, objects_Digest.r5, objects_Digest.r6, objects_Digest.r7, objects_Digest.r8, objects_Digest.r9, objects_Digest.r11, objects_Digest.r10, objects_Digest.r12, objects_Digest.r13, e1, e24, e25, e26, e5]
  refine ⟨fun hlt => ?_, fun hge => ?_⟩
  · have hlt : i < o.Links.length := by omega
    refine opt_of (idx_nat' hlt) ?_
    have hd := h.lk _ (List.getElem_mem hlt)
    have hfl : ((o.Links.take i).flatMap wide).length ≤ 240 := by rw [flat_len, List.length_take]; omega
    refine W_iter (fun s => s.o_1 = o ∧ s.t_24 = o.Links ∧ s.t_25 = (o.Links.length : Int) ∧ s.t_26 = (i : Int) ∧ s.d_7 = o.Links[i] ∧ ∃ j : Nat, j ≤ 8 ∧ s.s_8 = 56 - 8 * (j : Int) ∧ s.b_5 = [toByte o.Kind, toByte (o.Links.length : Int)] ++ (o.Links.take i).flatMap wide ++ (wide o.Links[i]).take j) (fun s => (s.s_8 + 8).toNat) ⟨rfl, rfl, rfl, rfl, rfl, 0, by omega, rfl, by simp⟩ ?_
    rintro s ⟨e1, e24, e25, e26, e7, j, hj, e8, e5⟩
    simp only [WL, objects_Digest.retv, objects_Digest.r0, objects_Digest.r1, objects_Digest.r2, objects_Digest.r3, objects_Digest.r4, objects_Digest.r5, objects_Digest.r6, objects_Digest.r7, objects_Digest.r8, objects_Digest.r9, objects_Digest.r11, objects_Digest.r10, objects_Digest.r12, objects_Digest.r13, e1, e24, e25, e26, e7, e8, e5]
    refine ⟨fun hs => ⟨fun _ => ?_, fun h => by omega⟩, fun hs => ?_⟩
    · have hj8 : j < 8 := by omega
      have hsh : shrV .i64 o.Links[i] (56 - 8 * (j : Int)) = o.Links[i] / 2 ^ (56 - 8 * j) := by
        unfold shrV
        rw [show min (56 - 8 * (j : Int)).toNat IntKind.i64.bits = 56 - 8 * j by show min _ 64 = _; omega, Int.fdiv_eq_ediv_of_nonneg _ (Int.pow_nonneg (by decide))]
      have hwl : j < (wide o.Links[i]).length := by rw [wide_len]; exact hj8
      have hwg : (wide o.Links[i])[j] = toByte (o.Links[i] / 2 ^ (56 - 8 * j)) := by
        have := wide_get o.Links[i] hj8
        rw [List.getElem?_eq_getElem hwl] at this
        exact Option.some.inj this
      rw [hsh, app8 (by simp only [List.length_append, List.length_take, wide_len, List.length_cons, List.length_nil]; omega), opt_some, w64_id (by omega) (by omega)]
      refine ⟨⟨j + 1, by omega, by omega, ?_⟩, by omega⟩
      rw [List.take_succ_eq_append_getElem hwl, hwg, List.append_assoc]
    · have : j = 8 := by omega
      subst this
      have hw : (wide o.Links[i]).take 8 = wide o.Links[i] := List.take_of_length_le (by rw [wide_len]; omega)
      rw [w64_succ (by omega), hw, List.append_assoc, ← flat_take hlt]
      exact ⟨⟨i + 1, rfl, by omega, rfl⟩, by omega⟩
  · have : i = o.Links.length := by omega
    subst this
    rw [List.take_length]
    rw [app8 (by simp only [List.length_append, flat_len, List.length_cons, List.length_nil]; omega), opt_some]
    have hO := Of_eq (data := objBytes o) (by omega)
    unfold objBytes at hO ⊢
    rw [hO, opt_some]
theorem Digest_bad {o : Object} (h : ¬ (oFault o).Code = 0) : objects_Digest.f o = some (0, oFault o) := by
  have h' : ¬ oFault o = ⟨0, 0⟩ := fun e => h (oFault_eq0.1 e)
  refine retOf_of ?_
  unfold objects_Digest.body
  simp only [WL, objects_Digest.retv, objects_Digest.r0, objects_Digest.r1, objects_Digest.r2, objects_Digest.r3, objects_Digest.r4, objects_Digest.r5, objects_Digest.r6, objects_Digest.r7, objects_Digest.r8, objects_Digest.r9, objects_Digest.r11, objects_Digest.r10, objects_Digest.r12, objects_Digest.r13, check_eq, h']
theorem Wide_eq {d : Int} (h0 : 0 ≤ d) (h1 : d < 2305843009213693951) : ref3_Wide.f d = some (wide d) := by
  refine retOf_of ?_
  unfold ref3_Wide.body
  have hmk : mkL 1 (0 : UInt8) 8 = some (List.replicate 8 0) := by decide
  simp only [WL, ref3_Wide.retv, ref3_Wide.r0, ref3_Wide.r1, ref3_Wide.r2, ref3_Wide.r3, ref3_Wide.r5, ref3_Wide.r6, ref3_Wide.r4, ref3_Wide.r7, hmk]
  refine W_iter (fun s => ∃ j : Nat, j ≤ 8 ∧ s.i_4 = 7 - (j : Int) ∧ s.n_0 = d / 256 ^ j ∧ s.out_3 = List.replicate (8 - j) 0 ++ (wide d).drop (8 - j)) (fun s => (s.i_4 + 1).toNat) ⟨0, by omega, rfl, by simp, by rw [List.drop_of_length_le (by rw [wide_len]; omega)]; rfl⟩ ?_
  rintro s ⟨j, hj, e4, e0, e3⟩
  have hn : 0 ≤ d / 256 ^ j ∧ d / 256 ^ j ≤ d := ⟨Int.ediv_nonneg h0 (Int.pow_nonneg (by decide)), Int.ediv_le_self _ h0⟩
  simp only [WL, ref3_Wide.retv, ref3_Wide.r0, ref3_Wide.r1, ref3_Wide.r2, ref3_Wide.r3, ref3_Wide.r5, ref3_Wide.r6, ref3_Wide.r4, ref3_Wide.r7, e4, e0, e3]
  refine ⟨fun hs => ?_, fun hs => ?_⟩
  · have hlen : (List.replicate (8 - j) (0 : UInt8) ++ (wide d).drop (8 - j)).length = 8 := by rw [List.length_append, List.length_replicate, List.length_drop, wide_len]; omega
    have hi : (7 : Int) - (j : Int) = ((7 - j : Nat) : Int) := by omega
    rw [hi]
    refine opt_of (idx_nat' (by rw [hlen]; omega)) ?_
    rw [w64_id (n := ((7 - j : Nat) : Int) - 1) (by omega) (by omega), Int.tdiv_eq_ediv_of_nonneg hn.1, Int.tmod_eq_emod_of_nonneg hn.1, w64_id (n := d / 256 ^ j / 256) (by omega) (by omega), toByte_mod]
    refine ⟨⟨j + 1, by omega, by omega, ?_, ?_⟩, by omega⟩
    · rw [Int.pow_succ, Int.ediv_ediv_of_nonneg (Int.pow_nonneg (by decide))]
    · unfold setL
      rw [Int.toNat_natCast]
      have hwl : 7 - j < (wide d).length := by rw [wide_len]; omega
      have hwg : (wide d)[7 - j] = toByte (d / 256 ^ j) := by
        have := wide_get d (j := 7 - j) (by omega)
        rw [List.getElem?_eq_getElem hwl] at this
        rw [Option.some.inj this, show 56 - 8 * (7 - j) = 8 * j by omega, Int.pow_mul]
        rfl
      rw [show 8 - j = (7 - j) + 1 by omega, List.replicate_succ', List.append_assoc, List.set_append_right _ _ (by rw [List.length_replicate]; exact Nat.le_refl _), List.length_replicate, Nat.sub_self, show 8 - (j + 1) = 7 - j by omega, List.drop_eq_getElem_cons hwl, hwg]
      rfl
  · have : j = 8 := by omega
    subst this
    rfl
theorem ObjectDigest_eq {o : Object} (h : OkO o) : ref3_ObjectDigest.f o = some (dig (objBytes o)) := by
  have hl := objBytes_len o
  have h1 := h.ll
  have h2 := h.dl
  refine retOf_of ?_
  unfold ref3_ObjectDigest.body
  simp only [WL, ref3_ObjectDigest.retv, ref3_ObjectDigest.r0, ref3_ObjectDigest.r1, ref3_ObjectDigest.r2, ref3_ObjectDigest.r3, ref3_ObjectDigest.r5, ref3_ObjectDigest.r4, ref3_ObjectDigest.r6]
  refine W_iter (fun s => s.o_1 = o ∧ ∃ i : Nat, s.i_4 = i ∧ i ≤ o.Links.length ∧ s.b_3 = [toByte o.Kind, toByte (o.Links.length : Int)] ++ (o.Links.take i).flatMap wide) (fun s => o.Links.length - s.i_4.toNat) ⟨rfl, 0, rfl, by omega, by simp⟩ ?_
  rintro s ⟨e1, i, e4, hi, e3⟩
  simp only [WL, ref3_ObjectDigest.retv, ref3_ObjectDigest.r0, ref3_ObjectDigest.r1, ref3_ObjectDigest.r2, ref3_ObjectDigest.r3, ref3_ObjectDigest.r5, ref3_ObjectDigest.r4, ref3_ObjectDigest.r6, e1, e4, e3]
  refine ⟨fun hlt => ?_, fun hge => ?_⟩
  · have hlt : i < o.Links.length := by omega
    have hd := h.lk _ (List.getElem_mem hlt)
    have hfl : ((o.Links.take i).flatMap wide).length ≤ 240 := by rw [flat_len, List.length_take]; omega
    refine opt_of (idx_nat' hlt) (opt_of (Wide_eq hd.1 hd.2) ?_)
    rw [app8 (by simp only [List.length_append, wide_len, List.length_cons, List.length_nil]; omega), opt_some, w64_succ (by omega), List.append_assoc, ← flat_take hlt]
    exact ⟨⟨i + 1, rfl, by omega, rfl⟩, by omega⟩
  · have : i = o.Links.length := by omega
    subst this
    rw [List.take_length]
    rw [app8 (by simp only [List.length_append, flat_len, List.length_cons, List.length_nil]; omega), opt_some]
    have hO := DigestOf_eq (data := objBytes o) (by omega)
    unfold objBytes at hO ⊢
    rw [hO, opt_some]
/-- What is wrong with a store's objects, from the i-th on; p: the digest before. -/
def sfaultL : Option Int → List StoredObject → Nat → Fault
  | _, [], _ => ⟨0, 0⟩
  | p, o :: l, i => if ¬ (oFault o.Object).Code = 0 then ⟨(oFault o.Object).Code, i⟩ else if ¬ dig (objBytes o.Object) = o.Digest then ⟨18, i⟩ else if (∃ q, p = some q ∧ o.Digest ≤ q) then ⟨5, i⟩ else sfaultL (some o.Digest) l (i + 1)
theorem sfaultL_cons (p : Option Int) (o : StoredObject) (l : List StoredObject) (i : Nat) : sfaultL p (o :: l) i = if ¬ (oFault o.Object).Code = 0 then ⟨(oFault o.Object).Code, i⟩ else if ¬ dig (objBytes o.Object) = o.Digest then ⟨18, i⟩ else if (∃ q, p = some q ∧ o.Digest ≤ q) then ⟨5, i⟩ else sfaultL (some o.Digest) l (i + 1) := rfl
def sFault (s : ObjectStore) : Fault := if 40 < s.Objects.length then ⟨2, 0⟩ else sfaultL none s.Objects 0
def prevD (l : List StoredObject) (i : Nat) : Option Int := if i = 0 then none else (l[i - 1]?).map (·.Digest)
theorem prevD_succ {l : List StoredObject} {i : Nat} (h : i < l.length) : prevD l (i + 1) = some l[i].Digest := by
  unfold prevD
  rw [if_neg (by omega), Nat.add_sub_cancel, List.getElem?_eq_getElem h]; rfl
theorem Validate_eq (s0 : ObjectStore) : objects_Validate.f s0 = some (sFault s0) := by
  refine retOf_of ?_
  unfold objects_Validate.body
  simp only [WL, objects_Validate.retv, objects_Validate.r0, objects_Validate.r1, objects_Validate.r2, objects_Validate.r3, objects_Validate.r4, objects_Validate.r5, objects_Validate.r6, objects_Validate.r7, objects_Validate.r8, objects_Validate.r9, objects_Validate.r10, objects_Validate.r11, objects_Validate.r12, objects_Validate.r13, objects_Validate.r14]
  refine ⟨fun h => by unfold sFault; rw [if_pos (by omega)], fun hl => ?_⟩
  have hS : sFault s0 = sfaultL none s0.Objects 0 := by unfold sFault; rw [if_neg (by omega)]
  rw [hS]
  refine W_iter (fun s => s.s_1 = s0 ∧ s.t_13 = s0.Objects ∧ s.t_14 = (s0.Objects.length : Int) ∧ ∃ i : Nat, s.t_15 = i ∧ i ≤ s0.Objects.length ∧ sfaultL none s0.Objects 0 = sfaultL (prevD s0.Objects i) (s0.Objects.drop i) i) (fun s => s0.Objects.length - s.t_15.toNat) ⟨rfl, rfl, rfl, 0, rfl, by omega, rfl⟩ ?_
  rintro s ⟨e1, e13, e14, i, e15, hi, hI⟩
  simp only [WL, objects_Validate.retv, objects_Validate.r0, objects_Validate.r1, objects_Validate.r2, objects_Validate.r3, objects_Validate.r4, objects_Validate.r5, objects_Validate.r6, objects_Validate.r7, objects_Validate.r8, objects_Validate.r9, objects_Validate.r10, objects_Validate.r11, objects_Validate.r12, objects_Validate.r13, objects_Validate.r14, e1, e13, e14, e15]
  refine ⟨fun hlt => ?_, fun hge => ?_⟩
  · have hlt : i < s0.Objects.length := by omega
    refine opt_of (idx_nat' hlt) ?_
    rw [List.drop_eq_getElem_cons hlt, sfaultL_cons, ← prevD_succ hlt] at hI
    by_cases hf : (oFault s0.Objects[i].Object).Code = 0
    · have hok := okO hf
      rw [if_neg (fun h => h hf)] at hI
      refine opt_of (Digest_eq hok) ?_
      obtain ⟨D, hD⟩ : ∃ D, D = dig (objBytes s0.Objects[i].Object) := ⟨_, rfl⟩
      rw [← hD] at hI ⊢
      refine ⟨fun h => absurd rfl h, fun _ => ⟨fun hd => ?_, fun hd => ?_⟩⟩
      · rw [if_pos hd] at hI
        rw [hI]
      · rw [if_neg (fun h => h hd)] at hI
        have hd : D = s0.Objects[i].Digest := hd
        have hnext : ¬ (∃ q, prevD s0.Objects i = some q ∧ s0.Objects[i].Digest ≤ q) → (∃ j : Nat, w64 ((i : Int) + 1) = j ∧ j ≤ s0.Objects.length ∧ sfaultL none s0.Objects 0 = sfaultL (prevD s0.Objects j) (s0.Objects.drop j) j) ∧ s0.Objects.length - (w64 ((i : Int) + 1)).toNat < s0.Objects.length - (i : Int).toNat := by
          intro hn
          rw [if_neg hn] at hI
          rw [w64_succ (by omega)]
          exact ⟨⟨i + 1, rfl, by omega, hI⟩, by omega⟩
        refine ⟨fun hp => ?_, fun hz => ?_⟩
        · have hlt1 : i - 1 < s0.Objects.length := by omega
          have hpv : prevD s0.Objects i = some s0.Objects[i - 1].Digest := by
            have := prevD_succ hlt1
            rw [Nat.sub_add_cancel (by omega)] at this
            exact this
          rw [w64_id (by omega) (by omega), show (i : Int) - 1 = ((i - 1 : Nat) : Int) by omega]
          refine opt_of (idx_nat' hlt1) ⟨fun h => ?_, fun h => ?_⟩
          · rw [hI, if_pos ⟨_, hpv, by rw [← hd]; exact h⟩]
          · refine hnext ?_
            rintro ⟨q, hq, hle⟩
            rw [hpv] at hq
            cases hq
            rw [← hd] at hle
            exact absurd hle (by omega)
        · refine hnext ?_
          rintro ⟨q, hq, _⟩
          have : i = 0 := by omega
          subst this
          cases hq
    · rw [if_pos hf] at hI
      refine opt_of (Digest_bad hf) ⟨fun _ => by rw [hI], fun h => absurd (congrArg Fault.Code h) hf⟩
  · have : i = s0.Objects.length := by omega
    subst this
    rw [List.drop_length] at hI
    rw [hI]; rfl
theorem StoreFault_eq (s0 : ObjectStore) : ref3_StoreFault.f s0 = some (sFault s0) := by
  refine retOf_of ?_
  unfold ref3_StoreFault.body
  simp only [WL, ref3_StoreFault.retv, ref3_StoreFault.r0, ref3_StoreFault.r1, ref3_StoreFault.r2, ref3_StoreFault.r3, ref3_StoreFault.r4, ref3_StoreFault.r6, ref3_StoreFault.r7, ref3_StoreFault.r8, ref3_StoreFault.r9, ref3_StoreFault.r10, ref3_StoreFault.r11, ref3_StoreFault.r12, ref3_StoreFault.r5, ref3_StoreFault.r13, Fault_eq]
  refine ⟨fun h => by unfold sFault; rw [if_pos (by omega)], fun hl => ?_⟩
  have hS : sFault s0 = sfaultL none s0.Objects 0 := by unfold sFault; rw [if_neg (by omega)]
  rw [hS]
  refine W_iter (fun s => s.t_1 = s0 ∧ ∃ i : Nat, s.t_3 = i ∧ i ≤ s0.Objects.length ∧ sfaultL none s0.Objects 0 = sfaultL (prevD s0.Objects i) (s0.Objects.drop i) i) (fun s => s0.Objects.length - s.t_3.toNat) ⟨rfl, 0, rfl, by omega, rfl⟩ ?_
  rintro s ⟨e1, i, e3, hi, hI⟩
  simp only [WL, ref3_StoreFault.retv, ref3_StoreFault.r0, ref3_StoreFault.r1, ref3_StoreFault.r2, ref3_StoreFault.r3, ref3_StoreFault.r4, ref3_StoreFault.r6, ref3_StoreFault.r7, ref3_StoreFault.r8, ref3_StoreFault.r9, ref3_StoreFault.r10, ref3_StoreFault.r11, ref3_StoreFault.r12, ref3_StoreFault.r5, ref3_StoreFault.r13, e1, e3, Fault_eq, ObjectFault_eq]
  refine ⟨fun hlt => ?_, fun hge => ?_⟩
  · have hlt : i < s0.Objects.length := by omega
    refine opt_of (idx_nat' hlt) ?_
    rw [List.drop_eq_getElem_cons hlt, sfaultL_cons, ← prevD_succ hlt] at hI
    refine ⟨fun hf => by rw [if_pos hf] at hI; rw [hI], fun hf => ?_⟩
    have hok := okO hf
    rw [if_neg (fun h => h hf)] at hI
    refine opt_of (idx_nat' hlt) (opt_of (idx_nat' hlt) (opt_of (ObjectDigest_eq hok) ?_))
    obtain ⟨D, hD⟩ : ∃ D, D = dig (objBytes s0.Objects[i].Object) := ⟨_, rfl⟩
    rw [← hD] at hI ⊢
    refine ⟨fun hd => by rw [if_pos hd] at hI; rw [hI], fun hd => ?_⟩
    rw [if_neg (fun h => h hd)] at hI
    have hnext : ¬ (∃ q, prevD s0.Objects i = some q ∧ s0.Objects[i].Digest ≤ q) → (∃ j : Nat, w64 ((i : Int) + 1) = j ∧ j ≤ s0.Objects.length ∧ sfaultL none s0.Objects 0 = sfaultL (prevD s0.Objects j) (s0.Objects.drop j) j) ∧ s0.Objects.length - (w64 ((i : Int) + 1)).toNat < s0.Objects.length - (i : Int).toNat := by
      intro hn
      rw [if_neg hn] at hI
      rw [w64_succ (by omega)]
      exact ⟨⟨i + 1, rfl, by omega, hI⟩, by omega⟩
    refine ⟨fun hp => ?_, fun hz => ?_⟩
    · have hlt1 : i - 1 < s0.Objects.length := by omega
      have hpv : prevD s0.Objects i = some s0.Objects[i - 1].Digest := by
        have := prevD_succ hlt1
        rw [Nat.sub_add_cancel (by omega)] at this
        exact this
      refine opt_of (idx_nat' hlt) ?_
      rw [w64_id (by omega) (by omega), show (i : Int) - 1 = ((i - 1 : Nat) : Int) by omega]
      refine opt_of (idx_nat' hlt1) ⟨fun h => ?_, fun h => ?_⟩
      · rw [hI, if_pos ⟨_, hpv, h⟩]
      · refine hnext ?_
        rintro ⟨q, hq, hle⟩
        rw [hpv] at hq
        cases hq
        omega
    · refine hnext ?_
      rintro ⟨q, hq, _⟩
      have : i = 0 := by omega
      subst this
      cases hq
  · have : i = s0.Objects.length := by omega
    subst this
    rw [List.drop_length] at hI
    rw [hI]; rfl
/-- A valid store. -/
structure OkS (l : List StoredObject) : Prop where
  len : l.length ≤ 40
  obj : ∀ o ∈ l, OkO o.Object ∧ dig (objBytes o.Object) = o.Digest
  inc : l.Pairwise (fun a b => a.Digest < b.Digest)
theorem sfaultL_iff : ∀ (l : List StoredObject) (p : Option Int) (i : Nat), (sfaultL p l i).Code = 0 ↔ ((∀ o ∈ l, OkO o.Object ∧ dig (objBytes o.Object) = o.Digest) ∧ l.Pairwise (fun a b => a.Digest < b.Digest) ∧ ∀ q, p = some q → ∀ o ∈ l, q < o.Digest)
  | [], _, _ => by simp [sfaultL]
  | o :: l, p, i => by
    rw [sfaultL_cons]
    by_cases c1 : (oFault o.Object).Code = 0
    · rw [if_neg (fun h => h c1)]
      by_cases c2 : dig (objBytes o.Object) = o.Digest
      · rw [if_neg (fun h => h c2)]
        by_cases c3 : ∃ q, p = some q ∧ o.Digest ≤ q
        · rw [if_pos c3]
          constructor
          · intro h; cases h
          · rintro ⟨_, _, h⟩
            obtain ⟨q, hq, hle⟩ := c3
            have := h q hq o (.head _)
            omega
        · rw [if_neg c3, sfaultL_iff l]
          constructor
          · rintro ⟨h1, h2, h3⟩
            refine ⟨fun x hx => ?_, List.pairwise_cons.2 ⟨fun x hx => h3 _ rfl x hx, h2⟩, fun q hq x hx => ?_⟩
            · rcases List.mem_cons.1 hx with rfl | hx
              · exact ⟨okO c1, c2⟩
              · exact h1 x hx
            · have ho : q < o.Digest := by
                by_cases hle : o.Digest ≤ q
                · exact absurd ⟨q, hq, hle⟩ c3
                · omega
              rcases List.mem_cons.1 hx with rfl | hx
              · exact ho
              · have := h3 _ rfl x hx; omega
          · rintro ⟨h1, h2, h3⟩
            have h2' := List.pairwise_cons.1 h2
            exact ⟨fun x hx => h1 x (.tail _ hx), h2'.2, fun q hq x hx => by cases hq; exact h2'.1 x hx⟩
      · rw [if_pos c2]
        constructor
        · intro h; cases h
        · rintro ⟨h, _⟩; exact absurd (h o (.head _)).2 c2
    · rw [if_pos c1]
      constructor
      · intro h; exact absurd h c1
      · rintro ⟨h, _⟩
        have := (h o (.head _)).1.eq
        exact absurd (by rw [this]) c1
theorem sFault_ok {s : ObjectStore} : (sFault s).Code = 0 ↔ OkS s.Objects := by
  unfold sFault
  by_cases hl : 40 < s.Objects.length
  · rw [if_pos hl]
    constructor
    · intro h; cases h
    · intro h; have := h.len; omega
  · rw [if_neg hl, sfaultL_iff]
    constructor
    · rintro ⟨h1, h2, _⟩; exact ⟨by omega, h1, h2⟩
    · intro h; exact ⟨h.obj, h.inc, by simp⟩
theorem sfaultL_zero : ∀ (l : List StoredObject) (p : Option Int) (i : Nat), (sfaultL p l i).Code = 0 → sfaultL p l i = ⟨0, 0⟩
  | [], _, _, _ => rfl
  | o :: l, p, i, h => by
    rw [sfaultL_cons] at h ⊢
    split at h
    · rename_i c; exact absurd h c
    · split at h
      · cases h
      · split at h
        · cases h
        · rename_i c1 c2 c3
          rw [if_neg c1, if_neg c2, if_neg c3]
          exact sfaultL_zero l _ _ h
theorem sFault_eq0 {s : ObjectStore} : sFault s = ⟨0, 0⟩ ↔ OkS s.Objects := by
  constructor
  · intro h; exact sFault_ok.1 (by rw [h])
  · intro h
    have hc := sFault_ok.2 h
    unfold sFault at hc ⊢
    rw [if_neg (by have := h.len; omega)] at hc ⊢
    exact sfaultL_zero _ _ _ hc
end Go.Proofs.YtenkbkcddcnmeaaDoor
