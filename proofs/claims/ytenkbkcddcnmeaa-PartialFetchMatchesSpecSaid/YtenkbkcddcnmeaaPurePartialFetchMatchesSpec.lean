/- PartialFetchMatchesSpec, the plain part. -/
import Derived.Test.YtenkbkcddcnmeaaPp11
import Derived.Test.YtenkbkcddcnmeaaOp
namespace Go.Proofs.Ytenkbkcddcnmeaa.Pure
open Go.Fx Go.RowKit
set_option linter.unusedVariables false
set_option linter.unusedSimpArgs false
set_option maxRecDepth 20000
theorem PartialFetchMatchesSpec {s : ObjectStore} {pr : List Int} {re : ObjectStore} {ws : List Int} (h1 : ok_ObjectStore s) (h2 : okL (okI .i64) pr) (h3 : ok_ObjectStore re) (h4 : okL (okI .i64) ws) : law4_PartialFetchMatchesSpec.f s pr re ws = some true := by
  have hpr : ∀ d ∈ pr, I64 d := fun d hd => okI64 (h2.2 d hd)
  refine retOf_of ?_
  unfold law4_PartialFetchMatchesSpec.body
  rcases Classical.em (¬ (pFault s pr).Code = 0) with hS | hS
  · simp only [WL, law4_PartialFetchMatchesSpec.retv, law4_PartialFetchMatchesSpec.r0, law4_PartialFetchMatchesSpec.r1, law4_PartialFetchMatchesSpec.r2, law4_PartialFetchMatchesSpec.r3, law4_PartialFetchMatchesSpec.r4, law4_PartialFetchMatchesSpec.r5, law4_PartialFetchMatchesSpec.r6, law4_PartialFetchMatchesSpec.r7, law4_PartialFetchMatchesSpec.r8, law4_PartialFetchMatchesSpec.r9, law4_PartialFetchMatchesSpec.r10, law4_PartialFetchMatchesSpec.r11, law4_PartialFetchMatchesSpec.r12, law4_PartialFetchMatchesSpec.r13, law4_PartialFetchMatchesSpec.r14, law4_PartialFetchMatchesSpec.r15, example_eq, Fetch_bad1 hpr hS, PromiseFault_eq, StoreFault_eq, Fault_eq, Bool.not_true, w64_00]
    simp [hS]
  have hS := Classical.not_not.1 hS
  obtain ⟨l⟩ := s
  obtain ⟨hO, hP⟩ := pFault_ok.1 hS
  have hV := PromiseFault_eq ⟨l⟩ pr
  rw [pFault_eq0.2 ⟨hO, hP⟩] at hV
  rcases Classical.em (¬ (sFault re).Code = 0) with hR | hR
  · simp only [WL, law4_PartialFetchMatchesSpec.retv, law4_PartialFetchMatchesSpec.r0, law4_PartialFetchMatchesSpec.r1, law4_PartialFetchMatchesSpec.r2, law4_PartialFetchMatchesSpec.r3, law4_PartialFetchMatchesSpec.r4, law4_PartialFetchMatchesSpec.r5, law4_PartialFetchMatchesSpec.r6, law4_PartialFetchMatchesSpec.r7, law4_PartialFetchMatchesSpec.r8, law4_PartialFetchMatchesSpec.r9, law4_PartialFetchMatchesSpec.r10, law4_PartialFetchMatchesSpec.r11, law4_PartialFetchMatchesSpec.r12, law4_PartialFetchMatchesSpec.r13, law4_PartialFetchMatchesSpec.r14, law4_PartialFetchMatchesSpec.r15, example_eq, Fetch_bad2 hO hP hR, hV, StoreFault_eq, Fault_eq, Bool.not_true, w64_00]
    simp [hR]
  have hR := Classical.not_not.1 hR
  obtain ⟨re⟩ := re
  have hRO : OkS re := sFault_ok.1 hR
  have hVR := StoreFault_eq ⟨re⟩
  rw [sFault_eq0.2 hRO] at hVR
  rcases Classical.em (40 < ws.length) with hb | hb
  · simp only [WL, law4_PartialFetchMatchesSpec.retv, law4_PartialFetchMatchesSpec.r0, law4_PartialFetchMatchesSpec.r1, law4_PartialFetchMatchesSpec.r2, law4_PartialFetchMatchesSpec.r3, law4_PartialFetchMatchesSpec.r4, law4_PartialFetchMatchesSpec.r5, law4_PartialFetchMatchesSpec.r6, law4_PartialFetchMatchesSpec.r7, law4_PartialFetchMatchesSpec.r8, law4_PartialFetchMatchesSpec.r9, law4_PartialFetchMatchesSpec.r10, law4_PartialFetchMatchesSpec.r11, law4_PartialFetchMatchesSpec.r12, law4_PartialFetchMatchesSpec.r13, law4_PartialFetchMatchesSpec.r14, law4_PartialFetchMatchesSpec.r15, example_eq, Fetch_bad3 hO hP hRO hb, hV, hVR, Fault_eq, Bool.not_true, w64_00]
    simp
    omega
  have hb' : ¬ (40 : Int) < (ws.length : Int) := by omega
  have hF := Fetch_eq hO hP hRO (ws := ws) (by omega)
  have hG := FetchOf_eq hO hP hRO (ws := ws) (by omega)
  rcases fetchR_cases (ws := ws) hO hP hRO with ⟨r, _, hr, e⟩ | ⟨f, hf, _, e⟩
  · rw [e] at hF hG
    have hSt := Stores_eq (a := r) (b := r) (by have := hr.len; omega) (fun x hx => by have := (hr.obj x hx).1.ll; omega)
    have hI := Ints_eq (a := left pr ws) (b := left pr ws) (by have := left_len (dn := ws) hP; omega)
    simp only [WL, law4_PartialFetchMatchesSpec.retv, law4_PartialFetchMatchesSpec.r0, law4_PartialFetchMatchesSpec.r1, law4_PartialFetchMatchesSpec.r2, law4_PartialFetchMatchesSpec.r3, law4_PartialFetchMatchesSpec.r4, law4_PartialFetchMatchesSpec.r5, law4_PartialFetchMatchesSpec.r6, law4_PartialFetchMatchesSpec.r7, law4_PartialFetchMatchesSpec.r8, law4_PartialFetchMatchesSpec.r9, law4_PartialFetchMatchesSpec.r10, law4_PartialFetchMatchesSpec.r11, law4_PartialFetchMatchesSpec.r12, law4_PartialFetchMatchesSpec.r13, law4_PartialFetchMatchesSpec.r14, law4_PartialFetchMatchesSpec.r15, example_eq, hF, hG, hV, hVR, hSt, hI, Fault_eq, Bool.not_true, w64_00]
    exact ⟨fun e => absurd e hb', fun _ => congrArg Ctl.ret (decide_eq_true trivial)⟩
  · rw [e] at hF hG
    simp only [WL, law4_PartialFetchMatchesSpec.retv, law4_PartialFetchMatchesSpec.r0, law4_PartialFetchMatchesSpec.r1, law4_PartialFetchMatchesSpec.r2, law4_PartialFetchMatchesSpec.r3, law4_PartialFetchMatchesSpec.r4, law4_PartialFetchMatchesSpec.r5, law4_PartialFetchMatchesSpec.r6, law4_PartialFetchMatchesSpec.r7, law4_PartialFetchMatchesSpec.r8, law4_PartialFetchMatchesSpec.r9, law4_PartialFetchMatchesSpec.r10, law4_PartialFetchMatchesSpec.r11, law4_PartialFetchMatchesSpec.r12, law4_PartialFetchMatchesSpec.r13, law4_PartialFetchMatchesSpec.r14, law4_PartialFetchMatchesSpec.r15, example_eq, hF, hG, hV, hVR, Fault_eq, Bool.not_true, w64_00]
    exact ⟨fun e => absurd e hb', fun _ => ⟨fun _ => by rw [decide_true]; rfl, fun e => absurd e hf⟩⟩
end Go.Proofs.Ytenkbkcddcnmeaa.Pure
