/- PartialFetchRestores, the plain part. -/
import Derived.Test.YtenkbkcddcnmeaaPp11
import Derived.Test.YtenkbkcddcnmeaaOp
namespace Go.Proofs.Ytenkbkcddcnmeaa.Pure
open Go.Fx Go.RowKit
set_option linter.unusedVariables false
set_option linter.unusedSimpArgs false
set_option maxRecDepth 20000
theorem PartialFetchRestores {s : ObjectStore} {limit : Int} (h1 : ok_ObjectStore s) (h2 : okI .i64 limit) : law4_PartialFetchRestores.f s limit = some true := by
  refine retOf_of ?_
  unfold law4_PartialFetchRestores.body
  rcases Classical.em (¬ (sFault s).Code = 0) with hS | hS
  · simp only [WL, law4_PartialFetchRestores.retv, law4_PartialFetchRestores.r0, law4_PartialFetchRestores.r1, law4_PartialFetchRestores.r2, law4_PartialFetchRestores.r3, law4_PartialFetchRestores.r4, law4_PartialFetchRestores.r5, law4_PartialFetchRestores.r6, law4_PartialFetchRestores.r7, example_eq, Filter_bad1 hS, Bool.not_true, w64_00]
    simp [hS]
  have hS := Classical.not_not.1 hS
  obtain ⟨l⟩ := s
  have hO : OkS l := sFault_ok.1 hS
  have hl := hO.len
  rcases Classical.em (¬ (0 ≤ limit ∧ limit ≤ 1000)) with hb | hb
  · simp only [WL, law4_PartialFetchRestores.retv, law4_PartialFetchRestores.r0, law4_PartialFetchRestores.r1, law4_PartialFetchRestores.r2, law4_PartialFetchRestores.r3, law4_PartialFetchRestores.r4, law4_PartialFetchRestores.r5, law4_PartialFetchRestores.r6, law4_PartialFetchRestores.r7, example_eq, Filter_bad2 hO hb, Bool.not_true, w64_00]
    simp
  have hb := Classical.not_not.1 hb
  have hP := keep_P hO limit
  have hK := hO.filter (keep limit)
  have hlen := keep_len (l := l) limit
  have hF := Fetch_eq hK hP hO (ws := (l.filter fun x => !keep limit x).map (·.Digest)) (by omega)
  have hnd : ((l.filter fun x => !keep limit x).map (·.Digest)).Nodup := hP.inc.imp fun {a b} (h : a < b) (e : a = b) => by omega
  obtain ⟨r, e, hr, hm⟩ := fetchR_good hK hP hO (ws := (l.filter fun x => !keep limit x).map (·.Digest)) hnd (fun d hd => ⟨hd, keep_all limit hd⟩) (by omega)
  rw [e] at hF
  have hrl : r = l := sto_inc_ext hr.inc hO.inc fun x => by
    rw [hm x, List.mem_filter]
    constructor
    · rintro (h | h)
      · exact h.1
      · exact h.1
    · intro hx
      cases hk : keep limit x with
      | true => exact .inl ⟨hx, rfl⟩
      | false => exact .inr ⟨hx, List.mem_map.2 ⟨x, List.mem_filter.2 ⟨hx, by rw [hk]; rfl⟩, rfl⟩⟩
  subst hrl
  have hleft : left ((r.filter fun x => !keep limit x).map (·.Digest)) ((r.filter fun x => !keep limit x).map (·.Digest)) = [] := by
    unfold left
    rw [List.filter_eq_nil_iff]
    intro d hd
    simp only [hd, decide_true, Bool.not_true]
    decide
  rw [hleft] at hF
  have hSt := Stores_eq (a := r) (b := r) (by omega) (fun x hx => by have := (hr.obj x hx).1.ll; omega)
  simp only [WL, law4_PartialFetchRestores.retv, law4_PartialFetchRestores.r0, law4_PartialFetchRestores.r1, law4_PartialFetchRestores.r2, law4_PartialFetchRestores.r3, law4_PartialFetchRestores.r4, law4_PartialFetchRestores.r5, law4_PartialFetchRestores.r6, law4_PartialFetchRestores.r7, example_eq, Filter_eq hO hb.1 hb.2, hF, hSt, Bool.not_true]
  simp
end Go.Proofs.Ytenkbkcddcnmeaa.Pure
