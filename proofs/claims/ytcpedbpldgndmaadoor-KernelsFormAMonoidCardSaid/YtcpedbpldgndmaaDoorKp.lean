/-
  law 31: plain laws.
-/
import Derived.Test.YtcpedbpldgndmaaDoorKy
set_option linter.unusedSimpArgs false
set_option linter.unusedVariables false
set_option maxRecDepth 100000
set_option maxHeartbeats 1600000
namespace Go.Proofs.YtcpedbpldgndmaaDoor
open Go.RowKit
theorem yq_rtl {l : List Int} (hl : Kok l) (ys : List Rat) : yq (rtl l ys) = cv (nm l) (yq ys) := by
  funext t
  have hl1 := hl.len1
  by_cases h : ys = []
  · subst h
    rw [show rtl l ([] : List Rat) = [] from if_pos rfl, yq_out (Nat.zero_le _)]
    exact (sm_none fun i _ => by rw [yq_out (Nat.zero_le _), Rat.mul_zero]).symm
  · rw [show rtl l ys = (List.range (ys.length + l.length - 1)).map (cv (nm l) (yq ys)) from if_neg h]
    rcases Nat.lt_or_ge t (ys.length + l.length - 1) with h2 | h2
    · exact yq_range _ h2
    · rw [yq_out (by simpa using h2), cv_zero (nm l) (yq ys) (n := l.length) (m := ys.length) (fun i hi => nm_out hi) (fun i hi => yq_out hi) (by omega)]
theorem rtl_cpK {l m : List Int} (hl : Kok l) (hm : Kok m) (h : cpE l m = 0) (ys : List Rat) (k : Nat) : yq (rtl m (rtl l ys)) k = yq (rtl (cpK l m) ys) k := by
  rw [yq_rtl hm, yq_rtl hl, yq_rtl (cpK_ok hl hm h), cpK_nm hl hm h]
  show cv (nm m) (fun t => cv (nm l) (yq ys) t) k = cv (fun t => cv (nm l) (nm m) t) (yq ys) k
  rw [← cv_assoc]
  congr 1
  funext t
  exact cv_comm _ _ t
theorem cpK_len {l m : List Int} (hl : Kok l) (hm : Kok m) : (cpK l m).length ≤ l.length + m.length := by
  unfold cpK
  rw [red_len]
  have h1 := ll_le (cvl (red l) (red m))
  rw [cvl_len, red_len, red_len] at h1
  have h2 := ll_le l
  have h3 := ll_le m
  omega
theorem rtl_len2 (l : List Int) (ys : List Rat) : (rtl l ys).length ≤ ys.length + l.length := by
  unfold rtl
  split
  · simp
  · simp
theorem few_len {l : List Int} (hk : Kok l) (h : fewK l.length = true) : l.length ≤ 30 := by
  unfold fewK at h
  have h1 := hk.len2
  simp at h
  omega
theorem few_sz {xs : List Tr} (hF : fewS xs 60 = true) (hv : vds xs = true) : ∀ k, szR (yq (xs.map trq) k) 20 := fun k => by
  have h1 := (fewS_t hF).2 k
  have h2 : xt xs k = tr (yq (xs.map trq) k) := by rw [← xt_map, vds_tr hv]
  rw [h2] at h1
  exact szR_tz (rq_rb _) h1
end Go.Proofs.YtcpedbpldgndmaaDoor
