/-
  law 31: what arrives: sums, moments, signs, sums of flows.
-/
import Derived.Test.YtcpedbpldgndmaaDoorKy
set_option linter.unusedSimpArgs false
set_option linter.unusedVariables false
set_option maxRecDepth 100000
set_option maxHeartbeats 1600000
namespace Go.Proofs.YtcpedbpldgndmaaDoor
open Go.RowKit
theorem yq_rtl {l : List Int} (hl : Kok l) (ys : List Rat) : yq (rtl l ys) = cv (nm l) (yq ys) := by
 funext t
 have hl1 := hl.len1
 by_cases h : ys = []
 ·subst h
  rw [show rtl l ([] : List Rat) = [] from if_pos rfl, yq_out (Nat.zero_le _)];exact (sm_none fun i _ => by rw [yq_out (Nat.zero_le _), Rat.mul_zero]).symm
 ·rw [show rtl l ys = (List.range (ys.length + l.length - 1)).map (cv (nm l) (yq ys)) from if_neg h]
  rcases Nat.lt_or_ge t (ys.length + l.length - 1) with h2 | h2
  ·exact yq_range _ h2
  ·rw [yq_out (by simpa using h2), cv_zero (nm l) (yq ys) (n := l.length) (m := ys.length) (fun i hi => nm_out hi) (fun i hi => yq_out hi) (by omega)]
theorem rtl_len2 (l : List Int) (ys : List Rat) : (rtl l ys).length ≤ ys.length + l.length := by
 unfold rtl
 split
 ·simp
 ·simp
theorem few_len {l : List Int} (hk : Kok l) (h : fewK l.length = true) : l.length ≤ 30 := by
 unfold fewK at h
 have h1 := hk.len2
 simp at h
 omega
theorem few_sz {xs : List Tr} (hF : fewS xs 60 = true) (hv : vds xs = true) : ∀ k, szR (yq (xs.map trq) k) 20 := fun k => by
 have h1 := (fewS_t hF).2 k
 have h2 : xt xs k = tr (yq (xs.map trq) k) := by rw [← xt_map, vds_tr hv]
 rw [h2] at h1;exact szR_tz (rq_rb _) h1
end Go.Proofs.YtcpedbpldgndmaaDoor
namespace Go.Proofs.YtcpedbpldgndmaaDoor
open Go.RowKit
theorem rN_nn {x : Rat} : rN x = false ↔ 0 ≤ x := by
 unfold rN
 rw [decide_eq_false_iff_not, Int.not_lt];exact Rat.num_nonneg
end Go.Proofs.YtcpedbpldgndmaaDoor
