/-
  law 31: delays, means.
-/
import Derived.Test.YtcpedbpldgndmaaDoorKy
set_option linter.unusedSimpArgs false
set_option linter.unusedVariables false
set_option maxRecDepth 100000
set_option maxHeartbeats 1600000
namespace Go.Proofs.YtcpedbpldgndmaaDoor
open Go.RowKit
theorem yq_rtl {l : List Int} (hl : Kok l) (ys : List Rat) : yq (rtl l ys) = cv (nm l) (yq ys) := by
  funext t
  have hl1 := hl.len1
  by_cases h : ys = []
  · subst h
    rw [show rtl l ([] : List Rat) = [] from if_pos rfl, yq_out (Nat.zero_le _)]
    exact (sm_none fun i _ => by rw [yq_out (Nat.zero_le _), Rat.mul_zero]).symm
  · rw [show rtl l ys = (List.range (ys.length + l.length - 1)).map (cv (nm l) (yq ys)) from if_neg h]
    rcases Nat.lt_or_ge t (ys.length + l.length - 1) with h2 | h2
    · exact yq_range _ h2
    · rw [yq_out (by simpa using h2), cv_zero (nm l) (yq ys) (n := l.length) (m := ys.length) (fun i hi => nm_out hi) (fun i hi => yq_out hi) (by omega)]
theorem rtl_len2 (l : List Int) (ys : List Rat) : (rtl l ys).length ≤ ys.length + l.length := by
  unfold rtl
  split
  · simp
  · simp
theorem few_len {l : List Int} (hk : Kok l) (h : fewK l.length = true) : l.length ≤ 30 := by
  unfold fewK at h
  have h1 := hk.len2
  simp at h
  omega
theorem few_sz {xs : List Tr} (hF : fewS xs 60 = true) (hv : vds xs = true) : ∀ k, szR (yq (xs.map trq) k) 20 := fun k => by
  have h1 := (fewS_t hF).2 k
  have h2 : xt xs k = tr (yq (xs.map trq) k) := by rw [← xt_map, vds_tr hv]
  rw [h2] at h1
  exact szR_tz (rq_rb _) h1
end Go.Proofs.YtcpedbpldgndmaaDoor
namespace Go.Proofs.YtcpedbpldgndmaaDoor
open Go.RowKit
theorem mk_sz {l : List Int} (hl : Kok l) (h : l.length ≤ 400) : ∀ k, k ≤ l.length → szR (mk l k) (k * 22 + 1)
  | 0, _ => szR_zero
  | k + 1, hk => by
    have h1 := mk_sz hl h k (by omega)
    have hki : insB (k : Int) = true := insB_nn (by omega) (by omega)
    exact (szR_add h1 (szR_mul (szR_int hki) (szR_rk _ _ (hl.insw k) hl.inst))).mono (by omega)
theorem mean_sz {l : List Int} (hl : Kok l) : szR (mean l) (l.length * 22 + 1) := by
  rw [← mk_mean]
  exact mk_sz hl hl.len2 _ (Nat.le_refl _)
end Go.Proofs.YtcpedbpldgndmaaDoor
