/-
  law 31: delays, means.
-/
import Derived.Test.YtcpedbpldgndmaaDoorKp
set_option linter.unusedSimpArgs false
set_option linter.unusedVariables false
set_option maxRecDepth 100000
set_option maxHeartbeats 1600000
namespace Go.Proofs.YtcpedbpldgndmaaDoor
open Go.RowKit
theorem wt_dly (t k : Nat) : wt (dly t) k = if k = t then 1 else 0 := by
  unfold wt dly
  rw [List.getD_eq_getElem?_getD, List.getElem?_set]
  by_cases h : t = k
  · subst h
    simp
  · rw [if_neg h, if_neg (fun h9 => h h9.symm), List.getElem?_replicate]
    split <;> rfl
theorem tot_dly (t : Nat) : tot (dly t) = 1 := by
  unfold tot
  rw [dly_len, tk_succ, wt_dly, if_pos rfl]
  unfold tk
  rw [smI_more (n := 0) (m := t) (Nat.zero_le _) (fun i _ h => by rw [wt_dly, if_neg (by omega)])]
  rfl
theorem dly_kok {t : Nat} (h : t < 400) : Kok (dly t) :=
  ⟨by rw [dly_len]; omega, by rw [dly_len]; omega, fun k => by rw [wt_dly]; split <;> decide, by rw [tot_dly]; decide, by rw [tot_dly]; decide⟩
theorem nm_dly (t k : Nat) : nm (dly t) k = if k = t then 1 else 0 := by
  unfold nm
  rw [wt_dly, tot_dly]
  split <;> decide +kernel
theorem red_dly {t : Nat} (h : t < 400) : red (dly t) = dly t := by
  have hk := dly_kok h
  have hg : gg (dly t) = 1 := by
    have h1 := hk.gg_dvd t
    rw [wt_dly, if_pos rfl] at h1
    have h2 := Int.eq_one_of_dvd_one (by omega) h1
    omega
  have hl : ll (dly t) = t + 1 := by
    have h1 := ll_le (dly t)
    rw [dly_len] at h1
    rcases Nat.lt_or_ge (ll (dly t)) (t + 1) with h2 | h2
    · have h3 := ll_zero hk.pos (j := t) (by omega)
      rw [wt_dly, if_pos rfl] at h3
      cases h3
    · omega
  refine wt_ext (by rw [red_len, hl, dly_len]) fun k _ => ?_
  have h1 := hk.wt_red k
  rw [hg] at h1
  rw [h1]
  exact (Int.one_mul _).symm
theorem red_dly_tot {t : Nat} (h : t < 400) : tot (red (dly t)) = 1 := by rw [red_dly h, tot_dly]
theorem cp_zero {l : List Int} (h : Kok l) : cpE l (dly 0) = 0 := by
  refine (cpE_ok h (dly_kok (by decide))).2 ⟨?_, ?_⟩
  · rw [red_dly (by decide), dly_len]
    have := h.red.len2
    omega
  · rw [red_dly_tot (by decide), Int.mul_one]
    exact h.red.le
theorem cv_dly (a : Nat → Rat) (k : Nat) : cv a (nm (dly 0)) k = a k := by
  unfold cv
  rw [sm_one (k := k) (by omega) (fun i hi hne => by
    show a i * nm (dly 0) (k - i) = 0
    rw [nm_dly, if_neg (by omega), Rat.mul_zero])]
  show a k * nm (dly 0) (k - k) = a k
  rw [nm_dly, if_pos (by omega), Rat.mul_one]
theorem cpK_zero {l : List Int} (h : Kok l) : cpK l (dly 0) = red l := by
  have h0 := dly_kok (t := 0) (by decide)
  have hc := cp_zero h
  refine red_uniq (cpK_kok h h0 hc) h ?_
  rw [nm_cvl h.red h0.red, h.nm_red, h0.nm_red]
  funext k
  exact cv_dly _ k
theorem cp_dly {p q : Nat} (hp : p < 100) (hq : q < 100) : cpE (dly p) (dly q) = 0 := by
  refine (cpE_ok (dly_kok (by omega)) (dly_kok (by omega))).2 ⟨?_, ?_⟩
  · rw [red_dly (by omega), red_dly (by omega), dly_len, dly_len]
    omega
  · rw [red_dly_tot (by omega), red_dly_tot (by omega)]
    decide
theorem cpK_dly {p q : Nat} (hp : p < 100) (hq : q < 100) : cpK (dly p) (dly q) = dly (p + q) := by
  have h1 := dly_kok (t := p) (by omega)
  have h2 := dly_kok (t := q) (by omega)
  have hc := cp_dly hp hq
  rw [← red_dly (t := p + q) (by omega)]
  refine red_uniq (cpK_kok h1 h2 hc) (dly_kok (by omega)) ?_
  rw [nm_cvl h1.red h2.red, h1.nm_red, h2.nm_red]
  funext k
  rw [nm_dly]
  unfold cv
  rcases Nat.lt_or_ge k p with h9 | h9
  · rw [if_neg (by omega)]
    exact sm_none fun i hi => by rw [nm_dly, if_neg (by omega), Rat.zero_mul]
  · rw [sm_one (k := p) (by omega) (fun i hi hne => by
      show nm (dly p) i * nm (dly q) (k - i) = 0
      rw [nm_dly, if_neg hne, Rat.zero_mul])]
    show nm (dly p) p * nm (dly q) (k - p) = _
    rw [nm_dly, if_pos rfl, Rat.one_mul, nm_dly]
    split <;> split <;> first | rfl | omega
theorem mk_sz {l : List Int} (hl : Kok l) (h : l.length ≤ 400) : ∀ k, k ≤ l.length → szR (mk l k) (k * 22 + 1)
  | 0, _ => szR_zero
  | k + 1, hk => by
    have h1 := mk_sz hl h k (by omega)
    have hki : insB (k : Int) = true := insB_nn (by omega) (by omega)
    exact (szR_add h1 (szR_mul (szR_int hki) (szR_rk _ _ (hl.insw k) hl.inst))).mono (by omega)
theorem mean_sz {l : List Int} (hl : Kok l) : szR (mean l) (l.length * 22 + 1) := by
  rw [← mk_mean]
  exact mk_sz hl hl.len2 _ (Nat.le_refl _)
theorem cpE_two {l m : List Int} : cpE l m ≠ 0 → cpE l m = 2 ∨ cpE l m = 3 := by
  unfold cpE
  split
  · exact fun _ => .inl rfl
  · split
    · exact fun _ => .inr rfl
    · exact fun h => absurd rfl h
end Go.Proofs.YtcpedbpldgndmaaDoor
