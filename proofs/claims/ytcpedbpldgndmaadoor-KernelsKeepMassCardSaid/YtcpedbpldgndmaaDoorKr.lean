/-
  law 31: what arrives: sums, moments, signs, sums of flows.
-/
import Derived.Test.YtcpedbpldgndmaaDoorKq
set_option linter.unusedSimpArgs false
set_option linter.unusedVariables false
set_option maxRecDepth 100000
set_option maxHeartbeats 1600000
namespace Go.Proofs.YtcpedbpldgndmaaDoor
open Go.RowKit
/-- The sum of all. -/
def sml (l : List Rat) : Rat := sm l.length (yq l)
theorem sumR_take (ys : List Rat) : ∀ k, k ≤ ys.length → sumR ((ys.take k).map tr) = sm k (yq ys)
  | 0, _ => rfl
  | k + 1, h => by
    rw [List.take_succ_eq_append_getElem (by omega), List.map_append, List.map_cons, List.map_nil, sumR_snoc, sumR_take ys k (by omega), sm_succ, yq_in (by omega)]
    congr 1
    exact rq_rb _
theorem sumR_tr (ys : List Rat) : sumR (ys.map tr) = sml ys := by
  have h := sumR_take ys ys.length (Nat.le_refl _)
  rw [List.take_length] at h
  exact h
theorem rtl_nil (l : List Int) : rtl l [] = [] := if_pos rfl
theorem sml_rtl {l : List Int} (hl : Kok l) (ys : List Rat) : sml (rtl l ys) = sml ys := by
  have hl1 := hl.len1
  by_cases h : ys = []
  · subst h
    rw [rtl_nil]
  · have hn : 0 < ys.length := List.length_pos_iff.2 h
    unfold sml
    rw [yq_rtl hl, rtl_len h]
    have h1 := cv_sum (nm l) (yq ys) (n := l.length) (m := ys.length) (N := ys.length + l.length - 1) (fun i hi => nm_out hi) (fun i hi => yq_out hi) (by omega) (fun _ => 1)
    have h2 : (sm (ys.length + l.length - 1) fun t => (1 : Rat) * cv (nm l) (yq ys) t) = sm (ys.length + l.length - 1) (cv (nm l) (yq ys)) := sm_congr fun i _ => Rat.one_mul _
    rw [← h2, h1]
    have h3 : (sm l.length fun i => sm ys.length fun j => (1 : Rat) * (nm l i * yq ys j)) = sm l.length fun i => nm l i * sm ys.length (yq ys) := sm_congr fun i _ => by
      rw [← sm_mul]
      exact sm_congr fun j _ => Rat.one_mul _
    rw [h3, sm_mulr, nm_sum hl, Rat.one_mul]
theorem mom_rtl {l : List Int} (hl : Kok l) (ys : List Rat) : mom (rtl l ys) (rtl l ys).length = mom ys ys.length + mean l * sml ys := by
  have hl1 := hl.len1
  by_cases h : ys = []
  · subst h
    rw [rtl_nil]
    show (0 : Rat) = 0 + mean l * 0
    rw [Rat.mul_zero, Rat.zero_add]
  · have hn : 0 < ys.length := List.length_pos_iff.2 h
    unfold mom sml
    rw [yq_rtl hl, rtl_len h]
    have h1 := cv_moment (a := nm l) (b := yq ys) (n := l.length) (m := ys.length) (N := ys.length + l.length - 1) (fun i hi => nm_out hi) (fun i hi => yq_out hi) (by omega)
    simp only [Rat.intCast_natCast]
    rw [h1, nm_sum hl, Rat.one_mul, Rat.add_comm]
    rfl
theorem sm_nn {f : Nat → Rat} : ∀ {n : Nat}, (∀ i, i < n → 0 ≤ f i) → 0 ≤ sm n f
  | 0, _ => Rat.le_refl
  | n + 1, h => by
    rw [sm_succ]
    have h1 := sm_nn (n := n) fun i hi => h i (by omega)
    have h2 := h n (by omega)
    grind
theorem nm_nn {l : List Int} (hl : Kok l) (k : Nat) : 0 ≤ nm l k := by
  unfold nm
  have h1 : (0 : Rat) ≤ (wt l k : Rat) := by
    have h9 := hl.pos k
    exact_mod_cast h9
  have h2 : (0 : Rat) < (tot l : Rat) := by
    have h9 := hl.tpos
    exact_mod_cast h9
  rw [Rat.div_def]
  exact Rat.mul_nonneg h1 (Rat.le_of_lt (Rat.inv_pos.2 h2))
theorem rN_nn {x : Rat} : rN x = false ↔ 0 ≤ x := by
  unfold rN
  rw [decide_eq_false_iff_not, Int.not_lt]
  exact Rat.num_nonneg
theorem rtl_nn {l : List Int} (hl : Kok l) {ys : List Rat} (h : ∀ j, rN (yq ys j) = false) (k : Nat) : rN (yq (rtl l ys) k) = false := by
  rw [yq_rtl hl, rN_nn]
  exact sm_nn fun i _ => Rat.mul_nonneg (nm_nn hl i) (rN_nn.1 (h _))
/-- Two lists of flows, tick by tick. -/
def adq (ys zs : List Rat) (k : Nat) : List Rat := (List.range k).map fun i => yq ys i + yq zs i
theorem adq_len (ys zs : List Rat) (k : Nat) : (adq ys zs k).length = k := by simp [adq]
theorem adq_snoc (ys zs : List Rat) (k : Nat) : adq ys zs (k + 1) = adq ys zs k ++ [yq ys k + yq zs k] := by
  unfold adq
  rw [List.range_succ, List.map_append]
  rfl
theorem yq_adq {ys zs : List Rat} {n : Nat} (h1 : ys.length ≤ n) (h2 : zs.length ≤ n) (k : Nat) : yq (adq ys zs n) k = yq ys k + yq zs k := by
  rcases Nat.lt_or_ge k n with h | h
  · exact yq_range _ h
  · rw [yq_out (by rw [adq_len]; exact h), yq_out (by omega), yq_out (by omega), Rat.add_zero]
theorem rtl_adq {l : List Int} (hl : Kok l) {ys zs : List Rat} (h : zs.length = ys.length) : rtl l (adq ys zs ys.length) = adq (rtl l ys) (rtl l zs) (rtl l ys).length := by
  have hy : (adq ys zs ys.length).length = ys.length := adq_len _ _ _
  by_cases h0 : ys = []
  · subst h0
    rfl
  · have hn : 0 < ys.length := List.length_pos_iff.2 h0
    have hz0 : zs ≠ [] := fun h9 => by
      rw [h9] at h
      simp at h
      omega
    have ha0 : adq ys zs ys.length ≠ [] := fun h9 => by
      rw [h9] at hy
      simp at hy
      omega
    refine yq_ext (by rw [adq_len, rtl_len ha0, rtl_len h0, hy]) fun k _ => ?_
    rw [yq_adq (Nat.le_refl _) (by rw [rtl_len h0, rtl_len hz0, h]; omega), yq_rtl hl, yq_rtl hl, yq_rtl hl]
    show (sm (k + 1) fun i => nm l i * yq (adq ys zs ys.length) (k - i)) = sm (k + 1) _ + sm (k + 1) _
    rw [← sm_add]
    exact sm_congr fun i _ => by
      rw [yq_adq (Nat.le_refl _) (by omega), Rat.mul_add]
theorem mom_sz {ys : List Rat} {B : Nat} (hB : ∀ k, szR (yq ys k) B) : ∀ k, k ≤ 400 → szR (mom ys k) (k * (B + 8) + 1)
  | 0, _ => szR_zero.mono (by omega)
  | k + 1, hk => by
    have h1 := mom_sz hB k (by omega)
    have hki : insB (k : Int) = true := insB_nn (by omega) (by omega)
    rw [Nat.succ_mul]
    exact (szR_add h1 (szR_mul (szR_int hki) (hB k))).mono (by omega)
theorem sm_sz {ys : List Rat} {B : Nat} (hB : ∀ k, szR (yq ys k) B) : ∀ k, szR (sm k (yq ys)) (k * (B + 1) + 1)
  | 0 => szR_zero.mono (by omega)
  | k + 1 => by
    rw [sm_succ, Nat.succ_mul]
    exact (szR_add (sm_sz hB k) (hB k)).mono (by omega)
/-- Sum of numbers in a slice. -/
theorem sumV (v : Value) (ys : List Rat) (B : Nat) (w : World) (h : Rq ys v w) (hB : ∀ k, szR (yq ys k) B) (h1 : 1 ≤ B) (hn : ys.length * (B + 1) + 1 ≤ 1000000) (hB1 : B ≤ 1000000) : Calls Tryd.prog 21 #[v] w fun e w' => e = .returned (rbv (sml ys)) ∧ Since w w' := by
  refine (sumG v (ys.map tr) B w h h1 (fun t ht => ?_) (by rw [List.length_map]; exact hn) hB1).mono fun e w' ⟨h2, h3⟩ => ⟨by rw [h2, sumR_tr], h3⟩
  obtain ⟨y, hy, rfl⟩ := List.mem_map.1 ht
  obtain ⟨i, hi, rfl⟩ := List.getElem_of_mem hy
  have h9 := tzR (hB i) (Nat.le_refl _)
  rw [yq_in hi] at h9
  exact h9
theorem rtl_leq (l : List Int) {ys zs : List Rat} (h : zs.length = ys.length) : (rtl l zs).length = (rtl l ys).length := by
  by_cases h0 : ys = []
  · subst h0
    obtain rfl : zs = [] := List.length_eq_zero_iff.1 h
    rfl
  · have hz : zs ≠ [] := fun h9 => by
      subst h9
      exact h0 (List.length_eq_zero_iff.1 h.symm)
    rw [rtl_len h0, rtl_len hz, h]
end Go.Proofs.YtcpedbpldgndmaaDoor
