/-
  Plain law of curves: a curve whose stages are shifted, or whose flows are multiplied.
-/
import Derived.Test.YtchhlgcakjjncaaDoorCsc
set_option linter.unusedSimpArgs false
set_option linter.unusedVariables false
set_option maxRecDepth 100000
set_option maxHeartbeats 1600000
namespace Go.Proofs.YtchhlgcakjjncaaDoor
open Go.RowKit
theorem cnt_shift (d : Int) : ∀ (L : List Kn) (s : Int), cnt (L.map fun p => (p.1 - d, p.2)) s = cnt L (s + d)
  | [], _ => rfl
  | p :: L, s => by
    have ih := cnt_shift d L s
    unfold cnt at ih ⊢
    rw [List.map_cons, List.takeWhile_cons, List.takeWhile_cons]
    by_cases h : p.1 ≤ s + d
    · rw [if_pos (by simp only [decide_eq_true_eq]; omega), if_pos (by simpa using h), List.length_cons, List.length_cons, ih]
    · rw [if_neg (by simp only [decide_eq_true_eq]; omega), if_neg (by simpa using h)]
theorem cnt_scale (y : Rat) : ∀ (L : List Kn) (s : Int), cnt (L.map fun p => (p.1, p.2 * y)) s = cnt L s
  | [], _ => rfl
  | p :: L, s => by
    have ih := cnt_scale y L s
    unfold cnt at ih ⊢
    rw [List.map_cons, List.takeWhile_cons, List.takeWhile_cons]
    by_cases h : p.1 ≤ s
    · rw [if_pos (by simpa using h), if_pos (by simpa using h), List.length_cons, List.length_cons, ih]
    · rw [if_neg (by simpa using h), if_neg (by simpa using h)]
theorem sf_map (f : Kn → Kn) {L : List Kn} {k : Nat} (h : k < L.length) : stg (L.map f) k = (f (stg L k, flw L k)).1 ∧ flw (L.map f) k = (f (stg L k, flw L k)).2 := by
  unfold stg flw
  rw [List.getD_eq_getElem?_getD, List.getD_eq_getElem?_getD, List.getElem?_map, List.getElem?_eq_getElem h]
  exact ⟨rfl, rfl⟩
theorem flow_shift (d : Int) (L : List Kn) (s : Int) : flowAt (L.map fun p => (p.1 - d, p.2)) s = flowAt L (s + d) := by
  have hc := cnt_le L (s + d)
  unfold flowAt
  rw [cnt_shift, List.length_map]
  split
  · rfl
  · split
    · rw [(sf_map _ (by omega)).2]
    · rw [(sf_map _ (by omega)).1, (sf_map _ (by omega)).2, (sf_map _ (by omega)).1, (sf_map _ (by omega)).2]
      unfold lin
      show flw L _ + ((s - (stg L (cnt L (s + d) - 1) - d) : Int) : Rat) / ((stg L (cnt L (s + d)) - d - (stg L (cnt L (s + d) - 1) - d) : Int) : Rat) * _ = _
      rw [show s - (stg L (cnt L (s + d) - 1) - d) = s + d - stg L (cnt L (s + d) - 1) by omega, show stg L (cnt L (s + d)) - d - (stg L (cnt L (s + d) - 1) - d) = stg L (cnt L (s + d)) - stg L (cnt L (s + d) - 1) by omega]
theorem flow_scale (y : Rat) (L : List Kn) (s : Int) : flowAt (L.map fun p => (p.1, p.2 * y)) s = y * flowAt L s := by
  have hc := cnt_le L s
  unfold flowAt
  rw [cnt_scale, List.length_map]
  split
  · rw [Rat.mul_zero]
  · split
    · rw [(sf_map _ (by omega)).2]
      exact Rat.mul_comm _ _
    · rw [(sf_map _ (by omega)).1, (sf_map _ (by omega)).2, (sf_map _ (by omega)).1, (sf_map _ (by omega)).2]
      unfold lin
      show flw L _ * y + _ / _ * (flw L _ * y - flw L _ * y) = _
      generalize ((s - stg L (cnt L s - 1) : Int) : Rat) / ((stg L (cnt L s) - stg L (cnt L s - 1) : Int) : Rat) = q
      grind
theorem pt_map (f : Pt → Pt) {l : List Pt} {k : Nat} (h : k < l.length) : pt (l.map f) k = f (pt l k) := by
  rw [pt_get (by rw [List.length_map]; exact h), pt_get h, List.getElem_map]
/-- A curve without an error, point by point. -/
theorem ck_iff (l : List Pt) : ck l = 0 ↔ (1 ≤ l.length ∧ l.length ≤ 16) ∧ ∀ k, k < l.length → (-1000 ≤ (pt l k).1 ∧ (pt l k).1 ≤ 2000) ∧ posB (pt l k).2 = true ∧ (0 < k → (pt l (k - 1)).1 < (pt l k).1 ∧ trq (pt l (k - 1)).2 ≤ trq (pt l k).2) := by
  constructor
  · intro h
    unfold ck at h
    split at h
    · omega
    · rename_i hl
      refine ⟨by omega, fun k hk => ?_⟩
      have h1 := ckF_zero h k hk
      unfold pe at h1
      split at h1
      · omega
      · rename_i h2
        split at h1
        · omega
        · rename_i h3
          split at h1
          · omega
          · rename_i h4
            refine ⟨by omega, by simpa using h3, fun hk0 => ?_⟩
            have h5 : ¬ (pt l k).1 ≤ (pt l (k - 1)).1 := fun h9 => h4 ⟨hk0, .inl h9⟩
            have h6 : ¬ cmpR (trq (pt l k).2) (trq (pt l (k - 1)).2) < 0 := fun h9 => h4 ⟨hk0, .inr h9⟩
            exact ⟨by omega, cmpR_ge.1 (by omega)⟩
  · rintro ⟨h1, h2⟩
    refine ck_ok h1.1 h1.2 fun k hk => ?_
    obtain ⟨g1, g2, g3⟩ := h2 k hk
    unfold pe
    rw [if_neg (by omega), if_neg (by rw [g2]; decide), if_neg]
    rintro ⟨h3, h4 | h4⟩
    · have := (g3 h3).1
      omega
    · have := cmpR_ge.2 (g3 h3).2
      omega
theorem kp_sh (d : Int) (l : List Pt) : (l.map (shP d)).map kp = (l.map kp).map fun p => (p.1 - d, p.2) := by
  rw [List.map_map, List.map_map]
  rfl
theorem kp_sc (y : Rat) (l : List Pt) : (l.map (scP y)).map kp = (l.map kp).map fun p => (p.1, p.2 * y) := by
  rw [List.map_map, List.map_map]
  refine List.map_congr_left fun x _ => ?_
  show (x.1, rq _ _ _) = (x.1, trq x.2 * y)
  rw [show rq (scP y x).2.1 (scP y x).2.2.1 (scP y x).2.2.2 = trq x.2 * y from rq_rb _]
theorem ck_sh {l : List Pt} {d : Int} (h : ck l = 0) (hs : shOk l d) : ck (l.map (shP d)) = 0 := by
  have h1 := (ck_iff l).1 h
  refine (ck_iff _).2 ⟨by rw [List.length_map]; exact h1.1, fun k hk => ?_⟩
  rw [List.length_map] at hk
  obtain ⟨g1, g2, g3⟩ := h1.2 k hk
  rw [pt_map _ hk, pt_map _ (show k - 1 < l.length by omega)]
  refine ⟨hs k hk, g2, fun hk0 => ?_⟩
  have g4 := g3 hk0
  exact ⟨by show (pt l (k - 1)).1 - d < (pt l k).1 - d; omega, g4.2⟩
theorem posB_vd {t : Tr} : posB t = true ↔ vd t.1 t.2.1 t.2.2 = true ∧ t.1 = false := by
  unfold posB
  simp only [Bool.and_eq_true, Bool.not_eq_true']
theorem posB_nn {t : Tr} (h : posB t = true) : 0 ≤ trq t := by
  have h1 := posB_vd.1 h
  refine rN_nn ?_
  unfold trq
  rw [(vd_eq h1.1).1]
  exact h1.2
theorem nn_rN {x : Rat} (h : 0 ≤ x) : rN x = false := by
  unfold rN
  refine decide_eq_false fun h1 => ?_
  have h2 := Rat.num_nonneg.2 h
  omega
theorem posB_rb {z : Rat} (h : 0 ≤ z) : posB (rN z, rP z, rD z) = true := posB_vd.2 ⟨vd_rb z, nn_rN h⟩
theorem ck_sc {l : List Pt} {y : Rat} (h : ck l = 0) (hy : 0 ≤ y) : ck (l.map (scP y)) = 0 := by
  have h1 := (ck_iff l).1 h
  refine (ck_iff _).2 ⟨by rw [List.length_map]; exact h1.1, fun k hk => ?_⟩
  rw [List.length_map] at hk
  obtain ⟨g1, g2, g3⟩ := h1.2 k hk
  rw [pt_map _ hk, pt_map _ (show k - 1 < l.length by omega)]
  have tq : ∀ x : Pt, trq (scP y x).2 = trq x.2 * y := fun x => rq_rb _
  refine ⟨g1, posB_rb (Rat.mul_nonneg (posB_nn g2) hy), fun hk0 => ?_⟩
  have g4 := g3 hk0
  rw [tq, tq]
  exact ⟨g4.1, Rat.mul_le_mul_of_nonneg_right g4.2 hy⟩
theorem flow_sh {l : List Pt} {d : Int} (h : ck l = 0) (hs : shOk l d) (s : Int) : flowC0 (l.map (shP d)) s = flowC0 l (s + d) := by
  unfold flowC0
  rw [if_pos h, if_pos (ck_sh h hs), kp_sh, flow_shift]
theorem flow_sc {l : List Pt} {y : Rat} (h : ck l = 0) (hy : 0 ≤ y) (s : Int) : flowC0 (l.map (scP y)) s = y * flowC0 l s := by
  unfold flowC0
  rw [if_pos h, if_pos (ck_sc h hy), kp_sc, flow_scale]
theorem sh_sh {l : List Pt} {d e : Int} : (l.map (shP d)).map (shP e) = l.map (shP (d + e)) := by
  rw [List.map_map]
  refine List.map_congr_left fun x _ => ?_
  show (x.1 - d - e, x.2) = (x.1 - (d + e), x.2)
  rw [show x.1 - d - e = x.1 - (d + e) by omega]
theorem shOk_sh {l : List Pt} {d e : Int} : shOk (l.map (shP d)) e ↔ shOk l (d + e) := by
  unfold shOk
  rw [List.length_map]
  constructor
  · intro h k hk
    have h1 := h k hk
    rw [pt_map _ hk] at h1
    have h2 : (shP d (pt l k)).1 = (pt l k).1 - d := rfl
    omega
  · intro h k hk
    have h1 := h k hk
    rw [pt_map _ hk]
    have h2 : (shP d (pt l k)).1 = (pt l k).1 - d := rfl
    omega
theorem shE_bad {l : List Pt} {d : Int} (h : ck l = 0) (hs : ¬ shOk l d) : shE l d = 3 ∧ shL l d = [] := by
  unfold shE shL
  rw [if_neg (fun h9 => h9 h), if_neg hs, if_neg (fun h9 => hs h9.2)]
  exact ⟨rfl, rfl⟩
theorem shL_ok {l : List Pt} {d : Int} (h : ck l = 0) (hs : shOk l d) : shE l d = 0 ∧ shL l d = l.map (shP d) := by
  unfold shE shL
  rw [if_neg (fun h9 => h9 h), if_pos hs, if_pos ⟨h, hs⟩]
  exact ⟨rfl, rfl⟩
theorem shE_sh {l : List Pt} {d e : Int} (h : ck l = 0) (hs : shOk l d) : shE (l.map (shP d)) e = shE l (d + e) ∧ shL (l.map (shP d)) e = shL l (d + e) := by
  have h1 := ck_sh h hs
  by_cases h2 : shOk l (d + e)
  · have h3 := shL_ok h1 (shOk_sh.2 h2)
    have h4 := shL_ok h h2
    rw [h3.1, h3.2, h4.1, h4.2]
    exact ⟨rfl, sh_sh⟩
  · have h3 := shE_bad h1 (fun h9 => h2 (shOk_sh.1 h9))
    have h4 := shE_bad h h2
    rw [h3.1, h3.2, h4.1, h4.2]
    exact ⟨rfl, rfl⟩
theorem sh_sc {l : List Pt} {d : Int} {y : Rat} : (l.map (scP y)).map (shP d) = (l.map (shP d)).map (scP y) := by
  rw [List.map_map, List.map_map]
  rfl
theorem shOk_sc {l : List Pt} {d : Int} {y : Rat} (h : shOk l d) : shOk (l.map (scP y)) d := by
  intro k hk
  rw [List.length_map] at hk
  rw [pt_map _ hk]
  exact h k hk
theorem scL_ok {l : List Pt} {t : Tr} (h : ck l = 0) (ht : posB t = true) : scE l t = 0 ∧ scL l t = l.map (scP (trq t)) := by
  unfold scE scL
  rw [if_neg (fun h9 => h9 h), if_neg (by rw [ht]; decide), if_pos ⟨h, ht⟩]
  exact ⟨rfl, rfl⟩
theorem few_sh {l : List Pt} {d : Int} {m : Nat} (h : fewP l m) : fewP (l.map (shP d)) m := by
  intro k hk
  rw [List.length_map] at hk
  rw [pt_map _ hk]
  exact h k hk
theorem few_sc {l : List Pt} {y : Rat} {m m' : Nat} (h : fewP l m) (hy : szR y m') (h1 : 1 ≤ m) : fewP (l.map (scP y)) (m + m') := by
  intro k hk
  rw [List.length_map] at hk
  rw [pt_map _ hk]
  have h2 := h k hk
  have h3 : szR (trq (pt l k).2) m := szR_of _ _ _ h2.1 h2.2 h1
  exact tzR (szR_mul h3 hy) (Nat.le_refl _)
end Go.Proofs.YtchhlgcakjjncaaDoor
