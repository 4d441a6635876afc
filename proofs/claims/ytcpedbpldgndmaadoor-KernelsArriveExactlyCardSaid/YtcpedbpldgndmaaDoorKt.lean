/-
  law 31: Arrive's parts: in order, and what they add up to.
-/
import Derived.Test.YtcpedbpldgndmaaDoorKr
set_option linter.unusedSimpArgs false
set_option linter.unusedVariables false
set_option maxRecDepth 100000
set_option maxHeartbeats 1600000
namespace Go.Proofs.YtcpedbpldgndmaaDoor
open Go.RowKit
theorem pw_app {P : List Wp} {x : Wp} {i : Nat} (h : i < P.length) : pw (P ++ [x]) i = pw P i := by
 rw [pw_in (by rw [List.length_append]; exact Nat.lt_succ_of_lt h), pw_in h, List.getElem_append_left h]
theorem pw_last {P : List Wp} {x : Wp} {i : Nat} (h : i = P.length) : pw (P ++ [x]) i = x := by
 subst h;rw [pw_in (by simp)]
 simp
theorem pw_set {P : List Wp} {x : Wp} {i k : Nat} (hk : k < P.length) : pw (P.set k x) i = if i = k then x else pw P i := by
 unfold pw
 rw [List.getD_eq_getElem?_getD, List.getD_eq_getElem?_getD, List.getElem?_set]
 by_cases h : k = i
 ·subst h
  rw [if_pos rfl, if_pos rfl, if_pos hk]
  rfl
 ·rw [if_neg h, if_neg (fun h9 => h h9.symm)]
/-- What the first n parts add up to. -/
def sP (g : Nat → Rat) (t : Int) (P : List Wp) (n : Nat) : Rat := sm n fun i => rk (pw P i).2.2 t * sm ((pw P i).2.1 - (pw P i).1) fun j => g ((pw P i).1 + j)
/-- What holds of the parts after k ticks from the tick s on. -/
structure Ain (l : List Int) (f u k : Nat) : Prop where
 each : ∀ i, i < (aR l f u k).1.length → (pw (aR l f u k).1 i).1 < (pw (aR l f u k).1 i).2.1 ∧ 0 < (pw (aR l f u k).1 i).2.2 ∧ (pw (aR l f u k).1 i).2.2 ≤ tot l ∧ (pw (aR l f u k).1 i).2.1 ≤ aS l f + k
 next : ∀ i, i + 1 < (aR l f u k).1.length → (pw (aR l f u k).1 i).2.1 ≤ (pw (aR l f u k).1 (i + 1)).1
 last : 0 < (aR l f u k).1.length → (pw (aR l f u k).1 ((aR l f u k).1.length - 1)).2.1 = aS l f + k → (pw (aR l f u k).1 ((aR l f u k).1.length - 1)).2.2 = (aR l f u k).2
 sum : ∀ g : Nat → Rat, sP g (tot l) (aR l f u k).1 (aR l f u k).1.length = sm k fun i => rk (aw l f u (aS l f + i)) (tot l) * g (aS l f + i)
theorem aw_le {l : List Int} (h : Kok l) {f u : Nat} (tick : Nat) : aw l f u tick ≤ tot l := by
 unfold aw
 have h2 : tk l (min l.length (u - tick)) ≤ tot l := tk_mono h.pos (by omega);have h3 : tk l 0 ≤ tk l (min l.length (f - tick)) := tk_mono h.pos (by omega);have h4 : tk l 0 = 0 := rfl
 omega
theorem Ain.mk0 {l : List Int} (h : Kok l) {f u : Nat} (hfu : f ≤ u) : ∀ k, Ain l f u k
 | 0 => ⟨fun i hi => absurd hi (Nat.not_lt_zero _), fun i hi => absurd hi (Nat.not_lt_zero _), fun h9 => absurd h9 (Nat.not_lt_zero _), fun g => rfl⟩
 | k + 1 => by
  have ih := Ain.mk0 h hfu k;obtain ⟨P, hP⟩ : ∃ P, P = (aR l f u k).1 := ⟨_, rfl⟩;obtain ⟨la, hla⟩ : ∃ la, la = (aR l f u k).2 := ⟨_, rfl⟩;obtain ⟨w, hw⟩ : ∃ w, w = aw l f u (aS l f + k) := ⟨_, rfl⟩;obtain ⟨s, hs⟩ : ∃ s, s = aS l f := ⟨_, rfl⟩
  have h1 : (aR l f u (k + 1)).1 = arS P la (s + k) w := by rw [hP, hla, hw, hs]; rfl
  have h2 : (aR l f u (k + 1)).2 = w := by rw [hw]; rfl
  obtain ⟨e, n, a, m⟩ := ih;rw [← hP] at e n a m;rw [← hla] at a;rw [← hs] at e a
  have hwle : w ≤ tot l := by rw [hw]; exact aw_le h _
  have hw0 : 0 ≤ w := by rw [hw]; exact (aw_bd h hfu _).1
  have hsum : ∀ g : Nat → Rat, (sm (k + 1) fun i => rk (aw l f u (s + i)) (tot l) * g (s + i)) = sP g (tot l) P P.length + rk w (tot l) * g (s + k) := fun g => by
   rw [hs, sm_succ, ← m g, hw]
  by_cases hz : w = 0
  ·have h3 : arS P la (s + k) w = P := if_pos hz
   refine ⟨?_, ?_, ?_, ?_⟩ <;> rw [h1, h3] <;> try rw [← hs]
   ·exact fun i hi => by
     obtain ⟨e1, e2, e3, e4⟩ := e i hi;exact ⟨e1, e2, e3, by omega⟩
   ·exact n
   ·exact fun hp h9 => by
     have h8 := (e (P.length - 1) (by omega)).2.2.2
     omega
   ·exact fun g => by
     rw [hsum g, hz]
     have h9 : rk 0 (tot l) = 0 := by
      show ((0 : Int) : Rat) / _ = 0
      rw [show ((0 : Int) : Rat) = 0 from rfl, Rat.div_def, Rat.zero_mul]
     rw [h9, Rat.zero_mul, Rat.add_zero]
  ·by_cases hj : arJ P la (s + k) w
   ·obtain ⟨j1, j2, j3⟩ := hj
    have h3 : arS P la (s + k) w = P.set (P.length - 1) ((pw P (P.length - 1)).1, s + k + 1, (pw P (P.length - 1)).2.2) := by
     unfold arS
     rw [if_neg hz, if_pos ⟨j1, j2, j3⟩]
    have hl : (P.set (P.length - 1) ((pw P (P.length - 1)).1, s + k + 1, (pw P (P.length - 1)).2.2)).length = P.length := List.length_set;have hpl := e (P.length - 1) (by omega);have hwe := a j1 j2;refine ⟨?_, ?_, ?_, ?_⟩ <;> rw [h1, h3, hl] <;> try rw [← hs]
    ·exact fun i hi => by
      rw [pw_set (show P.length - 1 < P.length by omega)]
      split
      ·exact ⟨by show _ < s + k + 1; omega, hpl.2.1, hpl.2.2.1, by show s + k + 1 ≤ _; omega⟩
      ·obtain ⟨e1, e2, e3, e4⟩ := e i hi
       exact ⟨e1, e2, e3, by omega⟩
    ·exact fun i hi => by
      rw [pw_set (show P.length - 1 < P.length by omega), if_neg (by omega), pw_set (show P.length - 1 < P.length by omega)];have h9 := n i hi
      split
      ·rename_i h8
       rw [← h8];exact h9
      ·exact h9
    ·exact fun _ _ => by
      rw [pw_set (show P.length - 1 < P.length by omega), if_pos rfl, h2];exact hwe.trans j3
    ·exact fun g => by
      rw [hsum g];obtain ⟨p, hp⟩ : ∃ p, P.length = p + 1 := ⟨P.length - 1, by omega⟩
      have hq : P.length - 1 = p := by omega
      have hpp : p < P.length := by omega
      rw [hq] at hpl hwe j2;rw [hq, hp]
      unfold sP
      rw [sm_succ, sm_succ, sm_congr (g := fun i => rk (pw P i).2.2 (tot l) * sm ((pw P i).2.1 - (pw P i).1) fun j => g ((pw P i).1 + j)) (fun i hi => by rw [pw_set hpp, if_neg (by omega)]), pw_set hpp, if_pos rfl]
      show _ + rk (pw P p).2.2 (tot l) * sm (s + k + 1 - (pw P p).1) _ = _
      rw [show s + k + 1 - (pw P p).1 = ((pw P p).2.1 - (pw P p).1) + 1 by omega, sm_succ, hwe, j3, show (pw P p).1 + ((pw P p).2.1 - (pw P p).1) = s + k by omega, Rat.mul_add, Rat.add_assoc]
   ·have h3 : arS P la (s + k) w = P ++ [(s + k, s + k + 1, w)] := by
     unfold arS
     rw [if_neg hz, if_neg hj]
    have hl : (P ++ [(s + k, s + k + 1, w)]).length = P.length + 1 := by simp
    refine ⟨?_, ?_, ?_, ?_⟩ <;> rw [h1, h3, hl] <;> try rw [← hs]
    ·exact fun i hi => by
      rcases Nat.lt_or_ge i P.length with h9 | h9
      ·rw [pw_app h9]
       obtain ⟨e1, e2, e3, e4⟩ := e i h9;exact ⟨e1, e2, e3, by omega⟩
      ·rw [pw_last (by omega)]
       exact ⟨by show s + k < s + k + 1; omega, by show 0 < w; omega, hwle, by show s + k + 1 ≤ _; omega⟩
    ·exact fun i hi => by
      rcases Nat.lt_or_ge (i + 1) P.length with h9 | h9
      ·rw [pw_app h9, pw_app (by omega)]
       exact n i h9
      ·rw [pw_last (show i + 1 = P.length by omega), pw_app (by omega)]
       exact (e i (by omega)).2.2.2
    ·exact fun _ _ => by rw [pw_last (by omega), h2]
    ·exact fun g => by
      rw [hsum g]
      unfold sP
      rw [sm_succ, sm_congr (g := fun i => rk (pw P i).2.2 (tot l) * sm ((pw P i).2.1 - (pw P i).1) fun j => g ((pw P i).1 + j)) (fun i hi => by rw [pw_app hi]), pw_last rfl]
      show _ + rk w (tot l) * sm (s + k + 1 - (s + k)) _ = _
      rw [show s + k + 1 - (s + k) = 1 by omega, sm_succ, sm_zero, Rat.zero_add]
      rfl
theorem aw_out {l : List Int} {f u : Nat} (hfu : f ≤ u) {j : Nat} (h : j < aS l f ∨ u ≤ j ∨ f = u) : aw l f u j = 0 := by
 unfold aw
 unfold aS at h
 rcases h with h | h | h
 ·rw [show min l.length (u - j) = l.length by omega, show min l.length (f - j) = l.length by omega, Int.sub_self]
 ·rw [show u - j = 0 by omega, show f - j = 0 by omega, Int.sub_self]
 ·rw [h, Int.sub_self]
theorem rk_zero (t : Int) : rk 0 t = 0 := by
 show ((0 : Int) : Rat) / _ = 0
 rw [show ((0 : Int) : Rat) = 0 from rfl, Rat.div_def, Rat.zero_mul]
/-- What arrives in an interval. -/
def arv (f u : Nat) (l : List Rat) (k : Nat) : Rat := sm k fun t => if f ≤ t ∧ t < u then yq l t else 0
theorem arv_succ (f u : Nat) (l : List Rat) (k : Nat) : arv f u l (k + 1) = if f ≤ k ∧ k < u then arv f u l k + yq l k else arv f u l k := by
 unfold arv
 rw [sm_succ]
 split
 ·rfl
 ·rw [Rat.add_zero]
theorem arv_each {l : List Int} (hl : Kok l) {f u : Nat} (hfu : f ≤ u) (ys : List Rat) : arv f u (rtl l ys) (rtl l ys).length = sm ys.length fun j => rk (aw l f u j) (tot l) * yq ys j := by
 have hl1 := hl.len1
 by_cases h : ys = []
 ·subst h
  rfl
 ·have hn : 0 < ys.length := List.length_pos_iff.2 h
  unfold arv
  rw [yq_rtl hl, rtl_len h]
  have h0 : (sm (ys.length + l.length - 1) fun t => if f ≤ t ∧ t < u then cv (nm l) (yq ys) t else 0) = sm (ys.length + l.length - 1) fun t => (if f ≤ t ∧ t < u then (1 : Rat) else 0) * cv (nm l) (yq ys) t := sm_congr fun t _ => by
   split
   ·rw [Rat.one_mul]
   ·rw [Rat.zero_mul]
  rw [h0, cv_sum (nm l) (yq ys) (n := l.length) (m := ys.length) (fun i hi => nm_out hi) (fun i hi => yq_out hi) (by omega) (fun t => if f ≤ t ∧ t < u then (1 : Rat) else 0), sm_swap];refine sm_congr fun j _ => ?_
  have h1 : (sm l.length fun i => (if f ≤ i + j ∧ i + j < u then (1 : Rat) else 0) * (nm l i * yq ys j)) = (sm l.length fun i => ((if f ≤ j + i ∧ j + i < u then wt l i else 0 : Int) : Rat) / (tot l : Rat)) * yq ys j := by
   rw [← sm_mulr];refine sm_congr fun i _ => ?_;rw [Nat.add_comm i j]
   split
   ·rw [Rat.one_mul]
    rfl
   ·rw [Rat.zero_mul, show (((0 : Int) : Rat) / (tot l : Rat)) = 0 from rk_zero _, Rat.zero_mul]
  rw [h1]
  congr 1
  have h2 : (sm l.length fun i => ((if f ≤ j + i ∧ j + i < u then wt l i else 0 : Int) : Rat) / (tot l : Rat)) = (sm l.length fun i => ((if f ≤ j + i ∧ j + i < u then wt l i else 0 : Int) : Rat)) * (tot l : Rat)⁻¹ := by
   rw [← sm_mulr]
   exact sm_congr fun i _ => Rat.div_def _ _
  rw [h2, ← smI_cast, aw_sum hfu, ← Rat.div_def]
  rfl
theorem arv_parts {l : List Int} (hl : Kok l) {f u : Nat} (hfu : f ≤ u) (ys : List Rat) : arv f u (rtl l ys) (rtl l ys).length = sP (yq ys) (tot l) (aR l f u (aN l f u)).1 (aR l f u (aN l f u)).1.length := by
 rw [arv_each hl hfu, (Ain.mk0 hl hfu _).sum]
 obtain ⟨G, hG⟩ : ∃ G : Nat → Rat, G = fun j => rk (aw l f u j) (tot l) * yq ys j := ⟨_, rfl⟩
 have g1 : ∀ j, ys.length ≤ j → G j = 0 := fun j h => by rw [hG]; show _ * yq ys j = 0; rw [yq_out h, Rat.mul_zero]
 have g2 : ∀ j, j < aS l f ∨ u ≤ j ∨ f = u → G j = 0 := fun j h => by rw [hG]; show rk (aw l f u j) _ * _ = 0; rw [aw_out hfu h, rk_zero, Rat.zero_mul]
 show (sm ys.length fun j => rk (aw l f u j) (tot l) * yq ys j) = _
 rw [← hG]
 have h1 : (sm (aN l f u) fun i => rk (aw l f u (aS l f + i)) (tot l) * yq ys (aS l f + i)) = sm (aN l f u) fun i => G (aS l f + i) := by rw [hG]
 rw [h1]
 have h2 : sm (aS l f + aN l f u) G = sm (aN l f u) fun i => G (aS l f + i) := by
  rw [sm_split, sm_none (fun i hi => g2 i (.inl hi)), Rat.zero_add]
 rw [← h2]
 have h3 : ∀ j, aS l f + aN l f u ≤ j → G j = 0 := fun j h => by
  refine g2 j ?_
  unfold aN at h
  have hl1 := hl.len1
  split at h
  ·rename_i h9
   refine .inr (.inl ?_)
   have : aS l f ≤ f := by unfold aS; omega
   omega
  ·exact .inr (.inr (by omega))
 rw [← sm_more (n := ys.length) (m := max ys.length (aS l f + aN l f u)) (by omega) (fun i h _ => g1 i h), ← sm_more (n := aS l f + aN l f u) (m := max ys.length (aS l f + aN l f u)) (by omega) (fun i h _ => h3 i h)]
theorem aS_zero {l : List Int} (h : Kok l) : aS l 0 = 0 := by
 unfold aS
 have := h.len1
 omega
theorem aw_zero {l : List Int} {n k : Nat} (hk : k ≤ n) : aw l 0 (n + l.length) k = tot l := by
 unfold aw
 rw [show min l.length (n + l.length - k) = l.length by omega, show min l.length (0 - k) = 0 by omega]
 show tot l - 0 = tot l
 exact Int.sub_zero _
theorem aR_head {l : List Int} (h : Kok l) (n : Nat) : ∀ k, k ≤ n → aR l 0 (n + l.length) (k + 1) = ([(0, k + 1, tot l)], tot l)
 | 0, hk => by
  have ht : tot l ≠ 0 := h.tne0
  show (arS [] 0 (aS l 0 + 0) (aw l 0 (n + l.length) (aS l 0 + 0)), aw l 0 (n + l.length) (aS l 0 + 0)) = _
  rw [aS_zero h, aw_zero hk]
  unfold arS
  rw [if_neg ht, if_neg (fun h9 => absurd h9.1 (Nat.not_lt_zero _))]
  rfl
 | k + 1, hk => by
  have ht : tot l ≠ 0 := h.tne0
  show (arS (aR l 0 (n + l.length) (k + 1)).1 (aR l 0 (n + l.length) (k + 1)).2 (aS l 0 + (k + 1)) (aw l 0 (n + l.length) (aS l 0 + (k + 1))), aw l 0 (n + l.length) (aS l 0 + (k + 1))) = _
  rw [aR_head h n k (by omega), aS_zero h, Nat.zero_add, aw_zero hk]
  unfold arS
  rw [if_neg ht, if_pos ⟨Nat.zero_lt_one, rfl, rfl⟩]
  rfl
theorem aR_first {l : List Int} (h : Kok l) (n : Nat) : ∀ d, 0 < (aR l 0 (n + l.length) (n + 1 + d)).1.length ∧ (pw (aR l 0 (n + l.length) (n + 1 + d)).1 0).1 = 0 ∧ (pw (aR l 0 (n + l.length) (n + 1 + d)).1 0).2.2 = tot l ∧ n + 1 ≤ (pw (aR l 0 (n + l.length) (n + 1 + d)).1 0).2.1
 | 0 => by
  rw [Nat.add_zero, aR_head h n n (Nat.le_refl _)];exact ⟨Nat.zero_lt_one, rfl, rfl, Nat.le_refl _⟩
 | d + 1 => by
  obtain ⟨h1, h2, h3, h4⟩ := aR_first h n d;rw [← Nat.add_assoc];obtain ⟨P, hP⟩ : ∃ P, P = (aR l 0 (n + l.length) (n + 1 + d)).1 := ⟨_, rfl⟩
  have h5 : (aR l 0 (n + l.length) (n + 1 + d + 1)).1 = arS P (aR l 0 (n + l.length) (n + 1 + d)).2 (aS l 0 + (n + 1 + d)) (aw l 0 (n + l.length) (aS l 0 + (n + 1 + d))) := by rw [hP]; rfl
  rw [h5];rw [← hP] at h1 h2 h3 h4;rw [aS_zero h]
  unfold arS
  split
  ·exact ⟨h1, h2, h3, h4⟩
  ·split
   ·refine ⟨by rw [List.length_set]; exact h1, ?_, ?_, ?_⟩ <;> rw [pw_set (show P.length - 1 < P.length by omega)]
    ·split
     ·rename_i h9
      rw [← h9]; exact h2
     ·exact h2
    ·split
     ·rename_i h9
      rw [← h9]; exact h3
     ·exact h3
    ·split
     ·show n + 1 ≤ 0 + (n + 1 + d) + 1
      omega
     ·exact h4
   ·refine ⟨by simp, ?_, ?_, ?_⟩ <;> rw [pw_app h1]
    ·exact h2
    ·exact h3
    ·exact h4
theorem all_first {l : List Int} (h : Kok l) (n : Nat) : 0 < (aR l 0 (n + l.length) (aN l 0 (n + l.length))).1.length ∧ (pw (aR l 0 (n + l.length) (aN l 0 (n + l.length))).1 0).1 = 0 ∧ (pw (aR l 0 (n + l.length) (aN l 0 (n + l.length))).1 0).2.2 = tot l ∧ n + 1 ≤ (pw (aR l 0 (n + l.length) (aN l 0 (n + l.length))).1 0).2.1 := by
 have h1 := h.len1
 have h2 : aN l 0 (n + l.length) = n + 1 + (l.length - 1) := by
  unfold aN
  rw [if_pos (by omega), aS_zero h]
  omega
 rw [h2];exact aR_first h n _
theorem rk_pos {w t : Int} (hw : 0 < w) (ht : 0 < t) : 0 < rk w t := by
 show 0 < (w : Rat) / (t : Rat)
 rw [Rat.div_def];exact Rat.mul_pos (by exact_mod_cast hw) (Rat.inv_pos.2 (by exact_mod_cast ht))
theorem rk_one {w t : Int} (hw : w ≤ t) (ht : 0 < t) : rk w t ≤ 1 := by
 show (w : Rat) / (t : Rat) ≤ 1
 have h1 : (0 : Rat) < (t : Rat) := by exact_mod_cast ht
 have h2 : (w : Rat) ≤ (t : Rat) := by exact_mod_cast hw
 have h3 : (t : Rat) * (t : Rat)⁻¹ = 1 := Rat.mul_inv_cancel _ (by grind);rw [Rat.div_def, ← h3];exact Rat.mul_le_mul_of_nonneg_right h2 (Rat.le_of_lt (Rat.inv_pos.2 h1))
end Go.Proofs.YtcpedbpldgndmaaDoor
