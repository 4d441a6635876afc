/-
  Kernels: lists of weights, reduced, composed.
-/
import Derived.Test.YtcpedbpldgndmaaDoorPl31
set_option linter.unusedSimpArgs false
set_option linter.unusedVariables false
set_option maxRecDepth 100000
set_option maxHeartbeats 1600000
namespace Go.Proofs.YtcpedbpldgndmaaDoor
abbrev far : Int := 999999999999999
def wt (l : List Int) (k : Nat) : Int := l.getD k 0
theorem wt_out {l : List Int} {k : Nat} (h : l.length ≤ k) : wt l k = 0 := by
 unfold wt
 rw [List.getD_eq_getElem?_getD, List.getElem?_eq_none h]
 rfl
theorem wt_in {l : List Int} {k : Nat} (h : k < l.length) : wt l k = l[k] := by
 unfold wt
 rw [List.getD_eq_getElem?_getD, List.getElem?_eq_getElem h]
 rfl
theorem wt_range {n k : Nat} (f : Nat → Int) (h : k < n) : wt ((List.range n).map f) k = f k := by
 rw [wt_in (by simpa using h)]
 simp
theorem wt_ext {a b : List Int} (hl : a.length = b.length) (h : ∀ k, k < a.length → wt a k = wt b k) : a = b := by
 refine List.ext_getElem hl fun k h1 h2 => ?_;rw [← wt_in h1, ← wt_in h2];exact h k h1
/-- Sums of integers. -/
def smI : Nat → (Nat → Int) → Int
 | 0, _ => 0
 | n + 1, f => smI n f + f n
theorem smI_cast (f : Nat → Int) : ∀ n, ((smI n f : Int) : Rat) = sm n fun i => (f i : Rat)
 | 0 => rfl
 | n + 1 => by
  show ((smI n f + f n : Int) : Rat) = _
  rw [Rat.intCast_add, smI_cast f n]
  rfl
theorem smI_congr {f g : Nat → Int} : ∀ {n : Nat}, (∀ i, i < n → f i = g i) → smI n f = smI n g
 | 0, _ => rfl
 | n + 1, h => by
  show smI n f + f n = smI n g + g n
  rw [smI_congr (n := n) (fun i hi => h i (by omega)), h n (by omega)]
theorem smI_nonneg {f : Nat → Int} : ∀ {n : Nat}, (∀ i, i < n → 0 ≤ f i) → 0 ≤ smI n f
 | 0, _ => Int.le_refl 0
 | n + 1, h => by
  have h1 := smI_nonneg (n := n) (fun i hi => h i (by omega));have h2 := h n (by omega)
  show 0 ≤ smI n f + f n
  omega
theorem smI_mono {f g : Nat → Int} : ∀ {n : Nat}, (∀ i, i < n → f i ≤ g i) → smI n f ≤ smI n g
 | 0, _ => Int.le_refl 0
 | n + 1, h => by
  have h1 := smI_mono (n := n) (fun i hi => h i (by omega));have h2 := h n (by omega)
  show smI n f + f n ≤ smI n g + g n
  omega
theorem smI_one_le {f : Nat → Int} : ∀ {n k : Nat}, (∀ i, i < n → 0 ≤ f i) → k < n → f k ≤ smI n f
 | n + 1, k, h, hk => by
  have h1 := smI_nonneg (n := n) (fun i hi => h i (by omega));have h2 := h n (by omega)
  show f k ≤ smI n f + f n
  rcases Nat.lt_or_ge k n with h3 | h3
  ·have := smI_one_le (n := n) (k := k) (fun i hi => h i (by omega)) h3
   omega
  ·rw [show k = n by omega]
   omega
theorem smI_pos {f : Nat → Int} : ∀ {n : Nat}, (∀ i, i < n → 0 ≤ f i) → 0 < smI n f → ∃ k, k < n ∧ 0 < f k
 | 0, _, h => by cases h
 | n + 1, h, hp => by
  rcases Int.lt_or_le 0 (f n) with h1 | h1
  ·exact ⟨n, by omega, h1⟩
  ·have h2 : 0 < smI n f := by
    have : 0 < smI n f + f n := hp
    omega
   obtain ⟨k, hk, h3⟩ := smI_pos (n := n) (fun i hi => h i (by omega)) h2;exact ⟨k, by omega, h3⟩
theorem smI_mul (c : Int) (f : Nat → Int) : ∀ n, smI n (fun i => c * f i) = c * smI n f
 | 0 => by show (0 : Int) = c * 0; rw [Int.mul_zero]
 | n + 1 => by
  show smI n (fun i => c * f i) + c * f n = c * (smI n f + f n)
  rw [smI_mul c f n, Int.mul_add]
theorem smI_more {f : Nat → Int} {n m : Nat} (hnm : n ≤ m) (h : ∀ i, n ≤ i → i < m → f i = 0) : smI m f = smI n f := by
 induction m with
 | zero => rw [show n = 0 by omega]
 | succ m ih =>
  rcases Nat.lt_or_ge n (m + 1) with h1 | h1
  ·show smI m f + f m = _
   rw [ih (by omega) (fun i h2 h3 => h i h2 (by omega)), h m (by omega) (by omega), Int.add_zero]
  ·rw [show n = m + 1 by omega]
/-- The sum of the first weights, and of all. -/
def tk (l : List Int) (k : Nat) : Int := smI k (wt l)
theorem tk_succ (l : List Int) (k : Nat) : tk l (k + 1) = tk l k + wt l k := rfl
def tot (l : List Int) : Int := tk l l.length
abbrev okk (l : List Int) (k : Nat) : Prop := 0 ≤ wt l k ∧ wt l k ≤ far
/-- The first error of a kernel. -/
def kcE (l : List Int) : Int :=
 if l.length < 1 ∨ 400 < l.length then 2
 else if ∀ k, k < l.length → okk l k then (if far < tot l then 3 else if tot l = 0 then 1 else 0) else 3
structure Kok (l : List Int) : Prop where
 len1 : 1 ≤ l.length
 len2 : l.length ≤ 400
 pos : ∀ k, 0 ≤ wt l k
 le : tot l ≤ far
 tpos : 0 < tot l
theorem kcE_lim {l : List Int} (h : l.length < 1 ∨ 400 < l.length) : kcE l = 2 := if_pos h
theorem kcE_bad {l : List Int} (h1 : 1 ≤ l.length) (h2 : l.length ≤ 400) {k : Nat} (hk : k < l.length) (h : ¬ okk l k) : kcE l = 3 := by
 unfold kcE
 rw [if_neg (by omega), if_neg fun h9 => h (h9 k hk)]
theorem kcE_all {l : List Int} (h1 : 1 ≤ l.length) (h2 : l.length ≤ 400) (h : ∀ k, k < l.length → okk l k) : kcE l = if far < tot l then 3 else if tot l = 0 then 1 else 0 := by
 unfold kcE
 rw [if_neg (by omega), if_pos h]
theorem kcE_ok {l : List Int} : kcE l = 0 ↔ Kok l := by
 constructor
 ·intro h
  have h1 : ¬ (l.length < 1 ∨ 400 < l.length) := fun h9 => by rw [kcE_lim h9] at h; cases h
  by_cases h2 : ∀ k, k < l.length → okk l k
  ·rw [kcE_all (by omega) (by omega) h2] at h
   have hp : ∀ k, 0 ≤ wt l k := fun k => by
    rcases Nat.lt_or_ge k l.length with h9 | h9
    ·exact (h2 k h9).1
    ·rw [wt_out h9]
     exact Int.le_refl 0
   have ht : 0 ≤ tot l := smI_nonneg fun i _ => hp i
   split at h
   ·cases h
   ·split at h
    ·cases h
    ·exact ⟨by omega, by omega, hp, by omega, by omega⟩
  ·exfalso
   unfold kcE at h
   rw [if_neg h1, if_neg h2] at h
   cases h
 ·intro h
  have h2 : ∀ k, k < l.length → okk l k := fun k hk => ⟨h.pos k, by
   have h3 : wt l k ≤ tot l := smI_one_le (fun i _ => h.pos i) hk;have := h.le
   omega⟩
  rw [kcE_all h.len1 h.len2 h2, if_neg (by have := h.le; omega), if_neg (by have := h.tpos; omega)]
theorem Kok.wle {l : List Int} (h : Kok l) (k : Nat) : wt l k ≤ tot l := by
 rcases Nat.lt_or_ge k l.length with h1 | h1
 ·exact smI_one_le (fun i _ => h.pos i) h1
 ·rw [wt_out h1]
  have := h.tpos
  omega
/-- Greatest common divisors. -/
def gf (f : Nat → Nat) : Nat → Nat
 | 0 => 0
 | k + 1 => Nat.gcd (gf f k) (f k)
theorem gf_dvd {f : Nat → Nat} : ∀ {n k : Nat}, k < n → gf f n ∣ f k
 | n + 1, k, hk => by
  rcases Nat.lt_or_ge k n with h1 | h1
  ·exact Nat.dvd_trans (Nat.gcd_dvd_left _ _) (gf_dvd h1)
  ·rw [show k = n by omega]
   exact Nat.gcd_dvd_right _ _
theorem gf_pos {f : Nat → Nat} {n k : Nat} (hk : k < n) (h : 0 < f k) : 0 < gf f n := by
 rcases Nat.eq_zero_or_pos (gf f n) with h1 | h1
 ·have := gf_dvd (f := f) hk
  rw [h1, Nat.zero_dvd] at this
  omega
 ·exact h1
def gk (l : List Int) (k : Nat) : Nat := gf (fun i => (wt l i).toNat) k
theorem gk_succ (l : List Int) (k : Nat) : gk l (k + 1) = Nat.gcd (gk l k) (wt l k).toNat := rfl
def gg (l : List Int) : Nat := gk l l.length
/-- One more than the place of the last weight that is not 0. -/
def lk (l : List Int) : Nat → Nat
 | 0 => 0
 | k + 1 => if 0 < wt l k then k + 1 else lk l k
def ll (l : List Int) : Nat := lk l l.length
theorem lk_le (l : List Int) : ∀ k, lk l k ≤ k
 | 0 => Nat.le_refl 0
 | k + 1 => by
  unfold lk
  have := lk_le l k
  split <;> omega
theorem lk_zero {l : List Int} (h : ∀ k, 0 ≤ wt l k) : ∀ {k j : Nat}, lk l k ≤ j → j < k → wt l j = 0
 | k + 1, j, h1, h2 => by
  unfold lk at h1
  split at h1
  ·omega
  ·rename_i h3
   rcases Nat.lt_or_ge j k with h4 | h4
   ·exact lk_zero h h1 h4
   ·rw [show j = k by omega]
    have := h k
    omega
theorem ll_zero {l : List Int} (h : ∀ k, 0 ≤ wt l k) {j : Nat} (hj : ll l ≤ j) : wt l j = 0 := by
 rcases Nat.lt_or_ge j l.length with h1 | h1
 ·exact lk_zero h hj h1
 ·exact wt_out h1
theorem Kok.one {l : List Int} (h : Kok l) : ∃ k, k < l.length ∧ 0 < wt l k := smI_pos (fun i _ => h.pos i) h.tpos
theorem Kok.ll_pos {l : List Int} (h : Kok l) : 0 < ll l := by
 obtain ⟨k, hk, h1⟩ := h.one
 rcases Nat.eq_zero_or_pos (ll l) with h2 | h2
 ·have := ll_zero h.pos (j := k) (by omega)
  omega
 ·exact h2
theorem Kok.gg_pos {l : List Int} (h : Kok l) : 0 < gg l := by
 obtain ⟨k, hk, h1⟩ := h.one;exact gf_pos hk (by show 0 < (wt l k).toNat; omega)
theorem Kok.gg_dvd {l : List Int} (h : Kok l) (k : Nat) : (gg l : Int) ∣ wt l k := by
 rcases Nat.lt_or_ge k l.length with h1 | h1
 ·have h2 : gg l ∣ (wt l k).toNat := gf_dvd (f := fun i => (wt l i).toNat) h1
  have h3 : ((wt l k).toNat : Int) = wt l k := Int.toNat_of_nonneg (h.pos k);rw [← h3];exact Int.natCast_dvd_natCast.2 h2
 ·rw [wt_out h1]
  exact Int.dvd_zero _
/-- The reduced list. -/
def red (l : List Int) : List Int := (List.range (ll l)).map fun i => wt l i / (gg l : Int)
theorem red_len (l : List Int) : (red l).length = ll l := by
 unfold red
 simp
theorem Kok.wt_red {l : List Int} (h : Kok l) (k : Nat) : wt l k = (gg l : Int) * wt (red l) k := by
 rcases Nat.lt_or_ge k (ll l) with h1 | h1
 ·unfold red
  rw [wt_range _ h1, Int.mul_ediv_cancel' (h.gg_dvd k)]
 ·rw [ll_zero h.pos h1, wt_out (l := red l) (by rw [red_len]; exact h1), Int.mul_zero]
theorem Kok.red_pos {l : List Int} (h : Kok l) (k : Nat) : 0 ≤ wt (red l) k := by
 rcases Nat.lt_or_ge k (ll l) with h1 | h1
 ·unfold red
  rw [wt_range _ h1];exact Int.ediv_nonneg (h.pos k) (by omega)
 ·rw [wt_out (l := red l) (by rw [red_len]; exact h1)]
  exact Int.le_refl 0
theorem ll_le (l : List Int) : ll l ≤ l.length := lk_le _ _
theorem Kok.tot_red {l : List Int} (h : Kok l) : tot l = (gg l : Int) * tot (red l) := by
 unfold tot tk
 rw [← smI_mul, red_len, ← smI_more (n := ll l) (m := l.length) (ll_le l) (fun i h1 _ => by rw [wt_out (l := red l) (by rw [red_len]; exact h1), Int.mul_zero])]
 exact smI_congr fun i _ => h.wt_red i
theorem Kok.red {l : List Int} (h : Kok l) : Kok (red l) := by
 have h1 := h.tot_red;have h2 := h.gg_pos;have h3 := h.tpos
 have h4 : 0 ≤ tot (Go.Proofs.YtcpedbpldgndmaaDoor.red l) := smI_nonneg fun i _ => h.red_pos i
 refine ⟨by rw [red_len]; exact h.ll_pos, by rw [red_len]; have := ll_le l; have := h.len2; omega, h.red_pos, ?_, ?_⟩
 ·have h5 := h.le
  have h6 : tot (Go.Proofs.YtcpedbpldgndmaaDoor.red l) ≤ (gg l : Int) * tot (Go.Proofs.YtcpedbpldgndmaaDoor.red l) := by
   have := Int.mul_le_mul_of_nonneg_right (show (1 : Int) ≤ (gg l : Int) by omega) h4;rw [Int.one_mul] at this;exact this
  omega
 ·rcases Int.lt_or_eq_of_le h4 with h5 | h5
  ·exact h5
  ·rw [← h5, Int.mul_zero] at h1
   omega
/-- Weights as numbers, and normed. -/
def qw (l : List Int) (k : Nat) : Rat := (wt l k : Rat)
def nm (l : List Int) (k : Nat) : Rat := (wt l k : Rat) / (tot l : Rat)
theorem qw_tot (l : List Int) : (tot l : Rat) = sm l.length (qw l) := smI_cast _ _
theorem nm_out {l : List Int} {k : Nat} (h : l.length ≤ k) : nm l k = 0 := by
 unfold nm
 rw [wt_out h, show ((0 : Int) : Rat) = 0 from rfl, Rat.div_def, Rat.zero_mul]
/-! ### Composing -/
def cvI (a b : List Int) (t : Nat) : Int := smI a.length fun i => if i ≤ t then wt a i * wt b (t - i) else 0
def cvl (a b : List Int) : List Int := (List.range (a.length + b.length - 1)).map (cvI a b)
theorem cvl_len (a b : List Int) : (cvl a b).length = a.length + b.length - 1 := by
 unfold cvl
 simp
theorem cvI_cast (a b : List Int) (t : Nat) : (cvI a b t : Rat) = cv (qw a) (qw b) t := by
 unfold cvI
 rw [smI_cast]
 have h1 : (sm a.length fun i => ((if i ≤ t then wt a i * wt b (t - i) else 0 : Int) : Rat)) = sm a.length fun i => if i ≤ t then qw a i * qw b (t - i) else 0 := sm_congr fun i _ => by
  unfold qw
  split
  ·rw [Rat.intCast_mul]
  ·rfl
 rw [h1]
 unfold cv
 rcases Nat.lt_or_ge a.length (t + 1) with h2 | h2
 ·rw [sm_more (n := a.length) (m := t + 1) (f := fun i => qw a i * qw b (t - i)) (by omega) (fun i h3 _ => by
   show qw a i * _ = 0
   unfold qw
   rw [wt_out h3, show ((0 : Int) : Rat) = 0 from rfl, Rat.zero_mul])]
  exact sm_congr fun i hi => by rw [if_pos (by omega)]
 ·rw [sm_more (n := t + 1) (m := a.length) (f := fun i => if i ≤ t then qw a i * qw b (t - i) else 0) h2 (fun i h3 _ => if_neg (by omega))]
  exact sm_congr fun i hi => by rw [if_pos (by omega)]
theorem qw_out {l : List Int} {k : Nat} (h : l.length ≤ k) : qw l k = 0 := by
 unfold qw
 rw [wt_out h]
 rfl
theorem qw_cvl {a b : List Int} (ha : 1 ≤ a.length) (hb : 1 ≤ b.length) : qw (cvl a b) = cv (qw a) (qw b) := by
 funext t
 rcases Nat.lt_or_ge t (a.length + b.length - 1) with h1 | h1
 ·unfold qw cvl
  rw [wt_range _ h1];exact cvI_cast a b t
 ·rw [qw_out (by rw [cvl_len]; exact h1), cv_zero _ _ (fun i h => qw_out h) (fun i h => qw_out h) (by omega)]
theorem tot_cvl {a b : List Int} (ha : 1 ≤ a.length) (hb : 1 ≤ b.length) : tot (cvl a b) = tot a * tot b := by
 have h1 : ((tot (cvl a b) : Int) : Rat) = ((tot a * tot b : Int) : Rat) := by
  rw [qw_tot, cvl_len, qw_cvl ha hb, Rat.intCast_mul, qw_tot, qw_tot];have h2 := cv_sum (qw a) (qw b) (N := a.length + b.length - 1) (fun i h => qw_out h) (fun i h => qw_out h) (by omega) (fun _ => 1)
  have h3 : sm (a.length + b.length - 1) (fun t => 1 * cv (qw a) (qw b) t) = sm (a.length + b.length - 1) (cv (qw a) (qw b)) := sm_congr fun i _ => Rat.one_mul _
  rw [h3] at h2;rw [h2]
  have h4 : (sm a.length fun i => sm b.length fun j => 1 * (qw a i * qw b j)) = sm a.length fun i => qw a i * sm b.length (qw b) := sm_congr fun i _ => by
   rw [← sm_mul]
   exact sm_congr fun j _ => Rat.one_mul _
  rw [h4, sm_mulr]
 exact_mod_cast h1
theorem cvI_nonneg {a b : List Int} (ha : ∀ k, 0 ≤ wt a k) (hb : ∀ k, 0 ≤ wt b k) (t : Nat) : 0 ≤ cvI a b t := smI_nonneg fun i _ => by
 split
 ·exact Int.mul_nonneg (ha _) (hb _)
 ·exact Int.le_refl 0
theorem Kok.cvl {a b : List Int} (ha : Kok a) (hb : Kok b) (h1 : a.length + b.length - 1 ≤ 400) (h2 : tot a * tot b ≤ far) : Kok (cvl a b) := by
 have h3 := ha.len1;have h4 := hb.len1;refine ⟨by rw [cvl_len]; omega, by rw [cvl_len]; exact h1, fun k => ?_, by rw [tot_cvl h3 h4]; exact h2, by rw [tot_cvl h3 h4]; exact Int.mul_pos ha.tpos hb.tpos⟩
 rcases Nat.lt_or_ge k (a.length + b.length - 1) with h5 | h5
 ·unfold Go.Proofs.YtcpedbpldgndmaaDoor.cvl
  rw [wt_range _ h5];exact cvI_nonneg ha.pos hb.pos k
 ·rw [wt_out (by rw [cvl_len]; exact h5)]
  exact Int.le_refl 0
/-- The error of a composition of two reduced lists, and its weights. -/
def cpE (a b : List Int) : Int := if 400 < (red a).length + (red b).length - 1 then 2 else if far / tot (red b) < tot (red a) then 3 else 0
def cpK (a b : List Int) : List Int := red (cvl (red a) (red b))
theorem div_iff {x y : Int} (hy : 0 < y) : far / y < x ↔ far < x * y := by
 rw [← Int.not_le, ← Int.not_le, Int.le_ediv_iff_mul_le hy]
theorem cpE_ok {a b : List Int} (ha : Kok a) (hb : Kok b) : cpE a b = 0 ↔ (red a).length + (red b).length - 1 ≤ 400 ∧ tot (red a) * tot (red b) ≤ far := by
 unfold cpE
 have h1 := div_iff (x := tot (red a)) hb.red.tpos
 split
 ·constructor
  ·intro h; cases h
  ·intro h; omega
 ·split
  ·rename_i h2
   constructor
   ·intro h; cases h
   ·intro h
    have := h1.1 h2
    omega
  ·rename_i h2
   refine ⟨fun _ => ⟨by omega, ?_⟩, fun _ => rfl⟩;rw [h1] at h2
   omega
theorem cpK_kok {a b : List Int} (ha : Kok a) (hb : Kok b) (h : cpE a b = 0) : Kok (cvl (red a) (red b)) := by
 obtain ⟨h1, h2⟩ := (cpE_ok ha hb).1 h;exact ha.red.cvl hb.red h1 h2
/-! ### Mean -/
def mean (l : List Int) : Rat := sm l.length fun i => (i : Rat) * nm l i
/-! ### Composing, step by step -/
def pI (a b : List Int) (i t : Nat) : Int := smI i fun k => if k ≤ t then wt a k * wt b (t - k) else 0
theorem pI_succ (a b : List Int) (i t : Nat) : pI a b (i + 1) t = pI a b i t + if i ≤ t then wt a i * wt b (t - i) else 0 := rfl
theorem pI_all (a b : List Int) (t : Nat) : pI a b a.length t = cvI a b t := rfl
theorem pI_nonneg {a b : List Int} (ha : Kok a) (hb : Kok b) (i t : Nat) : 0 ≤ pI a b i t := smI_nonneg fun k _ => by
 split
 ·exact Int.mul_nonneg (ha.pos _) (hb.pos _)
 ·exact Int.le_refl 0
theorem tk_le {a : List Int} (ha : Kok a) {i : Nat} (hi : i ≤ a.length) : tk a i ≤ tot a := by
 have aux : ∀ d, tk a i ≤ tk a (i + d) := fun d => by
  induction d with
  | zero => exact Int.le_refl _
  | succ d ih =>
   have := ha.pos (i + d);rw [← Nat.add_assoc, tk_succ]
   omega
 have := aux (a.length - i)
 rwa [show i + (a.length - i) = a.length by omega] at this
theorem pI_le {a b : List Int} (ha : Kok a) (hb : Kok b) (h : tot a * tot b ≤ far) {i : Nat} (hi : i ≤ a.length) (t : Nat) : pI a b i t ≤ far := by
 have h1 : pI a b i t ≤ smI i fun k => tot b * wt a k := smI_mono fun k _ => by
  have h2 := ha.pos k
  split
  ·rw [Int.mul_comm]
   exact Int.mul_le_mul_of_nonneg_right (hb.wle _) h2
  ·exact Int.mul_nonneg (Int.le_of_lt hb.tpos) h2
 rw [smI_mul] at h1;have h3 : tot b * tk a i ≤ tot b * tot a := Int.mul_le_mul_of_nonneg_left (tk_le ha hi) (Int.le_of_lt hb.tpos);rw [Int.mul_comm (tot b) (tot a)] at h3;have h4 : smI i (fun k => wt a k) = tk a i := rfl;rw [h4] at h1
 omega
end Go.Proofs.YtcpedbpldgndmaaDoor
