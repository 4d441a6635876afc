/-
  law 44: words.
-/
import Derived.Test.YtffgfkcljcollaaDoorS44
set_option linter.unusedSimpArgs false
set_option linter.unusedVariables false
set_option maxRecDepth 100000
set_option maxHeartbeats 1600000
namespace Go.Proofs.YtffgfkcljcollaaDoor
open Go.RowKit
theorem blE_in {c : Int} {l : List En} {a day : Int} (h : Ok44 c l) (h0 : 0 ≤ a) (h1 : a < c) (d0 : 0 ≤ day) (d1 : day ≤ 14609) : blE c l a day = 0 := by
 unfold blE
 rw [acE_ok.2 h, if_neg (by decide), if_neg (by omega)]
theorem blV_in {c : Int} {l : List En} {a day : Int} (h : Ok44 c l) (h0 : 0 ≤ a) (h1 : a < c) (d0 : 0 ≤ day) (d1 : day ≤ 14609) : blV c l a day = bal l a 0 day 0 := by
 unfold blV
 rw [if_pos (blE_in h h0 h1 d0 d1)]
theorem fewL_t {c : Int} {l : List En} {m : Nat} (h : fewL c l m = true) : fewB l m = true ∧ c ≤ 20 ∧ l.length ≤ m ∧ Ok44 c l := by
 unfold fewL at h
 simp only [Bool.and_eq_true, decide_eq_true_eq] at h;exact ⟨h.1, h.2.1, h.2.2.1, acE_ok.1 h.2.2.2⟩
theorem sz_snoc {l : List En} {x : En} {B : Nat} (h : ∀ k, tz (en l k).am.2.1 (en l k).am.2.2 B) (hx : tz x.am.2.1 x.am.2.2 B) : ∀ k, tz (en (l ++ [x]) k).am.2.1 (en (l ++ [x]) k).am.2.2 B := fun k => by
 rw [en_snoc]
 split
 ·exact h k
 ·split
  ·exact hx
  ·exact tz_nil
theorem rvE_st {c : Int} {l : List En} (h : Ok44 c l) {k : Nat} (hk : k < l.length) {day : Int} (hu : und l k = true ∨ (en l k).kd = 4) : rvE c l k day = 4 := by
 unfold rvE
 rw [acE_ok.2 h, if_neg (by decide), if_neg (by omega), if_pos (by rw [Int.toNat_natCast]; exact hu)]
theorem rvE_ok {c : Int} {l : List En} (h : Ok44 c l) {k : Nat} (hk : k < l.length) (hl : l.length < 4000) {day : Int} (h0 : 0 ≤ day) (h1 : day ≤ 14609) (hd : (en l (l.length - 1)).day ≤ day) (hu : und l k = false) (h4 : (en l k).kd ≠ 4) : rvE c l k day = 0 := by
 unfold rvE
 rw [acE_ok.2 h, if_neg (by decide), if_neg (by omega), if_neg (by rw [Int.toNat_natCast, hu]; simp [h4]), if_neg (by omega)]
 unfold wthE
 rw [if_neg, if_neg (by omega)]
 rintro ⟨_, h9⟩
 have : (opp (en l (k : Int).toNat) k day).day = day := rfl
 omega
theorem rvL_ok {c : Int} {l : List En} {k : Nat} {day : Int} (h : rvE c l k day = 0) : rvL c l k day = l ++ [opp (en l k) k day] := by
 unfold rvL
 rw [if_pos h, Int.toNat_natCast]
theorem rvL_no {c : Int} {l : List En} {k : Int} {day : Int} (h : rvE c l k day = 4) : rvL c l k day = [] := by
 unfold rvL
 rw [h]
 rfl
theorem bal_szK {c : Int} {l : List En} (h : Ok44 c l) (hx : ∀ k, tz (en l k).am.2.1 (en l k).am.2.2 12) (hn : l.length ≤ 40) (a f t k : Int) : szR (bal l a f t k) 1100 := (bal_sz h (by decide) hx a f t k).mono (by omega)
theorem not_kd {p : Prop} {b : Bool} (h : ¬ (b = true ∨ p)) : b = false ∧ ¬ p := by
 cases b
 ·exact ⟨rfl, fun h9 => h (.inr h9)⟩
 ·exact absurd (.inl rfl) h
def x0q (q : Aj) : En := ⟨0, 0, 0, q.am, 0, 0, 0, 0, 0, 0, 0⟩
theorem fewq {q : Aj} (h : fewB [x0q q] 1 = true) : tz q.am.2.1 q.am.2.2 12 := fewB_t h 0
theorem rqE {w : World} {A : Option Addr} {n c : Nat} {l : List Rat} (h : Rq l (.slice A n c) w) (hl : l.length = n) {k : Nat} (hk : k < n) : ∃ b off, A = some ⟨b, off, none⟩ ∧ b < w.heap.size ∧ Cl w b (off + k * 3) (rc (yq l k)) := by
 have h9 : Rd w 3 (.slice A n c) (l.map tr).length (fl trc (l.map tr)) := h;rw [List.length_map, hl] at h9;exact rqAt4 h9 hl hk
theorem rqF {w : World} {n : Nat} {v : Value} {l : List Rat} (h : Rq l v w) (hl : l.length = n) : ∃ A c, v = .slice A n c := by
 obtain ⟨A, n2, c, h1, h2, _⟩ := h.open;exact ⟨A, c, by rw [h1, ← h2, hl]⟩
theorem suE_in {c : Int} {l : List En} {f t k : Int} (h : Ok44 c l) (f0 : 0 ≤ f) (f1 : f ≤ 14609) (t0 : 0 ≤ t) (t1 : t ≤ 14609) (k0 : 0 ≤ k) (k1 : k ≤ 5) : suE c l f t k = 0 := by
 unfold suE
 rw [acE_ok.2 h, if_neg (by decide), if_neg (by omega)]
theorem suL_in {c : Int} {l : List En} {f t k : Int} (h : suE c l f t k = 0) : suL c l f t k = smA c l f t k := by
 unfold suL
 rw [if_pos h]
theorem smA_at {c : Int} {N : Nat} (hc : c = (N : Int)) (l : List En) (f t k : Int) {i : Nat} (hi : i < N) : yq (smA c l f t k) i = bal l (i : Int) f t k := by
 unfold smA
 exact yq_range (fun i : Nat => bal l (i : Int) f t k) (by rw [hc, Int.toNat_natCast]; exact hi)
/-- The error of an adjustment of right accounts with few entries. -/
theorem ajE_few {c : Int} {l : List En} (h : Ok44 c l) (hl : l.length < 4000) (q : Aj) : ajE c l q = 0 ∨ ajE c l q = 1 ∨ ajE c l q = 15 := by
 unfold ajE
 rw [acE_ok.2 h, if_neg (by decide)]
 split
 ·exact .inr (.inl rfl)
 ·unfold wthE
  split
  ·exact .inr (.inr rfl)
  ·rw [if_neg (by omega)]
   exact .inl rfl
structure AjOk (c : Int) (l : List En) (q : Aj) : Prop where
 vl : vd q.am.1 q.am.2.1 q.am.2.2 = true
 rg : Rg c l.length (adj q)
 late : 0 < l.length → (en l (l.length - 1)).day ≤ q.day
 lim : l.length < 4000
theorem ajE_ok {c : Int} {l : List En} (h : Ok44 c l) {q : Aj} (hz : ajE c l q = 0) : AjOk c l q := by
 unfold ajE at hz
 rw [acE_ok.2 h, if_neg (by decide)] at hz
 split at hz
 ·cases hz
 ·rename_i h1
  unfold wthE at hz
  split at hz
  ·cases hz
  ·rename_i h2
   split at hz
   ·cases hz
   ·rename_i h3
    have e1 : vd q.am.1 q.am.2.1 q.am.2.2 = true := by
     cases h9 : vd q.am.1 q.am.2.1 q.am.2.2
     ·exact absurd (.inl h9) h1
     ·rfl
    have e2 : rgt c l.length (adj q) = true := by
     cases h9 : rgt c l.length (adj q)
     ·exact absurd (.inr h9) h1
     ·rfl
    refine ⟨e1, rgt_t.1 e2, fun h4 => ?_, by omega⟩;rw [adj_day] at h2
    omega
theorem adj_ne {c : Int} {n : Nat} {q : Aj} (h : Rg c n (adj q)) : q.ac ≠ q.ag := by
 have h1 := h.ne
 unfold adj at h1
 split at h1
 ·exact h1
 ·split at h1
  ·exact fun h9 => h1 h9.symm
  ·exact h1
theorem aj_ok {c : Int} {l : List En} (h : Ok44 c l) {q : Aj} (hz : ajE c l q = 0) : Ok44 c (ajL c l q) := by
 have k := ajE_ok h hz
 unfold ajL
 rw [if_pos hz]
 split
 ·exact h
 ·exact h.snoc k.lim k.rg (fun h4 => by rw [adj_day]; exact k.late h4) (fun h9 => by rw [adj_kd] at h9; cases h9)
theorem aj_bal {c : Int} {l : List En} (h : Ok44 c l) {q : Aj} (hz : ajE c l q = 0) (a : Int) {k : Int} (hk : k = 0 ∨ k = 3) : bal (ajL c l q) a 0 q.day k = bal l a 0 q.day k + ajq q a := by
 have o := ajE_ok h hz
 unfold ajL
 rw [if_pos hz]
 by_cases h0 : trq q.am = 0
 ·rw [if_pos h0, ajq_zero h0, Rat.add_zero]
 ·rw [if_neg h0, bal_snoc]
  congr 1
  unfold itm
  rw [if_pos, ent_adj h0 (adj_ne o.rg)]
  unfold sel
  have h1 := o.rg.y0;rw [adj_day] at h1 ⊢;rw [adj_kd, decide_eq_true h1, decide_eq_true (Int.le_refl _)]
  rcases hk with rfl | rfl <;> rfl
theorem aj_bal1 {c : Int} {l : List En} {q : Aj} (hz : ajE c l q = 0) (a k : Int) : bal (ajL c l q) a 0 (q.day - 1) k = bal l a 0 (q.day - 1) k := by
 unfold ajL
 rw [if_pos hz]
 split
 ·rfl
 ·exact bal_ahead l _ (by rw [adj_day]; omega) _ _ _
theorem tz_tr {x : Rat} {B : Nat} (h : szR x B) : tz (tr x).2.1 (tr x).2.2 B := tzR h (Nat.le_refl _)
theorem aj_sz {c : Int} {l : List En} {q : Aj} (hs : ∀ k, tz (en l k).am.2.1 (en l k).am.2.2 12) (hq : tz q.am.2.1 q.am.2.2 12) : ∀ k, tz (en (ajL c l q) k).am.2.1 (en (ajL c l q) k).am.2.2 12 := by
 unfold ajL
 split
 ·split
  ·exact hs
  ·refine sz_snoc hs ?_
   unfold adj
   split
   ·exact tz_tr (szR_int (n := 1) (by decide) |>.mono (by decide))
   ·split
    ·exact tz_tr (szR_neg (szR_tz rfl hq))
    ·exact hq
 ·exact fun k => tz_nil
theorem aj_len {c : Int} {l : List En} {q : Aj} : (ajL c l q).length ≤ l.length + 1 := by
 unfold ajL
 split
 ·split
  ·omega
  ·rw [List.length_append]
   exact Nat.le_refl _
 ·exact Nat.zero_le _
end Go.Proofs.YtffgfkcljcollaaDoor
