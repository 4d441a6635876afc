/-
  Layer 44: undoing an entry, adjusting, the order of entries.
-/
import Derived.Test.YtffgfkcljcollaaDoorRk
import Derived.Test.YtffgfkcljcollaaDoorPl31b
import Derived.Test.YtffgfkcljcollaaDoorQsu
set_option linter.unusedSimpArgs false
set_option linter.unusedVariables false
set_option maxRecDepth 100000
set_option maxHeartbeats 1600000
namespace Go.Proofs.YtffgfkcljcollaaDoor
open Go.RowKit
/-- An entry: day, debit, credit, amount, kind, period, reference, why. -/
structure En where
 day : Int
 deb : Int
 cre : Int
 am : Tr
 kd : Int
 pd : Int
 rf : Int
 w1 : Int
 w2 : Int
 w3 : Int
 w4 : Int
deriving DecidableEq
instance : Inhabited En := ⟨⟨0, 0, 0, (false, [], []), 0, 0, 0, 0, 0, 0, 0⟩⟩
def en (l : List En) (k : Nat) : En := l.getD k default
theorem en_in {l : List En} {k : Nat} (h : k < l.length) : en l k = l[k] := by
 unfold en
 rw [List.getD_eq_getElem?_getD, List.getElem?_eq_getElem h]
 rfl
theorem en_take {l : List En} {k n : Nat} (h : k < n) : en (l.take n) k = en l k := by
 unfold en
 rw [List.getD_eq_getElem?_getD, List.getD_eq_getElem?_getD, List.getElem?_take_of_lt h]
theorem en_snoc {l : List En} {x : En} {k : Nat} : en (l ++ [x]) k = if k < l.length then en l k else if k = l.length then x else default := by
 unfold en
 rw [List.getD_eq_getElem?_getD, List.getD_eq_getElem?_getD]
 by_cases h : k < l.length
 ·rw [if_pos h, List.getElem?_append_left h]
 ·rw [if_neg h, List.getElem?_append_right (by omega)]
  by_cases h2 : k = l.length
  ·rw [if_pos h2, h2, Nat.sub_self]
   rfl
  ·rw [if_neg h2, List.getElem?_eq_none (by simp; omega)]
   rfl
/-- Whether an amount is the number 0 as it lies. -/
def zam (t : Tr) : Bool := !t.1 && t.2.1 == [] && t.2.2 == []
/-- Whether an entry is right as the next one behind n others. -/
def rgt (c : Int) (n : Nat) (x : En) : Bool :=
 decide (0 ≤ x.deb) && decide (x.deb < c) && decide (0 ≤ x.cre) && decide (x.cre < c) && decide (x.deb ≠ x.cre) && decide (0 ≤ x.day) && decide (x.day ≤ 14609) && !x.am.1 && !zam x.am && vd x.am.1 x.am.2.1 x.am.2.2 &&
 decide (1 ≤ x.kd) && decide (x.kd ≤ 5) && decide (0 ≤ x.pd) && decide (x.pd ≤ 4000) && (if x.kd = 4 then decide (0 ≤ x.rf) && decide (x.rf < n) else decide (x.rf = -1))
/-- What is known of a right entry. -/
structure Rg (c : Int) (n : Nat) (x : En) : Prop where
 d0 : 0 ≤ x.deb
 d1 : x.deb < c
 c0 : 0 ≤ x.cre
 c1 : x.cre < c
 ne : x.deb ≠ x.cre
 y0 : 0 ≤ x.day
 y1 : x.day ≤ 14609
 ng : x.am.1 = false
 nz : zam x.am = false
 vl : vd x.am.1 x.am.2.1 x.am.2.2 = true
 k1 : 1 ≤ x.kd
 k5 : x.kd ≤ 5
 p0 : 0 ≤ x.pd
 p4 : x.pd ≤ 4000
 rf : if x.kd = 4 then 0 ≤ x.rf ∧ x.rf < n else x.rf = -1
theorem rgt_t {c : Int} {n : Nat} {x : En} : rgt c n x = true ↔ Rg c n x := by
 unfold rgt
 constructor
 ·intro h
  simp only [Bool.and_eq_true, decide_eq_true_eq, Bool.not_eq_true'] at h;obtain ⟨⟨⟨⟨⟨⟨⟨⟨⟨⟨⟨⟨⟨⟨h1, h2⟩, h3⟩, h4⟩, h5⟩, h6⟩, h7⟩, h8⟩, h9⟩, h10⟩, h11⟩, h12⟩, h13⟩, h14⟩, h15⟩ := h;refine ⟨h1, h2, h3, h4, h5, h6, h7, h8, h9, h10, h11, h12, h13, h14, ?_⟩
  split at h15
  ·rename_i h16
   rw [if_pos h16]
   simpa using h15
  ·rename_i h16
   rw [if_neg h16]
   simpa using h15
 ·intro h
  simp only [Bool.and_eq_true, decide_eq_true_eq, Bool.not_eq_true'];refine ⟨⟨⟨⟨⟨⟨⟨⟨⟨⟨⟨⟨⟨⟨h.d0, h.d1⟩, h.c0⟩, h.c1⟩, h.ne⟩, h.y0⟩, h.y1⟩, h.ng⟩, h.nz⟩, h.vl⟩, h.k1⟩, h.k5⟩, h.p0⟩, h.p4⟩, ?_⟩;have h1 := h.rf
  split
  ·rename_i h2
   rw [if_pos h2] at h1
   simpa using h1
  ·rename_i h2
   rw [if_neg h2] at h1
   simpa using h1
/-- The entry that undoes y, which lies at a place. -/
def opp (y : En) (at' day : Int) : En := ⟨day, y.cre, y.deb, y.am, 4, y.pd, at', y.w1, y.w2, y.w3, y.w4⟩
/-- Whether one of the entries undoes the one at a place. -/
def und (l : List En) (at' : Int) : Bool := l.any fun x => decide (x.kd = 4) && decide (x.rf = at')
theorem und_snoc (l : List En) (x : En) (a : Int) : und (l ++ [x]) a = (und l a || (decide (x.kd = 4) && decide (x.rf = a))) := by
 unfold und
 rw [List.any_append]
 simp
/-- Whether an entry that undoes another one does so. -/
def undoes (l : List En) (x : En) : Bool := !und l x.rf && decide (x = { opp (en l x.rf.toNat) x.rf x.day with w1 := x.w1, w2 := x.w2, w3 := x.w3, w4 := x.w4 })
/-- Whether the entry at a place is as it must be. -/
def okE (c : Int) (l : List En) (k : Nat) : Bool :=
 rgt c k (en l k) && !(decide (0 < k) && decide ((en l k).day < (en l (k - 1)).day)) && (if (en l k).kd = 4 then undoes (l.take k) (en l k) else true)
/-- The first error of accounts. -/
def acE (c : Int) (l : List En) : Int :=
 if 100 < c ∨ 4000 < l.length then 2 else if c < 1 then 3 else if ∀ k, k < l.length → okE c l k = true then 0 else 1
structure Ok44 (c : Int) (l : List En) : Prop where
 c1 : 1 ≤ c
 c100 : c ≤ 100
 len : l.length ≤ 4000
 all : ∀ k, k < l.length → okE c l k = true
theorem acE_ok {c : Int} {l : List En} : acE c l = 0 ↔ Ok44 c l := by
 unfold acE
 constructor
 ·intro h
  split at h
  ·cases h
  ·rename_i h1
   split at h
   ·cases h
   ·rename_i h2
    split at h
    ·rename_i h3
     exact ⟨by omega, by omega, by omega, h3⟩
    ·cases h
 ·intro h
  rw [if_neg (by have := h.c100; have := h.len; omega), if_neg (by have := h.c1; omega), if_pos h.all]
theorem acE_lim {c : Int} {l : List En} (h : 100 < c ∨ 4000 < l.length) : acE c l = 2 := if_pos h
theorem acE_rng {c : Int} {l : List En} (h1 : c < 1) (h2 : l.length ≤ 4000) : acE c l = 3 := by
 unfold acE
 rw [if_neg (by omega), if_pos h1]
theorem acE_bad {c : Int} {l : List En} (h1 : 1 ≤ c) (h2 : c ≤ 100) (h3 : l.length ≤ 4000) {k : Nat} (hk : k < l.length) (h : okE c l k = false) : acE c l = 1 := by
 unfold acE
 rw [if_neg (by omega), if_neg (by omega), if_neg (fun h9 => by rw [h9 k hk] at h; cases h)]
theorem Ok44.rg {c : Int} {l : List En} (h : Ok44 c l) {k : Nat} (hk : k < l.length) : Rg c k (en l k) := by
 have h1 := h.all k hk
 unfold okE at h1
 simp only [Bool.and_eq_true] at h1;exact rgt_t.1 h1.1.1
theorem Ok44.next {c : Int} {l : List En} (h : Ok44 c l) {k : Nat} (hk : k + 1 < l.length) : (en l k).day ≤ (en l (k + 1)).day := by
 have h1 := h.all (k + 1) hk
 unfold okE at h1
 simp only [Bool.and_eq_true, Bool.not_eq_true'] at h1;have h2 := h1.1.2;rw [decide_eq_true (by omega : 0 < k + 1), Bool.true_and, Nat.add_sub_cancel] at h2;have := of_decide_eq_false h2
 omega
theorem Ok44.sorted {c : Int} {l : List En} (h : Ok44 c l) {i : Nat} : ∀ {d : Nat}, i + d < l.length → (en l i).day ≤ (en l (i + d)).day
 | 0, _ => Int.le_refl _
 | d + 1, hd => Int.le_trans (h.sorted (d := d) (by omega)) (by
   rw [← Nat.add_assoc]
   exact h.next (by omega))
theorem Ok44.mono {c : Int} {l : List En} (h : Ok44 c l) {i j : Nat} (hij : i ≤ j) (hj : j < l.length) : (en l i).day ≤ (en l j).day := by
 have h1 := h.sorted (i := i) (d := j - i) (by omega)
 rwa [show i + (j - i) = j by omega] at h1
/-- Whether an entry counts: days from f to t, kind k (0: all). -/
def sel (x : En) (f t k : Int) : Bool := decide (f ≤ x.day) && decide (x.day ≤ t) && (decide (k = 0) || decide (x.kd = k))
/-- What an entry brings to an account. -/
def ent (x : En) (a : Int) : Rat := (if x.deb = a then trq x.am else 0) - (if x.cre = a then trq x.am else 0)
def itm (x : En) (a f t k : Int) : Rat := if sel x f t k = true then ent x a else 0
def balN (l : List En) (a f t k : Int) (n : Nat) : Rat := sm n fun i => itm (en l i) a f t k
def bal (l : List En) (a f t k : Int) : Rat := balN l a f t k l.length
theorem balN_succ (l : List En) (a f t k : Int) (n : Nat) : balN l a f t k (n + 1) = balN l a f t k n + itm (en l n) a f t k := rfl
theorem sm_lin2 (f g : Nat → Rat) (n : Nat) : sm n (fun i => f i - g i) = sm n f - sm n g := by
 induction n with
 | zero =>
  show (0 : Rat) = 0 - 0
  grind
 | succ n ih =>
  rw [sm_succ, sm_succ, sm_succ, ih]
  grind
/-- The sum of one value that stands at one place. -/
theorem sm_at (n : Nat) (d : Int) (x : Rat) (h0 : 0 ≤ d) (h1 : d < n) : sm n (fun i => if d = (i : Int) then x else 0) = x := by
 have h := sm_one (n := n) (k := d.toNat) (f := fun i : Nat => if d = (i : Int) then x else 0) (by omega) (fun i hi hne => if_neg (by omega));rw [h, if_pos (by omega)]
/-- What an entry brings to all accounts together. -/
theorem ent_all {c : Int} {n : Nat} {x : En} (h : Rg c n x) {N : Nat} (hc : c = (N : Int)) : sm N (fun a => ent x a) = 0 := by
 unfold ent
 rw [sm_lin2, sm_at N x.deb _ h.d0 (by have := h.d1; omega), sm_at N x.cre _ h.c0 (by have := h.c1; omega)]
 grind
theorem itm_all {c : Int} {n : Nat} {x : En} (h : Rg c n x) {N : Nat} (hc : c = (N : Int)) (f t k : Int) : sm N (fun a => itm x a f t k) = 0 := by
 unfold itm
 split
 ·exact ent_all h hc
 ·exact sm_nil N
theorem bal_all {c : Int} {l : List En} (h : Ok44 c l) {N : Nat} (hc : c = (N : Int)) (f t k : Int) : sm N (fun a => bal l a f t k) = 0 := by
 unfold bal balN
 rw [← sm_swap (fun i a => itm (en l i) a f t k)]
 exact sm_none fun i hi => itm_all (h.rg hi) hc f t k
/-- All kinds together. -/
theorem itm_kinds {c : Int} {n : Nat} {x : En} (h : Rg c n x) (a f t : Int) : sm 5 (fun k => itm x a f t ((k : Int) + 1)) = itm x a f t 0 := by
 have h1 := h.k1;have h5 := h.k5
 have hk := sm_one (n := 5) (k := (x.kd - 1).toNat) (f := fun k : Nat => itm x a f t ((k : Int) + 1)) (by omega) (fun i hi hne => by
  unfold itm sel
  rw [decide_eq_false (by omega : ¬ ((i : Int) + 1 = 0)), decide_eq_false (by omega : ¬ (x.kd = (i : Int) + 1))]
  simp)
 rw [hk]
 unfold itm sel
 rw [decide_eq_true (by omega : x.kd = (((x.kd - 1).toNat : Nat) : Int) + 1)]
 simp
theorem bal_kinds {c : Int} {l : List En} (h : Ok44 c l) (a f t : Int) : sm 5 (fun k => bal l a f t ((k : Int) + 1)) = bal l a f t 0 := by
 unfold bal balN
 rw [← sm_swap (fun i k => itm (en l i) a f t ((k : Int) + 1))]
 exact sm_congr fun i hi => itm_kinds (h.rg hi) a f t
/-- A balance of a later day. -/
theorem bal_days {c : Int} {l : List En} (h : Ok44 c l) (a : Int) {f t : Int} (hf : 0 ≤ f) (hft : f ≤ t) : bal l a 0 f 0 + bal l a (f + 1) t 0 = bal l a 0 t 0 := by
 unfold bal balN
 rw [← sm_add];refine sm_congr fun i hi => ?_;have h0 := (h.rg hi).y0
 unfold itm sel
 by_cases h1 : (en l i).day ≤ f
 ·rw [decide_eq_true (by omega : (0 : Int) ≤ (en l i).day), decide_eq_true h1, decide_eq_false (by omega : ¬ f + 1 ≤ (en l i).day), decide_eq_true (by omega : (en l i).day ≤ t)]
  simp [Rat.add_zero]
 ·rw [decide_eq_true (by omega : (0 : Int) ≤ (en l i).day), decide_eq_false h1, decide_eq_true (by omega : f + 1 ≤ (en l i).day)]
  by_cases h2 : (en l i).day ≤ t
  ·rw [decide_eq_true h2]
   simp [Rat.zero_add]
  ·rw [decide_eq_false h2]
   simp [Rat.zero_add]
theorem bal_snoc (l : List En) (x : En) (a f t k : Int) : bal (l ++ [x]) a f t k = bal l a f t k + itm x a f t k := by
 unfold bal
 rw [List.length_append, List.length_singleton, balN_succ]
 have h1 : balN (l ++ [x]) a f t k l.length = balN l a f t k l.length := sm_congr fun i hi => by rw [en_snoc, if_pos hi]
 rw [h1, en_snoc, if_neg (by omega), if_pos rfl]
/-- One more entry. -/
theorem okE_snoc {c : Int} {l : List En} {x : En} {k : Nat} (hk : k < l.length) : okE c (l ++ [x]) k = okE c l k := by
 unfold okE
 rw [en_snoc, if_pos hk, en_snoc (k := k - 1), if_pos (by omega), List.take_append_of_le_length (by omega)]
theorem Ok44.snoc {c : Int} {l : List En} (h : Ok44 c l) {x : En} (hl : l.length < 4000) (hr : Rg c l.length x) (hd : 0 < l.length → (en l (l.length - 1)).day ≤ x.day) (hu : x.kd = 4 → undoes l x = true) : Ok44 c (l ++ [x]) := by
 refine ⟨h.c1, h.c100, by rw [List.length_append, List.length_singleton]; omega, fun k hk => ?_⟩;rw [List.length_append, List.length_singleton] at hk
 rcases Nat.lt_or_ge k l.length with h1 | h1
 ·rw [okE_snoc h1]
  exact h.all k h1
 ·obtain rfl : k = l.length := by omega
  have e1 : en (l ++ [x]) l.length = x := by rw [en_snoc, if_neg (by omega), if_pos rfl]
  unfold okE
  rw [e1, rgt_t.2 hr, List.take_left']
  ·have e2 : (decide (0 < l.length) && decide (x.day < (en (l ++ [x]) (l.length - 1)).day)) = false := by
    rcases Nat.eq_zero_or_pos l.length with h2 | h2
    ·rw [decide_eq_false (by omega)]
     rfl
    ·have h3 := hd h2
     rw [en_snoc, if_pos (by omega), decide_eq_false (by omega : ¬ x.day < (en l (l.length - 1)).day), Bool.and_false]
   rw [e2]
   by_cases h4 : x.kd = 4
   ·rw [if_pos h4, hu h4]
    rfl
   ·rw [if_neg h4]
    rfl
  ·rfl
end Go.Proofs.YtffgfkcljcollaaDoor
namespace Go.Proofs.YtffgfkcljcollaaDoor
open Go.RowKit
theorem opp_rg {c : Int} {l : List En} (h : Ok44 c l) {k : Nat} (hk : k < l.length) {day : Int} (h0 : 0 ≤ day) (h1 : day ≤ 14609) : Rg c l.length (opp (en l k) k day) := by
 have r := h.rg hk
 exact ⟨r.c0, r.c1, r.d0, r.d1, fun h9 => r.ne h9.symm, h0, h1, r.ng, r.nz, r.vl, by show (1 : Int) ≤ 4; omega, by show (4 : Int) ≤ 5; omega, r.p0, r.p4, by
  show if (4 : Int) = 4 then (0 : Int) ≤ (k : Int) ∧ (k : Int) < l.length else _
  rw [if_pos rfl]
  omega⟩
theorem opp_undoes {l : List En} {k : Nat} {day : Int} (hu : und l k = false) : undoes l (opp (en l k) k day) = true := by
 unfold undoes
 have h1 : (opp (en l k) k day).rf = (k : Int) := rfl;rw [h1, hu, Int.toNat_natCast]
 simp [opp]
theorem Ok44.rev {c : Int} {l : List En} (h : Ok44 c l) {k : Nat} (hk : k < l.length) (hl : l.length < 4000) {day : Int} (h0 : 0 ≤ day) (h1 : day ≤ 14609) (hd : (en l (l.length - 1)).day ≤ day) (hu : und l k = false) : Ok44 c (l ++ [opp (en l k) k day]) :=
 h.snoc hl (opp_rg h hk h0 h1) (fun _ => hd) (fun _ => opp_undoes hu)
theorem und_rev (l : List En) (k : Nat) (day : Int) : und (l ++ [opp (en l k) k day]) k = true := by
 rw [und_snoc]
 simp [opp]
theorem ent_opp (y : En) (k day a : Int) : ent (opp y k day) a = -ent y a := by
 unfold ent opp
 simp only
 grind
theorem sel_day {x : En} {t : Int} (h0 : 0 ≤ x.day) (h1 : x.day ≤ t) : sel x 0 t 0 = true := by
 unfold sel
 rw [decide_eq_true h0, decide_eq_true h1]
 rfl
theorem sel_late {x : En} {f t k : Int} (h1 : t < x.day) : sel x f t k = false := by
 unfold sel
 rw [decide_eq_false (by omega : ¬ x.day ≤ t)]
 simp
/-- The balances behind an entry that undoes another one: on its day .. -/
theorem bal_rev (l : List En) (k : Nat) {day : Int} (h0 : 0 ≤ day) (a : Int) : bal (l ++ [opp (en l k) k day]) a 0 day 0 = bal l a 0 day 0 - ent (en l k) a := by
 rw [bal_snoc]
 unfold itm
 rw [if_pos (show sel (opp (en l k) k day) 0 day 0 = true from sel_day (x := opp (en l k) k day) h0 (Int.le_refl _)), ent_opp]
 grind
/-- .. and ahead of it. -/
theorem bal_ahead (l : List En) (x : En) {t : Int} (h : t < x.day) (a f k : Int) : bal (l ++ [x]) a f t k = bal l a f t k := by
 rw [bal_snoc]
 unfold itm
 rw [sel_late h]
 simp [Rat.add_zero]
theorem ent_deb {x : En} (h : x.deb ≠ x.cre) : ent x x.deb = trq x.am := by
 unfold ent
 rw [if_pos rfl, if_neg (fun h9 => h h9.symm)]
 grind
theorem ent_cre {x : En} (h : x.deb ≠ x.cre) : ent x x.cre = -trq x.am := by
 unfold ent
 rw [if_pos rfl, if_neg h]
 grind
theorem ent_no {x : En} {a : Int} (h1 : a ≠ x.deb) (h2 : a ≠ x.cre) : ent x a = 0 := by
 unfold ent
 rw [if_neg (fun h9 => h1 h9.symm), if_neg (fun h9 => h2 h9.symm)]
 grind
/-- An adjustment: day, account, against, period, amount, why. -/
structure Aj where
 day : Int
 ac : Int
 ag : Int
 pd : Int
 am : Tr
 w1 : Int
 w2 : Int
 w3 : Int
 w4 : Int
/-- The entry that is posted for it. -/
def adj (q : Aj) : En :=
 if trq q.am = 0 then ⟨q.day, q.ac, q.ag, tr 1, 3, q.pd, -1, q.w1, q.w2, q.w3, q.w4⟩
 else if trq q.am < 0 then ⟨q.day, q.ag, q.ac, tr (-trq q.am), 3, q.pd, -1, q.w1, q.w2, q.w3, q.w4⟩
 else ⟨q.day, q.ac, q.ag, q.am, 3, q.pd, -1, q.w1, q.w2, q.w3, q.w4⟩
theorem adj_kd (q : Aj) : (adj q).kd = 3 := by
 unfold adj
 split
 ·rfl
 ·split <;> rfl
theorem adj_day (q : Aj) : (adj q).day = q.day := by
 unfold adj
 split
 ·rfl
 ·split <;> rfl
/-- What an adjustment brings to an account. -/
def ajq (q : Aj) (a : Int) : Rat := if a = q.ac then trq q.am else if a = q.ag then -trq q.am else 0
theorem ent_adj {q : Aj} (h0 : trq q.am ≠ 0) (hne : q.ac ≠ q.ag) (a : Int) : ent (adj q) a = ajq q a := by
 have ht : ∀ x : Rat, trq (tr x) = x := trq_tr
 unfold adj ajq
 rw [if_neg h0]
 by_cases h1 : trq q.am < 0
 ·rw [if_pos h1]
  unfold ent
  simp only [ht]
  grind
 ·rw [if_neg h1]
  unfold ent
  simp only
  grind
theorem ajq_zero {q : Aj} (h0 : trq q.am = 0) (a : Int) : ajq q a = 0 := by
 unfold ajq
 rw [h0]
 split
 ·rfl
 ·split
  ·grind
  ·rfl
end Go.Proofs.YtffgfkcljcollaaDoor
