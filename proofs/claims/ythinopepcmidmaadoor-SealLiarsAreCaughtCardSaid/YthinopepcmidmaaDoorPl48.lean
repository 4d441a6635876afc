/-
  Plain law of seals: what the functions of the package compute, whatever the keyed hash and the names are.
-/
import Derived.Test.YthinopepcmidmaaDoorMA
set_option linter.unusedSimpArgs false
set_option linter.unusedVariables false
set_option maxRecDepth 100000
set_option maxHeartbeats 1600000
namespace Go.Proofs.YthinopepcmidmaaDoor
/-- A statement. -/
structure Sl where
  st : Int
  sq : Int
  dy : Int
  kd : Int
  bd : List UInt8
  pv : List UInt8
  sl : List UInt8
theorem Sl.eq_iff {a b : Sl} : (a.st = b.st ∧ a.sq = b.sq ∧ a.dy = b.dy ∧ a.kd = b.kd ∧ a.bd = b.bd ∧ a.pv = b.pv ∧ a.sl = b.sl) ↔ a = b := by
  constructor
  · cases a
    cases b
    rintro ⟨h1, h2, h3, h4, h5, h6, h7⟩
    simp only at h1 h2 h3 h4 h5 h6 h7
    subst h1 h2 h3 h4 h5 h6 h7
    rfl
  · rintro rfl
    exact ⟨rfl, rfl, rfl, rfl, rfl, rfl, rfl⟩
instance : DecidableEq Sl := fun a b => decidable_of_iff _ (Sl.eq_iff (a := a) (b := b))
def z16b : List UInt8 := List.replicate 16 0
/-- No statement. -/
def sl0 : Sl := ⟨0, 0, 0, 0, [], z16b, z16b⟩
instance : Inhabited Sl := ⟨sl0⟩
def sAt (l : List Sl) (k : Nat) : Sl := l.getD k sl0
theorem sAt_get {l : List Sl} {k : Nat} (h : k < l.length) : sAt l k = l[k] := by
  unfold sAt
  rw [List.getD_eq_getElem?_getD, List.getElem?_eq_getElem h]
  rfl
theorem sAt_app {l m : List Sl} {k : Nat} (h : k < l.length) : sAt (l ++ m) k = sAt l k := by
  unfold sAt
  rw [List.getD_eq_getElem?_getD, List.getD_eq_getElem?_getD, List.getElem?_append_left h]
theorem sAt_last (l : List Sl) (s : Sl) : sAt (l ++ [s]) l.length = s := by
  unfold sAt
  rw [List.getD_eq_getElem?_getD]
  simp
theorem sAt_take {l : List Sl} {k n : Nat} (h : k < n) : sAt (l.take n) k = sAt l k := by
  unfold sAt
  rw [List.getD_eq_getElem?_getD, List.getD_eq_getElem?_getD, List.getElem?_take_of_lt h]
/-- The first error of a ring. -/
def rckE (r : List (List UInt8)) : Int := if r.length < 1 ∨ 8 < r.length then 2 else if r.all (fun s => decide (1 ≤ s.length ∧ s.length ≤ 64)) then 0 else 1
/-- Whether a statement is well-formed. -/
def frm (r : List (List UInt8)) (s : Sl) : Bool :=
  decide (0 ≤ s.st ∧ s.st ≤ (r.length : Int) - 1 ∧ 0 ≤ s.sq ∧ s.sq ≤ 3999 ∧ 0 ≤ s.dy ∧ s.dy ≤ 14609 ∧ 1 ≤ s.kd ∧ s.kd ≤ 12 ∧ s.bd.length ≤ 4096 ∧ (0 < s.sq ∨ s.pv = z16b))
def Sl.put (s : Sl) (x : List UInt8) : Sl := ⟨s.st, s.sq, s.dy, s.kd, s.bd, s.pv, x⟩
theorem frm_put (r : List (List UInt8)) (s : Sl) (x : List UInt8) : frm r (s.put x) = frm r s := rfl
theorem put_eq {s : Sl} {x : List UInt8} : s.put x = s ↔ s.sl = x := by
  constructor
  · intro h
    have := congrArg Sl.sl h
    exact this.symm
  · rintro rfl
    rfl
section
variable (mk : List UInt8 → Sl → List UInt8) (nm : Sl → List UInt8)
/-- Seal: the statement and the error. -/
def slE (r : List (List UInt8)) (s : Sl) : Int := if rckE r ≠ 0 then rckE r else if frm r s = true then 0 else 3
def slS (r : List (List UInt8)) (s : Sl) : Sl := if slE r s = 0 then s.put (mk (r.getD s.st.toNat []) s) else sl0
def rgt (r : List (List UInt8)) (s : Sl) : Bool := decide (slE r s = 0 ∧ slS mk r s = s)
theorem rgt_iff {r : List (List UInt8)} {s : Sl} : rgt mk r s = true ↔ rckE r = 0 ∧ frm r s = true ∧ s.sl = mk (r.getD s.st.toNat []) s := by
  unfold rgt slS
  rw [decide_eq_true_eq]
  constructor
  · rintro ⟨h1, h2⟩
    rw [if_pos h1, put_eq] at h2
    unfold slE at h1
    split at h1
    · rename_i h3
      exact absurd h1 h3
    · rename_i h3
      split at h1
      · rename_i h4
        exact ⟨by simpa using h3, h4, h2⟩
      · cases h1
  · rintro ⟨h1, h2, h3⟩
    have h4 : slE r s = 0 := by
      unfold slE
      rw [if_neg (by simpa using h1), if_pos h2]
    refine ⟨h4, ?_⟩
    rw [if_pos h4, put_eq]
    exact h3
/-- The name that a statement of a log must carry. -/
def bfr (l : List Sl) (k : Nat) : List UInt8 := if k = 0 then z16b else nm (sAt l (k - 1))
/-- The error of a statement of a log. -/
def lgP (r : List (List UInt8)) (l : List Sl) (k : Nat) : Int :=
  if rgt mk r (sAt l k) = false then 16 else if (sAt l k).st ≠ (sAt l 0).st ∨ (sAt l k).sq ≠ (k : Int) then 1 else if (sAt l k).pv ≠ bfr nm l k then 23 else if 0 < k ∧ (sAt l k).dy < (sAt l (k - 1)).dy then 4 else 0
def lgF (r : List (List UInt8)) (l : List Sl) : Nat → Int
  | 0 => 0
  | k + 1 => if lgF r l k = 0 then lgP mk nm r l k else lgF r l k
/-- The first error of a log. -/
def lgE (r : List (List UInt8)) (l : List Sl) : Int := if rckE r ≠ 0 then rckE r else if 4000 < l.length then 2 else lgF mk nm r l l.length
theorem lgF_ok {r : List (List UInt8)} {l : List Sl} : ∀ {k : Nat}, (∀ j, j < k → lgP mk nm r l j = 0) → lgF mk nm r l k = 0
  | 0, _ => rfl
  | k + 1, h => by
    unfold lgF
    rw [if_pos (lgF_ok fun j hj => h j (by omega))]
    exact h k (by omega)
theorem lgF_zero {r : List (List UInt8)} {l : List Sl} : ∀ {k : Nat}, lgF mk nm r l k = 0 → ∀ j, j < k → lgP mk nm r l j = 0
  | 0, _, j, hj => by omega
  | k + 1, h, j, hj => by
    unfold lgF at h
    split at h
    · rename_i h1
      rcases Nat.lt_or_ge j k with h2 | h2
      · exact lgF_zero h1 j h2
      · rw [show j = k by omega]
        exact h
    · rename_i h1
      exact absurd h h1
theorem lgF_bad {r : List (List UInt8)} {l : List Sl} {j : Nat} (hj : lgF mk nm r l j ≠ 0) : ∀ {k : Nat}, j ≤ k → lgF mk nm r l k = lgF mk nm r l j
  | 0, h => by rw [show j = 0 by omega]
  | k + 1, h => by
    rcases Nat.lt_or_ge j (k + 1) with h1 | h1
    · have ih := lgF_bad hj (k := k) (by omega)
      show (if lgF mk nm r l k = 0 then lgP mk nm r l k else lgF mk nm r l k) = lgF mk nm r l j
      rw [if_neg (by rw [ih]; exact hj), ih]
    · have h2 : j = k + 1 := by omega
      subst h2
      rfl
theorem lg_bad {r : List (List UInt8)} {l : List Sl} {k : Nat} {e : Int} (hr : rckE r = 0) (h2 : l.length ≤ 4000) (h0 : ∀ j, j < k → lgP mk nm r l j = 0) (he : lgP mk nm r l k = e) (hne : e ≠ 0) (hk : k < l.length) : lgE mk nm r l = e := by
  unfold lgE
  rw [if_neg (by simpa using hr), if_neg (by omega)]
  have h3 : lgF mk nm r l (k + 1) = e := by
    unfold lgF
    rw [if_pos (lgF_ok mk nm h0)]
    exact he
  rw [lgF_bad mk nm (j := k + 1) (by rw [h3]; exact hne) (by omega), h3]
/-- A log without an error. -/
structure Chn (r : List (List UInt8)) (l : List Sl) : Prop where
  rgt : ∀ k, k < l.length → rgt mk r (sAt l k) = true
  st : ∀ k, k < l.length → (sAt l k).st = (sAt l 0).st
  sq : ∀ k : Nat, k < l.length → (sAt l k).sq = (k : Int)
  pv : ∀ k, k < l.length → (sAt l k).pv = bfr nm l k
  dy : ∀ k, k < l.length → 0 < k → (sAt l (k - 1)).dy ≤ (sAt l k).dy
theorem lgP_zero {r : List (List UInt8)} {l : List Sl} {k : Nat} : lgP mk nm r l k = 0 ↔ Go.Proofs.YthinopepcmidmaaDoor.rgt mk r (sAt l k) = true ∧ (sAt l k).st = (sAt l 0).st ∧ (sAt l k).sq = (k : Int) ∧ (sAt l k).pv = bfr nm l k ∧ (0 < k → (sAt l (k - 1)).dy ≤ (sAt l k).dy) := by
  unfold lgP
  constructor
  · intro h
    split at h
    · cases h
    · rename_i h1
      split at h
      · cases h
      · rename_i h2
        split at h
        · cases h
        · rename_i h3
          split at h
          · cases h
          · rename_i h4
            refine ⟨by simpa using h1, ?_, ?_, ?_, fun h5 => ?_⟩
            · exact Decidable.byContradiction fun h9 => h2 (.inl h9)
            · exact Decidable.byContradiction fun h9 => h2 (.inr h9)
            · exact Decidable.byContradiction fun h9 => h3 h9
            · exact Int.not_lt.1 fun h9 => h4 ⟨h5, h9⟩
  · rintro ⟨h1, h2, h3, h4, h5⟩
    rw [if_neg (by rw [h1]; decide), if_neg (by rintro (h9 | h9); exact h9 h2; exact h9 h3), if_neg (fun h9 => h9 h4), if_neg]
    rintro ⟨h6, h7⟩
    have := h5 h6
    omega
theorem lg_zero {r : List (List UInt8)} {l : List Sl} : lgE mk nm r l = 0 ↔ rckE r = 0 ∧ l.length ≤ 4000 ∧ Chn mk nm r l := by
  unfold lgE
  constructor
  · intro h
    split at h
    · rename_i h1
      exact absurd h h1
    · rename_i h1
      split at h
      · cases h
      · rename_i h2
        have hz := fun k hk => (lgP_zero mk nm).1 (lgF_zero mk nm h k hk)
        exact ⟨by simpa using h1, by omega, ⟨fun k hk => (hz k hk).1, fun k hk => (hz k hk).2.1, fun k hk => (hz k hk).2.2.1, fun k hk => (hz k hk).2.2.2.1, fun k hk => (hz k hk).2.2.2.2⟩⟩
  · rintro ⟨h1, h2, h3⟩
    rw [if_neg (by simpa using h1), if_neg (by omega)]
    exact lgF_ok mk nm fun k hk => (lgP_zero mk nm).2 ⟨h3.rgt k hk, h3.st k hk, h3.sq k hk, h3.pv k hk, h3.dy k hk⟩
/-- Next: the statement as it is sealed, the error, the result. -/
def nxT (l : List Sl) (s : Sl) : Sl := ⟨s.st, (l.length : Int), s.dy, s.kd, s.bd, bfr nm l l.length, s.sl⟩
def nxE (r : List (List UInt8)) (l : List Sl) (s : Sl) : Int :=
  if lgE mk nm r l ≠ 0 then lgE mk nm r l else if l.length = 4000 then 2 else if 0 < l.length ∧ s.st ≠ (sAt l (l.length - 1)).st then 1 else if 0 < l.length ∧ s.dy < (sAt l (l.length - 1)).dy then 4 else slE r (nxT nm l s)
def nxS (r : List (List UInt8)) (l : List Sl) (s : Sl) : Sl := if nxE mk nm r l s = 0 then (nxT nm l s).put (mk (r.getD s.st.toNat []) (nxT nm l s)) else sl0
/-- A log that is continued has no error. -/
theorem chn_next (hmk : ∀ k s x, mk k (s.put x) = mk k s) {r : List (List UInt8)} {l : List Sl} {s : Sl} (h : nxE mk nm r l s = 0) : Chn mk nm r (l ++ [nxS mk nm r l s]) ∧ l.length < 4000 ∧ rckE r = 0 := by
  have hS : nxS mk nm r l s = (nxT nm l s).put (mk (r.getD s.st.toNat []) (nxT nm l s)) := if_pos h
  unfold nxE at h
  split at h
  · rename_i h1
    exact absurd h h1
  · rename_i h1
    have hl := (lg_zero mk nm).1 (show lgE mk nm r l = 0 by simpa using h1)
    split at h
    · cases h
    · rename_i h2
      split at h
      · cases h
      · rename_i h3
        split at h
        · cases h
        · rename_i h4
          have hfm : frm r (nxT nm l s) = true := by
            unfold slE at h
            rw [if_neg (by simpa using hl.1)] at h
            split at h
            · rename_i h5
              exact h5
            · cases h
          have hc := hl.2.2
          have hb : ∀ k, k ≤ l.length → bfr nm (l ++ [nxS mk nm r l s]) k = bfr nm l k := fun k hk => by
            unfold bfr
            split
            · rfl
            · rw [sAt_app (by omega)]
          have h00 : 0 < l.length → sAt (l ++ [nxS mk nm r l s]) 0 = sAt l 0 := fun h9 => sAt_app h9
          have hlast := sAt_last l (nxS mk nm r l s)
          have key : ∀ k, k < (l ++ [nxS mk nm r l s]).length → k < l.length ∨ k = l.length := fun k hk => by
            rw [List.length_append] at hk
            simp at hk
            omega
          refine ⟨⟨fun k hk => ?_, fun k hk => ?_, fun k hk => ?_, fun k hk => ?_, fun k hk hk0 => ?_⟩, by omega, hl.1⟩
          · rcases key k hk with h9 | rfl
            · rw [sAt_app h9]
              exact hc.rgt k h9
            · rw [hlast, rgt_iff, hS]
              refine ⟨hl.1, by rw [frm_put]; exact hfm, ?_⟩
              rw [hmk]
              rfl
          · rcases key k hk with h9 | rfl
            · rw [sAt_app h9, h00 (by omega)]
              exact hc.st k h9
            · rcases Nat.eq_zero_or_pos l.length with h8 | h8
              · rw [h8]
              · rw [hlast, h00 h8, hS, ← hc.st (l.length - 1) (by omega)]
                exact Decidable.byContradiction fun h9 => h3 ⟨h8, h9⟩
          · rcases key k hk with h9 | rfl
            · rw [sAt_app h9]
              exact hc.sq k h9
            · rw [hlast, hS]
              rfl
          · rcases key k hk with h9 | rfl
            · rw [sAt_app h9, hb k (by omega)]
              exact hc.pv k h9
            · rw [hlast, hb _ (Nat.le_refl _), hS]
              rfl
          · rcases key k hk with h9 | rfl
            · rw [sAt_app h9, sAt_app (by omega)]
              exact hc.dy k h9 hk0
            · rw [hlast, sAt_app (by omega), hS]
              exact Int.not_lt.1 fun h9 => h4 ⟨hk0, h9⟩
/-- A beginning of a log. -/
theorem Chn.take {r : List (List UInt8)} {l : List Sl} (h : Chn mk nm r l) (n : Nat) : Chn mk nm r (l.take n) := by
  have hk : ∀ k, k < (l.take n).length → k < n ∧ k < l.length := fun k hk => by
    rw [List.length_take] at hk
    omega
  have hb : ∀ k, k < n → bfr nm (l.take n) k = bfr nm l k := fun k hk => by
    unfold bfr
    split
    · rfl
    · rw [sAt_take (by omega)]
  refine ⟨fun k h1 => ?_, fun k h1 => ?_, fun k h1 => ?_, fun k h1 => ?_, fun k h1 h0 => ?_⟩
  · rw [sAt_take (hk k h1).1]
    exact h.rgt k (hk k h1).2
  · rw [sAt_take (hk k h1).1, sAt_take (by have := hk k h1; omega)]
    exact h.st k (hk k h1).2
  · rw [sAt_take (hk k h1).1]
    exact h.sq k (hk k h1).2
  · rw [sAt_take (hk k h1).1, hb k (hk k h1).1]
    exact h.pv k (hk k h1).2
  · rw [sAt_take (hk k h1).1, sAt_take (by have := hk k h1; omega)]
    exact h.dy k (hk k h1).2 h0
/-- How two statements contradict each other. -/
def ctO (r : List (List UInt8)) (a b : Sl) : Int :=
  if rgt mk r a = false ∨ rgt mk r b = false ∨ a.st ≠ b.st ∨ a = b then 0 else if a.sq = b.sq then 1 else if a.sq + 1 = b.sq ∧ b.pv ≠ nm a then 2 else if b.dy < a.dy then 3 else 0
def ctr (r : List (List UInt8)) (a b : Sl) : Int := if b.sq < a.sq then ctO mk nm r b a else ctO mk nm r a b
/-- How many statements two lists have in common. -/
def cmn : List Sl → List Sl → Nat
  | a :: l, b :: m => if a = b then cmn l m + 1 else 0
  | _, _ => 0
def coE (r : List (List UInt8)) (a b : List Sl) : Int :=
  if lgE mk nm r a ≠ 0 then lgE mk nm r a else if lgE mk nm r b ≠ 0 then lgE mk nm r b else if 0 < a.length ∧ 0 < b.length ∧ (sAt a 0).st ≠ (sAt b 0).st then 1 else 0
def coN (r : List (List UInt8)) (a b : List Sl) : Int := if coE mk nm r a b = 0 then (cmn a b : Int) else 0
theorem ctr_comm (r : List (List UInt8)) (a b : Sl) : ctr mk nm r a b = ctr mk nm r b a := by
  unfold ctr
  by_cases h1 : b.sq < a.sq
  · rw [if_pos h1, if_neg (by omega)]
  · by_cases h2 : a.sq < b.sq
    · rw [if_neg h1, if_pos h2]
    · have h3 : a.sq = b.sq := by omega
      rw [if_neg h1, if_neg h2]
      unfold ctO
      by_cases h4 : rgt mk r a = false ∨ rgt mk r b = false ∨ a.st ≠ b.st ∨ a = b
      · rw [if_pos h4, if_pos]
        rcases h4 with h4 | h4 | h4 | h4
        · exact .inr (.inl h4)
        · exact .inl h4
        · exact .inr (.inr (.inl fun h9 => h4 h9.symm))
        · exact .inr (.inr (.inr h4.symm))
      · have h6 : ¬ (rgt mk r b = false ∨ rgt mk r a = false ∨ b.st ≠ a.st ∨ b = a) := by
          rintro (h5 | h5 | h5 | h5)
          · exact h4 (.inr (.inl h5))
          · exact h4 (.inl h5)
          · exact h4 (.inr (.inr (.inl fun h9 => h5 h9.symm)))
          · exact h4 (.inr (.inr (.inr h5.symm)))
        rw [if_neg h4, if_neg h6, if_pos h3, if_pos h3.symm]
theorem chn_day {r : List (List UInt8)} {l : List Sl} (h : Chn mk nm r l) {i : Nat} : ∀ {j : Nat}, i ≤ j → j < l.length → (sAt l i).dy ≤ (sAt l j).dy
  | 0, hij, _ => by rw [show i = 0 by omega]; exact Int.le_refl _
  | j + 1, hij, hj => by
    rcases Nat.lt_or_ge i (j + 1) with h1 | h1
    · have h2 := chn_day h (i := i) (j := j) (by omega) (by omega)
      have h3 := h.dy (j + 1) hj (by omega)
      rw [show j + 1 - 1 = j by omega] at h3
      omega
    · rw [show i = j + 1 by omega]
      exact Int.le_refl _
/-- The statements of one log do not contradict each other. -/
theorem ctr_own {r : List (List UInt8)} {l : List Sl} (h : Chn mk nm r l) {i j : Nat} (hi : i < l.length) (hj : j < l.length) : ctr mk nm r (sAt l i) (sAt l j) = 0 := by
  have key : ∀ i j, i ≤ j → j < l.length → ctO mk nm r (sAt l i) (sAt l j) = 0 := fun i j hij hj => by
    unfold ctO
    split
    · rfl
    · rename_i h1
      rcases Nat.lt_or_ge i j with h2 | h2
      · rw [if_neg (by rw [h.sq i (by omega), h.sq j hj]; omega), if_neg, if_neg]
        · have := chn_day mk nm h hij hj
          omega
        · rintro ⟨h3, h4⟩
          rw [h.sq i (by omega), h.sq j hj] at h3
          rw [h.pv j hj] at h4
          unfold bfr at h4
          rw [if_neg (by omega), show j - 1 = i by omega] at h4
          exact h4 rfl
      · rw [show i = j by omega] at h1
        exact absurd (.inr (.inr (.inr rfl))) h1
  unfold ctr
  rw [h.sq i hi, h.sq j hj]
  split
  · exact key j i (by omega) hi
  · exact key i j (by omega) hj
theorem cmn_le : ∀ (a b : List Sl), cmn a b ≤ a.length ∧ cmn a b ≤ b.length
  | [], b => by cases b <;> simp [cmn]
  | a :: l, [] => by simp [cmn]
  | a :: l, b :: m => by
    have ih := cmn_le l m
    unfold cmn
    split
    · simp only [List.length_cons]
      omega
    · simp
theorem cmn_low : ∀ (a b : List Sl) (k : Nat), k < cmn a b → sAt a k = sAt b k
  | [], b, k, h => by cases b <;> simp [cmn] at h
  | a :: l, [], k, h => by simp [cmn] at h
  | a :: l, b :: m, k, h => by
    unfold cmn at h
    split at h
    · rename_i h1
      cases k with
      | zero => exact h1
      | succ k => exact cmn_low l m k (by omega)
    · omega
theorem cmn_at : ∀ (a b : List Sl), cmn a b < a.length → cmn a b < b.length → sAt a (cmn a b) ≠ sAt b (cmn a b)
  | [], b, h, _ => by cases b <;> simp [cmn] at h
  | a :: l, [], _, h => by simp [cmn] at h
  | a :: l, b :: m, h, h' => by
    unfold cmn at h h' ⊢
    split
    · rename_i h1
      rw [if_pos h1] at h h'
      exact cmn_at l m (by simpa using h) (by simpa using h')
    · rename_i h1
      exact h1
end
end Go.Proofs.YthinopepcmidmaaDoor
