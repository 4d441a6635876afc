/-
  Plain law of seals: what a state says one after the other; liars; names; secrets.
-/
import Derived.Test.YthinopepcmidmaaDoorPl48
set_option linter.unusedSimpArgs false
set_option linter.unusedVariables false
set_option maxRecDepth 100000
set_option maxHeartbeats 1600000
namespace Go.Proofs.YthinopepcmidmaaDoor
/-- What a state says: after how many days, of which kind, and what. -/
abbrev Sd := Int × Int × List UInt8
def sdAt (l : List Sd) (k : Nat) : Sd := l.getD k (0, 0, [])
/-- The day after so many things. -/
def tlD (l : List Sd) : Nat → Int
  | 0 => 0
  | k + 1 => tlD l k + (sdAt l k).1
section
variable (mk : List UInt8 → Sl → List UInt8) (nm : Sl → List UInt8)
def tlA (who : Int) (l : List Sd) (k : Nat) : Sl := ⟨who, 0, tlD l (k + 1), 1 + (sdAt l k).2.1 % 12, (sdAt l k).2.2, z16b, z16b⟩
/-- The log after so many things. -/
def tlS (r : List (List UInt8)) (who : Int) (l : List Sd) : Nat → List Sl
  | 0 => []
  | k + 1 => tlS r who l k ++ [nxS mk nm r (tlS r who l k) (tlA who l k)]
/-- Few things, with short bodies. -/
structure SdOk (l : List Sd) : Prop where
  few : l.length ≤ 20
  day : ∀ k, k < l.length → 0 ≤ (sdAt l k).1 ∧ (sdAt l k).1 ≤ 255
  kd : ∀ k, k < l.length → 0 ≤ (sdAt l k).2.1
  bd : ∀ k, k < l.length → (sdAt l k).2.2.length ≤ 100
theorem tlD_bd {l : List Sd} (h : SdOk l) : ∀ {k : Nat}, k ≤ l.length → 0 ≤ tlD l k ∧ tlD l k ≤ 255 * (k : Int)
  | 0, _ => ⟨Int.le_refl _, by unfold tlD; omega⟩
  | k + 1, hk => by
    have ih := tlD_bd h (k := k) (by omega)
    have hd := h.day k (by omega)
    unfold tlD
    omega
structure TlOk (r : List (List UInt8)) (who : Int) (l : List Sd) (k : Nat) (o : List Sl) : Prop where
  len : o.length = k
  chn : Chn mk nm r o
  st : ∀ j, j < k → (sAt o j).st = who
  last : 0 < k → (sAt o (k - 1)).dy = tlD l k
theorem tl_next {r : List (List UInt8)} {who : Int} {l : List Sd} (hr : rckE r = 0) (h0 : 0 ≤ who) (h1 : who < (r.length : Int)) (hl : SdOk l) {k : Nat} (hk : k < l.length) {o : List Sl} (h : TlOk mk nm r who l k o) : nxE mk nm r o (tlA who l k) = 0 := by
  have hf := hl.few
  have hlen := h.len
  have hd := tlD_bd hl (k := k + 1) (by omega)
  have hd0 := hl.day k hk
  have hkd := hl.kd k hk
  have hbd := hl.bd k hk
  have hlog : lgE mk nm r o = 0 := (lg_zero mk nm).2 ⟨hr, by omega, h.chn⟩
  unfold nxE
  rw [if_neg (by simpa using hlog), if_neg (by omega), if_neg, if_neg]
  · unfold slE
    rw [if_neg (by simpa using hr), if_pos]
    unfold frm
    refine decide_eq_true ⟨h0, by show who ≤ _; omega, by show (0 : Int) ≤ (o.length : Int); omega, by show (o.length : Int) ≤ 3999; omega, hd.1, by show tlD l (k + 1) ≤ 14609; omega, by show 1 ≤ 1 + (sdAt l k).2.1 % 12; omega, by show 1 + (sdAt l k).2.1 % 12 ≤ 12; omega, by show (sdAt l k).2.2.length ≤ 4096; omega, ?_⟩
    rcases Nat.eq_zero_or_pos o.length with h9 | h9
    · refine .inr ?_
      show bfr nm o o.length = z16b
      unfold bfr
      rw [if_pos h9]
    · exact .inl (by show (0 : Int) < (o.length : Int); omega)
  · rintro ⟨h2, h3⟩
    rw [hlen, h.last (by omega)] at h3
    have h4 : tlD l (k + 1) < tlD l k := h3
    have h5 : tlD l (k + 1) = tlD l k + (sdAt l k).1 := rfl
    omega
  · rintro ⟨h2, h3⟩
    rw [h.st (o.length - 1) (by omega)] at h3
    exact h3 rfl
theorem tl_ok (hmk : ∀ k s x, mk k (s.put x) = mk k s) {r : List (List UInt8)} {who : Int} {l : List Sd} (hr : rckE r = 0) (h0 : 0 ≤ who) (h1 : who < (r.length : Int)) (hl : SdOk l) : ∀ {k : Nat}, k ≤ l.length → TlOk mk nm r who l k (tlS mk nm r who l k)
  | 0, _ => ⟨rfl, ⟨fun k h => by simp [tlS] at h, fun k h => by simp [tlS] at h, fun k h => by simp [tlS] at h, fun k h => by simp [tlS] at h, fun k h => by simp [tlS] at h⟩, fun j hj => by omega, fun h => by omega⟩
  | k + 1, hk => by
    have ih := tl_ok hmk hr h0 h1 hl (k := k) (by omega)
    have hn := tl_next mk nm hr h0 h1 hl (show k < l.length by omega) ih
    have hc := chn_next mk nm hmk hn
    have hS : nxS mk nm r (tlS mk nm r who l k) (tlA who l k) = (nxT nm (tlS mk nm r who l k) (tlA who l k)).put (mk (r.getD (tlA who l k).st.toNat []) (nxT nm (tlS mk nm r who l k) (tlA who l k))) := if_pos hn
    have hlast : sAt (tlS mk nm r who l (k + 1)) k = nxS mk nm r (tlS mk nm r who l k) (tlA who l k) := by
      have h9 := sAt_last (tlS mk nm r who l k) (nxS mk nm r (tlS mk nm r who l k) (tlA who l k))
      rw [ih.len] at h9
      exact h9
    refine ⟨?_, hc.1, fun j hj => ?_, fun _ => ?_⟩
    · show (tlS mk nm r who l k ++ [_]).length = k + 1
      rw [List.length_append, ih.len]
      rfl
    · rcases Nat.lt_or_ge j k with h9 | h9
      · show (sAt (tlS mk nm r who l k ++ [_]) j).st = who
        rw [sAt_app (by rw [ih.len]; exact h9)]
        exact ih.st j h9
      · rw [show j = k by omega, hlast, hS]
        rfl
    · rw [show k + 1 - 1 = k by omega, hlast, hS]
      rfl
section
variable {r : List (List UInt8)} {a b : List Sl} (ha : Chn mk nm r a) (hb : Chn mk nm r b) (hst : ∀ i j, i < a.length → j < b.length → (sAt a i).st = (sAt b j).st)
include ha hb hst
/-- Two statements with different numbers. -/
theorem ctr_gap {i j : Nat} (hi : i < a.length) (hj : j < b.length) (hij : i < j) : ctr mk nm r (sAt a i) (sAt b j) = if i + 1 = j ∧ (sAt b j).pv ≠ nm (sAt a i) then 2 else if (sAt b j).dy < (sAt a i).dy then 3 else 0 := by
  have h1 := ha.sq i hi
  have h2 := hb.sq j hj
  unfold ctr
  rw [if_neg (by omega)]
  unfold ctO
  rw [if_neg, if_neg (by omega)]
  · by_cases h5 : i + 1 = j ∧ (sAt b j).pv ≠ nm (sAt a i)
    · rw [if_pos ⟨by omega, h5.2⟩, if_pos h5]
    · rw [if_neg (fun h9 => h5 ⟨by omega, h9.2⟩), if_neg h5]
  · rintro (h5 | h5 | h5 | h5)
    · rw [ha.rgt i hi] at h5
      cases h5
    · rw [hb.rgt j hj] at h5
      cases h5
    · exact h5 (hst i j hi hj)
    · rw [h5] at h1
      omega
/-- Two statements with one number. -/
theorem ctr_one {i : Nat} (hi : i < a.length) (hj : i < b.length) : ctr mk nm r (sAt a i) (sAt b i) = if sAt a i = sAt b i then 0 else 1 := by
  have h1 := ha.sq i hi
  have h2 := hb.sq i hj
  unfold ctr
  rw [if_neg (by omega)]
  unfold ctO
  by_cases h5 : sAt a i = sAt b i
  · rw [if_pos (.inr (.inr (.inr h5))), if_pos h5]
  · rw [if_neg, if_pos (by omega), if_neg h5]
    rintro (h6 | h6 | h6 | h6)
    · rw [ha.rgt i hi] at h6
      cases h6
    · rw [hb.rgt i hj] at h6
      cases h6
    · exact h6 (hst i i hi hj)
    · exact h5 h6
theorem ctr_lowA {i j : Nat} (hj : j < b.length) (h : i < cmn a b) : ctr mk nm r (sAt a i) (sAt b j) = 0 := by
  have _ := ha
  have _ := hst
  rw [cmn_low a b i h]
  exact ctr_own mk nm hb (by have := cmn_le a b; omega) hj
theorem ctr_lowB {i j : Nat} (hi : i < a.length) (h : j < cmn a b) : ctr mk nm r (sAt a i) (sAt b j) = 0 := by
  have _ := hb
  have _ := hst
  rw [← cmn_low a b j h]
  exact ctr_own mk nm ha hi (by have := cmn_le a b; omega)
/-- Equal statements behind the first ones that differ. -/
theorem name_before {i : Nat} (hi : i < a.length) (hj : i < b.length) (hn : cmn a b ≤ i) (he : sAt a i = sAt b i) : 0 < i ∧ nm (sAt a (i - 1)) = nm (sAt b (i - 1)) := by
  have _ := hst
  have h0 : 0 < i := by
    rcases Nat.eq_zero_or_pos i with h9 | h9
    · have h8 : cmn a b = 0 := by omega
      have h7 := cmn_at a b (by omega) (by omega)
      rw [h8, ← h9] at h7
      exact absurd he h7
    · exact h9
  have h1 := ha.pv i hi
  have h2 := hb.pv i hj
  rw [he, h2] at h1
  unfold bfr at h1
  rw [if_neg (by omega), if_neg (by omega)] at h1
  exact ⟨h0, h1.symm⟩
end
end
end Go.Proofs.YthinopepcmidmaaDoor
