/-
  What Parse hands back, in plain Lean.
-/
import Derived.Test.YtchhlgcakjjncaaDoorPl05c
set_option linter.unusedSimpArgs false
set_option linter.unusedVariables false
namespace Go.Proofs.YtchhlgcakjjncaaDoor

/-- The sign at the beginning of a text, and what follows it. -/
def ngS (s : List UInt8) : Bool := decide (0 < s.length ∧ (s.getD 0 0).toNat = 45)
def r0S (s : List UInt8) : List UInt8 := if ngS s = true then s.drop 1 else s
/-- The denominator that the text tells. -/
def denOk (r : List UInt8) (D : Nat) : Prop := if slash r = r.length then D = 1 else pok (r.drop (slash r + 1)) = true ∧ D = dval (r.drop (slash r + 1)) ∧ 0 < D
theorem front_of {y : Rat} {s : List UInt8} (h : rtx y = s) : ngS s = rN y ∧ r0S s = rtb y := by
  subst h
  have hn : ngS (rtx y) = rN y := by
    unfold ngS
    rw [rtx_eq]
    rcases hy : rN y with _ | _
    · rw [if_neg (by decide), List.nil_append]
      exact decide_eq_false (fun h => rtb_first y h.2)
    · rw [if_pos rfl]
      exact decide_eq_true ⟨by simp, rfl⟩
  refine ⟨hn, ?_⟩
  unfold r0S
  rw [hn, rtx_eq]
  rcases hy : rN y with _ | _
  · rw [if_neg (by decide), if_neg (by decide), List.nil_append]
  · rw [if_pos rfl, if_pos rfl]
    rfl
theorem den_of (y : Rat) : denOk (rtb y) y.den := by
  unfold denOk
  by_cases h : y.den = 1
  · rw [if_pos ((rtb_whole y).2 h)]
    exact h
  · rw [if_neg (fun h1 => h ((rtb_whole y).1 h1)), rtb_den y h]
    exact ⟨pok_txt _, (dval_txt _).symm, Nat.pos_of_ne_zero y.den_nz⟩
theorem denOk_pos {r : List UInt8} {D : Nat} (h : denOk r D) : 0 < D := by
  unfold denOk at h
  split at h
  · omega
  · exact h.2.2
theorem denOk_inj {r : List UInt8} {D E : Nat} (h : denOk r D) (h' : denOk r E) : D = E := by
  unfold denOk at h h'
  split at h
  · rename_i h1
    rw [if_pos h1] at h'
    omega
  · rename_i h1
    rw [if_neg h1] at h'
    omega
/-- The number that a text tells, if it tells one: it is told by its parts. -/
theorem told_by {y : Rat} {s : List UInt8} {D : Nat} (h : rtx y = s) (hD : denOk (r0S s) D) : pok ((r0S s).take (slash (r0S s))) = true ∧ mkRat (sg (ngS s) (dval ((r0S s).take (slash (r0S s))))) D = y := by
  obtain ⟨h1, h2⟩ := front_of h
  rw [h2] at hD ⊢
  rw [h1, rtb_num, dval_txt, denOk_inj hD (den_of y)]
  exact ⟨pok_txt _, rb_mk y⟩
theorem told_den {y : Rat} {s : List UInt8} (h : rtx y = s) (hs : slash (r0S s) ≠ (r0S s).length) : pok ((r0S s).drop (slash (r0S s) + 1)) = true ∧ 0 < dval ((r0S s).drop (slash (r0S s) + 1)) := by
  obtain ⟨_, h2⟩ := front_of h
  have := den_of y
  rw [← h2] at this
  unfold denOk at this
  rw [if_neg hs] at this
  exact ⟨this.1, by omega⟩
/-- The text's number, if there is one. -/
noncomputable def parO (s : List UInt8) : Option Rat := open Classical in if h : ∃ y, rtx y = s then some h.choose else none
theorem parO_some {s : List UInt8} {y : Rat} (h : rtx y = s) : parO s = some y := by
  unfold parO
  rw [dif_pos ⟨y, h⟩]
  exact congrArg some (rtx_inj ((Exists.choose_spec (p := fun y => rtx y = s) ⟨y, h⟩).trans h.symm))
theorem parO_none {s : List UInt8} (h : ∀ y, rtx y ≠ s) : parO s = none := by
  unfold parO
  rw [dif_neg (fun ⟨y, h1⟩ => h y h1)]
theorem parO_text {s : List UInt8} {y : Rat} (h : parO s = some y) : rtx y = s := by
  unfold parO at h
  split at h
  · rename_i h1
    injection h with h
    rw [← h]
    exact h1.choose_spec
  · cases h
end Go.Proofs.YtchhlgcakjjncaaDoor
