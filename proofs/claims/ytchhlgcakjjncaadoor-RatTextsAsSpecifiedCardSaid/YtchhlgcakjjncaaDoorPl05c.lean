/-
  Texts of rational numbers are read back, in plain Lean.
-/
import Derived.Test.YtchhlgcakjjncaaDoorPl05b
import Derived.Test.YtchhlgcakjjncaaDoorMH
set_option linter.unusedSimpArgs false
set_option linter.unusedVariables false
namespace Go.Proofs.YtchhlgcakjjncaaDoor

/-- The place of the first '/', the length if there is none. -/
def slash : List UInt8 → Nat
  | [] => 0
  | c :: l => if c.toNat = 47 then 0 else slash l + 1
theorem slash_le : ∀ l, slash l ≤ l.length
  | [] => Nat.le_refl _
  | c :: l => by
    unfold slash
    split
    · omega
    · have := slash_le l
      rw [List.length_cons]
      omega
theorem slash_none : ∀ {l : List UInt8}, isd l = true → slash l = l.length
  | [], _ => rfl
  | c :: l, h => by
    unfold isd at h
    rw [List.all_cons, Bool.and_eq_true, decide_eq_true_eq] at h
    unfold slash
    rw [if_neg (by omega), slash_none (l := l) h.2]
    rfl
theorem slash_app : ∀ {l : List UInt8} (m : List UInt8), isd l = true → slash (l ++ 47 :: m) = l.length
  | [], _, _ => rfl
  | c :: l, m, h => by
    unfold isd at h
    rw [List.all_cons, Bool.and_eq_true, decide_eq_true_eq] at h
    show slash (c :: (l ++ 47 :: m)) = _
    unfold slash
    rw [if_neg (by omega), slash_app (l := l) m h.2]
    rfl
theorem slash_at : ∀ {l : List UInt8}, slash l < l.length → (l.getD (slash l) 0).toNat = 47
  | [], h => by simp at h
  | c :: l, h => by
    unfold slash at h ⊢
    split at h
    · rename_i hc
      rw [if_pos hc]
      exact hc
    · rename_i hc
      rw [if_neg hc]
      rw [List.length_cons] at h
      have := slash_at (l := l) (by omega)
      simpa [List.getD] using this
theorem slash_before : ∀ {l : List UInt8} {k : Nat}, k < slash l → ¬ (l.getD k 0).toNat = 47
  | [], k, h => by simp [slash] at h
  | c :: l, k, h => by
    unfold slash at h
    split at h
    · omega
    · rename_i hc
      cases k with
      | zero => simpa [List.getD] using hc
      | succ k =>
        have := slash_before (l := l) (k := k) (by omega)
        simpa [List.getD] using this
theorem slash_eq {l : List UInt8} {k : Nat} (hk : k < l.length) (h1 : (l.getD k 0).toNat = 47) (h2 : ∀ j, j < k → ¬ (l.getD j 0).toNat = 47) : slash l = k := by
  rcases Nat.lt_trichotomy (slash l) k with h | h | h
  · exact absurd (slash_at (by omega)) (h2 _ h)
  · exact h
  · exact absurd h1 (slash_before h)
theorem slash_end {l : List UInt8} (h2 : ∀ j, j < l.length → ¬ (l.getD j 0).toNat = 47) : slash l = l.length := by
  rcases Nat.lt_or_ge (slash l) l.length with h | h
  · exact absurd (slash_at h) (h2 _ h)
  · have := slash_le l
    omega
/-- The text behind the sign. -/
def rtb (x : Rat) : List UInt8 := txt x.num.natAbs ++ (if x.den = 1 then [] else 47 :: txt x.den)
theorem rtx_eq (x : Rat) : rtx x = (if rN x = true then [45] else []) ++ rtb x := rfl
theorem txt_first (n : Nat) : 48 ≤ ((txt n).getD 0 0).toNat ∧ ((txt n).getD 0 0).toNat ≤ 57 := by
  have h := isd_txt n
  have hp := txt_pos n
  cases hq : txt n with
  | nil => rw [hq] at hp; exact absurd hp (by decide)
  | cons c r =>
    rw [hq] at h
    unfold isd at h
    rw [List.all_cons, Bool.and_eq_true, decide_eq_true_eq] at h
    exact h.1
theorem rtb_first (x : Rat) : ¬ ((rtb x).getD 0 0).toNat = 45 := by
  have h := txt_first x.num.natAbs
  have hp := txt_pos x.num.natAbs
  unfold rtb
  cases hq : txt x.num.natAbs with
  | nil => rw [hq] at hp; exact absurd hp (by decide)
  | cons c r =>
    rw [hq] at h
    have : ((c :: r ++ (if x.den = 1 then [] else 47 :: txt x.den)).getD 0 0) = c := rfl
    rw [this]
    have h2 : ((c :: r).getD 0 0) = c := rfl
    rw [h2] at h
    omega
theorem rtb_pos (x : Rat) : 0 < (rtb x).length := by
  unfold rtb
  rw [List.length_append]
  have := txt_pos x.num.natAbs
  omega
theorem rtb_slash (x : Rat) : slash (rtb x) = (txt x.num.natAbs).length := by
  unfold rtb
  by_cases h : x.den = 1
  · rw [if_pos h, List.append_nil]
    exact slash_none (isd_txt _)
  · rw [if_neg h]
    exact slash_app _ (isd_txt _)
theorem rtb_num (x : Rat) : (rtb x).take (slash (rtb x)) = txt x.num.natAbs := by
  rw [rtb_slash]
  unfold rtb
  exact List.take_left' rfl
theorem rtb_whole (x : Rat) : slash (rtb x) = (rtb x).length ↔ x.den = 1 := by
  rw [rtb_slash]
  unfold rtb
  rw [List.length_append]
  by_cases h : x.den = 1
  · rw [if_pos h]
    simp [h]
  · rw [if_neg h, List.length_cons]
    simp [h]
theorem rtb_den (x : Rat) (h : ¬ x.den = 1) : (rtb x).drop (slash (rtb x) + 1) = txt x.den := by
  rw [rtb_slash]
  unfold rtb
  rw [if_neg h, ← List.drop_drop, List.drop_left' rfl]
  rfl
theorem rtb_inj {x y : Rat} (h : rtb x = rtb y) : x.num.natAbs = y.num.natAbs ∧ x.den = y.den := by
  have h1 : x.num.natAbs = y.num.natAbs := by rw [← dval_txt x.num.natAbs, ← rtb_num x, h, rtb_num, dval_txt]
  refine ⟨h1, ?_⟩
  have h2 := rtb_whole x
  have h3 := rtb_whole y
  rw [h] at h2
  by_cases hx : x.den = 1
  · rw [hx, h3.1 (h2.2 hx)]
  · have hy : ¬ y.den = 1 := fun h4 => hx (h2.1 (h3.2 h4))
    rw [← dval_txt x.den, ← rtb_den x hx, h, rtb_den y hy, dval_txt]
theorem rtx_inj {x y : Rat} (h : rtx x = rtx y) : x = y := by
  have hxy : rN x = rN y ∧ rtb x = rtb y := by
    rw [rtx_eq, rtx_eq] at h
    have fx := rtb_first x
    have fy := rtb_first y
    rcases hx : rN x with _ | _ <;> rcases hy : rN y with _ | _ <;> rw [hx, hy] at h
    · exact ⟨rfl, by simpa using h⟩
    · exfalso
      simp only [Bool.false_eq_true, if_false, if_true, List.nil_append, List.cons_append] at h
      rw [h] at fx
      exact fx rfl
    · exfalso
      simp only [Bool.false_eq_true, if_false, if_true, List.nil_append, List.cons_append] at h
      rw [← h] at fy
      exact fy rfl
    · exact ⟨rfl, by simpa using h⟩
  obtain ⟨h1, h2⟩ := rtb_inj hxy.2
  rw [← rb_mk x, ← rb_mk y, hxy.1, h1, h2]
end Go.Proofs.YtchhlgcakjjncaaDoor
