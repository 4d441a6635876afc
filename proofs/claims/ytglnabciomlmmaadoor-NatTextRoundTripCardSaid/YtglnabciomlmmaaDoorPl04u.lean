/-
  Texts of numbers: they are read back, and ordered as the numbers are.
-/
import Derived.Test.YtglnabciomlmmaaDoorPl04t
import Derived.Test.YtglnabciomlmmaaDoorRcm
namespace Go.Proofs.YtglnabciomlmmaaDoor

theorem dchar {d : Nat} (h : d < 10) : (UInt8.ofNat (48 + d)).toNat = 48 + d := by rw [u8n, Nat.mod_eq_of_lt (by omega)]
theorem dval_rev : ∀ (l : List Nat), (∀ d ∈ l, d < 10) → dval (l.map fun d => UInt8.ofNat (48 + d)).reverse = lvN 10 l
  | [], _ => rfl
  | d :: l, h => by
    have hd := h d List.mem_cons_self
    rw [List.map_cons, List.reverse_cons, dval_snoc, dval_rev l (fun e he => h e (List.mem_cons_of_mem _ he)), dchar hd]
    show _ = d + 10 * lvN 10 l
    omega
theorem isd_rev : ∀ (l : List Nat), (∀ d ∈ l, d < 10) → isd (l.map fun d => UInt8.ofNat (48 + d)).reverse = true
  | [], _ => rfl
  | d :: l, h => by
    have hd := h d List.mem_cons_self
    rw [List.map_cons, List.reverse_cons, isd_snoc, isd_rev l (fun e he => h e (List.mem_cons_of_mem _ he)), dchar hd, decide_eq_true ⟨by omega, by omega⟩]
    rfl
theorem dval_txt (n : Nat) : dval (txt n) = n := by
  unfold txt
  by_cases h : n = 0
  · rw [if_pos h, h]
    rfl
  · rw [if_neg h]
    unfold txd
    rw [dval_rev _ (fun d hd => dg_digits (by omega) hd), dg_lv (by omega)]
theorem isd_txt (n : Nat) : isd (txt n) = true := by
  unfold txt
  by_cases h : n = 0
  · rw [if_pos h]
    rfl
  · rw [if_neg h]
    exact isd_rev _ (fun d hd => dg_digits (by omega) hd)
theorem txt_head {n : Nat} (h : 0 < n) : ¬ ((txt n).getD 0 0).toNat = 48 := by
  unfold txt
  rw [if_neg (by omega)]
  have hne : dg 10 n ≠ [] := fun h1 => by rw [dg_nil (by omega)] at h1; omega
  obtain ⟨d, hd⟩ : ∃ d, (dg 10 n).getLast? = some d := ⟨_, List.getLast?_eq_some_getLast hne⟩
  have htop := dg_top (B := 10) (by omega) n d hd
  have hlt := dg_digits (B := 10) (by omega) (List.mem_of_getLast? hd)
  have h1 : (txd n).reverse.head? = some (UInt8.ofNat (48 + d)) := by
    unfold txd
    rw [List.head?_reverse, List.getLast?_map, hd]
    rfl
  have h2 : (txd n).reverse.getD 0 0 = UInt8.ofNat (48 + d) := by
    rw [List.getD, ← List.head?_eq_getElem?, h1]
    rfl
  rw [h2, dchar hlt]
  omega
theorem txt_ne (n : Nat) : txt n ≠ [] := by
  unfold txt
  by_cases h : n = 0
  · rw [if_pos h]
    exact fun h => by cases h
  · rw [if_neg h]
    intro h1
    rw [List.reverse_eq_nil_iff, txd_nil] at h1
    exact h h1
theorem pok_txt (n : Nat) : pok (txt n) = true := by
  unfold pok
  rw [isd_txt, Bool.and_true]
  have h1 : (txt n).isEmpty = false := by
    cases hq : txt n with
    | nil => exact absurd hq (txt_ne n)
    | cons c r => rfl
  rw [h1, Bool.false_or]
  rcases Nat.eq_zero_or_pos n with h | h
  · subst h
    rfl
  · have h2 : (((txt n).getD 0 0).toNat == 48) = false := beq_eq_false_iff_ne.2 (txt_head h)
    rw [h2]
    rfl
theorem txt_len {n k : Nat} (hk : 0 < k) (h : n < 10 ^ k) : (txt n).length ≤ k := by
  unfold txt
  split
  · exact hk
  · rw [List.length_reverse]
    exact txd_len h
theorem lt_txt (n : Nat) : n < 10 ^ (txt n).length := by
  have := dval_lt (txt n) (isd_txt n)
  rwa [dval_txt] at this
theorem txt_pos (n : Nat) : 0 < (txt n).length := List.length_pos_iff.2 (txt_ne n)
theorem txt_mono {x y : Nat} (h : x ≤ y) : (txt x).length ≤ (txt y).length := txt_len (txt_pos y) (Nat.lt_of_le_of_lt h (lt_txt y))
theorem txt_bytes {a : List UInt8} {m : Nat} (hm : 0 < m) (h : a.length ≤ m) : (txt (val a)).length ≤ 3 * m := by
  refine txt_len (by omega) (Nat.lt_of_lt_of_le (val_lt a) ?_)
  refine Nat.le_trans (Nat.pow_le_pow_right (by omega) h) ?_
  rw [Nat.pow_mul]
  exact Nat.pow_le_pow_left (by decide) m
theorem dval_from : ∀ (l : List UInt8) (x : Nat), l.foldl (fun x c => 10 * x + (c.toNat - 48)) x = x * 10 ^ l.length + dval l
  | [], x => by simp [dval]
  | c :: l, x => by
    have e : dval (c :: l) = (c.toNat - 48) * 10 ^ l.length + dval l := by
      unfold dval
      rw [List.foldl_cons, dval_from l]
      simp [dval]
    rw [List.foldl_cons, dval_from l, e, List.length_cons, Nat.pow_succ, Nat.add_mul]
    rw [show 10 * x * 10 ^ l.length = x * (10 ^ l.length * 10) by rw [Nat.mul_comm 10 x, Nat.mul_assoc, Nat.mul_comm 10]]
    omega
theorem dval_cons (c : UInt8) (l : List UInt8) : dval (c :: l) = (c.toNat - 48) * 10 ^ l.length + dval l := by
  unfold dval
  rw [List.foldl_cons, dval_from l]
  simp [dval]
theorem bytesLess_dval : ∀ {l m : List UInt8}, l.length = m.length → isd l = true → isd m = true → Op.bytesLess l m = decide (dval l < dval m)
  | [], [], _, _, _ => rfl
  | [], _ :: _, h, _, _ => by simp at h
  | _ :: _, [], h, _, _ => by simp at h
  | a :: l, b :: m, h, hd, he => by
    have hl : l.length = m.length := by simpa using h
    unfold isd at hd he
    rw [List.all_cons, Bool.and_eq_true, decide_eq_true_eq] at hd he
    have h1 := dval_lt l hd.2
    have h2 := dval_lt m he.2
    rw [hl] at h1
    show (decide (a < b) || (a == b && Op.bytesLess l m)) = _
    rw [bytesLess_dval hl hd.2 he.2, dval_cons, dval_cons, hl]
    generalize 10 ^ m.length = E at h1 h2
    rw [Bool.eq_iff_iff]
    simp only [Bool.or_eq_true, decide_eq_true_eq, Bool.and_eq_true, beq_iff_eq]
    have e1 : (a < b) ↔ a.toNat < b.toNat := Iff.rfl
    constructor
    · rintro (h3 | ⟨rfl, h3⟩)
      · have h4 : a.toNat - 48 + 1 ≤ b.toNat - 48 := by rw [e1] at h3; omega
        have h5 := Nat.mul_le_mul_right E h4
        rw [Nat.add_mul, Nat.one_mul] at h5
        omega
      · omega
    · intro h3
      rcases Nat.lt_trichotomy a.toNat b.toNat with h4 | h4 | h4
      · exact .inl h4
      · exact .inr ⟨UInt8.toNat_inj.1 h4, by rw [h4] at h3; omega⟩
      · exfalso
        have h5 := Nat.mul_le_mul_right E (show b.toNat - 48 + 1 ≤ a.toNat - 48 by omega)
        rw [Nat.add_mul, Nat.one_mul] at h5
        omega
theorem txt_less {x y : Nat} (h : (txt x).length = (txt y).length) : Op.bytesLess (txt x) (txt y) = decide (x < y) := by
  rw [bytesLess_dval h (isd_txt x) (isd_txt y), dval_txt, dval_txt]
end Go.Proofs.YtglnabciomlmmaaDoor
