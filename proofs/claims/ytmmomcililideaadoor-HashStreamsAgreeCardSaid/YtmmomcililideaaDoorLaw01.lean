/-
  Plain laws of layer 1 (wire): encodings are decoded to what was encoded, and nothing else is. No program in sight.
-/
import Derived.Test.YtmmomcililideaaDoorPl01
set_option linter.unusedSimpArgs false
set_option linter.unusedVariables false
namespace Go.Proofs.YtmmomcililideaaDoor

theorem unzz_zz (n : Int) : unzz (zz n) = n := by
  unfold unzz zz
  split <;> split <;> omega

theorem zz_unzz (z : Nat) : zz (unzz z) = z := by
  unfold unzz zz
  split <;> split <;> omega

theorem decR_enc : ∀ (f k z : Nat) (tail : List UInt8), k + f = 9 → z < 2 * 128 ^ f → (0 < k → 0 < z) → decR k (encF f z ++ tail) = .ok (z, (encF f z).length) := by
  intro f
  induction f with
  | zero =>
    intro k z tail hk hz h0
    have : z < 2 := by simpa using hz
    have e : (UInt8.ofNat z).toNat = z := by rw [UInt8.toNat_ofNat']; omega
    simp only [encF, List.cons_append, List.nil_append, List.length_cons, List.length_nil]
    rw [decR_end (by rw [e]; omega) (by rw [e]; omega), e]
  | succ f ih =>
    intro k z tail hk hz h0
    unfold encF
    split
    · rename_i hgt
      have e : (UInt8.ofNat (z % 128 + 128)).toNat = z % 128 + 128 := by rw [UInt8.toNat_ofNat']; omega
      have ih' := ih (k + 1) (z / 128) tail (by omega) (by rw [Nat.pow_succ] at hz; omega) (fun _ => by omega)
      simp only [List.cons_append, decR, e, ih']
      rw [if_neg (by omega), if_neg (by omega)]
      simp only [List.length_cons]
      congr 2
      omega
    · rename_i hle
      have e : (UInt8.ofNat z).toNat = z := by rw [UInt8.toNat_ofNat']; omega
      simp only [List.cons_append, List.nil_append, List.length_cons, List.length_nil]
      rw [decR_end (by rw [e]; omega) (by rw [e]; omega), e]

theorem decI_enc {n : Int} (h1 : -9223372036854775808 ≤ n) (h2 : n ≤ 9223372036854775807) (tail : List UInt8) : decI (encI n ++ tail) = .ok (n, (encI n).length) := by
  unfold decI encI
  rw [decR_enc 9 0 (zz n) tail (by omega) (by have := zz_lt h1 h2; omega) (by omega)]
  show Except.ok (unzz (zz n), _) = _
  rw [unzz_zz]

/-- What is decoded is what was written. -/
theorem decR_take : ∀ (l : List UInt8) (k z u : Nat), decR k l = .ok (z, u) → k ≤ 9 → l.take u = encF (9 - k) z ∧ (0 < k → 0 < z) := by
  intro l
  induction l with
  | nil => intro k z u h; simp [decR] at h
  | cons c r ih =>
    intro k z u h hk
    have hcl := c.toNat_lt
    unfold decR at h
    split at h
    · cases h
    · rename_i hn
      split at h
      · simp at h
        obtain ⟨rfl, rfl⟩ := h
        have e : UInt8.ofNat c.toNat = c := by simp
        refine ⟨?_, by omega⟩
        rcases Nat.lt_or_ge k 9 with h9 | h9
        · rw [show 9 - k = (8 - k) + 1 by omega, encF, if_neg (by omega), e]
          simp
        · rw [show 9 - k = 0 by omega, encF, e]
          simp
      · split at h
        · cases h
        · rename_i z' u' hd
          simp at h
          obtain ⟨rfl, rfl⟩ := h
          have hk9 : k < 9 := by omega
          obtain ⟨h1, h2⟩ := ih (k + 1) z' u' hd (by omega)
          have h2 := h2 (by omega)
          refine ⟨?_, by omega⟩
          rw [List.take_succ_cons, h1, show 9 - k = (9 - (k + 1)) + 1 by omega, encF, if_pos (by omega)]
          congr 1
          · apply UInt8.toNat_inj.1
            rw [UInt8.toNat_ofNat']
            omega
          · congr 1
            omega

theorem decI_take {l : List UInt8} {n : Int} {u : Nat} (h : decI l = .ok (n, u)) : l.take u = encI n := by
  unfold decI at h
  split at h
  · cases h
  · rename_i z u' hd
    simp at h
    obtain ⟨rfl, rfl⟩ := h
    have := (decR_take l 0 z u' hd (by omega)).1
    unfold encI
    rw [zz_unzz]
    exact this

/-- A proper prefix is too short. -/
theorem decR_cut : ∀ (f k z i : Nat), k + f = 9 → z < 2 * 128 ^ f → i < (encF f z).length → decR k ((encF f z).take i) = .error 10 := by
  intro f
  induction f with
  | zero =>
    intro k z i hk hz hi
    have : i = 0 := by simp [encF] at hi; omega
    subst this
    simp [decR]
  | succ f ih =>
    intro k z i hk hz hi
    cases i with
    | zero => simp [decR]
    | succ i =>
      unfold encF at hi ⊢
      split at hi
      · rename_i hgt
        rw [if_pos hgt]
        have e : (UInt8.ofNat (z % 128 + 128)).toNat = z % 128 + 128 := by rw [UInt8.toNat_ofNat']; omega
        have ih' := ih (k + 1) (z / 128) i (by omega) (by rw [Nat.pow_succ] at hz; omega) (by simpa using hi)
        simp only [List.take_succ_cons, decR, e, ih']
        rw [if_neg (by omega), if_neg (by omega)]
      · simp at hi

theorem decI_cut {n : Int} (h1 : -9223372036854775808 ≤ n) (h2 : n ≤ 9223372036854775807) {i : Nat} (hi : i < (encI n).length) : decI ((encI n).take i) = .error 10 := by
  unfold decI encI
  rw [decR_cut 9 0 (zz n) i (by omega) (by have := zz_lt h1 h2; omega) hi]

/-! ### byte strings and lists -/

theorem lenI_enc {n m : Nat} (hn : n ≤ 9223372036854775807) (rest : List UInt8) (h : n ≤ rest.length / m) : lenI (encI n ++ rest) m = .ok (n, (encI n).length) := by
  unfold lenI
  rw [decI_enc (by omega) (by omega)]
  simp only [List.length_append, Nat.add_sub_cancel_left]
  rw [if_neg (by omega), if_neg (by omega)]
  rfl

theorem getS_enc (s tail : List UInt8) (hs : s.length ≤ 9223372036854775807) : getS (encS s ++ tail) = .ok (s, (encS s).length) := by
  unfold getS encS
  rw [List.append_assoc, lenI_enc hs (s ++ tail) (by simp)]
  simp

/-- How an element is written and read. -/
structure Codec {α : Type} (f : α → List UInt8) (one : List UInt8 → Except Int (α × Nat)) (least : Nat) (ok : α → Prop) : Prop where
  back : ∀ x tail, ok x → one (f x ++ tail) = .ok (x, (f x).length)
  long : ∀ x, ok x → least ≤ (f x).length
  cut : ∀ x i, ok x → i < (f x).length → one ((f x).take i) = .error 10
  same : ∀ b x u, one b = .ok (x, u) → b.take u = f x ∧ u ≤ b.length

theorem flat_long {α : Type} {f : α → List UInt8} {least : Nat} : ∀ (l : List α), (∀ x ∈ l, least ≤ (f x).length) → l.length * least ≤ (l.map f).flatten.length
  | [], _ => by simp
  | x :: l, h => by
    have h1 := flat_long l (fun y hy => h y (by simp [hy]))
    have h2 := h x (by simp)
    simp only [List.length_cons, Nat.succ_mul, List.map_cons, List.flatten_cons, List.length_append]
    omega

theorem getN_enc {α : Type} {f : α → List UInt8} {one : List UInt8 → Except Int (α × Nat)} {least : Nat} {ok : α → Prop} (hc : Codec f one least ok) :
    ∀ (l : List α) (tail : List UInt8), (∀ x ∈ l, ok x) → getN one l.length ((l.map f).flatten ++ tail) = .ok (l, (l.map f).flatten.length)
  | [], tail, _ => rfl
  | x :: l, tail, h => by
    have ih := getN_enc hc l tail (fun y hy => h y (by simp [hy]))
    simp only [List.length_cons, List.map_cons, List.flatten_cons, List.append_assoc, getN]
    rw [hc.back x _ (h x (by simp))]
    simp only [List.drop_left, ih, preN, List.length_append]
    rfl

theorem getL_enc {α : Type} {f : α → List UInt8} {one : List UInt8 → Except Int (α × Nat)} {least : Nat} {ok : α → Prop} (hc : Codec f one least ok) (hl0 : 0 < least) (l : List α) (tail : List UInt8)
    (h : ∀ x ∈ l, ok x) (hl : l.length ≤ 9223372036854775807) : getL one least (encL f l ++ tail) = .ok (l, (encL f l).length) := by
  unfold getL encL
  have hle : l.length ≤ ((l.map f).flatten ++ tail).length / least := by
    rw [Nat.le_div_iff_mul_le hl0, List.length_append]
    have := flat_long (f := f) (least := least) l (fun x hx => hc.long x (h x hx))
    omega
  rw [List.append_assoc, lenI_enc hl _ hle]
  simp only [List.drop_left, getN_enc hc l tail h, List.length_append]

theorem getN_cut {α : Type} {f : α → List UInt8} {one : List UInt8 → Except Int (α × Nat)} {least : Nat} {ok : α → Prop} (hc : Codec f one least ok) :
    ∀ (l : List α) (i : Nat), (∀ x ∈ l, ok x) → i < (l.map f).flatten.length → getN one l.length (((l.map f).flatten).take i) = .error 10
  | [], i, _, hi => by simp at hi
  | x :: l, i, h, hi => by
    simp only [List.length_cons, List.map_cons, List.flatten_cons, getN]
    rcases Nat.lt_or_ge i (f x).length with hlt | hge
    · rw [List.take_append_of_le_length (by omega), hc.cut x i (h x (by simp)) hlt]
    · have ih := getN_cut hc l (i - (f x).length) (fun y hy => h y (by simp [hy])) (by rw [List.map_cons, List.flatten_cons, List.length_append] at hi; omega)
      rw [List.take_append, List.take_of_length_le hge, hc.back x _ (h x (by simp))]
      simp only [List.drop_left, ih, preN]

theorem getL_cut {α : Type} {f : α → List UInt8} {one : List UInt8 → Except Int (α × Nat)} {least : Nat} {ok : α → Prop} (hc : Codec f one least ok) (l : List α) (i : Nat)
    (h : ∀ x ∈ l, ok x) (hl : l.length ≤ 9223372036854775807) (hi : i < (encL f l).length) : getL one least ((encL f l).take i) = .error 10 := by
  unfold getL lenI encL at *
  rcases Nat.lt_or_ge i (encI l.length).length with hlt | hge
  · rw [List.take_append_of_le_length (by omega), decI_cut (by omega) (by omega) hlt]
  · rw [List.take_append, List.take_of_length_le hge, decI_enc (by omega) (by omega)]
    simp only [List.length_append, Nat.add_sub_cancel_left]
    rw [if_neg (by omega)]
    split
    · rename_i hx
      split at hx
      · simp at hx; rw [hx]
      · cases hx
    · rename_i n u hx
      split at hx
      · cases hx
      · simp at hx
        obtain ⟨rfl, rfl⟩ := hx
        have := getN_cut hc l (i - (encI l.length).length) h (by rw [List.length_append] at hi; omega)
        simp only [List.drop_left, this]

theorem getN_take {α : Type} {f : α → List UInt8} {one : List UInt8 → Except Int (α × Nat)} {least : Nat} {ok : α → Prop} (hc : Codec f one least ok) :
    ∀ (n : Nat) (b : List UInt8) (l : List α) (u : Nat), getN one n b = .ok (l, u) → b.take u = (l.map f).flatten ∧ l.length = n ∧ u ≤ b.length
  | 0, b, l, u, h => by
    simp [getN] at h
    obtain ⟨rfl, rfl⟩ := h
    simp
  | n + 1, b, l, u, h => by
    simp only [getN] at h
    split at h
    · cases h
    · rename_i x v ho
      obtain ⟨h1, h2⟩ := hc.same b x v ho
      cases hg : getN one n (b.drop v) with
      | error e => rw [hg] at h; simp [preN] at h
      | ok p =>
        obtain ⟨l', u'⟩ := p
        rw [hg] at h
        simp [preN] at h
        obtain ⟨rfl, rfl⟩ := h
        obtain ⟨i1, i2, i3⟩ := getN_take hc n (b.drop v) l' u' hg
        rw [List.length_drop] at i3
        refine ⟨?_, by simp [i2], by omega⟩
        rw [List.take_add, h1, i1]
        simp

theorem getL_take {α : Type} {f : α → List UInt8} {one : List UInt8 → Except Int (α × Nat)} {least : Nat} {ok : α → Prop} (hc : Codec f one least ok) {b : List UInt8} {l : List α} {u : Nat}
    (h : getL one least b = .ok (l, u)) : b.take u = encL f l ∧ u ≤ b.length := by
  unfold getL at h
  split at h
  · cases h
  · rename_i n v hl
    split at h
    · cases h
    · rename_i l' u' hg
      simp at h
      obtain ⟨rfl, rfl⟩ := h
      obtain ⟨q1, q2, q3, q4⟩ := lenI_ok hl
      obtain ⟨i1, i2, i3⟩ := getN_take hc n (b.drop v) l' u' hg
      rw [List.length_drop] at i3
      refine ⟨?_, by omega⟩
      unfold encL
      rw [List.take_add, i1, decI_take q4, i2]

theorem codecI : Codec encI decI 1 (fun n => -9223372036854775808 ≤ n ∧ n ≤ 9223372036854775807) :=
  ⟨fun _ tail h => decI_enc h.1 h.2 tail, fun n _ => (encI_length n).1, fun _ _ h hi => decI_cut h.1 h.2 hi, fun _ _ _ h => ⟨decI_take h, (decI_ok h).2.1⟩⟩

theorem getS_take {b s : List UInt8} {u : Nat} (h : getS b = .ok (s, u)) : b.take u = encS s ∧ u ≤ b.length := by
  unfold getS at h
  split at h
  · cases h
  · rename_i n v hl
    simp at h
    obtain ⟨rfl, rfl⟩ := h
    obtain ⟨q1, q2, q3, q4⟩ := lenI_ok hl
    rw [Nat.div_one] at q3
    refine ⟨?_, by omega⟩
    unfold encS
    have e : ((b.drop v).take n).length = n := by simp; omega
    rw [List.take_add, decI_take q4, e]

theorem getS_cut {s : List UInt8} (hs : s.length ≤ 9223372036854775807) {i : Nat} (hi : i < (encS s).length) : getS ((encS s).take i) = .error 10 := by
  unfold getS lenI encS at *
  rcases Nat.lt_or_ge i (encI s.length).length with hlt | hge
  · rw [List.take_append_of_le_length (by omega), decI_cut (by omega) (by omega) hlt]
  · rw [List.take_append, List.take_of_length_le hge, decI_enc (by omega) (by omega)]
    simp only [List.length_append, Nat.add_sub_cancel_left, Nat.div_one]
    rw [if_neg (by omega), if_pos (by simp at hi ⊢; omega)]

theorem codecS : Codec encS getS 1 (fun s => s.length ≤ 9223372036854775807) :=
  ⟨fun s tail h => getS_enc s tail h, fun s _ => by have := encI_length s.length; unfold encS; simp; omega, fun _ _ h hi => getS_cut h hi, fun _ _ _ h => getS_take h⟩
end Go.Proofs.YtmmomcililideaaDoor
