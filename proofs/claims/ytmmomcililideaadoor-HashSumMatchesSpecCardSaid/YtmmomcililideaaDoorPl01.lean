/-
  Plain functions of layer 1 (wire): the encoding of an integer, and how the two Go texts reckon it. No program in sight.
-/
import Derived.WalkKit
import Derived.Lib.Zigzag
set_option linter.unusedSimpArgs false
set_option linter.unusedVariables false
namespace Go.Proofs.YtmmomcililideaaDoor

/-- z to the base 128, the lowest digit first, 128 added to each but the last; at most f + 1 digits. -/
def encF : Nat → Nat → List UInt8
  | 0, z => [UInt8.ofNat z]
  | f + 1, z => if 127 < z then UInt8.ofNat (z % 128 + 128) :: encF f (z / 128) else [UInt8.ofNat z]

/-- 0, -1, 1, -2, 2, .. -/
def zz (n : Int) : Nat := if 0 ≤ n then (2 * n).toNat else (-2 * n - 1).toNat
def encI (n : Int) : List UInt8 := encF 9 (zz n)

theorem zz_lt {n : Int} (h1 : -9223372036854775808 ≤ n) (h2 : n ≤ 9223372036854775807) : zz n < 18446744073709551616 := by
  unfold zz
  split <;> omega

theorem encF_length (f : Nat) : ∀ z, 1 ≤ (encF f z).length ∧ (encF f z).length ≤ f + 1 := by
  induction f with
  | zero => intro z; simp [encF]
  | succ f ih =>
    intro z
    unfold encF
    split
    · have := ih (z / 128)
      simp only [List.length_cons]
      omega
    · simp

theorem encI_length (n : Int) : 1 ≤ (encI n).length ∧ (encI n).length ≤ 10 := encF_length 9 _

theorem i64_shl_xor {n : Int} (h1 : -9223372036854775808 ≤ n) (h2 : n ≤ 9223372036854775807) :
    bits .xor .u64 (IntKind.u64.wrap (IntKind.u64.wrap n * 2)) (IntKind.u64.wrap (n / 9223372036854775808)) = (zz n : Int) := by
  by_cases h : 0 ≤ n
  · have e1 : IntKind.u64.wrap (IntKind.u64.wrap n * 2) = ((2 * n.toNat : Nat) : Int) := by rw [IntKind.wrap_u64, IntKind.wrap_u64]; omega
    have e2 : IntKind.u64.wrap (n / 9223372036854775808) = ((0 : Nat) : Int) := by rw [IntKind.wrap_u64]; omega
    rw [e1, e2, u64_xor_nat _ _ (by omega) (by omega)]
    unfold zz
    rw [if_pos h, Nat.xor_zero]
    omega
  · have e1 : IntKind.u64.wrap (IntKind.u64.wrap n * 2) = ((2 * n + 18446744073709551616).toNat : Int) := by rw [IntKind.wrap_u64, IntKind.wrap_u64]; omega
    have e2 : IntKind.u64.wrap (n / 9223372036854775808) = ((2 ^ 64 - 1 : Nat) : Int) := by rw [IntKind.wrap_u64]; omega
    rw [e1, e2, u64_xor_nat _ _ (by omega) (by omega), Nat.xor_comm, Lib.xor_ones64 _ (by omega)]
    unfold zz
    rw [if_neg h]
    omega

/-- 'byte(z) | 128'. -/
theorem or128 {z : Nat} : bits .or .u8 ((z : Int) % 256) 128 = ((UInt8.ofNat (z % 128 + 128)).toNat : Int) := by
  have e : (z : Int) % 256 = ((z % 256 : Nat) : Int) := by omega
  have e2 : (128 : Int) = ((128 : Nat) : Int) := rfl
  rw [e, e2, u8_or_nat _ _ (by omega) (by omega)]
  have h := Lib.or128_nat ⟨z % 256, by omega⟩
  simp only at h
  rw [h, UInt8.toNat_ofNat']
  omega

theorem byte_of {z : Nat} : (z : Int) % 256 = ((UInt8.ofNat z).toNat : Int) := by
  rw [UInt8.toNat_ofNat']
  omega

theorem byte_le {z : Nat} (h : z ≤ 127) : (z : Int) = ((UInt8.ofNat z).toNat : Int) := by
  rw [UInt8.toNat_ofNat']
  omega

/-- One round of the loop that writes the digits. -/
theorem enc_round {f z : Nat} {acc R : List UInt8} (h : acc ++ encF f z = R) (hz : z < 2 * 128 ^ f) (hf : acc.length + f = 9) (hgt : 127 < z) :
    ∃ f', z / 128 < 2 * 128 ^ f' ∧ (acc ++ [UInt8.ofNat (z % 128 + 128)]).length + f' = 9 ∧ (acc ++ [UInt8.ofNat (z % 128 + 128)]) ++ encF f' (z / 128) = R := by
  cases f with
  | zero => omega
  | succ f =>
    refine ⟨f, by rw [Nat.pow_succ] at hz; omega, by simp; omega, ?_⟩
    rw [← h, encF, if_pos hgt]
    simp

theorem enc_last {f z : Nat} {acc R : List UInt8} (h : acc ++ encF f z = R) (hle : z ≤ 127) : acc ++ [UInt8.ofNat z] = R := by
  cases f with
  | zero => exact h
  | succ f => rw [← h, encF, if_neg (by omega)]

/-- An integer's digits at the beginning of l, the first of them with number k: their number z, and how many they are; or the error. -/
def decR : Nat → List UInt8 → Except Int (Nat × Nat)
  | _, [] => .error 10
  | k, c :: r => if (k = 9 ∧ 1 < c.toNat) ∨ (0 < k ∧ c.toNat = 0) then .error 11 else if c.toNat < 128 then .ok (c.toNat, 1) else
      match decR (k + 1) r with
      | .error e => .error e
      | .ok (z, u) => .ok (c.toNat % 128 + 128 * z, u + 1)

def unzz (z : Nat) : Int := if z % 2 = 0 then ((z / 2 : Nat) : Int) else -((z / 2 : Nat) : Int) - 1
def decI (l : List UInt8) : Except Int (Int × Nat) := match decR 0 l with | .error e => .error e | .ok (z, u) => .ok (unzz z, u)

/-- What has been read of digits ahead of the rest. -/
def joinR (k zn : Nat) : Except Int (Nat × Nat) → Except Int (Nat × Nat)
  | .error e => .error e
  | .ok (z, u) => .ok (zn + 128 ^ k * z, k + u)

def outI : Except Int (Int × Nat) → Value
  | .error e => .tuple #[.int .i64 0, .int .i64 0, .int .i64 e]
  | .ok (n, u) => .tuple #[.int .i64 n, .int .i64 (u : Int), .int .i64 0]

theorem decR_nil (k : Nat) : decR k [] = .error 10 := rfl
theorem decR_bad {k : Nat} {c : UInt8} {r : List UInt8} (h : (k = 9 ∧ 1 < c.toNat) ∨ (0 < k ∧ c.toNat = 0)) : decR k (c :: r) = .error 11 := by simp only [decR, if_pos h]
theorem decR_end {k : Nat} {c : UInt8} {r : List UInt8} (h : ¬ ((k = 9 ∧ 1 < c.toNat) ∨ (0 < k ∧ c.toNat = 0))) (hc : c.toNat < 128) : decR k (c :: r) = .ok (c.toNat, 1) := by simp only [decR, if_neg h, if_pos hc]
theorem joinR_step {k zn : Nat} {c : UInt8} {r : List UInt8} (h : ¬ ((k = 9 ∧ 1 < c.toNat) ∨ (0 < k ∧ c.toNat = 0))) (hc : 128 ≤ c.toNat) :
    joinR k zn (decR k (c :: r)) = joinR (k + 1) (zn + 128 ^ k * (c.toNat % 128)) (decR (k + 1) r) := by
  simp only [decR, if_neg h, if_neg (show ¬ c.toNat < 128 by omega)]
  cases decR (k + 1) r with
  | error e => rfl
  | ok p =>
    obtain ⟨z, u⟩ := p
    simp only [joinR, Nat.pow_succ, Nat.mul_add]
    congr 2
    · rw [Nat.add_assoc, Nat.mul_assoc]
    · omega

theorem decR_err : ∀ (l : List UInt8) (k : Nat) {e : Int}, decR k l = .error e → e = 10 ∨ e = 11 := by
  intro l
  induction l with
  | nil => intro k e h; simp [decR] at h; omega
  | cons c r ih =>
    intro k e h
    unfold decR at h
    split at h
    · simp at h; omega
    · split at h
      · cases h
      · split at h
        · rename_i e' he
          simp at h
          subst h
          exact ih _ he
        · cases h

theorem decR_ok : ∀ (l : List UInt8) (k : Nat) {z u : Nat}, decR k l = .ok (z, u) → k ≤ 9 → 1 ≤ u ∧ u ≤ l.length ∧ k + u ≤ 10 ∧ z < 2 * 128 ^ (9 - k) := by
  intro l
  induction l with
  | nil => intro k z u h; simp [decR] at h
  | cons c r ih =>
    intro k z u h hk
    have hcl := c.toNat_lt
    unfold decR at h
    split at h
    · cases h
    · rename_i hn
      split at h
      · simp at h
        obtain ⟨rfl, rfl⟩ := h
        refine ⟨by omega, by simp, by omega, ?_⟩
        rcases Nat.lt_or_ge k 9 with h9 | h9
        · have e : 9 - k = (8 - k) + 1 := by omega
          rw [e, Nat.pow_succ]
          have : 0 < 128 ^ (8 - k) := Nat.pow_pos (by decide)
          omega
        · have hk9 : k = 9 := by omega
          subst hk9
          simp
          omega
      · split at h
        · cases h
        · rename_i z' u' hd
          simp at h
          obtain ⟨rfl, rfl⟩ := h
          obtain ⟨h1, h2, h3, h4⟩ := ih _ hd (by omega)
          refine ⟨by omega, by simp; omega, by omega, ?_⟩
          have e : 9 - k = (9 - (k + 1)) + 1 := by omega
          rw [e, Nat.pow_succ]
          omega

theorem decR_lt {l : List UInt8} {z u : Nat} (h : decR 0 l = .ok (z, u)) : z < 18446744073709551616 := (decR_ok l 0 h (by omega)).2.2.2

theorem digit_bound {k zn d : Nat} (hk : k ≤ 9) (hz : zn < 128 ^ k) (hd : d ≤ 127) (h9 : k = 9 → d ≤ 1) : zn + 128 ^ k * d < 18446744073709551616 ∧ zn + 128 ^ k * d < 128 ^ (k + 1) := by
  have h1 : zn + 128 ^ k * d < 128 ^ k * (d + 1) := by rw [Nat.mul_add]; omega
  have h2 : 128 ^ k * (d + 1) ≤ 128 ^ k * 128 := Nat.mul_le_mul_left _ (by omega)
  refine ⟨?_, by rw [Nat.pow_succ]; omega⟩
  rcases Nat.lt_or_ge k 9 with h | h
  · have h3 : 128 ^ k ≤ 128 ^ 8 := Nat.pow_le_pow_right (by decide) (by omega)
    have h4 : 128 ^ k * 128 ≤ 128 ^ 8 * 128 := Nat.mul_le_mul_right _ h3
    omega
  · have hk9 : k = 9 := by omega
    subst hk9
    have := h9 rfl
    have h5 : 128 ^ 9 * (d + 1) ≤ 128 ^ 9 * 2 := Nat.mul_le_mul_left _ (by omega)
    omega

theorem unzz_range {z : Nat} (h : z < 18446744073709551616) : -9223372036854775808 ≤ unzz z ∧ unzz z ≤ 9223372036854775807 := by
  unfold unzz
  split <;> omega

/-- 'int(z>>1) ^ -int(z&1)'. -/
theorem unzz_bits {z : Nat} (h : z < 18446744073709551616) : bits .xor .i64 ((z : Int) / 2) (-((z : Int) % 2)) = unzz z := by
  rw [show (z : Int) / 2 = ((z / 2 : Nat) : Int) by omega, show (z : Int) % 2 = ((z % 2 : Nat) : Int) by omega]
  unfold unzz
  rcases Nat.mod_two_eq_zero_or_one z with h2 | h2
  · rw [h2, if_pos rfl]
    show IntKind.i64.wrap ((BitVec.ofInt 64 ((z / 2 : Nat) : Int) ^^^ BitVec.ofInt 64 (-((0 : Nat) : Int))).toNat : Int) = _
    have h1 : (BitVec.ofInt 64 (-((0 : Nat) : Int))).toNat = 0 := by decide
    have h2 : (BitVec.ofInt 64 ((z / 2 : Nat) : Int)).toNat = z / 2 := by
      rw [BitVec.ofInt_natCast, BitVec.toNat_ofNat]; exact Nat.mod_eq_of_lt (by omega)
    rw [BitVec.toNat_xor, h1, h2, Nat.xor_zero, IntKind.wrap_i64]
    omega
  · rw [h2, if_neg (by omega)]
    have := Lib.i64_not (z / 2) (by omega)
    have e : bits BinOp.xor .i64 ((z / 2 : Nat) : Int) (-((1 : Nat) : Int)) = bits BinOp.xor .i64 (-1) ((z / 2 : Nat) : Int) := by
      show IntKind.i64.wrap ((BitVec.ofInt 64 ((z / 2 : Nat) : Int) ^^^ BitVec.ofInt 64 (-((1 : Nat) : Int))).toNat : Int) = IntKind.i64.wrap ((BitVec.ofInt 64 (-1) ^^^ BitVec.ofInt 64 ((z / 2 : Nat) : Int)).toNat : Int)
      rw [BitVec.xor_comm]
      rfl
    rw [e, this]

/-- 'z | uint64(c&127) << (7*k)'. -/
theorem or_digit {k zn d : Nat} (hz : zn < 128 ^ k) (hb : zn + 128 ^ k * d < 18446744073709551616) : bits .or .u64 (zn : Int) ((128 ^ k * d : Nat) : Int) = ((zn + 128 ^ k * d : Nat) : Int) := by
  rw [u64_or_nat _ _ (by omega) (by omega)]
  have e : 128 ^ k = 2 ^ (7 * k) := by rw [Nat.pow_mul]
  rw [e] at hz ⊢
  rw [Nat.or_comm, nat_join (7 * k) (2 ^ (7 * k) * d) zn (by simp) hz, Nat.add_comm]

theorem u64_and_1 (z : Nat) (h : z < 18446744073709551616) : bits .and .u64 (z : Int) 1 = (z : Int) % 2 := by
  rw [show (1 : Int) = ((1 : Nat) : Int) from rfl, u64_and_nat _ _ h (by decide), nat_mask1]
  omega

theorem u8_and_127 (x : Nat) (h : x < 256) : bits .and .u8 (x : Int) 127 = ((x % 128 : Nat) : Int) := by
  rw [show (127 : Int) = ((127 : Nat) : Int) from rfl, u8_and_nat _ _ h (by decide), nat_mask7]

/-- 'z | uint64(c&127) << (7*k)', as the walk writes it. -/
theorem or_round {k zn x : Nat} (hk : k ≤ 9) (hz : zn < 128 ^ k) (hx : x < 256) (h9 : k = 9 → x ≤ 1) :
    bits .or .u64 (zn : Int) (IntKind.u64.wrap (IntKind.u64.wrap (bits .and .u8 (x : Int) 127) * 2 ^ (7 * k))) = ((zn + 128 ^ k * (x % 128) : Nat) : Int) := by
  obtain ⟨b1, b2⟩ := digit_bound (d := x % 128) hk hz (by omega) (fun h => by have := h9 h; omega)
  rw [u8_and_127 x hx, IntWalk.u64_in ((x % 128 : Nat) : Int) (by omega)]
  have e : ((x % 128 : Nat) : Int) * 2 ^ (7 * k) = ((128 ^ k * (x % 128) : Nat) : Int) := by
    rw [show (128 : Nat) ^ k = 2 ^ (7 * k) by rw [Nat.pow_mul], Int.natCast_mul, Int.natCast_pow, Int.mul_comm]
    rfl
  rw [e, IntWalk.u64_in _ (by omega), or_digit hz b1]

theorem or_round9 {zn x : Nat} (hz : zn < 128 ^ 9) (hx : x ≤ 1) :
    bits .or .u64 (zn : Int) (IntKind.u64.wrap (IntKind.u64.wrap (bits .and .u8 (x : Int) 127) * 9223372036854775808)) = ((zn + 128 ^ 9 * (x % 128) : Nat) : Int) := by
  have h := or_round (k := 9) (by decide) hz (show x < 256 by omega) (fun _ => hx)
  rw [← h]
  rfl

theorem dec_done {bs l : List UInt8} {k zn : Nat} {x : UInt8} (hj : joinR k zn (decR k (x :: l)) = decR 0 bs) (h : ¬ ((k = 9 ∧ 1 < x.toNat) ∨ (0 < k ∧ x.toNat = 0))) (hx : x.toNat < 128) :
    decI bs = .ok (unzz (zn + 128 ^ k * (x.toNat % 128)), k + 1) := by
  rw [decR_end h hx] at hj
  unfold decI
  rw [← hj]
  simp [joinR, Nat.mod_eq_of_lt hx]
theorem dec_bad {bs l : List UInt8} {k zn : Nat} {x : UInt8} (hj : joinR k zn (decR k (x :: l)) = decR 0 bs) (h : (k = 9 ∧ 1 < x.toNat) ∨ (0 < k ∧ x.toNat = 0)) : decI bs = .error 11 := by
  rw [decR_bad h] at hj
  unfold decI
  rw [← hj]
  rfl
theorem dec_short {bs : List UInt8} {k zn : Nat} (hj : joinR k zn (decR k []) = decR 0 bs) : decI bs = .error 10 := by
  rw [decR_nil] at hj
  unfold decI
  rw [← hj]
  rfl

/-- The number of digits, the lowest one first. -/
def dig : List UInt8 → Nat
  | [] => 0
  | c :: r => c.toNat % 128 + 128 * dig r

theorem dig_snoc (l : List UInt8) (x : UInt8) : dig (l ++ [x]) = dig l + 128 ^ l.length * (x.toNat % 128) := by
  induction l with
  | nil => simp [dig]
  | cons c l ih =>
    simp only [List.cons_append, dig, ih, List.length_cons, Nat.pow_succ, Nat.mul_add]
    rw [Nat.add_assoc, ← Nat.mul_assoc 128, Nat.mul_comm 128 (128 ^ l.length)]

theorem dig_lt (l : List UInt8) : dig l < 128 ^ l.length := by
  induction l with
  | nil => simp [dig]
  | cons c l ih =>
    simp only [dig, List.length_cons, Nat.pow_succ]
    omega

/-- The reference's search for the last digit. -/
def Lead (bs : List UInt8) (k : Nat) : Prop := k ≤ 10 ∧ k ≤ bs.length ∧ (k ≤ 9 → joinR k (dig (bs.take k)) (decR k (bs.drop k)) = decR 0 bs) ∧ (k = 10 → decR 0 bs = .error 11)

theorem Lead.zero (bs : List UInt8) : Lead bs 0 := ⟨by omega, by omega, fun _ => by simp [dig, joinR]; cases decR 0 bs <;> rfl, fun h => by omega⟩

theorem take_succ_of {bs l : List UInt8} {k : Nat} {x : UInt8} (h : bs.drop k = x :: l) : bs.take (k + 1) = bs.take k ++ [x] := by
  have hk : k < bs.length := by
    rcases Nat.lt_or_ge k bs.length with h' | h'
    · exact h'
    · rw [List.drop_eq_nil_of_le h'] at h; cases h
  rw [List.drop_eq_getElem_cons hk] at h
  injection h with h1 _
  rw [List.take_succ_eq_append_getElem hk, h1]

theorem Lead.step {bs : List UInt8} {k : Nat} {x : UInt8} (h : Lead bs k) (hk : k < 10) (hd : bs.drop k = x :: bs.drop (k + 1)) (hx : 128 ≤ x.toNat) : Lead bs (k + 1) := by
  obtain ⟨_, h2, h3, _⟩ := h
  have hkl : k < bs.length := by
    rcases Nat.lt_or_ge k bs.length with h' | h'
    · exact h'
    · rw [List.drop_eq_nil_of_le h'] at hd; cases hd
  have h3 := h3 (by omega)
  rw [hd] at h3
  refine ⟨by omega, by omega, fun h9 => ?_, fun h10 => ?_⟩
  · rw [joinR_step (by omega) hx] at h3
    rw [take_succ_of hd, dig_snoc, List.length_take, Nat.min_eq_left (by omega)]
    exact h3
  · have hk9 : k = 9 := by omega
    subst hk9
    rw [decR_bad (by omega)] at h3
    exact h3.symm

theorem Lead.ten {bs : List UInt8} (h : Lead bs 10) : decI bs = .error 11 := by unfold decI; rw [h.2.2.2 rfl]
theorem Lead.short {bs : List UInt8} {k : Nat} (h : Lead bs k) (hk : k ≠ 10) (hl : k = bs.length) : decI bs = .error 10 :=
  dec_short (by have := h.2.2.1 (by have := h.1; omega); rw [List.drop_eq_nil_of_le (by omega)] at this; exact this)
theorem Lead.bad {bs l : List UInt8} {k : Nat} {x : UInt8} (h : Lead bs k) (hk : k ≠ 10) (hd : bs.drop k = x :: l) (hb : (k = 9 ∧ 1 < x.toNat) ∨ (0 < k ∧ x.toNat = 0)) : decI bs = .error 11 :=
  dec_bad (by have := h.2.2.1 (by have := h.1; omega); rw [hd] at this; exact this) hb
theorem Lead.done {bs l : List UInt8} {k : Nat} {x : UInt8} (h : Lead bs k) (hk : k ≠ 10) (hd : bs.drop k = x :: l) (hb : ¬ ((k = 9 ∧ 1 < x.toNat) ∨ (0 < k ∧ x.toNat = 0))) (hx : x.toNat < 128) :
    decI bs = .ok (unzz (dig (bs.take (k + 1))), k + 1) ∧ dig (bs.take (k + 1)) < 18446744073709551616 := by
  have hk9 : k ≤ 9 := by have := h.1; omega
  have h2 := h.2.1
  have hlen : (bs.take k).length = k := by rw [List.length_take]; omega
  have hlt := dig_lt (bs.take k)
  rw [hlen] at hlt
  have e : dig (bs.take (k + 1)) = dig (bs.take k) + 128 ^ k * (x.toNat % 128) := by rw [take_succ_of hd, dig_snoc, hlen]
  rw [e]
  exact ⟨dec_done (by have := h.2.2.1 hk9; rw [hd] at this; exact this) hb hx, (digit_bound hk9 hlt (by omega) (fun h => by omega)).1⟩

theorem dig_drop_le (l : List UInt8) : ∀ i, dig (l.drop i) ≤ dig l := by
  induction l with
  | nil => intro i; simp
  | cons c l ih =>
    intro i
    cases i with
    | zero => simp
    | succ i =>
      simp only [List.drop_succ_cons, dig]
      have := ih i
      omega

/-- One round of the loop that adds the digits up, from the last one on. -/
theorem dig_down {bs : List UInt8} {k i : Nat} {x : UInt8} (hi : i ≤ k) (hd : bs.drop i = x :: bs.drop (i + 1)) :
    dig ((bs.take (k + 1)).drop i) = dig ((bs.take (k + 1)).drop (i + 1)) * 128 + x.toNat % 128 := by
  rw [List.drop_take, List.drop_take, hd, show k + 1 - i = (k + 1 - (i + 1)) + 1 by omega, List.take_succ_cons, dig]
  omega

theorem mod_plus {z : Nat} : (z : Int) % 128 + 128 = ((UInt8.ofNat (z % 128 + 128)).toNat : Int) := by
  rw [UInt8.toNat_ofNat']
  omega
theorem outI_of {a b : Int} {u : Nat} (h : a = b) : Ending.returned (.tuple #[.int .i64 a, .int .i64 (u : Int), .int .i64 0]) = .returned (outI (.ok (b, u))) := by rw [h]; rfl

/-- A byte string with its length ahead. -/
def encS (s : List UInt8) : List UInt8 := encI s.length ++ s
/-- A list with its length ahead, each element by f. -/
def encL {α : Type} (f : α → List UInt8) (l : List α) : List UInt8 := encI l.length ++ (l.map f).flatten

def lenI (bs : List UInt8) (least : Nat) : Except Int (Nat × Nat) :=
  match decI bs with
  | .error e => .error e
  | .ok (n, u) => if n < 0 then .error 11 else if ((bs.length - u) / least : Nat) < n then .error 10 else .ok (n.toNat, u)
def outN : Except Int (Nat × Nat) → Value
  | .error e => .tuple #[.int .i64 0, .int .i64 0, .int .i64 e]
  | .ok (n, u) => .tuple #[.int .i64 (n : Int), .int .i64 (u : Int), .int .i64 0]
def getS (bs : List UInt8) : Except Int (List UInt8 × Nat) :=
  match lenI bs 1 with
  | .error e => .error e
  | .ok (n, u) => .ok ((bs.drop u).take n, u + n)
def outS : Except Int (List UInt8 × Nat) → Value
  | .error e => .tuple #[.string ⟨#[]⟩, .int .i64 0, .int .i64 e]
  | .ok (s, u) => .tuple #[.string ⟨s.toArray⟩, .int .i64 (u : Int), .int .i64 0]

theorem decI_err {bs : List UInt8} {e : Int} (h : decI bs = .error e) : e = 10 ∨ e = 11 := by
  unfold decI at h
  split at h
  · rename_i he
    simp at h
    subst h
    exact decR_err _ _ he
  · cases h
theorem decI_ok {bs : List UInt8} {n : Int} {u : Nat} (h : decI bs = .ok (n, u)) : 1 ≤ u ∧ u ≤ bs.length ∧ u ≤ 10 ∧ -9223372036854775808 ≤ n ∧ n ≤ 9223372036854775807 := by
  unfold decI at h
  split at h
  · cases h
  · rename_i z u' hd
    simp at h
    obtain ⟨rfl, rfl⟩ := h
    have h1 := decR_ok _ _ hd (by omega)
    have h2 := unzz_range (decR_lt hd)
    omega
theorem lenI_err {bs : List UInt8} {m : Nat} {e : Int} (h : lenI bs m = .error e) : e = 10 ∨ e = 11 := by
  unfold lenI at h
  split at h
  · rename_i he
    simp at h
    subst h
    exact decI_err he
  · split at h
    · simp at h; omega
    · split at h
      · simp at h; omega
      · cases h
theorem lenI_ok {bs : List UInt8} {m n u : Nat} (h : lenI bs m = .ok (n, u)) : 1 ≤ u ∧ u ≤ bs.length ∧ n ≤ (bs.length - u) / m ∧ decI bs = .ok ((n : Int), u) := by
  unfold lenI at h
  split at h
  · cases h
  · rename_i n' u' hd
    split at h
    · cases h
    · split at h
      · cases h
      · simp at h
        obtain ⟨rfl, rfl⟩ := h
        have := decI_ok hd
        exact ⟨by omega, by omega, by omega, by rw [hd]; congr 2; omega⟩

/-- What stands after k elements. -/
def encP {α : Type} (f : α → List UInt8) (l : List α) (k : Nat) : List UInt8 := encI l.length ++ ((l.take k).map f).flatten
theorem encP_zero {α : Type} (f : α → List UInt8) (l : List α) : encP f l 0 = encI l.length := by simp [encP]
theorem encP_all {α : Type} (f : α → List UInt8) (l : List α) : encP f l l.length = encL f l := by simp [encP, encL]
theorem take_succ_drop {α : Type} {l r : List α} {k : Nat} {x : α} (h : l.drop k = x :: r) : l.take (k + 1) = l.take k ++ [x] := by
  have hk : k < l.length := by
    rcases Nat.lt_or_ge k l.length with h' | h'
    · exact h'
    · rw [List.drop_eq_nil_of_le h'] at h; cases h
  rw [List.drop_eq_getElem_cons hk] at h
  injection h with h1 _
  rw [List.take_succ_eq_append_getElem hk, h1]
theorem encP_succ {α : Type} (f : α → List UInt8) {l r : List α} {k : Nat} {x : α} (h : l.drop k = x :: r) : encP f l (k + 1) = encP f l k ++ f x := by
  unfold encP
  rw [take_succ_drop h]
  simp
theorem encP_le {α : Type} (f : α → List UInt8) (l : List α) (k : Nat) : (encP f l k).length ≤ (encL f l).length := by
  have e : encL f l = encP f l k ++ ((l.drop k).map f).flatten := by
    unfold encP encL
    rw [List.append_assoc, ← List.flatten_append, ← List.map_append, List.take_append_drop]
  rw [e, List.length_append]
  omega

/-- n elements, one behind the other. -/
def preN {α : Type} (acc : List α) (d : Nat) : Except Int (List α × Nat) → Except Int (List α × Nat)
  | .error e => .error e
  | .ok (l, v) => .ok (acc ++ l, d + v)
def getN {α : Type} (one : List UInt8 → Except Int (α × Nat)) : Nat → List UInt8 → Except Int (List α × Nat)
  | 0, _ => .ok ([], 0)
  | n + 1, b => match one b with | .error e => .error e | .ok (x, u) => preN [x] u (getN one n (b.drop u))
def getL {α : Type} (one : List UInt8 → Except Int (α × Nat)) (least : Nat) (bs : List UInt8) : Except Int (List α × Nat) :=
  match lenI bs least with
  | .error e => .error e
  | .ok (n, u) => match getN one n (bs.drop u) with | .error e => .error e | .ok (l, v) => .ok (l, u + v)

theorem preN_nil {α : Type} (r : Except Int (List α × Nat)) : preN [] 0 r = r := by
  cases r with
  | error e => rfl
  | ok p => simp [preN]
theorem preN_preN {α : Type} (acc acc' : List α) (d d' : Nat) (r : Except Int (List α × Nat)) : preN acc d (preN acc' d' r) = preN (acc ++ acc') (d + d') r := by
  cases r with
  | error e => rfl
  | ok p => simp [preN, Nat.add_assoc]

/-- The loop's state: j of n elements have been read, acc, up to the place 'at'. -/
structure GetS {α : Type} (one : List UInt8 → Except Int (α × Nat)) (bs : List UInt8) (n u j pl : Nat) (acc : List α) : Prop where
  hj : j ≤ n
  hu : u ≤ pl
  hp : pl ≤ bs.length
  hl : acc.length = j
  he : preN acc (pl - u) (getN one (n - j) (bs.drop pl)) = getN one n (bs.drop u)

theorem GetS.start {α : Type} {one : List UInt8 → Except Int (α × Nat)} {bs : List UInt8} {n u : Nat} (hu : u ≤ bs.length) : GetS one bs n u 0 u [] :=
  ⟨by omega, by omega, hu, rfl, by rw [Nat.sub_self, Nat.sub_zero, preN_nil]⟩

theorem GetS.bad {α : Type} {one : List UInt8 → Except Int (α × Nat)} {bs : List UInt8} {n u j pl m : Nat} {acc : List α} {e : Int} (h : GetS one bs n u j pl acc) (hj : j < n) (ho : one (bs.drop pl) = .error e) (hd : lenI bs m = .ok (n, u)) : getL one m bs = .error e := by
  have he := h.he
  rw [show n - j = (n - j - 1) + 1 by omega, getN, ho] at he
  unfold getL
  rw [hd]
  simp only [← he, preN]

theorem GetS.good {α : Type} {one : List UInt8 → Except Int (α × Nat)} {bs : List UInt8} {n u j pl v : Nat} {acc : List α} {x : α} (h : GetS one bs n u j pl acc) (hj : j < n) (ho : one (bs.drop pl) = .ok (x, v)) (hv : pl + v ≤ bs.length) : GetS one bs n u (j + 1) (pl + v) (acc ++ [x]) := by
  obtain ⟨h1, h2, h3, h4, he⟩ := h
  refine ⟨by omega, by omega, hv, by simp [h4], ?_⟩
  rw [show n - j = (n - (j + 1)) + 1 by omega, getN, ho] at he
  simp only [preN_preN, List.drop_drop] at he
  rw [← he, show pl + v - u = pl - u + v by omega]

theorem GetS.done {α : Type} {one : List UInt8 → Except Int (α × Nat)} {bs : List UInt8} {n u pl m : Nat} {acc : List α} (h : GetS one bs n u n pl acc) (hd : lenI bs m = .ok (n, u)) : getL one m bs = .ok (acc, pl) := by
  obtain ⟨h1, h2, h3, h4, he⟩ := h
  rw [Nat.sub_self, getN] at he
  unfold getL
  rw [hd]
  simp only [← he, preN, List.append_nil]
  congr 2
  omega

theorem getS_err {bs : List UInt8} {e : Int} (h : getS bs = .error e) : e = 10 ∨ e = 11 := by
  unfold getS at h
  split at h
  · rename_i he
    simp at h
    subst h
    exact lenI_err he
  · cases h
theorem getS_ok {bs s : List UInt8} {u : Nat} (h : getS bs = .ok (s, u)) : 1 ≤ u ∧ u ≤ bs.length ∧ s.length ≤ bs.length := by
  unfold getS at h
  split at h
  · cases h
  · rename_i n v he
    simp at h
    obtain ⟨rfl, rfl⟩ := h
    have := lenI_ok he
    rw [Nat.div_one] at this
    refine ⟨by omega, by omega, by simp; omega⟩

/-- What a function that decodes a list hands back. -/
def GotL {α : Type} (w w' : World) (ty m : Nat) (cs : List α → List Value) (e : Ending) : Except Int (List α × Nat) → Prop
  | .error er => e = .returned (.tuple #[.slice none 0 0, .int .i64 0, .int .i64 er]) ∧ RowKit.Below w.heap.size w w'
  | .ok (l, pl) => ∃ v, e = .returned (.tuple #[v, .int .i64 (pl : Int), .int .i64 0]) ∧ w'.ownsRow w.heap.size ty m v l.length (cs l) ∧ RowKit.Below w.heap.size w w'
end Go.Proofs.YtmmomcililideaaDoor
