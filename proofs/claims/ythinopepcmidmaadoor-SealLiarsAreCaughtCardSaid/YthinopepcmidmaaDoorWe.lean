/-
  The wire's encodings of integers and strings, of the program and of the reference.
-/
import Derived.Test.YthinopepcmidmaaDoorProg
import Derived.WalkKit
import Derived.Lib.Zigzag
import Derived.Test.YthinopepcmidmaaDoorMA
set_option linter.unusedSimpArgs false
set_option linter.unusedVariables false
set_option maxRecDepth 100000
set_option maxHeartbeats 1600000
namespace Go.Proofs.YthinopepcmidmaaDoor
/-- z to the base 128, the lowest digit first, 128 added to each but the last; at most f + 1 digits. -/
def encF : Nat → Nat → List UInt8
  | 0, z => [UInt8.ofNat z]
  | f + 1, z => if 127 < z then UInt8.ofNat (z % 128 + 128) :: encF f (z / 128) else [UInt8.ofNat z]
/-- 0, -1, 1, -2, 2, .. -/
def zz (n : Int) : Nat := if 0 ≤ n then (2 * n).toNat else (-2 * n - 1).toNat
def encI (n : Int) : List UInt8 := encF 9 (zz n)
theorem zz_lt {n : Int} (h1 : -9223372036854775808 ≤ n) (h2 : n ≤ 9223372036854775807) : zz n < 18446744073709551616 := by
  unfold zz
  split <;> omega
theorem encF_length (f : Nat) : ∀ z, 1 ≤ (encF f z).length ∧ (encF f z).length ≤ f + 1 := by
  induction f with
  | zero => intro z; simp [encF]
  | succ f ih =>
    intro z
    unfold encF
    split
    · have := ih (z / 128)
      simp only [List.length_cons]
      omega
    · simp
theorem encI_length (n : Int) : 1 ≤ (encI n).length ∧ (encI n).length ≤ 10 := encF_length 9 _
theorem i64_shl_xor {n : Int} (h1 : -9223372036854775808 ≤ n) (h2 : n ≤ 9223372036854775807) :
    bits .xor .u64 (IntKind.u64.wrap (IntKind.u64.wrap n * 2)) (IntKind.u64.wrap (n / 9223372036854775808)) = (zz n : Int) := by
  by_cases h : 0 ≤ n
  · have e1 : IntKind.u64.wrap (IntKind.u64.wrap n * 2) = ((2 * n.toNat : Nat) : Int) := by rw [IntKind.wrap_u64, IntKind.wrap_u64]; omega
    have e2 : IntKind.u64.wrap (n / 9223372036854775808) = ((0 : Nat) : Int) := by rw [IntKind.wrap_u64]; omega
    rw [e1, e2, u64_xor_nat _ _ (by omega) (by omega)]
    unfold zz
    rw [if_pos h, Nat.xor_zero]
    omega
  · have e1 : IntKind.u64.wrap (IntKind.u64.wrap n * 2) = ((2 * n + 18446744073709551616).toNat : Int) := by rw [IntKind.wrap_u64, IntKind.wrap_u64]; omega
    have e2 : IntKind.u64.wrap (n / 9223372036854775808) = ((2 ^ 64 - 1 : Nat) : Int) := by rw [IntKind.wrap_u64]; omega
    rw [e1, e2, u64_xor_nat _ _ (by omega) (by omega), Nat.xor_comm, Lib.xor_ones64 _ (by omega)]
    unfold zz
    rw [if_neg h]
    omega
/-- 'byte(z) | 128'. -/
theorem or128 {z : Nat} : bits .or .u8 ((z : Int) % 256) 128 = ((UInt8.ofNat (z % 128 + 128)).toNat : Int) := by
  have e : (z : Int) % 256 = ((z % 256 : Nat) : Int) := by omega
  have e2 : (128 : Int) = ((128 : Nat) : Int) := rfl
  rw [e, e2, u8_or_nat _ _ (by omega) (by omega)]
  have h := Lib.or128_nat ⟨z % 256, by omega⟩
  simp only at h
  rw [h, UInt8.toNat_ofNat']
  omega
theorem byte_le {z : Nat} (h : z ≤ 127) : (z : Int) = ((UInt8.ofNat z).toNat : Int) := by
  rw [UInt8.toNat_ofNat']
  omega
/-- One round of the loop that writes the digits. -/
theorem enc_round {f z : Nat} {acc R : List UInt8} (h : acc ++ encF f z = R) (hz : z < 2 * 128 ^ f) (hf : acc.length + f = 9) (hgt : 127 < z) :
    ∃ f', z / 128 < 2 * 128 ^ f' ∧ (acc ++ [UInt8.ofNat (z % 128 + 128)]).length + f' = 9 ∧ (acc ++ [UInt8.ofNat (z % 128 + 128)]) ++ encF f' (z / 128) = R := by
  cases f with
  | zero => omega
  | succ f =>
    refine ⟨f, by rw [Nat.pow_succ] at hz; omega, by simp; omega, ?_⟩
    rw [← h, encF, if_pos hgt]
    simp
theorem enc_last {f z : Nat} {acc R : List UInt8} (h : acc ++ encF f z = R) (hle : z ≤ 127) : acc ++ [UInt8.ofNat z] = R := by
  cases f with
  | zero => exact h
  | succ f => rw [← h, encF, if_neg (by omega)]
/-- An integer's digits at the beginning of l, the first of them with number k: their number z, and how many they are; or the error. -/
def decR : Nat → List UInt8 → Except Int (Nat × Nat)
  | _, [] => .error 10
  | k, c :: r => if (k = 9 ∧ 1 < c.toNat) ∨ (0 < k ∧ c.toNat = 0) then .error 11 else if c.toNat < 128 then .ok (c.toNat, 1) else
      match decR (k + 1) r with
      | .error e => .error e
      | .ok (z, u) => .ok (c.toNat % 128 + 128 * z, u + 1)
def unzz (z : Nat) : Int := if z % 2 = 0 then ((z / 2 : Nat) : Int) else -((z / 2 : Nat) : Int) - 1
def decI (l : List UInt8) : Except Int (Int × Nat) := match decR 0 l with | .error e => .error e | .ok (z, u) => .ok (unzz z, u)
/-- What has been read of digits ahead of the rest. -/
def joinR (k zn : Nat) : Except Int (Nat × Nat) → Except Int (Nat × Nat)
  | .error e => .error e
  | .ok (z, u) => .ok (zn + 128 ^ k * z, k + u)
theorem decR_end {k : Nat} {c : UInt8} {r : List UInt8} (h : ¬ ((k = 9 ∧ 1 < c.toNat) ∨ (0 < k ∧ c.toNat = 0))) (hc : c.toNat < 128) : decR k (c :: r) = .ok (c.toNat, 1) := by simp only [decR, if_neg h, if_pos hc]
theorem digit_bound {k zn d : Nat} (hk : k ≤ 9) (hz : zn < 128 ^ k) (hd : d ≤ 127) (h9 : k = 9 → d ≤ 1) : zn + 128 ^ k * d < 18446744073709551616 ∧ zn + 128 ^ k * d < 128 ^ (k + 1) := by
  have h1 : zn + 128 ^ k * d < 128 ^ k * (d + 1) := by rw [Nat.mul_add]; omega
  have h2 : 128 ^ k * (d + 1) ≤ 128 ^ k * 128 := Nat.mul_le_mul_left _ (by omega)
  refine ⟨?_, by rw [Nat.pow_succ]; omega⟩
  rcases Nat.lt_or_ge k 9 with h | h
  · have h3 : 128 ^ k ≤ 128 ^ 8 := Nat.pow_le_pow_right (by decide) (by omega)
    have h4 : 128 ^ k * 128 ≤ 128 ^ 8 * 128 := Nat.mul_le_mul_right _ h3
    omega
  · have hk9 : k = 9 := by omega
    subst hk9
    have := h9 rfl
    have h5 : 128 ^ 9 * (d + 1) ≤ 128 ^ 9 * 2 := Nat.mul_le_mul_left _ (by omega)
    omega
theorem dec_done {bs l : List UInt8} {k zn : Nat} {x : UInt8} (hj : joinR k zn (decR k (x :: l)) = decR 0 bs) (h : ¬ ((k = 9 ∧ 1 < x.toNat) ∨ (0 < k ∧ x.toNat = 0))) (hx : x.toNat < 128) :
    decI bs = .ok (unzz (zn + 128 ^ k * (x.toNat % 128)), k + 1) := by
  rw [decR_end h hx] at hj
  unfold decI
  rw [← hj]
  simp [joinR, Nat.mod_eq_of_lt hx]
/-- The number of digits, the lowest one first. -/
def dig : List UInt8 → Nat
  | [] => 0
  | c :: r => c.toNat % 128 + 128 * dig r
theorem dig_snoc (l : List UInt8) (x : UInt8) : dig (l ++ [x]) = dig l + 128 ^ l.length * (x.toNat % 128) := by
  induction l with
  | nil => simp [dig]
  | cons c l ih =>
    simp only [List.cons_append, dig, ih, List.length_cons, Nat.pow_succ, Nat.mul_add]
    rw [Nat.add_assoc, ← Nat.mul_assoc 128, Nat.mul_comm 128 (128 ^ l.length)]
theorem dig_lt (l : List UInt8) : dig l < 128 ^ l.length := by
  induction l with
  | nil => simp [dig]
  | cons c l ih =>
    simp only [dig, List.length_cons, Nat.pow_succ]
    omega
/-- The reference's search for the last digit. -/
def Lead (bs : List UInt8) (k : Nat) : Prop := k ≤ 10 ∧ k ≤ bs.length ∧ (k ≤ 9 → joinR k (dig (bs.take k)) (decR k (bs.drop k)) = decR 0 bs) ∧ (k = 10 → decR 0 bs = .error 11)
theorem Lead.zero (bs : List UInt8) : Lead bs 0 := ⟨by omega, by omega, fun _ => by simp [dig, joinR]; cases decR 0 bs <;> rfl, fun h => by omega⟩
theorem take_succ_of {bs l : List UInt8} {k : Nat} {x : UInt8} (h : bs.drop k = x :: l) : bs.take (k + 1) = bs.take k ++ [x] := by
  have hk : k < bs.length := by
    rcases Nat.lt_or_ge k bs.length with h' | h'
    · exact h'
    · rw [List.drop_eq_nil_of_le h'] at h; cases h
  rw [List.drop_eq_getElem_cons hk] at h
  injection h with h1 _
  rw [List.take_succ_eq_append_getElem hk, h1]
theorem Lead.done {bs l : List UInt8} {k : Nat} {x : UInt8} (h : Lead bs k) (hk : k ≠ 10) (hd : bs.drop k = x :: l) (hb : ¬ ((k = 9 ∧ 1 < x.toNat) ∨ (0 < k ∧ x.toNat = 0))) (hx : x.toNat < 128) :
    decI bs = .ok (unzz (dig (bs.take (k + 1))), k + 1) ∧ dig (bs.take (k + 1)) < 18446744073709551616 := by
  have hk9 : k ≤ 9 := by have := h.1; omega
  have h2 := h.2.1
  have hlen : (bs.take k).length = k := by rw [List.length_take]; omega
  have hlt := dig_lt (bs.take k)
  rw [hlen] at hlt
  have e : dig (bs.take (k + 1)) = dig (bs.take k) + 128 ^ k * (x.toNat % 128) := by rw [take_succ_of hd, dig_snoc, hlen]
  rw [e]
  exact ⟨dec_done (by have := h.2.2.1 hk9; rw [hd] at this; exact this) hb hx, (digit_bound hk9 hlt (by omega) (fun h => by omega)).1⟩
/-- A byte string with its length ahead. -/
def encS (s : List UInt8) : List UInt8 := encI s.length ++ s
def lenI (bs : List UInt8) (least : Nat) : Except Int (Nat × Nat) :=
  match decI bs with
  | .error e => .error e
  | .ok (n, u) => if n < 0 then .error 11 else if ((bs.length - u) / least : Nat) < n then .error 10 else .ok (n.toNat, u)
/-- n elements, one behind the other. -/
def preN {α : Type} (acc : List α) (d : Nat) : Except Int (List α × Nat) → Except Int (List α × Nat)
  | .error e => .error e
  | .ok (l, v) => .ok (acc ++ l, d + v)
def getN {α : Type} (one : List UInt8 → Except Int (α × Nat)) : Nat → List UInt8 → Except Int (List α × Nat)
  | 0, _ => .ok ([], 0)
  | n + 1, b => match one b with | .error e => .error e | .ok (x, u) => preN [x] u (getN one n (b.drop u))
def getL {α : Type} (one : List UInt8 → Except Int (α × Nat)) (least : Nat) (bs : List UInt8) : Except Int (List α × Nat) :=
  match lenI bs least with
  | .error e => .error e
  | .ok (n, u) => match getN one n (bs.drop u) with | .error e => .error e | .ok (l, v) => .ok (l, u + v)
theorem preN_nil {α : Type} (r : Except Int (List α × Nat)) : preN [] 0 r = r := by
  cases r with
  | error e => rfl
  | ok p => simp [preN]
/-- The loop's state: j of n elements have been read, acc, up to the place 'at'. -/
structure GetS {α : Type} (one : List UInt8 → Except Int (α × Nat)) (bs : List UInt8) (n u j pl : Nat) (acc : List α) : Prop where
  hj : j ≤ n
  hu : u ≤ pl
  hp : pl ≤ bs.length
  hl : acc.length = j
  he : preN acc (pl - u) (getN one (n - j) (bs.drop pl)) = getN one n (bs.drop u)
theorem GetS.start {α : Type} {one : List UInt8 → Except Int (α × Nat)} {bs : List UInt8} {n u : Nat} (hu : u ≤ bs.length) : GetS one bs n u 0 u [] :=
  ⟨by omega, by omega, hu, rfl, by rw [Nat.sub_self, Nat.sub_zero, preN_nil]⟩
theorem GetS.done {α : Type} {one : List UInt8 → Except Int (α × Nat)} {bs : List UInt8} {n u pl m : Nat} {acc : List α} (h : GetS one bs n u n pl acc) (hd : lenI bs m = .ok (n, u)) : getL one m bs = .ok (acc, pl) := by
  obtain ⟨h1, h2, h3, h4, he⟩ := h
  rw [Nat.sub_self, getN] at he
  unfold getL
  rw [hd]
  simp only [← he, preN, List.append_nil]
  congr 2
  omega
end Go.Proofs.YthinopepcmidmaaDoor
namespace Go.Proofs.YthinopepcmidmaaDoor
open Go.RowKit
theorem info_u8 : (Tryd.prog.info? 5).map (fun i => (i.zero, i.size, i.bytes)) = some (some (.int .u8 0), 1, 1) := by kernel_rfl
theorem wInt (n : Int) (w : World) (h1 : -9223372036854775808 ≤ n) (h2 : n ≤ 9223372036854775807) :
    Calls Tryd.prog 58 #[.int .i64 n] w fun e w' => ∃ v, e = .returned v ∧ Mk w w' 5 1 v (encI n).length ((encI n).map B8) := by
  go_enter Tryd.func58, Tryd.ntmps58
  go_wp2
  rw [i64_shl_xor h1 h2]
  go_loopw [3, 4] (fun z v wr => ∃ (f zn : Nat) (acc : List UInt8), z = .int .u64 (zn : Int) ∧ zn < 2 * 128 ^ f ∧ f ≤ 9 ∧ acc.length + f = 9 ∧ acc ++ encF f zn = encI n ∧
      wr.ownsRow w.heap.size 5 1 v acc.length (acc.map B8) ∧ Below w.heap.size w wr)
    (fun z _ _ => (intOf z).toNat)
  case atStart => exact ⟨9, zz n, [], rfl, by have := zz_lt h1 h2; omega, by omega, rfl, rfl, World.ownsRow_nil _ _ _ _, Below.refl _ _⟩
  case round =>
    obtain ⟨f, zn, acc, rfl, hz, hf, hl, hacc, hown, hb⟩ := hrel
    have hz2 : (zn : Int) ≤ 18446744073709551615 := by
      have : 128 ^ f ≤ 128 ^ 9 := Nat.pow_le_pow_right (by decide) hf
      omega
    go_wp2_with (first
      | (at_builtin; refine append_one _ _ rfl (.tmp 16) (.tmp 20) 69 rfl w.heap.size 5 _ 1 Tryd.underlying69 info_u8 rfl _ _ _ rfl hown rfl rfl (by omega) (by unfold maxLen; omega) hb.size ?_; intro v1 w1 hown1 hg1 hb1)
      | (at_builtin; refine append_one _ _ rfl (.tmp 22) (.tmp 25) 69 rfl w.heap.size 5 _ 1 Tryd.underlying69 info_u8 rfl _ _ _ rfl hown rfl rfl (by omega) (by unfold maxLen; omega) hb.size ?_; intro v1 w1 hown1 hg1 hb1))
    · obtain ⟨f', q1, q2, q3⟩ := enc_round hacc hz hl (by omega)
      go_roundw
      case rel =>
        refine ⟨f', zn / 128, _, by go_num, q1, by omega, q2, q3, ?_, hb.trans hb1⟩
        rw [or128, ← B8] at hown1
        simpa using hown1
      case measure => simp [intOf]; omega
    · go_ret
      have q := enc_last hacc (by omega)
      refine ⟨_, rfl, ?_, hb.trans hb1⟩
      rw [byte_le (by omega : zn ≤ 127), ← B8] at hown1
      rw [← q]
      simpa using hown1
end Go.Proofs.YthinopepcmidmaaDoor
namespace Go.Proofs.YthinopepcmidmaaDoor
open Go.RowKit
theorem wBytes (s : List UInt8) (w : World) (hs : s.length ≤ 4294967296) :
    Calls Tryd.prog 45 #[.string ⟨s.toArray⟩] w fun e w' => ∃ v, e = .returned v ∧ Mk w w' 5 1 v (encS s).length ((encS s).map B8) := by
  have hE := encI_length s.length
  go_enter Tryd.func45, Tryd.ntmps45
  go_wp2_with (first
    | (go_at_call 58; refine (wInt _ _ (by omega) (by omega)).mono ?_; rintro e w1 ⟨v1, rfl, hown, hb⟩)
    | (at_builtin; refine append_str rfl (.tmp 5) (.tmp 6) 69 9 rfl w.heap.size 5 Tryd.underlying69 Tryd.underlying9 info_u8 _ _ _ rfl hown s rfl (by omega) hb.size ?_; intro v2 w2 hown2 hg2 hb2))
  go_ret
  refine ⟨_, rfl, ?_, hb.trans hb2⟩
  unfold encS
  simpa using hown2
end Go.Proofs.YthinopepcmidmaaDoor
