/-
  SHA-256 as a plain function of lists of bytes; its words as the model's integers.
-/
import Derived.Test.YtmmomcililideaaDoorWd
import Derived.Laws.BitsAllLaws
set_option linter.unusedSimpArgs false
set_option linter.unusedVariables false
namespace Go.Proofs.YtmmomcililideaaDoor
open Go.RowKit

/-- A word's number; closed to simp. -/
def un (x : UInt32) : Nat := x.toNat
/-- A word as a value. -/
def W4 (x : UInt32) : Value := .int .u32 (un x : Int)
theorem W4_one (b : UInt32) : (W4 b).oneCell' = true := rfl
theorem W4s_one (l : List UInt32) : ∀ u ∈ l.map W4, u.oneCell' = true := by
  intro u hu
  obtain ⟨b, _, rfl⟩ := List.mem_map.1 hu
  rfl

def rotr (x : UInt32) (n : Nat) : UInt32 := UInt32.ofNat (x.toNat * 2 ^ (32 - n) % 4294967296 ||| x.toNat / 2 ^ n)
def shr (x : UInt32) (n : Nat) : UInt32 := UInt32.ofNat (x.toNat / 2 ^ n)
def mix3 (x : UInt32) (i j k : Nat) : UInt32 := rotr x i ^^^ rotr x j ^^^ rotr x k
def kk : List UInt32 := [1116352408, 1899447441, 3049323471, 3921009573, 961987163, 1508970993, 2453635748, 2870763221, 3624381080, 310598401, 607225278, 1426881987, 1925078388, 2162078206, 2614888103, 3248222580, 3835390401, 4022224774, 264347078, 604807628, 770255983, 1249150122, 1555081692, 1996064986, 2554220882, 2821834349, 2952996808, 3210313671, 3336571891, 3584528711, 113926993, 338241895, 666307205, 773529912, 1294757372, 1396182291, 1695183700, 1986661051, 2177026350, 2456956037, 2730485921, 2820302411, 3259730800, 3345764771, 3516065817, 3600352804, 4094571909, 275423344, 430227734, 506948616, 659060556, 883997877, 958139571, 1322822218, 1537002063, 1747873779, 1955562222, 2024104815, 2227730452, 2361852424, 2428436474, 2756734187, 3204031479, 3329325298]

structure S8 where
  (a b c d e f g h : UInt32)
def S8.l (s : S8) : List UInt32 := [s.a, s.b, s.c, s.d, s.e, s.f, s.g, s.h]
def S8.add (s t : S8) : S8 := ⟨s.a + t.a, s.b + t.b, s.c + t.c, s.d + t.d, s.e + t.e, s.f + t.f, s.g + t.g, s.h + t.h⟩
def iv : S8 := ⟨1779033703, 3144134277, 1013904242, 2773480762, 1359893119, 2600822924, 528734635, 1541459225⟩

/-- One round. -/
def xr (s : S8) (k w : UInt32) : UInt32 := s.h + mix3 s.e 6 11 25 + ((s.e &&& s.f) ^^^ (~~~s.e &&& s.g)) + k + w
def yr (s : S8) : UInt32 := mix3 s.a 2 13 22 + ((s.a &&& s.b) ^^^ (s.a &&& s.c) ^^^ (s.b &&& s.c))
def rnd (s : S8) (k w : UInt32) : S8 := ⟨xr s k w + yr s, s.a, s.b, s.c, s.d + xr s k w, s.e, s.f, s.g⟩

/-- The words of a block. -/
def word (b : List UInt8) : UInt32 := UInt32.ofNat (b.foldl (fun n x => n * 256 + x.toNat) 0)
def sig0 (p : UInt32) : UInt32 := rotr p 7 ^^^ rotr p 18 ^^^ shr p 3
def sig1 (q : UInt32) : UInt32 := rotr q 17 ^^^ rotr q 19 ^^^ shr q 10
def nw (b : List UInt8) (l : List UInt32) (t : Nat) : UInt32 :=
  if t < 16 then word ((b.drop (4 * t)).take 4) else l.getD (t - 16) 0 + sig0 (l.getD (t - 15) 0) + l.getD (t - 7) 0 + sig1 (l.getD (t - 2) 0)
def sw (b : List UInt8) : Nat → List UInt32
  | 0 => []
  | t + 1 => sw b t ++ [nw b (sw b t) t]
def rnds (s : S8) (w : List UInt32) : Nat → S8
  | 0 => s
  | t + 1 => rnd (rnds s w t) (kk.getD t 0) (w.getD t 0)
def comp (s : S8) (b : List UInt8) : S8 := s.add (rnds s (sw b 64) 64)
def absorbN : Nat → S8 → List UInt8 → S8
  | 0, s, _ => s
  | n + 1, s, m => absorbN n (comp s (m.take 64)) (m.drop 64)
/-- The state after the whole blocks of a message. -/
def absorb (s : S8) (m : List UInt8) : S8 := absorbN (m.length / 64) s m
def be8 (n : Nat) : List UInt8 := (List.range 8).map fun i => UInt8.ofNat (n / 2 ^ (56 - 8 * i))
def zerosFor (n : Nat) : Nat := (119 - n % 64) % 64
def padding (n : Nat) : List UInt8 := 128 :: List.replicate (zerosFor n) 0 ++ be8 (8 * n)
def out32 (s : S8) : List UInt8 := (List.range 32).map fun i => UInt8.ofNat ((s.l.getD (i / 4) 0).toNat / 2 ^ (24 - 8 * (i % 4)))
def sha (m : List UInt8) : List UInt8 := out32 (absorb iv (m ++ padding m.length))

theorem un_lt (x : UInt32) : un x < 4294967296 := x.toNat_lt
theorem add32 (x y : UInt32) : ((un x : Int) + (un y : Int)) % 4294967296 = (un (x + y) : Int) := by
  unfold un
  rw [UInt32.toNat_add]
  omega
theorem add32_3 (x y z : UInt32) : ((un x : Int) + (un y : Int) + (un z : Int)) % 4294967296 = (un (x + y + z) : Int) := by
  rw [← add32 (x + y) z, ← add32 x y]
  omega
theorem add32_4 (x y z u : UInt32) : ((un x : Int) + (un y : Int) + (un z : Int) + (un u : Int)) % 4294967296 = (un (x + y + z + u) : Int) := by
  rw [← add32 (x + y + z) u, ← add32_3 x y z]
  omega
theorem add32w (x y : UInt32) : IntKind.u32.wrap ((un x : Int) + (un y : Int)) = (un (x + y) : Int) := by
  rw [IntKind.wrap_u32', add32]
theorem xor32 (x y : UInt32) : bits .xor .u32 (un x : Int) (un y : Int) = (un (x ^^^ y) : Int) := by
  rw [u32_xor_nat _ _ (un_lt x) (un_lt y)]; unfold un; rw [UInt32.toNat_xor]
theorem not32 (x : UInt32) : bits .xor .u32 IntKind.u32.max (un x : Int) = (un (~~~x) : Int) := by
  have e : IntKind.u32.max = (un (4294967295 : UInt32) : Int) := by decide +kernel
  rw [e, xor32]
  have h : 4294967295 ^^^ x = ~~~x := by
    apply UInt32.toBitVec_inj.1
    simp only [UInt32.toBitVec_xor, UInt32.toBitVec_not]
    rw [BitVec.not_def]
    rfl
  rw [h]
theorem and32 (x y : UInt32) : bits .and .u32 (un x : Int) (un y : Int) = (un (x &&& y) : Int) := by
  rw [u32_and_nat _ _ (un_lt x) (un_lt y)]; unfold un; rw [UInt32.toNat_and]
theorem or32 (x y : UInt32) : bits .or .u32 (un x : Int) (un y : Int) = (un (x ||| y) : Int) := by
  rw [u32_or_nat _ _ (un_lt x) (un_lt y)]; unfold un; rw [UInt32.toNat_or]
theorem shr_un (x : UInt32) (n : Nat) : un (shr x n) = un x / 2 ^ n := by
  unfold un shr
  rw [UInt32.toNat_ofNat', Nat.mod_eq_of_lt]
  exact Nat.lt_of_le_of_lt (Nat.div_le_self _ _) (un_lt x)
theorem rotr_un (x : UInt32) (n : Nat) : un (rotr x n) = un x * 2 ^ (32 - n) % 4294967296 ||| un x / 2 ^ n := by
  unfold un rotr
  rw [UInt32.toNat_ofNat', Nat.mod_eq_of_lt]
  refine Nat.or_lt_two_pow (n := 32) ?_ ?_
  · exact Nat.mod_lt _ (by decide)
  · exact Nat.lt_of_le_of_lt (Nat.div_le_self _ _) (un_lt x)
theorem rot_l (x : UInt32) (n : Nat) {p q : Int} (hp : p = ((un x * 2 ^ (32 - n) % 4294967296 : Nat) : Int)) (hq : q = ((un x / 2 ^ n : Nat) : Int)) : bits .or .u32 p q = (un (rotr x n) : Int) := by
  rw [hp, hq, u32_or_nat _ _ (Nat.mod_lt _ (by decide)) (Nat.lt_of_le_of_lt (Nat.div_le_self _ _) (un_lt x)), rotr_un]
theorem rot_r (x : UInt32) (n : Nat) {p q : Int} (hp : p = ((un x * 2 ^ (32 - n) % 4294967296 : Nat) : Int)) (hq : q = ((un x / 2 ^ n : Nat) : Int)) : bits .or .u32 q p = (un (rotr x n) : Int) := by
  rw [hp, hq, u32_or_nat _ _ (Nat.lt_of_le_of_lt (Nat.div_le_self _ _) (un_lt x)) (Nat.mod_lt _ (by decide)), rotr_un, Nat.or_comm]

theorem test_abc : sha [97, 98, 99] = [186, 120, 22, 191, 143, 1, 207, 234, 65, 65, 64, 222, 93, 174, 34, 35, 176, 3, 97, 163, 150, 23, 122, 156, 180, 16, 255, 97, 242, 0, 21, 173] := by kernel_rfl
end Go.Proofs.YtmmomcililideaaDoor
