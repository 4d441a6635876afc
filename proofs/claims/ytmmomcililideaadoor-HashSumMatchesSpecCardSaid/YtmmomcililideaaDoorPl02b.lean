/-
  Messages piece by piece: what a stream is.
-/
import Derived.Test.YtmmomcililideaaDoorPl02
set_option linter.unusedSimpArgs false
set_option linter.unusedVariables false
namespace Go.Proofs.YtmmomcililideaaDoor
open Go.RowKit

theorem absorbN_app : ∀ (n : Nat) (s : S8) (m x : List UInt8), 64 * n ≤ m.length → absorbN n s (m ++ x) = absorbN n s m
  | 0, _, _, _, _ => rfl
  | n + 1, s, m, x, h => by
    simp only [absorbN]
    rw [List.take_append_of_le_length (by omega), List.drop_append_of_le_length (by omega)]
    exact absorbN_app n _ _ _ (by rw [List.length_drop]; omega)
theorem absorbN_succ : ∀ (n : Nat) (s : S8) (m : List UInt8), absorbN (n + 1) s m = comp (absorbN n s m) ((m.drop (64 * n)).take 64)
  | 0, _, _ => rfl
  | n + 1, s, m => by
    have := absorbN_succ n (comp s (m.take 64)) (m.drop 64)
    rw [List.drop_drop] at this
    rw [show 64 * (n + 1) = 64 + 64 * n by omega]
    exact this
theorem absorb_same {s : S8} {m x : List UInt8} (h : (m ++ x).length / 64 = m.length / 64) : absorb s (m ++ x) = absorb s m := by
  unfold absorb
  rw [h, absorbN_app _ _ _ _ (by omega)]
theorem absorb_next {s : S8} {m x : List UInt8} (hx : x.length + m.length % 64 = 64) : absorb s (m ++ x) = comp (absorb s m) (m.drop (m.length - m.length % 64) ++ x) := by
  unfold absorb
  have h1 : (m ++ x).length / 64 = m.length / 64 + 1 := by rw [List.length_append]; omega
  rw [h1, absorbN_succ, absorbN_app _ _ _ _ (by omega)]
  congr 1
  have h2 : 64 * (m.length / 64) = m.length - m.length % 64 := by omega
  rw [h2, List.drop_append_of_le_length (by omega), List.take_of_length_le (by rw [List.length_append, List.length_drop]; omega)]

/-- The cells of a stream. -/
def strm (s : S8) (blk : List UInt8) (n : Nat) : List Value := s.l.map W4 ++ (blk.map B8 ++ [.int .u64 (n : Int)])
theorem strm_len {s : S8} {blk : List UInt8} {n : Nat} (h : blk.length = 64) : (strm s blk n).length = 73 := by simp [strm, S8.l, h]
theorem strm_one (s : S8) (blk : List UInt8) (n : Nat) : ∀ u ∈ strm s blk n, u.oneCell' = true := by
  intro u hu
  simp only [strm, List.mem_append, List.mem_singleton] at hu
  rcases hu with hu | hu | rfl
  · exact W4s_one _ u hu
  · exact B8s_one _ u hu
  · rfl
/-- The block of a stream after the message m. -/
def Tail (m blk : List UInt8) : Prop := blk.length = 64 ∧ blk.take (m.length % 64) = m.drop (m.length - m.length % 64)
def IsStr (m : List UInt8) (v : Value) : Prop := ∃ blk, Tail m blk ∧ v = .agg (strm (absorb iv m) blk m.length).toArray

/-- The block behind a copy of k bytes. -/
def put (blk : List UInt8) (q : Nat) (x : List UInt8) : List UInt8 := blk.take q ++ x ++ blk.drop (q + x.length)
theorem put_len {blk x : List UInt8} {q : Nat} (h : blk.length = 64) (hq : q + x.length ≤ 64) : (put blk q x).length = 64 := by
  simp [put, h]; omega
theorem tail_less {m blk x : List UInt8} (h : Tail m blk) (hx : x.length + m.length % 64 < 64) : Tail (m ++ x) (put blk (m.length % 64) x) := by
  obtain ⟨h1, h2⟩ := h
  refine ⟨put_len h1 (by omega), ?_⟩
  have e : (m ++ x).length % 64 = m.length % 64 + x.length := by rw [List.length_append]; omega
  have e2 : (m ++ x).length - (m.length % 64 + x.length) = m.length - m.length % 64 := by rw [List.length_append]; omega
  rw [e, e2, List.drop_append_of_le_length (by omega), ← h2]
  unfold put
  rw [List.take_append_of_le_length (by simp; omega), List.take_of_length_le (by simp; omega)]
theorem tail_full {m blk x : List UInt8} (h : Tail m blk) (hx : x.length + m.length % 64 = 64) : Tail (m ++ x) (put blk (m.length % 64) x) ∧ absorb iv (m ++ x) = comp (absorb iv m) (put blk (m.length % 64) x) := by
  obtain ⟨h1, h2⟩ := h
  refine ⟨⟨put_len h1 (by omega), ?_⟩, ?_⟩
  · have e : (m ++ x).length % 64 = 0 := by rw [List.length_append]; omega
    rw [e]
    simp
  · rw [absorb_next hx]
    congr 1
    unfold put
    rw [h2, List.drop_of_length_le (l := blk) (by omega), List.append_nil]

/-- The cells behind a copy into the block. -/
theorem strm_put {s : S8} {blk x : List UInt8} {n q : Nat} (h : blk.length = 64) (hq : q + x.length ≤ 64) :
    (strm s blk n).take (8 + q) ++ x.map B8 ++ (strm s blk n).drop (8 + q + x.length) = strm s (put blk q x) n := by
  have hl : (s.l.map W4).length = 8 := rfl
  unfold strm put
  rw [List.take_append, List.drop_append, hl, List.take_of_length_le (by omega), List.drop_of_length_le (by omega), List.nil_append, show 8 + q - 8 = q by omega, show 8 + q + x.length - 8 = q + x.length by omega,
    List.take_append_of_le_length (by simp; omega), List.drop_append_of_le_length (by simp; omega)]
  simp [List.map_append, List.map_take, List.map_drop]
theorem strm_n {s : S8} {blk : List UInt8} {n k : Nat} (_h : blk.length = 64) : (strm s blk n).set 72 (.int .u64 (k : Int)) = strm s blk k := by
  have hl : (s.l.map W4).length = 8 := rfl
  unfold strm
  rw [List.set_append_right _ _ (by omega), hl, List.set_append_right _ _ (by simp; omega)]
  simp [_h]
theorem strm_at {s : S8} {blk : List UInt8} {n : Nat} (h : blk.length = 64) : (strm s blk n)[72]? = some (.int .u64 (n : Int)) := by
  have hl : (s.l.map W4).length = 8 := rfl
  unfold strm
  rw [List.getElem?_append_right (by omega), hl, List.getElem?_append_right (by simp; omega)]
  simp [h]
theorem strm_blk {s : S8} {blk : List UInt8} {n j : Nat} {u : Value} (h : blk.length = 64) (hu : (blk.map B8)[j]? = some u) : (strm s blk n)[8 + j]? = some u := by
  have hl : (s.l.map W4).length = 8 := rfl
  have hj : j < (blk.map B8).length := (List.getElem?_eq_some_iff.1 hu).1
  unfold strm
  rw [List.getElem?_append_right (by omega), hl, show 8 + j - 8 = j by omega, List.getElem?_append_left hj]
  exact hu
end Go.Proofs.YtmmomcililideaaDoor
