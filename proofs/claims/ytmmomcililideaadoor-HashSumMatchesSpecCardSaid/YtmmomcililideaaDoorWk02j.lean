/-
  The reference's hash of bytes.
-/
import Derived.Test.YtmmomcililideaaDoorWk02i
import Derived.Test.YtmmomcililideaaDoorAp8
set_option linter.unusedSimpArgs false
set_option linter.unusedVariables false
namespace Go.Proofs.YtmmomcililideaaDoor
open Go.RowKit

/-- The reference's table of constants lies where it lies. -/
def KK0 (w : World) : Prop := 0 < w.heap.size ∧ Cl w 0 0 (kk.map W4)
theorem KK0.below {w w' : World} {B : Nat} (h : KK0 w) (hb : Below B w w') (hB : 0 < B) : KK0 w' :=
  ⟨Nat.lt_of_lt_of_le h.1 hb.size, h.2.below hb hB⟩
theorem not32r (x : UInt32) : bits .xor .u32 (un x : Int) 4294967295 = (un (~~~x) : Int) := by
  have e : (4294967295 : Int) = (un (4294967295 : UInt32) : Int) := by decide +kernel
  rw [e, xor32]
  have h : x ^^^ 4294967295 = ~~~x := by
    apply UInt32.toBitVec_inj.1
    simp only [UInt32.toBitVec_xor, UInt32.toBitVec_not]
    rw [BitVec.not_def, BitVec.xor_comm]
    rfl
  rw [h]
theorem l_len (s : S8) : (s.l.map W4).length = 8 := rfl
theorem l_cell (s : S8) {k : Nat} (h : k < 8) : (s.l.map W4)[k]? = some (.int .u32 (un (s.l.getD k 0) : Int)) := by
  have : k < s.l.length := h
  simp [List.getElem?_eq_getElem this, W4]
/-- The state after the first k words have been added. -/
def mixL (s r : S8) (k : Nat) : List UInt32 := (s.add r).l.take k ++ s.l.drop k
theorem mixL_0 (s r : S8) : mixL s r 0 = s.l := by simp [mixL]
theorem mixL_8 (s r : S8) : mixL s r 8 = (s.add r).l := by simp [mixL, S8.l]
theorem mixL_cell (s r : S8) {k : Nat} (h : k < 8) : ((mixL s r k).map W4)[k]? = some (.int .u32 (un (s.l.getD k 0) : Int)) := by
  have h1 : k < s.l.length := h
  have h2 : k < (s.add r).l.length := h
  unfold mixL
  rw [List.map_append, List.getElem?_append_right (by rw [List.length_map, List.length_take]; omega), List.length_map, List.length_take, Nat.min_eq_left (Nat.le_of_lt h2), Nat.sub_self, List.getElem?_map, List.getElem?_drop]
  simp [List.getElem?_eq_getElem h1, W4]
theorem add_getD (s r : S8) {k : Nat} (h : k < 8) : (s.add r).l.getD k 0 = s.l.getD k 0 + r.l.getD k 0 := by
  match k, h with
  | 0, _ | 1, _ | 2, _ | 3, _ | 4, _ | 5, _ | 6, _ | 7, _ => rfl
  | k + 8, h => omega
theorem mixL_set (s r : S8) {k : Nat} (h : k < 8) : ((mixL s r k).map W4).set k (W4 (s.l.getD k 0 + r.l.getD k 0)) = (mixL s r (k + 1)).map W4 := by
  have h1 : k < s.l.length := h
  have h2 : k < (s.add r).l.length := h
  have e := add_getD s r h
  unfold mixL
  rw [← List.map_set, List.set_append_right _ _ (by rw [List.length_take]; omega), List.length_take, Nat.min_eq_left (Nat.le_of_lt h2), Nat.sub_self, List.drop_eq_getElem_cons h1, List.set_cons_zero, take_snoc h2, List.append_assoc]
  congr 2
  rw [← e]
  simp [List.getD, List.getElem?_eq_getElem h2]
theorem mixL_len (s r : S8) {k : Nat} (h : k ≤ 8) : ((mixL s r k).map W4).length = 8 := by
  have h1 : s.l.length = 8 := rfl
  have h2 : (s.add r).l.length = 8 := rfl
  unfold mixL
  rw [List.length_map, List.length_append, List.length_take, List.length_drop]
  omega
theorem pad_mod (b : List UInt8) : (b ++ padding b.length).length % 64 = 0 := by
  have h : zerosFor b.length < 64 ∧ (b.length + 1 + zerosFor b.length) % 64 = 56 := by unfold zerosFor; omega
  unfold padding
  simp only [List.length_append, List.length_cons, List.length_replicate]
  have : (be8 (8 * b.length)).length = 8 := by simp [be8]
  omega
theorem pad_le (b : List UInt8) : (b ++ padding b.length).length ≤ b.length + 80 := by
  have h : zerosFor b.length < 64 := by unfold zerosFor; omega
  unfold padding
  simp only [List.length_append, List.length_cons, List.length_replicate]
  have : (be8 (8 * b.length)).length = 8 := by simp [be8]
  omega
theorem rnd_l (st : S8) (kt wt : UInt32) : ((rnd st kt wt).l.map W4).toArray = #[.int .u32 (un ((st.h + mix3 st.e 6 11 25 + ((st.e &&& st.f) ^^^ (~~~st.e &&& st.g)) + kt + wt) + (mix3 st.a 2 13 22 + ((st.a &&& st.b) ^^^ (st.a &&& st.c) ^^^ (st.b &&& st.c)))) : Int), .int .u32 (un st.a : Int), .int .u32 (un st.b : Int), .int .u32 (un st.c : Int),
    .int .u32 (un (st.d + (st.h + mix3 st.e 6 11 25 + ((st.e &&& st.f) ^^^ (~~~st.e &&& st.g)) + kt + wt)) : Int), .int .u32 (un st.e : Int), .int .u32 (un st.f : Int), .int .u32 (un st.g : Int)] := rfl

theorem Rd.far {w w' : World} {B b off n c size : Nat} {xs : List Value} (h : Rd w size (.slice (some ⟨b, off, none⟩) n c) n xs) (hb : b < B) (hB : Below B w w') : Rd w' size (.slice (some ⟨b, off, none⟩) n c) n xs := by
  obtain ⟨hl, A', c', hv, hc, hm, hz, hr⟩ := h
  injection hv with h1 h2 h3
  subst h1 h3
  refine ⟨hl, _, _, rfl, hc, hm, hz, fun hn => ?_⟩
  obtain ⟨b', off', hA, hb', hx⟩ := hr hn
  injection hA with hA
  injection hA with e1 e2 e3
  subst e1 e2
  exact ⟨b, off, rfl, Nat.lt_of_lt_of_le hb' hB.size, fun j u hj => (hB.cell (p := ⟨b, off + j, none⟩) hb).trans (hx j u hj)⟩

/-- A store into another block. -/
theorem Rd.other {w : World} {a : Addr} {u : Value} {b off n c size : Nat} {xs : List Value} (h : Rd w size (.slice (some ⟨b, off, none⟩) n c) n xs) (hne : b ≠ a.block) : Rd (w.setCell a u).drew size (.slice (some ⟨b, off, none⟩) n c) n xs := by
  obtain ⟨hl, A', c', hv, hc, hm, hz, hr⟩ := h
  injection hv with h1 h2 h3
  subst h1 h3
  refine ⟨hl, _, _, rfl, hc, hm, hz, fun hn => ?_⟩
  obtain ⟨b', off', hA, hb', hx⟩ := hr hn
  injection hA with hA
  injection hA with e1 e2 e3
  subst e1 e2
  refine ⟨b, off, rfl, by simpa [World.setCell] using hb', fun j u' hj => ?_⟩
  have := World.cell?_setCell_other w a ⟨b, off + j, none⟩ u (fun e => hne (by rw [e]))
  exact this.trans (hx j u' hj)
theorem Rd.blk_lt {w : World} {b off n c size : Nat} {xs : List Value} (h : Rd w size (.slice (some ⟨b, off, none⟩) n c) n xs) (hn : 0 < n) : b < w.heap.size := by
  obtain ⟨b', off', hA, hb', -⟩ := h.cellAt hn
  injection hA with hA
  injection hA with e1 e2 e3
  subst e1
  exact hb'
theorem own_blk {w : World} {base n c size : Nat} {e : TypeId} {A : Option Addr} {xs : List Value} (h : w.ownsRow base e size (.slice A n c) n xs) (hn : 0 < n * size) : ∃ b, A = some ⟨b, 0, none⟩ ∧ base ≤ b ∧ b < w.heap.size := by
  obtain ⟨hl, h | ⟨g, cap, cur, hv, hg, hh, _⟩⟩ := h
  · rw [h.2] at hn
    simp at hn
  · injection hv with h1
    exact ⟨g, h1, hg, (Array.getElem?_eq_some_iff.1 hh).1⟩
theorem pad_pos (b : List UInt8) : 0 < (b ++ padding b.length).length := by unfold padding; simp; omega

theorem rnd_m {st : S8} {kt wt xx yy : UInt32} (hx : xx = xr st kt wt) (hy : yy = yr st) : ((rnd st kt wt).l.map W4).toArray = #[.int .u32 (un (xx + yy) : Int), .int .u32 (un st.a : Int), .int .u32 (un st.b : Int), .int .u32 (un st.c : Int),
    .int .u32 (un (st.d + xx) : Int), .int .u32 (un st.e : Int), .int .u32 (un st.f : Int), .int .u32 (un st.g : Int)] := by
  subst hx hy
  rfl

/-- What lies in memory in a round. -/
structure RW (w wx : World) (g1 gW gv : Nat) (L V : List Value) (blk : List UInt8) : Prop where
  B0 : Blk wx w.heap.size 24 o32
  B1 : Blk wx g1 30 L
  BW : Blk wx gW 63 ((sw blk 64).map W4)
  BV : Blk wx gv 30 V
  n1 : w.heap.size < g1
  nW : g1 < gW
  nv : gW < gv
  bel : Below w.heap.size w wx
theorem RW.drewN {w wx : World} {g1 gW gv : Nat} {L V : List Value} {blk : List UInt8} (h : RW w wx g1 gW gv L V blk) (n : Nat) : RW w (wx.drewN n) g1 gW gv L V blk :=
  ⟨h.B0, h.B1, h.BW, h.BV, h.n1, h.nW, h.nv, bel_drewN h.bel n⟩
theorem RW.since {w wx wy : World} {g1 gW gv : Nat} {L V : List Value} {blk : List UInt8} (h : RW w wx g1 gW gv L V blk) (hb : Below wx.heap.size wx wy) : RW w wy g1 gW gv L V blk :=
  ⟨h.B0.below hb h.B0.lt, h.B1.below hb h.B1.lt, h.BW.below hb h.BW.lt, h.BV.below hb h.BV.lt, h.n1, h.nW, h.nv, h.bel.trans (hb.mono h.bel.size)⟩
end Go.Proofs.YtmmomcililideaaDoor
