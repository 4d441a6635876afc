/-
  Words for natural numbers as slices of 32-bit digits.
-/
import Derived.Test.YtglnabciomlmmaaDoorProg
import Derived.Test.YtglnabciomlmmaaDoorPl04d
import Derived.Test.YtglnabciomlmmaaDoorAp
import Derived.Test.YtglnabciomlmmaaDoorLxs
import Derived.Deep.Cut
import Derived.Deep.DeepCutAuto
import Derived.BigRegion
import Derived.RegionTactic
namespace Go.Proofs.YtglnabciomlmmaaDoor
open Go.RowKit

theorem Blk.bel {w w' : World} {g : Nat} {t : TypeId} {xs : List Value} (h : Blk w g t xs) (hb : Below w.heap.size w w') : Blk w' g t xs := h.below hb h.lt
theorem bel_alloc {w X : World} (h : Below w.heap.size w X) (o : Obj) : Below w.heap.size w (X.alloc o) := h.alloc h.size o
theorem bel_next {w X w' : World} (h : Below w.heap.size w X) (hb : Below X.heap.size X w') : Below w.heap.size w w' := h.trans (hb.mono h.size)
theorem own_nil (w : World) (B : Nat) (e : TypeId) : w.ownsRow B e 1 (.slice none 0 0) 0 [] := ⟨rfl, .inl ⟨rfl, rfl⟩⟩
theorem take_snoc {α : Type} {l : List α} {k : Nat} (h : k < l.length) : l.take (k + 1) = l.take k ++ [l[k]] := (List.take_append_getElem h).symm

/-- A 32-bit digit as a cell. -/
def W32 (x : UInt32) : Value := .int .u32 (x.toNat : Int)
theorem W32s_one (l : List UInt32) : ∀ u ∈ l.map W32, u.oneCell' = true := by
  intro u hu
  obtain ⟨x, _, rfl⟩ := List.mem_map.1 hu
  rfl
theorem u32_lt (x : UInt32) : x.toNat < 4294967296 := x.toNat_lt
theorem u8_lt (x : UInt8) : x.toNat < 256 := x.toNat_lt
/-- A slice that reads as the digits l. -/
def Dg (l : List UInt32) (v : Value) (w : World) : Prop := ∃ A c, v = .slice A l.length c ∧ Rd w 1 (.slice A l.length c) l.length (l.map W32)
theorem Dg.lasts (l : List UInt32) : Lasts (Dg l) := by
  rintro v X Y ⟨A, c, hv, hr⟩ hS
  exact ⟨A, c, hv, hr.below hS⟩
theorem Dg.bel {l : List UInt32} {v : Value} {X Y : World} (h : Dg l v X) (hS : Below X.heap.size X Y) : Dg l v Y := Dg.lasts l v X Y h hS
/-- A number. -/
abbrev Lm (z : Nat) (v : Value) (w : World) : Prop := Dg (ld z) v w

/-- A digit's cell. -/
theorem Rd.digit {w : World} {A : Option Addr} {n c : Nat} {l : List UInt32} (h : Rd w 1 (.slice A n c) n (l.map W32)) {k : Nat} (hk : k < n) :
    ∃ b off, A = some ⟨b, off, none⟩ ∧ b < w.heap.size ∧ w.cell? ⟨b, off + k, none⟩ = some (.int .u32 ((l.getD k 0).toNat : Int)) := by
  have hl : l.length = n := by have := h.1; simpa using this
  obtain ⟨b, off, hA, hb, hc⟩ := h.cellAt (by omega)
  refine ⟨b, off, hA, hb, ?_⟩
  have hkl : k < l.length := by omega
  have := hc k (W32 l[k]) (by simp [hkl])
  rw [this]
  simp [W32, List.getD, hkl]
theorem Rd.n_dg {w : World} {A : Option Addr} {n c : Nat} {l : List UInt32} (h : Rd w 1 (.slice A n c) n (l.map W32)) : l.length = n := by have := h.1; simpa using this
theorem info_u32 : (Tryd.prog.info? 63).map (fun i => (i.zero, i.size, i.bytes)) = some (some (.int .u32 0), 1, 4) := by kernel_rfl
theorem size_u32 : (Tryd.prog.info? 63).map (·.size) = some 1 := by kernel_rfl
theorem size_u8 : (Tryd.prog.info? 5).map (·.size) = some 1 := by kernel_rfl
theorem info_u8 : (Tryd.prog.info? 5).map (fun i => (i.zero, i.size, i.bytes)) = some (some (.int .u8 0), 1, 1) := by kernel_rfl
theorem load_u32 (b k : Nat) (X : World) (v : Value) (h : X.cell? ⟨b, k, none⟩ = some v) : (loadVar 63 ⟨b, k, none⟩).run Tryd.prog X = .ok v X := by
  go_simp
theorem load_u8 (b k : Nat) (X : World) (v : Value) (h : X.cell? ⟨b, k, none⟩ = some v) : (loadVar 5 ⟨b, k, none⟩).run Tryd.prog X = .ok v X := by
  go_simp

/-- 'append(s, x, ..)' of new cells that were laid just before. -/
theorem app_new {P : Program} {w : World} {ops : Array Oper} {rest : List Oper} {o : Oper} {a : Act} {Q : Exit → Act → World → Prop} {cs : Array Value} {tb : TypeId} (hgd : o.guard = none) {s x : Operand} {t : TypeId}
    (ho : o.op = .call { callee := .builtin .append, args := #[s, x], argTypes := #[t, t] }) {e : TypeId} {z : Value} {bytes : Nat} (ht : P.underlying t = some (.slice e)) (hi : (P.info? e).map (fun i => (i.zero, i.size, i.bytes)) = some (some z, 1, bytes)) (hz1 : z.cells.size = 1)
    (base : Nat) (v : Value) (n : Nat) (xs us : List Value) (hcs : cs = us.toArray) (hs : a.eval s = v) (hown : w.ownsRow base e 1 v n xs) {m : Nat} (hm : us.length = m)
    (hx : a.eval x = .slice (some ⟨w.heap.size, 0, none⟩) m m) (h1 : ∀ u ∈ us, u.oneCell' = true) (hn : (n + m) * bytes ≤ 140737488355328) (hn2 : n + m ≤ 140737488355328) (hbase : base ≤ w.heap.size)
    (h : ∀ A' c' w', w'.ownsRow base e 1 (.slice A' (n + m) c') (n + m) (xs ++ us) → n + m ≤ c' → c' ≤ maxLen → Below base w w' → wpList P ops Q rest (a.put o.dst (.slice A' (n + m) c')) w') :
    wpList P ops Q (o :: rest) a (w.alloc (.cells cs tb)) := by
  subst hcs
  obtain ⟨i, hi', hz0, hsz, hby⟩ := info_parts hi
  refine wpList_append_own _ hgd s x t ho base e i z 1 bytes ht hi' hz0 hsz hby hz1 (by decide) v n xs hs (hown.alloc _) ⟨w.heap.size, 0, none⟩ m m us hx (by omega) ?_ h1 (by unfold maxLen; omega) hn (by simp; omega) ?_
  · intro j u hj
    have hb : Blk (w.alloc (.cells us.toArray tb)) w.heap.size tb us := Blk.new rfl
    have := hb.cell hj
    rw [addr_add, Nat.zero_add]
    exact this
  · intro v' w' h2 h3 _
    have h4 : Below base w w' := ((Below.refl base w).alloc hbase _).grown h3 (by simp; omega) (by intro k hk; exact (hown.lt k hk).1)
    have hR := Rd.of_own h2
    obtain ⟨A', c', rfl, h5, h6⟩ := hR.form
    exact h A' c' w' h2 h5 h6 h4
/-- What reads as a part of a slice. -/
theorem Rd.pre1 {w : World} {A : Option Addr} {n c k : Nat} {l : List UInt32} (h : Rd w 1 (.slice A n c) n (l.map W32)) (hk : k ≤ n) : Rd w 1 (.slice A k c) k ((l.take k).map W32) := by
  have := h.pre (k := k) hk
  rwa [← List.map_take] at this
theorem Rd.byte {w : World} {A : Option Addr} {n c : Nat} {l : List UInt8} (h : Rd w 1 (.slice A n c) n (l.map B8)) {k : Nat} (hk : k < n) :
    ∃ b off, A = some ⟨b, off, none⟩ ∧ b < w.heap.size ∧ w.cell? ⟨b, off + k, none⟩ = some (.int .u8 ((l.getD k 0).toNat : Int)) := by
  have hl : l.length = n := by have := h.1; simpa using this
  obtain ⟨b, off, hA, hb, hc⟩ := h.cellAt (by omega)
  refine ⟨b, off, hA, hb, ?_⟩
  have hkl : k < l.length := by omega
  have := hc k (B8 l[k]) (by simp [hkl])
  rw [this]
  simp [B8, List.getD, hkl]
theorem val_take_succ (l : List UInt8) {k : Nat} (h : k < l.length) : val (l.take (k + 1)) = val (l.take k) * 256 + (l.getD k 0).toNat := by
  rw [take_snoc h, val_snoc]
  simp [List.getD, h]
theorem val_take_lt (l : List UInt8) (k : Nat) : val (l.take k) < 256 ^ k := by
  have h1 := val_lt (l.take k)
  have h2 : (l.take k).length ≤ k := List.length_take_le _ _
  exact Nat.lt_of_lt_of_le h1 (Nat.pow_le_pow_right (by omega) h2)
theorem int_eq {k : IntKind} {a b : Int} (h : a = b) : Value.int k a = Value.int k b := by rw [h]
theorem mk_mid (l : List UInt8) (p q : Nat) : (⟨l.toArray⟩ : ByteArray).extract p q = ⟨((l.drop p).take (q - p)).toArray⟩ := by
  apply ByteArray.ext
  rw [ByteArray.data_extract]
  simp [List.extract_eq_take_drop]
/-- 's[i:j]'. -/
theorem exec_mid {P : Program} {f : Operand → Value} {o : Oper} (t : TypeId) (hu : P.underlying t = some .string) (x lo hi : Operand) (ho : o.op = .slice t x (some lo) (some hi) none) (l : List UInt8) (p q : Nat) (hx : f x = .string ⟨l.toArray⟩) (hlo : f lo = .int .i64 (p : Int)) {z : Int} (hh : f hi = .int .i64 z) (hz : z = (q : Int)) (hpq : p ≤ q) (hk : q ≤ l.length) (w : World) :
    (execOp f o).run P w = .ok (.value (.string ⟨((l.drop p).take (q - p)).toArray⟩)) w := by
  have h := mk_mid l p q
  subst hz
  have h2 : (⟨l.toArray⟩ : ByteArray).size = l.length := by simp [ByteArray.size]
  unfold execOp
  simp only [ho, hx, hlo, hh, Option.map]
  go_simp
/-- 's[i]' of a string. -/
theorem exec_chr {P : Program} {f : Operand → Value} {o : Oper} (t : TypeId) (hu : P.underlying t = some .string) (x i : Operand) (ho : o.op = .index t x i) (l : List UInt8) (k : Nat) (hx : f x = .string ⟨l.toArray⟩) {z : Int} (hi : f i = .int .i64 z) (hz : z = (k : Int)) (hk : k < l.length) (w : World) :
    (execOp f o).run P w = .ok (.value (.int .u8 ((l.getD k 0).toNat : Int))) w := by
  subst hz
  have h2 : (⟨l.toArray⟩ : ByteArray).size = l.length := by simp [ByteArray.size]
  have h3 : (⟨l.toArray⟩ : ByteArray)[k]'(by rw [h2]; exact hk) = l.getD k 0 := by
    show l.toArray[k] = _
    simp [List.getD, hk]
  have h1 : (0 : Int) ≤ (k : Int) ∧ (k : Int) < (l.length : Int) := ⟨by omega, by omega⟩
  unfold execOp
  simp only [ho, hx, hi]
  go_simp
/-- 'make(limbs, n)'. -/
def MadeB (n B : Nat) (v : Value) (X : World) : Prop := ∃ g, v = .slice (some ⟨g, 0, none⟩) n n ∧ B ≤ g ∧ Blk X g 63 ((List.replicate n (0 : UInt32)).map W32)
theorem MadeB.lasts (n B : Nat) : Lasts (MadeB n B) := by
  rintro v X Y ⟨g, h1, h2, h3⟩ hS
  exact ⟨g, h1, h2, h3.bel hS⟩
theorem exec_make {f : Operand → Value} {o : Oper} (x y : Operand) (ho : o.op = .makeSlice 51 x y) (n B : Nat) {z : Int} (hx : f x = .int .i64 z) (hy : f y = .int .i64 z) (hz : z = (n : Int)) (hn : n ≤ 1073741824) (X : World) (hB : B ≤ X.heap.size) :
    ∃ v X', (execOp f o).run Tryd.prog X = .ok (.value v) X' ∧ MadeB n B v X' ∧ Since X X' := by
  subst hz
  obtain ⟨i, hi, hz0, hsz, hby⟩ := info_parts info_u32
  have hr := run_make (P := Tryd.prog) X 51 63 i (.int .u32 0) Tryd.underlying51 hi hz0 .i64 .i64 n n (by omega) (by omega) (by rw [hby]; omega) (by omega)
  simp only [Int.toNat_natCast, hsz, Nat.mul_one] at hr
  refine ⟨_, X.alloc (.cells (madeCells (Value.int IntKind.u32 0).cells n) 63), ?_, ⟨X.heap.size, rfl, hB, ?_⟩, (Below.refl X.heap.size X).alloc (Nat.le_refl _) _⟩
  · unfold execOp
    simp only [ho, hx, hy, Sem.run_bind, hr, Result.andThen_ok, Sem.run_pure]
  · refine Blk.new ?_
    apply Array.ext
    · simp [size_madeCells, Value.cells]
    · intro j h1 h2
      simp [madeCells, Value.cells, W32, Nat.mod_one]
theorem exec_st32 {f : Operand → Value} {o : Oper} (x y : Operand) (ho : o.op = .store 63 x y) (g j : Nat) {n : Int} (hx : f x = .pointer (some ⟨g, j, none⟩)) (hy : f y = .int .u32 n) (u : Value) (X : World) (hc : X.cell? ⟨g, j, none⟩ = some u) (hf : X.frozen? ⟨g, j, none⟩ = false) :
    (execOp f o).run Tryd.prog X = .ok .skip (X.setCell ⟨g, j, none⟩ (.int .u32 n)) := by
  unfold execOp
  simp only [ho, hx, hy]
  go_simp
end Go.Proofs.YtglnabciomlmmaaDoor
