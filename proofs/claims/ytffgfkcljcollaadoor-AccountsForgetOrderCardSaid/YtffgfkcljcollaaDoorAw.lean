/-
  Layer 44: entries and accounts as values.
-/
import Derived.Test.YtffgfkcljcollaaDoorProg
import Derived.Maps.Own
import Derived.Maps.Views
import Derived.Test.YtffgfkcljcollaaDoorPl44e
import Derived.Test.YtffgfkcljcollaaDoorRf
import Derived.Test.YtffgfkcljcollaaDoorLa
import Derived.Test.YtffgfkcljcollaaDoorLar
import Derived.Test.YtffgfkcljcollaaDoorPl44b
import Derived.Test.YtffgfkcljcollaaDoorKe
import Derived.Test.YtffgfkcljcollaaDoorPl31b
set_option linter.unusedSimpArgs false
set_option linter.unusedVariables false
set_option maxRecDepth 100000
set_option maxHeartbeats 1600000
namespace Go.Proofs.YtffgfkcljcollaaDoor
def aw (l : List Int) (f u tick : Nat) : Int := tk l (min l.length (u - tick)) - tk l (min l.length (f - tick))
/-- A part: from, to, weight. -/
abbrev Wp := Nat × Nat × Int
instance : Inhabited Wp := ⟨(0, 0, 0)⟩
def pw (P : List Wp) (k : Nat) : Wp := P.getD k default
/-- Whether a tick's weight is joined to the last part. -/
def arJ (P : List Wp) (last : Int) (tick : Nat) (w : Int) : Prop := 0 < P.length ∧ (pw P (P.length - 1)).2.1 = tick ∧ last = w
instance (P : List Wp) (last : Int) (tick : Nat) (w : Int) : Decidable (arJ P last tick w) := by unfold arJ; exact inferInstance
end Go.Proofs.YtffgfkcljcollaaDoor
namespace Go.Proofs.YtffgfkcljcollaaDoor
open Go.RowKit
/-- A part as it lies; t: the sum of all weights. -/
def wdc (t : Int) (p : Wp) : List Value := [.int .i64 (p.1 : Int), .int .i64 (p.2.1 : Int), .bool (rN (rk p.2.2 t)), .string ⟨(rP (rk p.2.2 t)).toArray⟩, .string ⟨(rD (rk p.2.2 t)).toArray⟩]
end Go.Proofs.YtffgfkcljcollaaDoor
namespace Go.Proofs.YtffgfkcljcollaaDoor
open Go.RowKit
/-- A pair of a value with a law and an error. -/
def Tp (L : Value → World → Prop) (e : Int) (v : Value) (X : World) : Prop := ∃ u, v = .tuple #[u, .int .i64 e] ∧ L u X
theorem Tp.lasts {L : Value → World → Prop} (hL : Lasts L) (e : Int) : Lasts (Tp L e) := by
 rintro v X Y ⟨u, h1, h2⟩ hS
 exact ⟨u, h1, hL _ _ _ h2 hS⟩
/-- A kernel as a value. -/
def Kn (l : List Int) (v : Value) (X : World) : Prop := ∃ u, v = .agg #[u] ∧ Ks l u X
theorem Kn.lasts (l : List Int) : Lasts (Kn l) := by
 rintro v X Y ⟨u, h1, h2⟩ hS
 exact ⟨u, h1, Ks.lasts l _ _ _ h2 hS⟩
theorem ks_nil (X : World) : Ks [] (.slice none 0 0) X := ⟨none, 0, rfl, rfl, none, 0, rfl, Nat.le_refl _, Nat.zero_le _, fun _ => rfl, fun h => absurd h (by decide)⟩
/-- Numbers in a slice. -/
def Rq (l : List Rat) (v : Value) (X : World) : Prop := Rl (l.map tr) v X
theorem Rq.lasts (l : List Rat) : Lasts (Rq l) := fun _ _ _ h hS => Rl.lasts _ _ _ _ h hS
theorem Rq.of_blk {l : List Rat} {g : Nat} {X : World} (h : Blk X g 30 (fl rc l)) (hl : l.length ≤ 1000000) : Rq l (.slice (some ⟨g, 0, none⟩) l.length l.length) X := by
 have h1 : fl trc (l.map tr) = fl rc l := by
  unfold fl
  rw [List.map_map]
  rfl
 show Rd X 3 _ (l.map tr).length (fl trc (l.map tr))
 rw [h1, List.length_map];exact ⟨by rw [rcs_len], _, _, rfl, Nat.le_refl _, (by unfold maxLen; omega), (fun h => by cases h), fun _ => ⟨g, 0, rfl, h.lt, fun j u hj => by rw [Nat.zero_add]; exact h.cell hj⟩⟩
theorem Rm.rq {l : List Rat} {B : Nat} {v : Value} {X : World} (h : Rm l B v X) : Rq l v X := by
 obtain ⟨g, rfl, h2, h4, h3⟩ := h;exact Rq.of_blk h3 h4
/-- Parts in a slice; t: the sum of the weights. -/
def Pl (P : List Wp) (t : Int) (v : Value) (X : World) : Prop := Rd X 5 v P.length (fl (wdc t) P)
theorem Pl.lasts (P : List Wp) (t : Int) : Lasts (Pl P t) := fun _ _ _ h hS => Rd.below h hS
/-- A store into a variable that holds a slice leaves what holds no slices. -/
theorem Rd.var {X Y : World} {g m n : Nat} {T : TypeId} {v : Value} {xs : List Value} {A0 : Option Addr} {n0 c0 : Nat} (h : Rd X m v n xs) (hns : ∀ u ∈ xs, ∀ A n c, u ≠ .slice A n c) (hB : Blk X g T [.slice A0 n0 c0]) (hG : X.grownBy Y (some g)) : Rd Y m v n xs := by
 obtain ⟨hl, A, c, hv, hc, hm, hz, hx⟩ := h;refine ⟨hl, A, c, hv, hc, hm, hz, fun hn => ?_⟩;obtain ⟨b, off, hA, hb, hcell⟩ := hx hn;refine ⟨b, off, hA, Nat.lt_of_lt_of_le hb hG.size, fun j u hj => ?_⟩;have h1 := hcell j u hj
 have hne : b ≠ g := fun h9 => by
  subst h9;rw [cell_of_row _ _ _ _ _ _ hB] at h1
  have h2 : ([Value.slice A0 n0 c0] : List Value)[off + j]? = some u := by simpa using h1
  rcases Nat.eq_zero_or_pos (off + j) with h3 | h3
  ·rw [h3] at h2
   injection h2 with h2
   exact hns u (List.mem_of_getElem? hj) _ _ _ h2.symm
  ·rw [List.getElem?_eq_none (by show 1 ≤ off + j; omega)] at h2
   cases h2
 exact (World.cell?_of_block (w := X) (a := ⟨b, off + j, none⟩) (hG.block b hb (fun h9 => hne (by injection h9)))).trans h1
theorem Ks.grown {X Y : World} {g : Nat} {T : TypeId} {l : List Int} {v : Value} {A0 : Option Addr} {n0 c0 : Nat} (hG : X.grownBy Y (some g)) (h : Ks l v X) (hB : Blk X g T [.slice A0 n0 c0]) : Ks l v Y := by
 obtain ⟨A, c, hv, hr⟩ := h;exact ⟨A, c, hv, hr.var (fun u hu A n c h9 => by obtain ⟨x, _, rfl⟩ := List.mem_map.1 hu; cases h9) hB hG⟩
theorem Kn.grown {X Y : World} {g : Nat} {T : TypeId} {l : List Int} {v : Value} {A0 : Option Addr} {n0 c0 : Nat} (hG : X.grownBy Y (some g)) (h : Kn l v X) (hB : Blk X g T [.slice A0 n0 c0]) : Kn l v Y := by
 obtain ⟨u, hu, hk⟩ := h;exact ⟨u, hu, hk.grown hG hB⟩
theorem Rl.grown {X Y : World} {g : Nat} {T : TypeId} {l : List Tr} {v : Value} {A0 : Option Addr} {n0 c0 : Nat} (hG : X.grownBy Y (some g)) (h : Rl l v X) (hB : Blk X g T [.slice A0 n0 c0]) : Rl l v Y :=
 Rd.var h (fun u hu A n c h9 => by
  subst h9
  unfold fl at hu
  obtain ⟨y, hy, hz⟩ := List.mem_flatten.1 hu;obtain ⟨t, _, rfl⟩ := List.mem_map.1 hy
  unfold trc at hz
  simp at hz) hB hG
theorem Rq.grown {X Y : World} {g : Nat} {T : TypeId} {l : List Rat} {v : Value} {A0 : Option Addr} {n0 c0 : Nat} (hG : X.grownBy Y (some g)) (h : Rq l v X) (hB : Blk X g T [.slice A0 n0 c0]) : Rq l v Y := Rl.grown hG h hB
theorem Pl.grown {X Y : World} {g : Nat} {T : TypeId} {l : List Wp} {t : Int} {v : Value} {A0 : Option Addr} {n0 c0 : Nat} (hG : X.grownBy Y (some g)) (h : Pl l t v X) (hB : Blk X g T [.slice A0 n0 c0]) : Pl l t v Y :=
 Rd.var h (fun u hu A n c h9 => by
  subst h9
  unfold fl at hu
  obtain ⟨y, hy, hz⟩ := List.mem_flatten.1 hu;obtain ⟨x, _, rfl⟩ := List.mem_map.1 hy
  unfold wdc at hz
  simp at hz) hB hG
/-- A variable that was made. -/
def Av (T : TypeId) (z : List Value) (B : Nat) (v : Value) (X : World) : Prop := ∃ g, v = .pointer (some ⟨g, 0, none⟩) ∧ B ≤ g ∧ Blk X g T z
theorem Av.lasts (T : TypeId) (z : List Value) (B : Nat) : Lasts (Av T z B) := by
 rintro v X Y ⟨g, h1, h2, h3⟩ hS
 exact ⟨g, h1, h2, h3.bel hS⟩
theorem Av.mk {P : Program} {f : Operand → Value} {o : Oper} (T : TypeId) (z : List Value) (B : Nat) {X : World} (hB : B ≤ X.heap.size) (hr : (execOp f o).run P X = .ok (.value (.pointer (some ⟨X.heap.size, 0, none⟩))) (X.alloc (.cells z.toArray T))) : ∃ v X', (execOp f o).run P X = .ok (.value v) X' ∧ Av T z B v X' ∧ Since X X' :=
 ⟨_, _, hr, ⟨_, rfl, hB, Blk.new rfl⟩, since_alloc X _⟩
theorem Ks.mk {P : Program} {f : Operand → Value} {o : Oper} (l : List Int) (n : Nat) (hn : l.length = n) (hm : n ≤ 1073741824) {X : World} (hr : (execOp f o).run P X = .ok (.value (.slice (some ⟨X.heap.size, 0, none⟩) n n)) (X.alloc (.cells (l.map I64).toArray 3))) : ∃ v X', (execOp f o).run P X = .ok (.value v) X' ∧ Ks l v X' ∧ Since X X' := by
 subst hn;exact ⟨_, _, hr, Ks.of_blk (Blk.new rfl) hm, since_alloc X _⟩
theorem Rq.mk {P : Program} {f : Operand → Value} {o : Oper} (l : List Rat) (n : Nat) (hn : l.length = n) (hm : n ≤ 1000000) {X : World} (hr : (execOp f o).run P X = .ok (.value (.slice (some ⟨X.heap.size, 0, none⟩) n n)) (X.alloc (.cells (fl rc l).toArray 30))) : ∃ v X', (execOp f o).run P X = .ok (.value v) X' ∧ Rq l v X' ∧ Since X X' := by
 subst hn;exact ⟨_, _, hr, Rq.of_blk (Blk.new rfl) hm, since_alloc X _⟩
end Go.Proofs.YtffgfkcljcollaaDoor
namespace Go.Proofs.YtffgfkcljcollaaDoor
open Go.RowKit
theorem rgt_n {c : Int} {n m : Nat} {x : En} (h : x.kd ≠ 4) : rgt c n x = rgt c m x := by
 unfold rgt
 rw [if_neg h, if_neg h]
/-- Whether an entry is posted into a book of six accounts. -/
def ok6 (x : En) : Bool := decide (x.kd ≠ 4) && rgt 6 0 x
def pst (l : List En) (x : En) : List En := if ok6 x = true then l ++ [x] else l
/-- A pass: the entries that g tells, in the order s. -/
def pas (l : List En) (g : Nat → Option En) (s : Nat → Nat) : Nat → List En
 | 0 => l
 | k + 1 => match g (s k) with
  | none => pas l g s k
  | some x => pst (pas l g s k) x
theorem pas_none {l : List En} {g : Nat → Option En} {s : Nat → Nat} {k : Nat} (h : g (s k) = none) : pas l g s (k + 1) = pas l g s k := by
 show (match g (s k) with | none => pas l g s k | some x => pst (pas l g s k) x) = _
 rw [h]
theorem pas_some {l : List En} {g : Nat → Option En} {s : Nat → Nat} {k : Nat} {x : En} (h : g (s k) = some x) : pas l g s (k + 1) = pst (pas l g s k) x := by
 show (match g (s k) with | none => pas l g s k | some x => pst (pas l g s k) x) = _
 rw [h]
/-- A book whose entries are of a day at most. -/
structure Bk (l : List En) (day : Int) (m : Nat) : Prop where
 ok : Ok44 6 l
 day : ∀ k, k < l.length → (en l k).day ≤ day
 len : l.length ≤ m
theorem Bk.nil (day : Int) : Bk [] day 0 := ⟨⟨by omega, by omega, Nat.zero_le _, fun k hk => absurd hk (Nat.not_lt_zero k)⟩, fun k hk => absurd hk (Nat.not_lt_zero k), Nat.le_refl _⟩
theorem Bk.mono {l : List En} {d d' : Int} {m m' : Nat} (h : Bk l d m) (hd : d ≤ d') (hm : m ≤ m') : Bk l d' m' := ⟨h.ok, fun k hk => Int.le_trans (h.day k hk) hd, Nat.le_trans h.len hm⟩
theorem Bk.snoc {l : List En} {d : Int} {m : Nat} (h : Bk l d m) (hm : m < 4000) {x : En} (hx : ok6 x = true) (hd : x.day = d) : Bk (l ++ [x]) d (m + 1) := by
 unfold ok6 at hx
 rw [Bool.and_eq_true, decide_eq_true_eq] at hx;have hl := h.len;refine ⟨h.ok.snoc (by omega) (rgt_t.1 (by rw [rgt_n (m := 0) hx.1]; exact hx.2)) (fun h0 => by rw [hd]; exact h.day _ (by omega)) (fun h4 => absurd h4 hx.1), fun k hk => ?_, by rw [List.length_append, List.length_singleton]; omega⟩;rw [List.length_append, List.length_singleton] at hk;rw [en_snoc]
 by_cases h1 : k < l.length
 ·rw [if_pos h1]
  exact h.day k h1
 ·rw [if_neg h1, if_pos (by omega)]
  omega
theorem Bk.pst {l : List En} {d : Int} {m : Nat} (h : Bk l d m) (hm : m < 4000) {x : En} (hd : x.day = d) : Bk (Go.Proofs.YtffgfkcljcollaaDoor.pst l x) d (m + 1) := by
 unfold Go.Proofs.YtffgfkcljcollaaDoor.pst
 split
 ·rename_i h1
  exact h.snoc hm h1 hd
 ·exact h.mono (Int.le_refl _) (by omega)
theorem Bk.pas {l : List En} {d : Int} {m : Nat} (h : Bk l d m) {g : Nat → Option En} (hg : ∀ i x, g i = some x → x.day = d) (s : Nat → Nat) : ∀ {k : Nat}, m + k ≤ 4000 → Bk (Go.Proofs.YtffgfkcljcollaaDoor.pas l g s k) d (m + k)
 | 0, _ => h
 | k + 1, hk => by
  have ih := h.pas hg s (k := k) (by omega)
  rcases hx : g (s k) with _ | x
  ·rw [pas_none hx]
   exact ih.mono (Int.le_refl _) (by omega)
  ·rw [pas_some hx]
   exact ih.pst (by omega) (hg _ _ hx)
/-- What an entry brings if it is posted. -/
def con (o : Option En) (a f t : Int) : Rat := match o with
 | none => 0
 | some x => if ok6 x = true then itm x a f t 0 else 0
theorem bal_pst (l : List En) (x : En) (a f t : Int) : bal (pst l x) a f t 0 = bal l a f t 0 + con (some x) a f t := by
 unfold pst con
 simp only
 split
 ·exact bal_snoc l x a f t 0
 ·exact (Rat.add_zero _).symm
theorem bal_pas (l : List En) (g : Nat → Option En) (s : Nat → Nat) (a f t : Int) : ∀ k, bal (pas l g s k) a f t 0 = bal l a f t 0 + sm k fun i => con (g (s i)) a f t
 | 0 => (Rat.add_zero _).symm
 | k + 1 => by
  rw [sm_succ, ← Rat.add_assoc, ← bal_pas l g s a f t k]
  rcases hx : g (s k) with _ | x
  ·rw [pas_none hx]
   exact (Rat.add_zero _).symm
  ·rw [pas_some hx]
   exact bal_pst _ x a f t
/-- Two orders of the same entries. -/
theorem pas_same {l m : List En} {g : Nat → Option En} {n : Nat} {a f t : Int} (h : bal l a f t 0 = bal m a f t 0) (s r : Nat → Nat) (hs : sm n (fun i => con (g (s i)) a f t) = sm n (fun i => con (g i) a f t)) (hr : sm n (fun i => con (g (r i)) a f t) = sm n (fun i => con (g i) a f t)) : bal (pas l g s n) a f t 0 = bal (pas m g r n) a f t 0 := by
 rw [bal_pas, bal_pas, h, hs, hr]
/-- The entries of one of the two days, as they are posted. -/
def pick (l : List En) (d : Nat) (i : Nat) : Option En := if (en l i).day % 2 = (d : Int) ∧ (en l i).kd ≠ 4 then some { en l i with day := 10 + (d : Int) } else none
theorem pick_day {l : List En} {d i : Nat} {x : En} (h : pick l d i = some x) : x.day = 10 + (d : Int) := by
 unfold pick at h
 split at h
 ·injection h with h
  rw [← h]
 ·cases h
end Go.Proofs.YtffgfkcljcollaaDoor
namespace Go.Proofs.YtffgfkcljcollaaDoor
open Go.RowKit
theorem key_int : Go.Maps.Keyed Tryd.prog 3 := Go.Maps.int_keyed Tryd.underlying3
/-- A map of at most n entries that reads as F. -/
def Mpb (n : Nat) (F : Int → Bool) (v : Value) (X : World) : Prop := ∃ b, v = .map (some b) ∧ ∃ D : DataW Unit, X.ownsMap Tryd.prog 3 (plainElem Tryd.prog 4) b n D ∧ ∀ k : Int, (Lit.int .i64 k).wf = true → D.atKey (.int .i64 k) (.lit (.bool false)) = .lit (.bool (F k))
theorem Mpb.lasts (n : Nat) (F : Int → Bool) : Lasts (Mpb n F) := by
 rintro v X Y ⟨b, hv, D, h1, h2⟩ hS
 exact ⟨b, hv, D, h1.kept (row := none) ⟨hS.os, hS.tape, hS.output, hS.size, fun k hk _ => hS.block k hk⟩ (by simp), h2⟩
theorem Mpb.grown {X Y : World} {n : Nat} {F : Int → Bool} {b : Nat} {row : Option Nat} (h : Mpb n F (.map (some b)) X) (hG : X.grownBy Y row) (hne : row ≠ some b) : Mpb n F (.map (some b)) Y := by
 obtain ⟨b', hv, D, h1, h2⟩ := h
 injection hv with hv
 injection hv with hv
 subst hv;exact ⟨b, rfl, D, h1.kept hG (fun h9 => hne h9.symm), h2⟩
theorem Mpb.lt {X : World} {n : Nat} {F : Int → Bool} {b : Nat} (h : Mpb n F (.map (some b)) X) : b < X.heap.size := by
 obtain ⟨b', hv, D, h1, _⟩ := h
 injection hv with hv
 injection hv with hv
 subst hv;exact h1.lt
theorem Mpb.mono {X : World} {n m : Nat} {F : Int → Bool} {v : Value} (h : Mpb n F v X) (hm : n ≤ m) : Mpb m F v X := by
 obtain ⟨b, hv, D, h1, h2⟩ := h;exact ⟨b, hv, D, h1.mono hm, h2⟩
theorem Mpb.made (X : World) : Mpb 0 (fun _ => false) (.map (some X.heap.size)) (X.alloc (.map #[] 0)) :=
 ⟨_, rfl, .map [], World.ownsMap_made X _ _ _, fun k hk => rfl⟩
theorem plainElem_bool_inv {P : Program} {e : TypeId} (he : P.underlying e = some .bool) {v : Value} {z : DataW Unit × List MemPlace} (h : plainElem P e v = some z) : ∃ x, v = .bool x ∧ z = (.lit (.bool x), []) := by
 unfold plainElem at h
 rw [he] at h
 cases v <;> simp at h
 exact ⟨_, rfl, h.symm⟩
/-- 'm[k]'. -/
theorem exec_lkb {f : Operand → Value} {o : Oper} (x y : Operand) (ho : o.op = .lookup 73 x y false) {m : Value} {k : Int} (hx : f x = m) (hy : f y = .int .i64 k) (hk : (Lit.int .i64 k).wf = true) {n : Nat} {F : Int → Bool} (X : World) (h : Mpb n F m X) :
  (execOp f o).run Tryd.prog X = .ok (.value (.bool (F k))) X := by
 obtain ⟨b, hv, D, h1, h2⟩ := h;subst hv;obtain ⟨v, ps, hrun, hR⟩ := h1.lookup (z := .bool false) (zd := .lit (.bool false)) (zp := []) key_int Tryd.underlying73 (by kernel_rfl) (plainElem_bool Tryd.underlying4 false) (Go.Maps.keyOf_int_mk Tryd.underlying3 hk);rw [h2 k hk] at hR;obtain ⟨x', rfl, h9⟩ := plainElem_bool_inv Tryd.underlying4 hR;simp only [Prod.mk.injEq] at h9
 have h8 : F k = x' := by
  have := h9.1
  injection this with this
  injection this
 subst h8
 unfold execOp
 simp [ho, hx, hy, hrun]
/-- 'm[k] = y'. -/
theorem op_mpb {w : World} {ops : Array Oper} {rest : List Oper} {o : Oper} {a : Act} {Q : Exit → Act → World → Prop} (hgd : o.guard = none) (m x v : Operand) (ho : o.op = .mapUpdate 73 m x v) {b : Nat} {k : Int} {y : Bool}
  (hm : a.eval m = .map (some b)) (hx : a.eval x = .int .i64 k) (hv : a.eval v = .bool y) (hk : (Lit.int .i64 k).wf = true) {n : Nat} {F : Int → Bool} (h : Mpb n F (.map (some b)) w) (hn : n < maxLen)
  (hK : ∀ w', Mpb (n + 1) (fun j => if j = k then y else F j) (.map (some b)) w' → w.grownBy w' (some b) → wpList Tryd.prog ops Q rest (a.put o.dst undef) w') : wpList Tryd.prog ops Q (o :: rest) a w := by
 obtain ⟨b', hb, D, h1, h2⟩ := h
 injection hb with hb
 injection hb with hb
 subst hb
 refine wpList_mapUpdate_own w hgd m x v 73 ho 3 4 key_int Tryd.underlying73 _ b n D hm h1 hn _ _ _ hx hv (Go.Maps.keyOf_int_mk Tryd.underlying3 hk) _ _ (plainElem_bool Tryd.underlying4 y) fun w' r1 r2 => hK w' ⟨b, rfl, _, r1, fun j hj => ?_⟩ r2
 show _ = DataW.lit (Lit.bool (if j = k then y else F j))
 by_cases h9 : j = k
 ·subst h9
  rw [if_pos rfl];exact Go.Maps.atKey_put_same (by obtain ⟨_, _, _, _, _, hD⟩ := h1; exact ⟨_, hD⟩) (by trivial) _ _
 ·rw [if_neg h9, Go.Maps.atKey_put_other (fun h8 => h9 (by injection h8))]
  exact h2 j hj
end Go.Proofs.YtffgfkcljcollaaDoor
namespace Go.Proofs.YtffgfkcljcollaaDoor
open Go.RowKit
theorem own_blkK {X Y : World} {base m n : Nat} {e : TypeId} {v : Value} {xs : List Value} (h : X.ownsRow base e m v n xs) (hk : ∀ g t zs, v.ownBlock = some g → Blk X g t zs → Blk Y g t zs) : Y.ownsRow base e m v n xs := by
 obtain ⟨hl, hr⟩ := h;refine ⟨hl, hr.imp id ?_⟩
 rintro ⟨g, cap, cur, rfl, hb, hg, rest⟩
 have h9 : Blk X g e cur.toList := by
  show X.heap[g]? = some (.cells cur.toList.toArray e (0, 0))
  rw [Array.toArray_toList];exact hg
 have h8 := hk g e _ rfl h9;refine ⟨g, cap, cur, rfl, hb, ?_, rest⟩;have h7 : Y.heap[g]? = some (.cells cur.toList.toArray e (0, 0)) := h8;rw [Array.toArray_toList] at h7;exact h7
end Go.Proofs.YtffgfkcljcollaaDoor
namespace Go.Proofs.YtffgfkcljcollaaDoor
open Go.RowKit
theorem rgt_f {c : Int} {n : Nat} {x : En} (h : ¬ Rg c n x) : rgt c n x = false := Bool.eq_false_iff.2 fun h9 => h (rgt_t.1 h9)
theorem info_cs : (Tryd.prog.info? 34).map (·.size) = some 7 := by kernel_rfl
theorem info_ch : (Tryd.prog.info? 32).map (·.size) = some 4 := by kernel_rfl
theorem info_en : (Tryd.prog.info? 36).map (·.size) = some 13 := by kernel_rfl
theorem info_ac : (Tryd.prog.info? 26).map (·.size) = some 2 := by kernel_rfl
theorem info_enz : (Tryd.prog.info? 36).map (fun i => (i.zero, i.size, i.bytes)) = some (some (.agg #[.int .i64 0, .int .i64 0, .int .i64 0, .bool false, .string ⟨#[]⟩, .string ⟨#[]⟩, .int .i64 0, .int .i64 0, .int .i64 0, .int .i64 0, .int .i64 0, .int .i64 0, .int .i64 0]), 13, 120) := by kernel_rfl
theorem load_ens (b k : Nat) (X : World) (v : Value) (h : X.cell? ⟨b, k, none⟩ = some v) : (loadVar 22 ⟨b, k, none⟩).run Tryd.prog X = .ok v X := by
 go_simp
/-- An entry as it lies. -/
def enc (x : En) : List Value := [.int .i64 x.day, .int .i64 x.deb, .int .i64 x.cre, .bool x.am.1, .string ⟨x.am.2.1.toArray⟩, .string ⟨x.am.2.2.toArray⟩, .int .i64 x.kd, .int .i64 x.pd, .int .i64 x.rf, .int .i64 x.w1, .int .i64 x.w2, .int .i64 x.w3, .int .i64 x.w4]
theorem enc_len (x : En) : (enc x).length = 13 := rfl
theorem ens_len (l : List En) : (fl enc l).length = l.length * 13 := fl_len (fun x _ => enc_len x)
/-- Entries in a slice, as a value. -/
def Es (l : List En) (v : Value) (X : World) : Prop := Rd X 13 v l.length (fl enc l)
theorem Es.lasts (l : List En) : Lasts (Es l) := fun _ _ _ h hS => Rd.below h hS
theorem Es.at {l : List En} {v : Value} {w : World} (h : Es l v w) : ∃ A n c, v = .slice A n c ∧ l.length = n ∧ n ≤ 9223372036854775807 ∧ Rd w 13 (.slice A n c) n (fl enc l) := by
 have h9 : Rd w 13 v l.length (fl enc l) := h;have h8 := h9;obtain ⟨hl, A, c, h2, hc, hm, hx⟩ := h9;subst h2;refine ⟨A, l.length, c, rfl, rfl, ?_, h8⟩
 unfold maxLen at hm
 omega
theorem enAt {w : World} {A : Option Addr} {n c : Nat} {l : List En} (h : Rd w 13 (.slice A n c) n (fl enc l)) (hl : l.length = n) {k : Nat} (hk : k < n) : ∃ b off, A = some ⟨b, off, none⟩ ∧ b < w.heap.size ∧ Cl w b (off + k * 13) (enc (en l k)) := by
 obtain ⟨b, off, x, hA, hb, hc, _, hd⟩ := h.atF (m := 13) (fun x _ => enc_len x) (by omega) (k := k) (by omega);have h1 := congrArg (·[0]?) hd.out;rw [en_in (by omega)]
 have h2 : l[k] = x := by
  have h3 : l[k]? = some x := by simpa [List.getElem?_drop] using h1
  rw [List.getElem?_eq_getElem (by omega)] at h3
  injection h3
 rw [h2];exact ⟨b, off, hA, hb, hc⟩
theorem es_nil (X : World) : Es [] (.slice none 0 0) X := Rd.nil_ _ _
/-- Accounts as a value. -/
def Bks (c : Int) (l : List En) (v : Value) (X : World) : Prop := ∃ u, v = .agg #[.int .i64 c, u] ∧ Es l u X
theorem Bks.lasts (c : Int) (l : List En) : Lasts (Bks c l) := by
 rintro v X Y ⟨u, h1, h2⟩ hS
 exact ⟨u, h1, Es.lasts l _ _ _ h2 hS⟩
theorem es_own {X : World} {base k : Nat} {v : Value} {l : List En} (h : X.ownsRow base 36 13 v k (fl enc l)) (hk : l.length = k) : Es l v X := by
 show Rd X 13 v l.length (fl enc l)
 rw [hk];exact Rd.of_own h
/-- Two entries compared. -/
theorem run_ne_en (x y : En) (w : World) : (binOp .neq 36 (.agg (enc x).toArray) (.agg (enc y).toArray)).run Tryd.prog w = .ok (.bool (!decide (x = y))) w := by
 by_cases h : x = y
 ·subst h
  unfold enc
  go_simp
 ·have h1 : (!decide (x = y)) = true := by simp [h]
  rw [h1];obtain ⟨a1, a2, a3, ⟨b1, b2, b3⟩, a5, a6, a7, a8, a9, a10, a11⟩ := x;obtain ⟨c1, c2, c3, ⟨d1, d2, d3⟩, c5, c6, c7, c8, c9, c10, c11⟩ := y
  unfold enc
  go_simp
  rintro rfl rfl rfl rfl rfl rfl rfl rfl rfl rfl rfl rfl rfl
  exact h rfl
end Go.Proofs.YtffgfkcljcollaaDoor
