/-
  kernel: contracts over values.
-/
import Derived.Test.YtcpedbpldgndmaaDoorKi
set_option linter.unusedSimpArgs false
set_option linter.unusedVariables false
set_option maxRecDepth 100000
set_option maxHeartbeats 1600000
namespace Go.Proofs.YtcpedbpldgndmaaDoor
open Go.RowKit
/-- A pair of a value with a law and an error. -/
def Tp (L : Value → World → Prop) (e : Int) (v : Value) (X : World) : Prop := ∃ u, v = .tuple #[u, .int .i64 e] ∧ L u X
theorem Tp.lasts {L : Value → World → Prop} (hL : Lasts L) (e : Int) : Lasts (Tp L e) := by
 rintro v X Y ⟨u, h1, h2⟩ hS
 exact ⟨u, h1, hL _ _ _ h2 hS⟩
/-- A kernel as a value. -/
def Kn (l : List Int) (v : Value) (X : World) : Prop := ∃ u, v = .agg #[u] ∧ Ks l u X
theorem Kn.lasts (l : List Int) : Lasts (Kn l) := by
 rintro v X Y ⟨u, h1, h2⟩ hS
 exact ⟨u, h1, Ks.lasts l _ _ _ h2 hS⟩
/-- Numbers in a slice. -/
def Rq (l : List Rat) (v : Value) (X : World) : Prop := Rl (l.map tr) v X
theorem Rq.lasts (l : List Rat) : Lasts (Rq l) := fun _ _ _ h hS => Rl.lasts _ _ _ _ h hS
theorem Rq.of_blk {l : List Rat} {g : Nat} {X : World} (h : Blk X g 38 (fl rc l)) (hl : l.length ≤ 1000000) : Rq l (.slice (some ⟨g, 0, none⟩) l.length l.length) X := by
 have h1 : fl trc (l.map tr) = fl rc l := by
  unfold fl
  rw [List.map_map]
  rfl
 show Rd X 3 _ (l.map tr).length (fl trc (l.map tr))
 rw [h1, List.length_map];exact ⟨by rw [rcs_len], _, _, rfl, Nat.le_refl _, (by unfold maxLen; omega), (fun h => by cases h), fun _ => ⟨g, 0, rfl, h.lt, fun j u hj => by rw [Nat.zero_add]; exact h.cell hj⟩⟩
theorem rq_nil (X : World) : Rq [] (.slice none 0 0) X := by
 show Rd X 3 _ 0 []
 exact ⟨rfl, none, 0, rfl, Nat.le_refl _, Nat.zero_le _, fun _ => rfl, fun h => absurd h (by decide)⟩
theorem Rm.rq {l : List Rat} {B : Nat} {v : Value} {X : World} (h : Rm l B v X) : Rq l v X := by
 obtain ⟨g, rfl, h2, h4, h3⟩ := h;exact Rq.of_blk h3 h4
/-- Parts in a slice; t: the sum of the weights. -/
def Pl (P : List Wp) (t : Int) (v : Value) (X : World) : Prop := Rd X 5 v P.length (fl (wdc t) P)
theorem Pl.lasts (P : List Wp) (t : Int) : Lasts (Pl P t) := fun _ _ _ h hS => Rd.below h hS
/-- A store into a variable that holds a slice leaves what holds no slices. -/
theorem Rd.var {X Y : World} {g m n : Nat} {T : TypeId} {v : Value} {xs : List Value} {A0 : Option Addr} {n0 c0 : Nat} (h : Rd X m v n xs) (hns : ∀ u ∈ xs, ∀ A n c, u ≠ .slice A n c) (hB : Blk X g T [.slice A0 n0 c0]) (hG : X.grownBy Y (some g)) : Rd Y m v n xs := by
 obtain ⟨hl, A, c, hv, hc, hm, hz, hx⟩ := h;refine ⟨hl, A, c, hv, hc, hm, hz, fun hn => ?_⟩;obtain ⟨b, off, hA, hb, hcell⟩ := hx hn;refine ⟨b, off, hA, Nat.lt_of_lt_of_le hb hG.size, fun j u hj => ?_⟩;have h1 := hcell j u hj
 have hne : b ≠ g := fun h9 => by
  subst h9;rw [cell_of_row _ _ _ _ _ _ hB] at h1
  have h2 : ([Value.slice A0 n0 c0] : List Value)[off + j]? = some u := by simpa using h1
  rcases Nat.eq_zero_or_pos (off + j) with h3 | h3
  ·rw [h3] at h2
   injection h2 with h2
   exact hns u (List.mem_of_getElem? hj) _ _ _ h2.symm
  ·rw [List.getElem?_eq_none (by show 1 ≤ off + j; omega)] at h2
   cases h2
 exact (World.cell?_of_block (w := X) (a := ⟨b, off + j, none⟩) (hG.block b hb (fun h9 => hne (by injection h9)))).trans h1
theorem Ks.grown {X Y : World} {g : Nat} {T : TypeId} {l : List Int} {v : Value} {A0 : Option Addr} {n0 c0 : Nat} (hG : X.grownBy Y (some g)) (h : Ks l v X) (hB : Blk X g T [.slice A0 n0 c0]) : Ks l v Y := by
 obtain ⟨A, c, hv, hr⟩ := h;exact ⟨A, c, hv, hr.var (fun u hu A n c h9 => by obtain ⟨x, _, rfl⟩ := List.mem_map.1 hu; cases h9) hB hG⟩
theorem Kn.grown {X Y : World} {g : Nat} {T : TypeId} {l : List Int} {v : Value} {A0 : Option Addr} {n0 c0 : Nat} (hG : X.grownBy Y (some g)) (h : Kn l v X) (hB : Blk X g T [.slice A0 n0 c0]) : Kn l v Y := by
 obtain ⟨u, hu, hk⟩ := h;exact ⟨u, hu, hk.grown hG hB⟩
theorem Rl.grown {X Y : World} {g : Nat} {T : TypeId} {l : List Tr} {v : Value} {A0 : Option Addr} {n0 c0 : Nat} (hG : X.grownBy Y (some g)) (h : Rl l v X) (hB : Blk X g T [.slice A0 n0 c0]) : Rl l v Y :=
 Rd.var h (fun u hu A n c h9 => by
  subst h9
  unfold fl at hu
  obtain ⟨y, hy, hz⟩ := List.mem_flatten.1 hu;obtain ⟨t, _, rfl⟩ := List.mem_map.1 hy
  unfold trc at hz
  simp at hz) hB hG
theorem Rq.grown {X Y : World} {g : Nat} {T : TypeId} {l : List Rat} {v : Value} {A0 : Option Addr} {n0 c0 : Nat} (hG : X.grownBy Y (some g)) (h : Rq l v X) (hB : Blk X g T [.slice A0 n0 c0]) : Rq l v Y := Rl.grown hG h hB
theorem Pl.grown {X Y : World} {g : Nat} {T : TypeId} {l : List Wp} {t : Int} {v : Value} {A0 : Option Addr} {n0 c0 : Nat} (hG : X.grownBy Y (some g)) (h : Pl l t v X) (hB : Blk X g T [.slice A0 n0 c0]) : Pl l t v Y :=
 Rd.var h (fun u hu A n c h9 => by
  subst h9
  unfold fl at hu
  obtain ⟨y, hy, hz⟩ := List.mem_flatten.1 hu;obtain ⟨x, _, rfl⟩ := List.mem_map.1 hy
  unfold wdc at hz
  simp at hz) hB hG
/-- A variable that was made. -/
def Av (T : TypeId) (z : List Value) (B : Nat) (v : Value) (X : World) : Prop := ∃ g, v = .pointer (some ⟨g, 0, none⟩) ∧ B ≤ g ∧ Blk X g T z
theorem Av.lasts (T : TypeId) (z : List Value) (B : Nat) : Lasts (Av T z B) := by
 rintro v X Y ⟨g, h1, h2, h3⟩ hS
 exact ⟨g, h1, h2, h3.bel hS⟩
theorem Av.mk {P : Program} {f : Operand → Value} {o : Oper} (T : TypeId) (z : List Value) (B : Nat) {X : World} (hB : B ≤ X.heap.size) (hr : (execOp f o).run P X = .ok (.value (.pointer (some ⟨X.heap.size, 0, none⟩))) (X.alloc (.cells z.toArray T))) : ∃ v X', (execOp f o).run P X = .ok (.value v) X' ∧ Av T z B v X' ∧ Since X X' :=
 ⟨_, _, hr, ⟨_, rfl, hB, Blk.new rfl⟩, since_alloc X _⟩
theorem Ks.mk {P : Program} {f : Operand → Value} {o : Oper} (l : List Int) (n : Nat) (hn : l.length = n) (hm : n ≤ 1073741824) {X : World} (hr : (execOp f o).run P X = .ok (.value (.slice (some ⟨X.heap.size, 0, none⟩) n n)) (X.alloc (.cells (l.map I64).toArray 3))) : ∃ v X', (execOp f o).run P X = .ok (.value v) X' ∧ Ks l v X' ∧ Since X X' := by
 subst hn;exact ⟨_, _, hr, Ks.of_blk (Blk.new rfl) hm, since_alloc X _⟩
theorem Rq.mk {P : Program} {f : Operand → Value} {o : Oper} (l : List Rat) (n : Nat) (hn : l.length = n) (hm : n ≤ 1000000) {X : World} (hr : (execOp f o).run P X = .ok (.value (.slice (some ⟨X.heap.size, 0, none⟩) n n)) (X.alloc (.cells (fl rc l).toArray 38))) : ∃ v X', (execOp f o).run P X = .ok (.value v) X' ∧ Rq l v X' ∧ Since X X' := by
 subst hn;exact ⟨_, _, hr, Rq.of_blk (Blk.new rfl) hm, since_alloc X _⟩
theorem Pl.mk {P : Program} {f : Operand → Value} {o : Oper} (l : List Wp) (t : Int) (n : Nat) (hn : l.length = n) (hm : n ≤ 1000000) {X : World} (hr : (execOp f o).run P X = .ok (.value (.slice (some ⟨X.heap.size, 0, none⟩) n n)) (X.alloc (.cells (fl (wdc t) l).toArray 60))) : ∃ v X', (execOp f o).run P X = .ok (.value v) X' ∧ Pl l t v X' ∧ Since X X' := by
 subst hn;refine ⟨_, _, hr, ?_, since_alloc X _⟩;have h : Blk (X.alloc (.cells (fl (wdc t) l).toArray 60)) X.heap.size 60 (fl (wdc t) l) := Blk.new rfl;exact ⟨by rw [wds_len], _, _, rfl, Nat.le_refl _, (by unfold maxLen; omega), (fun h => by cases h), fun _ => ⟨_, 0, rfl, h.lt, fun j u hj => by rw [Nat.zero_add]; exact h.cell hj⟩⟩
theorem kchV (v : Value) (l : List Int) (w : World) (h : Kn l v w) {E : Int} (hE : kcE l = E) : Calls Tryd.prog 8 #[v] w fun e w' => e = .returned (.int .i64 E) ∧ Since w w' := by
 obtain ⟨u, rfl, hu⟩ := h;subst hE;exact kchC u l w hu
theorem ttlV (v : Value) (l : List Int) (w : World) (h : Kn l v w) (hK : Kok l) : Calls Tryd.prog 29 #[v] w fun e w' => e = .returned (.tuple #[.int .i64 (tot l), .int .i64 0]) ∧ Since w w' := by
 obtain ⟨u, rfl, hu⟩ := h;exact ttl1 u l w hu hK
theorem meaV (v : Value) (l : List Int) (w : World) (h : Kn l v w) (hK : Kok l) : Calls Tryd.prog 14 #[v] w fun e w' => e = .returned (.tuple #[.agg #[.bool (rN (mean l)), .string ⟨(rP (mean l)).toArray⟩, .string ⟨(rD (mean l)).toArray⟩], .int .i64 0]) ∧ Since w w' := by
 obtain ⟨u, rfl, hu⟩ := h;exact mea1 u l w hu hK
theorem rduV (v : Value) (l : List Int) (w : World) (h : Kn l v w) (hK : Kok l) : Calls Tryd.prog 12 #[v] w fun e w' => ∃ v', e = .returned v' ∧ Tp (Kn (red l)) 0 v' w' ∧ Since w w' := by
 obtain ⟨u, rfl, hu⟩ := h
 exact (rdu1 u l w hu hK).mono fun e w' ⟨v', h1, h2, h3⟩ => ⟨_, h1, ⟨_, rfl, ⟨_, rfl, h2.ks⟩⟩, h3⟩
theorem cpV (va vb : Value) (l m : List Int) (w : World) (ha : Kn l va w) (hb : Kn m vb w) (hl : Kok l) (hm : Kok m) (h : cpE l m = 0) : Calls Tryd.prog 10 #[va, vb] w fun e w' => ∃ v', e = .returned v' ∧ Tp (Kn (cpK l m)) 0 v' w' ∧ Since w w' := by
 obtain ⟨u, rfl, hu⟩ := ha;obtain ⟨t, rfl, ht⟩ := hb
 exact (cpo6 u t l m w hu ht hl hm h).mono fun e w' ⟨v', h1, h2, h3⟩ => ⟨_, h1, ⟨_, rfl, ⟨_, rfl, h2.ks⟩⟩, h3⟩
theorem dlyV (t : Nat) (w : World) (h : t < 400) : Calls Tryd.prog 11 #[.int .i64 (t : Int)] w fun e w' => ∃ v', e = .returned v' ∧ Tp (Kn (dly t)) 0 v' w' ∧ Since w w' := by
 exact (dly2 t w h).mono fun e w' ⟨v', h1, h2, h3⟩ => ⟨_, h1, ⟨_, rfl, ⟨_, rfl, h2.ks⟩⟩, h3⟩
theorem xt_map {ys : List Rat} {k : Nat} : xt (ys.map tr) k = tr (yq ys k) := by
 unfold xt yq
 rw [List.getD_eq_getElem?_getD, List.getD_eq_getElem?_getD, List.getElem?_map]
 cases ys[k]? <;> rfl
theorem vds_map (ys : List Rat) : vds (ys.map tr) = true := List.all_eq_true.2 fun t ht => by
 obtain ⟨y, _, rfl⟩ := List.mem_map.1 ht;exact vd_rb y
theorem pR_sz {l : List Int} (hl : Kok l) {ys : List Rat} {B : Nat} (hB : ∀ k, szR (yq ys k) B) (u : Nat) : ∀ i, szR (pR l ys i u) (i * (B + 15) + 1)
 | 0 => by
  rw [Nat.zero_mul];exact szR_zero
 | i + 1 => by
  rw [pR_succ, Nat.succ_mul]
  split
  ·exact (szR_add (pR_sz hl hB u i) (szR_mul (szR_rk _ _ (hl.insw i) hl.inst) (hB _))).mono (by omega)
  ·rw [Rat.add_zero]
   exact (pR_sz hl hB u i).mono (by omega)
theorem rtl_sz {l : List Int} (hl : Kok l) {ys : List Rat} {B : Nat} (hB : ∀ k, szR (yq ys k) B) (u : Nat) : szR (yq (rtl l ys) u) (l.length * (B + 15) + 1) := by
 unfold rtl
 split
 ·rw [yq_out (Nat.zero_le _)]
  exact szR_zero.mono (by omega)
 ·rcases Nat.lt_or_ge u (ys.length + l.length - 1) with h | h
  ·rw [yq_range _ h, ← pR_all]
   exact pR_sz hl hB u _
  ·rw [yq_out (by simpa using h)]
   exact szR_zero.mono (by omega)
theorem rtl_len {l : List Int} {ys : List Rat} (h : ys ≠ []) : (rtl l ys).length = ys.length + l.length - 1 := by
 unfold rtl
 rw [if_neg h]
 simp
theorem rteV (v vf : Value) (l : List Int) (ys : List Rat) (w : World) (h : Kn l v w) (hf : Rq ys vf w) (hK : Kok l) (h4 : ys.length ≤ 4000) (hl : l.length ≤ 100) (B : Nat) (hB4 : B ≤ 4000) (hB : ∀ k, szR (yq ys k) B) : Calls Tryd.prog 18 #[v, vf] w fun e w' => ∃ v', e = .returned v' ∧ Tp (Rq (rtl l ys)) 0 v' w' ∧ Since w w' := by
 obtain ⟨u, rfl, hu⟩ := h
 have hF : Hid (∀ k, k < (ys.map tr).length → tz (xt (ys.map tr) k).2.1 (xt (ys.map tr) k).2.2 1000000) := fun k _ => by
  rw [xt_map];exact tzR (hB k) (by omega)
 by_cases hn : ys = []
 ·subst hn
  refine (rte3 u vf l _ w hu hf hK (by rw [List.length_map]; exact h4) hF (vds_map _) rfl).mono fun e w' ⟨h1, h3⟩ => ⟨_, h1, ⟨_, rfl, ?_⟩, h3⟩
  exact rq_nil w'
 ·have hn0 : 0 < ys.length := List.length_pos_iff.2 hn
  exact (rte4 u vf l _ w hu hf hK (by rw [List.length_map]; exact h4) hF (vds_map _) ys rfl hn0 hl B hB4 hB h4).mono fun e w' ⟨v', h1, h2, _, h3⟩ => ⟨_, h1, ⟨_, rfl, h2.rq⟩, h3⟩
theorem rteVI (v vf : Value) (l : List Int) (xs : List Tr) (w : World) (h : Kn l v w) (hf : Rl xs vf w) (hK : Kok l) (h4 : xs.length ≤ 4000) (hF : ∀ k, k < xs.length → tz (xt xs k).2.1 (xt xs k).2.2 1000000) (hB : vds xs = false) : Calls Tryd.prog 18 #[v, vf] w fun e w' => e = .returned (.tuple #[.slice none 0 0, .int .i64 1]) ∧ Since w w' := by
 obtain ⟨u, rfl, hu⟩ := h;exact rte2 u vf l xs w hu hf hK h4 hF hB
theorem arvV (v : Value) (l : List Int) (f u : Nat) (w : World) (h : Kn l v w) (hK : Kok l) (hfu : f ≤ u) (hu9 : u ≤ 1402560) : Calls Tryd.prog 25 #[v, .agg #[.int .i64 (f : Int), .int .i64 (u : Int)]] w fun e w' => ∃ v', e = .returned v' ∧ Tp (Pl (aR l f u (aN l f u)).1 (tot l)) 0 v' w' ∧ Since w w' := by
 obtain ⟨s, rfl, hu⟩ := h
 exact (arv4 s l f u w hu hK hfu hu9).mono fun e w' ⟨v', h1, h2, h3⟩ => ⟨_, h1, ⟨_, rfl, Rd.of_own h2⟩, h3⟩
end Go.Proofs.YtcpedbpldgndmaaDoor
