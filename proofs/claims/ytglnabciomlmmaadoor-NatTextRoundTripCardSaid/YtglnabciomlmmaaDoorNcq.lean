/-
  More laws for division.
-/
import Derived.Test.YtglnabciomlmmaaDoorNcn
namespace Go.Proofs.YtglnabciomlmmaaDoor
open Go.RowKit

theorem trimD (l : List UInt32) (v : Value) (w : World) (h : Dg l v w) (hn : l.length ≤ 33554432) :
    Calls Tryd.prog 45 #[v] w fun e w' => ∃ u, e = .returned u ∧ Lm (lw l) u w' ∧ Since w w' := by
  obtain ⟨A, c, rfl, hr⟩ := h
  refine (trimC A l.length c l w hr (by omega)).mono ?_
  rintro e w' ⟨rfl, ht, rfl⟩
  have hpre := hr.pre1 (k := (ld (lw l)).length) (by have := congrArg List.length ht; rw [List.length_take] at this; omega)
  rw [ht] at hpre
  exact ⟨_, rfl, ⟨A, c, rfl, hpre⟩, Below.refl _ _⟩
theorem cloneD (l : List UInt32) (v : Value) (w : World) (h : Dg l v w) (hn : l.length ≤ 33554432) :
    Calls Tryd.prog 52 #[v] w fun e w' => ∃ u, e = .returned u ∧ Dg l u w' ∧ Since w w' := by
  obtain ⟨A, c, rfl, hr⟩ := h
  refine (cloneC A l.length c l w hr hn).mono ?_
  rintro e w' ⟨A', c', rfl, ho, hb⟩
  exact ⟨_, rfl, ⟨A', c', rfl, Rd.of_own ho⟩, hb⟩
theorem Dg.grown {l : List UInt32} {v : Value} {X Y : World} {g base : Nat} (h : Dg l v X) (hf : Fr base v) (hg : g < base) (hgr : X.grownBy Y (some g)) : Dg l v Y := by
  obtain ⟨A, c, rfl, hr⟩ := h
  refine ⟨A, c, rfl, ?_⟩
  obtain ⟨hl, A', c', hv, hc, hm, hz, hcell⟩ := hr
  injection hv with h1 h2 h3
  subst h1 h3
  refine ⟨hl, A, c, rfl, hc, hm, hz, fun hn => ?_⟩
  obtain ⟨b, off, hA, hb, hx⟩ := hcell hn
  have hbg : b ≠ g := by
    obtain ⟨A2, n2, c2, hv2, hor⟩ := hf
    injection hv2 with e1 _ _
    subst e1
    rcases hor with h0 | ⟨g', h0, hle⟩
    · rw [h0] at hA
      cases hA
    · rw [h0] at hA
      injection hA with hA
      injection hA with hA _ _
      omega
  refine ⟨b, off, hA, Nat.lt_of_lt_of_le hb hgr.size, fun j u hj => ?_⟩
  rw [World.cell?_of_block (hgr.block b hb (fun e => hbg (by injection e)))]
  exact hx j u hj
/-- 'copy(part, d)' of digits into a stretch of a block. -/
theorem op_copyD {w : World} {ops : Array Oper} {rest : List Oper} {o : Oper} {a : Act} {Q : Exit → Act → World → Prop} (hgd : o.guard = none) (d x : Operand) (ho : o.op = .call { callee := .builtin .copy, args := #[d, x], argTypes := #[51, 51] })
    (g off n c : Nat) (xs : List Value) (hB : Blk w g 63 xs) (hd : a.eval d = .slice (some ⟨g, off, none⟩) n c) (l : List UInt32) (v : Value) (hx : a.eval x = v) (hD : Dg l v w) (hln : l.length ≤ n) (hfit : off + n ≤ xs.length)
    (h : ∀ w', Blk w' g 63 (xs.take off ++ (l.map W32 ++ xs.drop (off + l.length))) → w.grownBy w' (some g) → wpList Tryd.prog ops Q rest (a.put o.dst (goInt (l.length : Int))) w') :
    wpList Tryd.prog ops Q (o :: rest) a w := by
  obtain ⟨A, cv, rfl, hr⟩ := hD
  have hmin : Nat.min l.length n = l.length := Nat.min_eq_left hln
  rcases Nat.eq_zero_or_pos l.length with h0 | hpos
  · have hl0 : l = [] := List.eq_nil_of_length_eq_zero h0
    subst hl0
    refine wpList_copy_nothing hgd d x 51 51 ho 63 Tryd.underlying51 size_u32 _ _ _ _ _ _ hd hx (by simp) ?_
    have := h w (by simpa using hB) (grownBy_refl _ _)
    simpa using this
  · obtain ⟨b, o2, rfl, hb, hc⟩ := hr.cellAt hpos
    have := h (w.setRow g (xs.take off ++ (l.map W32 ++ xs.drop (off + (l.map W32).length))).toArray) (by
      have := setRow_heap w g xs.toArray (xs.take off ++ (l.map W32 ++ xs.drop (off + (l.map W32).length))).toArray 63 (0, 0) hB
      rw [List.length_map] at this ⊢
      exact this) (setRow_grown _ _ _)
    refine wpList_copy_own hgd d x 51 51 ho 63 Tryd.underlying51 size_u32 g off n c ⟨b, o2, none⟩ l.length cv hd hx xs.toArray 63 hB (l.map W32) (by rw [List.length_map, hmin]) ?_ (by rw [List.length_map]; simp; omega) (W32s_one l) ?_
    · intro j u hj
      rw [addr_add]
      exact hc j u hj
    · rw [List.length_map] at this ⊢
      exact this
theorem rp_cells {R : List UInt32} {tl : List Value} {j n m : Nat} (hR : j + n + 1 ≤ R.length) (hm : (ld m).length ≤ n) :
    ((R.map W32 ++ tl).take j ++ List.replicate (n + 1) (Value.int .u32 0) ++ (R.map W32 ++ tl).drop (j + (n + 1))).take j ++ ((ld m).map W32 ++ ((R.map W32 ++ tl).take j ++ List.replicate (n + 1) (Value.int .u32 0) ++ (R.map W32 ++ tl).drop (j + (n + 1))).drop (j + (ld m).length)) = (rp R j n m).map W32 ++ tl := by
  have e1 : (R.map W32 ++ tl).take j = (R.take j).map W32 := by rw [List.take_append_of_le_length (by rw [List.length_map]; omega), List.map_take]
  have e2 : (R.map W32 ++ tl).drop (j + (n + 1)) = (R.drop (j + (n + 1))).map W32 ++ tl := by rw [List.drop_append_of_le_length (by rw [List.length_map]; omega), List.map_drop]
  have l1 : ((R.take j).map W32).length = j := by rw [List.length_map, List.length_take]; omega
  rw [e1, e2, List.append_assoc, List.take_left' l1]
  rw [List.drop_append, l1, List.drop_eq_nil_of_le (by omega), List.nil_append, show j + (ld m).length - j = (ld m).length by omega]
  rw [List.drop_append_of_le_length (by rw [List.length_replicate]; omega), List.drop_replicate]
  unfold rp
  rw [List.map_append, List.map_append, List.map_append, List.map_replicate]
  have e3 : W32 0 = Value.int .u32 0 := rfl
  rw [e3]
  simp only [List.append_assoc]
theorem exec_midv {P : Program} {f : Operand → Value} {o : Oper} {t e : TypeId} (hu : P.underlying t = some (.slice e)) (hs : (P.info? e).map (·.size) = some 1) (x lo hi : Operand) (ho : o.op = .slice t x (some lo) (some hi) none) (b off n c p q : Nat) (hx : f x = .slice (some ⟨b, off, none⟩) n c) {y z : Int} (hlo : f lo = .int .i64 y) (hy : y = (p : Int)) (hh : f hi = .int .i64 z) (hz : z = (q : Int)) (hpq : p ≤ q) (hk : q ≤ c) (hpc : p < c) (w : World) :
    (execOp f o).run P w = .ok (.value (.slice (some ⟨b, off + p, none⟩) (q - p) (c - p))) w := by
  subst hy hz
  unfold execOp
  simp only [ho, hx, hlo, hh, Option.map]
  cases hq : P.info? e with
  | none => simp [hq] at hs
  | some i =>
    have hs1 : i.size = 1 := by simpa [hq] using hs
    have h1 : (0 : Int) ≤ (p : Int) ∧ (p : Int) ≤ (q : Int) := ⟨by omega, by omega⟩
    have h2 : (0 : Int) ≤ (q : Int) ∧ (q : Int) ≤ (c : Int) := ⟨by omega, by omega⟩
    have h3 : ¬ c = p := by omega
    have h4 : p ≤ q := hpq
    have h5 : q ≤ c := hk
    simp [Instr.sliceAt, Instr.slice, Instr.sliceBounds, Instr.sliceBound, asIntOf, run_underlying hu, sizeOf, typeInfo, hq, hs1, h3, h4, h5, addr_add]

end Go.Proofs.YtglnabciomlmmaaDoor
