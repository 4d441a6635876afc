/-
  small, shift.
-/
import Derived.Test.YtglnabciomlmmaaDoorNti
namespace Go.Proofs.YtglnabciomlmmaaDoor
open Go.RowKit

theorem small_step {l O : List UInt32} {k d r x q r' T : Nat} (hl : k < l.length) (hO : O.length = l.length) (hd : 0 < d) (hr : r = lw (l.drop (k + 1)) % d) (hq0 : lw (O.drop (k + 1)) = lw (l.drop (k + 1)) / d) (hx : x = (l.getD k 0).toNat) (hx2 : x < 4294967296) (hd2 : d < 4294967296)
    (hT : T = r * 2 ^ 32 + x) (hq : q = T / d) (hr' : r' = T % d) : q < 4294967296 ∧ r' = lw (l.drop k) % d ∧ lw ((O.set k (UInt32.ofNat q)).drop k) = lw (l.drop k) / d := by
  have hrd : r < d := hr ▸ Nat.mod_lt _ hd
  have hqb : q < 4294967296 := by
    rw [hq, Nat.div_lt_iff_lt_mul hd, hT]
    have : (r + 1) * 2 ^ 32 ≤ d * 2 ^ 32 := Nat.mul_le_mul_right _ hrd
    rw [Nat.add_mul] at this
    omega
  have hdrop : lw (l.drop k) = x + 4294967296 * lw (l.drop (k + 1)) := by
    rw [List.drop_eq_getElem_cons hl, lw_cons, hx]
    simp [List.getD, hl]
  have hmd := Nat.mod_add_div (lw (l.drop (k + 1))) d
  have hval : lw (l.drop k) = T + d * (4294967296 * (lw (l.drop (k + 1)) / d)) := by
    rw [hdrop, hT, hr]
    have e1 : d * (4294967296 * (lw (l.drop (k + 1)) / d)) = 4294967296 * (d * (lw (l.drop (k + 1)) / d)) := by rw [Nat.mul_left_comm]
    rw [e1]
    omega
  refine ⟨hqb, ?_, ?_⟩
  · rw [hval, Nat.add_mul_mod_self_left]
    exact hr'
  · rw [hval, Nat.add_mul_div_left _ _ hd, ← hq0, ← hq]
    have hk : k < (O.set k (UInt32.ofNat q)).length := by rw [List.length_set]; omega
    rw [List.drop_eq_getElem_cons hk, lw_cons, List.getElem_set_self, List.drop_set_of_lt (by omega), u32n, Nat.mod_eq_of_lt hqb]

set_option maxRecDepth 100000 in
set_option maxHeartbeats 1600000 in
theorem smallF (v : Value) (x0 d : Nat) (w : World) (hr : Lm x0 v w) (hx : (ld x0).length ≤ 16777216) (hd : 0 < d) (hd2 : d < 4294967296) :
    Calls Tryd.prog 47 #[v, .int .u32 (d : Int)] w fun e w' => ∃ u, e = .returned (.tuple #[u, .int .u32 ((x0 % d : Nat) : Int)]) ∧ Lm (x0 / d) u w' ∧ Fr w.heap.size u ∧ Below w.heap.size w w' := by
  obtain ⟨A, c0, rfl, hr⟩ := hr
  have hL := lw_ld x0
  generalize ld x0 = l at hr hx hL ⊢
  obtain ⟨n, hn⟩ : ∃ n, n = l.length := ⟨_, rfl⟩
  rw [← hn] at hr hx ⊢
  have HLL := Lib.hid hn
  have HL := Lib.hid hL
  have hrX : ∀ X, Below w.heap.size w X → Rd X 1 (.slice A n c0) n (l.map W32) := fun X h => hr.below h
  have hrX := Lib.hid hrX
  clear hn hL
  go_enter Tryd.func47, Tryd.ntmps47
  go_upto_region 1 with (fail)
  refine lx_plain [none, none, some (MadeB n w.heap.size)] (lasts_none (lasts_none (lasts_some (MadeB.lasts _ _) (lasts_nil)))) ?_
  simp only [its, Nat.zero_add, Nat.reduceAdd]
  refine lx_val (by rfl) (.slice A n c0) (fun X _ _ => by rfl) ?_
  simp only [Act.put, List.setIfInBounds_toArray, List.set_cons_succ, List.set_cons_zero]
  refine lx_val (by rfl) (.int .i64 (n : Int)) (fun X hX hF => exec_lenv Tryd.underlying51 _ (by rfl) A n c0 (by rfl) _ rfl X) ?_
  simp only [Act.put, List.setIfInBounds_toArray, List.set_cons_succ, List.set_cons_zero]
  refine lx_new (by rfl) (fun X hX hF => exec_make _ _ (by rfl) n w.heap.size (by rfl) (by rfl) rfl (by omega) X hX.size) ?_
  intro v11
  simp only [Act.put, List.setIfInBounds_toArray, List.set_cons_succ, List.set_cons_zero]
  refine lx_val (by rfl) (v11) (fun X _ _ => by rfl) ?_
  simp only [Act.put, List.setIfInBounds_toArray, List.set_cons_succ, List.set_cons_zero]
  refine lx_val (by rfl) (.int .u64 0) (fun X _ _ => by rfl) ?_
  simp only [Act.put, List.setIfInBounds_toArray, List.set_cons_succ, List.set_cons_zero]
  refine lx_nil ?_
  intro W0 hW0 hF
  obtain ⟨g, rfl, hg, hB0⟩ := hF _ _ List.mem_cons_self
  clear hF
  have b0 : Below w.heap.size w W0 := hW0
  clear hW0
  go_wp2
  go_loopw [7, 8] (fun rv kv wr => ∃ (j r : Nat) (O : List UInt32), j ≤ n ∧ kv = .int .i64 ((j : Int) - 1) ∧ rv = .int .u64 (r : Int) ∧ r = lw (l.drop j) % d ∧ O.length = n ∧ lw (O.drop j) = lw (l.drop j) / d ∧ Blk wr g 63 (O.map W32) ∧ Below w.heap.size w wr) (fun _ kv _ => (intOf kv + 1).toNat)
  case atStart => exact ⟨n, 0, List.replicate n 0, by omega, rfl, rfl, by rw [List.drop_eq_nil_of_le (by rw [← HLL.out]; omega), lw_nil, Nat.zero_mod], List.length_replicate, by rw [List.drop_eq_nil_of_le (show (List.replicate n (0 : UInt32)).length ≤ n by rw [List.length_replicate]; omega), List.drop_eq_nil_of_le (show l.length ≤ n by rw [← HLL.out]; omega), lw_nil, Nat.zero_div], hB0, b0⟩
  case round =>
    clear hB0 b0
    obtain ⟨j, r, O, hj, rfl, rfl, hrm, hO, hq0, hB, hb⟩ := hrel
    by_cases h0 : j = 0
    · subst h0
      have hz : lw O = x0 / d := by simpa [HL.out] using hq0
      have hz2 : r = x0 % d := by simpa [HL.out] using hrm
      have hrb : r < 4294967296 := by
        have := Nat.mod_lt x0 hd
        omega
      have HZ := Lib.hid hz
      have HZ2 := Lib.hid hz2
      have HO := Lib.hid hO
      have hR := hB.rd hO (by unfold maxLen; omega)
      have hwr : IntKind.u32.wrap (r : Int) = (r : Int) := w32 (by omega) (by omega)
      clear hz hz2 hO hq0 hrm
      go_wp2_with fail
      refine (trimC _ n n O _ hR (by omega)).mono ?_
      rintro e w' ⟨rfl, ht, rfl⟩
      rw [HZ.out] at ht
      rw [HZ.out]
      have hpre := hR.pre1 (k := (ld (x0 / d)).length) (by have := congrArg List.length ht; rw [List.length_take, HO.out] at this; omega)
      rw [ht] at hpre
      have HT := Lib.hid ht
      clear ht
      go_wp2
      go_ret2
      exact ⟨_, by rw [← HZ2.out]; rfl, ⟨_, n, rfl, hpre⟩, ⟨_, _, _, rfl, .inr ⟨g, rfl, hg⟩⟩, hb⟩
    · obtain ⟨k, rfl⟩ : ∃ k, j = k + 1 := ⟨j - 1, by omega⟩
      rw [show (((k + 1 : Nat) : Int) - 1) = (k : Int) by omega]
      obtain ⟨b1, o1, rfl, hb1, hc1⟩ := (hrX.out _ hb).digit (k := k) (by omega)
      obtain ⟨x, hx3⟩ : ∃ x, x = (l.getD k 0).toNat := ⟨_, rfl⟩
      rw [← hx3] at hc1
      have bx : x < 4294967296 := hx3 ▸ u32_lt _
      have hrd : r < d := hrm ▸ Nat.mod_lt _ hd
      obtain ⟨T, hT⟩ : ∃ T, T = r * 2 ^ 32 + x := ⟨_, rfl⟩
      obtain ⟨q, hq⟩ : ∃ q, q = T / d := ⟨_, rfl⟩
      obtain ⟨r', hr'⟩ : ∃ r', r' = T % d := ⟨_, rfl⟩
      have hst := small_step (by rw [← HLL.out]; omega) (by rw [hO, HLL.out]) hd hrm hq0 hx3 bx hd2 hT hq hr'
      have hqb := hst.1
      have HST := Lib.hid hst.2
      have HQ : Hid ((T : Int) / (d : Int) = ((q : Nat) : Int)) := by show _ = _; rw [hq]; push_cast; rfl
      have HR' : Hid ((T : Int) % (d : Int) = ((r' : Nat) : Int)) := by show _ = _; rw [hr']; push_cast; rfl
      have HW : Hid ((Value.int .u32 ((q : Nat) : Int)) = W32 (UInt32.ofNat q)) := by show _ = _; rw [← W32_of, Nat.mod_eq_of_lt hqb]
      have hqz : (T : Int) / (d : Int) < 4294967296 := by rw [HQ.out]; omega
      have hqz2 : (T : Int) / (d : Int) < 18446744073709551616 := by omega
      go_upto_region 5 with (fail)
      refine lx_plain_eq ?_
      simp only [its, Nat.zero_add, Nat.reduceAdd]
      refine lx_vale (by rfl) (.int .u64 (r : Int)) (by rfl) ?_
      simp only [Act.put, List.setIfInBounds_toArray, List.set_cons_succ, List.set_cons_zero]
      refine lx_vale (by rfl) (.int .u64 ((r * 2 ^ 32 : Nat) : Int)) (exec_shl _ _ _ _ (by rfl) .u64 .u64 (r : Int) ((r * 2 ^ 32 : Nat) : Int) 32 (by rfl) (by rfl) rfl (by decide) (by rw [w64 (by omega) (by omega)]; omega) _) ?_
      simp only [Act.put, List.setIfInBounds_toArray, List.set_cons_succ, List.set_cons_zero]
      refine lx_vale (by rfl) (.slice (some ⟨b1, o1, none⟩) n c0) (by rfl) ?_
      simp only [Act.put, List.setIfInBounds_toArray, List.set_cons_succ, List.set_cons_zero]
      refine lx_vale (by rfl) (.int .i64 (k : Int)) (by rfl) ?_
      simp only [Act.put, List.setIfInBounds_toArray, List.set_cons_succ, List.set_cons_zero]
      refine lx_vale (by rfl) (.pointer (some ⟨b1, o1 + k, none⟩)) (exec_ix1 Tryd.underlying51 size_u32 _ _ (by rfl) b1 (o1) n c0 k (by omega) (by rfl) (by rfl) (by omega) _) ?_
      simp only [Act.put, List.setIfInBounds_toArray, List.set_cons_succ, List.set_cons_zero]
      refine lx_vale (by rfl) (.int .u32 (x : Int)) (exec_ld 63 _ (by rfl) b1 (o1 + k) (by rfl) _ _ (hc1) (fun X u h => load_u32 b1 (o1 + k) X u h)) ?_
      simp only [Act.put, List.setIfInBounds_toArray, List.set_cons_succ, List.set_cons_zero]
      refine lx_vale (by rfl) (.int .u64 (x : Int)) (exec_cnv _ _ .u32 .u64 Tryd.underlying63 Tryd.underlying66 _ (by rfl) (x : Int) (x : Int) (by rfl) (by rw [w64 (by omega) (by omega)]) _) ?_
      simp only [Act.put, List.setIfInBounds_toArray, List.set_cons_succ, List.set_cons_zero]
      refine lx_vale (by rfl) (.int .u64 ((r * 2 ^ 32 + x : Nat) : Int)) (exec_or _ _ _ _ (by rfl) .u64 ((r * 2 ^ 32 : Nat) : Int) (x : Int) ((r * 2 ^ 32 + x : Nat) : Int) (by rfl) (by rfl) (or64 r x 32 (by omega) (by omega)) _) ?_
      simp only [Act.put, List.setIfInBounds_toArray, List.set_cons_succ, List.set_cons_zero]
      refine lx_vale (by rfl) (.int .u64 ((r * 2 ^ 32 + x : Nat) : Int)) (by rfl) ?_
      simp only [Act.put, List.setIfInBounds_toArray, List.set_cons_succ, List.set_cons_zero]
      refine lx_nil ?_
      rintro _ rfl _
      rw [← hT]
      clear hst hq hr' hx3 hrm hq0 hT hc1
      go_upto_region 6 with (fail)
      refine lx_region_st g 63 (O.map W32) ((O.set k (UInt32.ofNat q)).map W32) (List.replicate 12 none ++ [some (fun _ X => Blk X g 63 ((O.set k (UInt32.ofNat q)).map W32))]) (by kernel_rfl) (by kernel_rfl) turns_one ?_
      simp only [its, List.replicate, List.cons_append, List.nil_append, Nat.zero_add, Nat.reduceAdd]
      refine lx_val (by rfl) (.slice (some ⟨g, 0, none⟩) n n) (fun X _ _ => by rfl) ?_
      simp only [Act.put, List.setIfInBounds_toArray, List.set_cons_succ, List.set_cons_zero]
      refine lx_val (by rfl) (.int .i64 (k : Int)) (fun X _ _ => by rfl) ?_
      simp only [Act.put, List.setIfInBounds_toArray, List.set_cons_succ, List.set_cons_zero]
      refine lx_val (by rfl) (.int .u64 (T : Int)) (fun X _ _ => by rfl) ?_
      simp only [Act.put, List.setIfInBounds_toArray, List.set_cons_succ, List.set_cons_zero]
      refine lx_val (by rfl) (.int .u32 (d : Int)) (fun X _ _ => by rfl) ?_
      simp only [Act.put, List.setIfInBounds_toArray, List.set_cons_succ, List.set_cons_zero]
      refine lx_val (by rfl) (.int .u64 (d : Int)) (fun X hX hF => exec_cnv _ _ .u32 .u64 Tryd.underlying63 Tryd.underlying66 _ (by rfl) (d : Int) (d : Int) (by rfl) (by rw [w64 (by omega) (by omega)]) X) ?_
      simp only [Act.put, List.setIfInBounds_toArray, List.set_cons_succ, List.set_cons_zero]
      refine lx_val (by rfl) (.int .u64 ((T : Int) / (d : Int))) (fun X hX hF => exec_quo _ _ _ _ (by rfl) .u64 (T : Int) (d : Int) ((T : Int) / (d : Int)) (by rfl) (by rfl) (by omega) (by omega) rfl (w64 (Int.ediv_nonneg (by omega) (by omega)) (by omega)) X) ?_
      simp only [Act.put, List.setIfInBounds_toArray, List.set_cons_succ, List.set_cons_zero]
      refine lx_val (by rfl) (.int .u32 ((q : Nat) : Int)) (fun X hX hF => exec_cnv _ _ .u64 .u32 Tryd.underlying66 Tryd.underlying63 _ (by rfl) ((T : Int) / (d : Int)) ((q : Nat) : Int) (by rfl) (by rw [w32 (Int.ediv_nonneg (by omega) (by omega)) (by omega)]; exact HQ.out) X) ?_
      simp only [Act.put, List.setIfInBounds_toArray, List.set_cons_succ, List.set_cons_zero]
      refine lx_val (by rfl) (.int .u64 (T : Int)) (fun X _ _ => by rfl) ?_
      simp only [Act.put, List.setIfInBounds_toArray, List.set_cons_succ, List.set_cons_zero]
      refine lx_val (by rfl) (.int .u32 (d : Int)) (fun X _ _ => by rfl) ?_
      simp only [Act.put, List.setIfInBounds_toArray, List.set_cons_succ, List.set_cons_zero]
      refine lx_val (by rfl) (.int .u64 (d : Int)) (fun X hX hF => exec_cnv _ _ .u32 .u64 Tryd.underlying63 Tryd.underlying66 _ (by rfl) (d : Int) (d : Int) (by rfl) (by rw [w64 (by omega) (by omega)]) X) ?_
      simp only [Act.put, List.setIfInBounds_toArray, List.set_cons_succ, List.set_cons_zero]
      refine lx_val (by rfl) (.int .u64 ((r' : Nat) : Int)) (fun X hX hF => exec_rem _ _ _ _ (by rfl) .u64 (T : Int) (d : Int) ((r' : Nat) : Int) (by rfl) (by rfl) (by omega) (by omega) HR'.out X) ?_
      simp only [Act.put, List.setIfInBounds_toArray, List.set_cons_succ, List.set_cons_zero]
      refine lx_val (by rfl) (.pointer (some ⟨g, k, none⟩)) (fun X hX hF => exec_ix0 Tryd.underlying51 size_u32 _ _ (by rfl) g n n k (by omega) (by rfl) (by rfl) (by omega) X) ?_
      simp only [Act.put, List.setIfInBounds_toArray, List.set_cons_succ, List.set_cons_zero]
      refine lx_store (by rfl) 63 (.tmp 38) (.tmp 33) (by rfl) rfl (k) (by rfl) (.int .u32 ((q : Nat) : Int)) (by rfl) hB (by rw [show (Value.int .u32 ((q : Nat) : Int)) = W32 (UInt32.ofNat q) from HW.out, set_map]) (by rw [List.length_map]; omega) (fun X u h1 h2 => exec_st32 _ _ (by rfl) _ _ (by rfl) (by rfl) u X h1 h2) ?_
      refine lx_val (by rfl) (.int .u64 ((r' : Nat) : Int)) (fun X _ _ => by rfl) ?_
      simp only [Act.put, List.setIfInBounds_toArray, List.set_cons_succ, List.set_cons_zero]
      refine lx_nil ?_
      intro X hX hF
      have hB' := hF _ _ List.mem_cons_self
      have hb' := hX.below hb hb.size hg
      clear hF hX hB hb hqz hqz2
      have HO := Lib.hid hO
      clear hO
      go_wp2
      go_roundw
      case rel => exact ⟨k, r', O.set k (UInt32.ofNat q), by omega, rfl, rfl, HST.out.1, by rw [List.length_set]; exact HO.out, HST.out.2, hB', hb'⟩
      case measure => simp [intOf]

theorem smallC (v : Value) (x0 d : Nat) (w : World) (hr : Lm x0 v w) (hx : (ld x0).length ≤ 16777216) (hd : 0 < d) (hd2 : d < 4294967296) :
    Calls Tryd.prog 47 #[v, .int .u32 (d : Int)] w fun e w' => ∃ u, e = .returned (.tuple #[u, .int .u32 ((x0 % d : Nat) : Int)]) ∧ Lm (x0 / d) u w' ∧ Below w.heap.size w w' :=
  (smallF v x0 d w hr hx hd hd2).mono fun _ _ ⟨u, h1, h2, _, h4⟩ => ⟨u, h1, h2, h4⟩
theorem exec_bs1 {f : Operand → Value} {o : Oper} (x : Operand) (ho : o.op = .buildSlice 51 1 #[(0, x)]) (n : Int) (hx : f x = .int .u32 n) (X : World) :
    (execOp f o).run Tryd.prog X = .ok (.value (.slice (some ⟨X.heap.size, 0, none⟩) 1 1)) (X.alloc (.cells #[.int .u32 n] 63)) := by
  unfold execOp
  simp only [ho]
  go_simp
theorem exec_bs2 {f : Operand → Value} {o : Oper} (x y : Operand) (ho : o.op = .buildSlice 51 2 #[(0, x), (1, y)]) (m n : Int) (hx : f x = .int .u32 m) (hy : f y = .int .u32 n) (X : World) :
    (execOp f o).run Tryd.prog X = .ok (.value (.slice (some ⟨X.heap.size, 0, none⟩) 2 2)) (X.alloc (.cells #[.int .u32 m, .int .u32 n] 63)) := by
  unfold execOp
  simp only [ho]
  go_simp
theorem ld_small {d : Nat} (h0 : 0 < d) (h : d < 4294967296) : ld d = [UInt32.ofNat d] := by
  have h1 : lw [UInt32.ofNat d] = d := by rw [lw_one, u32n, Nat.mod_eq_of_lt h]
  have h2 := ld_of (l := [UInt32.ofNat d]) (by
    simp only [List.getLast?_singleton, ne_eq, Option.some.injEq]
    intro h3
    have := congrArg UInt32.toNat h3
    rw [u32n, Nat.mod_eq_of_lt h] at this
    have h4 : (0 : UInt32).toNat = 0 := rfl
    omega)
  rw [h1] at h2
  exact h2
theorem Dg.new1 (X : World) (n : Int) (d : UInt32) (hd : n = (d.toNat : Int)) : Dg [d] (.slice (some ⟨X.heap.size, 0, none⟩) 1 1) (X.alloc (.cells #[.int .u32 n] 63)) := by
  subst hd
  exact ⟨_, 1, rfl, (Blk.new (xs := [d].map W32) rfl).rd rfl (by show 1 ≤ maxLen; unfold maxLen; omega)⟩
theorem Dg.new2 (X : World) (m n : Int) (d e : UInt32) (hd : m = (d.toNat : Int)) (he : n = (e.toNat : Int)) : Dg [d, e] (.slice (some ⟨X.heap.size, 0, none⟩) 2 2) (X.alloc (.cells #[.int .u32 m, .int .u32 n] 63)) := by
  subst hd he
  exact ⟨_, 2, rfl, (Blk.new (xs := [d, e].map W32) rfl).rd rfl (by show 2 ≤ maxLen; unfold maxLen; omega)⟩
theorem since_alloc (X : World) (ob : Obj) : Since X (X.alloc ob) := (Below.refl X.heap.size X).alloc (Nat.le_refl _) ob
/-- 'limbs{d}' of a digit that is not 0. -/
theorem exec_one {f : Operand → Value} {o : Oper} (x : Operand) (ho : o.op = .buildSlice 51 1 #[(0, x)]) (d : Nat) (h0 : 0 < d) (h : d < 4294967296) {n : Int} (hx : f x = .int .u32 n) (hn : n = (d : Int)) (X : World) :
    ∃ v X', (execOp f o).run Tryd.prog X = .ok (.value v) X' ∧ Lm d v X' ∧ Since X X' := by
  refine ⟨_, _, exec_bs1 x ho n hx X, ?_, since_alloc X _⟩
  show Dg (ld d) _ _
  rw [show ld d = [UInt32.ofNat d] from ld_small h0 h]
  exact Dg.new1 X n _ (by rw [u32n, Nat.mod_eq_of_lt h]; exact hn)
theorem exec_neg {P : Program} {f : Operand → Value} {o : Oper} (t : TypeId) (x : Operand) (ho : o.op = .unOp .neg t x) (m r : Int) (hx : f x = .int .i64 m) (hr : -m = r) (h1 : -9223372036854775808 ≤ r) (h2 : r ≤ 9223372036854775807) (w : World) : (execOp f o).run P w = .ok (.value (.int .i64 r)) w := by
  have h : IntKind.i64.wrap r = r := IntWalk.i64_in _ ⟨h1, h2⟩
  unfold execOp
  simp only [ho, hx]
  go_simp

set_option maxRecDepth 100000 in
set_option maxHeartbeats 1600000 in
theorem shiftL (v : Value) (x0 b : Nat) (w : World) (hr : Lm x0 v w) (hx : (ld x0).length ≤ 16777216) (hb : b ≤ 31) :
    Calls Tryd.prog 51 #[v, .int .i64 (b : Int)] w fun e w' => ∃ u, e = .returned u ∧ Lm (x0 * 2 ^ b) u w' ∧ Below w.heap.size w w' := by
  have hpos : 0 < 2 ^ b := Nat.pow_pos (by omega)
  have hlt2 : 2 ^ b < 4294967296 := Nat.lt_of_le_of_lt (Nat.pow_le_pow_right (by omega) hb) (by decide)
  have HB : Hid (IntKind.u32.wrap (1 * 2 ^ b) = ((2 ^ b : Nat) : Int)) := by
    show _ = _
    have e : (1 : Int) * 2 ^ b = ((2 ^ b : Nat) : Int) := by push_cast; omega
    rw [e]
    exact w32 (by omega) (by omega)
  go_enter Tryd.func51, Tryd.ntmps51
  go_upto_region 4 with (fail)
  refine lx_plain [none, none, none, some (Lm (2 ^ b)), some (Lm (x0 * 2 ^ b))] (lasts_none (lasts_none (lasts_none (lasts_some (Dg.lasts _) (lasts_some (Dg.lasts _) (lasts_nil)))))) ?_
  simp only [its, Nat.zero_add, Nat.reduceAdd]
  refine lx_val (by rfl) (v) (fun X _ _ => by rfl) ?_
  simp only [Act.put, List.setIfInBounds_toArray, List.set_cons_succ, List.set_cons_zero]
  refine lx_val (by rfl) (.int .i64 (b : Int)) (fun X _ _ => by rfl) ?_
  simp only [Act.put, List.setIfInBounds_toArray, List.set_cons_succ, List.set_cons_zero]
  refine lx_val (by rfl) (.int .u32 ((2 ^ b : Nat) : Int)) (fun X hX hF => exec_shl _ _ _ _ (by rfl) .u32 .i64 1 ((2 ^ b : Nat) : Int) b (by rfl) (by rfl) rfl (by show b ≤ 32; omega) HB.out X) ?_
  simp only [Act.put, List.setIfInBounds_toArray, List.set_cons_succ, List.set_cons_zero]
  refine lx_new (by rfl) (fun X hX hF => exec_one _ (by rfl) (2 ^ b) hpos hlt2 (by rfl) rfl X) ?_
  intro v21
  simp only [Act.put, List.setIfInBounds_toArray, List.set_cons_succ, List.set_cons_zero]
  refine lx_make (by rfl) 43 _ _ (by rfl) [v, v21] (by rfl) (fun _ => by go_simp) (fun X hX hF => timesC v v21 x0 (2 ^ b) X (hr.bel hX) (hF _ _ List.mem_cons_self rfl) hx (by rw [ld_small hpos hlt2]; exact Nat.le_of_ble_eq_true rfl)) ?_
  intro v22
  simp only [Act.put, List.setIfInBounds_toArray, List.set_cons_succ, List.set_cons_zero]
  refine lx_val (by rfl) (v22) (fun X _ _ => by rfl) ?_
  simp only [Act.put, List.setIfInBounds_toArray, List.set_cons_succ, List.set_cons_zero]
  refine lx_nil ?_
  intro X hX hF
  have hL := hF _ _ List.mem_cons_self
  clear hF
  go_wp2
  go_ret
  exact ⟨_, rfl, hL, hX⟩
set_option maxRecDepth 100000 in
set_option maxHeartbeats 1600000 in
theorem shiftR (v : Value) (x0 b : Nat) (w : World) (hr : Lm x0 v w) (hx : (ld x0).length ≤ 16777216) (hb0 : 0 < b) (hb : b ≤ 31) :
    Calls Tryd.prog 51 #[v, .int .i64 (-(b : Int))] w fun e w' => ∃ u, e = .returned u ∧ Lm (x0 / 2 ^ b) u w' ∧ Below w.heap.size w w' := by
  have hpos : 0 < 2 ^ b := Nat.pow_pos (by omega)
  have hlt2 : 2 ^ b < 4294967296 := Nat.lt_of_le_of_lt (Nat.pow_le_pow_right (by omega) hb) (by decide)
  have HB : Hid (IntKind.u32.wrap (1 * 2 ^ b) = ((2 ^ b : Nat) : Int)) := by
    show _ = _
    have e : (1 : Int) * 2 ^ b = ((2 ^ b : Nat) : Int) := by push_cast; omega
    rw [e]
    exact w32 (by omega) (by omega)
  go_enter Tryd.func51, Tryd.ntmps51
  go_upto_region 2 with (fail)
  refine lx_plain_to 5 [none, none, none, none, some (fun q Y => ∃ u, q = .tuple #[u, .int .u32 ((x0 % 2 ^ b : Nat) : Int)] ∧ Lm (x0 / 2 ^ b) u Y)] (lasts_none (lasts_none (lasts_none (lasts_none (lasts_some ((by rintro q X Y ⟨u, h1, h2⟩ hS; exact ⟨u, h1, h2.bel hS⟩)) (lasts_nil)))))) ?_
  simp only [its, List.take, List.drop, Nat.zero_add, Nat.reduceAdd]
  refine lx_val (by rfl) (v) (fun X _ _ => by rfl) ?_
  simp only [Act.put, List.setIfInBounds_toArray, List.set_cons_succ, List.set_cons_zero]
  refine lx_val (by rfl) (.int .i64 (-(b : Int))) (fun X _ _ => by rfl) ?_
  simp only [Act.put, List.setIfInBounds_toArray, List.set_cons_succ, List.set_cons_zero]
  refine lx_val (by rfl) (.int .i64 (b : Int)) (fun X hX hF => exec_neg _ _ (by rfl) (-(b : Int)) (b : Int) (by rfl) (by omega) (by omega) (by omega) X) ?_
  simp only [Act.put, List.setIfInBounds_toArray, List.set_cons_succ, List.set_cons_zero]
  refine lx_val (by rfl) (.int .u32 ((2 ^ b : Nat) : Int)) (fun X hX hF => exec_shl _ _ _ _ (by rfl) .u32 .i64 1 ((2 ^ b : Nat) : Int) b (by rfl) (by rfl) rfl (by show b ≤ 32; omega) HB.out X) ?_
  simp only [Act.put, List.setIfInBounds_toArray, List.set_cons_succ, List.set_cons_zero]
  refine lx_make (by rfl) 47 _ _ (by rfl) [v, .int .u32 ((2 ^ b : Nat) : Int)] (by rfl) (fun _ => by go_simp) (fun X hX hF => (smallC v x0 (2 ^ b) X (hr.bel hX) hx hpos hlt2).mono fun e X' ⟨u, h1, h2, h3⟩ => ⟨_, h1, ⟨u, rfl, h2⟩, h3⟩) ?_
  intro v14
  simp only [Act.put, List.setIfInBounds_toArray, List.set_cons_succ, List.set_cons_zero]
  refine lx_nil ?_
  intro X hX hF
  obtain ⟨u, hu, hL⟩ := hF _ _ List.mem_cons_self
  subst hu
  clear hF
  go_wp2
  go_ret
  exact ⟨_, rfl, hL, hX⟩

end Go.Proofs.YtglnabciomlmmaaDoor
