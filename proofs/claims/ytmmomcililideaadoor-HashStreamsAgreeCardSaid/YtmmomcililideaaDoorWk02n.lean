/-
  The reference's digests and keyed hashes.
-/
import Derived.Test.YtmmomcililideaaDoorWk02l
import Derived.Test.YtmmomcililideaaDoorWk02o
import Derived.Test.YtmmomcililideaaDoorQw
set_option linter.unusedSimpArgs false
set_option linter.unusedVariables false
namespace Go.Proofs.YtmmomcililideaaDoor
open Go.RowKit

/-- A digest's first k bytes. -/
def dgA (h : List UInt8) (k : Nat) : List UInt8 := h.take k ++ List.replicate (16 - k) 0
theorem dgA_0 (h : List UInt8) : (dgA h 0).map B8 = z16 := by simp [dgA, z16]
theorem dgA_16 (h : List UInt8) : dgA h 16 = h.take 16 := by simp [dgA]
theorem dgA_len {h : List UInt8} {k : Nat} (hl : h.length = 32) (hk : k ≤ 16) : ((dgA h k).map B8).length = 16 := by simp [dgA, hl]; omega
theorem dgA_set {h : List UInt8} {k : Nat} (hl : h.length = 32) (hk : k < 16) : ((dgA h k).map B8).set k (.int .u8 ((h[k]'(by omega)).toNat : Int)) = (dgA h (k + 1)).map B8 := by
  have e : Value.int .u8 ((h[k]'(by omega)).toNat : Int) = B8 (h[k]'(by omega)) := rfl
  rw [e]
  unfold dgA
  have e1 : 16 - k = (16 - (k + 1)) + 1 := by omega
  rw [← List.map_set, List.set_append_right _ _ (by rw [List.length_take]; omega), List.length_take, Nat.min_eq_left (by omega), Nat.sub_self, e1, List.replicate_succ, List.set_cons_zero, take_snoc (show k < h.length by omega), List.append_assoc]
  rfl
theorem dgA_at {h : List UInt8} {k : Nat} (hl : h.length = 32) (hk : k < 16) : ∃ u, ((dgA h k).map B8)[k]? = some u := by
  have := dgA_len hl (Nat.le_of_lt hk)
  exact ⟨_, List.getElem?_eq_getElem (by omega)⟩

set_option maxRecDepth 100000 in
set_option maxHeartbeats 1600000 in
theorem shortC (A : Option Addr) (n c : Nat) (b : List UInt8) (w : World) (hr : Rd w 1 (.slice A n c) n (b.map B8)) (hn : n ≤ 1048576) (hK : KK0 w) :
    Calls Tryd.prog 40 #[.slice A n c] w fun e w' => e = .returned (.agg (((sha b).take 16).map B8).toArray) ∧ Below w.heap.size w w' := by
  have hz := zero16
  have hz2 := zero32
  have hl := sha_len b
  obtain ⟨h, hh⟩ : ∃ h, h = sha b := ⟨_, rfl⟩
  rw [← hh] at hl ⊢
  have HH := Lib.hid hh
  have HL := Lib.hid hl
  clear hh hl
  go_enter Tryd.func40, Tryd.ntmps40
  go_wp2_with fail
  have r0 := hr.alloc (.cells z16.toArray 41)
  have R0 : Blk (w.alloc (.cells z16.toArray 41)) w.heap.size 41 z16 := Blk.new rfl
  have b0 := (Below.refl w.heap.size w).alloc (Nat.le_refl _) (.cells z16.toArray 41)
  generalize w.alloc (.cells z16.toArray 41) = w0 at r0 R0 b0 ⊢
  refine (rsumC _ _ _ b _ r0 hn (hK.below b0 hK.1)).mono ?_
  rintro e w1 ⟨rfl, hb1⟩
  rw [← HH.out]
  have R1 := R0.below hb1 R0.lt
  have b1 := b0.trans (hb1.mono b0.size)
  clear r0 hb1 R0 b0
  go_wp2_with (first
    | ((with_reducible show wpList _ _ _ (⟨none, .store 24 _ _, _, _, _, _⟩ :: _) _ _); refine op_store_new w1 _ _ rfl 24 (.tmp 3) (.tmp 7) rfl rfl (h.map B8).toArray rfl (by simp [HL.out, o32_len]) (by simpa using B8s_one h) (by simp [HL.out, size_o32]) ?_)
    | ((with_reducible show wpList _ _ _ (⟨some 8, _, _, _, _, _⟩ :: _) _ _); refine op_val rfl (.agg z16.toArray) (by kernel_rfl) ?_)
    | ((with_reducible show wpList _ _ _ (⟨none, .store 41 _ _, _, _, _, _⟩ :: _) _ _); refine op_store_at _ _ _ (w1.heap.size + 1) (by simp) rfl 41 (.tmp 4) (.tmp 8) rfl rfl z16.toArray rfl rfl (B8s_one (List.replicate 16 0)) (by kernel_rfl) ?_))
  have hD0 : Blk ((w1.alloc (.cells (h.map B8).toArray 24)).alloc (.cells z16.toArray 41)) (w1.heap.size + 1) 41 ((dgA h 0).map B8) := by rw [dgA_0]; exact Blk.newAt rfl (by simp)
  have hH0 : Blk ((w1.alloc (.cells (h.map B8).toArray 24)).alloc (.cells z16.toArray 41)) w1.heap.size 24 (h.map B8) := (Blk.new rfl).alloc _
  have hR0 := (R1.alloc (.cells (h.map B8).toArray 24)).alloc (.cells z16.toArray 41)
  have hb0 := (b1.alloc b1.size (.cells (h.map B8).toArray 24)).alloc (by have := b1.size; simp; omega) (.cells z16.toArray 41)
  have hlt0 : w.heap.size < w1.heap.size := R1.lt
  generalize (w1.alloc (.cells (h.map B8).toArray 24)).alloc (.cells z16.toArray 41) = w2 at hD0 hH0 hR0 hb0 ⊢
  clear R1 b1
  generalize w1.heap.size = g3 at hD0 hH0 hlt0 ⊢
  go_loopw [5] (fun i wr => ∃ k : Nat, k ≤ 16 ∧ i = .int .i64 (k : Int) ∧ Blk wr g3 24 (h.map B8) ∧ Blk wr (g3 + 1) 41 ((dgA h k).map B8) ∧ Blk wr w.heap.size 41 z16 ∧ Below w.heap.size w wr) (fun i _ => 16 - (intOf i).toNat)
  case atStart => exact ⟨0, by omega, rfl, hH0, hD0, hR0, hb0⟩
  case round =>
    clear hD0 hH0 hR0 hb0
    obtain ⟨k, hk, rfl, hH, hD, hR, hb⟩ := hrel
    by_cases hlt : k < 16
    · have h1 : k < h.length := by rw [HL.out]; omega
      have c1 : wr.cell? ⟨g3, k, none⟩ = some (.int .u8 ((h[k]'h1).toNat : Int)) := hH.cell (bcell_get h1)
      have c2 := dgA_at HL.out hlt
      obtain ⟨u, c2⟩ := c2
      have c3 : wr.cell? ⟨g3 + 1, k, none⟩ = some u := hD.cell c2
      have f3 := hD.free k
      have HS := Lib.hid (dgA_set HL.out hlt)
      clear c2
      generalize h[k]'h1 = x at c1 HS
      go_wp2
      go_roundw
      case rel =>
        have h9 := hD.set k (.int .u8 (x.toNat : Int))
        rw [HS.out] at h9
        exact ⟨k + 1, by omega, by go_num, hH.other _ _ (by simp), h9, hR.other _ _ (by simp; omega), hb.setCell (by simp; omega) _⟩
      case measure => simp [intOf]; omega
    · obtain rfl : k = 16 := by omega
      rw [dgA_16] at hD
      have hl16 : ((h.take 16).map B8).length = 16 := by rw [List.length_map, List.length_take, HL.out]; rfl
      have H16 := Lib.hid hl16
      clear hl16
      go_wp2_with (first
        | ((with_reducible show wpList _ _ _ (⟨some 18, _, _, _, _, _⟩ :: _) _ _); refine op_load_agg rfl 41 (.tmp 4) rfl (g3 + 1) 0 rfl _ Tryd.underlying41 rfl ((h.take 16).map B8) hD.cl (by rw [H16.out]; exact size_dg) ?_)
        | ((with_reducible show wpList _ _ _ (⟨none, .store 41 _ _, _, _, _, _⟩ :: _) _ _); refine op_store_blk rfl 41 (.tmp 2) (.tmp 18) rfl w.heap.size 41 _ hR rfl ((h.take 16).map B8) rfl (by rw [H16.out, z16_len]) (B8s_one _) (by rw [H16.out]; exact size_dg) ?_; intro w9 hC9 hoth9 hbel9 hsz9))
      have hld := run_loadVar_cl (P := Tryd.prog) 41 _ w.heap.size 0 ((h.take 16).map B8) hC9.cl Tryd.underlying41 rfl (by rw [H16.out]; exact size_dg)
      refine bodyPost_ret (v := .agg ((h.take 16).map B8).toArray) ?_ rfl ⟨rfl, hbel9 _ _ hb (Nat.le_refl _)⟩
      simp [results, Tryd.results40, asAddr, hld, Act.put]

set_option maxRecDepth 100000 in
theorem rofC (tag : Int) (A : Option Addr) (n c : Nat) (ss : List (List UInt8)) (w : World) (hr : Rd w 1 (.slice A n c) n (ss.map tx)) (hn : n ≤ 12) (hs : ∀ s ∈ ss, s.length ≤ 400) (hK : KK0 w) :
    Calls Tryd.prog 21 #[.int .i64 tag, .slice A n c] w fun e w' => e = .returned (.agg (((sha (inp tag ss)).take 16).map B8).toArray) ∧ Below w.heap.size w w' := by
  have hz := zero16
  have hql : (inp tag ss).length ≤ 5000 := by
    have := msg_len hs
    have h2 := hr.n_eq
    unfold inp
    simp only [List.length_cons]
    have : ss.length * 410 ≤ 12 * 410 := Nat.mul_le_mul_right _ (by omega)
    omega
  have hsl := sha_len (inp tag ss)
  have hl16 : (((sha (inp tag ss)).take 16).map B8).length = 16 := by rw [List.length_map, List.length_take, hsl]; rfl
  obtain ⟨h, hh⟩ : ∃ h, h = (sha (inp tag ss)).take 16 := ⟨_, rfl⟩
  rw [← hh] at hl16 ⊢
  have HH := Lib.hid hh
  have H16 := Lib.hid hl16
  clear hh hl16 hsl
  have R0 : Blk (w.alloc (.cells z16.toArray 41)) w.heap.size 41 z16 := Blk.new rfl
  have b0 := (Below.refl w.heap.size w).alloc (Nat.le_refl _) (.cells z16.toArray 41)
  have r0 := hr.alloc (.cells z16.toArray 41)
  go_enter Tryd.func21, Tryd.ntmps21
  go_wp2_with fail
  generalize w.alloc (.cells z16.toArray 41) = W at R0 b0 r0 ⊢
  refine (inputC tag _ _ _ ss _ r0 hn hs).mono ?_
  rintro e w1 ⟨A1, c1, rfl, hR1, hb1⟩
  have R1 := R0.below hb1 R0.lt
  have b1 := b0.trans (hb1.mono b0.size)
  clear r0 hb1 R0 b0
  go_wp2_with fail
  refine (shortC _ _ _ (inp tag ss) _ hR1 (by omega) (hK.below b1 hK.1)).mono ?_
  rintro e w2 ⟨rfl, hb2⟩
  rw [← HH.out]
  have R2 := R1.below hb2 R1.lt
  have b2 := b1.trans (hb2.mono b1.size)
  clear hb2 R1 b1 hR1
  go_wp2_with ((with_reducible show wpList _ _ _ (⟨none, .store 41 _ _, _, _, _, _⟩ :: _) _ _); refine op_store_blk rfl 41 (.tmp 4) (.tmp 8) rfl w.heap.size 41 _ R2 rfl (h.map B8) rfl (by rw [H16.out, z16_len]) (B8s_one _) (by rw [H16.out]; exact size_dg) ?_; intro w9 hC9 hoth9 hbel9 hsz9)
  have hld := run_loadVar_cl (P := Tryd.prog) 41 _ w.heap.size 0 (h.map B8) hC9.cl Tryd.underlying41 rfl (by rw [H16.out]; exact size_dg)
  refine bodyPost_ret (v := .agg (h.map B8).toArray) ?_ rfl ⟨rfl, hbel9 _ _ b2 (Nat.le_refl _)⟩
  simp [results, Tryd.results21, asAddr, hld, Act.put]
end Go.Proofs.YtmmomcililideaaDoor
