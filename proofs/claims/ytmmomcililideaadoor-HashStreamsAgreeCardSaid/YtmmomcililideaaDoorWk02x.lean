/-
  The reference's keyed digests and expansion.
-/
import Derived.Test.YtmmomcililideaaDoorWk02w
set_option linter.unusedSimpArgs false
set_option linter.unusedVariables false
namespace Go.Proofs.YtmmomcililideaaDoor
open Go.RowKit

theorem mk_extract (l : List UInt8) (n : Nat) : (⟨l.toArray⟩ : ByteArray).extract 0 n = ⟨(l.take n).toArray⟩ := by
  apply ByteArray.ext
  rw [ByteArray.data_extract]
  simp

set_option maxRecDepth 100000 in
set_option maxHeartbeats 1600000 in
theorem rmacC (key : List UInt8) (A : Option Addr) (n c : Nat) (ss : List (List UInt8)) (w : World) (hr : Rd w 1 (.slice A n c) n (ss.map tx)) (hn : n ≤ 12) (hs : ∀ s ∈ ss, s.length ≤ 400) (hkl : key.length ≤ 1048576) (hK : KK0 w) :
    Calls Tryd.prog 32 #[.string ⟨key.toArray⟩, .slice A n c] w fun e w' => e = .returned (.agg (((hmac key (msg ss)).take 16).map B8).toArray) ∧ Below w.heap.size w w' := by
  have hz := zero16
  have hz2 := zero32
  have hml : (msg ss).length ≤ 1000000 := by
    have := msg_len hs
    have h2 := hr.n_eq
    have : ss.length * 410 ≤ 12 * 410 := Nat.mul_le_mul_right _ (by omega)
    omega
  have hl := hmac_len key (msg ss)
  obtain ⟨h, hh⟩ : ∃ h, h = hmac key (msg ss) := ⟨_, rfl⟩
  rw [← hh] at hl ⊢
  have HH : Hid (∀ _ : Unit, hmac key (msg ss) = h) := fun _ => hh.symm
  have HL := Lib.hid hl
  clear hh hl
  go_enter Tryd.func32, Tryd.ntmps32
  go_wp2_with fail
  have r0 := hr.alloc (.cells z16.toArray 41)
  have R0 : Blk (w.alloc (.cells z16.toArray 41)) w.heap.size 41 z16 := Blk.new rfl
  have b0 := (Below.refl w.heap.size w).alloc (Nat.le_refl _) (.cells z16.toArray 41)
  generalize w.alloc (.cells z16.toArray 41) = w0 at r0 R0 b0 ⊢
  refine (messageC _ _ _ ss _ r0 hn hs).mono ?_
  rintro e w1 ⟨rfl, hb1⟩
  have R1 := R0.below hb1 R0.lt
  have b1 := b0.trans (hb1.mono b0.size)
  clear r0 hb1 R0 b0
  go_wp2_with fail
  refine (rhmacC key (msg ss) _ hkl hml (hK.below b1 hK.1)).mono ?_
  rintro e w2 ⟨rfl, hb2⟩
  rw [HH.out ()]
  have R2 := R1.below hb2 R1.lt
  have b2 := b1.trans (hb2.mono b1.size)
  clear hb2 R1 b1
  go_wp2_with (first
    | ((with_reducible show wpList _ _ _ (⟨none, .store 24 _ _, _, _, _, _⟩ :: _) _ _); refine op_store_new w2 _ _ rfl 24 (.tmp 5) (.tmp 11) rfl rfl (h.map B8).toArray rfl (by simp [HL.out, o32_len]) (by simpa using B8s_one h) (by simp [HL.out, size_o32]) ?_)
    | ((with_reducible show wpList _ _ _ (⟨some 12, _, _, _, _, _⟩ :: _) _ _); refine op_val rfl (.agg z16.toArray) (by kernel_rfl) ?_)
    | ((with_reducible show wpList _ _ _ (⟨none, .store 41 _ _, _, _, _, _⟩ :: _) _ _); refine op_store_at _ _ _ (w2.heap.size + 1) (by simp) rfl 41 (.tmp 6) (.tmp 12) rfl rfl z16.toArray rfl rfl (B8s_one (List.replicate 16 0)) (by kernel_rfl) ?_))
  have hD0 : Blk ((w2.alloc (.cells (h.map B8).toArray 24)).alloc (.cells z16.toArray 41)) (w2.heap.size + 1) 41 ((dgA h 0).map B8) := by rw [dgA_0]; exact Blk.newAt rfl (by simp)
  have hH0 : Blk ((w2.alloc (.cells (h.map B8).toArray 24)).alloc (.cells z16.toArray 41)) w2.heap.size 24 (h.map B8) := (Blk.new rfl).alloc _
  have hR0 := (R2.alloc (.cells (h.map B8).toArray 24)).alloc (.cells z16.toArray 41)
  have hb0 := (b2.alloc b2.size (.cells (h.map B8).toArray 24)).alloc (by have := b2.size; simp; omega) (.cells z16.toArray 41)
  have hlt0 : w.heap.size < w2.heap.size := R2.lt
  generalize (w2.alloc (.cells (h.map B8).toArray 24)).alloc (.cells z16.toArray 41) = w3 at hD0 hH0 hR0 hb0 ⊢
  clear R2 b2
  generalize w2.heap.size = g3 at hD0 hH0 hlt0 ⊢
  go_loopw [7] (fun i wr => ∃ k : Nat, k ≤ 16 ∧ i = .int .i64 (k : Int) ∧ Blk wr g3 24 (h.map B8) ∧ Blk wr (g3 + 1) 41 ((dgA h k).map B8) ∧ Blk wr w.heap.size 41 z16 ∧ Below w.heap.size w wr) (fun i _ => 16 - (intOf i).toNat)
  case atStart => exact ⟨0, by omega, rfl, hH0, hD0, hR0, hb0⟩
  case round =>
    clear hD0 hH0 hR0 hb0
    obtain ⟨k, hk, rfl, hH, hD, hR, hb⟩ := hrel
    by_cases hlt : k < 16
    · have h1 : k < h.length := by rw [HL.out]; omega
      have c1 : wr.cell? ⟨g3, k, none⟩ = some (.int .u8 ((h[k]'h1).toNat : Int)) := hH.cell (bcell_get h1)
      have c2 := dgA_at HL.out hlt
      obtain ⟨u, c2⟩ := c2
      have c3 : wr.cell? ⟨g3 + 1, k, none⟩ = some u := hD.cell c2
      have f3 := hD.free k
      have HS := Lib.hid (dgA_set HL.out hlt)
      clear c2
      generalize h[k]'h1 = x at c1 HS
      go_wp2
      go_roundw
      case rel =>
        have h9 := hD.set k (.int .u8 (x.toNat : Int))
        rw [HS.out] at h9
        exact ⟨k + 1, by omega, by go_num, hH.other _ _ (by simp), h9, hR.other _ _ (by simp; omega), hb.setCell (by simp; omega) _⟩
      case measure => simp [intOf]; omega
    · obtain rfl : k = 16 := by omega
      rw [dgA_16] at hD
      have hl16 : ((h.take 16).map B8).length = 16 := by rw [List.length_map, List.length_take, HL.out]; rfl
      have H16 := Lib.hid hl16
      clear hl16
      go_wp2_with (first
        | ((with_reducible show wpList _ _ _ (⟨some 22, _, _, _, _, _⟩ :: _) _ _); refine op_load_agg rfl 41 (.tmp 6) rfl (g3 + 1) 0 rfl _ Tryd.underlying41 rfl ((h.take 16).map B8) hD.cl (by rw [H16.out]; exact size_dg) ?_)
        | ((with_reducible show wpList _ _ _ (⟨none, .store 41 _ _, _, _, _, _⟩ :: _) _ _); refine op_store_blk rfl 41 (.tmp 4) (.tmp 22) rfl w.heap.size 41 _ hR rfl ((h.take 16).map B8) rfl (by rw [H16.out, z16_len]) (B8s_one _) (by rw [H16.out]; exact size_dg) ?_; intro w9 hC9 hoth9 hbel9 hsz9))
      have hld := run_loadVar_cl (P := Tryd.prog) 41 _ w.heap.size 0 ((h.take 16).map B8) hC9.cl Tryd.underlying41 rfl (by rw [H16.out]; exact size_dg)
      refine bodyPost_ret (v := .agg ((h.take 16).map B8).toArray) ?_ rfl ⟨rfl, hbel9 _ _ hb (Nat.le_refl _)⟩
      simp [results, Tryd.results32, asAddr, hld, Act.put]

set_option maxRecDepth 100000 in
set_option maxHeartbeats 1600000 in
theorem rexpandC (seed : List UInt8) (n : Int) (w : World) (hsl : seed.length ≤ 1048576) (hK : KK0 w) :
    Calls Tryd.prog 29 #[.string ⟨seed.toArray⟩, .int .i64 n] w fun e w' => e = .returned (.string ⟨(expI seed n).toArray⟩) ∧ Below w.heap.size w w' := by
  by_cases h1 : n < 1
  · have h2 : ¬ 1 ≤ n := by omega
    have HE : Hid (expI seed n = []) := by show _ = _; unfold expI; rw [if_pos (.inl h1)]
    go_enter Tryd.func29, Tryd.ntmps29
    go_wp2
    go_ret
    exact ⟨by rw [HE.out]; rfl, Below.refl _ _⟩
  · by_cases h2 : 1048576 < n
    · have HE : Hid (expI seed n = []) := by show _ = _; unfold expI; rw [if_pos (.inr h2)]
      have h3 : 1 ≤ n := by omega
      go_enter Tryd.func29, Tryd.ntmps29
      go_wp2
      go_ret
      exact ⟨by rw [HE.out]; rfl, Below.refl _ _⟩
    · obtain ⟨N, rfl⟩ : ∃ N : Nat, n = (N : Int) := ⟨n.toNat, by omega⟩
      have HE : Hid (expI seed (N : Int) = expL seed N) := by show _ = _; unfold expI; rw [if_neg (by omega)]; rfl
      have hN1 : 1 ≤ N := by omega
      have hN2 : N ≤ 1048576 := by omega
      have hz2 := zero32
      have hcat := ByteArray.mk_append_mk
      go_enter Tryd.func29, Tryd.ntmps29
      go_wp2
      go_loopw [5, 6] (fun v i wr => ∃ k : Nat, 32 * k < N + 32 ∧ i = .int .i64 (k : Int) ∧ v = .string ⟨(exs seed k).toArray⟩ ∧ Below w.heap.size w wr) (fun _ i _ => N - (intOf i).toNat)
      case atStart => exact ⟨0, by omega, rfl, rfl, Below.refl _ _⟩
      case round =>
        obtain ⟨k, hk, rfl, rfl, hb⟩ := hrel
        have hel0 := exs_len seed k
        by_cases hlt : 32 * k < N
        · have hl := hmac_len seed (encI (k : Int))
          have HS := Lib.hid (exs_succ seed k)
          generalize exs seed k = p at hel0 HS ⊢
          have hel := encI_length (k : Int)
          generalize hX : encI (k : Int) = x at hl HS hel
          have HX := Lib.hid hX
          generalize hH : hmac seed x = h at hl HS
          have HH := Lib.hid hH
          have hl32 : h.length ≤ 32 := by omega
          have HL := Lib.hid hl
          clear hX hH hl
          go_wp2_with fail
          refine (rInt (k : Int) _ (by omega) (by omega)).mono ?_
          rintro e w1 ⟨v1, rfl, hO1, hb1⟩
          rw [HX.out] at hO1
          have hs1 := run_str 22 9 5 Tryd.underlying22 Tryd.underlying5 Tryd.underlying9 (Rd.of_own hO1)
          have bb1 := hb.trans (hb1.mono hb.size)
          clear hO1 hb1 hb
          go_wp2_with fail
          refine (rhmacC seed x _ hsl (by omega) (hK.below bb1 hK.1)).mono ?_
          rintro e w2 ⟨rfl, hb2⟩
          rw [HH.out]
          have bb2 := bb1.trans (hb2.mono bb1.size)
          clear hs1 hb2 bb1
          go_wp2_with (first
            | ((with_reducible show wpList _ _ _ (⟨none, .store 24 _ _, _, _, _, _⟩ :: _) _ _); refine op_store_new w2 _ _ rfl 24 (.tmp 7) (.tmp 24) rfl rfl (h.map B8).toArray rfl (by simp [HL.out, o32_len]) (by simpa using B8s_one h) (by simp [HL.out, size_o32]) ?_)
            | ((with_reducible show wpList _ _ _ (⟨some 26, _, _, _, _, _⟩ :: _) _ _); refine op_load_agg rfl 24 (.tmp 7) rfl w2.heap.size 0 rfl _ Tryd.underlying24 rfl (h.map B8) (Blk.new (w := w2) (t := 24) (xs := h.map B8) rfl).cl (by rw [List.length_map, HL.out]; exact size_o32) ?_))
          have bb3 := bb2.alloc bb2.size (.cells (h.map B8).toArray 24)
          refine (b32C h _ HL.out).mono ?_
          rintro e w4 ⟨rfl, hb4⟩
          have bb4 := bel_next bb3 hb4
          clear hb4 bb3 bb2
          go_wp2
          go_roundw
          case rel => exact ⟨k + 1, by omega, by go_num, by rw [HS.out], bb4⟩
          case measure => simp [intOf]; omega
        · have hq : k = (N + 31) / 32 := by omega
          have HF : Hid (expL seed N = (exs seed k).take N) := by rw [hq]; rfl
          clear hq
          generalize exs seed k = p at hel0 HF ⊢
          go_wp2
          go_ret
          exact ⟨by rw [HE.out, HF.out, mk_extract]; rfl, hb⟩
end Go.Proofs.YtmmomcililideaaDoor
