/-
  Reference of layer 48: words.
-/
import Derived.Test.YthinopepcmidmaaDoorSt48
import Derived.Test.YthinopepcmidmaaDoorWe
import Derived.Test.YthinopepcmidmaaDoorWk02v
import Derived.Test.YthinopepcmidmaaDoorWk02l
import Derived.Test.YthinopepcmidmaaDoorWk02o
import Derived.Test.YthinopepcmidmaaDoorQw
set_option linter.unusedSimpArgs false
set_option linter.unusedVariables false
set_option maxRecDepth 100000
set_option maxHeartbeats 1600000
namespace Go.Proofs.YthinopepcmidmaaDoor
open Go.RowKit
/-- A digest's first k bytes. -/
def dgA (h : List UInt8) (k : Nat) : List UInt8 := h.take k ++ List.replicate (16 - k) 0
theorem dgA_0 (h : List UInt8) : (dgA h 0).map B8 = z16 := by simp [dgA, z16]
theorem dgA_16 (h : List UInt8) : dgA h 16 = h.take 16 := by simp [dgA]
theorem dgA_len {h : List UInt8} {k : Nat} (hl : h.length = 32) (hk : k ≤ 16) : ((dgA h k).map B8).length = 16 := by simp [dgA, hl]; omega
theorem dgA_set {h : List UInt8} {k : Nat} (hl : h.length = 32) (hk : k < 16) : ((dgA h k).map B8).set k (.int .u8 ((h[k]'(by omega)).toNat : Int)) = (dgA h (k + 1)).map B8 := by
  have e : Value.int .u8 ((h[k]'(by omega)).toNat : Int) = B8 (h[k]'(by omega)) := rfl
  rw [e]
  unfold dgA
  have e1 : 16 - k = (16 - (k + 1)) + 1 := by omega
  rw [← List.map_set, List.set_append_right _ _ (by rw [List.length_take]; omega), List.length_take, Nat.min_eq_left (by omega), Nat.sub_self, e1, List.replicate_succ, List.set_cons_zero, take_snoc (show k < h.length by omega), List.append_assoc]
  rfl
theorem dgA_at {h : List UInt8} {k : Nat} (hl : h.length = 32) (hk : k < 16) : ∃ u, ((dgA h k).map B8)[k]? = some u := by
  have := dgA_len hl (Nat.le_of_lt hk)
  exact ⟨_, List.getElem?_eq_getElem (by omega)⟩
theorem shortC (A : Option Addr) (n c : Nat) (b : List UInt8) (w : World) (hr : Rd w 1 (.slice A n c) n (b.map B8)) (hn : n ≤ 1048576) (hK : KK0 w) :
    Calls Tryd.prog 48 #[.slice A n c] w fun e w' => e = .returned (.agg (((sha b).take 16).map B8).toArray) ∧ Below w.heap.size w w' := by
  have hz := zero16
  have hz2 := zero32
  have hl := sha_len b
  obtain ⟨h, hh⟩ : ∃ h, h = sha b := ⟨_, rfl⟩
  rw [← hh] at hl ⊢
  have HH := Lib.hid hh
  have HL := Lib.hid hl
  clear hh hl
  go_enter Tryd.func48, Tryd.ntmps48
  go_wp2_with fail
  have r0 := hr.alloc (.cells z16.toArray 26)
  have R0 : Blk (w.alloc (.cells z16.toArray 26)) w.heap.size 26 z16 := Blk.new rfl
  have b0 := (Below.refl w.heap.size w).alloc (Nat.le_refl _) (.cells z16.toArray 26)
  generalize w.alloc (.cells z16.toArray 26) = w0 at r0 R0 b0 ⊢
  refine (rsumC _ _ _ b _ r0 hn (hK.below b0 hK.1)).mono ?_
  rintro e w1 ⟨rfl, hb1⟩
  rw [← HH.out]
  have R1 := R0.below hb1 R0.lt
  have b1 := b0.trans (hb1.mono b0.size)
  clear r0 hb1 R0 b0
  go_wp2_with (first
    | ((with_reducible show wpList _ _ _ (⟨none, .store 74 _ _, _, _, _, _⟩ :: _) _ _); refine op_store_new w1 _ _ rfl 74 (.tmp 3) (.tmp 7) rfl rfl (h.map B8).toArray rfl (by simp [HL.out, o32_len]) (by simpa using B8s_one h) (by simp [HL.out, size_o32]) ?_)
    | ((with_reducible show wpList _ _ _ (⟨some 8, _, _, _, _, _⟩ :: _) _ _); refine op_val rfl (.agg z16.toArray) (by kernel_rfl) ?_)
    | ((with_reducible show wpList _ _ _ (⟨none, .store 26 _ _, _, _, _, _⟩ :: _) _ _); refine op_store_at _ _ _ (w1.heap.size + 1) (by simp) rfl 26 (.tmp 4) (.tmp 8) rfl rfl z16.toArray rfl rfl (B8s_one (List.replicate 16 0)) (by kernel_rfl) ?_))
  have hD0 : Blk ((w1.alloc (.cells (h.map B8).toArray 74)).alloc (.cells z16.toArray 26)) (w1.heap.size + 1) 26 ((dgA h 0).map B8) := by rw [dgA_0]; exact Blk.newAt rfl (by simp)
  have hH0 : Blk ((w1.alloc (.cells (h.map B8).toArray 74)).alloc (.cells z16.toArray 26)) w1.heap.size 74 (h.map B8) := (Blk.new rfl).alloc _
  have hR0 := (R1.alloc (.cells (h.map B8).toArray 74)).alloc (.cells z16.toArray 26)
  have hb0 := (b1.alloc b1.size (.cells (h.map B8).toArray 74)).alloc (by have := b1.size; simp; omega) (.cells z16.toArray 26)
  have hlt0 : w.heap.size < w1.heap.size := R1.lt
  generalize (w1.alloc (.cells (h.map B8).toArray 74)).alloc (.cells z16.toArray 26) = w2 at hD0 hH0 hR0 hb0 ⊢
  clear R1 b1
  generalize w1.heap.size = g3 at hD0 hH0 hlt0 ⊢
  go_loopw [5] (fun i wr => ∃ k : Nat, k ≤ 16 ∧ i = .int .i64 (k : Int) ∧ Blk wr g3 74 (h.map B8) ∧ Blk wr (g3 + 1) 26 ((dgA h k).map B8) ∧ Blk wr w.heap.size 26 z16 ∧ Below w.heap.size w wr) (fun i _ => 16 - (intOf i).toNat)
  case atStart => exact ⟨0, by omega, rfl, hH0, hD0, hR0, hb0⟩
  case round =>
    clear hD0 hH0 hR0 hb0
    obtain ⟨k, hk, rfl, hH, hD, hR, hb⟩ := hrel
    by_cases hlt : k < 16
    · have h1 : k < h.length := by rw [HL.out]; omega
      have c1 : wr.cell? ⟨g3, k, none⟩ = some (.int .u8 ((h[k]'h1).toNat : Int)) := hH.cell (bcell_get h1)
      have c2 := dgA_at HL.out hlt
      obtain ⟨u, c2⟩ := c2
      have c3 : wr.cell? ⟨g3 + 1, k, none⟩ = some u := hD.cell c2
      have f3 := hD.free k
      have HS := Lib.hid (dgA_set HL.out hlt)
      clear c2
      generalize h[k]'h1 = x at c1 HS
      go_wp2
      go_roundw
      case rel =>
        have h9 := hD.set k (.int .u8 (x.toNat : Int))
        rw [HS.out] at h9
        exact ⟨k + 1, by omega, by go_num, hH.other _ _ (by simp), h9, hR.other _ _ (by simp; omega), hb.setCell (by simp; omega) _⟩
      case measure => simp [intOf]; omega
    · obtain rfl : k = 16 := by omega
      rw [dgA_16] at hD
      have hl16 : ((h.take 16).map B8).length = 16 := by rw [List.length_map, List.length_take, HL.out]; rfl
      have H16 := Lib.hid hl16
      clear hl16
      go_wp2_with (first
        | ((with_reducible show wpList _ _ _ (⟨some 18, _, _, _, _, _⟩ :: _) _ _); refine op_load_agg rfl 26 (.tmp 4) rfl (g3 + 1) 0 rfl _ Tryd.underlying26 rfl ((h.take 16).map B8) hD.cl (by rw [H16.out]; exact size_dg) ?_)
        | ((with_reducible show wpList _ _ _ (⟨none, .store 26 _ _, _, _, _, _⟩ :: _) _ _); refine op_store_blk rfl 26 (.tmp 2) (.tmp 18) rfl w.heap.size 26 _ hR rfl ((h.take 16).map B8) rfl (by rw [H16.out, z16_len]) (B8s_one _) (by rw [H16.out]; exact size_dg) ?_; intro w9 hC9 hoth9 hbel9 hsz9))
      have hld := run_loadVar_cl (P := Tryd.prog) 26 _ w.heap.size 0 ((h.take 16).map B8) hC9.cl Tryd.underlying26 rfl (by rw [H16.out]; exact size_dg)
      refine bodyPost_ret (v := .agg ((h.take 16).map B8).toArray) ?_ rfl ⟨rfl, hbel9 _ _ hb (Nat.le_refl _)⟩
      simp [results, Tryd.results48, asAddr, hld, Act.put]
theorem rofC (tag : Int) (A : Option Addr) (n c : Nat) (ss : List (List UInt8)) (w : World) (hr : Rd w 1 (.slice A n c) n (ss.map tx)) (hn : n ≤ 12) (hs : ∀ s ∈ ss, s.length ≤ 5000) (hK : KK0 w) :
    Calls Tryd.prog 38 #[.int .i64 tag, .slice A n c] w fun e w' => e = .returned (.agg (((sha (inp tag ss)).take 16).map B8).toArray) ∧ Below w.heap.size w w' := by
  have hz := zero16
  have hql : (inp tag ss).length ≤ 61000 := by
    have := msg_len hs
    have h2 := hr.n_eq
    unfold inp
    simp only [List.length_cons]
    have : ss.length * 5010 ≤ 12 * 5010 := Nat.mul_le_mul_right _ (by omega)
    omega
  have hsl := sha_len (inp tag ss)
  have hl16 : (((sha (inp tag ss)).take 16).map B8).length = 16 := by rw [List.length_map, List.length_take, hsl]; rfl
  obtain ⟨h, hh⟩ : ∃ h, h = (sha (inp tag ss)).take 16 := ⟨_, rfl⟩
  rw [← hh] at hl16 ⊢
  have HH := Lib.hid hh
  have H16 := Lib.hid hl16
  clear hh hl16 hsl
  have R0 : Blk (w.alloc (.cells z16.toArray 26)) w.heap.size 26 z16 := Blk.new rfl
  have b0 := (Below.refl w.heap.size w).alloc (Nat.le_refl _) (.cells z16.toArray 26)
  have r0 := hr.alloc (.cells z16.toArray 26)
  go_enter Tryd.func38, Tryd.ntmps38
  go_wp2_with fail
  generalize w.alloc (.cells z16.toArray 26) = W at R0 b0 r0 ⊢
  refine (inputC tag _ _ _ ss _ r0 hn hs).mono ?_
  rintro e w1 ⟨A1, c1, rfl, hR1, hb1⟩
  have R1 := R0.below hb1 R0.lt
  have b1 := b0.trans (hb1.mono b0.size)
  clear r0 hb1 R0 b0
  go_wp2_with fail
  refine (shortC _ _ _ (inp tag ss) _ hR1 (by omega) (hK.below b1 hK.1)).mono ?_
  rintro e w2 ⟨rfl, hb2⟩
  rw [← HH.out]
  have R2 := R1.below hb2 R1.lt
  have b2 := b1.trans (hb2.mono b1.size)
  clear hb2 R1 b1 hR1
  go_wp2_with ((with_reducible show wpList _ _ _ (⟨none, .store 26 _ _, _, _, _, _⟩ :: _) _ _); refine op_store_blk rfl 26 (.tmp 4) (.tmp 8) rfl w.heap.size 26 _ R2 rfl (h.map B8) rfl (by rw [H16.out, z16_len]) (B8s_one _) (by rw [H16.out]; exact size_dg) ?_; intro w9 hC9 hoth9 hbel9 hsz9)
  have hld := run_loadVar_cl (P := Tryd.prog) 26 _ w.heap.size 0 (h.map B8) hC9.cl Tryd.underlying26 rfl (by rw [H16.out]; exact size_dg)
  refine bodyPost_ret (v := .agg (h.map B8).toArray) ?_ rfl ⟨rfl, hbel9 _ _ b2 (Nat.le_refl _)⟩
  simp [results, Tryd.results38, asAddr, hld, Act.put]
end Go.Proofs.YthinopepcmidmaaDoor
namespace Go.Proofs.YthinopepcmidmaaDoor
open Go.RowKit
theorem xor_snoc {kb : List UInt8} {x : UInt8} {k : Nat} (h : k < kb.length) : ((kb.take k).map (· ^^^ x)).map B8 ++ [.int .u8 ((kb[k] ^^^ x).toNat : Int)] = ((kb.take (k + 1)).map (· ^^^ x)).map B8 := by
  rw [take_snoc h, List.map_append, List.map_append]
  rfl
theorem withC (A : Option Addr) (c : Nat) (kb : List UInt8) (x : UInt8) (m : List UInt8) (w : World) (hk : kb.length = 64) (hr : Rd w 1 (.slice A 64 c) 64 (kb.map B8)) (hm : m.length ≤ 1048576) :
    Calls Tryd.prog 53 #[.slice A 64 c, .int .u8 (x.toNat : Int), .string ⟨m.toArray⟩] w fun e w' => ∃ A' c', e = .returned (.slice A' (64 + m.length) c') ∧ Rd w' 1 (.slice A' (64 + m.length) c') (64 + m.length) ((kb.map (· ^^^ x) ++ m).map B8) ∧ Below w.heap.size w w' := by
  have HKL := Lib.hid hk
  clear hk
  obtain ⟨bb, off, rfl, hbb, hcs⟩ := hr.cellAt (by omega)
  go_enter Tryd.func53, Tryd.ntmps53
  go_wp2
  go_loopw [7, 8] (fun v i wr => ∃ k : Nat, k ≤ 64 ∧ i = .int .i64 (k : Int) ∧ wr.ownsRow w.heap.size 5 1 v k (((kb.take k).map (· ^^^ x)).map B8) ∧ Below w.heap.size w wr) (fun _ i _ => 64 - (intOf i).toNat)
  case atStart => exact ⟨0, by omega, rfl, own_nil _ _ _, Below.refl _ _⟩
  case round =>
    obtain ⟨k, hk, rfl, hown, hb⟩ := hrel
    have hR := Rd.of_own hown
    obtain ⟨A1, c1, rfl, hc1, hc2⟩ := hR.form
    by_cases hlt : k < 64
    · have h1 : k < kb.length := by rw [HKL.out]; exact hlt
      have ci : wr.cell? ⟨bb, off + k, none⟩ = some (.int .u8 ((kb[k]'h1).toNat : Int)) := by
        rw [hb.cell (p := ⟨bb, off + k, none⟩) hbb]
        exact hcs _ _ (bcell_get h1)
      have HS := Lib.hid (xor_snoc (x := x) h1)
      have hxr := u8x (kb[k]'h1) x
      clear hR
      generalize kb[k]'h1 = y at ci HS hxr
      generalize hzz : (y ^^^ x).toNat = zz at hxr HS
      clear hzz
      go_wp2_with (at_builtin; refine app8 rfl rfl (w.heap.size) _ (k) _ rfl hown rfl rfl (by omega) (hb.size) ?_; intro A2 c2 w2 hown2 hc3 hc4 hb2)
      go_roundw
      case rel =>
        rw [HS.out] at hown2
        exact ⟨k + 1, by omega, by go_num, hown2, hb.trans hb2⟩
      case measure => simp [intOf]; omega
    · obtain rfl : k = 64 := by omega
      rw [List.take_of_length_le (by rw [HKL.out]; omega)] at hown
      obtain ⟨c2, w2, hcv, hR2, hb2⟩ := conv_bytes (P := Tryd.prog) wr 9 69 5 Tryd.underlying9 Tryd.underlying69 Tryd.underlying5 m (by omega)
      have hown2 := own_below hown hb2
      have bb2 := hb.trans (hb2.mono hb.size)
      clear hR hown
      go_wp2_with (at_builtin; refine append_rd rfl (.tmp 24) (.tmp 26) 69 rfl w.heap.size 5 _ 1 1 Tryd.underlying69 info_u8 rfl (by decide) _ _ _ rfl hown2 _ _ _ rfl hR2 (B8s_one _) (by omega) (by unfold maxLen; omega) bb2.size ?_; intro v4 w4 hown4 hg4 hb4)
      have hR4 := Rd.of_own hown4
      obtain ⟨A4, c4, rfl, _, _⟩ := hR4.form
      rw [← List.map_append] at hR4
      have HR := Lib.hid hR4
      clear hR4 hown4 hown2 hcv hR2
      go_ret
      exact ⟨A4, c4, rfl, HR.out, bb2.trans hb4⟩
theorem rhmacC (key m : List UInt8) (w : World) (hk : key.length ≤ 1048576) (hm : m.length ≤ 1000000) (hK : KK0 w) :
    Calls Tryd.prog 40 #[.string ⟨key.toArray⟩, .string ⟨m.toArray⟩] w fun e w' => e = .returned (.agg ((hmac key m).map B8).toArray) ∧ Below w.heap.size w w' := by
  have hz := zero32'
  obtain ⟨kb, hkb⟩ : ∃ kb, kb = keyBlock key := ⟨_, rfl⟩
  have hkl : kb.length = 64 := by rw [hkb]; exact keyBlock_len key
  obtain ⟨P1, hP1⟩ : ∃ P, P = kb.map (· ^^^ (54 : UInt8)) ++ m := ⟨_, rfl⟩
  have hp1 : P1.length = 64 + m.length := by rw [hP1]; simp [hkl]
  obtain ⟨I, hI⟩ : ∃ I, I = sha P1 := ⟨_, rfl⟩
  have hil : I.length = 32 := by rw [hI]; exact sha_len P1
  obtain ⟨P2, hP2⟩ : ∃ P, P = kb.map (· ^^^ (92 : UInt8)) ++ I := ⟨_, rfl⟩
  have hp2 : P2.length = 64 + I.length := by rw [hP2]; simp [hkl]
  obtain ⟨H, hH⟩ : ∃ H, H = sha P2 := ⟨_, rfl⟩
  have hhl : H.length = 32 := by rw [hH]; exact sha_len P2
  have HF : Hid (∀ _ : Unit, hmac key m = H) := fun _ => by rw [hH, hP2, hI, hP1, hkb]; rfl
  have HKB := Lib.hid hkb
  have HKL := Lib.hid hkl
  have HP1 := Lib.hid hP1
  have HP2 := Lib.hid hP2
  have HI : Hid (∀ _ : Unit, sha P1 = I) := fun _ => hI.symm
  have HH : Hid (∀ _ : Unit, sha P2 = H) := fun _ => hH.symm
  have HIL := Lib.hid hil
  have HHL := Lib.hid hhl
  have HL1 := Lib.hid hp1
  have HL2 := Lib.hid hp2
  clear hkb hkl hP1 hI hP2 hH hil hhl hp1 hp2
  have hKK : ∀ X, Below w.heap.size w X → KK0 X := fun X h => hK.below h hK.1
  have HKK := Lib.hid hKK
  clear hKK
  have R0 : Blk (w.alloc (.cells o32.toArray 74)) w.heap.size 74 o32 := Blk.new rfl
  have b0 := bel_alloc (Below.refl w.heap.size w) (.cells o32.toArray 74)
  go_enter Tryd.func40, Tryd.ntmps40
  go_upto_region 1 with fail
  generalize w.alloc (.cells o32.toArray 74) = W at R0 b0 ⊢
  go_wp2_with fail
  refine (blockC key kb _ HKB.out hk (HKK.out _ b0)).mono ?_
  rintro e w1 ⟨A1, c1, rfl, hr1, hb1⟩
  have R1 := R0.bel hb1
  have b1 := bel_next b0 hb1
  clear hb1
  go_wp2_with fail
  refine (withC A1 c1 kb 54 m _ HKL.out hr1 (by omega)).mono ?_
  rintro e w2 ⟨A2, c2, rfl, hr2, hb2⟩
  rw [← HP1.out] at hr2
  have R2 := R1.bel hb2
  have b2 := bel_next b1 hb2
  have hr1 := hr1.below hb2
  clear hb2
  go_wp2_with fail
  refine (rsumC _ _ _ P1 _ hr2 (by omega) (HKK.out _ b2)).mono ?_
  rintro e w3 ⟨rfl, hb3⟩
  rw [HI.out ()]
  have R3 := R2.bel hb3
  have b3 := bel_next b2 hb3
  have hr1 := hr1.below hb3
  clear hb3 hr2
  go_wp2_with (first
    | ((with_reducible show wpList _ _ _ (⟨none, .store 74 (.tmp 6) _, _, _, _, _⟩ :: _) _ _); refine op_store_new w3 _ _ rfl 74 (.tmp 6) (.tmp 12) rfl rfl (I.map B8).toArray rfl (by simp [HIL.out, o32_len]) (by simpa using B8s_one I) (by simp [HIL.out, size_o32]) ?_)
    | ((with_reducible show wpList _ _ _ (⟨some 14, _, _, _, _, _⟩ :: _) _ _); refine op_load_agg rfl 74 (.tmp 6) rfl w3.heap.size 0 rfl _ Tryd.underlying74 rfl (I.map B8) (Blk.new (w := w3) (t := 74) (xs := I.map B8) rfl).cl (by rw [List.length_map, HIL.out]; exact size_o32) ?_))
  have R4 := R3.alloc (.cells (I.map B8).toArray 74)
  have b4 := bel_alloc b3 (.cells (I.map B8).toArray 74)
  have hr1 := hr1.alloc (.cells (I.map B8).toArray 74)
  refine (b32C I _ HIL.out).mono ?_
  rintro e w5 ⟨rfl, hb5⟩
  have R5 := R4.bel hb5
  have b5 := bel_next b4 hb5
  have hr1 := hr1.below hb5
  clear hb5
  go_wp2_with fail
  refine (withC A1 c1 kb 92 I _ HKL.out hr1 (by rw [HIL.out]; omega)).mono ?_
  rintro e w6 ⟨A6, c6, rfl, hr6, hb6⟩
  rw [← HP2.out] at hr6
  have R6 := R5.bel hb6
  have b6 := bel_next b5 hb6
  clear hb6 hr1
  go_wp2_with fail
  refine (rsumC _ _ _ P2 _ hr6 (by rw [HIL.out]; omega) (HKK.out _ b6)).mono ?_
  rintro e w7 ⟨rfl, hb7⟩
  rw [HH.out ()]
  have R7 := R6.bel hb7
  have b7 := bel_next b6 hb7
  clear hb7 hr6
  go_wp2_with ((with_reducible show wpList _ _ _ (⟨none, .store 74 _ _, _, _, _, _⟩ :: _) _ _); refine op_store_blk rfl 74 (.tmp 4) (.tmp 17) rfl w.heap.size 74 _ R7 rfl (H.map B8) rfl (by rw [List.length_map, HHL.out, o32_len]) (B8s_one _) (by rw [List.length_map, HHL.out]; exact size_o32) ?_; intro w9 hC9 hoth9 hbel9 hsz9)
  have hld := run_loadVar_cl (P := Tryd.prog) 74 _ w.heap.size 0 (H.map B8) hC9.cl Tryd.underlying74 rfl (by rw [List.length_map, HHL.out]; exact size_o32)
  rw [HF.out ()]
  refine bodyPost_ret (v := .agg (H.map B8).toArray) ?_ rfl ⟨rfl, hbel9 _ _ b7 (Nat.le_refl _)⟩
  simp [results, Tryd.results40, asAddr, hld, Act.put]
end Go.Proofs.YthinopepcmidmaaDoor
namespace Go.Proofs.YthinopepcmidmaaDoor
open Go.RowKit
theorem rmacC (key : List UInt8) (A : Option Addr) (n c : Nat) (ss : List (List UInt8)) (w : World) (hr : Rd w 1 (.slice A n c) n (ss.map tx)) (hn : n ≤ 12) (hs : ∀ s ∈ ss, s.length ≤ 5000) (hkl : key.length ≤ 1048576) (hK : KK0 w) :
    Calls Tryd.prog 33 #[.string ⟨key.toArray⟩, .slice A n c] w fun e w' => e = .returned (.agg (((hmac key (msg ss)).take 16).map B8).toArray) ∧ Below w.heap.size w w' := by
  have hz := zero16
  have hz2 := zero32
  have hml : (msg ss).length ≤ 1000000 := by
    have := msg_len hs
    have h2 := hr.n_eq
    have : ss.length * 5010 ≤ 12 * 5010 := Nat.mul_le_mul_right _ (by omega)
    omega
  have hl := hmac_len key (msg ss)
  obtain ⟨h, hh⟩ : ∃ h, h = hmac key (msg ss) := ⟨_, rfl⟩
  rw [← hh] at hl ⊢
  have HH : Hid (∀ _ : Unit, hmac key (msg ss) = h) := fun _ => hh.symm
  have HL := Lib.hid hl
  clear hh hl
  go_enter Tryd.func33, Tryd.ntmps33
  go_wp2_with fail
  have r0 := hr.alloc (.cells z16.toArray 26)
  have R0 : Blk (w.alloc (.cells z16.toArray 26)) w.heap.size 26 z16 := Blk.new rfl
  have b0 := (Below.refl w.heap.size w).alloc (Nat.le_refl _) (.cells z16.toArray 26)
  generalize w.alloc (.cells z16.toArray 26) = w0 at r0 R0 b0 ⊢
  refine (messageC _ _ _ ss _ r0 hn hs).mono ?_
  rintro e w1 ⟨rfl, hb1⟩
  have R1 := R0.below hb1 R0.lt
  have b1 := b0.trans (hb1.mono b0.size)
  clear r0 hb1 R0 b0
  go_wp2_with fail
  refine (rhmacC key (msg ss) _ hkl hml (hK.below b1 hK.1)).mono ?_
  rintro e w2 ⟨rfl, hb2⟩
  rw [HH.out ()]
  have R2 := R1.below hb2 R1.lt
  have b2 := b1.trans (hb2.mono b1.size)
  clear hb2 R1 b1
  go_wp2_with (first
    | ((with_reducible show wpList _ _ _ (⟨none, .store 74 _ _, _, _, _, _⟩ :: _) _ _); refine op_store_new w2 _ _ rfl 74 (.tmp 5) (.tmp 11) rfl rfl (h.map B8).toArray rfl (by simp [HL.out, o32_len]) (by simpa using B8s_one h) (by simp [HL.out, size_o32]) ?_)
    | ((with_reducible show wpList _ _ _ (⟨some 12, _, _, _, _, _⟩ :: _) _ _); refine op_val rfl (.agg z16.toArray) (by kernel_rfl) ?_)
    | ((with_reducible show wpList _ _ _ (⟨none, .store 26 _ _, _, _, _, _⟩ :: _) _ _); refine op_store_at _ _ _ (w2.heap.size + 1) (by simp) rfl 26 (.tmp 6) (.tmp 12) rfl rfl z16.toArray rfl rfl (B8s_one (List.replicate 16 0)) (by kernel_rfl) ?_))
  have hD0 : Blk ((w2.alloc (.cells (h.map B8).toArray 74)).alloc (.cells z16.toArray 26)) (w2.heap.size + 1) 26 ((dgA h 0).map B8) := by rw [dgA_0]; exact Blk.newAt rfl (by simp)
  have hH0 : Blk ((w2.alloc (.cells (h.map B8).toArray 74)).alloc (.cells z16.toArray 26)) w2.heap.size 74 (h.map B8) := (Blk.new rfl).alloc _
  have hR0 := (R2.alloc (.cells (h.map B8).toArray 74)).alloc (.cells z16.toArray 26)
  have hb0 := (b2.alloc b2.size (.cells (h.map B8).toArray 74)).alloc (by have := b2.size; simp; omega) (.cells z16.toArray 26)
  have hlt0 : w.heap.size < w2.heap.size := R2.lt
  generalize (w2.alloc (.cells (h.map B8).toArray 74)).alloc (.cells z16.toArray 26) = w3 at hD0 hH0 hR0 hb0 ⊢
  clear R2 b2
  generalize w2.heap.size = g3 at hD0 hH0 hlt0 ⊢
  go_loopw [7] (fun i wr => ∃ k : Nat, k ≤ 16 ∧ i = .int .i64 (k : Int) ∧ Blk wr g3 74 (h.map B8) ∧ Blk wr (g3 + 1) 26 ((dgA h k).map B8) ∧ Blk wr w.heap.size 26 z16 ∧ Below w.heap.size w wr) (fun i _ => 16 - (intOf i).toNat)
  case atStart => exact ⟨0, by omega, rfl, hH0, hD0, hR0, hb0⟩
  case round =>
    clear hD0 hH0 hR0 hb0
    obtain ⟨k, hk, rfl, hH, hD, hR, hb⟩ := hrel
    by_cases hlt : k < 16
    · have h1 : k < h.length := by rw [HL.out]; omega
      have c1 : wr.cell? ⟨g3, k, none⟩ = some (.int .u8 ((h[k]'h1).toNat : Int)) := hH.cell (bcell_get h1)
      have c2 := dgA_at HL.out hlt
      obtain ⟨u, c2⟩ := c2
      have c3 : wr.cell? ⟨g3 + 1, k, none⟩ = some u := hD.cell c2
      have f3 := hD.free k
      have HS := Lib.hid (dgA_set HL.out hlt)
      clear c2
      generalize h[k]'h1 = x at c1 HS
      go_wp2
      go_roundw
      case rel =>
        have h9 := hD.set k (.int .u8 (x.toNat : Int))
        rw [HS.out] at h9
        exact ⟨k + 1, by omega, by go_num, hH.other _ _ (by simp), h9, hR.other _ _ (by simp; omega), hb.setCell (by simp; omega) _⟩
      case measure => simp [intOf]; omega
    · obtain rfl : k = 16 := by omega
      rw [dgA_16] at hD
      have hl16 : ((h.take 16).map B8).length = 16 := by rw [List.length_map, List.length_take, HL.out]; rfl
      have H16 := Lib.hid hl16
      clear hl16
      go_wp2_with (first
        | ((with_reducible show wpList _ _ _ (⟨some 22, _, _, _, _, _⟩ :: _) _ _); refine op_load_agg rfl 26 (.tmp 6) rfl (g3 + 1) 0 rfl _ Tryd.underlying26 rfl ((h.take 16).map B8) hD.cl (by rw [H16.out]; exact size_dg) ?_)
        | ((with_reducible show wpList _ _ _ (⟨none, .store 26 _ _, _, _, _, _⟩ :: _) _ _); refine op_store_blk rfl 26 (.tmp 4) (.tmp 22) rfl w.heap.size 26 _ hR rfl ((h.take 16).map B8) rfl (by rw [H16.out, z16_len]) (B8s_one _) (by rw [H16.out]; exact size_dg) ?_; intro w9 hC9 hoth9 hbel9 hsz9))
      have hld := run_loadVar_cl (P := Tryd.prog) 26 _ w.heap.size 0 ((h.take 16).map B8) hC9.cl Tryd.underlying26 rfl (by rw [H16.out]; exact size_dg)
      refine bodyPost_ret (v := .agg ((h.take 16).map B8).toArray) ?_ rfl ⟨rfl, hbel9 _ _ hb (Nat.le_refl _)⟩
      simp [results, Tryd.results33, asAddr, hld, Act.put]
end Go.Proofs.YthinopepcmidmaaDoor
namespace Go.Proofs.YthinopepcmidmaaDoor
open Go.RowKit
theorem KK0.since {w X : World} (h : KK0 w) (hS : Since w X) : KK0 X := ⟨Nat.lt_of_lt_of_le h.1 hS.size, h.2.below hS h.1⟩
theorem info_cn48 : (Tryd.prog.info? 48).map (·.size) = some 2 := by kernel_rfl
theorem info_md : (Tryd.prog.info? 36).map (·.size) = some 38 := by kernel_rfl
theorem load_er (b k : Nat) (X : World) (v : Value) (h : X.cell? ⟨b, k, none⟩ = some v) : (loadVar 32 ⟨b, k, none⟩).run Tryd.prog X = .ok v X := by
  go_simp
/-- A statement and an error, as they lie. -/
def mdc (s : Sl) (e : Int) : List Value := slc s ++ [.int .i64 e]
theorem mdc_len {s : Sl} (h : SlOk s) (e : Int) : (mdc s e).length = 38 := by
  unfold mdc
  rw [List.length_append, h.len]
  rfl
theorem info_mdc {s : Sl} (h : SlOk s) (e : Int) : (Tryd.prog.info? 36).map (·.size) = some (mdc s e).length := by rw [mdc_len h]; exact info_md
theorem mdc_one {s : Sl} {e : Int} : ∀ v ∈ mdc s e, v.oneCell' = true := by
  intro v hv
  rcases List.mem_append.1 hv with h | h
  · exact slc_one v h
  · simp only [List.mem_cons, List.not_mem_nil, or_false] at h
    subst h
    rfl
theorem mdc_err {s : Sl} (h : SlOk s) (e : Int) : (mdc s e)[37]? = some (.int .i64 e) := by
  unfold mdc
  rw [List.getElem?_append_right (by rw [h.len]; decide), h.len]
  rfl
theorem mdc_sl {s : Sl} (h : SlOk s) (e : Int) : ((mdc s e).drop 21).take (s.sl.map B8).length = s.sl.map B8 := by
  have h9 := slc_sl h
  unfold mdc
  rw [List.drop_append_of_le_length (by rw [h.len]; decide), List.take_append_of_le_length (by rw [List.length_drop, h.len, List.length_map, h.sl]; decide)]
  exact h9
theorem mdc_S {s : Sl} (h : SlOk s) (e : Int) : ((mdc s e).drop 0).take (slc s).length = slc s := by
  unfold mdc
  rw [List.drop_zero, List.take_left]
theorem zeroMd : ∀ w : World, (zeroValue 36).run Tryd.prog w = .ok (.agg (mdc sl0 0).toArray) w := fun _ => by kernel_rfl
section
variable {f : Operand → Value} {o : Oper}
theorem exec_bm1 (x : Operand) (ho : o.op = .build 36 #[(1, x)]) (e : Int) (hx : f x = .int .i64 e) (X : World) : (execOp f o).run Tryd.prog X = .ok (.value (.agg (mdc sl0 e).toArray)) X := by
  have hz := zeroMd
  unfold execOp
  simp only [ho]
  go_simp
  rfl
theorem exec_bm0 (x : Operand) (ho : o.op = .build 36 #[(0, x)]) (s : Sl) (hs : SlOk s) (hx : f x = .agg (slc s).toArray) (X : World) : (execOp f o).run Tryd.prog X = .ok (.value (.agg (mdc s 0).toArray)) X := by
  have hz : ∀ w : World, (zeroValue 36).run Tryd.prog w = .ok (.agg (([Value.int .i64 0, Value.int .i64 0, Value.int .i64 0, Value.int .i64 0, Value.string ⟨#[]⟩] : List Value) ++ List.replicate 32 (Value.int .u8 0) ++ [Value.int .i64 0]).toArray) w := fun _ => by kernel_rfl
  simp only [List.replicate, List.cons_append, List.nil_append] at hz
  unfold execOp
  simp only [ho]
  obtain ⟨sx, qx, dx, kx, bx, px, zx⟩ := s
  obtain ⟨px0, px1, px2, px3, px4, px5, px6, px7, px8, px9, px10, px11, px12, px13, px14, px15, rfl⟩ := len16 (show px.length = 16 from hs.pv)
  obtain ⟨zx0, zx1, zx2, zx3, zx4, zx5, zx6, zx7, zx8, zx9, zx10, zx11, zx12, zx13, zx14, zx15, rfl⟩ := len16 (show zx.length = 16 from hs.sl)
  simp only [mdc, slc, List.map_cons, List.map_nil, List.cons_append, List.nil_append] at hx ⊢
  go_simp
theorem exec_bsS7 (x0 x1 x2 x3 x4 x5 x6 : Operand) (ho : o.op = .buildSlice 22 7 #[(0, x0), (1, x1), (2, x2), (3, x3), (4, x4), (5, x5), (6, x6)]) (a b c d e g h : List UInt8) (h0 : f x0 = .string ⟨a.toArray⟩) (h1 : f x1 = .string ⟨b.toArray⟩) (h2 : f x2 = .string ⟨c.toArray⟩) (h3 : f x3 = .string ⟨d.toArray⟩) (h4 : f x4 = .string ⟨e.toArray⟩) (h5 : f x5 = .string ⟨g.toArray⟩) (h6 : f x6 = .string ⟨h.toArray⟩) (X : World) (B : Nat) (hB : B ≤ X.heap.size) :
    ∃ v X', (execOp f o).run Tryd.prog X = .ok (.value v) X' ∧ Own B 7 ([a, b, c, d, e, g, h].map tx) v X' ∧ Since X X' := by
  refine ⟨.slice (some ⟨X.heap.size, 0, none⟩) 7 7, X.alloc (.cells ([a, b, c, d, e, g, h].map tx).toArray 9), ?_, ?_, since_alloc X _⟩
  · unfold execOp
    simp only [ho]
    go_simp
    rfl
  · exact ⟨rfl, .inr ⟨X.heap.size, 7, ([a, b, c, d, e, g, h].map tx).toArray, rfl, hB, heap_alloc_new X _, Nat.le_refl _, by unfold maxLen; omega, rfl, by simp⟩⟩
end
theorem rIntB (x : Int) (w : World) (h1 : -9223372036854775808 ≤ x) (h2 : x ≤ 9223372036854775807) : Calls Tryd.prog 56 #[.int .i64 x] w fun e w' => ∃ v, e = .returned v ∧ Bts (encI x) v w' ∧ Since w w' :=
  (rInt x w h1 h2).mono fun e w' ⟨v, he, hm⟩ => by
    obtain ⟨A, c, hv, _, _⟩ := (Rd.of_own hm.1).form
    subst hv
    exact ⟨_, he, ⟨A, c, rfl, Rd.of_own hm.1⟩, hm.2⟩
theorem rmacV (key : List UInt8) (ss : List (List UInt8)) (v : Value) (w : World) (hv : Sts ss v w) (hn : ss.length ≤ 12) (hs : ∀ s ∈ ss, s.length ≤ 5000) (hkl : key.length ≤ 1048576) (hK : KK0 w) : Calls Tryd.prog 33 #[.string ⟨key.toArray⟩, v] w fun e w' => e = .returned (.agg (((hmac key (msg ss)).take 16).map B8).toArray) ∧ Since w w' := by
  obtain ⟨A, c, rfl, hr⟩ := hv
  exact rmacC key A ss.length c ss w hr hn hs hkl hK
theorem rofV (tag : Int) (ss : List (List UInt8)) (v : Value) (w : World) (hv : Sts ss v w) (hn : ss.length ≤ 12) (hs : ∀ s ∈ ss, s.length ≤ 5000) (hK : KK0 w) : Calls Tryd.prog 38 #[.int .i64 tag, v] w fun e w' => e = .returned (.agg (((sha (inp tag ss)).take 16).map B8).toArray) ∧ Since w w' := by
  obtain ⟨A, c, rfl, hr⟩ := hv
  exact rofC tag A ss.length c ss w hr hn hs hK
theorem rnumC (x : Int) (w : World) (h1 : -9223372036854775808 ≤ x) (h2 : x ≤ 9223372036854775807) : Calls Tryd.prog 42 #[.int .i64 x] w fun e w' => e = .returned (.string ⟨(encI x).toArray⟩) ∧ Since w w' := by
  go_enter Tryd.func42, Tryd.ntmps42
  go_upto_region 1 with (fail)
  refine lx_plain [none, some (Bts (encI x))] (lasts_none (lasts_some (Bts.lasts _) (lasts_nil))) ?_
  simp only [iX, Nat.reduceAdd]
  refine jm (.int .i64 x) ?_
  refine jk (fun X hX hF => rIntB x X h1 h2) ?_
  intro v4
  refine jg (st (encI x)) (fun X hX hF => by obtain ⟨A9, c9, h9, hr9⟩ := (hF _ _ List.mem_cons_self rfl); subst h9; exact exec_str 69 9 5 Tryd.underlying69 Tryd.underlying5 Tryd.underlying9 (.tmp 4) (by rfl) (v := .slice A9 (encI x).length c9) rfl hr9) ?_
  refine jm (st (encI x)) ?_
  refine lx_nil ?_
  intro X1 hX1 hF
  have hv4 := hF _ _ List.mem_cons_self
  have hb : Below w.heap.size w X1 := hX1
  clear hF hX1
  go_wp2
  go_ret
  exact ⟨rfl, hb⟩
end Go.Proofs.YthinopepcmidmaaDoor
