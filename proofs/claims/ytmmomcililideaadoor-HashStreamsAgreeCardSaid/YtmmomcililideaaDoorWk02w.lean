/-
  The reference's keyed hash.
-/
import Derived.Test.YtmmomcililideaaDoorWk02v
import Derived.Test.YtmmomcililideaaDoorWk02n
set_option linter.unusedSimpArgs false
set_option linter.unusedVariables false
namespace Go.Proofs.YtmmomcililideaaDoor
open Go.RowKit

theorem xor_snoc {kb : List UInt8} {x : UInt8} {k : Nat} (h : k < kb.length) : ((kb.take k).map (· ^^^ x)).map B8 ++ [.int .u8 ((kb[k] ^^^ x).toNat : Int)] = ((kb.take (k + 1)).map (· ^^^ x)).map B8 := by
  rw [take_snoc h, List.map_append, List.map_append]
  rfl

set_option maxRecDepth 100000 in
set_option maxHeartbeats 1600000 in
theorem withC (A : Option Addr) (c : Nat) (kb : List UInt8) (x : UInt8) (m : List UInt8) (w : World) (hk : kb.length = 64) (hr : Rd w 1 (.slice A 64 c) 64 (kb.map B8)) (hm : m.length ≤ 1048576) :
    Calls Tryd.prog 44 #[.slice A 64 c, .int .u8 (x.toNat : Int), .string ⟨m.toArray⟩] w fun e w' => ∃ A' c', e = .returned (.slice A' (64 + m.length) c') ∧ Rd w' 1 (.slice A' (64 + m.length) c') (64 + m.length) ((kb.map (· ^^^ x) ++ m).map B8) ∧ Below w.heap.size w w' := by
  have HKL := Lib.hid hk
  clear hk
  obtain ⟨bb, off, rfl, hbb, hcs⟩ := hr.cellAt (by omega)
  go_enter Tryd.func44, Tryd.ntmps44
  go_wp2
  go_loopw [7, 8] (fun v i wr => ∃ k : Nat, k ≤ 64 ∧ i = .int .i64 (k : Int) ∧ wr.ownsRow w.heap.size 5 1 v k (((kb.take k).map (· ^^^ x)).map B8) ∧ Below w.heap.size w wr) (fun _ i _ => 64 - (intOf i).toNat)
  case atStart => exact ⟨0, by omega, rfl, own_nil _ _ _, Below.refl _ _⟩
  case round =>
    obtain ⟨k, hk, rfl, hown, hb⟩ := hrel
    have hR := Rd.of_own hown
    obtain ⟨A1, c1, rfl, hc1, hc2⟩ := hR.form
    by_cases hlt : k < 64
    · have h1 : k < kb.length := by rw [HKL.out]; exact hlt
      have ci : wr.cell? ⟨bb, off + k, none⟩ = some (.int .u8 ((kb[k]'h1).toNat : Int)) := by
        rw [hb.cell (p := ⟨bb, off + k, none⟩) hbb]
        exact hcs _ _ (bcell_get h1)
      have HS := Lib.hid (xor_snoc (x := x) h1)
      have hxr := u8x (kb[k]'h1) x
      clear hR
      generalize kb[k]'h1 = y at ci HS hxr
      generalize hzz : (y ^^^ x).toNat = zz at hxr HS
      clear hzz
      go_wp2_with (at_builtin; refine app8 rfl rfl (w.heap.size) _ (k) _ rfl hown rfl rfl (by omega) (hb.size) ?_; intro A2 c2 w2 hown2 hc3 hc4 hb2)
      go_roundw
      case rel =>
        rw [HS.out] at hown2
        exact ⟨k + 1, by omega, by go_num, hown2, hb.trans hb2⟩
      case measure => simp [intOf]; omega
    · obtain rfl : k = 64 := by omega
      rw [List.take_of_length_le (by rw [HKL.out]; omega)] at hown
      obtain ⟨c2, w2, hcv, hR2, hb2⟩ := conv_bytes (P := Tryd.prog) wr 9 22 5 Tryd.underlying9 Tryd.underlying22 Tryd.underlying5 m (by omega)
      have hown2 := own_below hown hb2
      have bb2 := hb.trans (hb2.mono hb.size)
      clear hR hown
      go_wp2_with (at_builtin; refine append_rd rfl (.tmp 24) (.tmp 26) 22 rfl w.heap.size 5 _ 1 1 Tryd.underlying22 info_u8 rfl (by decide) _ _ _ rfl hown2 _ _ _ rfl hR2 (B8s_one _) (by omega) (by unfold maxLen; omega) bb2.size ?_; intro v4 w4 hown4 hg4 hb4)
      have hR4 := Rd.of_own hown4
      obtain ⟨A4, c4, rfl, _, _⟩ := hR4.form
      rw [← List.map_append] at hR4
      have HR := Lib.hid hR4
      clear hR4 hown4 hown2 hcv hR2
      go_ret
      exact ⟨A4, c4, rfl, HR.out, bb2.trans hb4⟩

set_option maxRecDepth 100000 in
set_option maxHeartbeats 1600000 in
theorem rhmacC (key m : List UInt8) (w : World) (hk : key.length ≤ 1048576) (hm : m.length ≤ 1000000) (hK : KK0 w) :
    Calls Tryd.prog 26 #[.string ⟨key.toArray⟩, .string ⟨m.toArray⟩] w fun e w' => e = .returned (.agg ((hmac key m).map B8).toArray) ∧ Below w.heap.size w w' := by
  have hz := zero32'
  obtain ⟨kb, hkb⟩ : ∃ kb, kb = keyBlock key := ⟨_, rfl⟩
  have hkl : kb.length = 64 := by rw [hkb]; exact keyBlock_len key
  obtain ⟨P1, hP1⟩ : ∃ P, P = kb.map (· ^^^ (54 : UInt8)) ++ m := ⟨_, rfl⟩
  have hp1 : P1.length = 64 + m.length := by rw [hP1]; simp [hkl]
  obtain ⟨I, hI⟩ : ∃ I, I = sha P1 := ⟨_, rfl⟩
  have hil : I.length = 32 := by rw [hI]; exact sha_len P1
  obtain ⟨P2, hP2⟩ : ∃ P, P = kb.map (· ^^^ (92 : UInt8)) ++ I := ⟨_, rfl⟩
  have hp2 : P2.length = 64 + I.length := by rw [hP2]; simp [hkl]
  obtain ⟨H, hH⟩ : ∃ H, H = sha P2 := ⟨_, rfl⟩
  have hhl : H.length = 32 := by rw [hH]; exact sha_len P2
  have HF : Hid (∀ _ : Unit, hmac key m = H) := fun _ => by rw [hH, hP2, hI, hP1, hkb]; rfl
  have HKB := Lib.hid hkb
  have HKL := Lib.hid hkl
  have HP1 := Lib.hid hP1
  have HP2 := Lib.hid hP2
  have HI : Hid (∀ _ : Unit, sha P1 = I) := fun _ => hI.symm
  have HH : Hid (∀ _ : Unit, sha P2 = H) := fun _ => hH.symm
  have HIL := Lib.hid hil
  have HHL := Lib.hid hhl
  have HL1 := Lib.hid hp1
  have HL2 := Lib.hid hp2
  clear hkb hkl hP1 hI hP2 hH hil hhl hp1 hp2
  have hKK : ∀ X, Below w.heap.size w X → KK0 X := fun X h => hK.below h hK.1
  have HKK := Lib.hid hKK
  clear hKK
  have R0 : Blk (w.alloc (.cells o32.toArray 24)) w.heap.size 24 o32 := Blk.new rfl
  have b0 := bel_alloc (Below.refl w.heap.size w) (.cells o32.toArray 24)
  go_enter Tryd.func26, Tryd.ntmps26
  go_upto_region 1 with fail
  generalize w.alloc (.cells o32.toArray 24) = W at R0 b0 ⊢
  go_wp2_with fail
  refine (blockC key kb _ HKB.out hk (HKK.out _ b0)).mono ?_
  rintro e w1 ⟨A1, c1, rfl, hr1, hb1⟩
  have R1 := R0.bel hb1
  have b1 := bel_next b0 hb1
  clear hb1
  go_wp2_with fail
  refine (withC A1 c1 kb 54 m _ HKL.out hr1 (by omega)).mono ?_
  rintro e w2 ⟨A2, c2, rfl, hr2, hb2⟩
  rw [← HP1.out] at hr2
  have R2 := R1.bel hb2
  have b2 := bel_next b1 hb2
  have hr1 := hr1.below hb2
  clear hb2
  go_wp2_with fail
  refine (rsumC _ _ _ P1 _ hr2 (by omega) (HKK.out _ b2)).mono ?_
  rintro e w3 ⟨rfl, hb3⟩
  rw [HI.out ()]
  have R3 := R2.bel hb3
  have b3 := bel_next b2 hb3
  have hr1 := hr1.below hb3
  clear hb3 hr2
  go_wp2_with (first
    | ((with_reducible show wpList _ _ _ (⟨none, .store 24 (.tmp 6) _, _, _, _, _⟩ :: _) _ _); refine op_store_new w3 _ _ rfl 24 (.tmp 6) (.tmp 12) rfl rfl (I.map B8).toArray rfl (by simp [HIL.out, o32_len]) (by simpa using B8s_one I) (by simp [HIL.out, size_o32]) ?_)
    | ((with_reducible show wpList _ _ _ (⟨some 14, _, _, _, _, _⟩ :: _) _ _); refine op_load_agg rfl 24 (.tmp 6) rfl w3.heap.size 0 rfl _ Tryd.underlying24 rfl (I.map B8) (Blk.new (w := w3) (t := 24) (xs := I.map B8) rfl).cl (by rw [List.length_map, HIL.out]; exact size_o32) ?_))
  have R4 := R3.alloc (.cells (I.map B8).toArray 24)
  have b4 := bel_alloc b3 (.cells (I.map B8).toArray 24)
  have hr1 := hr1.alloc (.cells (I.map B8).toArray 24)
  refine (b32C I _ HIL.out).mono ?_
  rintro e w5 ⟨rfl, hb5⟩
  have R5 := R4.bel hb5
  have b5 := bel_next b4 hb5
  have hr1 := hr1.below hb5
  clear hb5
  go_wp2_with fail
  refine (withC A1 c1 kb 92 I _ HKL.out hr1 (by rw [HIL.out]; omega)).mono ?_
  rintro e w6 ⟨A6, c6, rfl, hr6, hb6⟩
  rw [← HP2.out] at hr6
  have R6 := R5.bel hb6
  have b6 := bel_next b5 hb6
  clear hb6 hr1
  go_wp2_with fail
  refine (rsumC _ _ _ P2 _ hr6 (by rw [HIL.out]; omega) (HKK.out _ b6)).mono ?_
  rintro e w7 ⟨rfl, hb7⟩
  rw [HH.out ()]
  have R7 := R6.bel hb7
  have b7 := bel_next b6 hb7
  clear hb7 hr6
  go_wp2_with ((with_reducible show wpList _ _ _ (⟨none, .store 24 _ _, _, _, _, _⟩ :: _) _ _); refine op_store_blk rfl 24 (.tmp 4) (.tmp 17) rfl w.heap.size 24 _ R7 rfl (H.map B8) rfl (by rw [List.length_map, HHL.out, o32_len]) (B8s_one _) (by rw [List.length_map, HHL.out]; exact size_o32) ?_; intro w9 hC9 hoth9 hbel9 hsz9)
  have hld := run_loadVar_cl (P := Tryd.prog) 24 _ w.heap.size 0 (H.map B8) hC9.cl Tryd.underlying24 rfl (by rw [List.length_map, HHL.out]; exact size_o32)
  rw [HF.out ()]
  refine bodyPost_ret (v := .agg (H.map B8).toArray) ?_ rfl ⟨rfl, hbel9 _ _ b7 (Nat.le_refl _)⟩
  simp [results, Tryd.results26, asAddr, hld, Act.put]
end Go.Proofs.YtmmomcililideaaDoor
