/-
  The reference's block of a key.
-/
import Derived.Test.YtmmomcililideaaDoorOwnf
import Derived.Test.YtmmomcililideaaDoorKeys2
import Derived.Test.YtmmomcililideaaDoorWk02l
set_option linter.unusedSimpArgs false
set_option linter.unusedVariables false
namespace Go.Proofs.YtmmomcililideaaDoor
open Go.RowKit

set_option maxRecDepth 100000 in
set_option maxHeartbeats 1600000 in
theorem blockC (key kb : List UInt8) (w : World) (hkb : kb = keyBlock key) (hn : key.length ≤ 1048576) (hK : KK0 w) :
    Calls Tryd.prog 43 #[.string ⟨key.toArray⟩] w fun e w' => ∃ A' c', e = .returned (.slice A' 64 c') ∧ Rd w' 1 (.slice A' 64 c') 64 (kb.map B8) ∧ Below w.heap.size w w' := by
  obtain ⟨v1, w1, hcv1, hO1, hb1⟩ := OwnF.conv w key (by omega)
  by_cases hl : 64 < key.length
  · obtain ⟨k, hk⟩ : ∃ k, k = sha key := ⟨_, rfl⟩
    have hkl : k.length = 32 := by rw [hk]; exact sha_len key
    have HKB : Hid (kb = k ++ zerosL (64 - k.length)) := by show _ = _; rw [hkb, hk]; unfold keyBlock zerosL; simp only; rw [if_pos hl]
    have HK : Hid (∀ _ : Unit, sha key = k) := fun _ => hk.symm
    have HKL := Lib.hid hkl
    clear hk hkb hkl
    have hkl2 : k.length ≤ 64 := by rw [HKL.out]; omega
    have hz2 := zero32'
    obtain ⟨c2, w2, hcv2, hR2, hb2⟩ := conv_bytes (P := Tryd.prog) w1 9 22 5 Tryd.underlying9 Tryd.underlying22 Tryd.underlying5 key (by omega)
    have b2 := bel_next hb1 hb2
    go_enter Tryd.func43, Tryd.ntmps43
    go_wp2_with fail
    refine (rsumC _ _ _ key _ hR2 (by omega) (hK.below b2 hK.1)).mono ?_
    rintro e w3 ⟨rfl, hb3⟩
    rw [HK.out ()]
    have b3 := bel_next b2 hb3
    clear hb1 hb2 hb3 hcv1 hcv2 hR2 hO1 b2
    go_wp2_with (first
      | ((with_reducible show wpList _ _ _ (⟨none, .store 24 _ _, _, _, _, _⟩ :: _) _ _); refine op_store_new w3 _ _ rfl 24 (.tmp 4) (.tmp 12) rfl rfl (k.map B8).toArray rfl (by simp [HKL.out, o32_len]) (by simpa using B8s_one k) (by simp [HKL.out, size_o32]) ?_)
      | ((with_reducible show wpList _ _ _ (⟨some 13, _, _, _, _, _⟩ :: _) _ _); refine op_load_agg rfl 24 (.tmp 4) rfl w3.heap.size 0 rfl _ Tryd.underlying24 rfl (k.map B8) (Blk.new (w := w3) (t := 24) (xs := k.map B8) rfl).cl (by rw [List.length_map, HKL.out]; exact size_o32) ?_))
    refine (b32C k _ HKL.out).mono ?_
    rintro e w5 ⟨rfl, hb5⟩
    have b5 := bel_next (bel_alloc b3 _) hb5
    clear hb5 b3
    obtain ⟨v, w6, hcv, hO, hb6⟩ := OwnF.conv w5 k (by omega)
    have hbO := bel_next b5 hb6
    have hO : OwnF w6 w.heap.size v k := by
      obtain ⟨g, c, cur, k1, k2, h1, h2, rest⟩ := hO
      exact ⟨g, c, cur, k1, k2, h1, Nat.le_trans b5.size h2, rest⟩
    have hv0 := hO.rd.form
    obtain ⟨A0, c0, rfl, _, _⟩ := hv0
    clear hb6 b5
    go_wp2
    go_loopw [3] (fun v wr => ∃ j : Nat, j ≤ 64 - k.length ∧ OwnF wr w.heap.size v (k ++ zerosL j) ∧ Below w.heap.size w wr)
      (fun v _ => match v with | .slice _ n _ => 64 - n | _ => 0)
    case atStart => exact ⟨0, by omega, by simpa [zerosL] using hO, hbO⟩
    case round =>
      clear hO hbO
      obtain ⟨j, hj, hO, hb⟩ := hrel
      have hR := hO.rd
      have hlen : (k ++ zerosL j).length = k.length + j := by rw [List.length_append, zerosL_len]
      rw [hlen] at hR
      obtain ⟨A3, c3, hv3, hc1, hc2⟩ := hR.form
      subst hv3
      have HLEN := Lib.hid hlen
      clear hlen
      by_cases hlt : k.length + j < 64
      · go_wp2_with (at_builtin; refine app_own (x := 0) rfl rfl w.heap.size _ (k ++ zerosL j) rfl hO rfl (by rw [HLEN.out]; omega) hb.size ?_; intro v2 w2 hO2 hb2)
        have hR2 := hO2.rd
        obtain ⟨A4, c4, hv4, _, _⟩ := hR2.form
        have hl2 : ((k ++ zerosL j) ++ [0]).length = k.length + j + 1 := by rw [List.length_append, HLEN.out]; rfl
        rw [hl2] at hv4
        subst hv4
        have hz : (k ++ zerosL j) ++ [0] = k ++ zerosL (j + 1) := by unfold zerosL; rw [List.append_assoc, ← List.replicate_succ']
        rw [hz] at hO2
        clear hR hR2 hl2 hz
        go_roundw
        case rel => exact ⟨j + 1, by omega, hO2, hb.trans hb2⟩
        case measure => simp; omega
      · have hj2 : j = 64 - k.length := by omega
        have hkb : k ++ zerosL j = kb := by rw [HKB.out, hj2]
        have hn : k.length + j = 64 := by omega
        rw [hkb, hn] at hR
        clear hj2 hkb
        have HN := Lib.hid hn
        clear hn
        go_wp2
        go_ret
        exact ⟨A3, c3, by rw [← HN.out]; rfl, hR, hb⟩
  · obtain ⟨k, hk⟩ : ∃ k, k = key := ⟨_, rfl⟩
    have HKB : Hid (kb = k ++ zerosL (64 - k.length)) := by show _ = _; rw [hkb, hk]; unfold keyBlock zerosL; simp only; rw [if_neg hl]
    subst hk
    clear hkb
    have hO := hO1
    have hbO := hb1
    have hv0 := hO.rd.form
    obtain ⟨A0, c0, rfl, _, _⟩ := hv0
    clear hO1 hb1
    go_enter Tryd.func43, Tryd.ntmps43
    go_wp2
    go_loopw [3] (fun v wr => ∃ j : Nat, j ≤ 64 - k.length ∧ OwnF wr w.heap.size v (k ++ zerosL j) ∧ Below w.heap.size w wr)
      (fun v _ => match v with | .slice _ n _ => 64 - n | _ => 0)
    case atStart => exact ⟨0, by omega, by simpa [zerosL] using hO, hbO⟩
    case round =>
      clear hO hbO
      obtain ⟨j, hj, hO, hb⟩ := hrel
      have hR := hO.rd
      have hlen : (k ++ zerosL j).length = k.length + j := by rw [List.length_append, zerosL_len]
      rw [hlen] at hR
      obtain ⟨A3, c3, hv3, hc1, hc2⟩ := hR.form
      subst hv3
      have HLEN := Lib.hid hlen
      clear hlen
      by_cases hlt : k.length + j < 64
      · go_wp2_with (at_builtin; refine app_own (x := 0) rfl rfl w.heap.size _ (k ++ zerosL j) rfl hO rfl (by rw [HLEN.out]; omega) hb.size ?_; intro v2 w2 hO2 hb2)
        have hR2 := hO2.rd
        obtain ⟨A4, c4, hv4, _, _⟩ := hR2.form
        have hl2 : ((k ++ zerosL j) ++ [0]).length = k.length + j + 1 := by rw [List.length_append, HLEN.out]; rfl
        rw [hl2] at hv4
        subst hv4
        have hz : (k ++ zerosL j) ++ [0] = k ++ zerosL (j + 1) := by unfold zerosL; rw [List.append_assoc, ← List.replicate_succ']
        rw [hz] at hO2
        clear hR hR2 hl2 hz
        go_roundw
        case rel => exact ⟨j + 1, by omega, hO2, hb.trans hb2⟩
        case measure => simp; omega
      · have hj2 : j = 64 - k.length := by omega
        have hkb : k ++ zerosL j = kb := by rw [HKB.out, hj2]
        have hn : k.length + j = 64 := by omega
        rw [hkb, hn] at hR
        clear hj2 hkb
        have HN := Lib.hid hn
        clear hn
        go_wp2
        go_ret
        exact ⟨A3, c3, by rw [← HN.out]; rfl, hR, hb⟩
end Go.Proofs.YtmmomcililideaaDoor
