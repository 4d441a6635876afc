/-
  HashMacMatchesSpec: the walk.
-/
import Derived.Test.YtmmomcililideaaDoorWk02x
import Derived.Test.YtmmomcililideaaDoorWk02t
import Derived.Test.YtmmomcililideaaDoorLxw
import Derived.Test.YtmmomcililideaaDoorKeys
import Derived.Test.YtmmomcililideaaDoorPl02c
import Derived.Test.YtmmomcililideaaDoorLwOf
set_option linter.unusedSimpArgs false
set_option linter.unusedVariables false
namespace Go.Proofs.YtmmomcililideaaDoor
open Go.RowKit

set_option maxRecDepth 100000 in
set_option maxHeartbeats 1600000 in
theorem macBad0 (key : List UInt8) (A : Option Addr) (n c : Nat) (ss : List (List UInt8)) (A' : Option Addr) (m c' : Nat) (tt : List (List UInt8)) (w : World) (hr : Rd w 1 (.slice A n c) n (ss.map tx)) (hr' : Rd w 1 (.slice A' m c') m (tt.map tx)) (hkl : key.length ≤ 140737488355328) (hn : n ≤ 140737488355328) (hs : ∀ s ∈ ss, s.length ≤ 140737488355328) (hm : m ≤ 140737488355328) (ht : ∀ s ∈ tt, s.length ≤ 140737488355328) (hK : KK w) (hK0 : KK0 w) (h1 : 400 < key.length) :
    Calls Tryd.prog 11 #[.string ⟨key.toArray⟩, .slice A n c, .slice A' m c'] w fun e w' => e = .returned (.bool true) ∧ Below w.heap.size w w' := by
  go_enter Tryd.func11, Tryd.ntmps11
  go_wp2_with fail
  refine (sanityC _ hK).mono ?_
  rintro e w1 ⟨rfl, hb1⟩
  go_wp2
  go_ret
  exact ⟨rfl, hb1⟩

set_option maxRecDepth 100000 in
set_option maxHeartbeats 1600000 in
theorem macBad1 (key : List UInt8) (A : Option Addr) (n c : Nat) (ss : List (List UInt8)) (A' : Option Addr) (m c' : Nat) (tt : List (List UInt8)) (w : World) (hr : Rd w 1 (.slice A n c) n (ss.map tx)) (hr' : Rd w 1 (.slice A' m c') m (tt.map tx)) (hkl : key.length ≤ 140737488355328) (hn : n ≤ 140737488355328) (hs : ∀ s ∈ ss, s.length ≤ 140737488355328) (hm : m ≤ 140737488355328) (ht : ∀ s ∈ tt, s.length ≤ 140737488355328) (hK : KK w) (hK0 : KK0 w) (h1 : key.length ≤ 400) (hf : fewB ss = false) :
    Calls Tryd.prog 11 #[.string ⟨key.toArray⟩, .slice A n c, .slice A' m c'] w fun e w' => e = .returned (.bool true) ∧ Below w.heap.size w w' := by
  have HF := Lib.hid hf
  clear hf
  go_enter Tryd.func11, Tryd.ntmps11
  go_wp2_with fail
  refine (sanityC _ hK).mono ?_
  rintro e w1 ⟨rfl, hb1⟩
  go_wp2_with fail
  refine (fewC _ _ _ ss _ (hr.below hb1) hn hs).mono ?_
  rintro e w2 ⟨rfl, rfl⟩
  rw [HF.out]
  go_wp2
  go_ret
  exact ⟨rfl, hb1⟩

set_option maxRecDepth 100000 in
set_option maxHeartbeats 1600000 in
theorem macBad2 (key : List UInt8) (A : Option Addr) (n c : Nat) (ss : List (List UInt8)) (A' : Option Addr) (m c' : Nat) (tt : List (List UInt8)) (w : World) (hr : Rd w 1 (.slice A n c) n (ss.map tx)) (hr' : Rd w 1 (.slice A' m c') m (tt.map tx)) (hkl : key.length ≤ 140737488355328) (hn : n ≤ 140737488355328) (hs : ∀ s ∈ ss, s.length ≤ 140737488355328) (hm : m ≤ 140737488355328) (ht : ∀ s ∈ tt, s.length ≤ 140737488355328) (hK : KK w) (hK0 : KK0 w) (h1 : key.length ≤ 400) (hf : fewB ss = true) (hg : fewB tt = false) :
    Calls Tryd.prog 11 #[.string ⟨key.toArray⟩, .slice A n c, .slice A' m c'] w fun e w' => e = .returned (.bool true) ∧ Below w.heap.size w w' := by
  have HF := Lib.hid hf
  have HG := Lib.hid hg
  clear hf hg
  go_enter Tryd.func11, Tryd.ntmps11
  go_wp2_with fail
  refine (sanityC _ hK).mono ?_
  rintro e w1 ⟨rfl, hb1⟩
  go_wp2_with fail
  refine (fewC _ _ _ ss _ (hr.below hb1) hn hs).mono ?_
  rintro e w2 ⟨rfl, rfl⟩
  rw [HF.out]
  go_wp2_with fail
  refine (fewC _ _ _ tt _ (hr'.below hb1) hm ht).mono ?_
  rintro e w2 ⟨rfl, rfl⟩
  rw [HG.out]
  go_wp2
  go_ret
  exact ⟨rfl, hb1⟩

set_option maxRecDepth 100000 in
set_option maxHeartbeats 1600000 in
theorem macGood (key : List UInt8) (A : Option Addr) (n c : Nat) (ss : List (List UInt8)) (A' : Option Addr) (m c' : Nat) (tt : List (List UInt8)) (w : World) (hr : Rd w 1 (.slice A n c) n (ss.map tx)) (hr' : Rd w 1 (.slice A' m c') m (tt.map tx)) (hkl : key.length ≤ 140737488355328) (hn : n ≤ 140737488355328) (hs : ∀ s ∈ ss, s.length ≤ 140737488355328) (hm : m ≤ 140737488355328) (ht : ∀ s ∈ tt, s.length ≤ 140737488355328) (hK : KK w) (hK0 : KK0 w) (h1 : key.length ≤ 400) (hf : fewB ss = true) (hg : fewB tt = true) :
    Calls Tryd.prog 11 #[.string ⟨key.toArray⟩, .slice A n c, .slice A' m c'] w fun e w' => e = .returned (.bool true) ∧ Below w.heap.size w w' := by
  have hz := zero16
  have hz2 := zero32
  obtain ⟨hn0, hs4⟩ := fewB_out hf
  obtain ⟨hm0, ht4⟩ := fewB_out hg
  have hn2 : n ≤ 12 := by have := hr.n_eq; omega
  have hm2 : m ≤ 12 := by have := hr'.n_eq; omega
  have hml := msg_len hs4
  have hml' := msg_len ht4
  have hsame := msg_same hs4 ht4
  have hcl : clashB (hmac key (msg ss)) (hmac key (msg tt)) = ((hmac key (msg ss)).take 16 == (hmac key (msg tt)).take 16) := rfl
  have hlD := (show ((hmac key (msg ss)).take 16).length = 16 by rw [List.length_take, hmac_len]; rfl)
  obtain ⟨D, hD⟩ : ∃ h, h = (hmac key (msg ss)).take 16 := ⟨_, rfl⟩
  rw [← hD] at hlD
  have DE : Hid (∀ _ : Unit, (hmac key (msg ss)).take 16 = D) := fun _ => hD.symm
  have DL : Hid (D.length = 16) := hlD
  have hlE := (show ((hmac key (msg tt)).take 16).length = 16 by rw [List.length_take, hmac_len]; rfl)
  obtain ⟨E, hE⟩ : ∃ h, h = (hmac key (msg tt)).take 16 := ⟨_, rfl⟩
  rw [← hE] at hlE
  have EE : Hid (∀ _ : Unit, (hmac key (msg tt)).take 16 = E) := fun _ => hE.symm
  have EL : Hid (E.length = 16) := hlE
  rw [← hD, ← hE] at hcl
  have hlH := hmac_len key (msg ss)
  obtain ⟨H, hH⟩ : ∃ h, h = hmac key (msg ss) := ⟨_, rfl⟩
  rw [← hH] at hlH
  have HE : Hid (∀ _ : Unit, hmac key (msg ss) = H) := fun _ => hH.symm
  have HL : Hid (H.length = 32) := hlH
  have hlG := hmac_len key (msg tt)
  obtain ⟨G, hG⟩ : ∃ h, h = hmac key (msg tt) := ⟨_, rfl⟩
  rw [← hG] at hlG
  have GE : Hid (∀ _ : Unit, hmac key (msg tt) = G) := fun _ => hG.symm
  have GL : Hid (G.length = 32) := hlG
  rw [← hH, ← hG] at hcl
  have HCL := Lib.hid hcl
  have HSM := Lib.hid hsame
  clear hD hE hH hG hlD hlE hlH hlG hcl hsame
  have HF := Lib.hid hf
  have HG := Lib.hid hg
  clear hf hg hn0 hm0
  have hms : (msg ss).length ≤ 6000 := by
    have := hr.n_eq
    have : ss.length * 410 ≤ 12 * 410 := Nat.mul_le_mul_right _ (by omega)
    omega
  have hmt : (msg tt).length ≤ 6000 := by
    have := hr'.n_eq
    have : tt.length * 410 ≤ 12 * 410 := Nat.mul_le_mul_right _ (by omega)
    omega
  clear hml hml'
  have hKK : ∀ X, Below w.heap.size w X → KK X := fun X h => hK.below h hK.1
  have hKK0 : ∀ X, Below w.heap.size w X → KK0 X := fun X h => hK0.below h hK0.1
  have HKK := Lib.hid hKK
  have HKK0 := Lib.hid hKK0
  clear hKK hKK0
  have hhrX : ∀ X, Below w.heap.size w X → Rd X 1 (.slice A n c) n (ss.map tx) := fun X h => hr.below h
  have hrX := Lib.hid hhrX
  clear hhrX
  have hhr'X : ∀ X, Below w.heap.size w X → Rd X 1 (.slice A' m c') m (tt.map tx) := fun X h => hr'.below h
  have hr'X := Lib.hid hhr'X
  clear hhr'X
  go_enter Tryd.func11, Tryd.ntmps11
  go_wp2_with fail
  refine (sanityC _ hK).mono ?_
  rintro e w1 ⟨rfl, c0⟩
  go_wp2_with fail
  refine (fewC _ _ _ ss _ (hr.below c0) hn hs).mono ?_
  rintro e w2 ⟨rfl, rfl⟩
  rw [HF.out]
  go_wp2_with fail
  refine (fewC _ _ _ tt _ (hr'.below c0) hm ht).mono ?_
  rintro e w2 ⟨rfl, rfl⟩
  rw [HG.out]
  go_wp2_with fail
  refine (macC key _ _ _ ss _ (hrX.out _ c0) hn2 hs4 (by omega) (HKK.out _ c0)).mono ?_
  rintro e v1 ⟨rfl, hb1⟩
  rw [DE.out ()]
  have k1 := bel_next c0 hb1
  clear hb1 c0
  go_upto_region 5 with ((with_reducible show wpList _ _ _ (⟨none, .store 41 _ _, _, _, _, _⟩ :: _) _ _); refine op_store_new v1 _ _ rfl 41 (.tmp 8) (.tmp 30) rfl rfl (D.map B8).toArray rfl (by simp [DL.out, z16_len]) (by simpa using B8s_one D) (by simp [DL.out, size_dg]) ?_)
  have B1 : Blk (v1.alloc (.cells (D.map B8).toArray 41)) v1.heap.size 41 (D.map B8) := Blk.new rfl
  have c1 := bel_alloc k1 (.cells (D.map B8).toArray 41)
  generalize v1.alloc (.cells (D.map B8).toArray 41) = W1 at  B1 c1 ⊢
  generalize v1.heap.size = g1 at B1 ⊢
  clear k1
  go_wp2_with fail
  refine (macC key _ _ _ tt _ (hr'X.out _ c1) hm2 ht4 (by omega) (HKK.out _ c1)).mono ?_
  rintro e v2 ⟨rfl, hb2⟩
  rw [EE.out ()]
  have B1 := B1.bel hb2
  have k2 := bel_next c1 hb2
  clear hb2 c1
  go_upto_region 6 with ((with_reducible show wpList _ _ _ (⟨none, .store 41 _ _, _, _, _, _⟩ :: _) _ _); refine op_store_new v2 _ _ rfl 41 (.tmp 9) (.tmp 33) rfl rfl (E.map B8).toArray rfl (by simp [EL.out, z16_len]) (by simpa using B8s_one E) (by simp [EL.out, size_dg]) ?_)
  have B2 : Blk (v2.alloc (.cells (E.map B8).toArray 41)) v2.heap.size 41 (E.map B8) := Blk.new rfl
  have B1 := B1.alloc (.cells (E.map B8).toArray 41)
  have c2 := bel_alloc k2 (.cells (E.map B8).toArray 41)
  generalize v2.alloc (.cells (E.map B8).toArray 41) = W2 at B1 B2 c2 ⊢
  generalize v2.heap.size = g2 at B2 ⊢
  clear k2
  go_wp2_with fail
  refine (messageC _ _ _ ss _ (hrX.out _ c2) hn2 hs4).mono ?_
  rintro e u1 ⟨rfl, hbu⟩
  have B1 := B1.bel hbu
  have B2 := B2.bel hbu
  have c2 := bel_next c2 hbu
  clear hbu
  go_wp2_with fail
  refine (hmacC key (msg ss) _ (by omega) (by omega) (HKK.out _ c2)).mono ?_
  rintro e v3 ⟨rfl, hb3⟩
  rw [HE.out ()]
  have B1 := B1.bel hb3
  have B2 := B2.bel hb3
  have k3 := bel_next c2 hb3
  clear hb3 c2
  go_upto_region 7 with ((with_reducible show wpList _ _ _ (⟨none, .store 24 _ _, _, _, _, _⟩ :: _) _ _); refine op_store_new v3 _ _ rfl 24 (.tmp 10) (.tmp 37) rfl rfl (H.map B8).toArray rfl (by simp [HL.out, o32_len]) (by simpa using B8s_one H) (by simp [HL.out, size_o32]) ?_)
  have B3 : Blk (v3.alloc (.cells (H.map B8).toArray 24)) v3.heap.size 24 (H.map B8) := Blk.new rfl
  have B1 := B1.alloc (.cells (H.map B8).toArray 24)
  have B2 := B2.alloc (.cells (H.map B8).toArray 24)
  have c3 := bel_alloc k3 (.cells (H.map B8).toArray 24)
  generalize v3.alloc (.cells (H.map B8).toArray 24) = W3 at B1 B2 B3 c3 ⊢
  generalize v3.heap.size = g3 at B3 ⊢
  clear k3
  go_wp2_with fail
  refine (messageC _ _ _ tt _ (hr'X.out _ c3) hm2 ht4).mono ?_
  rintro e u1 ⟨rfl, hbu⟩
  have B1 := B1.bel hbu
  have B2 := B2.bel hbu
  have B3 := B3.bel hbu
  have c3 := bel_next c3 hbu
  clear hbu
  go_wp2_with fail
  refine (hmacC key (msg tt) _ (by omega) (by omega) (HKK.out _ c3)).mono ?_
  rintro e v4 ⟨rfl, hb4⟩
  rw [GE.out ()]
  have B1 := B1.bel hb4
  have B2 := B2.bel hb4
  have B3 := B3.bel hb4
  have k4 := bel_next c3 hb4
  clear hb4 c3
  go_upto_region 8 with ((with_reducible show wpList _ _ _ (⟨none, .store 24 _ _, _, _, _, _⟩ :: _) _ _); refine op_store_new v4 _ _ rfl 24 (.tmp 11) (.tmp 41) rfl rfl (G.map B8).toArray rfl (by simp [GL.out, o32_len]) (by simpa using B8s_one G) (by simp [GL.out, size_o32]) ?_)
  have B4 : Blk (v4.alloc (.cells (G.map B8).toArray 24)) v4.heap.size 24 (G.map B8) := Blk.new rfl
  have B1 := B1.alloc (.cells (G.map B8).toArray 24)
  have B2 := B2.alloc (.cells (G.map B8).toArray 24)
  have B3 := B3.alloc (.cells (G.map B8).toArray 24)
  have c4 := bel_alloc k4 (.cells (G.map B8).toArray 24)
  generalize v4.alloc (.cells (G.map B8).toArray 24) = W4 at B1 B2 B3 B4 c4 ⊢
  generalize v4.heap.size = g4 at B4 ⊢
  clear k4
  go_wp2_with fail
  refine (sameC _ _ _ _ _ _ ss tt _ (hrX.out _ c4) (hr'X.out _ c4) hn2 hm2).mono ?_
  rintro e u5 ⟨rfl, k5, rfl⟩
  have B1 := B1.drewN k5
  have B2 := B2.drewN k5
  have B3 := B3.drewN k5
  have B4 := B4.drewN k5
  have c5 := bel_drewN c4 k5
  generalize W4.drewN k5 = W5 at B1 B2 B3 B4 c5 ⊢
  clear c4
  go_upto_region 9 with (fail)
  refine lx_region [] (by kernel_rfl) (by kernel_rfl) (lasts_nil) ?_
  simp only [its, Nat.zero_add, Nat.reduceAdd]
  refine lx_val (by rfl) (.bool true) (fun X _ _ => by rfl) ?_
  simp only [Act.put, List.setIfInBounds_toArray, List.set_cons_succ, List.set_cons_zero]
  refine lx_val (by rfl) (.bool true) (fun X _ _ => by rfl) ?_
  simp only [Act.put, List.setIfInBounds_toArray, List.set_cons_succ, List.set_cons_zero]
  refine lx_load (by rfl) 41 (.tmp 8) (by rfl) g1 0 (by rfl) _ Tryd.underlying41 rfl (D.map B8) B1.lt B1.cl (by rw [List.length_map, DL.out]; exact size_dg) ?_
  simp only [Act.put, List.setIfInBounds_toArray, List.set_cons_succ, List.set_cons_zero]
  refine lx_val (by rfl) (.string ⟨key.toArray⟩) (fun X _ _ => by rfl) ?_
  simp only [Act.put, List.setIfInBounds_toArray, List.set_cons_succ, List.set_cons_zero]
  refine lx_val (by rfl) (.slice A n c) (fun X _ _ => by rfl) ?_
  simp only [Act.put, List.setIfInBounds_toArray, List.set_cons_succ, List.set_cons_zero]
  refine lx_call (by rfl) 32 _ _ (by rfl) (.agg (D.map B8).toArray) [.string ⟨key.toArray⟩, .slice A n c] (by rfl) (by kernel_rfl) (fun _ => by go_simp) (fun X hX hF => (rmacC key _ _ _ ss X (hrX.out X (bel_next c5 hX)) hn2 hs4 (by omega) (HKK0.out X (bel_next c5 hX))).mono fun e X' ⟨h1, h2⟩ => ⟨by rw [h1, DE.out ()], h2⟩) ?_
  simp only [Act.put, List.setIfInBounds_toArray, List.set_cons_succ, List.set_cons_zero]
  refine lx_val (by rfl) (.bool true) (fun X _ _ => exec_cmp_agg .eql 41 _ (.tmp 47) (.tmp 50) (by rfl) (D.map B8).toArray (D.map B8).toArray (by rfl) (by rfl) eqm16 _ _ ((eql16 X D D DL.out DL.out).trans (by rw [beq_self_eq_true]))) ?_
  simp only [Act.put, List.setIfInBounds_toArray, List.set_cons_succ, List.set_cons_zero]
  refine lx_val (by rfl) (.bool true) (fun X _ _ => by rfl) ?_
  simp only [Act.put, List.setIfInBounds_toArray, List.set_cons_succ, List.set_cons_zero]
  refine lx_val (by rfl) (.bool true) (fun X _ _ => by rfl) ?_
  simp only [Act.put, List.setIfInBounds_toArray, List.set_cons_succ, List.set_cons_zero]
  refine lx_load (by rfl) 41 (.tmp 8) (by rfl) g1 0 (by rfl) _ Tryd.underlying41 rfl (D.map B8) B1.lt B1.cl (by rw [List.length_map, DL.out]; exact size_dg) ?_
  simp only [Act.put, List.setIfInBounds_toArray, List.set_cons_succ, List.set_cons_zero]
  refine lx_load (by rfl) 41 (.tmp 9) (by rfl) g2 0 (by rfl) _ Tryd.underlying41 rfl (E.map B8) B2.lt B2.cl (by rw [List.length_map, EL.out]; exact size_dg) ?_
  simp only [Act.put, List.setIfInBounds_toArray, List.set_cons_succ, List.set_cons_zero]
  refine lx_val (by rfl) (.bool (D == E)) (fun X _ _ => exec_cmp_agg .eql 41 _ (.tmp 54) (.tmp 55) (by rfl) (D.map B8).toArray (E.map B8).toArray (by rfl) (by rfl) eqm16 _ _ ((eql16 X D E DL.out EL.out))) ?_
  simp only [Act.put, List.setIfInBounds_toArray, List.set_cons_succ, List.set_cons_zero]
  refine lx_load (by rfl) 24 (.tmp 10) (by rfl) g3 0 (by rfl) _ Tryd.underlying24 rfl (H.map B8) B3.lt B3.cl (by rw [List.length_map, HL.out]; exact size_o32) ?_
  simp only [Act.put, List.setIfInBounds_toArray, List.set_cons_succ, List.set_cons_zero]
  refine lx_load (by rfl) 24 (.tmp 11) (by rfl) g4 0 (by rfl) _ Tryd.underlying24 rfl (G.map B8) B4.lt B4.cl (by rw [List.length_map, GL.out]; exact size_o32) ?_
  simp only [Act.put, List.setIfInBounds_toArray, List.set_cons_succ, List.set_cons_zero]
  refine lx_call (by rfl) 24 _ _ (by rfl) (.bool (clashB H G)) [.agg (H.map B8).toArray, .agg (G.map B8).toArray] (by rfl) (by kernel_rfl) (fun _ => by go_simp) (fun X hX hF => clashC H G X HL.out GL.out) ?_
  simp only [Act.put, List.setIfInBounds_toArray, List.set_cons_succ, List.set_cons_zero]
  refine lx_val (by rfl) (.bool true) (fun X _ _ => by rw [HCL.out]; exact exec_eqb _ _ Tryd.underlying4 _ _ (by rfl) (D == E) (by rfl) (by rfl) X) ?_
  simp only [Act.put, List.setIfInBounds_toArray, List.set_cons_succ, List.set_cons_zero]
  refine lx_val (by rfl) (.bool true) (fun X _ _ => by rfl) ?_
  simp only [Act.put, List.setIfInBounds_toArray, List.set_cons_succ, List.set_cons_zero]
  refine lx_val (by rfl) (.bool true) (fun X _ _ => by rfl) ?_
  simp only [Act.put, List.setIfInBounds_toArray, List.set_cons_succ, List.set_cons_zero]
  refine lx_val (by rfl) (.slice A n c) (fun X _ _ => by rfl) ?_
  simp only [Act.put, List.setIfInBounds_toArray, List.set_cons_succ, List.set_cons_zero]
  refine lx_call (by rfl) 31 _ _ (by rfl) (.string ⟨(msg ss).toArray⟩) [.slice A n c] (by rfl) (by kernel_rfl) (fun _ => by go_simp) (fun X hX hF => messageC _ _ _ ss X (hrX.out X (bel_next c5 hX)) hn2 hs4) ?_
  simp only [Act.put, List.setIfInBounds_toArray, List.set_cons_succ, List.set_cons_zero]
  refine lx_val (by rfl) (.slice A' m c') (fun X _ _ => by rfl) ?_
  simp only [Act.put, List.setIfInBounds_toArray, List.set_cons_succ, List.set_cons_zero]
  refine lx_call (by rfl) 31 _ _ (by rfl) (.string ⟨(msg tt).toArray⟩) [.slice A' m c'] (by rfl) (by kernel_rfl) (fun _ => by go_simp) (fun X hX hF => messageC _ _ _ tt X (hr'X.out X (bel_next c5 hX)) hm2 ht4) ?_
  simp only [Act.put, List.setIfInBounds_toArray, List.set_cons_succ, List.set_cons_zero]
  refine lx_val (by rfl) (.bool (sameL ss tt)) (fun X _ _ => by rw [← HSM.out]; exact exec_eqs _ _ _ _ (by rfl) (msg ss) (msg tt) (by rfl) (by rfl) X) ?_
  simp only [Act.put, List.setIfInBounds_toArray, List.set_cons_succ, List.set_cons_zero]
  refine lx_val (by rfl) (.bool (sameL ss tt)) (fun X _ _ => by rfl) ?_
  simp only [Act.put, List.setIfInBounds_toArray, List.set_cons_succ, List.set_cons_zero]
  refine lx_val (by rfl) (.bool true) (fun X _ _ => exec_eqb _ _ Tryd.underlying4 _ _ (by rfl) (sameL ss tt) (by rfl) (by rfl) X) ?_
  simp only [Act.put, List.setIfInBounds_toArray, List.set_cons_succ, List.set_cons_zero]
  refine lx_val (by rfl) (.bool true) (fun X _ _ => by rfl) ?_
  simp only [Act.put, List.setIfInBounds_toArray, List.set_cons_succ, List.set_cons_zero]
  refine lx_val (by rfl) (.bool true) (fun X _ _ => by rfl) ?_
  simp only [Act.put, List.setIfInBounds_toArray, List.set_cons_succ, List.set_cons_zero]
  refine lx_nil ?_
  intro X9 hX9 _
  go_wp2
  go_ret
  exact ⟨rfl, bel_next c5 hX9⟩

theorem macW (key : List UInt8) (A : Option Addr) (n c : Nat) (ss : List (List UInt8)) (A' : Option Addr) (m c' : Nat) (tt : List (List UInt8)) (w : World) (hr : Rd w 1 (.slice A n c) n (ss.map tx)) (hr' : Rd w 1 (.slice A' m c') m (tt.map tx)) (hkl : key.length ≤ 140737488355328) (hn : n ≤ 140737488355328) (hs : ∀ s ∈ ss, s.length ≤ 140737488355328) (hm : m ≤ 140737488355328) (ht : ∀ s ∈ tt, s.length ≤ 140737488355328) (hK : KK w) (hK0 : KK0 w) :
    Calls Tryd.prog 11 #[.string ⟨key.toArray⟩, .slice A n c, .slice A' m c'] w fun e w' => e = .returned (.bool true) ∧ Below w.heap.size w w' := by
  by_cases h1 : 400 < key.length
  · exact macBad0 key A n c ss A' m c' tt w hr hr' hkl hn hs hm ht hK hK0 h1
  · cases hf : fewB ss with
    | false => exact macBad1 key A n c ss A' m c' tt w hr hr' hkl hn hs hm ht hK hK0 (by omega) hf
    | true => cases hg : fewB tt with
      | false => exact macBad2 key A n c ss A' m c' tt w hr hr' hkl hn hs hm ht hK hK0 (by omega) hf hg
      | true => exact macGood key A n c ss A' m c' tt w hr hr' hkl hn hs hm ht hK hK0 (by omega) hf hg
end Go.Proofs.YtmmomcililideaaDoor
