/-
  HashOfSeparates: the walk.
-/
import Derived.Test.YtmmomcililideaaDoorWk02x
import Derived.Test.YtmmomcililideaaDoorWk02t
import Derived.Test.YtmmomcililideaaDoorLxw
import Derived.Test.YtmmomcililideaaDoorKeys
import Derived.Test.YtmmomcililideaaDoorPl02c
import Derived.Test.YtmmomcililideaaDoorLwOf
set_option linter.unusedSimpArgs false
set_option linter.unusedVariables false
namespace Go.Proofs.YtmmomcililideaaDoor
open Go.RowKit

set_option maxRecDepth 100000 in
set_option maxHeartbeats 1600000 in
theorem sepBad1 (t0 t1 : Int) (A : Option Addr) (n c : Nat) (ss : List (List UInt8)) (A' : Option Addr) (m c' : Nat) (tt : List (List UInt8)) (w : World) (hr : Rd w 1 (.slice A n c) n (ss.map tx)) (hr' : Rd w 1 (.slice A' m c') m (tt.map tx)) (q0 : 0 ≤ t0) (q1 : t0 ≤ 255) (q2 : 0 ≤ t1) (q3 : t1 ≤ 255) (hn : n ≤ 140737488355328) (hs : ∀ s ∈ ss, s.length ≤ 140737488355328) (hm : m ≤ 140737488355328) (ht : ∀ s ∈ tt, s.length ≤ 140737488355328) (hK : KK w) (hf : fewB ss = false) :
    Calls Tryd.prog 6 #[.agg #[.int .u8 t0, .int .u8 t1], .slice A n c, .slice A' m c'] w fun e w' => e = .returned (.bool true) ∧ Below w.heap.size w w' := by
  have HF := Lib.hid hf
  clear hf
  have hKK : ∀ X, Below w.heap.size w X → KK X := fun X h => hK.below h hK.1
  have HKK := Lib.hid hKK
  clear hKK
  have hhrX : ∀ X, Below w.heap.size w X → Rd X 1 (.slice A n c) n (ss.map tx) := fun X h => hr.below h
  have hrX := Lib.hid hhrX
  clear hhrX
  have hhr'X : ∀ X, Below w.heap.size w X → Rd X 1 (.slice A' m c') m (tt.map tx) := fun X h => hr'.below h
  have hr'X := Lib.hid hhr'X
  clear hhr'X
  go_enter Tryd.func6, Tryd.ntmps6
  go_upto_region 1 with fail
  have B0 : Blk (w.alloc (.cells #[.int .u8 t0, .int .u8 t1] 45)) w.heap.size 45 [.int .u8 t0, .int .u8 t1] := Blk.new rfl
  have c0 := bel_alloc (Below.refl w.heap.size w) (.cells #[.int .u8 t0, .int .u8 t1] 45)
  generalize w.alloc (.cells #[.int .u8 t0, .int .u8 t1] 45) = W0 at B0 c0 ⊢
  go_wp2_with fail
  refine (sanityC _ (HKK.out _ c0)).mono ?_
  rintro e w1 ⟨rfl, hb1⟩
  have B0 := B0.bel hb1
  have c0 := bel_next c0 hb1
  clear hb1
  go_wp2_with fail
  refine (fewC _ _ _ ss _ (hrX.out _ c0) hn hs).mono ?_
  rintro e w2 ⟨rfl, rfl⟩
  rw [HF.out]
  go_wp2
  go_ret
  exact ⟨rfl, c0⟩

set_option maxRecDepth 100000 in
set_option maxHeartbeats 1600000 in
theorem sepBad2 (t0 t1 : Int) (A : Option Addr) (n c : Nat) (ss : List (List UInt8)) (A' : Option Addr) (m c' : Nat) (tt : List (List UInt8)) (w : World) (hr : Rd w 1 (.slice A n c) n (ss.map tx)) (hr' : Rd w 1 (.slice A' m c') m (tt.map tx)) (q0 : 0 ≤ t0) (q1 : t0 ≤ 255) (q2 : 0 ≤ t1) (q3 : t1 ≤ 255) (hn : n ≤ 140737488355328) (hs : ∀ s ∈ ss, s.length ≤ 140737488355328) (hm : m ≤ 140737488355328) (ht : ∀ s ∈ tt, s.length ≤ 140737488355328) (hK : KK w) (hf : fewB ss = true) (hg : fewB tt = false) :
    Calls Tryd.prog 6 #[.agg #[.int .u8 t0, .int .u8 t1], .slice A n c, .slice A' m c'] w fun e w' => e = .returned (.bool true) ∧ Below w.heap.size w w' := by
  have HF := Lib.hid hf
  have HG := Lib.hid hg
  clear hf hg
  have hKK : ∀ X, Below w.heap.size w X → KK X := fun X h => hK.below h hK.1
  have HKK := Lib.hid hKK
  clear hKK
  have hhrX : ∀ X, Below w.heap.size w X → Rd X 1 (.slice A n c) n (ss.map tx) := fun X h => hr.below h
  have hrX := Lib.hid hhrX
  clear hhrX
  have hhr'X : ∀ X, Below w.heap.size w X → Rd X 1 (.slice A' m c') m (tt.map tx) := fun X h => hr'.below h
  have hr'X := Lib.hid hhr'X
  clear hhr'X
  go_enter Tryd.func6, Tryd.ntmps6
  go_upto_region 1 with fail
  have B0 : Blk (w.alloc (.cells #[.int .u8 t0, .int .u8 t1] 45)) w.heap.size 45 [.int .u8 t0, .int .u8 t1] := Blk.new rfl
  have c0 := bel_alloc (Below.refl w.heap.size w) (.cells #[.int .u8 t0, .int .u8 t1] 45)
  generalize w.alloc (.cells #[.int .u8 t0, .int .u8 t1] 45) = W0 at B0 c0 ⊢
  go_wp2_with fail
  refine (sanityC _ (HKK.out _ c0)).mono ?_
  rintro e w1 ⟨rfl, hb1⟩
  have B0 := B0.bel hb1
  have c0 := bel_next c0 hb1
  clear hb1
  go_wp2_with fail
  refine (fewC _ _ _ ss _ (hrX.out _ c0) hn hs).mono ?_
  rintro e w2 ⟨rfl, rfl⟩
  rw [HF.out]
  go_wp2_with fail
  refine (fewC _ _ _ tt _ (hr'X.out _ c0) hm ht).mono ?_
  rintro e w2 ⟨rfl, rfl⟩
  rw [HG.out]
  go_wp2
  go_ret
  exact ⟨rfl, c0⟩

set_option maxRecDepth 100000 in
set_option maxHeartbeats 1600000 in
theorem sepSame (t0 t1 : Int) (A : Option Addr) (n c : Nat) (ss : List (List UInt8)) (A' : Option Addr) (m c' : Nat) (tt : List (List UInt8)) (w : World) (hr : Rd w 1 (.slice A n c) n (ss.map tx)) (hr' : Rd w 1 (.slice A' m c') m (tt.map tx)) (q0 : 0 ≤ t0) (q1 : t0 ≤ 255) (q2 : 0 ≤ t1) (q3 : t1 ≤ 255) (hn : n ≤ 140737488355328) (hs : ∀ s ∈ ss, s.length ≤ 140737488355328) (hm : m ≤ 140737488355328) (ht : ∀ s ∈ tt, s.length ≤ 140737488355328) (hK : KK w) (hf : fewB ss = true) (hg : fewB tt = true) (he : t0 = t1) (hsm : sameL ss tt = true) :
    Calls Tryd.prog 6 #[.agg #[.int .u8 t0, .int .u8 t1], .slice A n c, .slice A' m c'] w fun e w' => e = .returned (.bool true) ∧ Below w.heap.size w w' := by
  subst he
  obtain ⟨hn0, hs4⟩ := fewB_out hf
  obtain ⟨hm0, ht4⟩ := fewB_out hg
  have hn2 : n ≤ 12 := by have := hr.n_eq; omega
  have hm2 : m ≤ 12 := by have := hr'.n_eq; omega
  have hin := inp_same q0 q1 q2 q3 hs4 ht4
  have hms : (inp t0 ss).length ≤ 6000 := by
    have := msg_len hs4
    have := hr.n_eq
    have : ss.length * 410 ≤ 12 * 410 := Nat.mul_le_mul_right _ (by omega)
    unfold inp
    simp only [List.length_cons]
    omega
  have hmt : (inp t0 tt).length ≤ 6000 := by
    have := msg_len ht4
    have := hr'.n_eq
    have : tt.length * 410 ≤ 12 * 410 := Nat.mul_le_mul_right _ (by omega)
    unfold inp
    simp only [List.length_cons]
    omega
  have HF := Lib.hid hf
  have HG := Lib.hid hg
  clear hf hg hn0 hm0
  have heq : inp t0 ss = inp t0 tt := hin.2 ⟨rfl, hsm⟩
  have HQ := Lib.hid heq
  have HSM := Lib.hid hsm
  clear hsm heq hin
  have hKK : ∀ X, Below w.heap.size w X → KK X := fun X h => hK.below h hK.1
  have HKK := Lib.hid hKK
  clear hKK
  have hhrX : ∀ X, Below w.heap.size w X → Rd X 1 (.slice A n c) n (ss.map tx) := fun X h => hr.below h
  have hrX := Lib.hid hhrX
  clear hhrX
  have hhr'X : ∀ X, Below w.heap.size w X → Rd X 1 (.slice A' m c') m (tt.map tx) := fun X h => hr'.below h
  have hr'X := Lib.hid hhr'X
  clear hhr'X
  go_enter Tryd.func6, Tryd.ntmps6
  go_upto_region 1 with fail
  have B0 : Blk (w.alloc (.cells #[.int .u8 t0, .int .u8 t0] 45)) w.heap.size 45 [.int .u8 t0, .int .u8 t0] := Blk.new rfl
  have c0 := bel_alloc (Below.refl w.heap.size w) (.cells #[.int .u8 t0, .int .u8 t0] 45)
  generalize w.alloc (.cells #[.int .u8 t0, .int .u8 t0] 45) = W0 at B0 c0 ⊢
  go_wp2_with fail
  refine (sanityC _ (HKK.out _ c0)).mono ?_
  rintro e w1 ⟨rfl, hb1⟩
  have B0 := B0.bel hb1
  have c0 := bel_next c0 hb1
  clear hb1
  go_wp2_with fail
  refine (fewC _ _ _ ss _ (hrX.out _ c0) hn hs).mono ?_
  rintro e w2 ⟨rfl, rfl⟩
  rw [HF.out]
  go_wp2_with fail
  refine (fewC _ _ _ tt _ (hr'X.out _ c0) hm ht).mono ?_
  rintro e w2 ⟨rfl, rfl⟩
  rw [HG.out]
  have p0 := B0.cell (j := 0) rfl
  have p1 := B0.cell (j := 1) rfl
  go_wp2_with fail
  refine (sameC _ _ _ _ _ _ ss tt _ (hrX.out _ c0) (hr'X.out _ c0) hn2 hm2).mono ?_
  rintro e u5 ⟨rfl, k5, rfl⟩
  rw [HSM.out]
  clear p0 p1
  have B0 := B0.drewN k5
  have c0 := bel_drewN c0 k5
  generalize w1.drewN k5 = W1 at B0 c0 ⊢
  have p0 := B0.cell (j := 0) rfl
  have p1 := B0.cell (j := 1) rfl
  go_wp2_with fail
  refine (inputC t0 _ _ _ ss _ (hrX.out _ c0) hn2 hs4).mono ?_
  rintro e w3 ⟨A1, c1, rfl, hR1, hb⟩
  clear p0 p1
  have B0 := B0.bel hb
  have c0 := bel_next c0 hb
  clear hb
  have p0 := B0.cell (j := 0) rfl
  have p1 := B0.cell (j := 1) rfl
  go_wp2_with fail
  refine (inputC t0 _ _ _ tt _ (hr'X.out _ c0) hm2 ht4).mono ?_
  rintro e w4 ⟨A2, c2, rfl, hR2, hb⟩
  clear p0 p1
  have B0 := B0.bel hb
  have hR1 := hR1.below hb
  have c0 := bel_next c0 hb
  clear hb
  have hXX : ∀ X, Since w4 X → Rd X 1 (.slice A1 (inp t0 ss).length c1) (inp t0 ss).length ((inp t0 ss).map B8) := fun X h => hR1.below h
  have hYY : ∀ X, Since w4 X → Rd X 1 (.slice A2 (inp t0 tt).length c2) (inp t0 tt).length ((inp t0 tt).map B8) := fun X h => hR2.below h
  have HXX := Lib.hid hXX
  have HYY := Lib.hid hYY
  clear hXX hYY hR1 hR2
  go_upto_region 8 with (fail)
  refine lx_plain [] (lasts_nil) ?_
  simp only [its, Nat.zero_add, Nat.reduceAdd]
  refine lx_val (by rfl) (.bool true) (fun X _ _ => by rfl) ?_
  simp only [Act.put, List.setIfInBounds_toArray, List.set_cons_succ, List.set_cons_zero]
  refine lx_val (by rfl) (.bool true) (fun X _ _ => by rfl) ?_
  simp only [Act.put, List.setIfInBounds_toArray, List.set_cons_succ, List.set_cons_zero]
  refine lx_val (by rfl) (.slice A1 (inp t0 ss).length c1) (fun X _ _ => by rfl) ?_
  simp only [Act.put, List.setIfInBounds_toArray, List.set_cons_succ, List.set_cons_zero]
  refine lx_val (by rfl) (.string ⟨(inp t0 ss).toArray⟩) (fun X hX _ => exec_str 22 9 5 Tryd.underlying22 Tryd.underlying5 Tryd.underlying9 _ (by rfl) (by rfl) (HXX.out X hX)) ?_
  simp only [Act.put, List.setIfInBounds_toArray, List.set_cons_succ, List.set_cons_zero]
  refine lx_val (by rfl) (.slice A2 (inp t0 tt).length c2) (fun X _ _ => by rfl) ?_
  simp only [Act.put, List.setIfInBounds_toArray, List.set_cons_succ, List.set_cons_zero]
  refine lx_val (by rfl) (.string ⟨(inp t0 tt).toArray⟩) (fun X hX _ => exec_str 22 9 5 Tryd.underlying22 Tryd.underlying5 Tryd.underlying9 _ (by rfl) (by rfl) (HYY.out X hX)) ?_
  simp only [Act.put, List.setIfInBounds_toArray, List.set_cons_succ, List.set_cons_zero]
  refine lx_val (by rfl) (.bool true) (fun X _ _ => (exec_eqs _ _ _ _ (by rfl) (inp t0 ss) (inp t0 tt) (by rfl) (by rfl) X).trans (by rw [HQ.out, beq_self_eq_true])) ?_
  simp only [Act.put, List.setIfInBounds_toArray, List.set_cons_succ, List.set_cons_zero]
  refine lx_val (by rfl) (.bool true) (fun X _ _ => by rfl) ?_
  simp only [Act.put, List.setIfInBounds_toArray, List.set_cons_succ, List.set_cons_zero]
  refine lx_val (by rfl) (.bool true) (fun X _ _ => by rfl) ?_
  simp only [Act.put, List.setIfInBounds_toArray, List.set_cons_succ, List.set_cons_zero]
  refine lx_nil ?_
  intro X9 hX9 _
  go_wp2
  go_ret
  exact ⟨rfl, bel_next c0 hX9⟩

set_option maxRecDepth 100000 in
set_option maxHeartbeats 1600000 in
theorem sepTag (t0 t1 : Int) (A : Option Addr) (n c : Nat) (ss : List (List UInt8)) (A' : Option Addr) (m c' : Nat) (tt : List (List UInt8)) (w : World) (hr : Rd w 1 (.slice A n c) n (ss.map tx)) (hr' : Rd w 1 (.slice A' m c') m (tt.map tx)) (q0 : 0 ≤ t0) (q1 : t0 ≤ 255) (q2 : 0 ≤ t1) (q3 : t1 ≤ 255) (hn : n ≤ 140737488355328) (hs : ∀ s ∈ ss, s.length ≤ 140737488355328) (hm : m ≤ 140737488355328) (ht : ∀ s ∈ tt, s.length ≤ 140737488355328) (hK : KK w) (hf : fewB ss = true) (hg : fewB tt = true) (hne : ¬ t0 = t1) :
    Calls Tryd.prog 6 #[.agg #[.int .u8 t0, .int .u8 t1], .slice A n c, .slice A' m c'] w fun e w' => e = .returned (.bool true) ∧ Below w.heap.size w w' := by
  have hz := zero16
  obtain ⟨hn0, hs4⟩ := fewB_out hf
  obtain ⟨hm0, ht4⟩ := fewB_out hg
  have hn2 : n ≤ 12 := by have := hr.n_eq; omega
  have hm2 : m ≤ 12 := by have := hr'.n_eq; omega
  have hin := inp_same q0 q1 q2 q3 hs4 ht4
  have hms : (inp t0 ss).length ≤ 6000 := by
    have := msg_len hs4
    have := hr.n_eq
    have : ss.length * 410 ≤ 12 * 410 := Nat.mul_le_mul_right _ (by omega)
    unfold inp
    simp only [List.length_cons]
    omega
  have hmt : (inp t1 tt).length ≤ 6000 := by
    have := msg_len ht4
    have := hr'.n_eq
    have : tt.length * 410 ≤ 12 * 410 := Nat.mul_le_mul_right _ (by omega)
    unfold inp
    simp only [List.length_cons]
    omega
  have HF := Lib.hid hf
  have HG := Lib.hid hg
  clear hf hg hn0 hm0
  have hnq : ¬ inp t0 ss = inp t1 tt := fun h => hne (hin.1 h).1
  have hnb : (inp t0 ss != inp t1 tt) = true := by simpa using hnq
  have HNB := Lib.hid hnb
  clear hnb hnq hin
  have hcl : clashB (sha (inp t0 ss)) (sha (inp t1 tt)) = ((sha (inp t0 ss)).take 16 == (sha (inp t1 tt)).take 16) := rfl
  have hlD := dg_len (inp t0 ss)
  obtain ⟨D, hD⟩ : ∃ h, h = (sha (inp t0 ss)).take 16 := ⟨_, rfl⟩
  rw [← hD] at hlD
  have DE : Hid (∀ _ : Unit, (sha (inp t0 ss)).take 16 = D) := fun _ => hD.symm
  have DL : Hid (D.length = 16) := hlD
  have hlE := dg_len (inp t1 tt)
  obtain ⟨E, hE⟩ : ∃ h, h = (sha (inp t1 tt)).take 16 := ⟨_, rfl⟩
  rw [← hE] at hlE
  have EE : Hid (∀ _ : Unit, (sha (inp t1 tt)).take 16 = E) := fun _ => hE.symm
  have EL : Hid (E.length = 16) := hlE
  rw [← hD, ← hE] at hcl
  have hlH := sha_len (inp t0 ss)
  obtain ⟨H, hH⟩ : ∃ h, h = sha (inp t0 ss) := ⟨_, rfl⟩
  rw [← hH] at hlH
  have HE : Hid (∀ _ : Unit, sha (inp t0 ss) = H) := fun _ => hH.symm
  have HL : Hid (H.length = 32) := hlH
  have hlG := sha_len (inp t1 tt)
  obtain ⟨G, hG⟩ : ∃ h, h = sha (inp t1 tt) := ⟨_, rfl⟩
  rw [← hG] at hlG
  have GE : Hid (∀ _ : Unit, sha (inp t1 tt) = G) := fun _ => hG.symm
  have GL : Hid (G.length = 32) := hlG
  rw [← hH, ← hG] at hcl
  have HCL := Lib.hid hcl
  clear hD hE hH hG hlD hlE hlH hlG hcl
  have hKK : ∀ X, Below w.heap.size w X → KK X := fun X h => hK.below h hK.1
  have HKK := Lib.hid hKK
  clear hKK
  have hhrX : ∀ X, Below w.heap.size w X → Rd X 1 (.slice A n c) n (ss.map tx) := fun X h => hr.below h
  have hrX := Lib.hid hhrX
  clear hhrX
  have hhr'X : ∀ X, Below w.heap.size w X → Rd X 1 (.slice A' m c') m (tt.map tx) := fun X h => hr'.below h
  have hr'X := Lib.hid hhr'X
  clear hhr'X
  go_enter Tryd.func6, Tryd.ntmps6
  go_upto_region 1 with fail
  have B0 : Blk (w.alloc (.cells #[.int .u8 t0, .int .u8 t1] 45)) w.heap.size 45 [.int .u8 t0, .int .u8 t1] := Blk.new rfl
  have c0 := bel_alloc (Below.refl w.heap.size w) (.cells #[.int .u8 t0, .int .u8 t1] 45)
  generalize w.alloc (.cells #[.int .u8 t0, .int .u8 t1] 45) = W0 at B0 c0 ⊢
  go_wp2_with fail
  refine (sanityC _ (HKK.out _ c0)).mono ?_
  rintro e w1 ⟨rfl, hb1⟩
  have B0 := B0.bel hb1
  have c0 := bel_next c0 hb1
  clear hb1
  go_wp2_with fail
  refine (fewC _ _ _ ss _ (hrX.out _ c0) hn hs).mono ?_
  rintro e w2 ⟨rfl, rfl⟩
  rw [HF.out]
  go_wp2_with fail
  refine (fewC _ _ _ tt _ (hr'X.out _ c0) hm ht).mono ?_
  rintro e w2 ⟨rfl, rfl⟩
  rw [HG.out]
  have p0 := B0.cell (j := 0) rfl
  have p1 := B0.cell (j := 1) rfl
  go_wp2_with fail
  refine (inputC t0 _ _ _ ss _ (hrX.out _ c0) hn2 hs4).mono ?_
  rintro e w3 ⟨A1, c1, rfl, hR1, hb⟩
  clear p0 p1
  have B0 := B0.bel hb
  have c0 := bel_next c0 hb
  clear hb
  have p0 := B0.cell (j := 0) rfl
  have p1 := B0.cell (j := 1) rfl
  go_wp2_with fail
  refine (inputC t1 _ _ _ tt _ (hr'X.out _ c0) hm2 ht4).mono ?_
  rintro e w4 ⟨A2, c2, rfl, hR2, hb⟩
  clear p0 p1
  have B0 := B0.bel hb
  have hR1 := hR1.below hb
  have c0 := bel_next c0 hb
  clear hb
  have p0 := B0.cell (j := 0) rfl
  have p1 := B0.cell (j := 1) rfl
  go_wp2_with fail
  refine (ofC t0 _ _ _ ss _ (hrX.out _ c0) hn2 hs4 (HKK.out _ c0)).mono ?_
  rintro e v1 ⟨rfl, hb1⟩
  rw [DE.out ()]
  have B0 := B0.bel hb1
  have hR1 := hR1.below hb1
  have hR2 := hR2.below hb1
  clear p0 p1
  have k1 := bel_next c0 hb1
  clear hb1 c0
  go_upto_region 10 with ((with_reducible show wpList _ _ _ (⟨none, .store 41 _ _, _, _, _, _⟩ :: _) _ _); refine op_store_new v1 _ _ rfl 41 (.tmp 11) (.tmp 56) rfl rfl (D.map B8).toArray rfl (by simp [DL.out, z16_len]) (by simpa using B8s_one D) (by simp [DL.out, size_dg]) ?_)
  have B1 : Blk (v1.alloc (.cells (D.map B8).toArray 41)) v1.heap.size 41 (D.map B8) := Blk.new rfl
  have B0 := B0.alloc (.cells (D.map B8).toArray 41)
  have hR1 := hR1.alloc (.cells (D.map B8).toArray 41)
  have hR2 := hR2.alloc (.cells (D.map B8).toArray 41)
  have e1 := bel_alloc k1 (.cells (D.map B8).toArray 41)
  generalize v1.alloc (.cells (D.map B8).toArray 41) = W1 at B0 B1 e1 hR1 hR2 ⊢
  generalize v1.heap.size = g1 at B1 ⊢
  clear k1
  have p0 := B0.cell (j := 0) rfl
  have p1 := B0.cell (j := 1) rfl
  go_wp2_with fail
  refine (ofC t1 _ _ _ tt _ (hr'X.out _ e1) hm2 ht4 (HKK.out _ e1)).mono ?_
  rintro e v2 ⟨rfl, hb2⟩
  rw [EE.out ()]
  have B0 := B0.bel hb2
  have B1 := B1.bel hb2
  have hR1 := hR1.below hb2
  have hR2 := hR2.below hb2
  clear p0 p1
  have k2 := bel_next e1 hb2
  clear hb2 e1
  go_upto_region 11 with ((with_reducible show wpList _ _ _ (⟨none, .store 41 _ _, _, _, _, _⟩ :: _) _ _); refine op_store_new v2 _ _ rfl 41 (.tmp 12) (.tmp 61) rfl rfl (E.map B8).toArray rfl (by simp [EL.out, z16_len]) (by simpa using B8s_one E) (by simp [EL.out, size_dg]) ?_)
  have B2 : Blk (v2.alloc (.cells (E.map B8).toArray 41)) v2.heap.size 41 (E.map B8) := Blk.new rfl
  have B0 := B0.alloc (.cells (E.map B8).toArray 41)
  have B1 := B1.alloc (.cells (E.map B8).toArray 41)
  have hR1 := hR1.alloc (.cells (E.map B8).toArray 41)
  have hR2 := hR2.alloc (.cells (E.map B8).toArray 41)
  have e2 := bel_alloc k2 (.cells (E.map B8).toArray 41)
  generalize v2.alloc (.cells (E.map B8).toArray 41) = W2 at B0 B1 B2 e2 hR1 hR2 ⊢
  generalize v2.heap.size = g2 at B2 ⊢
  clear k2
  have hXX : ∀ X, Since W2 X → Rd X 1 (.slice A1 (inp t0 ss).length c1) (inp t0 ss).length ((inp t0 ss).map B8) := fun X h => hR1.below h
  have hYY : ∀ X, Since W2 X → Rd X 1 (.slice A2 (inp t1 tt).length c2) (inp t1 tt).length ((inp t1 tt).map B8) := fun X h => hR2.below h
  have HXX := Lib.hid hXX
  have HYY := Lib.hid hYY
  clear hXX hYY hR1 hR2
  refine lx_region [] (by kernel_rfl) (by kernel_rfl) (lasts_nil) ?_
  simp only [its, Nat.zero_add, Nat.reduceAdd]
  refine lx_val (by rfl) (.bool true) (fun X _ _ => by rfl) ?_
  simp only [Act.put, List.setIfInBounds_toArray, List.set_cons_succ, List.set_cons_zero]
  refine lx_val (by rfl) (.bool true) (fun X _ _ => by rfl) ?_
  simp only [Act.put, List.setIfInBounds_toArray, List.set_cons_succ, List.set_cons_zero]
  refine lx_val (by rfl) (.slice A1 (inp t0 ss).length c1) (fun X _ _ => by rfl) ?_
  simp only [Act.put, List.setIfInBounds_toArray, List.set_cons_succ, List.set_cons_zero]
  refine lx_val (by rfl) (.string ⟨(inp t0 ss).toArray⟩) (fun X hX _ => exec_str 22 9 5 Tryd.underlying22 Tryd.underlying5 Tryd.underlying9 _ (by rfl) (by rfl) (HXX.out X hX)) ?_
  simp only [Act.put, List.setIfInBounds_toArray, List.set_cons_succ, List.set_cons_zero]
  refine lx_val (by rfl) (.slice A2 (inp t1 tt).length c2) (fun X _ _ => by rfl) ?_
  simp only [Act.put, List.setIfInBounds_toArray, List.set_cons_succ, List.set_cons_zero]
  refine lx_val (by rfl) (.string ⟨(inp t1 tt).toArray⟩) (fun X hX _ => exec_str 22 9 5 Tryd.underlying22 Tryd.underlying5 Tryd.underlying9 _ (by rfl) (by rfl) (HYY.out X hX)) ?_
  simp only [Act.put, List.setIfInBounds_toArray, List.set_cons_succ, List.set_cons_zero]
  refine lx_val (by rfl) (.bool true) (fun X _ _ => (exec_nes _ _ _ _ (by rfl) (inp t0 ss) (inp t1 tt) (by rfl) (by rfl) X).trans (by rw [HNB.out])) ?_
  simp only [Act.put, List.setIfInBounds_toArray, List.set_cons_succ, List.set_cons_zero]
  refine lx_val (by rfl) (.bool true) (fun X _ _ => by rfl) ?_
  simp only [Act.put, List.setIfInBounds_toArray, List.set_cons_succ, List.set_cons_zero]
  refine lx_val (by rfl) (.bool true) (fun X _ _ => by rfl) ?_
  simp only [Act.put, List.setIfInBounds_toArray, List.set_cons_succ, List.set_cons_zero]
  refine lx_load (by rfl) 41 (.tmp 11) (by rfl) g1 0 (by rfl) _ Tryd.underlying41 rfl (D.map B8) B1.lt B1.cl (by rw [List.length_map, DL.out]; exact size_dg) ?_
  simp only [Act.put, List.setIfInBounds_toArray, List.set_cons_succ, List.set_cons_zero]
  refine lx_load (by rfl) 41 (.tmp 12) (by rfl) g2 0 (by rfl) _ Tryd.underlying41 rfl (E.map B8) B2.lt B2.cl (by rw [List.length_map, EL.out]; exact size_dg) ?_
  simp only [Act.put, List.setIfInBounds_toArray, List.set_cons_succ, List.set_cons_zero]
  refine lx_val (by rfl) (.bool (D == E)) (fun X _ _ => exec_cmp_agg .eql 41 _ (.tmp 71) (.tmp 72) (by rfl) (D.map B8).toArray (E.map B8).toArray (by rfl) (by rfl) eqm16 _ _ ((eql16 X D E DL.out EL.out))) ?_
  simp only [Act.put, List.setIfInBounds_toArray, List.set_cons_succ, List.set_cons_zero]
  refine lx_val (by rfl) (.slice A1 (inp t0 ss).length c1) (fun X _ _ => by rfl) ?_
  simp only [Act.put, List.setIfInBounds_toArray, List.set_cons_succ, List.set_cons_zero]
  refine lx_call (by rfl) 13 _ _ (by rfl) (.agg (H.map B8).toArray) [.slice A1 (inp t0 ss).length c1] (by rfl) (by kernel_rfl) (fun _ => by go_simp) (fun X hX hF => (hashC _ _ _ (inp t0 ss) X (HXX.out X hX) (by omega) (HKK.out X (bel_next e2 hX))).mono fun e X' ⟨h1, h2⟩ => ⟨by rw [h1, HE.out ()], h2⟩) ?_
  simp only [Act.put, List.setIfInBounds_toArray, List.set_cons_succ, List.set_cons_zero]
  refine lx_val (by rfl) (.slice A2 (inp t1 tt).length c2) (fun X _ _ => by rfl) ?_
  simp only [Act.put, List.setIfInBounds_toArray, List.set_cons_succ, List.set_cons_zero]
  refine lx_call (by rfl) 13 _ _ (by rfl) (.agg (G.map B8).toArray) [.slice A2 (inp t1 tt).length c2] (by rfl) (by kernel_rfl) (fun _ => by go_simp) (fun X hX hF => (hashC _ _ _ (inp t1 tt) X (HYY.out X hX) (by omega) (HKK.out X (bel_next e2 hX))).mono fun e X' ⟨h1, h2⟩ => ⟨by rw [h1, GE.out ()], h2⟩) ?_
  simp only [Act.put, List.setIfInBounds_toArray, List.set_cons_succ, List.set_cons_zero]
  refine lx_call (by rfl) 24 _ _ (by rfl) (.bool (clashB H G)) [.agg (H.map B8).toArray, .agg (G.map B8).toArray] (by rfl) (by kernel_rfl) (fun _ => by go_simp) (fun X hX hF => clashC H G X HL.out GL.out) ?_
  simp only [Act.put, List.setIfInBounds_toArray, List.set_cons_succ, List.set_cons_zero]
  refine lx_val (by rfl) (.bool true) (fun X _ _ => by rw [HCL.out]; exact exec_eqb _ _ Tryd.underlying4 _ _ (by rfl) (D == E) (by rfl) (by rfl) X) ?_
  simp only [Act.put, List.setIfInBounds_toArray, List.set_cons_succ, List.set_cons_zero]
  refine lx_val (by rfl) (.bool true) (fun X _ _ => by rfl) ?_
  simp only [Act.put, List.setIfInBounds_toArray, List.set_cons_succ, List.set_cons_zero]
  refine lx_val (by rfl) (.bool true) (fun X _ _ => by rfl) ?_
  simp only [Act.put, List.setIfInBounds_toArray, List.set_cons_succ, List.set_cons_zero]
  refine lx_nil ?_
  intro X9 hX9 _
  go_wp2
  go_ret
  exact ⟨rfl, bel_next e2 hX9⟩

set_option maxRecDepth 100000 in
set_option maxHeartbeats 1600000 in
theorem sepList (t0 t1 : Int) (A : Option Addr) (n c : Nat) (ss : List (List UInt8)) (A' : Option Addr) (m c' : Nat) (tt : List (List UInt8)) (w : World) (hr : Rd w 1 (.slice A n c) n (ss.map tx)) (hr' : Rd w 1 (.slice A' m c') m (tt.map tx)) (q0 : 0 ≤ t0) (q1 : t0 ≤ 255) (q2 : 0 ≤ t1) (q3 : t1 ≤ 255) (hn : n ≤ 140737488355328) (hs : ∀ s ∈ ss, s.length ≤ 140737488355328) (hm : m ≤ 140737488355328) (ht : ∀ s ∈ tt, s.length ≤ 140737488355328) (hK : KK w) (hf : fewB ss = true) (hg : fewB tt = true) (he : t0 = t1) (hsm : sameL ss tt = false) :
    Calls Tryd.prog 6 #[.agg #[.int .u8 t0, .int .u8 t1], .slice A n c, .slice A' m c'] w fun e w' => e = .returned (.bool true) ∧ Below w.heap.size w w' := by
  subst he
  have hz := zero16
  obtain ⟨hn0, hs4⟩ := fewB_out hf
  obtain ⟨hm0, ht4⟩ := fewB_out hg
  have hn2 : n ≤ 12 := by have := hr.n_eq; omega
  have hm2 : m ≤ 12 := by have := hr'.n_eq; omega
  have hin := inp_same q0 q1 q2 q3 hs4 ht4
  have hms : (inp t0 ss).length ≤ 6000 := by
    have := msg_len hs4
    have := hr.n_eq
    have : ss.length * 410 ≤ 12 * 410 := Nat.mul_le_mul_right _ (by omega)
    unfold inp
    simp only [List.length_cons]
    omega
  have hmt : (inp t0 tt).length ≤ 6000 := by
    have := msg_len ht4
    have := hr'.n_eq
    have : tt.length * 410 ≤ 12 * 410 := Nat.mul_le_mul_right _ (by omega)
    unfold inp
    simp only [List.length_cons]
    omega
  have HF := Lib.hid hf
  have HG := Lib.hid hg
  clear hf hg hn0 hm0
  have hnq : ¬ inp t0 ss = inp t0 tt := fun h => by
    have := (hin.1 h).2
    rw [hsm] at this
    cases this
  have HSM := Lib.hid hsm
  have hnb : (inp t0 ss != inp t0 tt) = true := by simpa using hnq
  have HNB := Lib.hid hnb
  clear hnb hnq hin hsm
  have hcl : clashB (sha (inp t0 ss)) (sha (inp t0 tt)) = ((sha (inp t0 ss)).take 16 == (sha (inp t0 tt)).take 16) := rfl
  have hlD := dg_len (inp t0 ss)
  obtain ⟨D, hD⟩ : ∃ h, h = (sha (inp t0 ss)).take 16 := ⟨_, rfl⟩
  rw [← hD] at hlD
  have DE : Hid (∀ _ : Unit, (sha (inp t0 ss)).take 16 = D) := fun _ => hD.symm
  have DL : Hid (D.length = 16) := hlD
  have hlE := dg_len (inp t0 tt)
  obtain ⟨E, hE⟩ : ∃ h, h = (sha (inp t0 tt)).take 16 := ⟨_, rfl⟩
  rw [← hE] at hlE
  have EE : Hid (∀ _ : Unit, (sha (inp t0 tt)).take 16 = E) := fun _ => hE.symm
  have EL : Hid (E.length = 16) := hlE
  rw [← hD, ← hE] at hcl
  have hlH := sha_len (inp t0 ss)
  obtain ⟨H, hH⟩ : ∃ h, h = sha (inp t0 ss) := ⟨_, rfl⟩
  rw [← hH] at hlH
  have HE : Hid (∀ _ : Unit, sha (inp t0 ss) = H) := fun _ => hH.symm
  have HL : Hid (H.length = 32) := hlH
  have hlG := sha_len (inp t0 tt)
  obtain ⟨G, hG⟩ : ∃ h, h = sha (inp t0 tt) := ⟨_, rfl⟩
  rw [← hG] at hlG
  have GE : Hid (∀ _ : Unit, sha (inp t0 tt) = G) := fun _ => hG.symm
  have GL : Hid (G.length = 32) := hlG
  rw [← hH, ← hG] at hcl
  have HCL := Lib.hid hcl
  clear hD hE hH hG hlD hlE hlH hlG hcl
  have hKK : ∀ X, Below w.heap.size w X → KK X := fun X h => hK.below h hK.1
  have HKK := Lib.hid hKK
  clear hKK
  have hhrX : ∀ X, Below w.heap.size w X → Rd X 1 (.slice A n c) n (ss.map tx) := fun X h => hr.below h
  have hrX := Lib.hid hhrX
  clear hhrX
  have hhr'X : ∀ X, Below w.heap.size w X → Rd X 1 (.slice A' m c') m (tt.map tx) := fun X h => hr'.below h
  have hr'X := Lib.hid hhr'X
  clear hhr'X
  go_enter Tryd.func6, Tryd.ntmps6
  go_upto_region 1 with fail
  have B0 : Blk (w.alloc (.cells #[.int .u8 t0, .int .u8 t0] 45)) w.heap.size 45 [.int .u8 t0, .int .u8 t0] := Blk.new rfl
  have c0 := bel_alloc (Below.refl w.heap.size w) (.cells #[.int .u8 t0, .int .u8 t0] 45)
  generalize w.alloc (.cells #[.int .u8 t0, .int .u8 t0] 45) = W0 at B0 c0 ⊢
  go_wp2_with fail
  refine (sanityC _ (HKK.out _ c0)).mono ?_
  rintro e w1 ⟨rfl, hb1⟩
  have B0 := B0.bel hb1
  have c0 := bel_next c0 hb1
  clear hb1
  go_wp2_with fail
  refine (fewC _ _ _ ss _ (hrX.out _ c0) hn hs).mono ?_
  rintro e w2 ⟨rfl, rfl⟩
  rw [HF.out]
  go_wp2_with fail
  refine (fewC _ _ _ tt _ (hr'X.out _ c0) hm ht).mono ?_
  rintro e w2 ⟨rfl, rfl⟩
  rw [HG.out]
  have p0 := B0.cell (j := 0) rfl
  have p1 := B0.cell (j := 1) rfl
  go_wp2_with fail
  refine (sameC _ _ _ _ _ _ ss tt _ (hrX.out _ c0) (hr'X.out _ c0) hn2 hm2).mono ?_
  rintro e u5 ⟨rfl, k5, rfl⟩
  rw [HSM.out]
  clear p0 p1
  have B0 := B0.drewN k5
  have c0 := bel_drewN c0 k5
  generalize w1.drewN k5 = W1 at B0 c0 ⊢
  have p0 := B0.cell (j := 0) rfl
  have p1 := B0.cell (j := 1) rfl
  go_wp2_with fail
  refine (inputC t0 _ _ _ ss _ (hrX.out _ c0) hn2 hs4).mono ?_
  rintro e w3 ⟨A1, c1, rfl, hR1, hb⟩
  clear p0 p1
  have B0 := B0.bel hb
  have c0 := bel_next c0 hb
  clear hb
  have p0 := B0.cell (j := 0) rfl
  have p1 := B0.cell (j := 1) rfl
  go_wp2_with fail
  refine (inputC t0 _ _ _ tt _ (hr'X.out _ c0) hm2 ht4).mono ?_
  rintro e w4 ⟨A2, c2, rfl, hR2, hb⟩
  clear p0 p1
  have B0 := B0.bel hb
  have hR1 := hR1.below hb
  have c0 := bel_next c0 hb
  clear hb
  have p0 := B0.cell (j := 0) rfl
  have p1 := B0.cell (j := 1) rfl
  go_wp2_with fail
  refine (ofC t0 _ _ _ ss _ (hrX.out _ c0) hn2 hs4 (HKK.out _ c0)).mono ?_
  rintro e v1 ⟨rfl, hb1⟩
  rw [DE.out ()]
  have B0 := B0.bel hb1
  have hR1 := hR1.below hb1
  have hR2 := hR2.below hb1
  clear p0 p1
  have k1 := bel_next c0 hb1
  clear hb1 c0
  go_upto_region 10 with ((with_reducible show wpList _ _ _ (⟨none, .store 41 _ _, _, _, _, _⟩ :: _) _ _); refine op_store_new v1 _ _ rfl 41 (.tmp 11) (.tmp 56) rfl rfl (D.map B8).toArray rfl (by simp [DL.out, z16_len]) (by simpa using B8s_one D) (by simp [DL.out, size_dg]) ?_)
  have B1 : Blk (v1.alloc (.cells (D.map B8).toArray 41)) v1.heap.size 41 (D.map B8) := Blk.new rfl
  have B0 := B0.alloc (.cells (D.map B8).toArray 41)
  have hR1 := hR1.alloc (.cells (D.map B8).toArray 41)
  have hR2 := hR2.alloc (.cells (D.map B8).toArray 41)
  have e1 := bel_alloc k1 (.cells (D.map B8).toArray 41)
  generalize v1.alloc (.cells (D.map B8).toArray 41) = W1 at B0 B1 e1 hR1 hR2 ⊢
  generalize v1.heap.size = g1 at B1 ⊢
  clear k1
  have p0 := B0.cell (j := 0) rfl
  have p1 := B0.cell (j := 1) rfl
  go_wp2_with fail
  refine (ofC t0 _ _ _ tt _ (hr'X.out _ e1) hm2 ht4 (HKK.out _ e1)).mono ?_
  rintro e v2 ⟨rfl, hb2⟩
  rw [EE.out ()]
  have B0 := B0.bel hb2
  have B1 := B1.bel hb2
  have hR1 := hR1.below hb2
  have hR2 := hR2.below hb2
  clear p0 p1
  have k2 := bel_next e1 hb2
  clear hb2 e1
  go_upto_region 11 with ((with_reducible show wpList _ _ _ (⟨none, .store 41 _ _, _, _, _, _⟩ :: _) _ _); refine op_store_new v2 _ _ rfl 41 (.tmp 12) (.tmp 61) rfl rfl (E.map B8).toArray rfl (by simp [EL.out, z16_len]) (by simpa using B8s_one E) (by simp [EL.out, size_dg]) ?_)
  have B2 : Blk (v2.alloc (.cells (E.map B8).toArray 41)) v2.heap.size 41 (E.map B8) := Blk.new rfl
  have B0 := B0.alloc (.cells (E.map B8).toArray 41)
  have B1 := B1.alloc (.cells (E.map B8).toArray 41)
  have hR1 := hR1.alloc (.cells (E.map B8).toArray 41)
  have hR2 := hR2.alloc (.cells (E.map B8).toArray 41)
  have e2 := bel_alloc k2 (.cells (E.map B8).toArray 41)
  generalize v2.alloc (.cells (E.map B8).toArray 41) = W2 at B0 B1 B2 e2 hR1 hR2 ⊢
  generalize v2.heap.size = g2 at B2 ⊢
  clear k2
  have hXX : ∀ X, Since W2 X → Rd X 1 (.slice A1 (inp t0 ss).length c1) (inp t0 ss).length ((inp t0 ss).map B8) := fun X h => hR1.below h
  have hYY : ∀ X, Since W2 X → Rd X 1 (.slice A2 (inp t0 tt).length c2) (inp t0 tt).length ((inp t0 tt).map B8) := fun X h => hR2.below h
  have HXX := Lib.hid hXX
  have HYY := Lib.hid hYY
  clear hXX hYY hR1 hR2
  refine lx_region [] (by kernel_rfl) (by kernel_rfl) (lasts_nil) ?_
  simp only [its, Nat.zero_add, Nat.reduceAdd]
  refine lx_val (by rfl) (.bool true) (fun X _ _ => by rfl) ?_
  simp only [Act.put, List.setIfInBounds_toArray, List.set_cons_succ, List.set_cons_zero]
  refine lx_val (by rfl) (.bool true) (fun X _ _ => by rfl) ?_
  simp only [Act.put, List.setIfInBounds_toArray, List.set_cons_succ, List.set_cons_zero]
  refine lx_val (by rfl) (.slice A1 (inp t0 ss).length c1) (fun X _ _ => by rfl) ?_
  simp only [Act.put, List.setIfInBounds_toArray, List.set_cons_succ, List.set_cons_zero]
  refine lx_val (by rfl) (.string ⟨(inp t0 ss).toArray⟩) (fun X hX _ => exec_str 22 9 5 Tryd.underlying22 Tryd.underlying5 Tryd.underlying9 _ (by rfl) (by rfl) (HXX.out X hX)) ?_
  simp only [Act.put, List.setIfInBounds_toArray, List.set_cons_succ, List.set_cons_zero]
  refine lx_val (by rfl) (.slice A2 (inp t0 tt).length c2) (fun X _ _ => by rfl) ?_
  simp only [Act.put, List.setIfInBounds_toArray, List.set_cons_succ, List.set_cons_zero]
  refine lx_val (by rfl) (.string ⟨(inp t0 tt).toArray⟩) (fun X hX _ => exec_str 22 9 5 Tryd.underlying22 Tryd.underlying5 Tryd.underlying9 _ (by rfl) (by rfl) (HYY.out X hX)) ?_
  simp only [Act.put, List.setIfInBounds_toArray, List.set_cons_succ, List.set_cons_zero]
  refine lx_val (by rfl) (.bool true) (fun X _ _ => (exec_nes _ _ _ _ (by rfl) (inp t0 ss) (inp t0 tt) (by rfl) (by rfl) X).trans (by rw [HNB.out])) ?_
  simp only [Act.put, List.setIfInBounds_toArray, List.set_cons_succ, List.set_cons_zero]
  refine lx_val (by rfl) (.bool true) (fun X _ _ => by rfl) ?_
  simp only [Act.put, List.setIfInBounds_toArray, List.set_cons_succ, List.set_cons_zero]
  refine lx_val (by rfl) (.bool true) (fun X _ _ => by rfl) ?_
  simp only [Act.put, List.setIfInBounds_toArray, List.set_cons_succ, List.set_cons_zero]
  refine lx_load (by rfl) 41 (.tmp 11) (by rfl) g1 0 (by rfl) _ Tryd.underlying41 rfl (D.map B8) B1.lt B1.cl (by rw [List.length_map, DL.out]; exact size_dg) ?_
  simp only [Act.put, List.setIfInBounds_toArray, List.set_cons_succ, List.set_cons_zero]
  refine lx_load (by rfl) 41 (.tmp 12) (by rfl) g2 0 (by rfl) _ Tryd.underlying41 rfl (E.map B8) B2.lt B2.cl (by rw [List.length_map, EL.out]; exact size_dg) ?_
  simp only [Act.put, List.setIfInBounds_toArray, List.set_cons_succ, List.set_cons_zero]
  refine lx_val (by rfl) (.bool (D == E)) (fun X _ _ => exec_cmp_agg .eql 41 _ (.tmp 71) (.tmp 72) (by rfl) (D.map B8).toArray (E.map B8).toArray (by rfl) (by rfl) eqm16 _ _ ((eql16 X D E DL.out EL.out))) ?_
  simp only [Act.put, List.setIfInBounds_toArray, List.set_cons_succ, List.set_cons_zero]
  refine lx_val (by rfl) (.slice A1 (inp t0 ss).length c1) (fun X _ _ => by rfl) ?_
  simp only [Act.put, List.setIfInBounds_toArray, List.set_cons_succ, List.set_cons_zero]
  refine lx_call (by rfl) 13 _ _ (by rfl) (.agg (H.map B8).toArray) [.slice A1 (inp t0 ss).length c1] (by rfl) (by kernel_rfl) (fun _ => by go_simp) (fun X hX hF => (hashC _ _ _ (inp t0 ss) X (HXX.out X hX) (by omega) (HKK.out X (bel_next e2 hX))).mono fun e X' ⟨h1, h2⟩ => ⟨by rw [h1, HE.out ()], h2⟩) ?_
  simp only [Act.put, List.setIfInBounds_toArray, List.set_cons_succ, List.set_cons_zero]
  refine lx_val (by rfl) (.slice A2 (inp t0 tt).length c2) (fun X _ _ => by rfl) ?_
  simp only [Act.put, List.setIfInBounds_toArray, List.set_cons_succ, List.set_cons_zero]
  refine lx_call (by rfl) 13 _ _ (by rfl) (.agg (G.map B8).toArray) [.slice A2 (inp t0 tt).length c2] (by rfl) (by kernel_rfl) (fun _ => by go_simp) (fun X hX hF => (hashC _ _ _ (inp t0 tt) X (HYY.out X hX) (by omega) (HKK.out X (bel_next e2 hX))).mono fun e X' ⟨h1, h2⟩ => ⟨by rw [h1, GE.out ()], h2⟩) ?_
  simp only [Act.put, List.setIfInBounds_toArray, List.set_cons_succ, List.set_cons_zero]
  refine lx_call (by rfl) 24 _ _ (by rfl) (.bool (clashB H G)) [.agg (H.map B8).toArray, .agg (G.map B8).toArray] (by rfl) (by kernel_rfl) (fun _ => by go_simp) (fun X hX hF => clashC H G X HL.out GL.out) ?_
  simp only [Act.put, List.setIfInBounds_toArray, List.set_cons_succ, List.set_cons_zero]
  refine lx_val (by rfl) (.bool true) (fun X _ _ => by rw [HCL.out]; exact exec_eqb _ _ Tryd.underlying4 _ _ (by rfl) (D == E) (by rfl) (by rfl) X) ?_
  simp only [Act.put, List.setIfInBounds_toArray, List.set_cons_succ, List.set_cons_zero]
  refine lx_val (by rfl) (.bool true) (fun X _ _ => by rfl) ?_
  simp only [Act.put, List.setIfInBounds_toArray, List.set_cons_succ, List.set_cons_zero]
  refine lx_val (by rfl) (.bool true) (fun X _ _ => by rfl) ?_
  simp only [Act.put, List.setIfInBounds_toArray, List.set_cons_succ, List.set_cons_zero]
  refine lx_nil ?_
  intro X9 hX9 _
  go_wp2
  go_ret
  exact ⟨rfl, bel_next e2 hX9⟩

theorem sepW (t0 t1 : Int) (A : Option Addr) (n c : Nat) (ss : List (List UInt8)) (A' : Option Addr) (m c' : Nat) (tt : List (List UInt8)) (w : World) (hr : Rd w 1 (.slice A n c) n (ss.map tx)) (hr' : Rd w 1 (.slice A' m c') m (tt.map tx)) (q0 : 0 ≤ t0) (q1 : t0 ≤ 255) (q2 : 0 ≤ t1) (q3 : t1 ≤ 255) (hn : n ≤ 140737488355328) (hs : ∀ s ∈ ss, s.length ≤ 140737488355328) (hm : m ≤ 140737488355328) (ht : ∀ s ∈ tt, s.length ≤ 140737488355328) (hK : KK w) :
    Calls Tryd.prog 6 #[.agg #[.int .u8 t0, .int .u8 t1], .slice A n c, .slice A' m c'] w fun e w' => e = .returned (.bool true) ∧ Below w.heap.size w w' := by
  cases hf : fewB ss with
  | false => exact sepBad1 t0 t1 A n c ss A' m c' tt w hr hr' q0 q1 q2 q3 hn hs hm ht hK hf
  | true => cases hg : fewB tt with
    | false => exact sepBad2 t0 t1 A n c ss A' m c' tt w hr hr' q0 q1 q2 q3 hn hs hm ht hK hf hg
    | true =>
      by_cases he : t0 = t1
      · cases hsm : sameL ss tt with
        | true => exact sepSame t0 t1 A n c ss A' m c' tt w hr hr' q0 q1 q2 q3 hn hs hm ht hK hf hg he hsm
        | false => exact sepList t0 t1 A n c ss A' m c' tt w hr hr' q0 q1 q2 q3 hn hs hm ht hK hf hg he hsm
      · exact sepTag t0 t1 A n c ss A' m c' tt w hr hr' q0 q1 q2 q3 hn hs hm ht hK hf hg he
end Go.Proofs.YtmmomcililideaaDoor
