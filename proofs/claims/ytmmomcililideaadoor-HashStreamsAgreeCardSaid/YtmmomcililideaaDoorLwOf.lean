/-
  HashOfMatchesSpec: the walk.
-/
import Derived.Test.YtmmomcililideaaDoorWk02x
import Derived.Test.YtmmomcililideaaDoorWk02t
import Derived.Test.YtmmomcililideaaDoorLxw
import Derived.Test.YtmmomcililideaaDoorKeys
set_option linter.unusedSimpArgs false
set_option linter.unusedVariables false
namespace Go.Proofs.YtmmomcililideaaDoor
open Go.RowKit

theorem and255 (n : Int) : bits .and .i64 n 255 = n % 256 := by
  have h : (BitVec.ofInt 64 n &&& BitVec.ofInt 64 255).toNat = (n % 256).toNat := by
    rw [BitVec.toNat_and]
    have e : (BitVec.ofInt 64 255).toNat = 2 ^ 8 - 1 := by decide
    rw [e, Nat.and_two_pow_sub_one_eq_mod, BitVec.toNat_ofInt]
    omega
  show IntKind.i64.wrap ((BitVec.ofInt 64 n &&& BitVec.ofInt 64 255).toNat : Int) = _
  rw [h, IntKind.wrap_i64]
  omega
theorem inp_mod (tag : Int) (ss : List (List UInt8)) : inp (tag % 256) ss = inp tag ss := by
  unfold inp tagB
  rw [Int.emod_emod_of_dvd _ (Int.dvd_refl 256)]
theorem dg_len (m : List UInt8) : ((sha m).take 16).length = 16 := by rw [List.length_take, sha_len]; rfl

set_option maxRecDepth 100000 in
set_option maxHeartbeats 1600000 in
theorem ofBad (tag : Int) (A : Option Addr) (n c : Nat) (ss : List (List UInt8)) (w : World) (hr : Rd w 1 (.slice A n c) n (ss.map tx)) (hn : n ≤ 140737488355328) (hs : ∀ s ∈ ss, s.length ≤ 140737488355328) (hf : fewB ss = false) (hK : KK w) :
    Calls Tryd.prog 5 #[.int .i64 tag, .slice A n c] w fun e w' => e = .returned (.bool true) ∧ Below w.heap.size w w' := by
  have HF := Lib.hid hf
  clear hf
  go_enter Tryd.func5, Tryd.ntmps5
  go_wp2_with fail
  refine (sanityC _ hK).mono ?_
  rintro e w1 ⟨rfl, hb1⟩
  go_wp2_with fail
  refine (fewC _ _ _ ss _ (hr.below hb1) hn hs).mono ?_
  rintro e w2 ⟨rfl, rfl⟩
  rw [HF.out]
  go_wp2
  go_ret
  exact ⟨rfl, hb1⟩

set_option maxRecDepth 100000 in
set_option maxHeartbeats 1600000 in
theorem ofGood (tag : Int) (A : Option Addr) (n c : Nat) (ss : List (List UInt8)) (w : World) (hr : Rd w 1 (.slice A n c) n (ss.map tx)) (hf : fewB ss = true) (hK : KK w) (hK0 : KK0 w) :
    Calls Tryd.prog 5 #[.int .i64 tag, .slice A n c] w fun e w' => e = .returned (.bool true) ∧ Below w.heap.size w w' := by
  have hz2 := zero16
  obtain ⟨hn0, hs⟩ := fewB_out hf
  have hn : n ≤ 12 := by have := hr.n_eq; omega
  have hl := dg_len (inp tag ss)
  have hq := inp_mod tag ss
  obtain ⟨D, hD⟩ : ∃ h, h = (sha (inp tag ss)).take 16 := ⟨_, rfl⟩
  rw [← hD] at hl
  have HD : Hid (∀ _ : Unit, (sha (inp tag ss)).take 16 = D) := fun _ => hD.symm
  have HD2 : Hid (∀ _ : Unit, (sha (inp (tag % 256) ss)).take 16 = D) := fun _ => by rw [hq]; exact hD.symm
  have HL := Lib.hid hl
  have HF := Lib.hid hf
  clear hD hl hq hf hn0
  go_enter Tryd.func5, Tryd.ntmps5
  go_wp2_with fail
  refine (sanityC _ hK).mono ?_
  rintro e w1 ⟨rfl, hb1⟩
  have hr1 := hr.below hb1
  have hK1 := hK.below hb1 hK.1
  have hK01 := hK0.below hb1 hK0.1
  go_wp2_with fail
  refine (fewC _ _ _ ss _ hr1 (by omega) (fun s hm => Nat.le_trans (hs s hm) (by omega))).mono ?_
  rintro e w2 ⟨rfl, rfl⟩
  rw [HF.out]
  go_wp2_with fail
  refine (ofC tag _ _ _ ss _ hr1 hn hs hK1).mono ?_
  rintro e w3 ⟨rfl, hb3⟩
  rw [HD.out ()]
  have hr3 := hr1.below hb3
  have hK3 := hK1.below hb3 hK1.1
  have hK03 := hK01.below hb3 hK01.1
  have c3 := bel_next hb1 hb3
  clear hb1 hb3 hr1 hK1 hK01 hr hK hK0
  go_upto_region 5 with ((with_reducible show wpList _ _ _ (⟨none, .store 41 _ _, _, _, _, _⟩ :: _) _ _); refine op_store_new w3 _ _ rfl 41 (.tmp 6) (.tmp 14) rfl rfl (D.map B8).toArray rfl (by simp [HL.out, z16_len]) (by simpa using B8s_one D) (by simp [HL.out, size_dg]) ?_)
  have B1 : Blk (w3.alloc (.cells (D.map B8).toArray 41)) w3.heap.size 41 (D.map B8) := Blk.new rfl
  have c4 := bel_alloc c3 (.cells (D.map B8).toArray 41)
  have hr4 := hr3.alloc (.cells (D.map B8).toArray 41)
  have hKX : ∀ X, Since (w3.alloc (.cells (D.map B8).toArray 41)) X → KK X := fun X h => (hK3.below (bel_alloc (Below.refl _ _) _) hK3.1).below h (Nat.lt_of_lt_of_le hK3.1 (bel_alloc (Below.refl _ _) (.cells (D.map B8).toArray 41)).size)
  have hK0X : ∀ X, Since (w3.alloc (.cells (D.map B8).toArray 41)) X → KK0 X := fun X h => (hK03.below (bel_alloc (Below.refl _ _) _) hK03.1).below h (Nat.lt_of_lt_of_le hK03.1 (bel_alloc (Below.refl _ _) (.cells (D.map B8).toArray 41)).size)
  generalize w3.alloc (.cells (D.map B8).toArray 41) = W3 at B1 c4 hr4 hKX hK0X ⊢
  generalize w3.heap.size = g1 at B1 ⊢
  clear c3 hr3 hK3 hK03
  have HKX := Lib.hid hKX
  have HK0X := Lib.hid hK0X
  clear hKX hK0X
  have h255 := and255 tag
  have H255 := Lib.hid h255
  clear h255
  refine lx_region [] (by kernel_rfl) (by kernel_rfl) (lasts_nil) ?_
  simp only [its, Nat.zero_add, Nat.reduceAdd]
  refine lx_val (by rfl) (.bool true) (fun X _ _ => by rfl) ?_
  simp only [Act.put, List.setIfInBounds_toArray, List.set_cons_succ, List.set_cons_zero]
  refine lx_val (by rfl) (.bool true) (fun X _ _ => by rfl) ?_
  simp only [Act.put, List.setIfInBounds_toArray, List.set_cons_succ, List.set_cons_zero]
  refine lx_load (by rfl) 41 (.tmp 6) (by rfl) g1 0 (by rfl) _ Tryd.underlying41 rfl (D.map B8) B1.lt B1.cl (by rw [List.length_map, HL.out]; exact size_dg) ?_
  simp only [Act.put, List.setIfInBounds_toArray, List.set_cons_succ, List.set_cons_zero]
  refine lx_val (by rfl) (.int .i64 tag) (fun X _ _ => by rfl) ?_
  simp only [Act.put, List.setIfInBounds_toArray, List.set_cons_succ, List.set_cons_zero]
  refine lx_val (by rfl) (.slice A n c) (fun X _ _ => by rfl) ?_
  simp only [Act.put, List.setIfInBounds_toArray, List.set_cons_succ, List.set_cons_zero]
  refine lx_call (by rfl) 21 _ _ (by rfl) (.agg (D.map B8).toArray) [.int .i64 tag, .slice A n c] (by rfl) (by kernel_rfl) (fun _ => by go_simp) (fun X hX hF => (rofC tag _ _ _ ss X (hr4.below hX) hn hs (HK0X.out X hX)).mono fun e X' ⟨h1, h2⟩ => ⟨by rw [h1, HD.out ()], h2⟩) ?_
  simp only [Act.put, List.setIfInBounds_toArray, List.set_cons_succ, List.set_cons_zero]
  refine lx_val (by rfl) (.bool true) (fun X _ _ => exec_cmp_agg .eql 41 _ (.tmp 17) (.tmp 20) (by rfl) (D.map B8).toArray (D.map B8).toArray (by rfl) (by rfl) eqm16 _ _ ((eql16 X D D HL.out HL.out).trans (by rw [beq_self_eq_true]))) ?_
  simp only [Act.put, List.setIfInBounds_toArray, List.set_cons_succ, List.set_cons_zero]
  refine lx_val (by rfl) (.bool true) (fun X _ _ => by rfl) ?_
  simp only [Act.put, List.setIfInBounds_toArray, List.set_cons_succ, List.set_cons_zero]
  refine lx_val (by rfl) (.bool true) (fun X _ _ => by rfl) ?_
  simp only [Act.put, List.setIfInBounds_toArray, List.set_cons_succ, List.set_cons_zero]
  refine lx_load (by rfl) 41 (.tmp 6) (by rfl) g1 0 (by rfl) _ Tryd.underlying41 rfl (D.map B8) B1.lt B1.cl (by rw [List.length_map, HL.out]; exact size_dg) ?_
  simp only [Act.put, List.setIfInBounds_toArray, List.set_cons_succ, List.set_cons_zero]
  refine lx_val (by rfl) (.int .i64 tag) (fun X _ _ => by rfl) ?_
  simp only [Act.put, List.setIfInBounds_toArray, List.set_cons_succ, List.set_cons_zero]
  refine lx_val (by rfl) (.int .i64 (tag % 256)) (fun X _ _ => by rw [← H255.out]; rfl) ?_
  simp only [Act.put, List.setIfInBounds_toArray, List.set_cons_succ, List.set_cons_zero]
  refine lx_val (by rfl) (.slice A n c) (fun X _ _ => by rfl) ?_
  simp only [Act.put, List.setIfInBounds_toArray, List.set_cons_succ, List.set_cons_zero]
  refine lx_call (by rfl) 20 _ _ (by rfl) (.agg (D.map B8).toArray) [.int .i64 (tag % 256), .slice A n c] (by rfl) (by kernel_rfl) (fun _ => by go_simp) (fun X hX hF => (ofC (tag % 256) _ _ _ ss X (hr4.below hX) hn hs (HKX.out X hX)).mono fun e X' ⟨h1, h2⟩ => ⟨by rw [h1, HD2.out ()], h2⟩) ?_
  simp only [Act.put, List.setIfInBounds_toArray, List.set_cons_succ, List.set_cons_zero]
  refine lx_val (by rfl) (.bool true) (fun X _ _ => exec_cmp_agg .eql 41 _ (.tmp 24) (.tmp 28) (by rfl) (D.map B8).toArray (D.map B8).toArray (by rfl) (by rfl) eqm16 _ _ ((eql16 X D D HL.out HL.out).trans (by rw [beq_self_eq_true]))) ?_
  simp only [Act.put, List.setIfInBounds_toArray, List.set_cons_succ, List.set_cons_zero]
  refine lx_val (by rfl) (.bool true) (fun X _ _ => by rfl) ?_
  simp only [Act.put, List.setIfInBounds_toArray, List.set_cons_succ, List.set_cons_zero]
  refine lx_val (by rfl) (.bool true) (fun X _ _ => by rfl) ?_
  simp only [Act.put, List.setIfInBounds_toArray, List.set_cons_succ, List.set_cons_zero]
  refine lx_nil ?_
  intro X9 hX9 _
  go_wp2
  go_ret
  exact ⟨rfl, bel_next c4 hX9⟩

theorem ofW (tag : Int) (A : Option Addr) (n c : Nat) (ss : List (List UInt8)) (w : World) (hr : Rd w 1 (.slice A n c) n (ss.map tx)) (hn : n ≤ 140737488355328) (hs : ∀ s ∈ ss, s.length ≤ 140737488355328) (hK : KK w) (hK0 : KK0 w) :
    Calls Tryd.prog 5 #[.int .i64 tag, .slice A n c] w fun e w' => e = .returned (.bool true) ∧ Below w.heap.size w w' := by
  cases hf : fewB ss with
  | false => exact ofBad tag A n c ss w hr hn hs hf hK
  | true => exact ofGood tag A n c ss w hr hf hK hK0
end Go.Proofs.YtmmomcililideaaDoor
