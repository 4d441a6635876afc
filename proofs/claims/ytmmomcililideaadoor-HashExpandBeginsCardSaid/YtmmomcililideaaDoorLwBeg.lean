/-
  HashExpandBegins: the walk.
-/
import Derived.Test.YtmmomcililideaaDoorWk02x
import Derived.Test.YtmmomcililideaaDoorWk02t
import Derived.Test.YtmmomcililideaaDoorLxw
import Derived.Test.YtmmomcililideaaDoorKeys
import Derived.Test.YtmmomcililideaaDoorPl02c
import Derived.Test.YtmmomcililideaaDoorLwOf
import Derived.Test.YtmmomcililideaaDoorLxi
set_option linter.unusedSimpArgs false
set_option linter.unusedVariables false
namespace Go.Proofs.YtmmomcililideaaDoor
open Go.RowKit

theorem expI_ok (seed : List UInt8) {k : Nat} (h1 : 1 ≤ k) (h2 : k ≤ 256) : expI seed (k : Int) = (exs seed ((k + 31) / 32)).take k := by
  unfold expI
  rw [if_neg (by omega)]
  rfl
theorem expI_ln (seed : List UInt8) {k : Nat} (h1 : 1 ≤ k) (h2 : k ≤ 256) : (expI seed (k : Int)).length = k := by
  rw [expI_ok seed h1 h2, List.length_take, exs_len]
  omega
theorem exs_pre (seed : List UInt8) (i j : Nat) (h : i ≤ j) : ∃ r, exs seed j = exs seed i ++ r := by
  obtain ⟨d, rfl⟩ : ∃ d, j = i + d := ⟨j - i, by omega⟩
  clear h
  induction d with
  | zero => exact ⟨[], by simp⟩
  | succ d ih =>
    obtain ⟨r, hr⟩ := ih
    exact ⟨r ++ hmac seed (encI ((i + d : Nat) : Int)), by rw [show i + (d + 1) = i + d + 1 by omega, exs_succ, hr, List.append_assoc]⟩
theorem expI_pre (seed : List UInt8) {i j : Nat} (h1 : 1 ≤ i) (h2 : i ≤ j) (h3 : j ≤ 256) : (expI seed (j : Int)).take i = expI seed (i : Int) := by
  rw [expI_ok seed (by omega) h3, expI_ok seed h1 (by omega), List.take_take, Nat.min_eq_left h2]
  obtain ⟨r, hr⟩ := exs_pre seed ((i + 31) / 32) ((j + 31) / 32) (by omega)
  rw [hr, List.take_append_of_le_length (by rw [exs_len]; omega)]
theorem encI_0 : encI 0 = [0] := by decide
theorem expI_first (seed : List UInt8) {i k : Nat} (h1 : 1 ≤ i) (h3 : i ≤ 256) (hk : k ≤ i) (hk2 : k ≤ 32) : (expI seed (i : Int)).take k = (hmac seed [0]).take k := by
  rw [expI_ok seed h1 h3, List.take_take, Nat.min_eq_left hk]
  obtain ⟨r, hr⟩ := exs_pre seed 1 ((i + 31) / 32) (by omega)
  have e1 : exs seed 1 = hmac seed [0] := by
    rw [exs_succ, show exs seed 0 = [] from rfl, List.nil_append]
    show hmac seed (encI 0) = _
    rw [encI_0]
  rw [hr, e1, List.take_append_of_le_length (by rw [hmac_len]; omega)]
theorem load_u8 (b k : Nat) (v : Value) (X : World) (h : X.cell? ⟨b, k, none⟩ = some v) : (loadVar 5 ⟨b, k, none⟩).run Tryd.prog X = .ok v X := by
  go_simp
theorem exec_ld8 {f : Operand → Value} {o : Oper} (x : Operand) (ho : o.op = .load 5 x) (b k : Nat) (hx : f x = .pointer (some ⟨b, k, none⟩)) (v : Value) (X : World) (hc : X.cell? ⟨b, k, none⟩ = some v) : (execOp f o).run Tryd.prog X = .ok (.value v) X := by
  have h := load_u8 b k v X hc
  unfold execOp
  simp only [ho, hx, Instr.loadAt, Instr.sureAddr, Sem.run_bind, Sem.run_pure, Result.andThen_ok, h]
theorem exec_ix2 {f : Operand → Value} {o : Oper} (x i : Operand) (ho : o.op = .indexAddr 45 x i) (b k : Nat) (hk : k < 2) (hx : f x = .pointer (some ⟨b, 0, none⟩)) {z : Int} (hi : f i = .int .i64 z) (hz : z = (k : Int)) (X : World) : (execOp f o).run Tryd.prog X = .ok (.value (.pointer (some ⟨b, k, none⟩))) X := by
  subst hz
  have q5 : (0 : Int) ≤ (k : Int) := by omega
  have q6 : (k : Int) < 2 := by omega
  have et : ((k : Int)).toNat = k := by omega
  unfold execOp
  simp only [ho, hx, hi]
  go_simp

set_option maxRecDepth 100000 in
set_option maxHeartbeats 1600000 in
theorem begBad (key : List UInt8) (x y : Nat) (w : World) (hkl : key.length ≤ 140737488355328) (hx : x ≤ 255) (hy : y ≤ 255) (hK : KK w) (h4 : 400 < key.length) :
    Calls Tryd.prog 10 #[.string ⟨key.toArray⟩, .agg #[.int .u8 (x : Int), .int .u8 (y : Int)]] w fun e w' => e = .returned (.bool true) ∧ Below w.heap.size w w' := by
  have hKK : ∀ X, Below w.heap.size w X → KK X := fun X h => hK.below h hK.1
  have HKK := Lib.hid hKK
  clear hKK
  go_enter Tryd.func10, Tryd.ntmps10
  go_upto_region 1 with fail
  have B0 : Blk (w.alloc (.cells #[.int .u8 (x : Int), .int .u8 (y : Int)] 45)) w.heap.size 45 [.int .u8 (x : Int), .int .u8 (y : Int)] := Blk.new rfl
  have c0 := bel_alloc (Below.refl w.heap.size w) (.cells #[.int .u8 (x : Int), .int .u8 (y : Int)] 45)
  generalize w.alloc (.cells #[.int .u8 (x : Int), .int .u8 (y : Int)] 45) = W0 at B0 c0 ⊢
  go_wp2_with fail
  refine (sanityC _ (HKK.out _ c0)).mono ?_
  rintro e w1 ⟨rfl, hb1⟩
  have B0 := B0.bel hb1
  have c0 := bel_next c0 hb1
  clear hb1
  go_wp2
  go_ret
  exact ⟨rfl, c0⟩

set_option maxRecDepth 100000 in
set_option maxHeartbeats 1600000 in
theorem begLe (key : List UInt8) (x y : Nat) (w : World) (hkl : key.length ≤ 140737488355328) (hx : x ≤ 255) (hy : y ≤ 255) (hK : KK w) (h4 : key.length ≤ 400) (hxy : x ≤ y) :
    Calls Tryd.prog 10 #[.string ⟨key.toArray⟩, .agg #[.int .u8 (x : Int), .int .u8 (y : Int)]] w fun e w' => e = .returned (.bool true) ∧ Below w.heap.size w w' := by
  have hz2 := zero32
  have la := expI_ln key (k := 1 + x) (by omega) (by omega)
  have lb := expI_ln key (k := 1 + y) (by omega) (by omega)
  have hpre := expI_pre key (i := 1 + x) (j := 1 + y) (by omega) (by omega) (by omega)
  have hfst := expI_first key (i := 1 + x) (k := min (1 + x) 32) (by omega) (by omega) (by omega) (by omega)
  obtain ⟨a, ha⟩ : ∃ a, a = expI key ((1 + x : Nat) : Int) := ⟨_, rfl⟩
  obtain ⟨b, hb⟩ : ∃ b, b = expI key ((1 + y : Nat) : Int) := ⟨_, rfl⟩
  rw [← ha] at la hpre hfst
  rw [← hb] at lb hpre
  have lh := hmac_len key [0]
  obtain ⟨H, hH⟩ : ∃ h, h = hmac key [0] := ⟨_, rfl⟩
  rw [← hH] at hfst lh
  have HH : Hid (∀ _ : Unit, hmac key [0] = H) := fun _ => hH.symm
  have HA : Hid (∀ _ : Unit, expI key ((1 + x : Nat) : Int) = a) := fun _ => ha.symm
  have HB : Hid (∀ _ : Unit, expI key ((1 + y : Nat) : Int) = b) := fun _ => hb.symm
  have LA : Hid (∀ _ : Unit, a.length = 1 + x) := fun _ => la
  have LB : Hid (∀ _ : Unit, b.length = 1 + y) := fun _ => lb
  have HL := Lib.hid lh
  have HP : Hid (∀ _ : Unit, b.take (1 + x) = a) := fun _ => hpre
  have HFS : Hid (∀ _ : Unit, a.take (min (1 + x) 32) = H.take (min (1 + x) 32)) := fun _ => hfst
  clear ha hb hH la lb lh hpre hfst
  have hKK : ∀ X, Below w.heap.size w X → KK X := fun X h => hK.below h hK.1
  have HKK := Lib.hid hKK
  clear hKK
  go_enter Tryd.func10, Tryd.ntmps10
  go_upto_region 1 with fail
  have B0 : Blk (w.alloc (.cells #[.int .u8 (x : Int), .int .u8 (y : Int)] 45)) w.heap.size 45 [.int .u8 (x : Int), .int .u8 (y : Int)] := Blk.new rfl
  have c0 := bel_alloc (Below.refl w.heap.size w) (.cells #[.int .u8 (x : Int), .int .u8 (y : Int)] 45)
  generalize w.alloc (.cells #[.int .u8 (x : Int), .int .u8 (y : Int)] 45) = W0 at B0 c0 ⊢
  go_wp2_with fail
  refine (sanityC _ (HKK.out _ c0)).mono ?_
  rintro e w1 ⟨rfl, hb1⟩
  have B0 := B0.bel hb1
  have c0 := bel_next c0 hb1
  clear hb1
  go_upto_region 4 with (fail)
  have hX0 : ∀ X, Since w1 X → X.cell? ⟨w.heap.size, 0, none⟩ = some (.int .u8 (x : Int)) := fun X h => (B0.bel h).cell (j := 0) rfl
  have hX1 : ∀ X, Since w1 X → X.cell? ⟨w.heap.size, 1, none⟩ = some (.int .u8 (y : Int)) := fun X h => (B0.bel h).cell (j := 1) rfl
  have HX0 := Lib.hid hX0
  have HX1 := Lib.hid hX1
  clear hX0 hX1
  refine lx_region [] (by kernel_rfl) (by kernel_rfl) (lasts_nil) ?_
  simp only [its, Nat.zero_add, Nat.reduceAdd]
  refine lx_val (by rfl) (.pointer (some ⟨w.heap.size, 0, none⟩)) (fun X _ _ => exec_ix2 _ _ (by rfl) w.heap.size 0 (by omega) (by rfl) (by rfl) rfl X) ?_
  simp only [Act.put, List.setIfInBounds_toArray, List.set_cons_succ, List.set_cons_zero]
  refine lx_val (by rfl) (.int .u8 (x : Int)) (fun X hX _ => exec_ld8 _ (by rfl) w.heap.size 0 (by rfl) _ X (HX0.out X hX)) ?_
  simp only [Act.put, List.setIfInBounds_toArray, List.set_cons_succ, List.set_cons_zero]
  refine lx_val (by rfl) (.pointer (some ⟨w.heap.size, 1, none⟩)) (fun X _ _ => exec_ix2 _ _ (by rfl) w.heap.size 1 (by omega) (by rfl) (by rfl) rfl X) ?_
  simp only [Act.put, List.setIfInBounds_toArray, List.set_cons_succ, List.set_cons_zero]
  refine lx_val (by rfl) (.int .u8 (y : Int)) (fun X hX _ => exec_ld8 _ (by rfl) w.heap.size 1 (by rfl) _ X (HX1.out X hX)) ?_
  simp only [Act.put, List.setIfInBounds_toArray, List.set_cons_succ, List.set_cons_zero]
  refine lx_val (by rfl) (.int .u8 (x : Int)) (fun X _ _ => exec_min _ _ (by rfl) .u8 x y _ (by rfl) (by rfl) (by omega) X) ?_
  simp only [Act.put, List.setIfInBounds_toArray, List.set_cons_succ, List.set_cons_zero]
  refine lx_val (by rfl) (.int .i64 (x : Int)) (fun X _ _ => exec_i64 _ _ .u8 Tryd.underlying5 Tryd.underlying3 _ (by rfl) x (by rfl) (by omega) (by omega) X) ?_
  simp only [Act.put, List.setIfInBounds_toArray, List.set_cons_succ, List.set_cons_zero]
  refine lx_val (by rfl) (.int .i64 ((1 + x : Nat) : Int)) (fun X _ _ => exec_add _ _ _ _ (by rfl) 1 x _ (by rfl) (by rfl) (by omega) (by omega) (by omega) X) ?_
  simp only [Act.put, List.setIfInBounds_toArray, List.set_cons_succ, List.set_cons_zero]
  refine lx_val (by rfl) (.pointer (some ⟨w.heap.size, 0, none⟩)) (fun X _ _ => exec_ix2 _ _ (by rfl) w.heap.size 0 (by omega) (by rfl) (by rfl) rfl X) ?_
  simp only [Act.put, List.setIfInBounds_toArray, List.set_cons_succ, List.set_cons_zero]
  refine lx_val (by rfl) (.int .u8 (x : Int)) (fun X hX _ => exec_ld8 _ (by rfl) w.heap.size 0 (by rfl) _ X (HX0.out X hX)) ?_
  simp only [Act.put, List.setIfInBounds_toArray, List.set_cons_succ, List.set_cons_zero]
  refine lx_val (by rfl) (.pointer (some ⟨w.heap.size, 1, none⟩)) (fun X _ _ => exec_ix2 _ _ (by rfl) w.heap.size 1 (by omega) (by rfl) (by rfl) rfl X) ?_
  simp only [Act.put, List.setIfInBounds_toArray, List.set_cons_succ, List.set_cons_zero]
  refine lx_val (by rfl) (.int .u8 (y : Int)) (fun X hX _ => exec_ld8 _ (by rfl) w.heap.size 1 (by rfl) _ X (HX1.out X hX)) ?_
  simp only [Act.put, List.setIfInBounds_toArray, List.set_cons_succ, List.set_cons_zero]
  refine lx_val (by rfl) (.int .u8 (y : Int)) (fun X _ _ => exec_max _ _ (by rfl) .u8 x y _ (by rfl) (by rfl) (by omega) X) ?_
  simp only [Act.put, List.setIfInBounds_toArray, List.set_cons_succ, List.set_cons_zero]
  refine lx_val (by rfl) (.int .i64 (y : Int)) (fun X _ _ => exec_i64 _ _ .u8 Tryd.underlying5 Tryd.underlying3 _ (by rfl) y (by rfl) (by omega) (by omega) X) ?_
  simp only [Act.put, List.setIfInBounds_toArray, List.set_cons_succ, List.set_cons_zero]
  refine lx_val (by rfl) (.int .i64 ((1 + y : Nat) : Int)) (fun X _ _ => exec_add _ _ _ _ (by rfl) 1 y _ (by rfl) (by rfl) (by omega) (by omega) (by omega) X) ?_
  simp only [Act.put, List.setIfInBounds_toArray, List.set_cons_succ, List.set_cons_zero]
  refine lx_val (by rfl) (.int .i64 ((1 + x : Nat) : Int)) (fun X _ _ => by rfl) ?_
  simp only [Act.put, List.setIfInBounds_toArray, List.set_cons_succ, List.set_cons_zero]
  refine lx_val (by rfl) (.int .i64 ((1 + y : Nat) : Int)) (fun X _ _ => by rfl) ?_
  simp only [Act.put, List.setIfInBounds_toArray, List.set_cons_succ, List.set_cons_zero]
  refine lx_nil ?_
  intro W1 hW1 _
  have c1 := bel_next c0 hW1
  clear hW1 c0 B0 HX0 HX1
  go_wp2_with fail
  refine (expandC key ((1 + x : Nat) : Int) _ (by omega) (HKK.out _ c1)).mono ?_
  rintro e w2 ⟨rfl, hb⟩
  rw [HA.out ()]
  have c2 := bel_next c1 hb
  clear hb
  go_wp2_with fail
  refine (expandC key ((1 + y : Nat) : Int) _ (by omega) (HKK.out _ c2)).mono ?_
  rintro e w3 ⟨rfl, hb⟩
  rw [HB.out ()]
  have c3 := bel_next c2 hb
  clear hb
  have la := LA.out ()
  have lb := LB.out ()
  go_wp2_with fail
  refine (hmacC key [0] _ (by omega) (by simp) (HKK.out _ c3)).mono ?_
  rintro e w4 ⟨rfl, hb⟩
  rw [HH.out ()]
  have c4 := bel_next c3 hb
  clear hb la lb
  go_wp2_with fail
  refine (b32C H _ HL.out).mono ?_
  rintro e w5 ⟨rfl, hb⟩
  have c5 := bel_next c4 hb
  clear hb
  go_upto_region 9 with (fail)
  refine lx_region [] (by kernel_rfl) (by kernel_rfl) (lasts_nil) ?_
  simp only [its, Nat.zero_add, Nat.reduceAdd]
  refine lx_val (by rfl) (.bool true) (fun X _ _ => by rfl) ?_
  simp only [Act.put, List.setIfInBounds_toArray, List.set_cons_succ, List.set_cons_zero]
  refine lx_val (by rfl) (.bool true) (fun X _ _ => by rfl) ?_
  simp only [Act.put, List.setIfInBounds_toArray, List.set_cons_succ, List.set_cons_zero]
  refine lx_val (by rfl) (.string ⟨b.toArray⟩) (fun X _ _ => by rfl) ?_
  simp only [Act.put, List.setIfInBounds_toArray, List.set_cons_succ, List.set_cons_zero]
  refine lx_val (by rfl) (.int .i64 ((1 + x : Nat) : Int)) (fun X _ _ => by rfl) ?_
  simp only [Act.put, List.setIfInBounds_toArray, List.set_cons_succ, List.set_cons_zero]
  refine lx_val (by rfl) (.string ⟨(b.take (1 + x)).toArray⟩) (fun X _ _ => exec_cut _ Tryd.underlying9 _ _ (by rfl) b (1 + x) (by rfl) (by rfl) (by omega) (by rw [LB.out ()]; omega) X) ?_
  simp only [Act.put, List.setIfInBounds_toArray, List.set_cons_succ, List.set_cons_zero]
  refine lx_val (by rfl) (.string ⟨a.toArray⟩) (fun X _ _ => by rfl) ?_
  simp only [Act.put, List.setIfInBounds_toArray, List.set_cons_succ, List.set_cons_zero]
  refine lx_val (by rfl) (.bool true) (fun X _ _ => (exec_eqs _ _ _ _ (by rfl) _ a (by rfl) (by rfl) X).trans (by rw [HP.out (), beq_self_eq_true])) ?_
  simp only [Act.put, List.setIfInBounds_toArray, List.set_cons_succ, List.set_cons_zero]
  refine lx_val (by rfl) (.bool true) (fun X _ _ => by rfl) ?_
  simp only [Act.put, List.setIfInBounds_toArray, List.set_cons_succ, List.set_cons_zero]
  refine lx_val (by rfl) (.bool true) (fun X _ _ => by rfl) ?_
  simp only [Act.put, List.setIfInBounds_toArray, List.set_cons_succ, List.set_cons_zero]
  refine lx_val (by rfl) (.string ⟨a.toArray⟩) (fun X _ _ => by rfl) ?_
  simp only [Act.put, List.setIfInBounds_toArray, List.set_cons_succ, List.set_cons_zero]
  refine lx_val (by rfl) (.int .i64 ((1 + x : Nat) : Int)) (fun X _ _ => by rfl) ?_
  simp only [Act.put, List.setIfInBounds_toArray, List.set_cons_succ, List.set_cons_zero]
  refine lx_val (by rfl) (.int .i64 ((min (1 + x) 32 : Nat) : Int)) (fun X _ _ => exec_min _ _ (by rfl) .i64 ((1 + x : Nat) : Int) 32 _ (by rfl) (by rfl) (by omega) X) ?_
  simp only [Act.put, List.setIfInBounds_toArray, List.set_cons_succ, List.set_cons_zero]
  refine lx_val (by rfl) (.string ⟨(a.take (min (1 + x) 32)).toArray⟩) (fun X _ _ => exec_cut _ Tryd.underlying9 _ _ (by rfl) a (min (1 + x) 32) (by rfl) (by rfl) (by omega) (by rw [LA.out ()]; omega) X) ?_
  simp only [Act.put, List.setIfInBounds_toArray, List.set_cons_succ, List.set_cons_zero]
  refine lx_val (by rfl) (.string ⟨H.toArray⟩) (fun X _ _ => by rfl) ?_
  simp only [Act.put, List.setIfInBounds_toArray, List.set_cons_succ, List.set_cons_zero]
  refine lx_val (by rfl) (.int .i64 ((1 + x : Nat) : Int)) (fun X _ _ => by rfl) ?_
  simp only [Act.put, List.setIfInBounds_toArray, List.set_cons_succ, List.set_cons_zero]
  refine lx_val (by rfl) (.int .i64 ((min (1 + x) 32 : Nat) : Int)) (fun X _ _ => exec_min _ _ (by rfl) .i64 ((1 + x : Nat) : Int) 32 _ (by rfl) (by rfl) (by omega) X) ?_
  simp only [Act.put, List.setIfInBounds_toArray, List.set_cons_succ, List.set_cons_zero]
  refine lx_val (by rfl) (.string ⟨(H.take (min (1 + x) 32)).toArray⟩) (fun X _ _ => exec_cut _ Tryd.underlying9 _ _ (by rfl) H (min (1 + x) 32) (by rfl) (by rfl) (by omega) (by rw [HL.out]; omega) X) ?_
  simp only [Act.put, List.setIfInBounds_toArray, List.set_cons_succ, List.set_cons_zero]
  refine lx_val (by rfl) (.bool true) (fun X _ _ => (exec_eqs _ _ _ _ (by rfl) _ _ (by rfl) (by rfl) X).trans (by rw [HFS.out (), beq_self_eq_true])) ?_
  simp only [Act.put, List.setIfInBounds_toArray, List.set_cons_succ, List.set_cons_zero]
  refine lx_val (by rfl) (.bool true) (fun X _ _ => by rfl) ?_
  simp only [Act.put, List.setIfInBounds_toArray, List.set_cons_succ, List.set_cons_zero]
  refine lx_val (by rfl) (.bool true) (fun X _ _ => by rfl) ?_
  simp only [Act.put, List.setIfInBounds_toArray, List.set_cons_succ, List.set_cons_zero]
  refine lx_nil ?_
  intro X9 hX9 _
  go_wp2
  go_ret
  exact ⟨rfl, bel_next c5 hX9⟩

set_option maxRecDepth 100000 in
set_option maxHeartbeats 1600000 in
theorem begGt (key : List UInt8) (x y : Nat) (w : World) (hkl : key.length ≤ 140737488355328) (hx : x ≤ 255) (hy : y ≤ 255) (hK : KK w) (h4 : key.length ≤ 400) (hxy : y < x) :
    Calls Tryd.prog 10 #[.string ⟨key.toArray⟩, .agg #[.int .u8 (x : Int), .int .u8 (y : Int)]] w fun e w' => e = .returned (.bool true) ∧ Below w.heap.size w w' := by
  have hz2 := zero32
  have la := expI_ln key (k := 1 + y) (by omega) (by omega)
  have lb := expI_ln key (k := 1 + x) (by omega) (by omega)
  have hpre := expI_pre key (i := 1 + y) (j := 1 + x) (by omega) (by omega) (by omega)
  have hfst := expI_first key (i := 1 + y) (k := min (1 + y) 32) (by omega) (by omega) (by omega) (by omega)
  obtain ⟨a, ha⟩ : ∃ a, a = expI key ((1 + y : Nat) : Int) := ⟨_, rfl⟩
  obtain ⟨b, hb⟩ : ∃ b, b = expI key ((1 + x : Nat) : Int) := ⟨_, rfl⟩
  rw [← ha] at la hpre hfst
  rw [← hb] at lb hpre
  have lh := hmac_len key [0]
  obtain ⟨H, hH⟩ : ∃ h, h = hmac key [0] := ⟨_, rfl⟩
  rw [← hH] at hfst lh
  have HH : Hid (∀ _ : Unit, hmac key [0] = H) := fun _ => hH.symm
  have HA : Hid (∀ _ : Unit, expI key ((1 + y : Nat) : Int) = a) := fun _ => ha.symm
  have HB : Hid (∀ _ : Unit, expI key ((1 + x : Nat) : Int) = b) := fun _ => hb.symm
  have LA : Hid (∀ _ : Unit, a.length = 1 + y) := fun _ => la
  have LB : Hid (∀ _ : Unit, b.length = 1 + x) := fun _ => lb
  have HL := Lib.hid lh
  have HP : Hid (∀ _ : Unit, b.take (1 + y) = a) := fun _ => hpre
  have HFS : Hid (∀ _ : Unit, a.take (min (1 + y) 32) = H.take (min (1 + y) 32)) := fun _ => hfst
  clear ha hb hH la lb lh hpre hfst
  have hKK : ∀ X, Below w.heap.size w X → KK X := fun X h => hK.below h hK.1
  have HKK := Lib.hid hKK
  clear hKK
  go_enter Tryd.func10, Tryd.ntmps10
  go_upto_region 1 with fail
  have B0 : Blk (w.alloc (.cells #[.int .u8 (x : Int), .int .u8 (y : Int)] 45)) w.heap.size 45 [.int .u8 (x : Int), .int .u8 (y : Int)] := Blk.new rfl
  have c0 := bel_alloc (Below.refl w.heap.size w) (.cells #[.int .u8 (x : Int), .int .u8 (y : Int)] 45)
  generalize w.alloc (.cells #[.int .u8 (x : Int), .int .u8 (y : Int)] 45) = W0 at B0 c0 ⊢
  go_wp2_with fail
  refine (sanityC _ (HKK.out _ c0)).mono ?_
  rintro e w1 ⟨rfl, hb1⟩
  have B0 := B0.bel hb1
  have c0 := bel_next c0 hb1
  clear hb1
  go_upto_region 4 with (fail)
  have hX0 : ∀ X, Since w1 X → X.cell? ⟨w.heap.size, 0, none⟩ = some (.int .u8 (x : Int)) := fun X h => (B0.bel h).cell (j := 0) rfl
  have hX1 : ∀ X, Since w1 X → X.cell? ⟨w.heap.size, 1, none⟩ = some (.int .u8 (y : Int)) := fun X h => (B0.bel h).cell (j := 1) rfl
  have HX0 := Lib.hid hX0
  have HX1 := Lib.hid hX1
  clear hX0 hX1
  refine lx_region [] (by kernel_rfl) (by kernel_rfl) (lasts_nil) ?_
  simp only [its, Nat.zero_add, Nat.reduceAdd]
  refine lx_val (by rfl) (.pointer (some ⟨w.heap.size, 0, none⟩)) (fun X _ _ => exec_ix2 _ _ (by rfl) w.heap.size 0 (by omega) (by rfl) (by rfl) rfl X) ?_
  simp only [Act.put, List.setIfInBounds_toArray, List.set_cons_succ, List.set_cons_zero]
  refine lx_val (by rfl) (.int .u8 (x : Int)) (fun X hX _ => exec_ld8 _ (by rfl) w.heap.size 0 (by rfl) _ X (HX0.out X hX)) ?_
  simp only [Act.put, List.setIfInBounds_toArray, List.set_cons_succ, List.set_cons_zero]
  refine lx_val (by rfl) (.pointer (some ⟨w.heap.size, 1, none⟩)) (fun X _ _ => exec_ix2 _ _ (by rfl) w.heap.size 1 (by omega) (by rfl) (by rfl) rfl X) ?_
  simp only [Act.put, List.setIfInBounds_toArray, List.set_cons_succ, List.set_cons_zero]
  refine lx_val (by rfl) (.int .u8 (y : Int)) (fun X hX _ => exec_ld8 _ (by rfl) w.heap.size 1 (by rfl) _ X (HX1.out X hX)) ?_
  simp only [Act.put, List.setIfInBounds_toArray, List.set_cons_succ, List.set_cons_zero]
  refine lx_val (by rfl) (.int .u8 (y : Int)) (fun X _ _ => exec_min _ _ (by rfl) .u8 x y _ (by rfl) (by rfl) (by omega) X) ?_
  simp only [Act.put, List.setIfInBounds_toArray, List.set_cons_succ, List.set_cons_zero]
  refine lx_val (by rfl) (.int .i64 (y : Int)) (fun X _ _ => exec_i64 _ _ .u8 Tryd.underlying5 Tryd.underlying3 _ (by rfl) y (by rfl) (by omega) (by omega) X) ?_
  simp only [Act.put, List.setIfInBounds_toArray, List.set_cons_succ, List.set_cons_zero]
  refine lx_val (by rfl) (.int .i64 ((1 + y : Nat) : Int)) (fun X _ _ => exec_add _ _ _ _ (by rfl) 1 y _ (by rfl) (by rfl) (by omega) (by omega) (by omega) X) ?_
  simp only [Act.put, List.setIfInBounds_toArray, List.set_cons_succ, List.set_cons_zero]
  refine lx_val (by rfl) (.pointer (some ⟨w.heap.size, 0, none⟩)) (fun X _ _ => exec_ix2 _ _ (by rfl) w.heap.size 0 (by omega) (by rfl) (by rfl) rfl X) ?_
  simp only [Act.put, List.setIfInBounds_toArray, List.set_cons_succ, List.set_cons_zero]
  refine lx_val (by rfl) (.int .u8 (x : Int)) (fun X hX _ => exec_ld8 _ (by rfl) w.heap.size 0 (by rfl) _ X (HX0.out X hX)) ?_
  simp only [Act.put, List.setIfInBounds_toArray, List.set_cons_succ, List.set_cons_zero]
  refine lx_val (by rfl) (.pointer (some ⟨w.heap.size, 1, none⟩)) (fun X _ _ => exec_ix2 _ _ (by rfl) w.heap.size 1 (by omega) (by rfl) (by rfl) rfl X) ?_
  simp only [Act.put, List.setIfInBounds_toArray, List.set_cons_succ, List.set_cons_zero]
  refine lx_val (by rfl) (.int .u8 (y : Int)) (fun X hX _ => exec_ld8 _ (by rfl) w.heap.size 1 (by rfl) _ X (HX1.out X hX)) ?_
  simp only [Act.put, List.setIfInBounds_toArray, List.set_cons_succ, List.set_cons_zero]
  refine lx_val (by rfl) (.int .u8 (x : Int)) (fun X _ _ => exec_max _ _ (by rfl) .u8 x y _ (by rfl) (by rfl) (by omega) X) ?_
  simp only [Act.put, List.setIfInBounds_toArray, List.set_cons_succ, List.set_cons_zero]
  refine lx_val (by rfl) (.int .i64 (x : Int)) (fun X _ _ => exec_i64 _ _ .u8 Tryd.underlying5 Tryd.underlying3 _ (by rfl) x (by rfl) (by omega) (by omega) X) ?_
  simp only [Act.put, List.setIfInBounds_toArray, List.set_cons_succ, List.set_cons_zero]
  refine lx_val (by rfl) (.int .i64 ((1 + x : Nat) : Int)) (fun X _ _ => exec_add _ _ _ _ (by rfl) 1 x _ (by rfl) (by rfl) (by omega) (by omega) (by omega) X) ?_
  simp only [Act.put, List.setIfInBounds_toArray, List.set_cons_succ, List.set_cons_zero]
  refine lx_val (by rfl) (.int .i64 ((1 + y : Nat) : Int)) (fun X _ _ => by rfl) ?_
  simp only [Act.put, List.setIfInBounds_toArray, List.set_cons_succ, List.set_cons_zero]
  refine lx_val (by rfl) (.int .i64 ((1 + x : Nat) : Int)) (fun X _ _ => by rfl) ?_
  simp only [Act.put, List.setIfInBounds_toArray, List.set_cons_succ, List.set_cons_zero]
  refine lx_nil ?_
  intro W1 hW1 _
  have c1 := bel_next c0 hW1
  clear hW1 c0 B0 HX0 HX1
  go_wp2_with fail
  refine (expandC key ((1 + y : Nat) : Int) _ (by omega) (HKK.out _ c1)).mono ?_
  rintro e w2 ⟨rfl, hb⟩
  rw [HA.out ()]
  have c2 := bel_next c1 hb
  clear hb
  go_wp2_with fail
  refine (expandC key ((1 + x : Nat) : Int) _ (by omega) (HKK.out _ c2)).mono ?_
  rintro e w3 ⟨rfl, hb⟩
  rw [HB.out ()]
  have c3 := bel_next c2 hb
  clear hb
  have la := LA.out ()
  have lb := LB.out ()
  go_wp2_with fail
  refine (hmacC key [0] _ (by omega) (by simp) (HKK.out _ c3)).mono ?_
  rintro e w4 ⟨rfl, hb⟩
  rw [HH.out ()]
  have c4 := bel_next c3 hb
  clear hb la lb
  go_wp2_with fail
  refine (b32C H _ HL.out).mono ?_
  rintro e w5 ⟨rfl, hb⟩
  have c5 := bel_next c4 hb
  clear hb
  go_upto_region 9 with (fail)
  refine lx_region [] (by kernel_rfl) (by kernel_rfl) (lasts_nil) ?_
  simp only [its, Nat.zero_add, Nat.reduceAdd]
  refine lx_val (by rfl) (.bool true) (fun X _ _ => by rfl) ?_
  simp only [Act.put, List.setIfInBounds_toArray, List.set_cons_succ, List.set_cons_zero]
  refine lx_val (by rfl) (.bool true) (fun X _ _ => by rfl) ?_
  simp only [Act.put, List.setIfInBounds_toArray, List.set_cons_succ, List.set_cons_zero]
  refine lx_val (by rfl) (.string ⟨b.toArray⟩) (fun X _ _ => by rfl) ?_
  simp only [Act.put, List.setIfInBounds_toArray, List.set_cons_succ, List.set_cons_zero]
  refine lx_val (by rfl) (.int .i64 ((1 + y : Nat) : Int)) (fun X _ _ => by rfl) ?_
  simp only [Act.put, List.setIfInBounds_toArray, List.set_cons_succ, List.set_cons_zero]
  refine lx_val (by rfl) (.string ⟨(b.take (1 + y)).toArray⟩) (fun X _ _ => exec_cut _ Tryd.underlying9 _ _ (by rfl) b (1 + y) (by rfl) (by rfl) (by omega) (by rw [LB.out ()]; omega) X) ?_
  simp only [Act.put, List.setIfInBounds_toArray, List.set_cons_succ, List.set_cons_zero]
  refine lx_val (by rfl) (.string ⟨a.toArray⟩) (fun X _ _ => by rfl) ?_
  simp only [Act.put, List.setIfInBounds_toArray, List.set_cons_succ, List.set_cons_zero]
  refine lx_val (by rfl) (.bool true) (fun X _ _ => (exec_eqs _ _ _ _ (by rfl) _ a (by rfl) (by rfl) X).trans (by rw [HP.out (), beq_self_eq_true])) ?_
  simp only [Act.put, List.setIfInBounds_toArray, List.set_cons_succ, List.set_cons_zero]
  refine lx_val (by rfl) (.bool true) (fun X _ _ => by rfl) ?_
  simp only [Act.put, List.setIfInBounds_toArray, List.set_cons_succ, List.set_cons_zero]
  refine lx_val (by rfl) (.bool true) (fun X _ _ => by rfl) ?_
  simp only [Act.put, List.setIfInBounds_toArray, List.set_cons_succ, List.set_cons_zero]
  refine lx_val (by rfl) (.string ⟨a.toArray⟩) (fun X _ _ => by rfl) ?_
  simp only [Act.put, List.setIfInBounds_toArray, List.set_cons_succ, List.set_cons_zero]
  refine lx_val (by rfl) (.int .i64 ((1 + y : Nat) : Int)) (fun X _ _ => by rfl) ?_
  simp only [Act.put, List.setIfInBounds_toArray, List.set_cons_succ, List.set_cons_zero]
  refine lx_val (by rfl) (.int .i64 ((min (1 + y) 32 : Nat) : Int)) (fun X _ _ => exec_min _ _ (by rfl) .i64 ((1 + y : Nat) : Int) 32 _ (by rfl) (by rfl) (by omega) X) ?_
  simp only [Act.put, List.setIfInBounds_toArray, List.set_cons_succ, List.set_cons_zero]
  refine lx_val (by rfl) (.string ⟨(a.take (min (1 + y) 32)).toArray⟩) (fun X _ _ => exec_cut _ Tryd.underlying9 _ _ (by rfl) a (min (1 + y) 32) (by rfl) (by rfl) (by omega) (by rw [LA.out ()]; omega) X) ?_
  simp only [Act.put, List.setIfInBounds_toArray, List.set_cons_succ, List.set_cons_zero]
  refine lx_val (by rfl) (.string ⟨H.toArray⟩) (fun X _ _ => by rfl) ?_
  simp only [Act.put, List.setIfInBounds_toArray, List.set_cons_succ, List.set_cons_zero]
  refine lx_val (by rfl) (.int .i64 ((1 + y : Nat) : Int)) (fun X _ _ => by rfl) ?_
  simp only [Act.put, List.setIfInBounds_toArray, List.set_cons_succ, List.set_cons_zero]
  refine lx_val (by rfl) (.int .i64 ((min (1 + y) 32 : Nat) : Int)) (fun X _ _ => exec_min _ _ (by rfl) .i64 ((1 + y : Nat) : Int) 32 _ (by rfl) (by rfl) (by omega) X) ?_
  simp only [Act.put, List.setIfInBounds_toArray, List.set_cons_succ, List.set_cons_zero]
  refine lx_val (by rfl) (.string ⟨(H.take (min (1 + y) 32)).toArray⟩) (fun X _ _ => exec_cut _ Tryd.underlying9 _ _ (by rfl) H (min (1 + y) 32) (by rfl) (by rfl) (by omega) (by rw [HL.out]; omega) X) ?_
  simp only [Act.put, List.setIfInBounds_toArray, List.set_cons_succ, List.set_cons_zero]
  refine lx_val (by rfl) (.bool true) (fun X _ _ => (exec_eqs _ _ _ _ (by rfl) _ _ (by rfl) (by rfl) X).trans (by rw [HFS.out (), beq_self_eq_true])) ?_
  simp only [Act.put, List.setIfInBounds_toArray, List.set_cons_succ, List.set_cons_zero]
  refine lx_val (by rfl) (.bool true) (fun X _ _ => by rfl) ?_
  simp only [Act.put, List.setIfInBounds_toArray, List.set_cons_succ, List.set_cons_zero]
  refine lx_val (by rfl) (.bool true) (fun X _ _ => by rfl) ?_
  simp only [Act.put, List.setIfInBounds_toArray, List.set_cons_succ, List.set_cons_zero]
  refine lx_nil ?_
  intro X9 hX9 _
  go_wp2
  go_ret
  exact ⟨rfl, bel_next c5 hX9⟩

theorem begW (key : List UInt8) (x y : Nat) (w : World) (hkl : key.length ≤ 140737488355328) (hx : x ≤ 255) (hy : y ≤ 255) (hK : KK w) :
    Calls Tryd.prog 10 #[.string ⟨key.toArray⟩, .agg #[.int .u8 (x : Int), .int .u8 (y : Int)]] w fun e w' => e = .returned (.bool true) ∧ Below w.heap.size w w' := by
  by_cases h4 : 400 < key.length
  · exact begBad key x y w hkl hx hy hK h4
  · by_cases hxy : x ≤ y
    · exact begLe key x y w hkl hx hy hK (by omega) hxy
    · exact begGt key x y w hkl hx hy hK (by omega) (by omega)
end Go.Proofs.YtmmomcililideaaDoor
