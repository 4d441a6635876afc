/-
  The package's functions, but for division.
-/
import Derived.Test.YtglnabciomlmmaaDoorNrv
namespace Go.Proofs.YtglnabciomlmmaaDoor
open Go.RowKit

theorem pow256_le {k n : Nat} (h : k ≤ n) : 256 ^ k ≤ 4294967296 ^ n := Nat.le_trans (Nat.pow_le_pow_right (by omega) h) (Nat.pow_le_pow_left (by omega) n)
theorem ld_val (a : List UInt8) : (ld (val a)).length ≤ a.length := ld_len (Nat.lt_of_lt_of_le (val_lt a) (pow256_le (Nat.le_refl _)))
theorem ld_add {x y m : Nat} (hx : (ld x).length ≤ m) (hy : (ld y).length ≤ m) : (ld (x + y)).length ≤ m + 1 := by
  refine ld_len ?_
  have h1 := lw_lt (ld x)
  have h2 := lw_lt (ld y)
  rw [lw_ld] at h1 h2
  have h3 : 4294967296 ^ (ld x).length ≤ 4294967296 ^ m := Nat.pow_le_pow_right (by omega) hx
  have h4 : 4294967296 ^ (ld y).length ≤ 4294967296 ^ m := Nat.pow_le_pow_right (by omega) hy
  rw [Nat.pow_succ]
  omega
theorem ld_mul (x y : Nat) : (ld (x * y)).length ≤ (ld x).length + (ld y).length := by
  refine ld_len ?_
  have h1 := lw_lt (ld x)
  have h2 := lw_lt (ld y)
  rw [lw_ld] at h1 h2
  rw [Nat.pow_add]
  exact Nat.mul_lt_mul'' h1 h2
theorem ld_le {x y : Nat} (h : x ≤ y) : (ld x).length ≤ (ld y).length := ld_mono h
/-- Whether a string is canonical. -/
def cn (l : List UInt8) : Bool := be (val l) == l
theorem cn_nil : cn [] = true := rfl
theorem cn_cons (b : UInt8) (r : List UInt8) : cn (b :: r) = decide (¬ b.toNat = 0) := by
  unfold cn
  rw [be_strip, dropZ_cons]
  by_cases h : b.toNat = 0
  · rw [if_pos h, decide_eq_false (fun h' => h' h)]
    have : ((r.dropWhile (· == 0)) == b :: r) = false := by
      rw [beq_eq_false_iff_ne]
      intro h2
      have h3 := congrArg List.length h2
      have h4 : (r.dropWhile (· == 0)).length ≤ r.length := (List.dropWhile_sublist _).length_le
      rw [List.length_cons] at h3
      omega
    exact this
  · rw [if_neg h, decide_eq_true h, beq_self_eq_true]

set_option maxRecDepth 100000 in
set_option maxHeartbeats 1600000 in
theorem validC (l : List UInt8) (w : World) : Calls Tryd.prog 14 #[.string ⟨l.toArray⟩] w fun e w' => e = .returned (.bool (cn l)) ∧ w = w' := by
  cases l with
  | nil =>
    go_enter Tryd.func14, Tryd.ntmps14
    go_upto_region 1 with (fail)
    refine lx_plain_eq ?_
    simp only [its, Nat.zero_add, Nat.reduceAdd]
    refine lx_vale (by rfl) (.string ⟨([] : List UInt8).toArray⟩) (by rfl) ?_
    simp only [Act.put, List.setIfInBounds_toArray, List.set_cons_succ, List.set_cons_zero]
    refine lx_vale (by rfl) (.bool true) ((fun X => (exec_eqs _ _ _ _ (by rfl) [] [] (by rfl) (by rfl) X).trans (by rfl)) _) ?_
    simp only [Act.put, List.setIfInBounds_toArray, List.set_cons_succ, List.set_cons_zero]
    refine lx_vale (by rfl) (.bool true) (by rfl) ?_
    simp only [Act.put, List.setIfInBounds_toArray, List.set_cons_succ, List.set_cons_zero]
    refine lx_skip (by rfl) ?_
    simp only [Act.put, List.setIfInBounds_toArray, List.set_cons_succ, List.set_cons_zero]
    refine lx_skip (by rfl) ?_
    simp only [Act.put, List.setIfInBounds_toArray, List.set_cons_succ, List.set_cons_zero]
    refine lx_skip (by rfl) ?_
    simp only [Act.put, List.setIfInBounds_toArray, List.set_cons_succ, List.set_cons_zero]
    refine lx_vale (by rfl) (.bool true) (by rfl) ?_
    simp only [Act.put, List.setIfInBounds_toArray, List.set_cons_succ, List.set_cons_zero]
    refine lx_vale (by rfl) (.bool true) (by rfl) ?_
    simp only [Act.put, List.setIfInBounds_toArray, List.set_cons_succ, List.set_cons_zero]
    refine lx_nil ?_
    rintro _ rfl _
    go_wp2
    go_ret
    exact ⟨rfl, rfl⟩
  | cons b r =>
    have HC := Lib.hid (cn_cons b r)
    by_cases hz : b.toNat = 0
    · have HV : Hid (cn (b :: r) = false) := by show _ = _; rw [HC.out, decide_eq_false (fun h => h hz)]
      go_enter Tryd.func14, Tryd.ntmps14
      go_upto_region 1 with (fail)
      refine lx_plain_eq ?_
      simp only [its, Nat.zero_add, Nat.reduceAdd]
      refine lx_vale (by rfl) (.string ⟨(b :: r).toArray⟩) (by rfl) ?_
      simp only [Act.put, List.setIfInBounds_toArray, List.set_cons_succ, List.set_cons_zero]
      refine lx_vale (by rfl) (.bool false) ((fun X => (exec_eqs _ _ _ _ (by rfl) (b :: r) [] (by rfl) (by rfl) X).trans (by rfl)) _) ?_
      simp only [Act.put, List.setIfInBounds_toArray, List.set_cons_succ, List.set_cons_zero]
      refine lx_vale (by rfl) (.bool false) (by rfl) ?_
      simp only [Act.put, List.setIfInBounds_toArray, List.set_cons_succ, List.set_cons_zero]
      refine lx_vale (by rfl) (.string ⟨(b :: r).toArray⟩) (by rfl) ?_
      simp only [Act.put, List.setIfInBounds_toArray, List.set_cons_succ, List.set_cons_zero]
      refine lx_vale (by rfl) (.int .u8 (b.toNat : Int)) (exec_chr _ Tryd.underlying9 _ _ (by rfl) (b :: r) 0 (by rfl) (by rfl) rfl (by rw [List.length_cons]; omega) _) ?_
      simp only [Act.put, List.setIfInBounds_toArray, List.set_cons_succ, List.set_cons_zero]
      refine lx_vale (by rfl) (.bool false) (exec_nei _ _ _ _ (by rfl) .u8 (b.toNat : Int) 0 (by rfl) (by rfl) false (by rw [decide_eq_true (by omega)]; rfl) _) ?_
      simp only [Act.put, List.setIfInBounds_toArray, List.set_cons_succ, List.set_cons_zero]
      refine lx_vale (by rfl) (.bool false) (by rfl) ?_
      simp only [Act.put, List.setIfInBounds_toArray, List.set_cons_succ, List.set_cons_zero]
      refine lx_vale (by rfl) (.bool false) (by rfl) ?_
      simp only [Act.put, List.setIfInBounds_toArray, List.set_cons_succ, List.set_cons_zero]
      refine lx_nil ?_
      rintro _ rfl _
      go_wp2
      go_ret
      exact ⟨by rw [HV.out]; rfl, rfl⟩
    · have HV : Hid (cn (b :: r) = true) := by show _ = _; rw [HC.out, decide_eq_true hz]
      go_enter Tryd.func14, Tryd.ntmps14
      go_upto_region 1 with (fail)
      refine lx_plain_eq ?_
      simp only [its, Nat.zero_add, Nat.reduceAdd]
      refine lx_vale (by rfl) (.string ⟨(b :: r).toArray⟩) (by rfl) ?_
      simp only [Act.put, List.setIfInBounds_toArray, List.set_cons_succ, List.set_cons_zero]
      refine lx_vale (by rfl) (.bool false) ((fun X => (exec_eqs _ _ _ _ (by rfl) (b :: r) [] (by rfl) (by rfl) X).trans (by rfl)) _) ?_
      simp only [Act.put, List.setIfInBounds_toArray, List.set_cons_succ, List.set_cons_zero]
      refine lx_vale (by rfl) (.bool false) (by rfl) ?_
      simp only [Act.put, List.setIfInBounds_toArray, List.set_cons_succ, List.set_cons_zero]
      refine lx_vale (by rfl) (.string ⟨(b :: r).toArray⟩) (by rfl) ?_
      simp only [Act.put, List.setIfInBounds_toArray, List.set_cons_succ, List.set_cons_zero]
      refine lx_vale (by rfl) (.int .u8 (b.toNat : Int)) (exec_chr _ Tryd.underlying9 _ _ (by rfl) (b :: r) 0 (by rfl) (by rfl) rfl (by rw [List.length_cons]; omega) _) ?_
      simp only [Act.put, List.setIfInBounds_toArray, List.set_cons_succ, List.set_cons_zero]
      refine lx_vale (by rfl) (.bool true) (exec_nei _ _ _ _ (by rfl) .u8 (b.toNat : Int) 0 (by rfl) (by rfl) true (by rw [decide_eq_false (by omega)]; rfl) _) ?_
      simp only [Act.put, List.setIfInBounds_toArray, List.set_cons_succ, List.set_cons_zero]
      refine lx_vale (by rfl) (.bool true) (by rfl) ?_
      simp only [Act.put, List.setIfInBounds_toArray, List.set_cons_succ, List.set_cons_zero]
      refine lx_vale (by rfl) (.bool true) (by rfl) ?_
      simp only [Act.put, List.setIfInBounds_toArray, List.set_cons_succ, List.set_cons_zero]
      refine lx_nil ?_
      rintro _ rfl _
      go_wp2
      go_ret
      exact ⟨by rw [HV.out]; rfl, rfl⟩

set_option maxRecDepth 100000 in
set_option maxHeartbeats 1600000 in
theorem ncmpC (a b : List UInt8) (w : World) (ha : a.length ≤ 4194304) (hb : b.length ≤ 4194304) : Calls Tryd.prog 18 #[.string ⟨a.toArray⟩, .string ⟨b.toArray⟩] w fun e w' => e = .returned (.int .i64 (cmpI (val a) (val b))) ∧ Below w.heap.size w w' := by
  have la := ld_val a
  have lb := ld_val b
  go_enter Tryd.func18, Tryd.ntmps18
  go_upto_region 1 with (fail)
  refine lx_plain [none, some (Lm (val a)), none, some (Lm (val b))] (lasts_none (lasts_some (Dg.lasts _) (lasts_none (lasts_some (Dg.lasts _) (lasts_nil))))) ?_
  simp only [its, Nat.zero_add, Nat.reduceAdd]
  refine lx_val (by rfl) (.string ⟨a.toArray⟩) (fun X _ _ => by rfl) ?_
  simp only [Act.put, List.setIfInBounds_toArray, List.set_cons_succ, List.set_cons_zero]
  refine lx_make (by rfl) 34 _ _ (by rfl) [.string ⟨a.toArray⟩] (by rfl) (fun _ => by go_simp) (fun X hX hF => loadC a X (by omega)) ?_
  intro v6
  simp only [Act.put, List.setIfInBounds_toArray, List.set_cons_succ, List.set_cons_zero]
  refine lx_val (by rfl) (.string ⟨b.toArray⟩) (fun X _ _ => by rfl) ?_
  simp only [Act.put, List.setIfInBounds_toArray, List.set_cons_succ, List.set_cons_zero]
  refine lx_make (by rfl) 34 _ _ (by rfl) [.string ⟨b.toArray⟩] (by rfl) (fun _ => by go_simp) (fun X hX hF => loadC b X (by omega)) ?_
  intro v8
  simp only [Act.put, List.setIfInBounds_toArray, List.set_cons_succ, List.set_cons_zero]
  refine lx_call (by rfl) 35 _ _ (by rfl) (.int .i64 (cmpI (val a) (val b))) [v6, v8] (by rfl) (by kernel_rfl) (fun _ => by go_simp) (fun X hX hF => compareN v6 v8 _ _ X (hF _ _ (List.mem_cons_of_mem _ List.mem_cons_self) rfl) (hF _ _ List.mem_cons_self rfl) (by omega) (by omega)) ?_
  simp only [Act.put, List.setIfInBounds_toArray, List.set_cons_succ, List.set_cons_zero]
  refine lx_val (by rfl) (.int .i64 (cmpI (val a) (val b))) (fun X _ _ => by rfl) ?_
  simp only [Act.put, List.setIfInBounds_toArray, List.set_cons_succ, List.set_cons_zero]
  refine lx_nil ?_
  intro X9 hX9 hF9
  go_wp2
  go_ret
  exact ⟨rfl, hX9⟩

set_option maxRecDepth 100000 in
set_option maxHeartbeats 1600000 in
theorem naddC (a b : List UInt8) (w : World) (ha : a.length ≤ 4194304) (hb : b.length ≤ 4194304) : Calls Tryd.prog 20 #[.string ⟨a.toArray⟩, .string ⟨b.toArray⟩] w fun e w' => e = .returned (.string ⟨(be (val a + val b)).toArray⟩) ∧ Below w.heap.size w w' := by
  have la := ld_val a
  have lb := ld_val b
  have ls := ld_add (x := val a) (y := val b) (m := 4194304) (by omega) (by omega)
  go_enter Tryd.func20, Tryd.ntmps20
  go_upto_region 1 with (fail)
  refine lx_plain [none, some (Lm (val a)), none, some (Lm (val b)), some (Lm (val a + val b))] (lasts_none (lasts_some (Dg.lasts _) (lasts_none (lasts_some (Dg.lasts _) (lasts_some (Dg.lasts _) (lasts_nil)))))) ?_
  simp only [its, Nat.zero_add, Nat.reduceAdd]
  refine lx_val (by rfl) (.string ⟨a.toArray⟩) (fun X _ _ => by rfl) ?_
  simp only [Act.put, List.setIfInBounds_toArray, List.set_cons_succ, List.set_cons_zero]
  refine lx_make (by rfl) 34 _ _ (by rfl) [.string ⟨a.toArray⟩] (by rfl) (fun _ => by go_simp) (fun X hX hF => loadC a X (by omega)) ?_
  intro v6
  simp only [Act.put, List.setIfInBounds_toArray, List.set_cons_succ, List.set_cons_zero]
  refine lx_val (by rfl) (.string ⟨b.toArray⟩) (fun X _ _ => by rfl) ?_
  simp only [Act.put, List.setIfInBounds_toArray, List.set_cons_succ, List.set_cons_zero]
  refine lx_make (by rfl) 34 _ _ (by rfl) [.string ⟨b.toArray⟩] (by rfl) (fun _ => by go_simp) (fun X hX hF => loadC b X (by omega)) ?_
  intro v8
  simp only [Act.put, List.setIfInBounds_toArray, List.set_cons_succ, List.set_cons_zero]
  refine lx_make (by rfl) 42 _ _ (by rfl) [v6, v8] (by rfl) (fun _ => by go_simp) (fun X hX hF => plusC v6 v8 _ _ X (hF _ _ (List.mem_cons_of_mem _ List.mem_cons_self) rfl) (hF _ _ List.mem_cons_self rfl) (by omega) (by omega)) ?_
  intro v9
  simp only [Act.put, List.setIfInBounds_toArray, List.set_cons_succ, List.set_cons_zero]
  refine lx_call (by rfl) 37 _ _ (by rfl) (.string ⟨(be (val a + val b)).toArray⟩) [v9] (by rfl) (by kernel_rfl) (fun _ => by go_simp) (fun X hX hF => textL v9 _ X (hF _ _ List.mem_cons_self rfl) (by omega)) ?_
  simp only [Act.put, List.setIfInBounds_toArray, List.set_cons_succ, List.set_cons_zero]
  refine lx_val (by rfl) (.string ⟨(be (val a + val b)).toArray⟩) (fun X _ _ => by rfl) ?_
  simp only [Act.put, List.setIfInBounds_toArray, List.set_cons_succ, List.set_cons_zero]
  refine lx_nil ?_
  intro X9 hX9 hF9
  go_wp2
  go_ret
  exact ⟨rfl, hX9⟩

set_option maxRecDepth 100000 in
set_option maxHeartbeats 1600000 in
theorem nmulC (a b : List UInt8) (w : World) (ha : a.length ≤ 4194304) (hb : b.length ≤ 4194304) : Calls Tryd.prog 22 #[.string ⟨a.toArray⟩, .string ⟨b.toArray⟩] w fun e w' => e = .returned (.string ⟨(be (val a * val b)).toArray⟩) ∧ Below w.heap.size w w' := by
  have la := ld_val a
  have lb := ld_val b
  have ls := ld_mul (val a) (val b)
  go_enter Tryd.func22, Tryd.ntmps22
  go_upto_region 1 with (fail)
  refine lx_plain [none, some (Lm (val a)), none, some (Lm (val b)), some (Lm (val a * val b))] (lasts_none (lasts_some (Dg.lasts _) (lasts_none (lasts_some (Dg.lasts _) (lasts_some (Dg.lasts _) (lasts_nil)))))) ?_
  simp only [its, Nat.zero_add, Nat.reduceAdd]
  refine lx_val (by rfl) (.string ⟨a.toArray⟩) (fun X _ _ => by rfl) ?_
  simp only [Act.put, List.setIfInBounds_toArray, List.set_cons_succ, List.set_cons_zero]
  refine lx_make (by rfl) 34 _ _ (by rfl) [.string ⟨a.toArray⟩] (by rfl) (fun _ => by go_simp) (fun X hX hF => loadC a X (by omega)) ?_
  intro v6
  simp only [Act.put, List.setIfInBounds_toArray, List.set_cons_succ, List.set_cons_zero]
  refine lx_val (by rfl) (.string ⟨b.toArray⟩) (fun X _ _ => by rfl) ?_
  simp only [Act.put, List.setIfInBounds_toArray, List.set_cons_succ, List.set_cons_zero]
  refine lx_make (by rfl) 34 _ _ (by rfl) [.string ⟨b.toArray⟩] (by rfl) (fun _ => by go_simp) (fun X hX hF => loadC b X (by omega)) ?_
  intro v8
  simp only [Act.put, List.setIfInBounds_toArray, List.set_cons_succ, List.set_cons_zero]
  refine lx_make (by rfl) 43 _ _ (by rfl) [v6, v8] (by rfl) (fun _ => by go_simp) (fun X hX hF => timesC v6 v8 _ _ X (hF _ _ (List.mem_cons_of_mem _ List.mem_cons_self) rfl) (hF _ _ List.mem_cons_self rfl) (by omega) (by omega)) ?_
  intro v9
  simp only [Act.put, List.setIfInBounds_toArray, List.set_cons_succ, List.set_cons_zero]
  refine lx_call (by rfl) 37 _ _ (by rfl) (.string ⟨(be (val a * val b)).toArray⟩) [v9] (by rfl) (by kernel_rfl) (fun _ => by go_simp) (fun X hX hF => textL v9 _ X (hF _ _ List.mem_cons_self rfl) (by omega)) ?_
  simp only [Act.put, List.setIfInBounds_toArray, List.set_cons_succ, List.set_cons_zero]
  refine lx_val (by rfl) (.string ⟨(be (val a * val b)).toArray⟩) (fun X _ _ => by rfl) ?_
  simp only [Act.put, List.setIfInBounds_toArray, List.set_cons_succ, List.set_cons_zero]
  refine lx_nil ?_
  intro X9 hX9 hF9
  go_wp2
  go_ret
  exact ⟨rfl, hX9⟩

set_option maxRecDepth 100000 in
set_option maxHeartbeats 1600000 in
theorem nsubE (a b : List UInt8) (w : World) (ha : a.length ≤ 4194304) (hb : b.length ≤ 4194304) (hlt : val a < val b) : Calls Tryd.prog 10 #[.string ⟨a.toArray⟩, .string ⟨b.toArray⟩] w fun e w' => e = .returned (.tuple #[.string ⟨#[]⟩, .int .i64 3]) ∧ Below w.heap.size w w' := by
  have la := ld_val a
  have lb := ld_val b
  go_enter Tryd.func10, Tryd.ntmps10
  go_upto_region 1 with (fail)
  refine lx_plain [none, some (Lm (val a)), none, some (Lm (val b))] (lasts_none (lasts_some (Dg.lasts _) (lasts_none (lasts_some (Dg.lasts _) (lasts_nil))))) ?_
  simp only [its, Nat.zero_add, Nat.reduceAdd]
  refine lx_val (by rfl) (.string ⟨a.toArray⟩) (fun X _ _ => by rfl) ?_
  simp only [Act.put, List.setIfInBounds_toArray, List.set_cons_succ, List.set_cons_zero]
  refine lx_make (by rfl) 34 _ _ (by rfl) [.string ⟨a.toArray⟩] (by rfl) (fun _ => by go_simp) (fun X hX hF => loadC a X (by omega)) ?_
  intro v9
  simp only [Act.put, List.setIfInBounds_toArray, List.set_cons_succ, List.set_cons_zero]
  refine lx_val (by rfl) (.string ⟨b.toArray⟩) (fun X _ _ => by rfl) ?_
  simp only [Act.put, List.setIfInBounds_toArray, List.set_cons_succ, List.set_cons_zero]
  refine lx_make (by rfl) 34 _ _ (by rfl) [.string ⟨b.toArray⟩] (by rfl) (fun _ => by go_simp) (fun X hX hF => loadC b X (by omega)) ?_
  intro v11
  simp only [Act.put, List.setIfInBounds_toArray, List.set_cons_succ, List.set_cons_zero]
  refine lx_val (by rfl) (v9) (fun X _ _ => by rfl) ?_
  simp only [Act.put, List.setIfInBounds_toArray, List.set_cons_succ, List.set_cons_zero]
  refine lx_val (by rfl) (v11) (fun X _ _ => by rfl) ?_
  simp only [Act.put, List.setIfInBounds_toArray, List.set_cons_succ, List.set_cons_zero]
  refine lx_nil ?_
  intro X9 hX9 hF9
  have hA := hF9 _ _ (List.mem_cons_of_mem _ List.mem_cons_self)
  have hB := hF9 _ _ List.mem_cons_self
  go_upto_region 2 with (fail)
  refine lx_plain_to 3 [] lasts_nil ?_
  simp only [its, List.take, List.drop, Nat.zero_add, Nat.reduceAdd]
  refine lx_val (by rfl) (v9) (fun X _ _ => by rfl) ?_
  simp only [Act.put, List.setIfInBounds_toArray, List.set_cons_succ, List.set_cons_zero]
  refine lx_val (by rfl) (v11) (fun X _ _ => by rfl) ?_
  simp only [Act.put, List.setIfInBounds_toArray, List.set_cons_succ, List.set_cons_zero]
  refine lx_call (by rfl) 35 _ _ (by rfl) (.int .i64 (cmpI (val a) (val b))) [v9, v11] (by rfl) (by kernel_rfl) (fun _ => by go_simp) (fun X hX hF => compareN v9 v11 _ _ X (hA.bel hX) (hB.bel hX) (by omega) (by omega)) ?_
  simp only [Act.put, List.setIfInBounds_toArray, List.set_cons_succ, List.set_cons_zero]
  refine lx_nil ?_
  intro X8 hX8 _
  have hA := hA.bel hX8
  have hB := hB.bel hX8
  have hX9 := Since.next hX9 hX8
  rw [cmpI_lt (show ((val a : Nat) : Int) < ((val b : Nat) : Int) by omega)]
  go_wp2
  go_ret2
  exact ⟨rfl, hX9⟩

set_option maxRecDepth 100000 in
set_option maxHeartbeats 1600000 in
theorem nsubC (a b : List UInt8) (w : World) (ha : a.length ≤ 4194304) (hb : b.length ≤ 4194304) (hle : val b ≤ val a) : Calls Tryd.prog 10 #[.string ⟨a.toArray⟩, .string ⟨b.toArray⟩] w fun e w' => e = .returned (.tuple #[.string ⟨(be (val a - val b)).toArray⟩, .int .i64 0]) ∧ Below w.heap.size w w' := by
  have la := ld_val a
  have lb := ld_val b
  have ls := ld_le (Nat.sub_le (val a) (val b))
  go_enter Tryd.func10, Tryd.ntmps10
  go_upto_region 1 with (fail)
  refine lx_plain [none, some (Lm (val a)), none, some (Lm (val b))] (lasts_none (lasts_some (Dg.lasts _) (lasts_none (lasts_some (Dg.lasts _) (lasts_nil))))) ?_
  simp only [its, Nat.zero_add, Nat.reduceAdd]
  refine lx_val (by rfl) (.string ⟨a.toArray⟩) (fun X _ _ => by rfl) ?_
  simp only [Act.put, List.setIfInBounds_toArray, List.set_cons_succ, List.set_cons_zero]
  refine lx_make (by rfl) 34 _ _ (by rfl) [.string ⟨a.toArray⟩] (by rfl) (fun _ => by go_simp) (fun X hX hF => loadC a X (by omega)) ?_
  intro v9
  simp only [Act.put, List.setIfInBounds_toArray, List.set_cons_succ, List.set_cons_zero]
  refine lx_val (by rfl) (.string ⟨b.toArray⟩) (fun X _ _ => by rfl) ?_
  simp only [Act.put, List.setIfInBounds_toArray, List.set_cons_succ, List.set_cons_zero]
  refine lx_make (by rfl) 34 _ _ (by rfl) [.string ⟨b.toArray⟩] (by rfl) (fun _ => by go_simp) (fun X hX hF => loadC b X (by omega)) ?_
  intro v11
  simp only [Act.put, List.setIfInBounds_toArray, List.set_cons_succ, List.set_cons_zero]
  refine lx_val (by rfl) (v9) (fun X _ _ => by rfl) ?_
  simp only [Act.put, List.setIfInBounds_toArray, List.set_cons_succ, List.set_cons_zero]
  refine lx_val (by rfl) (v11) (fun X _ _ => by rfl) ?_
  simp only [Act.put, List.setIfInBounds_toArray, List.set_cons_succ, List.set_cons_zero]
  refine lx_nil ?_
  intro X9 hX9 hF9
  have hA := hF9 _ _ (List.mem_cons_of_mem _ List.mem_cons_self)
  have hB := hF9 _ _ List.mem_cons_self
  go_upto_region 2 with (fail)
  refine lx_plain_to 3 [] lasts_nil ?_
  simp only [its, List.take, List.drop, Nat.zero_add, Nat.reduceAdd]
  refine lx_val (by rfl) (v9) (fun X _ _ => by rfl) ?_
  simp only [Act.put, List.setIfInBounds_toArray, List.set_cons_succ, List.set_cons_zero]
  refine lx_val (by rfl) (v11) (fun X _ _ => by rfl) ?_
  simp only [Act.put, List.setIfInBounds_toArray, List.set_cons_succ, List.set_cons_zero]
  refine lx_call (by rfl) 35 _ _ (by rfl) (.int .i64 (cmpI (val a) (val b))) [v9, v11] (by rfl) (by kernel_rfl) (fun _ => by go_simp) (fun X hX hF => compareN v9 v11 _ _ X (hA.bel hX) (hB.bel hX) (by omega) (by omega)) ?_
  simp only [Act.put, List.setIfInBounds_toArray, List.set_cons_succ, List.set_cons_zero]
  refine lx_nil ?_
  intro X8 hX8 _
  have hA := hA.bel hX8
  have hB := hB.bel hX8
  have hX9 := Since.next hX9 hX8
  have hcmp : 0 ≤ cmpI ((val a : Nat) : Int) ((val b : Nat) : Int) := by unfold cmpI; rw [if_neg (by omega)]; split <;> omega
  generalize cmpI ((val a : Nat) : Int) ((val b : Nat) : Int) = cc at hcmp ⊢
  go_upto_region 4 with (fail)
  refine lx_plain [none, none, some (Lm (val a - val b))] (lasts_none (lasts_none (lasts_some (Dg.lasts _) (lasts_nil)))) ?_
  simp only [its, Nat.zero_add, Nat.reduceAdd]
  refine lx_val (by rfl) (v9) (fun X _ _ => by rfl) ?_
  simp only [Act.put, List.setIfInBounds_toArray, List.set_cons_succ, List.set_cons_zero]
  refine lx_val (by rfl) (v11) (fun X _ _ => by rfl) ?_
  simp only [Act.put, List.setIfInBounds_toArray, List.set_cons_succ, List.set_cons_zero]
  refine lx_make (by rfl) 36 _ _ (by rfl) [v9, v11] (by rfl) (fun _ => by go_simp) (fun X hX hF => minusC v9 v11 _ _ X (hA.bel hX) (hB.bel hX) (by omega) hle) ?_
  intro v18
  simp only [Act.put, List.setIfInBounds_toArray, List.set_cons_succ, List.set_cons_zero]
  refine lx_call (by rfl) 37 _ _ (by rfl) (.string ⟨(be (val a - val b)).toArray⟩) [v18] (by rfl) (by kernel_rfl) (fun _ => by go_simp) (fun X hX hF => textL v18 _ X (hF _ _ List.mem_cons_self rfl) (by omega)) ?_
  simp only [Act.put, List.setIfInBounds_toArray, List.set_cons_succ, List.set_cons_zero]
  refine lx_val (by rfl) (.string ⟨(be (val a - val b)).toArray⟩) (fun X _ _ => by rfl) ?_
  simp only [Act.put, List.setIfInBounds_toArray, List.set_cons_succ, List.set_cons_zero]
  refine lx_val (by rfl) (.int .i64 0) (fun X _ _ => by rfl) ?_
  simp only [Act.put, List.setIfInBounds_toArray, List.set_cons_succ, List.set_cons_zero]
  refine lx_nil ?_
  intro X7 hX7 _
  have hX9 := Since.next hX9 hX7
  go_wp2
  go_ret2
  exact ⟨rfl, hX9⟩

end Go.Proofs.YtglnabciomlmmaaDoor
