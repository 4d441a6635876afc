/-
  Value; Gcd.
-/
import Derived.Test.YtglnabciomlmmaaDoorNbd
namespace Go.Proofs.YtglnabciomlmmaaDoor
open Go.RowKit

theorem atN (v : Value) (x0 k : Nat) (w : World) (hr : Lm x0 v w) :
    Calls Tryd.prog 46 #[v, .int .i64 (k : Int)] w fun e w' => e = .returned (.int .u64 (((ld x0).getD k 0).toNat : Int)) ∧ Since w w' := by
  obtain ⟨A, c, rfl, h⟩ := hr
  exact (atC A _ c _ k w h).mono fun e w' ⟨h1, h2⟩ => ⟨h1, since_eq h2⟩
theorem ld2 {x : Nat} (h : (ld x).length ≤ 2) : x = ((ld x).getD 0 0).toNat + 4294967296 * ((ld x).getD 1 0).toNat := by
  have h1 := lw_ld x
  generalize ld x = l at h h1 ⊢
  match l, h with
  | [], _ => rw [← h1]; rfl
  | [a], _ => rw [← h1, lw_one]; simp
  | [a, b], _ => rw [← h1, lw_cons, lw_one]; rfl
  | a :: b :: c :: r, h => simp only [List.length_cons] at h; omega
set_option maxRecDepth 100000 in
set_option maxHeartbeats 1600000 in
theorem nvalL (a : List UInt8) (w : World) (ha : a.length ≤ 4194304) (hv : 18446744073709551616 ≤ val a) : Calls Tryd.prog 27 #[.string ⟨a.toArray⟩] w fun e w' => e = .returned (.tuple #[.int .i64 0, .int .i64 3]) ∧ Below w.heap.size w w' := by
  have la := ld_val a
  have hl : 2 < (ld (val a)).length := le_ld_len (Nat.le_trans (by decide) hv)
  clear hv
  go_enter Tryd.func27, Tryd.ntmps27
  go_upto_region 1 with (fail)
  refine lx_plain [none, some (Lm (val a))] (lasts_none (lasts_some (Dg.lasts _) (lasts_nil))) ?_
  simp only [its, Nat.zero_add, Nat.reduceAdd]
  refine lx_val (by rfl) (.string ⟨a.toArray⟩) (fun X hX hF => by rfl) ?_
  simp only [Act.put, List.setIfInBounds_toArray, List.set_cons_succ, List.set_cons_zero]
  refine lx_make (by rfl) 34 _ _ (by rfl) [.string ⟨a.toArray⟩] (by rfl) (fun _ => by go_simp) (fun X hX hF => loadC a X (by omega)) ?_
  intro v6
  simp only [Act.put, List.setIfInBounds_toArray, List.set_cons_succ, List.set_cons_zero]
  refine lx_val (by rfl) (v6) (fun X hX hF => by rfl) ?_
  simp only [Act.put, List.setIfInBounds_toArray, List.set_cons_succ, List.set_cons_zero]
  refine lx_nil ?_
  intro X1 hX1 hF
  have hv6 := hF _ _ List.mem_cons_self
  have hb : Below w.heap.size w X1 := hX1
  clear hF hX1
  go_upto_region 2 with (fail)
  refine lx_plain [] (lasts_nil) ?_
  simp only [its, Nat.zero_add, Nat.reduceAdd]
  refine lx_val (by rfl) (v6) (fun X hX hF => by rfl) ?_
  simp only [Act.put, List.setIfInBounds_toArray, List.set_cons_succ, List.set_cons_zero]
  refine lx_val (by rfl) (.int .i64 ((ld (val a)).length : Int)) (fun X hX hF => by obtain ⟨A9, c9, h9, _⟩ := ((Dg.lasts _) _ _ _ hv6 hX); subst h9; exact exec_lenv Tryd.underlying51 _ (by rfl) A9 _ c9 (by rfl) _ rfl X) ?_
  simp only [Act.put, List.setIfInBounds_toArray, List.set_cons_succ, List.set_cons_zero]
  refine lx_val (by rfl) (.bool true) (fun X hX hF => exec_gtr _ _ _ _ (by rfl) .i64 ((ld (val a)).length : Int) 2 (by rfl) (by rfl) true (decide_eq_true (by omega)) X) ?_
  simp only [Act.put, List.setIfInBounds_toArray, List.set_cons_succ, List.set_cons_zero]
  refine lx_val (by rfl) (.bool true) (fun X hX hF => by rfl) ?_
  simp only [Act.put, List.setIfInBounds_toArray, List.set_cons_succ, List.set_cons_zero]
  refine lx_skip (by rfl) ?_
  simp only [Act.put, List.setIfInBounds_toArray, List.set_cons_succ, List.set_cons_zero]
  refine lx_skip (by rfl) ?_
  simp only [Act.put, List.setIfInBounds_toArray, List.set_cons_succ, List.set_cons_zero]
  refine lx_skip (by rfl) ?_
  simp only [Act.put, List.setIfInBounds_toArray, List.set_cons_succ, List.set_cons_zero]
  refine lx_skip (by rfl) ?_
  simp only [Act.put, List.setIfInBounds_toArray, List.set_cons_succ, List.set_cons_zero]
  refine lx_val (by rfl) (.bool true) (fun X hX hF => by rfl) ?_
  simp only [Act.put, List.setIfInBounds_toArray, List.set_cons_succ, List.set_cons_zero]
  refine lx_nil ?_
  intro X2 hX2 hF
  have hv6 := (Dg.lasts _) _ _ _ hv6 hX2
  have hb := bel_next hb hX2
  clear hF hX2
  go_wp2
  go_ret2
  exact ⟨rfl, hb⟩

set_option maxRecDepth 100000 in
set_option maxHeartbeats 1600000 in
theorem nvalB (a : List UInt8) (w : World) (ha : a.length ≤ 4194304) (hv : val a < 18446744073709551616) (hge : 9223372036854775808 ≤ val a) : Calls Tryd.prog 27 #[.string ⟨a.toArray⟩] w fun e w' => e = .returned (.tuple #[.int .i64 0, .int .i64 3]) ∧ Below w.heap.size w w' := by
  have la := ld_val a
  obtain ⟨p0, hp0⟩ : ∃ p0, p0 = ((ld (val a)).getD 0 0).toNat := ⟨_, rfl⟩
  obtain ⟨p1, hp1⟩ : ∃ p1, p1 = ((ld (val a)).getD 1 0).toNat := ⟨_, rfl⟩
  have b0 : p0 < 4294967296 := hp0 ▸ u32_lt _
  have b1 : p1 < 4294967296 := hp1 ▸ u32_lt _
  have h2 : (ld (val a)).length ≤ 2 := ld_len (Nat.lt_of_lt_of_le hv (by decide))
  have hv2 := ld2 h2
  rw [← hp0, ← hp1] at hv2
  have HP0 := Lib.hid hp0
  have HP1 := Lib.hid hp1
  have hp31 : 2147483648 ≤ p1 := by omega
  clear hp0 hp1 hv2 hv hge
  go_enter Tryd.func27, Tryd.ntmps27
  go_upto_region 1 with (fail)
  refine lx_plain [none, some (Lm (val a))] (lasts_none (lasts_some (Dg.lasts _) (lasts_nil))) ?_
  simp only [its, Nat.zero_add, Nat.reduceAdd]
  refine lx_val (by rfl) (.string ⟨a.toArray⟩) (fun X hX hF => by rfl) ?_
  simp only [Act.put, List.setIfInBounds_toArray, List.set_cons_succ, List.set_cons_zero]
  refine lx_make (by rfl) 34 _ _ (by rfl) [.string ⟨a.toArray⟩] (by rfl) (fun _ => by go_simp) (fun X hX hF => loadC a X (by omega)) ?_
  intro v6
  simp only [Act.put, List.setIfInBounds_toArray, List.set_cons_succ, List.set_cons_zero]
  refine lx_val (by rfl) (v6) (fun X hX hF => by rfl) ?_
  simp only [Act.put, List.setIfInBounds_toArray, List.set_cons_succ, List.set_cons_zero]
  refine lx_nil ?_
  intro X1 hX1 hF
  have hv6 := hF _ _ List.mem_cons_self
  have hb : Below w.heap.size w X1 := hX1
  clear hF hX1
  go_upto_region 2 with (fail)
  refine lx_plain [] (lasts_nil) ?_
  simp only [its, Nat.zero_add, Nat.reduceAdd]
  refine lx_val (by rfl) (v6) (fun X hX hF => by rfl) ?_
  simp only [Act.put, List.setIfInBounds_toArray, List.set_cons_succ, List.set_cons_zero]
  refine lx_val (by rfl) (.int .i64 ((ld (val a)).length : Int)) (fun X hX hF => by obtain ⟨A9, c9, h9, _⟩ := ((Dg.lasts _) _ _ _ hv6 hX); subst h9; exact exec_lenv Tryd.underlying51 _ (by rfl) A9 _ c9 (by rfl) _ rfl X) ?_
  simp only [Act.put, List.setIfInBounds_toArray, List.set_cons_succ, List.set_cons_zero]
  refine lx_val (by rfl) (.bool false) (fun X hX hF => exec_gtr _ _ _ _ (by rfl) .i64 ((ld (val a)).length : Int) 2 (by rfl) (by rfl) false (decide_eq_false (by omega)) X) ?_
  simp only [Act.put, List.setIfInBounds_toArray, List.set_cons_succ, List.set_cons_zero]
  refine lx_val (by rfl) (.bool false) (fun X hX hF => by rfl) ?_
  simp only [Act.put, List.setIfInBounds_toArray, List.set_cons_succ, List.set_cons_zero]
  refine lx_val (by rfl) (v6) (fun X hX hF => by rfl) ?_
  simp only [Act.put, List.setIfInBounds_toArray, List.set_cons_succ, List.set_cons_zero]
  refine lx_call (by rfl) 46 _ _ (by rfl) (.int .u64 (p1 : Int)) [v6, .int .i64 1] (by rfl) (by kernel_rfl) (fun _ => by go_simp) (fun X hX hF => (atN v6 _ 1 X ((Dg.lasts _) _ _ _ hv6 hX)).mono fun e X' ⟨h1, h2⟩ => ⟨by rw [h1, ← HP1.out], h2⟩) ?_
  simp only [Act.put, List.setIfInBounds_toArray, List.set_cons_succ, List.set_cons_zero]
  refine lx_val (by rfl) (.int .u64 ((p1 / 2147483648 : Nat) : Int)) (fun X hX hF => exec_shr _ _ _ _ (by rfl) .u64 .u64 (p1 : Int) ((p1 / 2147483648 : Nat) : Int) 31 (by rfl) (by rfl) rfl (by decide) (by omega) X) ?_
  simp only [Act.put, List.setIfInBounds_toArray, List.set_cons_succ, List.set_cons_zero]
  refine lx_val (by rfl) (.bool true) (fun X hX hF => exec_gtr _ _ _ _ (by rfl) .u64 ((p1 / 2147483648 : Nat) : Int) 0 (by rfl) (by rfl) true (decide_eq_true (by omega)) X) ?_
  simp only [Act.put, List.setIfInBounds_toArray, List.set_cons_succ, List.set_cons_zero]
  refine lx_val (by rfl) (.bool true) (fun X hX hF => by rfl) ?_
  simp only [Act.put, List.setIfInBounds_toArray, List.set_cons_succ, List.set_cons_zero]
  refine lx_nil ?_
  intro X2 hX2 hF
  have hv6 := (Dg.lasts _) _ _ _ hv6 hX2
  have hb := bel_next hb hX2
  clear hF hX2
  go_wp2
  go_ret2
  exact ⟨rfl, hb⟩

set_option maxRecDepth 100000 in
set_option maxHeartbeats 1600000 in
theorem nvalC (a : List UInt8) (w : World) (ha : a.length ≤ 4194304) (hlt : val a < 9223372036854775808) : Calls Tryd.prog 27 #[.string ⟨a.toArray⟩] w fun e w' => e = .returned (.tuple #[.int .i64 (val a : Int), .int .i64 0]) ∧ Below w.heap.size w w' := by
  have la := ld_val a
  have hv : val a < 18446744073709551616 := by omega
  obtain ⟨p0, hp0⟩ : ∃ p0, p0 = ((ld (val a)).getD 0 0).toNat := ⟨_, rfl⟩
  obtain ⟨p1, hp1⟩ : ∃ p1, p1 = ((ld (val a)).getD 1 0).toNat := ⟨_, rfl⟩
  have b0 : p0 < 4294967296 := hp0 ▸ u32_lt _
  have b1 : p1 < 4294967296 := hp1 ▸ u32_lt _
  have h2 : (ld (val a)).length ≤ 2 := ld_len (Nat.lt_of_lt_of_le hv (by decide))
  have hv2 := ld2 h2
  rw [← hp0, ← hp1] at hv2
  have HP0 := Lib.hid hp0
  have HP1 := Lib.hid hp1
  have hp31 : p1 < 2147483648 := by omega
  have hvv : p1 * 2 ^ 32 + p0 = val a := by omega
  have HV : Hid (p1 * 2 ^ 32 + p0 = val a) := hvv
  clear hp0 hp1 hv2 hv hlt hvv
  go_enter Tryd.func27, Tryd.ntmps27
  go_upto_region 1 with (fail)
  refine lx_plain [none, some (Lm (val a))] (lasts_none (lasts_some (Dg.lasts _) (lasts_nil))) ?_
  simp only [its, Nat.zero_add, Nat.reduceAdd]
  refine lx_val (by rfl) (.string ⟨a.toArray⟩) (fun X hX hF => by rfl) ?_
  simp only [Act.put, List.setIfInBounds_toArray, List.set_cons_succ, List.set_cons_zero]
  refine lx_make (by rfl) 34 _ _ (by rfl) [.string ⟨a.toArray⟩] (by rfl) (fun _ => by go_simp) (fun X hX hF => loadC a X (by omega)) ?_
  intro v6
  simp only [Act.put, List.setIfInBounds_toArray, List.set_cons_succ, List.set_cons_zero]
  refine lx_val (by rfl) (v6) (fun X hX hF => by rfl) ?_
  simp only [Act.put, List.setIfInBounds_toArray, List.set_cons_succ, List.set_cons_zero]
  refine lx_nil ?_
  intro X1 hX1 hF
  have hv6 := hF _ _ List.mem_cons_self
  have hb : Below w.heap.size w X1 := hX1
  clear hF hX1
  go_upto_region 2 with (fail)
  refine lx_plain [] (lasts_nil) ?_
  simp only [its, Nat.zero_add, Nat.reduceAdd]
  refine lx_val (by rfl) (v6) (fun X hX hF => by rfl) ?_
  simp only [Act.put, List.setIfInBounds_toArray, List.set_cons_succ, List.set_cons_zero]
  refine lx_val (by rfl) (.int .i64 ((ld (val a)).length : Int)) (fun X hX hF => by obtain ⟨A9, c9, h9, _⟩ := ((Dg.lasts _) _ _ _ hv6 hX); subst h9; exact exec_lenv Tryd.underlying51 _ (by rfl) A9 _ c9 (by rfl) _ rfl X) ?_
  simp only [Act.put, List.setIfInBounds_toArray, List.set_cons_succ, List.set_cons_zero]
  refine lx_val (by rfl) (.bool false) (fun X hX hF => exec_gtr _ _ _ _ (by rfl) .i64 ((ld (val a)).length : Int) 2 (by rfl) (by rfl) false (decide_eq_false (by omega)) X) ?_
  simp only [Act.put, List.setIfInBounds_toArray, List.set_cons_succ, List.set_cons_zero]
  refine lx_val (by rfl) (.bool false) (fun X hX hF => by rfl) ?_
  simp only [Act.put, List.setIfInBounds_toArray, List.set_cons_succ, List.set_cons_zero]
  refine lx_val (by rfl) (v6) (fun X hX hF => by rfl) ?_
  simp only [Act.put, List.setIfInBounds_toArray, List.set_cons_succ, List.set_cons_zero]
  refine lx_call (by rfl) 46 _ _ (by rfl) (.int .u64 (p1 : Int)) [v6, .int .i64 1] (by rfl) (by kernel_rfl) (fun _ => by go_simp) (fun X hX hF => (atN v6 _ 1 X ((Dg.lasts _) _ _ _ hv6 hX)).mono fun e X' ⟨h1, h2⟩ => ⟨by rw [h1, ← HP1.out], h2⟩) ?_
  simp only [Act.put, List.setIfInBounds_toArray, List.set_cons_succ, List.set_cons_zero]
  refine lx_val (by rfl) (.int .u64 ((p1 / 2147483648 : Nat) : Int)) (fun X hX hF => exec_shr _ _ _ _ (by rfl) .u64 .u64 (p1 : Int) ((p1 / 2147483648 : Nat) : Int) 31 (by rfl) (by rfl) rfl (by decide) (by omega) X) ?_
  simp only [Act.put, List.setIfInBounds_toArray, List.set_cons_succ, List.set_cons_zero]
  refine lx_val (by rfl) (.bool false) (fun X hX hF => exec_gtr _ _ _ _ (by rfl) .u64 ((p1 / 2147483648 : Nat) : Int) 0 (by rfl) (by rfl) false (decide_eq_false (by omega)) X) ?_
  simp only [Act.put, List.setIfInBounds_toArray, List.set_cons_succ, List.set_cons_zero]
  refine lx_val (by rfl) (.bool false) (fun X hX hF => by rfl) ?_
  simp only [Act.put, List.setIfInBounds_toArray, List.set_cons_succ, List.set_cons_zero]
  refine lx_nil ?_
  intro X2 hX2 hF
  have hv6 := (Dg.lasts _) _ _ _ hv6 hX2
  have hb := bel_next hb hX2
  clear hF hX2
  go_upto_region 4 with (fail)
  refine lx_plain [] (lasts_nil) ?_
  simp only [its, Nat.zero_add, Nat.reduceAdd]
  refine lx_val (by rfl) (v6) (fun X hX hF => by rfl) ?_
  simp only [Act.put, List.setIfInBounds_toArray, List.set_cons_succ, List.set_cons_zero]
  refine lx_call (by rfl) 46 _ _ (by rfl) (.int .u64 (p1 : Int)) [v6, .int .i64 1] (by rfl) (by kernel_rfl) (fun _ => by go_simp) (fun X hX hF => (atN v6 _ 1 X ((Dg.lasts _) _ _ _ hv6 hX)).mono fun e X' ⟨h1, h2⟩ => ⟨by rw [h1, ← HP1.out], h2⟩) ?_
  simp only [Act.put, List.setIfInBounds_toArray, List.set_cons_succ, List.set_cons_zero]
  refine lx_val (by rfl) (.int .u64 ((p1 * 2 ^ 32 : Nat) : Int)) (fun X hX hF => exec_shl _ _ _ _ (by rfl) .u64 .u64 (p1 : Int) ((p1 * 2 ^ 32 : Nat) : Int) 32 (by rfl) (by rfl) rfl (by decide) (by rw [w64 (by omega) (by omega)]; omega) X) ?_
  simp only [Act.put, List.setIfInBounds_toArray, List.set_cons_succ, List.set_cons_zero]
  refine lx_val (by rfl) (v6) (fun X hX hF => by rfl) ?_
  simp only [Act.put, List.setIfInBounds_toArray, List.set_cons_succ, List.set_cons_zero]
  refine lx_call (by rfl) 46 _ _ (by rfl) (.int .u64 (p0 : Int)) [v6, .int .i64 0] (by rfl) (by kernel_rfl) (fun _ => by go_simp) (fun X hX hF => (atN v6 _ 0 X ((Dg.lasts _) _ _ _ hv6 hX)).mono fun e X' ⟨h1, h2⟩ => ⟨by rw [h1, ← HP0.out], h2⟩) ?_
  simp only [Act.put, List.setIfInBounds_toArray, List.set_cons_succ, List.set_cons_zero]
  refine lx_val (by rfl) (.int .u64 ((p1 * 2 ^ 32 + p0 : Nat) : Int)) (fun X hX hF => exec_or _ _ _ _ (by rfl) .u64 ((p1 * 2 ^ 32 : Nat) : Int) (p0 : Int) ((p1 * 2 ^ 32 + p0 : Nat) : Int) (by rfl) (by rfl) (or64 p1 p0 32 (by omega) (by omega)) X) ?_
  simp only [Act.put, List.setIfInBounds_toArray, List.set_cons_succ, List.set_cons_zero]
  refine lx_val (by rfl) (.int .i64 ((p1 * 2 ^ 32 + p0 : Nat) : Int)) (fun X hX hF => exec_cnv _ _ .u64 .i64 Tryd.underlying66 Tryd.underlying3 _ (by rfl) ((p1 * 2 ^ 32 + p0 : Nat) : Int) ((p1 * 2 ^ 32 + p0 : Nat) : Int) (by rfl) (by rw [IntWalk.i64_in _ (by omega)]) X) ?_
  simp only [Act.put, List.setIfInBounds_toArray, List.set_cons_succ, List.set_cons_zero]
  refine lx_val (by rfl) (.int .i64 ((p1 * 2 ^ 32 + p0 : Nat) : Int)) (fun X hX hF => by rfl) ?_
  simp only [Act.put, List.setIfInBounds_toArray, List.set_cons_succ, List.set_cons_zero]
  refine lx_val (by rfl) (.int .i64 0) (fun X hX hF => by rfl) ?_
  simp only [Act.put, List.setIfInBounds_toArray, List.set_cons_succ, List.set_cons_zero]
  refine lx_nil ?_
  intro X3 hX3 hF
  have hv6 := (Dg.lasts _) _ _ _ hv6 hX3
  have hb := bel_next hb hX3
  clear hF hX3
  rw [HV.out]
  go_wp2
  go_ret2
  exact ⟨rfl, hb⟩

theorem nvalE (a : List UInt8) (w : World) (ha : a.length ≤ 4194304) (hv : 9223372036854775808 ≤ val a) : Calls Tryd.prog 27 #[.string ⟨a.toArray⟩] w fun e w' => e = .returned (.tuple #[.int .i64 0, .int .i64 3]) ∧ Below w.heap.size w w' := by
  rcases Nat.lt_or_ge (val a) 18446744073709551616 with h | h
  · exact nvalB a w ha h hv
  · exact nvalL a w ha h

theorem load_f (b k : Nat) (X : World) (v : Value) (h : X.cell? ⟨b, k, none⟩ = some v) : (loadVar 62 ⟨b, k, none⟩).run Tryd.prog X = .ok v X := by
  go_simp
set_option maxRecDepth 100000 in
set_option maxHeartbeats 1600000 in
theorem euclidC (g : Nat) (y0 : Nat) : ∀ (v v' : Value) (x0 : Nat) (w : World), Lm x0 v w → Lm y0 v' w → (ld x0).length ≤ 8388608 → (ld y0).length ≤ 8388608 → g < w.heap.size → w.cell? ⟨g, 0, none⟩ = some (.func (.func 44) #[] #[.pointer (some ⟨g, 0, none⟩)]) →
    Calls Tryd.prog 44 #[v, v', .pointer (some ⟨g, 0, none⟩)] w fun e w' => ∃ u, e = .returned u ∧ Lm (Nat.gcd x0 y0) u w' ∧ Since w w' := by
  induction y0 using Nat.strongRecOn with
  | _ y0 ih =>
  intro v v' x0 w hr hr' hx hy hg hc
  have ih := Lib.hid ih
  rcases Nat.eq_zero_or_pos y0 with h0 | h0
  · have l0 := ld_none h0
    have HG : Hid (Nat.gcd x0 y0 = x0) := by show _ = _; rw [h0, Nat.gcd_zero_right]
    clear h0 hc ih
    rw [HG.out]
    go_enter Tryd.func44, Tryd.ntmps44
    go_upto_region 1 with (fail)
    refine lx_plain [] (lasts_nil) ?_
    simp only [its, Nat.zero_add, Nat.reduceAdd]
    refine lx_val (by rfl) (v') (fun X hX hF => by rfl) ?_
    simp only [Act.put, List.setIfInBounds_toArray, List.set_cons_succ, List.set_cons_zero]
    refine lx_val (by rfl) (.int .i64 ((ld y0).length : Int)) (fun X hX hF => by obtain ⟨A9, c9, h9, _⟩ := ((Dg.lasts _) _ _ _ hr' hX); subst h9; exact exec_lenv Tryd.underlying51 _ (by rfl) A9 _ c9 (by rfl) _ rfl X) ?_
    simp only [Act.put, List.setIfInBounds_toArray, List.set_cons_succ, List.set_cons_zero]
    refine lx_val (by rfl) (.bool true) (fun X hX hF => exec_eqi _ _ _ _ (by rfl) .i64 ((ld y0).length : Int) 0 (by rfl) (by rfl) true (decide_eq_true (by omega)) X) ?_
    simp only [Act.put, List.setIfInBounds_toArray, List.set_cons_succ, List.set_cons_zero]
    refine lx_nil ?_
    intro X1 hX1 hF
    have hr := (Dg.lasts _) _ _ _ hr hX1
    have hr' := (Dg.lasts _) _ _ _ hr' hX1
    have hb : Below w.heap.size w X1 := hX1
    clear hF hX1
    go_upto_region 2 with (fail)
    refine lx_plain [] (lasts_nil) ?_
    simp only [its, Nat.zero_add, Nat.reduceAdd]
    refine lx_val (by rfl) (v) (fun X hX hF => by rfl) ?_
    simp only [Act.put, List.setIfInBounds_toArray, List.set_cons_succ, List.set_cons_zero]
    refine lx_val (by rfl) (v) (fun X hX hF => by rfl) ?_
    simp only [Act.put, List.setIfInBounds_toArray, List.set_cons_succ, List.set_cons_zero]
    refine lx_nil ?_
    intro X2 hX2 hF
    have hr := (Dg.lasts _) _ _ _ hr hX2
    have hr' := (Dg.lasts _) _ _ _ hr' hX2
    have hb := bel_next hb hX2
    clear hF hX2
    go_wp2
    go_ret
    exact ⟨_, rfl, hr, hb⟩
  · have l0 := ld_pos h0
    have hm := Nat.mod_lt x0 h0
    have l2 := ld_le (Nat.le_of_lt hm)
    have HG : Hid (Nat.gcd x0 y0 = Nat.gcd y0 (x0 % y0)) := by
      show _ = _
      rw [Nat.gcd_comm, Nat.gcd_rec, Nat.gcd_comm]
    have hc := hc
    rw [HG.out]
    have ih := ih.out
    go_enter Tryd.func44, Tryd.ntmps44
    go_upto_region 1 with (fail)
    refine lx_plain [] (lasts_nil) ?_
    simp only [its, Nat.zero_add, Nat.reduceAdd]
    refine lx_val (by rfl) (v') (fun X hX hF => by rfl) ?_
    simp only [Act.put, List.setIfInBounds_toArray, List.set_cons_succ, List.set_cons_zero]
    refine lx_val (by rfl) (.int .i64 ((ld y0).length : Int)) (fun X hX hF => by obtain ⟨A9, c9, h9, _⟩ := ((Dg.lasts _) _ _ _ hr' hX); subst h9; exact exec_lenv Tryd.underlying51 _ (by rfl) A9 _ c9 (by rfl) _ rfl X) ?_
    simp only [Act.put, List.setIfInBounds_toArray, List.set_cons_succ, List.set_cons_zero]
    refine lx_val (by rfl) (.bool false) (fun X hX hF => exec_eqi _ _ _ _ (by rfl) .i64 ((ld y0).length : Int) 0 (by rfl) (by rfl) false (decide_eq_false (by omega)) X) ?_
    simp only [Act.put, List.setIfInBounds_toArray, List.set_cons_succ, List.set_cons_zero]
    refine lx_nil ?_
    intro X1 hX1 hF
    have hr := (Dg.lasts _) _ _ _ hr hX1
    have hr' := (Dg.lasts _) _ _ _ hr' hX1
    have hc := (Below.cell hX1 (p := ⟨g, 0, none⟩) hg).trans hc
    have hg := Nat.lt_of_lt_of_le hg (hX1).size
    have hb : Below w.heap.size w X1 := hX1
    clear hF hX1
    go_upto_region 3 with (fail)
    refine lx_plain_to 3 [none, none, some (Pr (x0 / y0) (x0 % y0))] (lasts_none (lasts_none (lasts_some (Pr.lasts _ _) (lasts_nil)))) ?_
    simp only [its, List.take, List.drop, Nat.zero_add, Nat.reduceAdd]
    refine lx_val (by rfl) (v) (fun X hX hF => by rfl) ?_
    simp only [Act.put, List.setIfInBounds_toArray, List.set_cons_succ, List.set_cons_zero]
    refine lx_val (by rfl) (v') (fun X hX hF => by rfl) ?_
    simp only [Act.put, List.setIfInBounds_toArray, List.set_cons_succ, List.set_cons_zero]
    refine lx_make (by rfl) 38 _ _ (by rfl) [v, v'] (by rfl) (fun _ => by go_simp) (fun X hX hF => byP v v' _ _ X ((Dg.lasts _) _ _ _ hr hX) ((Dg.lasts _) _ _ _ hr' hX) (by omega) (by omega) (by omega)) ?_
    intro v15
    simp only [Act.put, List.setIfInBounds_toArray, List.set_cons_succ, List.set_cons_zero]
    refine lx_nil ?_
    intro X2 hX2 hF
    have hr := (Dg.lasts _) _ _ _ hr hX2
    have hr' := (Dg.lasts _) _ _ _ hr' hX2
    have hv15 := hF _ _ List.mem_cons_self
    have hc := (Below.cell hX2 (p := ⟨g, 0, none⟩) hg).trans hc
    have hg := Nat.lt_of_lt_of_le hg (hX2).size
    have hb := bel_next hb hX2
    clear hF hX2
    obtain ⟨q0, r0, rfl, hq, hr0⟩ := hv15
    go_upto_region 4 with (fail)
    refine lx_plain [none, none, none, some (Lm (Nat.gcd y0 (x0 % y0)))] (lasts_none (lasts_none (lasts_none (lasts_some (Dg.lasts _) (lasts_nil))))) ?_
    simp only [its, Nat.zero_add, Nat.reduceAdd]
    refine lx_val (by rfl) ((.func (.func 44) #[] #[.pointer (some ⟨g, 0, none⟩)])) (fun X hX hF => exec_ld 62 _ (by rfl) g 0 (by rfl) _ X ((Below.cell hX (p := ⟨g, 0, none⟩) hg).trans hc) (fun X u h => load_f g 0 X u h)) ?_
    simp only [Act.put, List.setIfInBounds_toArray, List.set_cons_succ, List.set_cons_zero]
    refine lx_val (by rfl) (v') (fun X hX hF => by rfl) ?_
    simp only [Act.put, List.setIfInBounds_toArray, List.set_cons_succ, List.set_cons_zero]
    refine lx_val (by rfl) (r0) (fun X hX hF => by rfl) ?_
    simp only [Act.put, List.setIfInBounds_toArray, List.set_cons_succ, List.set_cons_zero]
    refine lx_makef (by rfl) _ _ _ (by rfl) 44 [.pointer (some ⟨g, 0, none⟩)] (by rfl) [v', r0] (by rfl) (fun _ => by go_simp) (fun X hX hF => ih (x0 % y0) hm v' r0 y0 X ((Dg.lasts _) _ _ _ hr' hX) ((Dg.lasts _) _ _ _ hr0 hX) (by omega) (by omega) (Nat.lt_of_lt_of_le hg hX.size) ((Below.cell hX (p := ⟨g, 0, none⟩) hg).trans hc)) ?_
    intro v21
    simp only [Act.put, List.setIfInBounds_toArray, List.set_cons_succ, List.set_cons_zero]
    refine lx_val (by rfl) (v21) (fun X hX hF => by rfl) ?_
    simp only [Act.put, List.setIfInBounds_toArray, List.set_cons_succ, List.set_cons_zero]
    refine lx_nil ?_
    intro X3 hX3 hF
    have hr := (Dg.lasts _) _ _ _ hr hX3
    have hr' := (Dg.lasts _) _ _ _ hr' hX3
    have hr0 := (Dg.lasts _) _ _ _ hr0 hX3
    have hv21 := hF _ _ List.mem_cons_self
    have hc := (Below.cell hX3 (p := ⟨g, 0, none⟩) hg).trans hc
    have hg := Nat.lt_of_lt_of_le hg (hX3).size
    have hb := bel_next hb hX3
    clear hF hX3
    go_wp2
    go_ret
    exact ⟨_, rfl, hv21, hb⟩

end Go.Proofs.YtglnabciomlmmaaDoor
