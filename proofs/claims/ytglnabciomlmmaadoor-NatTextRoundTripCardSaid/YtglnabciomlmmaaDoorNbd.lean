/-
  Division of numbers; DivMod.
-/
import Derived.Test.YtglnabciomlmmaaDoorNby
import Derived.Test.YtglnabciomlmmaaDoorLxt
import Derived.OwnWalk
namespace Go.Proofs.YtglnabciomlmmaaDoor
open Go.RowKit

/-- A quotient and a remainder. -/
def Pr (x y : Nat) (q : Value) (X : World) : Prop := ∃ u v, q = .tuple #[u, v] ∧ Lm x u X ∧ Lm y v X
theorem Pr.lasts (x y : Nat) : Lasts (Pr x y) := by
  rintro q X Y ⟨u, v, h1, h2, h3⟩ hS
  exact ⟨u, v, h1, h2.bel hS, h3.bel hS⟩
theorem byP (v v' : Value) (x0 y0 : Nat) (w : World) (hr : Lm x0 v w) (hr' : Lm y0 v' w) (hx : (ld x0).length ≤ 8388608) (hy : (ld y0).length ≤ 8388608) (hy0 : 0 < y0) :
    Calls Tryd.prog 38 #[v, v'] w fun e w' => ∃ q, e = .returned q ∧ Pr (x0 / y0) (x0 % y0) q w' ∧ Since w w' := by
  rcases Nat.lt_or_ge x0 y0 with h | h
  · exact (byLt v v' x0 y0 w hr hr' hx hy h).mono fun e X' ⟨q, r, h1, h2, h3, h4⟩ => ⟨_, h1, ⟨q, r, rfl, h2, h3⟩, h4⟩
  · rcases Nat.lt_or_ge (ld y0).length 2 with h1 | h1
    · have h0 : 0 < (ld y0).length := List.length_pos_iff.2 (fun h => by rw [ld_nil] at h; omega)
      exact (byOne v v' x0 y0 w hr hr' hx hy h hy0 (by omega)).mono fun e X' ⟨q, r, h1, h2, h3, h4⟩ => ⟨_, h1, ⟨q, r, rfl, h2, h3⟩, h4⟩
    · exact (byBig v v' x0 y0 w hr hr' hx hy h hy0 h1).mono fun e X' ⟨q, r, h1, h2, h3, h4⟩ => ⟨_, h1, ⟨q, r, rfl, h2, h3⟩, h4⟩
theorem ld_pos {x : Nat} (h : 0 < x) : 0 < (ld x).length := List.length_pos_iff.2 (fun h' => by rw [ld_nil] at h'; omega)
theorem ld_none {x : Nat} (h : x = 0) : (ld x).length ≤ 0 := by subst h; exact Nat.le_refl 0

set_option maxRecDepth 100000 in
set_option maxHeartbeats 1600000 in
theorem ndivE (a b : List UInt8) (w : World) (ha : a.length ≤ 4194304) (hb0 : b.length ≤ 4194304) (h0 : val b = 0) :
    Calls Tryd.prog 11 #[.string ⟨a.toArray⟩, .string ⟨b.toArray⟩] w fun e w' => e = .returned (.tuple #[.string ⟨#[]⟩, .string ⟨#[]⟩, .int .i64 1]) ∧ Below w.heap.size w w' := by
  have la := ld_val a
  have lb := ld_val b
  have l0 := ld_none h0
  clear h0
  go_enter Tryd.func11, Tryd.ntmps11
  go_upto_region 1 with (fail)
  refine lx_plain [none, some (Lm (val a)), none, some (Lm (val b))] (lasts_none (lasts_some (Dg.lasts _) (lasts_none (lasts_some (Dg.lasts _) (lasts_nil))))) ?_
  simp only [its, Nat.zero_add, Nat.reduceAdd]
  refine lx_val (by rfl) (.string ⟨a.toArray⟩) (fun X hX hF => by rfl) ?_
  simp only [Act.put, List.setIfInBounds_toArray, List.set_cons_succ, List.set_cons_zero]
  refine lx_make (by rfl) 34 _ _ (by rfl) [.string ⟨a.toArray⟩] (by rfl) (fun _ => by go_simp) (fun X hX hF => loadC a X (by omega)) ?_
  intro v12
  simp only [Act.put, List.setIfInBounds_toArray, List.set_cons_succ, List.set_cons_zero]
  refine lx_val (by rfl) (.string ⟨b.toArray⟩) (fun X hX hF => by rfl) ?_
  simp only [Act.put, List.setIfInBounds_toArray, List.set_cons_succ, List.set_cons_zero]
  refine lx_make (by rfl) 34 _ _ (by rfl) [.string ⟨b.toArray⟩] (by rfl) (fun _ => by go_simp) (fun X hX hF => loadC b X (by omega)) ?_
  intro v14
  simp only [Act.put, List.setIfInBounds_toArray, List.set_cons_succ, List.set_cons_zero]
  refine lx_val (by rfl) (v12) (fun X hX hF => by rfl) ?_
  simp only [Act.put, List.setIfInBounds_toArray, List.set_cons_succ, List.set_cons_zero]
  refine lx_val (by rfl) (v14) (fun X hX hF => by rfl) ?_
  simp only [Act.put, List.setIfInBounds_toArray, List.set_cons_succ, List.set_cons_zero]
  refine lx_nil ?_
  intro X1 hX1 hF
  have hv12 := hF _ _ (List.mem_cons_of_mem _ List.mem_cons_self)
  have hv14 := hF _ _ List.mem_cons_self
  have hb : Below w.heap.size w X1 := hX1
  clear hF hX1
  go_upto_region 2 with (fail)
  refine lx_plain [] (lasts_nil) ?_
  simp only [its, Nat.zero_add, Nat.reduceAdd]
  refine lx_val (by rfl) (v14) (fun X hX hF => by rfl) ?_
  simp only [Act.put, List.setIfInBounds_toArray, List.set_cons_succ, List.set_cons_zero]
  refine lx_val (by rfl) (.int .i64 ((ld (val b)).length : Int)) (fun X hX hF => by obtain ⟨A9, c9, h9, _⟩ := ((Dg.lasts _) _ _ _ hv14 hX); subst h9; exact exec_lenv Tryd.underlying51 _ (by rfl) A9 _ c9 (by rfl) _ rfl X) ?_
  simp only [Act.put, List.setIfInBounds_toArray, List.set_cons_succ, List.set_cons_zero]
  refine lx_val (by rfl) (.bool true) (fun X hX hF => exec_eqi _ _ _ _ (by rfl) .i64 ((ld (val b)).length : Int) 0 (by rfl) (by rfl) true (decide_eq_true (by omega)) X) ?_
  simp only [Act.put, List.setIfInBounds_toArray, List.set_cons_succ, List.set_cons_zero]
  refine lx_nil ?_
  intro X2 hX2 hF
  have hv12 := (Dg.lasts _) _ _ _ hv12 hX2
  have hv14 := (Dg.lasts _) _ _ _ hv14 hX2
  have hb := bel_next hb hX2
  clear hF hX2
  go_wp2
  go_ret3
  exact ⟨rfl, hb⟩

set_option maxRecDepth 100000 in
set_option maxHeartbeats 1600000 in
theorem ndivC (a b : List UInt8) (w : World) (ha : a.length ≤ 4194304) (hb0 : b.length ≤ 4194304) (h0 : 0 < val b) :
    Calls Tryd.prog 11 #[.string ⟨a.toArray⟩, .string ⟨b.toArray⟩] w fun e w' => e = .returned (.tuple #[.string ⟨(be (val a / val b)).toArray⟩, .string ⟨(be (val a % val b)).toArray⟩, .int .i64 0]) ∧ Below w.heap.size w w' := by
  have la := ld_val a
  have lb := ld_val b
  have l0 := ld_pos h0
  have l1 := ld_le (Nat.div_le_self (val a) (val b))
  have l2 := ld_le (Nat.mod_le (val a) (val b))
  go_enter Tryd.func11, Tryd.ntmps11
  go_upto_region 1 with (fail)
  refine lx_plain [none, some (Lm (val a)), none, some (Lm (val b))] (lasts_none (lasts_some (Dg.lasts _) (lasts_none (lasts_some (Dg.lasts _) (lasts_nil))))) ?_
  simp only [its, Nat.zero_add, Nat.reduceAdd]
  refine lx_val (by rfl) (.string ⟨a.toArray⟩) (fun X hX hF => by rfl) ?_
  simp only [Act.put, List.setIfInBounds_toArray, List.set_cons_succ, List.set_cons_zero]
  refine lx_make (by rfl) 34 _ _ (by rfl) [.string ⟨a.toArray⟩] (by rfl) (fun _ => by go_simp) (fun X hX hF => loadC a X (by omega)) ?_
  intro v12
  simp only [Act.put, List.setIfInBounds_toArray, List.set_cons_succ, List.set_cons_zero]
  refine lx_val (by rfl) (.string ⟨b.toArray⟩) (fun X hX hF => by rfl) ?_
  simp only [Act.put, List.setIfInBounds_toArray, List.set_cons_succ, List.set_cons_zero]
  refine lx_make (by rfl) 34 _ _ (by rfl) [.string ⟨b.toArray⟩] (by rfl) (fun _ => by go_simp) (fun X hX hF => loadC b X (by omega)) ?_
  intro v14
  simp only [Act.put, List.setIfInBounds_toArray, List.set_cons_succ, List.set_cons_zero]
  refine lx_val (by rfl) (v12) (fun X hX hF => by rfl) ?_
  simp only [Act.put, List.setIfInBounds_toArray, List.set_cons_succ, List.set_cons_zero]
  refine lx_val (by rfl) (v14) (fun X hX hF => by rfl) ?_
  simp only [Act.put, List.setIfInBounds_toArray, List.set_cons_succ, List.set_cons_zero]
  refine lx_nil ?_
  intro X1 hX1 hF
  have hv12 := hF _ _ (List.mem_cons_of_mem _ List.mem_cons_self)
  have hv14 := hF _ _ List.mem_cons_self
  have hb : Below w.heap.size w X1 := hX1
  clear hF hX1
  go_upto_region 2 with (fail)
  refine lx_plain [] (lasts_nil) ?_
  simp only [its, Nat.zero_add, Nat.reduceAdd]
  refine lx_val (by rfl) (v14) (fun X hX hF => by rfl) ?_
  simp only [Act.put, List.setIfInBounds_toArray, List.set_cons_succ, List.set_cons_zero]
  refine lx_val (by rfl) (.int .i64 ((ld (val b)).length : Int)) (fun X hX hF => by obtain ⟨A9, c9, h9, _⟩ := ((Dg.lasts _) _ _ _ hv14 hX); subst h9; exact exec_lenv Tryd.underlying51 _ (by rfl) A9 _ c9 (by rfl) _ rfl X) ?_
  simp only [Act.put, List.setIfInBounds_toArray, List.set_cons_succ, List.set_cons_zero]
  refine lx_val (by rfl) (.bool false) (fun X hX hF => exec_eqi _ _ _ _ (by rfl) .i64 ((ld (val b)).length : Int) 0 (by rfl) (by rfl) false (decide_eq_false (by omega)) X) ?_
  simp only [Act.put, List.setIfInBounds_toArray, List.set_cons_succ, List.set_cons_zero]
  refine lx_nil ?_
  intro X2 hX2 hF
  have hv12 := (Dg.lasts _) _ _ _ hv12 hX2
  have hv14 := (Dg.lasts _) _ _ _ hv14 hX2
  have hb := bel_next hb hX2
  clear hF hX2
  go_upto_region 4 with (fail)
  refine lx_plain_to 3 [none, none, some (Pr ((val a) / (val b)) ((val a) % (val b)))] (lasts_none (lasts_none (lasts_some (Pr.lasts _ _) (lasts_nil)))) ?_
  simp only [its, List.take, List.drop, Nat.zero_add, Nat.reduceAdd]
  refine lx_val (by rfl) (v12) (fun X hX hF => by rfl) ?_
  simp only [Act.put, List.setIfInBounds_toArray, List.set_cons_succ, List.set_cons_zero]
  refine lx_val (by rfl) (v14) (fun X hX hF => by rfl) ?_
  simp only [Act.put, List.setIfInBounds_toArray, List.set_cons_succ, List.set_cons_zero]
  refine lx_make (by rfl) 38 _ _ (by rfl) [v12, v14] (by rfl) (fun _ => by go_simp) (fun X hX hF => byP v12 v14 _ _ X ((Dg.lasts _) _ _ _ hv12 hX) ((Dg.lasts _) _ _ _ hv14 hX) (by omega) (by omega) (by omega)) ?_
  intro v21
  simp only [Act.put, List.setIfInBounds_toArray, List.set_cons_succ, List.set_cons_zero]
  refine lx_nil ?_
  intro X3 hX3 hF
  have hv12 := (Dg.lasts _) _ _ _ hv12 hX3
  have hv14 := (Dg.lasts _) _ _ _ hv14 hX3
  have hv21 := hF _ _ List.mem_cons_self
  have hb := bel_next hb hX3
  clear hF hX3
  obtain ⟨q0, r0, rfl, hq, hr⟩ := hv21
  go_upto_region 5 with (fail)
  refine lx_plain [] (lasts_nil) ?_
  simp only [its, Nat.zero_add, Nat.reduceAdd]
  refine lx_val (by rfl) (q0) (fun X hX hF => by rfl) ?_
  simp only [Act.put, List.setIfInBounds_toArray, List.set_cons_succ, List.set_cons_zero]
  refine lx_call (by rfl) 37 _ _ (by rfl) (.string ⟨(be (val a / val b)).toArray⟩) [q0] (by rfl) (by kernel_rfl) (fun _ => by go_simp) (fun X hX hF => textL q0 _ X ((Dg.lasts _) _ _ _ hq hX) (by omega)) ?_
  simp only [Act.put, List.setIfInBounds_toArray, List.set_cons_succ, List.set_cons_zero]
  refine lx_val (by rfl) (r0) (fun X hX hF => by rfl) ?_
  simp only [Act.put, List.setIfInBounds_toArray, List.set_cons_succ, List.set_cons_zero]
  refine lx_call (by rfl) 37 _ _ (by rfl) (.string ⟨(be (val a % val b)).toArray⟩) [r0] (by rfl) (by kernel_rfl) (fun _ => by go_simp) (fun X hX hF => textL r0 _ X ((Dg.lasts _) _ _ _ hr hX) (by omega)) ?_
  simp only [Act.put, List.setIfInBounds_toArray, List.set_cons_succ, List.set_cons_zero]
  refine lx_val (by rfl) (.string ⟨(be (val a / val b)).toArray⟩) (fun X hX hF => by rfl) ?_
  simp only [Act.put, List.setIfInBounds_toArray, List.set_cons_succ, List.set_cons_zero]
  refine lx_val (by rfl) (.string ⟨(be (val a % val b)).toArray⟩) (fun X hX hF => by rfl) ?_
  simp only [Act.put, List.setIfInBounds_toArray, List.set_cons_succ, List.set_cons_zero]
  refine lx_val (by rfl) (.int .i64 0) (fun X hX hF => by rfl) ?_
  simp only [Act.put, List.setIfInBounds_toArray, List.set_cons_succ, List.set_cons_zero]
  refine lx_nil ?_
  intro X4 hX4 hF
  have hv12 := (Dg.lasts _) _ _ _ hv12 hX4
  have hv14 := (Dg.lasts _) _ _ _ hv14 hX4
  have hq := (Dg.lasts _) _ _ _ hq hX4
  have hr := (Dg.lasts _) _ _ _ hr hX4
  have hb := bel_next hb hX4
  clear hF hX4
  go_wp2
  go_ret3
  exact ⟨rfl, hb⟩

set_option maxRecDepth 100000 in
set_option maxHeartbeats 1600000 in
theorem nintE (n : Int) (w : World) (hn : n < 0) : Calls Tryd.prog 26 #[.int .i64 n] w fun e w' => e = .returned (.tuple #[.string ⟨#[]⟩, .int .i64 3]) ∧ Below w.heap.size w w' := by
  go_enter Tryd.func26, Tryd.ntmps26
  go_wp2
  go_ret2
  exact ⟨rfl, Below.refl _ _⟩

set_option maxRecDepth 100000 in
set_option maxHeartbeats 1600000 in
theorem nintC (n : Nat) (w : World) (hn : n < 9223372036854775808) : Calls Tryd.prog 26 #[.int .i64 (n : Int)] w fun e w' => e = .returned (.tuple #[.string ⟨(be n).toArray⟩, .int .i64 0]) ∧ Below w.heap.size w w' := by
  have hlw : lw [UInt32.ofNat (n % 4294967296), UInt32.ofNat (n / 4294967296)] = n := by
    rw [lw_cons, lw_one, u32n, u32n]
    omega
  have hl2 : (ld (lw [UInt32.ofNat (n % 4294967296), UInt32.ofNat (n / 4294967296)])).length ≤ 2 := by
    rw [hlw]
    exact ld_len (by omega)
  have HLW := Lib.hid hlw
  clear hlw
  go_enter Tryd.func26, Tryd.ntmps26
  go_upto_region 3 with (fail)
  refine lx_plain [none, none, none, none, none, some (Dg [UInt32.ofNat (n % 4294967296), UInt32.ofNat (n / 4294967296)]), some (Lm (lw [UInt32.ofNat (n % 4294967296), UInt32.ofNat (n / 4294967296)]))] (lasts_none (lasts_none (lasts_none (lasts_none (lasts_none (lasts_some (Dg.lasts _) (lasts_some (Dg.lasts _) (lasts_nil)))))))) ?_
  simp only [its, Nat.zero_add, Nat.reduceAdd]
  refine lx_val (by rfl) (.int .i64 (n : Int)) (fun X hX hF => by rfl) ?_
  simp only [Act.put, List.setIfInBounds_toArray, List.set_cons_succ, List.set_cons_zero]
  refine lx_val (by rfl) (.int .u32 ((n % 4294967296 : Nat) : Int)) (fun X hX hF => exec_cnv _ _ .i64 .u32 Tryd.underlying3 Tryd.underlying63 _ (by rfl) (n : Int) ((n % 4294967296 : Nat) : Int) (by rfl) (by rw [IntKind.wrap_u32]; omega) X) ?_
  simp only [Act.put, List.setIfInBounds_toArray, List.set_cons_succ, List.set_cons_zero]
  refine lx_val (by rfl) (.int .i64 (n : Int)) (fun X hX hF => by rfl) ?_
  simp only [Act.put, List.setIfInBounds_toArray, List.set_cons_succ, List.set_cons_zero]
  refine lx_val (by rfl) (.int .i64 ((n / 4294967296 : Nat) : Int)) (fun X hX hF => exec_shr _ _ _ _ (by rfl) .i64 .u64 (n : Int) ((n / 4294967296 : Nat) : Int) 32 (by rfl) (by rfl) rfl (by decide) (by omega) X) ?_
  simp only [Act.put, List.setIfInBounds_toArray, List.set_cons_succ, List.set_cons_zero]
  refine lx_val (by rfl) (.int .u32 ((n / 4294967296 : Nat) : Int)) (fun X hX hF => exec_cnv _ _ .i64 .u32 Tryd.underlying3 Tryd.underlying63 _ (by rfl) ((n / 4294967296 : Nat) : Int) ((n / 4294967296 : Nat) : Int) (by rfl) (by rw [w32 (by omega) (by omega)]) X) ?_
  simp only [Act.put, List.setIfInBounds_toArray, List.set_cons_succ, List.set_cons_zero]
  refine lx_new (by rfl) (fun X hX hF => ⟨_, _, exec_bs2 _ _ (by rfl) _ _ (by rfl) (by rfl) X, Dg.new2 X _ _ (UInt32.ofNat (n % 4294967296)) (UInt32.ofNat (n / 4294967296)) (by rw [u32n]; omega) (by rw [u32n]; omega), since_alloc X _⟩) ?_
  intro v11
  simp only [Act.put, List.setIfInBounds_toArray, List.set_cons_succ, List.set_cons_zero]
  refine lx_make (by rfl) 45 _ _ (by rfl) [v11] (by rfl) (fun _ => by go_simp) (fun X hX hF => trimD _ v11 X (hF _ _ List.mem_cons_self rfl) (by first | omega | (simp only [List.length_cons, List.length_nil]; omega))) ?_
  intro v12
  simp only [Act.put, List.setIfInBounds_toArray, List.set_cons_succ, List.set_cons_zero]
  refine lx_call (by rfl) 37 _ _ (by rfl) (.string ⟨(be (lw [UInt32.ofNat (n % 4294967296), UInt32.ofNat (n / 4294967296)])).toArray⟩) [v12] (by rfl) (by kernel_rfl) (fun _ => by go_simp) (fun X hX hF => textL v12 _ X (hF _ _ List.mem_cons_self rfl) (by omega)) ?_
  simp only [Act.put, List.setIfInBounds_toArray, List.set_cons_succ, List.set_cons_zero]
  refine lx_val (by rfl) (.string ⟨(be (lw [UInt32.ofNat (n % 4294967296), UInt32.ofNat (n / 4294967296)])).toArray⟩) (fun X hX hF => by rfl) ?_
  simp only [Act.put, List.setIfInBounds_toArray, List.set_cons_succ, List.set_cons_zero]
  refine lx_val (by rfl) (.int .i64 0) (fun X hX hF => by rfl) ?_
  simp only [Act.put, List.setIfInBounds_toArray, List.set_cons_succ, List.set_cons_zero]
  refine lx_nil ?_
  intro X1 hX1 hF
  have hv11 := hF _ _ (List.mem_cons_of_mem _ List.mem_cons_self)
  have hv12 := hF _ _ List.mem_cons_self
  have hb : Below w.heap.size w X1 := hX1
  clear hF hX1
  rw [HLW.out]
  go_wp2
  go_ret2
  exact ⟨rfl, hb⟩

end Go.Proofs.YtglnabciomlmmaaDoor
